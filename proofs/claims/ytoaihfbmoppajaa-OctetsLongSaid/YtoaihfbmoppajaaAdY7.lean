/- A law's tree. -/
import Derived.Test.YtoaihfbmoppajaaAdYt
set_option maxRecDepth 100000
namespace Go.Proofs.Av
open Go
def q7_0 := ByteArray.toList (ByteArray.mk (Array.mk []))
def q7_1 (n918 : Int) := Int.toNat (IntKind.wrap IntKind.i64 (Int.add n918 1))
def q7_2 (n945 : Int) := Int.toNat (IntKind.wrap IntKind.i64 (Int.add n945 1))
def q7_3 (s912 : ByteArray) (n918 : Int) := ByteArray.extract s912 (q7_1 n918) (ByteArray.size s912)
def q7_4 (s939 : ByteArray) (n945 : Int) := ByteArray.extract s939 (q7_2 n945) (ByteArray.size s939)
def q7_5 (s912 : ByteArray) (n918 : Int) (c880 : Int) := ByteArray.append (ByteArray.extract s912 0 (Int.toNat n918)) (Go.strOfNums [c880])
def q7_6 (s912 : ByteArray) (n918 : Int) (c880 : Int) := ByteArray.append (q7_5 s912 n918 c880) (q7_3 s912 n918)
def q7_7 (s939 : ByteArray) (n945 : Int) (c880 : Int) := ByteArray.append (ByteArray.extract s939 0 (Int.toNat n945)) (Go.strOfNums [c880])
def q7_8 (s939 : ByteArray) (n945 : Int) (c880 : Int) := ByteArray.append (q7_7 s939 n945 c880) (q7_4 s939 n945)
def q7_9 (s875 : ByteArray) := if 200 < ((ByteArray.size s875) : Int) then 200 else ((ByteArray.size s875) : Int)
def q7_10 (s875 : ByteArray) := ByteArray.extract s875 0 (Int.toNat (q7_9 s875))
def q7_11 (n886 : Int) (s875 : ByteArray) := if n886 < ((ByteArray.size (q7_10 s875)) : Int) then n886 else ((ByteArray.size (q7_10 s875)) : Int)
def q7_12 (s875 : ByteArray) (n886 : Int) := ByteArray.extract (q7_10 s875) 0 (Int.toNat (q7_11 n886 s875))
theorem f7 : ∀ (s875 : ByteArray) (raw876 : List (List AV)) (fixed877 many878 at879 c880 : Int), E cx (Key.fn 7) [vs s875, AV.list 0 1 raw876, vi fixed877, vi many878, vi at879, vb c880] [] = if 0 ≤ if 200 < ((ByteArray.size s875) : Int) then
 200 else ((ByteArray.size s875) : Int) then
 if (q7_9 s875) ≤ ((ByteArray.size s875) : Int) then
 Option.bind (E cx (Key.fn 14) [AV.list 0 1 raw876] []) fun r881 ↦
 Option.bind (ret1 r881) fun v882 ↦
 Option.bind (AV.list? 1 v882) fun es883 ↦
 Option.bind (E cx (Key.fn 15) [vi fixed877, vi 30] []) fun r884 ↦
 Option.bind (ret1 r884) fun v885 ↦
 Option.bind (AV.int? IntKind.i64 v885) fun n886 ↦
 Option.bind (E cx (Key.fn 15) [vi many878, vi 9] []) fun r887 ↦
 Option.bind (ret1 r887) fun v888 ↦
 Option.bind (AV.int? IntKind.i64 v888) fun n889 ↦
 Option.bind (E cx (Key.fn 22) [vs (q7_10 s875), vi n886, vi n889] []) fun r890 ↦
 Option.bind (ret1 r890) fun v891 ↦
 Option.bind (AV.tup? v891) fun vs892 ↦
 Option.bind (uncons? vs892) fun p893 ↦
 Option.bind (AV.str? p893.fst) fun s894 ↦
 Option.bind (uncons? p893.snd) fun p895 ↦
 Option.bind (AV.list? 1 p895.fst) fun es896 ↦
 Option.bind (uncons? p895.snd) fun p897 ↦
 Option.bind (AV.int? IntKind.i64 p897.fst) fun n898 ↦
 Option.bind (nil? p897.snd) fun _ ↦
 bif decide (n898 = 0) then
 Option.bind (E cx (Key.fn 20) [vs s894, AV.list 0 1 es896] []) fun r900 ↦
 Option.bind (ret1 r900) fun v901 ↦
 Option.bind (AV.tup? v901) fun vs902 ↦
 Option.bind (uncons? vs902) fun p903 ↦
 Option.bind (AV.str? p903.fst) fun s904 ↦
 Option.bind (uncons? p903.snd) fun p905 ↦
 Option.bind (AV.int? IntKind.i64 p905.fst) fun n906 ↦
 Option.bind (nil? p905.snd) fun _ ↦
 bif n906 != 0 then
 some (Out.ret (vbool false), []) else
 bif !List.beq (ByteArray.toList s904) (ByteArray.toList (q7_10 s875)) then
 some (Out.ret (vbool false), []) else
 bif ((ByteArray.size s894) : Int) != n886 then
 some (Out.ret (vbool false), []) else
 bif ((List.length es896) : Int) != n889 then
 some (Out.ret (vbool false), []) else
 if 0 ≤ if n886 < ((ByteArray.size (q7_10 s875)) : Int) then
 n886 else ((ByteArray.size (q7_10 s875)) : Int) then
 if (q7_11 n886 s875) ≤ ((ByteArray.size (q7_10 s875)) : Int) then
 Option.bind (E cx (Key.fn 20) [vs (q7_12 s875 n886), AV.list 0 1 es883] []) fun r908 ↦
 Option.bind (ret1 r908) fun v909 ↦
 Option.bind (AV.tup? v909) fun vs910 ↦
 Option.bind (uncons? vs910) fun p911 ↦
 Option.bind (AV.str? p911.fst) fun s912 ↦
 Option.bind (uncons? p911.snd) fun p913 ↦
 Option.bind (AV.int? IntKind.i64 p913.fst) fun n914 ↦
 Option.bind (nil? p913.snd) fun _ ↦
 bif n914 != 0 then
 some (Out.ret (vbool false), []) else
 bif decide (((ByteArray.size s912) : Int) = 0) then
 some (Out.ret (vbool true), []) else Option.bind (E cx (Key.fn 15) [vi at879, vi ((ByteArray.size s912) : Int)] []) fun r916 ↦
 Option.bind (ret1 r916) fun v917 ↦
 Option.bind (AV.int? IntKind.i64 v917) fun n918 ↦
 if 0 ≤ n918 then
 if n918 ≤ ((ByteArray.size s912) : Int) then
 if ((Nat.add (ByteArray.size (ByteArray.extract s912 0 (Int.toNat n918))) (ByteArray.size (Go.strOfNums [c880]))) : Int) > 9223372036854775807 then
 none else
 if 0 ≤ IntKind.wrap IntKind.i64 (Int.add n918 1) then
 if IntKind.wrap IntKind.i64 (Int.add n918 1) ≤ ((ByteArray.size s912) : Int) then
 if ((Nat.add (ByteArray.size (q7_5 s912 n918 c880)) (ByteArray.size (q7_3 s912 n918))) : Int) > 9223372036854775807 then
 none else Option.bind (E cx (Key.fn 22) [vs (q7_6 s912 n918 c880), vi (q7_11 n886 s875), vi ((List.length es883) : Int)] []) fun r919 ↦
 Option.bind (ret1 r919) fun v920 ↦
 Option.bind (AV.tup? v920) fun vs921 ↦
 Option.bind (uncons? vs921) fun p922 ↦
 Option.bind (AV.str? p922.fst) fun s923 ↦
 Option.bind (uncons? p922.snd) fun p924 ↦
 Option.bind (AV.list? 1 p924.fst) fun es925 ↦
 Option.bind (uncons? p924.snd) fun p926 ↦
 Option.bind (AV.int? IntKind.i64 p926.fst) fun n927 ↦
 Option.bind (nil? p926.snd) fun _ ↦
 bif n927 != 0 then
 bif !List.beq (ByteArray.toList (q7_6 s912 n918 c880)) (ByteArray.toList s912) then
 bif List.beq (ByteArray.toList s923) (q7_0) then
 bif decide (((List.length es925) : Int) = 0) then
 some (Out.ret (vbool true), []) else some (Out.ret (vbool false), []) else some (Out.ret (vbool false), []) else some (Out.ret (vbool false), []) else
 bif List.beq (ByteArray.toList (q7_6 s912 n918 c880)) (ByteArray.toList s912) then
 if 0 ≤ if n886 < ((ByteArray.size (q7_10 s875)) : Int) then
 n886 else ((ByteArray.size (q7_10 s875)) : Int) then
 if (q7_11 n886 s875) ≤ ((ByteArray.size (q7_10 s875)) : Int) then
 bif List.beq (ByteArray.toList s923) (ByteArray.toList (q7_12 s875 n886)) then
 Option.bind (E cx (Key.fn 24) [AV.list 0 1 es925, AV.list 0 1 es883] []) fun r929 ↦
 Option.bind (ret1 r929) fun v930 ↦
 Option.bind (AV.bool? v930) fun b931 ↦
 bif b931 then
 some (Out.ret (vbool true), []) else some (Out.ret (vbool false), []) else some (Out.ret (vbool false), []) else none else none else
 if 0 ≤ if n886 < ((ByteArray.size (q7_10 s875)) : Int) then
 n886 else ((ByteArray.size (q7_10 s875)) : Int) then
 if (q7_11 n886 s875) ≤ ((ByteArray.size (q7_10 s875)) : Int) then
 bif List.beq (ByteArray.toList s923) (ByteArray.toList (q7_12 s875 n886)) then
 Option.bind (E cx (Key.fn 24) [AV.list 0 1 es925, AV.list 0 1 es883] []) fun r932 ↦
 Option.bind (ret1 r932) fun v933 ↦
 Option.bind (AV.bool? v933) fun b934 ↦
 bif b934 then
 some (Out.ret (vbool false), []) else some (Out.ret (vbool true), []) else some (Out.ret (vbool true), []) else none else none else none else none else none else none else none else none else
 if 0 ≤ if n886 < ((ByteArray.size (q7_10 s875)) : Int) then
 n886 else ((ByteArray.size (q7_10 s875)) : Int) then
 if (q7_11 n886 s875) ≤ ((ByteArray.size (q7_10 s875)) : Int) then
 Option.bind (E cx (Key.fn 20) [vs (q7_12 s875 n886), AV.list 0 1 es883] []) fun r935 ↦
 Option.bind (ret1 r935) fun v936 ↦
 Option.bind (AV.tup? v936) fun vs937 ↦
 Option.bind (uncons? vs937) fun p938 ↦
 Option.bind (AV.str? p938.fst) fun s939 ↦
 Option.bind (uncons? p938.snd) fun p940 ↦
 Option.bind (AV.int? IntKind.i64 p940.fst) fun n941 ↦
 Option.bind (nil? p940.snd) fun _ ↦
 bif n941 != 0 then
 some (Out.ret (vbool false), []) else
 bif decide (((ByteArray.size s939) : Int) = 0) then
 some (Out.ret (vbool true), []) else Option.bind (E cx (Key.fn 15) [vi at879, vi ((ByteArray.size s939) : Int)] []) fun r943 ↦
 Option.bind (ret1 r943) fun v944 ↦
 Option.bind (AV.int? IntKind.i64 v944) fun n945 ↦
 if 0 ≤ n945 then
 if n945 ≤ ((ByteArray.size s939) : Int) then
 if ((Nat.add (ByteArray.size (ByteArray.extract s939 0 (Int.toNat n945))) (ByteArray.size (Go.strOfNums [c880]))) : Int) > 9223372036854775807 then
 none else
 if 0 ≤ IntKind.wrap IntKind.i64 (Int.add n945 1) then
 if IntKind.wrap IntKind.i64 (Int.add n945 1) ≤ ((ByteArray.size s939) : Int) then
 if ((Nat.add (ByteArray.size (q7_7 s939 n945 c880)) (ByteArray.size (q7_4 s939 n945))) : Int) > 9223372036854775807 then
 none else Option.bind (E cx (Key.fn 22) [vs (q7_8 s939 n945 c880), vi (q7_11 n886 s875), vi ((List.length es883) : Int)] []) fun r946 ↦
 Option.bind (ret1 r946) fun v947 ↦
 Option.bind (AV.tup? v947) fun vs948 ↦
 Option.bind (uncons? vs948) fun p949 ↦
 Option.bind (AV.str? p949.fst) fun s950 ↦
 Option.bind (uncons? p949.snd) fun p951 ↦
 Option.bind (AV.list? 1 p951.fst) fun es952 ↦
 Option.bind (uncons? p951.snd) fun p953 ↦
 Option.bind (AV.int? IntKind.i64 p953.fst) fun n954 ↦
 Option.bind (nil? p953.snd) fun _ ↦
 bif n954 != 0 then
 bif !List.beq (ByteArray.toList (q7_8 s939 n945 c880)) (ByteArray.toList s939) then
 bif List.beq (ByteArray.toList s950) (q7_0) then
 bif decide (((List.length es952) : Int) = 0) then
 some (Out.ret (vbool true), []) else some (Out.ret (vbool false), []) else some (Out.ret (vbool false), []) else some (Out.ret (vbool false), []) else
 bif List.beq (ByteArray.toList (q7_8 s939 n945 c880)) (ByteArray.toList s939) then
 if 0 ≤ if n886 < ((ByteArray.size (q7_10 s875)) : Int) then
 n886 else ((ByteArray.size (q7_10 s875)) : Int) then
 if (q7_11 n886 s875) ≤ ((ByteArray.size (q7_10 s875)) : Int) then
 bif List.beq (ByteArray.toList s950) (ByteArray.toList (q7_12 s875 n886)) then
 Option.bind (E cx (Key.fn 24) [AV.list 0 1 es952, AV.list 0 1 es883] []) fun r956 ↦
 Option.bind (ret1 r956) fun v957 ↦
 Option.bind (AV.bool? v957) fun b958 ↦
 bif b958 then
 some (Out.ret (vbool true), []) else some (Out.ret (vbool false), []) else some (Out.ret (vbool false), []) else none else none else
 if 0 ≤ if n886 < ((ByteArray.size (q7_10 s875)) : Int) then
 n886 else ((ByteArray.size (q7_10 s875)) : Int) then
 if (q7_11 n886 s875) ≤ ((ByteArray.size (q7_10 s875)) : Int) then
 bif List.beq (ByteArray.toList s950) (ByteArray.toList (q7_12 s875 n886)) then
 Option.bind (E cx (Key.fn 24) [AV.list 0 1 es952, AV.list 0 1 es883] []) fun r959 ↦
 Option.bind (ret1 r959) fun v960 ↦
 Option.bind (AV.bool? v960) fun b961 ↦
 bif b961 then
 some (Out.ret (vbool false), []) else some (Out.ret (vbool true), []) else some (Out.ret (vbool true), []) else none else none else none else none else none else none else none else none else none else none := by
  intros
  exact (E_ov f13_true [52] _ _ _).trans (by kernel_rfl)

end Go.Proofs.Av
