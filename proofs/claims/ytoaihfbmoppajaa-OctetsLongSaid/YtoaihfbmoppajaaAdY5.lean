/- A law's tree. -/
import Derived.Test.YtoaihfbmoppajaaAdYt
set_option maxRecDepth 100000
namespace Go.Proofs.Av
open Go
def q5_0 (n800 : Int) := Int.mul 8 (IntKind.wrap IntKind.i64 (Int.add 1 n800))
def q5_1 (n800 : Int) := Int.sub 64 (IntKind.wrap IntKind.i64 (q5_0 n800))
def q5_2 (s797 : ByteArray) := if 20 < ((ByteArray.size s797) : Int) then 20 else ((ByteArray.size s797) : Int)
def q5_3 (s797 : ByteArray) := ByteArray.extract s797 0 (Int.toNat (q5_2 s797))
theorem f5 : ∀ (w795 n796 : Int) (s797 : ByteArray), E cx (Key.fn 5) [vu w795, vi n796, vs s797] [] = Option.bind (E cx (Key.fn 15) [vi n796, vi 8] []) fun r798 ↦
 Option.bind (ret1 r798) fun v799 ↦
 Option.bind (AV.int? IntKind.i64 v799) fun n800 ↦
 if 0 ≤ if 20 < ((ByteArray.size s797) : Int) then
 20 else ((ByteArray.size s797) : Int) then
 if (q5_2 s797) ≤ ((ByteArray.size s797) : Int) then
 Option.bind (E cx (Key.fn 18) [vu w795, vi (IntKind.wrap IntKind.i64 (Int.add 1 n800))] []) fun r801 ↦
 Option.bind (ret1 r801) fun v802 ↦
 Option.bind (AV.str? v802) fun s803 ↦
 if ((Nat.add (ByteArray.size s803) (ByteArray.size (q5_3 s797))) : Int) > 9223372036854775807 then
 none else Option.bind (E cx (Key.fn 16) [vs (ByteArray.append s803 (q5_3 s797)), vi (IntKind.wrap IntKind.i64 (Int.add 1 n800))] []) fun r804 ↦
 Option.bind (ret1 r804) fun v805 ↦
 Option.bind (AV.tup? v805) fun vs806 ↦
 Option.bind (uncons? vs806) fun p807 ↦
 Option.bind (AV.int? IntKind.u64 p807.fst) fun n808 ↦
 Option.bind (uncons? p807.snd) fun p809 ↦
 Option.bind (AV.str? p809.fst) fun s810 ↦
 Option.bind (uncons? p809.snd) fun p811 ↦
 Option.bind (AV.int? IntKind.i64 p811.fst) fun n812 ↦
 Option.bind (nil? p811.snd) fun _ ↦
 bif ((ByteArray.size s803) : Int) != IntKind.wrap IntKind.i64 (Int.add 1 n800) then
 some (Out.ret (vbool false), []) else
 bif n812 != 0 then
 some (Out.ret (vbool false), []) else
 bif !List.beq (ByteArray.toList s810) (ByteArray.toList (q5_3 s797)) then
 some (Out.ret (vbool false), []) else
 if IntKind.wrap IntKind.i64 (q5_1 n800) < 0 then
 none else
 if IntKind.wrap IntKind.i64 (q5_1 n800) < 0 then
 none else
 bif n808 != ishr IntKind.u64 (ishl IntKind.u64 w795 (IntKind.wrap IntKind.i64 (q5_1 n800))) (IntKind.wrap IntKind.i64 (q5_1 n800)) then
 some (Out.ret (vbool false), []) else Option.bind (E cx (Key.fn 16) [vs (q5_3 s797), vi (IntKind.wrap IntKind.i64 (Int.add 1 n800))] []) fun r814 ↦
 Option.bind (ret1 r814) fun v815 ↦
 Option.bind (AV.tup? v815) fun vs816 ↦
 Option.bind (uncons? vs816) fun p817 ↦
 Option.bind (AV.int? IntKind.u64 p817.fst) fun n818 ↦
 Option.bind (uncons? p817.snd) fun p819 ↦
 Option.bind (AV.str? p819.fst) fun s820 ↦
 Option.bind (uncons? p819.snd) fun p821 ↦
 Option.bind (AV.int? IntKind.i64 p821.fst) fun n822 ↦
 Option.bind (nil? p821.snd) fun _ ↦
 bif decide (((ByteArray.size (q5_3 s797)) : Int) < IntKind.wrap IntKind.i64 (Int.add 1 n800)) then
 bif decide (n822 = 3) then
 bif decide (n818 = 0) then
 bif List.beq (ByteArray.toList s820) (ByteArray.toList (ByteArray.mk (Array.mk []))) then
 some (Out.ret (vbool true), []) else some (Out.ret (vbool false), []) else some (Out.ret (vbool false), []) else some (Out.ret (vbool false), []) else
 bif decide (n822 = 0) then
 Option.bind (E cx (Key.fn 18) [vu n818, vi (IntKind.wrap IntKind.i64 (Int.add 1 n800))] []) fun r824 ↦
 Option.bind (ret1 r824) fun v825 ↦
 Option.bind (AV.str? v825) fun s826 ↦
 if ((Nat.add (ByteArray.size s826) (ByteArray.size s820)) : Int) > 9223372036854775807 then
 none else
 bif List.beq (ByteArray.toList (ByteArray.append s826 s820)) (ByteArray.toList (q5_3 s797)) then
 some (Out.ret (vbool true), []) else some (Out.ret (vbool false), []) else some (Out.ret (vbool false), []) else none else none := by
  intros
  exact (E_ov f13_true [52] _ _ _).trans (by kernel_rfl)

end Go.Proofs.Av
