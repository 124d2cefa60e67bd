/- A law's tree. -/
import Derived.Test.YtoaihfbmoppajaaAdYt
set_option maxRecDepth 100000
namespace Go.Proofs.Av
open Go
def q6_0 (fixed827 : ByteArray) := if 30 < ((ByteArray.size fixed827) : Int) then 30 else ((ByteArray.size fixed827) : Int)
def q6_1 (fixed827 : ByteArray) := ByteArray.extract fixed827 0 (Int.toNat (q6_0 fixed827))
def q6_2 := Key.loop 6 [true, true, true, true, true, true, true, false, true, false]
theorem f6 : ∀ (fixed827 : ByteArray) (raw828 : List (List AV)), E cx (Key.fn 6) [vs fixed827, AV.list 0 1 raw828] [] = if 0 ≤ if 30 < ((ByteArray.size fixed827) : Int) then
 30 else ((ByteArray.size fixed827) : Int) then
 if (q6_0 fixed827) ≤ ((ByteArray.size fixed827) : Int) then
 Option.bind (E cx (Key.fn 14) [AV.list 0 1 raw828] []) fun r829 ↦
 Option.bind (ret1 r829) fun v830 ↦
 Option.bind (AV.list? 1 v830) fun es831 ↦
 Option.bind (E cx (Key.fn 20) [vs (q6_1 fixed827), AV.list 0 1 es831] []) fun r832 ↦
 Option.bind (ret1 r832) fun v833 ↦
 Option.bind (AV.tup? v833) fun vs834 ↦
 Option.bind (uncons? vs834) fun p835 ↦
 Option.bind (AV.str? p835.fst) fun s836 ↦
 Option.bind (uncons? p835.snd) fun p837 ↦
 Option.bind (AV.int? IntKind.i64 p837.fst) fun n838 ↦
 Option.bind (nil? p837.snd) fun _ ↦
 Option.bind (E cx (Key.fn 22) [vs s836, vi ((ByteArray.size (q6_1 fixed827)) : Int), vi ((List.length es831) : Int)] []) fun r840 ↦
 Option.bind (ret1 r840) fun v841 ↦
 Option.bind (AV.tup? v841) fun vs842 ↦
 Option.bind (uncons? vs842) fun p843 ↦
 Option.bind (AV.str? p843.fst) fun s844 ↦
 Option.bind (uncons? p843.snd) fun p845 ↦
 Option.bind (AV.list? 1 p845.fst) fun es846 ↦
 Option.bind (uncons? p845.snd) fun p847 ↦
 Option.bind (AV.int? IntKind.i64 p847.fst) fun n848 ↦
 Option.bind (nil? p847.snd) fun _ ↦
 Option.bind (E cx (Key.loop 6 [true, true, true, true, true, true, true, false, true, false]) [vi (IntKind.wrap IntKind.i64 (Int.add (((ByteArray.size (q6_1 fixed827)) : Int)) (IntKind.wrap IntKind.i64 (Int.mul 4 ((List.length es831) : Int))))), vi 0, vbool true, vs (q6_1 fixed827), AV.list 0 1 es831, vs s836, vi n838, vs s844, AV.list 0 1 es846, vi n848] []) fun r850 ↦
 Option.bind (asJump r850) fun j851 ↦
 bif JX.is j851.fst (JX.exit 0) then
 Option.bind (uncons? j851.snd.fst) fun p852 ↦
 Option.bind (AV.int? IntKind.i64 p852.fst) fun n853 ↦
 Option.bind (uncons? p852.snd) fun p854 ↦
 Option.bind (AV.int? IntKind.i64 p854.fst) fun _ ↦
 Option.bind (nil? p854.snd) fun _ ↦
 Option.bind (nil? j851.snd.snd) fun _ ↦
 bif decide (n838 = 0) then
 bif decide (n848 = 0) then
 bif List.beq (ByteArray.toList s844) (ByteArray.toList (q6_1 fixed827)) then
 Option.bind (E cx (Key.fn 24) [AV.list 0 1 es846, AV.list 0 1 es831] []) fun r858 ↦
 Option.bind (ret1 r858) fun v859 ↦
 Option.bind (AV.bool? v859) fun b860 ↦
 bif b860 then
 bif decide (((ByteArray.size s836) : Int) = n853) then
 some (Out.ret (vbool true), []) else some (Out.ret (vbool false), []) else some (Out.ret (vbool false), []) else some (Out.ret (vbool false), []) else some (Out.ret (vbool false), []) else some (Out.ret (vbool false), []) else none else none else none := by
  intros
  exact (E_ov f13_true [52] _ _ _).trans (by kernel_rfl)


theorem f6_l0 : ∀ (x861 x862 : Int) (b863 : Bool) (s864 : ByteArray) (l865 : List (List AV)) (s866 : ByteArray) (x867 : Int) (s868 : ByteArray) (l869 : List (List AV)) (x870 : Int), E cx (q6_2) [vi x861, vi x862, vbool b863, vs s864, AV.list 0 1 l865, vs s866, vi x867, vs s868, AV.list 0 1 l869, vi x870] [] = bif decide (x862 < ((List.length l865) : Int)) then
 if 0 ≤ x862 then
 Option.bind l865[Int.toNat x862]? fun cs871 ↦
 Option.bind (uncons? cs871) fun p872 ↦
 Option.bind (AV.str? p872.fst) fun s873 ↦
 Option.bind (nil? p872.snd) fun _ ↦
 E cx (q6_2) [vi (IntKind.wrap IntKind.i64 (Int.add x861 ((ByteArray.size s873) : Int))), vi (IntKind.wrap IntKind.i64 (Int.add x862 1)), vbool b863, vs s864, AV.list 0 1 l865, vs s866, vi x867, vs s868, AV.list 0 1 l869, vi x870] [] else none else some (Out.jump (JX.exit 0) [vi x861, vi x862], []) := by
  intros
  exact (E_ov f13_true [52] _ _ _).trans (by kernel_rfl)

end Go.Proofs.Av
