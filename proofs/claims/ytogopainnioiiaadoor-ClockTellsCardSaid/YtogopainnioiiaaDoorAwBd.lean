/- What a call answered, taken apart: one step each. -/
import Derived.Test.YtogopainnioiiaaDoorAwZb
namespace Go.Proofs.Av
open Go
variable {ρ : Type} {x : Option (Out × Heap)}
theorem goB {b : Bool} (h : x = rb b) (k : Bool → Option ρ) : (x.bind fun r => (ret1 r).bind fun v => v.bool?.bind fun b => k b) = k b := by rw [h]; rfl
theorem goT (h : x = rb true) (k j : Option ρ) : (x.bind fun r => (ret1 r).bind fun v => v.bool?.bind fun b => bif b then k else j) = k := by rw [h]; rfl
theorem goF (h : x = rb false) (k j : Option ρ) : (x.bind fun r => (ret1 r).bind fun v => v.bool?.bind fun b => bif b then k else j) = j := by rw [h]; rfl
theorem goI {n : Int} (h : x = some (Out.ret (vi n), [])) (k : Int → Option ρ) : (x.bind fun r => (ret1 r).bind fun v => (v.int? .i64).bind fun n => k n) = k n := by rw [h]; rfl
theorem go2 {p : Int × Int} (h : x = pr p) (k : Int → Int → Option ρ) : (x.bind fun r => (ret1 r).bind fun v => v.tup?.bind fun vs => (uncons? vs).bind fun q => (AV.int? .i64 q.fst).bind fun a =>
    (uncons? q.snd).bind fun q2 => (AV.int? .i64 q2.fst).bind fun b => (nil? q2.snd).bind fun _ => k a b) = k p.1 p.2 := by rw [h]; rfl
theorem goC {c : Ch} (h : x = some (Out.ret c.av, [])) (k : Int → Int → Int → Int → Int → Int → Int → Int → Int → Int → Option ρ) : (x.bind fun r => (ret1 r).bind fun v => v.cells?.bind fun vs =>
    (uncons? vs).bind fun q1 => (AV.int? .i64 q1.fst).bind fun a1 => (uncons? q1.snd).bind fun q2 => (AV.int? .i64 q2.fst).bind fun a2 => (uncons? q2.snd).bind fun q3 => (AV.int? .i64 q3.fst).bind fun a3 =>
    (uncons? q3.snd).bind fun q4 => (AV.int? .i64 q4.fst).bind fun a4 => (uncons? q4.snd).bind fun q5 => (AV.int? .i64 q5.fst).bind fun a5 => (uncons? q5.snd).bind fun q6 => (AV.int? .i64 q6.fst).bind fun a6 =>
    (uncons? q6.snd).bind fun q7 => (AV.int? .i64 q7.fst).bind fun a7 => (uncons? q7.snd).bind fun q8 => (AV.int? .i64 q8.fst).bind fun a8 => (uncons? q8.snd).bind fun q9 => (AV.int? .i64 q9.fst).bind fun a9 =>
    (uncons? q9.snd).bind fun q10 => (AV.int? .u64 q10.fst).bind fun a10 => (nil? q10.snd).bind fun _ => k a1 a2 a3 a4 a5 a6 a7 a8 a9 a10) = k c.c1 c.c2 c.c3 c.c4 c.c5 c.c6 c.c7 c.c8 c.c9 c.c10 := by rw [h]; rfl
theorem goN {p : Prop} [Decidable p] (h : ¬ p) (k j : Option ρ) : (if p then k else j) = j := if_neg h
theorem goD {p : Prop} [Decidable p] (h : p) (k j : Option ρ) : (bif decide p then k else j) = k := by rw [decide_eq_true h]; rfl
theorem goDn {p : Prop} [Decidable p] (h : ¬ p) (k j : Option ρ) : (bif decide p then k else j) = j := by rw [decide_eq_false h]; rfl
theorem goE {a b : Int} (h : a = b) (k j : Option ρ) : (bif a != b then k else j) = j := by rw [h, show (b != b) = false by simp]; rfl
theorem goEn {a b : Int} (h : a ≠ b) (k j : Option ρ) : (bif a != b then k else j) = k := by rw [show (a != b) = true by simp [h]]; rfl
end Go.Proofs.Av
