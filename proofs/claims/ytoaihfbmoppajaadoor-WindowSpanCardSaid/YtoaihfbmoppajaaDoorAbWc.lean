/- The law of later ticks. -/
import Derived.Test.YtoaihfbmoppajaaDoorAbWb
import Derived.Test.YtoaihfbmoppajaaDoorAbBd
namespace Go.Proofs.Av
open Go
theorem go3 {ρ : Type} {x : Option (Out × Heap)} {p : Int × Int × Int} (h : x = pr3 p) (k : Int → Int → Int → Option ρ) : (x.bind fun r => (ret1 r).bind fun v => v.tup?.bind fun vs => (uncons? vs).bind fun q => (AV.int? .i64 q.fst).bind fun a =>
    (uncons? q.snd).bind fun q2 => (AV.int? .i64 q2.fst).bind fun b => (uncons? q2.snd).bind fun q3 => (AV.int? .i64 q3.fst).bind fun d => (nil? q3.snd).bind fun _ => k a b d) = k p.1 p.2.1 p.2.2 := by rw [h]; rfl
theorem div_next {x d : Int} (h : 1 ≤ d) : x / d ≤ (x + 1) / d ∧ (x + 1) / d ≤ x / d + 1 := by
  have a5 : (x + 1) / d ≤ (x + d) / d := Int.ediv_le_ediv (by omega) (by omega)
  have a6 : (x + d) / d = x / d + 1 := by rw [Int.add_ediv_of_dvd_right (Int.dvd_refl _), Int.ediv_self (by omega)]
  have a7 : x / d ≤ (x + 1) / d := Int.ediv_le_ediv (by omega) (by omega)
  omega
end Go.Proofs.Av
