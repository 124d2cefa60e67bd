/- The law of later ticks. -/
import Derived.Test.YtogopainnioiiaaDoorAwWb
import Derived.Test.YtogopainnioiiaaDoorAwY10
import Derived.Test.YtogopainnioiiaaDoorAwBd
namespace Go.Proofs.Av
open Go
theorem go3 {ρ : Type} {x : Option (Out × Heap)} {p : Int × Int × Int} (h : x = pr3 p) (k : Int → Int → Int → Option ρ) : (x.bind fun r => (ret1 r).bind fun v => v.tup?.bind fun vs => (uncons? vs).bind fun q => (AV.int? .i64 q.fst).bind fun a =>
    (uncons? q.snd).bind fun q2 => (AV.int? .i64 q2.fst).bind fun b => (uncons? q2.snd).bind fun q3 => (AV.int? .i64 q3.fst).bind fun d => (nil? q3.snd).bind fun _ => k a b d) = k p.1 p.2.1 p.2.2 := by rw [h]; rfl
theorem div_next {x d : Int} (h : 1 ≤ d) : x / d ≤ (x + 1) / d ∧ (x + 1) / d ≤ x / d + 1 := by
  have a5 : (x + 1) / d ≤ (x + d) / d := Int.ediv_le_ediv (by omega) (by omega)
  have a6 : (x + d) / d = x / d + 1 := by rw [Int.add_ediv_of_dvd_right (Int.dvd_refl _), Int.ediv_self (by omega)]
  have a7 : x / d ≤ (x + 1) / d := Int.ediv_le_ediv (by omega) (by omega)
  omega
theorem law10 (avs : List AV) (h : ArgsFit cx.P [25, 3, 3] avs) : E cx (.fn 10) avs [] = rb true := by
  obtain ⟨a, rs, rfl, h1, h⟩ := args_cons h
  obtain ⟨b, rs, rfl, h2, h⟩ := args_cons h
  obtain ⟨b, rs, rfl, h3, h⟩ := args_cons h
  obtain rfl := args_nil h
  obtain ⟨n0, n1, n2, n3, n4, n5, rfl, r0, r1, r2, r3, r4, r5⟩ := arg_row h1
  obtain ⟨x, rfl, rx⟩ := arg_int h2
  obtain ⟨y, rfl, ry⟩ := arg_int h3
  obtain ⟨c, hc, _, hE⟩ := chain_ex r0 r1 r2 r3 r4 r5 0
  refine (f10 _ _ _ _ _ _ _ _).trans ?_
  have g5 := hc.2.2.2.2.1
  have g6 := hc.2.2.2.2.2.2.2.2
  have g7 := hc.2.2.2.2.2.1
  have hM : M = 1099511627776 := rfl
  refine (goT e28 _ _).trans ?_
  refine (goC hE _).trans ?_
  refine (goI (e29 rx (by omega)) _).trans ?_
  refine (goI (e29 ry (by omega)) _).trans ?_
  have hp := pk_range (c := x) (n := 1099511627776) (by omega)
  generalize pk x 1099511627776 = t at hp
  have hq := pk_range (c := y) (n := 100) (by omega)
  generalize pk y 100 = k at hq
  have w1 : IntKind.wrap IntKind.i64 (Int.add t 1) = t + 1 := wi64 rfl (by omega) (by omega)
  have w2 : IntKind.wrap IntKind.i64 (Int.add (t + 1) k) = t + 1 + k := wi64 rfl (by omega) (by omega)
  rw [w1, w2]
  obtain ⟨u, hu⟩ : ∃ u, u = (if 1099511627776 < t + 1 + k then 1099511627776 else t + 1 + k) := ⟨_, rfl⟩
  rw [← hu]
  have hu2 : t + 1 ≤ u ∧ u ≤ M := by rw [hu]; split <;> omega
  refine (go3 (e36 c t) _).trans ?_
  refine (go3 (e36 c (t + 1)) _).trans ?_
  refine (go3 (e36 c u) _).trans ?_
  rw [show spanOf c t = (lowOf c t, highOf c t, 0) from if_pos ⟨hc, by omega, by omega⟩, show spanOf c (t + 1) = (lowOf c (t + 1), highOf c (t + 1), 0) from if_pos ⟨hc, by omega, by omega⟩,
    show spanOf c u = (lowOf c u, highOf c u, 0) from if_pos ⟨hc, by omega, by omega⟩]
  obtain ⟨a0, a1, a2, a3, a4, a5, a6⟩ := low_high (t := t) hc (by omega) (by omega)
  have d1 := div_next (x := t - c.c6) g5.1
  have d2 := div_next (x := t + c.c6) g5.1
  rw [show t - c.c6 + 1 = t + 1 - c.c6 by omega] at d1
  rw [show t + c.c6 + 1 = t + 1 + c.c6 by omega] at d2
  have d3 : (t + 1 - c.c6) / c.c5 ≤ (u - c.c6) / c.c5 := Int.ediv_le_ediv (by omega) (by omega)
  have d4 : (t + 1 + c.c6) / c.c5 ≤ (u + c.c6) / c.c5 := Int.ediv_le_ediv (by omega) (by omega)
  have w3 : IntKind.wrap IntKind.i64 (Int.add (lowOf c t) 1) = lowOf c t + 1 := wi64 rfl (by omega) (by omega)
  have w4 : IntKind.wrap IntKind.i64 (Int.add (highOf c t) 1) = highOf c t + 1 := wi64 rfl (by omega) (by omega)
  have k1 : lowOf c t ≤ lowOf c (t + 1) := by unfold lowOf; split <;> split <;> omega
  have k2 : lowOf c (t + 1) ≤ lowOf c t + 1 := by unfold lowOf; split <;> split <;> omega
  have k3 : highOf c t ≤ highOf c (t + 1) := by unfold highOf; split <;> split <;> omega
  have k4 : highOf c (t + 1) ≤ highOf c t + 1 := by unfold highOf; split <;> split <;> omega
  have k5 : lowOf c (t + 1) ≤ lowOf c u := by unfold lowOf; split <;> split <;> omega
  have k6 : highOf c (t + 1) ≤ highOf c u := by unfold highOf; split <;> split <;> omega
  refine (goD rfl _ _).trans ?_
  refine (goD rfl _ _).trans ?_
  refine (goD rfl _ _).trans ?_
  refine (goD k1 _ _).trans ?_
  refine (goD (by rw [w3]; exact k2) _ _).trans ?_
  refine (goD k3 _ _).trans ?_
  refine (goD (by rw [w4]; exact k4) _ _).trans ?_
  refine (goD k5 _ _).trans ?_
  exact goD k6 _ _
end Go.Proofs.Av
