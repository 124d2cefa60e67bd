/- The law of spans: a slot is ripe just if it is within them. -/
import Derived.Test.YtoaihfbmoppajaaDoorAbWc
import Derived.Test.YtoaihfbmoppajaaDoorAbY3
namespace Go.Proofs.Av
open Go
theorem at_three {c : Ch} {t s : Int} (hf : c.fit) (h0 : 0 ≤ s) (h1 : 0 ≤ t) (h2 : t ≤ M) : (highOf c t < s ∧ atOf c t s = 0) ∨ (lowOf c t ≤ s ∧ s ≤ highOf c t ∧ atOf c t s = 1) ∨ (s < lowOf c t ∧ s ≤ highOf c t ∧ atOf c t s = 2) := by
  have he := early_iff hf h0 h1 h2
  unfold atOf
  by_cases h : okS c s ∧ lo c s ≤ t
  · have hl := late_iff h.1 h1 h2
    rw [if_pos h]
    have : ¬ highOf c t < s := fun hh => (he.2 hh) h
    split <;> omega
  · rw [if_neg h]
    have := he.1 h
    omega
theorem low_more {c : Ch} {t : Int} (hf : c.fit) (h1 : 0 ≤ t) (h2 : t ≤ M) : t / c.c5 - 1 - c.c7 ≤ lowOf c t := by
  have g5 := hf.2.2.2.2.1
  have g6 := hf.2.2.2.2.2.2.2.2
  have a7 : (t - c.c5) / c.c5 ≤ (t - c.c6) / c.c5 := Int.ediv_le_ediv (by omega) (by omega)
  have a8 : (t - c.c5) / c.c5 = t / c.c5 - 1 := by
    rw [show t - c.c5 = t + -1 * c.c5 by omega, Int.add_mul_ediv_right _ _ (by omega)]; omega
  unfold lowOf
  split <;> omega
theorem law3 (avs : List AV) (h : ArgsFit cx.P [22, 3, 3] avs) : E cx (.fn 3) avs [] = rb true := by
  obtain ⟨a, rs, rfl, h1, h⟩ := args_cons h
  obtain ⟨b, rs, rfl, h2, h⟩ := args_cons h
  obtain ⟨b, rs, rfl, h3, h⟩ := args_cons h
  obtain rfl := args_nil h
  obtain ⟨n0, n1, n2, n3, n4, n5, rfl, r0, r1, r2, r3, r4, r5⟩ := arg_row h1
  obtain ⟨x, rfl, rx⟩ := arg_int h2
  obtain ⟨y, rfl, ry⟩ := arg_int h3
  obtain ⟨c, hc, _, hE⟩ := chain_ex r0 r1 r2 r3 r4 r5 0
  refine (f3 _ _ _ _ _ _ _ _).trans ?_
  have g5 := hc.2.2.2.2.1
  have g6 := hc.2.2.2.2.2.2.2.2
  have g7 := hc.2.2.2.2.2.1
  have hM : M = 1099511627776 := rfl
  refine (goT e28 _ _).trans ?_
  refine (goC hE _).trans ?_
  refine (goI (e29 rx (by omega)) _).trans ?_
  have hp := pk_range (c := x) (n := 1099511627777) (by omega)
  generalize pk x 1099511627777 = t at hp
  refine (go2 (e18 c t) _).trans ?_
  refine (go3 (e36 c t) _).trans ?_
  rw [show slotOf c t = (t / c.c5, 0) from if_pos ⟨hc, by omega, by omega⟩, show spanOf c t = (lowOf c t, highOf c t, 0) from if_pos ⟨hc, by omega, by omega⟩]
  obtain ⟨a0, a1, a2, a3, a4, a5, a6⟩ := low_high (t := t) hc (by omega) (by omega)
  have a7 := low_more (t := t) hc (by omega) (by omega)
  have w1 : IntKind.wrap IntKind.i64 (Int.mul 2 c.c7) = 2 * c.c7 := wi64 rfl (by omega) (by omega)
  have w2 : IntKind.wrap IntKind.i64 (Int.add (2 * c.c7) 12) = 2 * c.c7 + 12 := wi64 rfl (by omega) (by omega)
  rw [w1, w2]
  refine (goI (e29 ry (by omega)) _).trans ?_
  have hq := pk_range (c := y) (n := 2 * c.c7 + 12) (by omega)
  generalize pk y (2 * c.c7 + 12) = k at hq
  have w3 : IntKind.wrap IntKind.i64 (Int.add (t / c.c5) k) = t / c.c5 + k := wi64 rfl (by omega) (by omega)
  have w4 : IntKind.wrap IntKind.i64 (Int.sub (t / c.c5 + k) c.c7) = t / c.c5 + k - c.c7 := wi64 rfl (by omega) (by omega)
  have w5 : IntKind.wrap IntKind.i64 (Int.sub (t / c.c5 + k - c.c7) 6) = t / c.c5 + k - c.c7 - 6 := wi64 rfl (by omega) (by omega)
  have w6 : IntKind.wrap IntKind.i64 (Int.sub (highOf c t) (lowOf c t)) = highOf c t - lowOf c t := wi64 rfl (by omega) (by omega)
  have w7 : IntKind.wrap IntKind.i64 (Int.add c.c7 3) = c.c7 + 3 := wi64 rfl (by omega) (by omega)
  simp only [w3, w4, w5, w6, w7]
  obtain ⟨s, hs⟩ : ∃ s, s = (if 0 > t / c.c5 + k - c.c7 - 6 then 0 else t / c.c5 + k - c.c7 - 6) := ⟨_, rfl⟩
  rw [← hs]
  have hs0 : 0 ≤ s := by rw [hs]; split <;> omega
  clear hs
  refine (go2 (e34 c t s) _).trans ?_
  refine (go2 (e34 c t (t / c.c5)) _).trans ?_
  rw [show standOf c t s = (atOf c t s, 0) from if_pos ⟨hc, by omega, by omega, hs0⟩, show standOf c t (t / c.c5) = (atOf c t (t / c.c5), 0) from if_pos ⟨hc, by omega, by omega, a0⟩]
  have own := (at_ripe hc a0 (show 0 ≤ t by omega) (show t ≤ M by omega)).2 ⟨a2, a3⟩
  refine (goD (show (0 : Int) = 0 from rfl) _ _).trans ?_
  refine (goD (show (0 : Int) = 0 from rfl) _ _).trans ?_
  refine (goD (show (0 : Int) = 0 from rfl) _ _).trans ?_
  refine (goD (show (0 : Int) = 0 from rfl) _ _).trans ?_
  refine (goD own _ _).trans ?_
  refine (goD (show lowOf c t ≥ 0 by omega) _ _).trans ?_
  refine (goD a2 _ _).trans ?_
  refine (goD a3 _ _).trans ?_
  refine (goD (show highOf c t - lowOf c t < c.c7 + 3 by omega) _ _).trans ?_
  rcases at_three hc hs0 (show 0 ≤ t by omega) (show t ≤ M by omega) with h | h | h
  · refine (goDn (show ¬ atOf c t s = 1 by omega) _ _).trans ?_
    refine (goD (show lowOf c t ≤ s by omega) _ _).trans ?_
    refine (goDn (show ¬ s ≤ highOf c t by omega) _ _).trans ?_
    refine (goDn (show ¬ atOf c t s = 2 by omega) _ _).trans ?_
    refine (goDn (show ¬ s < lowOf c t by omega) _ _).trans ?_
    refine (goD (show atOf c t s = 0 by omega) _ _).trans ?_
    exact goD (show s > highOf c t by omega) _ _
  · refine (goD (show atOf c t s = 1 by omega) _ _).trans ?_
    refine (goD (show lowOf c t ≤ s by omega) _ _).trans ?_
    refine (goD (show s ≤ highOf c t by omega) _ _).trans ?_
    refine (goDn (show ¬ atOf c t s = 2 by omega) _ _).trans ?_
    refine (goDn (show ¬ s < lowOf c t by omega) _ _).trans ?_
    refine (goDn (show ¬ atOf c t s = 0 by omega) _ _).trans ?_
    exact goDn (show ¬ s > highOf c t by omega) _ _
  · refine (goDn (show ¬ atOf c t s = 1 by omega) _ _).trans ?_
    refine (goDn (show ¬ lowOf c t ≤ s by omega) _ _).trans ?_
    refine (goD (show atOf c t s = 2 by omega) _ _).trans ?_
    refine (goD (show s < lowOf c t by omega) _ _).trans ?_
    refine (goDn (show ¬ atOf c t s = 0 by omega) _ _).trans ?_
    exact goDn (show ¬ s > highOf c t by omega) _ _
end Go.Proofs.Av
