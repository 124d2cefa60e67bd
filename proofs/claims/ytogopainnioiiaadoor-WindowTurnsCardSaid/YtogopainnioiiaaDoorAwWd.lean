/- The law of turns. -/
import Derived.Test.YtogopainnioiiaaDoorAwWc
import Derived.Test.YtogopainnioiiaaDoorAwY9
namespace Go.Proofs.Av
open Go
theorem at_cases {c : Ch} {s : Int} (ho : okS c s) (t : Int) : (t < lo c s ∧ atOf c t s = 0) ∨ (lo c s ≤ t ∧ t ≤ hi c s ∧ atOf c t s = 1) ∨ (lo c s ≤ t ∧ hi c s < t ∧ atOf c t s = 2) := by
  unfold atOf
  by_cases h : lo c s ≤ t
  · rw [if_pos ⟨ho, h⟩]
    by_cases h2 : t > hi c s
    · rw [if_pos h2]; omega
    · rw [if_neg h2]; omega
  · rw [if_neg (fun x => h x.2)]; omega
theorem law9 (avs : List AV) (h : ArgsFit cx.P [25, 3, 3, 3] avs) : E cx (.fn 9) avs [] = rb true := by
  obtain ⟨a, rs, rfl, h1, h⟩ := args_cons h
  obtain ⟨b, rs, rfl, h2, h⟩ := args_cons h
  obtain ⟨b, rs, rfl, h3, h⟩ := args_cons h
  obtain ⟨b, rs, rfl, h4, h⟩ := args_cons h
  obtain rfl := args_nil h
  obtain ⟨n0, n1, n2, n3, n4, n5, rfl, r0, r1, r2, r3, r4, r5⟩ := arg_row h1
  obtain ⟨z, rfl, rz⟩ := arg_int h2
  obtain ⟨x, rfl, rx⟩ := arg_int h3
  obtain ⟨y, rfl, ry⟩ := arg_int h4
  obtain ⟨c, hc, _, hE⟩ := chain_ex r0 r1 r2 r3 r4 r5 0
  refine (f9 _ _ _ _ _ _ _ _ _).trans ?_
  have g5 := hc.2.2.2.2.1
  have g6 := hc.2.2.2.2.2.2.2.2
  have g7 := hc.2.2.2.2.2.1
  have hM : M = 1099511627776 := rfl
  have q0 : 0 ≤ M / c.c5 := Int.ediv_nonneg (by omega) (by omega)
  have q1 : M / c.c5 ≤ M := Int.ediv_le_self _ (by omega)
  refine (goT e28 _ _).trans ?_
  refine (goC hE _).trans ?_
  refine (goN (show ¬ c.c5 = 0 by omega) _ _).trans ?_
  have wq : IntKind.wrap .i64 (Int.add (M / c.c5) 1) = M / c.c5 + 1 := wi64 rfl (by omega) (by omega)
  rw [M_div g5.1, wq]
  refine (goI (e29 rz (by omega)) _).trans ?_
  have hp := pk_range (c := z) (n := M / c.c5 + 1) (by omega)
  generalize pk z (M / c.c5 + 1) = s at hp
  have ho : okS c s := ok_of_le hc (by omega) (by omega)
  have hb := okS_bounds ho
  refine (go2 (e30 c s) _).trans ?_
  refine (go2 (e32 c s) _).trans ?_
  refine (goI (e29 rx (by omega)) _).trans ?_
  refine (goI (e29 ry (by omega)) _).trans ?_
  have hp1 := pk_range (c := x) (n := 400) (by omega)
  generalize pk x 400 = i at hp1
  have hp2 := pk_range (c := y) (n := 400) (by omega)
  generalize pk y 400 = j at hp2
  rw [show opensOf c s = (lo c s, 0) from if_pos ho, show closesOf c s = (hi c s, 0) from if_pos ho]
  have hlo : 0 ≤ lo c s ∧ lo c s ≤ s * c.c5 ∧ (lo c s = 0 ∨ lo c s + c.c6 = s * c.c5) := by unfold lo; split <;> omega
  have hhi : s * c.c5 ≤ hi c s ∧ hi c s ≤ M := by unfold hi; split <;> omega
  have w1 : IntKind.wrap IntKind.i64 (Int.add (lo c s) i) = lo c s + i := wi64 rfl (by omega) (by omega)
  have w2 : IntKind.wrap IntKind.i64 (Int.sub (lo c s + i) 200) = lo c s + i - 200 := wi64 rfl (by omega) (by omega)
  have w4 : IntKind.wrap IntKind.i64 (Int.add (lo c s) c.c6) = lo c s + c.c6 := wi64 rfl (by omega) (by omega)
  have w5 : IntKind.wrap IntKind.i64 (Int.mul s c.c5) = s * c.c5 := wi64 rfl (by omega) (by omega)
  simp only [w1, w2, w4, w5]
  obtain ⟨t, ht⟩ : ∃ t, t = (if 1099511627776 < (if 0 > lo c s + i - 200 then 0 else lo c s + i - 200) then 1099511627776 else (if 0 > lo c s + i - 200 then 0 else lo c s + i - 200)) := ⟨_, rfl⟩
  rw [← ht]
  have ht2 : 0 ≤ t ∧ t ≤ M := by rw [ht]; split <;> split at * <;> omega
  clear ht
  have w3 : IntKind.wrap IntKind.i64 (Int.add t j) = t + j := wi64 rfl (by omega) (by omega)
  rw [w3]
  obtain ⟨u, hu⟩ : ∃ u, u = (if 1099511627776 < t + j then 1099511627776 else t + j) := ⟨_, rfl⟩
  rw [← hu]
  have hu2 : t ≤ u ∧ u ≤ M := by rw [hu]; split <;> omega
  clear hu
  refine (go2 (e34 c t s) _).trans ?_
  refine (go2 (e34 c u s) _).trans ?_
  refine (go2 (e34 c (lo c s) s) _).trans ?_
  refine (go2 (e34 c (hi c s) s) _).trans ?_
  rw [stand_in hc ht2.1 ht2.2 ho.2.1, stand_in hc (show 0 ≤ u by omega) hu2.2 ho.2.1, stand_in hc hlo.1 (show lo c s ≤ M by omega) ho.2.1, stand_in hc (show 0 ≤ hi c s by omega) hhi.2 ho.2.1]
  have a1 : atOf c (lo c s) s = 1 := by rcases at_cases ho (lo c s) with h | h | h <;> omega
  have a2 : atOf c (hi c s) s = 1 := by rcases at_cases ho (hi c s) with h | h | h <;> omega
  refine (goE rfl _ _).trans ?_
  refine (goE rfl _ _).trans ?_
  refine (goE rfl _ _).trans ?_
  refine (goE rfl _ _).trans ?_
  refine (goE rfl _ _).trans ?_
  refine (goE rfl _ _).trans ?_
  refine (goDn (show ¬ lo c s < 0 by omega) _ _).trans ?_
  refine (goDn (show ¬ lo c s > hi c s by omega) _ _).trans ?_
  refine (goDn (show ¬ hi c s > 1099511627776 by omega) _ _).trans ?_
  refine (goE a1 _ _).trans ?_
  refine (goE a2 _ _).trans ?_
  have mono : atOf c t s ≤ atOf c u s := by rcases at_cases ho t with h | h | h <;> rcases at_cases ho u with h' | h' | h' <;> omega
  refine (goD mono _ _).trans ?_
  have fin : (bif decide (lo c s = 0) then some (Out.ret (vbool true), ([] : Heap)) else bif decide (lo c s + c.c6 = s * c.c5) then some (Out.ret (vbool true), []) else some (Out.ret (vbool false), [])) = rb true := by
    rcases hlo.2.2 with h | h
    · exact goD h _ _
    · by_cases h0 : lo c s = 0
      · exact goD h0 _ _
      · exact (goDn h0 _ _).trans (goD h _ _)
  rcases at_cases ho t with h | h | h
  · refine (goDn (show ¬ atOf c t s = 1 by omega) _ _).trans ?_
    refine (goDn (show ¬ t ≥ lo c s by omega) _ _).trans ?_
    refine (goD h.2 _ _).trans ?_
    refine (goD h.1 _ _).trans ?_
    exact fin
  · refine (goD h.2.2 _ _).trans ?_
    refine (goD (show t ≥ lo c s from h.1) _ _).trans ?_
    refine (goD h.2.1 _ _).trans ?_
    refine (goDn (show ¬ atOf c t s = 0 by omega) _ _).trans ?_
    refine (goDn (show ¬ t < lo c s by omega) _ _).trans ?_
    exact fin
  · refine (goDn (show ¬ atOf c t s = 1 by omega) _ _).trans ?_
    refine (goD (show t ≥ lo c s from h.1) _ _).trans ?_
    refine (goDn (show ¬ t ≤ hi c s by omega) _ _).trans ?_
    refine (goDn (show ¬ atOf c t s = 0 by omega) _ _).trans ?_
    refine (goDn (show ¬ t < lo c s by omega) _ _).trans ?_
    exact fin
end Go.Proofs.Av
