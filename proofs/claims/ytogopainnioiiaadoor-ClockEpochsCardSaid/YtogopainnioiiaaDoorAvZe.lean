/- The laws of epochs. -/
import Derived.Test.YtogopainnioiiaaDoorAvZb
import Derived.Test.YtogopainnioiiaaDoorAvY5
namespace Go.Proofs.Av
open Go
theorem ne00' : ((0 : Int) != 0) = false := rfl
theorem law5 (avs : List AV) (h : ArgsFit cx.P [25, 3] avs) : E cx (.fn 5) avs [] = rb true := by
  obtain ⟨a, rs, rfl, h1, h⟩ := args_cons h
  obtain ⟨b, rs, rfl, h2, h⟩ := args_cons h
  obtain rfl := args_nil h
  obtain ⟨n0, n1, n2, n3, n4, n5, rfl, r0, r1, r2, r3, r4, r5⟩ := arg_row h1
  obtain ⟨x, rfl, rx⟩ := arg_int h2
  obtain ⟨c, hc, _, hE⟩ := chain_ex r0 r1 r2 r3 r4 r5 0
  rw [f5]
  have g5 := hc.2.2.2.2.1
  have g2 := hc.2.1
  have hM : M = 1099511627776 := rfl
  have q0 : 0 ≤ M / c.c5 := Int.ediv_nonneg (by omega) (by omega)
  have q1 : M / c.c5 ≤ M := Int.ediv_le_self _ (by omega)
  have wq : IntKind.wrap .i64 (Int.add (M / c.c5) 1) = M / c.c5 + 1 := wr_id (n := M / c.c5 + 1) (by omega) (by omega)
  simp only [e12, hE, bind_rb, ret1_r, bool_vb, Option.bind_some, cond_t, cells_agg, uncons_c, int_vi, int_vu, nil_n]
  rw [if_neg (show ¬ c.c5 = 0 by omega), M_div g5.1, wq, e17 rx (by omega)]
  have hp := pk_range (c := x) (n := M / c.c5 + 1) (by omega)
  generalize pk x (M / c.c5 + 1) = s at hp
  obtain ⟨hs0, hs1⟩ := hp
  have key : ∀ y : Int, y ≤ M / c.c5 ↔ y * c.c5 ≤ M := fun y => le_M_div g5.1
  generalize hQ : M / c.c5 = Q at *
  simp only [Option.bind_some, ret1_r, int_vi]
  rw [e22 c s ⟨by omega, by omega⟩]
  have hs : epochOf c s = (s / c.c2, 0) := if_pos ⟨hc, hs0⟩
  rw [hs]
  have s0 : 0 ≤ s / c.c2 := Int.ediv_nonneg hs0 (by omega)
  have s1 : s / c.c2 ≤ s := Int.ediv_le_self _ hs0
  have s2 : s / c.c2 * c.c2 ≤ s := Int.ediv_mul_le _ (by omega)
  have s3 : s < (s / c.c2 + 1) * c.c2 := Int.lt_ediv_add_one_mul_self _ (by omega)
  generalize s / c.c2 = p at s0 s1 s2 s3
  have hst : firstOf c p = (p * c.c2, 0) := (if_pos ⟨hc, s0⟩).trans (if_pos ((key _).1 (by omega)))
  have m0 : 0 ≤ p * c.c2 := Int.mul_nonneg s0 (by omega)
  have hsl : epochOf c (p * c.c2) = (p, 0) := by
    refine (if_pos ⟨hc, m0⟩).trans ?_
    rw [Int.mul_ediv_cancel _ (by omega)]
  rw [Int.add_mul, Int.one_mul] at s3
  have hw : IntKind.wrap .i64 (Int.add p 1) = p + 1 := wr_id (n := p + 1) (by omega) (by omega)
  simp only [e24, bind_pr, tup_t, uncons_c, nil_n, Option.bind_some, ret1_r, int_vi, hst, hw]
  rw [e22 c (p * c.c2) ⟨by omega, by omega⟩, hsl]
  simp only [bind_pr, tup_t, uncons_c, nil_n, Option.bind_some, ret1_r, int_vi]
  have w2 : IntKind.wrap .i64 (Int.sub s (p * c.c2)) = s - p * c.c2 := wr_id (n := s - p * c.c2) (by omega) (by omega)
  have w3 : IntKind.wrap .i64 (Int.mul p c.c2) = p * c.c2 := wr_id (n := p * c.c2) (by omega) (by omega)
  have w4 : IntKind.wrap .i64 (Int.add (p * c.c2) c.c2) = p * c.c2 + c.c2 := wr_id (n := p * c.c2 + c.c2) (by omega) (by omega)
  have hst2 : firstOf c (p + 1) = if p * c.c2 + c.c2 ≤ Q then (p * c.c2 + c.c2, 0) else (0, 8) := by
    refine (if_pos ⟨hc, by omega⟩).trans ?_
    rw [Int.add_mul, Int.one_mul]
    by_cases h6 : p * c.c2 + c.c2 ≤ Q
    · rw [if_pos h6, if_pos ((key _).1 h6)]
    · rw [if_neg h6, if_neg (fun hh => h6 ((key _).2 hh))]
  rw [w2, w3, w4, hst2, ne00', show (p != p) = false by simp, show (p * c.c2 != p * c.c2) = false by simp, decide_eq_false (show ¬ p * c.c2 > s by omega), decide_eq_false (show ¬ s - p * c.c2 ≥ c.c2 by omega)]
  by_cases h5 : p * c.c2 + c.c2 ≤ Q
  · rw [if_pos h5]
    simp only [cond_f, ne00']
    rw [decide_eq_true s3]
    simp [rb]
  · rw [if_neg h5, decide_eq_true (show p * c.c2 + c.c2 > Q by omega)]
    simp [rb, show ¬ c.c5 = 0 by omega]
end Go.Proofs.Av
