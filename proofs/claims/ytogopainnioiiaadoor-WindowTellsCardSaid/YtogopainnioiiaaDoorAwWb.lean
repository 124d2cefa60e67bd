/- What the window's laws ask ahead of all else; the law of edges. -/
import Derived.Test.YtogopainnioiiaaDoorAwWa
import Derived.Test.YtogopainnioiiaaDoorAwY11
namespace Go.Proofs.Av
open Go
abbrev c28 : Ch := ⟨1, 4, 1, 1, 10, 2, 3, 0, 1, 0⟩
theorem e28 : E cx (.fn 28) [] [] = rb true := by
  rw [f28]
  rw [show E cx (.fn 30) [AV.agg [vi 1, vi 4, vi 1, vi 1, vi 10, vi 2, vi 3, vi 0, vi 1, vu 0], vi 4] [] = pr (38, 0) from (e30 c28 4).trans (congrArg pr (by decide))]
  rw [show E cx (.fn 32) [AV.agg [vi 1, vi 4, vi 1, vi 1, vi 10, vi 2, vi 3, vi 0, vi 1, vu 0], vi 4] [] = pr (81, 0) from (e32 c28 4).trans (congrArg pr (by decide))]
  rw [show E cx (.fn 36) [AV.agg [vi 1, vi 4, vi 1, vi 1, vi 10, vi 2, vi 3, vi 0, vi 1, vu 0], vi 38] [] = pr3 (0, 4, 0) from (e36 c28 38).trans (congrArg pr3 (by decide))]
  rw [show E cx (.fn 36) [AV.agg [vi 1, vi 4, vi 1, vi 1, vi 10, vi 2, vi 3, vi 0, vi 1, vu 0], vi 42] [] = pr3 (1, 4, 0) from (e36 c28 42).trans (congrArg pr3 (by decide))]
  rw [show E cx (.fn 34) [AV.agg [vi 1, vi 4, vi 1, vi 1, vi 10, vi 2, vi 3, vi 0, vi 1, vu 0], vi 82, vi 4] [] = pr (2, 0) from (e34 c28 82 4).trans (congrArg pr (by decide))]
  rw [show E cx (.fn 34) [AV.agg [vi 1, vi 4, vi 1, vi 1, vi 10, vi 2, vi 3, vi 0, vi 1, vu 0], vi 37, vi 4] [] = pr (0, 0) from (e34 c28 37 4).trans (congrArg pr (by decide))]
  rw [show E cx (.fn 34) [AV.agg [vi 1, vi 4, vi 1, vi 1, vi 10, vi 2, vi 3, vi 0, vi 1, vu 0], vi 38, vi 4] [] = pr (1, 0) from (e34 c28 38 4).trans (congrArg pr (by decide))]
  rw [show E cx (.fn 30) [AV.agg [vi 1, vi 4, vi 1, vi 1, vi 10, vi 2, vi 3, vi 0, vi 1, vu 0], vi 1099511627776] [] = pr (0, 8) from (e30 c28 1099511627776).trans (congrArg pr (by decide))]
  rw [show E cx (.fn 34) [AV.agg [vi 1, vi 4, vi 1, vi 1, vi 10, vi 2, vi 3, vi 0, vi 1, vu 0], vi 1099511627777, vi 0] [] = pr (0, 1) from (e34 c28 1099511627777 0).trans (congrArg pr (by decide))]
  rfl
theorem wi64 {n m : Int} (h : n = m) (h1 : -9223372036854775808 ≤ m) (h2 : m ≤ 9223372036854775807) : IntKind.wrap IntKind.i64 n = m := by rw [h]; exact wr_id h1 h2
theorem nb0 : ((0 : Int) != 0) = false := rfl
theorem nb8 : ((8 : Int) != 0) = true := rfl
theorem ok_of_le {c : Ch} (hc : c.fit) {s : Int} (h0 : 0 ≤ s) (h1 : s ≤ M / c.c5) : okS c s := ⟨hc, h0, (le_M_div hc.2.2.2.2.1.1).1 h1⟩
theorem law11 (avs : List AV) (h : ArgsFit cx.P [25, 3] avs) : E cx (.fn 11) avs [] = rb true := by
  obtain ⟨a, rs, rfl, h1, h⟩ := args_cons h
  obtain ⟨b, rs, rfl, h2, h⟩ := args_cons h
  obtain rfl := args_nil h
  obtain ⟨n0, n1, n2, n3, n4, n5, rfl, r0, r1, r2, r3, r4, r5⟩ := arg_row h1
  obtain ⟨x, rfl, rx⟩ := arg_int h2
  obtain ⟨c, hc, _, hE⟩ := chain_ex r0 r1 r2 r3 r4 r5 0
  rw [f11]
  have g5 := hc.2.2.2.2.1
  have g6 := hc.2.2.2.2.2.2.2.2
  have g7 := hc.2.2.2.2.2.1
  have hM : M = 1099511627776 := rfl
  have q1 : M / c.c5 ≤ M := Int.ediv_le_self _ (by omega)
  have q2 : 1 ≤ M / c.c5 := (Int.le_ediv_iff_mul_le (by omega)).2 (by omega)
  simp only [e28, hE, bind_rb, ret1_r, bool_vb, Option.bind_some, cond_t, cells_agg, uncons_c, int_vi, int_vu, nil_n]
  rw [if_neg (show ¬ c.c5 = 0 by omega), M_div g5.1, e29 rx (by omega)]
  have hp := pk_range (c := x) (n := M / c.c5) (by omega)
  generalize pk x (M / c.c5) = y at hp
  simp only [Option.bind_some, ret1_r, int_vi]
  have w1 : IntKind.wrap IntKind.i64 (Int.add 1 y) = 1 + y := wi64 rfl (by omega) (by omega)
  rw [w1]
  obtain ⟨s, hs⟩ : ∃ s, s = 1 + y := ⟨_, rfl⟩
  rw [← hs]
  have w2 : IntKind.wrap IntKind.i64 (Int.add s 1) = s + 1 := wi64 rfl (by omega) (by omega)
  rw [w2]
  have ho : okS c s := ok_of_le hc (by omega) (by omega)
  have hb := okS_bounds ho
  have hlo : 1 * c.c5 ≤ s * c.c5 := Int.mul_le_mul_of_nonneg_right (by omega) (by omega)
  have hl : lo c s = s * c.c5 - c.c6 := if_neg (by omega)
  have he : (s + 1) * c.c5 = s * c.c5 + c.c5 := by rw [Int.add_mul, Int.one_mul]
  rw [show E cx (.fn 30) _ [] = _ from e30 c s, show E cx (.fn 32) _ [] = _ from e32 c s, show opensOf c s = (s * c.c5 - c.c6, 0) from (if_pos ho).trans (by rw [hl]), show closesOf c s = (hi c s, 0) from if_pos ho]
  simp only [bind_pr, tup_t, uncons_c, nil_n, Option.bind_some, ret1_r, int_vi]
  rw [show E cx (.fn 30) _ [] = _ from e30 c (s + 1)]
  simp only [bind_pr, tup_t, uncons_c, nil_n, Option.bind_some, ret1_r, int_vi]
  rw [show E cx (.fn 32) _ [] = _ from e32 c (s + 1)]
  simp only [bind_pr, tup_t, uncons_c, nil_n, Option.bind_some, ret1_r, int_vi]
  have w3 : IntKind.wrap IntKind.i64 (Int.mul s c.c5) = s * c.c5 := wi64 rfl (by omega) (by omega)
  have w4 : IntKind.wrap IntKind.i64 (Int.sub (s * c.c5) c.c6) = s * c.c5 - c.c6 := wi64 rfl (by omega) (by omega)
  have hh : hi c s ≤ M ∧ s * c.c5 ≤ hi c s := by unfold hi; split <;> omega
  have w5 : IntKind.wrap IntKind.i64 (Int.sub (hi c s) (s * c.c5 - c.c6)) = hi c s - (s * c.c5 - c.c6) := wi64 rfl (by omega) (by omega)
  have w6 : IntKind.wrap IntKind.i64 (Int.add (hi c s - (s * c.c5 - c.c6)) 1) = hi c s - (s * c.c5 - c.c6) + 1 := wi64 rfl (by omega) (by omega)
  have w7 : IntKind.wrap IntKind.i64 (Int.add c.c7 1) = c.c7 + 1 := wi64 rfl (by omega) (by omega)
  have w8 : IntKind.wrap IntKind.i64 (Int.mul (c.c7 + 1) c.c5) = (c.c7 + 1) * c.c5 := wi64 rfl (by omega) (by omega)
  have w9 : IntKind.wrap IntKind.i64 (Int.mul 2 c.c6) = 2 * c.c6 := wi64 rfl (by omega) (by omega)
  have w10 : IntKind.wrap IntKind.i64 (Int.add ((c.c7 + 1) * c.c5) (2 * c.c6)) = (c.c7 + 1) * c.c5 + 2 * c.c6 := wi64 rfl (by omega) (by omega)
  have w11 : IntKind.wrap IntKind.i64 (Int.mul (s + 1) c.c5) = s * c.c5 + c.c5 := wi64 he (by omega) (by omega)
  have w12 : IntKind.wrap IntKind.i64 (Int.add (s * c.c5 - c.c6) c.c5) = s * c.c5 - c.c6 + c.c5 := wi64 rfl (by omega) (by omega)
  have w13 : IntKind.wrap IntKind.i64 (Int.add (hi c s) c.c5) = hi c s + c.c5 := wi64 rfl (by omega) (by omega)
  simp only [w3, w4, w5, w6, w7, w8, w9, w10, w11, w12, w13]
  rw [nb0, show ((s * c.c5 - c.c6) != (s * c.c5 - c.c6)) = false by simp]
  simp only [cond_f]
  have fin : (bif decide (s * c.c5 + c.c5 > 1099511627776) then bif decide ((opensOf c (s + 1)).2 = 8) then bif decide ((closesOf c (s + 1)).2 = 8) then bif decide ((opensOf c (s + 1)).1 = 0) then bif decide ((closesOf c (s + 1)).1 = 0) then
        some (Out.ret (vbool true), ([] : Heap)) else some (Out.ret (vbool false), []) else some (Out.ret (vbool false), []) else some (Out.ret (vbool false), []) else some (Out.ret (vbool false), [])
      else bif decide ((opensOf c (s + 1)).2 = 0) then bif decide ((closesOf c (s + 1)).2 = 0) then bif decide ((opensOf c (s + 1)).1 = s * c.c5 - c.c6 + c.c5) then bif decide ((closesOf c (s + 1)).1 = hi c s + c.c5) then
        some (Out.ret (vbool true), []) else bif decide ((closesOf c (s + 1)).1 = 1099511627776) then bif decide (hi c s + c.c5 > 1099511627776) then some (Out.ret (vbool true), []) else some (Out.ret (vbool false), [])
        else some (Out.ret (vbool false), []) else some (Out.ret (vbool false), []) else some (Out.ret (vbool false), []) else some (Out.ret (vbool false), [])) = rb true := by
    by_cases h5 : s * c.c5 + c.c5 > 1099511627776
    · have hn : ¬ okS c (s + 1) := fun hh => by have := hh.2.2; rw [he] at this; omega
      have her : errOf c (s + 1) = 8 := if_pos ⟨hc, by omega⟩
      rw [show opensOf c (s + 1) = (0, 8) from (if_neg hn).trans (by rw [her]), show closesOf c (s + 1) = (0, 8) from (if_neg hn).trans (by rw [her]), decide_eq_true h5]
      rfl
    · have hy : okS c (s + 1) := ⟨hc, by omega, by rw [he]; omega⟩
      have hl2 : lo c (s + 1) = s * c.c5 - c.c6 + c.c5 := by unfold lo; rw [he]; split <;> omega
      rw [show opensOf c (s + 1) = (s * c.c5 - c.c6 + c.c5, 0) from (if_pos hy).trans (by rw [hl2]), show closesOf c (s + 1) = (hi c (s + 1), 0) from if_pos hy, decide_eq_false h5]
      simp only [cond_f, decide_true, cond_t]
      by_cases h6 : hi c (s + 1) = hi c s + c.c5
      · rw [decide_eq_true h6]; rfl
      · rw [decide_eq_false h6]
        have h7 : hi c (s + 1) = 1099511627776 ∧ hi c s + c.c5 > 1099511627776 := by
          unfold hi at h6 ⊢
          rw [he] at h6 ⊢
          revert h6
          split <;> split <;> omega
        rw [decide_eq_true h7.1, decide_eq_true h7.2]; rfl
  by_cases h4 : hi c s < 1099511627776
  · rw [decide_eq_true h4]
    have h8 : hi c s - (s * c.c5 - c.c6) + 1 = (c.c7 + 1) * c.c5 + 2 * c.c6 := by
      unfold hi at h4 ⊢
      split at h4
      · omega
      · rename_i h9
        rw [if_neg h9]
        omega
    rw [show (hi c s - (s * c.c5 - c.c6) + 1 != (c.c7 + 1) * c.c5 + 2 * c.c6) = false by rw [h8]; simp]
    simp only [cond_t, cond_f]
    rw [decide_eq_false (show ¬ hi c s > 1099511627776 by omega)]
    exact fin
  · rw [decide_eq_false h4]
    simp only [cond_f]
    rw [decide_eq_false (show ¬ hi c s > 1099511627776 by omega)]
    exact fin
end Go.Proofs.Av
