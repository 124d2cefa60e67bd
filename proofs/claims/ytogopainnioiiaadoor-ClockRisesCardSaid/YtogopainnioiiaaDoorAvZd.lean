/- The laws of ways forward, of rising. -/
import Derived.Test.YtogopainnioiiaaDoorAvZb
import Derived.Test.YtogopainnioiiaaDoorAvY6
import Derived.Test.YtogopainnioiiaaDoorAvY7
namespace Go.Proofs.Av
open Go
theorem ne00 : ((0 : Int) != 0) = false := rfl
theorem ne80 : ((8 : Int) != 0) = true := rfl
theorem ne88 : ((8 : Int) != 8) = false := rfl
theorem law6 (avs : List AV) (h : ArgsFit cx.P [25, 3, 3, 3] avs) : E cx (.fn 6) avs [] = rb true := by
  obtain ⟨a, rs, rfl, h1, h⟩ := args_cons h
  obtain ⟨b, rs, rfl, h2, h⟩ := args_cons h
  obtain ⟨b, rs, rfl, h3, h⟩ := args_cons h
  obtain ⟨b, rs, rfl, h4, h⟩ := args_cons h
  obtain rfl := args_nil h
  obtain ⟨n0, n1, n2, n3, n4, n5, rfl, r0, r1, r2, r3, r4, r5⟩ := arg_row h1
  obtain ⟨x, rfl, rx⟩ := arg_int h2
  obtain ⟨y, rfl, ry⟩ := arg_int h3
  obtain ⟨z, rfl, rz⟩ := arg_int h4
  obtain ⟨c, hc, _, hE⟩ := chain_ex r0 r1 r2 r3 r4 r5 0
  rw [f6]
  have hM : M = 1099511627776 := rfl
  simp only [e12, hE, bind_rb, ret1_r, bool_vb, Option.bind_some, cond_t, cells_agg, uncons_c, int_vi, int_vu, nil_n]
  rw [e17 rx (by omega)]
  simp only [Option.bind_some, ret1_r, int_vi]
  rw [e17 ry (by omega)]
  simp only [Option.bind_some, ret1_r, int_vi]
  rw [e17 rz (by omega)]
  simp only [Option.bind_some, ret1_r, int_vi]
  have hp := pk_range (c := x) (n := 1099511627777) (by omega)
  generalize pk x 1099511627777 = t at hp
  have hq := pk_range (c := y) (n := 2199023255552) (by omega)
  generalize pk y 2199023255552 = a at hq
  have hr := pk_range (c := z) (n := 2199023255552) (by omega)
  generalize pk z 2199023255552 = b at hr
  have w1 : IntKind.wrap .i64 (Int.add a b) = a + b := wr_id (n := a + b) (by omega) (by omega)
  have w2 : IntKind.wrap .i64 (Int.add t a) = t + a := wr_id (n := t + a) (by omega) (by omega)
  have w3 : IntKind.wrap .i64 (Int.add (t + a) b) = t + a + b := wr_id (n := t + a + b) (by omega) (by omega)
  have e1 : forwardOf c t a = if t + a ≤ M then (t + a, 0) else (0, 8) := if_pos ⟨hc, by omega, by omega, by omega⟩
  have e2 : forwardOf c t (a + b) = if t + (a + b) ≤ M then (t + (a + b), 0) else (0, 8) := if_pos ⟨hc, by omega, by omega, by omega⟩
  simp only [e26, bind_pr, tup_t, uncons_c, nil_n, Option.bind_some, ret1_r, int_vi, w1, w2, w3, e1, e2]
  by_cases h5 : t + a ≤ M
  · have e3 : forwardOf c (t + a) b = if t + a + b ≤ M then (t + a + b, 0) else (0, 8) := if_pos ⟨hc, by omega, by omega, by omega⟩
    rw [if_pos h5]
    simp only [e3]
    rw [show t + (a + b) = t + a + b by omega]
    by_cases h6 : t + a + b ≤ M
    · rw [if_pos h6]
      have h5' : t + a ≤ 1099511627776 := h5
      have h6' : t + a + b ≤ 1099511627776 := h6
      simp [h5', h6', rb]
    · rw [if_neg h6]
      have h5' : t + a ≤ 1099511627776 := h5
      have h6' : ¬ t + a + b ≤ 1099511627776 := h6
      simp [h5', h6', rb]
  · rw [if_neg h5]
    have h6 : ¬ t + (a + b) ≤ M := by omega
    rw [if_neg h6]
    have h5' : ¬ t + a ≤ 1099511627776 := h5
    have h6' : ¬ t + a + b ≤ 1099511627776 := by omega
    simp [h5', h6', rb]
theorem law7 (avs : List AV) (h : ArgsFit cx.P [25, 3, 3] avs) : E cx (.fn 7) avs [] = rb true := by
  obtain ⟨a, rs, rfl, h1, h⟩ := args_cons h
  obtain ⟨b, rs, rfl, h2, h⟩ := args_cons h
  obtain ⟨b, rs, rfl, h3, h⟩ := args_cons h
  obtain rfl := args_nil h
  obtain ⟨n0, n1, n2, n3, n4, n5, rfl, r0, r1, r2, r3, r4, r5⟩ := arg_row h1
  obtain ⟨x, rfl, rx⟩ := arg_int h2
  obtain ⟨y, rfl, ry⟩ := arg_int h3
  obtain ⟨c, hc, _, hE⟩ := chain_ex r0 r1 r2 r3 r4 r5 0
  rw [f7]
  have hM : M = 1099511627776 := rfl
  have g5 := hc.2.2.2.2.1
  have g2 := hc.2.1
  simp only [e12, hE, bind_rb, ret1_r, bool_vb, Option.bind_some, cond_t, cells_agg, uncons_c, int_vi, int_vu, nil_n]
  rw [e17 rx (by omega)]
  simp only [Option.bind_some, ret1_r, int_vi]
  rw [e17 ry (by omega)]
  simp only [Option.bind_some, ret1_r, int_vi]
  have hp := pk_range (c := x) (n := 1099511627777) (by omega)
  generalize pk x 1099511627777 = a at hp
  have hq := pk_range (c := y) (n := 1099511627777) (by omega)
  generalize pk y 1099511627777 = b at hq
  have hmn : (if b < a then b else a) ≤ (if b > a then b else a) := by split <;> split <;> omega
  have hm : 0 ≤ (if b < a then b else a) ∧ (if b < a then b else a) ≤ M := by split <;> omega
  have hn : 0 ≤ (if b > a then b else a) ∧ (if b > a then b else a) ≤ M := by split <;> omega
  generalize (if b < a then b else a) = m at *
  generalize (if b > a then b else a) = n at *
  have k1 : slotOf c m = (m / c.c5, 0) := if_pos ⟨hc, hm⟩
  have k2 : slotOf c n = (n / c.c5, 0) := if_pos ⟨hc, hn⟩
  simp only [e18, bind_pr, tup_t, uncons_c, nil_n, Option.bind_some, ret1_r, int_vi, k1, k2]
  have s0 : 0 ≤ m / c.c5 := Int.ediv_nonneg hm.1 (by omega)
  have s1 : m / c.c5 ≤ m := Int.ediv_le_self _ hm.1
  have s2 : m / c.c5 * c.c5 ≤ m := Int.ediv_mul_le _ (by omega)
  have t0 : 0 ≤ n / c.c5 := Int.ediv_nonneg hn.1 (by omega)
  have t1 : n / c.c5 ≤ n := Int.ediv_le_self _ hn.1
  have t2 : n / c.c5 * c.c5 ≤ n := Int.ediv_mul_le _ (by omega)
  have st : m / c.c5 ≤ n / c.c5 := Int.ediv_le_ediv (by omega) hmn
  generalize m / c.c5 = s at *
  generalize n / c.c5 = t at *
  rw [e22 c s ⟨by omega, by omega⟩, e22 c t ⟨by omega, by omega⟩]
  have k3 : epochOf c s = (s / c.c2, 0) := if_pos ⟨hc, s0⟩
  have k4 : epochOf c t = (t / c.c2, 0) := if_pos ⟨hc, t0⟩
  have k5 : startOf c s = (s * c.c5, 0) := (if_pos ⟨hc, s0⟩).trans (if_pos (by omega))
  have k6 : startOf c t = (t * c.c5, 0) := (if_pos ⟨hc, t0⟩).trans (if_pos (by omega))
  have pq : s / c.c2 ≤ t / c.c2 := Int.ediv_le_ediv (by omega) st
  have uv : s * c.c5 ≤ t * c.c5 := Int.mul_le_mul_of_nonneg_right st (by omega)
  have iff : (decide (s = t) == decide (s * c.c5 = t * c.c5)) = true := by
    have : s = t ↔ s * c.c5 = t * c.c5 := ⟨fun h => by rw [h], fun h => Int.eq_of_mul_eq_mul_right (by omega) h⟩
    simp [this]
  simp only [e20, bind_pr, tup_t, uncons_c, nil_n, Option.bind_some, ret1_r, int_vi, k3, k4, k5, k6]
  have iff2 : s = t ↔ s * c.c5 = t * c.c5 := ⟨fun h => by rw [h], fun h => Int.eq_of_mul_eq_mul_right (by omega) h⟩
  by_cases h9 : s = t
  · have h10 := iff2.1 h9
    simp [st, pq, uv, h9, h10, rb]
  · have h10 : ¬ s * c.c5 = t * c.c5 := fun h => h9 (iff2.2 h)
    simp [st, pq, uv, h9, h10, rb]
end Go.Proofs.Av
