/- The window's functions and their twins, in closed form. -/
import Derived.Test.YtogopainnioiiaaDoorAwZb
namespace Go.Proofs.Av
open Go

theorem e40 (n : Int) : E cx (.fn 40) [vi n] [] = rb (decide (0 ≤ n) && decide (n ≤ 1099511627776)) := by
  rw [f40]; simp only [cond_ret, Bool.and_true, ge_iff_le]
theorem e29 {c n : Int} (hc : RI c) (hn : 0 < n) : E cx (.fn 29) [vi c, vi n] [] = some (Out.ret (vi (pk c n)), []) := by
  rw [f29]
  have h0 : ¬ n = 0 := by omega
  obtain ⟨h1, h2⟩ := hc
  by_cases h : c < 0
  · rw [decide_eq_true h]
    simp only [cond_t, h0, if_false, pk, h, if_true]
    rw [show Int.add c 1 = c + 1 from rfl, wr_id (n := c + 1) (by omega) (by omega), show Int.sub 0 (c + 1) = -(c + 1) by show 0 - (c + 1) = _; omega, wr_id (by omega) (by omega), Int.tmod_eq_emod_of_nonneg (by omega)]
  · rw [decide_eq_false h]
    simp only [cond_f, h0, if_false, pk, h, if_true]
    rw [Int.tmod_eq_emod_of_nonneg (by omega)]

theorem e21 (c : Ch) (s : Int) (hs : RI s) : E cx (.fn 21) [c.av, vi s] [] = pr (startOf c s) := by
  refine (f21 _ _ _ _ _ _ _ _ _ _ _).trans ?_
  rw [show E cx (.fn 16) _ [] = _ from e16 c]
  simp only [e39, Option.bind_some, ret1_r, bool_vb]
  have hM : M = 1099511627776 := rfl
  by_cases h : c.fit
  · rw [fit_true h]
    have g5 := h.2.2.2.2.1
    by_cases h2 : 0 ≤ s
    · rw [show startOf c s = _ from if_pos ⟨h, h2⟩]
      simp only [cond_t]
      rw [decide_eq_false (show ¬ s < 0 by omega)]
      simp only [cond_f]
      have h5 : 0 ≤ s * c.c5 := Int.mul_nonneg h2 (by omega)
      have h6 : s * 1 ≤ s * c.c5 := Int.mul_le_mul_of_nonneg_left g5.1 h2
      rw [Int.mul_one] at h6
      by_cases h3 : s ≤ M
      · rw [in_true h2 h3]
        have h7 : s * c.c5 ≤ s * 1000 := Int.mul_le_mul_of_nonneg_left g5.2 h2
        have hw : IntKind.wrap .i64 (Int.mul s c.c5) = s * c.c5 := wr_id (n := s * c.c5) (by omega) (by omega)
        simp only [cond_t, hw]
        by_cases h4 : s * c.c5 ≤ M
        · rw [in_true h5 h4, if_pos h4]
          rfl
        · rw [in_false (fun x => h4 x.2), if_neg h4]
          rfl
      · rw [in_false (fun x => h3 x.2), if_neg (by omega)]
        rfl
    · rw [decide_eq_true (show s < 0 by omega), show startOf c s = _ from if_neg (fun x => h2 x.2)]
      rfl
  · rw [fit_false h, show startOf c s = _ from if_neg (fun x => h x.1)]
    rfl

def okS (c : Ch) (s : Int) : Prop := c.fit ∧ 0 ≤ s ∧ s * c.c5 ≤ M
instance (c : Ch) (s : Int) : Decidable (okS c s) := by unfold okS; infer_instance
def lo (c : Ch) (s : Int) : Int := if 0 > s * c.c5 - c.c6 then 0 else s * c.c5 - c.c6
def hi (c : Ch) (s : Int) : Int := if M < s * c.c5 + (c.c7 + 1) * c.c5 + c.c6 - 1 then M else s * c.c5 + (c.c7 + 1) * c.c5 + c.c6 - 1
def errOf (c : Ch) (s : Int) : Int := if c.fit ∧ 0 ≤ s then 8 else 1
def opensOf (c : Ch) (s : Int) : Int × Int := if okS c s then (lo c s, 0) else (0, errOf c s)
def closesOf (c : Ch) (s : Int) : Int × Int := if okS c s then (hi c s, 0) else (0, errOf c s)
theorem start_ok {c : Ch} {s : Int} (h : okS c s) : startOf c s = (s * c.c5, 0) := (if_pos ⟨h.1, h.2.1⟩).trans (if_pos h.2.2)
theorem start_no {c : Ch} {s : Int} (h : ¬ okS c s) : startOf c s = (0, errOf c s) := by
  unfold startOf errOf
  by_cases h1 : c.fit ∧ 0 ≤ s
  · rw [if_pos h1, if_pos h1, if_neg (fun h2 => h ⟨h1.1, h1.2, h2⟩)]
  · rw [if_neg h1, if_neg h1]
theorem err_ne (c : Ch) (s : Int) : (errOf c s != 0) = true := by unfold errOf; split <;> rfl
theorem okS_bounds {c : Ch} {s : Int} (h : okS c s) : 0 ≤ s * c.c5 ∧ s * c.c5 ≤ 1099511627776 ∧ s ≤ s * c.c5 ∧ 0 ≤ (c.c7 + 1) * c.c5 ∧ (c.c7 + 1) * c.c5 ≤ 65000 ∧ c.c5 ≤ (c.c7 + 1) * c.c5 := by
  obtain ⟨hf, h1, h2⟩ := h
  have g5 := hf.2.2.2.2.1
  have g7 := hf.2.2.2.2.2.1
  have a := Int.mul_nonneg h1 (show 0 ≤ c.c5 by omega)
  have b : s * 1 ≤ s * c.c5 := Int.mul_le_mul_of_nonneg_left g5.1 h1
  have d := Int.mul_nonneg (show 0 ≤ c.c7 + 1 by omega) (show 0 ≤ c.c5 by omega)
  have e : (c.c7 + 1) * c.c5 ≤ 65 * c.c5 := Int.mul_le_mul_of_nonneg_right (by omega) (by omega)
  have f : 1 * c.c5 ≤ (c.c7 + 1) * c.c5 := Int.mul_le_mul_of_nonneg_right (by omega) (by omega)
  have hM : M = 1099511627776 := rfl
  omega
theorem opens_tail {c : Ch} {s : Int} (h : okS c s) : (if 0 > IntKind.wrap IntKind.i64 (Int.sub (s * c.c5) c.c6) then 0 else IntKind.wrap IntKind.i64 (Int.sub (s * c.c5) c.c6)) = lo c s := by
  have := okS_bounds h
  have g6 := h.1.2.2.2.2.2.2.2.2
  have g5 := h.1.2.2.2.2.1
  have hw : IntKind.wrap IntKind.i64 (Int.sub (s * c.c5) c.c6) = s * c.c5 - c.c6 := wr_id (n := s * c.c5 - c.c6) (by omega) (by omega)
  rw [hw]
  rfl
theorem closes_tail {c : Ch} {s : Int} (h : okS c s) : (if 1099511627776 < IntKind.wrap IntKind.i64 (Int.sub (IntKind.wrap IntKind.i64 (Int.add (IntKind.wrap IntKind.i64 (Int.add (s * c.c5)
    (IntKind.wrap IntKind.i64 (Int.mul (IntKind.wrap IntKind.i64 (Int.add c.c7 1)) c.c5)))) c.c6)) 1) then 1099511627776 else IntKind.wrap IntKind.i64 (Int.sub (IntKind.wrap IntKind.i64 (Int.add (IntKind.wrap IntKind.i64 (Int.add (s * c.c5)
    (IntKind.wrap IntKind.i64 (Int.mul (IntKind.wrap IntKind.i64 (Int.add c.c7 1)) c.c5)))) c.c6)) 1)) = hi c s := by
  have := okS_bounds h
  have g6 := h.1.2.2.2.2.2.2.2.2
  have g5 := h.1.2.2.2.2.1
  have g7 := h.1.2.2.2.2.2.1
  have w1 : IntKind.wrap IntKind.i64 (Int.add c.c7 1) = c.c7 + 1 := wr_id (n := c.c7 + 1) (by omega) (by omega)
  have w2 : IntKind.wrap IntKind.i64 (Int.mul (c.c7 + 1) c.c5) = (c.c7 + 1) * c.c5 := wr_id (n := (c.c7 + 1) * c.c5) (by omega) (by omega)
  have w3 : IntKind.wrap IntKind.i64 (Int.add (s * c.c5) ((c.c7 + 1) * c.c5)) = s * c.c5 + (c.c7 + 1) * c.c5 := wr_id (n := s * c.c5 + (c.c7 + 1) * c.c5) (by omega) (by omega)
  have w4 : IntKind.wrap IntKind.i64 (Int.add (s * c.c5 + (c.c7 + 1) * c.c5) c.c6) = s * c.c5 + (c.c7 + 1) * c.c5 + c.c6 := wr_id (n := s * c.c5 + (c.c7 + 1) * c.c5 + c.c6) (by omega) (by omega)
  have w5 : IntKind.wrap IntKind.i64 (Int.sub (s * c.c5 + (c.c7 + 1) * c.c5 + c.c6) 1) = s * c.c5 + (c.c7 + 1) * c.c5 + c.c6 - 1 := wr_id (n := s * c.c5 + (c.c7 + 1) * c.c5 + c.c6 - 1) (by omega) (by omega)
  rw [w1, w2, w3, w4, w5]
  rfl
theorem e30 (c : Ch) (s : Int) : E cx (.fn 30) [c.av, vi s] [] = pr (opensOf c s) := by
  refine (f30 _ _ _ _ _ _ _ _ _ _ _).trans ?_
  rw [show E cx (.fn 20) _ [] = _ from e20 c s]
  by_cases h : okS c s
  · rw [start_ok h, show opensOf c s = _ from if_pos h, ← opens_tail h]
    rfl
  · rw [start_no h, show opensOf c s = _ from if_neg h]
    simp only [bind_pr, ret1_r, tup_t, uncons_c, int_vi, nil_n, Option.bind_some, err_ne, cond_t]
    rfl
theorem e31 (c : Ch) (s : Int) (hs : RI s) : E cx (.fn 31) [c.av, vi s] [] = pr (opensOf c s) := by
  refine (f31 _ _ _ _ _ _ _ _ _ _ _).trans ?_
  rw [show E cx (.fn 21) _ [] = _ from e21 c s hs]
  by_cases h : okS c s
  · rw [start_ok h, show opensOf c s = _ from if_pos h, ← opens_tail h]
    rfl
  · rw [start_no h, show opensOf c s = _ from if_neg h]
    simp only [bind_pr, ret1_r, tup_t, uncons_c, int_vi, nil_n, Option.bind_some, err_ne, cond_t]
    rfl
theorem e32 (c : Ch) (s : Int) : E cx (.fn 32) [c.av, vi s] [] = pr (closesOf c s) := by
  refine (f32 _ _ _ _ _ _ _ _ _ _ _).trans ?_
  rw [show E cx (.fn 20) _ [] = _ from e20 c s]
  by_cases h : okS c s
  · rw [start_ok h, show closesOf c s = _ from if_pos h, ← closes_tail h]
    rfl
  · rw [start_no h, show closesOf c s = _ from if_neg h]
    simp only [bind_pr, ret1_r, tup_t, uncons_c, int_vi, nil_n, Option.bind_some, err_ne, cond_t]
    rfl
theorem e33 (c : Ch) (s : Int) (hs : RI s) : E cx (.fn 33) [c.av, vi s] [] = pr (closesOf c s) := by
  refine (f33 _ _ _ _ _ _ _ _ _ _ _).trans ?_
  rw [show E cx (.fn 21) _ [] = _ from e21 c s hs]
  by_cases h : okS c s
  · rw [start_ok h, show closesOf c s = _ from if_pos h, ← closes_tail h]
    rfl
  · rw [start_no h, show closesOf c s = _ from if_neg h]
    simp only [bind_pr, ret1_r, tup_t, uncons_c, int_vi, nil_n, Option.bind_some, err_ne, cond_t]
    rfl
def atOf (c : Ch) (t s : Int) : Int := if okS c s ∧ lo c s ≤ t then (if t > hi c s then 2 else 1) else 0
theorem e41 (c : Ch) (t s : Int) : E cx (.fn 41) [c.av, vi t, vi s] [] = some (Out.ret (vi (atOf c t s)), []) := by
  refine (f41 _ _ _ _ _ _ _ _ _ _ _ _).trans ?_
  rw [show E cx (.fn 30) _ [] = _ from e30 c s]
  unfold atOf
  by_cases h : okS c s
  · rw [show opensOf c s = _ from if_pos h]
    simp only [bind_pr, ret1_r, tup_t, uncons_c, int_vi, nil_n, Option.bind_some]
    rw [show ((0 : Int) != 0) = false from rfl, cond_f]
    by_cases h1 : lo c s ≤ t
    · rw [if_pos ⟨h, h1⟩, decide_eq_false (show ¬ t < lo c s by omega), cond_f, show E cx (.fn 32) _ [] = _ from e32 c s, show closesOf c s = _ from if_pos h]
      simp only [bind_pr, ret1_r, tup_t, uncons_c, int_vi, nil_n, Option.bind_some]
      by_cases h2 : t > hi c s
      · rw [decide_eq_true h2, if_pos h2]; rfl
      · rw [decide_eq_false h2, if_neg h2]; rfl
    · rw [if_neg (fun x => h1 x.2), decide_eq_true (show t < lo c s by omega)]; rfl
  · rw [show opensOf c s = _ from if_neg h, if_neg (fun x => h x.1)]
    simp only [bind_pr, ret1_r, tup_t, uncons_c, int_vi, nil_n, Option.bind_some, err_ne, cond_t]
def standOf (c : Ch) (t s : Int) : Int × Int := if c.fit ∧ 0 ≤ t ∧ t ≤ M ∧ 0 ≤ s then (atOf c t s, 0) else (0, 1)
theorem e34 (c : Ch) (t s : Int) : E cx (.fn 34) [c.av, vi t, vi s] [] = pr (standOf c t s) := by
  refine (f34 _ _ _ _ _ _ _ _ _ _ _ _).trans ?_
  rw [show E cx (.fn 15) _ [] = _ from e15 c]
  simp only [e40, Option.bind_some, ret1_r, bool_vb]
  unfold standOf
  by_cases h : c.fit
  · rw [fit_true h]
    by_cases h2 : 0 ≤ t ∧ t ≤ M
    · rw [in_true h2.1 h2.2]
      simp only [cond_t]
      by_cases h3 : 0 ≤ s
      · rw [if_pos ⟨h, h2.1, h2.2, h3⟩, decide_eq_false (show ¬ s < 0 by omega), show E cx (.fn 41) _ [] = _ from e41 c t s]
        rfl
      · rw [if_neg (fun x => h3 x.2.2.2), decide_eq_true (show s < 0 by omega)]; rfl
    · rw [in_false h2, if_neg (fun x => h2 ⟨x.2.1, x.2.2.1⟩)]; rfl
  · rw [fit_false h, if_neg (fun x => h x.1)]; rfl
theorem e35 (c : Ch) (t s : Int) (hs : RI s) : E cx (.fn 35) [c.av, vi t, vi s] [] = pr (standOf c t s) := by
  refine (f35 _ _ _ _ _ _ _ _ _ _ _ _).trans ?_
  rw [show E cx (.fn 16) _ [] = _ from e16 c]
  simp only [Option.bind_some, ret1_r, bool_vb]
  unfold standOf
  have hM : M = 1099511627776 := rfl
  by_cases h : c.fit
  · rw [fit_true h]
    simp only [cond_t]
    by_cases h1 : 0 ≤ t
    · rw [decide_eq_false (show ¬ t < 0 by omega)]
      by_cases h2 : t ≤ M
      · rw [decide_eq_false (show ¬ t > 1099511627776 by omega)]
        by_cases h3 : 0 ≤ s
        · rw [if_pos ⟨h, h1, h2, h3⟩, decide_eq_false (show ¬ s < 0 by omega), show E cx (.fn 31) _ [] = _ from e31 c s hs]
          simp only [cond_f]
          unfold atOf
          by_cases ho : okS c s
          · rw [show opensOf c s = _ from if_pos ho]
            simp only [bind_pr, ret1_r, tup_t, uncons_c, int_vi, nil_n, Option.bind_some]
            rw [show ((0 : Int) != 0) = false from rfl, cond_f]
            by_cases h4 : lo c s ≤ t
            · rw [if_pos ⟨ho, h4⟩, decide_eq_false (show ¬ t < lo c s by omega), cond_f, show E cx (.fn 33) _ [] = _ from e33 c s hs, show closesOf c s = _ from if_pos ho]
              simp only [bind_pr, ret1_r, tup_t, uncons_c, int_vi, nil_n, Option.bind_some]
              by_cases h5 : t > hi c s
              · rw [decide_eq_true h5, if_pos h5]; rfl
              · rw [decide_eq_false h5, if_neg h5]; rfl
            · rw [if_neg (fun x => h4 x.2), decide_eq_true (show t < lo c s by omega)]; rfl
          · rw [show opensOf c s = _ from if_neg ho, if_neg (fun x => ho x.1)]
            simp only [bind_pr, ret1_r, tup_t, uncons_c, int_vi, nil_n, Option.bind_some, err_ne, cond_t]
            rfl
        · rw [if_neg (fun x => h3 x.2.2.2), decide_eq_true (show s < 0 by omega)]; rfl
      · rw [if_neg (fun x => h2 x.2.2.1), decide_eq_true (show t > 1099511627776 by omega)]; rfl
    · rw [if_neg (fun x => h1 x.2.1), decide_eq_true (show t < 0 by omega)]; rfl
  · rw [fit_false h, if_neg (fun x => h x.1)]; rfl

/-! ### Which slots are ripe -/
def lowOf (c : Ch) (t : Int) : Int := if 0 > (t - c.c6) / c.c5 - c.c7 then 0 else (t - c.c6) / c.c5 - c.c7
def highOf (c : Ch) (t : Int) : Int := if (t + c.c6) / c.c5 < M / c.c5 then (t + c.c6) / c.c5 else M / c.c5
theorem late_iff {c : Ch} {t s : Int} (h : okS c s) (h1 : 0 ≤ t) (h2 : t ≤ M) : t > hi c s ↔ s < lowOf c t := by
  have g5 := h.1.2.2.2.2.1
  have hd : (t - c.c6) / c.c5 < s + c.c7 + 1 ↔ t - c.c6 < (s + c.c7 + 1) * c.c5 := Int.ediv_lt_iff_lt_mul (by omega)
  have he : (s + c.c7 + 1) * c.c5 = s * c.c5 + (c.c7 + 1) * c.c5 := by rw [show s + c.c7 + 1 = s + (c.c7 + 1) by omega, Int.add_mul]
  rw [he] at hd
  have h3 := h.2.1
  unfold hi lowOf
  split <;> split <;> omega
theorem early_iff {c : Ch} {t s : Int} (hf : c.fit) (h0 : 0 ≤ s) (h1 : 0 ≤ t) (h2 : t ≤ M) : (¬ (okS c s ∧ lo c s ≤ t)) ↔ highOf c t < s := by
  have g5 := hf.2.2.2.2.1
  have ha : s ≤ (t + c.c6) / c.c5 ↔ s * c.c5 ≤ t + c.c6 := Int.le_ediv_iff_mul_le (by omega)
  have hb : s ≤ M / c.c5 ↔ s * c.c5 ≤ M := Int.le_ediv_iff_mul_le (by omega)
  have hok : okS c s ↔ s * c.c5 ≤ M := ⟨fun h => h.2.2, fun h => ⟨hf, h0, h⟩⟩
  rw [hok]
  unfold lo highOf
  split <;> split <;> omega
theorem at_ripe {c : Ch} {t s : Int} (hf : c.fit) (h0 : 0 ≤ s) (h1 : 0 ≤ t) (h2 : t ≤ M) : atOf c t s = 1 ↔ lowOf c t ≤ s ∧ s ≤ highOf c t := by
  have he := early_iff hf h0 h1 h2
  unfold atOf
  by_cases h : okS c s ∧ lo c s ≤ t
  · have hl := late_iff h.1 h1 h2
    rw [if_pos h]
    have : ¬ highOf c t < s := fun hh => (he.2 hh) h
    split <;> omega
  · rw [if_neg h]
    have := he.1 h
    omega
theorem low_high {c : Ch} {t : Int} (hf : c.fit) (h1 : 0 ≤ t) (h2 : t ≤ M) : 0 ≤ t / c.c5 ∧ t / c.c5 ≤ t ∧ lowOf c t ≤ t / c.c5 ∧ t / c.c5 ≤ highOf c t ∧ highOf c t ≤ t / c.c5 + 1 ∧ 0 ≤ lowOf c t ∧ t / c.c5 - c.c7 - 2 ≤ lowOf c t := by
  have g5 := hf.2.2.2.2.1
  have g6 := hf.2.2.2.2.2.2.2.2
  have g7 := hf.2.2.2.2.2.1
  have a0 : 0 ≤ t / c.c5 := Int.ediv_nonneg h1 (by omega)
  have a1 : t / c.c5 ≤ t := Int.ediv_le_self _ h1
  have a2 : (t - c.c6) / c.c5 ≤ t / c.c5 := Int.ediv_le_ediv (by omega) (by omega)
  have a3 : t / c.c5 ≤ (t + c.c6) / c.c5 := Int.ediv_le_ediv (by omega) (by omega)
  have a4 : t / c.c5 ≤ M / c.c5 := Int.ediv_le_ediv (by omega) h2
  have a5 : (t + c.c6) / c.c5 ≤ (t + c.c5) / c.c5 := Int.ediv_le_ediv (by omega) (by omega)
  have a6 : (t + c.c5) / c.c5 = t / c.c5 + 1 := by rw [Int.add_ediv_of_dvd_right (Int.dvd_refl _), Int.ediv_self (by omega)]
  have a7 : (t - c.c5) / c.c5 ≤ (t - c.c6) / c.c5 := Int.ediv_le_ediv (by omega) (by omega)
  have a8 : (t - c.c5) / c.c5 = t / c.c5 - 1 := by
    rw [show t - c.c5 = t + -1 * c.c5 by omega, Int.add_mul_ediv_right _ _ (by omega)]; omega
  unfold lowOf highOf
  split <;> split <;> omega
end Go.Proofs.Av
