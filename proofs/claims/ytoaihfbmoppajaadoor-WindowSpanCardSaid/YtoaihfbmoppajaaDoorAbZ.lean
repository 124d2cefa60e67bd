/- The clock's functions and their twins, in closed form. -/
import Derived.Test.YtoaihfbmoppajaaDoorAbY
namespace Go.Proofs.Av
open Go

theorem wr_id {n : Int} (h1 : -9223372036854775808 ≤ n) (h2 : n ≤ 9223372036854775807) : IntKind.wrap .i64 n = n := by
  simp only [IntKind.wrap, IntKind.bits, IntKind.signed, Bool.true_and]
  split <;> simp_all <;> omega
theorem int_vi (n : Int) : AV.int? .i64 (vi n) = some n := rfl
theorem int_vu (n : Int) : AV.int? .u64 (vu n) = some n := rfl
theorem bool_vb (b : Bool) : AV.bool? (vbool b) = some b := rfl
theorem tup_t (l : List AV) : AV.tup? (.tuple l) = some l := rfl
theorem cells_agg (l : List AV) : AV.cells? (.agg l) = some l := rfl
theorem uncons_c {α : Type} (a : α) (l : List α) : uncons? (a :: l) = some (a, l) := rfl
theorem nil_n {α : Type} : nil? ([] : List α) = some () := rfl
theorem ret1_r (v : AV) : ret1 (Out.ret v, []) = some v := rfl
theorem cond_t {α : Type} (a b : α) : cond true a b = a := rfl
theorem cond_f {α : Type} (a b : α) : cond false a b = b := rfl
theorem cond_ret (b x : Bool) : (bif b then some (Out.ret (vbool x), ([] : Heap)) else some (Out.ret (vbool false), [])) = some (Out.ret (vbool (b && x)), []) := by cases b <;> rfl
theorem cond_ret' (b x : Bool) : (bif b then some (Out.ret (vbool false), ([] : Heap)) else some (Out.ret (vbool x), [])) = some (Out.ret (vbool (!b && x)), []) := by cases b <;> rfl
abbrev rb (b : Bool) : Option (Out × Heap) := some (Out.ret (vbool b), [])
def pr (p : Int × Int) : Option (Out × Heap) := some (Out.ret (AV.tuple [vi p.1, vi p.2]), [])
abbrev RI (n : Int) : Prop := -9223372036854775808 ≤ n ∧ n ≤ 9223372036854775807

theorem e38 (n a b : Int) : E cx (.fn 14) [vi n, vi a, vi b] [] = rb (decide (a ≤ n) && decide (n ≤ b)) := by
  rw [f14]; simp only [cond_ret, Bool.and_true, ge_iff_le]
/-- A chain. -/
structure Ch where
  (c1 c2 c3 c4 c5 c6 c7 c8 c9 c10 : Int)
abbrev Ch.av (c : Ch) : AV := .agg [vi c.c1, vi c.c2, vi c.c3, vi c.c4, vi c.c5, vi c.c6, vi c.c7, vi c.c8, vi c.c9, vu c.c10]
def Ch.fit (c : Ch) : Prop := (1 ≤ c.c1 ∧ c.c1 ≤ 1024) ∧ (1 ≤ c.c2 ∧ c.c2 ≤ 32) ∧ (1 ≤ c.c3 ∧ c.c3 ≤ 8) ∧ (1 ≤ c.c4 ∧ c.c4 ≤ 64) ∧ (1 ≤ c.c5 ∧ c.c5 ≤ 1000) ∧ (1 ≤ c.c7 ∧ c.c7 ≤ 64) ∧ (0 ≤ c.c8 ∧ c.c8 ≤ 90) ∧ (1 ≤ c.c9 ∧ c.c9 ≤ 16) ∧ (0 ≤ c.c6 ∧ c.c6 ≤ c.c5)
instance (c : Ch) : Decidable c.fit := by unfold Ch.fit; infer_instance
theorem e15 (c : Ch) : E cx (.fn 13) [c.av] [] = rb (decide c.fit) := by
  unfold Ch.av
  rw [f13]
  simp only [e38, Option.bind_some, ret1_r, bool_vb, cond_ret]
  congr 4
  rw [Bool.eq_iff_iff]
  simp only [Bool.and_eq_true, decide_eq_true_eq, and_true]
  exact Iff.rfl
def M : Int := 1099511627776
def slotOf (c : Ch) (t : Int) : Int × Int := if c.fit ∧ 0 ≤ t ∧ t ≤ M then (t / c.c5, 0) else (0, 1)
def startOf (c : Ch) (s : Int) : Int × Int := if c.fit ∧ 0 ≤ s then (if s * c.c5 ≤ M then (s * c.c5, 0) else (0, 8)) else (0, 1)
def epochOf (c : Ch) (s : Int) : Int × Int := if c.fit ∧ 0 ≤ s then (s / c.c2, 0) else (0, 1)
def firstOf (c : Ch) (p : Int) : Int × Int := if c.fit ∧ 0 ≤ p then (if p * c.c2 * c.c5 ≤ M then (p * c.c2, 0) else (0, 8)) else (0, 1)
def forwardOf (c : Ch) (t b : Int) : Int × Int := if c.fit ∧ 0 ≤ t ∧ t ≤ M ∧ 0 ≤ b then (if t + b ≤ M then (t + b, 0) else (0, 8)) else (0, 1)
theorem div_id {t c : Int} (ht : 0 ≤ t) (hr : RI t) (hc : 1 ≤ c) : IntKind.wrap .i64 (Int.tdiv t c) = t / c := by
  rw [Int.tdiv_eq_ediv_of_nonneg ht]
  have h1 : 0 ≤ t / c := Int.ediv_nonneg ht (by omega)
  have h2 : t / c ≤ t := Int.ediv_le_self c ht
  exact wr_id (by omega) (by have := hr.2; omega)
theorem fit_true {c : Ch} (h : c.fit) : decide c.fit = true := decide_eq_true h
theorem fit_false {c : Ch} (h : ¬ c.fit) : decide c.fit = false := decide_eq_false h
theorem in_true {t : Int} (h1 : 0 ≤ t) (h2 : t ≤ M) : (decide (0 ≤ t) && decide (t ≤ 1099511627776)) = true := by
  have : t ≤ 1099511627776 := h2
  simp [h1, this]
theorem in_false {t : Int} (h : ¬ (0 ≤ t ∧ t ≤ M)) : (decide (0 ≤ t) && decide (t ≤ 1099511627776)) = false := by
  rw [Bool.eq_false_iff]; intro hh; simp at hh; exact h hh
theorem e18 (c : Ch) (t : Int) : E cx (.fn 7) [c.av, vi t] [] = pr (slotOf c t) := by
  refine (f7 _ _ _ _ _ _ _ _ _ _ _).trans ?_
  rw [show E cx (.fn 13) _ [] = _ from e15 c]
  simp only [e38, Option.bind_some, ret1_r, bool_vb]
  by_cases h : c.fit
  · rw [fit_true h]
    by_cases h2 : 0 ≤ t ∧ t ≤ M
    · have h3 : ¬ c.c5 = 0 := by have := h.2.2.2.2.1.1; omega
      have hM : M = 1099511627776 := rfl
      rw [in_true h2.1 h2.2, show slotOf c t = _ from if_pos ⟨h, h2⟩]
      simp only [cond_t, h3, if_false, pr]
      rw [div_id h2.1 ⟨by omega, by omega⟩ h.2.2.2.2.1.1]
    · rw [in_false h2, show slotOf c t = _ from if_neg (fun x => h2 x.2)]
      rfl
  · rw [fit_false h, show slotOf c t = _ from if_neg (fun x => h x.1)]
    rfl
theorem M_div {c : Int} (h1 : 1 ≤ c) : IntKind.wrap .i64 (Int.tdiv 1099511627776 c) = M / c :=
  div_id (t := 1099511627776) (by omega) ⟨by omega, by omega⟩ h1
theorem le_M_div {s c : Int} (h1 : 1 ≤ c) : s ≤ M / c ↔ s * c ≤ M := Int.le_ediv_iff_mul_le (by omega)
theorem e20 (c : Ch) (s : Int) : E cx (.fn 19) [c.av, vi s] [] = pr (startOf c s) := by
  refine (f19 _ _ _ _ _ _ _ _ _ _ _).trans ?_
  rw [show E cx (.fn 13) _ [] = _ from e15 c]
  simp only [Option.bind_some, ret1_r, bool_vb]
  by_cases h : c.fit
  · rw [fit_true h]
    by_cases h2 : 0 ≤ s
    · have h3 : ¬ c.c5 = 0 := by have := h.2.2.2.2.1.1; omega
      rw [show startOf c s = _ from if_pos ⟨h, h2⟩]
      simp only [cond_t, h3, if_false]
      rw [M_div h.2.2.2.2.1.1, decide_eq_false (show ¬ s < 0 by omega)]
      by_cases h4 : s * c.c5 ≤ M
      · rw [decide_eq_false (by rw [gt_iff_lt, Int.not_lt]; exact (le_M_div h.2.2.2.2.1.1).2 h4), if_pos h4]
        have h5 : 0 ≤ s * c.c5 := Int.mul_nonneg h2 (by have := h.2.2.2.2.1.1; omega)
        have hM : M = 1099511627776 := rfl
        simp only [cond_f, pr]
        rw [show Int.mul s c.c5 = s * c.c5 from rfl, wr_id (by omega) (by omega)]
      · rw [decide_eq_true (by rw [gt_iff_lt, ← Int.not_le]; exact fun x => h4 ((le_M_div h.2.2.2.2.1.1).1 x)), if_neg h4]
        rfl
    · rw [decide_eq_true (show s < 0 by omega), show startOf c s = _ from if_neg (fun x => h2 x.2)]
      rfl
  · rw [fit_false h, show startOf c s = _ from if_neg (fun x => h x.1)]
    rfl
end Go.Proofs.Av
