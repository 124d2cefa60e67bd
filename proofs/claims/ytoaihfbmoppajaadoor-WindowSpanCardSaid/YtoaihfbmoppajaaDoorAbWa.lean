/- The window's spans, in closed form. -/
import Derived.Test.YtoaihfbmoppajaaDoorAbW
namespace Go.Proofs.Av
open Go

theorem half {i j : Int} (h0 : 0 ≤ i) (h1 : i ≤ j) (h2 : j ≤ 1099511627776) :
    IntKind.wrap IntKind.i64 (ishr IntKind.u64 (IntKind.wrap IntKind.u64 (IntKind.wrap IntKind.i64 (Int.add i j))) 1) = (i + j) / 2 := by
  have w1 : IntKind.wrap IntKind.i64 (Int.add i j) = i + j := wr_id (n := i + j) (by omega) (by omega)
  have w2 : IntKind.wrap IntKind.u64 (i + j) = i + j := by
    simp only [IntKind.wrap, IntKind.bits, IntKind.signed, Bool.false_and]
    simp
    omega
  rw [w1, w2]
  have w3 : ishr IntKind.u64 (i + j) 1 = (i + j) / 2 := by
    unfold ishr
    rw [show (2 : Int) ^ (min (Int.toNat 1) IntKind.u64.bits) = 2 from rfl, Int.fdiv_eq_ediv_of_nonneg _ (by omega)]
  rw [w3]
  exact wr_id (by omega) (by omega)
theorem e43 (c : Ch) (i t f : Int) (h0 : 0 ≤ f) (h1 : 0 ≤ i) (h2 : f + i ≤ 1099511627776) :
    E cx (.fn 17) [vi i, AV.rop [vi c.c1, vi c.c2, vi c.c3, vi c.c4, vi c.c5, vi c.c6, vi c.c7, vi c.c8, vi c.c9, vu c.c10], AV.rop [vi t], AV.rop [vi f]] [] = rb (decide (atOf c t (f + i) = 1)) := by
  rw [f17]
  have hw : IntKind.wrap IntKind.i64 (Int.add f i) = f + i := wr_id (n := f + i) (by omega) (by omega)
  rw [hw, show E cx (.fn 18) _ [] = _ from e41 c t (f + i)]
  simp only [Option.bind_some, ret1_r, int_vi]
  by_cases h : atOf c t (f + i) = 1
  · rw [decide_eq_true h]; rfl
  · rw [decide_eq_false h]; rfl
abbrev fvOf (c : Ch) (t f : Int) : AV := AV.func (Go.Fn.func 17) [] [AV.rop [vi c.c1, vi c.c2, vi c.c3, vi c.c4, vi c.c5, vi c.c6, vi c.c7, vi c.c8, vi c.c9, vu c.c10], AV.rop [vi t], AV.rop [vi f]]
theorem gc_fv (c : Ch) (t f a b : Int) : gc [] [vi a, vi b] [fvOf c t f] [] = some ([vi a, vi b], [fvOf c t f], []) := rfl
theorem search_loop (c : Ch) (t f n r : Int) (hf : 0 ≤ f) (hn : f + n ≤ 1099511627776) (hn0 : n ≤ 1099511627776) (hr0 : 0 ≤ r) (hrn : r ≤ n) (lo : ∀ k, 0 ≤ k → k < r → atOf c t (f + k) ≠ 1) (hi : ∀ k, r ≤ k → k < n → atOf c t (f + k) = 1) :
    ∀ (m : Nat) (i j : Int), (j - i).toNat ≤ m → 0 ≤ i → i ≤ r → r ≤ j → j ≤ n → E cx (.loop 16 [true, true, false, false]) [vi i, vi j, fvOf c t f] [] = some (Out.jump (JX.exit 0) [vi r, vi r], [])
  | m, i, j, hm, h0, h1, h2, h3 => by
    rw [f16_l0]
    by_cases hij : i < j
    · rw [decide_eq_true hij]
      have hh := half h0 (show i ≤ j by omega) (by omega)
      rw [hh]
      have hk : E cx (.fn 17) [vi ((i + j) / 2), AV.rop [vi c.c1, vi c.c2, vi c.c3, vi c.c4, vi c.c5, vi c.c6, vi c.c7, vi c.c8, vi c.c9, vu c.c10], AV.rop [vi t], AV.rop [vi f]] [] = rb (decide (atOf c t (f + (i + j) / 2) = 1)) :=
        e43 c _ t f hf (by omega) (by omega)
      have hv : viewArg [] (fvOf c t f) = some (fvOf c t f) := rfl
      have hc : AV.call? [vi ((i + j) / 2)] (fvOf c t f) = some (17, [vi ((i + j) / 2), AV.rop [vi c.c1, vi c.c2, vi c.c3, vi c.c4, vi c.c5, vi c.c6, vi c.c7, vi c.c8, vi c.c9, vu c.c10], AV.rop [vi t], AV.rop [vi f]]) := rfl
      simp only [cond_t, hv, hc, hk, Option.bind_some, ret1_r, bool_vb, gc_fv]
      obtain ⟨m', rfl⟩ : ∃ m', m = m' + 1 := ⟨m - 1, by omega⟩
      by_cases hg : r ≤ (i + j) / 2
      · rw [decide_eq_true (hi _ hg (by omega)), cond_t]
        exact search_loop c t f n r hf hn hn0 hr0 hrn lo hi m' i ((i + j) / 2) (by omega) h0 h1 hg (by omega)
      · rw [decide_eq_false (lo _ (by omega) (by omega)), cond_f]
        have hw : IntKind.wrap IntKind.i64 (Int.add ((i + j) / 2) 1) = (i + j) / 2 + 1 := wr_id (n := (i + j) / 2 + 1) (by omega) (by omega)
        rw [hw]
        exact search_loop c t f n r hf hn hn0 hr0 hrn lo hi m' ((i + j) / 2 + 1) j (by omega) (by omega) (by omega) h2 h3
    · rw [decide_eq_false hij, cond_f, gc_fv]
      rw [show i = r by omega, show j = r by omega]
      rfl
theorem e42 (c : Ch) (t f n r : Int) (hf : 0 ≤ f) (hn : f + n ≤ 1099511627776) (hn0 : n ≤ 1099511627776) (hr0 : 0 ≤ r) (hrn : r ≤ n) (lo : ∀ k, 0 ≤ k → k < r → atOf c t (f + k) ≠ 1) (hi : ∀ k, r ≤ k → k < n → atOf c t (f + k) = 1) :
    E cx (.fn 16) [vi n, fvOf c t f] [] = some (Out.ret (vi r), []) := by
  rw [f16]
  have hwk : AV.wk (fvOf c t f) = fvOf c t f := rfl
  rw [hwk, search_loop c t f n r hf hn hn0 hr0 hrn lo hi n.toNat 0 n (by omega) (by omega) hr0 hrn (by omega)]
  rfl
def pr3 (p : Int × Int × Int) : Option (Out × Heap) := some (Out.ret (AV.tuple [vi p.1, vi p.2.1, vi p.2.2]), [])
def spanOf (c : Ch) (t : Int) : Int × Int × Int := if c.fit ∧ 0 ≤ t ∧ t ≤ M then (lowOf c t, highOf c t, 0) else (0, 0, 1)
theorem bind_pr3 (p : Int × Int × Int) {β : Type} (f : Out × Heap → Option β) : Option.bind (pr3 p) f = f (Out.ret (AV.tuple [vi p.1, vi p.2.1, vi p.2.2]), []) := rfl
theorem e36 (c : Ch) (t : Int) : E cx (.fn 8) [c.av, vi t] [] = pr3 (spanOf c t) := by
  refine (f8 _ _ _ _ _ _ _ _ _ _ _).trans ?_
  rw [show E cx (.fn 13) _ [] = _ from e15 c]
  simp only [e40, Option.bind_some, ret1_r, bool_vb]
  have hM : M = 1099511627776 := rfl
  by_cases h : c.fit
  · rw [fit_true h]
    by_cases h2 : 0 ≤ t ∧ t ≤ M
    · rw [in_true h2.1 h2.2, show spanOf c t = (lowOf c t, highOf c t, 0) from if_pos ⟨h, h2⟩]
      simp only [cond_t]
      have g5 := h.2.2.2.2.1
      have g7 := h.2.2.2.2.2.1
      obtain ⟨a0, a1, a2, a3, a4, a5, a6⟩ := low_high h h2.1 h2.2
      rw [if_neg (show ¬ c.c5 = 0 by omega), div_id h2.1 ⟨by omega, by omega⟩ g5.1]
      have hr := fun s h0 => at_ripe (t := t) (s := s) h h0 h2.1 h2.2
      generalize t / c.c5 = own at *
      generalize lowOf c t = low at *
      generalize highOf c t = high at *
      have w1 : IntKind.wrap IntKind.i64 (Int.sub own c.c7) = own - c.c7 := wr_id (n := own - c.c7) (by omega) (by omega)
      have w2 : IntKind.wrap IntKind.i64 (Int.sub (own - c.c7) 2) = own - c.c7 - 2 := wr_id (n := own - c.c7 - 2) (by omega) (by omega)
      rw [w1, w2]
      obtain ⟨f, hf⟩ : ∃ f, f = (if 0 > own - c.c7 - 2 then 0 else own - c.c7 - 2) := ⟨_, rfl⟩
      rw [← hf]
      have f0 : 0 ≤ f ∧ f ≤ low ∧ f ≤ own := by rw [hf]; split <;> omega
      have w3 : IntKind.wrap IntKind.i64 (Int.sub own f) = own - f := wr_id (n := own - f) (by omega) (by omega)
      rw [w3, show E cx (.fn 16) _ [] = _ from e42 c t f (own - f) (low - f) f0.1 (by omega) (by omega) (by omega) (by omega)
        (fun k k0 k1 hk => by have := (hr (f + k) (by omega)).1 hk; omega) (fun k k0 k1 => (hr (f + k) (by omega)).2 (by omega))]
      have w4 : IntKind.wrap IntKind.i64 (Int.add own 1) = own + 1 := wr_id (n := own + 1) (by omega) (by omega)
      have w5 : IntKind.wrap IntKind.i64 (Int.add f (low - f)) = low := by
        rw [show Int.add f (low - f) = low by show f + (low - f) = low; omega]
        exact wr_id (by omega) (by omega)
      rw [w4]
      simp only [Option.bind_some, ret1_r, int_vi]
      rw [show E cx (.fn 18) _ [] = _ from e41 c t (own + 1)]
      simp only [Option.bind_some, ret1_r, int_vi]
      rw [w5]
      by_cases h3 : atOf c t (own + 1) = 1
      · rw [decide_eq_true h3, cond_t]
        have := (hr (own + 1) (by omega)).1 h3
        rw [show high = own + 1 by omega]
        rfl
      · rw [decide_eq_false h3, cond_f]
        have : ¬ own + 1 ≤ high := fun h4 => h3 ((hr (own + 1) (by omega)).2 (by omega))
        rw [show high = own by omega]
        rfl
    · rw [in_false h2, show spanOf c t = (0, 0, 1) from if_neg (fun x => h2 x.2)]; rfl
  · rw [fit_false h, show spanOf c t = (0, 0, 1) from if_neg (fun x => h x.1)]; rfl
abbrev hpOf (c : Ch) : Heap := [Ob.mk OK.box 26 10 0 [[vi c.c1, vi c.c2, vi c.c3, vi c.c4, vi c.c5, vi c.c6, vi c.c7, vi c.c8, vi c.c9, vu c.c10]]]
theorem stand_in {c : Ch} {t s : Int} (h : c.fit) (h1 : 0 ≤ t) (h2 : t ≤ M) (h3 : 0 ≤ s) : standOf c t s = (atOf c t s, 0) := if_pos ⟨h, h1, h2, h3⟩
end Go.Proofs.Av
