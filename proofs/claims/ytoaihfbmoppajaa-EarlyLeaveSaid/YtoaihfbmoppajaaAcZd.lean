/- Put, by the document. -/
import Derived.Test.YtoaihfbmoppajaaAcZc
namespace Go.Proofs.Av
open Go
abbrev P30 : List Bool := [true, true, true, true, false, true, false]
abbrev boxW (w : W) : Heap := [Ob.mk OK.box 50 4 0 [w.row]]
theorem not_same {v w : W} (h : ¬ (v.a = w.a ∧ v.s = w.s)) (g : ¬ lt v w) : lt w v := by unfold lt at *; omega
/-- One that is not ahead of w, and stands behind one that is not, is no twin of w. -/
theorem l30_step (q : List W) (room : Int) (w : W) (hB : q.length ≤ 1000) (i a : Nat) (v : W) (hv : q[i]? = some v) (hne : ¬ (v.a = w.a ∧ v.s = w.s)) (l : List (List AV)) (e : Int) {R : Option (Out × Heap)}
    (h : E cx (.loop 30 P30) [.list 0 4 l, vi e, vi ((bif decide (lt v w) then i + 1 else a : Nat) : Int), vi ((i + 1 : Nat) : Int), lq q, vi room, .ptr 0 0 0 0] (boxW w) = R) :
    E cx (.loop 30 P30) [.list 0 4 l, vi e, vi (a : Int), vi (i : Int), lq q, vi room, .ptr 0 0 0 0] (boxW w) = R := by
  have hi := (List.getElem?_eq_some_iff.1 hv).1
  have hR : (rows q).length = q.length := by simp
  have hw : IntKind.wrap .i64 (Int.add (i : Int) 1) = ((i + 1 : Nat) : Int) := by rw [wr_add (a := (i : Int)) (b := 1) (by omega) (by omega)]; omega
  refine (f30_l0 _ _ _ _ _ _ _ _ _ _).trans ((goD (by rw [hR]; omega) _ _).trans ((goY (by omega) _ _).trans ((goW rfl hv _).trans ?_)))
  by_cases ha : v.a = w.a
  · refine (goD ha _ _).trans ((goY (by omega) _ _).trans ((goW rfl hv _).trans ((goDn (fun hs => hne ⟨ha, hs⟩) _ _).trans ((goY (by omega) _ _).trans ((goW rfl hv _).trans ?_)))))
    rw [hw]
    cases hl : decide (lt v w) with
    | true => rw [hl] at h; exact (goT (by have := e47 v w; rw [hl] at this; exact this) _ _).trans h
    | false => rw [hl] at h; exact (goF (by have := e47 v w; rw [hl] at this; exact this) _ _).trans h
  · refine (goDn ha _ _).trans ((goY (by omega) _ _).trans ((goW rfl hv _).trans ?_))
    rw [hw]
    cases hl : decide (lt v w) with
    | true => rw [hl] at h; exact (goT (by have := e47 v w; rw [hl] at this; exact this) _ _).trans h
    | false => rw [hl] at h; exact (goF (by have := e47 v w; rw [hl] at this; exact this) _ _).trans h
theorem l30_twin (q : List W) (room : Int) (w : W) (hB : q.length ≤ 1000) (i a : Nat) (v : W) (hv : q[i]? = some v) (ha : v.a = w.a) (hs : v.s = w.s) (l : List (List AV)) (e : Int) :
    E cx (.loop 30 P30) [.list 0 4 l, vi e, vi (a : Int), vi (i : Int), lq q, vi room, .ptr 0 0 0 0] (boxW w) = some (Out.jump .ret [.val (.slice none 0 0), vi 7, vi (a : Int), vi (i : Int)], boxW w) := by
  have hi := (List.getElem?_eq_some_iff.1 hv).1
  have hR : (rows q).length = q.length := by simp
  refine (f30_l0 _ _ _ _ _ _ _ _ _ _).trans ((goD (by rw [hR]; omega) _ _).trans ((goY (by omega) _ _).trans ((goW rfl hv _).trans ?_)))
  exact (goD ha _ _).trans ((goY (by omega) _ _).trans ((goW rfl hv _).trans (goD hs _ _)))
theorem l30_end (q : List W) (room : Int) (w : W) (a : Nat) (l : List (List AV)) (e : Int) :
    E cx (.loop 30 P30) [.list 0 4 l, vi e, vi (a : Int), vi (q.length : Int), lq q, vi room, .ptr 0 0 0 0] (boxW w) = some (Out.jump (.exit 0) [.list 0 4 l, vi e, vi (a : Int), vi (q.length : Int)], boxW w) := by
  have hR : (rows q).length = q.length := by simp
  exact (f30_l0 _ _ _ _ _ _ _ _ _ _).trans (goDn (by rw [hR]; omega) _ _)
theorem same_irr {v w : W} (h : lt v w) : ¬ (v.a = w.a ∧ v.s = w.s) := by unfold lt at h; omega
theorem lt_same {u v w : W} (h : lt u v) (g : ¬ lt u w) : ¬ (v.a = w.a ∧ v.s = w.s) := by unfold lt at *; omega
/-- The loop, from any place on. -/
theorem l30 (q : List W) (room : Int) (w : W) (hB : q.length ≤ 1000) (hq : right q = true) : ∀ (n i : Nat), n + i = q.length →
    (twice q w = false → E cx (.loop 30 P30) [.list 0 4 [], vi 0, vi ((Nat.min i (cnt (fLt w) q) : Nat) : Int), vi (i : Int), lq q, vi room, .ptr 0 0 0 0] (boxW w) = some (Out.jump (.exit 0) [.list 0 4 [], vi 0, vi (cnt (fLt w) q : Int), vi (q.length : Int)], boxW w)) ∧
    (twice q w = true → i ≤ cnt (fLt w) q → ∃ a b : Int, E cx (.loop 30 P30) [.list 0 4 [], vi 0, vi ((Nat.min i (cnt (fLt w) q) : Nat) : Int), vi (i : Int), lq q, vi room, .ptr 0 0 0 0] (boxW w) = some (Out.jump .ret [.val (.slice none 0 0), vi 7, vi a, vi b], boxW w))
  | 0, i, hi => by
    have hc := cnt_le (fLt w) q
    have hi' : i = q.length := by omega
    subst hi'
    constructor
    · intro _
      rw [show Nat.min q.length (cnt (fLt w) q) = cnt (fLt w) q from Nat.min_eq_right hc]
      exact l30_end q room w _ _ _
    · intro ht hle
      unfold twice at ht
      rw [List.getElem?_eq_none (by omega)] at ht
      cases ht
  | n + 1, i, hi => by
    have hlt : i < q.length := by omega
    have hv : q[i]? = some q[i] := List.getElem?_eq_getElem hlt
    have ih := l30 q room w hB hq n (i + 1) (by omega)
    have hmin : ∀ {b : Bool}, b = decide (i < cnt (fLt w) q) → (bif b then i + 1 else Nat.min i (cnt (fLt w) q)) = Nat.min (i + 1) (cnt (fLt w) q) := fun hb => by
      subst hb
      show (bif _ then i + 1 else min i _) = min (i + 1) _
      by_cases h : i < cnt (fLt w) q
      · rw [decide_eq_true h]; simp; omega
      · rw [decide_eq_false h]; simp; omega
    have hdec : decide (lt q[i] w) = decide (i < cnt (fLt w) q) := by
      by_cases h : i < cnt (fLt w) q
      · have := cnt_lo h hv
        simp only [fLt, decide_eq_true_eq] at this
        rw [decide_eq_true h, decide_eq_true this]
      · have := cnt_hi (f := fLt w) (fLt_cut hq) (by omega) hv
        simp only [fLt, decide_eq_false_iff_not] at this
        rw [decide_eq_false h, decide_eq_false this]
    have far : cnt (fLt w) q < i → ¬ (q[i].a = w.a ∧ q[i].s = w.s) := fun h => by
      have hm : q[cnt (fLt w) q]? = some (q[cnt (fLt w) q]'(by omega)) := List.getElem?_eq_getElem _
      have h1 := cnt_hi (fLt_cut hq) (Nat.le_refl _) hm
      simp only [fLt, decide_eq_false_iff_not] at h1
      exact lt_same (List.pairwise_iff_getElem.1 (right_iff.1 hq).2 _ _ (by omega) hlt h) h1
    have near : i < cnt (fLt w) q → ¬ (q[i].a = w.a ∧ q[i].s = w.s) := fun h => by
      have := cnt_lo h hv
      simp only [fLt, decide_eq_true_eq] at this
      exact same_irr this
    constructor
    · intro ht
      have hne : ¬ (q[i].a = w.a ∧ q[i].s = w.s) := by
        rcases Nat.lt_trichotomy i (cnt (fLt w) q) with h | h | h
        · exact near h
        · intro hs
          have ht' := ht
          unfold twice at ht'
          rw [← h, hv] at ht'
          have h3 : (!decide (lt w q[i])) = false := ht'
          simp only [Bool.not_eq_false', decide_eq_true_eq] at h3
          exact same_irr h3 ⟨hs.1.symm, hs.2.symm⟩
        · exact far h
      refine l30_step q room w hB i _ _ hv hne _ _ ?_
      rw [hdec, hmin rfl]
      exact ih.1 ht
    · intro ht hle
      rcases Nat.lt_or_eq_of_le hle with h | h
      · obtain ⟨a, b, hab⟩ := ih.2 ht h
        refine ⟨a, b, l30_step q room w hB i _ _ hv (near h) _ _ ?_⟩
        rw [hdec, hmin rfl]
        exact hab
      · have ht' := ht
        unfold twice at ht'
        rw [← h, hv] at ht'
        have h3 : (!decide (lt w q[i])) = true := ht'
        simp only [Bool.not_eq_true', decide_eq_false_iff_not] at h3
        have h4 : ¬ lt q[i] w := by
          have := cnt_hi (f := fLt w) (fLt_cut hq) (by omega) hv
          simpa only [fLt, decide_eq_false_iff_not] using this
        have h5 : q[i].a = w.a ∧ q[i].s = w.s := by unfold lt at h3 h4; omega
        exact ⟨_, _, l30_twin q room w hB i _ _ hv h5.1 h5.2 _ _⟩
theorem retEmpty {x : Option (Out × Heap)} {e : Int} (h : x = some (Out.ret (.tuple [.list 0 4 [], vi e]), [])) : RetLI x (rows []) e := ⟨_, h, rfl⟩
theorem e30 (q : List W) (room : Int) (w : W) (hB : q.length ≤ 1000) : RetLI (E cx (.fn 30) [lq q, vi room, w.av] []) (rows (putF q room w).1) (putF q room w).2 := by
  have hR : (rows q).length = q.length := by simp
  cases hr : right q with
  | false =>
    rw [show putF q room w = ([], 1) by simp [putF, hr]]
    exact retNil ((f30 _ _ _ _ _ _).trans (goF (by rw [← hr]; exact e37 q (by omega)) _ _))
  | true =>
    by_cases ha : w.a < 0
    · rw [show putF q room w = ([], 1) by simp [putF, may, show ¬ (0 ≤ w.a) by omega]]
      exact retNil ((f30 _ _ _ _ _ _).trans ((goT (by rw [← hr]; exact e37 q (by omega)) _ _).trans (goD ha _ _)))
    · by_cases hs : w.s < 0
      · rw [show putF q room w = ([], 1) by simp [putF, may, show ¬ (0 ≤ w.s) by omega]]
        exact retNil ((f30 _ _ _ _ _ _).trans ((goT (by rw [← hr]; exact e37 q (by omega)) _ _).trans ((goDn ha _ _).trans (goD hs _ _))))
      · have hm : may w = true := by simp [may]; omega
        have hc := cnt_le (fLt w) q
        have l := l30 q room w hB hr q.length 0 (by omega)
        rw [show Nat.min 0 (cnt (fLt w) q) = 0 from Nat.zero_min _] at l
        have start : ∀ {k : Option (Out × Heap)}, _ = k → E cx (.fn 30) [lq q, vi room, w.av] [] = k := fun {k} hk =>
          (f30 _ _ _ _ _ _).trans ((goT (by rw [← hr]; exact e37 q (by omega)) _ _).trans ((goDn ha _ _).trans ((goDn hs _ _).trans hk)))
        cases htw : twice q w with
        | true =>
          rw [show putF q room w = ([], 7) by simp [putF, hr, hm, htw]]
          obtain ⟨a, b, hab⟩ := l.2 htw (Nat.zero_le _)
          refine retEmpty (start ?_)
          rw [show E cx (.loop 30 [true, true, true, true, false, true, false]) [AV.list 0 4 [], vi 0, vi 0, vi 0, AV.list 0 4 (rows q), vi room, AV.ptr 0 0 0 0] [Ob.mk OK.box 50 4 0 [[vi w.a, vi w.s, vi w.p, vs w.d]]] = _ from hab]
          rfl
        | false =>
          have hl := l.1 htw
          by_cases hf : (q.length : Int) ≥ room
          · rw [show putF q room w = ([], 5) by simp [putF, hr, hm, htw, hf]]
            refine retNil (start ?_)
            rw [show E cx (.loop 30 [true, true, true, true, false, true, false]) [AV.list 0 4 [], vi 0, vi 0, vi 0, AV.list 0 4 (rows q), vi room, AV.ptr 0 0 0 0] [Ob.mk OK.box 50 4 0 [[vi w.a, vi w.s, vi w.p, vs w.d]]] = _ from hl]
            exact Eq.trans (b := bif decide ((((rows q).length : Nat) : Int) ≥ room) then some (Out.ret (AV.tuple [AV.val (Go.Value.slice none 0 0), vi 5]), []) else _) rfl (goD (by rw [hR]; exact hf) _ _)
          · rw [show putF q room w = (ins q w, 0) by simp [putF, hr, hm, htw, hf]]
            refine ⟨lq (ins q w), start ?_, rfl⟩
            rw [show E cx (.loop 30 [true, true, true, true, false, true, false]) [AV.list 0 4 [], vi 0, vi 0, vi 0, AV.list 0 4 (rows q), vi room, AV.ptr 0 0 0 0] [Ob.mk OK.box 50 4 0 [[vi w.a, vi w.s, vi w.p, vs w.d]]] = _ from hl]
            have hins : rows (ins q w) = (rows q).take (cnt (fLt w) q) ++ w.row :: (rows q).drop (cnt (fLt w) q) := by
              unfold ins
              rw [take_rows, drop_rows]
              simp
            unfold lq
            rw [hins]
            have hy1 : ysOk (List.drop 0 (List.take (Int.toNat (cnt (fLt w) q : Int)) (rows q))) = true := by rw [take_rows, drop_rows]; exact ysOk_rows _
            have hy2 : ysOk (List.drop (Int.toNat (cnt (fLt w) q : Int)) (List.take (rows q).length (rows q))) = true := by rw [take_rows, drop_rows]; exact ysOk_rows _
            generalize cnt (fLt w) q = m at *
            generalize rows q = R at *
            rw [← hR] at hB hf hc
            have hl1 : (List.drop 0 (List.take (Int.toNat (m : Int)) R)).length = m := by simp; omega
            have hl2 : (List.drop (Int.toNat (m : Int)) (List.take R.length R)).length = R.length - m := by simp
            refine Eq.trans (b := bif decide ((R.length : Int) ≥ room) then some (Out.ret (AV.tuple [AV.val (Go.Value.slice none 0 0), vi 5]), []) else _) rfl ((goDn hf _ _).trans ?_)
            refine (goY (by omega) _ _).trans ((goY (by omega) _ _).trans ((goTt hy1 _ _).trans ((goY (by rw [hl1]; show (0 + m) * 40 ≤ _; omega) _ _).trans ?_)))
            refine (goCk (by rw [List.nil_append, hl1]; exact Nat.zero_add _) _).trans ((goY (by rw [List.nil_append, hl1]; show (m + 1) * 40 ≤ _; omega) _ _).trans ?_)
            refine (goY (by omega) _ _).trans ((goY (by omega) _ _).trans ((goTt hy2 _ _).trans ?_))
            refine (goCk (by simp) _).trans ?_
            refine (goY (by
              rw [hl2]
              show ((_ : Nat) + (R.length - m)) * 40 ≤ _
              simp
              omega) _ _).trans ?_
            refine (goLe (by show 0 + (_ + _) ≤ _; simp; omega) _).trans ?_
            congr 5
            rw [List.drop_zero]
            rw [List.take_of_length_le (by show _ ≤ 0 + (_ + _); simp; omega)]
            simp
end Go.Proofs.Av
