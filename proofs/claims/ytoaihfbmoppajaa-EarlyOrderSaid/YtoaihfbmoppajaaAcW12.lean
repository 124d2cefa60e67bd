/- EarlyFull: at every input it comes to true. -/
import Derived.Test.YtoaihfbmoppajaaAcW8
import Derived.Test.YtoaihfbmoppajaaAcY12
namespace Go.Proofs.Av
open Go
def same (w v : W) : Bool := decide (v.a = w.a) && decide (v.s = w.s)
theorem twice_any {q : List W} (w : W) (hq : right q = true) : twice q w = q.any (same w) := by
  rw [Bool.eq_iff_iff, List.any_eq_true]
  have hp := (right_iff.1 hq).2
  constructor
  · intro h
    unfold twice at h
    cases hv : q[cnt (fLt w) q]? with
    | none => rw [hv] at h; cases h
    | some v =>
      rw [hv] at h
      have h3 : (!decide (lt w v)) = true := h
      simp only [Bool.not_eq_true', decide_eq_false_iff_not] at h3
      have h4 : ¬ lt v w := by
        have := cnt_hi (f := fLt w) (fLt_cut hq) (Nat.le_refl _) hv
        simpa only [fLt, decide_eq_false_iff_not] using this
      refine ⟨v, List.mem_of_getElem? hv, ?_⟩
      simp only [same, Bool.and_eq_true, decide_eq_true_eq]
      unfold lt at h3 h4
      omega
  · rintro ⟨v, hv, hs⟩
    simp only [same, Bool.and_eq_true, decide_eq_true_eq] at hs
    obtain ⟨i, hi⟩ := List.mem_iff_getElem?.1 hv
    have hlt := (List.getElem?_eq_some_iff.1 hi).1
    have hge : cnt (fLt w) q ≤ i := by
      rcases Nat.lt_or_ge i (cnt (fLt w) q) with h | h
      · have := cnt_lo h hi
        simp only [fLt, decide_eq_true_eq] at this
        exact absurd hs (same_irr this)
      · exact h
    have hm : q[cnt (fLt w) q]? = some (q[cnt (fLt w) q]'(by omega)) := List.getElem?_eq_getElem _
    have h1 := cnt_hi (f := fLt w) (fLt_cut hq) (Nat.le_refl _) hm
    simp only [fLt, decide_eq_false_iff_not] at h1
    have he : i = cnt (fLt w) q := by
      rcases Nat.lt_or_eq_of_le hge with h | h
      · have := List.pairwise_iff_getElem.1 hp _ _ (by omega) hlt h
        have hv2 : q[i] = v := (List.getElem?_eq_some_iff.1 hi).2
        rw [hv2] at this
        exact absurd hs (lt_same this h1)
      · exact h.symm
    unfold twice
    rw [← he, hi]
    show (!decide (lt w v)) = true
    simp only [Bool.not_eq_true', decide_eq_false_iff_not]
    unfold lt
    omega
abbrev P12 : List Bool := [true, true, true, true, true, false, true, false]
theorem l12 (q : List W) (k : R3) (w : W) (room : Int) (ok : Bool) (hB : q.length ≤ 1000) : ∀ (suf pre : List W) (b : Bool), q = pre ++ suf →
    E cx (.loop 12 P12) [vbool b, vi (pre.length : Int), vi room, vbool ok, lq q, .ptr 1 0 0 0] [Ob.mk OK.box 51 3 0 [k.row], Ob.mk OK.box 50 4 0 [w.row]] =
      some (Out.jump (.exit 0) [vbool (b || suf.any (same w)), vi (q.length : Int)], [Ob.mk OK.box 51 3 0 [k.row], Ob.mk OK.box 50 4 0 [w.row]])
  | [], pre, b, hq => by
    have hR : (rows q).length = q.length := by simp
    have hp : pre = q := by simpa using hq.symm
    refine (f12_l0 _ _ _ _ _ _ _ _ _ _ _ _).trans ((goDn (by rw [hR, hp]; omega) _ _).trans ?_)
    rw [hp]
    simp
  | v :: r, pre, b, hq => by
    have hR : (rows q).length = q.length := by simp
    have hv : q[pre.length]? = some v := by rw [hq]; simp
    have hlt := (List.getElem?_eq_some_iff.1 hv).1
    have hq' : q = (pre ++ [v]) ++ r := by rw [hq]; simp
    have hw : IntKind.wrap .i64 (Int.add (pre.length : Int) 1) = (((pre ++ [v]).length : Nat) : Int) := by
      rw [wr_add (a := (pre.length : Int)) (b := 1) (by omega) (by omega)]; simp
    have ih := fun c => l12 q k w room ok hB r (pre ++ [v]) c hq'
    refine (f12_l0 _ _ _ _ _ _ _ _ _ _ _ _).trans ((goD (by rw [hR]; omega) _ _).trans ?_)
    rw [hw]
    cases b with
    | true =>
      refine Eq.trans (b := E cx (.loop 12 P12) [vbool true, vi (((pre ++ [v]).length : Nat) : Int), vi room, vbool ok, lq q, .ptr 1 0 0 0] [Ob.mk OK.box 51 3 0 [k.row], Ob.mk OK.box 50 4 0 [w.row]]) rfl ((ih true).trans ?_)
      simp
    | false =>
      refine (goD (rfl : false = false) _ _).trans ((goD (rfl : false = false) _ _).trans ((goD (rfl : false = false) _ _).trans ((goY (by omega) _ _).trans ((goW rfl hv _).trans ?_))))
      refine (goD (rfl : false = false) _ _).trans ((goD (rfl : false = false) _ _).trans ((goD (rfl : false = false) _ _).trans ((goD (rfl : false = false) _ _).trans ((goD (rfl : false = false) _ _).trans ?_))))
      have fin : ∀ c, c = same w v → E cx (.loop 12 P12) [vbool c, vi (((pre ++ [v]).length : Nat) : Int), vi room, vbool ok, lq q, .ptr 1 0 0 0] [Ob.mk OK.box 51 3 0 [k.row], Ob.mk OK.box 50 4 0 [w.row]] =
          some (Out.jump (.exit 0) [vbool (false || (v :: r).any (same w)), vi (q.length : Int)], [Ob.mk OK.box 51 3 0 [k.row], Ob.mk OK.box 50 4 0 [w.row]]) := fun c hc => by
        rw [ih c, hc]
        simp
      by_cases ha : v.a = w.a
      · refine (goD ha _ _).trans ((goD (rfl : false = false) _ _).trans ((goY (by omega) _ _).trans ((goW rfl hv _).trans ?_)))
        by_cases hs : v.s = w.s
        · refine (goD hs _ _).trans (Eq.trans (b := E cx (.loop 12 P12) [vbool true, vi (((pre ++ [v]).length : Nat) : Int), vi room, vbool ok, lq q, .ptr 1 0 0 0] [Ob.mk OK.box 51 3 0 [k.row], Ob.mk OK.box 50 4 0 [w.row]]) rfl (fin true (by simp [same, ha, hs])))
        · refine (goDn hs _ _).trans (Eq.trans (b := E cx (.loop 12 P12) [vbool false, vi (((pre ++ [v]).length : Nat) : Int), vi room, vbool ok, lq q, .ptr 1 0 0 0] [Ob.mk OK.box 51 3 0 [k.row], Ob.mk OK.box 50 4 0 [w.row]]) rfl (fin false (by simp [same, hs])))
      · refine (goDn ha _ _).trans (Eq.trans (b := E cx (.loop 12 P12) [vbool false, vi (((pre ++ [v]).length : Nat) : Int), vi room, vbool ok, lq q, .ptr 1 0 0 0] [Ob.mk OK.box 51 3 0 [k.row], Ob.mk OK.box 50 4 0 [w.row]]) rfl (fin false (by simp [same, ha])))
theorem law12c (raw : List R3) (k : R3) (room : Int) (hraw : ∀ r ∈ raw, r.ok) (hB : raw.length ≤ 9223372036854775807) (hk : k.ok) (hroom : RI room) :
    E cx (.fn 12) [.list 0 3 (raws raw), .agg k.row, vi room] [] = rb true := by
  refine (f12 _ _ _ _ _).trans ((goT e25 _ _).trans ((goL (e26 raw hraw hB) _).trans ((goR (e27 k hk) _).trans ?_)))
  have hl := queue_len raw
  have hr := queue_right raw
  generalize queueF raw = q at hl hr
  have hm := wait_may k
  generalize hw0 : waitOf k = w at hm
  have h := l12 q k w room true (by omega) q [] false rfl
  rw [show E cx (.loop 12 [true, true, true, true, true, false, true, false]) [vbool false, vi 0, vi room, vbool true, AV.list 0 4 (rows q), AV.ptr 1 0 0 0] [Ob.mk OK.box 51 3 0 [[vi k.x, vi k.y, vi k.z]], Ob.mk OK.box 50 4 0 [[vi w.a, vi w.s, vi w.p, vs w.d]]] = _ from h]
  have ht := twice_any w hr
  rw [show (false || q.any (same w)) = twice q w by rw [ht]; rfl]
  refine Eq.trans (b := Option.bind (E cx (.fn 28) [vi room, vi 4] []) _) rfl ((goI (e28 hroom (by omega)) _).trans ?_)
  have hp := pk_range (c := room) (n := 4) (by omega)
  generalize pk room 4 = n at hp
  have hR : (((rows q).length : Nat) : Int) = (q.length : Int) := by simp
  rw [hR]
  have w1 : IntKind.wrap .i64 (Int.sub (q.length : Int) n) = (q.length : Int) - n := wr_sub (a := (q.length : Int)) (b := n) (by omega) (by omega)
  have w2 : IntKind.wrap .i64 (Int.add (q.length : Int) 1) = (q.length : Int) + 1 := wr_add (a := (q.length : Int)) (b := 1) (by omega) (by omega)
  rw [w1, w2]
  refine (goLI (e29 q _ w (by omega)) _).trans ((goLI (e29 q _ w (by omega)) _).trans ?_)
  cases htw : twice q w with
  | true =>
    have hp1 : ∀ r, putF q r w = ([], 7) := fun r => by simp [putF, hr, hm, htw]
    rw [hp1, hp1]
    rfl
  | false =>
    have hp1 : putF q ((q.length : Int) - n) w = ([], 5) := by simp [putF, hr, hm, htw, show (q.length : Int) ≥ (q.length : Int) - n by omega]
    have hp2 : putF q ((q.length : Int) + 1) w = (ins q w, 0) := by simp [putF, hr, hm, htw, show ¬ ((q.length : Int) ≥ (q.length : Int) + 1) by omega]
    rw [hp1, hp2]
    refine (goFf rfl _ _).trans ((goD rfl _ _).trans ((goD (by simp) _ _).trans ((goD rfl _ _).trans ((goD (by simp [ins_len]) _ _).trans ?_))))
    exact (goT (by have := e36 (ins q w) (by rw [ins_len]; omega); rw [ins_right hr hm htw] at this; exact this) _ _)
end Go.Proofs.Av
