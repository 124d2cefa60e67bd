/- EarlyLeave: at every input it comes to true. -/
import Derived.Test.YtoaihfbmoppajaaAcW8
import Derived.Test.YtoaihfbmoppajaaAcY11
namespace Go.Proofs.Av
open Go
theorem filter_right {q : List W} (f : W → Bool) (h : right q = true) : right (q.filter f) = true := by
  obtain ⟨h1, h2⟩ := right_iff.1 h
  exact right_iff.2 ⟨fun w hw => h1 w (List.mem_filter.1 hw).1, h2.filter f⟩
abbrev P11a : List Bool := [true, true, true, true, true, true, false, true, false]
abbrev P11b : List Bool := [true, true, true, true, true, true, true, false, true, false]
theorem l11a (q l : List W) (p y t : Int) (b ok : Bool) (hB : q.length ≤ 1000) : ∀ (suf pre : List W) (m : Nat), q = pre ++ suf → m ≤ pre.length →
    E cx (.loop 11 P11a) [vi (m : Int), vi (pre.length : Int), vi y, vi t, vbool b, vbool ok, lq q, vi p, lq l] [] = some (Out.jump (.exit 0) [vi ((m + (suf.filter fun w => !fP p w).length : Nat) : Int), vi (q.length : Int)], [])
  | [], pre, m, hq, hm => by
    have hR : (rows q).length = q.length := by simp
    have hp : pre = q := by simpa using hq.symm
    refine (f11_l0 _ _ _ _ _ _ _ _ _).trans ((goDn (by rw [hR, hp]; omega) _ _).trans ?_)
    rw [hp]
    simp
  | w :: r, pre, m, hq, hm => by
    have hR : (rows q).length = q.length := by simp
    have hv : q[pre.length]? = some w := by rw [hq]; simp
    have hlt := (List.getElem?_eq_some_iff.1 hv).1
    have hq' : q = (pre ++ [w]) ++ r := by rw [hq]; simp
    have hw : IntKind.wrap .i64 (Int.add (pre.length : Int) 1) = (((pre ++ [w]).length : Nat) : Int) := by
      rw [wr_add (a := (pre.length : Int)) (b := 1) (by omega) (by omega)]; simp
    have hm1 : IntKind.wrap .i64 (Int.add (m : Int) 1) = ((m + 1 : Nat) : Int) := by
      rw [wr_add (a := (m : Int)) (b := 1) (by omega) (by omega)]; omega
    refine (f11_l0 _ _ _ _ _ _ _ _ _).trans ((goD (by rw [hR]; omega) _ _).trans ((goY (by omega) _ _).trans ((goW rfl hv _).trans ?_)))
    rw [hw, hm1]
    by_cases ha : w.p = p
    · refine (goD ha _ _).trans ((l11a q l p y t b ok hB r (pre ++ [w]) (m + 1) hq' (by simp; omega)).trans ?_)
      have hf : (!fP p w) = true := by simp [fP, ha]
      simp only [List.filter_cons, hf, if_true, List.length_cons]
      congr 5
      omega
    · refine (goDn ha _ _).trans ((l11a q l p y t b ok hB r (pre ++ [w]) m hq' (by simp; omega)).trans ?_)
      have hf : (!fP p w) = false := by simp [fP, ha]
      simp [hf]
theorem l11b (q l : List W) (p y t m : Int) (b ok : Bool) (hB : l.length ≤ 1000) (hl : ∀ w ∈ l, fP p w = true) : ∀ (suf pre : List W), l = pre ++ suf →
    E cx (.loop 11 P11b) [vbool b, vi (pre.length : Int), vi y, vi t, vbool ok, lq q, vi p, lq l, vi m] [] = some (Out.jump (.exit 2) [vbool b, vi (l.length : Int)], [])
  | [], pre, hq => by
    have hR : (rows l).length = l.length := by simp
    have hp : pre = l := by simpa using hq.symm
    refine (f11_l1 _ _ _ _ _ _ _ _ _).trans ((goDn (by rw [hR, hp]; omega) _ _).trans ?_)
    rw [hp]
  | w :: r, pre, hq => by
    have hR : (rows l).length = l.length := by simp
    have hv : l[pre.length]? = some w := by rw [hq]; simp
    have hlt := (List.getElem?_eq_some_iff.1 hv).1
    have hq' : l = (pre ++ [w]) ++ r := by rw [hq]; simp
    have hw : IntKind.wrap .i64 (Int.add (pre.length : Int) 1) = (((pre ++ [w]).length : Nat) : Int) := by
      rw [wr_add (a := (pre.length : Int)) (b := 1) (by omega) (by omega)]; simp
    have hne : ¬ w.p = p := by
      have := hl w (List.mem_of_getElem? hv)
      simpa [fP] using this
    refine (f11_l1 _ _ _ _ _ _ _ _ _).trans ((goD (by rw [hR]; omega) _ _).trans ((goY (by omega) _ _).trans ((goW rfl hv _).trans ((goDn hne _ _).trans ?_))))
    rw [hw]
    exact l11b q l p y t m b ok hB hl r (pre ++ [w]) hq'
theorem part_len (f : W → Bool) : ∀ (q : List W), (q.filter f).length + (q.filter fun w => !f w).length = q.length
  | [] => rfl
  | w :: r => by
    have := part_len f r
    cases h : f w <;> simp [h] <;> omega
theorem leave_right {q : List W} (p : Int) (h : right q = true) : leaveF q p = q.filter (fP p) := by simp [leaveF, h]
theorem ripe_right {q : List W} (t : Int) (h : right q = true) : ripeF q t = (q.filter (fAt t), q.filter fun w => !fAt t w) := by simp [ripeF, h]
theorem filter_comm (f g : W → Bool) (q : List W) : (q.filter f).filter g = (q.filter g).filter f := by
  rw [List.filter_filter, List.filter_filter]
  congr 1
  funext w
  exact Bool.and_comm _ _
theorem law11c (raw : List R3) (x y t : Int) (hraw : ∀ r ∈ raw, r.ok) (hB : raw.length ≤ 9223372036854775807) (hx : RI x) (hy : RI y) (ht : RI t) :
    E cx (.fn 11) [.list 0 3 (raws raw), vi x, vi y, vi t] [] = rb true := by
  refine (f11 _ _ _ _).trans ((goT e25 _ _).trans ((goL (e26 raw hraw hB) _).trans ((goI (e28 hx (by omega)) _).trans ?_)))
  have hl := queue_len raw
  have hr := queue_right raw
  generalize queueF raw = q at hl hr
  generalize pk x 4 = p
  refine (goL (e38 q p (by omega)) _).trans ?_
  rw [leave_right p hr]
  have hfl : (q.filter (fP p)).length ≤ 30 := Nat.le_trans (List.length_filter_le _ _) hl
  have hfr := filter_right (fP p) hr
  have hfp : ∀ w ∈ q.filter (fP p), fP p w = true := fun w hw => (List.mem_filter.1 hw).2
  have hself : leaveF (q.filter (fP p)) p = q.filter (fP p) := by rw [leave_right p hfr, List.filter_filter]; simp
  have hpart := part_len (fP p) q
  generalize hl0 : q.filter (fP p) = l at hfl hfr hfp hself hpart
  have h1 := l11a q l p y t false true (by omega) q [] 0 rfl (Nat.le_refl _)
  rw [show E cx (.loop 11 [true, true, true, true, true, true, false, true, false]) [vi 0, vi 0, vi y, vi t, vbool false, vbool true, AV.list 0 4 (rows q), vi p, AV.list 0 4 (rows l)] [] = _ from h1]
  generalize hmn : (q.filter fun w => !fP p w).length = m at hpart
  have h2 := l11b q l p y t (m : Int) false true (by omega) hfp l [] rfl
  refine Eq.trans (b := Option.bind (E cx (.loop 11 P11b) [vbool false, vi 0, vi y, vi t, vbool true, AV.list 0 4 (rows q), vi p, AV.list 0 4 (rows l), vi ((0 + m : Nat) : Int)] []) _) rfl ?_
  rw [Nat.zero_add]
  rw [show E cx (.loop 11 P11b) [vbool false, vi 0, vi y, vi t, vbool true, AV.list 0 4 (rows q), vi p, AV.list 0 4 (rows l), vi (m : Int)] [] = _ from h2]
  refine Eq.trans (b := Option.bind (E cx (.fn 28) [vi t, vi 7] []) _) rfl ((goI (e28 ht (by omega)) _).trans ?_)
  have he7 := e28 (n := 7) ht (by omega)
  generalize pk t 7 = t7 at he7
  refine (goLL (e32 l t7 (by omega)) _).trans ((goI he7 _).trans ?_)
  refine (goLL (e32 q t7 (by omega)) _).trans ((goI (e28 hy (by omega)) _).trans ?_)
  generalize pk y 4 = z
  have hR1 : (((rows l).length : Nat) : Int) = (l.length : Int) := by simp
  have hR2 : (((rows q).length : Nat) : Int) = (q.length : Int) := by simp
  refine (goD (by rw [hR1, hR2, wr_add (a := (l.length : Int)) (b := (m : Int)) (by omega) (by omega)]; omega) _ _).trans ?_
  refine (goT (by have := e36 l (by omega); rw [hfr] at this; exact this) _ _).trans ?_
  refine (goL (e38 l p (by omega)) _).trans ?_
  rw [hself]
  refine (goT (e31 l (by omega)) _ _).trans ?_
  refine (goL (e38 l z (by omega)) _).trans ((goL (e38 q z (by omega)) _).trans ((goL (e38 (leaveF q z) p (by
    rw [leave_right z hr]; exact Nat.le_trans (List.length_filter_le _ _) (by omega))) _).trans ?_))
  have e1 : leaveF (leaveF q z) p = leaveF l z := by
    rw [leave_right z hr, leave_right p (filter_right _ hr), leave_right z hfr, ← hl0, filter_comm]
  rw [e1]
  refine (goT (e31 _ (leaveF_len l z (by omega))) _ _).trans ?_
  have hc1 : ((ripeF q t7).1).length ≤ 1000 := by rw [ripe_right t7 hr]; exact Nat.le_trans (List.length_filter_le _ _) (by omega)
  have hc2 : ((ripeF q t7).2).length ≤ 1000 := by rw [ripe_right t7 hr]; exact Nat.le_trans (List.length_filter_le _ _) (by omega)
  refine (goL (e38 (ripeF q t7).1 p hc1) _).trans ?_
  have e2 : leaveF (ripeF q t7).1 p = (ripeF l t7).1 := by
    rw [ripe_right t7 hr, ripe_right t7 hfr, leave_right p (filter_right _ hr), ← hl0, filter_comm]
  rw [e2]
  refine (goT (e31 _ (ripeF_len l t7 (by omega)).1) _ _).trans ?_
  refine (goL (e38 (ripeF q t7).2 p hc2) _).trans ?_
  have e3 : leaveF (ripeF q t7).2 p = (ripeF l t7).2 := by
    rw [ripe_right t7 hr, ripe_right t7 hfr, leave_right p (filter_right _ hr), ← hl0, filter_comm]
  rw [e3]
  exact goT (e31 _ (ripeF_len l t7 (by omega)).2) _ _
end Go.Proofs.Av
