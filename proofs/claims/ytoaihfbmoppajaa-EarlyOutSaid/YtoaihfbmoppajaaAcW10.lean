/- EarlyOut: at every input it comes to true. -/
import Derived.Test.YtoaihfbmoppajaaAcW11
import Derived.Test.YtoaihfbmoppajaaAcY10
namespace Go.Proofs.Av
open Go
abbrev ints (l : List Int) : List (List AV) := l.map fun n => [vi n]
theorem go1 {l : List Int} {n : Int} {i : Nat} {r : Int} {ρ : Type} (hn : n = i) (h : l[i]? = some r) (k : Int → Option ρ) : ((ints l)[Int.toNat n]?.bind fun cs => (uncons? cs).bind fun p1 => (AV.int? .i64 p1.fst).bind fun n1 => (nil? p1.snd).bind fun _ => k n1) = k r := by
  subst hn
  have : (ints l)[Int.toNat (i : Int)]? = some [vi r] := by simp [ints, h]
  rw [this]
  rfl
abbrev P10 : List Bool := [true, true, true, true, true, true, false, true, false]
abbrev P10b : List Bool := [true, true, true, true, true, true, false, true, false, false, true, false, false, true, true, false, true, false]
theorem l10b (b ok : Bool) (ti : List Int) (q out rest : List W) (n : Nat) (t i : Int) (L : List (List AV)) (hB : out.length ≤ 1000) (ho : ∀ w ∈ out, w.a ≤ t) : ∀ (suf pre : List W), out = pre ++ suf →
    E cx (.loop 10 P10b) [vbool b, vi (pre.length : Int), .list 0 1 (ints ti), vbool ok, lq q, .arr 0 4 0 n, vi t, vi i, lq out, lq rest] [ob L] = some (Out.jump (.exit 2) [vbool b, vi (out.length : Int)], [ob L])
  | [], pre, hq => by
    have hR : (rows out).length = out.length := by simp
    have hp : pre = out := by simpa using hq.symm
    refine (f10_l0_l1 _ _ _ _ _ _ _ _ _ _ _).trans ((goDn (by rw [hR, hp]; omega) _ _).trans ?_)
    rw [hp]
  | w :: r, pre, hq => by
    have hR : (rows out).length = out.length := by simp
    have hv : out[pre.length]? = some w := by rw [hq]; simp
    have hlt := (List.getElem?_eq_some_iff.1 hv).1
    have hq' : out = (pre ++ [w]) ++ r := by rw [hq]; simp
    have hw : IntKind.wrap .i64 (Int.add (pre.length : Int) 1) = (((pre ++ [w]).length : Nat) : Int) := by
      rw [wr_add (a := (pre.length : Int)) (b := 1) (by omega) (by omega)]; simp
    have hne : ¬ w.a > t := by have := ho w (List.mem_of_getElem? hv); omega
    refine (f10_l0_l1 _ _ _ _ _ _ _ _ _ _ _).trans ((goD (by rw [hR]; omega) _ _).trans ((goY (by omega) _ _).trans ((goW rfl hv _).trans ((goDn hne _ _).trans ?_))))
    rw [hw]
    exact l10b b ok ti q out rest n t i L hB ho r (pre ++ [w]) hq'
theorem next_rest {q : List W} {t : Int} (h : right (q.filter fun w => !fAt t w) = true) : (nextF (q.filter fun w => !fAt t w)).2 = decide (0 < (q.filter fun w => !fAt t w).length) ∧
    ((nextF (q.filter fun w => !fAt t w)).2 = true → ¬ (nextF (q.filter fun w => !fAt t w)).1 ≤ t) := by
  cases hq : q.filter fun w => !fAt t w with
  | nil => simp [nextF, right]
  | cons w r =>
    rw [hq] at h
    have hw : w ∈ q.filter fun w => !fAt t w := by rw [hq]; exact List.mem_cons_self ..
    have := (List.mem_filter.1 hw).2
    simp [fAt] at this
    simp only [nextF, h, cond_true]
    exact ⟨by simp, fun _ => by omega⟩
theorem l10 (ti : List Int) (hti : ∀ n ∈ ti, RI n) (q : List W) (ok : Bool) (hq : q.length ≤ 30) : ∀ (n i : Nat) (left A : List W) (t : Int), n + i = 10 → right left = true → A ++ left = q → 0 ≤ t → t ≤ 4 * i →
    ∃ (left' A' : List W) (t' i' : Int), E cx (.loop 10 P10) [vbool false, lq left, .arr 0 4 0 (rows A).length, vi t, vi (i : Int), .list 0 1 (ints ti), vbool ok, lq q] [ob (rows A)] =
      some (Out.jump (.exit 0) [vbool false, lq left', .arr 0 4 0 (rows A').length, vi t', vi i'], [ob (rows A')]) ∧ A' ++ left' = q
  | n, i, left, A, t, hn, hr, hA, ht0, ht1 => by
    have hR : (ints ti).length = ti.length := by simp
    have hlen : A.length + left.length ≤ 30 := by rw [← List.length_append, hA]; exact hq
    by_cases h : i < ti.length
    · cases n with
      | zero =>
        exact ⟨left, A, t, i, (f10_l0 _ _ _ _ _ _ _ _ _).trans ((goD (by rw [hR]; omega) _ _).trans (goDn (by omega) _ _)), hA⟩
      | succ n =>
        have hv : ti[i]? = some ti[i] := List.getElem?_eq_getElem h
        have hri := hti _ (List.getElem_mem h)
        have hpk := pk_range (c := ti[i]) (n := 4) (by omega)
        have he := e28 (n := 4) hri (by omega)
        generalize pk ti[i] 4 = d at hpk he
        have hwt : IntKind.wrap .i64 (Int.add t d) = t + d := wr_add (a := t) (b := d) (by omega) (by omega)
        have hw : IntKind.wrap .i64 (Int.add (i : Int) 1) = ((i + 1 : Nat) : Int) := by rw [wr_add (a := (i : Int)) (b := 1) (by omega) (by omega)]; omega
        have hrip : ripeF left (t + d) = (left.filter (fAt (t + d)), left.filter fun w => !fAt (t + d) w) := ripe_right _ hr
        have hrr : right (left.filter fun w => !fAt (t + d) w) = true := filter_right _ hr
        obtain ⟨c1, c2⟩ := cnt_take (fAt_cut (t := t + d) hr)
        have happ : left.filter (fAt (t + d)) ++ left.filter (fun w => !fAt (t + d) w) = left := by rw [← c1, ← c2, List.take_append_drop]
        have hol : ∀ w ∈ left.filter (fAt (t + d)), w.a ≤ t + d := fun w hw => by
          have := (List.mem_filter.1 hw).2
          simpa [fAt] using this
        have hlo : (left.filter (fAt (t + d))).length ≤ left.length := List.length_filter_le _ _
        obtain ⟨nx1, nx2⟩ := next_rest (q := left) (t := t + d) hrr
        have hlr : (left.filter fun w => !fAt (t + d) w).length ≤ left.length := List.length_filter_le _ _
        obtain ⟨left', A', t', i', g1, g2⟩ := l10 ti hti q ok hq n (i + 1) (left.filter fun w => !fAt (t + d) w) (A ++ left.filter (fAt (t + d))) (t + d) (by omega) hrr (by rw [List.append_assoc, happ, hA]) (by omega) (by omega)
        have hl := l10b false ok ti q (left.filter (fAt (t + d))) (left.filter fun w => !fAt (t + d) w) (rows A).length (t + d) (i : Int) (rows A) (by omega) hol _ [] rfl
        have hn34 := e34 (left.filter fun w => !fAt (t + d) w) (by omega)
        have hrow : rows A ++ rows (left.filter (fAt (t + d))) = rows (A ++ left.filter (fAt (t + d))) := by simp
        have hrl : (rows A).length = A.length := by simp
        have hys : ysOk (rows (left.filter (fAt (t + d)))) = true := ysOk_rows _
        have hrl2 : (rows (left.filter (fAt (t + d)))).length = (left.filter (fAt (t + d))).length := by simp
        have hadd : Nat.add (rows A).length (rows (left.filter (fAt (t + d)))).length = (rows (A ++ left.filter (fAt (t + d)))).length := by
          rw [← hrow, List.length_append]; rfl
        refine ⟨left', A', t', i', (f10_l0 _ _ _ _ _ _ _ _ _).trans ((goD (by rw [hR]; omega) _ _).trans ((goD (by omega) _ _).trans ((goY (by omega) _ _).trans ((go1 rfl hv _).trans ((goI he _).trans ?_))))), g2⟩
        rw [hwt, hw]
        refine (goLL (e32 left (t + d) (by omega)) _).trans ?_
        rw [hrip]
        rw [show E cx (.loop 10 [true, true, true, true, true, true, false, true, false, false, true, false, false, true, true, false, true, false]) [vbool false, vi 0, AV.list 0 1 (ints ti), vbool ok, AV.list 0 4 (rows q), AV.arr 0 4 0 (rows A).length, vi (t + d), vi (i : Int),
          AV.list 0 4 (rows (left.filter (fAt (t + d)))), AV.list 0 4 (rows (left.filter fun w => !fAt (t + d) w))] [Ob.mk OK.arr 50 4 4 (rows A)] = _ from hl]
        refine Eq.trans (b := Option.bind (E cx (.fn 34) [AV.list 0 4 (rows (left.filter fun w => !fAt (t + d) w))] []) _) rfl ?_
        refine (goB' hn34 _ (fun _ => _)).trans ?_
        have hlen2 : (((rows (left.filter fun w => !fAt (t + d) w)).length : Nat) : Int) > 0 ↔ 0 < (left.filter fun w => !fAt (t + d) w).length := by simp
        have fin : ∀ {k : Option (Out × Heap)}, (bif ysOk (rows (left.filter (fAt (t + d)))) then ((chk (rows A).length (Ob.mk OK.arr 50 4 4 (rows A)).es.length).bind fun _ =>
            if Nat.mul (Nat.add (Ob.mk OK.arr 50 4 4 (rows A)).es.length (rows (left.filter (fAt (t + d)))).length) 40 ≤ 140737488355328 then k else none) else none) = k := fun {k} =>
          (goTt hys _ _).trans ((goCk rfl _).trans (goY (by show ((rows A).length + _) * 40 ≤ _; rw [hrl, hrl2]; omega) _ _))
        have last : E cx (.loop 10 P10) [vbool false, lq (left.filter fun w => !fAt (t + d) w), .arr 0 4 0 (Nat.add (Ob.mk OK.arr 50 4 4 (rows A)).es.length (rows (left.filter (fAt (t + d)))).length), vi (t + d), vi ((i + 1 : Nat) : Int), .list 0 1 (ints ti), vbool ok, lq q]
            [Ob.mk OK.arr 50 4 4 ((Ob.mk OK.arr 50 4 4 (rows A)).es ++ rows (left.filter (fAt (t + d))))] = some (Out.jump (.exit 0) [vbool false, lq left', .arr 0 4 0 (rows A').length, vi t', vi i'], [ob (rows A')]) := by
          refine Eq.trans ?_ g1
          rw [← hrow]
          show E cx _ [vbool false, _, .arr 0 4 0 (Nat.add (rows A).length (rows (left.filter (fAt (t + d)))).length), _, _, _, _, _] _ = _
          rw [hadd, hrow]
        cases hb : (nextF (left.filter fun w => !fAt (t + d) w)).2 with
        | true =>
          have hpos : 0 < (left.filter fun w => !fAt (t + d) w).length := by rw [hb] at nx1; exact of_decide_eq_true nx1.symm
          refine (goTt rfl _ _).trans ((goD (hlen2.2 hpos) _ _).trans ((goDn (nx2 hb) _ _).trans ?_))
          exact fin.trans last
        | false =>
          have hpos : ¬ 0 < (left.filter fun w => !fAt (t + d) w).length := by rw [hb] at nx1; exact of_decide_eq_false nx1.symm
          refine (goFf rfl _ _).trans ((goDn (fun h => hpos (hlen2.1 h)) _ _).trans ?_)
          exact fin.trans last
    · exact ⟨left, A, t, i, (f10_l0 _ _ _ _ _ _ _ _ _).trans (goDn (by rw [hR]; omega) _ _), hA⟩
theorem law10c (raw : List R3) (ti : List Int) (hraw : ∀ r ∈ raw, r.ok) (hB : raw.length ≤ 9223372036854775807) (hti : ∀ n ∈ ti, RI n) :
    E cx (.fn 10) [.list 0 3 (raws raw), .list 0 1 (ints ti)] [] = rb true := by
  refine (f10 _ _).trans ((goT e25 _ _).trans ((goL (e26 raw hraw hB) _).trans ?_))
  have hl := queue_len raw
  have hr := queue_right raw
  generalize queueF raw = q at hl hr
  obtain ⟨left, A, t, i, h1, h2⟩ := l10 ti hti q true hl 10 0 q [] 0 rfl hr rfl (by omega) (by omega)
  rw [show E cx (.loop 10 [true, true, true, true, true, true, false, true, false]) [vbool false, AV.list 0 4 (rows q), AV.arr 0 4 0 0, vi 0, vi 0, AV.list 0 1 (ints ti), vbool true, AV.list 0 4 (rows q)] [Ob.mk OK.arr 50 4 4 []] = _ from h1]
  have hlen : A.length + left.length ≤ 30 := by rw [← List.length_append, h2]; exact hl
  have hrow : rows A ++ rows left = rows q := by rw [← h2]; simp
  have hys1 : ysOk (List.drop 0 (List.take (Nat.add 0 (rows A).length) (rows A))) = true := by rw [clean1]; exact ysOk_rows _
  have hA : (rows A).length = A.length := by simp
  have hL : (rows left).length = left.length := by simp
  have hys2 := ysOk_rows left
  generalize rows A = X at *
  refine Eq.trans (b := (chkLe (Nat.add 0 X.length) X.length).bind fun _ => bif ysOk (List.drop 0 (List.take (Nat.add 0 X.length) X)) then _ else _) rfl ((goLe (by show 0 + _ ≤ _; simp) _).trans ((goTt hys1 _ _).trans ?_))
  simp only [clean1]
  refine (goY (by show (0 + X.length) * 40 ≤ _; omega) _ _).trans ((goTt hys2 _ _).trans ((goCk (by rw [List.nil_append]; exact Nat.zero_add _) _).trans ((goY (by rw [List.nil_append]; show (X.length + (rows left).length) * 40 ≤ 140737488355328; omega) _ _).trans ((goLe (by rw [List.nil_append, List.length_append]; exact Nat.le_of_eq (Nat.zero_add _)) _).trans ?_))))
  have e1 : List.drop 0 (List.take (Nat.add 0 (Nat.add ([] ++ X).length (rows left).length)) (([] ++ X) ++ rows left)) = rows q := by
    rw [List.nil_append, ← hrow, show Nat.add 0 (Nat.add X.length (rows left).length) = (X ++ rows left).length by rw [List.length_append]; exact Nat.zero_add _, List.take_length, List.drop_zero]
  rw [e1]
  exact goT (e31 q (by omega)) _ _
end Go.Proofs.Av
