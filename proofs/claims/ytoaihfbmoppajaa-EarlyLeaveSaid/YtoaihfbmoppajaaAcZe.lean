/- Raw queues; those whose time has come: the program's and the document's. -/
import Derived.Test.YtoaihfbmoppajaaAcZd
namespace Go.Proofs.Av
open Go
/-- Three raw numbers. -/
structure R3 where
  (x y z : Int)
abbrev R3.row (r : R3) : List AV := [vi r.x, vi r.y, vi r.z]
abbrev raws (l : List R3) : List (List AV) := l.map R3.row
def R3.ok (r : R3) : Prop := RI r.x ∧ RI r.y ∧ RI r.z
theorem go3 {l : List R3} {n : Int} {i : Nat} {r : R3} {ρ : Type} (hn : n = i) (h : l[i]? = some r) (k : Int → Int → Int → Option ρ) : ((raws l)[Int.toNat n]?.bind fun cs => (uncons? cs).bind fun p1 => (AV.int? .i64 p1.fst).bind fun n1 =>
    (uncons? p1.snd).bind fun p2 => (AV.int? .i64 p2.fst).bind fun n2 => (uncons? p2.snd).bind fun p3 => (AV.int? .i64 p3.fst).bind fun n3 => (nil? p3.snd).bind fun _ => k n1 n2 n3) = k r.x r.y r.z := by
  subst hn
  have : (raws l)[Int.toNat (i : Int)]? = some r.row := by simp [raws, h]
  rw [this]
  rfl
def txt (n : Int) : ByteArray := if n = 0 then ByteArray.mk (Array.mk []) else if n = 1 then ByteArray.mk (Array.mk [UInt8.ofNat 97]) else ByteArray.mk (Array.mk [UInt8.ofNat 98, UInt8.ofNat 99])
def waitOf (r : R3) : W := ⟨pk r.x 6, pk r.y 8, pk r.z 4, txt (pk (r.z.tdiv 4) 3)⟩
theorem wait_may (r : R3) : may (waitOf r) = true := by
  have h1 := (pk_range (c := r.x) (n := 6) (by omega)).1
  have h2 := (pk_range (c := r.y) (n := 8) (by omega)).1
  simp [may, waitOf, h1, h2]
theorem tdiv_ri {z : Int} (h : RI z) : RI (z.tdiv 4) ∧ IntKind.wrap .i64 (z.tdiv 4) = z.tdiv 4 := by
  have : RI (z.tdiv 4) := by
    obtain ⟨h1, h2⟩ := h
    rcases Int.le_total 0 z with hz | hz
    · rw [Int.tdiv_eq_ediv_of_nonneg hz]; constructor <;> omega
    · have : z.tdiv 4 = -((-z).tdiv 4) := by rw [Int.neg_tdiv]; omega
      rw [this, Int.tdiv_eq_ediv_of_nonneg (by omega)]
      constructor <;> omega
  exact ⟨this, wr_id this.1 this.2⟩
theorem e27 (r : R3) (h : r.ok) : E cx (.fn 27) [.agg r.row] [] = some (Out.ret (waitOf r).av, []) := by
  obtain ⟨h1, h2, h3⟩ := h
  obtain ⟨h4, h5⟩ := tdiv_ri h3
  have hp := pk_range (c := r.z.tdiv 4) (n := 3) (by omega)
  refine (f27 _ _ _).trans ((goI (e28 h1 (by omega)) _).trans ((goI (e28 h2 (by omega)) _).trans ((goI (e28 h3 (by omega)) _).trans ((goI (by rw [h5]; exact e28 h4 (by omega)) _).trans ?_))))
  refine (goY hp.1 _ _).trans ?_
  unfold waitOf W.av W.row
  generalize pk (r.z.tdiv 4) 3 = n at *
  have : n = 0 ∨ n = 1 ∨ n = 2 := by omega
  rcases this with rfl | rfl | rfl <;> rfl
def qstep (q : List W) (r : R3) : List W := bif decide ((putF q 100 (waitOf r)).2 = 0) then (putF q 100 (waitOf r)).1 else q
def queueF (l : List R3) : List W := (l.take 30).foldl qstep []
theorem ins_len (q : List W) (w : W) : (ins q w).length = q.length + 1 := by
  unfold ins
  have := cnt_le (fLt w) q
  simp
  omega
theorem qstep_len (q : List W) (r : R3) : (qstep q r).length ≤ q.length + 1 := by
  unfold qstep
  cases h : decide ((putF q 100 (waitOf r)).2 = 0) with
  | false => simp
  | true =>
    simp only [cond_true]
    unfold putF
    cases right q && may (waitOf r) <;> simp only [cond_true, cond_false] <;> (try simp)
    cases twice q (waitOf r) <;> simp only [cond_true, cond_false] <;> (try simp)
    cases decide ((q.length : Int) ≥ 100) <;> simp only [cond_true, cond_false] <;> (try simp)
    rw [ins_len]; omega
abbrev P26 : List Bool := [true, true, false, true, false]
theorem l26 (l : List R3) (hok : ∀ r ∈ l, r.ok) (hB : l.length ≤ 9223372036854775807) : ∀ (n i : Nat) (q : List W), n + i = 30 → q.length ≤ i → ∃ k : Int, E cx (.loop 26 P26) [lq q, vi (i : Int), .list 0 3 (raws l)] [] = some (Out.jump (.exit 0) [lq (((l.drop i).take n).foldl qstep q), vi k], [])
  | n, i, q, hi, hq => by
    have hR : (raws l).length = l.length := by simp
    by_cases h : i < l.length
    · cases n with
      | zero =>
        refine ⟨i, (f26_l0 _ _ _).trans ((goD (by rw [hR]; omega) _ _).trans ((goDn (by omega) _ _).trans ?_))⟩
        rfl
      | succ n =>
        have hv : l[i]? = some l[i] := List.getElem?_eq_getElem h
        have hrok := hok _ (List.getElem_mem h)
        have hd : l.drop i = l[i] :: l.drop (i + 1) := List.drop_eq_getElem_cons h
        obtain ⟨k, hk⟩ := l26 l hok hB n (i + 1) (qstep q l[i]) (by omega) (Nat.le_trans (qstep_len _ _) (by omega))
        have hw : IntKind.wrap .i64 (Int.add (i : Int) 1) = ((i + 1 : Nat) : Int) := by rw [wr_add (a := (i : Int)) (b := 1) (by omega) (by omega)]; omega
        refine ⟨k, (f26_l0 _ _ _).trans ((goD (by rw [hR]; omega) _ _).trans ((goD (by omega) _ _).trans ((goY (by omega) _ _).trans ((go3 rfl hv _).trans ((goR (e27 _ hrok) _).trans ((goLI (e30 q 100 _ (by omega)) _).trans ?_))))))⟩
        rw [hw, hd]
        simp only [List.take_succ_cons, List.foldl_cons]
        cases hz : decide ((putF q 100 (waitOf l[i])).2 = 0) with
        | true =>
          rw [show qstep q l[i] = (putF q 100 (waitOf l[i])).1 by simp [qstep, hz]] at hk ⊢
          exact (goTt rfl _ _).trans hk
        | false =>
          rw [show qstep q l[i] = q by simp [qstep, hz]] at hk ⊢
          exact (goFf rfl _ _).trans hk
    · refine ⟨i, (f26_l0 _ _ _).trans ((goDn (by rw [hR]; omega) _ _).trans ?_)⟩
      rw [List.drop_eq_nil_of_le (by omega)]
      simp
theorem e26 (l : List R3) (hok : ∀ r ∈ l, r.ok) (hB : l.length ≤ 9223372036854775807) : RetL (E cx (.fn 26) [.list 0 3 (raws l)] []) (rows (queueF l)) := by
  obtain ⟨k, hk⟩ := l26 l hok hB 30 0 [] rfl (Nat.zero_le _)
  refine ⟨lq (queueF l), (f26 _).trans ?_, rfl⟩
  rw [show E cx (.loop 26 [true, true, false, true, false]) [AV.list 0 4 [], vi 0, AV.list 0 3 (raws l)] [] = _ from hk]
  rfl
theorem fold_len : ∀ (l : List R3) (q : List W), (l.foldl qstep q).length ≤ q.length + l.length
  | [], q => by simp
  | r :: l, q => by
    have h1 := fold_len l (qstep q r)
    have h2 := qstep_len q r
    simp only [List.foldl_cons, List.length_cons]
    omega
theorem queue_len (l : List R3) : (queueF l).length ≤ 30 := by
  have := fold_len (l.take 30) []
  unfold queueF
  have h2 : (l.take 30).length ≤ 30 := by rw [List.length_take]; omega
  simp only [List.length_nil] at this
  omega
/-! ### Right queues stay right -/
theorem not_twice {q : List W} {w v : W} (h : twice q w = false) (hv : q[cnt (fLt w) q]? = some v) : lt w v := by
  unfold twice at h
  rw [hv] at h
  have h3 : (!decide (lt w v)) = false := h
  simpa using h3
theorem ins_right {q : List W} {w : W} (hq : right q = true) (hw : may w = true) (ht : twice q w = false) : right (ins q w) = true := by
  obtain ⟨h1, h2⟩ := right_iff.1 hq
  have hc := cnt_le (fLt w) q
  have htake : q.take (cnt (fLt w) q) ++ q.drop (cnt (fLt w) q) = q := List.take_append_drop _ _
  refine right_iff.2 ⟨fun v hv => ?_, ?_⟩
  · unfold ins at hv
    rcases List.mem_append.1 hv with h | h
    · exact h1 v (List.mem_of_mem_take h)
    · rcases List.mem_cons.1 h with rfl | h
      · exact hw
      · exact h1 v (List.mem_of_mem_drop h)
  · unfold ins
    rw [List.pairwise_append, List.pairwise_cons]
    have hp := h2
    rw [← htake, List.pairwise_append] at hp
    obtain ⟨p1, p2, p3⟩ := hp
    have lo : ∀ v ∈ q.take (cnt (fLt w) q), lt v w := fun v hv => by
      rw [(cnt_take (fLt_cut hq)).1] at hv
      simpa [fLt] using (List.mem_filter.1 hv).2
    have hi : ∀ v ∈ q.drop (cnt (fLt w) q), lt w v := fun v hv => by
      obtain ⟨i, hi⟩ := List.mem_iff_getElem?.1 hv
      rw [List.getElem?_drop] at hi
      have hlt := (List.getElem?_eq_some_iff.1 hi).1
      have hm : q[cnt (fLt w) q]? = some (q[cnt (fLt w) q]'(by omega)) := List.getElem?_eq_getElem _
      have hn := not_twice ht hm
      cases i with
      | zero =>
        rw [Nat.add_zero, hm] at hi
        cases hi
        exact hn
      | succ i =>
        have := List.pairwise_iff_getElem.1 h2 (cnt (fLt w) q) (cnt (fLt w) q + (i + 1)) (by omega) hlt (by omega)
        have hv2 : q[cnt (fLt w) q + (i + 1)] = v := (List.getElem?_eq_some_iff.1 hi).2
        rw [hv2] at this
        exact lt_trans hn this
    refine ⟨p1, ⟨hi, p2⟩, fun u hu v hv => ?_⟩
    rcases List.mem_cons.1 hv with rfl | hv
    · exact lo u hu
    · exact p3 u hu v hv
theorem qstep_right {q : List W} (r : R3) (hq : right q = true) : right (qstep q r) = true := by
  unfold qstep
  cases h : decide ((putF q 100 (waitOf r)).2 = 0) with
  | false => exact hq
  | true =>
    simp only [cond_true]
    have hm := wait_may r
    cases ht : twice q (waitOf r) with
    | true =>
      exfalso
      rw [show putF q 100 (waitOf r) = ([], 7) by simp [putF, hq, hm, ht]] at h
      simp at h
    | false =>
      by_cases hf : (q.length : Int) ≥ 100
      · exfalso
        rw [show putF q 100 (waitOf r) = ([], 5) by simp [putF, hq, hm, ht, hf]] at h
        simp at h
      · rw [show putF q 100 (waitOf r) = (ins q (waitOf r), 0) by simp [putF, hq, hm, ht, hf]]
        exact ins_right hq hm ht
theorem fold_right : ∀ (l : List R3) (q : List W), right q = true → right (l.foldl qstep q) = true
  | [], q, h => h
  | r :: l, q, h => fold_right l _ (qstep_right r h)
theorem queue_right (l : List R3) : right (queueF l) = true := fold_right _ _ rfl
/-! ### Those whose time has come -/
theorem clean1 (A : List (List AV)) : List.drop 0 (List.take (Nat.add 0 A.length) A) = A := by
  rw [show Nat.add 0 A.length = A.length from Nat.zero_add _]; simp
theorem clean2 (A : List (List AV)) : List.drop 0 (List.take (Nat.add 0 (Nat.add 0 A.length)) ([] ++ A)) = A := by
  rw [show Nat.add 0 (Nat.add 0 A.length) = A.length by show 0 + (0 + _) = _; omega]; simp
def ripeF (q : List W) (t : Int) : List W × List W := bif right q then (q.filter (fAt t), q.filter fun w => !fAt t w) else ([], [])
theorem e32 (q : List W) (t : Int) (hB : q.length ≤ 1000) : RetLL (E cx (.fn 32) [lq q, vi t] []) (rows (ripeF q t).1) (rows (ripeF q t).2) := by
  have hR : (rows q).length = q.length := by simp
  cases hr : right q with
  | false =>
    rw [show ripeF q t = ([], []) by simp [ripeF, hr]]
    exact ⟨_, _, (f32 _ _).trans (goF (by rw [← hr]; exact e36 q (by omega)) _ _), rfl, rfl⟩
  | true =>
    have hc := cnt_le (fAt t) q
    obtain ⟨t1, t2⟩ := cnt_take (fAt_cut (t := t) hr)
    rw [show ripeF q t = (q.filter (fAt t), q.filter fun w => !fAt t w) by simp [ripeF, hr], ← t1, ← t2]
    have hs : E cx (.fn 44) [vi (((rows q).length : Nat) : Int), .func (.func 48) [] [.rop [lq q], .rop [vi t]]] [] = some (Out.ret (vi (cnt (fAt t) q : Int)), []) := by
      rw [hR]; exact e44r q t (by omega) hr
    refine ⟨lq (q.take (cnt (fAt t) q)), lq (q.drop (cnt (fAt t) q)), (f32 _ _).trans ((goT (by rw [← hr]; exact e36 q (by omega)) _ _).trans ((goI hs _).trans ?_)), rfl, rfl⟩
    have hy1 : ysOk (List.drop 0 (List.take (Int.toNat (cnt (fAt t) q : Int)) (rows q))) = true := by rw [take_rows, drop_rows]; exact ysOk_rows _
    have hy2 : ysOk (List.drop (Int.toNat (cnt (fAt t) q : Int)) (List.take (rows q).length (rows q))) = true := by rw [take_rows, drop_rows]; exact ysOk_rows _
    unfold lq
    rw [← take_rows, ← drop_rows]
    generalize cnt (fAt t) q = m at *
    generalize rows q = R at *
    have hl1 : (List.drop 0 (List.take (Int.toNat (m : Int)) R)).length = m := by simp; omega
    have hl2 : (List.drop (Int.toNat (m : Int)) (List.take R.length R)).length = R.length - m := by simp
    refine (goY (by omega) _ _).trans ((goY (by omega) _ _).trans ((goTt hy1 _ _).trans ((goY (by rw [hl1]; show (0 + m) * 40 ≤ _; omega) _ _).trans ?_)))
    refine (goY (by omega) _ _).trans ((goY (by omega) _ _).trans ((goTt hy2 _ _).trans ((goY (by rw [hl2]; show (0 + (R.length - m)) * 40 ≤ _; omega) _ _).trans ?_)))
    refine (goLe (by show 0 + (0 + _) ≤ _; simp) _).trans ((goLe (by show 0 + (0 + _) ≤ _; simp) _).trans ?_)
    rw [clean2, clean2]
    simp
abbrev ob (l : List (List AV)) : Ob := Ob.mk OK.arr 50 4 4 l
theorem l33 (q : List W) (t : Int) (hB : q.length ≤ 1000) : ∀ (suf pre : List W) (L M : List (List AV)), q = pre ++ suf → L.length ≤ pre.length → M.length ≤ pre.length →
    E cx (.loop 33 P30) [.arr 0 4 0 L.length, .arr 1 4 0 M.length, vi (pre.length : Int), lq q, vi t, vbool true] [ob L, ob M] =
      some (Out.jump (.exit 0) [.arr 0 4 0 (L ++ rows (suf.filter (fAt t))).length, .arr 1 4 0 (M ++ rows (suf.filter fun w => !fAt t w)).length, vi (q.length : Int)], [ob (L ++ rows (suf.filter (fAt t))), ob (M ++ rows (suf.filter fun w => !fAt t w))])
  | [], pre, L, M, hq, hL, hM => by
    have hR : (rows q).length = q.length := by simp
    have hp : pre = q := by simpa using hq.symm
    refine (f33_l0 _ _ _ _ _ _ _ _).trans (Eq.trans (b := bif decide ((pre.length : Int) < (((rows q).length : Nat) : Int)) then _ else _) rfl ((goDn (by rw [hR, hp]; omega) _ _).trans ?_))
    subst hp
    simp
  | w :: r, pre, L, M, hq, hL, hM => by
    have hR : (rows q).length = q.length := by simp
    have hv : q[pre.length]? = some w := by rw [hq]; simp
    have hlt := (List.getElem?_eq_some_iff.1 hv).1
    have hq' : q = (pre ++ [w]) ++ r := by rw [hq]; simp
    have hw : IntKind.wrap .i64 (Int.add (pre.length : Int) 1) = (((pre ++ [w]).length : Nat) : Int) := by
      rw [wr_add (a := (pre.length : Int)) (b := 1) (by omega) (by omega)]; simp
    refine (f33_l0 _ _ _ _ _ _ _ _).trans (Eq.trans (b := bif decide ((pre.length : Int) < (((rows q).length : Nat) : Int)) then _ else _) rfl ((goD (by rw [hR]; omega) _ _).trans ((goTt rfl _ _).trans ((goY (by omega) _ _).trans ((goW rfl hv _).trans ?_)))))
    by_cases ha : w.a ≤ t
    · have hf : fAt t w = true := by simp [fAt, ha]
      have ih := l33 q t hB r (pre ++ [w]) (L ++ [w.row]) M hq' (by simp; omega) (by simp; omega)
      refine (goD ha _ _).trans ((goY (by omega) _ _).trans ((goW rfl hv _).trans ((goCk rfl _).trans ((goY (by show (L.length + 1) * 40 ≤ _; omega) _ _).trans ?_))))
      rw [hw]
      have e1 : (L ++ [w.row]).length = Nat.add L.length 1 := by simp
      rw [e1] at ih
      refine ih.trans ?_
      simp [hf]
    · have hf : fAt t w = false := by simp [fAt]; omega
      have ih := l33 q t hB r (pre ++ [w]) L (M ++ [w.row]) hq' (by simp; omega) (by simp; omega)
      refine (goDn ha _ _).trans ((goY (by omega) _ _).trans ((goW rfl hv _).trans ((goCk rfl _).trans ((goY (by show (M.length + 1) * 40 ≤ _; omega) _ _).trans ?_))))
      rw [hw]
      have e1 : (M ++ [w.row]).length = Nat.add M.length 1 := by simp
      rw [e1] at ih
      refine ih.trans ?_
      simp [hf]
theorem l33_no (q : List W) (t : Int) : E cx (.loop 33 P30) [.arr 0 4 0 0, .arr 1 4 0 0, vi 0, lq q, vi t, vbool false] [ob [], ob []] = some (Out.jump (.exit 0) [.arr 0 4 0 0, .arr 1 4 0 0, vi 0], [ob [], ob []]) := by
  exact (f33_l0 _ _ _ _ _ _ _ _).trans rfl
theorem e33 (q : List W) (t : Int) (hB : q.length ≤ 1000) : RetLL (E cx (.fn 33) [lq q, vi t] []) (rows (ripeF q t).1) (rows (ripeF q t).2) := by
  cases hr : right q with
  | false =>
    rw [show ripeF q t = ([], []) by simp [ripeF, hr]]
    refine ⟨.list 0 4 [], .list 0 4 [], (f33 _ _).trans ((goF (by rw [← hr]; exact e37 q (by omega)) _ _).trans ?_), rfl, rfl⟩
    rw [show E cx (.loop 33 [true, true, true, true, false, true, false]) [AV.arr 0 4 0 0, AV.arr 1 4 0 0, vi 0, AV.list 0 4 (rows q), vi t, vbool false] [Ob.mk OK.arr 50 4 4 [], Ob.mk OK.arr 50 4 4 []] = _ from l33_no q t]
    rfl
  | true =>
    rw [show ripeF q t = (q.filter (fAt t), q.filter fun w => !fAt t w) by simp [ripeF, hr]]
    refine ⟨lq (q.filter (fAt t)), lq (q.filter fun w => !fAt t w), (f33 _ _).trans ((goT (by rw [← hr]; exact e37 q (by omega)) _ _).trans ?_), rfl, rfl⟩
    have h := l33 q t hB q [] [] [] rfl (Nat.le_refl _) (Nat.le_refl _)
    rw [show E cx (.loop 33 [true, true, true, true, false, true, false]) [AV.arr 0 4 0 0, AV.arr 1 4 0 0, vi 0, AV.list 0 4 (rows q), vi t, vbool true] [Ob.mk OK.arr 50 4 4 [], Ob.mk OK.arr 50 4 4 []] = _ from h]
    simp only [List.nil_append]
    show _ = some (Out.ret (AV.tuple [AV.list 0 4 (rows (q.filter (fAt t))), AV.list 0 4 (rows (q.filter fun w => !fAt t w))]), [])
    generalize rows (q.filter (fAt t)) = A
    generalize rows (q.filter fun w => !fAt t w) = B
    refine Eq.trans (b := (chkLe (Nat.add 0 A.length) A.length).bind fun _ => (chkLe (Nat.add 0 B.length) B.length).bind fun _ => some (Out.ret (AV.tuple [AV.list 0 4 (List.drop 0 (List.take (Nat.add 0 A.length) A)), AV.list 0 4 (List.drop 0 (List.take (Nat.add 0 B.length) B))]), [])) rfl ?_
    refine (goLe (by show 0 + _ ≤ _; simp) _).trans ((goLe (by show 0 + _ ≤ _; simp) _).trans ?_)
    rw [clean1, clean1]
end Go.Proofs.Av
