/- Those of other peers; the first one's time: the program's and the document's. -/
import Derived.Test.YtoaihfbmoppajaaAcZe
namespace Go.Proofs.Av
open Go
def fP (p : Int) (w : W) : Bool := !decide (w.p = p)
def leaveF (q : List W) (p : Int) : List W := bif right q then q.filter (fP p) else []
theorem e51 (w : W) (p : Int) : E cx (.fn 51) [w.av, .rop [vi p]] [] = rb (!fP p w) := by
  refine (f51 _ _ _ _ _).trans ?_
  rw [cond_id]
  simp [fP]
/-- The first one of a peer. -/
theorem l53 (q : List W) (p : Int) (hB : q.length ≤ 1000) (z : Int) : ∀ (suf pre : List W), q = pre ++ suf → (∃ n : Int, E cx (.loop 53 P36) [vi z, vi (pre.length : Int), lq q, .func (.func 51) [] [.rop [vi p]], vi (q.length : Int)] [] = some (Out.jump (.exit 0) [vi z, vi n], []) ∧ ∀ w ∈ suf, fP p w = true) ∨
    ∃ (a : List W) (w : W) (b : List W), suf = a ++ w :: b ∧ (∀ v ∈ a, fP p v = true) ∧ fP p w = false ∧ E cx (.loop 53 P36) [vi z, vi (pre.length : Int), lq q, .func (.func 51) [] [.rop [vi p]], vi (q.length : Int)] [] = some (Out.jump .ret [vi ((pre.length + a.length : Nat) : Int), vi ((pre.length + a.length : Nat) : Int)], [])
  | [], pre, hq => by
    have hp : pre = q := by simpa using hq.symm
    refine .inl ⟨_, (f38_c0_c1_l2 _ _ _ _ _).trans (goDn (by rw [hp]; omega) _ _), fun w hw => by cases hw⟩
  | w :: r, pre, hq => by
    have hv : q[pre.length]? = some w := by rw [hq]; simp
    have hlt := (List.getElem?_eq_some_iff.1 hv).1
    have hq' : q = (pre ++ [w]) ++ r := by rw [hq]; simp
    have hw : IntKind.wrap .i64 (Int.add (pre.length : Int) 1) = (((pre ++ [w]).length : Nat) : Int) := by
      rw [wr_add (a := (pre.length : Int)) (b := 1) (by omega) (by omega)]; simp
    cases hf : fP p w with
    | false =>
      refine .inr ⟨[], w, r, rfl, fun v hv => (by cases hv), hf, ?_⟩
      exact (f38_c0_c1_l2 _ _ _ _ _).trans ((goD (by omega) _ _).trans ((goY (by omega) _ _).trans ((goW rfl hv _).trans (goT (by have := e51 w p; rw [hf] at this; exact this) _ _))))
    | true =>
      have go : ∀ {R : Option (Out × Heap)}, E cx (.loop 53 P36) [vi z, vi (((pre ++ [w]).length : Nat) : Int), lq q, .func (.func 51) [] [.rop [vi p]], vi (q.length : Int)] [] = R → E cx (.loop 53 P36) [vi z, vi (pre.length : Int), lq q, .func (.func 51) [] [.rop [vi p]], vi (q.length : Int)] [] = R := fun h => by
        refine (f38_c0_c1_l2 _ _ _ _ _).trans ((goD (by omega) _ _).trans ((goY (by omega) _ _).trans ((goW rfl hv _).trans ((goF (by have := e51 w p; rw [hf] at this; exact this) _ _).trans ?_))))
        rw [hw]
        exact h
      rcases l53 q p hB z r (pre ++ [w]) hq' with ⟨n, h1, h2⟩ | ⟨a, v, b, h1, h2, h3, h4⟩
      · refine .inl ⟨n, go h1, fun u hu => ?_⟩
        rcases List.mem_cons.1 hu with rfl | hu
        · exact hf
        · exact h2 u hu
      · refine .inr ⟨w :: a, v, b, by rw [h1]; rfl, fun u hu => ?_, h3, (go h4).trans ?_⟩
        · rcases List.mem_cons.1 hu with rfl | hu
          · exact hf
          · exact h2 u hu
        · have : (pre ++ [w]).length + a.length = pre.length + (w :: a).length := by simp; omega
          rw [this]
theorem e53 (q : List W) (p : Int) (hB : q.length ≤ 1000) : (E cx (.fn 53) [lq q, .func (.func 51) [] [.rop [vi p]]] [] = some (Out.ret (vi (-1)), []) ∧ ∀ w ∈ q, fP p w = true) ∨
    ∃ (a : List W) (w : W) (b : List W), q = a ++ w :: b ∧ (∀ v ∈ a, fP p v = true) ∧ fP p w = false ∧ E cx (.fn 53) [lq q, .func (.func 51) [] [.rop [vi p]]] [] = some (Out.ret (vi (a.length : Int)), []) := by
  have hR : ((rows q).length : Int) = (q.length : Int) := by simp
  rcases l53 q p hB 0 q [] rfl with ⟨n, h1, h2⟩ | ⟨a, v, b, h1, h2, h3, h4⟩
  · refine .inl ⟨(f38_c0_c1 _ _).trans ?_, h2⟩
    rw [hR]
    rw [show E cx (.loop 53 [true, false, true, false]) [vi 0, vi 0, AV.list 0 4 (rows q), AV.func (Fn.func 51) [] [AV.rop [vi p]], vi (q.length : Int)] [] = _ from h1]
    rfl
  · refine .inr ⟨a, v, b, h1, h2, h3, (f38_c0_c1 _ _).trans ?_⟩
    rw [hR]
    rw [show E cx (.loop 53 [true, false, true, false]) [vi 0, vi 0, AV.list 0 4 (rows q), AV.func (Fn.func 51) [] [AV.rop [vi p]], vi (q.length : Int)] [] = _ from h4]
    simp only [List.length_nil, Nat.zero_add]
    rfl
/-- An element of an object. -/
theorem goV {ρ : Type} {q : List W} {n : Int} {i : Nat} {w : W} (hn : n = i) (h : q[i]? = some w) (k : Int → Int → Int → ByteArray → Option ρ) : ((nth (rows q) (Nat.add 0 (Int.toNat n))).bind fun cs => (uncons? cs).bind fun p1 => (AV.int? .i64 p1.fst).bind fun n1 =>
    (uncons? p1.snd).bind fun p2 => (AV.int? .i64 p2.fst).bind fun n2 => (uncons? p2.snd).bind fun p3 => (AV.int? .i64 p3.fst).bind fun n3 => (uncons? p3.snd).bind fun p4 => (AV.str? p4.fst).bind fun s => (nil? p4.snd).bind fun _ => k n1 n2 n3 s) = k w.a w.s w.p w.d := by
  subst hn
  have : nth (rows q) (Nat.add 0 (Int.toNat (i : Int))) = some w.row := by
    rw [nth_eq, show Nat.add 0 (Int.toNat (i : Int)) = i from Nat.zero_add _]
    simp [rows, h]
  rw [this]
  rfl
abbrev P50 : List Bool := [true, true, true, false, true, false]
abbrev boxI (p : Int) : Ob := Ob.mk OK.box 3 1 0 [[vi p]]
theorem l50 (p : Int) (n : Nat) (hB : n ≤ 1000) : ∀ (suf : List W) (M kept : List W) (i j : Nat), M.length = n → M.take i = kept → i = kept.length → M.drop j = suf → i ≤ j → j + suf.length = n →
    ∃ (M' : List W) (k : Nat), E cx (.loop 50 P50) [vi (i : Int), vi (j : Int), .arr 0 4 0 n, .func (.func 51) [] [.ptr 1 0 0 0]] [ob (rows M), boxI p] = some (Out.jump (.exit 0) [vi (k : Int), vi (n : Int)], [ob (rows M'), boxI p]) ∧
      M'.length = n ∧ k ≤ n ∧ M'.take k = kept ++ suf.filter (fP p)
  | [], M, kept, i, j, hM, hk, hi, hd, hij, hj => by
    have hj : j = n := by simpa using hj
    subst hj
    exact ⟨M, i, (f38_c0_l3 _ _ _ _ _).trans (goDn (by omega) _ _), hM, hij, by simp [hk]⟩
  | w :: r, M, kept, i, j, hM, hk, hi, hd, hij, hj => by
    simp only [List.length_cons] at hj
    have hv : M[j]? = some w := by
      have : (M.drop j)[0]? = some w := by rw [hd]; rfl
      rwa [List.getElem?_drop, Nat.add_zero] at this
    have hd2 : M.drop (j + 1) = r := by
      have : (M.drop j).drop 1 = r := by rw [hd]; rfl
      rwa [List.drop_drop] at this
    have hwj : IntKind.wrap .i64 (Int.add (j : Int) 1) = ((j + 1 : Nat) : Int) := by
      rw [wr_add (a := (j : Int)) (b := 1) (by omega) (by omega)]; omega
    have hwi : IntKind.wrap .i64 (Int.add (i : Int) 1) = ((i + 1 : Nat) : Int) := by
      rw [wr_add (a := (i : Int)) (b := 1) (by omega) (by omega)]; omega
    cases hf : fP p w with
    | false =>
      obtain ⟨M', k, h1, h2, h3, h4⟩ := l50 p n hB r M kept i (j + 1) hM hk hi hd2 (by omega) (by omega)
      refine ⟨M', k, (f38_c0_l3 _ _ _ _ _).trans ((goD (by omega) _ _).trans ((goY (by omega) _ _).trans ((goY (by omega) _ _).trans ((goV rfl hv _).trans ((goT (by have := e51 w p; rw [hf] at this; exact this) _ _).trans ?_))))), h2, h3, ?_⟩
      · rw [hwj]; exact h1
      · rw [h4]; simp [hf]
    | true =>
      have hil : i < M.length := by omega
      have hu : M[i]? = some M[i] := List.getElem?_eq_getElem hil
      have hset : List.set (rows M) (Nat.add 0 (Int.toNat (i : Int))) [vi w.a, vi w.s, vi w.p, vs w.d] = rows (M.set i w) := by
        rw [show Nat.add 0 (Int.toNat (i : Int)) = i from Nat.zero_add _]
        simp [rows, List.map_set]
      obtain ⟨M', k, h1, h2, h3, h4⟩ := l50 p n hB r (M.set i w) (kept ++ [w]) (i + 1) (j + 1) (by simpa using hM) (by
        rw [List.take_add_one, List.take_set_of_le (Nat.le_refl _), hk]
        simp [hil]) (by simp; omega) (by rw [List.drop_set_of_lt (by omega)]; exact hd2) (by omega) (by omega)
      refine ⟨M', k, (f38_c0_l3 _ _ _ _ _).trans ((goD (by omega) _ _).trans ((goY (by omega) _ _).trans ((goY (by omega) _ _).trans ((goV rfl hv _).trans ((goF (by have := e51 w p; rw [hf] at this; exact this) _ _).trans ?_))))), h2, h3, ?_⟩
      · refine (goY (by omega) _ _).trans ((goY (by omega) _ _).trans ((goV rfl hu _).trans ?_))
        rw [hwj, hwi, hset]
        exact h1
      · rw [h4]; simp [hf]
theorem filter_all {p : Int} {q : List W} (h : ∀ w ∈ q, fP p w = true) : q.filter (fP p) = q := List.filter_eq_self.2 h
theorem e50 (q : List W) (p : Int) (hB : q.length ≤ 1000) : ∃ (k : Nat) (L : List (List AV)), E cx (.own 50) [.arr 0 4 0 q.length, .func (.func 51) [] [.ptr 1 0 0 0]] [ob (rows q), boxI p] = some (Out.ret (.arr 0 4 0 k), [ob L, boxI p]) ∧ k ≤ L.length ∧ L.take k = rows (q.filter (fP p)) := by
  have hR : (rows q).length = q.length := by simp
  have h0 : List.drop 0 (List.take (Nat.add 0 q.length) (rows q)) = rows q := by
    rw [show Nat.add 0 q.length = q.length from Nat.zero_add _, List.drop_zero, ← hR, List.take_length]
  rcases e53 q p hB with ⟨h1, h2⟩ | ⟨a, w, b, hq, h2, h3, h4⟩
  · refine ⟨q.length, rows q, (f38_c0 _ _ _).trans ((goLe (by show 0 + _ ≤ _; rw [hR]; omega) _).trans ((goI (by rw [h0]; exact h1) _).trans (goD rfl _ _))), by rw [hR]; omega, ?_⟩
    rw [filter_all h2, ← hR, List.take_length]
  · have hl : q.length = a.length + (b.length + 1) := by rw [hq]; simp
    obtain ⟨M', k, g1, g2, g3, g4⟩ := l50 p q.length hB b q a a.length (a.length + 1) rfl (by rw [hq]; simp) rfl (by rw [hq]; simp) (by omega) (by omega)
    have hw : IntKind.wrap .i64 (Int.add (a.length : Int) 1) = ((a.length + 1 : Nat) : Int) := by
      rw [wr_add (a := (a.length : Int)) (b := 1) (by omega) (by omega)]; omega
    have hM : (rows M').length = q.length := by simp [g2]
    refine ⟨k, List.take k (rows M') ++ List.replicate (q.length - k) zrow ++ List.drop (k + (q.length - k)) (rows M'), (f38_c0 _ _ _).trans ((goLe (by show 0 + _ ≤ _; rw [hR]; omega) _).trans ((goI (by rw [h0]; exact h4) _).trans ((goDn (by omega) _ _).trans ?_))), ?_, ?_⟩
    · rw [hw]
      rw [show E cx (.loop 50 [true, true, true, false, true, false]) [vi (a.length : Int), vi ((a.length + 1 : Nat) : Int), AV.arr 0 4 0 q.length, AV.func (Fn.func 51) [] [AV.ptr 1 0 0 0]] [Ob.mk OK.arr 50 4 4 (rows q), Ob.mk OK.box 3 1 0 [[vi p]]] = _ from g1]
      refine Eq.trans (b := if 0 ≤ (k : Int) then if (k : Int) ≤ (q.length : Int) then (chkLe (Nat.add (Nat.add 0 (Int.toNat (k : Int))) (Nat.sub q.length (Int.toNat (k : Int)))) (rows M').length).bind fun _ =>
        if 0 ≤ (k : Int) then if (k : Int) ≤ (q.length : Int) then some (Out.ret (AV.arr 0 4 0 (Nat.sub (Int.toNat (k : Int)) 0)), [ob (List.take (Nat.add 0 (Int.toNat (k : Int))) (rows M') ++ List.replicate (Nat.sub q.length (Int.toNat (k : Int))) zrow ++
          List.drop (Nat.add (Nat.add 0 (Int.toNat (k : Int))) (Nat.sub q.length (Int.toNat (k : Int)))) (rows M')), boxI p]) else none else none else none else none) rfl ((goY (by omega) _ _).trans ((goY (by omega) _ _).trans ((goLe (by
        show 0 + k + (q.length - k) ≤ (rows M').length
        rw [hM]; omega) _).trans ((goY (by omega) _ _).trans ((goY (by omega) _ _).trans ?_)))))
      have e1 : Nat.add 0 (Int.toNat (k : Int)) = k := Nat.zero_add _
      have e2 : Nat.sub q.length (Int.toNat (k : Int)) = q.length - k := rfl
      have e3 : Nat.add (Nat.add 0 (Int.toNat (k : Int))) (Nat.sub q.length (Int.toNat (k : Int))) = k + (q.length - k) := by rw [e1]; rfl
      rw [e3, e1]
      rfl
    · simp [g2]; omega
    · rw [List.append_assoc, List.take_append_of_le_length (by simp [g2]; omega), List.take_take, Nat.min_self, take_rows, g4]
      congr 1
      rw [hq]
      simp [List.filter_append, filter_all h2, h3]
theorem e38 (q : List W) (p : Int) (hB : q.length ≤ 1000) : RetL (E cx (.fn 38) [lq q, vi p] []) (rows (leaveF q p)) := by
  have hR : (rows q).length = q.length := by simp
  cases hr : right q with
  | false =>
    rw [show leaveF q p = [] by simp [leaveF, hr]]
    exact ⟨_, (f38 _ _).trans (goF (by rw [← hr]; exact e36 q (by omega)) _ _), rfl⟩
  | true =>
    rw [show leaveF q p = q.filter (fP p) by simp [leaveF, hr]]
    obtain ⟨k, L, h1, h2, h3⟩ := e50 q p hB
    refine ⟨lq (q.filter (fP p)), (f38 _ _).trans ((goT (by rw [← hr]; exact e36 q (by omega)) _ _).trans ((goTt (ysOk_rows q) _ _).trans ((goY (by show (0 + _) * 40 ≤ _; rw [hR]; omega) _ _).trans ?_))), rfl⟩
    have e0 : Nat.add 0 (rows q).length = q.length := by rw [hR]; exact Nat.zero_add _
    rw [e0, List.nil_append]
    rw [show E cx (.own 50) [AV.arr 0 4 0 q.length, AV.func (Fn.func 51) [] [AV.ptr 1 0 0 0]] [Ob.mk OK.arr 50 4 4 (rows q), Ob.mk OK.box 3 1 0 [[vi p]]] = _ from h1]
    refine Eq.trans (b := (chkLe (Nat.add 0 k) L.length).bind fun _ => some (Out.ret (AV.list 0 4 (List.drop 0 (List.take (Nat.add 0 k) L))), [])) rfl ((goLe (by show 0 + k ≤ _; omega) _).trans ?_)
    rw [show Nat.add 0 k = k from Nat.zero_add _, List.drop_zero, h3]
theorem l39 (q : List W) (p : Int) (hB : q.length ≤ 1000) : ∀ (suf pre : List W) (L : List (List AV)), q = pre ++ suf → L.length ≤ pre.length →
    E cx (.loop 39 P50) [.arr 0 4 0 L.length, vi (pre.length : Int), lq q, vi p, vbool true] [ob L] = some (Out.jump (.exit 0) [.arr 0 4 0 (L ++ rows (suf.filter (fP p))).length, vi (q.length : Int)], [ob (L ++ rows (suf.filter (fP p)))])
  | [], pre, L, hq, hL => by
    have hR : (rows q).length = q.length := by simp
    have hp : pre = q := by simpa using hq.symm
    refine (f39_l0 _ _ _ _ _ _).trans (Eq.trans (b := bif decide ((pre.length : Int) < (((rows q).length : Nat) : Int)) then _ else _) rfl ((goDn (by rw [hR, hp]; omega) _ _).trans ?_))
    subst hp
    simp
  | w :: r, pre, L, hq, hL => by
    have hR : (rows q).length = q.length := by simp
    have hv : q[pre.length]? = some w := by rw [hq]; simp
    have hlt := (List.getElem?_eq_some_iff.1 hv).1
    have hq' : q = (pre ++ [w]) ++ r := by rw [hq]; simp
    have hw : IntKind.wrap .i64 (Int.add (pre.length : Int) 1) = (((pre ++ [w]).length : Nat) : Int) := by
      rw [wr_add (a := (pre.length : Int)) (b := 1) (by omega) (by omega)]; simp
    refine (f39_l0 _ _ _ _ _ _).trans (Eq.trans (b := bif decide ((pre.length : Int) < (((rows q).length : Nat) : Int)) then _ else _) rfl ((goD (by rw [hR]; omega) _ _).trans ((goTt rfl _ _).trans ((goY (by omega) _ _).trans ((goW rfl hv _).trans ?_)))))
    by_cases ha : w.p = p
    · have hf : fP p w = false := by simp [fP, ha]
      have ih := l39 q p hB r (pre ++ [w]) L hq' (by simp; omega)
      refine (goE ha _ _).trans ?_
      rw [hw]
      refine ih.trans ?_
      simp [hf]
    · have hf : fP p w = true := by simp [fP, ha]
      have ih := l39 q p hB r (pre ++ [w]) (L ++ [w.row]) hq' (by simp; omega)
      refine (goEn ha _ _).trans ((goY (by omega) _ _).trans ((goW rfl hv _).trans ((goCk rfl _).trans ((goY (by show (L.length + 1) * 40 ≤ _; omega) _ _).trans ?_))))
      rw [hw]
      have e1 : (L ++ [w.row]).length = Nat.add L.length 1 := by simp
      rw [e1] at ih
      refine ih.trans ?_
      simp [hf]
theorem l39_no (q : List W) (p : Int) : E cx (.loop 39 P50) [.arr 0 4 0 0, vi 0, lq q, vi p, vbool false] [ob []] = some (Out.jump (.exit 0) [.arr 0 4 0 0, vi 0], [ob []]) :=
  (f39_l0 _ _ _ _ _ _).trans rfl
theorem e39 (q : List W) (p : Int) (hB : q.length ≤ 1000) : RetL (E cx (.fn 39) [lq q, vi p] []) (rows (leaveF q p)) := by
  cases hr : right q with
  | false =>
    rw [show leaveF q p = [] by simp [leaveF, hr]]
    refine ⟨.list 0 4 [], (f39 _ _).trans ((goF (by rw [← hr]; exact e37 q (by omega)) _ _).trans ?_), rfl⟩
    rw [show E cx (.loop 39 [true, true, true, false, true, false]) [AV.arr 0 4 0 0, vi 0, AV.list 0 4 (rows q), vi p, vbool false] [Ob.mk OK.arr 50 4 4 []] = _ from l39_no q p]
    rfl
  | true =>
    rw [show leaveF q p = q.filter (fP p) by simp [leaveF, hr]]
    refine ⟨lq (q.filter (fP p)), (f39 _ _).trans ((goT (by rw [← hr]; exact e37 q (by omega)) _ _).trans ?_), rfl⟩
    have h := l39 q p hB q [] [] rfl (Nat.le_refl _)
    rw [show E cx (.loop 39 [true, true, true, false, true, false]) [AV.arr 0 4 0 0, vi 0, AV.list 0 4 (rows q), vi p, vbool true] [Ob.mk OK.arr 50 4 4 []] = _ from h]
    simp only [List.nil_append]
    show _ = some (Out.ret (AV.list 0 4 (rows (q.filter (fP p)))), [])
    generalize rows (q.filter (fP p)) = A
    refine Eq.trans (b := (chkLe (Nat.add 0 A.length) A.length).bind fun _ => some (Out.ret (AV.list 0 4 (List.drop 0 (List.take (Nat.add 0 A.length) A))), [])) rfl ?_
    refine (goLe (by show 0 + _ ≤ _; simp) _).trans ?_
    rw [clean1]
def nextF (q : List W) : Int × Bool := bif right q then (match q with | [] => (0, false) | w :: _ => (w.a, true)) else (0, false)
theorem e34 (q : List W) (hB : q.length ≤ 1000) : RetIB (E cx (.fn 34) [lq q] []) (nextF q).1 (nextF q).2 := by
  cases q with
  | nil => exact (f34 _).trans (goD (by simp) _ _)
  | cons w r =>
    refine (f34 _).trans ((goDn (by simp; omega) _ _).trans ?_)
    cases hr : right (w :: r) with
    | false =>
      rw [show nextF (w :: r) = (0, false) by simp [nextF, hr]]
      exact goF (by rw [← hr]; exact e36 _ (by omega)) _ _
    | true =>
      rw [show nextF (w :: r) = (w.a, true) by simp [nextF, hr]]
      exact goT (by rw [← hr]; exact e36 _ (by omega)) _ _
theorem e35 (q : List W) (hB : q.length ≤ 1000) : RetIB (E cx (.fn 35) [lq q] []) (nextF q).1 (nextF q).2 := by
  cases hr : right q with
  | false =>
    rw [show nextF q = (0, false) by simp [nextF, hr]]
    exact (f35 _).trans (goF (by rw [← hr]; exact e37 _ (by omega)) _ _)
  | true =>
    refine (f35 _).trans ((goT (by rw [← hr]; exact e37 _ (by omega)) _ _).trans ?_)
    cases q with
    | nil => exact goD (by simp) _ _
    | cons w r =>
      rw [show nextF (w :: r) = (w.a, true) by simp [nextF, hr]]
      exact (goDn (by simp; omega) _ _)
end Go.Proofs.Av
