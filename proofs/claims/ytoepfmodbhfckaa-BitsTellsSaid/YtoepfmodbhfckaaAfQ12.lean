/- Bits: law 12: which bits may be, their bytes, and what is set where, is as the document says. -/
import Derived.Test.YtoepfmodbhfckaaAfPP
import Derived.Test.YtoepfmodbhfckaaAfY12
namespace Go.Proofs.Av
open Go
abbrev bT (t : T3) : AV := bA t.1 t.2
abbrev bX (t : T3) : Ob := bB t.1 t.2
def small (t : T3) : Prop := t.2.length ≤ 4000
def disV (t u : T3) : Bool := rightB t.1 t.2 && (rightB u.1 u.2 && decide (t.1 = u.1)) && t.2.all fun x => !decide (x ∈ u.2)
def subV (t u : T3) : Bool := rightB t.1 t.2 && (rightB u.1 u.2 && decide (t.1 = u.1)) && t.2.all fun x => decide (x ∈ u.2)
theorem c68v {t u : T3} (ht : small t) (hu : small u) : E cx (Key.fn 68) [bT t, bT u] [] = rb (disV t u) := by
  have h1 : t.2.length ≤ 4000 := ht
  have h2 : u.2.length ≤ 4000 := hu
  rw [c68 t.1 u.1 t.2 u.2 (by omega) (by omega)]
  unfold disV
  cases h : rightB u.1 u.2 with
  | false => simp
  | true => rw [← h, dis_eq h]; rfl
theorem c69v {t u : T3} (ht : small t) (hu : small u) : E cx (Key.fn 69) [bT t, bT u] [] = rb (disV t u) := by
  have h1 : t.2.length ≤ 4000 := ht
  have h2 : u.2.length ≤ 4000 := hu
  exact c69 t.1 u.1 t.2 u.2 (by omega) (by omega)
theorem c70v {t u : T3} (ht : small t) (hu : small u) : E cx (Key.fn 70) [bT t, bT u] [] = rb (subV t u) := by
  have h1 : t.2.length ≤ 4000 := ht
  have h2 : u.2.length ≤ 4000 := hu
  rw [c70 t.1 u.1 t.2 u.2 (by omega) (by omega)]
  unfold subV
  cases h : rightB u.1 u.2 with
  | false => simp
  | true => rw [← h, sub_eq h]; rfl
theorem c71v {t u : T3} (ht : small t) (hu : small u) : E cx (Key.fn 71) [bT t, bT u] [] = rb (subV t u) := by
  have h1 : t.2.length ≤ 4000 := ht
  have h2 : u.2.length ≤ 4000 := hu
  exact c71 t.1 u.1 t.2 u.2 (by omega) (by omega)
theorem same_v {n : Int} {l : List Int} (h : l.length ≤ 4000) : E cx (Key.fn 67) [bA n l, bA n l] [] = rb true := (c67 n n l l (by omega)).trans (by rw [decide_eq_true ⟨rfl, rfl⟩])
abbrev l12a : List Bool := [true, true, true, true, true, true, false, true, false]
abbrev l12b : List Bool := [true, true, true, true, true, true, false, true, false, false, true, true, false, false, true, true, true, true, true, true, true, false]
abbrev l12c : List Bool := [true, true, true, true, true, true, true, true, true, false, true, false]
abbrev l12d : List Bool := [true, true, true, true, true, true, true, true, true, false, true, false, false, true, true, false, false, true, true, false]
theorem loop12b (b0 : Bool) (s : ByteArray) (at' c most i : Int) (b1 : Bool) (R1 : List (List AV)) (n1 x1 : Int) (t0 t1 t2 t3 y : T3) (hp : small t2) (hy : small y) (Z : List T3) (hZ : ∀ z ∈ Z, small z) (hl : Z.length ≤ 1000) : ∀ (rest : List T3) (j : Nat), Z.drop j = rest → j + rest.length = Z.length →
    E cx (Key.loop 12 l12b) [vbool b0, vi j, vs s, vi at', vb c, vi most, vi i, vbool b1, .ptr 1 0 0 0, .ptr 2 0 0 0, .ptr 3 0 0 0, .ptr 4 0 0 0, .list 0 2 R1, vi n1, vi x1, .list 0 2 (brs Z), vi Z.length] [bX t0, bX t1, bX t2, bX t3, bX y] =
      some (Out.jump (.exit 2) [vbool b0, vi Z.length], [bX t0, bX t1, bX t2, bX t3, bX y])
  | [], j, hd, hi => by
    simp only [List.length_nil, Nat.add_zero] at hi
    subst hi
    exact (f12_l0_l1 _ _ _ _ _ _ _ _ _ _ _ _ _ _ _ _ _ _ _ _ _ _ _).trans (goDn (by omega) _ _)
  | z :: rest, j, hd, hi => by
    obtain ⟨hq, hd', hlt⟩ := drop_cons' hd
    simp only [List.length_cons] at hi
    have hz := hZ z (List.mem_of_getElem? hq)
    have ih := loop12b b0 s at' c most i b1 R1 n1 x1 t0 t1 t2 t3 y hp hy Z hZ hl rest (j + 1) hd' (by omega)
    have hyl : y.2.length ≤ 4000 := hy
    have hL : ∀ t ∈ [z, t2], t.2.length ≤ 4000 := fun t ht => by
      simp at ht
      rcases ht with rfl | rfl
      · exact hz
      · exact hp
    have u1 := c65 y.1 y.2 hyl [z, t2] (by simp) hL
    have u2 := c66 y.1 y.2 hyl [z, t2] (by simp) hL
    have ul := unO_len y.1 y.2 [z, t2]
    have q1 : q12_l0_l1_1 b0 j s at' c most i b1 R1 n1 x1 (brs Z) Z.length t0.1 (ints t0.2) t1.1 (ints t1.2) t2.1 (ints t2.2) t3.1 (ints t3.2) y.1 (ints y.2) = some (Out.jump (.exit 2) [vbool b0, vi Z.length], [bX t0, bX t1, bX t2, bX t3, bX y]) := by
      unfold q12_l0_l1_1
      rw [wS (by omega)]
      exact ih
    have q2 : q12_l0_l1_2 y.1 (ints y.2) z.1 (ints z.2) b0 j s at' c most i b1 R1 n1 x1 (brs Z) Z.length t0.1 (ints t0.2) t1.1 (ints t1.2) t2.1 (ints t2.2) t3.1 (ints t3.2) = some (Out.jump (.exit 2) [vbool b0, vi Z.length], [bX t0, bX t1, bX t2, bX t3, bX y]) := by
      unfold q12_l0_l1_2
      cases hv : subV y z with
      | true => exact (goT ((c70v hy hz).trans (by rw [hv])) _ _).trans ((goT ((c71v hy hz).trans (by rw [hv])) _ _).trans q1)
      | false => exact (goF ((c70v hy hz).trans (by rw [hv])) _ _).trans ((goF ((c71v hy hz).trans (by rw [hv])) _ _).trans q1)
    refine (f12_l0_l1 _ _ _ _ _ _ _ _ _ _ _ _ _ _ _ _ _ _ _ _ _ _ _).trans ((goD (by omega) _ _).trans ((goY (by omega) _ _).trans ((goBr (n := j) rfl hq _).trans ((goRB u1 _).trans ((goRB u2 _).trans ((goE rfl _ _).trans ((goT (same_v (by omega)) _ _).trans ?_)))))))
    cases hv : disV y z with
    | true => exact (goT ((c68v hy hz).trans (by rw [hv])) _ _).trans ((goT ((c69v hy hz).trans (by rw [hv])) _ _).trans q2)
    | false => exact (goF ((c68v hy hz).trans (by rw [hv])) _ _).trans ((goF ((c69v hy hz).trans (by rw [hv])) _ _).trans q2)
theorem loop12a (b0 : Bool) (s : ByteArray) (at' c most i : Int) (hri : RI i) (b1 : Bool) (t0 t1 t2 t3 : T3) (h1 : small t1) (h2 : small t2) (h3 : small t3) (Y : List T3) (hY : ∀ y ∈ Y, small y) (hl : Y.length ≤ 1000) : ∀ (rest : List T3) (j : Nat), Y.drop j = rest → j + rest.length = Y.length →
    E cx (Key.loop 12 l12a) [vbool b0, vi j, vs s, vi at', vb c, vi most, vi i, vbool b1, .ptr 1 0 0 0, .ptr 2 0 0 0, .ptr 3 0 0 0, .list 0 2 (brs Y), vi Y.length] [bX t0, bX t1, bX t2, bX t3] =
      some (Out.jump (.exit 0) [vbool b0, vi Y.length], [bX t0, bX t1, bX t2, bX t3])
  | [], j, hd, hi => by
    simp only [List.length_nil, Nat.add_zero] at hi
    subst hi
    exact (f12_l0 _ _ _ _ _ _ _ _ _ _ _ _ _ _ _ _ _ _).trans (goDn (by omega) _ _)
  | y :: rest, j, hd, hi => by
    obtain ⟨hq, hd', hlt⟩ := drop_cons' hd
    simp only [List.length_cons] at hi
    have hy := hY y (List.mem_of_getElem? hq)
    have hyl : y.2.length ≤ 4000 := hy
    have ih := loop12a b0 s at' c most i hri b1 t0 t1 t2 t3 h1 h2 h3 Y hY hl rest (j + 1) hd' (by omega)
    have q1 : q12_l0_1 b0 s at' c most i b1 (brs Y) Y.length j t1.1 (ints t1.2) t2.1 (ints t2.2) t3.1 (ints t3.2) t0.1 (ints t0.2) y.1 (ints y.2) = some (Out.jump (.exit 0) [vbool b0, vi Y.length], [bX t0, bX t1, bX t2, bX t3]) := by
      unfold q12_l0_1
      have g := loop12b b0 s at' c most i b1 (brs Y) Y.length j t0 t1 t2 t3 y h2 hy [t1, t2, t3] (fun z hz => by
        simp at hz
        rcases hz with rfl | rfl | rfl
        · exact h1
        · exact h2
        · exact h3) (by simp) _ 0 rfl (by simp)
      refine (congrArg (fun o => Option.bind o _) g).trans ?_
      show E cx (Key.loop 12 l12a) [vbool b0, vi (IntKind.wrap .i64 (Int.add (j : Int) 1)), vs s, vi at', vb c, vi most, vi i, vbool b1, .ptr 1 0 0 0, .ptr 2 0 0 0, .ptr 3 0 0 0, .list 0 2 (brs Y), vi Y.length] [bX t0, bX t1, bX t2, bX t3] = _
      rw [wS (by omega)]
      exact ih
    have g62 : ∀ x : Int, E cx (Key.fn 62) [bT y, vi x] [] = rb (rightB y.1 y.2 && decide (x ∈ y.2)) := fun x => c62 y.1 x y.2 (by omega)
    have g63 : ∀ x : Int, E cx (Key.fn 63) [bT y, vi x] [] = rb (rightB y.1 y.2 && decide (x ∈ y.2)) := fun x => c63 y.1 x y.2 (by omega)
    have q2 : q12_l0_2 i y.1 (ints y.2) b0 s at' c most b1 (brs Y) Y.length j t1.1 (ints t1.2) t2.1 (ints t2.2) t3.1 (ints t3.2) t0.1 (ints t0.2) = some (Out.jump (.exit 0) [vbool b0, vi Y.length], [bX t0, bX t1, bX t2, bX t3]) := by
      unfold q12_l0_2
      refine (goI (c64 hri (by omega)) _).trans ?_
      cases hv : rightB y.1 y.2 && decide (pickI i 40 ∈ y.2) with
      | true => exact (goT ((g62 _).trans (by rw [hv])) _ _).trans ((goI (c64 hri (by omega)) _).trans ((goT ((g63 _).trans (by rw [hv])) _ _).trans q1))
      | false => exact (goF ((g62 _).trans (by rw [hv])) _ _).trans ((goI (c64 hri (by omega)) _).trans ((goF ((g63 _).trans (by rw [hv])) _ _).trans q1))
    have q3 : q12_l0_3 (mk (lstO y.1 y.2).1) (mk (lstO y.1 y.2).1) j t0.1 (ints t0.2) t1.1 (ints t1.2) t2.1 (ints t2.2) t3.1 (ints t3.2) (lstO y.1 y.2).2 (lstO y.1 y.2).2 (mk (vecO y.1 y.2).1) (mk (vecO y.1 y.2).1) (vecO y.1 y.2).2 (vecO y.1 y.2).2 y.1 (ints y.2) i b0 s at' c most b1 (brs Y) Y.length =
        some (Out.jump (.exit 0) [vbool b0, vi Y.length], [bX t0, bX t1, bX t2, bX t3]) := by
      unfold q12_l0_3
      refine (goQn rfl _ _).trans ((goE rfl _ _).trans ((goQn rfl _ _).trans ((goE rfl _ _).trans ?_)))
      cases hv : rightB y.1 y.2 && decide (i ∈ y.2) with
      | true => exact (goT ((g62 _).trans (by rw [hv])) _ _).trans ((goT ((g63 _).trans (by rw [hv])) _ _).trans q2)
      | false => exact (goF ((g62 _).trans (by rw [hv])) _ _).trans ((goF ((g63 _).trans (by rw [hv])) _ _).trans q2)
    refine (f12_l0 _ _ _ _ _ _ _ _ _ _ _ _ _ _ _ _ _ _).trans ((goD (by omega) _ _).trans ((goY (by omega) _ _).trans ((goBr (n := j) rfl hq _).trans ?_)))
    refine (goJn (c56 y.1 y.2 (by omega)) _).trans ((goJn (c57 y.1 y.2 (by omega)) _).trans ((goJn (c58 y.1 y.2 (by omega)) _).trans ((goJn (c59 y.1 y.2 (by omega)) _).trans ?_)))
    cases hv : rightB y.1 y.2 with
    | true => exact (goT ((c60 y.1 y.2 (by omega)).trans (by rw [hv])) _ _).trans ((goT ((c61 y.1 y.2 (by omega)).trans (by rw [hv])) _ _).trans q3)
    | false => exact (goF ((c60 y.1 y.2 (by omega)).trans (by rw [hv])) _ _).trans ((goF ((c61 y.1 y.2 (by omega)).trans (by rw [hv])) _ _).trans q3)
theorem loop12d (b0 : Bool) (most : Int) (b1 : Bool) (t : B) (ht : t.length ≤ 1000) (R1 : List (List AV)) (n1 x1 : Int) (t0 t1 t2 t3 : T3) (ks : List Int) (hl : ks.length ≤ 1000) : ∀ (rest : List Int) (j : Nat), ks.drop j = rest → j + rest.length = ks.length →
    E cx (Key.loop 12 l12d) [vbool b0, vi j, vi most, vbool b1, .ptr 2 0 0 0, vs (mk t), .list 0 1 R1, vi n1, vi x1, .list 0 1 (ints ks), vi ks.length] [bX t0, bX t1, bX t2, bX t3] =
      some (Out.jump (.exit 6) [vbool b0, vi ks.length], [bX t0, bX t1, bX t2, bX t3])
  | [], j, hd, hi => by
    simp only [List.length_nil, Nat.add_zero] at hi
    subst hi
    exact (f12_l2_l3 _ _ _ _ _ _ _ _ _ _ _ _ _ _ _ _ _ _).trans (goDn (by omega) _ _)
  | k :: rest, j, hd, hi => by
    obtain ⟨hq, hd', hlt⟩ := drop_cons' hd
    simp only [List.length_cons] at hi
    have ih := loop12d b0 most b1 t ht R1 n1 x1 t0 t1 t2 t3 ks hl rest (j + 1) hd' (by omega)
    have ul := unl_len t k
    have vl := unv_len t k
    refine (f12_l2_l3 _ _ _ _ _ _ _ _ _ _ _ _ _ _ _ _ _ _).trans ((goD (by omega) _ _).trans ((goY (by omega) _ _).trans ((go1 (n := j) rfl hq _).trans ?_)))
    refine (goRB (c73 t ht k) _).trans ((goRB (c74 t ht k) _).trans ((goRB (c75 t ht k) _).trans ((goRB (c76 t ht k) _).trans ((goE rfl _ _).trans ((goT (same_v (by omega)) _ _).trans ((goE rfl _ _).trans ((goT (same_v (by omega)) _ _).trans ?_)))))))
    rw [wS (by omega)]
    exact ih
theorem loop12c (b0 : Bool) (most : Int) (hm : RI most) (b1 : Bool) (t0 t1 t2 t3 : T3) (T : List B) (hT : ∀ t ∈ T, t.length ≤ 1000) (hl : T.length ≤ 1000) : ∀ (rest : List B) (j : Nat), T.drop j = rest → j + rest.length = T.length →
    E cx (Key.loop 12 l12c) [vbool b0, vi j, vi most, vbool b1, .ptr 2 0 0 0, .list 0 1 (rowsB T), vi T.length] [bX t0, bX t1, bX t2, bX t3] =
      some (Out.jump (.exit 4) [vbool b0, vi T.length], [bX t0, bX t1, bX t2, bX t3])
  | [], j, hd, hi => by
    simp only [List.length_nil, Nat.add_zero] at hi
    subst hi
    exact (f12_l2 _ _ _ _ _ _ _ _ _ _ _ _ _ _).trans (goDn (by omega) _ _)
  | t :: rest, j, hd, hi => by
    obtain ⟨hq, hd', hlt⟩ := drop_cons' hd
    simp only [List.length_cons] at hi
    have ih := loop12c b0 most hm b1 t0 t1 t2 t3 T hT hl rest (j + 1) hd' (by omega)
    have g := loop12d b0 most b1 t (hT t (List.mem_of_getElem? hq)) (rowsB T) T.length j t0 t1 t2 t3 [most, t2.1, pickI most 50] (by simp) _ 0 rfl (by simp)
    refine (f12_l2 _ _ _ _ _ _ _ _ _ _ _ _ _ _).trans ((goD (by omega) _ _).trans ((goY (by omega) _ _).trans ((goP (n := j) rfl hq _).trans ((goI (c64 hm (by omega)) _).trans ((congrArg (fun o => Option.bind o _) g).trans ?_)))))
    show E cx (Key.loop 12 l12c) [vbool b0, vi (IntKind.wrap .i64 (Int.add (j : Int) 1)), vi most, vbool b1, .ptr 2 0 0 0, .list 0 1 (rowsB T), vi T.length] [bX t0, bX t1, bX t2, bX t3] = _
    rw [wS (by omega)]
    exact ih
theorem trn_len {t : B} (ht : t.length ≤ 1000) (a : Int) (c : UInt8) : (trn t a c).length ≤ 1001 := by
  unfold trn
  cases decide (t.length = 0) with
  | true => exact Nat.le_trans ht (by omega)
  | false =>
    rw [cond_false]
    simp only [List.length_append, List.length_take, List.length_drop, List.length_cons, List.length_nil]
    omega
theorem c12 (bn : Int) (bl : List Int) (_ : RI bn) (_ : ∀ a ∈ bl, RI a) (n : Int) (raw other : List Int) (hn : RI n) (hr : ∀ r ∈ raw, RI r) (ho : ∀ r ∈ other, RI r) (s : B) (at' : Int) (ha : RI at') (c : UInt8) (most : Int) (hm : RI most) (i : Int) (hi : RI i) :
    E cx (Key.fn 12) [bA bn bl, vi n, .list 0 1 (ints raw), .list 0 1 (ints other), vs (mk s), vi at', vb c.toNat, vi most, vi i] [] = rb true := by
  obtain ⟨_, _, ra⟩ := raw_eq (n := n) (below := 40) (by omega) (by omega) raw
  obtain ⟨_, _, rm⟩ := raw_eq (n := n) (below := 40) (by omega) (by omega) other
  have hcl := cN_lt (n := n) (below := 40) (by omega)
  have e1 := c55n hn (below := 40) (by omega) (by omega) hr
  have e2 := c55n hn (below := 40) (by omega) (by omega) ho
  generalize cN n 40 = p at ra rm hcl e1 e2
  generalize kN n 40 raw = k at ra e1
  generalize kN n 40 other = k' at rm e2
  have hmin : (if 60 < (((ints bl).length : Nat) : Int) then 60 else (((ints bl).length : Nat) : Int)) = ((min bl.length 60 : Nat) : Int) := by
    rw [ints_len]
    split <;> omega
  have hmin2 : (if 80 < ((ByteArray.size (mk s) : Nat) : Int) then 80 else ((ByteArray.size (mk s) : Nat) : Int)) = ((min s.length 80 : Nat) : Int) := by
    rw [sz_mk]
    split <;> omega
  refine (f12 _ _ _ _ _ _ _ _ _ _).trans ?_
  rw [hmin, hmin2, Int.toNat_natCast, Int.toNat_natCast, ints_len, ext_mk, List.drop_zero, List.drop_zero, show List.take (min bl.length 60) (ints bl) = ints (bl.take (min bl.length 60)) from (List.map_take ..).symm]
  have hx : (bl.take (min bl.length 60)).length ≤ 60 := by rw [List.length_take]; omega
  generalize bl.take (min bl.length 60) = xl at hx
  have htl : (s.take (min s.length 80)).length ≤ 80 := by rw [List.length_take]; omega
  have hsl : min s.length 80 ≤ s.length := by omega
  generalize s.take (min s.length 80) = t at htl
  have l1 := ra.len
  have l2 := rm.len
  have g := loop12a false (mk s) at' (c.toNat : Int) most i hi true (bn, bl) (bn, xl) ((p : Int), zs k) ((p : Int), zs k') (show xl.length ≤ 4000 by omega) (show (zs k).length ≤ 4000 by omega) (show (zs k').length ≤ 4000 by omega) [(bn, xl), ((p : Int), zs k), ((p : Int), zs k')] (fun y hy => by
    simp at hy
    rcases hy with rfl | rfl | rfl
    · exact show xl.length ≤ 4000 by omega
    · exact show (zs k).length ≤ 4000 by omega
    · exact show (zs k').length ≤ 4000 by omega) (by simp) _ 0 rfl (by simp)
  have ls := lst_small ra
  have vsm := vec_small ra
  have lo : lstO (p : Int) (zs k) = (lstB p k, 0) := by unfold lstO; rw [ra.right, cond_true, toNat_ofNat, Int.toNat_natCast]
  have vo : vecO (p : Int) (zs k) = (vecB p k, 0) := by unfold vecO; rw [ra.right, cond_true, toNat_ofNat, Int.toNat_natCast]
  have e57 := c57 (p : Int) (zs k) (by omega)
  have e59 := c59 (p : Int) (zs k) (by omega)
  rw [lo] at e57
  rw [vo] at e59
  have tl1 : (trn (lstB p k) at' c).length ≤ 1000 := by
    have h1 : (lstB p k).length ≤ 6 := by rw [lst_len]; omega
    unfold trn
    cases decide ((lstB p k).length = 0) with
    | true => exact Nat.le_trans h1 (by omega)
    | false =>
      rw [cond_false]
      simp only [List.length_append, List.length_take, List.length_drop, List.length_cons, List.length_nil]
      omega
  have tl2 : (trn (vecB p k) at' c).length ≤ 1000 := by
    have h1 : (vecB p k).length ≤ 6 := by rw [vec_len]; omega
    unfold trn
    cases decide ((vecB p k).length = 0) with
    | true => exact Nat.le_trans h1 (by omega)
    | false =>
      rw [cond_false]
      simp only [List.length_append, List.length_take, List.length_drop, List.length_cons, List.length_nil]
      omega
  have g2 := loop12c false most hm true (bn, bl) (bn, xl) ((p : Int), zs k) ((p : Int), zs k') [t, lstB p k, trn (lstB p k) at' c, vecB p k, trn (vecB p k) at' c] (fun y hy => by
    simp at hy
    rcases hy with rfl | rfl | rfl | rfl | rfl
    · omega
    · exact ls
    · exact tl1
    · exact vsm
    · exact tl2) (by simp) _ 0 rfl (by simp)
  refine (goY (by omega) _ _).trans ((goY (by omega) _ _).trans ((goBA e1 _).trans ((goBA e2 _).trans ((congrArg (fun o => Option.bind o _) g).trans ?_))))
  refine (goJn e57 _).trans ((goJn e59 _).trans ((goY (by omega) _ _).trans ((goY (by rw [sz_mk]; omega) _ _).trans ((goS (c72 (lstB p k) ls at' ha c) _).trans ((goS (c72 (vecB p k) vsm at' ha c) _).trans ((congrArg (fun o => Option.bind o _) g2).trans rfl))))))
end Go.Proofs.Av
