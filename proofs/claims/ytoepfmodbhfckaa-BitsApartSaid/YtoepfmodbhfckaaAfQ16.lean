/- Bits: law 16: of two that are Disjoint the Union has as many as both. -/
import Derived.Test.YtoepfmodbhfckaaAfPP
import Derived.Test.YtoepfmodbhfckaaAfY16
namespace Go.Proofs.Av
open Go
theorem c62n {c : Nat} {k : List Nat} (h : Rt c k) (x : Nat) : E cx (Key.fn 62) [bA c (zs k), vi x] [] = rb (decide (x ∈ k)) := by
  rw [c62 c x (zs k) (by have := h.len; omega), h.right, Bool.true_and]
  simp only [mem_ofNat]
theorem loop16 {c : Nat} {k k' u : List Nat} (ha : Rt c k) (hb : Rt c k') (hu : Rt c u) (hm : ∀ x, x ∈ u ↔ x ∈ k ∨ x ∈ k') : ∀ (d x : Nat), x + d = c →
    E cx (Key.loop 16 [true, true, true, true, true, true, false, true, false]) [vbool false, vi x, vbool true, .ptr 0 0 0 0, .ptr 1 0 0 0, .ptr 2 0 0 0] [bB c (zs k), bB c (zs k'), bB c (zs u)] = some (Out.jump (.exit 0) [vbool false, vi c], [bB c (zs k), bB c (zs k'), bB c (zs u)])
  | 0, x, hx => by
    have : x = c := by omega
    subst this
    exact (f16_l0 _ _ _ _ _ _ _ _ _).trans (goDn (by omega) _ _)
  | d + 1, x, hx => by
    have ih := loop16 ha hb hu hm d (x + 1) (by omega)
    have hc := ha.1
    have nx : q16_l0_0 false x true c (ints (zs k)) c (ints (zs k')) c (ints (zs u)) = some (Out.jump (.exit 0) [vbool false, vi c], [bB c (zs k), bB c (zs k'), bB c (zs u)]) := by
      unfold q16_l0_0
      rw [wS (by omega)]
      exact ih
    refine (f16_l0 _ _ _ _ _ _ _ _ _).trans ((goD (by omega) _ _).trans ?_)
    by_cases hxa : x ∈ k
    · have g1 := c62n hu x
      rw [decide_eq_true ((hm x).2 (.inl hxa))] at g1
      have g2 := c62n ha x
      rw [decide_eq_true hxa] at g2
      exact (goT g1 _ _).trans ((goT g2 _ _).trans nx)
    · have g2 := c62n ha x
      rw [decide_eq_false hxa] at g2
      by_cases hxb : x ∈ k'
      · have g1 := c62n hu x
        rw [decide_eq_true ((hm x).2 (.inr hxb))] at g1
        have g3 := c62n hb x
        rw [decide_eq_true hxb] at g3
        exact (goT g1 _ _).trans ((goF g2 _ _).trans ((goT g3 _ _).trans nx))
      · have g1 := c62n hu x
        rw [decide_eq_false fun h => ((hm x).1 h).elim hxa hxb] at g1
        have g3 := c62n hb x
        rw [decide_eq_false hxb] at g3
        exact (goF g1 _ _).trans ((goF g2 _ _).trans ((goF g3 _ _).trans nx))
theorem c16 (n : Int) (one two : List Int) (hn : RI n) (h1 : ∀ r ∈ one, RI r) (h2 : ∀ r ∈ two, RI r) : E cx (Key.fn 16) [vi n, .list 0 1 (ints one), .list 0 1 (ints two)] [] = rb true := by
  obtain ⟨_, _, ra⟩ := raw_eq (n := n) (below := 60) (by omega) (by omega) one
  obtain ⟨_, _, rm⟩ := raw_eq (n := n) (below := 60) (by omega) (by omega) two
  have e1 := c55n hn (below := 60) (by omega) (by omega) h1
  have e2 := c55n hn (below := 60) (by omega) (by omega) h2
  generalize cN n 60 = c at ra rm e1 e2
  generalize kN n 60 one = k at ra e1
  generalize kN n 60 two = k' at rm e2
  have hK : ∀ x ∈ [k'], Rt c x := fun x hx => by simp at hx; subst hx; exact rm
  have u := c65n ra hK (by simp)
  obtain ⟨eu, ru⟩ := un_nat ra hK
  have hm : ∀ x, x ∈ unN k [k'] c ↔ x ∈ k ∨ x ∈ k' := fun x => by rw [unN_mem ra hK]; simp
  have two' := un_two_len (ofNat_pw ra.2.1) (ofNat_pw rm.2.1) (c : Int)
  rw [show unB (zs k) [((c : Int), zs k')] = zs (unN k [k'] c) from eu] at two'
  have h0 : (zs (unN k [k'] c)).length = (unN k [k'] c).length := List.length_map ..
  have h3 : (zs k).length = k.length := List.length_map ..
  have h4 : (zs k').length = k'.length := List.length_map ..
  have l1 := ra.len
  have l2 := rm.len
  have l3 := ru.len
  generalize unN k [k'] c = v at u eu ru hm two' h0 l3
  have i0 : (ints (zs v)).length = (zs v).length := ints_len _
  have i1 : (ints (zs k)).length = (zs k).length := ints_len _
  have i2 : (ints (zs k')).length = (zs k').length := ints_len _
  have hw : IntKind.wrap .i64 (Int.add (((ints (zs k)).length : Nat) : Int) (((ints (zs k')).length : Nat) : Int)) = (((zs k).length + (zs k').length : Nat) : Int) := by
    rw [i1, i2]
    exact (wr_add (by omega) (by omega)).trans (by omega)
  have hsym : disB (zs k') (zs k) = disB (zs k) (zs k') := by
    cases h : disB (zs k) (zs k') with
    | true => exact disN.2 fun x hx hx' => disN.1 h x hx' hx
    | false =>
      cases h' : disB (zs k') (zs k) with
      | false => rfl
      | true => rw [disN.2 fun x hx hx' => disN.1 h' x hx' hx] at h; cases h
  -- behind all
  have q0 : q16_0 c (ints (zs k)) c (ints (zs k')) c (ints (zs v)) = rb true := by
    unfold q16_0
    refine (congrArg (fun o => Option.bind o _) (loop16 ra rm ru hm c 0 (by omega))).trans ?_
    have hc := ra.1
    have hw1 : IntKind.wrap .i64 (Int.add (c : Int) 1) = ((c + 1 : Nat) : Int) := wS (by omega)
    have al : alikeB c (zs k) (((c + 1 : Nat) : Int), zs k) = false := by
      unfold alikeB
      rw [decide_eq_false (by omega)]
      simp
    have o := c65 c (zs k) (by omega) [(((c + 1 : Nat) : Int), zs k)] (by simp) (by simp; omega)
    rw [show unO c (zs k) [(((c + 1 : Nat) : Int), zs k)] = (0, [], 1) by
      unfold unO
      rw [List.all_cons, al]
      simp] at o
    show (Option.bind (E cx (Key.fn 65) [bA c (zs k), .list 0 2 [[vi (IntKind.wrap .i64 (Int.add (c : Int) 1)), .list 0 1 (ints (zs k))]]] []) _) = _
    rw [hw1]
    refine (goRB o _).trans ((goD rfl _ _).trans ?_)
    refine (goF (c68o ra (by omega) (by omega)) _ _).trans ((goF (c70o ra (by omega) (by omega)) _ _).trans ?_)
    cases hs : subB (zs k) (zs k') with
    | true =>
      have e : v = k' := nat_ext ru.2.1 rm.2.1 fun x => ⟨fun h => ((hm x).1 h).elim (subN.1 hs x) id, fun h => (hm x).2 (.inr h)⟩
      exact (goT ((c70n ra rm).trans (by rw [hs])) _ _).trans (goT ((c67n ru).trans (by rw [decide_eq_true ⟨rfl, e⟩])) _ _)
    | false =>
      exact (goF ((c70n ra rm).trans (by rw [hs])) _ _).trans (goF ((c67n ru).trans (by
        rw [decide_eq_false fun h => by
          have : subB (zs k) (zs k') = true := subN.2 fun x hx => h.2 ▸ (hm x).2 (.inl hx)
          rw [this] at hs
          cases hs])) _ _)
  have q2 : q16_2 c (ints (zs k)) c (ints (zs k')) c (ints (zs v)) = rb true := by
    unfold q16_2
    have q1 : k ≠ k' → q16_1 c (ints (zs k)) c (ints (zs k')) c (ints (zs v)) = rb true := fun h => by
      unfold q16_1
      exact (goF ((c67n ra).trans (by rw [decide_eq_false fun e => h e.2])) _ _).trans q0
    cases hs : subB (zs k) (zs k') with
    | false =>
      exact (goF ((c70n ra rm).trans (by rw [hs])) _ _).trans (q1 fun e => by
        subst e
        rw [subN.2 fun x hx => hx] at hs
        cases hs)
    | true =>
      refine (goT ((c70n ra rm).trans (by rw [hs])) _ _).trans ?_
      cases hs' : subB (zs k') (zs k) with
      | false =>
        exact (goF ((c70n rm ra).trans (by rw [hs'])) _ _).trans (q1 fun e => by
          subst e
          rw [subN.2 fun x hx => hx] at hs'
          cases hs')
      | true =>
        have e : k = k' := nat_ext ra.2.1 rm.2.1 fun x => ⟨subN.1 hs x, subN.1 hs' x⟩
        exact (goT ((c70n rm ra).trans (by rw [hs'])) _ _).trans ((goT ((c67n ra).trans (by rw [decide_eq_true ⟨rfl, e⟩])) _ _).trans q0)
  have q3 : q16_3 c (ints (zs k)) c (ints (zs k')) (ints (zs v)) c = rb true := by
    unfold q16_3
    rw [hw, i0]
    cases hd : disB (zs k) (zs k') with
    | true =>
      refine (goT ((c68n ra rm).trans (by rw [hd])) _ _).trans ((goD ?_ _ _).trans q2)
      exact congrArg (fun n : Nat => (n : Int)) (two'.2.1 hd)
    | false =>
      refine (goF ((c68n ra rm).trans (by rw [hd])) _ _).trans ((goDn ?_ _ _).trans q2)
      intro he
      have := two'.2.2 (Int.ofNat.inj he)
      rw [this] at hd
      cases hd
  refine (f16 _ _ _).trans ?_
  refine (goBA e1 _).trans ((goBA e2 _).trans ((goRB u _).trans ((goE rfl _ _).trans ?_)))
  cases hd : disB (zs k) (zs k') with
  | true => exact (goT ((c68n ra rm).trans (by rw [hd])) _ _).trans ((goT ((c68n rm ra).trans (by rw [hsym, hd])) _ _).trans q3)
  | false => exact (goF ((c68n ra rm).trans (by rw [hd])) _ _).trans ((goF ((c68n rm ra).trans (by rw [hsym, hd])) _ _).trans q3)
end Go.Proofs.Av
