/- Tokens: the law that merge does not hang on order. -/
import Derived.Test.YtoepfmodbhfckaaAePQ
import Derived.Test.YtoepfmodbhfckaaAeY8
namespace Go.Proofs.Av
open Go
theorem c45n : RTok' (E cx (Key.fn 45) [.val (.slice none 0 0)] []) (false, [], 0) := by
  have h1 : E cx (Key.fn 149) [.val (.slice none 0 0), .func (Fn.func 112) [] []] [] = some (Out.ret (vi (-1)), []) := by
    refine f45n_c0.trans ?_
    rw [f45n_c0_l1]
    rfl
  refine RTok'_of f45n ?_
  rw [h1]
  show RTok' (Option.bind (E cx (Key.loop 45 [true, true, false, true, false]) [vi 0, vi 0, .ptr 0 0 0 0, .val (.slice none 0 0), vi 0] [⟨.box, 36, 2, 0, [[vbool false, .arr 1 2 0 0]]⟩, ⟨.arr, 80, 2, 2, []⟩]) _) _
  rw [f45n_l2]
  have hs : sortP [.func (Fn.func 109) [] []] (prs []) = some (prs []) := (sortP_prs []).trans (by rw [sorted_of (l := []) .nil])
  refine ⟨.list 0 2 [], ?_, rfl⟩
  simp only [decide_false, cond_true, cond_false, Int.lt_irrefl, Option.bind_some, asJump, JX.is, Nat.beq_refl, uncons?, nil?, AV.arr?, AV.int?, AV.bool?, AV.str?, AV.list?, AV.tup?, AV.cells?, chk, obIs, if_true, and_self, ret1, asRet]
  refine (goLe (a := Nat.add 0 0) (b := 0) (by decide) _).trans ((goY (show (0 : Nat) ≤ 4611686018427387903 by decide) _ _).trans ?_)
  show (Option.bind (sortP [.func (Fn.func 109) [] []] (prs [])) fun zs => _) = _
  rw [hs]
  rfl
section
variable {fa fb fc : Bool} {la lb lc : List P2}
theorem allR_cons {t : T2} {L : List T2} (h1 : rightT t.2 = true) (h2 : allR L = true) : allR (t :: L) = true := by
  show (rightT t.2 && allR L) = true
  rw [h1, h2]
  rfl
theorem merges (ra : rightT la = true) (rb' : rightT lb = true) (rc : rightT lc = true) (ha : la.length ≤ 30) (hb : lb.length ≤ 30) (hc : lc.length ≤ 30) :
    RTok' (E cx (Key.fn 45) [.list 0 2 [trow (fa, la), trow (fb, lb), trow (fc, lc)]] []) (fa || (fb || fc), sorted (la ++ (lb ++ lc)), 0) ∧
    RTok' (E cx (Key.fn 45) [.list 0 2 [trow (fc, lc), trow (fa, la), trow (fb, lb)]] []) (fc || (fa || fb), sorted (lc ++ (la ++ lb)), 0) ∧
    RTok' (E cx (Key.fn 45) [.list 0 2 [trow (fa, la), trow (fb, lb)]] []) (fa || fb, sorted (la ++ lb), 0) ∧
    RTok' (E cx (Key.fn 45) [.list 0 2 [trow (fc, lc), trow (fa || fb, sorted (la ++ lb))]] []) (fc || (fa || fb), sorted (lc ++ sorted (la ++ lb)), 0) ∧
    RTok' (E cx (Key.fn 45) [.val (.slice none 0 0)] []) (false, [], 0) ∧
    RTok' (E cx (Key.fn 45) [.list 0 2 [trow (false, []), trow (fa, la)]] []) (fa, la, 0) := by
  have hab : (sorted (la ++ lb)).length = la.length + lb.length := by simp [sorted]
  have rab : rightT (sorted (la ++ lb)) = true := rightT_of (by omega) (sorted_pw _)
  have a0 : allR [] = true := rfl
  have go : ∀ {L : List T2} {r : Bool × List P2 × Int}, L.length ≤ 4000000 → (∀ t ∈ L, t.2.length ≤ 4000000) → allR L = true → (cat L).length ≤ 2048 → (anyF' L, sorted (cat L), (0 : Int)) = r → RTok' (E cx (Key.fn 45) [.list 0 2 (trs L)] []) r := fun {L r} h1 h2 h3 h4 h5 => by
    have := c45 L h1 h2
    rw [mergeR_ok h3 h4, h5] at this
    exact this
  refine ⟨?_, ?_, ?_, ?_, c45n, ?_⟩
  · exact go (L := [(fa, la), (fb, lb), (fc, lc)]) (by simp) (by intro t ht; simp at ht; rcases ht with rfl | rfl | rfl <;> (simp only; omega)) (allR_cons ra (allR_cons rb' (allR_cons rc a0))) (by simp [cat]; omega) (by simp [anyF', cat])
  · exact go (L := [(fc, lc), (fa, la), (fb, lb)]) (by simp) (by intro t ht; simp at ht; rcases ht with rfl | rfl | rfl <;> (simp only; omega)) (allR_cons rc (allR_cons ra (allR_cons rb' a0))) (by simp [cat]; omega) (by simp [anyF', cat])
  · exact go (L := [(fa, la), (fb, lb)]) (by simp) (by intro t ht; simp at ht; rcases ht with rfl | rfl <;> (simp only; omega)) (allR_cons ra (allR_cons rb' a0)) (by simp [cat]; omega) (by simp [anyF', cat])
  · exact go (L := [(fc, lc), (fa || fb, sorted (la ++ lb))]) (by simp) (by intro t ht; simp at ht; rcases ht with rfl | rfl <;> (simp only; omega)) (allR_cons rc (allR_cons rab a0)) (by simp [cat]; omega) (by simp [anyF', cat])
  · exact go (L := [(false, []), (fa, la)]) (by simp) (by intro t ht; simp at ht; rcases ht with rfl | rfl <;> (first | (simp only; omega) | simp)) (allR_cons right0 (allR_cons ra a0)) (by simp [cat]; omega) (by simp [anyF', cat]; exact sorted_of (rightT_pw ra))
theorem cq8_0 (ra : rightT la = true) (rb' : rightT lb = true) (rc : rightT lc = true) (ha : la.length ≤ 30) (hb : lb.length ≤ 30) (hc : lc.length ≤ 30) (fm : Bool) (n m : Int) (key root : Nat) (hn : IntKind.wrap .u64 n = (key : Int)) (hm : IntKind.wrap .u64 m = (root : Int)) :
    q8_0 fm (prs (sorted (la ++ (lb ++ lc)))) n m fa (prs la) fb (prs lb) fc (prs lc) = rb true := by
  unfold q8_0
  rw [hn, hm]
  have hl : (sorted (la ++ (lb ++ lc))).length = la.length + (lb.length + lc.length) := by simp [sorted]
  refine (goI (c53 fm _ (key, root) (by omega)) _).trans ((goI (c53 fa la (key, root) (by omega)) _).trans ((goI (c53 fb lb (key, root) (by omega)) _).trans ((goI (c53 fc lc (key, root) (by omega)) _).trans ?_)))
  have k1 := List.count_le_length (a := (key, root)) (l := la)
  have k2 := List.count_le_length (a := (key, root)) (l := lb)
  have k3 := List.count_le_length (a := (key, root)) (l := lc)
  have k4 : (sorted (la ++ (lb ++ lc))).count (key, root) = la.count (key, root) + (lb.count (key, root) + lc.count (key, root)) := by
    rw [(sorted_perm _).count_eq, List.count_append, List.count_append]
  have add : ∀ x y z : Nat, x ≤ 1000 → y ≤ 1000 → z ≤ 1000 → IntKind.wrap .i64 (Int.add (IntKind.wrap .i64 (Int.add (x : Int) y)) z) = ((x + (y + z) : Nat) : Int) := fun x y z h1 h2 h3 => by
    rw [wr_add (a := (x : Int)) (b := (y : Int)) (by omega) (by omega), wr_add (by omega) (by omega)]
    omega
  rw [add _ _ _ (by omega) (by omega) (by omega), prs_len, prs_len, prs_len, prs_len, add _ _ _ (by omega) (by omega) (by omega)]
  exact (goD (by rw [k4]) _ _).trans (goD (by rw [hl]) _ _)
theorem cq8_1 (ra : rightT la = true) (rb' : rightT lb = true) (rc : rightT lc = true) (ha : la.length ≤ 30) (hb : lb.length ≤ 30) (hc : lc.length ≤ 30) (n m : Int) (key root : Nat) (hn : IntKind.wrap .u64 n = (key : Int)) (hm : IntKind.wrap .u64 m = (root : Int)) :
    q8_1 true (prs (sorted (la ++ (lb ++ lc)))) n m fa (prs la) fb (prs lb) fc (prs lc) = rb true := by
  unfold q8_1
  exact (goD rfl _ _).trans (cq8_0 ra rb' rc ha hb hc true n m key root hn hm)
end
theorem cq8_4 (fa fb fc : Bool) (la lb lc : List P2) (ra : rightT la = true) (rb' : rightT lb = true) (rc : rightT lc = true) (ha : la.length ≤ 30) (hb : lb.length ≤ 30) (hc : lc.length ≤ 30) (key root : Int) (hk : RI key) (hr : RI root) :
    q8_4 0 0 0 0 0 (fa || (fb || fc)) (prs (sorted (la ++ (lb ++ lc)))) (fc || (fa || fb)) (prs (sorted (lc ++ (la ++ lb)))) (fc || (fa || fb)) (prs (sorted (lc ++ sorted (la ++ lb)))) fa (prs la) fa (prs la) key root fb (prs lb) fc (prs lc) = rb true := by
  unfold q8_4
  have hl : (sorted (la ++ (lb ++ lc))).length = la.length + (lb.length + lc.length) := by simp [sorted]
  have hf : (fa || (fb || fc)) = (fc || (fa || fb)) := by cases fa <;> cases fb <;> cases fc <;> rfl
  have p1 : sorted (la ++ (lb ++ lc)) = sorted (lc ++ (la ++ lb)) := sorted_congr (by
    rw [← List.append_assoc]
    exact List.perm_append_comm)
  have p2 : sorted (la ++ (lb ++ lc)) = sorted (lc ++ sorted (la ++ lb)) := p1.trans (sorted_congr ((sorted_perm (la ++ lb)).symm.append_left lc))
  have s1 := c47 (fa || (fb || fc)) (fc || (fa || fb)) (sorted (la ++ (lb ++ lc))) (sorted (lc ++ (la ++ lb))) (by omega)
  rw [decide_eq_true ⟨hf, p1⟩] at s1
  have s2 := c47 (fa || (fb || fc)) (fc || (fa || fb)) (sorted (la ++ (lb ++ lc))) (sorted (lc ++ sorted (la ++ lb))) (by omega)
  rw [decide_eq_true ⟨hf, p2⟩] at s2
  have s3 := c47 fa fa la la (by omega)
  rw [decide_eq_true ⟨rfl, rfl⟩] at s3
  have r := c40 (fa || (fb || fc)) (sorted (la ++ (lb ++ lc))) (by omega)
  rw [rightT_of (by omega) (sorted_pw _)] at r
  refine (goE rfl _ _).trans ((goE rfl _ _).trans ((goE rfl _ _).trans ((goE rfl _ _).trans ((goE rfl _ _).trans ?_))))
  refine (goT s1 _ _).trans ((goT s2 _ _).trans ((goT s3 _ _).trans ((goT r _ _).trans ?_)))
  refine (goI (c48 hk (by omega)) _).trans ((goI (c48 hr (by omega)) _).trans ?_)
  have wk := wu_pick (c := key) (n := 12) (by omega) (by omega)
  have wr := wu_pick (c := root) (n := 3) (by omega) (by omega)
  have t1 : ∀ ga gb gc, q8_1 true (prs (sorted (la ++ (lb ++ lc)))) (pickI key 12) (pickI root 3) ga (prs la) gb (prs lb) gc (prs lc) = rb true := fun ga gb gc => cq8_1 ra rb' rc ha hb hc _ _ _ _ wk wr
  have t0 : ∀ gm ga gb gc, q8_0 gm (prs (sorted (la ++ (lb ++ lc)))) (pickI key 12) (pickI root 3) ga (prs la) gb (prs lb) gc (prs lc) = rb true := fun gm ga gb gc => cq8_0 ra rb' rc ha hb hc gm _ _ _ _ wk wr
  cases fa with
  | true => exact t1 _ _ _
  | false => cases fb with
    | true => exact t1 _ _ _
    | false => cases fc <;> exact t0 _ _ _ _
theorem cq8_5 (three : List Int) (h3 : ∀ a ∈ three, RI a) (fa fb : Bool) (la lb : List P2) (ra : rightT la = true) (rb' : rightT lb = true) (ha : la.length ≤ 30) (hb : lb.length ≤ 30) (key root : Int) (hk : RI key) (hr : RI root) :
    q8_5 (ints three) fa (prs la) fb (prs lb) key root = rb true := by
  have hc := tokP_len three
  have rc := tokP_right three
  have ht := c37 three h3 true
  generalize tokP three = lc at hc rc ht
  obtain ⟨m1, m2, m3, m4, m5, m6⟩ := merges (fa := fa) (fb := fb) (fc := true) ra rb' rc ha hb hc
  unfold q8_5
  refine (goA ht _).trans ((goTok m1 _).trans ((goTok m2 _).trans ((goTok m3 _).trans ((goTok m4 _).trans ((goTok m5 _).trans ((goTok m6 _).trans ?_))))))
  refine (goE rfl _ _).trans ?_
  exact cq8_4 fa fb true la lb lc ra rb' rc ha hb hc key root hk hr
theorem cq8_6 (three : List Int) (h3 : ∀ a ∈ three, RI a) (fa fb : Bool) (la lb : List P2) (ra : rightT la = true) (rb' : rightT lb = true) (ha : la.length ≤ 30) (hb : lb.length ≤ 30) (key root : Int) (hk : RI key) (hr : RI root) :
    q8_6 (ints three) fa (prs la) fb (prs lb) key root = rb true := by
  have hc := tokP_len three
  have rc := tokP_right three
  have ht := c37 three h3 false
  generalize tokP three = lc at hc rc ht
  obtain ⟨m1, m2, m3, m4, m5, m6⟩ := merges (fa := fa) (fb := fb) (fc := false) ra rb' rc ha hb hc
  unfold q8_6
  refine (goA ht _).trans ((goTok m1 _).trans ((goTok m2 _).trans ((goTok m3 _).trans ((goTok m4 _).trans ((goTok m5 _).trans ((goTok m6 _).trans ?_))))))
  refine (goE rfl _ _).trans ?_
  exact cq8_4 fa fb false la lb lc ra rb' rc ha hb hc key root hk hr
theorem cq8_7 (two three : List Int) (h2 : ∀ a ∈ two, RI a) (h3 : ∀ a ∈ three, RI a) (forged : Int) (hf : RI forged) (fa : Bool) (la : List P2) (ra : rightT la = true) (ha : la.length ≤ 30) (key root : Int) (hk : RI key) (hr : RI root) :
    q8_7 (ints two) forged (ints three) fa (prs la) key root = rb true := by
  have hb := tokP_len two
  have rb' := tokP_right two
  unfold q8_7
  refine (goA (c37 two h2 true) _).trans ((goI (c48 hf (by omega)) _).trans ?_)
  by_cases h : pickI forged 8 = 3
  · exact (goD h _ _).trans (cq8_5 three h3 fa true la (tokP two) ra rb' ha hb key root hk hr)
  · exact (goDn h _ _).trans (cq8_6 three h3 fa true la (tokP two) ra rb' ha hb key root hk hr)
theorem cq8_8 (two three : List Int) (h2 : ∀ a ∈ two, RI a) (h3 : ∀ a ∈ three, RI a) (forged : Int) (hf : RI forged) (fa : Bool) (la : List P2) (ra : rightT la = true) (ha : la.length ≤ 30) (key root : Int) (hk : RI key) (hr : RI root) :
    q8_8 (ints two) forged (ints three) fa (prs la) key root = rb true := by
  have hb := tokP_len two
  have rb' := tokP_right two
  unfold q8_8
  refine (goA (c37 two h2 false) _).trans ((goI (c48 hf (by omega)) _).trans ?_)
  by_cases h : pickI forged 8 = 3
  · exact (goD h _ _).trans (cq8_5 three h3 fa false la (tokP two) ra rb' ha hb key root hk hr)
  · exact (goDn h _ _).trans (cq8_6 three h3 fa false la (tokP two) ra rb' ha hb key root hk hr)
theorem c8 (one two three : List Int) (h1 : ∀ a ∈ one, RI a) (h2 : ∀ a ∈ two, RI a) (h3 : ∀ a ∈ three, RI a) (forged key root : Int) (hf : RI forged) (hk : RI key) (hr : RI root) :
    E cx (Key.fn 8) [.list 0 1 (ints one), .list 0 1 (ints two), .list 0 1 (ints three), vi forged, vi key, vi root] [] = rb true := by
  have ha := tokP_len one
  have ra := tokP_right one
  refine (f8 _ _ _ _ _ _).trans ((goI (c48 hf (by omega)) _).trans ?_)
  have go : ∀ fa, (bif decide (pickI forged 8 = 2) then q8_7 (ints two) forged (ints three) fa (prs (tokP one)) key root else q8_8 (ints two) forged (ints three) fa (prs (tokP one)) key root) = rb true := fun fa => by
    by_cases h : pickI forged 8 = 2
    · exact (goD h _ _).trans (cq8_7 two three h2 h3 forged hf fa (tokP one) ra ha key root hk hr)
    · exact (goDn h _ _).trans (cq8_8 two three h2 h3 forged hf fa (tokP one) ra ha key root hk hr)
  by_cases h : pickI forged 8 = 1
  · refine (goD h _ _).trans ((goA (c37 one h1 true) _).trans ((goI (c48 hf (by omega)) _).trans ?_))
    exact go true
  · refine (goDn h _ _).trans ((goA (c37 one h1 false) _).trans ((goI (c48 hf (by omega)) _).trans ?_))
    exact go false
end Go.Proofs.Av
