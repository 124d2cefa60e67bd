/- Tokens: the law of keys is true. -/
import Derived.Test.YtoepfmodbhfckaaAeY9
namespace Go.Proofs.Av
open Go
/-- The keys, one by one, each once. -/
def ksL : List Int → List Nat → List Nat
  | [], o => o
  | a :: r, o => if (pickI a 40).toNat ∈ o then ksL r o else ksL r (o ++ [(pickI a 40).toNat])
abbrev hadR (ks : List Nat) : List (List AV) := (List.range 40).map fun j => [vbool (decide (j ∈ ks))]
abbrev tk (r : Nat) (ks : List Nat) : List T2 := ks.map fun k => (false, [(k, r)])
abbrev kp (r : Nat) (ks : List Nat) : List P2 := ks.map fun k => (k, r)
theorem pick40 (a : Int) : (pickI a 40).toNat < 40 ∧ pickI a 40 = (((pickI a 40).toNat : Nat) : Int) := by
  have := pickI_lt (c := a) (n := 40) (by omega)
  omega
theorem ksL_len : ∀ (r : List Int) (o : List Nat), (ksL r o).length ≤ o.length + r.length
  | [], o => Nat.le_refl _
  | a :: r, o => by
    unfold ksL
    split
    · have := ksL_len r o
      simp only [List.length_cons]
      omega
    · have := ksL_len r (o ++ [(pickI a 40).toNat])
      simp only [List.length_append, List.length_cons, List.length_nil] at this ⊢
      omega
theorem ksL_nd : ∀ (r : List Int) (o : List Nat), o.Nodup → (ksL r o).Nodup
  | [], o, h => h
  | a :: r, o, h => by
    unfold ksL
    split
    · exact ksL_nd r o h
    · rename_i hn
      refine ksL_nd r _ (List.nodup_append.2 ⟨h, by simp, fun x hx y hy e => ?_⟩)
      simp only [List.mem_singleton] at hy
      subst hy
      subst e
      exact hn hx
theorem ksL_lt : ∀ (r : List Int) (o : List Nat), (∀ k ∈ o, k < 40) → ∀ k ∈ ksL r o, k < 40
  | [], o, h => h
  | a :: r, o, h => by
    unfold ksL
    split
    · exact ksL_lt r o h
    · refine ksL_lt r _ fun k hk => ?_
      rcases List.mem_append.1 hk with hk | hk
      · exact h k hk
      · simp only [List.mem_singleton] at hk
        rw [hk]
        exact (pick40 a).1
section
variable {ρ : Type}
theorem goHd {ks : List Nat} {i : Int} {n : Nat} (hn : i = n) (h : n < 40) (k : Bool → Option ρ) :
    ((nth (hadR ks) (Nat.add 0 (Int.toNat i))).bind fun cs => (uncons? cs).bind fun p => (AV.bool? p.fst).bind fun b => (nil? p.snd).bind fun _ => k b) = k (decide (n ∈ ks)) := by
  subst hn
  have : nth (hadR ks) (Nat.add 0 (Int.toNat (n : Int))) = some [vbool (decide (n ∈ ks))] := by
    rw [nth_eq]
    show (hadR ks)[0 + n]? = _
    rw [Nat.zero_add, List.getElem?_map, List.getElem?_range h]
    rfl
  rw [this]
  rfl
end
theorem hadR_set {ks : List Nat} {i : Int} {n : Nat} (hn : i = n) : List.set (hadR ks) (Nat.add 0 (Int.toNat i)) [vbool true] = hadR (ks ++ [n]) := by
  subst hn
  show List.set (hadR ks) (0 + n) _ = _
  rw [Nat.zero_add]
  refine List.ext_getElem? fun j => ?_
  rw [List.getElem?_set]
  by_cases hj : n = j
  · subst hj
    rw [if_pos rfl]
    by_cases hl : n < 40
    · rw [if_pos (by simpa using hl), List.getElem?_map, List.getElem?_range hl]
      simp
    · rw [if_neg (by simpa using hl), List.getElem?_eq_none (by simp; omega)]
  · rw [if_neg hj, List.getElem?_map, List.getElem?_map]
    by_cases hl : j < 40
    · rw [List.getElem?_range hl]
      have : (j ∈ ks ++ [n]) ↔ j ∈ ks := by
        simp only [List.mem_append, List.mem_singleton]
        exact ⟨fun h => h.elim id fun e => absurd e.symm hj, .inl⟩
      simp only [Option.map_some, this]
    · rw [List.getElem?_eq_none (by simp; omega)]
      rfl
theorem loop9a (b0 b1 : Bool) (raw : List Int) (hr : ∀ a ∈ raw, RI a) (r : Nat) (x : Int) : ∀ (rest : List Int) (i : Nat) (ks : List Nat), (raw.take 20).drop i = rest → i + rest.length = (raw.take 20).length → ks.length ≤ i →
    ∃ n : Nat, E cx (Key.loop 9 [true, true, true, true, false, true, false]) [.arr 1 2 0 ks.length, vi i, .list 0 1 (ints raw), vu r, vi x, vbool b0, vbool b1, .ptr 0 1 0 0] [⟨.arr, 83, 1, 1, hadR ks⟩, ⟨.arr, 36, 2, 2, trs (tk r ks)⟩] =
      some (Out.jump (.exit 0) [.arr 1 2 0 (ksL rest ks).length, vi n], [⟨.arr, 83, 1, 1, hadR (ksL rest ks)⟩, ⟨.arr, 36, 2, 2, trs (tk r (ksL rest ks))⟩])
  | [], i, ks, hd, hi, ho => by
    simp only [List.length_nil, Nat.add_zero, List.length_take] at hi
    refine ⟨i, (f9_l0 _ _ _ _ _ _ _ _ _).trans ?_⟩
    by_cases h1 : (i : Int) < ((ints raw).length : Int)
    · exact (goD h1 _ _).trans (goDn (by simp only [List.length_map] at h1; omega) _ _)
    · exact goDn h1 _ _
  | a :: rest, i, ks, hd, hi, ho => by
    have hp : (raw.take 20)[i]? = some a := by
      have := congrArg (fun l => l[0]?) hd; simpa using this
    have hd' : (raw.take 20).drop (i + 1) = rest := by rw [← List.drop_drop, hd]; rfl
    have hlt : i < (raw.take 20).length := (List.getElem?_eq_some_iff.1 hp).1
    simp only [List.length_cons] at hi
    have h20 : i < 20 := by rw [List.length_take] at hlt; omega
    rw [List.getElem?_take, if_pos h20] at hp
    have hlr := (List.getElem?_eq_some_iff.1 hp).1
    obtain ⟨k1, k2⟩ := pick40 a
    have hl : (trs (tk r ks)).length = ks.length := by simp [trs, tk]
    suffices hs : E cx (Key.loop 9 [true, true, true, true, false, true, false]) [.arr 1 2 0 ks.length, vi i, .list 0 1 (ints raw), vu r, vi x, vbool b0, vbool b1, .ptr 0 1 0 0] [⟨.arr, 83, 1, 1, hadR ks⟩, ⟨.arr, 36, 2, 2, trs (tk r ks)⟩] =
        E cx (Key.loop 9 [true, true, true, true, false, true, false]) [.arr 1 2 0 (ksL [a] ks).length, vi (i + 1 : Nat), .list 0 1 (ints raw), vu r, vi x, vbool b0, vbool b1, .ptr 0 1 0 0] [⟨.arr, 83, 1, 1, hadR (ksL [a] ks)⟩, ⟨.arr, 36, 2, 2, trs (tk r (ksL [a] ks))⟩] by
      have e : ksL (a :: rest) ks = ksL rest (ksL [a] ks) := by
        simp only [ksL]
        split <;> rfl
      obtain ⟨n, g⟩ := loop9a b0 b1 raw hr r x rest (i + 1) (ksL [a] ks) hd' (by omega) (by
        have := ksL_len [a] ks
        simp only [List.length_cons, List.length_nil] at this
        omega)
      exact ⟨n, by rw [hs, g, e]⟩
    refine (f9_l0 _ _ _ _ _ _ _ _ _).trans ((goD (by simp only [List.length_map]; omega) _ _).trans ((goD (by omega) _ _).trans ((goY (by omega) _ _).trans ((go1 (n := i) rfl hp _).trans ((goI (c48 (hr a (List.mem_of_getElem? hp)) (by omega)) _).trans ?_)))))
    refine (goY (by omega) _ _).trans ((goY (by omega) _ _).trans ((goHd k2 k1 _).trans ?_))
    by_cases hm : (pickI a 40).toNat ∈ ks
    · have e : ksL [a] ks = ks := by simp [ksL, hm]
      rw [decide_eq_true hm, e]
      show E cx _ [_, vi (IntKind.wrap .i64 (Int.add (i : Int) 1)), _, _, _, _, _, _] _ = _
      rw [wS (by omega)]
    · have e : ksL [a] ks = ks ++ [(pickI a 40).toNat] := by simp [ksL, hm]
      rw [decide_eq_false hm, e]
      show (if (0 : Int) ≤ pickI a 40 then _ else none) = _
      refine (goY (by omega) _ _).trans ((goY (by omega) _ _).trans ((goHd k2 k1 _).trans ?_))
      rw [wu_pick (c := a) (n := 40) (by omega) (by omega)]
      refine (goA (c51 _ _) _).trans ?_
      refine (goCk (by show ks.length = (trs (tk r ks)).length; rw [hl]) _).trans ((goY (by show (List.length (trs (tk r ks)) + 1) * 32 ≤ _; rw [hl]; omega) _ _).trans ?_)
      have e2 : trs (tk r ks) ++ [[vbool false, .list 0 2 (prs [((pickI a 40).toNat, r)])]] = trs (tk r (ks ++ [(pickI a 40).toNat])) := by simp [trs, tk]
      have e3 : Nat.add (List.length (trs (tk r ks))) 1 = (ks ++ [(pickI a 40).toNat]).length := by rw [hl]; simp
      rw [hadR_set k2, wS (by omega)]
      show E cx _ [.arr 1 2 0 (Nat.add (List.length (trs (tk r ks))) 1), _, _, _, _, _, _, _] [_, ⟨.arr, 36, 2, 2, trs (tk r ks) ++ [[vbool false, .list 0 2 (prs [((pickI a 40).toNat, r)])]]⟩] = _
      rw [e2, e3]
/-! ### Keys, rising -/
theorem keysGo_t {r : Nat} : ∀ (l : List P2) (pv : Option P2), (∀ p ∈ l, p.2 = r) → l.Nodup → (∀ p, pv = some p → p ∉ l) → keysGo r pv l = true
  | [], _, _, _, _ => rfl
  | p :: l, pv, h1, h2, h3 => by
    obtain ⟨g1, g2⟩ := List.nodup_cons.1 h2
    show (decide (p.2 = r) && (!decide (pv = some p) && keysGo r (some p) l)) = true
    rw [decide_eq_true (h1 p (List.mem_cons_self ..)), decide_eq_false (fun e => h3 p e (List.mem_cons_self ..)), keysGo_t l (some p) (fun q hq => h1 q (List.mem_cons_of_mem _ hq)) g2 fun q hq => by cases hq; exact g1]
    rfl
theorem keysGo_nd {r : Nat} : ∀ (l : List P2) (pv : Option P2), PW l → keysGo r pv l = true → l.Nodup
  | [], _, _, _ => .nil
  | p :: l, pv, h1, h2 => by
    obtain ⟨g1, g2⟩ := List.pairwise_cons.1 h1
    have h2 : (decide (p.2 = r) && (!decide (pv = some p) && keysGo r (some p) l)) = true := h2
    simp only [Bool.and_eq_true] at h2
    refine List.nodup_cons.2 ⟨fun hm => ?_, keysGo_nd l _ g2 h2.2.2⟩
    cases l with
    | nil => cases hm
    | cons q l =>
      have h3 : (decide (q.2 = r) && (!decide (some p = some q) && keysGo r (some q) l)) = true := h2.2.2
      simp only [Bool.and_eq_true] at h3
      have hne : p ≠ q := fun e => by
        have := h3.2.1
        rw [e, decide_eq_true rfl] at this
        cases this
      rcases List.mem_cons.1 hm with h | h
      · exact hne h
      · exact hne (leP_anti p q (g1 q (List.mem_cons_self ..)) ((List.pairwise_cons.1 g2).1 p h))
abbrev ST (r : Nat) (ks : List Nat) : List P2 := sorted (kp r ks)
section
variable {r : Nat} {ks : List Nat}
theorem ST_mem {p : P2} (h : p ∈ ST r ks) : p.2 = r ∧ p.1 ∈ ks := by
  obtain ⟨k, hk, rfl⟩ := List.mem_map.1 ((sorted_perm _).mem_iff.1 h)
  exact ⟨rfl, hk⟩
theorem ST_len : (ST r ks).length = ks.length := by rw [(sorted_perm _).length_eq]; simp
theorem ST_nd (h : ks.Nodup) : (ST r ks).Nodup := (sorted_perm _).nodup_iff.2 (List.nodup_iff_pairwise_ne.2 (List.pairwise_map.2 ((List.nodup_iff_pairwise_ne.1 h).imp fun hne e => hne (Prod.mk.inj e).1)))
theorem ST_right (h : ks.length ≤ 2048) : rightT (ST r ks) = true := rightT_of (by rw [ST_len]; exact h) (sorted_pw _)
theorem ST_keys (h : ks.Nodup) (hl : ks.length ≤ 2048) : keysR (ST r ks) r = (keysL (ST r ks), true) := by
  unfold keysR
  rw [ST_right hl, keysGo_t _ none (fun p hp => (ST_mem hp).1) (ST_nd h) fun p hp => by cases hp]
  rfl
theorem ST_rise (h : ks.Nodup) : (keysL (ST r ks)).Pairwise (· < ·) := by
  refine List.pairwise_map.2 ?_
  have h1 := List.nodup_iff_pairwise_ne.1 (ST_nd (r := r) h)
  refine ((sorted_pw (kp r ks)).and h1).imp_of_mem fun {p q} hp hq hpq => ?_
  have e : p.2 = q.2 := (ST_mem hp).1.trans (ST_mem hq).1.symm
  rcases (leP_iff p q).1 hpq.1 with h2 | ⟨h2, _⟩
  · exact h2
  · exact absurd (Prod.ext h2 e) hpq.2
theorem ST_other {r' : Nat} (hr : r ≠ r') (hk : ks ≠ []) : keysR (ST r ks) r' = ([], false) := by
  unfold keysR
  cases hs : ST r ks with
  | nil =>
    have := congrArg List.length hs
    rw [ST_len] at this
    exact absurd (List.eq_nil_of_length_eq_zero this) hk
  | cons p l =>
    have hp : p ∈ ST r ks := by rw [hs]; exact List.mem_cons_self ..
    have : keysGo r' none (p :: l) = false := by
      show (decide (p.2 = r') && _) = false
      rw [decide_eq_false (fun e => hr ((ST_mem hp).1.symm.trans e))]
      rfl
    rw [this, Bool.and_false]
    rfl
theorem twice_keys {l : List P2} {x : P2} (hx : x ∈ l) : keysR (sorted (l ++ [x])) r = ([], false) := by
  unfold keysR
  have : keysGo r none (sorted (l ++ [x])) = false := by
    cases h : keysGo r none (sorted (l ++ [x])) with
    | false => rfl
    | true =>
      have := (sorted_perm (l ++ [x])).nodup_iff.1 (keysGo_nd _ _ (sorted_pw _) h)
      exact absurd rfl ((List.nodup_append.1 this).2.2 x hx x (by simp))
  rw [this, Bool.and_false]
  rfl
end
theorem loop9b (b0 b1 b2 : Bool) (o n : Nat) (x : Int) (l : List (List AV)) (l2 : List (List AV)) (ks N : List Nat) (hN : N.Pairwise (· < ·)) (hlt : ∀ k ∈ N, k < 40 ∧ k ∈ ks) (hl : N.length ≤ 1000) : ∀ (d i : Nat), i + d = N.length →
    E cx (Key.loop 9 [true, true, true, true, true, true, true, true, true, false, true, false]) [vbool b0, vi i, vu x, vbool b1, .arr 1 2 o n, .ptr 0 1 0 0, .ptr 4 0 0 0, .list 0 1 (rowsN N)] [⟨.arr, 83, 1, 1, hadR ks⟩, ⟨.arr, 36, 2, 2, l⟩, ⟨.dead, 36, 2, 2, []⟩, ⟨.dead, 36, 2, 2, []⟩, ⟨.box, 36, 2, 0, [[vbool b2, .list 0 2 l2]]⟩] =
      some (Out.jump (.exit 2) [vbool b0, vi N.length], [⟨.arr, 83, 1, 1, hadR ks⟩, ⟨.arr, 36, 2, 2, l⟩, ⟨.dead, 36, 2, 2, []⟩, ⟨.dead, 36, 2, 2, []⟩, ⟨.box, 36, 2, 0, [[vbool b2, .list 0 2 l2]]⟩])
  | 0, i, hd => (f9_l1 _ _ _ _ _ _ _ _ _ _ _).trans ((goDn (by rw [rowsN_len]; omega) _ _).trans (by rw [show i = N.length by omega]))
  | d + 1, i, hd => by
    have hp : N[i]? = some N[i] := List.getElem?_eq_getElem (by omega)
    obtain ⟨h40, hks⟩ := hlt _ (List.mem_of_getElem? hp)
    refine (f9_l1 _ _ _ _ _ _ _ _ _ _ _).trans ((goD (by rw [rowsN_len]; omega) _ _).trans ((goY (by omega) _ _).trans ((goRn (n := i) rfl hp _).trans ((goDn (by omega) _ _).trans ((goY (by omega) _ _).trans ((goRn (n := i) rfl hp _).trans ((goY (by omega) _ _).trans ((goY (by omega) _ _).trans ((goHd rfl h40 _).trans ?_)))))))))
    rw [decide_eq_true hks]
    have nx : q9_l1_1 b0 (i : Int) x b1 o n (rowsN N) (hadR ks) l b2 l2 = some (Out.jump (.exit 2) [vbool b0, vi N.length], [⟨.arr, 83, 1, 1, hadR ks⟩, ⟨.arr, 36, 2, 2, l⟩, ⟨.dead, 36, 2, 2, []⟩, ⟨.dead, 36, 2, 2, []⟩, ⟨.box, 36, 2, 0, [[vbool b2, .list 0 2 l2]]⟩]) := by
      unfold q9_l1_1
      rw [wS (by omega)]
      exact loop9b b0 b1 b2 o n x l l2 ks N hN hlt hl d (i + 1) (by omega)
    show (bif decide ((i : Int) > 0) then _ else _) = _
    cases i with
    | zero => exact (goDn (by omega) _ _).trans nx
    | succ i =>
      have hp0 : N[i]? = some N[i] := List.getElem?_eq_getElem (by omega)
      have hrise : N[i] < N[i + 1] := List.pairwise_iff_getElem.1 hN i (i + 1) (by omega) (by omega) (by omega)
      refine (goD (by omega) _ _).trans ?_
      rw [wP (by omega)]
      refine (goY (by omega) _ _).trans ((goRn (n := i) rfl hp0 _).trans ((goY (by omega) _ _).trans ((goRn (n := i + 1) rfl hp _).trans ((goDn (by omega) _ _).trans nx))))
theorem ysOk_trs (L : List T2) : ysOk (trs L) = true := by
  unfold ysOk
  rw [List.all_eq_true]
  intro e he
  obtain ⟨p, _, rfl⟩ := List.mem_map.1 he
  rfl
section
variable {ρ : Type} {x : Option (Out × Heap)}
theorem goX9 {n m : Nat} {A B F1 F2 : List (List AV)} (h : x = some (Out.jump (.exit 0) [.arr 1 2 0 n, vi m], [⟨.arr, 83, 1, 1, A⟩, ⟨.arr, 36, 2, 2, B⟩])) (K : Nat × Nat × Nat → Ob × Heap → Ob × Heap → Option ρ) (j : Option ρ) :
    (x.bind fun r3 => (asJump r3).bind fun j4 => bif JX.is j4.fst (JX.exit 0) then (uncons? j4.snd.fst).bind fun p5 => (AV.arr? 1 p5.fst).bind fun x6 => (chk x6.fst 2).bind fun _ => (uncons? p5.snd).bind fun p8 => (AV.int? .i64 p8.fst).bind fun _ =>
      (nil? p8.snd).bind fun _ => (uncons? j4.snd.snd).bind fun p11 => (obIs (Ob.mk OK.arr 83 1 1 F1) p11.fst).bind fun _ => (chk p11.fst.ver 1).bind fun _ => (uncons? p11.snd).bind fun p14 => (obIs (Ob.mk OK.arr 36 2 2 F2) p14.fst).bind fun _ =>
      (chk p14.fst.ver 2).bind fun _ => (nil? p14.snd).bind fun _ => K x6 p11 p14 else j) = K (2, 0, n) (⟨.arr, 83, 1, 1, A⟩, [⟨.arr, 36, 2, 2, B⟩]) (⟨.arr, 36, 2, 2, B⟩, []) := by rw [h]; rfl
theorem goX9b {b b2 : Bool} {m : Nat} {A B F1 F2 l F3 : List (List AV)} (h : x = some (Out.jump (.exit 2) [vbool b, vi m], [⟨.arr, 83, 1, 1, A⟩, ⟨.arr, 36, 2, 2, B⟩, ⟨.dead, 36, 2, 2, []⟩, ⟨.dead, 36, 2, 2, []⟩, ⟨.box, 36, 2, 0, [[vbool b2, .list 0 2 l]]⟩]))
    (K : Ob × Heap → Bool → List (List AV) → Option ρ) (j : Out × Heap → JX × List AV × Heap → Option ρ) :
    (x.bind fun r46 => (asJump r46).bind fun j47 => bif JX.is j47.fst (JX.exit 2) then (uncons? j47.snd.fst).bind fun p48 => (AV.bool? p48.fst).bind fun _ => (uncons? p48.snd).bind fun p50 => (AV.int? .i64 p50.fst).bind fun _ => (nil? p50.snd).bind fun _ =>
      (uncons? j47.snd.snd).bind fun p53 => (obIs (Ob.mk OK.arr 83 1 1 F1) p53.fst).bind fun _ => (chk p53.fst.ver 1).bind fun _ => (uncons? p53.snd).bind fun p56 => (obIs (Ob.mk OK.arr 36 2 2 F2) p56.fst).bind fun _ => (chk p56.fst.ver 2).bind fun _ =>
      (uncons? p56.snd).bind fun p59 => (obIs (Ob.mk OK.dead 36 2 2 []) p59.fst).bind fun _ => (chk p59.fst.ver 2).bind fun _ => (uncons? p59.snd).bind fun p62 => (obIs (Ob.mk OK.dead 36 2 2 []) p62.fst).bind fun _ => (chk p62.fst.ver 2).bind fun _ =>
      (uncons? p62.snd).bind fun p65 => (obIs (Ob.mk OK.box 36 2 0 F3) p65.fst).bind fun _ => (chk p65.fst.ver 0).bind fun _ => (uncons? p65.fst.es).bind fun p68 => (nil? p68.snd).bind fun _ => (uncons? p68.fst).bind fun p70 => (AV.bool? p70.fst).bind fun b71 =>
      (uncons? p70.snd).bind fun p72 => (AV.list? 2 p72.fst).bind fun es73 => (nil? p72.snd).bind fun _ => (nil? p65.snd).bind fun _ => K p56 b71 es73 else j r46 j47) =
    K (⟨.arr, 36, 2, 2, B⟩, [⟨.dead, 36, 2, 2, []⟩, ⟨.dead, 36, 2, 2, []⟩, ⟨.box, 36, 2, 0, [[vbool b2, .list 0 2 l]]⟩]) b2 l := by rw [h]; rfl
theorem goNT (v : AV) (k j : Option ρ) : (bif true then ((nil? (v, ([] : List AV)).snd).bind fun _ => k) else j) = k := rfl
theorem goNF (v : AV) (k j : Option ρ) : (bif false then j else ((nil? (v, ([] : List AV)).snd).bind fun _ => k)) = k := rfl
theorem goTn {L : List T2} {n : Nat} {t : T2} (h : L[n]? = some t) (k : Bool → List (List AV) → Option ρ) :
    ((nth (trs L) (Nat.add 0 n)).bind fun cs => (uncons? cs).bind fun p1 => (AV.bool? p1.fst).bind fun a => (uncons? p1.snd).bind fun p2 => (AV.list? 2 p2.fst).bind fun b => (nil? p2.snd).bind fun _ => k a b) = k t.1 (prs t.2) := by
  have : nth (trs L) (Nat.add 0 n) = some (trow t) := by
    rw [nth_eq]
    show (trs L)[0 + n]? = _
    rw [Nat.zero_add]
    simp [trs, h]
  rw [this]
  rfl
end
theorem c9 (raw : List Int) (hr : ∀ a ∈ raw, RI a) (root : Nat) (hroot : root < 18446744073709551616) (turn : Int) (ht : RI turn) : E cx (Key.fn 9) [.list 0 1 (ints raw), vu root, vi turn] [] = rb true := by
  obtain ⟨m, g⟩ := loop9a false true raw hr root turn (raw.take 20) 0 [] rfl (by omega) (Nat.le_refl _)
  have nd := ksL_nd (raw.take 20) [] .nil
  have lt := ksL_lt (raw.take 20) [] fun k hk => by cases hk
  have ln : (ksL (raw.take 20) []).length ≤ 20 := by
    have := ksL_len (raw.take 20) []
    simp only [List.length_nil, List.length_take] at this
    omega
  generalize ksL (raw.take 20) [] = ks at g nd lt ln
  have hl : (trs (tk root ks)).length = ks.length := by simp [trs, tk]
  have hp := pickI_lt (c := turn) (n := (ks.length : Int) + 1) (by omega)
  obtain ⟨n, hn⟩ : ∃ n : Nat, pickI turn ((ks.length : Int) + 1) = n := ⟨(pickI turn ((ks.length : Int) + 1)).toNat, by omega⟩
  have hnk : n ≤ ks.length := by omega
  refine (f9 _ _ _).trans ((goX9 g _ _).trans ?_)
  dsimp only
  have h48 : E cx (Key.fn 48) [vi turn, vi (IntKind.wrap .i64 (Int.add (ks.length : Int) 1))] [] = some (Out.ret (vi n), []) := by
    rw [wS (by omega), show (((ks.length + 1 : Nat)) : Int) = (ks.length : Int) + 1 by omega, c48 ht (by omega), hn]
  refine (goI h48 _).trans ((goY (by omega) _ _).trans ((goY (by omega) _ _).trans ?_))
  have hnn : Int.toNat ((n : Nat) : Int) = n := Int.toNat_natCast n
  rw [hnn]
  have e1 : List.drop (Nat.add 0 n) (List.take (Nat.add (Nat.add 0 n) (Nat.sub ks.length n)) (trs (tk root ks))) = trs (tk root (ks.drop n)) := by
    show List.drop (0 + n) (List.take (0 + n + (ks.length - n)) (trs (tk root ks))) = _
    rw [Nat.zero_add, List.take_of_length_le (by rw [hl]; omega)]
    simp [trs, tk]
  have e2 : List.drop (Nat.add 0 0) (List.take (Nat.add (Nat.add 0 0) (Nat.sub n 0)) (trs (tk root ks))) = trs (tk root (ks.take n)) := by
    show List.drop 0 (List.take (0 + n) (trs (tk root ks))) = _
    rw [Nat.zero_add, List.drop_zero]
    simp [trs, tk]
  have l1 : (trs (tk root (ks.drop n))).length = ks.length - n := by simp [trs, tk]
  have l2 : (trs (tk root (ks.take n))).length = n := by simp [trs, tk]; omega
  refine (goLe (by show 0 + n + (ks.length - n) ≤ (trs (tk root ks)).length; rw [hl]; omega) _).trans ?_
  rw [e1, e2, ysOk_trs, ysOk_trs, List.nil_append, l1, l2]
  refine (goY (by show (0 + (ks.length - n)) * 32 ≤ _; omega) _ _).trans ((goY (by omega) _ _).trans ((goY (by omega) _ _).trans ?_))
  refine (goLe (by show 0 + 0 + (n - 0) ≤ (trs (tk root ks)).length; rw [hl]; omega) _).trans ?_
  have l3 : (trs (tk root (ks.drop n)) ++ trs (tk root (ks.take n))).length = ks.length - n + n := by rw [List.length_append, l1, l2]
  refine (goCk (by show 0 + (ks.length - n) = ks.length - n; omega) _).trans ((goY (by show (ks.length - n + n) * 32 ≤ _; omega) _ _).trans ((goLe (by show 0 + (ks.length - n + n) ≤ _; rw [l3]; omega) _).trans ?_))
  have e4 : List.drop 0 (List.take (Nat.add 0 (Nat.add (ks.length - n) n)) (trs (tk root (ks.drop n)) ++ trs (tk root (ks.take n)))) = trs (tk root (ks.drop n ++ ks.take n)) := by
    show List.drop 0 (List.take (0 + (ks.length - n + n)) _) = _
    rw [List.drop_zero, List.take_of_length_le (by rw [l3]; omega)]
    simp [trs, tk]
  rw [e4]
  have pk : (ks.drop n ++ ks.take n).Perm ks := (List.perm_append_comm).trans (by rw [List.take_append_drop])
  have hcat : ∀ l : List Nat, cat (tk root l) = kp root l := fun l => by
    induction l with
    | nil => rfl
    | cons a l ih => show (a, root) :: cat (tk root l) = _; rw [ih]; rfl
  have hall : ∀ l : List Nat, allR (tk root l) = true := fun l => List.all_eq_true.2 fun t ht => by
    obtain ⟨k, _, rfl⟩ := List.mem_map.1 ht
    exact rightT_of (by simp) (List.pairwise_singleton _ _)
  have hany : ∀ l : List Nat, anyF' (tk root l) = false := fun l => List.any_eq_false.2 fun t ht => by
    obtain ⟨k, _, rfl⟩ := List.mem_map.1 ht
    simp
  have m1 := c45 (tk root (ks.drop n ++ ks.take n)) (by rw [List.length_map, pk.length_eq]; omega) fun t ht => by
    obtain ⟨k, _, rfl⟩ := List.mem_map.1 ht
    simp
  rw [mergeR_ok (hall _) (by rw [hcat, List.length_map, pk.length_eq]; omega), hany, hcat, sorted_congr (pk.map _)] at m1
  refine (goTok m1 _).trans ?_
  have hlS : (ST root ks).length = ks.length := ST_len
  have hlK : (keysL (ST root ks)).length = ks.length := by unfold keysL; rw [List.length_map, hlS]
  have k1 := c42 false (ST root ks) root (by rw [hlS]; omega)
  rw [ST_keys nd (by omega)] at k1
  refine (goKy k1 _).trans ?_
  refine (goNT _ _ _).trans ?_
  refine (goE rfl _ _).trans ((goE (by rw [rowsN_len]; show ((keysL (ST root ks)).length : Int) = _; rw [hlK]) _ _).trans ?_)
  have g2 := loop9b false true false 0 ks.length root (trs (tk root ks)) (prs (ST root ks)) ks (keysL (ST root ks)) (ST_rise nd) (fun k hk => by
    obtain ⟨p, hp, rfl⟩ := List.mem_map.1 hk
    have := (ST_mem hp).2
    exact ⟨lt _ this, this⟩) (by rw [hlK]; omega) (keysL (ST root ks)).length 0 (by omega)
  refine (goX9b g2 _ _).trans ?_
  dsimp only
  by_cases h0 : ks.length = 0
  · refine (goD (by omega) _ _).trans ((goD (by rw [prs_len, hlS]; omega) _ _).trans rfl)
  · have hne : ks ≠ [] := fun e => h0 (by rw [e]; rfl)
    refine (goDn (by omega) _ _).trans ?_
    obtain ⟨r', hr', hrr⟩ : ∃ r' : Nat, IntKind.wrap .u64 (Int.add (root : Int) 1) = r' ∧ root ≠ r' := by
      by_cases hlast : root = 18446744073709551615
      · subst hlast
        exact ⟨0, rfl, by decide⟩
      · exact ⟨root + 1, (wu_id (n := (root : Int) + 1) (by omega) (by omega)).trans (by omega), by omega⟩
    have k2 := c42 false (ST root ks) r' (by rw [hlS]; omega)
    rw [ST_other hrr hne] at k2
    rw [hr']
    refine (goKy k2 _).trans ?_
    refine (goNF _ _ _).trans ?_
    refine (goY (by omega) _ _).trans ?_
    obtain ⟨k0, kr, rfl⟩ := List.exists_cons_of_ne_nil hne
    refine (goTn (n := 0) (t := (false, [(k0, root)])) rfl _).trans ?_
    have hx : (k0, root) ∈ ST root (k0 :: kr) := (sorted_perm _).mem_iff.2 (List.mem_cons_self ..)
    have hc2 : cat [(false, ST root (k0 :: kr)), (false, [(k0, root)])] = ST root (k0 :: kr) ++ [(k0, root)] := by simp [cat]
    have m2 := c45 [(false, ST root (k0 :: kr)), (false, [(k0, root)])] (by simp) fun t ht => by
      simp only [List.mem_cons, List.not_mem_nil, or_false] at ht
      rcases ht with rfl | rfl
      · show (ST root (k0 :: kr)).length ≤ _
        rw [hlS]
        omega
      · simp
    have ha2 : allR [(false, ST root (k0 :: kr)), (false, [(k0, root)])] = true := by
      show (rightT (ST root (k0 :: kr)) && (rightT [(k0, root)] && true)) = true
      rw [ST_right (by omega), rightT_of (by simp) (List.pairwise_singleton _ _)]
      rfl
    have hlen2 : (ST root (k0 :: kr) ++ [(k0, root)]).length ≤ 2048 := by
      rw [List.length_append, hlS]
      simp only [List.length_cons, List.length_nil] at ln ⊢
      omega
    rw [mergeR_ok ha2 (by rw [hc2]; exact hlen2), hc2] at m2
    refine (goTok m2 _).trans ?_
    have k3 := c42 (anyF' [(false, ST root (k0 :: kr)), (false, [(k0, root)])]) (sorted (ST root (k0 :: kr) ++ [(k0, root)])) root (by rw [(sorted_perm _).length_eq]; omega)
    rw [twice_keys hx] at k3
    refine (goKy k3 _).trans ?_
    refine (goNF _ _ _).trans ?_
    exact goD rfl _ _
end Go.Proofs.Av
