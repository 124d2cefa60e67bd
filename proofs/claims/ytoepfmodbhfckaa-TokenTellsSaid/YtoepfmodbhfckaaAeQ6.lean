/- Tokens: the law that they are as the document says. -/
import Derived.Test.YtoepfmodbhfckaaAePQ
import Derived.Test.YtoepfmodbhfckaaAeY6
namespace Go.Proofs.Av
open Go
abbrev bx (t : T2) : Ob := ⟨.box, 36, 2, 0, [[vbool t.1, .list 0 2 (prs t.2)]]⟩
abbrev H4 (t x a b : T2) : Heap := [bx t, bx x, bx a, bx b]
abbrev H5 (t x a b y : T2) : Heap := [bx t, bx x, bx a, bx b, bx y]
theorem loop6i (b0 b1 : Bool) (s : ByteArray) (at' c k r : Int) (Y : List (List AV)) (n i : Int) (t x a b y : T2) (R : List Nat) (hR : R.length = 2) (hy : y.2.length ≤ 4000) : ∀ (d j : Nat), j + d = 2 →
    E cx (Key.loop 6 [true, true, true, true, true, true, false, true, false, false, true, true, false, false, true, true, true, true, false, true, false]) [vbool b0, vi j, vs s, vi at', vb c, vu k, vu r, vbool b1, .ptr 1 0 0 0, .ptr 2 0 0 0, .ptr 3 0 0 0, .ptr 4 0 0 0, .list 0 2 Y, vi n, vi i, .list 0 1 (rowsN R), vi 2] (H5 t x a b y) =
      some (Out.jump (.exit 2) [vbool b0, vi 2], H5 t x a b y)
  | 0, j, hd => by
    obtain rfl : j = 2 := by omega
    exact (f6_l0_l1 _ _ _ _ _ _ _ _ _ _ _ _ _ _ _ _ _ _ _ _ _ _ _).trans (goDn (by omega) _ _)
  | d + 1, j, hd => by
    have hp : R[j]? = some R[j] := List.getElem?_eq_getElem (by omega)
    have k1 := c42 y.1 y.2 R[j] (by omega)
    have k2 := c43 y.1 y.2 R[j] (by omega)
    have w := c44 (keysR y.2 R[j]).1 (keysR y.2 R[j]).1 (by
      unfold keysR
      split
      · simp [keysL]; omega
      · simp)
    rw [decide_eq_true rfl] at w
    have nx := loop6i b0 b1 s at' c k r Y n i t x a b y R hR hy d (j + 1) (by omega)
    refine (f6_l0_l1 _ _ _ _ _ _ _ _ _ _ _ _ _ _ _ _ _ _ _ _ _ _ _).trans ((goD (by omega) _ _).trans ((goY (by omega) _ _).trans ((goRn (n := j) rfl hp _).trans ?_)))
    refine (goKy k1 _).trans ?_
    have go : ∀ q : AV × List AV, q.2 = [] → q6_l0_l1_0 q (rowsN (keysR y.2 R[j]).1) (rowsN (keysR y.2 R[j]).1) b0 (j : Int) s at' c k r b1 Y n i (rowsN R) 2 t.1 (prs t.2) x.1 (prs x.2) a.1 (prs a.2) b.1 (prs b.2) y.1 (prs y.2) = some (Out.jump (.exit 2) [vbool b0, vi 2], H5 t x a b y) := fun q hq => by
      unfold q6_l0_l1_0
      rw [hq]
      refine (goT w _ _).trans ?_
      rw [wS (by omega)]
      exact nx
    cases hb : (keysR y.2 R[j]).2 with
    | true =>
      refine (goKy k2 _).trans ?_
      rw [hb]
      exact go _ rfl
    | false =>
      refine (goKy k2 _).trans ?_
      rw [hb]
      exact go _ rfl
theorem tmod3 (r : Nat) : Int.tmod (r : Int) 3 = ((r % 3 : Nat) : Int) := by
  rw [Int.tmod_eq_emod_of_nonneg (Int.natCast_nonneg _)]; omega
theorem loop6 (b0 : Bool) (s : ByteArray) (at' c k : Int) (r : Nat) (t x a b : T2) (Y : List T2) (hY : Y.length = 3) (hb : ∀ y ∈ Y, y.2.length ≤ 4000) (ha4 : a.2.length ≤ 4000) (hb4 : b.2.length ≤ 4000) (hx4 : x.2.length ≤ 4000) : ∀ (d i : Nat), i + d = 3 →
    E cx (Key.loop 6 [true, true, true, true, true, true, false, true, false]) [vbool b0, vi i, vs s, vi at', vb c, vu k, vu r, vbool true, .ptr 1 0 0 0, .ptr 2 0 0 0, .ptr 3 0 0 0, .list 0 2 (trs Y), vi 3] (H4 t x a b) =
      some (Out.jump (.exit 0) [vbool b0, vi 3], H4 t x a b)
  | 0, i, hd => by
    obtain rfl : i = 3 := by omega
    exact (f6_l0 _ _ _ _ _ _ _ _ _ _ _ _ _ _ _ _ _ _).trans (goDn (by omega) _ _)
  | d + 1, i, hd => by
    have hp : Y[i]? = some Y[i] := List.getElem?_eq_getElem (by omega)
    have hy := hb _ (List.mem_of_getElem? hp)
    have nx := loop6 b0 s at' c k r t x a b Y hY hb ha4 hb4 hx4 d (i + 1) (by omega)
    generalize Y[i] = y at hp hy
    have e1 := c38 y.1 y.2 (by omega)
    have e2 := c39 y.1 y.2 (by omega)
    have r1 := c40 y.1 y.2 (by omega)
    have r2 := c41 y.1 y.2 (by omega)
    have inner := loop6i b0 true s at' c k r (trs Y) 3 i t x a b y [r, r % 3] rfl hy 2 0 rfl
    have ml : ∀ z ∈ [y, a, b, x], z.2.length ≤ 4000 := by
      intro z hz
      simp only [List.mem_cons, List.not_mem_nil, or_false] at hz
      rcases hz with rfl | rfl | rfl | rfl <;> assumption
    have m1 := c45 [y, a, b, x] (by simp) (fun z hz => by have := ml z hz; omega)
    have m2 := c46 [y, a, b, x] (by simp) (fun z hz => by have := ml z hz; omega)
    have hml : (mergeR [y, a, b, x]).2.1.length ≤ 4000000 := by
      unfold mergeR
      split
      · split
        · rename_i h
          simp only [sorted, List.length_mergeSort]
          omega
        · simp
      · simp
    have s1 := c47 (mergeR [y, a, b, x]).1 (mergeR [y, a, b, x]).1 (mergeR [y, a, b, x]).2.1 (mergeR [y, a, b, x]).2.1 hml
    rw [decide_eq_true ⟨rfl, rfl⟩] at s1
    have go : q6_l0_1 (mk (encR y.1 y.2).1) (mk (encR y.1 y.2).1) i t.1 (prs t.2) x.1 (prs x.2) a.1 (prs a.2) b.1 (prs b.2) (encR y.1 y.2).2 (encR y.1 y.2).2 b0 s at' c k r true (trs Y) 3 y.1 (prs y.2) = some (Out.jump (.exit 0) [vbool b0, vi 3], H4 t x a b) := by
      unfold q6_l0_1
      refine (goQn rfl _ _).trans ((goE rfl _ _).trans ?_)
      rw [tmod3]
      show (Option.bind (E cx (Key.loop 6 [true, true, true, true, true, true, false, true, false, false, true, true, false, false, true, true, true, true, false, true, false]) [vbool b0, vi ((0 : Nat) : Int), vs s, vi at', vb c, vu k, vu r, vbool true, .ptr 1 0 0 0, .ptr 2 0 0 0, .ptr 3 0 0 0, .ptr 4 0 0 0, .list 0 2 (trs Y), vi 3, vi i, .list 0 1 (rowsN [r, r % 3]), vi 2] (H5 t x a b y)) _) = _
      rw [inner]
      refine (goTok m1 _).trans ((goTok m2 _).trans ((goE rfl _ _).trans ((goT s1 _ _).trans ?_)))
      rw [wS (by omega)]
      exact nx
    refine (f6_l0 _ _ _ _ _ _ _ _ _ _ _ _ _ _ _ _ _ _).trans ((goD (by omega) _ _).trans ((goY (by omega) _ _).trans ((goTr (n := i) rfl hp _).trans ?_)))
    refine (goJn e1 _).trans ((goJn e2 _).trans ((goB r1 _).trans ?_))
    cases hr : rightT y.2 with
    | true =>
      rw [hr] at r2
      exact (goT r2 _ _).trans go
    | false =>
      rw [hr] at r2
      exact (goF r2 _ _).trans go
theorem loop6b (b0 b1 : Bool) (k r : Int) (t x a b : T2) (S : List B) (hS : S.length = 4) (hs : ∀ s ∈ S, s.length ≤ 1000000) : ∀ (d i : Nat), i + d = 4 →
    E cx (Key.loop 6 [true, true, true, true, true, true, true, true, true, false, true, false]) [vbool b0, vi i, vu k, vu r, vbool b1, .list 0 1 (rowsB S), vi 4] (H4 t x a b) = some (Out.jump (.exit 4) [vbool b0, vi 4], H4 t x a b)
  | 0, i, hd => by
    obtain rfl : i = 4 := by omega
    exact (f6_l2 _ _ _ _ _ _ _ _ _ _ _ _ _ _ _).trans (goDn (by omega) _ _)
  | d + 1, i, hd => by
    have hp : S[i]? = some S[i] := List.getElem?_eq_getElem (by omega)
    have hl := hs _ (List.mem_of_getElem? hp)
    have nx := loop6b b0 b1 k r t x a b S hS hs d (i + 1) (by omega)
    generalize S[i] = s at hp hl
    have d1 := c49 s hl
    have d2 := c50 s hl
    have hml : (decR s).2.1.length ≤ 4000000 := by
      cases s with
      | nil => simp [decR]
      | cons c s =>
        rw [decR_cons]
        split
        · split
          · simp
          · unfold decP2
            have := db_len (s.length / 16) s
            simp only [List.length_cons] at hl
            split
            · split
              · simp
              · simp only; omega
            · simp
        · simp
    have s1 := c47 (decR s).1 (decR s).1 (decR s).2.1 (decR s).2.1 hml
    rw [decide_eq_true ⟨rfl, rfl⟩] at s1
    refine (f6_l2 _ _ _ _ _ _ _ _ _ _ _ _ _ _ _).trans ((goD (by omega) _ _).trans ((goY (by omega) _ _).trans ((goP (n := i) rfl hp _).trans ?_)))
    refine (goTok d1 _).trans ((goTok d2 _).trans ((goE rfl _ _).trans ((goT s1 _ _).trans ?_)))
    rw [wS (by omega)]
    exact nx
theorem c6 (ft : Bool) (l : List P2) (one two : List Int) (h1 : ∀ a ∈ one, RI a) (h2 : ∀ a ∈ two, RI a) (f : Bool) (s : B) (at' : Int) (hat : RI at') (c : Int) (key root : Nat) :
    E cx (Key.fn 6) [.agg [vbool ft, .list 0 2 (prs l)], .list 0 1 (ints one), .list 0 1 (ints two), vbool f, vs (mk s), vi at', vb c, vu key, vu root] [] = rb true := by
  have ha := tokP_len one
  have hb := tokP_len two
  have ra := tokP_right one
  have ca := c37 one h1 f
  have cb := c37 two h2 false
  generalize tokP one = A at ha ra ca
  generalize tokP two = Bb at hb cb
  obtain ⟨m, hm, hm1, hm2⟩ : ∃ m : Nat, (if (40 : Int) < (((prs l).length : Nat) : Int) then (40 : Int) else (((prs l).length : Nat) : Int)) = m ∧ m ≤ l.length ∧ m ≤ 40 := by
    rw [prs_len]
    by_cases h : (40 : Int) < (l.length : Int)
    · exact ⟨40, if_pos h, by omega, Nat.le_refl _⟩
    · exact ⟨l.length, if_neg h, Nat.le_refl _, by omega⟩
  obtain ⟨q, hq, hq1, hq2⟩ : ∃ q : Nat, (if (100 : Int) < ((ByteArray.size (mk s) : Nat) : Int) then (100 : Int) else ((ByteArray.size (mk s) : Nat) : Int)) = q ∧ q ≤ s.length ∧ q ≤ 100 := by
    by_cases h : (100 : Int) < ((ByteArray.size (mk s) : Nat) : Int)
    · exact ⟨100, if_pos h, by have : (100 : Int) < (s.length : Int) := h; omega, Nat.le_refl _⟩
    · exact ⟨s.length, if_neg h, Nat.le_refl _, by have : ¬ (100 : Int) < (s.length : Int) := h; omega⟩
  refine (f6 _ _ _ _ _ _ _ _ _ _).trans ?_
  rw [hm, hq]
  refine (goY (by omega) _ _).trans ((goY (by rw [prs_len]; omega) _ _).trans ?_)
  refine (goA ca _).trans ((goA cb _).trans ?_)
  have e0 : List.drop 0 (List.take (Int.toNat (m : Int)) (prs l)) = prs (l.take m) := by rw [List.drop_zero, Int.toNat_natCast, prs_take]
  rw [e0]
  have hx : (l.take m).length ≤ 40 := by rw [List.length_take]; omega
  have g := loop6 false (mk s) at' c key root (ft, l) (ft, l.take m) (f, A) (false, Bb) [(ft, l.take m), (f, A), (false, Bb)] rfl (by
    intro y hy
    simp only [List.mem_cons, List.not_mem_nil, or_false] at hy
    rcases hy with rfl | rfl | rfl <;> (simp only; omega)) (by simp only; omega) (by simp only; omega) (by simp only; omega) 3 0 rfl
  show (Option.bind (E cx (Key.loop 6 [true, true, true, true, true, true, false, true, false]) [vbool false, vi ((0 : Nat) : Int), vs (mk s), vi at', vb c, vu key, vu root, vbool true, .ptr 1 0 0 0, .ptr 2 0 0 0, .ptr 3 0 0 0, .list 0 2 (trs [(ft, l.take m), (f, A), (false, Bb)]), vi 3] (H4 (ft, l) (ft, l.take m) (f, A) (false, Bb))) _) = _
  rw [g]
  have e2 : E cx (Key.fn 39) [.agg [vbool f, .list 0 2 (prs A)]] [] = RJ (encB f A) 0 := (c39 f A (by omega)).trans (by rw [encR_ok ra])
  refine (goJn e2 _).trans ?_
  have hel := encB_len f A
  refine (goI (c48 (n := ((ByteArray.size (mk (encB f A)) : Nat) : Int)) hat (by show (0 : Int) < (((encB f A).length : Nat) : Int); omega)) _).trans ?_
  have hpk := pickI_lt (c := at') (n := ((ByteArray.size (mk (encB f A)) : Nat) : Int)) (by show (0 : Int) < (((encB f A).length : Nat) : Int); omega)
  have hsz : ((ByteArray.size (mk (encB f A)) : Nat) : Int) = (((encB f A).length : Nat) : Int) := rfl
  generalize pickI at' ((ByteArray.size (mk (encB f A)) : Nat) : Int) = p at hpk
  obtain ⟨p, rfl⟩ : ∃ k : Nat, p = k := ⟨p.toNat, by omega⟩
  rw [hsz] at hpk
  have ex : ∀ (w : B) (i j : Nat), ByteArray.extract (mk w) i j = mk ((w.take j).drop i) := ext_mk
  have wp : IntKind.wrap .i64 (Int.add (p : Int) 1) = ((p + 1 : Nat) : Int) := wS (by omega)
  have hstr : Go.strOfNums [c] = mk [UInt8.ofNat c.toNat] := rfl
  rw [wp, hstr]
  simp only [ex, app_mk]
  refine (goY (by omega) _ _).trans ((goY (by show (q : Int) ≤ (s.length : Int); omega) _ _).trans ((goY (by omega) _ _).trans ((goY (by rw [hsz]; omega) _ _).trans ?_)))
  have sz : ∀ w : B, ByteArray.size (mk w) = w.length := fun _ => rfl
  refine (goN (by simp only [sz]; show ¬ ((_ + _ : Nat) : Int) > _; simp only [List.length_drop, List.length_take, List.length_cons, List.length_nil, Int.toNat_natCast]; omega) _ _).trans ?_
  refine (goY (by omega) _ _).trans ((goY (by rw [hsz]; omega) _ _).trans ?_)
  refine (goN (by simp only [sz]; show ¬ ((_ + _ : Nat) : Int) > _; simp only [List.length_append, List.length_drop, List.length_take, List.length_cons, List.length_nil, Int.toNat_natCast]; omega) _ _).trans ?_
  refine (goY (by omega) _ _).trans ((goY (by rw [hsz]; omega) _ _).trans ?_)
  have g2 := loop6b false true key root (ft, l) (ft, l.take m) (f, A) (false, Bb) [(s.take (Int.toNat (q : Int))).drop 0, encB f A, ((encB f A).take (Int.toNat (p : Int))).drop 0 ++ [UInt8.ofNat c.toNat] ++ ((encB f A).take (ByteArray.size (mk (encB f A)))).drop (Int.toNat ((p + 1 : Nat) : Int)), ((encB f A).take (Int.toNat (p : Int))).drop 0] rfl (by
    intro w hw
    simp only [List.mem_cons, List.not_mem_nil, or_false] at hw
    rcases hw with rfl | rfl | rfl | rfl <;> first | (simp only [List.length_append, List.length_drop, List.length_take, List.length_cons, List.length_nil, Int.toNat_natCast]; omega) | omega) 4 0 rfl
  show (Option.bind (E cx (Key.loop 6 [true, true, true, true, true, true, true, true, true, false, true, false]) [vbool false, vi ((0 : Nat) : Int), vu key, vu root, vbool true, .list 0 1 (rowsB [(s.take (Int.toNat (q : Int))).drop 0, encB f A, ((encB f A).take (Int.toNat (p : Int))).drop 0 ++ [UInt8.ofNat c.toNat] ++ ((encB f A).take (ByteArray.size (mk (encB f A)))).drop (Int.toNat ((p + 1 : Nat) : Int)), ((encB f A).take (Int.toNat (p : Int))).drop 0]), vi 4] (H4 (ft, l) (ft, l.take m) (f, A) (false, Bb))) _) = _
  rw [g2]
  have s3 := c47 false false [(key, root)] [(key, root)] (by simp)
  rw [decide_eq_true ⟨rfl, rfl⟩] at s3
  refine (goA (c51 key root) _).trans ((goA (c52 key root) _).trans ?_)
  exact goT s3 _ _
end Go.Proofs.Av
