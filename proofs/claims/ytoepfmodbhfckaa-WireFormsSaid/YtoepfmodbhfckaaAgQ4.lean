/- WireForms is true. -/
import Derived.Test.YtoepfmodbhfckaaAgY4
set_option maxRecDepth 100000
namespace Go.Proofs.Av
open Go
abbrev ob4 (x : Rw) : Heap := [Ob.mk OK.box 25 9 0 [rC x]]
abbrev L4 : Key := Key.loop 4 [true, true, true, true, true, true, false, true, false]
theorem q4b (x : Rw) (b b2 : Bool) (i m : Int) (l : List (List AV)) : q4_l0_1 b i b2 l m x.a x.b x.c x.d x.e x.n (ints x.on) (ints x.ps) x.bad = E cx L4 [vbool b, vi (IntKind.wrap .i64 (Int.add i 1)), vbool b2, .list 0 1 l, vi m] (ob4 x) := rfl
theorem q4c (x : Rw) (b b2 : Bool) (i m : Int) (l : List (List AV)) (y : B) : q4_l0_3 (mk y) i x.a x.b x.c x.d x.e x.n (ints x.on) (ints x.ps) x.bad b b2 l m = E cx L4 [vbool b, vi (IntKind.wrap .i64 (Int.add i 1)), vbool b2, .list 0 1 l, vi m] (ob4 x) := by
 unfold q4_l0_3
 refine (goRT (c31 y) _).trans ?_
 have sz : ((ByteArray.size (mk y) : Nat) : Int) = (y.length : Int) := rfl
 rw [sz]
 by_cases h : y.length = 24
 ·rw [unrR_2 (by omega)]
  refine (goD rfl _ _).trans ((goD (by omega) _ _).trans ?_)
  unfold q4_l0_2
  refine (goD rfl _ _).trans ((goS (c32 _ _ _) _).trans ((goQn (rec_unr h) _ _).trans ?_))
  exact q4b x b b2 i m l
 ·rw [unrR_1 h]
  refine (goDn (by decide) _ _).trans ((goDn (by omega) _ _).trans ?_)
  unfold q4_l0_2
  refine (goDn (by decide) _ _).trans ?_
  exact q4b x b b2 i m l
theorem una_len {y : B} (h : (unaR y).2 = 0) : (unaR y).1.q.length ≤ 4000000 ∧ (unaR y).1.v.on.length ≤ 4000000 ∧ (unaR y).1.v.p.length ≤ 4000000 := by
 by_cases h1 : (splitR y 8 2).2.2 ≠ 0
 ·rw [unaR_1 h1] at h; exact absurd h h1
 rw [unaR_2 h1] at h ⊢
 by_cases h2 : (decR (piece y 8 2 0)).2.2 ≠ 0
 ·rw [unaP_1 h2] at h; exact absurd h h2
 by_cases h3 : (unvR (piece y 8 2 1)).2 ≠ 0
 ·rw [unaP_2 h2 h3] at h; exact absurd h h3
 rw [unaP_3 h2 h3]
 obtain ⟨v1, _⟩ := vote_unv (s := piece y 8 2 1) (by simpa using h3)
 obtain ⟨d1, _⟩ := decR_right (l := piece y 8 2 0) (f := (decR (piece y 8 2 0)).1) (q := (decR (piece y 8 2 0)).2.1) (by
  have h2' : (decR (piece y 8 2 0)).2.2 = 0 := by simpa using h2
  rw [← h2'])
 have e1 := rightT_len d1
 have e2 := right_len v1.right
 have e3 := rightT_len v1.tok
 exact ⟨by simp only; omega, by simp only; omega, by simp only; omega⟩
theorem q4d (x : Rw) (b b2 : Bool) (i m : Int) (l : List (List AV)) (y : B) : q4_l0_4 (mk y) i x.a x.b x.c x.d x.e x.n (ints x.on) (ints x.ps) x.bad b b2 l m = E cx L4 [vbool b, vi (IntKind.wrap .i64 (Int.add i 1)), vbool b2, .list 0 1 l, vi m] (ob4 x) := by
 unfold q4_l0_4
 refine (goAT (c30 y) _).trans ?_
 by_cases h : (unaR y).2 = 0
 ·obtain ⟨l0, l1, l2⟩ := una_len h
  have e := c29 (unaR y).1 l0 l1 l2
  rw [agg_una h] at e
  refine (goD h _ _).trans ((goJn e _).trans ((goE rfl _ _).trans ((goQn rfl _ _).trans ?_)))
  exact q4c x b b2 i m l y
 ·refine (goDn h _ _).trans ?_
  exact q4c x b b2 i m l y
theorem loop4 (x : Rw) (b b2 : Bool) (T : List B) (hT : T.length = 4) : ∀ (rest : List B) (i : Nat), T.drop i = rest → i + rest.length = 4 →
  E cx L4 [vbool b, vi i, vbool b2, .list 0 1 (rowsB T), vi 4] (ob4 x) = some (Out.jump (.exit 0) [vbool b, vi 4], ob4 x)
 | [], i, hd, hi => by
  have : i = 4 := by simpa using hi
  subst this
  refine (f4_l0 _ _ _ _ _ _ _ _ _ _ _ _ _ _).trans ((goDn (by omega) _ _).trans ?_)
  rfl
 | y :: rest, i, hd, hi => by
  obtain ⟨h1, h2, h3⟩ := drop_cons' hd
  simp only [List.length_cons] at hi
  have next : E cx L4 [vbool b, vi (IntKind.wrap .i64 (Int.add (i : Int) 1)), vbool b2, .list 0 1 (rowsB T), vi 4] (ob4 x) = some (Out.jump (.exit 0) [vbool b, vi 4], ob4 x) := by
   rw [wS (by omega)]
   exact loop4 x b b2 T hT rest (i + 1) h2 (by omega)
  refine (f4_l0 b i b2 (rowsB T) 4 x.a x.b x.c x.d x.e x.n (ints x.on) (ints x.ps) x.bad).trans ((goD (by omega) _ _).trans ((goY (by omega) _ _).trans ((goP rfl h1 _).trans ((goVT (c27 y) _).trans ?_))))
  by_cases h : (unvR y).2 = 0
  ·obtain ⟨v1, v2⟩ := vote_unv h
   have e1 := right_len v1.right
   have e2 := rightT_len v1.tok
   have e := c26 (unvR y).1 (by omega) (by omega)
   rw [v2] at e
   refine (goD h _ _).trans ((goJn e _).trans ((goE rfl _ _).trans ((goQn rfl _ _).trans ?_)))
   exact (q4d x b b2 i 4 (rowsB T) y).trans next
  ·refine (goDn h _ _).trans ?_
   exact (q4d x b b2 i 4 (rowsB T) y).trans next
theorem goF4 {x : Option (Out × Heap)} {w : Rw} (h : x = some (Out.jump (.exit 0) [vbool false, vi 4], ob4 w)) (k : Option (Out × Heap) → Option (Out × Heap)) (hk : k (some (Out.jump (.exit 0) [vbool false, vi 4], ob4 w)) = rb true) : k x = rb true := by rw [h]; exact hk
theorem min_cut (s : B) {n : Nat} : ∃ m : Nat, (if (n : Int) < ((ByteArray.size (mk s) : Nat) : Int) then (n : Int) else ((ByteArray.size (mk s) : Nat) : Int)) = m ∧ m ≤ s.length ∧ m ≤ n := by
 have sz : ((ByteArray.size (mk s) : Nat) : Int) = (s.length : Int) := rfl
 rw [sz]
 by_cases h : (n : Int) < (s.length : Int)
 ·exact ⟨n, by rw [if_pos h], by omega, Nat.le_refl _⟩
 ·exact ⟨s.length, by rw [if_neg h], Nat.le_refl _, by omega⟩
theorem c4 (s : B) (x : Rw) (hx : RwOk x) {by' : Int} (hb : RI by') (q : List Int) (hq : ∀ r ∈ q, RI r) {a : Int} (ha : RI a) (c : UInt8) :
  E cx (Key.fn 4) [vs (mk s), .agg (rC x), vi by', .list 0 1 (ints q), vi a, vb c.toNat] [] = rb true := by
 obtain ⟨lx1, lx2⟩ := raw_on x
 obtain ⟨ao, asz⟩ := rawA_ok x by' q
 have vsz := raw_size x
 have la0 : (rawA x by' q).q.length ≤ 4000000 := by have := tokP_len q; show (tokP q).length ≤ _; omega
 refine (f4 _ _ _ _ _ _ _ _ _ _ _ _ _ _).trans ((goV (c25 x hx) _).trans ((goJn (k26 (raw_ok x) lx1 lx2) _).trans ((goAg (c28 x hx hb q hq) _).trans ((goJn (k29 ao la0 lx1 lx2) _).trans ((goE rfl _ _).trans ((goE rfl _ _).trans ?_))))))
 obtain ⟨m, hm, m1, m2⟩ := min_cut s (n := 200)
 have hm' : (if 200 < ((ByteArray.size (mk s) : Nat) : Int) then (200 : Int) else ((ByteArray.size (mk s) : Nat) : Int)) = m := hm
 have sz : ((ByteArray.size (mk s) : Nat) : Int) = (s.length : Int) := rfl
 rw [hm', Int.toNat_natCast, ext_mk]
 obtain ⟨k, hk, k1, k2⟩ := min_cut ((s.take m).drop 0) (n := 24)
 have hk' : (if 24 < ((ByteArray.size (mk ((s.take m).drop 0)) : Nat) : Int) then (24 : Int) else ((ByteArray.size (mk ((s.take m).drop 0)) : Nat) : Int)) = k := hk
 refine (goY (by omega) _ _).trans ((goY (by rw [sz]; omega) _ _).trans ((goS (c35 _ (by omega) a ha c) _).trans ((goS (c35 _ (by omega) a ha c) _).trans ?_)))
 rw [hk', Int.toNat_natCast, ext_mk]
 refine (goY (by omega) _ _).trans ((goY (by show (k : Int) ≤ ((((s.take m).drop 0).length : Nat) : Int); omega) _ _).trans ?_)
 have hl := loop4 x false true [(s.take m).drop 0, trn (voteB (rawV x)) a c, trn (aggB (rawA x by' q)) a c, (((s.take m).drop 0).take k).drop 0] rfl _ 0 rfl rfl
 refine (congrArg (fun z => Option.bind z _) hl).trans ?_
 rfl
end Go.Proofs.Av
