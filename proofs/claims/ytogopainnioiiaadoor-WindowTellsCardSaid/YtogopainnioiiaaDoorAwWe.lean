/- The law of what the window tells. -/
import Derived.Test.YtogopainnioiiaaDoorAwWc
import Derived.Test.YtogopainnioiiaaDoorAwZf
import Derived.Test.YtogopainnioiiaaDoorAwY8
namespace Go.Proofs.Av
open Go
abbrev chB (c : Ch) : Ob := Ob.mk OK.box 24 10 0 [[vi c.c1, vi c.c2, vi c.c3, vi c.c4, vi c.c5, vi c.c6, vi c.c7, vi c.c8, vi c.c9, vu c.c10]]
abbrev chR (c : Ch) : List AV := [vi c.c1, vi c.c2, vi c.c3, vi c.c4, vi c.c5, vi c.c6, vi c.c7, vi c.c8, vi c.c9, vu c.c10]
abbrev rowB (n0 n1 n2 n3 n4 n5 : Int) : Ob := Ob.mk OK.box 25 6 0 [[vi n0, vi n1, vi n2, vi n3, vi n4, vi n5]]
theorem goR2 {ρ : Type} {L : List (List AV)} {i : Nat} {a b : Int} (h : L[i]? = some [vi a, vi b]) (k : Int → Int → Option ρ) :
    ((L[i]?).bind fun cs => (uncons? cs).bind fun q => (AV.int? .i64 q.fst).bind fun a => (uncons? q.snd).bind fun q2 => (AV.int? .i64 q2.fst).bind fun b => (nil? q2.snd).bind fun _ => k a b) = k a b := by rw [h]; rfl
theorem goRC {ρ : Type} {L : List (List AV)} {i : Nat} {c : Ch} (h : L[i]? = some (chR c)) (k : Int → Int → Int → Int → Int → Int → Int → Int → Int → Int → Option ρ) : ((L[i]?).bind fun vs =>
    (uncons? vs).bind fun q1 => (AV.int? .i64 q1.fst).bind fun a1 => (uncons? q1.snd).bind fun q2 => (AV.int? .i64 q2.fst).bind fun a2 => (uncons? q2.snd).bind fun q3 => (AV.int? .i64 q3.fst).bind fun a3 =>
    (uncons? q3.snd).bind fun q4 => (AV.int? .i64 q4.fst).bind fun a4 => (uncons? q4.snd).bind fun q5 => (AV.int? .i64 q5.fst).bind fun a5 => (uncons? q5.snd).bind fun q6 => (AV.int? .i64 q6.fst).bind fun a6 =>
    (uncons? q6.snd).bind fun q7 => (AV.int? .i64 q7.fst).bind fun a7 => (uncons? q7.snd).bind fun q8 => (AV.int? .i64 q8.fst).bind fun a8 => (uncons? q8.snd).bind fun q9 => (AV.int? .i64 q9.fst).bind fun a9 =>
    (uncons? q9.snd).bind fun q10 => (AV.int? .u64 q10.fst).bind fun a10 => (nil? q10.snd).bind fun _ => k a1 a2 a3 a4 a5 a6 a7 a8 a9 a10) = k c.c1 c.c2 c.c3 c.c4 c.c5 c.c6 c.c7 c.c8 c.c9 c.c10 := by rw [h]; rfl
theorem goP {ρ : Type} {p : Prop} [Decidable p] (h : p) (k j : Option ρ) : (if p then k else j) = k := if_pos h
theorem tells8_in (w o c : Ch) (n0 n1 n2 n3 n4 n5 : Int) (b ok : Bool) (tick slot n i : Int) (L R : List (List AV)) (hR : ∀ r ∈ R, ∃ x y, r = [vi x, vi y] ∧ RI y) (hl : R.length ≤ 100) : ∀ (m k : Nat), R.length - k ≤ m → k ≤ R.length →
    E cx (.loop 8 [true, true, true, false, true, false, false, true, true, false, false, true, true, false]) [vbool b, vi k, vi tick, vi slot, vbool ok, .ptr 2 0 0 0, .ptr 3 0 0 0, .list 0 10 L, vi n, vi i, .list 0 2 R, vi R.length]
      [chB w, rowB n0 n1 n2 n3 n4 n5, chB o, chB c] = some (.jump (.exit 2) [vbool b, vi R.length], [chB w, rowB n0 n1 n2 n3 n4 n5, chB o, chB c])
  | m, k, hm, hk => by
    refine (f8_l0_l1 _ _ _ _ _ _ _ _ _ _ _ _ _ _ _ _ _ _ _ _ _ _ _ _ _ _ _ _ _ _ _ _ _ _ _ _ _ _ _ _ _ _ _ _ _ _).trans ?_
    by_cases h : k < R.length
    · refine (goD (show (k : Int) < (R.length : Int) by omega) _ _).trans ?_
      refine (goP (show (0 : Int) ≤ (k : Int) by omega) _ _).trans ?_
      obtain ⟨x, y, hr, hy⟩ := hR R[k] (List.getElem_mem h)
      refine (goR2 (a := x) (b := y) (by rw [← hr]; exact List.getElem?_eq_getElem h) _).trans ?_
      refine (go2 (e30 c y) _).trans ?_
      refine (go2 (e31 c y hy) _).trans ?_
      refine (go2 (e32 c y) _).trans ?_
      refine (go2 (e33 c y hy) _).trans ?_
      refine (go2 (e34 c x y) _).trans ?_
      refine (go2 (e35 c x y hy) _).trans ?_
      refine (go3 (e36 c x) _).trans ?_
      refine (go3 (e37 c x) _).trans ?_
      refine (goE rfl _ _).trans ?_
      refine (goE rfl _ _).trans ?_
      refine (goE rfl _ _).trans ?_
      refine (goE rfl _ _).trans ?_
      refine (goE rfl _ _).trans ?_
      refine (goE rfl _ _).trans ?_
      refine (goE rfl _ _).trans ?_
      refine (goE rfl _ _).trans ?_
      refine (goE rfl _ _).trans ?_
      have hw : IntKind.wrap IntKind.i64 (Int.add (k : Int) 1) = ((k + 1 : Nat) : Int) := wi64 rfl (by omega) (by omega)
      rw [hw]
      obtain ⟨m', rfl⟩ : ∃ m', m = m' + 1 := ⟨m - 1, by omega⟩
      exact tells8_in w o c n0 n1 n2 n3 n4 n5 b ok tick slot n i L R hR hl m' (k + 1) (by omega) (by omega)
    · refine (goDn (show ¬ (k : Int) < (R.length : Int) by omega) _ _).trans ?_
      rw [show k = R.length by omega]
theorem tells8_round (w o c : Ch) (hc : o.fit) (n0 n1 n2 n3 n4 n5 : Int) (b ok : Bool) (tick slot n : Int) (ht : RI tick) (hs : RI slot) (L : List (List AV)) (k : Nat) (hk : (k : Int) < n) (hk2 : k ≤ 100) (hL : L[k]? = some (chR c)) :
    E cx (.loop 8 [true, true, true, false, true, false]) [vbool b, vi k, vi tick, vi slot, vbool ok, .ptr 2 0 0 0, .list 0 10 L, vi n] [chB w, rowB n0 n1 n2 n3 n4 n5, chB o] =
      E cx (.loop 8 [true, true, true, false, true, false]) [vbool b, vi (k + 1 : Nat), vi tick, vi slot, vbool ok, .ptr 2 0 0 0, .list 0 10 L, vi n] [chB w, rowB n0 n1 n2 n3 n4 n5, chB o] := by
  refine (f8_l0 _ _ _ _ _ _ _ _ _ _ _ _ _ _ _ _ _ _ _ _ _ _ _ _ _ _ _ _ _ _ _ _ _).trans ?_
  refine (goD hk _ _).trans ?_
  refine (goP (show (0 : Int) ≤ (k : Int) by omega) _ _).trans ?_
  refine (goRC (c := c) hL _).trans ?_
  have g5 := hc.2.2.2.2.1
  refine (goI (e29 ht (by omega)) _).trans ?_
  refine (goI (e29 hs (by omega)) _).trans ?_
  refine (goI (e29 ht (by omega)) _).trans ?_
  refine (goI (e29 ht (by omega)) _).trans ?_
  refine (goN (show ¬ o.c5 = 0 by omega) _ _).trans ?_
  refine (goI (e29 hs (by omega)) _).trans ?_
  refine (goI (e29 ht (by omega)) _).trans ?_
  refine (goN (show ¬ o.c5 = 0 by omega) _ _).trans ?_
  refine (goI (e29 hs (by omega)) _).trans ?_
  have hin := tells8_in w o c n0 n1 n2 n3 n4 n5 b ok tick slot n (k : Int) L
    [[vi tick, vi slot], [vi (pk tick 200), vi (pk slot 30)], [vi (pk tick 1099511627777), vi (IntKind.wrap IntKind.i64 (Int.sub (IntKind.wrap IntKind.i64 (Int.add (IntKind.wrap IntKind.i64 (Int.tdiv (pk tick 1099511627777) o.c5)) (pk slot 20))) 12))],
      [vi (IntKind.wrap IntKind.i64 (Int.sub 1099511627776 (pk tick 200))), vi (IntKind.wrap IntKind.i64 (Int.add (IntKind.wrap IntKind.i64 (Int.sub (IntKind.wrap IntKind.i64 (Int.tdiv 1099511627776 o.c5)) (pk slot 12))) 4))]] (by
      intro r hr
      have p1 := pk_range (c := slot) (n := 30) (by omega)
      simp only [List.mem_cons, List.not_mem_nil, or_false] at hr
      rcases hr with rfl | rfl | rfl | rfl
      · exact ⟨_, _, rfl, hs⟩
      · exact ⟨_, _, rfl, by constructor <;> omega⟩
      · exact ⟨_, _, rfl, wr_RI _⟩
      · exact ⟨_, _, rfl, wr_RI _⟩) (by simp) 4 0 (by simp) (by simp)
  have hw : IntKind.wrap IntKind.i64 (Int.add (k : Int) 1) = ((k + 1 : Nat) : Int) := wi64 rfl (by omega) (by omega)
  rw [← hw]
  refine (congrArg (fun x => Option.bind x _) hin).trans ?_
  rfl
theorem law8 (avs : List AV) (h : ArgsFit cx.P [24, 25, 3, 3] avs) : E cx (.fn 8) avs [] = rb true := by
  obtain ⟨a, rs, rfl, h0, h⟩ := args_cons h
  obtain ⟨a, rs, rfl, h1, h⟩ := args_cons h
  obtain ⟨b, rs, rfl, h2, h⟩ := args_cons h
  obtain ⟨b, rs, rfl, h3, h⟩ := args_cons h
  obtain rfl := args_nil h
  obtain ⟨w, rfl⟩ := arg_chain h0
  obtain ⟨n0, n1, n2, n3, n4, n5, rfl, r0, r1, r2, r3, r4, r5⟩ := arg_row h1
  obtain ⟨x, rfl, rx⟩ := arg_int h2
  obtain ⟨y, rfl, ry⟩ := arg_int h3
  obtain ⟨c, hc, _, hE⟩ := chain_ex r0 r1 r2 r3 r4 r5 0
  refine (f8 _ _ _ _ _ _ _ _ _ _ _ _ _ _ _ _ _ _).trans ?_
  refine (goT e28 _ _).trans ?_
  refine (goC hE _).trans ?_
  have s0 := tells8_round w c w hc n0 n1 n2 n3 n4 n5 false true x y 2 rx ry [chR w, chR c] 0 (by omega) (by omega) rfl
  have s1 := tells8_round w c c hc n0 n1 n2 n3 n4 n5 false true x y 2 rx ry [chR w, chR c] 1 (by omega) (by omega) rfl
  have s2 : E cx (.loop 8 [true, true, true, false, true, false]) [vbool false, vi (2 : Nat), vi x, vi y, vbool true, .ptr 2 0 0 0, .list 0 10 [chR w, chR c], vi 2] [chB w, rowB n0 n1 n2 n3 n4 n5, chB c] =
      some (.jump (.exit 0) [vbool false, vi 2], [chB w, rowB n0 n1 n2 n3 n4 n5, chB c]) :=
    (f8_l0 _ _ _ _ _ _ _ _ _ _ _ _ _ _ _ _ _ _ _ _ _ _ _ _ _ _ _ _ _ _ _ _ _).trans (goDn (by simp) _ _)
  refine (congrArg (fun x => Option.bind x _) ((s0.trans s1).trans s2)).trans ?_
  rfl
end Go.Proofs.Av
