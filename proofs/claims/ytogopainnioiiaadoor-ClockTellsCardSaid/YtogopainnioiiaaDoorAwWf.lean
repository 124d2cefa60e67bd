/- The law of what the clock tells. -/
import Derived.Test.YtogopainnioiiaaDoorAwW
import Derived.Test.YtogopainnioiiaaDoorAwZf
import Derived.Test.YtogopainnioiiaaDoorAwBd
import Derived.Test.YtogopainnioiiaaDoorAwY3
namespace Go.Proofs.Av
open Go
theorem e25 (c : Ch) (p : Int) (hs : RI p) : E cx (.fn 25) [c.av, vi p] [] = pr (firstOf c p) := by
  refine (f25 _ _ _ _ _ _ _ _ _ _ _).trans ?_
  have hM : M = 1099511627776 := rfl
  by_cases h : c.fit
  · refine (goT ((e16 c).trans (by rw [fit_true h])) _ _).trans ?_
    have g5 := h.2.2.2.2.1
    have g2 := h.2.1
    by_cases h2 : 0 ≤ p
    · rw [show firstOf c p = _ from if_pos ⟨h, h2⟩]
      refine (goDn (show ¬ p < 0 by omega) _ _).trans ?_
      have m0 : 0 ≤ p * c.c2 := Int.mul_nonneg h2 (by omega)
      have m1 : p * 1 ≤ p * c.c2 := Int.mul_le_mul_of_nonneg_left g2.1 h2
      have m2 : p * c.c2 * 1 ≤ p * c.c2 * c.c5 := Int.mul_le_mul_of_nonneg_left g5.1 m0
      rw [Int.mul_one] at m1 m2
      by_cases h3 : p ≤ M
      · refine (goT ((e39 p).trans (by rw [in_true h2 h3])) _ _).trans ?_
        have m3 : p * c.c2 ≤ p * 32 := Int.mul_le_mul_of_nonneg_left g2.2 h2
        have hw : IntKind.wrap .i64 (Int.mul p c.c2) = p * c.c2 := wr_id (n := p * c.c2) (by omega) (by omega)
        rw [hw]
        refine (go2 (e21 c (p * c.c2) ⟨by omega, by omega⟩) _).trans ?_
        rw [show startOf c (p * c.c2) = _ from if_pos ⟨h, m0⟩]
        by_cases h4 : p * c.c2 * c.c5 ≤ M
        · rw [if_pos h4, if_pos h4]
          exact goE rfl _ _
        · rw [if_neg h4, if_neg h4]
          exact goEn (by simp) _ _
      · refine (goF ((e39 p).trans (by rw [in_false (fun x => h3 x.2)])) _ _).trans ?_
        rw [if_neg (by omega)]
        rfl
    · rw [show firstOf c p = _ from if_neg (fun x => h2 x.2)]
      exact goD (show p < 0 by omega) _ _
  · rw [show firstOf c p = _ from if_neg (fun x => h x.1)]
    exact goF ((e16 c).trans (by rw [fit_false h])) _ _
theorem e27 (c : Ch) (t b : Int) (hb : RI b) : E cx (.fn 27) [c.av, vi t, vi b] [] = pr (forwardOf c t b) := by
  refine (f27 _ _ _ _ _ _ _ _ _ _ _ _).trans ?_
  have hM : M = 1099511627776 := rfl
  by_cases h : c.fit
  · refine (goT ((e16 c).trans (by rw [fit_true h])) _ _).trans ?_
    by_cases h2 : 0 ≤ t ∧ t ≤ M
    · refine (goT ((e39 t).trans (by rw [in_true h2.1 h2.2])) _ _).trans ?_
      by_cases h3 : 0 ≤ b
      · rw [show forwardOf c t b = _ from if_pos ⟨h, h2.1, h2.2, h3⟩]
        refine (goDn (show ¬ b < 0 by omega) _ _).trans ?_
        by_cases h4 : b ≤ M
        · refine (goT ((e39 b).trans (by rw [in_true h3 h4])) _ _).trans ?_
          have hw : IntKind.wrap .i64 (Int.add t b) = t + b := wr_id (n := t + b) (by omega) (by omega)
          rw [hw]
          by_cases h5 : t + b ≤ M
          · rw [if_pos h5]
            exact goT ((e39 (t + b)).trans (by rw [in_true (by omega) h5])) _ _
          · rw [if_neg h5]
            exact goF ((e39 (t + b)).trans (by rw [in_false (fun x => h5 x.2)])) _ _
        · rw [if_neg (by omega)]
          exact goF ((e39 b).trans (by rw [in_false (fun x => h4 x.2)])) _ _
      · rw [show forwardOf c t b = _ from if_neg (fun x => h3 x.2.2.2)]
        exact goD (show b < 0 by omega) _ _
    · rw [show forwardOf c t b = _ from if_neg (fun x => h2 ⟨x.2.1, x.2.2.1⟩)]
      exact goF ((e39 t).trans (by rw [in_false h2])) _ _
  · rw [show forwardOf c t b = _ from if_neg (fun x => h x.1)]
    exact goF ((e16 c).trans (by rw [fit_false h])) _ _
theorem e14 (c : Ch) {wh x : Int} (hw : RI wh) : ∃ d : Ch, E cx (.fn 14) [c.av, vi wh, vi x] [] = some (Out.ret d.av, []) := by
  have h0 := (f14 c.c1 c.c2 c.c3 c.c4 c.c5 c.c6 c.c7 c.c8 c.c9 c.c10 wh x).trans (goI (e17 hw (by omega)) _)
  generalize pk wh 9 = n at h0
  by_cases h : n = 0
  · exact ⟨⟨x, c.c2, c.c3, c.c4, c.c5, c.c6, c.c7, c.c8, c.c9, c.c10⟩, h0.trans (goD h _ _)⟩
  replace h0 := h0.trans (goDn h _ _)
  by_cases h : n = 1
  · exact ⟨⟨c.c1, x, c.c3, c.c4, c.c5, c.c6, c.c7, c.c8, c.c9, c.c10⟩, h0.trans (goD h _ _)⟩
  replace h0 := h0.trans (goDn h _ _)
  by_cases h : n = 2
  · exact ⟨⟨c.c1, c.c2, x, c.c4, c.c5, c.c6, c.c7, c.c8, c.c9, c.c10⟩, h0.trans (goD h _ _)⟩
  replace h0 := h0.trans (goDn h _ _)
  by_cases h : n = 3
  · exact ⟨⟨c.c1, c.c2, c.c3, x, c.c5, c.c6, c.c7, c.c8, c.c9, c.c10⟩, h0.trans (goD h _ _)⟩
  replace h0 := h0.trans (goDn h _ _)
  by_cases h : n = 4
  · exact ⟨⟨c.c1, c.c2, c.c3, c.c4, x, c.c6, c.c7, c.c8, c.c9, c.c10⟩, h0.trans (goD h _ _)⟩
  replace h0 := h0.trans (goDn h _ _)
  by_cases h : n = 5
  · exact ⟨⟨c.c1, c.c2, c.c3, c.c4, c.c5, x, c.c7, c.c8, c.c9, c.c10⟩, h0.trans (goD h _ _)⟩
  replace h0 := h0.trans (goDn h _ _)
  by_cases h : n = 6
  · exact ⟨⟨c.c1, c.c2, c.c3, c.c4, c.c5, c.c6, x, c.c8, c.c9, c.c10⟩, h0.trans (goD h _ _)⟩
  replace h0 := h0.trans (goDn h _ _)
  by_cases h : n = 7
  · exact ⟨⟨c.c1, c.c2, c.c3, c.c4, c.c5, c.c6, c.c7, x, c.c9, c.c10⟩, h0.trans (goD h _ _)⟩
  replace h0 := h0.trans (goDn h _ _)
  by_cases h : n = 8
  · exact ⟨⟨c.c1, c.c2, c.c3, c.c4, c.c5, c.c6, c.c7, c.c8, x, c.c10⟩, h0.trans (goD h _ _)⟩
  replace h0 := h0.trans (goDn h _ _)
  exact ⟨c, h0⟩
abbrev chB (c : Ch) : Ob := Ob.mk OK.box 24 10 0 [[vi c.c1, vi c.c2, vi c.c3, vi c.c4, vi c.c5, vi c.c6, vi c.c7, vi c.c8, vi c.c9, vu c.c10]]
abbrev chR (c : Ch) : List AV := [vi c.c1, vi c.c2, vi c.c3, vi c.c4, vi c.c5, vi c.c6, vi c.c7, vi c.c8, vi c.c9, vu c.c10]
abbrev rowB (n0 n1 n2 n3 n4 n5 : Int) : Ob := Ob.mk OK.box 25 6 0 [[vi n0, vi n1, vi n2, vi n3, vi n4, vi n5]]
theorem goR1 {ρ : Type} {L : List (List AV)} {i : Nat} {a : Int} (h : L[i]? = some [vi a]) (k : Int → Option ρ) :
    ((L[i]?).bind fun cs => (uncons? cs).bind fun q => (AV.int? .i64 q.fst).bind fun a => (nil? q.snd).bind fun _ => k a) = k a := by rw [h]; rfl
theorem goRC {ρ : Type} {L : List (List AV)} {i : Nat} {c : Ch} (h : L[i]? = some (chR c)) (k : Int → Int → Int → Int → Int → Int → Int → Int → Int → Int → Option ρ) : ((L[i]?).bind fun vs =>
    (uncons? vs).bind fun q1 => (AV.int? .i64 q1.fst).bind fun a1 => (uncons? q1.snd).bind fun q2 => (AV.int? .i64 q2.fst).bind fun a2 => (uncons? q2.snd).bind fun q3 => (AV.int? .i64 q3.fst).bind fun a3 =>
    (uncons? q3.snd).bind fun q4 => (AV.int? .i64 q4.fst).bind fun a4 => (uncons? q4.snd).bind fun q5 => (AV.int? .i64 q5.fst).bind fun a5 => (uncons? q5.snd).bind fun q6 => (AV.int? .i64 q6.fst).bind fun a6 =>
    (uncons? q6.snd).bind fun q7 => (AV.int? .i64 q7.fst).bind fun a7 => (uncons? q7.snd).bind fun q8 => (AV.int? .i64 q8.fst).bind fun a8 => (uncons? q8.snd).bind fun q9 => (AV.int? .i64 q9.fst).bind fun a9 =>
    (uncons? q9.snd).bind fun q10 => (AV.int? .u64 q10.fst).bind fun a10 => (nil? q10.snd).bind fun _ => k a1 a2 a3 a4 a5 a6 a7 a8 a9 a10) = k c.c1 c.c2 c.c3 c.c4 c.c5 c.c6 c.c7 c.c8 c.c9 c.c10 := by rw [h]; rfl
theorem goP {ρ : Type} {p : Prop} [Decidable p] (h : p) (k j : Option ρ) : (if p then k else j) = k := if_pos h
theorem wi64' {n m : Int} (h : n = m) (h1 : -9223372036854775808 ≤ m) (h2 : m ≤ 9223372036854775807) : IntKind.wrap IntKind.i64 n = m := by rw [h]; exact wr_id h1 h2
theorem tells3_in (w o c : Ch) (n0 n1 n2 n3 n4 n5 : Int) (b ok : Bool) (x y n i : Int) (hy : RI y) (L R : List (List AV)) (hR : ∀ r ∈ R, ∃ z, r = [vi z] ∧ RI z) (hl : R.length ≤ 100) : ∀ (m k : Nat), R.length - k ≤ m → k ≤ R.length →
    E cx (.loop 3 [true, true, true, false, true, false, false, true, true, false, false, true, true, true, false]) [vbool b, vi k, vi x, vi y, vbool ok, .ptr 3 0 0 0, .list 0 10 L, vi n, vi i, .list 0 1 R, vi R.length]
      [chB w, rowB n0 n1 n2 n3 n4 n5, chB o, chB c] = some (.jump (.exit 2) [vbool b, vi R.length], [chB w, rowB n0 n1 n2 n3 n4 n5, chB o, chB c])
  | m, k, hm, hk => by
    refine (f3_l0_l1 _ _ _ _ _ _ _ _ _ _ _ _ _ _ _ _ _ _ _ _ _ _ _ _ _ _ _ _ _ _ _ _ _ _ _ _ _ _ _ _ _ _ _ _ _ _).trans ?_
    by_cases h : k < R.length
    · refine (goD (show (k : Int) < (R.length : Int) by omega) _ _).trans ?_
      refine (goP (show (0 : Int) ≤ (k : Int) by omega) _ _).trans ?_
      obtain ⟨z, hr, hz⟩ := hR R[k] (List.getElem_mem h)
      refine (goR1 (a := z) (by rw [← hr]; exact List.getElem?_eq_getElem h) _).trans ?_
      refine (go2 (e18 c z) _).trans ?_
      refine (go2 (e19 c z) _).trans ?_
      refine (go2 (e20 c z) _).trans ?_
      refine (go2 (e21 c z hz) _).trans ?_
      refine (go2 (e22 c z hz) _).trans ?_
      refine (go2 (e23 c z hz) _).trans ?_
      refine (go2 (e24 c z) _).trans ?_
      refine (go2 (e25 c z hz) _).trans ?_
      refine (go2 (e26 c z y) _).trans ?_
      refine (go2 (e27 c z y hy) _).trans ?_
      refine (goE rfl _ _).trans ?_
      refine (goE rfl _ _).trans ?_
      refine (goE rfl _ _).trans ?_
      refine (goE rfl _ _).trans ?_
      refine (goE rfl _ _).trans ?_
      refine (goE rfl _ _).trans ?_
      refine (goE rfl _ _).trans ?_
      refine (goE rfl _ _).trans ?_
      refine (goE rfl _ _).trans ?_
      refine (goE rfl _ _).trans ?_
      have hw : IntKind.wrap IntKind.i64 (Int.add (k : Int) 1) = ((k + 1 : Nat) : Int) := wi64' rfl (by omega) (by omega)
      rw [hw]
      obtain ⟨m', rfl⟩ : ∃ m', m = m' + 1 := ⟨m - 1, by omega⟩
      exact tells3_in w o c n0 n1 n2 n3 n4 n5 b ok x y n i hy L R hR hl m' (k + 1) (by omega) (by omega)
    · refine (goDn (show ¬ (k : Int) < (R.length : Int) by omega) _ _).trans ?_
      rw [show k = R.length by omega]
theorem tells3_round (w o c : Ch) (n0 n1 n2 n3 n4 n5 : Int) (b ok : Bool) (x y n : Int) (hx : RI x) (hy : RI y) (L : List (List AV)) (k : Nat) (hk : (k : Int) < n) (hk2 : k ≤ 100) (hL : L[k]? = some (chR c)) :
    E cx (.loop 3 [true, true, true, false, true, false]) [vbool b, vi k, vi x, vi y, vbool ok, .list 0 10 L, vi n] [chB w, rowB n0 n1 n2 n3 n4 n5, chB o] =
      E cx (.loop 3 [true, true, true, false, true, false]) [vbool b, vi (k + 1 : Nat), vi x, vi y, vbool ok, .list 0 10 L, vi n] [chB w, rowB n0 n1 n2 n3 n4 n5, chB o] := by
  refine (f3_l0 _ _ _ _ _ _ _ _ _ _ _ _ _ _ _ _ _ _ _ _ _ _ _ _ _ _ _ _ _ _ _ _ _).trans ?_
  refine (goD hk _ _).trans ?_
  refine (goP (show (0 : Int) ≤ (k : Int) by omega) _ _).trans ?_
  refine (goRC (c := c) hL _).trans ?_
  have p1 := pk_range (c := x) (n := 40) (by omega)
  have p2 := pk_range (c := x) (n := 1000) (by omega)
  have w1 : IntKind.wrap IntKind.i64 (Int.add 1 (pk x 40)) = 1 + pk x 40 := wi64' rfl (by omega) (by omega)
  have hin := tells3_in w o c n0 n1 n2 n3 n4 n5 b ok x y n (k : Int) hy L
    [[vi x], [vi y], [vi (pk x 1000)], [vi (IntKind.wrap IntKind.i64 (Int.sub (IntKind.wrap IntKind.i64 (Int.add 1099511627776 (pk y 9))) 4))],
      [vi (IntKind.wrap IntKind.i64 (Int.sub (IntKind.wrap IntKind.i64 (Int.add (IntKind.wrap IntKind.i64 (Int.tdiv 1099511627776 (IntKind.wrap IntKind.i64 (Int.add 1 (pk x 40))))) (pk y 5))) 2))]] (by
      intro r hr
      simp only [List.mem_cons, List.not_mem_nil, or_false] at hr
      rcases hr with rfl | rfl | rfl | rfl | rfl
      · exact ⟨_, rfl, hx⟩
      · exact ⟨_, rfl, hy⟩
      · exact ⟨_, rfl, by constructor <;> omega⟩
      · exact ⟨_, rfl, wr_RI _⟩
      · exact ⟨_, rfl, wr_RI _⟩) (by simp) 5 0 (by simp) (by simp)
  have hw : IntKind.wrap IntKind.i64 (Int.add (k : Int) 1) = ((k + 1 : Nat) : Int) := wi64' rfl (by omega) (by omega)
  rw [← hw]
  by_cases h : c.fit
  · refine (goT ((e15 c).trans (by rw [fit_true h])) _ _).trans ?_
    refine (goT ((e16 c).trans (by rw [fit_true h])) _ _).trans ?_
    refine (goI (e17 hx (by omega)) _).trans ?_
    refine (goI (e17 hy (by omega)) _).trans ?_
    refine (goI (e17 hx (by omega)) _).trans ?_
    refine (goN (show ¬ IntKind.wrap IntKind.i64 (Int.add 1 (pk x 40)) = 0 by rw [w1]; omega) _ _).trans ?_
    refine (goI (e17 hy (by omega)) _).trans ?_
    refine (congrArg (fun x => Option.bind x _) hin).trans ?_
    rfl
  · refine (goF ((e15 c).trans (by rw [fit_false h])) _ _).trans ?_
    refine (goF ((e16 c).trans (by rw [fit_false h])) _ _).trans ?_
    refine (goI (e17 hx (by omega)) _).trans ?_
    refine (goI (e17 hy (by omega)) _).trans ?_
    refine (goI (e17 hx (by omega)) _).trans ?_
    refine (goN (show ¬ IntKind.wrap IntKind.i64 (Int.add 1 (pk x 40)) = 0 by rw [w1]; omega) _ _).trans ?_
    refine (goI (e17 hy (by omega)) _).trans ?_
    refine (congrArg (fun x => Option.bind x _) hin).trans ?_
    rfl
theorem law3 (avs : List AV) (h : ArgsFit cx.P [24, 25, 3, 3, 3, 3] avs) : E cx (.fn 3) avs [] = rb true := by
  obtain ⟨a, rs, rfl, h0, h⟩ := args_cons h
  obtain ⟨a, rs, rfl, h1, h⟩ := args_cons h
  obtain ⟨b, rs, rfl, h2, h⟩ := args_cons h
  obtain ⟨b, rs, rfl, h3, h⟩ := args_cons h
  obtain ⟨b, rs, rfl, h4, h⟩ := args_cons h
  obtain ⟨b, rs, rfl, h5, h⟩ := args_cons h
  obtain rfl := args_nil h
  obtain ⟨w, rfl⟩ := arg_chain h0
  obtain ⟨n0, n1, n2, n3, n4, n5, rfl, r0, r1, r2, r3, r4, r5⟩ := arg_row h1
  obtain ⟨u, rfl, ru⟩ := arg_int h2
  obtain ⟨v, rfl, rv⟩ := arg_int h3
  obtain ⟨x, rfl, rx⟩ := arg_int h4
  obtain ⟨y, rfl, ry⟩ := arg_int h5
  obtain ⟨c, hc, _, hE⟩ := chain_ex r0 r1 r2 r3 r4 r5 0
  obtain ⟨d, hd⟩ := e14 c (x := v) ru
  refine (f3 _ _ _ _ _ _ _ _ _ _ _ _ _ _ _ _ _ _ _ _).trans ?_
  refine (goT e12 _ _).trans ?_
  refine (goC hE _).trans ?_
  refine (goC hd _).trans ?_
  have s0 := tells3_round w c w n0 n1 n2 n3 n4 n5 false true x y 3 rx ry [chR w, chR c, chR d] 0 (by omega) (by omega) rfl
  have s1 := tells3_round w c c n0 n1 n2 n3 n4 n5 false true x y 3 rx ry [chR w, chR c, chR d] 1 (by omega) (by omega) rfl
  have s2 := tells3_round w c d n0 n1 n2 n3 n4 n5 false true x y 3 rx ry [chR w, chR c, chR d] 2 (by omega) (by omega) rfl
  have s3 : E cx (.loop 3 [true, true, true, false, true, false]) [vbool false, vi (3 : Nat), vi x, vi y, vbool true, .list 0 10 [chR w, chR c, chR d], vi 3] [chB w, rowB n0 n1 n2 n3 n4 n5, chB c] =
      some (.jump (.exit 0) [vbool false, vi 3], [chB w, rowB n0 n1 n2 n3 n4 n5, chB c]) :=
    (f3_l0 _ _ _ _ _ _ _ _ _ _ _ _ _ _ _ _ _ _ _ _ _ _ _ _ _ _ _ _ _ _ _ _ _).trans (goDn (by simp) _ _)
  refine (congrArg (fun x => Option.bind x _) (((s0.trans s1).trans s2).trans s3)).trans ?_
  rfl
end Go.Proofs.Av
