/- The order of pairs by itself, ahead of what sorts: what is told of slices.SortFunc is so. -/
import Derived.Test.YtoepfmodbhfckaaAeLay
import Derived.Test.YtoepfmodbhfckaaAgM
import Derived.Test.YtoepfmodbhfckaaAeS2
import Derived.Test.YtoepfmodbhfckaaAzV
import Derived.Shelf.SortG.Plain
import Derived.Shelf.SortG.SortNone
set_option maxRecDepth 100000
namespace Go.Proofs.Av
open Go Go.Sort Go.Shelf
noncomputable def cxp : Cx := { P := Try.prog, G := fun _ => none, ann := findA annT, nils := nilF, eqOk := eqT, boxes := boxT, xheap := xhT, xvals := xvT, eq_ok := eqT_ok }
theorem fp165 : ∀ (x1443 : Int),
 E cxp (Key.fn 165) [vu x1443] [] =
 bif x1443 != x1443 then some (Out.ret (vbool true), []) else some (Out.ret (vbool false), []) := by
 intros
 exact (E_in [188] _ _ _).trans (by kernel_rfl)
theorem fp148 : ∀ (x1419 y1420 : Int),
 E cxp (Key.fn 148) [vu x1419, vu y1420] [] =
 Option.bind (E cxp (Key.fn 165) [vu x1419] []) fun r1421 ↦
 Option.bind (ret1 r1421) fun v1422 ↦
 Option.bind (AV.bool? v1422) fun b1423 ↦
 bif b1423 then
 Option.bind (E cxp (Key.fn 165) [vu y1420] []) fun r1424 ↦
 Option.bind (ret1 r1424) fun v1425 ↦
 Option.bind (AV.bool? v1425) fun b1426 ↦
 bif b1426 then some (Out.ret (vi 0), []) else some (Out.ret (vi (-1)), [])
 else
 Option.bind (E cxp (Key.fn 165) [vu y1420] []) fun r1427 ↦
 Option.bind (ret1 r1427) fun v1428 ↦
 Option.bind (AV.bool? v1428) fun b1429 ↦
 bif b1429 then some (Out.ret (vi 1), [])
 else
 bif decide (x1419 < y1420) then some (Out.ret (vi (-1)), [])
 else
 bif decide (x1419 > y1420) then some (Out.ret (vi 1), [])
 else some (Out.ret (vi 0), []) := by
 intros
 exact (E_in [188] _ _ _).trans (by kernel_rfl)
theorem fp147_l0 : ∀ (x1410 x1411 x1412 : Int) (l1413 : List (List AV)) (x1414 : Int),
 E cxp (Key.loop 147 [true, true, false, true, false])
 [vi x1410, vi x1411, vi x1412, AV.list 0 1 l1413, vi x1414] [] =
 bif decide (x1411 < x1414) then
 if 0 ≤ x1411 then
 Option.bind l1413[Int.toNat x1411]? fun cs1415 ↦
 Option.bind (uncons? cs1415) fun p1416 ↦
 Option.bind (AV.int? IntKind.i64 p1416.fst) fun n1417 ↦
 Option.bind (nil? p1416.snd) fun _ ↦
 bif n1417 != x1412 then some (Out.jump JX.ret [vi n1417, vi x1411], [])
 else
 E cxp (Key.loop 147 [true, true, false, true, false])
 [vi x1410, vi (IntKind.wrap IntKind.i64 (Int.add x1411 1)), vi x1412,
 AV.list 0 1 l1413, vi x1414]
 []
 else none
 else some (Out.jump (JX.exit 0) [vi x1410, vi x1411], []) := by
 intros
 exact (E_in [188] _ _ _).trans (by kernel_rfl)
theorem fp147 : ∀ (vals1395 : List (List AV)),
 E cxp (Key.fn 147) [AV.list 0 1 vals1395] [] =
 Option.bind
 (E cxp (Key.loop 147 [true, true, false, true, false])
 [vi 0, vi 0, vi 0, AV.list 0 1 vals1395, vi ((List.length vals1395) : Int)] [])
 fun r1396 ↦
 Option.bind (asJump r1396) fun j1397 ↦
 bif JX.is j1397.fst (JX.exit 0) then
 Option.bind (uncons? j1397.snd.fst) fun p1398 ↦
 Option.bind (AV.int? IntKind.i64 p1398.fst) fun _ ↦
 Option.bind (uncons? p1398.snd) fun p1400 ↦
 Option.bind (AV.int? IntKind.i64 p1400.fst) fun _ ↦
 Option.bind (nil? p1400.snd) fun _ ↦
 Option.bind (nil? j1397.snd.snd) fun _ ↦ some (Out.ret (vi 0), [])
 else
 bif JX.is j1397.fst JX.ret then
 Option.bind (uncons? j1397.snd.fst) fun p1404 ↦
 Option.bind (AV.int? IntKind.i64 p1404.fst) fun n1405 ↦
 Option.bind (uncons? p1404.snd) fun p1406 ↦
 Option.bind (AV.int? IntKind.i64 p1406.fst) fun _ ↦
 Option.bind (nil? p1406.snd) fun _ ↦
 Option.bind (nil? j1397.snd.snd) fun _ ↦ some (Out.ret (vi n1405), [])
 else none := by
 intros
 exact (E_in [188] _ _ _).trans (by kernel_rfl)
theorem fp109 : ∀ (a1240 a1241 b1242 b1243 : Int),
 E cxp (Key.fn 109)
 [AV.agg [vu a1240, vu a1241], AV.agg [vu b1242, vu b1243]] [] =
 bif decide (a1240 = b1242) && (decide (a1241 = b1243) && true) then some (Out.ret (vi 0), [])
 else
 Option.bind (E cxp (Key.fn 148) [vu a1240, vu b1242] []) fun r1244 ↦
 Option.bind (ret1 r1244) fun v1245 ↦
 Option.bind (AV.int? IntKind.i64 v1245) fun n1246 ↦
 Option.bind (E cxp (Key.fn 148) [vu a1241, vu b1243] []) fun r1247 ↦
 Option.bind (ret1 r1247) fun v1248 ↦
 Option.bind (AV.int? IntKind.i64 v1248) fun n1249 ↦
 Option.bind
 (E cxp (Key.fn 147) [AV.list 0 1 [[vi n1246], [vi n1249]]] [])
 fun r1250 ↦
 Option.bind (ret1 r1250) fun v1251 ↦
 Option.bind (AV.int? IntKind.i64 v1251) fun n1252 ↦ some (Out.ret (vi n1252), []) := by
 intros
 exact (E_in [188] _ _ _).trans (by kernel_rfl)
theorem cp165 (x : Int) : E cxp (Key.fn 165) [vu x] [] = rb false := (fp165 x).trans (goE rfl _ _)
theorem cp148 (x y : Int) : E cxp (Key.fn 148) [vu x, vu y] [] = some (Out.ret (vi (cmpI x y)), []) := by
 refine (fp148 x y).trans ((goF (cp165 x) _ _).trans ((goF (cp165 y) _ _).trans ?_))
 unfold cmpI
 by_cases h1 : x < y
 ·rw [if_pos h1]; exact goD h1 _ _
 ·rw [if_neg h1]
  refine (goDn h1 _ _).trans ?_
  by_cases h2 : x > y
  ·rw [if_pos h2]; exact goD h2 _ _
  ·rw [if_neg h2]; exact goDn h2 _ _
theorem cp147 (a b : Int) : E cxp (Key.fn 147) [.list 0 1 [[vi a], [vi b]]] [] = some (Out.ret (vi (if a = 0 then b else a)), []) := by
 refine (fp147 _).trans ?_
 have e2 : E cxp (Key.loop 147 [true, true, false, true, false]) [vi 0, vi (IntKind.wrap .i64 (Int.add (IntKind.wrap .i64 (Int.add 0 1)) 1)), vi 0, .list 0 1 [[vi a], [vi b]], vi 2] [] = some (Out.jump (.exit 0) [vi 0, vi 2], []) :=
  (fp147_l0 _ _ _ _ _).trans (goDn (by decide) _ _)
 have e1 : E cxp (Key.loop 147 [true, true, false, true, false]) [vi 0, vi (IntKind.wrap .i64 (Int.add 0 1)), vi 0, .list 0 1 [[vi a], [vi b]], vi 2] [] = if b = 0 then some (Out.jump (.exit 0) [vi 0, vi 2], []) else some (Out.jump .ret [vi b, vi 1], []) := by
  refine (fp147_l0 _ _ _ _ _).trans ((goD (by decide) _ _).trans ((goY (by decide) _ _).trans ?_))
  by_cases hb : b = 0
  ·subst hb
   rw [if_pos rfl]
   exact e2
  ·rw [if_neg hb]
   exact goEn (a := b) (b := 0) hb _ _
 have e0 : E cxp (Key.loop 147 [true, true, false, true, false]) [vi 0, vi 0, vi 0, .list 0 1 [[vi a], [vi b]], vi 2] [] = if a = 0 then (if b = 0 then some (Out.jump (.exit 0) [vi 0, vi 2], []) else some (Out.jump .ret [vi b, vi 1], [])) else some (Out.jump .ret [vi a, vi 0], []) := by
  refine (fp147_l0 _ _ _ _ _).trans ((goD (by decide) _ _).trans ((goY (by decide) _ _).trans ?_))
  by_cases ha : a = 0
  ·subst ha
   rw [if_pos rfl]
   exact e1
  ·rw [if_neg ha]
   exact goEn (a := a) (b := 0) ha _ _
 show (Option.bind (E cxp (Key.loop 147 [true, true, false, true, false]) [vi 0, vi 0, vi 0, .list 0 1 [[vi a], [vi b]], vi 2] []) _) = _
 rw [e0]
 by_cases ha : a = 0
 ·rw [if_pos ha, if_pos ha]
  by_cases hb : b = 0
  ·rw [if_pos hb, hb]; rfl
  ·rw [if_neg hb]; rfl
 ·rw [if_neg ha, if_neg ha]; rfl
theorem cp109 (p q : P2) : E cxp (Key.fn 109) [.agg [vu p.1, vu p.2], .agg [vu q.1, vu q.2]] [] = some (Out.ret (vi (ordI p q)), []) := by
 refine (fp109 _ _ _ _).trans ?_
 obtain ⟨a, b⟩ := p
 obtain ⟨c, d⟩ := q
 simp only
 by_cases h : a = c ∧ b = d
 ·obtain ⟨rfl, rfl⟩ := h
  simp [ordI]
 ·have h1 : (decide ((a : Int) = (c : Int)) && (decide ((b : Int) = (d : Int)) && true)) = false := by
   simp
   omega
  rw [h1]
  refine (goI (cp148 _ _) _).trans ((goI (cp148 _ _) _).trans ((goI (cp147 _ _) _).trans ?_))
  have h2 : (if cmpI (a : Int) (c : Int) = 0 then cmpI (b : Int) (d : Int) else cmpI (a : Int) (c : Int)) = ordI (a, b) (c, d) := by
   have e : ∀ x y : Nat, cmpI (x : Int) (y : Int) = if x < y then -1 else if y < x then 1 else 0 := fun x y => by
    unfold cmpI
    simp only [Int.ofNat_lt, gt_iff_lt]
   rw [e, e]
   unfold ordI ltP
   rcases Nat.lt_trichotomy a c with h1 | h1 | h1 <;> rcases Nat.lt_trichotomy b d with h3 | h3 | h3 <;>
    simp [h1, h3, Nat.lt_asymm, Nat.ne_of_lt, Nat.ne_of_gt] <;> omega
  rw [h2]
theorem cxp_ext : ExtSound cxp := ⟨fun f e h => (by cases h), fun f G h => (by cases h)⟩
theorem cxp_names : NamesOk cxp.P := cx_names
def encV (p : Nat × Nat) : List Value := [.int .u64 (p.1 : Int), .int .u64 (p.2 : Int)]
theorem rep_pair {S : Nat → Prop} {w : World} {μ : Mu} (p : Nat × Nat) : Rep S w μ (.agg [vu p.1, vu p.2]) (.agg (encV p).toArray) := by
 refine .agg _ rfl fun j v u hv hu => ?_
 match j, hv, hu with
 | 0, hv, hu => cases hv; cases hu; exact .val _
 | 1, hv, hu => cases hv; cases hu; exact .val _
theorem grown_world {S S' : Nat → Prop} {w w' : World} (h : Grown cxp S w S' w') : ∃ q os', w' = grow (w.drewN q) os' := by
 refine ⟨w'.drawn - w.drawn, w'.heap.extract w.heap.size w'.heap.size, ?_⟩
 have h1 : w'.heap = w.heap ++ w'.heap.extract w.heap.size w'.heap.size := by
  apply Array.ext_getElem?
  intro b
  by_cases hb : b < w.heap.size
  ·rw [Array.getElem?_append_left hb]
   exact h.ext b hb
  ·rw [Array.getElem?_append_right (by omega), Array.getElem?_extract]
   by_cases hb2 : b < w'.heap.size
   ·rw [if_pos (by omega)]
    congr 1
    omega
   ·rw [Array.getElem?_eq_none (by omega), if_neg (by omega)]
 obtain ⟨heap, tape, drawn, os, output⟩ := w
 obtain ⟨heap', tape', drawn', os', output'⟩ := w'
 have h2 := h.os
 have h3 := h.tape
 have h4 := h.output.out
 have h5 := h.output.drawn (fun _ => rfl)
 simp only at h1 h2 h3 h4 h5
 subst h2 h3 h4
 unfold grow World.drewN
 simp only
 rw [← h1]
 congr 1
 omega
theorem lays_order (blk off size : Nat) (w : World) : CmpLays Try.prog 109 #[] encV 2 ordI blk off size w := by
 intro m os dk _ x y
 have h := (E_sound cxp_names cxp_ext 109 [.agg [vu x.1, vu x.2], .agg [vu y.1, vu y.2]] (vi (ordI x y)) (cp109 x y)).2 (fun _ => False) (sortWorldK encV 2 w blk off m dk os) [.agg (encV x).toArray, .agg (encV y).toArray] (fun b hb => hb.elim) (fun g cs hg => by cases hg) (.cons (rep_pair x) (.cons (rep_pair y) .nil))
 rw [Array.append_empty]
 refine h.mono fun e w' ⟨cv, S', g1, g2, g3⟩ => ?_
 rw [g2.inv_val] at g1
 exact ⟨g1, grown_world g3⟩
theorem ltOf_ord (x y : Nat × Nat) : ltOf ordI x y = ltP x y := by
 unfold ltOf
 have := ordI_neg x y
 cases h : ltP x y with
 | true => exact decide_eq_true (this.2 h)
 | false => exact decide_eq_false fun hh => by rw [this.1 hh] at h; cases h
theorem ltP_iff (x y : Nat × Nat) : ltP x y = true ↔ x.1 < y.1 ∨ x.1 = y.1 ∧ x.2 < y.2 := by
 unfold ltP
 simp
theorem swoP : SWO (ltOf ordI) where
 irrefl x := by
  rw [ltOf_ord]
  cases h : ltP x x with
  | false => rfl
  | true => have := (ltP_iff x x).1 h; omega
 trans x y z h1 h2 := by
  rw [ltOf_ord, ltP_iff] at *
  omega
 ntrans x y z h1 h2 := by
  rw [ltOf_ord] at *
  cases h : ltP x z with
  | false => rfl
  | true =>
   have a := (ltP_iff x z).1 h
   have b : ¬ (x.1 < y.1 ∨ x.1 = y.1 ∧ x.2 < y.2) := fun hh => by rw [(ltP_iff x y).2 hh] at h1; cases h1
   have c : ¬ (y.1 < z.1 ∨ y.1 = z.1 ∧ y.2 < z.2) := fun hh => by rw [(ltP_iff y z).2 hh] at h2; cases h2
   omega
theorem totP (x y : Nat × Nat) (h1 : ltOf ordI x y = false) (h2 : ltOf ordI y x = false) : x = y := by
 rw [ltOf_ord] at h1 h2
 have b : ¬ (x.1 < y.1 ∨ x.1 = y.1 ∧ x.2 < y.2) := fun hh => by rw [(ltP_iff x y).2 hh] at h1; cases h1
 have c : ¬ (y.1 < x.1 ∨ y.1 = x.1 ∧ y.2 < x.2) := fun hh => by rw [(ltP_iff y x).2 hh] at h2; cases h2
 exact Prod.ext (by omega) (by omega)
theorem decP_eq (e : List AV) (x : Nat × Nat) (h : decP e = some x) : e = encP x := by
 unfold decP at h
 split at h
 ·cases h
  rfl
 ·cases h
theorem fact113 : Fact cx 113 := ⟨Try.f113, Try.func113, by kernel_rfl, by kernel_rfl⟩
theorem leP_ord : (fun x y => !(ltOf ordI) y x) = leP := by
 funext x y
 rw [ltOf_ord]
 rfl
theorem fact124 : Fact cx 124 := ⟨Try.f124, Try.func124, by kernel_rfl, by kernel_rfl⟩
theorem fact119 : Fact cx 119 := ⟨Try.f119, Try.func119, by kernel_rfl, by kernel_rfl⟩
theorem fact131 : Fact cx 131 := ⟨Try.f131, Try.func131, by kernel_rfl, by kernel_rfl⟩
theorem decN_eq (e : List AV) (x : Int) (h : decN e = some x) : e = encN x := by
 unfold decN at h
 split at h
 ·cases h
  rfl
 ·cases h
theorem cx_ext : ExtSound cx := by
 refine ⟨fun f e h => ?_, fun f G h => ?_⟩
 ·have h' : (match Nat.beq f 113 with | true => some (ExtF.turn 34 sortP) | false => match Nat.beq f 124 with | true => some (ExtF.turn 23 sortN) | false => match Nat.beq f 119 with | true => some (ExtF.clone 23) | false => none) = some e := h
  cases hf : Nat.beq f 113 with
  | true =>
   rw [hf] at h'
   cases h'
   have := Nat.eq_of_beq_eq_true hf
   subst this
   exact turn_ok (cx := cx) (f := 113) fact113 (t := 34) (some 109) (dec := decP) (enc := encP) (encV := encV) (le := leP) (k := 2) (by decide)
    (fun q h => by
     have e : (sliceInfo cx 34).map (fun q => q.2.1) = some 2 := by kernel_rfl
     rw [h] at e
     exact Option.some.inj e) decP_eq (fun x => rfl) (fun x => rfl)
    (fun p cap w => AnyF.slices_SortFunc_none sort113 p cap (.func (.func 109) #[] #[]) w)
    (fun blk off cap d w hH hblk hsz => by
     have h := AnyQ.slices_SortFunc_total sort113 2 Try.isAgg80 Try.sizeOf80 encV (fun _ => rfl) (fun x v hv => by simp [encV] at hv; rcases hv with rfl | rfl <;> rfl) ordI swoP 109 #[] blk off cap d w
      (enters_of Try.func109 (by kernel_rfl) rfl) (lays_order blk off d.size w) hH hblk hsz totP
     rw [leP_ord] at h
     exact h)
  | false =>
   rw [hf] at h'
   cases hf2 : Nat.beq f 124 with
   | true =>
    rw [hf2] at h'
    cases h'
    have := Nat.eq_of_beq_eq_true hf2
    subst this
    exact turn_ok (cx := cx) (f := 124) fact124 (t := 23) none (dec := decN) (enc := encN) (encV := encVN) (le := leN) (k := 1) (by decide)
     (fun q h => by
      have e : (sliceInfo cx 23).map (fun q => q.2.1) = some 1 := by kernel_rfl
      rw [h] at e
      exact Option.some.inj e) decN_eq (fun x => rfl) (fun x => rfl)
     (fun p cap w => AnyG.slices_Sort_int_none sort124 p cap w)
     (fun blk off cap d w hH hblk hsz => by
      have h := AnyG.slices_Sort_int sort124 blk off cap d.toList w (holds1 hH) hblk hsz
      refine h.mono fun e w' ⟨g1, n, os, g2⟩ => ⟨g1, n, os, ?_⟩
      rw [g2]
      unfold sortWorldK
      rw [putRow1]
      rfl)
   | false =>
    rw [hf2] at h'
    cases hf3 : Nat.beq f 119 with
    | true =>
     rw [hf3] at h'
     cases h'
     have := Nat.eq_of_beq_eq_true hf3
     subst this
     exact ext_clone fact119 Try.underlying23 clone_runs
    | false =>
     rw [hf3] at h'
     cases h'
 ·have h' : (match Nat.beq f 131 with | true => some ofG | false => none) = some G := h
  cases hf : Nat.beq f 131 with
  | true =>
   rw [hf] at h'
   cases h'
   have := Nat.eq_of_beq_eq_true hf
   subst this
   exact fun args v hv => ⟨fact131, fun S w vals hS _ hr => of_calls rfl (fun h => by cases h) args v hv S w vals hS hr⟩
  | false =>
   rw [hf] at h'
   cases h'
end Go.Proofs.Av
