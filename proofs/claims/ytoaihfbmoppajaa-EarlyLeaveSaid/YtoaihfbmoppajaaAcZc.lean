/- Put: the program's and the document's. -/
import Derived.Test.YtoaihfbmoppajaaAcZb
namespace Go.Proofs.Av
open Go
def twice (q : List W) (w : W) : Bool := match q[cnt (fLt w) q]? with
  | some v => !decide (lt w v)
  | none => false
def ins (q : List W) (w : W) : List W := q.take (cnt (fLt w) q) ++ w :: q.drop (cnt (fLt w) q)
def putF (q : List W) (room : Int) (w : W) : List W × Int :=
  bif right q && may w then (bif twice q w then ([], 7) else bif decide ((q.length : Int) ≥ room) then ([], 5) else (ins q w, 0)) else ([], 1)
theorem ysOk_rows (q : List W) : ysOk (rows q) = true := by
  unfold ysOk rows
  rw [List.all_eq_true]
  intro e he
  obtain ⟨w, _, rfl⟩ := List.mem_map.1 he
  rfl
theorem take_rows (n : Nat) (q : List W) : List.take n (rows q) = rows (q.take n) := List.map_take.symm
theorem drop_rows (n : Nat) (q : List W) : List.drop n (rows q) = rows (q.drop n) := List.map_drop.symm
abbrev zrow : List AV := [vi 0, vi 0, vi 0, vs (ByteArray.mk (Array.mk []))]
theorem putA {R : List (List AV)} {m n : Nat} (hm : m ≤ R.length) (hn : n = R.length + 1) : ([] : List (List AV)) ++ List.take (Nat.min (List.length (List.drop 0 (List.take m R))) n) (List.drop 0 (List.take m R)) ++
    List.drop (Nat.add 0 (Nat.min (List.length (List.drop 0 (List.take m R))) n)) (List.replicate n zrow) = R.take m ++ List.replicate (n - m) zrow := by
  have h1 : Nat.min (List.length (List.drop 0 (List.take m R))) n = m := by
    show min _ _ = _
    simp only [List.drop_zero, List.length_take]
    omega
  rw [h1, show Nat.add 0 m = m from Nat.zero_add m]
  simp [List.take_take]
theorem putB {R : List (List AV)} {m n : Nat} {w : List AV} (hm : m ≤ R.length) (hn : n = R.length + 1) : (R.take m ++ List.replicate (n - m) zrow).set (Nat.add 0 m) w = R.take m ++ w :: List.replicate (n - m - 1) zrow := by
  have hl : (R.take m).length = m := by simp; omega
  rw [show Nat.add 0 m = m from Nat.zero_add m, List.set_append, if_neg (by omega), hl, Nat.sub_self]
  obtain ⟨k, hk⟩ : ∃ k, n - m = k + 1 := ⟨n - m - 1, by omega⟩
  rw [hk, List.replicate_succ]
  simp
theorem putC {R : List (List AV)} {m n : Nat} {w : List AV} (hm : m ≤ R.length) (hn : n = R.length + 1) :
    List.take (Nat.add 0 (m + 1)) (R.take m ++ w :: List.replicate (n - m - 1) zrow) ++ List.take (Nat.min (List.length (List.drop m (List.take R.length R))) (Nat.sub n (m + 1))) (List.drop m (List.take R.length R)) ++
      List.drop (Nat.add (Nat.add 0 (m + 1)) (Nat.min (List.length (List.drop m (List.take R.length R))) (Nat.sub n (m + 1)))) (R.take m ++ w :: List.replicate (n - m - 1) zrow) = R.take m ++ w :: R.drop m := by
  have hl : (R.take m).length = m := by simp; omega
  have h1 : Nat.min (List.length (List.drop m (List.take R.length R))) (Nat.sub n (m + 1)) = R.length - m := by
    show min _ (n - (m + 1)) = _
    simp
    omega
  rw [h1, show Nat.add 0 (m + 1) = m + 1 from Nat.zero_add _, show Nat.add (m + 1) (R.length - m) = n from by show m + 1 + (R.length - m) = n; omega]
  have hd : List.drop n (R.take m ++ w :: List.replicate (n - m - 1) zrow) = [] := List.drop_eq_nil_of_le (by simp; omega)
  rw [hd, List.take_length, List.append_nil]
  rw [show List.take (R.length - m) (List.drop m R) = List.drop m R from List.take_of_length_le (by simp)]
  rw [List.take_append, hl, List.take_of_length_le (by omega), show m + 1 - m = 1 by omega]
  simp
theorem goM {ρ : Type} {p : Prop} [Decidable p] {k j : Option ρ} (h : p → k = j) : (bif decide p then k else j) = j := by
  by_cases hp : p
  · rw [decide_eq_true hp]; exact h hp
  · rw [decide_eq_false hp]; rfl
theorem goZ {ρ : Type} {o : Option (List AV)} (h : o = some zrow) (k : Option ρ) : (o.bind fun cs => (uncons? cs).bind fun p1 => (AV.int? .i64 p1.fst).bind fun _ =>
    (uncons? p1.snd).bind fun p2 => (AV.int? .i64 p2.fst).bind fun _ => (uncons? p2.snd).bind fun p3 => (AV.int? .i64 p3.fst).bind fun _ => (uncons? p3.snd).bind fun p4 => (AV.str? p4.fst).bind fun _ => (nil? p4.snd).bind fun _ => k) = k := by rw [h]; rfl
theorem retNil {x : Option (Out × Heap)} {e : Int} (h : x = some (Out.ret (.tuple [.val (.slice none 0 0), vi e]), [])) : RetLI x (rows []) e := ⟨_, h, rfl⟩
theorem e29 (q : List W) (room : Int) (w : W) (hB : q.length ≤ 1000) : RetLI (E cx (.fn 29) [lq q, vi room, w.av] []) (rows (putF q room w).1) (putF q room w).2 := by
  have hR : (rows q).length = q.length := by simp
  cases hr : right q with
  | false =>
    rw [show putF q room w = ([], 1) by simp [putF, hr]]
    exact retNil ((f29 _ _ _ _ _ _).trans (goF (by rw [← hr]; exact e36 q (by omega)) _ _))
  | true =>
    cases hm : may w with
    | false =>
      rw [show putF q room w = ([], 1) by simp [putF, hm]]
      exact retNil ((f29 _ _ _ _ _ _).trans ((goT (by rw [← hr]; exact e36 q (by omega)) _ _).trans (goF (by rw [← hm]; exact e43 w) _ _)))
    | true =>
      have hc := cnt_le (fLt w) q
      have hs : E cx (.fn 44) [vi (((rows q).length : Nat) : Int), .func (.func 45) [] [.rop [lq q], .rop w.row]] [] = some (Out.ret (vi (cnt (fLt w) q : Int)), []) := by
        rw [hR]; exact e44p q w (by omega) hr
      have start : ∀ {k : Option (Out × Heap)}, _ = k → E cx (.fn 29) [lq q, vi room, w.av] [] = k := fun {k} hk =>
        (f29 _ _ _ _ _ _).trans ((goT (by rw [← hr]; exact e36 q (by omega)) _ _).trans ((goT (by rw [← hm]; exact e43 w) _ _).trans ((goI hs _).trans hk)))
      cases htw : twice q w with
      | true =>
        rw [show putF q room w = ([], 7) by simp [putF, hr, hm, htw]]
        have htw' := htw
        unfold twice at htw'
        cases hv : q[cnt (fLt w) q]? with
        | none => rw [hv] at htw'; cases htw'
        | some v =>
          rw [hv] at htw'
          have hlt := (List.getElem?_eq_some_iff.1 hv).1
          refine retNil (start ?_)
          refine (goD (by rw [hR]; omega) _ _).trans ((goY (by omega) _ _).trans ((goW rfl hv _).trans ?_))
          have h3 : (!decide (lt w v)) = true := htw'
          exact goT (by have := e46 w v; rw [h3] at this; exact this) _ _
      | false =>
        have hfirst : ∀ v, q[cnt (fLt w) q]? = some v → E cx (.fn 46) [w.av, v.av] [] = rb false := fun v hv => by
          unfold twice at htw
          rw [hv] at htw
          have h3 : (!decide (lt w v)) = false := htw
          rw [e46, h3]
        by_cases hf : (q.length : Int) ≥ room
        · rw [show putF q room w = ([], 5) by simp [putF, hr, hm, htw, hf]]
          refine retNil (start ?_)
          refine (goM fun h => ?_).trans (goD (by rw [hR]; exact hf) _ _)
          have hlt : cnt (fLt w) q < q.length := by rw [hR] at h; omega
          have hv : q[cnt (fLt w) q]? = some q[cnt (fLt w) q] := List.getElem?_eq_getElem hlt
          exact (goY (by omega) _ _).trans ((goW rfl hv _).trans (goF (hfirst _ hv) _ _))
        · rw [show putF q room w = (ins q w, 0) by simp [putF, hr, hm, htw, hf]]
          refine ⟨lq (ins q w), start ?_, rfl⟩
          refine (goM fun h => ?_).trans ((goDn (by rw [hR]; exact hf) _ _).trans ?_)
          · have hlt : cnt (fLt w) q < q.length := by rw [hR] at h; omega
            have hv : q[cnt (fLt w) q]? = some q[cnt (fLt w) q] := List.getElem?_eq_getElem hlt
            exact (goY (by omega) _ _).trans ((goW rfl hv _).trans (goF (hfirst _ hv) _ _))
          · have hins : rows (ins q w) = (rows q).take (cnt (fLt w) q) ++ w.row :: (rows q).drop (cnt (fLt w) q) := by
              unfold ins
              rw [take_rows, drop_rows]
              simp
            unfold lq
            rw [hins]
            generalize hm' : cnt (fLt w) q = m at *
            have hN : IntKind.wrap .i64 (Int.add (((rows q).length : Nat) : Int) 1) = (((rows q).length + 1 : Nat) : Int) := by
              rw [wr_add (by omega) (by omega)]; omega
            have hM : IntKind.wrap .i64 (Int.add (m : Int) 1) = ((m + 1 : Nat) : Int) := by
              rw [wr_add (a := (m : Int)) (b := 1) (by omega) (by omega)]; omega
            have hy1 : ysOk (List.drop 0 (List.take m (rows q))) = true := by rw [take_rows, drop_rows]; exact ysOk_rows _
            have hy2 : ysOk (List.drop m (List.take (rows q).length (rows q))) = true := by rw [take_rows, drop_rows]; exact ysOk_rows _
            rw [hN, hM]
            simp only [Int.toNat_natCast]
            generalize rows q = R at *
            refine (goY (by omega) _ _).trans ((goY (Int.le_refl _) _ _).trans ((goY (by show (40 : Int) * _ ≤ _; omega) _ _).trans ((goY (by omega) _ _).trans ((goY (by omega) _ _).trans ((goTt hy1 _ _).trans ?_)))))
            refine (goLe (by show 0 + _ ≤ _; simp) _).trans ((goY (by omega) _ _).trans ((goY (by omega) _ _).trans ?_))
            rw [putA (by omega) rfl]
            refine (goZ (by
              have hl : (List.take m R).length = m := by rw [List.length_take]; omega
              rw [nth_eq, show Nat.add 0 m = m from Nat.zero_add m, List.getElem?_append_right (by omega), hl, Nat.sub_self, List.getElem?_replicate, if_pos (by omega)]) _).trans ?_
            rw [putB (by omega) rfl]
            refine (goY (by omega) _ _).trans ((goY (by omega) _ _).trans ((goY (by omega) _ _).trans ((goY (by omega) _ _).trans ((goTt hy2 _ _).trans ?_))))
            refine (goLe (by show 0 + (m + 1) + (R.length + 1 - (m + 1)) ≤ _; simp; omega) _).trans ?_
            rw [putC (by omega) rfl]
            refine (goLe (by show 0 + (R.length + 1) ≤ _; simp; omega) _).trans ?_
            rw [show Nat.add 0 (R.length + 1) = R.length + 1 from Nat.zero_add _, List.drop_zero, List.take_of_length_le (by simp; omega)]
end Go.Proofs.Av
