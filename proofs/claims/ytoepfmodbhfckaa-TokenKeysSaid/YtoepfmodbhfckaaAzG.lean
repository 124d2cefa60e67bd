/- Operations that only read, put together. -/
import Derived.Test.YtoepfmodbhfckaaAzF
import Derived.Laws.Tables
namespace Go.Proofs.Av
open Go

theorem spliceK_eq : ∀ {cs : List AV} {n : Nat} {vs r : List AV}, spliceK cs n vs some = some r → n + vs.length ≤ cs.length ∧ r = cs.take n ++ vs ++ cs.drop (n + vs.length)
  | cs, 0, [], r, h => by
    cases cs <;> (simp only [spliceK] at h; cases h; simp)
  | x :: cs, 0, v :: vs, r, h => by
    simp only [spliceK] at h
    obtain ⟨r', h1, h2⟩ := (spliceK_pk cs 0 vs).some h
    cases h1
    obtain ⟨h3, h4⟩ := spliceK_eq h2
    refine ⟨by simp; omega, ?_⟩
    rw [h4]
    simp
  | x :: cs, n + 1, vs, r, h => by
    simp only [spliceK] at h
    obtain ⟨r', h1, h2⟩ := (spliceK_pk cs n vs).some h
    cases h1
    obtain ⟨h3, h4⟩ := spliceK_eq h2
    refine ⟨by simp; omega, ?_⟩
    rw [h4]
    simp [Nat.add_right_comm n 1]
  | [], 0, v :: vs, r, h => by simp only [spliceK] at h; cases h
  | [], n + 1, vs, r, h => by simp only [spliceK] at h; cases h

theorem foldl_set_get (off : Nat) : ∀ (vs : List Value) (k : Nat) (cs : Array Value), off + k + vs.length ≤ cs.size → ∀ i,
    ((vs.zipIdx k).foldl (fun cs (x : Value × Nat) => cs.setIfInBounds (off + x.2) x.1) cs)[i]? = if off + k ≤ i ∧ i < off + k + vs.length then vs[i - (off + k)]? else cs[i]?
  | [], k, cs, h, i => by simp; intro h1 h2; omega
  | v :: vs, k, cs, h, i => by
    simp only [List.zipIdx_cons, List.foldl_cons]
    simp only [List.length_cons] at h
    rw [foldl_set_get off vs (k + 1) _ (by simp; omega) i]
    simp only [Array.getElem?_setIfInBounds, List.length_cons]
    by_cases h1 : off + k = i
    · subst h1
      simp [show off + k < cs.size by omega]
      intro h1; omega
    · by_cases h2 : off + (k + 1) ≤ i ∧ i < off + (k + 1) + vs.length
      · rw [if_pos h2, if_pos (by omega)]
        obtain ⟨m, hm⟩ : ∃ m, i - (off + k) = m + 1 := ⟨i - (off + k) - 1, by omega⟩
        rw [hm, show i - (off + (k + 1)) = m by omega]
        simp
      · rw [if_neg h2, if_neg h1, if_neg (by omega)]
theorem foldl_set_size (off : Nat) : ∀ (vs : List (Value × Nat)) (cs : Array Value), (vs.foldl (fun cs (x : Value × Nat) => cs.setIfInBounds (off + x.2) x.1) cs).size = cs.size
  | [], cs => rfl
  | v :: vs, cs => by simp only [List.foldl_cons]; rw [foldl_set_size off vs]; simp
theorem splice_get {cs vs : List AV} {n : Nat} (h : n + vs.length ≤ cs.length) (i : Nat) :
    (cs.take n ++ vs ++ cs.drop (n + vs.length))[i]? = if n ≤ i ∧ i < n + vs.length then vs[i - n]? else cs[i]? := by
  have hl : (cs.take n).length = n := by simp; omega
  by_cases h1 : i < n
  · rw [if_neg (by omega), List.append_assoc, List.getElem?_append_left (by omega)]
    simp [h1]
  · by_cases h2 : i < n + vs.length
    · rw [if_pos (by omega), List.getElem?_append_left (by simp; omega), List.getElem?_append_right (by omega), hl]
    · rw [if_neg (by omega), List.getElem?_append_right (by simp; omega)]
      simp only [List.getElem?_drop, List.length_append, hl]
      congr 1
      omega
section
variable {cx : Cx} {S : Nat → Prop} {w : World} {μ : Mu} {env : Env} {a : Act} {h : Heap}
theorem splice_reps {cs vs r : List AV} {n : Nat} {ds : Array Value} {us : List Value} (hc : Reps S w μ cs ds.toList) (hv : Reps S w μ vs us) (hr : spliceK cs n vs some = some r) :
    n + us.length ≤ ds.size ∧ Reps S w μ r (((us.zipIdx 0).foldl (fun cs (x : Value × Nat) => cs.setIfInBounds (n + x.2) x.1) ds).toList) := by
  obtain ⟨h1, rfl⟩ := spliceK_eq hr
  have hcl : ds.size = cs.length := by simpa using hc.1
  have hvl := hv.1
  refine ⟨by omega, by simp [foldl_set_size]; omega, fun j v u hj hu => ?_⟩
  rw [splice_get h1] at hj
  rw [Array.getElem?_toList, foldl_set_get n us 0 ds (by omega)] at hu
  simp only [Nat.add_zero] at hu
  rw [hvl] at hu
  split at hj
  · rename_i hc1
    rw [if_pos hc1] at hu
    exact hv.2 _ v u hj hu
  · rename_i hc1
    rw [if_neg hc1] at hu
    exact hc.2 _ v u hj (by simpa using hu)
theorem fill_sem (place : Nat → Option (Nat × Nat)) : ∀ {ps : List (Nat × AV)} {qs : List (Nat × Value)} {cs r : List AV} {ds : Array Value},
    qs.length = ps.length → (∀ (j : Nat) (p : Nat × AV) (q : Nat × Value), ps[j]? = some p → qs[j]? = some q → q.1 = p.1 ∧ Rep S w μ p.2 q.2) → Reps S w μ cs ds.toList → fillA place ps cs some = some r →
    ∃ es, Instr.fill place ds qs = some es ∧ Reps S w μ r es.toList
  | [], qs, cs, r, ds, hl, hp, hc, h => by
    simp only [fillA] at h
    cases h
    have : qs = [] := by simpa using hl
    subst this
    exact ⟨ds, rfl, hc⟩
  | (i, v) :: ps, qs, cs, r, ds, hl, hp, hc, h => by
    simp only [fillA] at h
    obtain ⟨p, h1, hsp⟩ := bind_some_iff h
    cases qs with
    | nil => simp at hl
    | cons q qs =>
      obtain ⟨hq1, hq2⟩ := hp 0 (i, v) q (by simp) (by simp)
      obtain ⟨qi, qv⟩ := q
      simp only at hq1 hq2
      subst hq1
      split at hsp
      · rename_i hb
        obtain ⟨cs', h2, h3⟩ := (spliceK_pk _ _ _).some hsp
        have hcells := hq2.cells
        obtain ⟨h4, h5⟩ := splice_reps hc hcells h3
        obtain ⟨es, h6, h7⟩ := fill_sem place (by simpa using hl) (fun j x y hx hy => hp (j + 1) x y (by simpa using hx) (by simpa using hy)) h5 h2
        refine ⟨es, ?_, h7⟩
        have hsz : qv.cells.size = p.2 := by
          have e1 : qv.cells.toList.length = v.cells.length := hcells.1
          have e2 := Nat.eq_of_beq_eq_true hb
          simp at e1
          omega
        obtain ⟨off, size⟩ := p
        simp only at hsz h4 h5 h6
        simp only [Instr.fill, h1]
        have hlen : qv.cells.toList.length = qv.cells.size := by simp
        have hnot : (decide (qv.cells.size ≠ size) || decide (off + qv.cells.size > ds.size)) = false := by
          simp
          exact ⟨hsz, by omega⟩
        rw [if_neg (by simpa using hnot)]
        rw [← h6]
        congr 1
        rw [← Array.foldl_toList, Array.toList_zipIdx]
      · cases hsp
theorem places_eq : ∀ {fs : List Field} {ps : List (Nat × Nat)}, fieldPlaces cx fs = some ps → fs.mapM (fun f => (cx.P.info? f.type).map fun i => (f.offset, i.size)) = some ps
  | [], ps, h => by cases h; rfl
  | f :: fs, ps, h => by
    simp only [fieldPlaces] at h
    obtain ⟨n, h1, h⟩ := bind_some_iff h
    obtain ⟨r, h2, h⟩ := bind_some_iff h
    cases h
    unfold Cx.size at h1
    obtain ⟨i, h3, h4⟩ := bind_some_iff h1
    cases h4
    simp [List.mapM_cons, h3, places_eq h2]
theorem buildV_sem {t : TypeId} {ps : List (Nat × AV)} {qs : Array (Nat × Value)} {av : AV} (hl : qs.size = ps.length)
    (hp : ∀ (j : Nat) (p : Nat × AV) (q : Nat × Value), ps[j]? = some p → qs.toList[j]? = some q → q.1 = p.1 ∧ Rep S w μ p.2 q.2) (h : buildV cx t ps some = some av) :
    ∃ v, Rep S w μ av v ∧ ∀ w', (Instr.build t qs).run cx.P w' = .ok v w' := by
  unfold buildV at h
  obtain ⟨zc, hzz, h⟩ := bind_some_iff h
  unfold zeroCells Cx.zero at hzz
  obtain ⟨z, hz1, hz⟩ := bind_some_iff hzz
  cases hz
  obtain ⟨it, hit, h1⟩ := bind_some_iff hz1
  obtain ⟨d, hd, h⟩ := bind_some_iff h
  have hz : Reps S w μ ((zcells z).map .val) z.cells.toList := reps_vals _
  split at h
  · rename_i fields
    obtain ⟨pl, h2, h⟩ := bind_some_iff h
    obtain ⟨cs, h3, h4⟩ := (fillA_pk _ _ _).some h
    cases h3
    obtain ⟨es, h5, h6⟩ := fill_sem (S := S) (w := w) (μ := μ) (fun i => pl[i]?) (qs := qs.toList) (by simpa using hl) hp hz h4
    refine ⟨.agg es, by simpa using Rep.of_agg h6, fun w' => run_build w' t qs es ?_⟩
    unfold Program.built
    rw [hit, hd]
    simp only [h1, places_eq h2]
    simpa using h5
  · rename_i len elem
    obtain ⟨s, h2, h⟩ := bind_some_iff h
    obtain ⟨cs, h3, h4⟩ := (fillA_pk _ _ _).some h
    cases h3
    obtain ⟨es, h5, h6⟩ := fill_sem (S := S) (w := w) (μ := μ) (fun i => some (i * s, s)) (qs := qs.toList) (by simpa using hl) hp hz h4
    refine ⟨.agg es, by simpa using Rep.of_agg h6, fun w' => run_build w' t qs es ?_⟩
    unfold Cx.size at h2
    obtain ⟨ie, h7, h8⟩ := bind_some_iff h2
    cases h8
    unfold Program.built
    rw [hit, hd]
    simp only [h1, h7]
    exact h5
  · cases h
end
end Go.Proofs.Av
