/- Stores. -/
import Derived.Test.YtoepfmodbhfckaaAzI
import Derived.Laws.CopyRow
namespace Go.Proofs.Av
open Go
section
variable {cx : Cx} {K : Kf} {N : Nat} {S : Nat → Prop} {μ : Mu} {env : Env} {h : Heap} {tmps : Array Value} {w : World}
theorem row_index {i i' sz j j' n : Nat} (hj' : j' < sz) (hjn : j + n ≤ sz) : (i * sz + j ≤ i' * sz + j' ∧ i' * sz + j' < i * sz + j + n) ↔ (i' = i ∧ j ≤ j' ∧ j' < j + n) := by
  rcases Nat.lt_trichotomy i' i with h | h | h
  · have : (i' + 1) * sz ≤ i * sz := Nat.mul_le_mul_right _ h
    rw [Nat.add_mul, Nat.one_mul] at this
    omega
  · subst h; omega
  · have : (i + 1) * sz ≤ i' * sz := Nat.mul_le_mul_right _ h
    rw [Nat.add_mul, Nat.one_mul] at this
    omega
theorem splice_get_val {cs vs : List Value} {n : Nat} (h : n + vs.length ≤ cs.length) (i : Nat) :
    (cs.take n ++ vs ++ cs.drop (n + vs.length))[i]? = if n ≤ i ∧ i < n + vs.length then vs[i - n]? else cs[i]? := by
  have hl : (cs.take n).length = n := by simp; omega
  by_cases h1 : i < n
  · rw [if_neg (by omega), List.append_assoc, List.getElem?_append_left (by omega)]
    simp [h1]
  · by_cases h2 : i < n + vs.length
    · rw [if_pos (by omega), List.getElem?_append_left (by simp; omega), List.getElem?_append_right (by omega), hl]
    · rw [if_neg (by omega), List.getElem?_append_right (by simp; omega)]
      simp only [List.getElem?_drop, List.length_append, hl]
      congr 1
      omega
theorem Ob.mu_le {o : Ob} : ∀ r x, o.mu μ r = some x → μ r = some x := by
  intro r x hx
  unfold Ob.mu at hx
  cases hk : o.k <;> rw [hk] at hx <;> first | exact hx | cases hx
theorem St.store (st : St cx K N S μ env h tmps w) {r i j b C : Nat} {o : Ob} {e cs xs e' : List AV} {us : List Value} (ho : h[r]? = some o) (hk : o.k ≠ .ro) (he : o.es[i]? = some e)
    (hwk : Wks e cs) (hcl : cs.length = e.length) (hjn : j + xs.length ≤ o.sz) (hx : Reps S w (o.mu μ) xs us) (hsp : spliceK cs j xs some = some e') (hb : μ r = some (b, o.sz, C)) :
    ∃ vs t, w.heap[b]? = some (.cells vs t (0, 0)) ∧ i * o.sz + j + us.length ≤ vs.size ∧
      St cx K N S μ env (h.set r { o with es := o.es.set i e' }) tmps (w.setRow b (vs.toList.take (i * o.sz + j) ++ us ++ vs.toList.drop (i * o.sz + j + us.length)).toArray) := by
  have hkd : o.k ≠ .dead := fun hd => by
    rcases st.heap r o ho with ⟨_, h1, _⟩ | ⟨h1, _⟩ | ⟨h1, _⟩
    · rw [h1] at he; simp at he
    · rw [hd] at h1; cases h1
    · exact h1 hd
  obtain ⟨b', vs, t, C', h1, h2, h3, h4, h5, h5', h6, h7⟩ := (st.heap.solid ho he).ex
  rw [hb] at h1
  cases h1
  have hi : i < o.es.length := (List.getElem?_eq_some_iff.1 he).1
  have hel := h6 i e he
  have hul : us.length = xs.length := hx.1
  have hin : i * o.sz + o.sz ≤ vs.size := by
    have : (i + 1) * o.sz ≤ o.es.length * o.sz := Nat.mul_le_mul_right _ hi
    rw [Nat.add_mul, Nat.one_mul] at this
    omega
  have hnS : ¬ S b := h4 hk
  refine ⟨vs, t, h2, by omega, ?_⟩
  obtain ⟨hs1, hs2⟩ := spliceK_eq hsp
  have hother : ∀ k, k ≠ b → (w.setRow b (vs.toList.take (i * o.sz + j) ++ us ++ vs.toList.drop (i * o.sz + j + us.length)).toArray).heap[k]? = w.heap[k]? := fun k hk => setRow_other w b k _ hk
  have hal : ∀ k, alive (h.set r { o with es := o.es.set i e' }) k → alive h k := fun k ha x hx => by
    by_cases hkr : r = k
    · subst hkr
      rw [ho] at hx
      cases hx
      exact hkd
    · exact ha x (by rw [List.getElem?_set_ne hkr]; exact hx)
  have hSk : ∀ k, S k → (w.setRow b (vs.toList.take (i * o.sz + j) ++ us ++ vs.toList.drop (i * o.sz + j + us.length)).toArray).heap[k]? = w.heap[k]? := fun k hk => hother k fun e => hnS (e ▸ hk)
  refine ⟨st.size, fun t v ht => (st.env t v ht).mono (fun _ h => h) hSk fun _ _ h => h, fun g cs hg => (st.g g cs hg).mono (fun _ h => h) hSk fun _ _ h => h, ?_, fun r1 r2 b1 s1 s2 hb1 hb2 ha1 ha2 => st.inj r1 r2 b1 s1 s2 hb1 hb2 (hal r1 ha1) (hal r2 ha2), fun r x hx => by simpa using st.dom r x hx, st.own, st.s0, st.snew, fun b hb => by simpa using st.slt b hb, ?_, by simpa using st.le, st.os, st.tape, ⟨st.output.out, st.output.drawn⟩, st.fix⟩
  · intro r' o' ho'
    by_cases hr : r = r'
    · subst hr
      have hrl := (List.getElem?_eq_some_iff.1 ho).1
      rw [List.getElem?_set_self hrl] at ho'
      cases ho'
      refine .inr (.inr ⟨hkd, ⟨b, _, t, C, hb, setRow_heap w b vs _ t _ h2, fun hk' => absurd hk' hk, fun _ => hnS, ?_, ?_, ?_, ?_⟩⟩)
      · simp; omega
      · intro hka
        have := h5' hka
        refine ⟨?_, this.2⟩
        simp only [List.size_toArray, List.length_append, List.length_take, List.length_drop, Array.length_toList]
        omega
      · intro i' x hx'
        simp only at hx'
        rw [List.getElem?_set] at hx'
        split at hx'
        · cases hx'
          rw [hs2]
          simp
          omega
        · exact h6 i' x hx'
      · intro i' j' x v hx' hv
        simp only at hx' ⊢
        have hj' : j' < o.sz := by
          rw [List.getElem?_set] at hx'
          have hjl := (List.getElem?_eq_some_iff.1 hv).1
          split at hx'
          · cases hx'
            rw [hs2] at hjl
            simp at hjl
            omega
          · have := h6 i' x hx'; omega
        have hget : (vs.toList.take (i * o.sz + j) ++ us ++ vs.toList.drop (i * o.sz + j + us.length)).toArray[i' * o.sz + j']? =
            if i' = i ∧ j ≤ j' ∧ j' < j + xs.length then us[j' - j]? else vs[i' * o.sz + j']? := by
          rw [List.getElem?_toArray, splice_get_val (by simp; omega)]
          have hiff := row_index (i := i) (i' := i') (j := j) (n := xs.length) hj' hjn
          by_cases hc : i' = i ∧ j ≤ j' ∧ j' < j + xs.length
          · rw [if_pos hc, if_pos (by rw [hul]; exact hiff.2 hc), hc.1]
            congr 1
            omega
          · rw [if_neg hc, if_neg (by rw [hul]; exact fun h => hc (hiff.1 h))]
            simp
        rw [hget]
        have mono : ∀ {v u}, Rep S w (o.mu μ) v u → Rep S (w.setRow b (vs.toList.take (i * o.sz + j) ++ us ++ vs.toList.drop (i * o.sz + j + us.length)).toArray) (o.mu μ) v u :=
          fun hr => hr.mono (fun _ h => h) hSk fun _ _ h => h
        have hmu : ({ o with es := o.es.set i e' } : Ob).mu μ = o.mu μ := rfl
        by_cases hii : i' = i
        · subst hii
          rw [List.getElem?_set_self hi] at hx'
          cases hx'
          rw [hs2, splice_get hs1] at hv
          by_cases hc : j ≤ j' ∧ j' < j + xs.length
          · rw [if_pos hc] at hv
            rw [if_pos ⟨rfl, hc⟩]
            obtain ⟨u, hu, hru⟩ := hx.get hv
            exact ⟨u, hu, mono hru⟩
          · rw [if_neg hc] at hv
            rw [if_neg (fun h => hc h.2)]
            have hje : j' < e.length := by omega
            obtain ⟨u, hu, hru⟩ := h7 i' j' e e[j'] he (List.getElem?_eq_getElem hje)
            have hcell : Reps S w (o.mu μ) e ((vs.toList.drop (i' * o.sz)).take o.sz) := by
              refine ⟨by simp [hel]; omega, fun k x y hx hy => ?_⟩
              obtain ⟨u', hu', hru'⟩ := h7 i' k e x he hx
              rw [List.getElem?_take] at hy
              split at hy
              · rw [List.getElem?_drop] at hy
                simp only [Array.getElem?_toList] at hy
                rw [hu'] at hy
                cases hy
                exact hru'
              · cases hy
            obtain ⟨y, hy, hry⟩ := (hwk _ _ _ _ hcell).get hv
            rw [List.getElem?_take, if_pos hj', List.getElem?_drop] at hy
            simp only [Array.getElem?_toList] at hy
            exact ⟨y, hy, mono hry⟩
        · rw [if_neg (fun h => hii h.1)]
          rw [List.getElem?_set_ne (fun h => hii h.symm)] at hx'
          obtain ⟨u, hu, hru⟩ := h7 i' j' x v hx' hv
          exact ⟨u, hu, mono hru⟩
    · rw [List.getElem?_set_ne hr] at ho'
      exact (st.heap r' o' ho').mono (fun _ h => h) hSk (fun _ _ h => h) rfl (by simp) (fun hkd' b' s hb' => hother b' fun e => hr (by
        subst e
        exact st.inj r r' b' _ _ hb hb' (fun x hx => by rw [ho] at hx; cases hx; exact hkd) fun x hx => by rw [ho'] at hx; cases hx; exact hkd')) fun _ _ _ h => h
  · intro k hk ho'
    have hne : k ≠ b := fun e => by
      subst e
      rcases st.own r k _ hb with h | h
      · exact ho' h
      · omega
    rw [hother k hne]
    exact st.frame k hk ho'

theorem flat1_none {v : AV} {u : Value} (h : v.flat1 = true) (hr : Rep S w μ v u) : Rep S w Mu.none v u := by
  cases hr <;> first
    | exact .val _
    | exact .nil
    | exact .empty _ _ ‹_›
    | exact .list _ _ _ _ ‹_› ‹_› ‹_› ‹_› ‹_› ‹_›
    | exact .rop _ _ _ ‹_› ‹_› ‹_›
    | (simp [AV.flat1] at h)
theorem flat_cells {x : AV} (h : x.flat = true) : ∀ v, v ∈ x.cells → v.flat1 = true := by
  intro v hv
  cases x with
  | agg cs => exact List.all_eq_true.1 h v hv
  | val u =>
    cases u with
    | agg cs =>
      obtain ⟨y, hy, rfl⟩ := List.mem_map.1 hv
      rfl
    | _ => simp [AV.cells] at hv; subst hv; rfl
  | _ => simp [AV.cells] at hv; subst hv; exact h
theorem normCells_len : ∀ {zs : List Sh} {cs as : List AV}, normCells zs cs some = some as → as.length = cs.length
  | [], cs, as, h => by
    simp only [normCells] at h
    obtain ⟨u, h1, h2⟩ := bind_some_iff h
    cases h2
    rw [nil_eq h1]
  | z :: zs, cs, as, h => by
    simp only [normCells] at h
    obtain ⟨p, h1, h2⟩ := bind_some_iff h
    obtain ⟨x, h3, h4⟩ := (normCell_pk z p.1).some h2
    obtain ⟨r, h5, h6⟩ := (normCells_pk zs p.2).some h3
    cases h5
    rw [uncons_eq h1]
    simp [normCells_len h6]
/-- A store. -/
theorem storeV_sem (st : St cx K N S μ env h tmps w) {t : TypeId} {p x : AV} {u v : Value} (hp : Rep S w μ p u) (hx : Rep S w μ x v) {h' : Heap} (hs : storeV cx t p x h some = some h') :
    ∃ w', (Instr.storeAt t u v).run cx.P w = .ok () w' ∧ St cx K N S μ env h' tmps w' := by
  unfold storeV at hs
  split at hs
  · rename_i r ver i j
    obtain ⟨o, h1, hs⟩ := bind_some_iff hs
    obtain ⟨_, h2, hs⟩ := bind_some_iff hs
    obtain ⟨e, h3, hs⟩ := bind_some_iff hs
    obtain ⟨n, h4, hs⟩ := bind_some_iff hs
    have hcells := hx.cells
    cases hp with
    | ptr b sz C hb =>
      have hse := st.heap.sz h1 hb
      subst hse
      split at hs
      · rename_i hc
        simp only [Bool.and_eq_true] at hc
        have hn := Nat.eq_of_beq_eq_true hc.1
        have hone : ∀ y ∈ v.cells.toList, y.oneCell' = true := by
          intro y hy
          obtain ⟨k, hk⟩ := List.mem_iff_getElem?.1 hy
          have hkl : k < x.cells.length := by
            have := (List.getElem?_eq_some_iff.1 hk).1
            rw [← hcells.1]; exact this
          exact one_cell (List.all_eq_true.1 hc.2 _ (List.getElem_mem hkl)) (hcells.2 k _ y (List.getElem?_eq_getElem hkl) hk)
        have fin : ∀ {cs xs e' : List AV}, o.k ≠ .ro → Wks e cs → cs.length = e.length → xs = x.cells → Reps S w (o.mu μ) xs v.cells.toList → j + n ≤ o.sz → spliceK cs j xs some = some e' →
            ∃ w', (Instr.storeAt t (.pointer (some ⟨b, i * o.sz + j, none⟩)) v).run cx.P w = .ok () w' ∧ St cx K N S μ env (h.set r { o with es := o.es.set i e' }) tmps w' := by
          intro cs xs e' hk hwk hcl hxs hr hjn hsp
          subst hxs
          obtain ⟨vs, ty, g1, g2, g3⟩ := st.store h1 hk h3 hwk hcl (by omega) hr hsp hb
          refine ⟨_, ?_, g3⟩
          have hlen : v.cells.size = n := by have := hcells.1; simp at this; omega
          have hrun := run_storeCells_at (P := cx.P) b (i * o.sz + j) ty v.cells.toList 0 vs w g1 (by simpa using g2) hone
          simp only [Nat.add_zero] at hrun
          simp [Instr.storeAt, Instr.sureAddr, storeVar, run_size h4, hlen, hrun]
        split at hs
        · rename_i hkb
          split at hs
          · rename_i hble
            obtain ⟨e', h5, h6⟩ := (spliceK_pk _ _ _).some hs
            cases h5
            refine fin (by rw [hkb]; simp) (Wks.refl _) rfl rfl ?_ (Nat.le_of_ble_eq_true hble) h6
            unfold Ob.mu
            rw [hkb]
            exact hcells
          · cases hs
        · rename_i hka
          split at hs
          · rename_i hflat hble
            obtain ⟨z, h5, hs⟩ := bind_some_iff hs
            obtain ⟨cs', h6, h7⟩ := (normCells_pk z e).some hs
            obtain ⟨e', h8, h9⟩ := (spliceK_pk _ _ _).some h6
            cases h8
            have hwk := normCells_wk h7
            have hcl : cs'.length = e.length := normCells_len h7
            refine fin (by rw [hka]; simp) hwk hcl rfl ?_ (Nat.le_of_ble_eq_true hble) h9
            unfold Ob.mu
            rw [hka]
            exact ⟨hcells.1, fun k y z hy hz => flat1_none (flat_cells hflat y (List.mem_of_getElem? hy)) (hcells.2 k y z hy hz)⟩
          · cases hs
        · cases hs
        · cases hs
      · cases hs
  · cases hs
end
end Go.Proofs.Av
