/- append, make and copy: what the evaluator tells of them is so. -/
import Derived.Test.YtoepfmodbhfckaaAzJb
namespace Go.Proofs.Av
open Go
theorem sliceInfo_spec {cx : Cx} {t : TypeId} {q : TypeId × Nat × List AV × Nat} (h : sliceInfo cx t = some q) :
    ∃ i z, cx.P.underlying t = some (.slice q.1) ∧ cx.P.info? q.1 = some i ∧ i.zero = some z ∧ z.cells.size = i.size ∧ 0 < i.size ∧ 0 < i.bytes ∧ q.2.1 = i.size ∧ q.2.2.1 = z.cells.toList.map .val ∧ q.2.2.2 = i.bytes := by
  unfold sliceInfo at h
  obtain ⟨d, h1, h⟩ := bind_some_iff h
  split at h
  · rename_i e
    obtain ⟨i, h2, h⟩ := bind_some_iff h
    obtain ⟨z, h3, h⟩ := bind_some_iff h
    split at h
    · rename_i hb
      cases h
      simp only [Bool.and_eq_true] at hb
      have hz : i.zero = some z := by
        unfold Cx.zero at h3
        rw [h2] at h3
        exact h3
      exact ⟨i, z, h1, h2, hz, by have := Nat.eq_of_beq_eq_true hb.1; simpa [zcells] using this, by simpa [Nat.blt_eq] using hb.2.1, by simpa [Nat.blt_eq] using hb.2.2, rfl, rfl, rfl⟩
    · cases h
  · cases h
section
variable {cx : Cx} {K : Kf} {N : Nat} {S : Nat → Prop} {μ : Mu} {env : Env} {h : Heap} {tmps : Array Value} {w : World}
theorem madeCells_get {z : Array Value} {n s i j : Nat} (hz : z.size = s) (_hs : 0 < s) (hi : i < n) (hj : j < s) : (madeCells z (n * s))[i * s + j]? = z[j]? := by
  have hlt : i * s + j < n * s := by
    have : (i + 1) * s ≤ n * s := Nat.mul_le_mul_right _ hi
    rw [Nat.add_mul, Nat.one_mul] at this
    omega
  have hm : (i * s + j) % s = j := by rw [Nat.mul_comm, Nat.mul_add_mod, Nat.mod_eq_of_lt hj]
  simp [madeCells, hlt, hz, hm, hj]
/-- A slice made. -/
theorem makeV_sem (st : St cx K N S μ env h tmps w) {t : TypeId} {lv cv : AV} {u v : Value} (hl : Rep S w μ lv u) (hc : Rep S w μ cv v) {av : AV} {h' : Heap} (hm : makeV cx t lv cv h (fun v h => some (v, h)) = some (av, h')) :
    ∃ r w' μ', (Instr.makeSlice t u v).run cx.P w = .ok r w' ∧ Rep S w' μ' av r ∧ St cx K N S μ' env h' tmps w' := by
  unfold makeV at hm
  obtain ⟨q, h1, hm⟩ := bind_some_iff hm
  obtain ⟨i, z, i1, i2, i3, i4, i5, i6, i7, i8, i9⟩ := sliceInfo_spec h1
  split at hm
  · rename_i kl l kc n _
    rw [hl.inv_val, hc.inv_val]
    split at hm
    · rename_i h0
      split at hm
      · rename_i hln
        split at hm
        · rename_i hb
          cases hm
          rw [i9] at hb
          have h63 : n ≤ 9223372036854775807 := by
            have : (1 : Int) * n ≤ (i.bytes : Int) * n := Int.mul_le_mul_of_nonneg_right (by omega) (by omega)
            omega
          have hr := run_make (P := cx.P) w t q.1 i z i1 i2 i3 kl kc l n h0 hln hb h63
          have hx := st.step (w' := w.alloc (.cells (madeCells z.cells (n.toNat * i.size)) q.1)) (kill := none) (o := ⟨.arr, q.1, q.2.1, q.2.1, List.replicate l.toNat q.2.2.1⟩) (x := some (w.heap.size, i.size, n.toNat))
            (by simp) rfl rfl ⟨rfl, fun _ => Nat.le_refl _⟩ (fun b hb _ => heap_alloc_old w _ hb) (fun r hr => by cases hr) rfl (fun hx => by cases hx) (fun b s C hx => by
              cases hx
              refine ⟨i7.symm, .inr (Nat.le_refl _), _, heap_alloc_new w _, ?_, ?_, ?_, ?_⟩
              · show (madeCells z.cells (n.toNat * i.size)).size = n.toNat * q.2.1
                rw [size_madeCells, i7]
              · show (List.replicate l.toNat q.2.2.1).length * q.2.1 ≤ (madeCells z.cells (n.toNat * i.size)).size
                rw [size_madeCells, i7, List.length_replicate]
                exact Nat.mul_le_mul_right _ (by omega)
              · intro k e he
                have := List.mem_of_getElem? he
                rw [List.eq_of_mem_replicate this, i7, i8]
                simpa using i4
              · intro k j e a he ha
                have hk := (List.getElem?_eq_some_iff.1 he).1
                simp at hk
                have := List.mem_of_getElem? he
                rw [List.eq_of_mem_replicate this, i8] at ha
                simp only [List.getElem?_map] at ha
                cases hz : z.cells.toList[j]? with
                | none => rw [hz] at ha; cases ha
                | some y =>
                  rw [hz] at ha
                  cases ha
                  have hz' : z.cells[j]? = some y := by simpa using hz
                  have hj : j < i.size := by
                    have := (Array.getElem?_eq_some_iff.1 hz').1
                    omega
                  refine ⟨y, ?_, .val y⟩
                  show (madeCells z.cells (n.toNat * i.size))[k * q.2.1 + j]? = some y
                  rw [i7, madeCells_get i4 i5 (by omega) hj]
                  exact hz')
          refine ⟨_, _, _, hr, ?_, hx⟩
          have := Rep.arr (S := S) (w := w.alloc (.cells (madeCells z.cells (n.toNat * i.size)) q.1)) (μ := μ.updO h.length (some (w.heap.size, i.size, n.toNat))) (r := h.length) (ver := q.2.1) (off := 0) (len := l.toNat) w.heap.size n.toNat
            (by simp [Mu.updO, Mu.upd, i7]) (by omega)
          simpa using this
        · cases hm
      · cases hm
    · cases hm
  · cases hm
end
end Go.Proofs.Av
