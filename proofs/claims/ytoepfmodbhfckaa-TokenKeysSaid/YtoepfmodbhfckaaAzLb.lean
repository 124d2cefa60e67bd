/- A call that is handed objects, and writes them. -/
import Derived.Test.YtoepfmodbhfckaaAzLa
namespace Go.Proofs.Av
open Go
def Fact (cx : Cx) (f : FuncId) : Prop := ∃ fn, cx.P.funcs[f]? = some fn ∧ fn.body.isNone = false ∧ (fn.name == "runtime.NumGoroutine") = false
/-- What is told of functions that write what they are handed is so. -/
def OwnSound (cx : Cx) (F : EF) : Prop := ∀ f args h v h', F (.own f) args h = some (.ret v, h') → Fact cx f ∧ h.length = cx.held f ∧
  ∀ (K : Kf) (S : Nat → Prop) (μ : Mu) (w : World) (vals : List Value), St cx K 0 S μ [] h #[] w → (∀ r x, K.fix r = some x → r < cx.held f) → Reps S w μ args vals →
    Calls cx.P f vals.toArray w fun e w' => ∃ cv S' μ', e = .returned cv ∧ Rep S' w' μ' v cv ∧ St cx K 0 S' μ' [] h' #[] w'
section
variable {cx : Cx} {F : EF} {K : Kf} {N : Nat} {S : Nat → Prop} {μ : Mu} {env : Env} {h : Heap} {tmps : Array Value} {w : World}
theorem lives_k {h1 : Heap} (hl : livesK h1 = true) {i : Nat} {o : Ob} (ho : h1[i]? = some o) : o.k ≠ .dead ∧ o.k ≠ .ro := by
  have := List.all_eq_true.1 hl o (List.mem_of_getElem? ho)
  cases hk : o.k <;> rw [hk] at this <;> simp_all
/-- The call's own frame. -/
def subK (S : Nat → Prop) (w : World) (ks : List Nat) (μ : Mu) : Kf := ⟨w, S, fun b => ∃ k s, k ∈ ks ∧ μ k = some (b, s), gmu ks μ⟩
theorem sub_st (st : St cx K N S μ env h tmps w) {ks : List Nat} {h1 : Heap} (hn : ks.Nodup) (l3 : h1.length = ks.length) (m3 : ∀ (i : Nat) (y : Ob), h1[i]? = some y → ∃ k, ks[i]? = some k ∧ (h[k]?).bind (Ob.ren ks) = some y) :
    St cx (subK S w ks μ) 0 S (gmu ks μ) [] h1 #[] w := by
  refine ⟨rfl, fun t v ht => (by cases ht), st.g, fun r o ho => ?_, fun r r' b s s' hr hr' ha ha' => ?_, fun r x hx => ?_, fun r b s hr => ?_, fun _ h => h, fun _ h => .inl h, st.slt, fun _ _ _ => rfl, Nat.le_refl _, rfl, rfl, OutD.refl _, fun _ _ h => h⟩
  · obtain ⟨k, hk, hko⟩ := m3 r o ho
    obtain ⟨o0, k1, k2⟩ := bind_some_iff hko
    exact obren_obr hk k2 (st.heap k o0 k1)
  · unfold gmu at hr hr'
    obtain ⟨x, hx, hr⟩ := bind_some_iff hr
    obtain ⟨y, hy, hr'⟩ := bind_some_iff hr'
    have := st.inj x y b s s' hr hr' (alive_gc l3 m3 hx ha) (alive_gc l3 m3 hy ha')
    subst this
    obtain ⟨a, b'⟩ := List.getElem?_eq_some_iff.1 hx
    obtain ⟨c, d⟩ := List.getElem?_eq_some_iff.1 hy
    exact (List.getElem_inj hn).1 (b'.trans d.symm)
  · unfold gmu at hx
    obtain ⟨y, hy, _⟩ := bind_some_iff hx
    have := (List.getElem?_eq_some_iff.1 hy).1
    omega
  · unfold gmu at hr
    obtain ⟨y, hy, hr⟩ := bind_some_iff hr
    exact .inl ⟨y, s, List.mem_of_getElem? hy, hr⟩
theorem pos_some_of {ks : List Nat} : ∀ {r : Nat}, r ∈ ks → ∃ i, pos ks r = some i := by
  induction ks with
  | nil => intro r hr; cases hr
  | cons k ks ih =>
    intro r hr
    simp only [pos]
    cases hb : Nat.beq k r with
    | true => exact ⟨0, rfl⟩
    | false =>
      rcases List.mem_cons.1 hr with rfl | hr
      · simp at hb
      · obtain ⟨i, hi⟩ := ih hr
        exact ⟨i + 1, by simp [hi]⟩
/-- What stands at a place of the way back. -/
theorem backKs_get {n l : Nat} {ks : List Nat} {r j : Nat} (h : (backKs n l ks)[r]? = some j) : (r < n ∧ pos ks r = some j) ∨ (r < n ∧ pos ks r = none ∧ j = l + r) ∨ (n ≤ r ∧ r - n < l - ks.length ∧ j = ks.length + (r - n)) := by
  unfold backKs at h
  by_cases hr : r < n
  · rw [List.getElem?_append_left (by simpa using hr)] at h
    simp only [List.getElem?_map, List.getElem?_range hr, Option.map_some] at h
    cases hp : pos ks r with
    | none => rw [hp] at h; cases h; exact .inr (.inl ⟨hr, rfl, rfl⟩)
    | some i => rw [hp] at h; cases h; exact .inl ⟨hr, rfl⟩
  · rw [List.getElem?_append_right (by simp; omega)] at h
    simp only [List.length_map, List.length_range, List.getElem?_map] at h
    have hlt : r - n < l - ks.length := by
      cases hx : (List.range (l - ks.length))[r - n]? with
      | none => rw [hx] at h; cases h
      | some y =>
        have := (List.getElem?_eq_some_iff.1 hx).1
        simpa using this
    rw [List.getElem?_range hlt] at h
    cases h
    exact .inr (.inr ⟨by omega, hlt, rfl⟩)
theorem backKs_len (n l : Nat) (ks : List Nat) : (backKs n l ks).length = n + (l - ks.length) := by simp [backKs]
theorem mergeH_get {ks : List Nat} {h h2 h' : Heap} (hm : mergeH ks h h2 = some h') : h'.length = ks.length ∧ ∀ (r : Nat) (o : Ob), h'[r]? = some o → ∃ j, ks[r]? = some j ∧ ((∃ o2, h2[j]? = some o2 ∧ o2.ren ks = some o) ∨ (h2[j]? = none ∧ h[r]? = some o)) := by
  unfold mergeH at hm
  obtain ⟨l1, m1⟩ := mapM_at hm
  have hz : ((List.range ks.length).zip ks).length = ks.length := by simp
  refine ⟨l1.trans hz, fun r o ho => ?_⟩
  obtain ⟨⟨a, j⟩, hx, hf⟩ := m1 r o ho
  rw [List.getElem?_zip_eq_some] at hx
  obtain ⟨h1, h2'⟩ := hx
  have hr : r < ks.length := (List.getElem?_eq_some_iff.1 h2').1
  rw [List.getElem?_range hr] at h1
  cases h1
  refine ⟨j, h2', ?_⟩
  simp only at hf
  cases hj : h2[j]? with
  | none => rw [hj] at hf; exact .inr ⟨rfl, hf⟩
  | some o2 => rw [hj] at hf; exact .inl ⟨o2, rfl, hf⟩
/-- The caller's state behind the call. -/
theorem back_st (st : St cx K N S μ env h tmps w) {ks : List Nat} {h1 h2 h' : Heap} (_hn : ks.Nodup) (l3 : h1.length = ks.length) (m3 : ∀ (i : Nat) (y : Ob), h1[i]? = some y → ∃ k, ks[i]? = some k ∧ (h[k]?).bind (Ob.ren ks) = some y)
    (hl : livesK h1 = true) {S' : Nat → Prop} {μ' : Mu} {w' : World} (stc : St cx (subK S w ks μ) 0 S' μ' [] h2 #[] w') (hle : ks.length ≤ h2.length) (hm : mergeH (backKs h.length h2.length ks) h h2 = some h') :
    ∃ μ'', St cx K N S' μ'' env h' tmps w' ∧ ∀ r x, gmu (backKs h.length h2.length ks) μ' r = some x → μ'' r = some x := by
  -- the objects handed over
  have kobj : ∀ k, k ∈ ks → ∃ o, h[k]? = some o ∧ o.k ≠ .dead ∧ o.k ≠ .ro := fun k hk => by
    obtain ⟨i, hi⟩ := List.mem_iff_getElem?.1 hk
    have hi' : i < h1.length := by
      have := (List.getElem?_eq_some_iff.1 hi).1
      omega
    obtain ⟨k', hk', hko⟩ := m3 i h1[i] (List.getElem?_eq_getElem hi')
    rw [hi] at hk'
    cases hk'
    obtain ⟨o0, g1, g2⟩ := bind_some_iff hko
    have hf := (obren_form g2).1
    have hlv := lives_k hl (List.getElem?_eq_getElem hi')
    exact ⟨o0, g1, by rw [← hf]; exact hlv.1, by rw [← hf]; exact hlv.2⟩
  have kalive : ∀ k, k ∈ ks → alive h k := fun k hk x hx => by
    obtain ⟨o, g1, g2, _⟩ := kobj k hk
    rw [hx] at g1
    cases g1
    exact g2
  have kS : ∀ k b s, k ∈ ks → μ k = some (b, s) → ¬ S b := fun k b s hk hm => by
    obtain ⟨o, g1, g2, g3⟩ := kobj k hk
    rcases st.heap k o g1 with ⟨d, _⟩ | ⟨_, _, d⟩ | ⟨_, d⟩
    · exact absurd d g2
    · rw [hm] at d; cases d
    · obtain ⟨b', vs, t, C, e1, e2, e3, e4, _⟩ := d.ex
      rw [hm] at e1
      cases e1
      exact e4 g3
  have hSS : ∀ b, S b → S' b := stc.s0
  have hSO : ∀ b, S b → w'.heap[b]? = w.heap[b]? := fun b hb => stc.frame b (st.slt b hb) fun ⟨k, s, hk, hm⟩ => kS k b s hk hm hb
  -- a place of the way back
  have g_old : ∀ r x, μ r = some x → ∀ y, gmu (backKs h.length h2.length ks) μ' r = some y → y = x := fun r x hx y hy => by
    unfold gmu at hy
    obtain ⟨j, hj, hy⟩ := bind_some_iff hy
    rcases backKs_get hj with ⟨_, hp⟩ | ⟨_, _, rfl⟩ | ⟨hr, _⟩
    · have hfix := stc.fix j x (show gmu ks μ j = some x by unfold gmu; rw [pos_spec hp]; exact hx)
      rw [hfix] at hy
      exact (Option.some.inj hy).symm
    · have := stc.dom _ _ hy
      omega
    · have := st.dom r x hx
      omega
  have g_un : ∀ r, r < h.length → pos ks r = none → gmu (backKs h.length h2.length ks) μ' r = none := fun r hr hp => by
    cases hg : gmu (backKs h.length h2.length ks) μ' r with
    | none => rfl
    | some y =>
      unfold gmu at hg
      obtain ⟨j, hj, hg⟩ := bind_some_iff hg
      rcases backKs_get hj with ⟨_, hp'⟩ | ⟨_, _, rfl⟩ | ⟨hr', _⟩
      · rw [hp] at hp'; cases hp'
      · have := stc.dom _ _ hg
        omega
      · omega
  refine ⟨fun r => match μ r with | some x => some x | none => gmu (backKs h.length h2.length ks) μ' r, ?_, ?_⟩
  rotate_left
  · intro r x hx
    dsimp only
    cases hμ : μ r with
    | none => exact hx
    | some y =>
      show some y = some x
      rw [g_old r y hμ x hx]
  obtain ⟨hlen, hget⟩ := mergeH_get hm
  rw [backKs_len] at hlen
  generalize hμdef : (fun r => match μ r with | some x => some x | none => gmu (backKs h.length h2.length ks) μ' r : Mu) = μ2
  have hμ2 : ∀ r, μ2 r = match μ r with | some x => some x | none => gmu (backKs h.length h2.length ks) μ' r := fun r => by rw [← hμdef]
  have m_old : ∀ r x, μ r = some x → μ2 r = some x := fun r x hx => by rw [hμ2, hx]
  have m_new : ∀ r x, gmu (backKs h.length h2.length ks) μ' r = some x → μ2 r = some x := fun r x hx => by
    rw [hμ2]
    cases hμ : μ r with
    | none => exact hx
    | some y =>
      show some y = some x
      rw [g_old r y hμ x hx]
  have m_touch : ∀ r j, (backKs h.length h2.length ks)[r]? = some j → j < h2.length → μ2 r = gmu (backKs h.length h2.length ks) μ' r := fun r j hj hjl => by
    rw [hμ2]
    cases hμ : μ r with
    | none => rfl
    | some y =>
      rcases backKs_get hj with ⟨_, hp⟩ | ⟨_, _, rfl⟩ | ⟨hr, _⟩
      · have hfix := stc.fix j y (show gmu ks μ j = some y by unfold gmu; rw [pos_spec hp]; exact hμ)
        show some y = _
        unfold gmu
        rw [hj]
        exact hfix.symm
      · omega
      · have := st.dom r y hμ
        omega
  -- where a block comes from
  have origin : ∀ r b s, μ2 r = some (b, s) → (r < h.length ∧ pos ks r = none ∧ μ r = some (b, s)) ∨ ∃ j, (backKs h.length h2.length ks)[r]? = some j ∧ j < h2.length ∧ μ' j = some (b, s) := fun r b s hx => by
    rw [hμ2] at hx
    cases hμ : μ r with
    | some y =>
      rw [hμ] at hx
      have hx' : y = (b, s) := Option.some.inj hx
      subst hx'
      have hr := st.dom r _ hμ
      cases hp : pos ks r with
      | none => exact .inl ⟨hr, rfl, rfl⟩
      | some i =>
        have hfix := stc.fix i (b, s) (show gmu ks μ i = some (b, s) by unfold gmu; rw [pos_spec hp]; exact hμ)
        have hil : i < ks.length := (List.getElem?_eq_some_iff.1 (pos_spec hp)).1
        refine .inr ⟨i, ?_, by omega, hfix⟩
        unfold backKs
        rw [List.getElem?_append_left (by simpa using hr)]
        simp [List.getElem?_range hr, hp]
    | none =>
      rw [hμ] at hx
      unfold gmu at hx
      obtain ⟨j, hj, hx⟩ := bind_some_iff hx
      exact .inr ⟨j, hj, stc.dom _ _ hx, hx⟩
  have al_un : ∀ r, r < h.length → pos ks r = none → alive h' r → alive h r := fun r hr hp ha x hx => by
    have hr' : r < h'.length := by omega
    obtain ⟨j, hj, hc⟩ := hget r h'[r] (List.getElem?_eq_getElem hr')
    rcases backKs_get hj with ⟨_, hp'⟩ | ⟨_, _, rfl⟩ | ⟨hr2, _⟩
    · rw [hp] at hp'; cases hp'
    · rcases hc with ⟨o2, h3, _⟩ | ⟨_, h3⟩
      · have := (List.getElem?_eq_some_iff.1 h3).1
        omega
      · rw [hx] at h3
        rw [Option.some.inj h3]
        exact ha _ (List.getElem?_eq_getElem hr')
    · omega
  have al_to : ∀ r j, (backKs h.length h2.length ks)[r]? = some j → j < h2.length → alive h' r → alive h2 j := fun r j hj hjl ha x hx hd => by
    have hr' : r < h'.length := by
      have := (List.getElem?_eq_some_iff.1 hj).1
      rw [backKs_len] at this
      omega
    obtain ⟨j', hj', hc⟩ := hget r h'[r] (List.getElem?_eq_getElem hr')
    rw [hj] at hj'
    cases hj'
    rcases hc with ⟨o2, h3, h4⟩ | ⟨h3, _⟩
    · rw [hx] at h3
      cases h3
      exact ha _ (List.getElem?_eq_getElem hr') ((obren_form h4).1.trans hd)
    · rw [hx] at h3; cases h3
  have un_O : ∀ r b s, pos ks r = none → μ r = some (b, s) → alive h r → ¬ ∃ k s, k ∈ ks ∧ μ k = some (b, s) := fun r b s hp hm ha ⟨k, s', hk, hmk⟩ => by
    have := st.inj r k b s s' hm hmk ha (kalive k hk)
    subst this
    obtain ⟨i, hi⟩ := pos_some_of hk
    rw [hp] at hi
    cases hi
  refine ⟨st.size, fun t v ht => (st.env t v ht).mono hSS hSO m_old, stc.g, ?_, ?_, ?_, ?_, fun b hb => hSS b (st.s0 b hb), ?_, stc.slt, ?_, Nat.le_trans st.le stc.le, stc.os.trans st.os, stc.tape.trans st.tape, stc.output.trans st.output, fun r x hx => m_old r x (st.fix r x hx)⟩
  · intro r o' ho'
    obtain ⟨j, hj, hc⟩ := hget r o' ho'
    rcases hc with ⟨o2, h3, h4⟩ | ⟨h3, h4⟩
    · have hjl := (List.getElem?_eq_some_iff.1 h3).1
      have hob := obren_obr hj h4 (stc.heap j o2 h3)
      exact hob.mono (fun _ h => h) (fun _ _ => rfl) m_new (m_touch r j hj hjl) (Nat.le_refl _) (fun _ _ _ _ => rfl) fun _ _ _ h => h
    · have hun : r < h.length ∧ pos ks r = none := by
        rcases backKs_get hj with ⟨_, hp⟩ | ⟨hr, hp, _⟩ | ⟨_, hlt, rfl⟩
        · have := (List.getElem?_eq_some_iff.1 (pos_spec hp)).1
          have hjl : j < h2.length := by omega
          rw [List.getElem?_eq_getElem hjl] at h3
          cases h3
        · exact ⟨hr, hp⟩
        · have hjl : ks.length + (r - h.length) < h2.length := by omega
          rw [List.getElem?_eq_getElem hjl] at h3
          cases h3
      obtain ⟨hr, hp⟩ := hun
      have hμr : μ2 r = μ r := by
        rw [hμ2]
        cases hμ : μ r with
        | none => exact g_un r hr hp
        | some y => rfl
      rcases st.heap r o' h4 with ⟨d1, d2, d3⟩ | ⟨d1, d2, d3⟩ | ⟨d1, d2⟩
      · exact .inl ⟨d1, d2, fun b s C hx => by
          rw [hμr] at hx
          have := d3 b s C hx
          exact ⟨Nat.lt_of_lt_of_le this.1 stc.le, this.2⟩⟩
      · exact .inr (.inl ⟨d1, d2, hμr.trans d3⟩)
      · have ha : alive h r := fun x hx => by rw [h4] at hx; cases hx; exact d1
        refine .inr (.inr ⟨d1, d2.mono hSS hSO m_old (fun b s hm => ?_) fun b s hm hns hs => ?_⟩)
        · exact stc.frame b (st.lt hm) (un_O r b s hp hm ha)
        · rcases stc.snew b hs with h | h | h
          · exact hns h
          · exact un_O r b s hp hm ha h
          · have := st.lt hm
            have hw : (subK S w ks μ).w0.heap.size = w.heap.size := rfl
            omega
  · intro r r' b s s' hr hr' ha ha'
    have cross : ∀ {r b s s' j}, r < h.length → pos ks r = none → μ r = some (b, s) → alive h' r → μ' j = some (b, s') → False := fun {r b s s' j} h1 h2' h3 h4 h5 => by
      rcases stc.own j b s' h5 with h6 | h6
      · exact un_O r b s h2' h3 (al_un r h1 h2' h4) h6
      · have := st.lt h3
        have hw : (subK S w ks μ).w0.heap.size = w.heap.size := rfl
        omega
    rcases origin r b s hr with ⟨a1, a2, a3⟩ | ⟨j, a1, a2, a3⟩ <;> rcases origin r' b s' hr' with ⟨b1, b2, b3⟩ | ⟨j', b1, b2, b3⟩
    · exact st.inj r r' b s s' a3 b3 (al_un r a1 a2 ha) (al_un r' b1 b2 ha')
    · exact (cross a1 a2 a3 ha b3).elim
    · exact (cross b1 b2 b3 ha' a3).elim
    · have hjj := stc.inj j j' b s s' a3 b3 (al_to r j a1 a2 ha) (al_to r' j' b1 b2 ha')
      subst hjj
      rcases backKs_get a1 with ⟨c1, c2⟩ | ⟨c1, c2, c3⟩ | ⟨c1, c2, c3⟩ <;> rcases backKs_get b1 with ⟨d1, d2⟩ | ⟨d1, d2, d3⟩ | ⟨d1, d2, d3⟩
      · have e1 := pos_spec c2
        rw [pos_spec d2] at e1
        exact (Option.some.inj e1).symm
      · omega
      · have := (List.getElem?_eq_some_iff.1 (pos_spec c2)).1
        omega
      · omega
      · omega
      · omega
      · have := (List.getElem?_eq_some_iff.1 (pos_spec d2)).1
        omega
      · omega
      · omega
  · intro r x hx
    obtain ⟨b, s⟩ := x
    rcases origin r b s hx with ⟨a1, _⟩ | ⟨j, a1, _⟩
    · omega
    · have := (List.getElem?_eq_some_iff.1 a1).1
      rw [backKs_len] at this
      omega
  · intro r b s hx
    rcases origin r b s hx with ⟨_, _, a3⟩ | ⟨j, _, _, a3⟩
    · exact st.own r b s a3
    · rcases stc.own j b s a3 with ⟨k, s', hk, hmk⟩ | h6
      · exact st.own k b s' hmk
      · exact .inr (Nat.le_trans st.le h6)
  · intro b hb
    rcases stc.snew b hb with h | ⟨k, s', hk, hmk⟩ | h
    · exact st.snew b h
    · exact .inr (st.own k b s' hmk)
    · exact .inr (.inr (Nat.le_trans st.le h))
  · intro b hb ho
    rw [stc.frame b (Nat.lt_of_lt_of_le hb st.le) fun ⟨k, s', hk, hmk⟩ => ?_]
    · exact st.frame b hb ho
    · rcases st.own k b s' hmk with h | h
      · exact ho h
      · omega
theorem reps_mapM {ks : List Nat} {as as' : List AV} {vs : List Value} (hm : as.mapM (ren ks 5) = some as') (hr : Reps S w μ as vs) : Reps S w (gmu ks μ) as' vs := by
  obtain ⟨l1, m1⟩ := mapM_at hm
  refine ⟨by rw [l1]; exact hr.1, fun j v u hv hu => ?_⟩
  obtain ⟨x, hx, hf⟩ := m1 j v hv
  exact ren_rep 5 x v u hf (hr.2 j x u hx hu)
theorem normO_wk {z v a : AV} (h : normO z v some = some a) : Wk v a := by
  unfold normO at h
  split at h
  · rename_i zs
    obtain ⟨cs, h1, h2⟩ := bind_some_iff h
    obtain ⟨as, h3, h4⟩ := (normAs_pk _ cs).some h2
    cases h3
    rw [wk_tup h1]
    intro S w μ u hu
    obtain ⟨vs, rfl, hvs⟩ := hu.inv_tuple
    obtain ⟨l1, m1⟩ := normAs_wk h4
    have : Reps S w μ as vs.toList := ⟨by rw [l1]; exact hvs.1, fun j x y hx hy => by
      obtain ⟨c, hc, hwk⟩ := m1 j x hx
      exact hwk _ _ _ _ (hvs.2 j c y hc hy)⟩
    have := Rep.of_tuple this
    simpa using this
  · exact normA_wk h
/-- A call that is handed objects. -/
theorem ownV_sem (hO : OwnSound cx F) (st : St cx K N S μ env h tmps w) {o : Own} {fv : AV} {args : List AV} {fu : Value} {us : List Value} (ho : ∀ f, fnOf fv = some f → cx.own f = some o) (hf : Rep S w μ fv fu) (hr : Reps S w μ args us)
    {av : AV} {h' : Heap} (hc : ownV cx F o fv args h (fun v h => some (v, h)) = some (av, h')) :
    ∃ fn first cap f vals, fu = .func fn first cap ∧ (invoke (.fn fn cap) (first ++ us.toArray)).run cx.P w = .ok (.enter f vals) w ∧
      Calls cx.P f vals w fun e w' => ∃ cv S' μ', e = .returned cv ∧ Rep S' w' μ' av cv ∧ St cx K N S' μ' env h' tmps w' := by
  unfold ownV at hc
  obtain ⟨p, h1, hc1⟩ := bind_some_iff hc
  obtain ⟨g, h2, hc2⟩ := bind_some_iff hc1
  cases hlv : livesK g.2.2 with
  | false => rw [hlv] at hc2; cases hc2
  | true =>
    rw [hlv] at hc2
    simp only [cond_true] at hc2
    generalize hks : reach h 3 (addN [] (p.2.flatMap (refs 5))) = ks at h2 hc2
    obtain ⟨r, h3, hc3⟩ := bind_some_iff hc2
    obtain ⟨x, h4, hc4⟩ := bind_some_iff hc3
    obtain ⟨v, hc5, h5⟩ := (normO_pk _ _).some hc4
    obtain ⟨h2', hc6, h6⟩ := (normHeap_pk _ _).some hc5
    obtain ⟨_, h7, hc7⟩ := bind_some_iff hc6
    obtain ⟨v', h8, hc8⟩ := bind_some_iff hc7
    obtain ⟨hh, h9, hc9⟩ := bind_some_iff hc8
    cases hc9
    have hle : ks.length ≤ h2'.length := by
      unfold chkLe at h7
      split at h7
      · assumption
      · cases h7
    have hrx : r = (.ret x.1, x.2) := by
      unfold asRet at h4
      split at h4
      · cases h4; rfl
      · cases h4
    rw [hrx] at h3
    unfold gc at h2
    cases hnb : (nodupL ks && stays ks 0) with
    | false => rw [hnb] at h2; cases h2
    | true =>
      simp only [Bool.and_eq_true] at hnb
      have hn := nodupL_spec hnb.1
      rw [hnb.1, hnb.2] at h2
      simp only [Bool.and_self, cond_true] at h2
      obtain ⟨vs1, g1, h2⟩ := bind_some_iff h2
      obtain ⟨is1, g2, h2⟩ := bind_some_iff h2
      simp only [List.all_nil, cond_true] at h2
      obtain ⟨hs1, g3, h2⟩ := bind_some_iff h2
      cases h2
      obtain ⟨l3, m3⟩ := mapM_at g3
      simp only at h3 hlv
      obtain ⟨⟨fn, f1, f2, f3⟩, hheld, hcalls⟩ := hO _ _ _ _ _ h3
      unfold AV.call? at h1
      split at h1
      · rename_i f first cap
        cases h1
        simp only at f1 hheld hcalls g1 h3
        cases hf with
        | func us1 vs1' hu hl hf1 hr1 =>
          have hargs : Reps S w μ (first ++ args ++ cap) (us1.toList ++ us ++ vs1'.toList) :=
            (Reps.append ⟨by simpa using hu, fun j x y hx hy => hf1 j x y hx (by simpa using hy)⟩ hr).append ⟨by simpa using hl, fun j x y hx hy => hr1 j x y hx (by simpa using hy)⟩
          have stS := (sub_st st hn l3 m3).wkHeap
          have hreps := wks_map AV.wk wk_wk vs1 _ _ _ _ (reps_mapM g1 hargs)
          refine ⟨_, _, _, f, us1 ++ us.toArray ++ vs1', rfl, ?_, ?_⟩
          · cases hb : fn.body with
            | none => rw [hb] at f2; cases f2
            | some bd =>
              have g3' : ¬ fn.name = "runtime.NumGoroutine" := by simpa using f3
              simp [invoke, callFunc, f1, hb, g3']
          · have hcall := hcalls (subK S w ks μ) S (gmu ks μ) w _ stS (fun r x hx => by
              have h0 : gmu ks μ r = some x := hx
              unfold gmu at h0
              obtain ⟨y, hy, _⟩ := bind_some_iff h0
              have := (List.getElem?_eq_some_iff.1 hy).1
              rw [← hheld, List.length_map, l3]
              exact this) hreps
            have e : (us1.toList ++ us ++ vs1'.toList).toArray = us1 ++ us.toArray ++ vs1' := by apply Array.ext'; simp
            rw [e] at hcall
            refine hcall.mono fun e w' ⟨cv, S', μ', k1, k2, k3⟩ => ?_
            obtain ⟨hl6, hw6⟩ := normHeap_wk h6
            have stc := k3.heapWk hl6 hw6
            obtain ⟨μ'', q1, q2⟩ := back_st st hn l3 m3 hlv stc hle h9
            exact ⟨cv, S', μ'', k1, (ren_rep 5 _ _ _ h8 (normO_wk h5 _ _ _ _ k2)).mono (fun _ h => h) (fun _ _ => rfl) q2, q1⟩
      · cases h1
end
end Go.Proofs.Av
