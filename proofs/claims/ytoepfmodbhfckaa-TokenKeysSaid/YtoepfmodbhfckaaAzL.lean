/- Views of arguments, calls, single operations, regions in the order of the text. -/
import Derived.Test.YtoepfmodbhfckaaAzJ
namespace Go.Proofs.Av
open Go

theorem mapM_get {α β : Type} {f : α → Option β} : ∀ {xs : List α} {ys : List β}, xs.mapM f = some ys → ys.length = xs.length ∧ ∀ (j : Nat) (y : β), ys[j]? = some y → ∃ x, xs[j]? = some x ∧ f x = some y
  | [], ys, h => by simp at h; subst h; exact ⟨rfl, fun j y h => by simp at h⟩
  | x :: xs, ys, h => by
    simp only [List.mapM_cons, Option.pure_def, Option.bind_eq_bind] at h
    obtain ⟨y, h1, h⟩ := bind_some_iff h
    obtain ⟨r, h2, h⟩ := bind_some_iff h
    cases h
    obtain ⟨h3, h4⟩ := mapM_get h2
    refine ⟨by simp [h3], fun j z hz => ?_⟩
    cases j with
    | zero => simp at hz; subst hz; exact ⟨x, rfl, h1⟩
    | succ j => exact h4 j z (by simpa using hz)

section
variable {cx : Cx} {K : Kf} {N : Nat} {S : Nat → Prop} {μ : Mu} {env : Env} {h : Heap} {tmps : Array Value} {w : World}
/-- A view says of a value what the value's own word says, without references; 'T' holds the blocks that must stay. -/
theorem view_sem {T : Nat → Prop} (hST : ∀ b, S b → T b) (hH : HRel S w μ h) : ∀ (n : Nat) {a a' : AV} {v : Value} {μ' : Mu}, (∀ r x, μ' r = some x → μ r = some x) →
    (refless n a = true ∨ ∀ r b s, μ r = some (b, s) → T b) → view h n a = some a' → Rep S w μ' a v → Rep T w Mu.none a' v
  | 0, a, a', v, μ', hμ, hT, hv, hr => by cases hv
  | n + 1, a, a', v, μ', hμ, hT, hv, hr => by
    have old : ∀ {x : AV} {u : Value}, Rep S w Mu.none x u → Rep T w Mu.none x u := fun hr => hr.mono hST (fun _ _ => rfl) fun _ _ h => h
    have many : ∀ {cs cs' : List AV} {vs : List Value} {μ'' : Mu}, (∀ r x, μ'' r = some x → μ r = some x) → (cs.all (refless n) = true ∨ ∀ r b s, μ r = some (b, s) → T b) → cs.mapM (view h n) = some cs' →
        (∀ (j : Nat) (v : AV) (u : Value), cs[j]? = some v → vs[j]? = some u → Rep S w μ'' v u) → ∀ (j : Nat) (v : AV) (u : Value), cs'[j]? = some v → vs[j]? = some u → Rep T w Mu.none v u := by
      intro cs cs' vs μ'' hμ'' hT' hm hrr j v u hv hu
      obtain ⟨x, hx, hvx⟩ := (mapM_get hm).2 j v hv
      refine view_sem hST hH n hμ'' ?_ hvx (hrr j x u hx hu)
      rcases hT' with h | h
      · exact .inl (List.all_eq_true.1 h x (List.mem_of_getElem? hx))
      · exact .inr h
    cases a with
    | val x => simp only [view] at hv; cases hv; rw [hr.inv_val]; exact .val _
    | list fl sz es =>
      simp only [view] at hv
      cases hv
      cases hr with
      | list b off cap f hS hlen hc hr hcap hfull => exact .list b off cap f (hST b hS) hlen hc (fun i j e v he hv => old (hr i j e v he hv)) hcap (fun h => by cases h)
      | nil => exact .nil
      | empty a cap hf => exact .empty a cap (fun h => by cases h)
    | rop cs =>
      simp only [view] at hv
      cases hv
      cases hr with
      | rop b off f hS hc hr => exact .rop b off f (hST b hS) hc fun j v hv => old (hr j v hv)
    | ptr r ver i j =>
      have hT' : ∀ r b s, μ r = some (b, s) → T b := by
        rcases hT with h | h
        · simp [refless] at h
        · exact h
      simp only [view] at hv
      obtain ⟨o, h1, hv⟩ := bind_some_iff hv
      obtain ⟨_, h2, hv⟩ := bind_some_iff hv
      obtain ⟨e, h3, hv⟩ := bind_some_iff hv
      cases hr with
      | ptr b sz C hb =>
        have hb' := hμ _ _ hb
        obtain ⟨b', vs, t, C', g1, g2, g3, g4, g5, _, g6, g7⟩ := (hH.solid h1 h3).ex
        rw [hb'] at g1
        cases g1
        have hel := g6 i e h3
        have place : ∀ (cs' : List AV), cs'.length = o.sz → (∀ (k : Nat) (v : AV), cs'[k]? = some v → ∃ u, vs[i * o.sz + k]? = some u ∧ Rep T w Mu.none v u) →
            Rep T w Mu.none (.rop (cs'.drop j)) (.pointer (some ⟨b, i * o.sz + j, none⟩)) := by
          intro cs' hl hcs
          have hcell : CellsAt T w Mu.none b (i * o.sz) cs' := by
            refine ⟨(List.range cs'.length).map fun k => vs.getD (i * o.sz + k) undef, ⟨by simp, fun k v u hv hu => ?_⟩, fun k u hu => ?_⟩
            · obtain ⟨x, hx, hrx⟩ := hcs k v hv
              have hk := (List.getElem?_eq_some_iff.1 hv).1
              simp [hk] at hu
              subst hu
              simpa [Array.getD_eq_getD_getElem?, hx] using hrx
            · have hk := (List.getElem?_eq_some_iff.1 hu).1
              simp at hk
              obtain ⟨x, hx, hrx⟩ := hcs k _ (List.getElem?_eq_getElem hk)
              simp [hk] at hu
              subst hu
              rw [cell_of_cells g2]
              simp [hx]
          exact (hcell.drop j).rop (hT' r b _ hb')
        split at hv
        · rename_i hk
          obtain ⟨cs', h4, hv⟩ := bind_some_iff hv
          cases hv
          obtain ⟨hl, hg⟩ := mapM_get h4
          refine place cs' (by rw [hl, hel]) fun k v hv => ?_
          obtain ⟨x, hx, hvx⟩ := hg k v hv
          obtain ⟨u, hu, hru⟩ := g7 i k e x h3 hx
          exact ⟨u, hu, view_sem hST hH n Ob.mu_le (.inr hT') hvx hru⟩
        · rename_i hk
          cases hv
          refine place e hel fun k v hv => ?_
          obtain ⟨u, hu, hru⟩ := g7 i k e v h3 hv
          refine ⟨u, hu, old ?_⟩
          unfold Ob.mu at hru
          cases hko : o.k <;> rw [hko] at hru <;> first | exact hru | exact absurd hko hk
    | arr r ver off len =>
      have hT' : ∀ r b s, μ r = some (b, s) → T b := by
        rcases hT with h | h
        · simp [refless] at h
        · exact h
      simp only [view] at hv
      obtain ⟨o, h1, hv⟩ := bind_some_iff hv
      obtain ⟨_, h2, hv⟩ := bind_some_iff hv
      split at hv
      · rename_i hk
        obtain ⟨_, h3, hv⟩ := bind_some_iff hv
        cases hv
        have hle : off + len ≤ o.es.length := by
          unfold chkLe at h3
          split at h3
          · assumption
          · cases h3
        cases hr with
        | anil =>
          have : (o.es.take (0 + 0)).drop 0 = [] := by simp
          rw [this]
          exact .nil
        | arr0 a ha =>
          have : (o.es.take (off + 0)).drop off = [] := by simp
          rw [this]
          exact .empty a 0 (fun h => by cases h)
        | arr b cap hb hcap =>
          have hb' := hμ _ _ hb
          have hsol : ObRel S w μ r o := by
            rcases hH r o h1 with ⟨x, _⟩ | ⟨_, _, x⟩ | ⟨_, x⟩
            · rw [hk] at x; cases x
            · rw [hb'] at x; cases x
            · exact x
          obtain ⟨b', vs, t, C', g1, g2, g3, g4, g5, _, g6, g7⟩ := hsol.ex
          rw [hb'] at g1
          cases g1
          have hlen : ((o.es.take (off + len)).drop off).length = len := by simp; omega
          have get : ∀ (i : Nat) (e : List AV), ((o.es.take (off + len)).drop off)[i]? = some e → o.es[off + i]? = some e := by
            intro i e he
            rw [List.getElem?_drop, List.getElem?_take] at he
            split at he
            · exact he
            · cases he
          have cell : ∀ i j, i < len → j < o.sz → w.cell? ⟨b, off * o.sz + i * o.sz + j, none⟩ = some (vs.getD ((off + i) * o.sz + j) undef) := by
            intro i j hi hj
            rw [cell_of_cells g2, Nat.add_mul]
            have : (off + i + 1) * o.sz ≤ o.es.length * o.sz := Nat.mul_le_mul_right _ (by omega)
            rw [Nat.add_mul, Nat.add_mul, Nat.one_mul] at this
            rw [Array.getD_eq_getD_getElem?, Array.getElem?_eq_getElem (by omega)]
            rfl
          have key := Rep.list (S := T) (w := w) (μ := Mu.none) (fl := 0) (sz := o.sz) (es := (o.es.take (off + len)).drop off) b (off * o.sz) cap (fun i j => vs.getD ((off + i) * o.sz + j) undef) (hT' r b _ hb')
            (fun e he => by
              obtain ⟨i, hi⟩ := List.mem_iff_getElem?.1 he
              exact g6 _ e (get i e hi))
            (fun i j hi hj => cell i j (by rw [hlen] at hi; exact hi) hj)
            (fun i j e v he hv => by
              obtain ⟨u, hu, hru⟩ := g7 _ j e v (get i e he) hv
              rw [Array.getD_eq_getD_getElem?, hu]
              simp only [Option.getD_some]
              refine old ?_
              unfold Ob.mu at hru
              rw [hk] at hru
              exact hru)
            (by rw [hlen]; exact hcap) (fun h => by cases h)
          rw [hlen] at key
          exact key
      · rename_i hk
        obtain ⟨_, h3, hv⟩ := bind_some_iff hv
        cases hv
        have hle : off + len ≤ o.es.length := by
          unfold chkLe at h3
          split at h3
          · assumption
          · cases h3
        cases hr with
        | anil =>
          have : (o.es.take (0 + 0)).drop 0 = [] := by simp
          rw [this]
          exact .nil
        | arr0 a ha =>
          have : (o.es.take (off + 0)).drop off = [] := by simp
          rw [this]
          exact .empty a 0 (fun h => by cases h)
        | arr b cap hb hcap =>
          have hb' := hμ _ _ hb
          have hsol : ObRel S w μ r o := by
            rcases hH r o h1 with ⟨x, _⟩ | ⟨x, _⟩ | ⟨_, x⟩
            · rw [hk] at x; cases x
            · rw [hk] at x; cases x
            · exact x
          obtain ⟨b', vs, t, C', g1, g2, g3, g4, g5, _, g6, g7⟩ := hsol.ex
          rw [hb'] at g1
          cases g1
          have hlen : ((o.es.take (off + len)).drop off).length = len := by simp; omega
          have get : ∀ (i : Nat) (e : List AV), ((o.es.take (off + len)).drop off)[i]? = some e → o.es[off + i]? = some e := by
            intro i e he
            rw [List.getElem?_drop, List.getElem?_take] at he
            split at he
            · exact he
            · cases he
          have cell : ∀ i j, i < len → j < o.sz → w.cell? ⟨b, off * o.sz + i * o.sz + j, none⟩ = some (vs.getD ((off + i) * o.sz + j) undef) := by
            intro i j hi hj
            rw [cell_of_cells g2, Nat.add_mul]
            have : (off + i + 1) * o.sz ≤ o.es.length * o.sz := Nat.mul_le_mul_right _ (by omega)
            rw [Nat.add_mul, Nat.add_mul, Nat.one_mul] at this
            rw [Array.getD_eq_getD_getElem?, Array.getElem?_eq_getElem (by omega)]
            rfl
          have key := Rep.list (S := T) (w := w) (μ := Mu.none) (fl := 0) (sz := o.sz) (es := (o.es.take (off + len)).drop off) b (off * o.sz) cap (fun i j => vs.getD ((off + i) * o.sz + j) undef) (hT' r b _ hb')
            (fun e he => by
              obtain ⟨i, hi⟩ := List.mem_iff_getElem?.1 he
              exact g6 _ e (get i e hi))
            (fun i j hi hj => cell i j (by rw [hlen] at hi; exact hi) hj)
            (fun i j e v he hv => by
              obtain ⟨u, hu, hru⟩ := g7 _ j e v (get i e he) hv
              rw [Array.getD_eq_getD_getElem?, hu]
              simp only [Option.getD_some]
              refine old ?_
              unfold Ob.mu at hru
              rw [hk] at hru
              exact hru)
            (by rw [hlen]; exact hcap) (fun h => by cases h)
          rw [hlen] at key
          exact key
      · cases hv
    | agg cs =>
      simp only [view] at hv
      obtain ⟨cs', h1, hv⟩ := bind_some_iff hv
      cases hv
      cases hr with
      | agg vs hl hr =>
        refine .agg vs (by rw [(mapM_get h1).1]; exact hl) fun j v u hv hu => many (vs := vs.toList) hμ (by simpa [refless] using hT) h1 (fun j v u hv hu => hr j v u hv (by simpa using hu)) j v u hv (by simpa using hu)
    | tuple cs =>
      simp only [view] at hv
      obtain ⟨cs', h1, hv⟩ := bind_some_iff hv
      cases hv
      cases hr with
      | tuple vs hl hr =>
        refine .tuple vs (by rw [(mapM_get h1).1]; exact hl) fun j v u hv hu => many (vs := vs.toList) hμ (by simpa [refless] using hT) h1 (fun j v u hv hu => hr j v u hv (by simpa using hu)) j v u hv (by simpa using hu)
    | iface t x =>
      simp only [view] at hv
      obtain ⟨x', h1, hv⟩ := bind_some_iff hv
      cases hv
      cases hr with
      | iface hx => exact .iface (view_sem hST hH n hμ (by simpa [refless] using hT) h1 hx)
    | func fn fs cs =>
      simp only [view] at hv
      obtain ⟨fs', h1, hv⟩ := bind_some_iff hv
      obtain ⟨cs', h2, hv⟩ := bind_some_iff hv
      cases hv
      cases hr with
      | func us vs hu hl hf hr =>
        have t1 : fs.all (refless n) = true ∨ ∀ r b s, μ r = some (b, s) → T b := by
          rcases hT with h | h
          · simp only [refless, Bool.and_eq_true] at h; exact .inl h.1
          · exact .inr h
        have t2 : cs.all (refless n) = true ∨ ∀ r b s, μ r = some (b, s) → T b := by
          rcases hT with h | h
          · simp only [refless, Bool.and_eq_true] at h; exact .inl h.2
          · exact .inr h
        exact .func us vs (by rw [(mapM_get h1).1]; exact hu) (by rw [(mapM_get h2).1]; exact hl)
          (fun j v u hv hu => many (vs := us.toList) hμ t1 h1 (fun j v u hv hu => hf j v u hv (by simpa using hu)) j v u hv (by simpa using hu))
          (fun j v u hv hu => many (vs := vs.toList) hμ t2 h2 (fun j v u hv hu => hr j v u hv (by simpa using hu)) j v u hv (by simpa using hu))
theorem viewArg_sem {T : Nat → Prop} (hST : ∀ b, S b → T b) (hH : HRel S w μ h) {a a' : AV} {v : Value} (hT : refless 5 a = true ∨ ∀ r b s, μ r = some (b, s) → T b) (hv : viewArg h a = some a') (hr : Rep S w μ a v) :
    Rep T w Mu.none a' v := by
  obtain ⟨x, h1, h2⟩ := bind_some_iff hv
  cases h2
  exact wk_wk x _ _ _ _ (view_sem hST hH 5 (fun _ _ h => h) hT h1 hr)
theorem viewArgs_sem {T : Nat → Prop} (hST : ∀ b, S b → T b) (hH : HRel S w μ h) : ∀ {as as' : List AV} {vs : List Value}, (as.all (refless 5) = true ∨ ∀ r b s, μ r = some (b, s) → T b) → viewArgs h as = some as' → Reps S w μ as vs → Reps T w Mu.none as' vs
  | [], as', vs, hT, hv, hr => by cases hv; rw [hr.inv_nil]; exact .nil
  | a :: as, as', vs, hT, hv, hr => by
    simp only [viewArgs] at hv
    obtain ⟨x, h1, hv⟩ := bind_some_iff hv
    obtain ⟨xs, h2, hv⟩ := bind_some_iff hv
    cases hv
    obtain ⟨v, r, rfl, h3, h4⟩ := hr.inv_cons
    have hT1 : refless 5 a = true ∨ ∀ r b s, μ r = some (b, s) → T b := by
      rcases hT with h | h
      · simp only [List.all_cons, Bool.and_eq_true] at h; exact .inl h.1
      · exact .inr h
    have hT2 : as.all (refless 5) = true ∨ ∀ r b s, μ r = some (b, s) → T b := by
      rcases hT with h | h
      · simp only [List.all_cons, Bool.and_eq_true] at h; exact .inl h.2
      · exact .inr h
    exact (viewArgs_sem hST hH hT2 h2 h4).cons (viewArg_sem hST hH hT1 h1 h3)
/-- A ground value stands alike everywhere. -/
theorem ground_rep {a : AV} {v : Value} {S' : Nat → Prop} {w' : World} {μ' : Mu} (hg : a.ground = true) (hr : Rep S w μ a v) : Rep S' w' μ' a v := by
  cases hr with
  | val v => exact .val v
  | agg vs hl hr =>
    refine .agg vs hl fun j x u hx hu => ?_
    have := List.all_eq_true.1 hg x (List.mem_of_getElem? hx)
    have hrx := hr j x u hx hu
    cases hrx <;> first | exact .val _ | (simp at this)
  | tuple vs hl hr =>
    refine .tuple vs hl fun j x u hx hu => ?_
    have := List.all_eq_true.1 hg x (List.mem_of_getElem? hx)
    have hrx := hr j x u hx hu
    cases hrx <;> first | exact .val _ | (simp at this)
  | _ => simp [AV.ground] at hg
theorem ground_same {a : AV} {v u : Value} {S' : Nat → Prop} {w' : World} {μ' : Mu} (hg : a.ground = true) (hr : Rep S w μ a v) (hr' : Rep S' w' μ' a u) : u = v := by
  cases hr with
  | val v => exact hr'.inv_val
  | @agg _ cs vs hl hr =>
    obtain ⟨us, rfl, hus⟩ := hr'.inv_agg
    congr 1
    apply Array.ext'
    apply List.ext_getElem?
    intro j
    by_cases hj : j < vs.size
    · have h1 : j < us.toList.length := by rw [hus.1]; omega
      obtain ⟨x, hx⟩ : ∃ x, cs[j]? = some x := ⟨_, List.getElem?_eq_getElem (by omega)⟩
      have h2 := hr j x vs[j] hx (Array.getElem?_eq_getElem hj)
      have h3 := hus.2 j x us.toList[j] hx (List.getElem?_eq_getElem h1)
      have := List.all_eq_true.1 hg x (List.mem_of_getElem? hx)
      cases x with
      | val y => rw [List.getElem?_eq_getElem h1, h3.inv_val, Array.getElem?_toList, Array.getElem?_eq_getElem hj, h2.inv_val]
      | _ => simp at this
    · rw [List.getElem?_eq_none (by rw [hus.1]; omega), List.getElem?_eq_none (by simp; omega)]
  | @tuple _ cs vs hl hr =>
    obtain ⟨us, rfl, hus⟩ := hr'.inv_tuple
    congr 1
    apply Array.ext'
    apply List.ext_getElem?
    intro j
    by_cases hj : j < vs.size
    · have h1 : j < us.toList.length := by rw [hus.1]; omega
      obtain ⟨x, hx⟩ : ∃ x, cs[j]? = some x := ⟨_, List.getElem?_eq_getElem (by omega)⟩
      have h2 := hr j x vs[j] hx (Array.getElem?_eq_getElem hj)
      have h3 := hus.2 j x us.toList[j] hx (List.getElem?_eq_getElem h1)
      have := List.all_eq_true.1 hg x (List.mem_of_getElem? hx)
      cases x with
      | val y => rw [List.getElem?_eq_getElem h1, h3.inv_val, Array.getElem?_toList, Array.getElem?_eq_getElem hj, h2.inv_val]
      | _ => simp at this
    · rw [List.getElem?_eq_none (by rw [hus.1]; omega), List.getElem?_eq_none (by simp; omega)]
  | _ => simp [AV.ground] at hg
end
end Go.Proofs.Av
