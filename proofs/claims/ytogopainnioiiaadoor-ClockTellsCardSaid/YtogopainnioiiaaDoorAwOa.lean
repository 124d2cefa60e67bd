/- Objects that nobody needs any more are left out; the others are numbered anew. -/
import Derived.Test.YtogopainnioiiaaDoorAwO
namespace Go.Proofs.Av
open Go
theorem mapM_at {α β : Type} {f : α → Option β} : ∀ {l : List α} {l' : List β}, l.mapM f = some l' → l'.length = l.length ∧ ∀ (i : Nat) (y : β), l'[i]? = some y → ∃ x, l[i]? = some x ∧ f x = some y
  | [], l', h => by
    have : l' = [] := by simpa using h.symm
    subst this
    exact ⟨rfl, fun i y h => by simp at h⟩
  | x :: l, l', h => by
    rw [List.mapM_cons] at h
    obtain ⟨y, h1, h⟩ := bind_some_iff h
    obtain ⟨r, h2, h⟩ := bind_some_iff h
    cases h
    obtain ⟨h3, h4⟩ := mapM_at h2
    refine ⟨by simp [h3], fun i z hz => ?_⟩
    cases i with
    | zero => simp at hz; subst hz; exact ⟨x, rfl, h1⟩
    | succ i => exact h4 i z (by simpa using hz)
theorem pos_spec : ∀ {ks : List Nat} {r i : Nat}, pos ks r = some i → ks[i]? = some r
  | [], r, i, h => by cases h
  | k :: ks, r, i, h => by
    simp only [pos] at h
    split at h
    · rename_i hb
      cases h
      simp [Nat.eq_of_beq_eq_true hb]
    · obtain ⟨j, h1, h⟩ := bind_some_iff h
      cases h
      simpa using pos_spec h1
theorem pos_nodup {ks : List Nat} (hn : ks.Nodup) {r i j : Nat} (h : pos ks r = some i) (hj : ks[j]? = some r) : i = j := by
  have hi := pos_spec h
  obtain ⟨a, b⟩ := List.getElem?_eq_some_iff.1 hi
  obtain ⟨c, d⟩ := List.getElem?_eq_some_iff.1 hj
  exact (List.getElem_inj hn).1 (b.trans d.symm)
/-- Where the objects lie, by new numbers. -/
def gmu (ks : List Nat) (μ : Mu) : Mu := fun i => (ks[i]?).bind μ
section
variable {S : Nat → Prop} {w : World} {μ : Mu} {ks : List Nat}
theorem reps_ren {n : Nat} (ih : ∀ (v v' : AV) (u : Value), ren ks n v = some v' → Rep S w μ v u → Rep S w (gmu ks μ) v' u) {cs cs' : List AV} (h : cs.mapM (ren ks n) = some cs') :
    cs'.length = cs.length ∧ ∀ (us : Array Value) (j : Nat) (v : AV) (u : Value), (∀ (j : Nat) (v : AV) (u : Value), cs[j]? = some v → us[j]? = some u → Rep S w μ v u) → cs'[j]? = some v → us[j]? = some u → Rep S w (gmu ks μ) v u := by
  obtain ⟨h1, h2⟩ := mapM_at h
  refine ⟨h1, fun us j v u hr hv hu => ?_⟩
  obtain ⟨x, hx, hf⟩ := h2 j v hv
  exact ih x v u hf (hr j x u hx hu)
theorem ren_rep : ∀ (n : Nat) (v v' : AV) (u : Value), ren ks n v = some v' → Rep S w μ v u → Rep S w (gmu ks μ) v' u
  | 0, v, v', u, h, hr => by cases h
  | n + 1, v, v', u, h, hr => by
    have ih := ren_rep n
    cases v <;> simp only [ren] at h
    case val x => cases h; rw [hr.inv_val]; exact .val x
    case list fl sz es =>
      cases h
      cases hr with
      | list b off cap f hs hlen hc hr hcap hfull => exact .list b off cap f hs hlen hc hr hcap hfull
      | nil => exact .nil
      | empty a cap hf => exact .empty a cap hf
    case rop cs =>
      cases h
      cases hr with
      | rop b off f hs hc hr => exact .rop b off f hs hc hr
    case ptr r ver i j =>
      obtain ⟨r', h1, h⟩ := bind_some_iff h
      cases h
      cases hr with
      | ptr b sz hm => exact .ptr b sz (by unfold gmu; rw [pos_spec h1]; exact hm)
    case arr r ver off len =>
      obtain ⟨r', h1, h⟩ := bind_some_iff h
      cases h
      cases hr with
      | arr b sz cap hm hcap => exact .arr b sz cap (by unfold gmu; rw [pos_spec h1]; exact hm) hcap
    case agg cs =>
      obtain ⟨cs', h1, h⟩ := bind_some_iff h
      cases h
      cases hr with
      | agg vs hl hr =>
        obtain ⟨h2, h3⟩ := reps_ren ih h1
        exact .agg vs (hl.trans h2.symm) fun j v u => h3 vs j v u hr
    case tuple cs =>
      obtain ⟨cs', h1, h⟩ := bind_some_iff h
      cases h
      cases hr with
      | tuple vs hl hr =>
        obtain ⟨h2, h3⟩ := reps_ren ih h1
        exact .tuple vs (hl.trans h2.symm) fun j v u => h3 vs j v u hr
    case iface t x =>
      obtain ⟨x', h1, h⟩ := bind_some_iff h
      cases h
      cases hr with
      | iface hr => exact .iface (ih _ _ _ h1 hr)
    case func fn fs cs =>
      obtain ⟨fs', h1, h⟩ := bind_some_iff h
      obtain ⟨cs', h2, h⟩ := bind_some_iff h
      cases h
      cases hr with
      | func us vs hu hl hf hr =>
        obtain ⟨h3, h4⟩ := reps_ren ih h1
        obtain ⟨h5, h6⟩ := reps_ren ih h2
        exact .func us vs (hu.trans h3.symm) (hl.trans h5.symm) (fun j v u => h4 us j v u hf) fun j v u => h6 vs j v u hr
theorem mapM_id {n : Nat} (hn : ks.Nodup) (ih : ∀ (v v' : AV), (refs n v).all (fixedN ks) = true → ren ks n v = some v' → v' = v) : ∀ {cs cs' : List AV}, (cs.flatMap (refs n)).all (fixedN ks) = true → cs.mapM (ren ks n) = some cs' → cs' = cs
  | [], cs', hf, h => by simpa using h.symm
  | c :: cs, cs', hf, h => by
    rw [List.mapM_cons] at h
    obtain ⟨y, h1, h⟩ := bind_some_iff h
    obtain ⟨r, h2, h⟩ := bind_some_iff h
    cases h
    simp only [List.flatMap_cons, List.all_append, Bool.and_eq_true] at hf
    rw [ih c y hf.1 h1, mapM_id hn ih hf.2 h2]
theorem fixedN_pos (hn : ks.Nodup) {r i : Nat} (hf : fixedN ks r = true) (h : pos ks r = some i) : i = r := by
  unfold fixedN at hf
  split at hf
  · rename_i k hk
    obtain rfl := Nat.eq_of_beq_eq_true hf
    exact pos_nodup hn h hk
  · cases hf
theorem ren_id (hn : ks.Nodup) : ∀ (n : Nat) (v v' : AV), (refs n v).all (fixedN ks) = true → ren ks n v = some v' → v' = v
  | 0, v, v', hf, h => by cases h
  | n + 1, v, v', hf, h => by
    have ih := ren_id hn n
    cases v <;> simp only [ren] at h <;> simp only [refs] at hf
    case val x => cases h; rfl
    case list fl sz es => cases h; rfl
    case rop cs => cases h; rfl
    case ptr r ver i j =>
      obtain ⟨r', h1, h⟩ := bind_some_iff h
      cases h
      rw [fixedN_pos hn (by simpa using hf) h1]
    case arr r ver off len =>
      obtain ⟨r', h1, h⟩ := bind_some_iff h
      cases h
      rw [fixedN_pos hn (by simpa using hf) h1]
    case agg cs =>
      obtain ⟨cs', h1, h⟩ := bind_some_iff h
      cases h
      rw [mapM_id hn ih hf h1]
    case tuple cs =>
      obtain ⟨cs', h1, h⟩ := bind_some_iff h
      cases h
      rw [mapM_id hn ih hf h1]
    case iface t x =>
      obtain ⟨x', h1, h⟩ := bind_some_iff h
      cases h
      rw [ih _ _ hf h1]
    case func fn fs cs =>
      obtain ⟨fs', h1, h⟩ := bind_some_iff h
      obtain ⟨cs', h2, h⟩ := bind_some_iff h
      cases h
      simp only [List.all_append, Bool.and_eq_true] at hf
      rw [mapM_id hn ih hf.1 h1, mapM_id hn ih hf.2 h2]
theorem obren_rel {k i : Nat} {o o' : Ob} (hi : ks[i]? = some k) (h : Ob.ren ks o = some o') (ho : ObRel S w μ k o) : ObRel S w (gmu ks μ) i o' := by
  obtain ⟨b, vs, t, h1, h2, h3, h4, h5, h6, h7⟩ := ho.ex
  have hg : gmu ks μ i = some (b, o.sz) := by unfold gmu; rw [hi]; exact h1
  unfold Ob.ren at h
  split at h
  · rename_i hk
    obtain ⟨es, g1, g2⟩ := bind_some_iff h
    cases g2
    obtain ⟨g3, g4⟩ := mapM_at g1
    refine ⟨b, vs, t, hg, h2, h3, h4, by rw [g3]; exact h5, fun i e he => ?_, fun i j e v he hv => ?_⟩
    · obtain ⟨e0, k1, k2⟩ := g4 i e he
      rw [(mapM_at k2).1]
      exact h6 i e0 k1
    · obtain ⟨e0, k1, k2⟩ := g4 i e he
      obtain ⟨v0, k3, k4⟩ := (mapM_at k2).2 j v hv
      obtain ⟨u, k5, k6⟩ := h7 i j e0 v0 k1 k3
      refine ⟨u, k5, ?_⟩
      unfold Ob.mu at k6 ⊢
      simp only [hk] at k6 ⊢
      exact ren_rep 5 v0 v u k4 k6
  · rename_i hk
    cases h
    refine ⟨b, vs, t, hg, h2, h3, h4, h5, h6, fun i j e v he hv => ?_⟩
    obtain ⟨u, k5, k6⟩ := h7 i j e v he hv
    refine ⟨u, k5, ?_⟩
    unfold Ob.mu at k6 ⊢
    cases hkk : o.k <;> simp only [hkk] at k6 ⊢ <;> first
      | exact k6
      | exact absurd hkk hk
end
theorem look_zip2 : ∀ {ls : List Nat} {vs : List AV} {ws : List AV} {t : Nat} {v : AV}, look (ls.zip vs) t = some v → ∃ i : Nat, (∀ x, ws[i]? = some x → look (ls.zip ws) t = some x) ∧ vs[i]? = some v
  | [], vs, ws, t, v, h => by simp [look] at h
  | s :: ls, [], ws, t, v, h => by simp [look] at h
  | s :: ls, y :: vs, ws, t, v, h => by
    simp only [List.zip_cons_cons, look] at h
    split at h
    · rename_i hb
      cases h
      refine ⟨0, fun x hx => ?_, rfl⟩
      cases ws with
      | nil => simp at hx
      | cons z ws =>
        simp at hx
        subst hx
        simp only [List.zip_cons_cons, look, hb]
    · rename_i hb
      cases ws with
      | nil =>
        obtain ⟨i, h1, h2⟩ := look_zip2 (ws := []) h
        exact ⟨i + 1, fun x hx => by simp at hx, by simpa using h2⟩
      | cons z ws =>
        obtain ⟨i, h1, h2⟩ := look_zip2 (ws := ws) h
        refine ⟨i + 1, fun x hx => ?_, by simpa using h2⟩
        simp only [List.zip_cons_cons, look, hb]
        exact h1 x (by simpa using hx)
theorem gc_st {cx : Cx} {K : Kf} {N : Nat} {S : Nat → Prop} {μ : Mu} {h h' : Heap} {tmps : Array Value} {w : World} {ks : List Nat} {vs is vs' is' : List AV} {ls : List Nat} (hg : gc ks vs is h = some (vs', is', h'))
    (st : St cx K N S μ (ls.zip (vs ++ is)) h tmps w) : ∃ μ', St cx K N S μ' (ls.zip (vs' ++ is')) h' tmps w ∧ vs'.length = vs.length ∧ is'.length = is.length ∧ is' = is := by
  unfold gc at hg
  cases hnb : nodupL ks with
  | false => rw [hnb] at hg; cases hg
  | true =>
    have hn := nodupL_spec hnb
    rw [hnb] at hg
    simp only [cond_true] at hg
    obtain ⟨vs1, g1, hg⟩ := bind_some_iff hg
    obtain ⟨is1, g2, hg⟩ := bind_some_iff hg
    cases hfx : (is.all fun v => (refs 5 v).all (fixedN ks)) with
    | false => rw [hfx] at hg; cases hg
    | true =>
      rw [hfx] at hg
      simp only [cond_true] at hg
      obtain ⟨h1, g3, hg⟩ := bind_some_iff hg
      cases hg
      obtain ⟨l1, m1⟩ := mapM_at g1
      obtain ⟨l2, m2⟩ := mapM_at g2
      obtain ⟨l3, m3⟩ := mapM_at g3
      refine ⟨gmu ks μ, ?_, l1, l2, ?_⟩
      · refine ⟨st.size, fun t v ht => ?_, st.g, fun r o ho => ?_, fun r r' b s s' hr hr' => ?_, fun r x hx => ?_, fun r b s hr => ?_, st.s0, st.snew, st.slt, st.frame, st.le, st.os, st.tape, st.output⟩
        · obtain ⟨i, k1, k2⟩ := look_zip2 (ws := vs ++ is) ht
          have : ∃ x, (vs ++ is)[i]? = some x ∧ ren ks 5 x = some v := by
            by_cases hi : i < vs.length
            · rw [List.getElem?_append_left (by omega)] at k2
              obtain ⟨x, h2, h3⟩ := m1 i v k2
              exact ⟨x, by rw [List.getElem?_append_left hi]; exact h2, h3⟩
            · rw [List.getElem?_append_right (by omega)] at k2
              rw [l1] at k2
              obtain ⟨x, h2, h3⟩ := m2 _ v k2
              exact ⟨x, by rw [List.getElem?_append_right (by omega)]; exact h2, h3⟩
          obtain ⟨x, hx, hrx⟩ := this
          exact ren_rep 5 x v _ hrx (st.env t x (k1 x hx))
        · obtain ⟨k, hk, hko⟩ := m3 r o ho
          obtain ⟨o0, k1, k2⟩ := bind_some_iff hko
          exact obren_rel hk k2 (st.heap k o0 k1)
        · unfold gmu at hr hr'
          obtain ⟨x, hx, hr⟩ := bind_some_iff hr
          obtain ⟨y, hy, hr'⟩ := bind_some_iff hr'
          have := st.inj x y b s s' hr hr'
          subst this
          obtain ⟨a, b'⟩ := List.getElem?_eq_some_iff.1 hx
          obtain ⟨c, d⟩ := List.getElem?_eq_some_iff.1 hy
          exact (List.getElem_inj hn).1 (b'.trans d.symm)
        · unfold gmu at hx
          obtain ⟨y, hy, _⟩ := bind_some_iff hx
          have := (List.getElem?_eq_some_iff.1 hy).1
          omega
        · unfold gmu at hr
          obtain ⟨y, hy, hr⟩ := bind_some_iff hr
          exact st.own y b s hr
      · apply List.ext_getElem?
        intro i
        by_cases hi : i < is.length
        · have h5 : i < is'.length := by omega
          rw [List.getElem?_eq_getElem h5, List.getElem?_eq_getElem hi]
          obtain ⟨x, hx1, hx2⟩ := m2 i _ (List.getElem?_eq_getElem h5)
          rw [List.getElem?_eq_getElem hi] at hx1
          cases hx1
          rw [ren_id hn 5 _ _ (List.all_eq_true.1 hfx _ (List.getElem_mem hi)) hx2]
        · rw [List.getElem?_eq_none (by omega), List.getElem?_eq_none (by omega)]
end Go.Proofs.Av
