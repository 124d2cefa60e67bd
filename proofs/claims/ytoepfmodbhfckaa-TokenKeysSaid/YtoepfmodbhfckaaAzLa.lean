/- Slots, weaker forms, objects by new numbers. -/
import Derived.Test.YtoepfmodbhfckaaAzL
import Derived.Test.YtoepfmodbhfckaaAzJe
namespace Go.Proofs.Av
open Go
section
variable {cx : Cx} {F : EF} {K : Kf} {N : Nat} {S : Nat → Prop} {μ : Mu} {env : Env} {h : Heap} {a : Act} {w : World}
/-! ### Slots -/
theorem getAll_spec : ∀ {ls : List Nat} {vs : List AV}, getAll env ls = some vs → vs.length = ls.length ∧ ∀ (i t : Nat) (v : AV), ls[i]? = some t → vs[i]? = some v → look env t = some v
  | [], vs, h => by cases h; exact ⟨rfl, fun i t v h => by simp at h⟩
  | t :: ts, vs, h => by
    simp only [getAll] at h
    obtain ⟨v, h1, h⟩ := bind_some_iff h
    obtain ⟨r, h2, h⟩ := bind_some_iff h
    cases h
    obtain ⟨h3, h4⟩ := getAll_spec h2
    refine ⟨by simp [h3], fun i t' v' ht hv => ?_⟩
    cases i with
    | zero => simp at ht hv; subst ht; subst hv; exact h1
    | succ i => exact h4 i t' v' (by simpa using ht) (by simpa using hv)
theorem look_zip : ∀ {ls : List Nat} {vs : List AV} {t : Nat} {v : AV}, look (ls.zip vs) t = some v → ∃ i : Nat, ls[i]? = some t ∧ vs[i]? = some v
  | [], vs, t, v, h => by simp [look] at h
  | s :: ls, [], t, v, h => by simp [look] at h
  | s :: ls, x :: vs, t, v, h => by
    simp only [List.zip_cons_cons, look] at h
    split at h
    · rename_i hb
      cases h
      exact ⟨0, by simp [Nat.eq_of_beq_eq_true hb], rfl⟩
    · obtain ⟨i, h1, h2⟩ := look_zip h
      exact ⟨i + 1, by simpa using h1, by simpa using h2⟩
theorem look_append {e1 e2 : Env} {t : Nat} {v : AV} (h : look (e1 ++ e2) t = some v) : look e1 t = some v ∨ look e2 t = some v := by
  induction e1 with
  | nil => exact .inr h
  | cons x e1 ih =>
    obtain ⟨s, y⟩ := x
    simp only [List.cons_append, look] at h ⊢
    split at h
    · exact .inl h
    · exact ih h
theorem EnvRel.sub {tmps : Array Value} {env2 : Env} (hE : EnvRel S w μ env tmps) (hs : ∀ t v, look env2 t = some v → ∃ v0, look env t = some v0 ∧ Wk v0 v) : EnvRel S w μ env2 tmps := fun t v ht =>
  let ⟨v0, h1, h2⟩ := hs t v ht
  h2 _ _ _ _ (hE t v0 h1)
theorem St.envSub {tmps : Array Value} {env2 : Env} (st : St cx K N S μ env h tmps w) (hs : ∀ t v, look env2 t = some v → ∃ v0, look env t = some v0 ∧ Wk v0 v) : St cx K N S μ env2 h tmps w :=
  { st with env := st.env.sub hs }
/-- Objects weakened. -/
structure ObWk (o1 o2 : Ob) : Prop where
  k : o2.k = o1.k
  t : o2.t = o1.t
  sz : o2.sz = o1.sz
  len : o2.es.length ≤ o1.es.length
  es : ∀ (i : Nat) (e2 : List AV), o2.es[i]? = some e2 → ∃ e1, o1.es[i]? = some e1 ∧ Wks e1 e2 ∧ e2.length = e1.length
theorem ObWk.refl (o : Ob) : ObWk o o := ⟨rfl, rfl, rfl, Nat.le_refl _, fun _i e h => ⟨e, h, Wks.refl _, rfl⟩⟩
theorem St.heapWk {tmps : Array Value} {h2 : Heap} (st : St cx K N S μ env h tmps w) (hl : h2.length = h.length) (hw : ∀ (r : Nat) (o2 : Ob), h2[r]? = some o2 → ∃ o1 : Ob, h[r]? = some o1 ∧ ObWk o1 o2) : St cx K N S μ env h2 tmps w := by
  have hal : ∀ r, alive h2 r → r < h.length → alive h r := fun r ha hr x hx => by
    have hr2 : r < h2.length := by omega
    obtain ⟨o1, ho1, hk⟩ := hw r h2[r] (List.getElem?_eq_getElem hr2)
    rw [hx] at ho1
    cases ho1
    rw [← hk.k]
    exact ha _ (List.getElem?_eq_getElem hr2)
  refine { st with heap := fun r o2 ho2 => ?_, dom := fun r x hx => by rw [hl]; exact st.dom r x hx, inj := fun r r' b s s' h1 h2 ha ha' => st.inj r r' b s s' h1 h2 (hal r ha (st.dom r _ h1)) (hal r' ha' (st.dom r' _ h2)) }
  obtain ⟨o1, ho1, hk⟩ := hw r o2 ho2
  have none_es : o1.es = [] → o2.es = [] := fun he => by
    have := hk.len
    rw [he] at this
    exact List.eq_nil_of_length_eq_zero (by simpa using this)
  rcases st.heap r o1 ho1 with ⟨d1, d2, d3⟩ | ⟨d1, d2, d3⟩ | ⟨d1, d2⟩
  · exact .inl ⟨hk.k.trans d1, none_es d2, fun b s C hx => by rw [hk.sz]; exact d3 b s C hx⟩
  · exact .inr (.inl ⟨hk.k.trans d1, none_es d2, d3⟩)
  refine .inr (.inr ⟨by rw [hk.k]; exact d1, ?_⟩)
  obtain ⟨b, vs, t, C, g1, g2, g3, g4, g5, g5', g6, g7⟩ := d2.ex
  have hmu : o2.mu μ = o1.mu μ := by unfold Ob.mu; rw [hk.k]
  refine ⟨b, vs, t, C, by rw [hk.sz]; exact g1, g2, fun h => g3 (hk.k ▸ h), fun h => g4 (hk.k ▸ h), ?_, fun h => by rw [hk.sz, hk.t]; exact g5' (hk.k ▸ h), fun i e2 he2 => ?_, fun i j e2 v2 he2 hv2 => ?_⟩
  · rw [hk.sz]
    exact Nat.le_trans (Nat.mul_le_mul_right _ hk.len) g5
  · obtain ⟨e1, he1, _, hlen⟩ := hk.es i e2 he2
    rw [hlen, hk.sz]
    exact g6 i e1 he1
  · obtain ⟨e1, he1, hwk, hlen⟩ := hk.es i e2 he2
    have hrow : Reps S w (o1.mu μ) e1 ((vs.toList.drop (i * o1.sz)).take o1.sz) := by
      have hel := g6 i e1 he1
      have hi := (List.getElem?_eq_some_iff.1 he1).1
      have hin : i * o1.sz + o1.sz ≤ vs.size := by
        have : (i + 1) * o1.sz ≤ o1.es.length * o1.sz := Nat.mul_le_mul_right _ hi
        rw [Nat.add_mul, Nat.one_mul] at this
        omega
      refine ⟨by simp [hel]; omega, fun k x y hx hy => ?_⟩
      obtain ⟨u', hu', hru'⟩ := g7 i k e1 x he1 hx
      rw [List.getElem?_take] at hy
      split at hy
      · rw [List.getElem?_drop] at hy
        simp only [Array.getElem?_toList] at hy
        rw [hu'] at hy
        cases hy
        exact hru'
      · cases hy
    obtain ⟨y, hy, hry⟩ := (hwk _ _ _ _ hrow).get hv2
    rw [List.getElem?_take] at hy
    split at hy
    · rw [List.getElem?_drop] at hy
      simp only [Array.getElem?_toList] at hy
      rw [hk.sz, hmu]
      exact ⟨y, hy, hry⟩
    · cases hy
theorem obwk_wk (o : Ob) : ObWk o o.wk := by
  unfold Ob.wk
  split
  · refine ⟨rfl, rfl, rfl, by simp, fun i e2 he => ?_⟩
    simp only [List.getElem?_map] at he
    cases hx : o.es[i]? with
    | none => rw [hx] at he; cases he
    | some e1 =>
      rw [hx] at he
      cases he
      exact ⟨e1, rfl, wks_map _ wk1_wk e1, by simp⟩
  · exact ObWk.refl o
theorem St.wkHeap {tmps : Array Value} (st : St cx K N S μ env h tmps w) : St cx K N S μ env (h.map Ob.wk) tmps w := by
  refine st.heapWk (by simp) fun r o2 ho => ?_
  simp only [List.getElem?_map] at ho
  cases hx : h[r]? with
  | none => rw [hx] at ho; cases ho
  | some o1 => rw [hx] at ho; cases ho; exact ⟨o1, rfl, obwk_wk o1⟩
end
theorem normT_wk {z v a : AV} (h : normT z v some = some a) : Wk v a := by
  unfold normT at h
  split at h
  · obtain ⟨n, h1, h2⟩ := bind_some_iff h; cases h2; rw [wk_int h1]; exact Wk.refl _
  · obtain ⟨n, h1, h2⟩ := bind_some_iff h; cases h2; rw [wk_bool h1]; exact Wk.refl _
  · obtain ⟨n, h1, h2⟩ := bind_some_iff h; cases h2; rw [wk_str h1]; exact Wk.refl _
  · obtain ⟨n, h1, h2⟩ := bind_some_iff h; cases h2; rw [wk_float h1]; exact Wk.refl _
  · obtain ⟨n, h1, h2⟩ := bind_some_iff h; cases h2; exact wk_list h1
  · obtain ⟨x, h1, h2⟩ := bind_some_iff h
    obtain ⟨_, h3, h2⟩ := bind_some_iff h2
    cases h2
    have h3 := chk_eq h3
    unfold AV.arr? at h1
    split at h1
    · split at h1
      · rename_i hr
        cases h1
        simp only at h3
        rw [hr, h3]
        exact Wk.refl _
      · cases h1
    · cases h1
  · cases h; exact Wk.refl _
theorem normTs_wk : ∀ {zs cs as : List AV}, normTs zs cs some = some as → Wks cs as ∧ as.length = cs.length
  | [], cs, as, h => by
    simp only [normTs] at h
    obtain ⟨u, h1, h2⟩ := bind_some_iff h
    cases h2
    rw [nil_eq h1]
    exact ⟨Wks.refl _, rfl⟩
  | z :: zs, cs, as, h => by
    simp only [normTs] at h
    obtain ⟨p, h1, h2⟩ := bind_some_iff h
    obtain ⟨x, h3, h4⟩ := (normT_pk z p.1).some h2
    obtain ⟨r, h5, h6⟩ := (normTs_pk zs p.2).some h3
    cases h5
    rw [uncons_eq h1]
    exact ⟨Wks.cons (normT_wk h4) (normTs_wk h6).1, by simp [(normTs_wk h6).2]⟩
theorem normN_wk {z v a : AV} (h : normN z v some = some a) : Wk v a := by
  unfold normN at h
  split at h
  · obtain ⟨_, h1, h⟩ := bind_some_iff h
    cases h
    unfold AV.nilS? at h1
    split at h1
    · exact Wk.refl _
    · cases h1
  · exact normT_wk h
theorem normNs_wk : ∀ {zs cs as : List AV}, normNs zs cs some = some as → Wks cs as ∧ as.length = cs.length
  | [], cs, as, h => by
    simp only [normNs] at h
    obtain ⟨u, h1, h2⟩ := bind_some_iff h
    cases h2
    rw [nil_eq h1]
    exact ⟨Wks.refl _, rfl⟩
  | z :: zs, cs, as, h => by
    simp only [normNs] at h
    obtain ⟨p, h1, h2⟩ := bind_some_iff h
    obtain ⟨x, h3, h4⟩ := (normN_pk z p.1).some h2
    obtain ⟨r, h5, h6⟩ := (normNs_pk zs p.2).some h3
    cases h5
    rw [uncons_eq h1]
    exact ⟨Wks.cons (normN_wk h4) (normNs_wk h6).1, by simp [(normNs_wk h6).2]⟩
theorem normA_wk {z v a : AV} (h : normA z v some = some a) : Wk v a := by
  unfold normA at h
  split at h
  · obtain ⟨cs, h1, h2⟩ := bind_some_iff h
    obtain ⟨as, h3, h4⟩ := (normTs_pk _ cs).some h2
    cases h3
    rw [wk_cells h1]
    intro S w μ u hu
    obtain ⟨vs, rfl, hvs⟩ := hu.inv_agg
    have := Rep.of_agg ((normTs_wk h4).1 S w μ _ hvs)
    simpa using this
  · exact normT_wk h
theorem normAs_wk : ∀ {zs cs as : List AV}, normAs zs cs some = some as → as.length = cs.length ∧ ∀ (i : Nat) (a : AV), as[i]? = some a → ∃ c, cs[i]? = some c ∧ Wk c a
  | [], cs, as, h => by
    simp only [normAs] at h
    obtain ⟨u, h1, h2⟩ := bind_some_iff h
    cases h2
    rw [nil_eq h1]
    exact ⟨rfl, fun i a h => by simp at h⟩
  | z :: zs, cs, as, h => by
    simp only [normAs] at h
    obtain ⟨p, h1, h2⟩ := bind_some_iff h
    obtain ⟨x, h3, h4⟩ := (normA_pk z p.1).some h2
    obtain ⟨r, h5, h6⟩ := (normAs_pk zs p.2).some h3
    cases h5
    obtain ⟨h7, h8⟩ := normAs_wk h6
    rw [uncons_eq h1]
    refine ⟨by simp [h7], fun i a ha => ?_⟩
    cases i with
    | zero => simp at ha; subst ha; exact ⟨_, rfl, normA_wk h4⟩
    | succ i => exact h8 i a (by simpa using ha)
theorem normOb_wk {z o o' : Ob} (h : normOb z o some = some o') : ObWk o o' := by
  unfold normOb at h
  obtain ⟨_, h1, h⟩ := bind_some_iff h
  have hz : o.k = z.k ∧ o.t = z.t ∧ o.sz = z.sz := by
    unfold obIs at h1
    split at h1
    · assumption
    · cases h1
  obtain ⟨_, hver, h⟩ := bind_some_iff h
  split at h
  · split at h
    · cases h
      exact ⟨hz.1.symm, hz.2.1.symm, hz.2.2.symm, Nat.le_refl _, fun i e he => ⟨e, he, Wks.refl _, rfl⟩⟩
    · obtain ⟨p, h2, h⟩ := bind_some_iff h
      obtain ⟨_, h3, h⟩ := bind_some_iff h
      obtain ⟨cs', h4, h5⟩ := (normNs_pk _ _).some h
      cases h4
      have hes : o.es = [p.1] := by rw [uncons_eq h2, nil_eq h3]
      refine ⟨hz.1.symm, hz.2.1.symm, hz.2.2.symm, by rw [hes]; simp, fun i e he => ?_⟩
      cases i with
      | zero =>
        simp at he
        subst he
        exact ⟨p.1, by rw [hes]; rfl, (normNs_wk h5).1, (normNs_wk h5).2⟩
      | succ i => simp at he
  · cases h
    exact ⟨hz.1.symm, hz.2.1.symm, hz.2.2.symm, Nat.le_refl _, fun i e he => ⟨e, he, Wks.refl _, rfl⟩⟩
theorem normHeap_wk : ∀ {zs h h' : Heap}, normHeap zs h some = some h' → h'.length = h.length ∧ ∀ (r : Nat) (o2 : Ob), h'[r]? = some o2 → ∃ o1 : Ob, h[r]? = some o1 ∧ ObWk o1 o2
  | [], cs, as, h => by
    simp only [normHeap] at h
    obtain ⟨u, h1, h2⟩ := bind_some_iff h
    cases h2
    rw [nil_eq h1]
    exact ⟨rfl, fun i a h => by simp at h⟩
  | z :: zs, cs, as, h => by
    simp only [normHeap] at h
    obtain ⟨p, h1, h2⟩ := bind_some_iff h
    obtain ⟨x, h3, h4⟩ := (normOb_pk z p.1).some h2
    obtain ⟨r, h5, h6⟩ := (normHeap_pk zs p.2).some h3
    cases h5
    obtain ⟨h7, h8⟩ := normHeap_wk h6
    rw [uncons_eq h1]
    refine ⟨by simp [h7], fun i a ha => ?_⟩
    cases i with
    | zero => simp at ha; subst ha; exact ⟨_, rfl, normOb_wk h4⟩
    | succ i => exact h8 i a (by simpa using ha)

theorem any_beq {s : Nat} {l : List Nat} : l.any (Nat.beq s) = true ↔ s ∈ l := by
  rw [List.any_eq_true]
  constructor
  · rintro ⟨x, hx, hb⟩
    rw [Nat.eq_of_beq_eq_true hb]; exact hx
  · exact fun h => ⟨s, h, Nat.beq_refl s⟩
theorem nodupL_spec : ∀ {l : List Nat}, nodupL l = true → l.Nodup
  | [], h => List.nodup_nil
  | x :: xs, h => by
    simp only [nodupL, Bool.and_eq_true] at h
    refine List.nodup_cons.2 ⟨fun hx => ?_, nodupL_spec h.2⟩
    have := h.1
    rw [any_beq.2 hx] at this
    cases this
theorem mapM_at {α β : Type} {f : α → Option β} : ∀ {l : List α} {l' : List β}, l.mapM f = some l' → l'.length = l.length ∧ ∀ (i : Nat) (y : β), l'[i]? = some y → ∃ x, l[i]? = some x ∧ f x = some y
  | [], l', h => by
    have : l' = [] := by simpa using h.symm
    subst this
    exact ⟨rfl, fun i y h => by simp at h⟩
  | x :: l, l', h => by
    rw [List.mapM_cons] at h
    obtain ⟨y, h1, h⟩ := bind_some_iff h
    obtain ⟨r, h2, h⟩ := bind_some_iff h
    cases h
    obtain ⟨h3, h4⟩ := mapM_at h2
    refine ⟨by simp [h3], fun i z hz => ?_⟩
    cases i with
    | zero => simp at hz; subst hz; exact ⟨x, rfl, h1⟩
    | succ i => exact h4 i z (by simpa using hz)
theorem pos_spec : ∀ {ks : List Nat} {r i : Nat}, pos ks r = some i → ks[i]? = some r
  | [], r, i, h => by cases h
  | k :: ks, r, i, h => by
    simp only [pos] at h
    split at h
    · rename_i hb
      cases h
      simp [Nat.eq_of_beq_eq_true hb]
    · obtain ⟨j, h1, h⟩ := bind_some_iff h
      cases h
      simpa using pos_spec h1
theorem pos_nodup {ks : List Nat} (hn : ks.Nodup) {r i j : Nat} (h : pos ks r = some i) (hj : ks[j]? = some r) : i = j := by
  have hi := pos_spec h
  obtain ⟨a, b⟩ := List.getElem?_eq_some_iff.1 hi
  obtain ⟨c, d⟩ := List.getElem?_eq_some_iff.1 hj
  exact (List.getElem_inj hn).1 (b.trans d.symm)
/-- Where the objects lie, by new numbers. -/
def gmu (ks : List Nat) (μ : Mu) : Mu := fun i => (ks[i]?).bind μ
section
variable {S : Nat → Prop} {w : World} {μ : Mu} {ks : List Nat}
theorem reps_ren {n : Nat} (ih : ∀ (v v' : AV) (u : Value), ren ks n v = some v' → Rep S w μ v u → Rep S w (gmu ks μ) v' u) {cs cs' : List AV} (h : cs.mapM (ren ks n) = some cs') :
    cs'.length = cs.length ∧ ∀ (us : Array Value) (j : Nat) (v : AV) (u : Value), (∀ (j : Nat) (v : AV) (u : Value), cs[j]? = some v → us[j]? = some u → Rep S w μ v u) → cs'[j]? = some v → us[j]? = some u → Rep S w (gmu ks μ) v u := by
  obtain ⟨h1, h2⟩ := mapM_at h
  refine ⟨h1, fun us j v u hr hv hu => ?_⟩
  obtain ⟨x, hx, hf⟩ := h2 j v hv
  exact ih x v u hf (hr j x u hx hu)
theorem ren_rep : ∀ (n : Nat) (v v' : AV) (u : Value), ren ks n v = some v' → Rep S w μ v u → Rep S w (gmu ks μ) v' u
  | 0, v, v', u, h, hr => by cases h
  | n + 1, v, v', u, h, hr => by
    have ih := ren_rep n
    cases v <;> simp only [ren] at h
    case val x => cases h; rw [hr.inv_val]; exact .val x
    case list fl sz es =>
      cases h
      cases hr with
      | list b off cap f hs hlen hc hr hcap hfull => exact .list b off cap f hs hlen hc hr hcap hfull
      | nil => exact .nil
      | empty a cap hf => exact .empty a cap hf
    case rop cs =>
      cases h
      cases hr with
      | rop b off f hs hc hr => exact .rop b off f hs hc hr
    case ptr r ver i j =>
      obtain ⟨r', h1, h⟩ := bind_some_iff h
      cases h
      cases hr with
      | ptr b sz C hm => exact .ptr b sz C (by unfold gmu; rw [pos_spec h1]; exact hm)
    case arr r ver off len =>
      obtain ⟨r', h1, h⟩ := bind_some_iff h
      cases h
      cases hr with
      | anil => exact .anil
      | arr0 a ha => exact .arr0 a ha
      | arr b cap hm hcap => exact .arr b cap (by unfold gmu; rw [pos_spec h1]; exact hm) hcap
    case agg cs =>
      obtain ⟨cs', h1, h⟩ := bind_some_iff h
      cases h
      cases hr with
      | agg vs hl hr =>
        obtain ⟨h2, h3⟩ := reps_ren ih h1
        exact .agg vs (hl.trans h2.symm) fun j v u => h3 vs j v u hr
    case tuple cs =>
      obtain ⟨cs', h1, h⟩ := bind_some_iff h
      cases h
      cases hr with
      | tuple vs hl hr =>
        obtain ⟨h2, h3⟩ := reps_ren ih h1
        exact .tuple vs (hl.trans h2.symm) fun j v u => h3 vs j v u hr
    case iface t x =>
      obtain ⟨x', h1, h⟩ := bind_some_iff h
      cases h
      cases hr with
      | iface hr => exact .iface (ih _ _ _ h1 hr)
    case func fn fs cs =>
      obtain ⟨fs', h1, h⟩ := bind_some_iff h
      obtain ⟨cs', h2, h⟩ := bind_some_iff h
      cases h
      cases hr with
      | func us vs hu hl hf hr =>
        obtain ⟨h3, h4⟩ := reps_ren ih h1
        obtain ⟨h5, h6⟩ := reps_ren ih h2
        exact .func us vs (hu.trans h3.symm) (hl.trans h5.symm) (fun j v u => h4 us j v u hf) fun j v u => h6 vs j v u hr
theorem mapM_id {n : Nat} (hn : ks.Nodup) (ih : ∀ (v v' : AV), (refs n v).all (fixedN ks) = true → ren ks n v = some v' → v' = v) : ∀ {cs cs' : List AV}, (cs.flatMap (refs n)).all (fixedN ks) = true → cs.mapM (ren ks n) = some cs' → cs' = cs
  | [], cs', hf, h => by simpa using h.symm
  | c :: cs, cs', hf, h => by
    rw [List.mapM_cons] at h
    obtain ⟨y, h1, h⟩ := bind_some_iff h
    obtain ⟨r, h2, h⟩ := bind_some_iff h
    cases h
    simp only [List.flatMap_cons, List.all_append, Bool.and_eq_true] at hf
    rw [ih c y hf.1 h1, mapM_id hn ih hf.2 h2]
theorem fixedN_pos (hn : ks.Nodup) {r i : Nat} (hf : fixedN ks r = true) (h : pos ks r = some i) : i = r := by
  unfold fixedN at hf
  split at hf
  · rename_i k hk
    obtain rfl := Nat.eq_of_beq_eq_true hf
    exact pos_nodup hn h hk
  · cases hf
theorem ren_id (hn : ks.Nodup) : ∀ (n : Nat) (v v' : AV), (refs n v).all (fixedN ks) = true → ren ks n v = some v' → v' = v
  | 0, v, v', hf, h => by cases h
  | n + 1, v, v', hf, h => by
    have ih := ren_id hn n
    cases v <;> simp only [ren] at h <;> simp only [refs] at hf
    case val x => cases h; rfl
    case list fl sz es => cases h; rfl
    case rop cs => cases h; rfl
    case ptr r ver i j =>
      obtain ⟨r', h1, h⟩ := bind_some_iff h
      cases h
      rw [fixedN_pos hn (by simpa using hf) h1]
    case arr r ver off len =>
      obtain ⟨r', h1, h⟩ := bind_some_iff h
      cases h
      rw [fixedN_pos hn (by simpa using hf) h1]
    case agg cs =>
      obtain ⟨cs', h1, h⟩ := bind_some_iff h
      cases h
      rw [mapM_id hn ih hf h1]
    case tuple cs =>
      obtain ⟨cs', h1, h⟩ := bind_some_iff h
      cases h
      rw [mapM_id hn ih hf h1]
    case iface t x =>
      obtain ⟨x', h1, h⟩ := bind_some_iff h
      cases h
      rw [ih _ _ hf h1]
    case func fn fs cs =>
      obtain ⟨fs', h1, h⟩ := bind_some_iff h
      obtain ⟨cs', h2, h⟩ := bind_some_iff h
      cases h
      simp only [List.all_append, Bool.and_eq_true] at hf
      rw [mapM_id hn ih hf.1 h1, mapM_id hn ih hf.2 h2]
theorem obren_rel {k i : Nat} {o o' : Ob} (hi : ks[i]? = some k) (h : Ob.ren ks o = some o') (ho : ObRel S w μ k o) : ObRel S w (gmu ks μ) i o' := by
  obtain ⟨b, vs, t, C, h1, h2, h3, h4, h5, h5', h6, h7⟩ := ho.ex
  have hg : gmu ks μ i = some (b, o.sz, C) := by unfold gmu; rw [hi]; exact h1
  unfold Ob.ren at h
  split at h
  · rename_i hk
    obtain ⟨es, g1, g2⟩ := bind_some_iff h
    cases g2
    obtain ⟨g3, g4⟩ := mapM_at g1
    refine ⟨b, vs, t, C, hg, h2, h3, h4, by rw [g3]; exact h5, h5', fun i e he => ?_, fun i j e v he hv => ?_⟩
    · obtain ⟨e0, k1, k2⟩ := g4 i e he
      rw [(mapM_at k2).1]
      exact h6 i e0 k1
    · obtain ⟨e0, k1, k2⟩ := g4 i e he
      obtain ⟨v0, k3, k4⟩ := (mapM_at k2).2 j v hv
      obtain ⟨u, k5, k6⟩ := h7 i j e0 v0 k1 k3
      refine ⟨u, k5, ?_⟩
      unfold Ob.mu at k6 ⊢
      simp only [hk] at k6 ⊢
      exact ren_rep 5 v0 v u k4 k6
  · rename_i hk
    cases h
    refine ⟨b, vs, t, C, hg, h2, h3, h4, h5, h5', h6, fun i j e v he hv => ?_⟩
    obtain ⟨u, k5, k6⟩ := h7 i j e v he hv
    refine ⟨u, k5, ?_⟩
    unfold Ob.mu at k6 ⊢
    cases hkk : o.k <;> simp only [hkk] at k6 ⊢ <;> first
      | exact k6
      | exact absurd hkk hk
end
theorem obren_form {ks : List Nat} {o o' : Ob} (h : Ob.ren ks o = some o') : o'.k = o.k ∧ o'.sz = o.sz ∧ o'.t = o.t ∧ (o.es = [] → o'.es = []) := by
  unfold Ob.ren at h
  split at h
  · obtain ⟨es, g1, g2⟩ := bind_some_iff h
    cases g2
    refine ⟨rfl, rfl, rfl, fun he => ?_⟩
    rw [he] at g1
    simpa using g1.symm
  · cases h
    exact ⟨rfl, rfl, rfl, fun h => h⟩
theorem obren_obr {S : Nat → Prop} {w : World} {μ : Mu} {ks : List Nat} {k i : Nat} {o o' : Ob} (hi : ks[i]? = some k) (h : Ob.ren ks o = some o') (ho : ObR S w μ k o) : ObR S w (gmu ks μ) i o' := by
  obtain ⟨f1, f2, f3, f4⟩ := obren_form h
  have hg : gmu ks μ i = μ k := by unfold gmu; rw [hi]; rfl
  rcases ho with ⟨d1, d2, d3⟩ | ⟨d1, d2, d3⟩ | ⟨d1, d2⟩
  · exact .inl ⟨f1.trans d1, f4 d2, fun b s C hx => by rw [hg] at hx; rw [f2]; exact d3 b s C hx⟩
  · exact .inr (.inl ⟨f1.trans d1, f4 d2, hg.trans d3⟩)
  · exact .inr (.inr ⟨by rw [f1]; exact d1, obren_rel hi h d2⟩)
theorem alive_gc {ks : List Nat} {h h' : Heap} (l3 : h'.length = ks.length) (m3 : ∀ (i : Nat) (y : Ob), h'[i]? = some y → ∃ k, ks[i]? = some k ∧ (h[k]?).bind (Ob.ren ks) = some y) {r x : Nat} (hx : ks[r]? = some x) (ha : alive h' r) : alive h x := fun o ho hd => by
  have hr := (List.getElem?_eq_some_iff.1 hx).1
  have hr' : r < h'.length := by omega
  obtain ⟨k, hk, hko⟩ := m3 r h'[r] (List.getElem?_eq_getElem hr')
  rw [hx] at hk
  cases hk
  obtain ⟨o0, g1, g2⟩ := bind_some_iff hko
  rw [ho] at g1
  cases g1
  exact ha _ (List.getElem?_eq_getElem hr') ((obren_form g2).1.trans hd)
theorem look_zip2 : ∀ {ls : List Nat} {vs : List AV} {ws : List AV} {t : Nat} {v : AV}, look (ls.zip vs) t = some v → ∃ i : Nat, (∀ x, ws[i]? = some x → look (ls.zip ws) t = some x) ∧ vs[i]? = some v
  | [], vs, ws, t, v, h => by simp [look] at h
  | s :: ls, [], ws, t, v, h => by simp [look] at h
  | s :: ls, y :: vs, ws, t, v, h => by
    simp only [List.zip_cons_cons, look] at h
    split at h
    · rename_i hb
      cases h
      refine ⟨0, fun x hx => ?_, rfl⟩
      cases ws with
      | nil => simp at hx
      | cons z ws =>
        simp at hx
        subst hx
        simp only [List.zip_cons_cons, look, hb]
    · rename_i hb
      cases ws with
      | nil =>
        obtain ⟨i, h1, h2⟩ := look_zip2 (ws := []) h
        exact ⟨i + 1, fun x hx => by simp at hx, by simpa using h2⟩
      | cons z ws =>
        obtain ⟨i, h1, h2⟩ := look_zip2 (ws := ws) h
        refine ⟨i + 1, fun x hx => ?_, by simpa using h2⟩
        simp only [List.zip_cons_cons, look, hb]
        exact h1 x (by simpa using hx)
end Go.Proofs.Av
