/- Drawn regions by the evaluator; weakened states; what a piece of code leaves alone. -/
import Derived.Test.YtoaihfbmoppajaaDoorAwNb
namespace Go.Proofs.Av
open Go

/-- A later world in which the old blocks are as they were. -/
structure Later (w w' : World) : Prop where
  ext : Ext w w'
  le : w.heap.size ≤ w'.heap.size
  os : w'.os = w.os
  tape : w'.tape = w.tape
  output : w'.output = w.output
section
variable {cx : Cx} {F : EF} {K : Kf} {N : Nat} {S : Nat → Prop} {μ : Mu} {env : Env} {h : Heap} {a : Act} {w : World}
theorem St.later {tmps : Array Value} (st : St cx K N S μ env h tmps w) {w' : World} (hl : Later w w') : St cx K N S μ env h tmps w' :=
  st.ext hl.ext hl.le hl.os hl.tape hl.output (fun _ h => h) (fun _ h => .inl h) fun b hb => Nat.lt_of_lt_of_le (st.slt b hb) hl.le
theorem Later.trans {w1 w2 w3 : World} (h : Later w1 w2) (k : Later w2 w3) : Later w1 w3 :=
  ⟨fun b hb => (k.ext b (Nat.lt_of_lt_of_le hb h.le)).trans (h.ext b hb), Nat.le_trans h.le k.le, k.os.trans h.os, k.tape.trans h.tape, k.output.trans h.output⟩
theorem later_drawn (w : World) : Later w { w with drawn := w.drawn + 1 } := ⟨fun _ _ => rfl, Nat.le_refl _, rfl, rfl, rfl⟩
theorem later_refl (w : World) : Later w w := ⟨Ext.refl w, Nat.le_refl _, rfl, rfl, rfl⟩
/-- A region. -/
theorem region_wp (hF : FnSound cx F) (st : St cx K N S μ env h a.tmps w) {f : FuncId} {p : List Bool} {id : Nat} {ops : Array Oper} {draw : Bool} {e : JX} {env' : Env} {h' : Heap}
    (hr : run cx F f N (.region id ops draw) p env h (fun e env h => some (e, env, h)) = some (e, env', h')) {Q : Exit → Act → World → Prop}
    (hq : ∀ S' μ' a' w', St cx K N S' μ' env' h' a'.tmps w' → a'.defers = a.defers → Q .normal a' w') : e = .normal ∧ (Code.region id ops draw).wp cx.P Q a w := by
  cases draw with
  | false =>
    simp only [run] at hr
    obtain ⟨⟨env1, h1⟩, h2, h3, _⟩ := runOps_pkl (G := fun _ => F) (fun _ _ _ r hr => ⟨0, fun _ _ => hr⟩) cx N false ops ops.toList env h _ (fun x => some (JX.normal, x.1, x.2)) _ hr
    cases h2
    exact ⟨rfl, wp_region_list (runOps_wp hF st (h3 _ fun x => some x) hq)⟩
  | true =>
    simp only [run] at hr
    cases hc : anyOk cx.P ops with
    | false => rw [hc] at hr; cases hr
    | true =>
      rw [hc] at hr
      simp only [cond_true] at hr
      obtain ⟨⟨env1, h1⟩, h2, h3, _⟩ := runAny_pkl (G := fun _ => F) (fun _ _ _ r hr => ⟨0, fun _ _ => hr⟩) cx N ops ops.toList env h _ (fun x => some (JX.normal, x.1, x.2)) _ hr
      cases h2
      exact ⟨rfl, region_any hF (st.later (later_drawn w)) hc (h3 _ fun x => some x) hq⟩

/-! ### Slots -/
theorem getAll_spec : ∀ {ls : List Nat} {vs : List AV}, getAll env ls = some vs → vs.length = ls.length ∧ ∀ (i t : Nat) (v : AV), ls[i]? = some t → vs[i]? = some v → look env t = some v
  | [], vs, h => by cases h; exact ⟨rfl, fun i t v h => by simp at h⟩
  | t :: ts, vs, h => by
    simp only [getAll] at h
    obtain ⟨v, h1, h⟩ := bind_some_iff h
    obtain ⟨r, h2, h⟩ := bind_some_iff h
    cases h
    obtain ⟨h3, h4⟩ := getAll_spec h2
    refine ⟨by simp [h3], fun i t' v' ht hv => ?_⟩
    cases i with
    | zero => simp at ht hv; subst ht; subst hv; exact h1
    | succ i => exact h4 i t' v' (by simpa using ht) (by simpa using hv)
theorem look_zip : ∀ {ls : List Nat} {vs : List AV} {t : Nat} {v : AV}, look (ls.zip vs) t = some v → ∃ i : Nat, ls[i]? = some t ∧ vs[i]? = some v
  | [], vs, t, v, h => by simp [look] at h
  | s :: ls, [], t, v, h => by simp [look] at h
  | s :: ls, x :: vs, t, v, h => by
    simp only [List.zip_cons_cons, look] at h
    split at h
    · rename_i hb
      cases h
      exact ⟨0, by simp [Nat.eq_of_beq_eq_true hb], rfl⟩
    · obtain ⟨i, h1, h2⟩ := look_zip h
      exact ⟨i + 1, by simpa using h1, by simpa using h2⟩
theorem look_append {e1 e2 : Env} {t : Nat} {v : AV} (h : look (e1 ++ e2) t = some v) : look e1 t = some v ∨ look e2 t = some v := by
  induction e1 with
  | nil => exact .inr h
  | cons x e1 ih =>
    obtain ⟨s, y⟩ := x
    simp only [List.cons_append, look] at h ⊢
    split at h
    · exact .inl h
    · exact ih h
theorem EnvRel.sub {tmps : Array Value} {env2 : Env} (hE : EnvRel S w μ env tmps) (hs : ∀ t v, look env2 t = some v → ∃ v0, look env t = some v0 ∧ Wk v0 v) : EnvRel S w μ env2 tmps := fun t v ht =>
  let ⟨v0, h1, h2⟩ := hs t v ht
  h2 _ _ _ _ (hE t v0 h1)
theorem St.envSub {tmps : Array Value} {env2 : Env} (st : St cx K N S μ env h tmps w) (hs : ∀ t v, look env2 t = some v → ∃ v0, look env t = some v0 ∧ Wk v0 v) : St cx K N S μ env2 h tmps w :=
  { st with env := st.env.sub hs }
/-- Objects weakened. -/
structure ObWk (o1 o2 : Ob) : Prop where
  k : o2.k = o1.k
  sz : o2.sz = o1.sz
  len : o2.es.length ≤ o1.es.length
  es : ∀ (i : Nat) (e2 : List AV), o2.es[i]? = some e2 → ∃ e1, o1.es[i]? = some e1 ∧ Wks e1 e2 ∧ e2.length = e1.length
theorem ObWk.refl (o : Ob) : ObWk o o := ⟨rfl, rfl, Nat.le_refl _, fun i e h => ⟨e, h, Wks.refl _, rfl⟩⟩
theorem St.heapWk {tmps : Array Value} {h2 : Heap} (st : St cx K N S μ env h tmps w) (hl : h2.length = h.length) (hw : ∀ (r : Nat) (o2 : Ob), h2[r]? = some o2 → ∃ o1 : Ob, h[r]? = some o1 ∧ ObWk o1 o2) : St cx K N S μ env h2 tmps w := by
  refine { st with heap := fun r o2 ho2 => ?_, dom := fun r x hx => by rw [hl]; exact st.dom r x hx }
  obtain ⟨o1, ho1, hk⟩ := hw r o2 ho2
  obtain ⟨b, vs, t, g1, g2, g3, g4, g5, g6, g7⟩ := (st.heap r o1 ho1).ex
  have hmu : o2.mu μ = o1.mu μ := by unfold Ob.mu; rw [hk.k]
  refine ⟨b, vs, t, by rw [hk.sz]; exact g1, g2, fun h => g3 (hk.k ▸ h), fun h => g4 (hk.k ▸ h), ?_, fun i e2 he2 => ?_, fun i j e2 v2 he2 hv2 => ?_⟩
  · rw [hk.sz]
    exact Nat.le_trans (Nat.mul_le_mul_right _ hk.len) g5
  · obtain ⟨e1, he1, _, hlen⟩ := hk.es i e2 he2
    rw [hlen, hk.sz]
    exact g6 i e1 he1
  · obtain ⟨e1, he1, hwk, hlen⟩ := hk.es i e2 he2
    have hrow : Reps S w (o1.mu μ) e1 ((vs.toList.drop (i * o1.sz)).take o1.sz) := by
      have hel := g6 i e1 he1
      have hi := (List.getElem?_eq_some_iff.1 he1).1
      have hin : i * o1.sz + o1.sz ≤ vs.size := by
        have : (i + 1) * o1.sz ≤ o1.es.length * o1.sz := Nat.mul_le_mul_right _ hi
        rw [Nat.add_mul, Nat.one_mul] at this
        omega
      refine ⟨by simp [hel]; omega, fun k x y hx hy => ?_⟩
      obtain ⟨u', hu', hru'⟩ := g7 i k e1 x he1 hx
      rw [List.getElem?_take] at hy
      split at hy
      · rw [List.getElem?_drop] at hy
        simp only [Array.getElem?_toList] at hy
        rw [hu'] at hy
        cases hy
        exact hru'
      · cases hy
    obtain ⟨y, hy, hry⟩ := (hwk _ _ _ _ hrow).get hv2
    rw [List.getElem?_take] at hy
    split at hy
    · rw [List.getElem?_drop] at hy
      simp only [Array.getElem?_toList] at hy
      rw [hk.sz, hmu]
      exact ⟨y, hy, hry⟩
    · cases hy
theorem obwk_wk (o : Ob) : ObWk o o.wk := by
  unfold Ob.wk
  split
  · refine ⟨rfl, rfl, by simp, fun i e2 he => ?_⟩
    simp only [List.getElem?_map] at he
    cases hx : o.es[i]? with
    | none => rw [hx] at he; cases he
    | some e1 =>
      rw [hx] at he
      cases he
      exact ⟨e1, rfl, wks_map _ wk1_wk e1, by simp⟩
  · exact ObWk.refl o
theorem St.wkHeap {tmps : Array Value} (st : St cx K N S μ env h tmps w) : St cx K N S μ env (h.map Ob.wk) tmps w := by
  refine st.heapWk (by simp) fun r o2 ho => ?_
  simp only [List.getElem?_map] at ho
  cases hx : h[r]? with
  | none => rw [hx] at ho; cases ho
  | some o1 => rw [hx] at ho; cases ho; exact ⟨o1, rfl, obwk_wk o1⟩
end
end Go.Proofs.Av
