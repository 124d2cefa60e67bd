/- Drawn regions by the evaluator; weakened states; what a piece of code leaves alone. -/
import Derived.Test.YtogopainnioiiaaDoorAvM
namespace Go.Proofs.Av
open Go

/-- A later world in which the old blocks are as they were. -/
structure Later (w w' : World) : Prop where
  ext : Ext w w'
  le : w.heap.size ≤ w'.heap.size
  os : w'.os = w.os
  tape : w'.tape = w.tape
  output : w'.output = w.output
section
variable {cx : Cx} {F : EF} {K : Kf} {N : Nat} {S : Nat → Prop} {μ : Mu} {env : Env} {h : Heap} {a : Act} {w : World}
theorem St.later {tmps : Array Value} (st : St cx K N S μ env h tmps w) {w' : World} (hl : Later w w') : St cx K N S μ env h tmps w' :=
  st.ext hl.ext hl.le hl.os hl.tape hl.output (fun _ h => h) (fun _ h => .inl h) fun b hb => Nat.lt_of_lt_of_le (st.slt b hb) hl.le
theorem Later.trans {w1 w2 w3 : World} (h : Later w1 w2) (k : Later w2 w3) : Later w1 w3 :=
  ⟨fun b hb => (k.ext b (Nat.lt_of_lt_of_le hb h.le)).trans (h.ext b hb), Nat.le_trans h.le k.le, k.os.trans h.os, k.tape.trans h.tape, k.output.trans h.output⟩
/-- A quiet operation: one value in every later world. -/
theorem stepOp_quiet (hF : FnSound cx F) (st : St cx K N S μ env h a.tmps w) {o : Oper} {env' : Env} {h' : Heap} (hs : stepOp cx F N true o env h (fun e h => some (e, h)) = some (env', h')) :
    h' = h ∧ ∃ v, St cx K N S μ env' h (a.put o.dst v).tmps w ∧ ∀ w', Later w w' → o.quietAt cx.P a (Later w) w' v := by
  obtain ⟨dst, op, ty, pos, after, guard⟩ := o
  unfold stepOp at hs
  split at hs
  · rename_i t hq hop; cases hq
  · rename_i t x hq hop; cases hq
  · rename_i t p x hq hop; cases hq
  · rename_i fo args ts hop
    try simp only at hop
    subst hop
    obtain ⟨fv, h1, hs⟩ := bind_some_iff hs
    obtain ⟨vs, h2, hs⟩ := bind_some_iff hs
    obtain ⟨av, h3, h4⟩ := (callV_pkl (G := fun _ => F) (fun _ _ _ r hr => ⟨0, fun _ _ => hr⟩) cx true ty fv vs h _ _ _ hs)
    obtain ⟨env2, h5, h6⟩ := (putK_pk _ _ _ _).some h3
    cases h5
    have hcall := h4.1 _ some
    have at_ : ∀ w', Later w w' → ∃ fn first cap f vals, a.eval fo = .func fn first cap ∧ (invoke (.fn fn cap) (first ++ ((args.toList.map a.eval).toArray))).run cx.P w' = .ok (.enter f vals) w' ∧
        av.ground = true ∧ Calls cx.P f vals w' fun e w'' => ∃ cv S', e = .returned cv ∧ Rep S' w'' μ av cv ∧ Grown S w' S' w'' := by
      intro w' hl
      have st' := st.later hl
      obtain ⟨fn, first, cap, f, vals, e1, e2, e3, e4⟩ := callV_sem hF st' (opnd_sem st'.env st'.g h1) (opnds_sem st'.env st'.g h2) hcall
      exact ⟨fn, first, cap, f, vals, e1, e2, e3 rfl, e4⟩
    obtain ⟨_, _, _, f0, vals0, _, _, hg, hc0⟩ := at_ w ⟨Ext.refl w, Nat.le_refl _, rfl, rfl, rfl⟩
    obtain ⟨e0, w0, fr0, ⟨cv, S0, _, hrep, _⟩, _⟩ := hc0 []
    refine ⟨rfl, cv, st.putO rfl h6 (ground_rep hg hrep), fun w' hl => ?_⟩
    obtain ⟨fn, first, cap, f, vals, e1, e2, _, e4⟩ := at_ w' hl
    unfold Oper.quietAt
    have hrun : (execOp a.eval { dst := dst, op := .call { callee := .value fo, args, argTypes := ts }, type := ty, pos := pos, after := after, guard := guard }).run cx.P w' = .ok (.enter f vals) w' := by
      simp only [execOp, resolve, e1, Deferred.ofValue, Sem.run_bind, Sem.run_pure, Result.andThen_ok]
      have : (args.map a.eval) = (args.toList.map a.eval).toArray := by apply Array.ext'; simp
      rw [this]
      exact e2
    rw [hrun]
    refine ⟨rfl, e4.mono fun e w'' ⟨cv', S', g1, g2, g3⟩ => ⟨?_, hl.trans ⟨g3.ext, g3.le, g3.os, g3.tape, g3.output⟩⟩⟩
    rw [g1, ground_same hg hrep g2]
  · obtain ⟨av, h3, h4⟩ := (evalA_pk _ _ _ _).some hs
    obtain ⟨env2, h5, h6⟩ := (putK_pk _ _ _ _).some h3
    cases h5
    obtain ⟨v, h7, h8⟩ := evalA_sem st.env st.g st.heap (o := { dst, op, type := ty, pos, after, guard }) h4
    refine ⟨rfl, v, st.putO rfl h6 h7, fun w' hl => ?_⟩
    unfold Oper.quietAt
    rw [h8 w' hl.ext]
    exact ⟨rfl, rfl⟩
theorem runOps_quiet (hF : FnSound cx F) {ops : Array Oper} {Q : Act → Prop} : ∀ {l : List Oper} {env : Env} {h : Heap} {a : Act} {env' : Env} {h' : Heap}, St cx K N S μ env h a.tmps w →
    runOps cx F N true ops l env h (fun e h => some (e, h)) = some (env', h') → (∀ a', St cx K N S μ env' h' a'.tmps w → a'.defers = a.defers → Q a') → wpQuiet cx.P ops (Later w) Q l a
  | [], env, h, a, env', h', st, hr, hq => by
    simp only [runOps] at hr
    cases hr
    exact hq a st rfl
  | o :: rest, env, h, a, env', h', st, hr, hq => by
    simp only [runOps] at hr
    unfold wpQuiet
    have one : ∀ {env1 : Env} {h1 : Heap}, stepOp cx F N true o env h (fun e h => some (e, h)) = some (env1, h1) → runOps cx F N true ops rest env1 h1 (fun e h => some (e, h)) = some (env', h') →
        o.quiet cx.P a (Later w) (wpQuiet cx.P ops (Later w) Q rest) := fun h1 h2 => by
      obtain ⟨rfl, v, h3, h4⟩ := stepOp_quiet hF st h1
      exact ⟨v, h4, runOps_quiet hF h3 h2 fun a' st' hd => hq a' st' (hd.trans putK_defers)⟩
    have skip : ∀ {env1 : Env}, putK N o.dst (.val undef) env some = some env1 → runOps cx F N true ops rest env1 h (fun e h => some (e, h)) = some (env', h') → wpQuiet cx.P ops (Later w) Q rest (a.put o.dst undef) := fun h1 h2 =>
      runOps_quiet hF (st.putO rfl h1 (.val undef)) h2 fun a'' st'' hd' => hq a'' st'' (hd'.trans putK_defers)
    split at hr
    · rename_i hg
      obtain ⟨⟨env1, h1⟩, h2, h3, _⟩ := stepOp_pkl (G := fun _ => F) (fun _ _ _ r hr => ⟨0, fun _ _ => hr⟩) cx N true o env h _ (fun x => runOps cx F N true ops rest x.1 x.2 fun e h => some (e, h)) _ hr
      have hw : Region.wanted o (yielded ops a.tmps) = true := by unfold Region.wanted; rw [hg]
      rw [if_pos hw]
      exact one (h3 _ fun x => some x) h2
    · rename_i j want hg
      obtain ⟨d, h1, hr⟩ := bind_some_iff hr
      obtain ⟨v, h2, hr⟩ := bind_some_iff hr
      have hrep := st.env d v h2
      split at hr
      · rename_i b
        have hb : a.tmps[d]? = some (.bool b) := getD_some hrep.inv_val (by simp [undef])
        have hw : Region.wanted o (yielded ops a.tmps) = (b == want) := by
          unfold Region.wanted
          rw [hg]
          simp only [yielded_of h1 hb]
          cases b <;> cases want <;> rfl
        cases hbw : (b == want) with
        | true =>
          rw [hbw] at hr hw
          simp only [cond_true] at hr
          rw [if_pos hw]
          obtain ⟨⟨env1, h1⟩, h2, h3, _⟩ := stepOp_pkl (G := fun _ => F) (fun _ _ _ r hr => ⟨0, fun _ _ => hr⟩) cx N true o env h _ (fun x => runOps cx F N true ops rest x.1 x.2 fun e h => some (e, h)) _ hr
          exact one (h3 _ fun x => some x) h2
        | false =>
          rw [hbw] at hr hw
          simp only [cond_false] at hr
          rw [if_neg (by rw [hw]; simp)]
          obtain ⟨env1, h3, h4⟩ := (putK_pk _ _ _ _).some hr
          exact skip h4 h3
      · rename_i us
        have hne : Region.wanted o (yielded ops a.tmps) = false := by
          unfold Region.wanted
          rw [hg]
          have : yielded ops a.tmps j = none := by
            unfold gslot at h1
            unfold yielded
            rw [h1]
            simp only [Option.bind_some]
            have h5 := hrep.inv_val
            rw [Array.getD_eq_getD_getElem?] at h5
            cases hx : a.tmps[d]? with
            | none => rfl
            | some x => rw [hx] at h5; simp at h5; rw [h5]
          simp only [this]
          rfl
        rw [if_neg (by rw [hne]; simp)]
        obtain ⟨env1, h3, h4⟩ := (putK_pk _ _ _ _).some hr
        exact skip h4 h3
      · cases hr
theorem later_drawn (w : World) : Later w { w with drawn := w.drawn + 1 } := ⟨fun _ _ => rfl, Nat.le_refl _, rfl, rfl, rfl⟩
theorem later_refl (w : World) : Later w w := ⟨Ext.refl w, Nat.le_refl _, rfl, rfl, rfl⟩
/-- A region. -/
theorem region_wp (hF : FnSound cx F) (st : St cx K N S μ env h a.tmps w) {f : FuncId} {p : List Bool} {id : Nat} {ops : Array Oper} {draw : Bool} {e : JX} {env' : Env} {h' : Heap}
    (hr : run cx F f N (.region id ops draw) p env h (fun e env h => some (e, env, h)) = some (e, env', h')) {Q : Exit → Act → World → Prop}
    (hq : ∀ S' μ' a' w', St cx K N S' μ' env' h' a'.tmps w' → a'.defers = a.defers → Q .normal a' w') : e = .normal ∧ (Code.region id ops draw).wp cx.P Q a w := by
  cases draw with
  | false =>
    simp only [run] at hr
    obtain ⟨⟨env1, h1⟩, h2, h3, _⟩ := runOps_pkl (G := fun _ => F) (fun _ _ _ r hr => ⟨0, fun _ _ => hr⟩) cx N false ops ops.toList env h _ (fun x => some (JX.normal, x.1, x.2)) _ hr
    cases h2
    exact ⟨rfl, wp_region_list (runOps_wp hF st (h3 _ fun x => some x) hq)⟩
  | true =>
    simp only [run] at hr
    cases hc : qcheck cx ops with
    | false => rw [hc] at hr; cases hr
    | true =>
      rw [hc] at hr
      simp only [cond_true] at hr
      obtain ⟨⟨env1, h1⟩, h2, h3, _⟩ := runOps_pkl (G := fun _ => F) (fun _ _ _ r hr => ⟨0, fun _ _ => hr⟩) cx N true ops (ops.toList.take (quietN cx ops.toList)) env h _
        (fun x => runOps cx F N false ops (ops.toList.drop (quietN cx ops.toList)) x.1 x.2 fun e h => some (JX.normal, e, h)) _ hr
      obtain ⟨⟨env2, h2'⟩, h4, h5, _⟩ := runOps_pkl (G := fun _ => F) (fun _ _ _ r hr => ⟨0, fun _ _ => hr⟩) cx N false ops (ops.toList.drop (quietN cx ops.toList)) env1 h1 _ (fun x => some (JX.normal, x.1, x.2)) _ h2
      cases h4
      have st1 := st.later (later_drawn w)
      have hc1 : cx.P.follows .mixedOrders = true := by
        unfold qcheck at hc
        simp only [Bool.and_eq_true] at hc
        exact hc.1
      have hc2 : cond (Nat.blt (quietN cx ops.toList) ops.size) (Region.lexTailB .any ops (quietN cx ops.toList)) (Region.lexB .any ops) = true := by
        unfold qcheck at hc
        simp only [Bool.and_eq_true] at hc
        exact hc.2
      refine ⟨rfl, ?_⟩
      have tail : ∀ a', St cx K N S μ env1 h1 a'.tmps { w with drawn := w.drawn + 1 } → a'.defers = a.defers → ∀ w', Later { w with drawn := w.drawn + 1 } w' → wpList cx.P ops Q (ops.toList.drop (quietN cx ops.toList)) a' w' :=
        fun a' st' hd w' hl => runOps_wp hF (st'.later hl) (h5 _ fun x => some x) fun S' μ' a'' w'' st'' hd' => hq S' μ' a'' w'' st'' (hd'.trans hd)
      cases hb : Nat.blt (quietN cx ops.toList) ops.size with
      | true =>
        rw [hb] at hc2
        simp only [cond_true] at hc2
        exact wp_region_ahead (quietN cx ops.toList) hc1 hc2 (later_refl _) (runOps_quiet hF st1 (h3 _ fun x => some x) tail)
      | false =>
        rw [hb] at hc2
        simp only [cond_false] at hc2
        have hge : ops.toList.length ≤ quietN cx ops.toList := by
          rcases Nat.lt_or_ge (quietN cx ops.toList) ops.size with h | h
          · have h9 : Nat.blt (quietN cx ops.toList) ops.size = true := by rw [Nat.blt_eq]; exact h
            rw [h9] at hb; cases hb
          · simpa using h
        have htake : ops.toList.take (quietN cx ops.toList) = ops.toList := List.take_of_length_le hge
        have hdrop : ops.toList.drop (quietN cx ops.toList) = [] := List.drop_eq_nil_of_le hge
        rw [hdrop] at tail
        have h3' := h3 _ fun x => some x
        simp only [htake] at h3'
        refine wp_region_quiet (C := Later { w with drawn := w.drawn + 1 }) hc1 hc2 (later_refl _) (runOps_quiet hF st1 h3' fun a' st' hd w' hl => ?_)
        exact tail a' st' hd w' hl

/-! ### Slots -/
theorem getAll_spec : ∀ {ls : List Nat} {vs : List AV}, getAll env ls = some vs → vs.length = ls.length ∧ ∀ (i t : Nat) (v : AV), ls[i]? = some t → vs[i]? = some v → look env t = some v
  | [], vs, h => by cases h; exact ⟨rfl, fun i t v h => by simp at h⟩
  | t :: ts, vs, h => by
    simp only [getAll] at h
    obtain ⟨v, h1, h⟩ := bind_some_iff h
    obtain ⟨r, h2, h⟩ := bind_some_iff h
    cases h
    obtain ⟨h3, h4⟩ := getAll_spec h2
    refine ⟨by simp [h3], fun i t' v' ht hv => ?_⟩
    cases i with
    | zero => simp at ht hv; subst ht; subst hv; exact h1
    | succ i => exact h4 i t' v' (by simpa using ht) (by simpa using hv)
theorem look_zip : ∀ {ls : List Nat} {vs : List AV} {t : Nat} {v : AV}, look (ls.zip vs) t = some v → ∃ i : Nat, ls[i]? = some t ∧ vs[i]? = some v
  | [], vs, t, v, h => by simp [look] at h
  | s :: ls, [], t, v, h => by simp [look] at h
  | s :: ls, x :: vs, t, v, h => by
    simp only [List.zip_cons_cons, look] at h
    split at h
    · rename_i hb
      cases h
      exact ⟨0, by simp [Nat.eq_of_beq_eq_true hb], rfl⟩
    · obtain ⟨i, h1, h2⟩ := look_zip h
      exact ⟨i + 1, by simpa using h1, by simpa using h2⟩
theorem look_append {e1 e2 : Env} {t : Nat} {v : AV} (h : look (e1 ++ e2) t = some v) : look e1 t = some v ∨ look e2 t = some v := by
  induction e1 with
  | nil => exact .inr h
  | cons x e1 ih =>
    obtain ⟨s, y⟩ := x
    simp only [List.cons_append, look] at h ⊢
    split at h
    · exact .inl h
    · exact ih h
theorem EnvRel.sub {tmps : Array Value} {env2 : Env} (hE : EnvRel S w μ env tmps) (hs : ∀ t v, look env2 t = some v → ∃ v0, look env t = some v0 ∧ Wk v0 v) : EnvRel S w μ env2 tmps := fun t v ht =>
  let ⟨v0, h1, h2⟩ := hs t v ht
  h2 _ _ _ _ (hE t v0 h1)
theorem St.envSub {tmps : Array Value} {env2 : Env} (st : St cx K N S μ env h tmps w) (hs : ∀ t v, look env2 t = some v → ∃ v0, look env t = some v0 ∧ Wk v0 v) : St cx K N S μ env2 h tmps w :=
  { st with env := st.env.sub hs }
/-- Objects weakened. -/
structure ObWk (o1 o2 : Ob) : Prop where
  k : o2.k = o1.k
  sz : o2.sz = o1.sz
  len : o2.es.length ≤ o1.es.length
  es : ∀ (i : Nat) (e2 : List AV), o2.es[i]? = some e2 → ∃ e1, o1.es[i]? = some e1 ∧ Wks e1 e2 ∧ e2.length = e1.length
theorem ObWk.refl (o : Ob) : ObWk o o := ⟨rfl, rfl, Nat.le_refl _, fun i e h => ⟨e, h, Wks.refl _, rfl⟩⟩
theorem St.heapWk {tmps : Array Value} {h2 : Heap} (st : St cx K N S μ env h tmps w) (hl : h2.length = h.length) (hw : ∀ (r : Nat) (o2 : Ob), h2[r]? = some o2 → ∃ o1 : Ob, h[r]? = some o1 ∧ ObWk o1 o2) : St cx K N S μ env h2 tmps w := by
  refine { st with heap := fun r o2 ho2 => ?_, dom := fun r x hx => by rw [hl]; exact st.dom r x hx }
  obtain ⟨o1, ho1, hk⟩ := hw r o2 ho2
  obtain ⟨b, vs, t, g1, g2, g3, g4, g5, g6, g7⟩ := (st.heap r o1 ho1).ex
  have hmu : o2.mu μ = o1.mu μ := by unfold Ob.mu; rw [hk.k]
  refine ⟨b, vs, t, by rw [hk.sz]; exact g1, g2, fun h => g3 (hk.k ▸ h), fun h => g4 (hk.k ▸ h), ?_, fun i e2 he2 => ?_, fun i j e2 v2 he2 hv2 => ?_⟩
  · rw [hk.sz]
    exact Nat.le_trans (Nat.mul_le_mul_right _ hk.len) g5
  · obtain ⟨e1, he1, _, hlen⟩ := hk.es i e2 he2
    rw [hlen, hk.sz]
    exact g6 i e1 he1
  · obtain ⟨e1, he1, hwk, hlen⟩ := hk.es i e2 he2
    have hrow : Reps S w (o1.mu μ) e1 ((vs.toList.drop (i * o1.sz)).take o1.sz) := by
      have hel := g6 i e1 he1
      have hi := (List.getElem?_eq_some_iff.1 he1).1
      have hin : i * o1.sz + o1.sz ≤ vs.size := by
        have : (i + 1) * o1.sz ≤ o1.es.length * o1.sz := Nat.mul_le_mul_right _ hi
        rw [Nat.add_mul, Nat.one_mul] at this
        omega
      refine ⟨by simp [hel]; omega, fun k x y hx hy => ?_⟩
      obtain ⟨u', hu', hru'⟩ := g7 i k e1 x he1 hx
      rw [List.getElem?_take] at hy
      split at hy
      · rw [List.getElem?_drop] at hy
        simp only [Array.getElem?_toList] at hy
        rw [hu'] at hy
        cases hy
        exact hru'
      · cases hy
    obtain ⟨y, hy, hry⟩ := (hwk _ _ _ _ hrow).get hv2
    rw [List.getElem?_take] at hy
    split at hy
    · rw [List.getElem?_drop] at hy
      simp only [Array.getElem?_toList] at hy
      rw [hk.sz, hmu]
      exact ⟨y, hy, hry⟩
    · cases hy
theorem obwk_wk (o : Ob) : ObWk o o.wk := by
  unfold Ob.wk
  split
  · refine ⟨rfl, rfl, by simp, fun i e2 he => ?_⟩
    simp only [List.getElem?_map] at he
    cases hx : o.es[i]? with
    | none => rw [hx] at he; cases he
    | some e1 =>
      rw [hx] at he
      cases he
      exact ⟨e1, rfl, wks_map _ wk1_wk e1, by simp⟩
  · exact ObWk.refl o
theorem St.wkHeap {tmps : Array Value} (st : St cx K N S μ env h tmps w) : St cx K N S μ env (h.map Ob.wk) tmps w := by
  refine st.heapWk (by simp) fun r o2 ho => ?_
  simp only [List.getElem?_map] at ho
  cases hx : h[r]? with
  | none => rw [hx] at ho; cases ho
  | some o1 => rw [hx] at ho; cases ho; exact ⟨o1, rfl, obwk_wk o1⟩
end
end Go.Proofs.Av
