/- The evaluator is sound: what it tells of a function is what the machine's call does. -/
import Derived.Test.YtoaihfbmoppajaaAxP
namespace Go.Proofs.Av
open Go

/-- No function bears the name that the model itself answers. -/
def NamesOk (P : Program) : Prop := ∀ (f : Nat) (fn : Func), P.funcs[f]? = some fn → (fn.name == "runtime.NumGoroutine") = false
section
variable {cx : Cx} {F : EF} {K : Kf} {N : Nat} {S : Nat → Prop} {μ : Mu} {env : Env} {h : Heap} {w : World} {tmps : Array Value}
theorem resultOf_sem (st : St cx K N S μ env h tmps w) {r : ResultVar} {av : AV} (hr : resultOf cx env h r = some av) :
    ∃ v, Rep S w μ av v ∧ (match r with | .tmp t => pure (tmps.getD t undef) | .cell a t => (do loadVar t (← asAddr (tmps.getD a undef))) : Sem Value).run cx.P w = .ok v w := by
  cases r with
  | tmp t =>
    simp only [resultOf] at hr
    exact ⟨_, st.env t av hr, rfl⟩
  | cell a t =>
    simp only [resultOf] at hr
    obtain ⟨p, h1, hr⟩ := bind_some_iff hr
    obtain ⟨cs, h2, h3⟩ := (cellsAt_pk _ _ _).some hr
    obtain ⟨b, off, h4, h5⟩ := cellsAt_sem st.heap (st.env a p h1) h3
    obtain ⟨v, h6, h7⟩ := loadC_sem h5 h2
    refine ⟨v, h6, ?_⟩
    simp [h4, asAddr, h7 w (Ext.refl w)]
theorem resultsOf_sem (st : St cx K N S μ env h tmps w) : ∀ {rs : List ResultVar} {as : List AV}, resultsOf cx env h rs = some as →
    ∃ vs, Reps S w μ as vs ∧ (rs.mapM fun
      | ResultVar.tmp t => (pure (tmps.getD t undef) : Sem Value)
      | .cell a t => do loadVar t (← asAddr (tmps.getD a undef))).run cx.P w = .ok vs w
  | [], as, hr => by cases hr; exact ⟨[], .nil, rfl⟩
  | r :: rs, as, hr => by
    simp only [resultsOf] at hr
    obtain ⟨x, h1, hr⟩ := bind_some_iff hr
    obtain ⟨xs, h2, hr⟩ := bind_some_iff hr
    cases hr
    obtain ⟨v, h3, h4⟩ := resultOf_sem st h1
    obtain ⟨vs, h5, h6⟩ := resultsOf_sem st h2
    refine ⟨v :: vs, h5.cons h3, ?_⟩
    rw [List.mapM_cons]
    simp only [Sem.run_bind, h6]
    cases r <;> simp only [h4, Result.andThen_ok, Sem.run_pure, h6]
theorem results_sem (st : St cx K N S μ env h tmps w) {fn : Func} {as as' : List AV} (hr : resultsOf cx env h fn.results.toList = some as) (hv : viewArgs h as = some as') :
    ∃ v S', (results fn tmps).run cx.P w = .ok v w ∧ Rep S' w Mu.none (oneOf as') v ∧ (∀ b, S b → S' b) ∧ (∀ b, S' b → S b ∨ ∃ r s, μ r = some (b, s)) := by
  obtain ⟨vs, h1, h2⟩ := resultsOf_sem st hr
  have h3 := viewArgs_sem (T := fun b => S b ∨ ∃ r s, μ r = some (b, s)) (fun b hb => .inl hb) st.heap (.inr fun r b s hb => .inr ⟨r, s, hb⟩) hv h1
  refine ⟨if hs : vs.toArray.size = 1 then vs.toArray[0] else .tuple vs.toArray, fun b => S b ∨ ∃ r s, μ r = some (b, s), ?_, ?_, fun b hb => .inl hb, fun b hb => hb⟩
  · unfold results
    rw [Array.mapM_eq_mapM_toList]
    simp only [Sem.run_bind, Sem.run_map, Sem.run_pure]
    exact (congrArg (fun r : Result (List Value) => (r.andThen fun a w' => Result.ok a.toArray w').andThen fun a w' => Result.ok (if h : a.size = 1 then a[0] else Value.tuple a) w') h2).trans rfl
  · cases as' with
    | nil =>
      have := h3.inv_nil
      subst this
      exact .tuple #[] rfl fun j v u hv => by simp at hv
    | cons x xs =>
      obtain ⟨v, r, rfl, h4, h5⟩ := h3.inv_cons
      cases xs with
      | nil =>
        have := h5.inv_nil
        subst this
        simpa [oneOf] using h4
      | cons y ys =>
        obtain ⟨v2, r2, rfl, h6, h7⟩ := h5.inv_cons
        simp only [oneOf]
        rw [dif_neg (by simp)]
        exact Rep.of_tuple h3
theorem look_numbered : ∀ {as : List AV} {n t : Nat} {v : AV}, look (numbered n as) t = some v → ∃ i, t = n + i ∧ as[i]? = some v
  | [], n, t, v, h => by simp [numbered, look] at h
  | x :: xs, n, t, v, h => by
    simp only [numbered, look] at h
    split at h
    · rename_i hb
      cases h
      exact ⟨0, by rw [← Nat.eq_of_beq_eq_true hb]; rfl, rfl⟩
    · obtain ⟨i, h1, h2⟩ := look_numbered h
      exact ⟨i + 1, by omega, by simpa using h2⟩
end
section
variable {cx : Cx} {F : EF}
theorem getAll_append {env : Env} : ∀ {a b : List Nat} {us : List AV}, getAll env (a ++ b) = some us → ∃ x y, getAll env a = some x ∧ getAll env b = some y ∧ us = x ++ y
  | [], b, us, h => ⟨[], us, rfl, h, rfl⟩
  | t :: a, b, us, h => by
    simp only [List.cons_append, getAll] at h
    obtain ⟨v, h1, h⟩ := bind_some_iff h
    obtain ⟨r, h2, h⟩ := bind_some_iff h
    cases h
    obtain ⟨x, y, h3, h4, rfl⟩ := getAll_append h2
    exact ⟨v :: x, y, by simp [getAll, h1, h3], h4, rfl⟩
theorem fn_step (hn : NamesOk cx.P) (hX : ExtSound cx) (hF : FnSound cx F) (hO : OwnSound cx F) (hL : LoopSound cx F) : FnSound cx (runKey cx F) := by
  intro f args v hr
  simp only [runKey] at hr
  obtain ⟨fn, h1, hr⟩ := bind_some_iff hr
  obtain ⟨bd, h2, hr⟩ := bind_some_iff hr
  obtain ⟨_, h3, hr⟩ := bind_some_iff hr
  refine ⟨⟨fn, h1, by rw [h2]; rfl, hn f fn h1⟩, ?_⟩
  split at hr
  · rename_i hle
    have hle := Nat.le_of_ble_eq_true hle
    intro S w vals hS hG hA
    obtain ⟨⟨e, env', h'⟩, h4, h5, _⟩ := run_pkl (F := F) (G := fun _ => F) (fun _ _ _ r hr => ⟨0, fun _ _ => hr⟩) cx f fn.ntmps bd [] (numbered 0 args) [] _ (fun x => match x.1 with
      | .normal | .ret => (resultsOf cx x.2.1 x.2.2 fn.results.toList).bind fun vs => (viewArgs x.2.2 vs).bind fun vs' => some (Out.ret (oneOf vs'), ([] : Heap))
      | _ => none) _ hr
    have hlen := hA.1
    have st0 : St cx ⟨w, S, fun _ => False, Mu.none⟩ fn.ntmps S Mu.none (numbered 0 args) [] (vals.toArray ++ Array.replicate (fn.ntmps - vals.toArray.size) undef) w := by
      refine ⟨by simp; omega, fun t x ht => ?_, hG, (fun r o ho => by simp at ho), (fun r r' b s s' h => by cases h), (fun r x h => by cases h), (fun r b s h => by cases h), fun _ h => h, fun _ h => .inl h, hS, fun _ _ _ => rfl, Nat.le_refl _, rfl, rfl, rfl, fun r x h => (by cases h)⟩
      obtain ⟨i, rfl, hi⟩ := look_numbered ht
      obtain ⟨u, hu, hru⟩ := hA.get hi
      have hil := (List.getElem?_eq_some_iff.1 hu).1
      rw [Nat.zero_add, Array.getD_eq_getD_getElem?, Array.getElem?_append_left (by simpa using hil)]
      simp only [List.getElem?_toArray, hu, Option.getD_some]
      exact hru
    refine calls_of_wp h1 h2 (wp_mono (run_wp hF hO hX hL (fun r x h => by cases h) h1 h2 bd (a := ⟨_, []⟩) rfl st0 rfl (h5 _ fun x => some x)) fun X a' w' ⟨hX, hd, S', μ', st⟩ => ?_)
    have fin : ((resultsOf cx env' h' fn.results.toList).bind fun vs => (viewArgs h' vs).bind fun vs' => some (Out.ret (oneOf vs'), ([] : Heap))) = some (Out.ret v, []) →
        ∃ x, (results fn a'.tmps).run cx.P w' = .ok x w' ∧ Post S w v (.returned x) w' := by
      intro h4
      obtain ⟨vs, h6, h4⟩ := bind_some_iff h4
      obtain ⟨vs', h7, h4⟩ := bind_some_iff h4
      cases h4
      obtain ⟨x, S2, g1, g2, g3, g4⟩ := results_sem st h6 h7
      refine ⟨x, g1, x, S2, rfl, g2, fun b hb => st.frame b hb (fun h => h), st.le, st.os, st.tape, st.output, fun b hb => g3 b (st.s0 b hb), fun b hb => ?_, fun b hb => ?_⟩
      · rcases g4 b hb with h | ⟨r, s, h⟩
        · rcases st.snew b h with h | h | h
          · exact .inl h
          · exact h.elim
          · exact .inr h
        · rcases st.own r b s h with h | h
          · exact h.elim
          · exact .inr h
      · rcases g4 b hb with h | ⟨r, s, h⟩
        · exact st.slt b h
        · exact st.lt h
    subst hX
    cases e with
    | normal => exact ⟨hd, fin h4⟩
    | ret => exact ⟨hd, fin h4⟩
    | _ => cases h4
  · cases hr
/-- Results as they stand, with the objects to which they point. -/
theorem results_own {K : Kf} {N : Nat} {S : Nat → Prop} {μ : Mu} {env : Env} {h : Heap} {w : World} {tmps : Array Value} (st : St cx K N S μ env h tmps w) {m : Nat} (hK : ∀ r x, K.fix r = some x → r < m) {fn : Func} {as : List AV} {ks : List Nat} {g : List AV × List AV × Heap}
    (hr : resultsOf cx env h fn.results.toList = some as) (hg : gc m ks as [] h = some g) :
    ∃ v μ', (results fn tmps).run cx.P w = .ok v w ∧ Rep S w μ' (oneOf g.1) v ∧ St cx K 0 S μ' [] g.2.2 #[] w := by
  obtain ⟨vs, h1, h2⟩ := resultsOf_sem st hr
  obtain ⟨vs', is', h'⟩ := g
  have hg' := hg
  unfold gc at hg'
  cases hnb : (nodupL ks && stays ks m) with
  | false => rw [hnb] at hg'; cases hg'
  | true =>
    rw [hnb] at hg'
    simp only [cond_true] at hg'
    obtain ⟨vs1, g1, hg'⟩ := bind_some_iff hg'
    obtain ⟨is1, g2, hg'⟩ := bind_some_iff hg'
    simp only [List.all_nil, cond_true] at hg'
    obtain ⟨hs1, g3, hg'⟩ := bind_some_iff hg'
    cases hg'
    obtain ⟨l3, m3⟩ := mapM_at g3
    have stz := gc_st0 hK hg st
    have h3 : Reps S w (gmu ks μ) vs' vs := reps_mapM g1 h1
    refine ⟨if hs : vs.toArray.size = 1 then vs.toArray[0] else .tuple vs.toArray, gmu ks μ, ?_, ?_, stz⟩
    · unfold results
      rw [Array.mapM_eq_mapM_toList]
      simp only [Sem.run_bind, Sem.run_map, Sem.run_pure]
      exact (congrArg (fun r : Result (List Value) => (r.andThen fun a w' => Result.ok a.toArray w').andThen fun a w' => Result.ok (if h : a.size = 1 then a[0] else Value.tuple a) w') h2).trans rfl
    · cases vs' with
      | nil =>
        have := h3.inv_nil
        subst this
        exact .tuple #[] rfl fun j v u hv => by simp at hv
      | cons x xs =>
        obtain ⟨v, r, rfl, h4, h5⟩ := h3.inv_cons
        cases xs with
        | nil =>
          have := h5.inv_nil
          subst this
          simpa [oneOf] using h4
        | cons y ys =>
          obtain ⟨v2, r2, rfl, h6, h7⟩ := h5.inv_cons
          simp only [oneOf]
          rw [dif_neg (by simp)]
          exact Rep.of_tuple h3
theorem own_step (hn : NamesOk cx.P) (hX : ExtSound cx) (hF : FnSound cx F) (hO : OwnSound cx F) (hL : LoopSound cx F) : OwnSound cx (runKey cx F) := by
  intro f args h v h' hr
  simp only [runKey] at hr
  obtain ⟨fn, h1, hr⟩ := bind_some_iff hr
  obtain ⟨bd, h2, hr⟩ := bind_some_iff hr
  refine ⟨⟨fn, h1, by rw [h2]; rfl, hn f fn h1⟩, ?_⟩
  split at hr
  · rename_i hle
    simp only [Bool.and_eq_true] at hle
    have hle1 := Nat.le_of_ble_eq_true hle.1
    refine ⟨Nat.eq_of_beq_eq_true hle.2, ?_⟩
    intro K S μ w vals st hK hA
    obtain ⟨⟨e, env', h1'⟩, h4, h5, _⟩ := run_pkl (F := F) (G := fun _ => F) (fun _ _ _ r hr => ⟨0, fun _ _ => hr⟩) cx f fn.ntmps bd [] (numbered 0 args) h _ (fun x => match x.1 with
      | .normal | .ret => (resultsOf cx x.2.1 x.2.2 fn.results.toList).bind fun vs => (gc (cx.held f) (addN (List.range (cx.held f)) (vs.flatMap (refs 5))) vs [] x.2.2).bind fun g => some (Out.ret (oneOf g.1), g.2.2)
      | _ => none) _ hr
    have hlen := hA.1
    have st0 : St cx K fn.ntmps S μ (numbered 0 args) h (vals.toArray ++ Array.replicate (fn.ntmps - vals.toArray.size) undef) w := by
      refine { st with size := by simp; omega, env := fun t x ht => ?_ }
      obtain ⟨i, rfl, hi⟩ := look_numbered ht
      obtain ⟨u, hu, hru⟩ := hA.get hi
      have hil := (List.getElem?_eq_some_iff.1 hu).1
      rw [Nat.zero_add, Array.getD_eq_getD_getElem?, Array.getElem?_append_left (by simpa using hil)]
      simp only [List.getElem?_toArray, hu, Option.getD_some]
      exact hru
    refine calls_of_wp h1 h2 (wp_mono (run_wp hF hO hX hL hK h1 h2 bd (a := ⟨_, []⟩) rfl st0 rfl (h5 _ fun x => some x)) fun X a' w' ⟨hXe, hd, S', μ', st'⟩ => ?_)
    have fin : ((resultsOf cx env' h1' fn.results.toList).bind fun vs => (gc (cx.held f) (addN (List.range (cx.held f)) (vs.flatMap (refs 5))) vs [] h1').bind fun g => some (Out.ret (oneOf g.1), g.2.2)) = some (Out.ret v, h') →
        ∃ x, (results fn a'.tmps).run cx.P w' = .ok x w' ∧ ∃ cv S' μ', Ending.returned x = .returned cv ∧ Rep S' w' μ' v cv ∧ St cx K 0 S' μ' [] h' #[] w' := by
      intro h4
      obtain ⟨vs, h6, h4⟩ := bind_some_iff h4
      obtain ⟨g, h7, h4⟩ := bind_some_iff h4
      cases h4
      obtain ⟨x, μ2, g1, g2, g3⟩ := results_own st' hK h6 h7
      exact ⟨x, g1, x, S', μ2, rfl, g2, g3⟩
    subst hXe
    cases e with
    | normal => exact ⟨hd, fin h4⟩
    | ret => exact ⟨hd, fin h4⟩
    | _ => cases h4
  · cases hr
theorem loop_step (hX : ExtSound cx) (hF : FnSound cx F) (hO : OwnSound cx F) (hL : LoopSound cx F) : LoopSound cx (runKey cx F) := by
  intro f fn bd b var inv p hfn hbd hp hann hok args h e vs h' hr hwk hlen K S μ a w hK st hd
  simp only [runKey, hfn, hbd, hp, hann, hok, Option.bind_some, cond_true] at hr
  split at hr
  · obtain ⟨⟨e1, env1, h1⟩, h2, h3, _⟩ := run_pkl (F := F) (G := fun _ => F) (fun _ _ _ r hr => ⟨0, fun _ _ => hr⟩) cx f fn.ntmps b (p ++ [false]) ((var ++ inv).zip args) h _ (fun x => match x.1 with
      | .normal => (getAll x.2.1 var).bind fun vs => (getAll x.2.1 inv).bind fun is => (gc (cx.held f) (ksOf h.length (pairRefs h.length args vs)) vs is x.2.2).bind fun g => F (.loop f p) (g.1.map AV.wk ++ g.2.1.map AV.wk) (g.2.2.map Ob.wk)
      | e => (getAll x.2.1 var).bind fun vs => (getAll x.2.1 inv).bind fun is => (gc (cx.held f) (ksOf h.length (pairRefs h.length args vs)) vs is x.2.2).bind fun g => some (Out.jump e (g.1.map AV.wk), g.2.2.map Ob.wk)) _ (by
        refine Eq.trans ?_ hr
        rfl)
    have h3' := h3 _ fun x => some x
    have hbody := run_wp hF hO hX hL hK hfn hbd b (p := p ++ [false]) (by rw [sub_append, hp]; rfl) st hd h3'
    -- what the round leaves alone
    have keep : ∀ {is' : List AV}, getAll env1 inv = some is' → is'.map AV.wk = args.drop var.length := by
      intro is' hg
      obtain ⟨g1, g2⟩ := getAll_spec hg
      apply List.ext_getElem?
      intro i
      simp only [List.getElem?_map]
      by_cases hi : i < inv.length
      · have hi' : i < is'.length := by omega
        have hk := run_keeps b ((loopOk_spec hok).1 inv[i] (List.getElem_mem hi)) h3'
        have hlook := g2 i inv[i] is'[i] (List.getElem?_eq_getElem hi) (List.getElem?_eq_getElem hi')
        obtain ⟨v0, hv0, hw0⟩ := hk _ hlook
        have hz := zip_append' (a := var) (b := inv) (c := args.take var.length) (d := args.drop var.length) (by simp; omega)
        rw [List.take_append_drop] at hz
        rw [hz] at hv0
        rcases look_append hv0 with hv | hv
        · obtain ⟨k, k1, k2⟩ := look_zip hv
          exact absurd ((loopOk_spec hok).2 _ (List.mem_of_getElem? k1)) ((loopOk_spec hok).1 inv[i] (List.getElem_mem hi))
        · obtain ⟨k, k1, k2⟩ := look_zip hv
          have hk' := (List.getElem?_eq_some_iff.1 k1)
          have hki : k = i := (List.getElem_inj (loopOk_nodup hok)).1 hk'.2
          subst hki
          rw [k2, List.getElem?_eq_getElem hi']
          simp only [Option.map_some]
          have hfix : v0.wk = v0 := by
            have h9 := congrArg (·[var.length + k]?) hwk
            simp only [List.getElem?_map] at h9
            rw [List.getElem?_drop] at k2
            rw [k2] at h9
            simpa using h9
          rw [hw0, hfix]
      · rw [List.getElem?_eq_none (by omega), List.getElem?_eq_none (by simp; omega)]
        rfl
    refine wpIn_step (wp_mono hbody fun X a' w' ⟨hX, hd', S', μ', st'⟩ => ?_)
    subst hX
    have fin : ∀ {us is' us2 is2 : List AV} {h2 : Heap}, getAll env1 var = some us → getAll env1 inv = some is' → gc (cx.held f) (ksOf h.length (pairRefs h.length args us)) us is' h1 = some (us2, is2, h2) →
        is2 = is' ∧ us2.length = var.length ∧ is2.length = inv.length ∧ ∃ μ2, St cx K fn.ntmps S' μ2 ((var ++ inv).zip (us2.map AV.wk ++ is2.map AV.wk)) (h2.map Ob.wk) a'.tmps w' := by
      intro us is' us2 is2 h2 g1 g2 hgc
      have stz := st'.envSub (env2 := (var ++ inv).zip (us ++ is')) fun t v hv => by
        rw [zip_append' (by simp [(getAll_spec g1).1])] at hv
        rcases look_append hv with hv | hv
        · obtain ⟨i, k1, k2⟩ := look_zip hv
          exact ⟨v, (getAll_spec g1).2 i t v k1 k2, Wk.refl _⟩
        · obtain ⟨i, k1, k2⟩ := look_zip hv
          exact ⟨v, (getAll_spec g2).2 i t v k1 k2, Wk.refl _⟩
      obtain ⟨μ2, stg, gl1, gl2, gfix⟩ := gc_st hK hgc stz
      refine ⟨gfix, gl1.trans (getAll_spec g1).1, gl2.trans (getAll_spec g2).1, μ2, (stg.envSub fun t v hv => ?_).wkHeap⟩
      rw [← List.map_append] at hv
      obtain ⟨i, k1, k2⟩ := look_zip2 hv
      simp only [List.getElem?_map] at k2
      cases hx : (us2 ++ is2)[i]? with
      | none => rw [hx] at k2; cases k2
      | some x => rw [hx] at k2; cases k2; exact ⟨x, k1 x hx, wk_wk x⟩
    have done : ∀ e1 : JX, ((getAll env1 var).bind fun vs => (getAll env1 inv).bind fun is => (gc (cx.held f) (ksOf h.length (pairRefs h.length args vs)) vs is h1).bind fun g => some (Out.jump e1 (g.1.map AV.wk), g.2.2.map Ob.wk)) = some (Out.jump e vs, h') →
        After cx K fn.ntmps e (var.zip vs ++ inv.zip (args.drop var.length)) h' e1.toExit a' w' := by
      intro e1 h2
      obtain ⟨us, h4, h2⟩ := bind_some_iff h2
      obtain ⟨is', h5, h2⟩ := bind_some_iff h2
      obtain ⟨⟨us2, is2, h6⟩, h7, h2⟩ := bind_some_iff h2
      cases h2
      obtain ⟨rfl, l1, l2, μ2, st2⟩ := fin h4 h5 h7
      rw [zip_append' (by simp [l1]), keep h5] at st2
      exact ⟨rfl, hd', S', μ2, st2⟩
    cases e1 with
    | normal =>
      simp only at h2
      obtain ⟨us, h4, k2⟩ := bind_some_iff h2
      obtain ⟨is', h5, k3⟩ := bind_some_iff k2
      obtain ⟨⟨us2, is2, h6⟩, h7, k4⟩ := bind_some_iff k3
      obtain ⟨rfl, l1, l2, μ2, st2⟩ := fin h4 h5 h7
      have hdrop : (us2.map AV.wk ++ is2.map AV.wk).drop var.length = args.drop var.length := by
        rw [List.drop_append_of_le_length (by simp [l1])]
        simp [l1, keep h5]
      have := hL f fn bd b var inv p hfn hbd hp hann hok _ _ e vs h' k4 (by simp [wk_comp]) (by simp [l1, l2]) K S' μ2 a' w' hK st2 hd'
      rw [hdrop] at this
      exact this
    | ret => exact done _ h2
    | exit id => exact done _ h2
    | goto l => exact done _ h2
  · cases hr
theorem En_sound (hn : NamesOk cx.P) (hX : ExtSound cx) : ∀ n, FnSound cx (En cx n) ∧ OwnSound cx (En cx n) ∧ LoopSound cx (En cx n)
  | 0 => ⟨fun f args v h => (by cases h), fun f args h v h' hr => (by cases hr), fun f fn bd b var inv p _ _ _ _ _ args h e vs h' hr => (by cases hr)⟩
  | n + 1 => ⟨fn_step hn hX (En_sound hn hX n).1 (En_sound hn hX n).2.1 (En_sound hn hX n).2.2, own_step hn hX (En_sound hn hX n).1 (En_sound hn hX n).2.1 (En_sound hn hX n).2.2,
      loop_step hX (En_sound hn hX n).1 (En_sound hn hX n).2.1 (En_sound hn hX n).2.2⟩
/-- What the evaluator tells of a function is what the machine's call does. -/
theorem E_sound (hn : NamesOk cx.P) (hX : ExtSound cx) : FnSound cx (E cx) := by
  intro f args v h
  obtain ⟨n, hn'⟩ := (E_spec cx _ _ _ _).1 h
  exact (En_sound hn hX n).1 f args v hn'
end
end Go.Proofs.Av
