/- Calls, single operations, regions. -/
import Derived.Test.YtogopainnioiiaaDoorAvL
namespace Go.Proofs.Av
open Go

/-- What has become of the world and of the blocks that stay, behind a call. -/
structure Grown (S : Nat → Prop) (w : World) (S' : Nat → Prop) (w' : World) : Prop where
  ext : Ext w w'
  le : w.heap.size ≤ w'.heap.size
  os : w'.os = w.os
  tape : w'.tape = w.tape
  output : w'.output = w.output
  sub : ∀ b, S b → S' b
  new : ∀ b, S' b → S b ∨ w.heap.size ≤ b
  lt : ∀ b, S' b → b < w'.heap.size
def Post (S : Nat → Prop) (w : World) (v : AV) (e : Ending) (w' : World) : Prop := ∃ cv S', e = .returned cv ∧ Rep S' w' Mu.none v cv ∧ Grown S w S' w'
/-- What the table tells of functions is so. -/
def FnSound (cx : Cx) (F : EF) : Prop := ∀ f args v, F (.fn f) args [] = some (.ret v, []) → (∃ fn, cx.P.funcs[f]? = some fn ∧ fn.body.isNone = false ∧ (fn.name == "runtime.NumGoroutine") = false) ∧
  ∀ (S : Nat → Prop) (w : World) (vals : List Value), (∀ b, S b → b < w.heap.size) → GRel cx S w → Reps S w Mu.none args vals → Calls cx.P f vals.toArray w (Post S w v)

section
variable {cx : Cx} {F : EF} {K : Kf} {N : Nat} {S : Nat → Prop} {μ : Mu} {env : Env} {h : Heap} {a : Act} {w : World}
theorem Mu.upd_self {μ : Mu} {r : Nat} {x : Nat × Nat} : (μ.upd r x) r = some x := by unfold Mu.upd; rw [if_pos rfl]
theorem rep_ptr0 {S : Nat → Prop} {w : World} {μ : Mu} {r ver b sz : Nat} (h : μ r = some (b, sz)) : Rep S w μ (.ptr r ver 0 0) (.pointer (some ⟨b, 0, none⟩)) := by
  have := Rep.ptr (S := S) (w := w) (ver := ver) (i := 0) (j := 0) b sz h
  simpa using this
theorem ret1_eq {r : Out × Heap} {v : AV} (h : ret1 r = some v) : r = (.ret v, []) := by
  unfold ret1 at h
  split at h
  · cases h; rfl
  · cases h
/-- A call: it is entered, and ends with a value as said. -/
theorem callV_sem (hF : FnSound cx F) (st : St cx K N S μ env h a.tmps w) {q : Bool} {t : TypeId} {fv : AV} {args : List AV} {fu : Value} {us : List Value} (hf : Rep S w μ fv fu) (hr : Reps S w μ args us)
    {av : AV} (hc : callV cx F q t fv args h some = some av) :
    ∃ fn first cap f vals, fu = .func fn first cap ∧ (invoke (.fn fn cap) (first ++ us.toArray)).run cx.P w = .ok (.enter f vals) w ∧
      (q = true → av.ground = true) ∧ Calls cx.P f vals w fun e w' => ∃ cv S', e = .returned cv ∧ Rep S' w' μ av cv ∧ Grown S w S' w' := by
  unfold callV at hc
  obtain ⟨g, h1, hc⟩ := bind_some_iff hc
  obtain ⟨as, h2, hc⟩ := bind_some_iff hc
  obtain ⟨p, h3, hc⟩ := bind_some_iff hc
  obtain ⟨r, h4, hc⟩ := bind_some_iff hc
  obtain ⟨v, h5, hc⟩ := bind_some_iff hc
  obtain ⟨v', h6, h7⟩ := (normR_pk _ _ v).some hc
  have hwk := normR_wk h7
  rw [ret1_eq h5] at h4
  obtain ⟨⟨fn, g1, g2, g3⟩, g4⟩ := hF _ _ _ h4
  cases hcond : (v'.ground || (!q && (refless 5 fv && args.all (refless 5)))) with
  | false => rw [hcond] at h6; cases h6
  | true =>
    rw [hcond] at h6
    simp only [cond_true] at h6
    cases h6
    -- which blocks must stay for the call
    have go : ∀ T : Nat → Prop, (∀ b, S b → T b) → (∀ b, T b → b < w.heap.size) → (refless 5 fv = true ∨ ∀ r b s, μ r = some (b, s) → T b) → (args.all (refless 5) = true ∨ ∀ r b s, μ r = some (b, s) → T b) →
        ∃ fn first cap f vals, fu = .func fn first cap ∧ (invoke (.fn fn cap) (first ++ us.toArray)).run cx.P w = .ok (.enter f vals) w ∧ Calls cx.P f vals w (Post T w v) := by
      intro T hST hTl t1 t2
      have r1 := viewArg_sem hST st.heap t1 h1 hf
      have r2 := viewArgs_sem hST st.heap t2 h2 hr
      unfold AV.call? at h3
      split at h3
      · rename_i f first cap _
        cases h3
        cases r1 with
        | func us1 vs1 hu hl hf1 hr1 =>
          refine ⟨_, _, _, f, us1 ++ us.toArray ++ vs1, rfl, ?_, ?_⟩
          · cases hb : fn.body with
            | none => rw [hb] at g2; cases g2
            | some bd =>
              have g3' : ¬ fn.name = "runtime.NumGoroutine" := by simpa using g3
              simp [invoke, callFunc, g1, hb, g3']
          · have := g4 T w (us1.toList ++ us ++ vs1.toList) hTl (fun g cs hg => (st.g g cs hg).mono hST (fun _ _ => rfl) fun _ _ h => h) ((Reps.append ⟨by simpa using hu, fun j x y hx hy => hf1 j x y hx (by simpa using hy)⟩ r2).append
                ⟨by simpa using hl, fun j x y hx hy => hr1 j x y hx (by simpa using hy)⟩)
            have e : (us1.toList ++ us ++ vs1.toList).toArray = us1 ++ us.toArray ++ vs1 := by apply Array.ext'; simp
            rwa [e] at this
      · cases h3
    simp only [Bool.or_eq_true, Bool.and_eq_true] at hcond
    by_cases hg : av.ground = true
    · obtain ⟨fn', first, cap, f, vals, e1, e2, e3⟩ := go (fun b => S b ∨ ∃ r s, μ r = some (b, s)) (fun b hb => .inl hb)
        (fun b hb => by
          rcases hb with hb | ⟨r, s, hb⟩
          · exact st.slt b hb
          · exact st.lt hb) (.inr fun r b s hb => .inr ⟨r, s, hb⟩) (.inr fun r b s hb => .inr ⟨r, s, hb⟩)
      refine ⟨fn', first, cap, f, vals, e1, e2, fun _ => hg, e3.mono fun e w' ⟨cv, S', h8, h9, h10⟩ => ⟨cv, S, h8, ground_rep hg (hwk _ _ _ _ h9), ?_⟩⟩
      exact ⟨h10.ext, h10.le, h10.os, h10.tape, h10.output, fun _ h => h, fun _ h => .inl h, fun b hb => Nat.lt_of_lt_of_le (st.slt b hb) h10.le⟩
    · have hc2 := hcond.resolve_left hg
      simp at hc2
      obtain ⟨hq, hc3, hc4⟩ := hc2
      obtain ⟨fn', first, cap, f, vals, e1, e2, e3⟩ := go S (fun b hb => hb) st.slt (.inl hc3) (.inl (List.all_eq_true.2 hc4))
      refine ⟨fn', first, cap, f, vals, e1, e2, fun hq' => (by rw [hq] at hq'; cases hq'), e3.mono fun e w' ⟨cv, S', h8, h9, h10⟩ => ⟨cv, S', h8, (hwk _ _ _ _ h9).of_none, h10⟩⟩

/-- The state behind a call. -/
theorem St.grown {tmps : Array Value} (st : St cx K N S μ env h tmps w) {S' : Nat → Prop} {w' : World} (hg : Grown S w S' w') : St cx K N S' μ env h tmps w' :=
  st.ext hg.ext hg.le hg.os hg.tape hg.output hg.sub hg.new hg.lt

/-- An operation, whatever it does. -/
theorem stepOp_wp (hF : FnSound cx F) (st : St cx K N S μ env h a.tmps w) {o : Oper} {env' : Env} {h' : Heap} (hs : stepOp cx F N false o env h (fun e h => some (e, h)) = some (env', h'))
    {next : Act → World → Prop} {Q : Exit → Act → World → Prop} (hn : ∀ S' μ' a' w', St cx K N S' μ' env' h' a'.tmps w' → a'.defers = a.defers → next a' w') : o.wp cx.P a w next Q := by
  obtain ⟨dst, op, ty, pos, after, guard⟩ := o
  have plain : ∀ {av : AV} {v : Value} {env2 : Env}, (execOp a.eval { dst, op, type := ty, pos, after, guard }).run cx.P w = .ok (.value v) w → Rep S w μ av v → putK N dst av env some = some env2 → St cx K N S μ env2 h (a.put dst v).tmps w :=
    fun hrun hr hp => st.putO rfl hp hr
  unfold stepOp at hs
  split at hs
  · -- a variable
    rename_i t hq hop
    try simp only at hop
    subst hop
    obtain ⟨z, h1, hs⟩ := bind_some_iff hs
    obtain ⟨n, h2, hs⟩ := bind_some_iff hs
    split at hs
    · rename_i hlen
      obtain ⟨env2, h3, h4⟩ := (putK_pk _ _ _ _).some hs
      cases h3
      have hn0 := Nat.eq_of_beq_eq_true hlen
      have st2 := st.alloc (o := ⟨.box, t, n, 0, [(zcells z).map .val]⟩) (vs := z.cells) (t := t) rfl ⟨_, rfl, by simpa using hn0, by simpa [zcells] using reps_vals (S := S) (w := w) (μ := μ) z.cells.toList⟩
      unfold Oper.wp
      have hz : (zeroValue t).run cx.P w = .ok z w := by
        unfold Cx.zero at h1
        obtain ⟨i, h5, h6⟩ := bind_some_iff h1
        simp [zeroValue, typeInfo, h5, h6]
      have hrun : (execOp a.eval { dst := dst, op := .alloc t, type := ty, pos := pos, after := after, guard := guard }).run cx.P w =
          .ok (.value (.pointer (some ⟨w.heap.size, 0, none⟩))) { w with heap := w.heap.push (.cells z.cells t) } := by
        simp [execOp, Instr.alloc, hz, newVar, newRow]
      rw [hrun]
      refine hn _ _ _ _ (st2.putO rfl h4 ?_) putK_defers
      exact rep_ptr0 Mu.upd_self
    · cases hs
  · rename_i t x hq hop
    try simp only at hop
    subst hop
    obtain ⟨v, h1, hs⟩ := bind_some_iff hs
    obtain ⟨env2, h3, h4⟩ := (putK_pk _ _ _ _).some hs
    cases h3
    have hr := opnd_sem st.env st.g h1
    have st2 := st.alloc (o := ⟨.box, t, v.cells.length, 0, [v.cells]⟩) (vs := (a.eval x).cells) (t := t) rfl ⟨_, rfl, rfl, hr.cells⟩
    unfold Oper.wp
    have hrun : (execOp a.eval { dst := dst, op := .box t x, type := ty, pos := pos, after := after, guard := guard }).run cx.P w =
        .ok (.value (.pointer (some ⟨w.heap.size, 0, none⟩))) { w with heap := w.heap.push (.cells (a.eval x).cells t) } := by
      simp [execOp, Instr.box, newVar, newRow]
    rw [hrun]
    refine hn _ _ _ _ (st2.putO rfl h4 ?_) putK_defers
    exact rep_ptr0 Mu.upd_self
  · rename_i t p x hq hop
    try simp only at hop
    subst hop
    obtain ⟨pv, h1, hs⟩ := bind_some_iff hs
    obtain ⟨xv, h2, hs⟩ := bind_some_iff hs
    obtain ⟨h2', h3, h4⟩ := (storeV_pk _ _ _ _ _).some hs
    obtain ⟨env2, h5, h6⟩ := (putK_pk _ _ _ _).some h3
    cases h5
    obtain ⟨w', h7, st2⟩ := storeV_sem st (opnd_sem st.env st.g h1) (opnd_sem st.env st.g h2) h4
    unfold Oper.wp
    have hrun : (execOp a.eval { dst := dst, op := .store t p x, type := ty, pos := pos, after := after, guard := guard }).run cx.P w = .ok .skip w' := by
      simp [execOp, h7]
    rw [hrun]
    exact hn _ _ _ _ (st2.putO rfl h6 (.val undef)) putK_defers
  · rename_i fo args ts hop
    try simp only at hop
    subst hop
    obtain ⟨fv, h1, hs⟩ := bind_some_iff hs
    obtain ⟨vs, h2, hs⟩ := bind_some_iff hs
    obtain ⟨av, h3, h4⟩ := (callV_pkl (G := fun _ => F) (fun _ _ _ r hr => ⟨0, fun _ _ => hr⟩) cx false ty fv vs h _ _ _ hs)
    obtain ⟨env2, h5, h6⟩ := (putK_pk _ _ _ _).some h3
    cases h5
    obtain ⟨fn, first, cap, f, vals, e1, e2, _, e3⟩ := callV_sem hF st (opnd_sem st.env st.g h1) (opnds_sem st.env st.g h2) (h4.1 _ some)
    unfold Oper.wp
    have hrun : (execOp a.eval { dst := dst, op := .call { callee := .value fo, args, argTypes := ts }, type := ty, pos := pos, after := after, guard := guard }).run cx.P w = .ok (.enter f vals) w := by
      simp only [execOp, resolve, e1, Deferred.ofValue, Sem.run_bind, Sem.run_pure, Result.andThen_ok]
      have : (args.map a.eval) = (args.toList.map a.eval).toArray := by apply Array.ext'; simp
      rw [this]
      exact e2
    rw [hrun]
    refine e3.mono fun e w' ⟨cv, S', h8, h9, h10⟩ => ?_
    subst h8
    exact hn _ _ _ _ ((st.grown h10).putO rfl h6 h9) putK_defers
  · obtain ⟨av, h3, h4⟩ := (evalA_pk _ _ _ _).some hs
    obtain ⟨env2, h5, h6⟩ := (putK_pk _ _ _ _).some h3
    cases h5
    obtain ⟨v, h7, h8⟩ := evalA_sem st.env st.g st.heap (o := { dst, op, type := ty, pos, after, guard }) h4
    unfold Oper.wp
    rw [h8 w (Ext.refl w)]
    exact hn _ _ _ _ (st.putO rfl h6 h7) putK_defers
theorem yielded_of {ops : Array Oper} {j d : Nat} {v : Value} (hd : gslot ops j = some d) (hv : a.tmps[d]? = some v) : yielded ops a.tmps j = match v with | .bool b => some b | _ => none := by
  unfold gslot at hd
  unfold yielded
  rw [hd]
  simp only [Option.bind_some, hv]
  cases v <;> rfl
theorem getD_some {tmps : Array Value} {d : Nat} {v : Value} (h : tmps.getD d undef = v) (hv : v ≠ undef) : tmps[d]? = some v := by
  rw [Array.getD_eq_getD_getElem?] at h
  cases hx : tmps[d]? with
  | none => rw [hx] at h; exact absurd h.symm hv
  | some x => rw [hx] at h; simp at h; rw [h]
/-- Operations in the order of the text. -/
theorem runOps_wp (hF : FnSound cx F) {ops : Array Oper} {Q : Exit → Act → World → Prop} : ∀ {l : List Oper} {S : Nat → Prop} {μ : Mu} {env : Env} {h : Heap} {a : Act} {w : World} {env' : Env} {h' : Heap}, St cx K N S μ env h a.tmps w →
    runOps cx F N false ops l env h (fun e h => some (e, h)) = some (env', h') → (∀ S' μ' a' w', St cx K N S' μ' env' h' a'.tmps w' → a'.defers = a.defers → Q .normal a' w') → wpList cx.P ops Q l a w
  | [], S, μ, env, h, a, w, env', h', st, hr, hq => by
    simp only [runOps] at hr
    cases hr
    exact hq S μ a w st rfl
  | o :: rest, S, μ, env, h, a, w, env', h', st, hr, hq => by
    simp only [runOps] at hr
    unfold wpList
    have one : ∀ {env1 : Env} {h1 : Heap}, stepOp cx F N false o env h (fun e h => some (e, h)) = some (env1, h1) → runOps cx F N false ops rest env1 h1 (fun e h => some (e, h)) = some (env', h') →
        o.wp cx.P a w (wpList cx.P ops Q rest) Q := fun h1 h2 =>
      stepOp_wp hF st h1 fun S' μ' a' w' st' hd => runOps_wp hF st' h2 fun S'' μ'' a'' w'' st'' hd' => hq S'' μ'' a'' w'' st'' (hd'.trans hd)
    have skip : ∀ {env1 : Env}, putK N o.dst (.val undef) env some = some env1 → runOps cx F N false ops rest env1 h (fun e h => some (e, h)) = some (env', h') → wpList cx.P ops Q rest (a.put o.dst undef) w := fun h1 h2 =>
      runOps_wp hF (st.putO rfl h1 (.val undef)) h2 fun S'' μ'' a'' w'' st'' hd' => hq S'' μ'' a'' w'' st'' (hd'.trans putK_defers)
    split at hr
    · rename_i hg
      obtain ⟨⟨env1, h1⟩, h2, h3, _⟩ := stepOp_pkl (G := fun _ => F) (fun _ _ _ r hr => ⟨0, fun _ _ => hr⟩) cx N false o env h _ (fun x => runOps cx F N false ops rest x.1 x.2 fun e h => some (e, h)) _ hr
      have hw : Region.wanted o (yielded ops a.tmps) = true := by unfold Region.wanted; rw [hg]
      rw [if_pos hw]
      exact .inl (one (h3 _ fun x => some x) h2)
    · rename_i j want hg
      obtain ⟨d, h1, hr⟩ := bind_some_iff hr
      obtain ⟨v, h2, hr⟩ := bind_some_iff hr
      have hrep := st.env d v h2
      split at hr
      · rename_i b
        have hb : a.tmps[d]? = some (.bool b) := getD_some hrep.inv_val (by simp [undef])
        have hw : Region.wanted o (yielded ops a.tmps) = (b == want) := by
          unfold Region.wanted
          rw [hg]
          simp only [yielded_of h1 hb]
          cases b <;> cases want <;> rfl
        cases hbw : (b == want) with
        | true =>
          rw [hbw] at hr hw
          simp only [cond_true] at hr
          rw [if_pos hw]
          obtain ⟨⟨env1, h1⟩, h2, h3, _⟩ := stepOp_pkl (G := fun _ => F) (fun _ _ _ r hr => ⟨0, fun _ _ => hr⟩) cx N false o env h _ (fun x => runOps cx F N false ops rest x.1 x.2 fun e h => some (e, h)) _ hr
          exact .inl (one (h3 _ fun x => some x) h2)
        | false =>
          rw [hbw] at hr hw
          simp only [cond_false] at hr
          rw [if_neg (by rw [hw]; simp)]
          obtain ⟨env1, h3, h4⟩ := (putK_pk _ _ _ _).some hr
          exact skip h4 h3
      · rename_i us
        have hne : Region.wanted o (yielded ops a.tmps) = false := by
          unfold Region.wanted
          rw [hg]
          have : yielded ops a.tmps j = none := by
            unfold gslot at h1
            unfold yielded
            rw [h1]
            simp only [Option.bind_some]
            have h5 := hrep.inv_val
            rw [Array.getD_eq_getD_getElem?] at h5
            cases hx : a.tmps[d]? with
            | none => rfl
            | some x => rw [hx] at h5; simp at h5; rw [h5]
          simp only [this]
          rfl
        rw [if_neg (by rw [hne]; simp)]
        obtain ⟨env1, h3, h4⟩ := (putK_pk _ _ _ _).some hr
        exact skip h4 h3
      · cases hr
end
end Go.Proofs.Av
