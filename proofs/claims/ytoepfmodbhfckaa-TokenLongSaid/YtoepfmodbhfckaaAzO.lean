/- Loops: what is known behind them; slots that a piece of code does not write. -/
import Derived.Test.YtoepfmodbhfckaaAzN
namespace Go.Proofs.Av
open Go

theorem wk1_wk1 (a : AV) : a.wk1.wk1 = a.wk1 := by
  cases a <;> rfl
theorem wk_idem (a : AV) : a.wk.wk = a.wk := by
  cases a with
  | agg cs =>
    show AV.wk (.agg (cs.map AV.wk1)) = .agg (cs.map AV.wk1)
    show AV.agg ((cs.map AV.wk1).map AV.wk1) = _
    rw [List.map_map]
    congr 1
    apply List.map_congr_left
    intro x _
    exact wk1_wk1 x
  | _ => rfl

/-! ### Slots that are not written -/
def Keeps (s : Nat) (env env' : Env) : Prop := ∀ v, look env' s = some v → ∃ v0, look env s = some v0 ∧ v.wk = v0.wk
theorem Keeps.refl (s : Nat) (env : Env) : Keeps s env env := fun v h => ⟨v, h, rfl⟩
theorem Keeps.trans {s : Nat} {e1 e2 e3 : Env} (h : Keeps s e1 e2) (k : Keeps s e2 e3) : Keeps s e1 e3 := fun v hv =>
  let ⟨v1, h1, h2⟩ := k v hv
  let ⟨v0, h3, h4⟩ := h v1 h1
  ⟨v0, h3, h2.trans h4⟩
section
variable {cx : Cx} {F : EF} {K : Kf} {N : Nat} {S : Nat → Prop} {μ : Mu} {env : Env} {h : Heap} {a : Act} {w : World}
theorem putK_keeps {d : Option Tmp} {v : AV} {env' : Env} (hp : putK N d v env some = some env') {s : Nat} (hs : d ≠ some s) : Keeps s env env' := by
  unfold putK at hp
  split at hp
  · cases hp; exact Keeps.refl _ _
  · rename_i t
    split at hp
    · cases hp
      intro x hx
      simp only [look] at hx
      split at hx
      · rename_i hb
        exact absurd (congrArg some (Nat.eq_of_beq_eq_true hb)) hs
      · exact ⟨x, hx, rfl⟩
    · cases hp
theorem stepOp_keeps {q : Bool} {o : Oper} {e : JX} {env' : Env} {h' : Heap} (hs : stepOp cx F N q o env h (fun e env h => some (e, env, h)) = some (e, env', h')) {s : Nat} (hd : o.dst ≠ some s) : Keeps s env env' := by
  unfold stepOp at hs
  split at hs
  · rename_i t hop
    cases hrw : cx.rows t with
    | true =>
      rw [hrw, cond_true] at hs
      cases q with
      | true => cases hs
      | false =>
        rw [cond_false] at hs
        obtain ⟨z, h1, hs⟩ := bind_some_iff hs
        obtain ⟨env2, h3, h4⟩ := (putK_pk _ _ _ _).some hs
        cases h3
        exact putK_keeps h4 hd
    | false =>
    rw [hrw, cond_false] at hs
    obtain ⟨z, h1, hs⟩ := bind_some_iff hs
    obtain ⟨n, h2, hs⟩ := bind_some_iff hs
    split at hs
    · obtain ⟨env2, h3, h4⟩ := (putK_pk _ _ _ _).some hs
      cases h3
      exact putK_keeps h4 hd
    · cases hs
  · obtain ⟨z, h1, hs⟩ := bind_some_iff hs
    obtain ⟨env2, h3, h4⟩ := (putK_pk _ _ _ _).some hs
    cases h3
    exact putK_keeps h4 hd
  · obtain ⟨pv, h1, hs⟩ := bind_some_iff hs
    obtain ⟨xv, h2, hs⟩ := bind_some_iff hs
    obtain ⟨h2', h3, h4⟩ := (storeV_pk _ _ _ _ _).some hs
    obtain ⟨env2, h5, h6⟩ := (putK_pk _ _ _ _).some h3
    cases h5
    exact putK_keeps h6 hd
  · rename_i t len parts hop
    cases hth : cx.thaw o.dst t with
    | true =>
      simp only [hth, cond_true] at hs
      cases q with
      | true => cases hs
      | false =>
        simp only [cond_false] at hs
        unfold buildT at hs
        obtain ⟨d, h1, hs⟩ := bind_some_iff hs
        split at hs
        · obtain ⟨z, h2, hs⟩ := bind_some_iff hs
          obtain ⟨n, h3, hs⟩ := bind_some_iff hs
          obtain ⟨ps, h4, hs⟩ := bind_some_iff hs
          obtain ⟨hp, h5, hs⟩ := bind_some_iff hs
          split at hs
          · obtain ⟨cs, h6, h7⟩ := (rowsP_pk _ _ _).some hs
            obtain ⟨env2, h8, h9⟩ := (putK_pk _ _ _ _).some h6
            cases h8
            exact putK_keeps h9 hd
          · cases hs
        · cases hs
    | false =>
    simp only [hth, cond_false] at hs
    obtain ⟨d, h1, hs⟩ := bind_some_iff hs
    split at hs
    · obtain ⟨z, h2, hs⟩ := bind_some_iff hs
      obtain ⟨n, h3, hs⟩ := bind_some_iff hs
      obtain ⟨ps, h4, hs⟩ := bind_some_iff hs
      split at hs
      · obtain ⟨cs, h5, h6⟩ := (rowsP_pk _ _ _).some hs
        cases hmk : cx.made o.dst t with
        | true =>
          rw [hmk] at h5
          cases q with
          | true => cases h5
          | false =>
            simp only [cond_true, cond_false] at h5
            obtain ⟨env2, h7, h8⟩ := (putK_pk _ _ _ _).some h5
            cases h7
            exact putK_keeps h8 hd
        | false =>
        rw [hmk] at h5
        simp only [cond_false] at h5
        obtain ⟨env2, h7, h8⟩ := (putK_pk _ _ _ _).some h5
        cases h7
        exact putK_keeps h8 hd
      · cases hs
    · cases hs
  · obtain ⟨lv, h1, hs⟩ := bind_some_iff hs
    obtain ⟨nv, h2, hs⟩ := bind_some_iff hs
    obtain ⟨⟨av, h1'⟩, h3, h4⟩ := (makeV_pk cx _ lv nv h) _ (fun x => putK N o.dst x.1 env fun env => some (JX.normal, env, x.2)) _ hs
    obtain ⟨env2, h5, h6⟩ := (putK_pk _ _ _ _).some h3
    cases h5
    exact putK_keeps h6 hd
  · obtain ⟨vs, h2, hs⟩ := bind_some_iff hs
    obtain ⟨⟨av, h1'⟩, h3, h4⟩ := (bins_pk cx _ _ vs h) _ (fun x => putK N o.dst x.1 env fun env => some (JX.normal, env, x.2)) _ hs
    obtain ⟨env2, h5, h6⟩ := (putK_pk _ _ _ _).some h3
    cases h5
    exact putK_keeps h6 hd
  · obtain ⟨vs, h2, hs⟩ := bind_some_iff hs
    obtain ⟨⟨av, h1'⟩, h3, h4⟩ := (bins_pk cx _ _ vs h) _ (fun x => putK N o.dst x.1 env fun env => some (JX.normal, env, x.2)) _ hs
    obtain ⟨env2, h5, h6⟩ := (putK_pk _ _ _ _).some h3
    cases h5
    exact putK_keeps h6 hd
  · obtain ⟨vs, h2, hs⟩ := bind_some_iff hs
    obtain ⟨⟨av, h1'⟩, h3, h4⟩ := (bins_pk cx _ _ vs h) _ (fun x => putK N o.dst x.1 env fun env => some (JX.normal, env, x.2)) _ hs
    obtain ⟨env2, h5, h6⟩ := (putK_pk _ _ _ _).some h3
    cases h5
    exact putK_keeps h6 hd
  · obtain ⟨fv, h1, hs⟩ := bind_some_iff hs
    obtain ⟨vs, h2, hs⟩ := bind_some_iff hs
    obtain ⟨⟨e1, av, h1'⟩, h3, h4⟩ := (callX_pkl (G := fun _ => F) (fun _ _ _ r hr => ⟨0, fun _ _ => hr⟩) cx _ _ _ fv vs h) _ (fun x => match x.1 with
      | .normal => putK N o.dst x.2.1 env fun env => some (JX.normal, env, x.2.2)
      | e => some (e, env, x.2.2)) _ hs
    cases e1 with
    | normal =>
      simp only at h3
      obtain ⟨env2, h5, h6⟩ := (putK_pk _ _ _ _).some h3
      cases h5
      exact putK_keeps h6 hd
    | _ => cases h3; exact Keeps.refl _ _
  · obtain ⟨v, h1, hs⟩ := bind_some_iff hs
    split at hs
    · rename_i t y
      cases hq : (q || !y.ground) with
      | true => rw [hq] at hs; cases hs
      | false => rw [hq] at hs; cases hs; exact Keeps.refl _ _
    · cases hs
  · obtain ⟨av, h3, h4⟩ := (evalA_pk _ _ _ _).some hs
    obtain ⟨env2, h5, h6⟩ := (putK_pk _ _ _ _).some h3
    cases h5
    exact putK_keeps h6 hd
theorem runOps_keeps {q : Bool} {ops : Array Oper} {s : Nat} : ∀ {l : List Oper} {env : Env} {h : Heap} {e : JX} {env' : Env} {h' : Heap}, (∀ o, o ∈ l → o.dst ≠ some s) →
    runOps cx F N q ops l env h (fun e env h => some (e, env, h)) = some (e, env', h') → Keeps s env env'
  | [], env, h, e, env', h', hl, hr => by simp only [runOps] at hr; cases hr; exact Keeps.refl _ _
  | o :: rest, env, h, e, env', h', hl, hr => by
    simp only [runOps] at hr
    have hrest : ∀ o, o ∈ rest → o.dst ≠ some s := fun o ho => hl o (List.mem_cons_of_mem _ ho)
    have h0 := hl o (List.mem_cons_self ..)
    have one : (stepOp cx F N q o env h fun e env h => match e with
        | .normal => runOps cx F N q ops rest env h fun e env h => some (e, env, h)
        | e => some (e, env, h)) = some (e, env', h') → Keeps s env env' := fun hr => by
      obtain ⟨⟨e1, env1, h1⟩, h2, h3, _⟩ := stepOp_pkl (G := fun _ => F) (fun _ _ _ r hr => ⟨0, fun _ _ => hr⟩) cx N q o env h _ (fun x => match x.1 with
        | .normal => runOps cx F N q ops rest x.2.1 x.2.2 fun e env h => some (e, env, h)
        | e => some (e, x.2.1, x.2.2)) _ hr
      have k1 := stepOp_keeps (h3 _ fun x => some x) h0
      cases e1 with
      | normal => exact k1.trans (runOps_keeps hrest h2)
      | _ => cases h2; exact k1
    split at hr
    · exact one hr
    · rename_i j want _
      obtain ⟨d, h1, hr⟩ := bind_some_iff hr
      obtain ⟨v, h2, hr⟩ := bind_some_iff hr
      split at hr
      · rename_i b
        cases hb : (b == want) with
        | true => rw [hb] at hr; exact one hr
        | false =>
          rw [hb] at hr
          simp only [cond_false] at hr
          obtain ⟨env1, h3, h4⟩ := (putK_pk _ _ _ _).some hr
          exact (putK_keeps h4 h0).trans (runOps_keeps hrest h3)
      · obtain ⟨env1, h3, h4⟩ := (putK_pk _ _ _ _).some hr
        exact (putK_keeps h4 h0).trans (runOps_keeps hrest h3)
      · cases hr
theorem prune_keeps {ls : List Nat} {vs : List AV} (hg : getAll env ls = some vs) (s : Nat) : Keeps s env (ls.zip vs) := by
  intro v hv
  obtain ⟨i, h1, h2⟩ := look_zip hv
  exact ⟨v, (getAll_spec hg).2 i s v h1 h2, rfl⟩
theorem iterN_keeps {ls : List Nat} {s : Nat} {st : Env → Heap → (JX → Env → Heap → Option (JX × Env × Heap)) → Option (JX × Env × Heap)}
    (hst : ∀ (env : Env) (h : Heap) (c : JX → Env → Heap → Option (JX × Env × Heap)) (r), st env h c = some r → ∃ e env' h', c e env' h' = some r ∧ Keeps s env env') :
    ∀ (n : Nat) {env : Env} {h : Heap} {e : JX} {env' : Env} {h' : Heap}, iterN ls st n env h (fun e env h => some (e, env, h)) = some (e, env', h') → Keeps s env env'
  | 0, env, h, e, env', h', hr => by simp only [iterN] at hr; cases hr
  | n + 1, env, h, e, env', h', hr => by
    simp only [iterN] at hr
    obtain ⟨e1, env1, h1, h2, h3⟩ := hst _ _ _ _ hr
    cases e1 with
    | normal =>
      simp only at h2
      obtain ⟨vs, h4, h2⟩ := bind_some_iff h2
      exact h3.trans ((prune_keeps h4 s).trans (iterN_keeps hst n h2))
    | _ => cases h2; exact h3
theorem loopOk_nodup {var inv : List Nat} {b : Code} (h : loopOk var inv b = true) : inv.Nodup := by
  unfold loopOk at h
  simp only [Bool.and_eq_true] at h
  exact nodupL_spec h.2.1
theorem loopOk_spec {var inv : List Nat} {b : Code} (h : loopOk var inv b = true) : (∀ s, s ∈ inv → s ∉ dsts b) ∧ ∀ s, s ∈ var → s ∈ dsts b := by
  unfold loopOk apartL at h
  simp only [Bool.and_eq_true] at h
  refine ⟨fun s hs hd => ?_, fun s hs => ?_⟩
  · have := List.all_eq_true.1 h.1 s hs
    rw [any_beq.2 hd] at this
    cases this
  · exact any_beq.1 (List.all_eq_true.1 h.2.2 s hs)
theorem runAny_keeps {N : Nat} {md : Bool} {h0 : Heap} {TT : List Nat} {ops : Array Oper} {s : Nat} {l : List Oper} {env : Env} {h : Heap} {env' : Env} {h' : Heap} (hs : ∀ o ∈ l, o.dst ≠ some s)
    (hr : runAny cx F N md h0 TT ops l env h (fun e h => some (e, h)) = some (env', h')) : Keeps s env env' := by
  obtain ⟨E, H, V, g1, g2, g3, g4, g5⟩ := runAny_lex hr
  have key : ∀ k, k ≤ l.length → Keeps s env (E k) := by
    intro k
    induction k with
    | zero => intro _; rw [g1]; exact Keeps.refl _ _
    | succ k ih =>
      intro hk
      have ho : l[k]? = some l[k] := List.getElem?_eq_getElem (by omega)
      have hl := g5 k _ ho
      refine (ih (by omega)).trans fun v hv => ?_
      rw [hl.env, ext_look_ne (hs _ (List.mem_of_getElem? ho))] at hv
      exact ⟨v, hv, rfl⟩
  rw [← g3]
  exact key _ (Nat.le_refl _)
theorem coerceN_keeps {s : Nat} : ∀ {l : List (Nat × Nat × TypeId)} {env : Env} {h : Heap} {env' : Env} {h' : Heap}, (∀ x ∈ l, x.1 ≠ s) → coerceN cx l env h (fun e h => some (e, h)) = some (env', h') → Keeps s env env'
  | [], env, h, env', h', hl, hr => by simp only [coerceN] at hr; cases hr; exact Keeps.refl _ _
  | (t, bb, ty) :: r, env, h, env', h', hl, hr => by
    simp only [coerceN] at hr
    obtain ⟨v, h1, hr⟩ := bind_some_iff hr
    have hl' : ∀ x ∈ r, x.1 ≠ s := fun x hx => hl x (List.mem_cons_of_mem _ hx)
    have put : ∀ x : AV, Keeps s env ((t, x) :: env) := fun x v hv => by
      simp only [look] at hv
      split at hv
      · rename_i hb
        exact absurd (Nat.eq_of_beq_eq_true hb) (hl (t, bb, ty) (List.mem_cons_self ..))
      · exact ⟨v, hv, rfl⟩
    split at hr
    · obtain ⟨q, h2, hr⟩ := bind_some_iff hr
      split at hr <;> exact Keeps.trans (put _) (coerceN_keeps hl' hr)
    · split at hr
      · obtain ⟨x, h2, hr⟩ := bind_some_iff hr
        split at hr
        · obtain ⟨q, h2, hr⟩ := bind_some_iff hr
          exact Keeps.trans (put _) (coerceN_keeps hl' hr)
        · exact coerceN_keeps hl' hr
      · exact coerceN_keeps hl' hr
    · exact coerceN_keeps hl' hr
theorem nilsOk_spec {l : List (Nat × Nat × TypeId)} {var : List Nat} (h : nilsOk l var = true) {x : Nat × Nat × TypeId} (hx : x ∈ l) : x.1 ∈ var :=
  any_beq.1 (List.all_eq_true.1 h x hx)
theorem run_keeps {f : FuncId} {s : Nat} : ∀ (code : Code) {p : List Bool} {env : Env} {h : Heap} {e : JX} {env' : Env} {h' : Heap}, s ∉ dsts code →
    run cx F f N code p env h (fun e env h => some (e, env, h)) = some (e, env', h') → Keeps s env env'
  | .skip, p, env, h, e, env', h', hs, hr => by simp only [run] at hr; cases hr; exact Keeps.refl _ _
  | .label _, p, env, h, e, env', h', hs, hr => by simp only [run] at hr; cases hr; exact Keeps.refl _ _
  | .ret, p, env, h, e, env', h', hs, hr => by simp only [run] at hr; cases hr; exact Keeps.refl _ _
  | .exit _, p, env, h, e, env', h', hs, hr => by simp only [run] at hr; cases hr; exact Keeps.refl _ _
  | .goto _, p, env, h, e, env', h', hs, hr => by simp only [run] at hr; cases hr; exact Keeps.refl _ _
  | .region _ ops false, p, env, h, e, env', h', hs, hr => by
    simp only [run] at hr
    exact runOps_keeps (fun o ho hd => hs (by simp only [dsts]; exact List.mem_filterMap.2 ⟨o, ho, hd⟩)) hr
  | .region _ ops true, p, env, h, e, env', h', hs, hr => by
    simp only [run] at hr
    cases hlo : lastOk cx.P cx.turns (fun f => (cx.pans f).isSome) ops with
    | true =>
      rw [hlo] at hr
      simp only [cond_true] at hr
      obtain ⟨⟨env1, h1⟩, h2, h3, _⟩ := runAny_pkl (G := fun _ => F) (fun _ _ _ r hr => ⟨0, fun _ _ => hr⟩) cx N false [] [] ops ops.toList.dropLast env h _ (fun x => (ops.toList.getLast?).bind fun o => stepOp cx F N false o x.1 x.2 fun e env h => some (e, env, h)) _ hr
      simp only at h2
      obtain ⟨o, ho, h2⟩ := bind_some_iff h2
      exact (runAny_keeps (fun o ho hd => hs (by simp only [dsts]; exact List.mem_filterMap.2 ⟨o, List.dropLast_subset _ ho, hd⟩)) (h3 _ fun x => some x)).trans
        (stepOp_keeps h2 fun hd => hs (by simp only [dsts]; exact List.mem_filterMap.2 ⟨o, List.mem_of_getLast? ho, hd⟩))
    | false =>
    rw [hlo] at hr
    simp only [cond_false] at hr
    cases hc : anyOk cx.P cx.turns false ops with
    | true =>
      rw [hc] at hr
      simp only [cond_true] at hr
      obtain ⟨⟨env1, h1⟩, h2, h3, _⟩ := runAny_pkl (G := fun _ => F) (fun _ _ _ r hr => ⟨0, fun _ _ => hr⟩) cx N false [] [] ops ops.toList env h _ (fun x => some (JX.normal, x.1, x.2)) _ hr
      cases h2
      exact runAny_keeps (fun o ho hd => hs (by simp only [dsts]; exact List.mem_filterMap.2 ⟨o, ho, hd⟩)) (h3 _ fun x => some x)
    | false =>
      rw [hc] at hr
      simp only [cond_false] at hr
      cases hc2 : anyOk cx.P cx.turns true ops with
      | false => rw [hc2] at hr; cases hr
      | true =>
        rw [hc2] at hr
        simp only [cond_true] at hr
        obtain ⟨⟨env1, h1⟩, h2, h3, _⟩ := runAny_pkl (G := fun _ => F) (fun _ _ _ r hr => ⟨0, fun _ _ => hr⟩) cx N true h _ ops _ env h _ (fun x => runOps cx F N false ops (ops.toList.drop (tailAt cx.turns ops)) x.1 x.2 fun e env h => some (e, env, h)) _ hr
        exact (runAny_keeps (fun o ho hd => hs (by simp only [dsts]; exact List.mem_filterMap.2 ⟨o, List.mem_of_mem_take ho, hd⟩)) (h3 _ fun x => some x)).trans
          (runOps_keeps (fun o ho hd => hs (by simp only [dsts]; exact List.mem_filterMap.2 ⟨o, List.mem_of_mem_drop ho, hd⟩)) h2)
  | .seq a b, p, env, h, e, env', h', hs, hr => by
    simp only [run] at hr
    simp only [dsts, List.mem_append, not_or] at hs
    obtain ⟨⟨e1, env1, h1⟩, h2, h3, _⟩ := run_pkl (G := fun _ => F) (fun _ _ _ r hr => ⟨0, fun _ _ => hr⟩) cx f N a (p ++ [false]) env h _ (fun x => match x.1 with
      | .normal => run cx F f N b (p ++ [true]) x.2.1 x.2.2 fun e env h => some (e, env, h)
      | e => some (e, x.2.1, x.2.2)) _ hr
    have k1 := run_keeps a hs.1 (h3 _ fun x => some x)
    cases e1 with
    | normal => exact k1.trans (run_keeps b hs.2 h2)
    | _ => cases h2; exact k1
  | .cond x a b, p, env, h, e, env', h', hs, hr => by
    simp only [run] at hr
    simp only [dsts, List.mem_append, not_or] at hs
    obtain ⟨v, h1, hr⟩ := bind_some_iff hr
    split at hr
    · rename_i t
      cases t with
      | true => exact run_keeps a hs.1 hr
      | false => exact run_keeps b hs.2 hr
    · cases hr
  | .block id b, p, env, h, e, env', h', hs, hr => by
    simp only [run] at hr
    simp only [dsts] at hs
    obtain ⟨⟨e1, env1, h1⟩, h2, h3, _⟩ := run_pkl (G := fun _ => F) (fun _ _ _ r hr => ⟨0, fun _ _ => hr⟩) cx f N b (p ++ [false]) env h _ (fun x => match x.1 with
      | .exit i => match Nat.beq i id with
        | true => thawB x.2.1 (cx.thawX f p) x.2.2 fun h => some (.normal, x.2.1, h)
        | false => some (.exit i, x.2.1, x.2.2)
      | e => some (e, x.2.1, x.2.2)) _ hr
    have k1 := run_keeps b hs (h3 _ fun x => some x)
    cases e1 with
    | exit i =>
      simp only at h2
      split at h2
      · obtain ⟨h9, h4, _⟩ := (thawB_pk _ _ _).some h2
        cases h4; exact k1
      · cases h2; exact k1
    | _ => cases h2; exact k1
  | .loop b, p, env, h, e, env', h', hs, hr => by
    simp only [run] at hr
    simp only [dsts] at hs
    obtain ⟨an, h1, hr⟩ := bind_some_iff hr
    split at hr
    · refine iterN_keeps (fun env h c r hr => ?_) _ hr
      obtain ⟨⟨e1, env1, h1⟩, h2, h3, _⟩ := run_pkl (G := fun _ => F) (fun _ _ _ r hr => ⟨0, fun _ _ => hr⟩) cx f N b (p ++ [false]) env h _ (fun x => c x.1 x.2.1 x.2.2) _ hr
      exact ⟨e1, env1, h1, h2, run_keeps b hs (h3 _ fun x => some x)⟩
    · rename_i var inv
      cases hokn : (loopOk var inv b && nilsOk (cx.nils f p) var) with
      | false => rw [hokn] at hr; cases hr
      | true =>
        rw [hokn] at hr
        simp only [cond_true] at hr
        simp only [Bool.and_eq_true] at hokn
        obtain ⟨hok, hnil⟩ := hokn
        obtain ⟨⟨env0, h0⟩, hr0, hco⟩ := (coerceN_pk cx (cx.nils f p) env h) _ (fun x => coerceB cx (cx.boxes f p) x.1 x.2 fun h => (getAll x.1 var).bind fun vs => (getAll x.1 inv).bind fun is =>
          (F (.loop f p) (vs.map AV.wk ++ is.map AV.wk) (h.map Ob.wk)).bind fun r => (asJump r).bind fun j =>
          loopX cx f j.1 (fun e => normAs (formV cx f p e (vs.map AV.wk)) j.2.1 fun vs' => normHeap (formH cx f p e (h.map Ob.wk)) j.2.2 fun h' =>
            some (e, var.zip vs' ++ inv.zip (is.map AV.wk), h')) ((exitsOf b).foldr addE [])) _ hr
        have hk0 : Keeps s env env0 := coerceN_keeps (fun x hx he => hs (he ▸ (loopOk_spec hok).2 _ (nilsOk_spec hnil hx))) (hco _ some)
        refine hk0.trans ?_
        clear hr
        simp only at hr0
        obtain ⟨h0, hr0, _⟩ := (coerceB_pk cx (cx.boxes f p) env0 h0).some hr0
        obtain ⟨vs, h2, hr⟩ := bind_some_iff hr0
        obtain ⟨is, h3, hr⟩ := bind_some_iff hr
        obtain ⟨r, h4, hr⟩ := bind_some_iff hr
        obtain ⟨j, h5, hr⟩ := bind_some_iff hr
        have fin : ∀ (e0 : JX), (normAs (formV cx f p e0 (vs.map AV.wk)) j.2.1 fun vs' => normHeap (formH cx f p e0 (h0.map Ob.wk)) j.2.2 fun h' => some (e0, var.zip vs' ++ inv.zip (is.map AV.wk), h')) = some (e, env', h') → Keeps s env0 env' := by
          intro e0 hr
          obtain ⟨vs', h6, h7⟩ := (normAs_pk _ _).some hr
          obtain ⟨h'', h8, h9⟩ := (normHeap_pk _ _).some h6
          cases h8
          intro v hv
          rcases look_append hv with hv | hv
          · obtain ⟨i, g1, g2⟩ := look_zip hv
            exact absurd ((loopOk_spec hok).2 s (List.mem_of_getElem? g1)) hs
          · obtain ⟨i, g1, g2⟩ := look_zip hv
            simp only [List.getElem?_map] at g2
            cases hx : is[i]? with
            | none => rw [hx] at g2; cases g2
            | some x =>
              rw [hx] at g2
              cases g2
              exact ⟨x, (getAll_spec h3).2 i s x g1 hx, wk_idem x⟩
        have sel : ∀ l : List JX, jsel j.1 (fun e => normAs (formV cx f p e (vs.map AV.wk)) j.2.1 fun vs' => normHeap (formH cx f p e (h0.map Ob.wk)) j.2.2 fun h' => some (e, var.zip vs' ++ inv.zip (is.map AV.wk), h')) l = some (e, env', h') → Keeps s env0 env' := by
          intro l
          induction l with
          | nil => intro hr; simp only [jsel] at hr; cases hr
          | cons x xs ih =>
            intro hr
            simp only [jsel] at hr
            cases hx : j.1.is x with
            | true => rw [hx] at hr; exact fin x hr
            | false => rw [hx] at hr; exact ih hr
        unfold loopX at hr
        split at hr
        · exact sel _ hr
        · rename_i T _
          cases hp : j.1.isPan with
          | false => rw [hp] at hr; exact sel _ hr
          | true =>
            rw [hp] at hr
            obtain ⟨x, h6, hr⟩ := bind_some_iff hr
            obtain ⟨x', h7, _⟩ := (normZ_pk (cx.sv T) x).some hr
            cases hg : x'.ground with
            | true => rw [hg] at h7; exact fin _ h7
            | false => rw [hg] at h7; cases h7
  | .rangeFunc .., p, env, h, e, env', h', hs, hr => by simp only [run] at hr; cases hr
  | .scope .., p, env, h, e, env', h', hs, hr => by simp only [run] at hr; cases hr
  | .refuse .., p, env, h, e, env', h', hs, hr => by simp only [run] at hr; cases hr
end
end Go.Proofs.Av
