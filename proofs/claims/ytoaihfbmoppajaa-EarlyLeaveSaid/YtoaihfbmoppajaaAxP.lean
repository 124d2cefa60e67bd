/- Code, functions, loops: what the evaluator tells is so. -/
import Derived.Test.YtoaihfbmoppajaaAxOa
namespace Go.Proofs.Av
open Go

def JX.toExit : JX → Exit
  | .normal => .normal
  | .ret => .ret
  | .exit id => .exit id
  | .goto l => .goto l
/-- From the head of a loop's round. -/
def WpIn (P : Program) (c : Code) (Q : Exit → Act → World → Prop) (a : Act) (w : World) : Prop :=
  ∀ (b : Frame) (k : List Item) (cs : List Frame), ∃ e a' w', Q e a' w' ∧ Arrives P (lone (b.at a (.code c :: .inLoop c :: k)) cs w) b k cs e a' w'
theorem wp_loop_of_in {P : Program} {c : Code} {Q : Exit → Act → World → Prop} {a : Act} {w : World} (h : WpIn P c Q a w) : (Code.loop c).wp P Q a w := by
  intro b k cs
  obtain ⟨e, a', w', hq, harr⟩ := h b k cs
  exact ⟨e, a', w', hq, .of_steps (.one step_loop) harr⟩
theorem wpIn_step {P : Program} {c : Code} {Q : Exit → Act → World → Prop} {a : Act} {w : World} (h : c.wp P (Exit.then (WpIn P c Q) Q) a w) : WpIn P c Q a w := by
  intro b k cs
  obtain ⟨e, a₁, w₁, hq, harr⟩ := h b (.inLoop c :: k) cs
  cases e with
  | normal =>
    obtain ⟨e₂, a₂, w₂, hq₂, harr₂⟩ := hq b k cs
    exact ⟨e₂, a₂, w₂, hq₂, .of_steps (Steps.trans harr (.one step_inLoop)) harr₂⟩
  | exit id => exact ⟨_, a₁, w₁, hq, .pass (x := .inLoop c) rfl (fun _ _ => .inl (by simp)) harr⟩
  | goto l => exact ⟨_, a₁, w₁, hq, .pass (x := .inLoop c) rfl (fun _ _ => .inl (by simp)) harr⟩
  | ret => exact ⟨_, a₁, w₁, hq, .pass (x := .inLoop c) rfl (fun _ _ => .inl (by simp)) harr⟩
  | panic ch => exact ⟨_, a₁, w₁, hq, .pass (x := .inLoop c) rfl (fun _ _ => .inl (by simp)) harr⟩
  | outgrown => exact ⟨_, a₁, w₁, hq, .pass (x := .inLoop c) rfl (fun _ _ => .inl (by simp)) harr⟩
theorem wpIn_mono {P : Program} {c : Code} {Q Q' : Exit → Act → World → Prop} {a : Act} {w : World} (h : WpIn P c Q a w) (hq : ∀ e a w, Q e a w → Q' e a w) : WpIn P c Q' a w :=
  fun b k cs => let ⟨e, a', w', q, r⟩ := h b k cs; ⟨e, a', w', hq _ _ _ q, r⟩
def child : Bool → Code → Option Code
  | false, .seq a _ => some a
  | true, .seq _ b => some b
  | false, .cond _ a _ => some a
  | true, .cond _ _ b => some b
  | false, .block _ b => some b
  | false, .loop b => some b
  | false, .scope b => some b
  | _, _ => none
theorem sub_append : ∀ (p : List Bool) (b : Bool) (c : Code), sub (p ++ [b]) c = (sub p c).bind (child b)
  | [], b, c => by cases b <;> cases c <;> rfl
  | x :: p, b, c => by
    cases x <;> cases c <;> first
      | rfl
      | (simp only [List.cons_append, sub]; exact sub_append p b _)
      | (cases p <;> rfl)

/-- What is known behind a piece of code. -/
def After (cx : Cx) (K : Kf) (N : Nat) (e : JX) (env : Env) (h : Heap) (X : Exit) (a : Act) (w : World) : Prop := X = e.toExit ∧ a.defers = [] ∧ ∃ S μ, St cx K N S μ env h a.tmps w
/-- Slices that are nil, as objects. -/
theorem coerceN_st {cx : Cx} {K : Kf} {N : Nat} {S : Nat → Prop} {tmps : Array Value} {w : World} : ∀ {l : List (Nat × Bool × TypeId)} {μ : Mu} {env : Env} {h : Heap} {env' : Env} {h' : Heap}, St cx K N S μ env h tmps w →
    coerceN cx l env h (fun e h => some (e, h)) = some (env', h') → ∃ μ', St cx K N S μ' env' h' tmps w
  | [], μ, env, h, env', h', st, hr => by simp only [coerceN] at hr; cases hr; exact ⟨μ, st⟩
  | (t, bb, ty) :: r, μ, env, h, env', h', st, hr => by
    simp only [coerceN] at hr
    obtain ⟨v, h1, hr⟩ := bind_some_iff hr
    split at hr
    · obtain ⟨q, h2, hr⟩ := bind_some_iff hr
      have hv := (st.env t _ h1).inv_val
      cases bb with
      | false =>
        have henv : EnvRel S w μ ((t, .list 0 q.2.1 []) :: env) tmps := by
          intro t' x hx
          simp only [look] at hx
          split at hx
          · rename_i hb
            have := Nat.eq_of_beq_eq_true hb
            subst this
            cases hx
            rw [hv]
            exact .nil
          · exact st.env t' x hx
        exact coerceN_st { st with env := henv } hr
      | true =>
      have st1 := st.step (w' := w) (kill := none) (o := ⟨.arr, q.1, q.2.1, q.2.1, []⟩) (x := none) (Nat.le_refl _) rfl rfl rfl (fun _ _ _ => rfl) (fun r hr => by cases hr) rfl (fun _ => rfl) fun b s C hx => by cases hx
      have henv : EnvRel S w (μ.updO h.length none) ((t, .arr h.length q.2.1 0 0) :: env) tmps := by
        intro t' x hx
        simp only [look] at hx
        split at hx
        · rename_i hb
          have := Nat.eq_of_beq_eq_true hb
          subst this
          cases hx
          rw [hv]
          exact .anil
        · exact st1.env t' x hx
      have st2 : St cx K N S (μ.updO h.length none) ((t, .arr h.length q.2.1 0 0) :: env) (h ++ [⟨.arr, q.1, q.2.1, q.2.1, []⟩]) tmps w := { st1 with env := henv }
      exact coerceN_st st2 hr
    · exact coerceN_st st hr
/-- What the table tells of loops is so. -/
def LoopSound (cx : Cx) (F : EF) : Prop := ∀ f fn bd b var inv p, cx.P.funcs[f]? = some fn → fn.body = some bd → sub p bd = some (.loop b) → cx.ann f p = some (.live var inv) → loopOk var inv b = true →
  ∀ args h e vs h', F (.loop f p) args h = some (.jump e vs, h') → args.map AV.wk = args → args.length = var.length + inv.length →
  ∀ (K : Kf) S μ a w, (∀ r x, K.fix r = some x → r < cx.held f) → St cx K fn.ntmps S μ ((var ++ inv).zip args) h a.tmps w → a.defers = [] → WpIn cx.P b (After cx K fn.ntmps e (var.zip vs ++ inv.zip (args.drop var.length)) h') a w
section
variable {cx : Cx} {F : EF} {K : Kf}
theorem wk_comp : AV.wk ∘ AV.wk = AV.wk := funext wk_idem
theorem zip_append' {α β : Type} : ∀ {a b : List α} {c d : List β}, a.length = c.length → (a ++ b).zip (c ++ d) = a.zip c ++ b.zip d
  | [], b, [], d, h => rfl
  | x :: a, b, y :: c, d, h => by simp [zip_append' (a := a) (b := b) (c := c) (d := d) (by simpa using h)]
theorem jx_is {a b : JX} (h : a.is b = true) : a = b := by
  cases a <;> cases b <;> simp [JX.is] at h <;> first
    | rfl
    | (rw [h])
    | (rw [Nat.eq_of_beq_eq_true h])
theorem iterN_wp {f : FuncId} {N : Nat} {b : Code} {p : List Bool} {ls : List Nat}
    (hb : ∀ {env : Env} {h : Heap} {a : Act} {w : World} {S : Nat → Prop} {μ : Mu} {e : JX} {env' : Env} {h' : Heap}, St cx K N S μ env h a.tmps w → a.defers = [] → run cx F f N b p env h (fun e env h => some (e, env, h)) = some (e, env', h') →
      b.wp cx.P (After cx K N e env' h') a w) : ∀ (n : Nat) {env : Env} {h : Heap} {a : Act} {w : World} {S : Nat → Prop} {μ : Mu} {e : JX} {env' : Env} {h' : Heap}, St cx K N S μ env h a.tmps w → a.defers = [] →
      iterN ls (run cx F f N b p) n env h (fun e env h => some (e, env, h)) = some (e, env', h') → WpIn cx.P b (After cx K N e env' h') a w
  | 0, env, h, a, w, S, μ, e, env', h', st, hd, hr => by simp only [iterN] at hr; cases hr
  | n + 1, env, h, a, w, S, μ, e, env', h', st, hd, hr => by
    simp only [iterN] at hr
    obtain ⟨⟨e1, env1, h1⟩, h2, h3, _⟩ := run_pkl (F := F) (G := fun _ => F) (fun _ _ _ r hr => ⟨0, fun _ _ => hr⟩) cx f N b p env h _ (fun x => match x.1 with
      | .normal => (getAll x.2.1 ls).bind fun vs => iterN ls (run cx F f N b p) n (ls.zip vs) x.2.2 fun e env h => some (e, env, h)
      | e => some (e, x.2.1, x.2.2)) _ hr
    refine wpIn_step (wp_mono (hb st hd (h3 _ fun x => some x)) fun X a' w' ⟨hX, hd', S', μ', st'⟩ => ?_)
    subst hX
    cases e1 with
    | normal =>
      simp only at h2
      obtain ⟨vs, h4, h2⟩ := bind_some_iff h2
      refine iterN_wp hb n (st'.envSub fun t v hv => ?_) hd' h2
      obtain ⟨i, g1, g2⟩ := look_zip hv
      exact ⟨v, (getAll_spec h4).2 i t v g1 g2, Wk.refl _⟩
    | _ => cases h2; exact ⟨rfl, hd', S', μ', st'⟩
theorem run_wp (hF : FnSound cx F) (hO : OwnSound cx F) (hX : ExtSound cx) (hL : LoopSound cx F) {f : FuncId} (hK : ∀ r x, K.fix r = some x → r < cx.held f) {fn : Func} {bd : Code} (hfn : cx.P.funcs[f]? = some fn) (hbd : fn.body = some bd) :
    ∀ (code : Code) {p : List Bool} {env : Env} {h : Heap} {a : Act} {w : World} {S : Nat → Prop} {μ : Mu} {e : JX} {env' : Env} {h' : Heap}, sub p bd = some code → St cx K fn.ntmps S μ env h a.tmps w → a.defers = [] →
      run cx F f fn.ntmps code p env h (fun e env h => some (e, env, h)) = some (e, env', h') → code.wp cx.P (After cx K fn.ntmps e env' h') a w
  | .skip, p, env, h, a, w, S, μ, e, env', h', hp, st, hd, hr => by simp only [run] at hr; cases hr; exact wp_skip ⟨rfl, hd, S, μ, st⟩
  | .label _, p, env, h, a, w, S, μ, e, env', h', hp, st, hd, hr => by simp only [run] at hr; cases hr; exact wp_label ⟨rfl, hd, S, μ, st⟩
  | .ret, p, env, h, a, w, S, μ, e, env', h', hp, st, hd, hr => by simp only [run] at hr; cases hr; exact wp_ret ⟨rfl, hd, S, μ, st⟩
  | .exit _, p, env, h, a, w, S, μ, e, env', h', hp, st, hd, hr => by simp only [run] at hr; cases hr; exact wp_exit ⟨rfl, hd, S, μ, st⟩
  | .goto _, p, env, h, a, w, S, μ, e, env', h', hp, st, hd, hr => by simp only [run] at hr; cases hr; exact wp_goto ⟨rfl, hd, S, μ, st⟩
  | .region id ops draw, p, env, h, a, w, S, μ, e, env', h', hp, st, hd, hr => by
    have hr2 := hr
    obtain ⟨rfl, hw⟩ := region_wp hF hO hX st hr (Q := After cx K fn.ntmps .normal env' h') fun S' μ' a' w' st' hd' => ⟨rfl, hd'.trans hd, S', μ', st'⟩
    exact hw
  | .seq x y, p, env, h, a, w, S, μ, e, env', h', hp, st, hd, hr => by
    simp only [run] at hr
    obtain ⟨⟨e1, env1, h1⟩, h2, h3, _⟩ := run_pkl (F := F) (G := fun _ => F) (fun _ _ _ r hr => ⟨0, fun _ _ => hr⟩) cx f fn.ntmps x (p ++ [false]) env h _ (fun z => match z.1 with
      | .normal => run cx F f fn.ntmps y (p ++ [true]) z.2.1 z.2.2 fun e env h => some (e, env, h)
      | e => some (e, z.2.1, z.2.2)) _ hr
    refine wp_seq (wp_mono (run_wp hF hO hX hL hK hfn hbd x (by rw [sub_append, hp]; rfl) st hd (h3 _ fun z => some z)) fun X a' w' ⟨hX, hd', S', μ', st'⟩ => ?_)
    subst hX
    cases e1 with
    | normal => exact run_wp hF hO hX hL hK hfn hbd y (by rw [sub_append, hp]; rfl) st' hd' h2
    | _ => cases h2; exact ⟨rfl, hd', S', μ', st'⟩
  | .cond x c1 c2, p, env, h, a, w, S, μ, e, env', h', hp, st, hd, hr => by
    simp only [run] at hr
    obtain ⟨v, h1, hr⟩ := bind_some_iff hr
    split at hr
    · rename_i t
      have hc := (opnd_sem st.env st.g h1).inv_val
      cases t with
      | true => exact wp_cond_true hc (run_wp hF hO hX hL hK hfn hbd c1 (by rw [sub_append, hp]; rfl) st hd hr)
      | false => exact wp_cond_false hc (run_wp hF hO hX hL hK hfn hbd c2 (by rw [sub_append, hp]; rfl) st hd hr)
    · cases hr
  | .block id b, p, env, h, a, w, S, μ, e, env', h', hp, st, hd, hr => by
    simp only [run] at hr
    obtain ⟨⟨e1, env1, h1⟩, h2, h3, _⟩ := run_pkl (F := F) (G := fun _ => F) (fun _ _ _ r hr => ⟨0, fun _ _ => hr⟩) cx f fn.ntmps b (p ++ [false]) env h _ (fun x => match x.1 with
      | .exit i => match Nat.beq i id with
        | true => some (.normal, x.2.1, x.2.2)
        | false => some (.exit i, x.2.1, x.2.2)
      | e => some (e, x.2.1, x.2.2)) _ hr
    refine wp_block (wp_mono (run_wp hF hO hX hL hK hfn hbd b (by rw [sub_append, hp]; rfl) st hd (h3 _ fun z => some z)) fun X a' w' ⟨hX, hd', S', μ', st'⟩ => ?_)
    subst hX
    cases e1 with
    | exit i =>
      simp only at h2
      split at h2
      · rename_i hb
        cases h2
        have := Nat.eq_of_beq_eq_true hb
        subst this
        simp only [JX.toExit, Exit.inBlock, if_true]
        exact ⟨rfl, hd', S', μ', st'⟩
      · rename_i hb
        cases h2
        have hne : ¬ i = id := fun he => by subst he; simp at hb
        simp only [JX.toExit, Exit.inBlock, if_neg hne]
        exact ⟨rfl, hd', S', μ', st'⟩
    | _ => cases h2; exact ⟨rfl, hd', S', μ', st'⟩
  | .loop b, p, env, h, a, w, S, μ, e, env', h', hp, st, hd, hr => by
    simp only [run] at hr
    obtain ⟨an, h1, hr⟩ := bind_some_iff hr
    split at hr
    · refine wp_loop_of_in (iterN_wp (fun st hd hr => run_wp hF hO hX hL hK hfn hbd b (by rw [sub_append, hp]; rfl) st hd hr) _ st hd hr)
    · rename_i var inv
      cases hokn : (loopOk var inv b && nilsOk (cx.nils f p) var) with
      | false => rw [hokn] at hr; cases hr
      | true =>
        rw [hokn] at hr
        simp only [cond_true] at hr
        simp only [Bool.and_eq_true] at hokn
        obtain ⟨hok, hnil⟩ := hokn
        obtain ⟨⟨env0, h0⟩, hr0, hco⟩ := (coerceN_pk cx (cx.nils f p) env h) _ (fun x => (getAll x.1 var).bind fun vs => (getAll x.1 inv).bind fun is =>
          (F (.loop f p) (vs.map AV.wk ++ is.map AV.wk) (x.2.map Ob.wk)).bind fun r => (asJump r).bind fun j =>
          jsel j.1 (fun e => normAs (vs.map AV.wk) j.2.1 fun vs' => normHeap (x.2.map Ob.wk) j.2.2 fun h' =>
            some (e, var.zip vs' ++ inv.zip (is.map AV.wk), h')) ((exitsOf b).foldr addE [])) _ hr
        obtain ⟨μ0, st⟩ := coerceN_st st (hco _ some)
        clear hr hco
        simp only at hr0
        obtain ⟨vs, h2, hr⟩ := bind_some_iff hr0
        obtain ⟨is, h3, hr⟩ := bind_some_iff hr
        obtain ⟨r, h4, hr⟩ := bind_some_iff hr
        obtain ⟨j, h5, hr⟩ := bind_some_iff hr
        obtain ⟨j1, j2, j3⟩ := j
        have hj : r = (.jump j1 j2, j3) := by
          unfold asJump at h5
          split at h5
          · cases h5; rfl
          · cases h5
        subst hj
        have l1 := (getAll_spec h2).1
        have l2 := (getAll_spec h3).1
        have hst0 : St cx K fn.ntmps S μ0 ((var ++ inv).zip (vs.map AV.wk ++ is.map AV.wk)) (h0.map Ob.wk) a.tmps w := by
          refine (st.envSub fun t v hv => ?_).wkHeap
          rw [zip_append' (by simp [l1])] at hv
          rcases look_append hv with hv | hv
          · obtain ⟨i, g1, g2⟩ := look_zip hv
            simp only [List.getElem?_map] at g2
            cases hx : vs[i]? with
            | none => rw [hx] at g2; cases g2
            | some x => rw [hx] at g2; cases g2; exact ⟨x, (getAll_spec h2).2 i t x g1 hx, wk_wk x⟩
          · obtain ⟨i, g1, g2⟩ := look_zip hv
            simp only [List.getElem?_map] at g2
            cases hx : is[i]? with
            | none => rw [hx] at g2; cases g2
            | some x => rw [hx] at g2; cases g2; exact ⟨x, (getAll_spec h3).2 i t x g1 hx, wk_wk x⟩
        have hw := hL f fn bd b var inv p hfn hbd hp h1 hok _ _ j1 j2 j3 h4 (by simp [wk_comp]) (by simp [l1, l2]) K S μ0 a w hK hst0 hd
        have hdrop : (vs.map AV.wk ++ is.map AV.wk).drop var.length = is.map AV.wk := by
          rw [List.drop_append_of_le_length (by simp [l1])]
          simp [l1]
        rw [hdrop] at hw
        refine wp_loop_of_in (wpIn_mono hw fun X a' w' ⟨hX, hd', S', μ', st'⟩ => ?_)
        have fin : ∀ (e0 : JX), j1 = e0 → (normAs (vs.map AV.wk) j2 fun vs' => normHeap (h0.map Ob.wk) j3 fun h' => some (e0, var.zip vs' ++ inv.zip (is.map AV.wk), h')) = some (e, env', h') → After cx K fn.ntmps e env' h' X a' w' := by
          intro e0 he hr
          obtain ⟨vs', h6, h7⟩ := (normAs_pk _ _).some hr
          obtain ⟨h'', h8, h9⟩ := (normHeap_pk _ _).some h6
          cases h8
          refine ⟨by rw [hX, he], hd', S', μ', ?_⟩
          have hh := normHeap_wk h9
          refine (st'.envSub fun t v hv => ?_).heapWk hh.1 hh.2
          obtain ⟨hl7, hw7⟩ := normAs_wk h7
          -- a slot that turns comes first in both
          have key : ∀ (ls : List Nat) (xs ys : List AV) (rest : Env), ys.length = xs.length → (∀ (i : Nat) (y : AV), ys[i]? = some y → ∃ x, xs[i]? = some x ∧ Wk x y) → ∀ v, look (ls.zip ys ++ rest) t = some v → ∃ v0, look (ls.zip xs ++ rest) t = some v0 ∧ Wk v0 v := by
            intro ls
            induction ls with
            | nil => intro xs ys rest _ _ v hv; exact ⟨v, by simpa using hv, Wk.refl _⟩
            | cons s ls ih =>
              intro xs ys rest hl hwk v hv
              cases ys with
              | nil =>
                have : xs = [] := by simpa using hl.symm
                subst this
                exact ⟨v, by simpa using hv, Wk.refl _⟩
              | cons y ys =>
                cases xs with
                | nil => simp at hl
                | cons x xs =>
                  simp only [List.zip_cons_cons, List.cons_append, look] at hv ⊢
                  split at hv
                  · rename_i hb
                    cases hv
                    obtain ⟨x', hx', hwx⟩ := hwk 0 v (by simp)
                    simp at hx'
                    subst hx'
                    exact ⟨x, rfl, hwx⟩
                  · rename_i hb
                    obtain ⟨v0, g1, g2⟩ := ih xs ys rest (by simpa using hl) (fun i y hy => by
                      obtain ⟨x', hx', hwx⟩ := hwk (i + 1) y (by simpa using hy)
                      exact ⟨x', by simpa using hx', hwx⟩) v hv
                    exact ⟨v0, g1, g2⟩
          exact key var j2 vs' _ hl7 hw7 v hv
        have sel : ∀ l : List JX, jsel j1 (fun e => normAs (vs.map AV.wk) j2 fun vs' => normHeap (h0.map Ob.wk) j3 fun h' => some (e, var.zip vs' ++ inv.zip (is.map AV.wk), h')) l = some (e, env', h') → After cx K fn.ntmps e env' h' X a' w' := by
          intro l
          induction l with
          | nil => intro hr; simp only [jsel] at hr; cases hr
          | cons x xs ih =>
            intro hr
            simp only [jsel] at hr
            cases hx : j1.is x with
            | true => rw [hx] at hr; exact fin x (jx_is hx) hr
            | false => rw [hx] at hr; exact ih hr
        exact sel _ hr
  | .rangeFunc .., p, env, h, a, w, S, μ, e, env', h', hp, st, hd, hr => by simp only [run] at hr; cases hr
  | .scope .., p, env, h, a, w, S, μ, e, env', h', hp, st, hd, hr => by simp only [run] at hr; cases hr
  | .refuse .., p, env, h, a, w, S, μ, e, env', h', hp, st, hd, hr => by simp only [run] at hr; cases hr
end
end Go.Proofs.Av
