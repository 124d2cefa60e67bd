/- A region whose order is drawn: whatever the order, what its text's order comes to. -/
import Derived.Test.YtoaihfbmoppajaaAxNa
namespace Go.Proofs.Av
open Go

def ext (d : Option Nat) (v : AV) (e : Env) : Env := match d with
  | none => e
  | some d => (d, v) :: e
theorem putK_ext {N : Nat} {d : Option Nat} {v : AV} {e e1 : Env} (h : putK N d v e some = some e1) : e1 = ext d v e := by
  unfold putK at h
  cases d with
  | none => cases h; rfl
  | some t =>
    simp only at h
    split at h
    · cases h; rfl
    · cases h
theorem putK_any {N : Nat} {d : Option Nat} {v : AV} {e e1 : Env} (h : putK N d v e some = some e1) (e' : Env) : putK N d v e' some = some (ext d v e') := by
  unfold putK at h ⊢
  cases d with
  | none => rfl
  | some t =>
    simp only at h
    split at h
    · rename_i hb
      show (match Nat.blt t N with | true => some ((t, v) :: e') | false => none) = _
      rw [hb]
      rfl
    · cases h
/-- One operation of it. -/
structure Lex (cx : Cx) (F : EF) (N : Nat) (md : Bool) (h0 : Heap) (ops : Array Oper) (o : Oper) (e : Env) (h : Heap) (v : AV) (e1 : Env) (h1 : Heap) : Prop where
  free : freeOp o = true → oneV cx F ops o (restrE e (o.looksAt ops)) [] = some (v, []) ∧ h1 = h
  look : freeOp o = false → (md && !effOp cx.turns o) = true → (∃ h', oneV cx F ops o (restrE e (o.looksAt ops)) h0 = some (v, h')) ∧ h1 = h
  bound : freeOp o = false → (md && !effOp cx.turns o) = false → oneV cx F ops o (restrE e (o.looksAt ops)) h = some (v, h1) ∧ (md = true → addOp cx.adds o = true ∨ tgtOk cx (restrE e (o.looksAt ops)) h0.length o = true)
  put : ∀ e', putK N o.dst v e' some = some (ext o.dst v e')
  env : e1 = ext o.dst v e
theorem nil?_eq {α : Type} {l : List α} (h : nil? l = some ()) : l = [] := by cases l <;> first | rfl | cases h
theorem runAny_lex {cx : Cx} {F : EF} {N : Nat} {md : Bool} {h0 : Heap} {ops : Array Oper} : ∀ {l : List Oper} {e : Env} {h : Heap} {e' : Env} {h' : Heap}, runAny cx F N md h0 ops l e h (fun e h => some (e, h)) = some (e', h') →
    ∃ (E : Nat → Env) (H : Nat → Heap) (V : Nat → AV), E 0 = e ∧ H 0 = h ∧ E l.length = e' ∧ H l.length = h' ∧ ∀ (k : Nat) (o : Oper), l[k]? = some o → Lex cx F N md h0 ops o (E k) (H k) (V k) (E (k + 1)) (H (k + 1))
  | [], e, h, e', h', hr => by
    simp only [runAny] at hr
    cases hr
    exact ⟨fun _ => e, fun _ => h, fun _ => default, rfl, rfl, rfl, rfl, fun k o ho => by simp at ho⟩
  | o :: rest, e, h, e', h', hr => by
    simp only [runAny] at hr
    have step : ∃ v e1 h1, Lex cx F N md h0 ops o e h v e1 h1 ∧ runAny cx F N md h0 ops rest e1 h1 (fun e h => some (e, h)) = some (e', h') := by
      have back : ∀ {v : AV} {e1 : Env} {h1 : Heap}, putK N o.dst v (restrE e (o.looksAt ops)) some = some e1 → putBack o.dst e1 e (fun env => runAny cx F N md h0 ops rest env h1 fun e h => some (e, h)) = some (e', h') →
          runAny cx F N md h0 ops rest (ext o.dst v e) h1 (fun e h => some (e, h)) = some (e', h') := fun hp hb => by
        rw [putK_ext hp] at hb
        unfold putBack at hb
        cases hd : o.dst with
        | none => rw [hd] at hb; exact hb
        | some d =>
          rw [hd] at hb
          simp only [ext, look, Nat.beq_refl, Option.bind_some] at hb
          exact hb
      cases hf : freeOp o with
      | true =>
        rw [hf] at hr
        simp only [cond_true, runOps_one] at hr
        obtain ⟨⟨v, h1⟩, h2, hr⟩ := bind_some_iff hr
        obtain ⟨e1, h3, h4⟩ := (putK_pk _ _ _ _).some hr
        obtain ⟨u, h5, h6⟩ := bind_some_iff h3
        obtain rfl := nil?_eq (l := h1) h5
        exact ⟨v, _, h, ⟨fun _ => ⟨h2, rfl⟩, fun hx => (by rw [hf] at hx; cases hx), fun hx => (by rw [hf] at hx; cases hx), putK_any h4, rfl⟩, back h4 h6⟩
      | false =>
        rw [hf] at hr
        simp only [cond_false] at hr
        cases hm : (md && !effOp cx.turns o) with
        | true =>
          rw [hm] at hr
          simp only [cond_true, runOps_one] at hr
          obtain ⟨⟨v, h1⟩, h2, hr⟩ := bind_some_iff hr
          obtain ⟨e1, h3, h4⟩ := (putK_pk _ _ _ _).some hr
          exact ⟨v, _, h, ⟨fun hx => (by rw [hf] at hx; cases hx), fun _ _ => ⟨⟨_, h2⟩, rfl⟩, fun _ hx => (by rw [hm] at hx; cases hx), putK_any h4, rfl⟩, back h4 h3⟩
        | false =>
          rw [hm] at hr
          simp only [cond_false] at hr
          have hk : md = true → addOp cx.adds o = true ∨ tgtOk cx (restrE e (o.looksAt ops)) h0.length o = true := fun hmd => by
            cases hx : (addOp cx.adds o || tgtOk cx (restrE e (o.looksAt ops)) h0.length o) with
            | true => simpa using hx
            | false => rw [hmd, hx] at hr; cases hr
          have hr : runOps cx F N true ops [o] (restrE e (o.looksAt ops)) h (fun e1 h1 => putBack o.dst e1 e fun env => runAny cx F N md h0 ops rest env h1 fun e h => some (e, h)) = some (e', h') := by
            cases hx : (md && !(addOp cx.adds o || tgtOk cx (restrE e (o.looksAt ops)) h0.length o)) with
            | true => rw [hx] at hr; cases hr
            | false => rw [hx] at hr; exact hr
          simp only [runOps_one] at hr
          obtain ⟨⟨v, h1⟩, h2, hr⟩ := bind_some_iff hr
          obtain ⟨e1, h3, h4⟩ := (putK_pk _ _ _ _).some hr
          exact ⟨v, _, h1, ⟨fun hx => (by rw [hf] at hx; cases hx), fun _ hx => (by rw [hm] at hx; cases hx), fun _ _ => ⟨h2, hk⟩, putK_any h4, rfl⟩, back h4 h3⟩
    obtain ⟨v, e1, h1, hl, hr⟩ := step
    obtain ⟨E, H, V, g1, g2, g3, g4, g5⟩ := runAny_lex hr
    refine ⟨fun k => match k with | 0 => e | k + 1 => E k, fun k => match k with | 0 => h | k + 1 => H k, fun k => match k with | 0 => v | k + 1 => V k, rfl, rfl, g3, g4, fun k o' ho => ?_⟩
    cases k with
    | zero =>
      cases ho
      simp only [g1, g2]
      exact hl
    | succ k => exact g5 k o' (by simpa using ho)
theorem restr_look {env : Env} : ∀ {ls : List Nat} {t : Nat} {v : AV}, look (restrE env ls) t = some v → t ∈ ls ∧ look env t = some v
  | [], t, v, h => by cases h
  | s :: ls, t, v, h => by
    simp only [restrE] at h
    cases hs : look env s with
    | none =>
      rw [hs] at h
      obtain ⟨a, b⟩ := restr_look h
      exact ⟨List.mem_cons_of_mem _ a, b⟩
    | some x =>
      rw [hs] at h
      simp only [look] at h
      split at h
      · rename_i hb
        cases h
        obtain rfl := Nat.eq_of_beq_eq_true hb
        exact ⟨List.mem_cons_self .., hs⟩
      · obtain ⟨a, b⟩ := restr_look h
        exact ⟨List.mem_cons_of_mem _ a, b⟩
theorem look_ext {d : Option Nat} {v : AV} {e : Env} {t : Nat} {x : AV} (h : look (ext d v e) t = some x) : (d = some t ∧ x = v) ∨ (d ≠ some t ∧ look e t = some x) := by
  unfold ext at h
  cases d with
  | none => exact .inr ⟨by simp, h⟩
  | some d =>
    simp only [look] at h
    split at h
    · rename_i hb
      cases h
      exact .inl ⟨by rw [Nat.eq_of_beq_eq_true hb], rfl⟩
    · rename_i hb
      refine .inr ⟨fun hd => ?_, h⟩
      cases hd
      rw [Nat.beq_refl] at hb
      cases hb
theorem ext_look_self {d : Nat} {v : AV} {e : Env} : look (ext (some d) v e) d = some v := by
  simp only [ext, look, Nat.beq_refl]
theorem ext_look_ne {d : Option Nat} {v : AV} {e : Env} {t : Nat} (h : d ≠ some t) : look (ext d v e) t = look e t := by
  unfold ext
  cases d with
  | none => rfl
  | some d =>
    simp only [look]
    split
    · rename_i hb
      exact absurd (by rw [Nat.eq_of_beq_eq_true hb]) h
    · rfl

/-- How many are not listed. -/
def unl (listed : Array Bool) : Nat → Nat
  | 0 => 0
  | n + 1 => unl listed n + cond (listed.getD n true) 0 1
theorem unl_set {listed : Array Bool} {i : Nat} (hu : listed.getD i true = false) : ∀ (n : Nat), unl (listed.setIfInBounds i true) n + (if i < n then 1 else 0) = unl listed n
  | 0 => by simp [unl]
  | n + 1 => by
    have ih := unl_set hu n
    simp only [unl]
    by_cases hin : i = n
    · subst hin
      have hlt : i < listed.size := by
        rcases Nat.lt_or_ge i listed.size with h | h
        · exact h
        · simp [Array.getElem?_eq_none h] at hu
      rw [hu, show (listed.setIfInBounds i true).getD i true = true by simp [hlt]]
      simp at ih ⊢
      omega
    · rw [getD_set_ne true hin]
      by_cases h : i < n
      · simp only [h, if_true] at ih
        simp only [show i < n + 1 by omega, if_true]
        omega
      · simp only [h, if_false] at ih
        simp only [show ¬ i < n + 1 by omega, if_false]
        omega
theorem unl_zero {listed : Array Bool} : ∀ {n : Nat}, unl listed n = 0 → ∀ i, i < n → listed.getD i true = true
  | 0, h, i, hi => by omega
  | n + 1, h, i, hi => by
    simp only [unl] at h
    by_cases hin : i = n
    · subst hin
      cases hx : listed.getD i true with
      | true => rfl
      | false => rw [hx] at h; simp at h
    · exact unl_zero (n := n) (by omega) i (by omega)
theorem getD_tf {listed : Array Bool} {i : Nat} (hi : i < listed.size) (b c : Bool) : listed.getD i b = listed.getD i c := by simp [hi]

section
variable {cx : Cx} {F : EF} {K : Kf} {N : Nat} {md : Bool} {h0 : Heap} {ops : Array Oper} {E : Nat → Env} {H : Nat → Heap} {V : Nat → AV} {a0 : Act} {w0 : World}
/-- What is known when some are listed. -/
structure AnyInv (cx : Cx) (K : Kf) (N : Nat) (ops : Array Oper) (E : Nat → Env) (H : Nat → Heap) (V : Nat → AV) (listed : Array Bool) (a : Act) (w : World) : Prop where
  size : listed.size = ops.size
  closed : Closed ops listed
  st : ∃ S μ e m, St cx K N S μ e (H m) a.tmps w ∧ m ≤ ops.size ∧ (∀ (j : Nat) (o : Oper), ops[j]? = some o → effOp cx.turns o = true → (listed.getD j false = true ↔ j < m)) ∧
    (∀ t v, look (E 0) t = some v → (∀ (k : Nat) (o : Oper), ops[k]? = some o → o.dst = some t → listed.getD k false = false) → look e t = some v) ∧
    ∀ (k : Nat) (o : Oper) (t : Nat), listed.getD k false = true → ops[k]? = some o → o.dst = some t → look e t = some (V k)

theorem QOk.uniq (h : QOk cx.turns md ops) {i j t : Nat} {oi oj : Oper} (hi : ops[i]? = some oi) (hj : ops[j]? = some oj) (di : oi.dst = some t) (dj : oj.dst = some t) : i = j := by
  have ri : (ops.toList.map (qr cx.turns md ops))[i]? = some (qr cx.turns md ops oi) := by rw [recs_get, hi]; rfl
  have rj : (ops.toList.map (qr cx.turns md ops))[j]? = some (qr cx.turns md ops oj) := by rw [recs_get, hj]; rfl
  rcases Nat.lt_trichotomy i j with h1 | h1 | h1
  · exact absurd di ((h j oj hj).up t dj i _ h1 ri)
  · exact h1
  · exact absurd dj ((h i oi hi).up t di j _ h1 rj)
/-- A slot that is looked at: no operation's, or that of one which is waited for. -/
theorem QOk.look (h : QOk cx.turns md ops) {j : Nat} {oj : Oper} (hj : ops[j]? = some oj) {s : Nat} (hs : s ∈ oj.looksAt ops) :
    (∀ (k : Nat) (o : Oper), ops[k]? = some o → o.dst ≠ some s) ∨ (∃ (e : Nat) (o : Oper), ops[e]? = some o ∧ o.dst = some s ∧ Waits ops e j) ∨ ∃ (e : Nat) (o : Oper), ops[e]? = some o ∧ o.dst = some s ∧ (Waits ops j e ∨ e = j) := by
  rcases (h j oj hj).looks s hs with h1 | ⟨e, r, he, hd, hdep⟩ | ⟨e, r, he, hd, hdep⟩
  · refine .inl fun k o ho hd => ?_
    exact h1 k (qr cx.turns md ops o) (by rw [recs_get, ho]; rfl) hd
  · rw [recs_get] at he
    cases ho : ops[e]? with
    | none => rw [ho] at he; cases he
    | some o =>
      rw [ho] at he
      cases he
      obtain ⟨x, hx, hb, hon⟩ := deps_mem.1 hdep
      exact .inr (.inl ⟨e, o, ho, hd, oj, hj, x, hx, hb, hon⟩)
  · rw [recs_get] at he
    cases ho : ops[e]? with
    | none => rw [ho] at he; cases he
    | some o =>
      rw [ho] at he
      cases he
      refine .inr (.inr ⟨e, o, ho, hd, ?_⟩)
      rcases hdep with hdep | hdep
      · obtain ⟨x, hx, hb, hon⟩ := deps_mem.1 hdep
        exact .inl ⟨o, ho, x, hx, hb, hon⟩
      · exact .inr hdep
theorem lex_look (q : QOk cx.turns md ops) (hl : ∀ (k : Nat) (o : Oper), ops[k]? = some o → Lex cx F N md h0 ops o (E k) (H k) (V k) (E (k + 1)) (H (k + 1))) : ∀ (k : Nat), k ≤ ops.size → ∀ t v, look (E k) t = some v →
    (∃ (i : Nat) (o : Oper), i < k ∧ ops[i]? = some o ∧ o.dst = some t ∧ v = V i) ∨ ((∀ (i : Nat) (o : Oper), i < k → ops[i]? = some o → o.dst ≠ some t) ∧ look (E 0) t = some v)
  | 0, hk, t, v, h => .inr ⟨fun i o hi => by omega, h⟩
  | k + 1, hk, t, v, h => by
    have ho : ops[k]? = some ops[k] := Array.getElem?_eq_getElem (by omega)
    rw [(hl k _ ho).env] at h
    rcases look_ext h with ⟨h1, h2⟩ | ⟨h1, h2⟩
    · exact .inl ⟨k, _, by omega, ho, h1, h2⟩
    · rcases lex_look q hl k (by omega) t v h2 with ⟨i, o, h3, h4⟩ | ⟨h3, h4⟩
      · exact .inl ⟨i, o, by omega, h4⟩
      · refine .inr ⟨fun i o hi ho' => ?_, h4⟩
        by_cases hik : i = k
        · subst hik
          rw [ho] at ho'
          cases ho'
          exact h1
        · exact h3 i o (by omega) ho'
theorem lex_heap (hl : ∀ (k : Nat) (o : Oper), ops[k]? = some o → Lex cx F N md h0 ops o (E k) (H k) (V k) (E (k + 1)) (H (k + 1))) {i : Nat} : ∀ (k : Nat), i ≤ k → k ≤ ops.size → (∀ (j : Nat) (o : Oper), i ≤ j → j < k → ops[j]? = some o → effOp cx.turns o = false) → H k = H i
  | 0, h1, h2, h3 => by rw [show i = 0 by omega]
  | k + 1, h1, h2, h3 => by
    by_cases hik : i = k + 1
    · rw [hik]
    · have ih := lex_heap hl k (by omega) (by omega) fun j o hj hjk => h3 j o hj (by omega)
      have ho : ops[k]? = some ops[k] := Array.getElem?_eq_getElem (by omega)
      rw [← ih]
      cases hf : freeOp ops[k] with
      | true => exact ((hl k _ ho).free hf).2
      | false => cases hm : (md && !effOp cx.turns ops[k]) with
        | true => exact ((hl k _ ho).look hf hm).2
        | false => exact oneV_same (h3 k _ (by omega) (by omega) ho) ((hl k _ ho).bound hf hm).1
/-- Where none is turned there are but more of them. -/
theorem lex_grow (hh0 : H 0 = h0) (hl : ∀ (k : Nat) (o : Oper), ops[k]? = some o → Lex cx F N true h0 ops o (E k) (H k) (V k) (E (k + 1)) (H (k + 1))) : ∀ (k : Nat), k ≤ ops.size → ∃ x, H k = H 0 ++ x
  | 0, _ => ⟨[], by simp⟩
  | k + 1, hk => by
    obtain ⟨x, ih⟩ := lex_grow hh0 hl k (by omega)
    have ho : ops[k]? = some ops[k] := Array.getElem?_eq_getElem (by omega)
    cases hf : freeOp ops[k] with
    | true => exact ⟨x, by rw [((hl k _ ho).free hf).2, ih]⟩
    | false => cases hm : (true && !effOp cx.turns ops[k]) with
      | true => exact ⟨x, by rw [((hl k _ ho).look hf hm).2, ih]⟩
      | false =>
        obtain ⟨g1, g2⟩ := (hl k _ ho).bound hf hm
        rcases g2 rfl with g2 | g2
        · obtain ⟨y, hy⟩ := oneV_add g2 g1
          exact ⟨x ++ y, by rw [hy, ih, List.append_assoc]⟩
        · rw [ih] at g1
          rw [hh0] at g1 ⊢
          exact oneV_new g2 g1
/-- One operation, by the model. -/
theorem one_wp (hF : FnSound cx F) (hO : OwnSound cx F) (hX : ExtSound cx) {S : Nat → Prop} {μ : Mu} {e : Env} {h h1 : Heap} {v : AV} {a : Act} {w : World} (st : St cx K N S μ e h a.tmps w) {i : Nat} {o : Oper} (ho : ops[i]? = some o)
    (hv : oneV cx F ops o e h = some (v, h1)) (hp : putK N o.dst v e some = some (ext o.dst v e)) {Kn : Act → World → Prop} {Q : Exit → Act → World → Prop}
    (hn : ∀ S' μ' a' w', St cx K N S' μ' (ext o.dst v e) h1 a'.tmps w' → a'.defers = a.defers → Kn a' w') : wpOp cx.P ops Q i Kn a w := by
  unfold wpOp
  rw [ho]
  simp only
  have one : stepV cx F o e h = some (v, h1) → o.wp cx.P a w Kn Q := fun hs =>
    stepOp_wp (q := true) hF hO hX st (by rw [stepOp_V, hs, Option.bind_some]; exact (putK_pk N o.dst v e).nat (fun e => some (e, h1)) |>.trans (by rw [hp]; rfl)) hn
  have skip : v = .val undef → h1 = h → Kn (a.put o.dst undef) w := fun h2 h3 => by
    subst h2; subst h3
    exact hn S μ _ w (st.putO rfl hp (.val undef)) putK_defers
  unfold oneV at hv
  cases hg : o.guard with
  | none =>
    rw [hg] at hv
    have hw : Region.wanted o (yielded ops a.tmps) = true := by unfold Region.wanted; rw [hg]
    rw [if_pos hw]
    exact .inl (one hv)
  | some jw =>
    obtain ⟨j, want⟩ := jw
    rw [hg] at hv
    obtain ⟨d, h2, hv⟩ := bind_some_iff hv
    obtain ⟨x, h3, hv⟩ := bind_some_iff hv
    have hrep := st.env d x h3
    split at hv
    · rename_i b
      have hb : a.tmps[d]? = some (.bool b) := getD_some hrep.inv_val (by simp [undef])
      have hw : Region.wanted o (yielded ops a.tmps) = (b == want) := by
        unfold Region.wanted
        rw [hg]
        simp only [yielded_of h2 hb]
        cases b <;> cases want <;> rfl
      cases hbw : (b == want) with
      | true =>
        rw [hbw] at hv hw
        rw [if_pos hw]
        exact .inl (one hv)
      | false =>
        rw [hbw] at hv hw
        rw [if_neg (by rw [hw]; simp)]
        cases hv
        exact skip rfl rfl
    · rename_i us
      have hne : Region.wanted o (yielded ops a.tmps) = false := by
        unfold Region.wanted
        rw [hg]
        have : yielded ops a.tmps j = none := by
          unfold gslot at h2
          unfold yielded
          rw [h2]
          simp only [Option.bind_some]
          have h5 := hrep.inv_val
          rw [Array.getD_eq_getD_getElem?] at h5
          cases hx : a.tmps[d]? with
          | none => rfl
          | some x => rw [hx] at h5; simp at h5; rw [h5]
        simp only [this]
        rfl
      rw [if_neg (by rw [hne]; simp)]
      cases hv
      exact skip rfl rfl
    · cases hv
theorem AnyInv.next (hF : FnSound cx F) (hO : OwnSound cx F) (hX : ExtSound cx) (q : QOk cx.turns md ops) (od : OrdOk cx.turns md ops) (hh0 : md = true → H 0 = h0) (hl : ∀ (k : Nat) (o : Oper), ops[k]? = some o → Lex cx F N md h0 ops o (E k) (H k) (V k) (E (k + 1)) (H (k + 1))) {listed : Array Bool} {a : Act} {w : World}
    (inv : AnyInv cx K N ops E H V listed a w) {i : Nat} (hr : i ∈ Region.ready .any ops listed) {Kn : Act → World → Prop} {Q : Exit → Act → World → Prop}
    (hn : ∀ a' w', AnyInv cx K N ops E H V (listed.setIfInBounds i true) a' w' → a'.defers = a.defers → Kn a' w') : wpOp cx.P ops Q i Kn a w := by
  obtain ⟨hsz, hcl, S, μ, e, m, st, hm, heff, henv0, henv⟩ := inv
  obtain ⟨hu, o, ho, hall⟩ := mem_ready.1 hr
  have his : i < ops.size := (Array.getElem?_eq_some_iff.1 ho).1
  have huf : listed.getD i false = false := by rw [getD_tf (by omega) false true]; exact hu
  have lx := hl i o ho
  have hE : ∀ t v, look (restrE (E i) (o.looksAt ops)) t = some v → look e t = some v := fun t v ht => by
    obtain ⟨h1, h2⟩ := restr_look ht
    rcases lex_look q hl i (by omega) t v h2 with ⟨k, ok, hk, hok, hdk, rfl⟩ | ⟨h3, h4⟩
    · rcases q.look ho h1 with h5 | ⟨e', o', he', hd', hw⟩ | ⟨e', o', he', hd', hw⟩
      · exact absurd hdk (h5 k ok hok)
      · have : e' = k := q.uniq he' hok hd' hdk
        subst this
        obtain ⟨o2, ho2, x, hx, hb, hon⟩ := hw
        rw [ho] at ho2
        cases ho2
        refine henv e' ok t ?_ hok hdk
        rw [← hon]
        exact hall x hx hb
      · have : e' = k := q.uniq he' hok hd' hdk
        subst this
        rcases hw with ⟨o2, ho2, x, hx, hb, hon⟩ | hw
        · have := q.dep ho2 x hx hb
          omega
        · omega
    · rcases q.look ho h1 with h5 | ⟨e', o', he', hd', hw⟩ | ⟨e', o', he', hd', hw⟩
      · exact henv0 t v h4 fun k o' ho' hd' => absurd hd' (h5 k o' ho')
      · obtain ⟨o2, ho2, x, hx, hb, hon⟩ := hw
        rw [ho] at ho2
        cases ho2
        have := q.dep ho x hx hb
        exact absurd hd' (h3 e' o' (by omega) he')
      · refine henv0 t v h4 fun k o2 ho2 hd2 => ?_
        have : k = e' := q.uniq ho2 he' hd2 hd'
        subst this
        rcases hw with hw | hw
        · cases hx : listed.getD k false with
          | false => rfl
          | true =>
            have := hcl i k hw hx
            rw [huf] at this
            cases this
        · rw [hw]; exact huf
  have setf : ∀ j, j ≠ i → (listed.setIfInBounds i true).getD j false = listed.getD j false := fun j hj => getD_set_ne false (Ne.symm hj)
  have seti : (listed.setIfInBounds i true).getD i false = true := by simp [show i < listed.size by omega]
  have hcl' : Closed ops (listed.setIfInBounds i true) := fun x y hw hy => by
    by_cases hyi : y = i
    · subst hyi
      obtain ⟨o2, ho2, z, hz, hb, hon⟩ := hw
      rw [ho] at ho2
      cases ho2
      have h1 := hall z hz hb
      rw [hon] at h1
      exact getD_set_true h1
    · rw [setf y hyi] at hy
      exact getD_set_true (hcl x y hw hy)
  have back : ∀ (m' : Nat) (S' : Nat → Prop) (μ' : Mu) (a' : Act) (w' : World), m' ≤ ops.size → (∀ j oj, ops[j]? = some oj → effOp cx.turns oj = true → ((listed.setIfInBounds i true).getD j false = true ↔ j < m')) →
      St cx K N S' μ' (ext o.dst (V i) e) (H m') a'.tmps w' → AnyInv cx K N ops E H V (listed.setIfInBounds i true) a' w' := fun m' S' μ' a' w' hm' hx st' => by
    refine ⟨by simp [hsz], hcl', S', μ', _, m', st', hm', hx, fun t v ht hno => ?_, fun k ok t hk hok hd => ?_⟩
    · have hne : o.dst ≠ some t := fun hd => by
        have := hno i o ho hd
        rw [show (listed.setIfInBounds i true).getD i false = true by simp [show i < listed.size by omega]] at this
        cases this
      rw [ext_look_ne hne]
      refine henv0 t v ht fun k o' ho' hd' => ?_
      have := hno k o' ho' hd'
      by_cases hki : k = i
      · subst hki
        exact huf
      · rwa [getD_set_ne false (Ne.symm hki)] at this
    · by_cases hki : k = i
      · subst hki
        rw [ho] at hok
        cases hok
        rw [hd]
        exact ext_look_self
      · rw [setf k hki] at hk
        rw [ext_look_ne (fun h => hki (q.uniq hok ho hd h))]
        exact henv k ok t hk hok hd
  cases hf : freeOp o with
  | true =>
    have h1 := oneV_up hE (lx.free hf).1
    have h2 := (oneV_free (h' := H m) hf h1).2
    have hne : effOp cx.turns o = false := freeOp_eff hf
    refine one_wp hF hO hX st ho h2 (lx.put e) fun S' μ' a' w' st' hd => hn a' w' (back m S' μ' a' w' hm (fun j oj hj he => ?_) st') hd
    by_cases hji : j = i
    · subst hji
      rw [ho] at hj
      cases hj
      rw [hne] at he
      cases he
    · rw [setf j hji]
      exact heff j oj hj he
  | false =>
    cases hmd : (md && !effOp cx.turns o) with
    | true =>
      -- it only looks: at the objects that were there at the region's begin
      have hm1 : md = true := by
        cases md with
        | true => rfl
        | false => cases hmd
      have hne : effOp cx.turns o = false := by
        rw [hm1] at hmd
        simpa using hmd
      obtain ⟨⟨h', h1⟩, _⟩ := lx.look hf hmd
      have h1 := oneV_up hE h1
      obtain ⟨x, hx⟩ := lex_grow (hh0 hm1) (hm1 ▸ hl) m hm
      have h2 : oneV cx F ops o e (H m) = some (V i, H m) := by
        rw [hx, hh0 hm1]
        exact oneV_mono hne h1
      refine one_wp hF hO hX st ho h2 (lx.put e) fun S' μ' a' w' st' hd => hn a' w' (back m S' μ' a' w' hm (fun j oj hj he => ?_) st') hd
      by_cases hji : j = i
      · subst hji
        rw [ho] at hj
        cases hj
        rw [hne] at he
        cases he
      · rw [setf j hji]
        exact heff j oj hj he
    | false =>
    have hlo : loose cx.turns md o = false := by
      unfold loose
      cases md with
      | false => simpa using hf
      | true => simpa using hmd
    have low : ∀ j oj, j < i → ops[j]? = some oj → effOp cx.turns oj = true → listed.getD j false = true := fun j oj hji hj he => by
      exact hcl.ready ((od j oj hj he).2.2 i o hji ho hlo) hr
    have high : ∀ j oj, i < j → ops[j]? = some oj → effOp cx.turns oj = true → listed.getD j false = false := fun j oj hij hj he => by
      cases hx : listed.getD j false with
      | false => rfl
      | true =>
        have := hcl.path ((od j oj hj he).2.1 i o hij ho hlo) hx
        rw [huf] at this
        cases this
    have hH : H m = H i := by
      rcases Nat.le_total m i with h | h
      · refine (lex_heap hl i h (by omega) fun j oj h1 h2 hj => ?_).symm
        cases he : effOp cx.turns oj with
        | false => rfl
        | true =>
          have := (heff j oj hj he).1 (low j oj h2 hj he)
          omega
      · refine lex_heap hl m h hm fun j oj h1 h2 hj => ?_
        cases he : effOp cx.turns oj with
        | false => rfl
        | true =>
          have h3 := (heff j oj hj he).2 h2
          by_cases hji : j = i
          · subst hji
            rw [huf] at h3
            cases h3
          · rw [high j oj (by omega) hj he] at h3
            cases h3
    have h1 := oneV_up hE (lx.bound hf hmd).1
    rw [← hH] at h1
    refine one_wp hF hO hX st ho h1 (lx.put e) fun S' μ' a' w' st' hd => ?_
    cases he : effOp cx.turns o with
    | true =>
      refine hn a' w' (back (i + 1) S' μ' a' w' (by omega) (fun j oj hj hej => ?_) st') hd
      by_cases hji : j = i
      · subst hji
        exact ⟨fun _ => by omega, fun _ => seti⟩
      · rw [setf j hji]
        rcases Nat.lt_or_ge j i with h2 | h2
        · exact ⟨fun _ => by omega, fun _ => low j oj h2 hj hej⟩
        · rw [high j oj (by omega) hj hej]
          exact ⟨(fun hx => by cases hx), fun hx => by omega⟩
    | false =>
      have h2 := oneV_same he h1
      have h3 : H (i + 1) = H m := h2
      rw [h3] at st'
      refine hn a' w' (back m S' μ' a' w' hm (fun j oj hj hej => ?_) st') hd
      by_cases hji : j = i
      · subst hji
        rw [ho] at hj
        cases hj
        rw [he] at hej
        cases hej
      · rw [setf j hji]
        exact heff j oj hj hej
theorem AnyInv.done (q : QOk cx.turns md ops) (hl : ∀ (k : Nat) (o : Oper), ops[k]? = some o → Lex cx F N md h0 ops o (E k) (H k) (V k) (E (k + 1)) (H (k + 1))) {listed : Array Bool} {a : Act} {w : World}
    (inv : AnyInv cx K N ops E H V listed a w) (hall : ∀ i, i < ops.size → listed.getD i true = true) : ∃ S μ, St cx K N S μ (E ops.size) (H ops.size) a.tmps w := by
  obtain ⟨hsz, hcl, S, μ, e, m, st, hm, heff, henv0, henv⟩ := inv
  have hallf : ∀ i, i < ops.size → listed.getD i false = true := fun i hi => by rw [getD_tf (by omega) false true]; exact hall i hi
  have hH : H ops.size = H m := lex_heap hl ops.size hm (Nat.le_refl _) fun j oj h1 h2 hj => by
    cases he : effOp cx.turns oj with
    | false => rfl
    | true =>
      have := (heff j oj hj he).1 (hallf j h2)
      omega
  refine ⟨S, μ, ?_⟩
  rw [hH]
  refine { st with env := fun t v ht => st.env t v ?_ }
  rcases lex_look q hl ops.size (Nat.le_refl _) t v ht with ⟨i, o, hi, ho, hd, rfl⟩ | ⟨h1, h2⟩
  · exact henv i o t (hallf i hi) ho hd
  · exact henv0 t v h2 fun k o hk hd => absurd hd (h1 k o (Array.getElem?_eq_some_iff.1 hk).1 hk)
theorem ready_none (q : QOk cx.turns md ops) {listed : Array Bool} (hsz : listed.size = ops.size) (hr : Region.ready .any ops listed = []) : ∀ i, i < ops.size → listed.getD i true = true := by
  intro i
  induction i using Nat.strongRecOn with
  | _ i ih =>
    intro hi
    cases hx : listed.getD i true with
    | true => rfl
    | false =>
      have ho : ops[i]? = some ops[i] := Array.getElem?_eq_getElem hi
      have : i ∈ Region.ready .any ops listed := mem_ready.2 ⟨hx, _, ho, fun e he hb => by
        have h1 := q.dep ho e he hb
        rw [getD_tf (by omega) false true]
        exact ih e.on h1 (by omega)⟩
      rw [hr] at this
      cases this
theorem any_wp (hF : FnSound cx F) (hO : OwnSound cx F) (hX : ExtSound cx) (q : QOk cx.turns md ops) (od : OrdOk cx.turns md ops) (hh0 : md = true → H 0 = h0) (hl : ∀ (k : Nat) (o : Oper), ops[k]? = some o → Lex cx F N md h0 ops o (E k) (H k) (V k) (E (k + 1)) (H (k + 1))) {Q : Exit → Act → World → Prop} {a0 : Act}
    (hq : ∀ S μ a w, St cx K N S μ (E ops.size) (H ops.size) a.tmps w → a.defers = a0.defers → Q .normal a w) : ∀ (fuel : Nat) (listed : Array Bool) (a : Act) (w : World), unl listed ops.size = fuel →
    AnyInv cx K N ops E H V listed a w → a.defers = a0.defers → wpAny cx.P .any ops Q fuel listed a w
  | 0, listed, a, w, hu, inv, hd => by
    have hall := unl_zero hu
    refine ⟨?_, ?_⟩
    · cases hr : Region.ready .any ops listed with
      | nil => rfl
      | cons i l =>
        have hi : i ∈ Region.ready .any ops listed := by rw [hr]; exact List.mem_cons_self ..
        obtain ⟨h1, o, ho, _⟩ := mem_ready.1 hi
        rw [hall i (Array.getElem?_eq_some_iff.1 ho).1] at h1
        cases h1
    · obtain ⟨S, μ, st⟩ := inv.done q hl hall
      exact hq S μ a w st hd
  | fuel + 1, listed, a, w, hu, inv, hd => by
    refine ⟨fun hr => ?_, fun i hi => ?_⟩
    · obtain ⟨S, μ, st⟩ := inv.done q hl (ready_none q inv.size hr)
      exact hq S μ a w st hd
    · obtain ⟨h1, o, ho, _⟩ := mem_ready.1 hi
      have his : i < ops.size := (Array.getElem?_eq_some_iff.1 ho).1
      refine inv.next hF hO hX q od hh0 hl hi fun a' w' inv' hd' => any_wp hF hO hX q od hh0 hl hq fuel _ a' w' ?_ inv' (hd'.trans hd)
      have := unl_set h1 ops.size
      rw [if_pos his] at this
      omega
theorem unl_replicate (k : Nat) : ∀ (n : Nat), n ≤ k → unl (Array.replicate k false) n = n
  | 0, h => rfl
  | n + 1, h => by
    simp only [unl]
    rw [unl_replicate k n (by omega), show (Array.replicate k false).getD n true = false by simp [show n < k by omega]]
    rfl
theorem region_any (hF : FnSound cx F) (hO : OwnSound cx F) (hX : ExtSound cx) {S : Nat → Prop} {μ : Mu} {env env' : Env} {h h' : Heap} {a : Act} {w : World} (st : St cx K N S μ env h a.tmps { w with drawn := w.drawn + 1 }) {id : Nat}
    (hok : anyOk cx.P cx.turns md ops = true) (hh : md = true → h = h0) (hr : runAny cx F N md h0 ops ops.toList env h (fun e h => some (e, h)) = some (env', h')) {Q : Exit → Act → World → Prop}
    (hq : ∀ S' μ' a' w', St cx K N S' μ' env' h' a'.tmps w' → a'.defers = a.defers → Q .normal a' w') : (Code.region id ops true).wp cx.P Q a w := by
  obtain ⟨hm, _, q, od⟩ := anyOk_spec hok
  obtain ⟨E, H, V, g1, g2, g3, g4, g5⟩ := runAny_lex hr
  have hl : ∀ (k : Nat) (o : Oper), ops[k]? = some o → Lex cx F N md h0 ops o (E k) (H k) (V k) (E (k + 1)) (H (k + 1)) := fun k o ho => g5 k o (by simpa using ho)
  have hsz : ops.toList.length = ops.size := by simp
  rw [hsz] at g3 g4
  refine wp_region_any hm (any_wp (E := E) (H := H) (V := V) (h0 := h0) hF hO hX q od (fun hx => g2.trans (hh hx)) hl (a0 := a) (fun S' μ' a' w' st' hd => hq S' μ' a' w' (by rw [← g3, ← g4]; exact st') hd) ops.size _ a _ (unl_replicate _ _ (Nat.le_refl _)) ?_ rfl)
  have hz0 : ∀ j b, j < ops.size → (Array.replicate ops.size false).getD j b = false := fun j b hj => by simp [hj]
  have hz0' : ∀ j, (Array.replicate ops.size false).getD j false = false := fun j => getD_replicate_false _ _
  refine ⟨by simp, fun i j hw hj => ?_, S, μ, env, 0, by rw [g2]; exact st, Nat.zero_le _, fun j o hj he => ?_, fun t v ht _ => by rw [g1] at ht; exact ht, fun k o t hk => ?_⟩
  · rw [hz0' j] at hj; cases hj
  · rw [hz0' j]; exact ⟨(fun hx => by cases hx), fun hx => by omega⟩
  · rw [hz0' k] at hk; cases hk
end
end Go.Proofs.Av
