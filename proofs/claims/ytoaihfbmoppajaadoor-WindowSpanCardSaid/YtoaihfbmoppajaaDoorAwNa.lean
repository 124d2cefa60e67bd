/- One operation, seen as a value and what objects it leaves; it may be given more to see. -/
import Derived.Test.YtoaihfbmoppajaaDoorAwM
namespace Go.Proofs.Av
open Go
variable {ρ : Type}

theorem Pk.nat {α : Type} {X : (ρ : Type) → (α → Option ρ) → Option ρ} (h : Pk X) (c : α → Option ρ) : X ρ c = (X α Option.some).bind c := by
  cases hx : X α Option.some with
  | none =>
    cases hy : X ρ c with
    | none => rfl
    | some r =>
      obtain ⟨a, _, h2⟩ := h ρ c r hy
      rw [h2 α Option.some] at hx
      cases hx
  | some a =>
    obtain ⟨a', h1, h2⟩ := h α Option.some a hx
    cases h1
    exact h2 ρ c
theorem obind_assoc {α β : Type} (x : Option α) (f : α → Option β) (g : β → Option ρ) : (x.bind f).bind g = x.bind fun a => (f a).bind g := by cases x <;> rfl
theorem ask_pk (F : EF) (key : Key) (args : List AV) (h : Heap) : Pk (fun ρ c => (F key args h).bind c) := Pk.optbind _
theorem callV_pk (cx : Cx) (F : EF) (q : Bool) (t : TypeId) (fv : AV) (args : List AV) (h : Heap) : Pk (fun ρ c => callV (ρ := ρ) cx F q t fv args h c) := fun ρ c r hr =>
  let ⟨a, h1, h2, _⟩ := callV_pkl (F := F) (G := fun _ => F) (fun _ _ _ r hr => ⟨0, fun _ _ => hr⟩) cx q t fv args h ρ c r hr
  ⟨a, h1, h2⟩
/-- What an operation yields, and the objects behind it. -/
def stepV (cx : Cx) (F : EF) (o : Oper) (e : Env) (h : Heap) : Option (AV × Heap) :=
  match o.op with
  | .alloc t => (cx.zero t).bind fun z => (cx.size t).bind fun n => match Nat.beq (zcells z).length n with
    | true => some (.ptr h.length 0 0 0, h ++ [⟨.box, t, n, 0, [(zcells z).map .val]⟩])
    | false => none
  | .box t x => (opnd cx e x).bind fun v => some (.ptr h.length 0 0 0, h ++ [⟨.box, t, v.cells.length, 0, [v.cells]⟩])
  | .store t a x => (opnd cx e a).bind fun p => (opnd cx e x).bind fun v => (storeV cx t p v h some).bind fun h => some (.val undef, h)
  | .buildSlice t len parts => (cx.P.underlying t).bind fun d => match d with
    | .slice e' => (cx.zero e').bind fun z => (cx.size e').bind fun s => (parts? cx e parts.toList).bind fun ps =>
      match Nat.beq (zcells z).length s && (Nat.blt 0 s && (Nat.blt 0 len && (Nat.ble (len * s) 16777216 && Nat.beq ps.length len))) with
      | true => (rowsP s 0 ps some).bind fun rows => some (.list 1 s rows, h)
      | false => none
    | _ => none
  | .call { callee := .value f, args, argTypes } => (opnd cx e f).bind fun fv => (opnds cx e args.toList).bind fun vs => (callV cx F false o.type fv vs h some).bind fun v => some (v, h)
  | op => (evalA cx op e h some).bind fun v => some (v, h)
theorem stepOp_V (cx : Cx) (F : EF) (N : Nat) (o : Oper) (e : Env) (h : Heap) (c : Env → Heap → Option ρ) :
    stepOp cx F N false o e h c = (stepV cx F o e h).bind fun p => putK N o.dst p.1 e fun e => c e p.2 := by
  unfold stepOp stepV
  have hev : ∀ op, evalA cx op e h (fun v => putK N o.dst v e fun env => c env h) = ((evalA cx op e h some).bind fun v => some (v, h)).bind fun p => putK N o.dst p.1 e fun e => c e p.2 := fun op => by
    rw [(evalA_pk cx op e h).nat]
    simp only [obind_assoc, Option.bind_some]
  cases hop : o.op <;> first
    | exact hev _
    | skip
  case alloc t =>
    simp only [obind_assoc]
    congr 1; funext z; congr 1; funext n
    cases Nat.beq (zcells z).length n <;> rfl
  case box t x => simp only [obind_assoc, Option.bind_some]
  case store t a x =>
    simp only [obind_assoc, Option.bind_some]
    congr 1; funext p; congr 1; funext v
    exact (storeV_pk cx t p v h).nat _
  case buildSlice t len parts =>
    simp only [obind_assoc]
    congr 1; funext d
    cases d <;> first
      | rfl
      | skip
    simp only [obind_assoc]
    congr 1; funext z; congr 1; funext s; congr 1; funext ps
    cases (Nat.beq (zcells z).length s && (Nat.blt 0 s && (Nat.blt 0 len && (Nat.ble (len * s) 16777216 && Nat.beq ps.length len))))
    · rfl
    · simp only
      rw [(rowsP_pk s ps 0).nat]
      simp only [obind_assoc, Option.bind_some]
  case call cl =>
    obtain ⟨callee, args, ts⟩ := cl
    cases callee <;> first
      | exact hev _
      | skip
    simp only [obind_assoc, Option.bind_some]
    congr 1; funext fv; congr 1; funext vs
    exact (callV_pk cx F false o.type fv vs h).nat _
/-- With its guard. -/
def oneV (cx : Cx) (F : EF) (ops : Array Oper) (o : Oper) (e : Env) (h : Heap) : Option (AV × Heap) :=
  match o.guard with
  | none => stepV cx F o e h
  | some (j, want) => (gslot ops j).bind fun d => (look e d).bind fun v => match v with
    | .val (.bool b) => cond (b == want) (stepV cx F o e h) (some (.val undef, h))
    | .val (.tuple _) => some (.val undef, h)
    | _ => none
theorem runOps_one (cx : Cx) (F : EF) (N : Nat) (ops : Array Oper) (o : Oper) (e : Env) (h : Heap) (c : Env → Heap → Option ρ) :
    runOps cx F N false ops [o] e h c = (oneV cx F ops o e h).bind fun p => putK N o.dst p.1 e fun e => c e p.2 := by
  simp only [runOps, oneV, stepOp_V]
  cases o.guard with
  | none => rfl
  | some jw =>
    obtain ⟨j, want⟩ := jw
    simp only [obind_assoc]
    congr 1; funext d; congr 1; funext v
    cases v <;> first
      | rfl
      | skip
    rename_i x
    cases x <;> first
      | rfl
      | skip
    rename_i b
    cases hb : (b == want) <;> simp only [hb, cond_true, cond_false] <;> rfl

theorem bind_up {α β : Type} {x0 x : Option α} {f0 f : α → Option β} {r : β} (h : x0.bind f0 = some r) (hx : ∀ a, x0 = some a → x = some a) (hf : ∀ a, f0 a = some r → f a = some r) : x.bind f = some r := by
  obtain ⟨a, h1, h2⟩ := bind_some_iff h
  rw [hx a h1]
  exact hf a h2
section up
variable {cx : Cx} {e0 e : Env} (hE : ∀ t v, look e0 t = some v → look e t = some v)
include hE
theorem opnd_up {x : Operand} {v : AV} (h : opnd cx e0 x = some v) : opnd cx e x = some v := by
  cases x <;> first
    | exact hE _ _ h
    | exact h
theorem opnds_up : ∀ {l : List Operand} {vs : List AV}, opnds cx e0 l = some vs → opnds cx e l = some vs
  | [], vs, h => h
  | x :: xs, vs, h => by
    simp only [opnds] at h ⊢
    exact bind_up h (fun _ => opnd_up hE) fun _ h => bind_up h (fun _ => opnds_up) fun _ h => h
theorem parts_up : ∀ {l : List (Nat × Operand)} {vs : List (Nat × AV)}, parts? cx e0 l = some vs → parts? cx e l = some vs
  | [], vs, h => h
  | (i, x) :: xs, vs, h => by
    simp only [parts?] at h ⊢
    exact bind_up h (fun _ => opnd_up hE) fun _ h => bind_up h (fun _ => parts_up) fun _ h => h
theorem oopnd_up {x : Option Operand} {v : Option AV} (h : oopnd cx e0 x = some v) : oopnd cx e x = some v := by
  cases x with
  | none => exact h
  | some x =>
    simp only [oopnd] at h ⊢
    exact bind_up h (fun _ => opnd_up hE) fun _ h => h
theorem evalA_up {op : Op} {h : Heap} {c : AV → Option ρ} {r : ρ} (hs : evalA cx op e0 h c = some r) : evalA cx op e h c = some r := by
  unfold evalA at hs ⊢
  split at hs <;> first
    | exact bind_up hs (fun _ => opnd_up hE) fun _ h => h
    | exact bind_up hs (fun _ => opnd_up hE) fun _ h => bind_up h (fun _ => opnd_up hE) fun _ h => h
    | exact bind_up hs (fun _ => opnds_up hE) fun _ h => h
    | exact bind_up hs (fun _ => opnds_up hE) fun _ h => bind_up h (fun _ => opnds_up hE) fun _ h => h
    | exact bind_up hs (fun _ => parts_up hE) fun _ h => h
    | exact bind_up hs (fun _ => opnd_up hE) fun _ h => bind_up h (fun _ => oopnd_up hE) fun _ h => bind_up h (fun _ => oopnd_up hE) fun _ h => bind_up h (fun _ => oopnd_up hE) fun _ h => h
    | (cases hs; done)
    | (refine bind_up hs (fun _ => opnd_up hE) fun v h => ?_
       split at h
       · rename_i t
         cases t
         · exact bind_up h (fun _ => opnd_up hE) fun _ h => h
         · exact bind_up h (fun _ => opnd_up hE) fun _ h => h
       · cases h)
theorem stepV_up {F : EF} {o : Oper} {h : Heap} {p : AV × Heap} (hs : stepV cx F o e0 h = some p) : stepV cx F o e h = some p := by
  unfold stepV at hs ⊢
  split at hs <;> first
    | exact hs
    | exact bind_up hs (fun _ h => evalA_up hE h) fun _ h => h
    | exact bind_up hs (fun _ => opnd_up hE) fun _ h => h
    | exact bind_up hs (fun _ => opnd_up hE) fun _ h => bind_up h (fun _ => opnd_up hE) fun _ h => h
    | exact bind_up hs (fun _ => opnd_up hE) fun _ h => bind_up h (fun _ => opnds_up hE) fun _ h => h
    | skip
  refine bind_up hs (fun _ h => h) fun d h => ?_
  split at h
  · exact bind_up h (fun _ h => h) fun _ h => bind_up h (fun _ h => h) fun _ h => bind_up h (fun _ => parts_up hE) fun _ h => h
  · cases h
theorem oneV_up {F : EF} {ops : Array Oper} {o : Oper} {h : Heap} {p : AV × Heap} (hs : oneV cx F ops o e0 h = some p) : oneV cx F ops o e h = some p := by
  unfold oneV at hs ⊢
  cases hg : o.guard with
  | none => rw [hg] at hs; exact stepV_up hE hs
  | some jw =>
    obtain ⟨j, want⟩ := jw
    rw [hg] at hs
    refine bind_up hs (fun _ h => h) fun d h => bind_up h (fun _ h => hE _ _ h) fun v h => ?_
    split at h
    · rename_i b
      cases hb : (b == want) with
      | true =>
        simp only [hb, cond_true] at h ⊢
        exact stepV_up hE h
      | false =>
        simp only [hb, cond_false] at h ⊢
        exact h
    · exact h
    · cases h
end up
/-- What does not look at objects is the same whatever there are. -/
theorem evalA_free {cx : Cx} {o : Oper} {e : Env} {h h' : Heap} {c : AV → Option ρ} (hf : freeOp o = true) : evalA cx o.op e h c = evalA cx o.op e h' c := by
  unfold freeOp at hf
  cases hop : o.op <;> rw [hop] at hf <;> first
    | rfl
    | (cases hf; done)
    | skip
  rename_i cl
  obtain ⟨callee, args, ts⟩ := cl
  cases callee <;> first
    | rfl
    | cases hf
theorem stepV_free {cx : Cx} {F : EF} {o : Oper} {e : Env} {h h' h1 : Heap} {v : AV} (hf : freeOp o = true) (hs : stepV cx F o e h = some (v, h1)) : h1 = h ∧ stepV cx F o e h' = some (v, h') := by
  have hev : ((evalA cx o.op e h some).bind fun v => some (v, h)) = some (v, h1) → h1 = h ∧ ((evalA cx o.op e h' some).bind fun v => some (v, h')) = some (v, h') := fun hs => by
    obtain ⟨v', h2, h3⟩ := bind_some_iff hs
    cases h3
    rw [evalA_free (h' := h') hf] at h2
    rw [h2]
    first | exact ⟨rfl, rfl⟩ | exact ⟨rfl, trivial⟩ | exact ⟨trivial, trivial⟩ | trivial
  unfold stepV at hs ⊢
  unfold freeOp at hf
  cases hop : o.op <;> rw [hop] at hf hs hev <;> first
    | exact hev hs
    | (cases hf; done)
    | skip
  case buildSlice t len parts =>
    obtain ⟨d, h2, hs⟩ := bind_some_iff hs
    simp only [h2, Option.bind_some]
    split at hs
    · obtain ⟨z, h3, hs⟩ := bind_some_iff hs
      obtain ⟨s, h4, hs⟩ := bind_some_iff hs
      obtain ⟨ps, h5, hs⟩ := bind_some_iff hs
      simp only [h3, h4, h5, Option.bind_some]
      split at hs
      · rename_i hc
        obtain ⟨rows, h6, hs⟩ := bind_some_iff hs
        cases hs
        simp only [hc, h6, Option.bind_some]
        first | exact ⟨rfl, rfl⟩ | exact ⟨rfl, trivial⟩ | exact ⟨trivial, trivial⟩ | trivial
      · cases hs
    · cases hs
  case call cl =>
    obtain ⟨callee, args, ts⟩ := cl
    cases callee <;> first
      | exact hev hs
      | cases hf
theorem stepV_same {cx : Cx} {F : EF} {o : Oper} {e : Env} {h h1 : Heap} {v : AV} (hf : effOp o = false) (hs : stepV cx F o e h = some (v, h1)) : h1 = h := by
  have hev : ∀ op, ((evalA cx op e h some).bind fun v => some (v, h)) = some (v, h1) → h1 = h := fun op hs => by
    obtain ⟨v', h2, h3⟩ := bind_some_iff hs
    cases h3
    rfl
  unfold stepV at hs
  unfold effOp at hf
  cases hop : o.op <;> rw [hop] at hf hs <;> first
    | exact hev _ hs
    | (cases hf; done)
    | skip
  case buildSlice t len parts =>
    obtain ⟨d, h2, hs⟩ := bind_some_iff hs
    split at hs
    · obtain ⟨z, h3, hs⟩ := bind_some_iff hs
      obtain ⟨s, h4, hs⟩ := bind_some_iff hs
      obtain ⟨ps, h5, hs⟩ := bind_some_iff hs
      split at hs
      · obtain ⟨rows, h6, hs⟩ := bind_some_iff hs
        cases hs
        rfl
      · cases hs
    · cases hs
  case call cl =>
    obtain ⟨callee, args, ts⟩ := cl
    cases callee <;> first
      | exact hev _ hs
      | skip
    obtain ⟨fv, h2, hs⟩ := bind_some_iff hs
    obtain ⟨vs, h3, hs⟩ := bind_some_iff hs
    obtain ⟨x, h4, hs⟩ := bind_some_iff hs
    cases hs
    rfl
theorem oneV_free {cx : Cx} {F : EF} {ops : Array Oper} {o : Oper} {e : Env} {h h' h1 : Heap} {v : AV} (hf : freeOp o = true) (hs : oneV cx F ops o e h = some (v, h1)) : h1 = h ∧ oneV cx F ops o e h' = some (v, h') := by
  unfold oneV at hs ⊢
  cases hg : o.guard with
  | none => rw [hg] at hs; exact stepV_free hf hs
  | some jw =>
    obtain ⟨j, want⟩ := jw
    rw [hg] at hs
    obtain ⟨d, h2, hs⟩ := bind_some_iff hs
    obtain ⟨x, h3, hs⟩ := bind_some_iff hs
    simp only [h2, h3, Option.bind_some]
    split at hs
    · rename_i b
      cases hb : (b == want) with
      | true =>
        simp only [hb, cond_true] at hs ⊢
        exact stepV_free hf hs
      | false =>
        simp only [hb, cond_false] at hs ⊢
        cases hs
        exact ⟨rfl, rfl⟩
    · cases hs
      exact ⟨rfl, rfl⟩
    · cases hs
theorem oneV_same {cx : Cx} {F : EF} {ops : Array Oper} {o : Oper} {e : Env} {h h1 : Heap} {v : AV} (hf : effOp o = false) (hs : oneV cx F ops o e h = some (v, h1)) : h1 = h := by
  unfold oneV at hs
  cases hg : o.guard with
  | none => rw [hg] at hs; exact stepV_same hf hs
  | some jw =>
    obtain ⟨j, want⟩ := jw
    rw [hg] at hs
    obtain ⟨d, h2, hs⟩ := bind_some_iff hs
    obtain ⟨x, h3, hs⟩ := bind_some_iff hs
    split at hs
    · rename_i b
      cases hb : (b == want) with
      | true =>
        simp only [hb, cond_true] at hs
        exact stepV_same hf hs
      | false =>
        simp only [hb, cond_false] at hs
        cases hs
        rfl
    · cases hs
      rfl
    · cases hs
end Go.Proofs.Av
