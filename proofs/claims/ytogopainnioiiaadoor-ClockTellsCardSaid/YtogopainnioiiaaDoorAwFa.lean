/- The evaluator once more, in the form that the kernel reduces quickly: each list and object is laid in sight before it is handed on. It is the same evaluator. -/
import Derived.Test.YtogopainnioiiaaDoorAwNa
namespace Go.Proofs.Av
open Go
variable {ρ : Type}

def fVal (v : Value) (c : Value → Option ρ) : Option ρ := match v with
  | .int k n => c (.int k n)
  | .bool b => c (.bool b)
  | .string s => c (.string s)
  | .float k n => c (.float k n)
  | v => c v
theorem fVal_eq (v : Value) (c : Value → Option ρ) : fVal v c = c v := by cases v <;> rfl
def fVals : List Value → (List AV → Option ρ) → Option ρ
  | [], c => c []
  | v :: r, c => fVal v fun v => fVals r fun r => c (.val v :: r)
theorem fVals_eq : ∀ (l : List Value) (c : List AV → Option ρ), fVals l c = c (l.map .val)
  | [], c => rfl
  | v :: r, c => by simp only [fVals, fVal_eq, fVals_eq r, List.map]
def fWk1 (v : AV) (c : AV → Option ρ) : Option ρ := match v with
  | .val x => c (.val x)
  | .list _ sz es => c (.list 0 sz es)
  | v => c v
theorem fWk1_eq (v : AV) (c : AV → Option ρ) : fWk1 v c = c v.wk1 := by cases v <;> rfl
def fWk1s : List AV → (List AV → Option ρ) → Option ρ
  | [], c => c []
  | v :: r, c => fWk1 v fun v => fWk1s r fun r => c (v :: r)
theorem fWk1s_eq : ∀ (l : List AV) (c : List AV → Option ρ), fWk1s l c = c (l.map AV.wk1)
  | [], c => rfl
  | v :: r, c => by simp only [fWk1s, fWk1_eq, fWk1s_eq r, List.map]
def fWk (v : AV) (c : AV → Option ρ) : Option ρ := match v with
  | .agg cs => fWk1s cs fun cs => c (.agg cs)
  | .val x => c (.val x)
  | .list _ sz es => c (.list 0 sz es)
  | v => c v
theorem fWk_eq (v : AV) (c : AV → Option ρ) : fWk v c = c v.wk := by
  cases v <;> first | rfl | exact fWk1s_eq _ _
def fWks : List AV → (List AV → Option ρ) → Option ρ
  | [], c => c []
  | v :: r, c => fWk v fun v => fWks r fun r => c (v :: r)
theorem fWks_eq : ∀ (l : List AV) (c : List AV → Option ρ), fWks l c = c (l.map AV.wk)
  | [], c => rfl
  | v :: r, c => by simp only [fWks, fWk_eq, fWks_eq r, List.map]
def fRows : List (List AV) → (List (List AV) → Option ρ) → Option ρ
  | [], c => c []
  | v :: r, c => fWk1s v fun v => fRows r fun r => c (v :: r)
theorem fRows_eq : ∀ (l : List (List AV)) (c : List (List AV) → Option ρ), fRows l c = c (l.map (·.map AV.wk1))
  | [], c => rfl
  | v :: r, c => by simp only [fRows, fWk1s_eq, fRows_eq r, List.map]
def fObWk (o : Ob) (c : Ob → Option ρ) : Option ρ := match o with
  | ⟨k, t, sz, ver, es⟩ => match k with
    | .box => fRows es fun es => c ⟨.box, t, sz, ver, es⟩
    | .arr => c ⟨.arr, t, sz, ver, es⟩
    | .ro => c ⟨.ro, t, sz, ver, es⟩
theorem fObWk_eq (o : Ob) (c : Ob → Option ρ) : fObWk o c = c o.wk := by
  obtain ⟨k, t, sz, ver, es⟩ := o
  cases k <;> first | rfl | exact fRows_eq _ _
def fHWk : Heap → (Heap → Option ρ) → Option ρ
  | [], c => c []
  | v :: r, c => fObWk v fun v => fHWk r fun r => c (v :: r)
theorem fHWk_eq : ∀ (l : Heap) (c : Heap → Option ρ), fHWk l c = c (l.map Ob.wk)
  | [], c => rfl
  | v :: r, c => by simp only [fHWk, fObWk_eq, fHWk_eq r, List.map]
def fCells (v : AV) (c : List AV → Option ρ) : Option ρ := match v with
  | .agg cs => c cs
  | .val x => (match x with
    | .int k n => c [.val (.int k n)]
    | .bool b => c [.val (.bool b)]
    | .string s => c [.val (.string s)]
    | x => c (AV.cells (.val x)))
  | v => c [v]
theorem fCells_eq (v : AV) (c : List AV → Option ρ) : fCells v c = c v.cells := by
  cases v <;> first | rfl | skip
  rename_i x
  cases x <;> rfl
def takeK : List AV → Nat → (List AV → Option ρ) → Option ρ
  | _, 0, c => c []
  | x :: r, n + 1, c => takeK r n fun r => c (x :: r)
  | [], _ + 1, c => none
theorem takeK_eq : ∀ (cs : List AV) (n : Nat) (c : List AV → Option ρ), takeK cs n c = (takeN n cs).bind c
  | cs, 0, c => by cases cs <;> rfl
  | [], n + 1, c => rfl
  | x :: r, n + 1, c => by
    simp only [takeK, takeK_eq r n, takeN, List.length_cons, List.take_succ_cons]
    have : Nat.ble (n + 1) (r.length + 1) = Nat.ble n r.length := rfl
    rw [this]
    cases Nat.ble n r.length <;> rfl
def dropK : List AV → Nat → (List AV → Option ρ) → Option ρ
  | cs, 0, c => c cs
  | _ :: r, n + 1, c => dropK r n c
  | [], _ + 1, c => c []
theorem dropK_eq : ∀ (cs : List AV) (n : Nat) (c : List AV → Option ρ), dropK cs n c = c (cs.drop n)
  | cs, 0, c => by cases cs <;> rfl
  | [], n + 1, c => rfl
  | x :: r, n + 1, c => by simp only [dropK, dropK_eq r n, List.drop_succ_cons]
def pushK : Heap → Nat → Ob → (Nat → Heap → Option ρ) → Option ρ
  | [], n, o, c => c n [o]
  | x :: r, n, o, c => pushK r (Nat.succ n) o fun m h => c m (x :: h)
theorem pushK_eq : ∀ (h : Heap) (n : Nat) (o : Ob) (c : Nat → Heap → Option ρ), pushK h n o c = c (n + h.length) (h ++ [o])
  | [], n, o, c => rfl
  | x :: r, n, o, c => by
    simp only [pushK, pushK_eq r, List.length_cons, List.cons_append]
    rw [show Nat.succ n + r.length = n + (r.length + 1) by omega]
def setK {α : Type} : List α → Nat → α → (List α → Option ρ) → Option ρ
  | [], _, _, c => c []
  | x :: r, 0, o, c => c (o :: r)
  | x :: r, n + 1, o, c => setK r n o fun r => c (x :: r)
theorem setK_eq {α : Type} : ∀ (h : List α) (r : Nat) (o : α) (c : List α → Option ρ), setK h r o c = c (h.set r o)
  | [], r, o, c => by cases r <;> rfl
  | x :: l, 0, o, c => rfl
  | x :: l, n + 1, o, c => by simp only [setK, setK_eq l n, List.set_cons_succ]
def nth {α : Type} : List α → Nat → Option α
  | [], _ => none
  | x :: _, 0 => some x
  | _ :: r, n + 1 => nth r n
theorem nth_eq {α : Type} : ∀ (l : List α) (n : Nat), nth l n = l[n]?
  | [], n => by simp [nth]
  | x :: r, 0 => by simp [nth]
  | x :: r, n + 1 => by simp [nth, nth_eq r n]
def appK {α : Type} : List α → List α → (List α → Option ρ) → Option ρ
  | [], l, c => c l
  | x :: r, l, c => appK r l fun r => c (x :: r)
theorem appK_eq {α : Type} : ∀ (a b : List α) (c : List α → Option ρ), appK a b c = c (a ++ b)
  | [], l, c => rfl
  | x :: r, l, c => by simp only [appK, appK_eq r, List.cons_append]
def zipK {α : Type} : List Nat → List α → (List (Nat × α) → Option ρ) → Option ρ
  | x :: r, y :: s, c => zipK r s fun l => c ((x, y) :: l)
  | _, _, c => c []
theorem zipK_eq {α : Type} : ∀ (a : List Nat) (b : List α) (c : List (Nat × α) → Option ρ), zipK a b c = c (a.zip b)
  | [], l, c => by cases l <;> rfl
  | x :: r, [], c => rfl
  | x :: r, y :: s, c => by simp only [zipK, zipK_eq r s, List.zip_cons_cons]

theorem bind_pure' {α : Type} (x : Option α) : (x.bind fun a => some a) = x := by cases x <;> rfl

def opF (cx : Cx) (env : Env) (x : Operand) (c : AV → Option ρ) : Option ρ := match x with
  | .tmp t => (look env t).bind c
  | .const v => (match v with
    | .agg cs => fVals cs.toList fun l => c (.agg l)
    | .int k n => c (.val (.int k n))
    | .bool b => c (.val (.bool b))
    | .string s => c (.val (.string s))
    | v => c (AV.ofValue v))
  | .global g => (cx.G g).bind fun cs => c (.rop cs)
  | .func f => c (.func (.func f) [] [])
theorem opF_eq (cx : Cx) (env : Env) (x : Operand) (c : AV → Option ρ) : opF cx env x c = (opnd cx env x).bind c := by
  cases x with
  | tmp t => rfl
  | const v => cases v <;> first | rfl | (show fVals _ _ = _; rw [fVals_eq]; rfl)
  | global g => simp only [opF, opnd, obind_assoc, Option.bind_some]
  | func f => rfl
def opsF (cx : Cx) (env : Env) : List Operand → (List AV → Option ρ) → Option ρ
  | [], c => c []
  | x :: xs, c => opF cx env x fun v => opsF cx env xs fun vs => c (v :: vs)
theorem opsF_eq (cx : Cx) (env : Env) : ∀ (l : List Operand) (c : List AV → Option ρ), opsF cx env l c = (opnds cx env l).bind c
  | [], c => rfl
  | x :: xs, c => by
    simp only [opsF, opnds, opF_eq, opsF_eq cx env xs, obind_assoc, Option.bind_some]
def getF (env : Env) : List Nat → (List AV → Option ρ) → Option ρ
  | [], c => c []
  | t :: ts, c => (look env t).bind fun v => getF env ts fun vs => c (v :: vs)
theorem getF_eq (env : Env) : ∀ (l : List Nat) (c : List AV → Option ρ), getF env l c = (getAll env l).bind c
  | [], c => rfl
  | x :: xs, c => by simp only [getF, getAll, getF_eq env xs, obind_assoc, Option.bind_some]
def cellsF (cx : Cx) (h : Heap) (p : AV) (c : List AV → Option ρ) : Option ρ :=
  match p with
  | .rop cs => c cs
  | .ptr r ver i j => (nth h r).bind fun o => match o with
    | ⟨k, t, sz, v, es⟩ => (chk v ver).bind fun _ => (nth es i).bind fun cs => match k with
      | .arr => (cx.shC t).bind fun z => normCells z cs fun cs' => dropK cs' j c
      | _ => dropK cs j c
  | _ => none
theorem cellsF_eq (cx : Cx) (h : Heap) (p : AV) (c : List AV → Option ρ) : cellsF cx h p c = cellsAt cx h p c := by
  unfold cellsF cellsAt
  cases p <;> first | rfl | skip
  simp only [nth_eq]
  congr 1
  funext o
  obtain ⟨k, t, sz, v, es⟩ := o
  simp only [nth_eq, dropK_eq]
  rfl
def loadF (cx : Cx) (t : TypeId) (cs : List AV) (c : AV → Option ρ) : Option ρ :=
  (cx.isAgg t).bind fun b => match b with
  | true => (cx.size t).bind fun n => takeK cs n fun r => c (.agg r)
  | false => (uncons? cs).bind fun p => c p.1
theorem loadF_eq (cx : Cx) (t : TypeId) (cs : List AV) (c : AV → Option ρ) : loadF cx t cs c = loadC cx t cs c := by
  unfold loadF loadC
  simp only [takeK_eq]
  rfl
def addF (p : AV) (d : Nat) (c : AV → Option ρ) : Option ρ :=
  match p with
  | .rop cs => dropK cs d fun l => c (.rop l)
  | .ptr r ver i j => c (.ptr r ver i (j + d))
  | _ => none
theorem addF_eq (p : AV) (d : Nat) (c : AV → Option ρ) : addF p d c = addOff p d c := by
  unfold addF addOff
  cases p <;> simp only [dropK_eq]
def indexAddrF (cx : Cx) (h : Heap) (t : TypeId) (x ix : AV) (c : AV → Option ρ) : Option ρ :=
  match ix with
  | .val (.int _ n) => (cx.P.underlying t).bind fun d => match d with
    | .array len elem => if 0 ≤ n then (if n < (len : Int) then (cx.size elem).bind fun s => addF x (n.toNat * s) c else none) else none
    | .slice elem => match x with
      | .list _ sz es => if 0 ≤ n then (es[n.toNat]?).bind fun cs => (cx.shC elem).bind fun z => (chk sz z.length).bind fun _ => normCells z cs fun cs' => c (.rop cs') else none
      | .arr r ver off len => if 0 ≤ n then (if n < (len : Int) then (h[r]?).bind fun o => (cx.size elem).bind fun s => (chk o.sz s).bind fun _ => c (.ptr r ver (off + n.toNat) 0) else none) else none
      | _ => none
    | _ => none
  | _ => none
theorem indexAddrF_eq (cx : Cx) (h : Heap) (t : TypeId) (x ix : AV) (c : AV → Option ρ) : indexAddrF cx h t x ix c = indexAddrV cx h t x ix c := by
  unfold indexAddrF indexAddrV
  simp only [addF_eq]
  rfl
def fillF (place : Nat → Option (Nat × Nat)) : List (Nat × AV) → List AV → (List AV → Option ρ) → Option ρ
  | [], cells, c => c cells
  | (i, v) :: rest, cells, c => (place i).bind fun p => fCells v fun vc => match Nat.beq vc.length p.2 with
    | true => spliceK cells p.1 vc fun cells' => fillF place rest cells' c
    | false => none
theorem fillF_eq (place : Nat → Option (Nat × Nat)) : ∀ (l : List (Nat × AV)) (cells : List AV) (c : List AV → Option ρ), fillF place l cells c = fillA place l cells c
  | [], cells, c => rfl
  | (i, v) :: rest, cells, c => by
    simp only [fillF, fillA, fCells_eq, fillF_eq place rest]
    rfl
def partsF (cx : Cx) (env : Env) : List (Nat × Operand) → (List (Nat × AV) → Option ρ) → Option ρ
  | [], c => c []
  | (i, x) :: r, c => opF cx env x fun v => partsF cx env r fun vs => c ((i, v) :: vs)
theorem partsF_eq (cx : Cx) (env : Env) : ∀ (l : List (Nat × Operand)) (c : List (Nat × AV) → Option ρ), partsF cx env l c = (parts? cx env l).bind c
  | [], c => rfl
  | (i, x) :: xs, c => by simp only [partsF, parts?, opF_eq, partsF_eq cx env xs, obind_assoc, Option.bind_some]
def zeroF (cx : Cx) (t : TypeId) (c : List AV → Option ρ) : Option ρ := (cx.zero t).bind fun z => fVals (zcells z) c
theorem zeroF_eq (cx : Cx) (t : TypeId) (c : List AV → Option ρ) : zeroF cx t c = (zeroCells cx t).bind c := by
  unfold zeroF zeroCells
  simp only [fVals_eq, obind_assoc, Option.bind_some]
def buildF (cx : Cx) (t : TypeId) (parts : List (Nat × AV)) (c : AV → Option ρ) : Option ρ :=
  zeroF cx t fun z => (cx.P.underlying t).bind fun d => match d with
  | .struct fields => (fieldPlaces cx fields.toList).bind fun ps => fillF (fun i => ps[i]?) parts z fun cs => c (.agg cs)
  | .array _ elem => (cx.size elem).bind fun s => fillF (fun i => some (i * s, s)) parts z fun cs => c (.agg cs)
  | _ => none
theorem buildF_eq (cx : Cx) (t : TypeId) (parts : List (Nat × AV)) (c : AV → Option ρ) : buildF cx t parts c = buildV cx t parts c := by
  unfold buildF buildV
  simp only [zeroF_eq, fillF_eq]
  rfl
def partF (cx : Cx) (t : TypeId) (cs : List AV) (off : Nat) (c : AV → Option ρ) : Option ρ := dropK cs off fun l => loadF cx t l c
theorem partF_eq (cx : Cx) (t : TypeId) (cs : List AV) (off : Nat) (c : AV → Option ρ) : partF cx t cs off c = part? cx t cs off c := by
  unfold partF part?
  simp only [dropK_eq, loadF_eq]
def evalF (cx : Cx) (op : Op) (env : Env) (h : Heap) (c : AV → Option ρ) : Option ρ :=
  match op with
  | .move x | .assign x => opF cx env x c
  | .load t x => opF cx env x fun p => cellsF cx h p fun cs => loadF cx t cs c
  | .binOp op t x y _ => opF cx env x fun a => opF cx env y fun b => binV cx op t a b fun v => splitB v c
  | .unOp op _ x => opF cx env x fun a => unV op a fun v => splitB v c
  | .makeFunc fn first cap => opsF cx env first.toList fun fs => opsF cx env cap.toList fun cs => c (.func fn fs cs)
  | .build t ps => partsF cx env ps.toList fun l => buildF cx t l c
  | .fieldAddr s x f => opF cx env x fun a => (cx.P.underlying s).bind fun d => match d with
    | .struct fs => (fs[f]?).bind fun fl => (cx.size fl.type).bind fun n => match Nat.beq n 0 with
      | true => none
      | false => addF a fl.offset c
    | _ => none
  | .field t x f => opF cx env x fun a => (cx.P.underlying t).bind fun d => match d, a with
    | .struct fs, .agg cs => (fs[f]?).bind fun fl => partF cx fl.type cs fl.offset c
    | _, _ => none
  | .indexAddr t x ix => opF cx env x fun a => opF cx env ix fun i => indexAddrF cx h t a i c
  | .index t x ix => opF cx env x fun a => opF cx env ix fun i => indexV cx t a i c
  | .call { callee := .builtin b, args, argTypes } => opsF cx env args.toList fun vs => builtinV cx b argTypes.toList vs c
  | op => evalA cx op env h c
theorem evalF_eq (cx : Cx) (op : Op) (env : Env) (h : Heap) (c : AV → Option ρ) : evalF cx op env h c = evalA cx op env h c := by
  unfold evalF
  split <;> simp only [opF_eq, opsF_eq, cellsF_eq, loadF_eq, addF_eq, partF_eq, indexAddrF_eq, buildF_eq, partsF_eq] <;> rfl

def mapF {α β : Type} (f : α → (β → Option ρ) → Option ρ) : List α → (List β → Option ρ) → Option ρ
  | [], c => c []
  | x :: r, c => f x fun y => mapF f r fun s => c (y :: s)
theorem mapM_cons' {α β : Type} (g : α → Option β) (x : α) (r : List α) : (x :: r).mapM g = (g x).bind fun y => (r.mapM g).bind fun s => some (y :: s) := by
  simp only [List.mapM_cons]; rfl
theorem mapF_eq {α β : Type} (f : α → (β → Option ρ) → Option ρ) (g : α → Option β) (h : ∀ a c, f a c = (g a).bind c) : ∀ (l : List α) (c : List β → Option ρ), mapF f l c = (l.mapM g).bind c
  | [], c => rfl
  | x :: r, c => by
    simp only [mapF, h, mapF_eq f g h r, mapM_cons', obind_assoc, Option.bind_some]
def viewF (h : Heap) : Nat → AV → (AV → Option ρ) → Option ρ
  | 0, _, _ => none
  | n + 1, v, c => match v with
    | .val x => c (.val x)
    | .list _ sz es => c (.list 0 sz es)
    | .rop cs => c (.rop cs)
    | .ptr r ver i j => (nth h r).bind fun o => match o with
      | ⟨k, t, sz, v, es⟩ => (chk v ver).bind fun _ => (nth es i).bind fun cs => match k with
        | .box => mapF (viewF h n) cs fun cs' => dropK cs' j fun l => c (.rop l)
        | _ => dropK cs j fun l => c (.rop l)
    | .agg cs => mapF (viewF h n) cs fun cs' => c (.agg cs')
    | .tuple vs => mapF (viewF h n) vs fun cs' => c (.tuple cs')
    | .iface t x => viewF h n x fun x' => c (.iface t x')
    | .func fn fs cs => mapF (viewF h n) fs fun fs' => mapF (viewF h n) cs fun cs' => c (.func fn fs' cs')
    | v => (view h (n + 1) v).bind c
theorem viewF_eq (h : Heap) : ∀ (n : Nat) (v : AV) (c : AV → Option ρ), viewF h n v c = (view h n v).bind c
  | 0, v, c => rfl
  | n + 1, v, c => by
    have ih := fun v (c : AV → Option ρ) => viewF_eq h n v c
    have im := mapF_eq (viewF (ρ := ρ) h n) (view h n) ih
    cases v <;> simp only [viewF, view, im, ih, dropK_eq, nth_eq, obind_assoc, Option.bind_some]
    rename_i r ver i j
    congr 1
    funext o
    obtain ⟨k, t, sz, v, es⟩ := o
    congr 1
    funext _
    simp only [nth_eq]
    congr 1
    funext cs
    cases k <;> simp only [obind_assoc, Option.bind_some]
def vArgF (h : Heap) (v : AV) (c : AV → Option ρ) : Option ρ := viewF h 5 v fun v => fWk v c
theorem vArgF_eq (h : Heap) (v : AV) (c : AV → Option ρ) : vArgF h v c = (viewArg h v).bind c := by
  unfold vArgF viewArg
  simp only [viewF_eq, fWk_eq, obind_assoc, Option.bind_some]
def vArgsF (h : Heap) : List AV → (List AV → Option ρ) → Option ρ
  | [], c => c []
  | v :: vs, c => vArgF h v fun x => vArgsF h vs fun xs => c (x :: xs)
theorem vArgsF_eq (h : Heap) : ∀ (l : List AV) (c : List AV → Option ρ), vArgsF h l c = (viewArgs h l).bind c
  | [], c => rfl
  | x :: xs, c => by simp only [vArgsF, viewArgs, vArgF_eq, vArgsF_eq h xs, obind_assoc, Option.bind_some]
def callF (g : AV) (as : List AV) (c : FuncId → List AV → Option ρ) : Option ρ := match g with
  | .func (.func f) first cap => appK as cap fun l => appK first l fun l => c f l
  | _ => none
theorem callF_eq (g : AV) (as : List AV) (c : FuncId → List AV → Option ρ) : callF g as c = (g.call? as).bind fun p => c p.1 p.2 := by
  cases g <;> first | rfl | skip
  rename_i fn a b
  cases fn <;> first | rfl | skip
  simp only [callF, AV.call?, appK_eq, Option.bind_some, List.append_assoc]
def callVF (cx : Cx) (F : EF) (q : Bool) (t : TypeId) (fv : AV) (args : List AV) (h : Heap) (c : AV → Option ρ) : Option ρ :=
  vArgF h fv fun g => vArgsF h args fun as => callF g as fun f l => (F (.fn f) l []).bind fun r => (ret1 r).bind fun v =>
    normR (cx.svs t) (cx.sv t) v fun v => cond (v.ground || (!q && (refless 5 fv && args.all (refless 5)))) (c v) none
theorem callVF_eq (cx : Cx) (F : EF) (q : Bool) (t : TypeId) (fv : AV) (args : List AV) (h : Heap) (c : AV → Option ρ) : callVF cx F q t fv args h c = callV cx F q t fv args h c := by
  unfold callVF callV
  simp only [vArgF_eq, vArgsF_eq, callF_eq]
def storeF (cx : Cx) (t : TypeId) (p x : AV) (h : Heap) (c : Heap → Option ρ) : Option ρ :=
  match p with
  | .ptr r ver i j => (nth h r).bind fun o => match o with
    | ⟨ok, ot, sz, v, es⟩ => (chk v ver).bind fun _ => (nth es i).bind fun cs => (cx.size t).bind fun n => fCells x fun xc =>
      match Nat.beq xc.length n && xc.all AV.one with
      | true => match ok with
        | .box => match Nat.ble (j + n) sz with
          | true => spliceK cs j xc fun cs' => setK es i cs' fun es' => setK h r ⟨.box, ot, sz, v, es'⟩ c
          | false => none
        | .arr => match x.flat, Nat.ble (j + n) sz with
          | true, true => (cx.shC ot).bind fun z => normCells z cs fun cs' => spliceK cs' j xc fun cs' => setK h r ⟨.arr, ot, sz, v, es.set i cs'⟩ c
          | _, _ => none
        | .ro => none
      | false => none
  | _ => none
theorem storeF_eq (cx : Cx) (t : TypeId) (p x : AV) (h : Heap) (c : Heap → Option ρ) : storeF cx t p x h c = storeV cx t p x h c := by
  unfold storeF storeV
  cases p <;> first | rfl | skip
  simp only [nth_eq]
  congr 1
  funext o
  obtain ⟨k, t, sz, v, es⟩ := o
  simp only [nth_eq, fCells_eq, setK_eq]
  cases k <;> rfl
def rowsF (s : Nat) : Nat → List (Nat × AV) → (List (List AV) → Option ρ) → Option ρ
  | _, [], k => k []
  | i, (j, v) :: r, k => fCells v fun vc => match Nat.beq i j && (Nat.beq vc.length s && vc.all AV.flat1) with
    | true => rowsF s (i + 1) r fun rows => k (vc :: rows)
    | false => none
theorem rowsF_eq (s : Nat) : ∀ (l : List (Nat × AV)) (i : Nat) (c : List (List AV) → Option ρ), rowsF s i l c = rowsP s i l c
  | [], i, c => rfl
  | (j, v) :: r, i, c => by simp only [rowsF, rowsP, fCells_eq, rowsF_eq s r]; rfl
def stepF (cx : Cx) (F : EF) (N : Nat) (q : Bool) (o : Oper) (env : Env) (h : Heap) (c : Env → Heap → Option ρ) : Option ρ :=
  match q, o.op with
  | false, .alloc t => (cx.zero t).bind fun z => (cx.size t).bind fun n => match Nat.beq (zcells z).length n with
    | true => fVals (zcells z) fun cs => pushK h 0 ⟨.box, t, n, 0, [cs]⟩ fun r h => putK N o.dst (.ptr r 0 0 0) env fun env => c env h
    | false => none
  | false, .box t x => opF cx env x fun v => fCells v fun vc => pushK h 0 ⟨.box, t, vc.length, 0, [vc]⟩ fun r h => putK N o.dst (.ptr r 0 0 0) env fun env => c env h
  | false, .store t a x => opF cx env a fun p => opF cx env x fun v => storeF cx t p v h fun h => putK N o.dst (.val undef) env fun env => c env h
  | false, .buildSlice t len parts => (cx.P.underlying t).bind fun d => match d with
    | .slice e => (cx.zero e).bind fun z => (cx.size e).bind fun s => partsF cx env parts.toList fun ps =>
      match Nat.beq (zcells z).length s && (Nat.blt 0 s && (Nat.blt 0 len && (Nat.ble (len * s) 16777216 && Nat.beq ps.length len))) with
      | true => rowsF s 0 ps fun rows => putK N o.dst (.list 1 s rows) env fun env => c env h
      | false => none
    | _ => none
  | q, .call { callee := .value f, args, argTypes } => opF cx env f fun fv => opsF cx env args.toList fun vs => callVF cx F q o.type fv vs h fun v => putK N o.dst v env fun env => c env h
  | _, op => evalF cx op env h fun v => putK N o.dst v env fun env => c env h
theorem stepF_eq (cx : Cx) (F : EF) (N : Nat) (q : Bool) (o : Oper) (env : Env) (h : Heap) (c : Env → Heap → Option ρ) : stepF cx F N q o env h c = stepOp cx F N q o env h c := by
  unfold stepF stepOp
  cases q <;> cases hop : o.op <;> first
    | (simp only [opF_eq, opsF_eq, partsF_eq, evalF_eq, callVF_eq, storeF_eq, rowsF_eq, pushK_eq, fVals_eq, fCells_eq, Nat.zero_add]; done)
    | (simp only [opF_eq, opsF_eq, partsF_eq, evalF_eq, callVF_eq, storeF_eq, rowsF_eq, pushK_eq, fVals_eq, fCells_eq, Nat.zero_add]; rfl)
    | skip
  all_goals
    rename_i cl
    obtain ⟨callee, args, argTypes⟩ := cl
    cases callee <;> first
    | (simp only [opF_eq, opsF_eq, partsF_eq, evalF_eq, callVF_eq, storeF_eq, rowsF_eq, pushK_eq, fVals_eq, fCells_eq, Nat.zero_add]; done)
    | (simp only [opF_eq, opsF_eq, partsF_eq, evalF_eq, callVF_eq, storeF_eq, rowsF_eq, pushK_eq, fVals_eq, fCells_eq, Nat.zero_add]; rfl)
def opersF (cx : Cx) (F : EF) (N : Nat) (q : Bool) (ops : Array Oper) : List Oper → Env → Heap → (Env → Heap → Option ρ) → Option ρ
  | [], env, h, c => c env h
  | o :: rest, env, h, c =>
    match o.guard with
    | none => stepF cx F N q o env h fun env h => opersF cx F N q ops rest env h c
    | some (j, want) => (gslot ops j).bind fun d => (look env d).bind fun v =>
      match v with
      | .val (.bool b) => cond (b == want) (stepF cx F N q o env h fun env h => opersF cx F N q ops rest env h c)
          (putK N o.dst (.val undef) env fun env => opersF cx F N q ops rest env h c)
      | .val (.tuple _) => putK N o.dst (.val undef) env fun env => opersF cx F N q ops rest env h c
      | _ => none
theorem opersF_eq (cx : Cx) (F : EF) (N : Nat) (q : Bool) (ops : Array Oper) : ∀ (l : List Oper) (env : Env) (h : Heap) (c : Env → Heap → Option ρ), opersF cx F N q ops l env h c = runOps cx F N q ops l env h c
  | [], env, h, c => rfl
  | o :: rest, env, h, c => by
    have ih := fun env h (c : Env → Heap → Option ρ) => opersF_eq cx F N q ops rest env h c
    simp only [opersF, runOps, stepF_eq, ih]
    cases o.guard <;> rfl
def restrK (env : Env) : List Nat → (Env → Option ρ) → Option ρ
  | [], c => c []
  | t :: ts, c => match look env t with
    | some v => restrK env ts fun e => c ((t, v) :: e)
    | none => restrK env ts c
theorem restrK_eq (env : Env) : ∀ (l : List Nat) (c : Env → Option ρ), restrK env l c = c (restrE env l)
  | [], c => rfl
  | t :: ts, c => by
    simp only [restrK, restrE, restrK_eq env ts]
    cases look env t <;> rfl
def anyF (cx : Cx) (F : EF) (N : Nat) (ops : Array Oper) : List Oper → Env → Heap → (Env → Heap → Option ρ) → Option ρ
  | [], env, h, c => c env h
  | o :: rest, env, h, c => restrK env (o.looksAt ops) fun e0 => cond (freeOp o)
    (opersF cx F N false ops [o] e0 [] fun e1 h1 => (nil? h1).bind fun _ => putBack o.dst e1 env fun env => anyF cx F N ops rest env h c)
    (opersF cx F N false ops [o] e0 h fun e1 h1 => putBack o.dst e1 env fun env => anyF cx F N ops rest env h1 c)
theorem anyF_eq (cx : Cx) (F : EF) (N : Nat) (ops : Array Oper) : ∀ (l : List Oper) (env : Env) (h : Heap) (c : Env → Heap → Option ρ), anyF cx F N ops l env h c = runAny cx F N ops l env h c
  | [], env, h, c => rfl
  | o :: rest, env, h, c => by
    have ih := fun env h (c : Env → Heap → Option ρ) => anyF_eq cx F N ops rest env h c
    simp only [anyF, runAny, restrK_eq, opersF_eq, ih]
def iterF (ls : List Nat) (step : Env → Heap → (JX → Env → Heap → Option ρ) → Option ρ) : Nat → Env → Heap → (JX → Env → Heap → Option ρ) → Option ρ
  | 0, _, _, _ => none
  | n + 1, env, h, c => step env h fun e env h => match e with
    | .normal => getF env ls fun vs => zipK ls vs fun env => iterF ls step n env h c
    | e => c e env h
theorem iterF_eq (ls : List Nat) (st st' : Env → Heap → (JX → Env → Heap → Option ρ) → Option ρ) (hs : ∀ env h c, st env h c = st' env h c) : ∀ (n : Nat) (env : Env) (h : Heap) (c : JX → Env → Heap → Option ρ), iterF ls st n env h c = iterN ls st' n env h c
  | 0, env, h, c => rfl
  | n + 1, env, h, c => by
    simp only [iterF, iterN, hs, getF_eq, zipK_eq, iterF_eq ls st st' hs n]
    rfl
def normObF (z o : Ob) (k : Ob → Option ρ) : Option ρ := match z with
  | ⟨zk, zt, zs, zv, ze⟩ => (obIs z o).bind fun _ => match ze with
    | [cs] => match zk with
      | .arr => k ⟨.arr, zt, zs, o.ver, o.es⟩
      | .box => (uncons? o.es).bind fun p => (nil? p.2).bind fun _ => normTs cs p.1 fun cs' => (chk o.ver zv).bind fun _ => k ⟨.box, zt, zs, zv, [cs']⟩
      | .ro => (uncons? o.es).bind fun p => (nil? p.2).bind fun _ => normTs cs p.1 fun cs' => (chk o.ver zv).bind fun _ => k ⟨.ro, zt, zs, zv, [cs']⟩
    | _ => k ⟨zk, zt, zs, o.ver, o.es⟩
theorem normObF_eq (z o : Ob) (k : Ob → Option ρ) : normObF z o k = normOb z o k := by
  obtain ⟨zk, zt, zs, zv, ze⟩ := z
  unfold normObF normOb
  rcases ze with _ | ⟨a, _ | ⟨b, r⟩⟩
  · rfl
  · cases zk <;> rfl
  · rfl
def normHF : Heap → Heap → (Heap → Option ρ) → Option ρ
  | [], h, k => (nil? h).bind fun _ => k []
  | z :: zs, h, k => (uncons? h).bind fun p => normObF z p.1 fun o => normHF zs p.2 fun r => k (o :: r)
theorem normHF_eq : ∀ (z h : Heap) (k : Heap → Option ρ), normHF z h k = normHeap z h k
  | [], h, k => rfl
  | z :: zs, h, k => by simp only [normHF, normHeap, normObF_eq, normHF_eq zs]
def runF (cx : Cx) (F : EF) (f : FuncId) (N : Nat) : Code → List Bool → Env → Heap → (JX → Env → Heap → Option ρ) → Option ρ
  | .skip, _, env, h, c => c .normal env h
  | .label _, _, env, h, c => c .normal env h
  | .ret, _, env, h, c => c .ret env h
  | .exit id, _, env, h, c => c (.exit id) env h
  | .goto l, _, env, h, c => c (.goto l) env h
  | .region _ ops false, _, env, h, c => opersF cx F N false ops ops.toList env h fun env h => c .normal env h
  | .region _ ops true, _, env, h, c => cond (anyOk cx.P ops) (anyF cx F N ops ops.toList env h fun env h => c .normal env h) none
  | .seq a b, p, env, h, c => runF cx F f N a (p ++ [false]) env h fun e env h => match e with
    | .normal => runF cx F f N b (p ++ [true]) env h c
    | e => c e env h
  | .cond x a b, p, env, h, c => opF cx env x fun v => match v with
    | .val (.bool t) => cond t (runF cx F f N a (p ++ [false]) env h c) (runF cx F f N b (p ++ [true]) env h c)
    | _ => none
  | .block id b, p, env, h, c => runF cx F f N b (p ++ [false]) env h fun e env h => match e with
    | .exit i => match Nat.beq i id with
      | true => c .normal env h
      | false => c (.exit i) env h
    | e => c e env h
  | .loop b, p, env, h, c => (cx.ann f p).bind fun a => match a with
    | .unroll n ls => iterF ls (runF cx F f N b (p ++ [false])) n env h c
    | .live var inv => cond (loopOk var inv b) (getF env var fun vs => getF env inv fun is =>
        fWks vs fun vs => fWks is fun is => fHWk h fun h => appK vs is fun l =>
        (F (.loop f p) l h).bind fun r => (asJump r).bind fun j =>
        jsel j.1 (fun e => normAs vs j.2.1 fun vs' => normHF h j.2.2 fun h' =>
          zipK inv is fun e2 => zipK var vs' fun e1 => appK e1 e2 fun env => c e env h') ((exitsOf b).foldr addE [])) none
  | _, _, _, _, _ => none
theorem runF_eq (cx : Cx) (F : EF) (f : FuncId) (N : Nat) : ∀ (code : Code) (p : List Bool) (env : Env) (h : Heap) (c : JX → Env → Heap → Option ρ), runF cx F f N code p env h c = run cx F f N code p env h c
  | .skip, p, env, h, c => rfl
  | .label _, p, env, h, c => rfl
  | .ret, p, env, h, c => rfl
  | .exit _, p, env, h, c => rfl
  | .goto _, p, env, h, c => rfl
  | .region _ ops false, p, env, h, c => by simp only [runF, run, opersF_eq]
  | .region _ ops true, p, env, h, c => by simp only [runF, run, anyF_eq]
  | .seq a b, p, env, h, c => by
    simp only [runF, run, runF_eq cx F f N a, runF_eq cx F f N b]
    rfl
  | .cond x a b, p, env, h, c => by
    simp only [runF, run, opF_eq, runF_eq cx F f N a, runF_eq cx F f N b]
    rfl
  | .block id b, p, env, h, c => by
    simp only [runF, run, runF_eq cx F f N b]
    rfl
  | .loop b, p, env, h, c => by
    simp only [runF, run]
    congr 1
    funext a
    cases a with
    | unroll n ls => exact iterF_eq ls _ _ (fun env h c => runF_eq cx F f N b _ env h c) n env h c
    | live var inv => simp only [getF_eq, fWks_eq, fHWk_eq, appK_eq, zipK_eq, normHF_eq]
  | .rangeFunc .., p, env, h, c => rfl
  | .scope .., p, env, h, c => rfl
  | .refuse .., p, env, h, c => rfl
def resF (cx : Cx) (env : Env) (h : Heap) (r : ResultVar) (c : AV → Option ρ) : Option ρ := match r with
  | .tmp t => (look env t).bind c
  | .cell a t => (look env a).bind fun p => cellsF cx h p fun cs => loadF cx t cs c
theorem resF_eq (cx : Cx) (env : Env) (h : Heap) (r : ResultVar) (c : AV → Option ρ) : resF cx env h r c = (resultOf cx env h r).bind c := by
  cases r with
  | tmp t => rfl
  | cell a t =>
    simp only [resF, resultOf, cellsF_eq, loadF_eq, obind_assoc]
    congr 1
    funext p
    exact ((cellsAt_pk cx h p).bind (X := fun cs ρ c => loadC cx t cs c) fun cs => loadC_pk cx t cs).nat c
def resultsF (cx : Cx) (env : Env) (h : Heap) : List ResultVar → (List AV → Option ρ) → Option ρ
  | [], c => c []
  | r :: rs, c => resF cx env h r fun v => resultsF cx env h rs fun vs => c (v :: vs)
theorem resultsF_eq (cx : Cx) (env : Env) (h : Heap) : ∀ (l : List ResultVar) (c : List AV → Option ρ), resultsF cx env h l c = (resultsOf cx env h l).bind c
  | [], c => rfl
  | x :: xs, c => by simp only [resultsF, resultsOf, resF_eq, resultsF_eq cx env h xs, obind_assoc, Option.bind_some]
def renF (ks : List Nat) : Nat → AV → (AV → Option ρ) → Option ρ
  | 0, _, _ => none
  | n + 1, v, c => match v with
    | .val x => c (.val x)
    | .list fl sz es => c (.list fl sz es)
    | .rop cs => c (.rop cs)
    | .ptr r ver i j => (pos ks r).bind fun r' => c (.ptr r' ver i j)
    | .arr r ver off len => (pos ks r).bind fun r' => c (.arr r' ver off len)
    | .agg cs => mapF (renF ks n) cs fun cs' => c (.agg cs')
    | .tuple vs => mapF (renF ks n) vs fun vs' => c (.tuple vs')
    | .iface t x => renF ks n x fun x' => c (.iface t x')
    | .func fn fs cs => mapF (renF ks n) fs fun fs' => mapF (renF ks n) cs fun cs' => c (.func fn fs' cs')
theorem renF_eq (ks : List Nat) : ∀ (n : Nat) (v : AV) (c : AV → Option ρ), renF ks n v c = (ren ks n v).bind c
  | 0, v, c => rfl
  | n + 1, v, c => by
    have ih := fun v (c : AV → Option ρ) => renF_eq ks n v c
    have im := mapF_eq (renF (ρ := ρ) ks n) (ren ks n) ih
    cases v <;> simp only [renF, ren, im, ih, obind_assoc, Option.bind_some]
def obRenF (ks : List Nat) (o : Ob) (c : Ob → Option ρ) : Option ρ := match o with
  | ⟨k, t, sz, ver, es⟩ => match k with
    | .box => mapF (fun e c => mapF (renF ks 5) e c) es fun es => c ⟨.box, t, sz, ver, es⟩
    | .arr => c ⟨.arr, t, sz, ver, es⟩
    | .ro => c ⟨.ro, t, sz, ver, es⟩
theorem obRenF_eq (ks : List Nat) (o : Ob) (c : Ob → Option ρ) : obRenF ks o c = (o.ren ks).bind c := by
  obtain ⟨k, t, sz, ver, es⟩ := o
  cases k <;> first
    | rfl
    | skip
  simp only [obRenF, Ob.ren]
  rw [mapF_eq (ρ := ρ) (fun e c => mapF (renF ks 5) e c) (fun e => e.mapM (ren ks 5)) (fun e c => mapF_eq (renF ks 5) (ren ks 5) (renF_eq ks 5) e c)]
  simp only [obind_assoc, Option.bind_some]
def ksGo (l : List (Nat × Nat)) : Nat → Nat → (List Nat → Option ρ) → Option ρ
  | 0, _, c => c []
  | m + 1, i, c => match findE l i with
    | some r => ksGo l m (i + 1) fun ks => c (r :: ks)
    | none => ksGo l m (i + 1) fun ks => c (i :: ks)
theorem ksGo_eq (l : List (Nat × Nat)) : ∀ (m i : Nat) (c : List Nat → Option ρ), ksGo l m i c = c ((List.range' i m).map fun i => match findE l i with
    | some r => r
    | none => i)
  | 0, i, c => rfl
  | m + 1, i, c => by
    simp only [ksGo, ksGo_eq l m, List.range'_succ, List.map_cons]
    cases findE l i <;> rfl
def gcF (n0 : Nat) (args vs is : List AV) (h : Heap) (c : List AV → List AV → Heap → Option ρ) : Option ρ :=
  ksGo (pairRefs n0 args vs) n0 0 fun ks => cond (nodupL ks) (mapF (renF ks 5) vs fun vs' => mapF (renF ks 5) is fun is' =>
    cond (is.all fun v => (refs 5 v).all (fixedN ks)) (mapF (fun k c => (nth h k).bind fun o => obRenF ks o c) ks fun h' => c vs' is' h') none) none
theorem gcF_eq (n0 : Nat) (args vs is : List AV) (h : Heap) (c : List AV → List AV → Heap → Option ρ) : gcF n0 args vs is h c = (gc (ksOf n0 (pairRefs n0 args vs)) vs is h).bind fun g => c g.1 g.2.1 g.2.2 := by
  unfold gcF gc ksOf
  rw [ksGo_eq, List.range_eq_range']
  generalize ((List.range' 0 n0).map fun i => match findE (pairRefs n0 args vs) i with
    | some r => r
    | none => i) = ks
  have hm := fun (l : List AV) (c : List AV → Option ρ) => mapF_eq (renF ks 5) (ren ks 5) (renF_eq ks 5) l c
  have hk := fun (l : List Nat) (c : Heap → Option ρ) => mapF_eq (ρ := ρ) (fun k c => (nth h k).bind fun o => obRenF ks o c) (fun k => (h[k]?).bind (Ob.ren ks)) (fun k c => by simp only [nth_eq, obRenF_eq, obind_assoc]) l c
  simp only [hm, hk]
  cases nodupL ks <;> first
    | rfl
    | skip
  simp only [cond_true, obind_assoc]
  congr 1; funext a; congr 1; funext b
  cases (is.all fun v => (refs 5 v).all (fixedN ks)) <;> first
    | rfl
    | skip
  simp only [cond_true, obind_assoc, Option.bind_some]
def runKeyF (cx : Cx) (F : EF) : EF
  | .fn f, args, h => (cx.P.funcs[f]?).bind fun fn => fn.body.bind fun b => (nil? h).bind fun _ => match Nat.ble args.length fn.ntmps with
    | true => runF cx F f fn.ntmps b [] (numbered 0 args) [] fun e env h => match e with
      | .normal | .ret => resultsF cx env h fn.results.toList fun vs => vArgsF h vs fun vs' => some (.ret (oneOf vs'), [])
      | _ => none
    | false => none
  | .loop f p, args, h => (cx.P.funcs[f]?).bind fun fn => fn.body.bind fun b => (sub p b).bind fun l => match l with
    | .loop b => (cx.ann f p).bind fun a => match a with
      | .live var inv => cond (loopOk var inv b) (match Nat.beq args.length (var.length + inv.length) with
        | true => appK var inv fun vi => zipK vi args fun env => runF cx F f fn.ntmps b (p ++ [false]) env h fun e env h1 => match e with
          | .normal => getF env var fun vs => getF env inv fun is => gcF h.length args vs is h1 fun vs is h2 => fWks vs fun vs => fWks is fun is => fHWk h2 fun h2 => appK vs is fun l => F (.loop f p) l h2
          | e => getF env var fun vs => getF env inv fun is => gcF h.length args vs is h1 fun vs is h2 => fWks vs fun vs => fHWk h2 fun h2 => some (.jump e vs, h2)
        | false => none) none
      | _ => none
    | _ => none
theorem runKeyF_eq (cx : Cx) (F : EF) (key : Key) (args : List AV) (h : Heap) : runKeyF cx F key args h = runKey cx F key args h := by
  cases key with
  | fn f =>
    simp only [runKeyF, runKey, runF_eq, resultsF_eq, vArgsF_eq]
    rfl
  | loop f p =>
    simp only [runKeyF, runKey, runF_eq, appK_eq, zipK_eq, getF_eq, fWks_eq, fHWk_eq, gcF_eq]
    rfl
theorem E_fast (cx : Cx) (key : Key) (args : List AV) (h : Heap) : E cx key args h = runKeyF cx (E cx) key args h :=
  (E_unfold cx key args h).trans (runKeyF_eq cx (E cx) key args h).symm
end Go.Proofs.Av
