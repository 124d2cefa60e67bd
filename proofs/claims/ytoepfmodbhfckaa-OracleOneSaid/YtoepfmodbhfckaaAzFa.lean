/- The evaluator once more, in the form that the kernel reduces quickly: each list and object is laid in sight before it is handed on. It is the same evaluator. -/
import Derived.Test.YtoepfmodbhfckaaAzNa
namespace Go.Proofs.Av
open Go
open Option renaming bind_some→χ
variable {ρ:Type}
def fVal (v:Value) (c:Value→Option ρ):Option ρ:=match v with
 | .int k n=>c (.int k n)
 | .bool b=>c (.bool b)
 | .string s=>c (.string s)
 | .float k n=>c (.float k n)
 |v=>c v
theorem fVal_eq (v:Value) (c:Value→Option ρ):fVal v c=c v:=by cases v<;>rfl
def fVals:List Value→(List AV→Option ρ)→Option ρ
 | [],c=>c []
 |v::r,c=>fVal v fun v=>fVals r fun r=>c (.val v::r)
theorem fVals_eq:∀(l:List Value) (c:List AV→Option ρ),fVals l c=c (l.map .val)
 | [],c=>rfl
 |v::r,c=>by simp only [fVals,fVal_eq,fVals_eq r,List.map]
def fWk1 (v:AV) (c:AV→Option ρ):Option ρ:=match v with
 | .val x=>c (.val x)
 | .list _ sz es=>c (.list 0 sz es)
 |v=>c v
theorem fWk1_eq (v:AV) (c:AV→Option ρ):fWk1 v c=c v.wk1:=by cases v<;>rfl
def fWk1s:List AV→(List AV→Option ρ)→Option ρ
 | [],c=>c []
 |v::r,c=>fWk1 v fun v=>fWk1s r fun r=>c (v::r)
theorem fWk1s_eq:∀(l:List AV) (c:List AV→Option ρ),fWk1s l c=c (l.map AV.wk1)
 | [],c=>rfl
 |v::r,c=>by simp only [fWk1s,fWk1_eq,fWk1s_eq r,List.map]
def fWk (v:AV) (c:AV→Option ρ):Option ρ:=match v with
 | .agg cs=>fWk1s cs fun cs=>c (.agg cs)
 | .val x=>c (.val x)
 | .list _ sz es=>c (.list 0 sz es)
 |v=>c v
theorem fWk_eq (v:AV) (c:AV→Option ρ):fWk v c=c v.wk:=by
 cases v<;>first |rfl |exact fWk1s_eq _ _
def fWks:List AV→(List AV→Option ρ)→Option ρ
 | [],c=>c []
 |v::r,c=>fWk v fun v=>fWks r fun r=>c (v::r)
theorem fWks_eq:∀(l:List AV) (c:List AV→Option ρ),fWks l c=c (l.map AV.wk)
 | [],c=>rfl
 |v::r,c=>by simp only [fWks,fWk_eq,fWks_eq r,List.map]
def fRows:List (List AV)→(List (List AV)→Option ρ)→Option ρ
 | [],c=>c []
 |v::r,c=>fWk1s v fun v=>fRows r fun r=>c (v::r)
theorem fRows_eq:∀(l:List (List AV)) (c:List (List AV)→Option ρ),fRows l c=c (l.map (·.map AV.wk1))
 | [],c=>rfl
 |v::r,c=>by simp only [fRows,fWk1s_eq,fRows_eq r,List.map]
def fObWk (o:Ob) (c:Ob→Option ρ):Option ρ:=match o with
 |⟨k,t,sz,ver,es⟩=>match k with
  | .box=>fRows es fun es=>c ⟨.box,t,sz,ver,es⟩
  | .arr=>c ⟨.arr,t,sz,ver,es⟩
  | .ro=>c ⟨.ro,t,sz,ver,es⟩
  | .dead=>c ⟨.dead,t,sz,ver,es⟩
theorem fObWk_eq (o:Ob) (c:Ob→Option ρ):fObWk o c=c o.wk:=by
 obtain⟨k,t,sz,ver,es⟩:=o
 cases k<;>first |rfl |exact fRows_eq _ _
def fHWk:Heap→(Heap→Option ρ)→Option ρ
 | [],c=>c []
 |v::r,c=>fObWk v fun v=>fHWk r fun r=>c (v::r)
theorem fHWk_eq:∀(l:Heap) (c:Heap→Option ρ),fHWk l c=c (l.map Ob.wk)
 | [],c=>rfl
 |v::r,c=>by simp only [fHWk,fObWk_eq,fHWk_eq r,List.map]
def fCells (v:AV) (c:List AV→Option ρ):Option ρ:=match v with
 | .agg cs=>c cs
 | .val x=>(match x with
  | .int k n=>c [.val (.int k n)]
  | .bool b=>c [.val (.bool b)]
  | .string s=>c [.val (.string s)]
  |x=>c (AV.cells (.val x)))
 |v=>c [v]
theorem fCells_eq (v:AV) (c:List AV→Option ρ):fCells v c=c v.cells:=by
 cases v<;>first |rfl |skip
 rename_i x
 cases x<;>rfl
def takeK:List AV→Nat→(List AV→Option ρ)→Option ρ
 | _,0,c=>c []
 |x::r,n+1,c=>takeK r n fun r=>c (x::r)
 | [],_+1,_c=>none
theorem takeK_eq:∀(cs:List AV) (n:Nat) (c:List AV→Option ρ),takeK cs n c=(takeN n cs).bind c
 |cs,0,c=>by cases cs<;>rfl
 | [],n+1,c=>rfl
 |x::r,n+1,c=>by
  simp only [takeK,takeK_eq r n,takeN,List.length_cons,List.take_succ_cons]
  have:Nat.ble (n+1) (r.length+1)=Nat.ble n r.length:=rfl
  rw [this]
  cases Nat.ble n r.length<;>rfl
def dropK:List AV→Nat→(List AV→Option ρ)→Option ρ
 |cs,0,c=>c cs
 | _::r,n+1,c=>dropK r n c
 | [],_+1,c=>c []
theorem dropK_eq:∀(cs:List AV) (n:Nat) (c:List AV→Option ρ),dropK cs n c=c (cs.drop n)
 |cs,0,c=>by cases cs<;>rfl
 | [],n+1,c=>rfl
 |x::r,n+1,c=>by simp only [dropK,dropK_eq r n,List.drop_succ_cons]
def pushK:Heap→Nat→Ob→(Nat→Heap→Option ρ)→Option ρ
 | [],n,o,c=>c n [o]
 |x::r,n,o,c=>pushK r (Nat.succ n) o fun m h=>c m (x::h)
theorem pushK_eq:∀(h:Heap) (n:Nat) (o:Ob) (c:Nat→Heap→Option ρ),pushK h n o c=c (n+h.length) (h++[o])
 | [],n,o,c=>rfl
 |x::r,n,o,c=>by
  simp only [pushK,pushK_eq r,List.length_cons,List.cons_append]
  rw [show Nat.succ n+r.length=n+(r.length+1) by omega]
def setK {α:Type}:List α→Nat→α→(List α→Option ρ)→Option ρ
 | [],_,_,c=>c []
 | _x::r,0,o,c=>c (o::r)
 |x::r,n+1,o,c=>setK r n o fun r=>c (x::r)
theorem setK_eq {α:Type}:∀(h:List α) (r:Nat) (o:α) (c:List α→Option ρ),setK h r o c=c (h.set r o)
 | [],r,o,c=>by cases r<;>rfl
 |x::l,0,o,c=>rfl
 |x::l,n+1,o,c=>by simp only [setK,setK_eq l n,List.set_cons_succ]
def nth {α:Type}:List α→Nat→Option α
 | [],_=>none
 |x::_,0=>some x
 | _::r,n+1=>nth r n
theorem nth_eq {α:Type}:∀(l:List α) (n:Nat),nth l n=l[n]?
 | [],n=>by simp [nth]
 |x::r,0=>by simp [nth]
 |x::r,n+1=>by simp [nth,nth_eq r n]
def appK {α:Type}:List α→List α→(List α→Option ρ)→Option ρ
 | [],l,c=>c l
 |x::r,l,c=>appK r l fun r=>c (x::r)
theorem appK_eq {α:Type}:∀(a b:List α) (c:List α→Option ρ),appK a b c=c (a++b)
 | [],l,c=>rfl
 |x::r,l,c=>by simp only [appK,appK_eq r,List.cons_append]
def zipK {α:Type}:List Nat→List α→(List (Nat×α)→Option ρ)→Option ρ
 |x::r,y::s,c=>zipK r s fun l=>c ((x,y)::l)
 | _,_,c=>c []
theorem zipK_eq {α:Type}:∀(a:List Nat) (b:List α) (c:List (Nat×α)→Option ρ),zipK a b c=c (a.zip b)
 | [],l,c=>by cases l<;>rfl
 |x::r,[],c=>rfl
 |x::r,y::s,c=>by simp only [zipK,zipK_eq r s,List.zip_cons_cons]
theorem bind_pure' {α:Type}(x:Option α):(x.bind fun a=>some a)=x:=by cases x<;>rfl
def opF (cx:Cx) (env:Env) (x:Operand) (c:AV→Option ρ):Option ρ:=match x with
 | .tmp t=>(look env t).bind c
 | .const v=>(match v with
  | .agg cs=>fVals cs.toList fun l=>c (.agg l)
  | .int k n=>c (.val (.int k n))
  | .bool b=>c (.val (.bool b))
  | .string s=>c (.val (.string s))
  |v=>c (AV.ofValue v))
 | .global g=>(cx.G g).bind fun cs=>c (.rop cs)
 | .func f=>c (.func (.func f) [] [])
theorem opF_eq (cx:Cx) (env:Env) (x:Operand) (c:AV→Option ρ):opF cx env x c=(opnd cx env x).bind c:=by
 cases x with
 |tmp t=>rfl
 |const v=>cases v<;>first |rfl | (show fVals _ _=_;rw [fVals_eq];rfl)
 |global g=>simp only [opF,opnd,obind_assoc,χ]
 |func f=>rfl
def opsF (cx:Cx) (env:Env):List Operand→(List AV→Option ρ)→Option ρ
 | [],c=>c []
 |x::xs,c=>opF cx env x fun v=>opsF cx env xs fun vs=>c (v::vs)
theorem opsF_eq (cx:Cx) (env:Env):∀(l:List Operand) (c:List AV→Option ρ),opsF cx env l c=(opnds cx env l).bind c
 | [],c=>rfl
 |x::xs,c=>by
  simp only [opsF,opnds,opF_eq,opsF_eq cx env xs,obind_assoc,χ]
def getF (env:Env):List Nat→(List AV→Option ρ)→Option ρ
 | [],c=>c []
 |t::ts,c=>(look env t).bind fun v=>getF env ts fun vs=>c (v::vs)
theorem getF_eq (env:Env):∀(l:List Nat) (c:List AV→Option ρ),getF env l c=(getAll env l).bind c
 | [],c=>rfl
 |x::xs,c=>by simp only [getF,getAll,getF_eq env xs,obind_assoc,χ]
def cellsF (cx:Cx) (h:Heap) (p:AV) (c:List AV→Option ρ):Option ρ :=
 match p with
 | .rop cs=>c cs
 | .ptr r ver i j=>(nth h r).bind fun o=>match o with
  |⟨k,t,_sz,v,es⟩=>(chk v ver).bind fun _=>(nth es i).bind fun cs=>match k with
   | .arr=>(cx.shC (cx.elT t)).bind fun z=>normCells z cs fun cs'=>dropK cs' j c
   | _=>dropK cs j c
 | _=>none
theorem cellsF_eq (cx:Cx) (h:Heap) (p:AV) (c:List AV→Option ρ):cellsF cx h p c=cellsAt cx h p c:=by
 unfold cellsF cellsAt
 cases p<;>first |rfl |skip
 simp only [nth_eq]
 congr 1
 funext o
 obtain⟨k,t,sz,v,es⟩:=o
 simp only [dropK_eq]
 rfl
def loadF (cx:Cx) (t:TypeId) (cs:List AV) (c:AV→Option ρ):Option ρ :=
 (cx.isAgg t).bind fun b=>match b with
 |true=>(cx.size t).bind fun n=>takeK cs n fun r=>c (.agg r)
 |false=>(uncons? cs).bind fun p=>c p.1
theorem loadF_eq (cx:Cx) (t:TypeId) (cs:List AV) (c:AV→Option ρ):loadF cx t cs c=loadC cx t cs c:=by
 unfold loadF loadC
 simp only [takeK_eq]
 rfl
def addF (p:AV) (d:Nat) (c:AV→Option ρ):Option ρ :=
 match p with
 | .rop cs=>dropK cs d fun l=>c (.rop l)
 | .ptr r ver i j=>c (.ptr r ver i (j+d))
 | _=>none
theorem addF_eq (p:AV) (d:Nat) (c:AV→Option ρ):addF p d c=addOff p d c:=by
 unfold addF addOff
 cases p<;>simp only [dropK_eq]
def indexAddrF (cx:Cx) (h:Heap) (t:TypeId) (x ix:AV) (c:AV→Option ρ):Option ρ :=
 match ix with
 | .val (.int _ n)=>(cx.P.underlying t).bind fun d=>match d with
  | .array len elem=>if 0≤n then(if n<(len:Int) then(cx.size elem).bind fun s=>cond (cx.rows t) (rowOff h x n.toNat s c) (addF x (n.toNat*s) c) else none) else none
  | .slice elem=>match x with
   | .list _ sz es=>if 0≤n then(es[n.toNat]?).bind fun cs=>(cx.shC elem).bind fun z=>(chk sz z.length).bind fun _=>normCells z cs fun cs'=>c (.rop cs') else none
   | .arr r ver off len=>if 0≤n then(if n<(len:Int) then(h[r]?).bind fun o=>(cx.size elem).bind fun s=>(chk o.sz s).bind fun _=>c (.ptr r ver (off+n.toNat) 0) else none) else none
   | _=>none
  | _=>none
 | _=>none
theorem indexAddrF_eq (cx:Cx) (h:Heap) (t:TypeId) (x ix:AV) (c:AV→Option ρ):indexAddrF cx h t x ix c=indexAddrV cx h t x ix c:=by
 unfold indexAddrF indexAddrV
 simp only [addF_eq]
 rfl
def fillF (place:Nat→Option (Nat×Nat)):List (Nat×AV)→List AV→(List AV→Option ρ)→Option ρ
 | [],cells,c=>c cells
 | (i,v)::rest,cells,c=>(place i).bind fun p=>fCells v fun vc=>match Nat.beq vc.length p.2 with
  |true=>spliceK cells p.1 vc fun cells'=>fillF place rest cells' c
  |false=>none
theorem fillF_eq (place:Nat→Option (Nat×Nat)):∀(l:List (Nat×AV)) (cells:List AV) (c:List AV→Option ρ),fillF place l cells c=fillA place l cells c
 | [],cells,c=>rfl
 | (i,v)::rest,cells,c=>by
  simp only [fillF,fillA,fCells_eq,fillF_eq place rest]
  rfl
def partsF (cx:Cx) (env:Env):List (Nat×Operand)→(List (Nat×AV)→Option ρ)→Option ρ
 | [],c=>c []
 | (i,x)::r,c=>opF cx env x fun v=>partsF cx env r fun vs=>c ((i,v)::vs)
theorem partsF_eq (cx:Cx) (env:Env):∀(l:List (Nat×Operand)) (c:List (Nat×AV)→Option ρ),partsF cx env l c=(parts? cx env l).bind c
 | [],c=>rfl
 | (i,x)::xs,c=>by simp only [partsF,parts?,opF_eq,partsF_eq cx env xs,obind_assoc,χ]
def zeroF (cx:Cx) (t:TypeId) (c:List AV→Option ρ):Option ρ:=(cx.zero t).bind fun z=>fVals (zcells z) c
theorem zeroF_eq (cx:Cx) (t:TypeId) (c:List AV→Option ρ):zeroF cx t c=(zeroCells cx t).bind c:=by
 unfold zeroF zeroCells
 simp only [fVals_eq,obind_assoc,χ]
def buildF (cx:Cx) (t:TypeId) (parts:List (Nat×AV)) (c:AV→Option ρ):Option ρ :=
 zeroF cx t fun z=>(cx.P.underlying t).bind fun d=>match d with
 | .struct fields=>(fieldPlaces cx fields.toList).bind fun ps=>fillF (fun i=>ps[i]?) parts z fun cs=>c (.agg cs)
 | .array _ elem=>(cx.size elem).bind fun s=>fillF (fun i=>some (i*s,s)) parts z fun cs=>c (.agg cs)
 | _=>none
theorem buildF_eq (cx:Cx) (t:TypeId) (parts:List (Nat×AV)) (c:AV→Option ρ):buildF cx t parts c=buildV cx t parts c:=by
 unfold buildF buildV
 simp only [zeroF_eq,fillF_eq]
 rfl
def partF (cx:Cx) (t:TypeId) (cs:List AV) (off:Nat) (c:AV→Option ρ):Option ρ:=dropK cs off fun l=>loadF cx t l c
theorem partF_eq (cx:Cx) (t:TypeId) (cs:List AV) (off:Nat) (c:AV→Option ρ):partF cx t cs off c=part? cx t cs off c:=by
 unfold partF part?
 simp only [dropK_eq,loadF_eq]
def evalF (cx:Cx) (op:Op) (env:Env) (h:Heap) (c:AV→Option ρ):Option ρ :=
 match op with
 | .move x | .assign x=>opF cx env x c
 | .load t x=>opF cx env x fun p=>cellsF cx h p fun cs=>loadF cx t cs c
 | .binOp op t x y _=>opF cx env x fun a=>opF cx env y fun b=>binW cx op t a b fun v=>splitB v c
 | .unOp op _ x=>opF cx env x fun a=>unV op a fun v=>splitB v c
 | .makeFunc fn first cap=>opsF cx env first.toList fun fs=>opsF cx env cap.toList fun cs=>c (.func fn fs cs)
 | .build t ps=>partsF cx env ps.toList fun l=>buildF cx t l c
 | .fieldAddr s x f=>opF cx env x fun a=>(cx.P.underlying s).bind fun d=>match d with
  | .struct fs=>(fs[f]?).bind fun fl=>(cx.size fl.type).bind fun n=>match Nat.beq n 0 with
   |true=>none
   |false=>addF a fl.offset c
  | _=>none
 | .field t x f=>opF cx env x fun a=>(cx.P.underlying t).bind fun d=>match d,a with
  | .struct fs,.agg cs=>(fs[f]?).bind fun fl=>partF cx fl.type cs fl.offset c
  | _,_=>none
 | .indexAddr t x ix=>opF cx env x fun a=>opF cx env ix fun i=>indexAddrF cx h t a i c
 | .index t x ix=>opF cx env x fun a=>opF cx env ix fun i=>indexV cx t a i c
 | .typeAssert x _ t ok=>opF cx env x fun a=>assertV cx t ok a c
 | .call { callee := .builtin b,args,argTypes }=>opsF cx env args.toList fun vs=>builtinV cx b argTypes.toList vs c
 |op=>evalA cx op env h c
theorem evalF_eq (cx:Cx) (op:Op) (env:Env) (h:Heap) (c:AV→Option ρ):evalF cx op env h c=evalA cx op env h c:=by
 unfold evalF
 split<;>simp only [opF_eq,opsF_eq,cellsF_eq,loadF_eq,addF_eq,partF_eq,indexAddrF_eq,buildF_eq,partsF_eq]<;>rfl
def mapF {α β:Type}(f:α→(β→Option ρ)→Option ρ):List α→(List β→Option ρ)→Option ρ
 | [],c=>c []
 |x::r,c=>f x fun y=>mapF f r fun s=>c (y::s)
theorem mapM_cons' {α β:Type}(g:α→Option β) (x:α) (r:List α):(x::r).mapM g=(g x).bind fun y=>(r.mapM g).bind fun s=>some (y::s):=by
 simp only [List.mapM_cons];rfl
theorem mapF_eq {α β:Type}(f:α→(β→Option ρ)→Option ρ) (g:α→Option β) (h:∀a c,f a c=(g a).bind c):∀(l:List α) (c:List β→Option ρ),mapF f l c=(l.mapM g).bind c
 | [],c=>rfl
 |x::r,c=>by
  simp only [mapF,h,mapF_eq f g h r,mapM_cons',obind_assoc,χ]
def viewF (h:Heap):Nat→AV→(AV→Option ρ)→Option ρ
 | 0,_,_=>none
 |n+1,v,c=>match v with
  | .val x=>c (.val x)
  | .list _ sz es=>c (.list 0 sz es)
  | .rop cs=>c (.rop cs)
  | .ptr r ver i j=>(nth h r).bind fun o=>match o with
   |⟨k,_t,_sz,v,es⟩=>(chk v ver).bind fun _=>(nth es i).bind fun cs=>match k with
    | .box=>mapF (viewF h n) cs fun cs'=>dropK cs' j fun l=>c (.rop l)
    | _=>dropK cs j fun l=>c (.rop l)
  | .agg cs=>mapF (viewF h n) cs fun cs'=>c (.agg cs')
  | .tuple vs=>mapF (viewF h n) vs fun cs'=>c (.tuple cs')
  | .iface t x=>viewF h n x fun x'=>c (.iface t x')
  | .func fn fs cs=>mapF (viewF h n) fs fun fs'=>mapF (viewF h n) cs fun cs'=>c (.func fn fs' cs')
  | .arr r ver off len=>(nth h r).bind fun o=>match o with
   |⟨k,_t,sz,v,es⟩=>(chk v ver).bind fun _=>match k with
    | .arr=>(chkLe (off+len) es.length).bind fun _=>c (.list 0 sz ((es.take (off+len)).drop off))
    | .ro=>(chkLe (off+len) es.length).bind fun _=>c (.list 0 sz ((es.take (off+len)).drop off))
    | _=>none
theorem viewF_eq (h:Heap):∀(n:Nat) (v:AV) (c:AV→Option ρ),viewF h n v c=(view h n v).bind c
 | 0,v,c=>rfl
 |n+1,v,c=>by
  have ih:=fun v (c:AV→Option ρ)=>viewF_eq h n v c
  have im:=mapF_eq (viewF (ρ:=ρ) h n) (view h n) ih
  cases v<;>simp only [viewF,view,im,ih,dropK_eq,nth_eq,obind_assoc,χ]
  case ptr r ver i j =>
   congr 1
   funext o
   obtain⟨k,t,sz,v,es⟩:=o
   congr 1
   funext _
   simp only []
   congr 1
   funext cs
   cases k<;>simp only [obind_assoc,χ]
  case arr r ver off len =>
   congr 1
   funext o
   obtain⟨k,t,sz,v,es⟩:=o
   congr 1
   funext _
   cases k<;>simp only [obind_assoc,χ]<;>rfl
def vArgF (h:Heap) (v:AV) (c:AV→Option ρ):Option ρ:=viewF h 5 v fun v=>fWk v c
theorem vArgF_eq (h:Heap) (v:AV) (c:AV→Option ρ):vArgF h v c=(viewArg h v).bind c:=by
 unfold vArgF viewArg
 simp only [viewF_eq,fWk_eq,obind_assoc,χ]
def vArgsF (h:Heap):List AV→(List AV→Option ρ)→Option ρ
 | [],c=>c []
 |v::vs,c=>vArgF h v fun x=>vArgsF h vs fun xs=>c (x::xs)
theorem vArgsF_eq (h:Heap):∀(l:List AV) (c:List AV→Option ρ),vArgsF h l c=(viewArgs h l).bind c
 | [],c=>rfl
 |x::xs,c=>by simp only [vArgsF,viewArgs,vArgF_eq,vArgsF_eq h xs,obind_assoc,χ]
def callF (g:AV) (as:List AV) (c:FuncId→List AV→Option ρ):Option ρ:=match g with
 | .func (.func f) first cap=>appK as cap fun l=>appK first l fun l=>c f l
 | _=>none
theorem callF_eq (g:AV) (as:List AV) (c:FuncId→List AV→Option ρ):callF g as c=(g.call? as).bind fun p=>c p.1 p.2:=by
 cases g<;>first |rfl |skip
 rename_i fn a b
 cases fn<;>first |rfl |skip
 simp only [callF,AV.call?,appK_eq,χ,List.append_assoc]
def callVF (cx:Cx) (F:EF) (q:Bool) (t:TypeId) (fv:AV) (args:List AV) (h:Heap) (c:AV→Option ρ):Option ρ :=
 vArgF h fv fun g=>vArgsF h args fun as=>callF g as fun f l=>(F (.fn f) l []).bind fun r=>(ret1 r).bind fun v =>
  normR (cx.svs t) (cx.sv t) v fun v=>cond (v.ground||(!q&&(refless 5 fv&&args.all (refless 5)))) (c v) none
theorem callVF_eq (cx:Cx) (F:EF) (q:Bool) (t:TypeId) (fv:AV) (args:List AV) (h:Heap) (c:AV→Option ρ):callVF cx F q t fv args h c=callV cx F q t fv args h c:=by
 unfold callVF callV
 simp only [vArgF_eq,vArgsF_eq,callF_eq]
def storeF (cx:Cx) (t:TypeId) (p x:AV) (h:Heap) (c:Heap→Option ρ):Option ρ :=
 match p with
 | .ptr r ver i j=>(nth h r).bind fun o=>match o with
  |⟨ok,ot,sz,v,es⟩=>(chk v ver).bind fun _=>(nth es i).bind fun cs=>(cx.size t).bind fun n=>fCells x fun xc =>
   match Nat.beq xc.length n&&xc.all AV.one with
   |true=>match ok with
    | .box=>match Nat.ble (j+n) sz with
     |true=>spliceK cs j xc fun cs'=>setK es i cs' fun es'=>setK h r ⟨.box,ot,sz,v,es'⟩ c
     |false=>none
    | .arr=>match x.flat,Nat.ble (j+n) sz with
     |true,true=>(cx.shC (cx.elT ot)).bind fun z=>normCells z cs fun cs'=>spliceK cs' j xc fun cs'=>setK h r ⟨.arr,ot,sz,v,es.set i cs'⟩ c
     | _,_=>none
    | .ro=>none
    | .dead=>none
   |false=>none
 | _=>none
theorem storeF_eq (cx:Cx) (t:TypeId) (p x:AV) (h:Heap) (c:Heap→Option ρ):storeF cx t p x h c=storeV cx t p x h c:=by
 unfold storeF storeV
 cases p<;>first |rfl |skip
 simp only [nth_eq]
 congr 1
 funext o
 obtain⟨k,t,sz,v,es⟩:=o
 simp only [fCells_eq,setK_eq]
 cases k<;>rfl
def rowsF (s:Nat):Nat→List (Nat×AV)→(List (List AV)→Option ρ)→Option ρ
 | _,[],k=>k []
 |i,(j,v)::r,k=>fCells v fun vc=>match Nat.beq i j&&(Nat.beq vc.length s&&vc.all AV.flat1) with
  |true=>rowsF s (i+1) r fun rows=>k (vc::rows)
  |false=>none
theorem rowsF_eq (s:Nat):∀(l:List (Nat×AV)) (i:Nat) (c:List (List AV)→Option ρ),rowsF s i l c=rowsP s i l c
 | [],i,c=>rfl
 | (j,v)::r,i,c=>by simp only [rowsF,rowsP,fCells_eq,rowsF_eq s r];rfl
def rowsRF (s:Nat):Nat→List (Nat×AV)→(List (List AV)→Option ρ)→Option ρ
 | _,[],k=>k []
 |i,(j,v)::r,k=>fCells v fun vc=>match Nat.beq i j&&Nat.beq vc.length s with
  |true=>rowsRF s (i+1) r fun rows=>k (vc::rows)
  |false=>none
theorem rowsRF_eq (s:Nat):∀(l:List (Nat×AV)) (i:Nat) (c:List (List AV)→Option ρ),rowsRF s i l c=(rowsR s i l).bind c
 | [],i,c=>rfl
 | (j,v)::r,i,c=>by
  simp only [rowsRF,rowsR,fCells_eq,rowsRF_eq s r]
  cases Nat.beq i j&&Nat.beq v.cells.length s with
  |true =>
   show((rowsR s (i+1) r).bind fun rows=>c (v.cells::rows))=((rowsR s (i+1) r).bind fun rows=>some (v.cells::rows)).bind c
   cases rowsR s (i+1) r<;>rfl
  |false=>rfl
def renF (ks:List Nat):Nat→AV→(AV→Option ρ)→Option ρ
 | 0,_,_=>none
 |n+1,v,c=>match v with
  | .val x=>c (.val x)
  | .list fl sz es=>c (.list fl sz es)
  | .rop cs=>c (.rop cs)
  | .ptr r ver i j=>(pos ks r).bind fun r'=>c (.ptr r' ver i j)
  | .arr r ver off len=>(pos ks r).bind fun r'=>c (.arr r' ver off len)
  | .agg cs=>mapF (renF ks n) cs fun cs'=>c (.agg cs')
  | .tuple vs=>mapF (renF ks n) vs fun vs'=>c (.tuple vs')
  | .iface t x=>renF ks n x fun x'=>c (.iface t x')
  | .func fn fs cs=>mapF (renF ks n) fs fun fs'=>mapF (renF ks n) cs fun cs'=>c (.func fn fs' cs')
theorem renF_eq (ks:List Nat):∀(n:Nat) (v:AV) (c:AV→Option ρ),renF ks n v c=(ren ks n v).bind c
 | 0,v,c=>rfl
 |n+1,v,c=>by
  have ih:=fun v (c:AV→Option ρ)=>renF_eq ks n v c
  have im:=mapF_eq (renF (ρ:=ρ) ks n) (ren ks n) ih
  cases v<;>simp only [renF,ren,im,ih,obind_assoc,χ]
def obRenF (ks:List Nat) (o:Ob) (c:Ob→Option ρ):Option ρ:=match o with
 |⟨k,t,sz,ver,es⟩=>match k with
  | .box=>mapF (fun e c=>mapF (renF ks 5) e c) es fun es=>c ⟨.box,t,sz,ver,es⟩
  | .arr=>c ⟨.arr,t,sz,ver,es⟩
  | .ro=>c ⟨.ro,t,sz,ver,es⟩
  | .dead=>c ⟨.dead,t,sz,ver,es⟩
theorem obRenF_eq (ks:List Nat) (o:Ob) (c:Ob→Option ρ):obRenF ks o c=(o.ren ks).bind c:=by
 obtain⟨k,t,sz,ver,es⟩:=o
 cases k<;>first
  |rfl
  |skip
 simp only [obRenF,Ob.ren]
 rw [mapF_eq (ρ:=ρ) (fun e c=>mapF (renF ks 5) e c) (fun e=>e.mapM (ren ks 5)) (fun e c=>mapF_eq (renF ks 5) (ren ks 5) (renF_eq ks 5) e c)]
 simp only [obind_assoc,χ]
def normObF (z o:Ob) (k:Ob→Option ρ):Option ρ:=match z with
 |⟨zk,zt,zs,zv,ze⟩=>(obIs ⟨zk,zt,zs,zv,ze⟩ o).bind fun _=>(chk o.ver zv).bind fun _=>match zk with
  | .arr=>k ⟨.arr,zt,zs,zv,o.es⟩
  | .dead=>k ⟨.dead,zt,zs,zv,[]⟩
  |zk=>match ze with
   | [cs]=>(uncons? o.es).bind fun p=>(nil? p.2).bind fun _=>normNs cs p.1 fun cs'=>k ⟨zk,zt,zs,zv,[cs']⟩
   | _=>k ⟨zk,zt,zs,zv,o.es⟩
theorem normObF_eq (z o:Ob) (k:Ob→Option ρ):normObF z o k=normOb z o k:=by
 obtain⟨zk,zt,zs,zv,ze⟩:=z
 unfold normObF normOb
 rcases ze with _ |⟨a,_ |⟨b,r⟩⟩
 ·cases zk<;>rfl
 ·cases zk<;>rfl
 ·cases zk<;>rfl
def normHF:Heap→Heap→(Heap→Option ρ)→Option ρ
 | [],h,k=>(nil? h).bind fun _=>k []
 |z::zs,h,k=>(uncons? h).bind fun p=>normObF z p.1 fun o=>normHF zs p.2 fun r=>k (o::r)
theorem normHF_eq:∀(z h:Heap) (k:Heap→Option ρ),normHF z h k=normHeap z h k
 | [],h,k=>rfl
 |z::zs,h,k=>by simp only [normHF,normHeap,normObF_eq,normHF_eq zs]
def sliceF (cx:Cx) (t:TypeId) (c:TypeId×Nat×List AV×Nat→Option ρ):Option ρ:=(cx.P.underlying t).bind fun d=>match d with
 | .slice e=>(cx.P.info? e).bind fun i=>(cx.zero e).bind fun z=>match Nat.beq (zcells z).length i.size&&(Nat.blt 0 i.size&&Nat.blt 0 i.bytes) with
  |true=>fVals (zcells z) fun zc=>c (e,i.size,zc,i.bytes)
  |false=>none
 | _=>none
theorem sliceF_eq (cx:Cx) (t:TypeId) (c:TypeId×Nat×List AV×Nat→Option ρ):sliceF cx t c=(sliceInfo cx t).bind c:=by
 unfold sliceF sliceInfo
 simp only [fVals_eq,obind_assoc]
 congr 1;funext d
 cases d<;>first |rfl |skip
 simp only [obind_assoc]
 congr 1;funext i;congr 1;funext z
 cases (Nat.beq (zcells z).length i.size&&(Nat.blt 0 i.size&&Nat.blt 0 i.bytes))<;>rfl
def yRowsF (h:Heap) (sz:Nat) (y:AV) (c:List (List AV)→Option ρ):Option ρ:=match y with
 | .list _ sz' es=>(chk sz' sz).bind fun _=>c es
 | .arr r ver off len=>(nth h r).bind fun o=>(chk o.ver ver).bind fun _=>(chk o.sz sz).bind fun _=>match o.k with
  | .arr=>(chkLe (off+len) o.es.length).bind fun _=>c ((o.es.take (off+len)).drop off)
  | _=>none
 |y=>(yRows h sz y).bind c
theorem yRowsF_eq (h:Heap) (sz:Nat) (y:AV) (c:List (List AV)→Option ρ):yRowsF h sz y c=(yRows h sz y).bind c:=by
 cases y<;>simp only [yRowsF,yRows,nth_eq,obind_assoc,χ]
 rename_i r ver off len
 congr 1;funext o;congr 1;funext _;congr 1;funext _
 cases o.k<;>first |rfl |simp only [obind_assoc,χ]
def killF (h:Heap) (kill:Option Nat) (c:Heap→Option ρ):Option ρ:=match kill with
 |none=>c h
 |some r=>match nth h r with
  |some o=>setK h r ⟨.dead,o.t,o.sz,o.ver,[]⟩ c
  |none=>c h
theorem killF_eq (h:Heap) (kill:Option Nat) (c:Heap→Option ρ):killF h kill c=c (killH h kill):=by
 cases kill with
 |none=>rfl
 |some r =>
  simp only [killF,killH,nth_eq,setK_eq]
  cases h[r]?<;>rfl
def appFinF (q:TypeId×Nat×List AV×Nat) (h:Heap) (kill:Option Nat) (es ys:List (List AV)) (c:AV→Heap→Option ρ):Option ρ :=
 if(es.length+ys.length)*q.2.2.2≤140737488355328 then killF h kill fun h=>appK es ys fun zs=>pushK h 0 ⟨.arr,q.1,q.2.1,q.2.1,zs⟩ fun r h=>c (.arr r q.2.1 0 (es.length+ys.length)) h else none
def appFinG (q:TypeId×Nat×List AV×Nat) (h:Heap) (kill:Option Nat) (es ys:List (List AV)) (c:AV→Heap→Option ρ):Option ρ :=
 if(es.length+ys.length)*q.2.2.2≤140737488355328 then killF h kill fun h=>pushK h 0 ⟨.arr,q.1,q.2.1,q.2.1,es++ys⟩ fun r h=>c (.arr r q.2.1 0 (es.length+ys.length)) h else none
theorem appFinG_eq (q:TypeId×Nat×List AV×Nat) (h:Heap) (kill:Option Nat) (es ys:List (List AV)) (c:AV→Heap→Option ρ):appFinG q h kill es ys c=appFin q h kill es ys c:=by
 unfold appFinG appFin
 simp only [killF_eq,pushK_eq,killH_len,Nat.zero_add]
def makeF (cx:Cx) (t:TypeId) (lv cv:AV) (h:Heap) (c:AV→Heap→Option ρ):Option ρ :=
 sliceF cx t fun q=>match lv,cv with
 | .val (.int _ l), .val (.int _ n) => if 0 ≤ l then (if l ≤ n then (if (q.2.2.2 : Int) * n ≤ 281474976710656 then
   pushK h 0 ⟨.arr,q.1,q.2.1,q.2.1,List.replicate l.toNat q.2.2.1⟩ fun r h=>c (.arr r q.2.1 0 l.toNat) h else none) else none) else none
 | _,_=>none
theorem makeF_eq (cx:Cx) (t:TypeId) (lv cv:AV) (h:Heap) (c:AV→Heap→Option ρ):makeF cx t lv cv h c=makeV cx t lv cv h c:=by
 unfold makeF makeV
 simp only [sliceF_eq,pushK_eq,Nat.zero_add]
 rfl
def srcF (cx:Cx) (h:Heap) (t1 t2:TypeId) (sz:Nat) (y:AV) (c:List (List AV)→Option ρ):Option ρ:=match y with
 | .val (.string s)=>(cx.P.underlying t2).bind fun d=>match d with
  | .string=>(chk sz 1).bind fun _=>c (strRows s)
  | _=>none
 |y=>(chk t1 t2).bind fun _=>yRowsF h sz y c
theorem srcF_eq (cx:Cx) (h:Heap) (t1 t2:TypeId) (sz:Nat) (y:AV) (c:List (List AV)→Option ρ):srcF cx h t1 t2 sz y c=(srcRows cx h t1 t2 sz y).bind c:=by
 have str:∀s,srcF cx h t1 t2 sz (.val (.string s)) c=(srcRows cx h t1 t2 sz (.val (.string s))).bind c:=fun s=>by
  simp only [srcF,srcRows]
  cases cx.P.underlying t2 with
  |none=>rfl
  |some d =>
   simp only [χ]
   cases d<;>first |rfl | (cases chk sz 1<;>rfl)
 have other:∀y,((chk t1 t2).bind fun _=>yRowsF h sz y c)=((chk t1 t2).bind fun _=>yRows h sz y).bind c:=fun y=>by
  cases chk t1 t2 with
  |none=>rfl
  |some u=>simp only [χ,yRowsF_eq]
 cases y with
 |val v=>cases v<;>first |exact str _ |exact other _
 | _=>exact other _
def appendF (cx:Cx) (t1 t2:TypeId) (x y:AV) (h:Heap) (c:AV→Heap→Option ρ):Option ρ :=
 sliceF cx t1 fun q=>srcF cx h t1 t2 q.2.1 y fun ys=>cond (ysOk ys) (match x with
  | .val (.slice none 0 0)=>appFinG q h none [] ys c
  | .arr r ver off n=>(chk off 0).bind fun _=>(nth h r).bind fun o=>(chk o.ver ver).bind fun _=>(chk o.sz q.2.1).bind fun _=>(chk o.t q.1).bind fun _=>match o.k with
   | .arr=>(chk n o.es.length).bind fun _=>appFinG q h (some r) o.es ys c
   | _=>none
  | _=>none) none
theorem appendF_eq (cx:Cx) (t1 t2:TypeId) (x y:AV) (h:Heap) (c:AV→Heap→Option ρ):appendF cx t1 t2 x y h c=appendV cx t1 t2 x y h c:=by
 unfold appendF appendV
 simp only [sliceF_eq,srcF_eq,nth_eq,appFinG_eq]
 rfl
def copyF (cx:Cx) (t1:TypeId) (x y:AV) (h:Heap) (c:AV→Heap→Option ρ):Option ρ :=
 sliceF cx t1 fun q=>yRowsF h q.2.1 y fun ys=>cond (ysOk ys) (match x with
  | .arr r ver off len=>(nth h r).bind fun o=>(chk o.ver ver).bind fun _=>(chk o.sz q.2.1).bind fun _=>match o.k with
   | .arr=>(chkLe (off+len) o.es.length).bind fun _ =>
    setK h r { o with es:=o.es.take off++ys.take (Nat.min ys.length len)++o.es.drop (off+Nat.min ys.length len) } fun h=>c (.val (.int .i64 (Nat.min ys.length len))) h
   | _=>none
  | _=>none) none
theorem copyF_eq (cx:Cx) (t1:TypeId) (x y:AV) (h:Heap) (c:AV→Heap→Option ρ):copyF cx t1 x y h c=copyV cx t1 x y h c:=by
 unfold copyF copyV
 simp only [sliceF_eq,yRowsF_eq,nth_eq,setK_eq]
 rfl
def clearF (cx:Cx) (t1:TypeId) (x:AV) (h:Heap) (c:AV→Heap→Option ρ):Option ρ :=
 sliceF cx t1 fun q=>match x with
  | .arr r ver off len=>(nth h r).bind fun o=>(chk o.ver ver).bind fun _=>(chk o.sz q.2.1).bind fun _=>match o.k with
   | .arr=>(chkLe (off+len) o.es.length).bind fun _=>cond (q.2.2.1.all AV.one)
    (setK h r { o with es:=o.es.take off++List.replicate len q.2.2.1++o.es.drop (off+len) } fun h=>c (.val (.tuple #[])) h) none
   | _=>none
  | _=>none
theorem clearF_eq (cx:Cx) (t1:TypeId) (x:AV) (h:Heap) (c:AV→Heap→Option ρ):clearF cx t1 x h c=clearV cx t1 x h c:=by
 unfold clearF clearV
 simp only [sliceF_eq,nth_eq,setK_eq]
 rfl
def binsF (cx:Cx) (b:Builtin) (ts:List TypeId) (vs:List AV) (h:Heap) (c:AV→Heap→Option ρ):Option ρ:=match ts,vs with
 | [t1],[x]=>match b with
  | .clear=>clearF cx t1 x h c
  | _=>none
 | [t1,t2],[x,y]=>match b with
  | .append=>appendF cx t1 t2 x y h c
  | .copy=>copyF cx t1 x y h c
  | _=>none
 | _,_=>none
theorem binsF_eq (cx:Cx) (b:Builtin) (ts:List TypeId) (vs:List AV) (h:Heap) (c:AV→Heap→Option ρ):binsF cx b ts vs h c=bins cx b ts vs h c:=by
 unfold binsF bins
 simp only [clearF_eq,appendF_eq,copyF_eq]
 rfl
def cloneF (cx:Cx) (t:TypeId) (args:List AV) (h:Heap) (c:AV→Heap→Option ρ):Option ρ:=match args with
 | [y]=>sliceF cx t fun q=>yRowsF h q.2.1 y fun ys=>cond (ysOk ys) (appFinG q h none [] ys c) none
 | _=>none
theorem cloneF_eq (cx:Cx) (t:TypeId) (args:List AV) (h:Heap) (c:AV→Heap→Option ρ):cloneF cx t args h c=cloneV cx t args h c:=by
 unfold cloneF cloneV
 simp only [sliceF_eq,yRowsF_eq,appFinG_eq]
 rfl
def litG:List Nat→Nat→(Nat→Option ρ)→Option ρ
 | [],n,c=>c n
 |k::ks,n,c=>match Nat.beq n k with
  |true=>c k
  |false=>litG ks n c
theorem litG_eq:∀(l:List Nat) (n:Nat) (c:Nat→Option ρ),litG l n c=c n
 | [],n,c=>rfl
 |k::ks,n,c=>by
  simp only [litG]
  split
  ·rename_i h
   rw [Nat.eq_of_beq_eq_true h]
  ·exact litG_eq ks n c
def natsK:List Nat→(List Nat→Option ρ)→Option ρ
 | [],c=>c []
 |x::xs,c=>litG [0,1,2,3,4,5,6,7,8,9,10,11,12,13,14,15,16,17,18,19,20,21,22,23] x fun x=>natsK xs fun xs=>c (x::xs)
theorem natsK_eq:∀(l:List Nat) (c:List Nat→Option ρ),natsK l c=c l
 | [],c=>rfl
 |x::xs,c=>by simp only [natsK,litG_eq,natsK_eq xs]
def reachK (h:Heap):Nat→List Nat→(List Nat→Option ρ)→Option ρ
 | 0,ks,c=>c ks
 |n+1,ks,c=>natsK (addN ks (ks.flatMap fun k=>match h[k]? with
  |some o=>o.refs
  |none=>[])) fun ks=>reachK h n ks c
theorem reachK_eq (h:Heap):∀(n:Nat) (ks:List Nat) (c:List Nat→Option ρ),reachK h n ks c=c (reach h n ks)
 | 0,ks,c=>rfl
 |n+1,ks,c=>by simp only [reachK,natsK_eq,reachK_eq h n];rfl
def gcK (m:Nat) (ks:List Nat) (vs is:List AV) (h:Heap) (c:List AV→List AV→Heap→Option ρ):Option ρ :=
 cond (nodupL ks&&stays ks m) (mapF (renF ks 5) vs fun vs'=>mapF (renF ks 5) is fun is' =>
  cond (is.all fun v=>(refs 5 v).all (fixedN ks)) (mapF (fun k c=>(nth h k).bind fun o=>obRenF ks o c) ks fun h'=>c vs' is' h') none) none
theorem gcK_eq (m:Nat) (ks:List Nat) (vs is:List AV) (h:Heap) (c:List AV→List AV→Heap→Option ρ):gcK m ks vs is h c=(gc m ks vs is h).bind fun g=>c g.1 g.2.1 g.2.2:=by
 unfold gcK gc
 have hm:=fun(l:List AV) (c:List AV→Option ρ)=>mapF_eq (renF ks 5) (ren ks 5) (renF_eq ks 5) l c
 have hk:=fun(l:List Nat) (c:Heap→Option ρ)=>mapF_eq (ρ:=ρ) (fun k c=>(nth h k).bind fun o=>obRenF ks o c) (fun k=>(h[k]?).bind (Ob.ren ks)) (fun k c=>by simp only [nth_eq,obRenF_eq,obind_assoc]) l c
 simp only [hm,hk]
 cases (nodupL ks&&stays ks m)<;>first
  |rfl
  |skip
 simp only [cond_true,obind_assoc]
 congr 1;funext a;congr 1;funext b
 cases (is.all fun v=>(refs 5 v).all (fixedN ks))<;>first
  |rfl
  |skip
 simp only [cond_true,obind_assoc,χ]
def mergeF (ks:List Nat) (h h2:Heap) (c:Heap→Option ρ):Option ρ:=mapF (fun(p:Nat×Nat) c=>match nth h2 p.2 with
 |some o=>obRenF ks o c
 |none=>(nth h p.1).bind c) ((List.range ks.length).zip ks) c
theorem mergeF_eq (ks:List Nat) (h h2:Heap) (c:Heap→Option ρ):mergeF ks h h2 c=(mergeH ks h h2).bind c:=by
 unfold mergeF mergeH
 exact mapF_eq (ρ:=ρ) _ _ (fun p c=>by
  simp only [nth_eq]
  cases h2[p.2]? with
  |none=>rfl
  |some o=>exact obRenF_eq ks o c) _ c
def normOF (z v:AV) (k:AV→Option ρ):Option ρ:=match z with
 | .tuple zs=>v.tup?.bind fun vs=>normAs zs vs fun vs'=>k (.tuple vs')
 | .ptr r ver i j=>(v.pIs r ver i j).bind fun _=>k (.ptr r ver i j)
 |z=>normA z v k
theorem normOF_eq (z v:AV) (k:AV→Option ρ):normOF z v k=normO z v k:=rfl
def ownF (_cx:Cx) (F:EF) (o:Own) (fv:AV) (args:List AV) (h:Heap) (c:AV→Heap→Option ρ):Option ρ :=
 callF fv args fun f l=>natsK (addN [] (l.flatMap (refs 5))) fun k0=>reachK h 3 k0 fun ks=>gcK 0 ks l [] h fun vs _ h1=>cond (livesK h1)
  (fWks vs fun vs=>fHWk h1 fun h1=>(F (.own f) vs h1).bind fun r=>(asRet r).bind fun x=>normO o.z x.1 fun v=>normHF (cond o.same h1 o.hz) x.2 fun h2=>(chkLe ks.length h2.length).bind fun _ =>
   natsK (backKs h.length h2.length ks) fun bk=>renF bk 5 v fun v'=>mergeF bk h h2 fun h'=>c v' h') none
theorem ownF_eq (cx:Cx) (F:EF) (o:Own) (fv:AV) (args:List AV) (h:Heap) (c:AV→Heap→Option ρ):ownF cx F o fv args h c=ownV cx F o fv args h c:=by
 unfold ownF ownV
 simp only [callF_eq,gcK_eq,fWks_eq,fHWk_eq,normHF_eq,renF_eq,mergeF_eq,natsK_eq,reachK_eq]
def turnF (cx:Cx) (t:TypeId) (Z:List AV→List (List AV)→Option (List (List AV))) (args:List AV) (h:Heap) (c:AV→Heap→Option ρ):Option ρ:=match args with
 |x::rest=>sliceF cx t fun q=>match x with
  | .val (.slice none 0 0)=>(Z rest []).bind fun _=>c (.val (.tuple #[])) h
  | .arr r ver off len=>(nth h r).bind fun o=>(chk o.ver ver).bind fun _=>(chk o.sz q.2.1).bind fun _=>match o.k with
   | .arr=>(chkLe (off+len) o.es.length).bind fun _=>if len≤4611686018427387903 then(Z rest ((o.es.take (off+len)).drop off)).bind fun zs =>
    setK h r { o with es:=o.es.take off++zs++o.es.drop (off+len) } fun h=>c (.val (.tuple #[])) h else none
   | _=>none
  | _=>none
 | []=>none
theorem turnF_eq (cx:Cx) (t:TypeId) (Z:List AV→List (List AV)→Option (List (List AV))) (args:List AV) (h:Heap) (c:AV→Heap→Option ρ):turnF cx t Z args h c=turnV cx t Z args h c:=by
 unfold turnF turnV
 simp only [sliceF_eq,setK_eq,nth_eq]
 rfl
def freshF (cx:Cx) (t:TypeId) (Y:List AV→Option (List (List AV))) (args:List AV) (h:Heap) (c:AV→Heap→Option ρ):Option ρ :=
 sliceF cx t fun q=>(Y args).bind fun ys=>cond (ysOk ys) (appFinG q h none [] ys c) none
theorem freshF_eq (cx:Cx) (t:TypeId) (Y:List AV→Option (List (List AV))) (args:List AV) (h:Heap) (c:AV→Heap→Option ρ):freshF cx t Y args h c=freshV cx t Y args h c:=by
 unfold freshF freshV
 simp only [sliceF_eq,appFinG_eq]
def extF (cx:Cx) (e:ExtF) (fv:AV) (args:List AV) (h:Heap) (c:AV→Heap→Option ρ):Option ρ:=match e with
 | .clone t=>callF fv args fun _f l=>cloneF cx t l h c
 | .turn t Z=>callF fv args fun _f l=>turnF cx t Z l h c
 | .fresh t Y=>callF fv args fun _f l=>freshF cx t Y l h c
theorem extF_eq (cx:Cx) (e:ExtF) (fv:AV) (args:List AV) (h:Heap) (c:AV→Heap→Option ρ):extF cx e fv args h c=extV cx e fv args h c:=by
 cases e<;>simp only [extF,extV,callF_eq,cloneF_eq,turnF_eq,freshF_eq]
def callPF (cx:Cx) (F:EF) (T t:TypeId) (fv:AV) (args:List AV) (h:Heap) (c:JX→AV→Heap→Option ρ):Option ρ :=
 vArgF h fv fun g=>vArgsF h args fun as=>callF g as fun f l=>(F (.fn f) l []).bind fun r=>cond (isPan r)
  ((panV T r).bind fun x=>normZ (cx.sv T) x fun x=>cond x.ground (c (.pan (.iface T x)) (.val undef) h) none)
  ((ret1 r).bind fun v=>normR (cx.svs t) (cx.sv t) v fun v=>cond (v.ground||(refless 5 fv&&args.all (refless 5))) (c .normal v h) none)
def ownPF (cx:Cx) (F:EF) (o:Own) (T:TypeId) (fv:AV) (args:List AV) (h:Heap) (c:JX→AV→Heap→Option ρ):Option ρ :=
 vArgF h fv fun g=>vArgsF h args fun as=>callF g as fun f l=>fWks l fun l=>(F (.own f) l []).bind fun r=>cond (isPan r)
  ((panV T r).bind fun x=>normZ (cx.sv T) x fun x=>cond x.ground (c (.pan (.iface T x)) (.val undef) h) none)
  (ownF cx F o fv args h fun v h=>c .normal v h)
theorem ownPF_eq (cx:Cx) (F:EF) (o:Own) (T:TypeId) (fv:AV) (args:List AV) (h:Heap) (c:JX→AV→Heap→Option ρ):ownPF cx F o T fv args h c=ownP cx F o T fv args h c:=by
 unfold ownPF ownP
 simp only [vArgF_eq,vArgsF_eq,callF_eq,fWks_eq,ownF_eq]
theorem callPF_eq (cx:Cx) (F:EF) (T t:TypeId) (fv:AV) (args:List AV) (h:Heap) (c:JX→AV→Heap→Option ρ):callPF cx F T t fv args h c=callP cx F T t fv args h c:=by
 unfold callPF callP
 simp only [vArgF_eq,vArgsF_eq,callF_eq]
def killAF (h:Heap):List Nat→(Heap→Option ρ)→Option ρ
 | [],c=>c h
 |r::rs,c=>match nth h r with
  |some o=>match o.k with
   | .dead=>killAF h rs c
   | _=>killF h (some r) fun h=>killAF h rs c
  |none=>killAF h rs c
theorem killAF_eq:∀(rs:List Nat) (h:Heap) (c:Heap→Option ρ),killAF h rs c=c (killA h rs)
 | [],h,c=>rfl
 |r::rs,h,c=>by
  simp only [killAF,killA,nth_eq]
  cases h[r]? with
  |none=>exact killAF_eq rs h c
  |some o =>
   simp only
   cases o.k<;>simp only [killF_eq]<;>exact killAF_eq rs _ c
def callWF (cx:Cx) (F:EF) (t:TypeId) (fv:AV) (args:List AV) (h:Heap) (c:AV→Heap→Option ρ):Option ρ :=
 vArgF h fv fun g=>vArgsF h args fun as=>callF g as fun f l=>(F (.fn f) l []).bind fun r=>(ret1 r).bind fun v =>
  normR (cx.svs t) (cx.sv t) v fun v=>cond (v.ground||(refless 5 fv&&args.all (refless 5))) (c v h) (natsK ((fv::args).flatMap (vrefs h 5)) fun rs=>killAF h rs fun h=>c v h)
theorem callWF_eq (cx:Cx) (F:EF) (t:TypeId) (fv:AV) (args:List AV) (h:Heap) (c:AV→Heap→Option ρ):callWF cx F t fv args h c=callW cx F t fv args h c:=by
 unfold callWF callW
 simp only [vArgF_eq,vArgsF_eq,callF_eq,natsK_eq,killAF_eq]
def callXF (cx:Cx) (F:EF) (q q2:Bool) (t:TypeId) (fv:AV) (args:List AV) (h:Heap) (c:JX→AV→Heap→Option ρ):Option ρ :=
 match (fnOf fv).bind cx.ext with
 |some e=>cond q none (extF cx e fv args h fun v h=>c .normal v h)
 |none=>match (fnOf fv).bind cx.own with
  |some o=>cond q none (match (fnOf fv).bind cx.pans with
   |some T=>cond q2 none (ownPF cx F o T fv args h c)
   |none=>ownF cx F o fv args h fun v h=>c .normal v h)
  |none=>match (fnOf fv).bind cx.pans with
   |some T=>cond q2 none (callPF cx F T t fv args h c)
   |none=>cond (q2&&(q|| !frzOf cx fv)) (callVF cx F false t fv args h fun v=>c .normal v h) (callWF cx F t fv args h fun v h=>c .normal v h)
theorem callXF_eq (cx:Cx) (F:EF) (q q2:Bool) (t:TypeId) (fv:AV) (args:List AV) (h:Heap) (c:JX→AV→Heap→Option ρ):callXF cx F q q2 t fv args h c=callX cx F q q2 t fv args h c:=by
 unfold callXF callX
 simp only [callVF_eq,callWF_eq,callPF_eq,ownPF_eq,ownF_eq,extF_eq]
 rfl
def coerceBF (cx:Cx):List (Nat×Bool×Nat×TypeId)→Env→Heap→(Heap→Option ρ)→Option ρ
 | [],_env,h,c=>c h
 | (s,a,d,t)::r,env,h,c=>(look env s).bind fun v=>match v with
  | .ptr b ver i j=>(nth h b).bind fun o=>(chk o.ver ver).bind fun _=>(nth o.es i).bind fun cs=>(nth cs (j+d)).bind fun x=>match x with
   | .val (.slice none 0 0)=>sliceF cx t fun q=>match o.k with
    | .box=>cond a (litG [0,1,2,3,4,5,6,7,8,9,10,11,12,13,14,15,16,17,18,19,20,21,22,23] h.length fun n=>setK cs (j+d) (.arr n q.2.1 0 0) fun cs'=>setK o.es i cs' fun es'=>setK h b { o with es:=es' } fun h'=>pushK h' 0 ⟨.arr,q.1,q.2.1,q.2.1,[]⟩ fun _ h'=>coerceBF cx r env h' c)
     (litG [0,1,2,3,4,5,6,7,8,9,10,11,12,13,14,15,16,17,18,19,20,21,22,23] q.2.1 fun z=>setK cs (j+d) (.list 0 z []) fun cs'=>setK o.es i cs' fun es'=>setK h b { o with es:=es' } fun h'=>coerceBF cx r env h' c)
    | _=>none
   | _=>coerceBF cx r env h c
  | _=>none
theorem coerceBF_eq (cx:Cx):∀(l:List (Nat×Bool×Nat×TypeId)) (env:Env) (h:Heap) (c:Heap→Option ρ),coerceBF cx l env h c=coerceB cx l env h c
 | [],env,h,c=>rfl
 | (s,a,d,t)::r,env,h,c=>by
  simp only [coerceBF,coerceB,sliceF_eq,pushK_eq,setK_eq,nth_eq,litG_eq,coerceBF_eq cx r]
  rfl
def coerceF (cx:Cx):List (Nat×Nat×TypeId)→Env→Heap→(Env→Heap→Option ρ)→Option ρ
 | [],env,h,c=>c env h
 | (s,b,t)::r,env,h,c=>(look env s).bind fun v=>match v with
  | .val (.slice none 0 0)=>sliceF cx t fun q=>match b with
   | 0=>coerceF cx r ((s,.list 0 q.2.1 [])::env) h c
   | _=>pushK h 0 ⟨.arr,q.1,q.2.1,q.2.1,[]⟩ fun n h=>coerceF cx r ((s,.arr n q.2.1 0 0)::env) h c
  | .agg cs=>match b with
   |j+2=>(nth cs j).bind fun x=>match x with
    | .val (.slice none 0 0)=>sliceF cx t fun q=>pushK h 0 ⟨.arr,q.1,q.2.1,q.2.1,[]⟩ fun n h=>setK cs j (.arr n q.2.1 0 0) fun cs'=>coerceF cx r ((s,.agg cs')::env) h c
    | _=>coerceF cx r env h c
   | _=>coerceF cx r env h c
  | .arr r1 ver off len=>match b with
   | 0=>viewF h 1 (.arr r1 ver off len) fun x=>killF h (some r1) fun h=>coerceF cx r ((s,x)::env) h c
   | _=>coerceF cx r env h c
  | _=>coerceF cx r env h c
theorem coerceF_eq (cx:Cx):∀(l:List (Nat×Nat×TypeId)) (env:Env) (h:Heap) (c:Env→Heap→Option ρ),coerceF cx l env h c=coerceN cx l env h c
 | [],env,h,c=>rfl
 | (s,b,t)::r,env,h,c=>by
  simp only [coerceF,coerceN,sliceF_eq,pushK_eq,coerceF_eq cx r,Nat.zero_add,nth_eq,setK_eq,viewF_eq,killF_eq]
  rfl
def rowsZF:Nat→Nat→List Value→(List (List AV)→Option ρ)→Option ρ
 | 0,_,_,c=>c []
 |n+1,s,cs,c=>fVals (cs.take s) fun r=>rowsZF n s (cs.drop s) fun rs=>c (r::rs)
theorem rowsZF_eq:∀(n s:Nat) (cs:List Value) (c:List (List AV)→Option ρ),rowsZF n s cs c=c (rowsZ n s cs)
 | 0,_,_,c=>rfl
 |n+1,s,cs,c=>by simp only [rowsZF,rowsZ,fVals_eq,rowsZF_eq n]
def thawCF (h:Heap) (v:AV) (c:Heap→AV→Option ρ):Option ρ:=match v with
 | .arr r ver off len=>(nth h r).bind fun o=>match o with
  |⟨k,t,sz,vr,es⟩=>(chk vr ver).bind fun _=>cond (Nat.beq es.length 0) none (match k with
   | .arr=>(chkLe (off+len) es.length).bind fun _=>setK h r ⟨.ro,t,sz,vr,es⟩ fun h=>c h (.list 0 sz ((es.take (off+len)).drop off))
   | .ro=>(chkLe (off+len) es.length).bind fun _=>c h (.list 0 sz ((es.take (off+len)).drop off))
   | _=>none)
 |v=>c h v
theorem thawCF_eq (h:Heap) (v:AV) (c:Heap→AV→Option ρ):thawCF h v c=(thawC h v).bind fun p=>c p.1 p.2:=by
 cases v<;>first
  |rfl
  |skip
 rename_i r ver off len
 simp only [thawCF,thawC,nth_eq,obind_assoc,setK_eq]
 congr 1
 funext o
 obtain⟨k,t,sz,vr,es⟩:=o
 congr 1
 funext _
 cases hb:Nat.beq es.length 0 with
 |true=>rfl
 |false=>cases k<;>simp only [cond_false,obind_assoc,χ,Option.bind_none]
def thawBF (env:Env):List (Nat×Nat)→Heap→(Heap→Option ρ)→Option ρ
 | [],h,c=>c h
 | (s,j)::r,h,c=>(look env s).bind fun v=>match v with
  | .ptr b _ _ _=>(nth h b).bind fun o=>match o.k with
   | .box=>match o.es with
    | [cs]=>(nth cs j).bind fun x=>thawCF h x fun h2 x'=>setK cs j x' fun cs'=>setK h2 b { o with es:=[cs'] } fun h3=>thawBF env r h3 c
    | _=>none
   | _=>none
  | _=>none
theorem thawBF_eq (env:Env):∀(l:List (Nat×Nat)) (h:Heap) (c:Heap→Option ρ),thawBF env l h c=thawB env l h c
 | [],h,c=>rfl
 | (s,j)::r,h,c=>by
  simp only [thawBF,thawB,nth_eq,thawCF_eq,setK_eq,thawBF_eq env r]
  rfl
def thawCsF (h:Heap):List AV→(Heap→List AV→Option ρ)→Option ρ
 | [],c=>c h []
 |x::xs,c=>thawCF h x fun h x'=>thawCsF h xs fun h xs'=>c h (x'::xs')
theorem thawCsF_eq:∀(xs:List AV) (h:Heap) (c:Heap→List AV→Option ρ),thawCsF h xs c=(thawCs h xs).bind fun p=>c p.1 p.2
 | [],h,c=>rfl
 |x::xs,h,c=>by simp only [thawCsF,thawCs,thawCF_eq,thawCsF_eq xs,obind_assoc,χ]
def thawVF (h:Heap) (v:AV) (c:Heap→AV→Option ρ):Option ρ:=match v with
 | .agg cs=>thawCsF h cs fun h cs'=>c h (.agg cs')
 |v=>thawCF h v c
theorem thawVF_eq (h:Heap) (v:AV) (c:Heap→AV→Option ρ):thawVF h v c=(thawV h v).bind fun p=>c p.1 p.2:=by
 cases v<;>simp only [thawVF,thawV,thawCF_eq,thawCsF_eq,obind_assoc,χ]
def thawPsF (h:Heap):List (Nat×AV)→(Heap→List (Nat×AV)→Option ρ)→Option ρ
 | [],c=>c h []
 |x::xs,c=>thawVF h x.2 fun h v=>thawPsF h xs fun h xs'=>c h ((x.1,v)::xs')
theorem thawPsF_eq:∀(xs:List (Nat×AV)) (h:Heap) (c:Heap→List (Nat×AV)→Option ρ),thawPsF h xs c=(thawPs h xs).bind fun p=>c p.1 p.2
 | [],h,c=>rfl
 |x::xs,h,c=>by simp only [thawPsF,thawPs,thawVF_eq,thawPsF_eq xs,obind_assoc,χ]
def buildTF (cx:Cx) (N:Nat) (dst:Option Tmp) (t:TypeId) (len:Nat) (parts:List (Nat×Operand)) (env:Env) (h:Heap) (c:JX→Env→Heap→Option ρ):Option ρ :=
 cond (cx.ptrs t) ((cx.P.underlying t).bind fun d=>match d with
  | .slice e=>(cx.zero e).bind fun _z=>(cx.size e).bind fun s=>partsF cx env parts fun ps =>
   match Nat.blt 0 s&&(Nat.blt 0 len&&(Nat.ble (len*s) 16777216&&Nat.beq ps.length len)) with
   |true=>rowsRF s 0 ps fun rows=>pushK h 0 ⟨.box,e,s,s,rows⟩ fun r h=>putK N dst (.arr r s 0 len) env fun env=>c .normal env h
   |false=>none
  | _=>none) <|
 (cx.P.underlying t).bind fun d=>match d with
  | .slice e=>(cx.zero e).bind fun z=>(cx.size e).bind fun s=>partsF cx env parts fun ps=>thawPsF h ps fun h2 ps2 =>
   match Nat.beq (zcells z).length s&&(Nat.blt 0 s&&(Nat.blt 0 len&&(Nat.ble (len*s) 16777216&&Nat.beq ps2.length len))) with
   |true=>rowsF s 0 ps2 fun rows=>putK N dst (.list 1 s rows) env fun env=>c .normal env h2
   |false=>none
  | _=>none
theorem buildTF_eq (cx:Cx) (N:Nat) (dst:Option Tmp) (t:TypeId) (len:Nat) (parts:List (Nat×Operand)) (env:Env) (h:Heap) (c:JX→Env→Heap→Option ρ):buildTF cx N dst t len parts env h c=buildT cx N dst t len parts env h c:=by
 unfold buildTF buildT
 simp only [partsF_eq,thawPsF_eq,rowsF_eq,rowsRF_eq,pushK_eq,Nat.zero_add]
 rfl
def stepF (cx:Cx) (F:EF) (N:Nat) (q:Bool) (o:Oper) (env:Env) (h:Heap) (c:JX→Env→Heap→Option ρ):Option ρ :=
 match o.op with
 | .alloc t=>cond (cx.rows t) (cond q none ((rowInfo cx t).bind fun q=>rowsZF q.1 q.2.1 q.2.2 fun rows=>pushK h 0 ⟨.arr,t,q.2.1,q.2.1,rows⟩ fun r h=>putK N o.dst (.ptr r q.2.1 0 0) env fun env=>c .normal env h))
  ((cx.zero t).bind fun z=>(cx.size t).bind fun n=>match Nat.beq (zcells z).length n with
  |true=>fVals (zcells z) fun cs=>pushK h 0 ⟨.box,t,n,0,[cs]⟩ fun r h=>putK N o.dst (.ptr r 0 0 0) env fun env=>c .normal env h
  |false=>none)
 | .box t x=>opF cx env x fun v=>fCells v fun vc=>pushK h 0 ⟨.box,t,vc.length,0,[vc]⟩ fun r h=>putK N o.dst (.ptr r 0 0 0) env fun env=>c .normal env h
 | .store t a x=>opF cx env a fun p=>opF cx env x fun v=>storeF cx t p v h fun h=>putK N o.dst (.val undef) env fun env=>c .normal env h
 | .buildSlice t len parts=>cond (cx.thaw o.dst t) (cond q none (buildTF cx N o.dst t len parts.toList env h c)) <| (cx.P.underlying t).bind fun d=>match d with
  | .slice e=>(cx.zero e).bind fun z=>(cx.size e).bind fun s=>partsF cx env parts.toList fun ps =>
   match Nat.beq (zcells z).length s&&(Nat.blt 0 s&&(Nat.blt 0 len&&(Nat.ble (len*s) 16777216&&Nat.beq ps.length len))) with
   | true => rowsF s 0 ps fun rows => cond (cx.made o.dst t) (cond q none (pushK h 0 ⟨.arr, e, s, s, rows⟩ fun r h => putK N o.dst (.arr r s 0 len) env fun env => c .normal env h))
     (putK N o.dst (.list 1 s rows) env fun env=>c .normal env h)
   |false=>none
  | _=>none
 | .makeSlice t l n=>opF cx env l fun lv=>opF cx env n fun nv=>makeF cx t lv nv h fun v h=>putK N o.dst v env fun env=>c .normal env h
 | .call { callee := .builtin .append,args,argTypes }=>opsF cx env args.toList fun vs=>binsF cx .append argTypes.toList vs h fun v h=>putK N o.dst v env fun env=>c .normal env h
 | .call { callee := .builtin .copy,args,argTypes }=>opsF cx env args.toList fun vs=>binsF cx .copy argTypes.toList vs h fun v h=>putK N o.dst v env fun env=>c .normal env h
 | .call { callee := .builtin .clear,args,argTypes }=>opsF cx env args.toList fun vs=>binsF cx .clear argTypes.toList vs h fun v h=>putK N o.dst v env fun env=>c .normal env h
 | .call { callee := .value f,args,argTypes:=_ }=>opF cx env f fun fv=>opsF cx env args.toList fun vs=>callXF cx F (q&& !turnFn f args) q o.type fv vs h fun e v h=>match e with
  | .normal=>putK N o.dst v env fun env=>c .normal env h
  |e=>c e env h
 | .panic x=>opF cx env x fun v=>match v with
  | .iface t y=>cond (q|| !y.ground) none (c (.pan (.iface t y)) env h)
  | _=>none
 |op=>evalF cx op env h fun v=>putK N o.dst v env fun env=>c .normal env h
theorem stepF_eq (cx:Cx) (F:EF) (N:Nat) (q:Bool) (o:Oper) (env:Env) (h:Heap) (c:JX→Env→Heap→Option ρ):stepF cx F N q o env h c=stepOp cx F N q o env h c:=by
 unfold stepF stepOp
 simp only [opF_eq,opsF_eq,partsF_eq,evalF_eq,callXF_eq,makeF_eq,binsF_eq,storeF_eq,rowsF_eq,rowsZF_eq,buildTF_eq,pushK_eq,fVals_eq,fCells_eq,Nat.zero_add]
 generalize o.op=op
 cases op<;>rfl
def opersF (cx:Cx) (F:EF) (N:Nat) (q:Bool) (ops:Array Oper):List Oper→Env→Heap→(JX→Env→Heap→Option ρ)→Option ρ
 | [],env,h,c=>c .normal env h
 |o::rest,env,h,c =>
  match o.guard with
  |none=>stepF cx F N q o env h fun e env h=>match e with
   | .normal=>opersF cx F N q ops rest env h c
   |e=>c e env h
  |some (j,want)=>(gslot ops j).bind fun d=>(look env d).bind fun v =>
   match v with
   | .val (.bool b)=>cond (b==want) (stepF cx F N q o env h fun e env h=>match e with
   | .normal=>opersF cx F N q ops rest env h c
   | e => c e env h)
     (putK N o.dst (.val undef) env fun env=>opersF cx F N q ops rest env h c)
   | .val (.tuple _)=>putK N o.dst (.val undef) env fun env=>opersF cx F N q ops rest env h c
   | _=>none
theorem opersF_eq (cx:Cx) (F:EF) (N:Nat) (q:Bool) (ops:Array Oper):∀(l:List Oper) (env:Env) (h:Heap) (c:JX→Env→Heap→Option ρ),opersF cx F N q ops l env h c=runOps cx F N q ops l env h c
 | [],env,h,c=>rfl
 |o::rest,env,h,c=>by
  have ih:=fun env h (c:JX→Env→Heap→Option ρ)=>opersF_eq cx F N q ops rest env h c
  simp only [opersF,runOps,stepF_eq,ih]
  cases o.guard<;>rfl
def restrK (env:Env):List Nat→(Env→Option ρ)→Option ρ
 | [],c=>c []
 |t::ts,c=>match look env t with
  |some v=>restrK env ts fun e=>c ((t,v)::e)
  |none=>restrK env ts c
theorem restrK_eq (env:Env):∀(l:List Nat) (c:Env→Option ρ),restrK env l c=c (restrE env l)
 | [],c=>rfl
 |t::ts,c=>by
  simp only [restrK,restrE,restrK_eq env ts]
  cases look env t<;>rfl
def hideK:Heap→List Nat→(Heap→Option ρ)→Option ρ
 |h,[],c=>c h
 |h,r::rs,c=>killF h (some r) fun h=>hideK h rs c
theorem hideK_eq:∀(h:Heap) (l:List Nat) (c:Heap→Option ρ),hideK h l c=c (hideH h l)
 |h,[],c=>rfl
 |h,r::rs,c=>by
  simp only [hideK,hideH,killF_eq,hideK_eq _ rs]
def anyF (cx:Cx) (F:EF) (N:Nat) (md:Bool) (h0:Heap) (T:List Nat) (ops:Array Oper):List Oper→Env→Heap→(Env→Heap→Option ρ)→Option ρ
 | [],env,h,c=>c env h
 |o::rest,env,h,c=>restrK env (o.looksAt ops) fun e0=>cond (freeOp o)
  (opersF cx F N true ops [o] e0 [] fun e e1 h1=>onN e ((nil? h1).bind fun _=>putBack o.dst e1 env fun env=>anyF cx F N md h0 T ops rest env h c))
  (cond (md&& !effOp cx.turns o)
   ((hidR env (hidS cx ops o)).bind fun rs=>hideK h0 (rs++T) fun hh=>opersF cx F N true ops [o] e0 hh fun e e1 _=>onN e (putBack o.dst e1 env fun env=>anyF cx F N md h0 T ops rest env h c))
   (cond (md&& !(addOp cx.adds o||(tgtOk cx e0 h0.length o||(lateOk ops e0 o||heldOk cx T e0 h o)))) none
    (opersF cx F N true ops [o] e0 h fun e e1 h1=>onN e (putBack o.dst e1 env fun env=>anyF cx F N md h0 T ops rest env h1 c))))
theorem anyF_eq (cx:Cx) (F:EF) (N:Nat) (md:Bool) (h0:Heap) (T:List Nat) (ops:Array Oper):∀(l:List Oper) (env:Env) (h:Heap) (c:Env→Heap→Option ρ),anyF cx F N md h0 T ops l env h c=runAny cx F N md h0 T ops l env h c
 | [],env,h,c=>rfl
 |o::rest,env,h,c=>by
  have ih:=fun env h (c:Env→Heap→Option ρ)=>anyF_eq cx F N md h0 T ops rest env h c
  simp only [anyF,runAny,restrK_eq,opersF_eq,ih,hideK_eq]
def dropDK (ops:Array Oper):Env→(Env→Option ρ)→Option ρ
 | [],c=>c []
 |p::r,c=>cond (ops.toList.any fun o=>dIs p.1 o.dst) (dropDK ops r c) (dropDK ops r fun e=>c (p::e))
theorem dropDK_eq (ops:Array Oper):∀(e:Env) (c:Env→Option ρ),dropDK ops e c=c (dropD ops e)
 | [],c=>rfl
 |p::r,c=>by
  simp only [dropDK,dropD,dropDK_eq ops r,List.filter_cons]
  cases (ops.toList.any fun o=>dIs p.1 o.dst)<;>rfl
def upCallF (cx:Cx) (F:EF) (o:Oper) (env:Env) (h:Heap) (c:JX→AV→Heap→Option ρ):Option ρ:=match o.op with
 | .call { callee := .value f,args,.. }=>opF cx env f fun fv=>opsF cx env args.toList fun vs=>callXF cx F false false o.type fv vs h c
 | _=>none
theorem upCallF_eq (cx:Cx) (F:EF) (o:Oper) (env:Env) (h:Heap) (c:JX→AV→Heap→Option ρ):upCallF cx F o env h c=upCall cx F o env h c:=by
 unfold upCallF upCall
 simp only [opF_eq,opsF_eq,callXF_eq]
 rfl
def upF (cx:Cx) (F:EF) (N:Nat) (md:Bool) (h0:Heap) (T:List Nat) (ops:Array Oper) (out:Env):Nat→List Oper→Env→Heap→(JX→Env→Heap→Option ρ)→Option ρ
 | _,[],env,h,c=>c .normal env h
 |k,o::rest,env,h,c=>cond (upOp cx md o)
  (restrK env (o.looksAt ops) fun e0=>upCallF cx F o e0 h fun e v h1=>match e with
   | .normal=>putK N o.dst v env fun env=>upF cx F N md h0 T ops out (k+1) rest env h1 c
   |e=>anyF cx F N md h0 T ops (restOf cx.turns ops rest (k+1) [k]) env h fun _ _=>c e out h1)
  (anyF cx F N md h0 T ops [o] env h fun env h=>upF cx F N md h0 T ops out (k+1) rest env h c)
theorem upF_eq (cx:Cx) (F:EF) (N:Nat) (md:Bool) (h0:Heap) (T:List Nat) (ops:Array Oper) (out:Env):∀(k:Nat) (l:List Oper) (env:Env) (h:Heap) (c:JX→Env→Heap→Option ρ),upF cx F N md h0 T ops out k l env h c=runUp cx F N md h0 T ops out k l env h c
 | _,[],env,h,c=>rfl
 |k,o::rest,env,h,c=>by
  have ih:=fun env h (c:JX→Env→Heap→Option ρ)=>upF_eq cx F N md h0 T ops out (k+1) rest env h c
  simp only [upF,runUp,restrK_eq,upCallF_eq,anyF_eq,ih]
  rfl
def iterF (ls:List Nat) (step:Env→Heap→(JX→Env→Heap→Option ρ)→Option ρ):Nat→Env→Heap→(JX→Env→Heap→Option ρ)→Option ρ
 | 0,_,_,_=>none
 |n+1,env,h,c=>step env h fun e env h=>match e with
  | .normal=>getF env ls fun vs=>zipK ls vs fun env=>iterF ls step n env h c
  |e=>c e env h
theorem iterF_eq (ls:List Nat) (st st':Env→Heap→(JX→Env→Heap→Option ρ)→Option ρ) (hs:∀env h c,st env h c=st' env h c):∀(n:Nat) (env:Env) (h:Heap) (c:JX→Env→Heap→Option ρ),iterF ls st n env h c=iterN ls st' n env h c
 | 0,env,h,c=>rfl
 |n+1,env,h,c=>by
  simp only [iterF,iterN,hs,getF_eq,zipK_eq,iterF_eq ls st st' hs n]
  rfl
def floatF (cx:Cx) (F:EF) (N:Nat) (ops:Array Oper) (env:Env) (h:Heap) (c:JX→Env→Heap→Option ρ):Option ρ :=
 (floatIn ops.toList 0).bind fun z=>(ops[z]?).bind fun o=>o.dst.bind fun d=>match o.op with
 | .alloc t=>cond (floatOk cx.P cx.turns ops z&&(!cx.rows t&&(Nat.blt d N&&(cx.zero t).isSome)))
  (anyF cx F N false [] [] (anchor cx.turns ops z) (anchor cx.turns ops z).toList (dropS d env) h fun env h=>c .normal env h) none
 | _=>none
theorem floatF_eq (cx:Cx) (F:EF) (N:Nat) (ops:Array Oper) (env:Env) (h:Heap) (c:JX→Env→Heap→Option ρ):floatF cx F N ops env h c=floatRun cx F N ops env h c:=by
 unfold floatF floatRun
 simp only [anyF_eq]
 refine congrArg _ (funext fun z=>congrArg _ (funext fun o=>congrArg _ (funext fun d=> ?_)))
 cases o.op<;>rfl
def runF (cx:Cx) (F:EF) (f:FuncId) (N:Nat):Code→List Bool→Env→Heap→(JX→Env→Heap→Option ρ)→Option ρ
 | .skip,_,env,h,c=>c .normal env h
 | .label _,_,env,h,c=>c .normal env h
 | .ret,_,env,h,c=>c .ret env h
 | .exit id,_,env,h,c=>c (.exit id) env h
 | .goto l,_,env,h,c=>c (.goto l) env h
 | .region _ ops false,_,env,h,c=>opersF cx F N false ops ops.toList env h c
 | .region _ ops true, p, env, h, c => cond (upOk cx false ops) (dropDK ops env fun out => upF cx F N false [] [] ops out 0 ops.toList env h c)
   <|cond (anyOk cx.P cx.turns false ops) (anyF cx F N false [] [] ops ops.toList env h fun env h=>c .normal env h)
   <|cond (upOk cx true ops) (natsK (heldBy cx ops env h ops.toList) fun T=>dropDK ops env fun out=>upF cx F N true h T ops out 0 ops.toList env h c)
   <|cond (cx.flt f p) (floatF cx F N ops env h c)
   (cond (anyOk cx.P cx.turns true ops) (natsK (heldBy cx ops env h (ops.toList.take (tailAt cx.turns ops))) fun T=>anyF cx F N true h T ops (ops.toList.take (tailAt cx.turns ops)) env h fun env h=>opersF cx F N false ops (ops.toList.drop (tailAt cx.turns ops)) env h c) (floatF cx F N ops env h c))
 | .seq a b,p,env,h,c=>runF cx F f N a (p++[false]) env h fun e env h=>match e with
  | .normal=>runF cx F f N b (p++[true]) env h c
  |e=>c e env h
 | .cond x a b,p,env,h,c=>opF cx env x fun v=>match v with
  | .val (.bool t)=>cond t (runF cx F f N a (p++[false]) env h c) (runF cx F f N b (p++[true]) env h c)
  | _=>none
 | .block id b,p,env,h,c=>runF cx F f N b (p++[false]) env h fun e env h=>match e with
  | .exit i=>match Nat.beq i id with
   |true=>thawBF env (cx.thawX f p) h fun h=>c .normal env h
   |false=>c (.exit i) env h
  |e=>c e env h
 | .loop b,p,env,h,c=>(cx.ann f p).bind fun a=>match a with
  | .unroll n ls=>iterF ls (runF cx F f N b (p++[false])) n env h c
  | .live var inv => cond (loopOk var inv b && nilsOk (cx.nils f p) var) (coerceF cx (cx.nils f p) env h fun env h => coerceBF cx (cx.boxes f p) env h fun h => getF env var fun vs => getF env inv fun is =>
    fWks vs fun vs=>fWks is fun is=>fHWk h fun h=>appK vs is fun l =>
    (F (.loop f p) l h).bind fun r=>(asJump r).bind fun j =>
    loopX cx f j.1 (fun e=>normAs (formV cx f p e vs) j.2.1 fun vs'=>normHF (formH cx f p e h) j.2.2 fun h' =>
     zipK inv is fun e2=>zipK var vs' fun e1=>appK e1 e2 fun env=>c e env h') ((exitsOf b).foldr addE [])) none
 | _,_,_,_,_=>none
theorem runF_eq (cx:Cx) (F:EF) (f:FuncId) (N:Nat):∀(code:Code) (p:List Bool) (env:Env) (h:Heap) (c:JX→Env→Heap→Option ρ),runF cx F f N code p env h c=run cx F f N code p env h c
 | .skip,p,env,h,c=>rfl
 | .label _,p,env,h,c=>rfl
 | .ret,p,env,h,c=>rfl
 | .exit _,p,env,h,c=>rfl
 | .goto _,p,env,h,c=>rfl
 | .region _ ops false,p,env,h,c=>by simp only [runF,run,opersF_eq]
 | .region _ ops true,p,env,h,c=>by simp only [runF,run,anyF_eq,upF_eq,dropDK_eq,natsK_eq,opersF_eq,floatF_eq]
 | .seq a b,p,env,h,c=>by
  simp only [runF,run,runF_eq cx F f N a,runF_eq cx F f N b]
  rfl
 | .cond x a b,p,env,h,c=>by
  simp only [runF,run,opF_eq,runF_eq cx F f N a,runF_eq cx F f N b]
  rfl
 | .block id b,p,env,h,c=>by
  simp only [runF,run,runF_eq cx F f N b,thawBF_eq]
  rfl
 | .loop b,p,env,h,c=>by
  simp only [runF,run]
  congr 1
  funext a
  cases a with
  |unroll n ls=>exact iterF_eq ls _ _ (fun env h c=>runF_eq cx F f N b _ env h c) n env h c
  |live var inv=>simp only [coerceF_eq,coerceBF_eq,getF_eq,fWks_eq,fHWk_eq,appK_eq,zipK_eq,normHF_eq]
 | .rangeFunc ..,p,env,h,c=>rfl
 | .scope ..,p,env,h,c=>rfl
 | .refuse ..,p,env,h,c=>rfl
def resF (cx:Cx) (env:Env) (h:Heap) (r:ResultVar) (c:AV→Option ρ):Option ρ:=match r with
 | .tmp t=>(look env t).bind c
 | .cell a t=>(look env a).bind fun p=>cellsF cx h p fun cs=>loadF cx t cs c
theorem resF_eq (cx:Cx) (env:Env) (h:Heap) (r:ResultVar) (c:AV→Option ρ):resF cx env h r c=(resultOf cx env h r).bind c:=by
 cases r with
 |tmp t=>rfl
 |cell a t =>
  simp only [resF,resultOf,cellsF_eq,loadF_eq,obind_assoc]
  congr 1
  funext p
  exact((cellsAt_pk cx h p).bind (X:=fun cs ρ c=>loadC cx t cs c) fun cs=>loadC_pk cx t cs).nat c
def resultsF (cx:Cx) (env:Env) (h:Heap):List ResultVar→(List AV→Option ρ)→Option ρ
 | [],c=>c []
 |r::rs,c=>resF cx env h r fun v=>resultsF cx env h rs fun vs=>c (v::vs)
theorem resultsF_eq (cx:Cx) (env:Env) (h:Heap):∀(l:List ResultVar) (c:List AV→Option ρ),resultsF cx env h l c=(resultsOf cx env h l).bind c
 | [],c=>rfl
 |x::xs,c=>by simp only [resultsF,resultsOf,resF_eq,resultsF_eq cx env h xs,obind_assoc,χ]
def ksGo (l:List (Nat×Nat)):Nat→Nat→(List Nat→Option ρ)→Option ρ
 | 0,_,c=>c []
 |m+1,i,c=>match findE l i with
  |some r=>ksGo l m (i+1) fun ks=>c (r::ks)
  |none=>ksGo l m (i+1) fun ks=>c (i::ks)
theorem ksGo_eq (l:List (Nat×Nat)):∀(m i:Nat) (c:List Nat→Option ρ),ksGo l m i c=c ((List.range' i m).map fun i=>match findE l i with
  |some r=>r
  |none=>i)
 | 0,i,c=>rfl
 |m+1,i,c=>by
  simp only [ksGo,ksGo_eq l m,List.range'_succ,List.map_cons]
  cases findE l i<;>rfl
def pairK:List (Nat×Nat)→(List (Nat×Nat)→Option ρ)→Option ρ
 | [],c=>c []
 | (a,b)::r,c=>litG [0,1,2,3,4,5,6,7,8,9,10,11,12,13,14,15,16,17,18,19,20,21,22,23] a fun a=>litG [0,1,2,3,4,5,6,7,8,9,10,11,12,13,14,15,16,17,18,19,20,21,22,23] b fun b=>pairK r fun s=>c ((a,b)::s)
theorem pairK_eq:∀(l:List (Nat×Nat)) (c:List (Nat×Nat)→Option ρ),pairK l c=c l
 | [],c=>rfl
 | (a,b)::r,c=>by simp only [pairK,litG_eq,pairK_eq r]
def gcF (m:Nat) (h:Heap) (args vs is:List AV) (h1:Heap) (c:List AV→List AV→Heap→Option ρ):Option ρ :=
 pairK (pairsH args vs h h1) fun l=>ksGo l h.length 0 fun ks=>gcK m ks vs is h1 c
theorem gcF_eq (m:Nat) (h:Heap) (args vs is:List AV) (h1:Heap) (c:List AV→List AV→Heap→Option ρ):gcF m h args vs is h1 c=(gc m (ksOf h.length (pairsH args vs h h1)) vs is h1).bind fun g=>c g.1 g.2.1 g.2.2:=by
 unfold gcF ksOf
 rw [pairK_eq,ksGo_eq,List.range_eq_range',gcK_eq]
 rfl
def runGF (cx:Cx) (F:EF) (g:FuncId) (fn:Func) (dargs:List AV) (v:AV) (env:Env) (h:Heap) (c:AV→Option ρ):Option ρ :=
 (cx.P.funcs[g]?).bind fun gn=>gn.body.bind fun gb=>match gb with
 | .seq (.region _ gops false) rest=>(recOp gops.toList).bind fun d=>match Nat.ble dargs.length gn.ntmps&&Nat.blt d gn.ntmps with
  |true=>runF cx F g gn.ntmps rest [true] ((d,v)::numbered 0 dargs) h fun e env2 h2=>match e with
   | .normal | .ret=>resultsF cx env2 h2 gn.results.toList fun _ =>
    (resPtrs (cx.held g) env fn.results.toList).bind fun e3=>resultsF cx e3 h2 fn.results.toList fun vs=>vArgsF h2 vs fun vs'=>c (oneOf vs')
   | _=>none
  |false=>none
 | _=>none
theorem runGF_eq (cx:Cx) (F:EF) (g:FuncId) (fn:Func) (dargs:List AV) (v:AV) (env:Env) (h:Heap) (c:AV→Option ρ):runGF cx F g fn dargs v env h c=runG cx F g fn dargs v env h c:=by
 unfold runGF runG
 simp only [runF_eq,resultsF_eq,vArgsF_eq]
 rfl
def runDF (cx:Cx) (F:EF) (f g:FuncId) (fn:Func):Code→List Bool→Env→Heap→(AV→Option ρ)→Option ρ
 | .seq (.region _ ops false) b,p,env,h,c=>match splitD ops.toList with
  |none=>opersF cx F fn.ntmps false ops ops.toList env h fun e env h=>match e with
   | .normal=>runDF cx F f g fn b (p++[true]) env h c
   | _=>none
  |some (pre,fo,args)=>opersF cx F fn.ntmps false ops pre env h fun e env h=>match e with
   | .normal=>opF cx env fo fun fv=>opsF cx env args fun as=>callF fv as fun q1 q2=>(chk q1 g).bind fun _=>(chk (cx.held f) (cx.held g)).bind fun _=>cond (q2.all (isPtr (cx.held g)))
    (runF cx F f fn.ntmps b (p++[true]) env h fun e env h=>e.rv.bind fun v=>runGF cx F g fn q2 v env h c) none
   | _=>none
 | _,_,_,_,_=>none
theorem runDF_eq (cx:Cx) (F:EF) (f g:FuncId) (fn:Func):∀(code:Code) (p:List Bool) (env:Env) (h:Heap) (c:AV→Option ρ),runDF cx F f g fn code p env h c=runD cx F f g fn code p env h c
 | .seq (.region _ ops false) b,p,env,h,c=>by
  simp only [runDF,runD,opersF_eq,runDF_eq cx F f g fn b,opF_eq,opsF_eq,callF_eq,runF_eq,runGF_eq]
  rfl
 | .seq (.region _ _ true) _,p,env,h,c | .seq .skip _,p,env,h,c | .seq (.seq ..) _,p,env,h,c | .seq (.cond ..) _,p,env,h,c | .seq (.block ..) _,p,env,h,c | .seq (.loop ..) _,p,env,h,c | .seq (.rangeFunc ..) _,p,env,h,c
 | .seq (.exit ..) _,p,env,h,c | .seq (.scope ..) _,p,env,h,c | .seq (.label ..) _,p,env,h,c | .seq (.goto ..) _,p,env,h,c | .seq .ret _,p,env,h,c | .seq (.refuse ..) _,p,env,h,c
 | .skip,p,env,h,c | .region ..,p,env,h,c | .cond ..,p,env,h,c | .block ..,p,env,h,c | .loop ..,p,env,h,c | .rangeFunc ..,p,env,h,c | .exit ..,p,env,h,c | .scope ..,p,env,h,c | .label ..,p,env,h,c | .goto ..,p,env,h,c | .ret,p,env,h,c | .refuse ..,p,env,h,c=>by
  simp only [runDF,runD]
def runKeyF (cx:Cx) (F:EF):EF
  | .fn f, args, h => (cx.P.funcs[f]?).bind fun fn => fn.body.bind fun b => (nil? h).bind fun _ => match Nat.ble args.length fn.ntmps with
    |true=>match cx.dfr f with
     |some g=>runDF cx F f g fn b [] (numbered 0 args) [] fun v=>some (.ret v,[])
     |none=>(runF cx F f fn.ntmps b [] (numbered 0 args) [] fun e env h=>match e with
      | .normal | .ret=>resultsF cx env h fn.results.toList fun vs=>vArgsF h vs fun vs'=>some (.ret (oneOf vs'),[])
      | .pan v=>cond ((cx.pans f).isSome&&panOk v) (some (.jump (.pan v) [],[])) none
      | _=>none)
    |false=>none
  | .own f, args, h => (cx.P.funcs[f]?).bind fun fn => fn.body.bind fun b => match Nat.ble args.length fn.ntmps && Nat.beq h.length (cx.held f) with
    | true => runF cx F f fn.ntmps b [] (numbered 0 args) h fun e env h1 => match e with
      | .normal | .ret=>resultsF cx env h1 fn.results.toList fun vs=>natsK (addN (List.range (cx.held f)) (vs.flatMap (refs 5))) fun ks=>gcK (cx.held f) ks vs [] h1 fun vs' _ h2=>some (.ret (oneOf vs'),h2)
      | .pan v=>cond ((cx.pans f).isSome&&(panOk v&&Nat.beq (cx.held f) 0)) (some (.jump (.pan v) [],[])) none
      | _=>none
    |false=>none
  | .loop f p, args, h => (cx.P.funcs[f]?).bind fun fn => fn.body.bind fun b => (sub p b).bind fun l => match l with
    | .loop b => (cx.ann f p).bind fun a => match a with
      | .live var inv => cond (loopOk var inv b) (match Nat.beq args.length (var.length + inv.length) with
        | true => appK var inv fun vi => zipK vi args fun env => runF cx F f fn.ntmps b (p ++ [false]) env h fun e env h1 => match e with
          | .normal=>getF env var fun vs=>getF env inv fun is=>gcF (cx.held f) h args vs is h1 fun vs is h2=>fWks vs fun vs=>fWks is fun is=>fHWk h2 fun h2=>appK vs is fun l=>F (.loop f p) l h2
          |e=>getF env var fun vs=>getF env inv fun is=>gcF (cx.held f) h args vs is h1 fun vs _is h2=>fWks vs fun vs=>fHWk h2 fun h2=>some (.jump e vs,h2)
        |false=>none) none
      | _=>none
    | _=>none
theorem runKeyF_eq (cx:Cx) (F:EF) (key:Key) (args:List AV) (h:Heap):runKeyF cx F key args h=runKey cx F key args h:=by
 cases key with
 |fn f =>
  simp only [runKeyF,runKey,runF_eq,runDF_eq,resultsF_eq,vArgsF_eq]
  rfl
 |own f =>
  simp only [runKeyF,runKey,runF_eq,resultsF_eq,gcK_eq,natsK_eq]
  rfl
 |loop f p =>
  simp only [runKeyF,runKey,runF_eq,appK_eq,zipK_eq,getF_eq,fWks_eq,fHWk_eq,gcF_eq]
  rfl
theorem E_fast (cx:Cx) (key:Key) (args:List AV) (h:Heap):E cx key args h=ovrV cx (E cx) (runKeyF cx (E cx)) key args h :=
 (E_unfold cx key args h).trans (by
  have:runKeyF cx (E cx)=runKey cx (E cx):=funext fun k=>funext fun a=>funext fun h=>runKeyF_eq cx (E cx) k a h
  rw [this])
def inF (cx:Cx) (S:List Nat) (E:EF):EF:=fun key args h=>match key with
 | .fn f=>cond (S.any (Nat.beq f)) (ovrV cx E (runKeyF cx E) (.fn f) args h) (E (.fn f) args h)
 |key=>E key args h
theorem inF_eq (cx:Cx) (S:List Nat):inF cx S (E cx)=E cx:=by
 funext key args h
 cases key with
 |fn f =>
  simp only [inF]
  cases S.any (Nat.beq f) with
  |true=>simp only [cond_true];exact(E_fast cx (.fn f) args h).symm
  |false=>rfl
 | _=>rfl
theorem E_in {cx:Cx}(S:List Nat) (key:Key) (args:List AV) (h:Heap):E cx key args h=ovrV cx (E cx) (runKeyF cx (inF cx S (E cx))) key args h:=by
 rw [inF_eq]
 exact E_fast cx key args h
def ovF (f0:Nat) (v:AV) (E:EF):EF:=fun key args h=>match key,args,h with
 | .fn f,[],[]=>cond (Nat.beq f f0) (some (.ret v,[])) (E (.fn f) [] [])
 |key,args,h=>E key args h
theorem ovF_eq {cx:Cx}{f0:Nat}{v:AV}(h0:E cx (.fn f0) [] []=some (.ret v,[])):ovF f0 v (E cx)=E cx:=by
 funext key args h
 unfold ovF
 split
 ·rename_i f
  cases hf:Nat.beq f f0 with
  |true =>
   simp only [cond_true]
   rw [Nat.eq_of_beq_eq_true hf]
   exact h0.symm
  |false=>rfl
 ·rfl
theorem E_ov {cx:Cx}{f0:Nat}{v:AV}(h0:E cx (.fn f0) [] []=some (.ret v,[])) (S:List Nat) (key:Key) (args:List AV) (h:Heap):E cx key args h=ovrV cx (E cx) (runKeyF cx (inF cx S (ovF f0 v (E cx)))) key args h:=by
 rw [ovF_eq h0]
 exact E_in S key args h
end Go.Proofs.Av
