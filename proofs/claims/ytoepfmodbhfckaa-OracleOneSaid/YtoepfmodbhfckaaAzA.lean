/- The abstract evaluator 'Av': values, heaps, and the evaluator itself (definitions only). -/
import Derived.Deep.Quiet
import Derived.StillTail
import Derived.Test.YtoepfmodbhfckaaAzQc
import Derived.Below
import Derived.KernelRfl
import Derived.Laws.BytesArg
import Derived.Laws.StructEq
namespace Go.Proofs.Av
open Go
inductive AV where
 |val (v:Value)
 |list (fl sz:Nat) (es:List (List AV))
 |rop (cells:List AV)
 |ptr (r ver i j:Nat)
 |arr (r ver off len:Nat)
 |agg (cells:List AV)
 |tuple (vs:List AV)
 |iface (t:TypeId) (v:AV)
 |func (fn:Fn) (first cap:List AV)
 deriving Inhabited
abbrev vi (n:Int):AV := .val (.int .i64 n)
abbrev vu (n:Int):AV := .val (.int .u64 n)
abbrev vb (n:Int):AV := .val (.int .u8 n)
abbrev vbool (b:Bool):AV := .val (.bool b)
abbrev vs (s:ByteArray):AV := .val (.string s)
inductive OK where
 |box |arr |ro |dead
 deriving DecidableEq,Inhabited
structure Ob where
 k:OK
 t:TypeId
 sz:Nat
 ver:Nat
 es:List (List AV)
 deriving Inhabited
abbrev Heap:=List Ob
abbrev Env:=List (Nat×AV)
inductive JX where
 |normal |ret
 |exit (id:Nat)
 |goto (l:Nat)
 |pan (v:AV)
 deriving Inhabited
inductive Out where
 |ret (v:AV)
 |jump (e:JX) (vs:List AV)
 deriving Inhabited
inductive Key where
 |fn (f:FuncId)
 |own (f:FuncId)
 |loop (f:FuncId) (p:List Bool)
 deriving DecidableEq,Inhabited
abbrev EF:=Key→List AV→Heap→Option (Out×Heap)
inductive LAnn where
 |unroll (n:Nat) (ls:List Nat)
 |live (var inv:List Nat)
 deriving Inhabited
structure Own where
 held:Nat
 z:AV
 hz:Heap
 same:Bool:=false
inductive ExtF where
 |clone (t:TypeId)
 |turn (t:TypeId) (Z:List AV→List (List AV)→Option (List (List AV)))
 |fresh (t:TypeId) (Y:List AV→Option (List (List AV)))
structure Rule where
 G:EF→List AV→Option AV
 lim:∀(F:EF) (Gn:Nat→EF),(∀key args h r,F key args h=some r→∃n,∀m,n≤m→Gn m key args h=some r)→∀args v,G F args=some v→∃n,∀m,n≤m→G (Gn m) args=some v
structure Cx where
 P:Program
 G:Nat→Option (List AV)
 ann:FuncId→List Bool→Option LAnn
 own:FuncId→Option Own:=fun _=>none
 ext:FuncId→Option ExtF:=fun _=>none
 nils:FuncId→List Bool→List (Nat×Nat×TypeId):=fun _ _=>[]
 ovr:FuncId→Option (List AV→Option AV):=fun _=>none
 rul:FuncId→Option Rule:=fun _=>none
 eqOk:TypeId→Bool:=fun _=>false
 pans:FuncId→Option TypeId:=fun _=>none
 dfr:FuncId→Option FuncId:=fun _=>none
 fixn:FuncId→Nat:=fun _=>0
 boxes:FuncId→List Bool→List (Nat×Bool×Nat×TypeId):=fun _ _=>[]
 made:Option Nat→TypeId→Bool:=fun _ _=>false
 xheap:FuncId→List Bool→JX→Option (List Ob):=fun _ _ _=>none
 xvals:FuncId→List Bool→JX→Option (List AV):=fun _ _ _=>none
 rows:TypeId→Bool:=fun _=>false
 thaw:Option Nat→TypeId→Bool:=fun _ _=>false
 thawX:FuncId→List Bool→List (Nat×Nat):=fun _ _=>[]
 frz:FuncId→Bool:=fun _=>false
 pur:FuncId→Bool:=fun _=>false
 flt:FuncId→List Bool→Bool:=fun _ _=>false
 ptrs:TypeId→Bool:=fun _=>false
 eq_ok:∀t,eqOk t=true→P.eqGuardType P.depth t=false∧P.stoodInHeld t=false:=by intro t h;cases h
def Cx.turns (cx:Cx) (f:FuncId):Bool:=match cx.ext f with
 |some _=>true
 |none=>match cx.own f with
  |some _=>true
  |none=>match cx.pans f with
   |some _=>true
   |none=>cx.frz f||cx.pur f
def Cx.adds (cx:Cx) (f:FuncId):Bool:=match cx.ext f with
 |some (.clone _)=>true
 |some (.fresh _ _)=>true
 |some (.turn _ _)=>false
 |none=>(cx.own f).isNone&&((cx.pans f).isNone&&(cx.pur f&& !cx.frz f))
def turnFn (f:Operand) (args:Array Operand):Bool:=match f with
 | .func _=>true
 | .tmp _=>args.isEmpty
 | _=>false
def Cx.held (cx:Cx) (f:FuncId):Nat:=match cx.own f with
 |some o=>o.held
 |none=>cx.fixn f
variable {ρ:Type}
def AV.int? (k:IntKind):AV→Option Int
 | .val (.int k' n)=>if k'=k then some n else none
 | _=>none
def AV.bool?:AV→Option Bool
 | .val (.bool b)=>some b
 | _=>none
def AV.str?:AV→Option ByteArray
 | .val (.string s)=>some s
 | _=>none
def AV.float? (k:FloatKind):AV→Option Nat
 | .val (.float k' b)=>if k'=k then some b else none
 | _=>none
def AV.list? (sz:Nat):AV→Option (List (List AV))
 | .list _ sz' es=>if sz'=sz then some es else none
 | .val (.slice none 0 0)=>some []
 | _=>none
def AV.cells?:AV→Option (List AV)
 | .agg cs=>some cs
 | _=>none
def AV.tup?:AV→Option (List AV)
 | .tuple vs=>some vs
 | _=>none
def AV.arr? (r:Nat):AV→Option (Nat×Nat×Nat)
 | .arr r' ver off len=>if r'=r then some (ver,off,len) else none
 | _=>none
def uncons? {α:Type}:List α→Option (α×List α)
 | []=>none
 |c::r=>some (c,r)
def nil? {α:Type}:List α→Option Unit
 | []=>some ()
 | _::_=>none
def asRet:Out×Heap→Option (AV×Heap)
 | (.ret v,h)=>some (v,h)
 | _=>none
def ret1:Out×Heap→Option AV
 | (.ret v,[])=>some v
 | _=>none
def AV.call? (args:List AV):AV→Option (FuncId×List AV)
 | .func (.func f) first cap=>some (f,first++args++cap)
 | _=>none
def asJump:Out×Heap→Option (JX×List AV×Heap)
 | (.jump e vs,h)=>some (e,vs,h)
 | _=>none
def isPan:Out×Heap→Bool
 | (.jump (.pan _) [],[])=>true
 | _=>false
def JX.isPan:JX→Bool
 | .pan _=>true
 | _=>false
def AV.if? (t:TypeId):AV→Option AV
 | .iface t' v=>if t'=t then some v else none
 | _=>none
def panV (t:TypeId):Out×Heap→Option AV
 | (.jump (.pan v) [],[])=>v.if? t
 | _=>none
def JX.panX (t:TypeId):JX→Option AV
 | .pan v=>v.if? t
 | _=>none
def chkLe (a b:Nat):Option Unit:=if a≤b then some () else none
def chk (a b:Nat):Option Unit:=if a=b then some () else none
inductive Sh where
 |int (k:IntKind) |bool |str |float (k:FloatKind) |list (sz:Nat) |any
 deriving Inhabited
inductive Sv where
 |cell (s:Sh) |truth |agg (l:List Sh)
 deriving Inhabited
def normCell (z:Sh) (v:AV) (k:AV→Option ρ):Option ρ :=
 match z with
 | .int ik=>(v.int? ik).bind fun n=>k (.val (.int ik n))
 | .bool=>v.bool?.bind fun b=>k (.val (.bool b))
 | .str=>v.str?.bind fun s=>k (.val (.string s))
 | .float fk=>(v.float? fk).bind fun n=>k (.val (.float fk n))
 | .list sz=>(v.list? sz).bind fun es=>k (.list 0 sz es)
 | .any=>k v
def normCells:List Sh→List AV→(List AV→Option ρ)→Option ρ
 | [],cs,k=>(nil? cs).bind fun _=>k []
 |z::zs,cs,k=>(uncons? cs).bind fun p=>normCell z p.1 fun c=>normCells zs p.2 fun r=>k (c::r)
def splitB (v:AV) (k:AV→Option ρ):Option ρ :=
 match v with
 | .val (.bool b)=>cond b (k (.val (.bool true))) (k (.val (.bool false)))
 |v=>k v
def normZ (z:Sv) (v:AV) (k:AV→Option ρ):Option ρ :=
 match z with
 | .agg zs=>v.cells?.bind fun cs=>normCells zs cs fun cs'=>k (.agg cs')
 | .truth=>v.bool?.bind fun b=>cond b (k (.val (.bool true))) (k (.val (.bool false)))
 | .cell z=>normCell z v k
def normTup:List Sv→List AV→(List AV→Option ρ)→Option ρ
 | [],cs,k=>(nil? cs).bind fun _=>k []
 |z::zs,cs,k=>(uncons? cs).bind fun p=>normZ z p.1 fun c=>normTup zs p.2 fun r=>k (c::r)
def normR (zs:Option (List Sv)) (z:Sv) (v:AV) (k:AV→Option ρ):Option ρ :=
 match zs with
 |some zs=>v.tup?.bind fun vs=>normTup zs vs fun vs'=>k (.tuple vs')
 |none=>normZ z v k
def normT (z:AV) (v:AV) (k:AV→Option ρ):Option ρ :=
 match z with
 | .val (.int ik _)=>(v.int? ik).bind fun n=>k (.val (.int ik n))
 | .val (.bool _)=>v.bool?.bind fun b=>k (.val (.bool b))
 | .val (.string _)=>v.str?.bind fun s=>k (.val (.string s))
 | .val (.float fk _)=>(v.float? fk).bind fun n=>k (.val (.float fk n))
 | .list _ sz _=>(v.list? sz).bind fun es=>k (.list 0 sz es)
 | .arr r ver _ _=>(v.arr? r).bind fun x=>(chk x.1 ver).bind fun _=>k (.arr r ver x.2.1 x.2.2)
 | _=>k v
def normTs:List AV→List AV→(List AV→Option ρ)→Option ρ
 | [],cs,k=>(nil? cs).bind fun _=>k []
 |z::zs,cs,k=>(uncons? cs).bind fun p=>normT z p.1 fun c=>normTs zs p.2 fun r=>k (c::r)
def AV.nilS?:AV→Option Unit
 | .val (.slice none 0 0)=>some ()
 | _=>none
def normN (z:AV) (v:AV) (k:AV→Option ρ):Option ρ :=
 match z with
 | .val (.slice none 0 0)=>(v.nilS?).bind fun _=>k (.val (.slice none 0 0))
 |z=>normT z v k
def normNs:List AV→List AV→(List AV→Option ρ)→Option ρ
 | [],cs,k=>(nil? cs).bind fun _=>k []
 |z::zs,cs,k=>(uncons? cs).bind fun p=>normN z p.1 fun c=>normNs zs p.2 fun r=>k (c::r)
def normA (z:AV) (v:AV) (k:AV→Option ρ):Option ρ :=
 match z with
 | .agg zs=>v.cells?.bind fun cs=>normTs zs cs fun cs'=>k (.agg cs')
 |z=>normT z v k
def normAs:List AV→List AV→(List AV→Option ρ)→Option ρ
 | [],cs,k=>(nil? cs).bind fun _=>k []
 |z::zs,cs,k=>(uncons? cs).bind fun p=>normA z p.1 fun c=>normAs zs p.2 fun r=>k (c::r)
def obIs (z o:Ob):Option Unit:=if o.k=z.k∧o.t=z.t∧o.sz=z.sz then some () else none
def normOb (z o:Ob) (k:Ob→Option ρ):Option ρ :=
 (obIs z o).bind fun _=>(chk o.ver z.ver).bind fun _ =>
 match z.k with
 | .dead=>k { z with es:=[] }
 | _=>match z.es with
  | [cs]=>match z.k with
   | .arr=>k { z with es:=o.es }
   | _=>(uncons? o.es).bind fun p=>(nil? p.2).bind fun _=>normNs cs p.1 fun cs'=>k { z with es:=[cs'] }
  | _=>k { z with es:=o.es }
def normHeap:Heap→Heap→(Heap→Option ρ)→Option ρ
 | [],h,k=>(nil? h).bind fun _=>k []
 |z::zs,h,k=>(uncons? h).bind fun p=>normOb z p.1 fun o=>normHeap zs p.2 fun r=>k (o::r)
def AV.wk1:AV→AV
 | .list _ sz es => .list 0 sz es
 |v=>v
def AV.wk:AV→AV
 | .agg cs => .agg (cs.map AV.wk1)
 |v=>v.wk1
def Ob.wk (o:Ob):Ob:=match o.k with
 | .box=> { o with es:=o.es.map (·.map AV.wk1) }
 | _=>o
def look:Env→Nat→Option AV
 | [],_=>none
 | (s,v)::r,t=>match Nat.beq s t with
  |true=>some v
  |false=>look r t
def getAll (env:Env):List Nat→Option (List AV)
 | []=>some []
 |t::ts=>(look env t).bind fun v=>(getAll env ts).bind fun vs=>some (v::vs)
def AV.ofValue:Value→AV
 | .agg cs => .agg (cs.toList.map .val)
 |v => .val v
def opnd (cx:Cx) (env:Env):Operand→Option AV
 | .tmp t=>look env t
 | .const v=>some (.ofValue v)
 | .global g=>(cx.G g).bind fun cs=>some (.rop cs)
 | .func f=>some (.func (.func f) [] [])
def opnds (cx:Cx) (env:Env):List Operand→Option (List AV)
 | []=>some []
 |x::xs=>(opnd cx env x).bind fun v=>(opnds cx env xs).bind fun vs=>some (v::vs)
def Cx.size (cx:Cx) (t:TypeId):Option Nat:=(cx.P.info? t).bind fun i=>some i.size
def Cx.zero (cx:Cx) (t:TypeId):Option Value:=(cx.P.info? t).bind fun i=>i.zero
def shList:Option Nat→Sh
 |some n => .list n
 |none => .any
def shapes (P:Program):Nat→TypeId→List Sh
 | 0,_=>[]
 |n+1,t=>match P.underlying t with
  |some (.struct fs)=>fs.toList.flatMap fun f=>shapes P n f.type
  |some (.array len e)=>(List.replicate len (shapes P n e)).flatten
  |some (.int k)=>[.int k]
  |some .bool=>[.bool]
  |some .string=>[.str]
  |some (.float k)=>[.float k]
  |some (.slice e)=>[shList ((P.info? e).map (·.size))]
  | _=>[.any]
def Cx.shC (cx:Cx) (t:TypeId):Option (List Sh):=(cx.P.info? t).bind fun i=>match Nat.beq (shapes cx.P 20 t).length i.size with
 |true=>some (shapes cx.P 20 t)
 |false=>none
def Cx.sv (cx:Cx) (t:TypeId):Sv:=match cx.P.underlying t with
 |some (.struct _) |some (.array _ _) => .agg (shapes cx.P 20 t)
 |some .bool => .truth
 | _=>match shapes cx.P 20 t with
  | [s] => .cell s
  | _ => .cell .any
def Cx.svs (cx:Cx) (t:TypeId):Option (List Sv):=match cx.P.underlying t with
 |some (.tuple ts)=>some (ts.toList.map cx.sv)
 | _=>none
def Cx.isAgg (cx:Cx) (t:TypeId):Option Bool:=(cx.P.underlying t).bind fun d=>match d with
 | .struct _ | .array _ _=>some true
 | _=>some false
def AV.cells:AV→List AV
 | .agg cs=>cs
 | .val (.agg cs)=>cs.toList.map .val
 |v=>[v]
def AV.one:AV→Bool
 | .agg _ | .tuple _=>false
 | .val (.agg _) | .val (.tuple _)=>false
 | _=>true
def AV.flat1:AV→Bool
 | .val _=>true
 | .list _ _ _=>true
 | .rop _=>true
 | _=>false
def AV.flat:AV→Bool
 | .agg cs=>cs.all AV.flat1
 |v=>v.flat1
def AV.ground:AV→Bool
 | .val _=>true
 | .agg cs=>cs.all fun | .val _=>true | _=>false
 | .tuple vs=>vs.all fun | .val _=>true | _=>false
 | _=>false
def iand (k:IntKind) (x y:Int):Int:=k.wrap (BitVec.ofInt k.bits x &&&BitVec.ofInt k.bits y).toNat
def ior (k:IntKind) (x y:Int):Int:=k.wrap (BitVec.ofInt k.bits x |||BitVec.ofInt k.bits y).toNat
def ixor (k:IntKind) (x y:Int):Int:=k.wrap (BitVec.ofInt k.bits x ^^^ BitVec.ofInt k.bits y).toNat
def iandNot (k:IntKind) (x y:Int):Int:=k.wrap (BitVec.ofInt k.bits x &&& ~~~BitVec.ofInt k.bits y).toNat
def ishl (k:IntKind) (x y:Int):Int:=k.wrap (x*2 ^ (min y.toNat k.bits))
def ishr (k:IntKind) (x y:Int):Int:=x.fdiv (2 ^ (min y.toNat k.bits))
def ibin (op:BinOp) (k:IntKind) (x y:Int) (c:AV→Option ρ):Option ρ :=
 match op with
 | .add=>c (.val (.int k (k.wrap (x+y))))
 | .sub=>c (.val (.int k (k.wrap (x-y))))
 | .mul=>c (.val (.int k (k.wrap (x*y))))
 | .quo=>if y=0 then none else c (.val (.int k (k.wrap (x.tdiv y))))
 | .rem=>if y=0 then none else c (.val (.int k (x.tmod y)))
 | .and=>c (.val (.int k (iand k x y)))
 | .or=>c (.val (.int k (ior k x y)))
 | .xor=>c (.val (.int k (ixor k x y)))
 | .andNot=>c (.val (.int k (iandNot k x y)))
 | .eql=>c (.val (.bool (x==y)))
 | .neq=>c (.val (.bool (x !=y)))
 | .lss=>c (.val (.bool (decide (x<y))))
 | .leq=>c (.val (.bool (decide (x≤y))))
 | .gtr=>c (.val (.bool (decide (x>y))))
 | .geq=>c (.val (.bool (decide (x≥y))))
 | .shl | .shr=>none
def sbin (op:BinOp) (x y:ByteArray) (c:AV→Option ρ):Option ρ :=
 match op with
 | .add=>if((x.size+y.size:Nat):Int)>9223372036854775807 then none else c (.val (.string (x++y)))
 | .eql=>c (.val (.bool (x.toList==y.toList)))
 | .neq=>c (.val (.bool (!(x.toList==y.toList))))
 | .lss=>c (.val (.bool (Op.bytesLess x.toList y.toList)))
 | .leq=>c (.val (.bool (Op.bytesLess x.toList y.toList||x.toList==y.toList)))
 | .gtr=>c (.val (.bool (!(Op.bytesLess x.toList y.toList||x.toList==y.toList))))
 | .geq=>c (.val (.bool (!(Op.bytesLess x.toList y.toList))))
 | _=>none
def binV (cx:Cx) (op:BinOp) (t:TypeId) (x y:AV) (c:AV→Option ρ):Option ρ :=
 match x,y with
 | .val (.int k a),.val (.int k' b) =>
  match op with
  | .shl=>if b<0 then none else c (.val (.int k (ishl k a b)))
  | .shr=>if b<0 then none else c (.val (.int k (ishr k a b)))
  |op=>if k=k' then ibin op k a b c else none
 | .val (.string a),.val (.string b)=>sbin op a b c
 | .val (.bool a),.val (.bool b)=>(cx.P.underlying t).bind fun d=>match d with
  | .bool=>match op with
   | .eql=>c (.val (.bool (a==b)))
   | .neq=>c (.val (.bool (!(a==b))))
   | _=>none
  | _=>none
 | _,_=>none
def unV (op:UnOp) (x:AV) (c:AV→Option ρ):Option ρ :=
 match op,x with
 | .neg,.val (.int k n)=>c (.val (.int k (k.wrap (0-n))))
 | .xor,.val (.int k n)=>c (.val (.int k (ixor k (if k.signed then -1 else k.max) n)))
 | .not,.val (.bool b)=>c (.val (.bool (!b)))
 | _,_=>none
def convV (cx:Cx) (src dst:TypeId) (x:AV) (c:AV→Option ρ):Option ρ :=
 (cx.P.underlying src).bind fun _=>(cx.P.underlying dst).bind fun d=>match d,x with
 | .int k,.val (.int _ n)=>c (.val (.int k (k.wrap n)))
 | .string,.val (.string s)=>c (.val (.string s))
 | _,_=>none
def takeN (n:Nat) (cs:List AV):Option (List AV) :=
 match Nat.ble n cs.length with
 |true=>some (cs.take n)
 |false=>none
def zcells (z:Value):List Value:=z.cells.toList
def Cx.elT (cx:Cx) (t:TypeId):TypeId:=cond (cx.rows t) (match cx.P.underlying t with
 |some (.array _ e)=>e
 | _=>t) t
def cellsAt (cx:Cx) (h:Heap) (p:AV) (c:List AV→Option ρ):Option ρ :=
 match p with
 | .rop cs=>c cs
 | .ptr r ver i j=>(h[r]?).bind fun o=>(chk o.ver ver).bind fun _=>(o.es[i]?).bind fun cs =>
  match o.k with
  | .arr=>(cx.shC (cx.elT o.t)).bind fun z=>normCells z cs fun cs'=>c (cs'.drop j)
  | _=>c (cs.drop j)
 | _=>none
def loadC (cx:Cx) (t:TypeId) (cs:List AV) (c:AV→Option ρ):Option ρ :=
 (cx.isAgg t).bind fun b=>match b with
 |true=>(cx.size t).bind fun n=>(takeN n cs).bind fun r=>c (.agg r)
 |false=>(uncons? cs).bind fun p=>c p.1
def addOff (p:AV) (d:Nat) (c:AV→Option ρ):Option ρ :=
 match p with
 | .rop cs=>c (.rop (cs.drop d))
 | .ptr r ver i j=>c (.ptr r ver i (j+d))
 | _=>none
def part? (cx:Cx) (t:TypeId) (cs:List AV) (off:Nat) (c:AV→Option ρ):Option ρ:=loadC cx t (cs.drop off) c
def rowOff (h:Heap) (x:AV) (n s:Nat) (c:AV→Option ρ):Option ρ :=
 match x with
 | .ptr r ver i j=>(h[r]?).bind fun o=>(chk o.sz s).bind fun _=>c (.ptr r ver (i+n) j)
 | _=>none
def indexAddrV (cx:Cx) (h:Heap) (t:TypeId) (x ix:AV) (c:AV→Option ρ):Option ρ :=
 match ix with
 | .val (.int _ n)=>(cx.P.underlying t).bind fun d=>match d with
  | .array len elem=>if 0≤n then(if n<(len:Int) then(cx.size elem).bind fun s=>cond (cx.rows t) (rowOff h x n.toNat s c) (addOff x (n.toNat*s) c) else none) else none
  | .slice elem=>match x with
   | .list _ sz es=>if 0≤n then(es[n.toNat]?).bind fun cs=>(cx.shC elem).bind fun z=>(chk sz z.length).bind fun _=>normCells z cs fun cs'=>c (.rop cs') else none
   | .arr r ver off len=>if 0≤n then(if n<(len:Int) then(h[r]?).bind fun o=>(cx.size elem).bind fun s=>(chk o.sz s).bind fun _=>c (.ptr r ver (off+n.toNat) 0) else none) else none
   | _=>none
  | _=>none
 | _=>none
def indexV (cx:Cx) (t:TypeId) (x ix:AV) (c:AV→Option ρ):Option ρ :=
 match ix with
 | .val (.int _ n)=>(cx.P.underlying t).bind fun d=>match d,x with
  | .array len elem, .agg cs => if 0 ≤ n then (if n < (len : Int) then (cx.shC elem).bind fun z => (cx.isAgg elem).bind fun b =>
    match b with
    |true=>(takeN z.length (cs.drop (n.toNat*z.length))).bind fun r=>normCells z r fun r'=>c (.agg r')
    |false=>(cs[n.toNat*z.length]?).bind fun v=>normCells z [v] fun r=>c (r.headD v)
    else none) else none
  | .string,.val (.string s)=>if 0≤n then(s[n.toNat]?).bind fun b=>c (.val (.int .u8 b.toNat)) else none
  | _,_=>none
 | _=>none
def spliceK:List AV→Nat→List AV→(List AV→Option ρ)→Option ρ
 |cs,0,[],c=>c cs
 | _x::cs,0,v::vs,c=>spliceK cs 0 vs fun r=>c (v::r)
 |x::cs,n+1,vs,c=>spliceK cs n vs fun r=>c (x::r)
 | [],_,_,_=>none
def fillA (place:Nat→Option (Nat×Nat)):List (Nat×AV)→List AV→(List AV→Option ρ)→Option ρ
 | [],cells,c=>c cells
 | (i,v)::rest,cells,c=>(place i).bind fun p=>match Nat.beq v.cells.length p.2 with
  |true=>spliceK cells p.1 v.cells fun cells'=>fillA place rest cells' c
  |false=>none
def parts? (cx:Cx) (env:Env):List (Nat×Operand)→Option (List (Nat×AV))
 | []=>some []
 | (i,x)::r=>(opnd cx env x).bind fun v=>(parts? cx env r).bind fun vs=>some ((i,v)::vs)
def fieldPlaces (cx:Cx):List Field→Option (List (Nat×Nat))
 | []=>some []
 |f::fs=>(cx.size f.type).bind fun n=>(fieldPlaces cx fs).bind fun r=>some ((f.offset,n)::r)
def zeroCells (cx:Cx) (t:TypeId):Option (List AV):=(cx.zero t).bind fun z=>some ((zcells z).map .val)
def buildV (cx:Cx) (t:TypeId) (parts:List (Nat×AV)) (c:AV→Option ρ):Option ρ :=
 (zeroCells cx t).bind fun z=>(cx.P.underlying t).bind fun d=>match d with
 | .struct fields=>(fieldPlaces cx fields.toList).bind fun ps=>fillA (fun i=>ps[i]?) parts z fun cs=>c (.agg cs)
 | .array _ elem=>(cx.size elem).bind fun s=>fillA (fun i=>some (i*s,s)) parts z fun cs=>c (.agg cs)
 | _=>none
def boundV (x:AV) (y:Nat) (c:Nat→Option ρ):Option ρ :=
 match x with
 | .val (.int _ n)=>if 0≤n then(if n≤(y:Int) then c n.toNat else none) else none
 | _=>none
def boundO (x:Option AV) (y d:Nat) (c:Nat→Option ρ):Option ρ :=
 match x with
 |some v=>boundV v y c
 |none=>c d
def sliceV (cx:Cx) (t:TypeId) (x:AV) (lo hi mx:Option AV) (c:AV→Option ρ):Option ρ :=
 (cx.P.underlying t).bind fun d=>match d,x,mx with
 | .string,.val (.string s),none=>boundO hi s.size s.size fun h=>boundO lo h 0 fun l=>c (.val (.string (s.extract l h)))
 | .slice e,.list _ sz es,none=>(cx.size e).bind fun s=>(chk sz s).bind fun _=>boundO hi es.length es.length fun h=>boundO lo h 0 fun l=>c (.list 0 sz ((es.take h).drop l))
 | .slice e,.arr r ver off len,none=>(cx.size e).bind fun s=>(chk ver s).bind fun _=>boundO hi len len fun h=>boundO lo h 0 fun l=>c (.arr r ver (off+l) (h-l))
 | .slice e, .list _ sz es, some m => (cx.size e).bind fun s => (chk sz s).bind fun _ => boundV m es.length fun m => boundV (hi.getD (.val undef)) m fun h => boundO lo h 0 fun l =>
   c (.list (cond (Nat.beq m h) 1 0) sz ((es.take h).drop l))
 | _,_,_=>none
def oopnd (cx:Cx) (env:Env):Option Operand→Option (Option AV)
 |none=>some none
 |some x=>(opnd cx env x).bind fun v=>some (some v)
def lenV (cx:Cx) (t:TypeId) (x:AV) (c:AV→Option ρ):Option ρ :=
 (cx.P.underlying t).bind fun d=>match d,x with
 | .string,.val (.string s)=>c (.val (.int .i64 s.size))
 | .array n _,_=>c (.val (.int .i64 n))
 | .slice _,.list _ _ es=>c (.val (.int .i64 es.length))
 | .slice _,.arr _ _ _ len=>c (.val (.int .i64 len))
 | .slice _,.val (.slice none 0 0)=>c (.val (.int .i64 0))
 | _,_=>none
def builtinV (cx:Cx) (b:Builtin) (ts:List TypeId) (args:List AV) (c:AV→Option ρ):Option ρ :=
 match b,args with
 | .len,[x]=>match ts with
  |t::_=>lenV cx t x c
  | []=>none
 | .max,[.val (.int k x),.val (.int _k' y)]=>c (.val (.int k (if y>x then y else x)))
 | .min,[.val (.int k x),.val (.int _k' y)]=>c (.val (.int k (if y<x then y else x)))
 | _,_=>none
def eqFs (cx:Cx) (eq:TypeId→AV→AV→Option Bool) (xs ys:List AV):List Field→Option Bool
 | []=>some true
 |f::fs=>cond (f.name== "_") none ((part? cx f.type xs f.offset some).bind fun a=>(part? cx f.type ys f.offset some).bind fun b=>(eq f.type a b).bind fun r=>(eqFs cx eq xs ys fs).bind fun r'=>some (r&&r'))
def eqV (cx:Cx):Nat→TypeId→AV→AV→Option Bool
 | 0,_,_,_=>none
 |n+1,t,x,y=>(cx.P.underlying t).bind fun d=>match d,x,y with
  | .bool,.val (.bool a),.val (.bool b)=>some (a==b)
  | .int _,.val (.int k a),.val (.int k' b)=>if k=k' then some (a==b) else none
  | .string,.val (.string a),.val (.string b)=>some (a.toList==b.toList)
  | .struct fs,.agg xs,.agg ys=>cond (cx.eqOk t) (eqFs cx (eqV cx n) xs ys fs.toList) none
  | _,_,_=>none
def nilEq (cx:Cx) (op:BinOp) (t:TypeId) (b:Bool) (c:AV→Option ρ):Option ρ:=(cx.P.underlying t).bind fun d=>match d with
 | .interface ms=>cond ms.isEmpty (match op with
  | .eql=>c (.val (.bool b))
  | .neq=>c (.val (.bool (!b)))
  | _=>none) none
 | _=>none
def assertV (cx:Cx) (t:TypeId) (ok:Bool) (x:AV) (c:AV→Option ρ):Option ρ:=(cx.P.underlying t).bind fun d=>match d with
 | .interface _=>none
 | _=>match x with
  | .iface t' v=>cond (Nat.beq t' t) (cond ok (c (.tuple [v,.val (.bool true)])) (c v)) (cond ok ((cx.zero t).bind fun z=>c (.tuple [.ofValue z,.val (.bool false)])) none)
  | .val .nilIface=>cond ok ((cx.zero t).bind fun z=>c (.tuple [.ofValue z,.val (.bool false)])) none
  | _=>none
def binW (cx:Cx) (op:BinOp) (t:TypeId) (x y:AV) (c:AV→Option ρ):Option ρ :=
 match x,y with
 | .agg xs,.agg ys=>cond (cx.eqOk t) ((eqV cx 8 t (.agg xs) (.agg ys)).bind fun b=>match op with
  | .eql=>c (.val (.bool b))
  | .neq=>c (.val (.bool (!b)))
  | _=>none) none
 | .iface _ _,.val .nilIface=>nilEq cx op t false c
 | .val .nilIface,.val .nilIface=>nilEq cx op t true c
 |x,y=>binV cx op t x y c
def yRows (h:Heap) (sz:Nat) (y:AV):Option (List (List AV)):=match y with
 | .list _ sz' es=>(chk sz' sz).bind fun _=>some es
 | .val (.slice none 0 0)=>some []
 | .arr r ver off len=>(h[r]?).bind fun o=>(chk o.ver ver).bind fun _=>(chk o.sz sz).bind fun _=>match o.k with
  | .arr=>(chkLe (off+len) o.es.length).bind fun _=>some ((o.es.take (off+len)).drop off)
  | _=>none
 | _=>none
def ysOk (ys:List (List AV)):Bool:=ys.all fun e=>e.all AV.one
def numsOf:List (List AV)→Option (List Int)
 | []=>some []
 |e::r=>(uncons? e).bind fun p=>(nil? p.2).bind fun _=>(p.1.int? .u8).bind fun n=>(numsOf r).bind fun ns=>some (n::ns)
def bytesV (cx:Cx) (h:Heap) (s d:TypeId) (x:AV) (c:AV→Option ρ):Option ρ :=
 (cx.P.underlying s).bind fun d1=>match d1 with
 | .slice e=>(cx.P.underlying e).bind fun d2=>match d2 with
  | .int .u8=>(cx.P.underlying d).bind fun d3=>match d3 with
   | .string=>(yRows h 1 x).bind fun ys=>(numsOf ys).bind fun ns=>c (.val (.string (strOfNums ns)))
   | _=>none
  | _=>none
 | _=>none
def convH (cx:Cx) (h:Heap) (s d:TypeId) (x:AV) (c:AV→Option ρ):Option ρ :=
 match x with
 | .list fl sz es=>bytesV cx h s d (.list fl sz es) c
 | .arr r ver off len=>bytesV cx h s d (.arr r ver off len) c
 |x=>convV cx s d x c
def evalA (cx:Cx) (op:Op) (env:Env) (h:Heap) (c:AV→Option ρ):Option ρ :=
 match op with
 | .move x | .assign x=>(opnd cx env x).bind c
 | .pick b x y=>(opnd cx env b).bind fun v=>match v with
  | .val (.bool t)=>cond t ((opnd cx env x).bind c) ((opnd cx env y).bind c)
  | _=>none
 | .load t x=>(opnd cx env x).bind fun p=>cellsAt cx h p fun cs=>loadC cx t cs c
 | .nilCheck x=>(opnd cx env x).bind fun v=>match v with
  | .rop _ | .ptr .. | .func (.func _) _ _=>c v
  | _=>none
 | .binOp op t x y _=>(opnd cx env x).bind fun a=>(opnd cx env y).bind fun b=>binW cx op t a b fun v=>splitB v c
 | .unOp op _ x=>(opnd cx env x).bind fun a=>unV op a fun v=>splitB v c
 | .convert s d x=>(opnd cx env x).bind fun a=>convH cx h s d a c
 | .makeInterface t x=>(opnd cx env x).bind fun a=>(cx.P.underlying t).bind fun d=>match d with
  | .interface _=>none
  | _=>c (.iface t a)
 | .makeFunc fn first cap=>(opnds cx env first.toList).bind fun fs=>(opnds cx env cap.toList).bind fun cs=>c (.func fn fs cs)
 | .build t ps=>(parts? cx env ps.toList).bind fun l=>buildV cx t l c
 | .slice t x lo hi mx=>(opnd cx env x).bind fun a=>(oopnd cx env lo).bind fun l=>(oopnd cx env hi).bind fun hh=>(oopnd cx env mx).bind fun m=>sliceV cx t a l hh m c
 | .fieldAddr s x f=>(opnd cx env x).bind fun a=>(cx.P.underlying s).bind fun d=>match d with
  | .struct fs=>(fs[f]?).bind fun fl=>(cx.size fl.type).bind fun n=>match Nat.beq n 0 with
   |true=>none
   |false=>addOff a fl.offset c
  | _=>none
 | .field t x f=>(opnd cx env x).bind fun a=>(cx.P.underlying t).bind fun d=>match d,a with
  | .struct fs,.agg cs=>(fs[f]?).bind fun fl=>part? cx fl.type cs fl.offset c
  | _,_=>none
 | .indexAddr t x ix=>(opnd cx env x).bind fun a=>(opnd cx env ix).bind fun i=>indexAddrV cx h t a i c
 | .index t x ix=>(opnd cx env x).bind fun a=>(opnd cx env ix).bind fun i=>indexV cx t a i c
 | .extract x i=>(opnd cx env x).bind fun a=>match a with
  | .tuple vs=>(vs[i]?).bind c
  | _=>none
 | .typeAssert x _ t ok=>(opnd cx env x).bind fun a=>assertV cx t ok a c
 | .call { callee := .builtin b,args,argTypes }=>(opnds cx env args.toList).bind fun vs=>builtinV cx b argTypes.toList vs c
 | _=>none
def view (h:Heap):Nat→AV→Option AV
 | 0,_=>none
 |n+1,v=>match v with
  | .val x=>some (.val x)
  | .list _ sz es=>some (.list 0 sz es)
  | .rop cs=>some (.rop cs)
  | .ptr r ver i j=>(h[r]?).bind fun o=>(chk o.ver ver).bind fun _=>(o.es[i]?).bind fun cs=>match o.k with
   | .box=>(cs.mapM (view h n)).bind fun cs'=>some (.rop (cs'.drop j))
   | _=>some (.rop (cs.drop j))
  | .arr r ver off len=>(h[r]?).bind fun o=>(chk o.ver ver).bind fun _=>match o.k with
   | .arr=>(chkLe (off+len) o.es.length).bind fun _=>some (.list 0 o.sz ((o.es.take (off+len)).drop off))
   | .ro=>(chkLe (off+len) o.es.length).bind fun _=>some (.list 0 o.sz ((o.es.take (off+len)).drop off))
   | _=>none
  | .agg cs=>(cs.mapM (view h n)).bind fun cs'=>some (.agg cs')
  | .tuple vs=>(vs.mapM (view h n)).bind fun vs'=>some (.tuple vs')
  | .iface t x=>(view h n x).bind fun x'=>some (.iface t x')
  | .func fn fs cs=>(fs.mapM (view h n)).bind fun fs'=>(cs.mapM (view h n)).bind fun cs'=>some (.func fn fs' cs')
def viewArg (h:Heap) (v:AV):Option AV:=(view h 5 v).bind fun v'=>some v'.wk
def viewArgs (h:Heap):List AV→Option (List AV)
 | []=>some []
 |v::vs=>(viewArg h v).bind fun x=>(viewArgs h vs).bind fun xs=>some (x::xs)
def refless:Nat→AV→Bool
 | 0,_=>false
 |n+1,v=>match v with
  | .val _ | .list _ _ _ | .rop _=>true
  | .ptr .. | .arr .. =>false
  | .agg cs=>cs.all (refless n)
  | .tuple cs=>cs.all (refless n)
  | .iface _ x=>refless n x
  | .func _ fs cs=>fs.all (refless n)&&cs.all (refless n)
def callV (cx:Cx) (F:EF) (q:Bool) (t:TypeId) (fv:AV) (args:List AV) (h:Heap) (c:AV→Option ρ):Option ρ :=
 (viewArg h fv).bind fun g=>(viewArgs h args).bind fun as=>(g.call? as).bind fun p=>(F (.fn p.1) p.2 []).bind fun r=>(ret1 r).bind fun v =>
  normR (cx.svs t) (cx.sv t) v fun v=>cond (v.ground||(!q&&(refless 5 fv&&args.all (refless 5)))) (c v) none
def putK (N:Nat) (d:Option Tmp) (v:AV) (env:Env) (c:Env→Option ρ):Option ρ :=
 match d with
 |none=>c env
 |some t=>match Nat.blt t N with
  |true=>c ((t,v)::env)
  |false=>none
def setOb (h:Heap) (r:Nat) (o:Ob):Heap:=h.set r o
def storeV (cx:Cx) (t:TypeId) (p x:AV) (h:Heap) (c:Heap→Option ρ):Option ρ :=
 match p with
 | .ptr r ver i j=>(h[r]?).bind fun o=>(chk o.ver ver).bind fun _=>(o.es[i]?).bind fun cs=>(cx.size t).bind fun n =>
  match Nat.beq x.cells.length n&&x.cells.all AV.one with
  |true=>match o.k with
   | .box=>match Nat.ble (j+n) o.sz with
    |true=>spliceK cs j x.cells fun cs'=>c (h.set r { o with es:=o.es.set i cs' })
    |false=>none
   | .arr=>match x.flat,Nat.ble (j+n) o.sz with
    |true,true=>(cx.shC (cx.elT o.t)).bind fun z=>normCells z cs fun cs'=>spliceK cs' j x.cells fun cs'=>c (h.set r { o with es:=o.es.set i cs' })
    | _,_=>none
   | .ro=>none
   | .dead=>none
  |false=>none
 | _=>none
def killH (h:Heap) (kill:Option Nat):Heap:=match kill with
 |none=>h
 |some r=>match h[r]? with
  |some o=>h.set r { o with k := .dead,es:=[] }
  |none=>h
def sliceInfo (cx:Cx) (t:TypeId):Option (TypeId×Nat×List AV×Nat):=(cx.P.underlying t).bind fun d=>match d with
 | .slice e=>(cx.P.info? e).bind fun i=>(cx.zero e).bind fun z=>match Nat.beq (zcells z).length i.size&&(Nat.blt 0 i.size&&Nat.blt 0 i.bytes) with
  |true=>some (e,i.size,(zcells z).map .val,i.bytes)
  |false=>none
 | _=>none
def makeV (cx:Cx) (t:TypeId) (lv cv:AV) (h:Heap) (c:AV→Heap→Option ρ):Option ρ :=
 (sliceInfo cx t).bind fun q=>match lv,cv with
 | .val (.int _ l), .val (.int _ n) => if 0 ≤ l then (if l ≤ n then (if (q.2.2.2 : Int) * n ≤ 281474976710656 then
   c (.arr h.length q.2.1 0 l.toNat) (h++[⟨.arr,q.1,q.2.1,q.2.1,List.replicate l.toNat q.2.2.1⟩]) else none) else none) else none
 | _,_=>none
def appFin (q:TypeId×Nat×List AV×Nat) (h:Heap) (kill:Option Nat) (es ys:List (List AV)) (c:AV→Heap→Option ρ):Option ρ :=
 if(es.length+ys.length)*q.2.2.2≤140737488355328 then c (.arr h.length q.2.1 0 (es.length+ys.length)) (killH h kill++[⟨.arr,q.1,q.2.1,q.2.1,es++ys⟩]) else none
def strRows (s:ByteArray):List (List AV):=s.data.toList.map fun b=>[vb (b.toNat:Int)]
def srcRows (cx:Cx) (h:Heap) (t1 t2:TypeId) (sz:Nat) (y:AV):Option (List (List AV)):=match y with
 | .val (.string s)=>(cx.P.underlying t2).bind fun d=>match d with
  | .string=>(chk sz 1).bind fun _=>some (strRows s)
  | _=>none
 |y=>(chk t1 t2).bind fun _=>yRows h sz y
def appendV (cx:Cx) (t1 t2:TypeId) (x y:AV) (h:Heap) (c:AV→Heap→Option ρ):Option ρ :=
 (sliceInfo cx t1).bind fun q=>(srcRows cx h t1 t2 q.2.1 y).bind fun ys=>cond (ysOk ys) (match x with
  | .val (.slice none 0 0)=>appFin q h none [] ys c
  | .arr r ver off n=>(chk off 0).bind fun _=>(h[r]?).bind fun o=>(chk o.ver ver).bind fun _=>(chk o.sz q.2.1).bind fun _=>(chk o.t q.1).bind fun _=>match o.k with
   | .arr=>(chk n o.es.length).bind fun _=>appFin q h (some r) o.es ys c
   | _=>none
  | _=>none) none
def copyV (cx:Cx) (t1:TypeId) (x y:AV) (h:Heap) (c:AV→Heap→Option ρ):Option ρ :=
 (sliceInfo cx t1).bind fun q=>(yRows h q.2.1 y).bind fun ys=>cond (ysOk ys) (match x with
  | .arr r ver off len=>(h[r]?).bind fun o=>(chk o.ver ver).bind fun _=>(chk o.sz q.2.1).bind fun _=>match o.k with
   | .arr=>(chkLe (off+len) o.es.length).bind fun _ =>
    c (.val (.int .i64 (Nat.min ys.length len))) (h.set r { o with es:=o.es.take off++ys.take (Nat.min ys.length len)++o.es.drop (off+Nat.min ys.length len) })
   | _=>none
  | _=>none) none
def clearV (cx:Cx) (t1:TypeId) (x:AV) (h:Heap) (c:AV→Heap→Option ρ):Option ρ :=
 (sliceInfo cx t1).bind fun q=>match x with
  | .arr r ver off len=>(h[r]?).bind fun o=>(chk o.ver ver).bind fun _=>(chk o.sz q.2.1).bind fun _=>match o.k with
   | .arr=>(chkLe (off+len) o.es.length).bind fun _=>cond (q.2.2.1.all AV.one)
    (c (.val (.tuple #[])) (h.set r { o with es:=o.es.take off++List.replicate len q.2.2.1++o.es.drop (off+len) })) none
   | _=>none
  | _=>none
def bins (cx:Cx) (b:Builtin) (ts:List TypeId) (vs:List AV) (h:Heap) (c:AV→Heap→Option ρ):Option ρ:=match ts,vs with
 | [t1],[x]=>match b with
  | .clear=>clearV cx t1 x h c
  | _=>none
 | [t1,t2],[x,y]=>match b with
  | .append=>appendV cx t1 t2 x y h c
  | .copy=>copyV cx t1 x y h c
  | _=>none
 | _,_=>none
def rowsP (s:Nat):Nat→List (Nat×AV)→(List (List AV)→Option ρ)→Option ρ
 | _,[],k=>k []
 |i,(j,v)::r,k=>match Nat.beq i j&&(Nat.beq v.cells.length s&&v.cells.all AV.flat1) with
  |true=>rowsP s (i+1) r fun rows=>k (v.cells::rows)
  |false=>none
def rowsR (s:Nat):Nat→List (Nat×AV)→Option (List (List AV))
 | _,[]=>some []
 |i,(j,v)::r=>match Nat.beq i j&&Nat.beq v.cells.length s with
  |true=>(rowsR s (i+1) r).bind fun rows=>some (v.cells::rows)
  |false=>none
def refs:Nat→AV→List Nat
 | 0,_=>[]
 |n+1,v=>match v with
  | .ptr r _ _ _=>[r]
  | .arr r _ _ _=>[r]
  | .agg cs=>cs.flatMap (refs n)
  | .tuple cs=>cs.flatMap (refs n)
  | .iface _ x=>refs n x
  | .func _ fs cs=>fs.flatMap (refs n)++cs.flatMap (refs n)
  | _=>[]
def pos:List Nat→Nat→Option Nat
 | [],_=>none
 |k::ks,r=>match Nat.beq k r with
  |true=>some 0
  |false=>(pos ks r).bind fun i=>some (i+1)
def ren (ks:List Nat):Nat→AV→Option AV
 | 0,_=>none
 |n+1,v=>match v with
  | .val x=>some (.val x)
  | .list fl sz es=>some (.list fl sz es)
  | .rop cs=>some (.rop cs)
  | .ptr r ver i j=>(pos ks r).bind fun r'=>some (.ptr r' ver i j)
  | .arr r ver off len=>(pos ks r).bind fun r'=>some (.arr r' ver off len)
  | .agg cs=>(cs.mapM (ren ks n)).bind fun cs'=>some (.agg cs')
  | .tuple vs=>(vs.mapM (ren ks n)).bind fun vs'=>some (.tuple vs')
  | .iface t x=>(ren ks n x).bind fun x'=>some (.iface t x')
  | .func fn fs cs=>(fs.mapM (ren ks n)).bind fun fs'=>(cs.mapM (ren ks n)).bind fun cs'=>some (.func fn fs' cs')
def Ob.ren (ks:List Nat) (o:Ob):Option Ob:=match o.k with
 | .box=>(o.es.mapM fun(e:List AV)=>e.mapM (Av.ren ks 5)).bind fun es=>some { o with es:=es }
 | _=>some o
def fixedN (ks:List Nat) (r:Nat):Bool:=match ks[r]? with
 |some k=>Nat.beq k r
 |none=>false
def nodupL:List Nat→Bool
 | []=>true
 |x::xs=> !(xs.any (Nat.beq x))&&nodupL xs
def stays (ks:List Nat):Nat→Bool
 | 0=>true
 |m+1=>fixedN ks m&&stays ks m
def gc (m:Nat) (ks:List Nat) (vs is:List AV) (h:Heap):Option (List AV×List AV×Heap) :=
 cond (nodupL ks&&stays ks m) ((vs.mapM (ren ks 5)).bind fun vs'=>(is.mapM (ren ks 5)).bind fun is' =>
  cond (is.all fun v=>(refs 5 v).all (fixedN ks)) ((ks.mapM fun k=>(h[k]?).bind (Ob.ren ks)).bind fun h'=>some (vs',is',h')) none) none
def addN:List Nat→List Nat→List Nat
 |ks,[]=>ks
 |ks,x::xs=>cond (ks.any (Nat.beq x)) (addN ks xs) (addN (ks++[x]) xs)
def Ob.refs (o:Ob):List Nat:=match o.k with
 | .box=>o.es.flatMap fun e=>e.flatMap (Av.refs 5)
 | _=>[]
def reach (h:Heap):Nat→List Nat→List Nat
 | 0,ks=>ks
 |n+1,ks=>reach h n (addN ks (ks.flatMap fun k=>match h[k]? with
  |some o=>o.refs
  |none=>[]))
def backKs (n l:Nat) (ks:List Nat):List Nat:=(List.range n).map (fun r=>match pos ks r with
 |some i=>i
 |none=>l+r)++(List.range (l-ks.length)).map fun j=>ks.length+j
def mergeH (ks:List Nat) (h h2:Heap):Option Heap:=((List.range ks.length).zip ks).mapM fun p=>match h2[p.2]? with
 |some o=>o.ren ks
 |none=>h[p.1]?
def AV.pIs (r ver i j:Nat):AV→Option Unit
 | .ptr r' ver' i' j'=>cond (Nat.beq r' r&&(Nat.beq ver' ver&&(Nat.beq i' i&&Nat.beq j' j))) (some ()) none
 | _=>none
def normO (z v:AV) (k:AV→Option ρ):Option ρ:=match z with
 | .tuple zs=>v.tup?.bind fun vs=>normAs zs vs fun vs'=>k (.tuple vs')
 | .ptr r ver i j=>(v.pIs r ver i j).bind fun _=>k (.ptr r ver i j)
 |z=>normA z v k
def livesK (h:Heap):Bool:=h.all fun o=>match o.k with
 | .box | .arr=>true
 | _=>false
def ownV (_cx:Cx) (F:EF) (o:Own) (fv:AV) (args:List AV) (h:Heap) (c:AV→Heap→Option ρ):Option ρ :=
 (fv.call? args).bind fun p=>(gc 0 (reach h 3 (addN [] (p.2.flatMap (refs 5)))) p.2 [] h).bind fun g=>cond (livesK g.2.2)
  ((F (.own p.1) (g.1.map AV.wk) (g.2.2.map Ob.wk)).bind fun r=>(asRet r).bind fun x=>normO o.z x.1 fun v=>normHeap (cond o.same (g.2.2.map Ob.wk) o.hz) x.2 fun h2=>(chkLe (reach h 3 (addN [] (p.2.flatMap (refs 5)))).length h2.length).bind fun _ =>
   (ren (backKs h.length h2.length (reach h 3 (addN [] (p.2.flatMap (refs 5))))) 5 v).bind fun v'=>(mergeH (backKs h.length h2.length (reach h 3 (addN [] (p.2.flatMap (refs 5))))) h h2).bind fun h'=>c v' h') none
def ownP (cx:Cx) (F:EF) (o:Own) (T:TypeId) (fv:AV) (args:List AV) (h:Heap) (c:JX→AV→Heap→Option ρ):Option ρ :=
 (viewArg h fv).bind fun g=>(viewArgs h args).bind fun as=>(g.call? as).bind fun p=>(F (.own p.1) (p.2.map AV.wk) []).bind fun r=>cond (isPan r)
  ((panV T r).bind fun x=>normZ (cx.sv T) x fun x=>cond x.ground (c (.pan (.iface T x)) (.val undef) h) none)
  (ownV cx F o fv args h fun v h=>c .normal v h)
def cloneV (cx:Cx) (t:TypeId) (args:List AV) (h:Heap) (c:AV→Heap→Option ρ):Option ρ:=match args with
 | [y]=>(sliceInfo cx t).bind fun q=>(yRows h q.2.1 y).bind fun ys=>cond (ysOk ys) (appFin q h none [] ys c) none
 | _=>none
def freshV (cx:Cx) (t:TypeId) (Y:List AV→Option (List (List AV))) (args:List AV) (h:Heap) (c:AV→Heap→Option ρ):Option ρ :=
 (sliceInfo cx t).bind fun q=>(Y args).bind fun ys=>cond (ysOk ys) (appFin q h none [] ys c) none
def turnV (cx:Cx) (t:TypeId) (Z:List AV→List (List AV)→Option (List (List AV))) (args:List AV) (h:Heap) (c:AV→Heap→Option ρ):Option ρ:=match args with
 |x::rest=>(sliceInfo cx t).bind fun q=>match x with
  | .val (.slice none 0 0)=>(Z rest []).bind fun _=>c (.val (.tuple #[])) h
  | .arr r ver off len=>(h[r]?).bind fun o=>(chk o.ver ver).bind fun _=>(chk o.sz q.2.1).bind fun _=>match o.k with
   | .arr=>(chkLe (off+len) o.es.length).bind fun _=>if len≤4611686018427387903 then(Z rest ((o.es.take (off+len)).drop off)).bind fun zs =>
    c (.val (.tuple #[])) (h.set r { o with es:=o.es.take off++zs++o.es.drop (off+len) }) else none
   | _=>none
  | _=>none
 | []=>none
def extV (cx:Cx) (e:ExtF) (fv:AV) (args:List AV) (h:Heap) (c:AV→Heap→Option ρ):Option ρ :=
 (fv.call? args).bind fun p=>match e with
 | .clone t=>cloneV cx t p.2 h c
 | .turn t Z=>turnV cx t Z p.2 h c
 | .fresh t Y=>freshV cx t Y p.2 h c
def fnOf:AV→Option FuncId
 | .func (.func f) _ _=>some f
 | _=>none
def frzOf (cx:Cx) (fv:AV):Bool:=match fnOf fv with
 |some f=>cx.frz f
 |none=>false
def panOk:AV→Bool
 | .iface _ x=>x.ground
 | _=>false
def callP (cx:Cx) (F:EF) (T t:TypeId) (fv:AV) (args:List AV) (h:Heap) (c:JX→AV→Heap→Option ρ):Option ρ :=
 (viewArg h fv).bind fun g=>(viewArgs h args).bind fun as=>(g.call? as).bind fun p=>(F (.fn p.1) p.2 []).bind fun r=>cond (isPan r)
  ((panV T r).bind fun x=>normZ (cx.sv T) x fun x=>cond x.ground (c (.pan (.iface T x)) (.val undef) h) none)
  ((ret1 r).bind fun v=>normR (cx.svs t) (cx.sv t) v fun v=>cond (v.ground||(refless 5 fv&&args.all (refless 5))) (c .normal v h) none)
def rowsZ:Nat→Nat→List Value→List (List AV)
 | 0,_,_=>[]
 |n+1,s,cs=>(cs.take s).map .val::rowsZ n s (cs.drop s)
def rowInfo (cx:Cx) (t:TypeId):Option (Nat×Nat×List Value):=(cx.P.underlying t).bind fun d=>match d with
 | .array len e=>(cx.zero t).bind fun z=>(cx.size e).bind fun s=>match Nat.beq (zcells z).length (len*s) with
  |true=>some (len,s,zcells z)
  |false=>none
 | _=>none
def thawC (h:Heap) (v:AV):Option (Heap×AV):=match v with
 | .arr r ver off len=>(h[r]?).bind fun o=>(chk o.ver ver).bind fun _=>cond (Nat.beq o.es.length 0) none (match o.k with
  | .arr=>(chkLe (off+len) o.es.length).bind fun _=>some (h.set r { o with k := .ro },.list 0 o.sz ((o.es.take (off+len)).drop off))
  | .ro=>(chkLe (off+len) o.es.length).bind fun _=>some (h,.list 0 o.sz ((o.es.take (off+len)).drop off))
  | _=>none)
 |v=>some (h,v)
def thawCs (h:Heap):List AV→Option (Heap×List AV)
 | []=>some (h,[])
 |c::cs=>(thawC h c).bind fun p=>(thawCs p.1 cs).bind fun q=>some (q.1,p.2::q.2)
def thawV (h:Heap) (v:AV):Option (Heap×AV):=match v with
 | .agg cs=>(thawCs h cs).bind fun p=>some (p.1,.agg p.2)
 |v=>thawC h v
def thawPs (h:Heap):List (Nat×AV)→Option (Heap×List (Nat×AV))
 | []=>some (h,[])
 |c::cs=>(thawV h c.2).bind fun p=>(thawPs p.1 cs).bind fun q=>some (q.1,(c.1,p.2)::q.2)
def vrefs (h:Heap):Nat→AV→List Nat
 | 0,_=>[]
 |n+1,v=>match v with
  | .ptr r _ _i _=>r::(match h[r]? with
   |some o=>match o.k with
    | .box=>(o.es.flatMap fun cs=>cs.flatMap (vrefs h n))
    | _=>[]
   |none=>[])
  | .arr r _ _ _=>[r]
  | .agg cs=>cs.flatMap (vrefs h n)
  | .tuple cs=>cs.flatMap (vrefs h n)
  | .iface _ x=>vrefs h n x
  | .func _ fs cs=>fs.flatMap (vrefs h n)++cs.flatMap (vrefs h n)
  | _=>[]
def killA (h:Heap):List Nat→Heap
 | []=>h
 |r::rs=>match h[r]? with
  |some o=>match o.k with
   | .dead=>killA h rs
   | _=>killA (killH h (some r)) rs
  |none=>killA h rs
def callW (cx:Cx) (F:EF) (t:TypeId) (fv:AV) (args:List AV) (h:Heap) (c:AV→Heap→Option ρ):Option ρ :=
 (viewArg h fv).bind fun g=>(viewArgs h args).bind fun as=>(g.call? as).bind fun p=>(F (.fn p.1) p.2 []).bind fun r=>(ret1 r).bind fun v =>
  normR (cx.svs t) (cx.sv t) v fun v=>cond (v.ground||(refless 5 fv&&args.all (refless 5))) (c v h) (c v (killA h ((fv::args).flatMap (vrefs h 5))))
def callX (cx:Cx) (F:EF) (q q2:Bool) (t:TypeId) (fv:AV) (args:List AV) (h:Heap) (c:JX→AV→Heap→Option ρ):Option ρ :=
 match (fnOf fv).bind cx.ext with
 |some e=>cond q none (extV cx e fv args h fun v h=>c .normal v h)
 |none=>match (fnOf fv).bind cx.own with
  |some o=>cond q none (match (fnOf fv).bind cx.pans with
   |some T=>cond q2 none (ownP cx F o T fv args h c)
   |none=>ownV cx F o fv args h fun v h=>c .normal v h)
  |none=>match (fnOf fv).bind cx.pans with
   |some T=>cond q2 none (callP cx F T t fv args h c)
   |none=>cond (q2&&(q|| !frzOf cx fv)) (callV cx F false t fv args h fun v=>c .normal v h) (callW cx F t fv args h fun v h=>c .normal v h)
def buildT (cx:Cx) (N:Nat) (dst:Option Tmp) (t:TypeId) (len:Nat) (parts:List (Nat×Operand)) (env:Env) (h:Heap) (c:JX→Env→Heap→Option ρ):Option ρ :=
 cond (cx.ptrs t) ((cx.P.underlying t).bind fun d=>match d with
  | .slice e=>(cx.zero e).bind fun _z=>(cx.size e).bind fun s=>(parts? cx env parts).bind fun ps =>
   match Nat.blt 0 s&&(Nat.blt 0 len&&(Nat.ble (len*s) 16777216&&Nat.beq ps.length len)) with
   |true=>(rowsR s 0 ps).bind fun rows=>putK N dst (.arr h.length s 0 len) env fun env=>c .normal env (h++[⟨.box,e,s,s,rows⟩])
   |false=>none
  | _=>none) <|
 (cx.P.underlying t).bind fun d=>match d with
  | .slice e=>(cx.zero e).bind fun z=>(cx.size e).bind fun s=>(parts? cx env parts).bind fun ps=>(thawPs h ps).bind fun hp =>
   match Nat.beq (zcells z).length s&&(Nat.blt 0 s&&(Nat.blt 0 len&&(Nat.ble (len*s) 16777216&&Nat.beq hp.2.length len))) with
   |true=>rowsP s 0 hp.2 fun rows=>putK N dst (.list 1 s rows) env fun env=>c .normal env hp.1
   |false=>none
  | _=>none
def stepOp (cx:Cx) (F:EF) (N:Nat) (q:Bool) (o:Oper) (env:Env) (h:Heap) (c:JX→Env→Heap→Option ρ):Option ρ :=
 match o.op with
 | .alloc t=>cond (cx.rows t) (cond q none ((rowInfo cx t).bind fun r=>putK N o.dst (.ptr h.length r.2.1 0 0) env fun env=>c .normal env (h++[⟨.arr,t,r.2.1,r.2.1,rowsZ r.1 r.2.1 r.2.2⟩])))
  ((cx.zero t).bind fun z=>(cx.size t).bind fun n=>match Nat.beq (zcells z).length n with
  |true=>putK N o.dst (.ptr h.length 0 0 0) env fun env=>c .normal env (h++[⟨.box,t,n,0,[(zcells z).map .val]⟩])
  |false=>none)
 | .box t x=>(opnd cx env x).bind fun v=>putK N o.dst (.ptr h.length 0 0 0) env fun env=>c .normal env (h++[⟨.box,t,v.cells.length,0,[v.cells]⟩])
 | .store t a x=>(opnd cx env a).bind fun p=>(opnd cx env x).bind fun v=>storeV cx t p v h fun h=>putK N o.dst (.val undef) env fun env=>c .normal env h
 | .buildSlice t len parts=>cond (cx.thaw o.dst t) (cond q none (buildT cx N o.dst t len parts.toList env h c)) <| (cx.P.underlying t).bind fun d=>match d with
  | .slice e=>(cx.zero e).bind fun z=>(cx.size e).bind fun s=>(parts? cx env parts.toList).bind fun ps =>
   match Nat.beq (zcells z).length s&&(Nat.blt 0 s&&(Nat.blt 0 len&&(Nat.ble (len*s) 16777216&&Nat.beq ps.length len))) with
   | true => rowsP s 0 ps fun rows => cond (cx.made o.dst t) (cond q none (putK N o.dst (.arr h.length s 0 len) env fun env => c .normal env (h ++ [⟨.arr, e, s, s, rows⟩])))
     (putK N o.dst (.list 1 s rows) env fun env=>c .normal env h)
   |false=>none
  | _=>none
 | .makeSlice t l n=>(opnd cx env l).bind fun lv=>(opnd cx env n).bind fun nv=>makeV cx t lv nv h fun v h=>putK N o.dst v env fun env=>c .normal env h
 | .call { callee := .builtin .append,args,argTypes }=>(opnds cx env args.toList).bind fun vs=>bins cx .append argTypes.toList vs h fun v h=>putK N o.dst v env fun env=>c .normal env h
 | .call { callee := .builtin .copy,args,argTypes }=>(opnds cx env args.toList).bind fun vs=>bins cx .copy argTypes.toList vs h fun v h=>putK N o.dst v env fun env=>c .normal env h
 | .call { callee := .builtin .clear,args,argTypes }=>(opnds cx env args.toList).bind fun vs=>bins cx .clear argTypes.toList vs h fun v h=>putK N o.dst v env fun env=>c .normal env h
 | .call { callee := .value f,args,argTypes:=_ }=>(opnd cx env f).bind fun fv=>(opnds cx env args.toList).bind fun vs=>callX cx F (q&& !turnFn f args) q o.type fv vs h fun e v h=>match e with
  | .normal=>putK N o.dst v env fun env=>c .normal env h
  |e=>c e env h
 | .panic x=>(opnd cx env x).bind fun v=>match v with
  | .iface t y=>cond (q|| !y.ground) none (c (.pan (.iface t y)) env h)
  | _=>none
 |op=>evalA cx op env h fun v=>putK N o.dst v env fun env=>c .normal env h
def gslot (ops:Array Oper) (j:Nat):Option Tmp:=(ops[j]?).bind (·.dst)
def runOps (cx:Cx) (F:EF) (N:Nat) (q:Bool) (ops:Array Oper):List Oper→Env→Heap→(JX→Env→Heap→Option ρ)→Option ρ
 | [],env,h,c=>c .normal env h
 |o::rest,env,h,c =>
  match o.guard with
  |none=>stepOp cx F N q o env h fun e env h=>match e with
   | .normal=>runOps cx F N q ops rest env h c
   |e=>c e env h
  |some (j,want)=>(gslot ops j).bind fun d=>(look env d).bind fun v =>
   match v with
   | .val (.bool b)=>cond (b==want) (stepOp cx F N q o env h fun e env h=>match e with
   | .normal=>runOps cx F N q ops rest env h c
   | e => c e env h)
     (putK N o.dst (.val undef) env fun env=>runOps cx F N q ops rest env h c)
   | .val (.tuple _)=>putK N o.dst (.val undef) env fun env=>runOps cx F N q ops rest env h c
   | _=>none
def restrE (env:Env):List Nat→Env
 | []=>[]
 |t::ts=>match look env t with
  |some v=>(t,v)::restrE env ts
  |none=>restrE env ts
def putBack (d:Option Nat) (e1 env:Env) (c:Env→Option ρ):Option ρ :=
 match d with
 |none=>c env
 |some d=>(look e1 d).bind fun v=>c ((d,v)::env)
def tgtOp (o:Oper):Option Operand:=match o.op with
 | .store _ a _=>some a
 | .call { callee := .builtin b,args,.. }=>match b with
  | .append | .copy | .clear=>args[0]?
  | _=>none
 | _=>none
def newRef (n:Nat):AV→Bool
 | .val (.slice none 0 0)=>true
 | .arr r _ _ _=>Nat.ble n r
 | .ptr r _ _ _=>Nat.ble n r
 | _=>false
def tgtOk (cx:Cx) (env:Env) (n:Nat) (o:Oper):Bool:=match tgtOp o with
 |some x=>match opnd cx env x with
  |some v=>newRef n v
  |none=>false
 |none=>false
def lateT (ops:Array Oper) (o:Oper):Option Nat:=match o.op with
 | .store _ (.tmp s) _=>cond (ops.toList.any fun x=>dIs s x.dst) none (some s)
 | _=>none
def descs:List QR→Nat→List Nat→List Nat
 | [],_,m=>m
 |r::rs,k,m=>cond (r.deps.any fun d=>m.any (Nat.beq d)) (descs rs (k+1) (k::m)) (descs rs (k+1) m)
def idxOf (d:Nat):List QR→Nat→Option Nat
 | [],_=>none
 |r::rs,k=>cond (dIs d r.dst) (some k) (idxOf d rs (k+1))
def lates (ops:Array Oper):List Oper→Nat→List (Nat×Nat)
 | [],_=>[]
 |o::r,k=>match lateT ops o with
  |some s=>(k,s)::lates ops r (k+1)
  |none=>lates ops r (k+1)
def hidS (cx:Cx) (ops:Array Oper) (o:Oper):List Nat:=match lates ops ops.toList 0 with
 | []=>[]
 |p::ps=>match o.dst with
  |none=>(p::ps).map (·.2)
  |some d=>match idxOf d (ops.toList.map (qr cx.turns true ops)) 0 with
   |none=>(p::ps).map (·.2)
   |some i=>((p::ps).filter fun x=> !((descs ((ops.toList.map (qr cx.turns true ops)).drop (i+1)) (i+1) [i]).any (Nat.beq x.1))).map (·.2)
def hidR (env:Env):List Nat→Option (List Nat)
 | []=>some []
 |s::ss=>(look env s).bind fun v=>match v with
  | .ptr r _ _ _=>(hidR env ss).bind fun rs=>some (r::rs)
  | _=>none
def hideH (h:Heap):List Nat→Heap
 | []=>h
 |r::rs=>hideH (killH h (some r)) rs
def lateOk (ops:Array Oper) (env:Env) (o:Oper):Bool:=match lateT ops o with
 |some s=>match look env s with
  |some (.ptr ..)=>true
  | _=>false
 |none=>false
def rootS (ops:Array Oper) (s:Nat):Nat:=match ops.toList.find? fun x=>dIs s x.dst with
 |some { op := .move (.tmp s'),.. }=>s'
 | _=>s
def rootF (ops:Array Oper):Nat→Nat→Nat
 | 0,s=>s
 |n+1,s=>match ops.toList.find? fun x=>dIs s x.dst with
  |some { op := .fieldAddr _ (.tmp s') _,.. }=>rootF ops n s'
  |some { op := .move (.tmp s'),.. }=>rootF ops n s'
  | _=>s
def heldBy (cx:Cx) (ops:Array Oper) (env:Env) (h:Heap):List Oper→List Nat
 | []=>[]
 |o::r=>match o.op with
  | .call { callee := .value (.tmp s),args,.. }=>cond args.isEmpty (match look env (rootS ops s) with
   |some v=>match v.call? [] with
    |some p=>reach h 3 (addN [] (p.2.flatMap (refs 5)))++heldBy cx ops env h r
    |none=>heldBy cx ops env h r
   |none=>heldBy cx ops env h r) (heldBy cx ops env h r)
  | .call { callee := .value (.func f),args,.. }=>match cx.own f with
   |some _=>reach h 3 (addN [] ((args.toList.filterMap fun x=>match x with | .tmp s=>look env (rootS ops s) | _=>none).flatMap (refs 5)))++heldBy cx ops env h r
   |none=>heldBy cx ops env h r
  | .call { callee := .builtin _,.. }=>match tgtOp o with
   |some (.tmp s)=>match look env (rootS ops s) with
    |some (.arr k _ _ _)=>k::heldBy cx ops env h r
    | _=>heldBy cx ops env h r
   | _=>heldBy cx ops env h r
  | .store _ (.tmp s) _=>cond (ops.toList.any fun x=>dIs s x.dst) (match look env (rootF ops 4 s) with
   |some (.ptr k _ _ _)=>k::heldBy cx ops env h r
   | _=>heldBy cx ops env h r) (heldBy cx ops env h r)
  | _=>heldBy cx ops env h r
def refIn (T:List Nat):AV→Bool
 | .arr r _ _ _=>T.any (Nat.beq r)
 | .ptr r _ _ _=>T.any (Nat.beq r)
 | _=>false
def tgtIn (cx:Cx) (T:List Nat) (env:Env) (o:Oper):Bool:=match tgtOp o with
 |some x=>match opnd cx env x with
  |some v=>refIn T v
  |none=>false
 |none=>false
def sameV (h:Heap):List Nat→Heap→Bool
 | [],_=>true
 |k::ks,z::zs=>match h[k]? with
  |some o=>Nat.beq o.ver z.ver&&(Nat.beq o.sz z.sz&&sameV h ks zs)
  |none=>false
 | _::_,[]=>false
def heldOk (cx:Cx) (T:List Nat) (env:Env) (h:Heap) (o:Oper):Bool:=match o.op with
 | .call { callee := .value (.tmp s),args,.. }=>args.isEmpty&&match look env s with
  |some v=>match v.call? [] with
   |some p=>match cx.ext p.1 with
    |some _=>false
    |none=>match cx.own p.1 with
     |some w=>(!w.same&& !(cx.pans p.1).isSome)&&((reach h 3 (addN [] (p.2.flatMap (refs 5)))).all (fun r=>T.any (Nat.beq r))&&sameV h (reach h 3 (addN [] (p.2.flatMap (refs 5)))) w.hz)
     |none=> !cx.frz p.1
   |none=>false
  |none=>false
 | .call { callee := .value (.func f),args,.. }=>match cx.ext f with
  |some _=>false
  |none=>match cx.own f with
   |some w=>(!w.same&& !(cx.pans f).isSome)&&(match opnds cx env args.toList with
    |some vs=>(reach h 3 (addN [] (vs.flatMap (refs 5)))).all (fun r=>T.any (Nat.beq r))&&sameV h (reach h 3 (addN [] (vs.flatMap (refs 5)))) w.hz
    |none=>false)
   |none=>false
 | _=>tgtIn cx T env o
def onN (e:JX) (k:Option ρ):Option ρ:=match e with
 | .normal=>k
 | _=>none
def runAny (cx:Cx) (F:EF) (N:Nat) (md:Bool) (h0:Heap) (T:List Nat) (ops:Array Oper):List Oper→Env→Heap→(Env→Heap→Option ρ)→Option ρ
 | [],env,h,c=>c env h
 |o::rest,env,h,c=>cond (freeOp o)
  (runOps cx F N true ops [o] (restrE env (o.looksAt ops)) [] fun e e1 h1=>onN e ((nil? h1).bind fun _=>putBack o.dst e1 env fun env=>runAny cx F N md h0 T ops rest env h c))
  (cond (md&& !effOp cx.turns o)
   ((hidR env (hidS cx ops o)).bind fun rs=>runOps cx F N true ops [o] (restrE env (o.looksAt ops)) (hideH h0 (rs++T)) fun e e1 _=>onN e (putBack o.dst e1 env fun env=>runAny cx F N md h0 T ops rest env h c))
   (cond (md&& !(addOp cx.adds o||(tgtOk cx (restrE env (o.looksAt ops)) h0.length o||(lateOk ops (restrE env (o.looksAt ops)) o||heldOk cx T (restrE env (o.looksAt ops)) h o)))) none
    (runOps cx F N true ops [o] (restrE env (o.looksAt ops)) h fun e e1 h1=>onN e (putBack o.dst e1 env fun env=>runAny cx F N md h0 T ops rest env h1 c))))
def upCall (cx:Cx) (F:EF) (o:Oper) (env:Env) (h:Heap) (c:JX→AV→Heap→Option ρ):Option ρ:=match o.op with
 | .call { callee := .value f,args,.. }=>(opnd cx env f).bind fun fv=>(opnds cx env args.toList).bind fun vs=>callX cx F false false o.type fv vs h c
 | _=>none
def dropD (ops:Array Oper) (env:Env):Env:=env.filter fun p=> !(ops.toList.any fun o=>dIs p.1 o.dst)
def restOf (tf:FuncId→Bool) (ops:Array Oper):List Oper→Nat→List Nat→List Oper
 | [],_,_=>[]
 |o::os,k,m=>cond ((qr tf false ops o).deps.any fun d=>m.any (Nat.beq d)) (restOf tf ops os (k+1) (k::m)) (o::restOf tf ops os (k+1) m)
def upFn (cx:Cx) (md:Bool) (f:FuncId):Bool:=(cx.pans f).isSome&&(!md||((cx.own f).isNone&&(cx.ext f).isNone))
def upOp (cx:Cx) (md:Bool) (o:Oper):Bool:=isPanCall (upFn cx md) o&&noG o
def upOk (cx:Cx) (md:Bool) (ops:Array Oper):Bool:=ops.toList.any (upOp cx md)&&anyOk cx.P cx.turns md ops
def runUp (cx:Cx) (F:EF) (N:Nat) (md:Bool) (h0:Heap) (T:List Nat) (ops:Array Oper) (out:Env):Nat→List Oper→Env→Heap→(JX→Env→Heap→Option ρ)→Option ρ
 | _,[],env,h,c=>c .normal env h
 |k,o::rest,env,h,c=>cond (upOp cx md o)
  (upCall cx F o (restrE env (o.looksAt ops)) h fun e v h1=>match e with
   | .normal=>putK N o.dst v env fun env=>runUp cx F N md h0 T ops out (k+1) rest env h1 c
   |e=>runAny cx F N md h0 T ops (restOf cx.turns ops rest (k+1) [k]) env h fun _ _=>c e out h1)
  (runAny cx F N md h0 T ops [o] env h fun env h=>runUp cx F N md h0 T ops out (k+1) rest env h c)
def dsts:Code→List Nat
 | .region _ ops _=>ops.toList.filterMap (·.dst)
 | .seq a b | .cond _ a b=>dsts a++dsts b
 | .block _ b | .loop b | .scope b=>dsts b
 | _=>[]
def exitsOf:Code→List JX
 | .seq a b | .cond _ a b=>exitsOf a++exitsOf b
 | .block id b=>(exitsOf b).filter fun e=>match e with | .exit i=> !(Nat.beq i id) | _=>true
 | .loop b | .scope b=>exitsOf b
 | .exit id=>[.exit id]
 | .goto l=>[.goto l]
 | .ret=>[.ret]
 | _=>[]
def JX.is:JX→JX→Bool
 | .normal,.normal=>true
 | .ret,.ret=>true
 | .exit a,.exit b=>Nat.beq a b
 | .goto a,.goto b=>Nat.beq a b
 | _,_=>false
def addE (e:JX) (l:List JX):List JX:=cond (l.any (JX.is e)) l (e::l)
def jsel (e:JX) (c:JX→Option ρ):List JX→Option ρ
 | []=>none
 |x::xs=>cond (e.is x) (c x) (jsel e c xs)
def formH (cx:Cx) (f:FuncId) (p:List Bool) (e:JX) (h:Heap):Heap:=match cx.xheap f p e with
 |some z=>z
 |none=>h
def formV (cx:Cx) (f:FuncId) (p:List Bool) (e:JX) (vs:List AV):List AV:=match cx.xvals f p e with
 |some z=>z
 |none=>vs
def loopX (cx:Cx) (f:FuncId) (e:JX) (c:JX→Option ρ) (l:List JX):Option ρ:=match cx.pans f with
 |none=>jsel e c l
 |some t=>cond e.isPan ((e.panX t).bind fun x=>normZ (cx.sv t) x fun x=>cond x.ground (c (.pan (.iface t x))) none) (jsel e c l)
def iterN (ls:List Nat) (step:Env→Heap→(JX→Env→Heap→Option ρ)→Option ρ):Nat→Env→Heap→(JX→Env→Heap→Option ρ)→Option ρ
 | 0,_,_,_=>none
 |n+1,env,h,c=>step env h fun e env h=>match e with
  | .normal=>(getAll env ls).bind fun vs=>iterN ls step n (ls.zip vs) h c
  |e=>c e env h
def apartL (a b:List Nat):Bool:=a.all fun x=> !(b.any (Nat.beq x))
def loopOk (var inv:List Nat) (b:Code):Bool:=apartL inv (dsts b)&&(nodupL inv&&var.all fun x=>(dsts b).any (Nat.beq x))
def pairRefs (n0:Nat):List AV→List AV→List (Nat×Nat)
 |a::as,b::bs=>((refs 5 a).zip (refs 5 b)).filter (fun p=>Nat.ble n0 p.2)++pairRefs n0 as bs
 | _,_=>[]
def ksOf (n0:Nat) (l:List (Nat×Nat)):List Nat:=(List.range n0).map fun i=>match findE l i with
 |some r=>r
 |none=>i
def coerceN (cx:Cx):List (Nat×Nat×TypeId)→Env→Heap→(Env→Heap→Option ρ)→Option ρ
 | [],env,h,c=>c env h
 | (s,b,t)::r,env,h,c=>(look env s).bind fun v=>match v with
  | .val (.slice none 0 0)=>(sliceInfo cx t).bind fun q=>match b with
   | 0=>coerceN cx r ((s,.list 0 q.2.1 [])::env) h c
   | _=>coerceN cx r ((s,.arr h.length q.2.1 0 0)::env) (h++[⟨.arr,q.1,q.2.1,q.2.1,[]⟩]) c
  | .agg cs=>match b with
   |j+2=>(cs[j]?).bind fun x=>match x with
    | .val (.slice none 0 0)=>(sliceInfo cx t).bind fun q=>coerceN cx r ((s,.agg (cs.set j (.arr h.length q.2.1 0 0)))::env) (h++[⟨.arr,q.1,q.2.1,q.2.1,[]⟩]) c
    | _=>coerceN cx r env h c
   | _=>coerceN cx r env h c
  | .arr r1 ver off len=>match b with
   | 0=>(view h 1 (.arr r1 ver off len)).bind fun x=>coerceN cx r ((s,x)::env) (killH h (some r1)) c
   | _=>coerceN cx r env h c
  | _=>coerceN cx r env h c
def coerceB (cx:Cx):List (Nat×Bool×Nat×TypeId)→Env→Heap→(Heap→Option ρ)→Option ρ
 | [],_env,h,c=>c h
 | (s,a,d,t)::r,env,h,c=>(look env s).bind fun v=>match v with
  | .ptr b ver i j=>(h[b]?).bind fun o=>(chk o.ver ver).bind fun _=>(o.es[i]?).bind fun cs=>(cs[j+d]?).bind fun x=>match x with
   | .val (.slice none 0 0)=>(sliceInfo cx t).bind fun q=>match o.k with
    | .box=>cond a (coerceB cx r env (h.set b { o with es:=o.es.set i (cs.set (j+d) (.arr h.length q.2.1 0 0)) }++[⟨.arr,q.1,q.2.1,q.2.1,[]⟩]) c)
     (coerceB cx r env (h.set b { o with es:=o.es.set i (cs.set (j+d) (.list 0 q.2.1 [])) }) c)
    | _=>none
   | _=>coerceB cx r env h c
  | _=>none
def obCells (h:Heap):List AV:=h.flatMap fun o=>match o.k with
 | .box=>o.es.flatten
 | _=>[]
def pairsH (args vs:List AV) (h h1:Heap):List (Nat×Nat):=pairRefs h.length args vs++pairRefs h.length (obCells h) (obCells (h1.take h.length))
def nilsOk (l:List (Nat×Nat×TypeId)) (var:List Nat):Bool:=l.all fun x=>var.any (Nat.beq x.1)
def dropS (d:Nat) (env:Env):Env:=env.filter fun p=> !(Nat.beq p.1 d)
def floatRun (cx:Cx) (F:EF) (N:Nat) (ops:Array Oper) (env:Env) (h:Heap) (c:JX→Env→Heap→Option ρ):Option ρ :=
 (floatIn ops.toList 0).bind fun z=>(ops[z]?).bind fun o=>o.dst.bind fun d=>match o.op with
 | .alloc t=>cond (floatOk cx.P cx.turns ops z&&(!cx.rows t&&(Nat.blt d N&&(cx.zero t).isSome)))
  (runAny cx F N false [] [] (anchor cx.turns ops z) (anchor cx.turns ops z).toList (dropS d env) h fun env h=>c .normal env h) none
 | _=>none
def thawB (env:Env):List (Nat×Nat)→Heap→(Heap→Option ρ)→Option ρ
 | [],h,c=>c h
 | (s,j)::r,h,c=>(look env s).bind fun v=>match v with
  | .ptr b _ _ _=>(h[b]?).bind fun o=>match o.k with
   | .box=>match o.es with
    | [cs]=>(cs[j]?).bind fun x=>(thawC h x).bind fun p=>thawB env r (p.1.set b { o with es:=[cs.set j p.2] }) c
    | _=>none
   | _=>none
  | _=>none
def run (cx:Cx) (F:EF) (f:FuncId) (N:Nat):Code→List Bool→Env→Heap→(JX→Env→Heap→Option ρ)→Option ρ
 | .skip,_,env,h,c=>c .normal env h
 | .label _,_,env,h,c=>c .normal env h
 | .ret,_,env,h,c=>c .ret env h
 | .exit id,_,env,h,c=>c (.exit id) env h
 | .goto l,_,env,h,c=>c (.goto l) env h
 | .region _ ops false,_,env,h,c=>runOps cx F N false ops ops.toList env h c
 | .region _ ops true, p, env, h, c => cond (upOk cx false ops) (runUp cx F N false [] [] ops (dropD ops env) 0 ops.toList env h c)
   <|cond (anyOk cx.P cx.turns false ops) (runAny cx F N false [] [] ops ops.toList env h fun env h=>c .normal env h)
   <|cond (upOk cx true ops) (runUp cx F N true h (heldBy cx ops env h ops.toList) ops (dropD ops env) 0 ops.toList env h c)
   <|cond (cx.flt f p) (floatRun cx F N ops env h c)
   (cond (anyOk cx.P cx.turns true ops) (runAny cx F N true h (heldBy cx ops env h (ops.toList.take (tailAt cx.turns ops))) ops (ops.toList.take (tailAt cx.turns ops)) env h fun env h=>runOps cx F N false ops (ops.toList.drop (tailAt cx.turns ops)) env h c) (floatRun cx F N ops env h c))
 | .seq a b,p,env,h,c=>run cx F f N a (p++[false]) env h fun e env h=>match e with
  | .normal=>run cx F f N b (p++[true]) env h c
  |e=>c e env h
 | .cond x a b,p,env,h,c=>(opnd cx env x).bind fun v=>match v with
  | .val (.bool t)=>cond t (run cx F f N a (p++[false]) env h c) (run cx F f N b (p++[true]) env h c)
  | _=>none
 | .block id b,p,env,h,c=>run cx F f N b (p++[false]) env h fun e env h=>match e with
  | .exit i=>match Nat.beq i id with
   |true=>thawB env (cx.thawX f p) h fun h=>c .normal env h
   |false=>c (.exit i) env h
  |e=>c e env h
 | .loop b,p,env,h,c=>(cx.ann f p).bind fun a=>match a with
  | .unroll n ls=>iterN ls (run cx F f N b (p++[false])) n env h c
  | .live var inv => cond (loopOk var inv b && nilsOk (cx.nils f p) var) (coerceN cx (cx.nils f p) env h fun env h => coerceB cx (cx.boxes f p) env h fun h => (getAll env var).bind fun vs => (getAll env inv).bind fun is =>
    (F (.loop f p) (vs.map AV.wk++is.map AV.wk) (h.map Ob.wk)).bind fun r=>(asJump r).bind fun j =>
    loopX cx f j.1 (fun e=>normAs (formV cx f p e (vs.map AV.wk)) j.2.1 fun vs'=>normHeap (formH cx f p e (h.map Ob.wk)) j.2.2 fun h' =>
     c e (var.zip vs'++inv.zip (is.map AV.wk)) h') ((exitsOf b).foldr addE [])) none
 | _,_,_,_,_=>none
def sub:List Bool→Code→Option Code
 | [],c=>some c
 |false::p,.seq a _=>sub p a
 |true::p,.seq _ b=>sub p b
 |false::p,.cond _ a _=>sub p a
 |true::p,.cond _ _ b=>sub p b
 |false::p,.block _ b=>sub p b
 |false::p,.loop b=>sub p b
 |false::p,.scope b=>sub p b
 | _,_=>none
def resultOf (cx:Cx) (env:Env) (h:Heap):ResultVar→Option AV
 | .tmp t=>look env t
 | .cell a t=>(look env a).bind fun p=>cellsAt cx h p fun cs=>loadC cx t cs some
def resultsOf (cx:Cx) (env:Env) (h:Heap):List ResultVar→Option (List AV)
 | []=>some []
 |r::rs=>(resultOf cx env h r).bind fun v=>(resultsOf cx env h rs).bind fun vs=>some (v::vs)
def oneOf:List AV→AV
 | [v]=>v
 |vs => .tuple vs
def numbered:Nat→List AV→Env
 | _,[]=>[]
 |n,v::vs=>(n,v)::numbered (n+1) vs
def splitD (ops:List Oper):Option (List Oper×Operand×List Operand):=match ops.getLast? with
 |some { op := .defer { callee := .value fo,args,.. },guard:=none,dst:=none,.. }=>some (ops.dropLast,fo,args.toList)
 | _=>none
def recOp (ops:List Oper):Option Nat:=match ops with
 | [{ op := .call { callee := .builtin .recover,args,.. },guard:=none,dst:=some d,.. }]=>cond args.toList.isEmpty (some d) none
 | _=>none
def JX.rv:JX→Option AV
 | .normal | .ret=>some (.val .nilIface)
 | .pan v=>cond (panOk v) (some v) none
 | _=>none
def isPtr (m:Nat):AV→Bool
 | .ptr r _ _ _=>Nat.blt r m
 | _=>false
def resPtrs (m:Nat) (env:Env):List ResultVar→Option Env
 | []=>some []
 | .cell a _::r=>(look env a).bind fun v=>cond (isPtr m v) ((resPtrs m env r).bind fun e=>some ((a,v)::e)) none
 | .tmp a::r=>(look env a).bind fun v=>cond v.ground ((resPtrs m env r).bind fun e=>some ((a,v)::e)) none
def runG (cx:Cx) (F:EF) (g:FuncId) (fn:Func) (dargs:List AV) (v:AV) (env:Env) (h:Heap) (c:AV→Option ρ):Option ρ :=
 (cx.P.funcs[g]?).bind fun gn=>gn.body.bind fun gb=>match gb with
 | .seq (.region _ gops false) rest=>(recOp gops.toList).bind fun d=>match Nat.ble dargs.length gn.ntmps&&Nat.blt d gn.ntmps with
  |true=>run cx F g gn.ntmps rest [true] ((d,v)::numbered 0 dargs) h fun e env2 h2=>match e with
   | .normal | .ret=>(resultsOf cx env2 h2 gn.results.toList).bind fun _ =>
    (resPtrs (cx.held g) env fn.results.toList).bind fun e3=>(resultsOf cx e3 h2 fn.results.toList).bind fun vs=>(viewArgs h2 vs).bind fun vs'=>c (oneOf vs')
   | _=>none
  |false=>none
 | _=>none
def runD (cx:Cx) (F:EF) (f g:FuncId) (fn:Func):Code→List Bool→Env→Heap→(AV→Option ρ)→Option ρ
 | .seq (.region _ ops false) b,p,env,h,c=>match splitD ops.toList with
  |none=>runOps cx F fn.ntmps false ops ops.toList env h fun e env h=>match e with
   | .normal=>runD cx F f g fn b (p++[true]) env h c
   | _=>none
  |some (pre,fo,args)=>runOps cx F fn.ntmps false ops pre env h fun e env h=>match e with
   | .normal=>(opnd cx env fo).bind fun fv=>(opnds cx env args).bind fun as=>(fv.call? as).bind fun q=>(chk q.1 g).bind fun _=>(chk (cx.held f) (cx.held g)).bind fun _=>cond (q.2.all (isPtr (cx.held g)))
    (run cx F f fn.ntmps b (p++[true]) env h fun e env h=>e.rv.bind fun v=>runG cx F g fn q.2 v env h c) none
   | _=>none
 | _,_,_,_,_=>none
def runKey (cx:Cx) (F:EF):EF
  | .fn f, args, h => (cx.P.funcs[f]?).bind fun fn => fn.body.bind fun b => (nil? h).bind fun _ => match Nat.ble args.length fn.ntmps with
    |true=>match cx.dfr f with
     |some g=>runD cx F f g fn b [] (numbered 0 args) [] fun v=>some (.ret v,[])
     |none=>(run cx F f fn.ntmps b [] (numbered 0 args) [] fun e env h=>match e with
      | .normal | .ret=>(resultsOf cx env h fn.results.toList).bind fun vs=>(viewArgs h vs).bind fun vs'=>some (.ret (oneOf vs'),[])
      | .pan v=>cond ((cx.pans f).isSome&&panOk v) (some (.jump (.pan v) [],[])) none
      | _=>none)
    |false=>none
  | .own f, args, h => (cx.P.funcs[f]?).bind fun fn => fn.body.bind fun b => match Nat.ble args.length fn.ntmps && Nat.beq h.length (cx.held f) with
    | true => run cx F f fn.ntmps b [] (numbered 0 args) h fun e env h1 => match e with
      | .normal | .ret=>(resultsOf cx env h1 fn.results.toList).bind fun vs=>(gc (cx.held f) (addN (List.range (cx.held f)) (vs.flatMap (refs 5))) vs [] h1).bind fun g=>some (.ret (oneOf g.1),g.2.2)
      | .pan v=>cond ((cx.pans f).isSome&&(panOk v&&Nat.beq (cx.held f) 0)) (some (.jump (.pan v) [],[])) none
      | _=>none
    |false=>none
  | .loop f p, args, h => (cx.P.funcs[f]?).bind fun fn => fn.body.bind fun b => (sub p b).bind fun l => match l with
    | .loop b => (cx.ann f p).bind fun a => match a with
      | .live var inv => cond (loopOk var inv b) (match Nat.beq args.length (var.length + inv.length) with
        | true => run cx F f fn.ntmps b (p ++ [false]) ((var ++ inv).zip args) h fun e env h1 => match e with
          | .normal=>(getAll env var).bind fun vs=>(getAll env inv).bind fun is=>(gc (cx.held f) (ksOf h.length (pairsH args vs h h1)) vs is h1).bind fun g=>F (.loop f p) (g.1.map AV.wk++g.2.1.map AV.wk) (g.2.2.map Ob.wk)
          |e=>(getAll env var).bind fun vs=>(getAll env inv).bind fun is=>(gc (cx.held f) (ksOf h.length (pairsH args vs h h1)) vs is h1).bind fun g=>some (.jump e (g.1.map AV.wk),g.2.2.map Ob.wk)
        |false=>none) none
      | _=>none
    | _=>none
def nilC (n:Nat):AV→AV
 | .val (.slice none 0 0) => .list 0 n []
 |v=>v
def zipZ:List Sh→List AV→List AV
 |z::zs,c::cs=>(match z with
  | .list n=>nilC n c
  | _=>c)::zipZ zs cs
 | _,cs=>cs
def nilV (cx:Cx) (t:TypeId) (v:AV):AV:=match cx.P.underlying t with
 |some (.slice e)=>match cx.P.info? e with
  |some i=>nilC i.size v
  |none=>v
 |some (.struct _)=>match v with
  | .agg cs => .agg (zipZ (shapes cx.P 20 t) cs)
  |v=>v
 | _=>v
def zipN (cx:Cx):List TypeId→List AV→List AV
 |t::ts,v::vs=>nilV cx t v::zipN cx ts vs
 | _,vs=>vs
def argN (cx:Cx) (f:FuncId) (args:List AV):List AV:=match cx.P.funcs[f]? with
 |some fn=>zipN cx fn.params.toList args
 |none=>args
def ovrV (cx:Cx) (F R:EF):EF:=fun key args h=>match key with
 | .fn f=>match cx.ovr f with
  |some G=>(nil? h).bind fun _=>(G args).bind fun v=>some (.ret v,[])
  |none=>match cx.rul f with
   |some ru=>(nil? h).bind fun _=>(ru.G F (argN cx f args)).bind fun v=>some (.ret v,[])
   |none=>R (.fn f) (argN cx f args) h
 |k=>R k args h
def En (cx:Cx):Nat→EF
 | 0=>fun _ _ _=>none
 |n+1=>ovrV cx (En cx n) (runKey cx (En cx n))
end Go.Proofs.Av
