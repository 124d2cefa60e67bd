/- The program's functions, as the abstract evaluator sees them: the setting. -/
import Derived.Test.YtoepfmodbhfckaaDoorAzU
import Derived.Test.YtoepfmodbhfckaaDoorAzFa
import Derived.Test.YtoepfmodbhfckaaDoorAzW
import Derived.Test.YtoepfmodbhfckaaDoorAhOfa
import Derived.Test.YtoepfmodbhfckaaDoorRows
import Derived.KernelRfl
namespace Go.Proofs.Av
open Go
def pathEq:List Bool→List Bool→Bool
 | [],[]=>true
 |true::a,true::b=>pathEq a b
 |false::a,false::b=>pathEq a b
 | _,_=>false
def findP {α:Type}(p:List Bool):List (List Bool×α)→Option α
 | []=>none
 | (q,a)::r=>match pathEq p q with
  |true=>some a
  |false=>findP p r
def findA {α:Type}(l:List (Nat×List (List Bool×α))) (f:Nat) (p:List Bool):Option α:=match l with
 | []=>none
 | (g,x)::r=>match Nat.beq f g with
  |true=>findP p x
  |false=>findA r f p
def findF {α:Type}(l:List (Nat×α)) (f:Nat):Option α:=match l with
 | []=>none
 | (g,x)::r=>match Nat.beq f g with
  |true=>some x
  |false=>findF r f
noncomputable def annT:List (Nat×List (List Bool×LAnn)):=[(3,[([true,true,true,true,true,true,true,true,true,true,true,false,true,false],.live [18,97] [6,7,8,9,14,19,21,22,23,24,95,96]),
 ([true,true,true,true,true,true,true,true,true,true,true,true,false,true,false],.live [18,125] [6,7,8,9,14,19,21,22,123,124]),
 ([true,true,true,true,true,true,true,true,true,true,true,true,true,true,true,true,false,true,false],.live [18,196] [9,14,19,194,195])]),
(26,[([true,true,false,true,false],.live [8] [2,6,7]),
 ([true,true,false,true,false,false,true,false,false,true,false,true,false],.live [9,10] [2,6,7,8])]),
(27,[([true,true,false,true,false],.live [6] [0,4,5]),
 ([true,true,false,true,false,false,true,false,false,true,true,false,false],.live [8] [0,4,5,6,7])]),
(31,[([true,true,true,true,true,false,true,false],.live [5,6] [1])]),
(32,[([true,true,true,true,true,false,true,false],.live [4,5,6,7,8,9] [1])]),
(35,[([true,true,true,true,false,true,false],.live [4,18] [16,17])]),
(36,[([true,true,true,true,false,true,false],.live [4,5,6,7,8,27] [25,26])]),
(37,[([true,false,true,false],.live [2,7] [5,6])]),
(38,[([true,true,false,true,false],.live [5,6] [0,1])]),
(39,[([true,true,false,true,false],.unroll 6 [2,3,18,19,20])]),
(40,[([true,true,true,true,true,false,true,false],.live [6,7,8,9,10] [0,1,2])]),
(41,[([true,true,true,false,false],.live [6] [0,1,4])]),
(42,[([true,true,true,false,true,false],.live [5] [0,2,4])]),
(47,[([true,true,true,true,true,false,false],.live [] [2,4,5])]),
(48,[([true,true,false,true,false],.live [4,5] [2,3])]),
(49,[([true,true,false,true,false],.live [4,5] [2,3])]),
(57,[([true,true,false,true,false],.live [2,3] [1])]),
(58,[([true,true,false,true,false],.live [8] [1,2,3,7])]),
(61,[([true,true,true,false,true,false],.live [17] [0,5,16])]),
(64,[([true,true,false,true,false],.live [3,4] [0])]),
(65,[([true,true,false,true,false],.live [6] [0,1,4,5])]),
(67,[([true,false,true,false],.live [2,3] [0])]),
(68,[([true,true,true,false,true,false],.live [17] [0,1,6,7,8,9,16])]),
(69,[([true,true,false,true,false],.live [4,7] [0,1])]),
(72,[([true,false,true,false],.live [4,5] [0,1])]),
(74,[([true,false,true,false],.live [0,8] [1,7])]),
(75,[([true,false,true,false],.live [0,5] [1])]),
(76,[([true,true,true,false,true,false],.live [2,3,17] [1,15,16])]),
(77,[([true,true,false,true,false],.live [12] [5,10,11])]),
(79,[([true,false,true,false],.live [4,5] [1,2])]),
(83,[([true,true,true,true,true,true,true,false,true,false],.live [8,9,50] [0,2,7,49]),
 ([true,true,true,true,true,true,true,true,true,false,true,false],.live [14] [0,2,7,8])]),
(84,[([true,true,false,true,false],.live [2,8] [3,6,7])]),
(89,[([true,false],.live [6] [0,2,5])])]
noncomputable def nilT:List (Nat×List (List Bool×List (Nat×Nat×TypeId))):=[(35,[([true,true,true,true,false,true,false],[(4,1,64)])]),
(38,[([true,true,false,true,false],[(5,1,64)])]),
(40,[([true,true,true,true,true,false,true,false],[(7,0,51),(9,1,51)])]),
(83,[([true,true,true,true,true,true,true,false,true,false],[(8,1,25)])])]
noncomputable def nilF (f:Nat) (p:List Bool):List (Nat×Nat×TypeId):=match findA nilT f p with
 |some l=>l
 |none=>[]
def encP (p:Nat×Nat):List AV:=[vu (p.1:Int),vu (p.2:Int)]
def decP:List AV→Option (Nat×Nat)
 | [.val (.int .u64 (.ofNat a)),.val (.int .u64 (.ofNat b))]=>some (a,b)
 | _=>none
def ltP (x y:Nat×Nat):Bool:=decide (x.1<y.1)||(decide (x.1=y.1)&&decide (x.2<y.2))
def leP (x y:Nat×Nat):Bool:= !ltP y x
def encN (n:Int):List AV:=[vi n]
def decN:List AV→Option Int
 | [.val (.int .i64 a)]=>some a
 | _=>none
def leN (x y:Int):Bool:=decide (x≤y)
def sortP:List AV→List (List AV)→Option (List (List AV)):=sortZ (some 73) decP encP leP
def sortN:List AV→List (List AV)→Option (List (List AV)):=sortZ none decN encN leN
def ownT:Nat→Option Own:=findF [(71,⟨1,.val (.int .u64 0),[⟨.box,9,1,0,[[.val (.string ⟨#[]⟩)]]⟩],false⟩),(44,⟨0,.ptr 0 0 0 0,[⟨.box,92,2,0,[[.val (.string ⟨#[]⟩),.list 0 1 []]]⟩],false⟩),(45,⟨1,.val (.int .u64 0),[],true⟩)]
def extT:Nat→Option ExtF:=findF [(78,.clone 25)]
def anyN (l:List Nat) (f:Nat):Bool:=l.any (Nat.beq f)
def eqT:TypeId→Bool:=anyN [98,24,37]
theorem eqT_ok (t:TypeId) (h:eqT t=true):Tryd.prog.eqGuardType Tryd.prog.depth t=false∧Tryd.prog.stoodInHeld t=false:=by
 unfold eqT anyN at h
 simp only [List.any_cons,List.any_nil,Bool.or_false,Bool.or_eq_true] at h
 rcases h with h |h |h<;>(have:=Nat.eq_of_beq_eq_true h;subst this;exact⟨by kernel_rfl,by kernel_rfl⟩)
def panT:Nat→Option TypeId:=findF [(87,124),(83,124),(34,101),(46,101),(62,101),(70,101),(29,101),(39,101),(44,101)]
def dfrT:Nat→Option Nat:=findF [(68,82),(8,28),(14,28),(10,28),(16,28)]
def fixT (f:Nat):Nat:=match findF (α:=Nat) [(68,3),(82,3),(8,2),(28,2),(14,2),(10,2),(16,2)] f with
 |some n=>n
 |none=>0
noncomputable def boxTab:List (Nat×List (List Bool×List (Nat×Bool×Nat×TypeId))):=[(68,[([true,true,true,false,true,false],[(7,true,0,51)])]),(26,[([true,true,false,true,false],[(7,true,1,25)])]),(65,[([true,true,false,true,false],[(5,true,1,25)])]),(47,[([true,true,true,true,true,false,false],[(2,true,1,28)])]),(42,[([true,true,true,false,true,false],[(4,true,1,28)])]),(27,[([true,true,false,true,false],[(5,true,1,28)])])]
noncomputable def boxT (f:Nat) (p:List Bool):List (Nat×Bool×Nat×TypeId):=match findA boxTab f p with
 |some l=>l
 |none=>[]
def madeT (d:Option Nat) (t:TypeId):Bool:=match d with
 |some 10=>Nat.beq t 64
 |some 44=>Nat.beq t 25
 | _=>false
noncomputable def xhTab:List (Nat×List (List Bool×(JX→Option (List Ob)))):=[]
noncomputable def xhT (f:Nat) (p:List Bool) (e:JX):Option (List Ob):=match findA xhTab f p with
 |some g=>g e
 |none=>none
noncomputable def xvTab:List (Nat×List (List Bool×(JX→Option (List AV)))):=[]
noncomputable def xvT (f:Nat) (p:List Bool) (e:JX):Option (List AV):=match findA xvTab f p with
 |some g=>g e
 |none=>none
def ovrT (f:Nat):Option (List AV→Option AV):=bif Nat.beq f 81 then some ofG else none
def GL:Nat→Option (List AV):=fun g=>bif Nat.beq g 0 then some [vu 14695981039346656037,vu 1099511628211,vu 14886173955864302971] else none
noncomputable def cx:Cx:= { ovr:=ovrT,ptrs:=anyN [107],thaw:=fun _=>anyN [107],P:=Tryd.prog,G:=GL,ann:=findA annT,own:=ownT,ext:=extT,nils:=nilF,eqOk:=eqT,pans:=panT,dfr:=dfrT,fixn:=fixT,boxes:=boxT,made:=madeT,xheap:=xhT,xvals:=xvT,eq_ok:=eqT_ok }
theorem cx_names:NamesOk cx.P:=by
 have h:(Tryd.prog.funcs.toList.all fun fn=> !(fn.name== "runtime.NumGoroutine"))=true:=by kernel_rfl
 intro f fn hf
 have hm:fn∈Tryd.prog.funcs.toList:=by
  have:fn∈Tryd.prog.funcs:=Array.mem_of_getElem? hf
  simpa using this
 have:=List.all_eq_true.1 h fn hm
 simpa using this
end Go.Proofs.Av
