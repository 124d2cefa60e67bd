/- The program's functions, as the abstract evaluator sees them: the setting. -/
import Derived.Test.YtoepfmodbhfckaaAzU
import Derived.Test.YtoepfmodbhfckaaAzFa
import Derived.Test.YtoepfmodbhfckaaAzW
import Derived.Test.YtoepfmodbhfckaaAiRu
import Derived.Test.YtoepfmodbhfckaaRows
import Derived.KernelRfl
namespace Go.Proofs.Av
open Go
def pathEq:List Bool→List Bool→Bool
 | [],[]=>true
 |true::a,true::b=>pathEq a b
 |false::a,false::b=>pathEq a b
 | _,_=>false
def findP {α:Type}(p:List Bool):List (List Bool×α)→Option α
 | []=>none
 | (q,a)::r=>match pathEq p q with
  |true=>some a
  |false=>findP p r
def findA {α:Type}(l:List (Nat×List (List Bool×α))) (f:Nat) (p:List Bool):Option α:=match l with
 | []=>none
 | (g,x)::r=>match Nat.beq f g with
  |true=>findP p x
  |false=>findA r f p
def findF {α:Type}(l:List (Nat×α)) (f:Nat):Option α:=match l with
 | []=>none
 | (g,x)::r=>match Nat.beq f g with
  |true=>some x
  |false=>findF r f
noncomputable def annT:List (Nat×List (List Bool×LAnn)):=[(4,[([true,true,true,true,true,true,false,true,false],.live [12,73] [13,71,72])]),
(6,[([true,true,true,true,true,true,false,true,false],.live [18,68] [4,5,6,7,8,19,20,21,22,66,67]),
 ([true,true,true,true,true,true,false,true,false,false,true,true,false,false,true,true,true,true,false,true,false],.live [18,102] [4,5,6,7,8,19,20,21,22,24,66,67,68,100,101]),
 ([true,true,true,true,true,true,true,true,true,false,true,false],.live [18,188] [7,8,19,186,187])]),
(9,[([true,true,true,true,false,true,false],.live [8,10] [0,1,2,6,7,9]),
 ([true,true,true,true,true,true,true,true,true,false,true,false],.live [6,17] [1,7,8,9,13,15])]),
(10,[([true,true,true,true,false,true,false],.live [8] [1,5,6,7])]),
(11,[([true,true,true,true,true,true,false,true,false],.live [4,11] [5,6,7])]),
(12,[([true,true,true,true,true,true,false,true,false],.live [18,76] [4,5,6,7,8,19,20,21,22,74,75]),
 ([true,true,true,true,true,true,false,true,false,false,true,true,false,false,true,true,true,true,true,true,true,false],.live [18,150] [4,5,6,7,8,19,20,21,22,24,74,75,76,148,149]),
 ([true,true,true,true,true,true,true,true,true,false,true,false],.live [18,226] [7,19,21,224,225]),
 ([true,true,true,true,true,true,true,true,true,false,true,false,false,true,true,false,false,true,true,false],.live [18,237] [7,19,21,44,224,225,226,235,236])]),
(14,[([true,true,true,false,true,false],.live [4,35] [5,6,33,34])]),
(16,[([true,true,true,true,true,true,false,true,false],.live [6,12] [7,8,9,10])]),
(18,[([true,true,true,true,true,true,true,false,true,false],.live [18,67] [5,6,7,17,19,21,22,23,24,65,66]),
 ([true,true,true,true,true,true,true,false,true,false,false,true,true,false,false,true,true,true,true,true,true,true,true,true,true,false],.live [18,37] [5,6,7,17,19,21,22,23,24,26,36,65,66,67])]),
(19,[([true,true,true,true,true,true,true,true,true,true,true,false,true,false],.live [23,24] [5,13,14,15,16,17,18,19,21,22]),
 ([true,true,true,true,true,true,true,true,true,true,true,true,true,true,false,true,false],.live [25,26] [5,13,14,15,16,17,18,22]),
 ([true,true,true,true,true,true,true,true,true,true,true,true,true,true,false,true,false,false,true,false,false,true,false,true,false],.live [27,28] [5,13,14,15,16,17,18,22,26])]),
(20,[([true,true,true,true,true,true,true,true,true,true,false,true,false],.live [10,85] [11,12,13,14,83,84]),
 ([true,true,true,true,true,true,true,true,true,true,true,false,true,false],.live [10,24] [11,12,13,14])]),
(21,[([true,true,true,true,true,true,true,true,false,true,false],.live [16,17] [6,7,8,10,11,12,13,14,15]),
 ([true,true,true,true,true,true,true,true,false,true,false,false,true,false,false,true,false],.live [16,18] [6,7,8,10,11,12,13,14,15,17]),
 ([true,true,true,true,true,true,true,true,true,true,false,true,false],.live [6,19] [7,8,14,15]),
 ([true,true,true,true,true,true,true,true,true,true,false,true,false,false,true,false,false,true,false,true,false],.live [20,21] [6,7,8,14,15,19])]),
(22,[([true,true,true,true,true,true,true,false,true,false],.live [10,62] [3,11,12,13,15,60,61])]),
(37,[([true,true,false,true,false],.live [6] [0,4,5]),
 ([true,true,false,true,false,false,true,false,false,true,true,false,false],.live [8] [0,4,5,6,7])]),
(38,[([true,true,true,true,false,true,false],.live [4,18] [16,17])]),
(39,[([true,true,true,true,true,false,true,false],.live [5,6] [1])]),
(42,[([true,true,false,true,false],.live [4,5,14] [1,2,12,13])]),
(43,[([true,true,true,true,false,true,false],.live [4,5,7,8] [1,2])]),
(44,[([true,true,false,true,false],.live [4,5] [0,1])]),
(45,[([true,true,false,true,false],.live [3,11] [2,9,10])]),
(46,[([true,false,true,false],.live [3,4] [0,2]),
 ([true,true,true,false,true,false],.live [3,7] [0,2,6])]),
(47,[([true,true,false,true,false],.live [4,5] [2,3])]),
(49,[([true,true,true,true,true,false,false],.live [] [2,4,5])]),
(50,[([true,true,true,false,true,false],.live [5] [0,2,4])]),
(53,[([true,true,false,true,false],.live [5,6] [2,3])]),
(55,[([true,true,false,true,false],.live [8] [2,6,7]),
 ([true,true,false,true,false,false,true,false,false,true,false,true,false],.live [9,10] [2,6,7,8])]),
(60,[([true,true,true,false,true,false],.live [2,3,17] [1,15,16])]),
(61,[([true,true,false,true,false],.live [2,3] [1])]),
(65,[([true,true,true,false,true,false],.live [5,6,18] [2,4,16,17])]),
(66,[([true,false,true,false],.live [3,4] [0,2]),
 ([true,true,true,false,true,false],.live [7] [0,2,6]),
 ([true,true,true,false,true,false,false,true,false,false,true,false,true,false],.live [8,9] [0,2,6,7])]),
(67,[([true,true,false,true,false],.live [4,5] [2,3])]),
(69,[([true,true,false,true,false],.live [5,6] [2,3])]),
(71,[([true,true,false,true,false],.live [5,6] [2,3])]),
(74,[([true,true,true,false,false],.live [6] [0,1,4])]),
(77,[([true,true,false,true,false],.live [3,4] [0]),
 ([true,true,false,true,false,false,true,false,false,true,false],.live [3,5] [0,4])]),
(79,[([true,true,false,true,false],.live [3,4] [0])]),
(80,[([true,true,true,false,true,false],.live [4,5] [0,3])]),
(82,[([true,true,true,true,false,true,false],.live [7,8] [1])]),
(83,[([true,false,true,false],.live [2,6] [0,5])]),
(84,[([true,false,true,false],.live [2,3] [0])]),
(88,[([true,true,true,false,true,false],.live [7] [0,1,4,6])]),
(89,[([true,true,true,true,false,true,false],.live [47] [0,3,4,5,7,45,46]),
 ([true,true,true,true,true,true,false,true,false],.live [4,69] [0,7,67,68])]),
(90,[([true,false,true,false],.live [4,5] [0,3]),
 ([true,false,true,false,false,true,false,false,true,false],.live [4,6] [0,3,5]),
 ([true,true,true,true,true,false,true,false],.live [4,10] [0,7])]),
(92,[([true,false,true,false],.live [4,5] [0,1])]),
(93,[([true,true,false,true,false],.live [16] [0,4,14,15])]),
(98,[([true,true,false,true,false],.unroll 6 [2,3,18,19,20])]),
(100,[([true,true,true,true,false,true,false],.live [4,5,6,7,8,27] [25,26])]),
(101,[([true,false,true,false],.live [2,7] [5,6])]),
(106,[([true,true,true,false,true,false],.live [17] [0,5,16])]),
(107,[([true,true,false,true,false],.live [5,6] [0,1])]),
(108,[([true,false,true,false],.live [4,5] [0,1])]),
(110,[([true,false,true,false],.live [2,3] [0])]),
(114,[([true,true,true,false,true,false],.live [5,6,7] [0,1]),
 ([true,true,true,false,true,false,false,true,false,false,false,false],.live [5,6] [0,1,7])]),
(116,[([true,true,false,true,false],.live [4,7] [0,1])]),
(118,[([true,true,false,true,false],.live [12] [5,10,11])]),
(120,[([true,true,false,true,false],.live [8] [1,2,3,7])]),
(121,[([true,true,true,false,false],.live [7,8] [0,1,6])]),
(122,[([true,false,true,false],.live [4,5] [1,2])]),
(125,[([true,true,false,true,false],.live [2,3] [0]),
 ([true,true,false,true,false,false,true,false,false,true,false,true,false,true,false],.live [3,5] [0,4])]),
(132,[([true,true,false,true,false],.live [6] [0,1,4,5])]),
(133,[([true,true,false,true,false],.live [3,11] [0,9,10]),
 ([true,true,true,true,false,true,false],.live [6,27] [25,26])]),
(135,[([true,true,false,true,false],.live [2,3] [0]),
 ([true,true,false,true,false,false,true,false,false,true,false,true,false,true,false],.live [3,5] [0,4])]),
(136,[([true,false,true,false],.live [4,5] [0,3])]),
(137,[([true,true,false,false],.live [5] [0,3])]),
(145,[([true,true,true,false,true,false],.live [17] [0,1,6,7,8,9,16])]),
(147,[([true,true,false,true,false],.live [2,8] [3,6,7])]),
(149,[([true,false,true,false],.live [4,8] [0,1,7])]),
(150,[([true,true,false],.live [1,2,3,10,11] [0,4])]),
(152,[([true,true,false,true,false],.live [3,4] [0])]),
(155,[([true,true,false],.live [1,2,3,8,9] [0])]),
(156,[([true,false,true,false],.live [4,8] [0,1,7])]),
(159,[([true,false,true,false],.live [4,8] [0,1,7])]),
(162,[([true,false],.live [7] [0,5,6])]),
(164,[([true,true,true,true,true,true,true,false,true,false],.live [8,9,50] [0,2,7,49]),
 ([true,true,true,true,true,true,true,true,true,false,true,false],.live [14] [0,2,7,8])]),
(166,[([true,false],.live [8] [0,1,2,3]),
 ([true,false,false,true,false,false,true,false],.live [9] [0,1,2,3,8])]),
(167,[([true,true,true,false,true,false],.live [11] [0,3,8,9,10]),
 ([true,true,true,true,true,false],.live [12] [0,3,8,9])]),
(168,[([true,true,false,true,true,true,false],.live [11] [0,1,8,9,10])]),
(170,[([true,true,false],.live [8,9] [0])]),
(171,[([true,true,false,true,false],.live [8,9,10] [0,1,2,3]),
 ([true,true,false,true,false,false,true,false,false,false,false],.live [9] [0,1,2,3,8,10]),
 ([true,true,false,true,false,false,true,false,false,true,true,true,true,false,true,false,true,false],.live [11] [0,1,2,3,8,9,10]),
 ([true,true,false,true,false,false,true,false,false,true,true,true,true,true,true,false,true,false],.live [12] [0,1,2,3,8,9,10])]),
(172,[([true,true,true,false,false],.live [11,12] [0,1,4]),
 ([true,true,true,false,false,false,false,false,false],.live [11] [0,1,4,12]),
 ([true,true,true,false,false,false,false,true,false,false],.live [12] [0,1,4,11])]),
(173,[([true,true,true,false,false],.live [12] [0,1,4,13]),
 ([true,true,true,true,false,false],.live [13] [0,1,4,12]),
 ([true,true,true,true,true,true,true,true,true,false,false],.live [12,13] [0,1,4]),
 ([true,true,true,true,true,true,true,true,true,false,false,false,false,false,false],.live [12] [0,1,4,13]),
 ([true,true,true,true,true,true,true,true,true,false,false,false,false,true,false,false],.live [13] [0,1,4,12])]),
(177,[([true,false],.live [6] [0,1,2]),
 ([true,false,false,true,false,false,true,false],.live [7] [0,1,2,6])]),
(178,[([true,true,true,false,true,false],.live [9] [0,6,7,8]),
 ([true,true,true,true,true,false],.live [10] [0,6,7])]),
(179,[([true,true,false,true,true,true,false],.live [9] [0,1,6,7,8])]),
(181,[([true,true,false],.live [6,7] [0])]),
(182,[([true,true,false,true,false],.live [6,7,8] [0,1,2]),
 ([true,true,false,true,false,false,true,false,false,false,false],.live [7] [0,1,2,6,8]),
 ([true,true,false,true,false,false,true,false,false,true,true,true,true,false,true,false,true,false],.live [9] [0,1,2,6,7,8]),
 ([true,true,false,true,false,false,true,false,false,true,true,true,true,true,true,false,true,false],.live [10] [0,1,2,6,7,8])]),
(183,[([true,true,true,false,false],.live [9,10] [0,1]),
 ([true,true,true,false,false,false,false,false,false],.live [9] [0,1,10]),
 ([true,true,true,false,false,false,false,true,false,false],.live [10] [0,1,9])]),
(184,[([true,true,true,false,false],.live [10] [0,1,11]),
 ([true,true,true,true,false,false],.live [11] [0,1,10]),
 ([true,true,true,true,true,true,true,true,true,false,false],.live [10,11] [0,1]),
 ([true,true,true,true,true,true,true,true,true,false,false,false,false,false,false],.live [10] [0,1,11]),
 ([true,true,true,true,true,true,true,true,true,false,false,false,false,true,false,false],.live [11] [0,1,10])]),
(185,[([true,false],.live [6] [0,2,5])]),
(187,[([true,true,false],.live [1,2,3,8,9] [0])]),
(189,[([true,false],.live [10] [0,2,3,4])]),
(194,[([true,false],.live [8] [0,2,3])]),
(197,[([true,false],.live [6] [0,1,2]),
 ([true,false,false,true,false,false,true,false],.live [7] [0,1,2,6])]),
(198,[([true,true,true,false,true,false],.live [9] [0,6,7,8]),
 ([true,true,true,true,true,false],.live [10] [0,6,7])]),
(199,[([true,true,false,true,true,true,false],.live [9] [0,1,6,7,8])]),
(201,[([true,true,false],.live [6,7] [0])]),
(202,[([true,true,false,true,false],.live [6,7,8] [0,1,2]),
 ([true,true,false,true,false,false,true,false,false,false,false],.live [7] [0,1,2,6,8]),
 ([true,true,false,true,false,false,true,false,false,true,true,true,true,false,true,false,true,false],.live [9] [0,1,2,6,7,8]),
 ([true,true,false,true,false,false,true,false,false,true,true,true,true,true,true,false,true,false],.live [10] [0,1,2,6,7,8])]),
(204,[([true,true,true,false,false],.live [9,10] [0,1]),
 ([true,true,true,false,false,false,false,false,false],.live [9] [0,1,10]),
 ([true,true,true,false,false,false,false,true,false,false],.live [10] [0,1,9])]),
(205,[([true,true,true,false,false],.live [10] [0,1,11]),
 ([true,true,true,true,false,false],.live [11] [0,1,10]),
 ([true,true,true,true,true,true,true,true,true,false,false],.live [10,11] [0,1]),
 ([true,true,true,true,true,true,true,true,true,false,false,false,false,false,false],.live [10] [0,1,11]),
 ([true,true,true,true,true,true,true,true,true,false,false,false,false,true,false,false],.live [11] [0,1,10])]),
(208,[([true,false],.live [8] [0,2,3])])]
noncomputable def nilT:List (Nat×List (List Bool×List (Nat×Nat×TypeId))):=[(9,[([true,true,true,true,false,true,false],[(8,1,62)])]),
(38,[([true,true,true,true,false,true,false],[(4,1,74)])]),
(42,[([true,true,false,true,false],[(4,1,65)])]),
(43,[([true,true,true,true,false,true,false],[(7,1,65)])]),
(65,[([true,true,true,false,true,false],[(6,1,23)])]),
(80,[([true,true,true,false,true,false],[(4,1,65)])]),
(107,[([true,true,false,true,false],[(5,1,74)])]),
(114,[([true,true,true,false,true,false],[(5,1,34)]),
 ([true,true,true,false,true,false,false,true,false,false,false,false],[(5,1,34)])]),
(133,[([true,true,true,true,false,true,false],[(6,1,34)])]),
(164,[([true,true,true,true,true,true,true,false,true,false],[(8,1,23)])]),
(79,[([true,true,false,true,false],[(3,0,34)])]),
(82,[([true,true,true,true,false,true,false],[(7,0,34)])])]
noncomputable def nilF (f:Nat) (p:List Bool):List (Nat×Nat×TypeId):=match findA nilT f p with
 |some l=>l
 |none=>[]
def encP (p:Nat×Nat):List AV:=[vu (p.1:Int),vu (p.2:Int)]
def decP:List AV→Option (Nat×Nat)
 | [.val (.int .u64 (.ofNat a)),.val (.int .u64 (.ofNat b))]=>some (a,b)
 | _=>none
def ltP (x y:Nat×Nat):Bool:=decide (x.1<y.1)||(decide (x.1=y.1)&&decide (x.2<y.2))
def leP (x y:Nat×Nat):Bool:= !ltP y x
def encN (n:Int):List AV:=[vi n]
def decN:List AV→Option Int
 | [.val (.int .i64 a)]=>some a
 | _=>none
def leN (x y:Int):Bool:=decide (x≤y)
def sortP:List AV→List (List AV)→Option (List (List AV)):=sortZ (some 109) decP encP leP
def sortN:List AV→List (List AV)→Option (List (List AV)):=sortZ none decN encN leN
def sortPo:List AV→List (List AV)→Option (List (List AV)):=sortZ (some 134) decP encP leP
def sortPP (rest:List AV) (es:List (List AV)):Option (List (List AV)):=match sortP rest es with
 |some x=>some x
 |none=>sortPo rest es
def growP:List AV→Option (List (List AV))
 | [.val (.slice none 0 0),.val (.int .i64 n)]=>if 0≤n then(if n≤1000000000000 then some [] else none) else none
 | _=>none
def isU1:List AV→Bool
 | [.val (.int .u64 _)]=>true
 | _=>false
def collP (f:Nat):List AV→Option (List (List AV))
 | [.func (.func g) [] [.rop [.list _ 1 es]]]=>cond (Nat.beq g f) (if es.length≤1000000000000 then cond (es.all isU1) (some es) none else none) none
 | _=>none
def rulT (f:Nat):Option Rule:=bif Nat.beq f 138 then some (hasRule 134) else bif Nat.beq f 89 then some (checkRule 42 83 138) else none
def ownT:Nat→Option Own:=findF [(115,⟨1,.val (.int .u64 0),[⟨.box,9,1,0,[[.val (.string ⟨#[]⟩)]]⟩],false⟩),(125,⟨1,.arr 0 1 0 0,[⟨.arr,3,1,1,[]⟩],false⟩),(102,⟨0,.ptr 0 0 0 0,[⟨.box,140,2,0,[[.val (.string ⟨#[]⟩),.list 0 1 []]]⟩],false⟩),(103,⟨1,.val (.int .u64 0),[],true⟩),(135,⟨1,.arr 0 2 0 0,[⟨.arr,80,2,2,[]⟩],false⟩),(133,⟨0,.arr 0 2 0 0,[⟨.arr,80,2,2,[]⟩],false⟩),(161,⟨1,.tuple [],[⟨.arr,26,1,1,[]⟩],false⟩),(187,⟨1,.tuple [],[⟨.arr,26,1,1,[]⟩],false⟩),(197,⟨1,.tuple [],[⟨.arr,26,1,1,[]⟩],false⟩),(198,⟨1,.tuple [],[⟨.arr,26,1,1,[]⟩],false⟩),(199,⟨1,.tuple [],[⟨.arr,26,1,1,[]⟩],false⟩),(201,⟨1,.tuple [],[⟨.arr,26,1,1,[]⟩],false⟩),(208,⟨1,.tuple [],[⟨.arr,26,1,1,[]⟩],false⟩),(202,⟨1,vbool false,[⟨.arr,26,1,1,[]⟩],false⟩),(204,⟨1,vi 0,[⟨.arr,26,1,1,[]⟩],false⟩),(205,⟨1,.tuple [vi 0,vbool false],[⟨.arr,26,1,1,[]⟩],false⟩),(191,⟨1,.val (.int .u64 0),[],true⟩),(209,⟨1,vi 0,[],true⟩),(210,⟨1,vi 0,[],true⟩),(211,⟨1,.tuple [vi 0,vi 0],[],true⟩)]
def extT:Nat→Option ExtF:=findF [(113,.turn 34 sortPP),(158,.fresh 34 growP),(160,.fresh 65 (collP 162))]
def anyN (l:List Nat) (f:Nat):Bool:=l.any (Nat.beq f)
def eqT:TypeId→Bool:=anyN [80,31,28]
theorem eqT_ok (t:TypeId) (h:eqT t=true):Try.prog.eqGuardType Try.prog.depth t=false∧Try.prog.stoodInHeld t=false:=by
 unfold eqT anyN at h
 simp only [List.any_cons,List.any_nil,Bool.or_false,Bool.or_eq_true] at h
 rcases h with h |h |h<;>(have:=Nat.eq_of_beq_eq_true h;subst this;exact⟨by kernel_rfl,by kernel_rfl⟩)
def panT:Nat→Option TypeId:=findF [(188,202),(164,202),(99,175),(104,175),(144,175),(146,175),(97,175),(98,175),(102,175)]
def dfrT:Nat→Option Nat:=findF [(145,163),(26,96),(27,96),(29,96),(30,96)]
def fixT (f:Nat):Nat:=match findF (α:=Nat) [(145,3),(163,3),(26,2),(96,2),(27,2),(29,2),(30,2)] f with
 |some n=>n
 |none=>0
noncomputable def boxTab:List (Nat×List (List Bool×List (Nat×Bool×Nat×TypeId))):=[(145,[([true,true,true,false,true,false],[(7,true,0,58)])]),(55,[([true,true,false,true,false],[(7,true,1,23)])]),(66,[([true,true,true,false,true,false],[(6,true,1,23)])]),(132,[([true,true,false,true,false],[(5,true,1,23)])]),(45,[([true,true,false,true,false],[(2,true,1,34)])]),(49,[([true,true,true,true,true,false,false],[(2,true,1,34)])]),(50,[([true,true,true,false,true,false],[(4,true,1,34)])]),(46,[([true,true,true,false,true,false],[(6,false,1,34)])]),(37,[([true,true,false,true,false],[(5,true,1,34)])]),(88,[([true,true,true,false,true,false],[(6,false,1,34)])]),(93,[([true,true,false,true,false],[(4,true,1,34)])])]
noncomputable def boxT (f:Nat) (p:List Bool):List (Nat×Bool×Nat×TypeId):=match findA boxTab f p with
 |some l=>l
 |none=>[]
def madeT (d:Option Nat) (t:TypeId):Bool:=match d with
 |some 10=>Nat.beq t 74
 |some 44=>Nat.beq t 23
 | _=>false
noncomputable def xhTab:List (Nat×List (List Bool×(JX→Option (List Ob)))):=[(45,[([true,true,false,true,false],fun | .ret=>some [⟨.box,36,2,0,[[vbool false,.val (.slice none 0 0)]]⟩,⟨.dead,80,2,2,[]⟩] | _=>none)])]
noncomputable def xhT (f:Nat) (p:List Bool) (e:JX):Option (List Ob):=match findA xhTab f p with
 |some g=>g e
 |none=>none
noncomputable def xvTab:List (Nat×List (List Bool×(JX→Option (List AV)))):=[(125,[([true,true,false,true,false],fun | .ret=>some [.arr 0 1 0 0,vi 0] | _=>none)]),(42,[([true,true,false,true,false],fun | .ret=>some [.list 0 1 [],vbool false,vi 0] | _=>none)]),(135,[([true,true,false,true,false],fun | .ret=>some [.arr 0 2 0 0,vi 0] | _=>none)])]
noncomputable def xvT (f:Nat) (p:List Bool) (e:JX):Option (List AV):=match findA xvTab f p with
 |some g=>g e
 |none=>none
def ovrT (f:Nat):Option (List AV→Option AV):=  none
def GL:Nat→Option (List AV):=fun _=>none
noncomputable def cx:Cx:= { ovr:=ovrT,ptrs:=anyN [178],thaw:=fun _=>anyN [178],P:=Try.prog,G:=GL,ann:=findA annT,own:=ownT,ext:=extT,nils:=nilF,eqOk:=eqT,pans:=panT,dfr:=dfrT,fixn:=fixT,boxes:=boxT,made:=madeT,xheap:=xhT,xvals:=xvT,eq_ok:=eqT_ok,rows:=anyN [161],rul:=rulT,frz:=anyN [93],pur:=anyN [89] }
theorem cx_names:NamesOk cx.P:=by
 have h:(Try.prog.funcs.toList.all fun fn=> !(fn.name== "runtime.NumGoroutine"))=true:=by kernel_rfl
 intro f fn hf
 have hm:fn∈Try.prog.funcs.toList:=by
  have:fn∈Try.prog.funcs:=Array.mem_of_getElem? hf
  simpa using this
 have:=List.all_eq_true.1 h fn hm
 simpa using this
end Go.Proofs.Av
