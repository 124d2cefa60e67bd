/- The evaluator's pieces choose a value: what follows is asked at that value alone. -/
import Derived.Test.YtoepfmodbhfckaaAzB
namespace Go.Proofs.Av
open Go
variable {ρ:Type}
def Picks {α:Type}(X:(ρ:Type)→(α→Option ρ)→Option ρ) (a:α):Prop:=∀(ρ:Type) (c:α→Option ρ),X ρ c=c a
def Pk {α:Type}(X:(ρ:Type)→(α→Option ρ)→Option ρ):Prop:=∀(ρ:Type) (c:α→Option ρ) (r:ρ),X ρ c=some r→∃a,c a=some r∧Picks X a
theorem Pk.ret {α:Type}(a:α):Pk (fun _ρ c=>c a):=fun _ρ _c _r h=>⟨a,h,fun _ _=>rfl⟩
theorem Pk.none {α:Type}:Pk (α:=α) (fun _ρ _c=>Option.none):=fun ρ c r h=>by cases h
theorem Pk.obind {α β:Type}(x:Option β) {X:β→(ρ:Type)→(α→Option ρ)→Option ρ}(h:∀b,x=some b→Pk (X b)):Pk (fun ρ c=>x.bind fun b=>X b ρ c):=by
 intro ρ c r hr
 cases hx:x with
 |none=>simp [hx] at hr
 |some b =>
  simp only [hx,Option.bind_some] at hr
  obtain⟨a,h1,h2⟩:=h b hx ρ c r hr
  exact⟨a,h1,fun ρ' c'=>by simp only [Option.bind_some];exact h2 ρ' c'⟩
theorem Pk.bind {α β:Type}{Y:(ρ:Type)→(β→Option ρ)→Option ρ}{X:β→(ρ:Type)→(α→Option ρ)→Option ρ}(hY:Pk Y) (h:∀b,Pk (X b)):Pk (fun ρ c=>Y ρ fun b=>X b ρ c):=by
 intro ρ c r hr
 obtain⟨b,h1,h2⟩:=hY ρ _ r hr
 obtain⟨a,h3,h4⟩:=h b ρ c r h1
 exact⟨a,h3,fun ρ' c'=>by
  show Y ρ' (fun b=>X b ρ' c')=c' a
  rw [h2 ρ'];exact h4 ρ' c'⟩
theorem Pk.ite {α:Type}(p:Prop) [Decidable p] {X Y:(ρ:Type)→(α→Option ρ)→Option ρ}(hX:p→Pk X) (hY:¬p→Pk Y):Pk (fun ρ c=>if p then X ρ c else Y ρ c):=by
 by_cases hp:p
 ·simp only [hp,if_true];exact hX hp
 ·simp only [hp,if_false];exact hY hp
theorem Pk.cond {α:Type}(b:Bool) {X Y:(ρ:Type)→(α→Option ρ)→Option ρ}(hX:b=true→Pk X) (hY:b=false→Pk Y):Pk (fun ρ c=>cond b (X ρ c) (Y ρ c)):=by
 cases b
 ·exact hY rfl
 ·exact hX rfl
theorem Pk.optbind {α:Type}(x:Option α):Pk (fun _ρ c=>x.bind c):=by
 intro ρ c r hr
 cases hx:x with
 |none=>simp [hx] at hr
 |some a=>exact⟨a,by simpa [hx] using hr,fun _ _=>by simp []⟩
theorem normCell_pk (z:Sh) (v:AV):Pk (fun ρ c=>normCell (ρ:=ρ) z v c):=by
 unfold normCell
 cases z<;>first
  |exact Pk.obind _ fun _ _=>Pk.ret _
  |exact Pk.ret _
theorem normCells_pk:∀(zs:List Sh) (cs:List AV),Pk (fun ρ c=>normCells (ρ:=ρ) zs cs c)
 | [],cs=>by unfold normCells;exact Pk.obind _ fun _ _=>Pk.ret _
 |z::zs,cs=>by
  unfold normCells
  exact Pk.obind _ fun p _=>Pk.bind (normCell_pk z p.1) fun x=>Pk.bind (normCells_pk zs p.2) fun _=>Pk.ret _
theorem splitB_pk (v:AV):Pk (fun ρ c=>splitB (ρ:=ρ) v c):=by
 unfold splitB
 split
 ·exact Pk.cond _ (fun _=>Pk.ret _) fun _=>Pk.ret _
 ·exact Pk.ret _
theorem normZ_pk (z:Sv) (v:AV):Pk (fun ρ c=>normZ (ρ:=ρ) z v c):=by
 unfold normZ
 split
 ·exact Pk.obind _ fun cs _=>Pk.bind (normCells_pk _ cs) fun _=>Pk.ret _
 ·exact Pk.obind _ fun b _=>Pk.cond _ (fun _=>Pk.ret _) fun _=>Pk.ret _
 ·exact normCell_pk _ _
theorem normTup_pk:∀(zs:List Sv) (cs:List AV),Pk (fun ρ c=>normTup (ρ:=ρ) zs cs c)
 | [],cs=>by unfold normTup;exact Pk.obind _ fun _ _=>Pk.ret _
 |z::zs,cs=>by
  unfold normTup
  exact Pk.obind _ fun p _=>Pk.bind (normZ_pk z p.1) fun x=>Pk.bind (normTup_pk zs p.2) fun _=>Pk.ret _
theorem normR_pk (zs:Option (List Sv)) (z:Sv) (v:AV):Pk (fun ρ c=>normR (ρ:=ρ) zs z v c):=by
 unfold normR
 split
 ·exact Pk.obind _ fun vs _=>Pk.bind (normTup_pk _ vs) fun _=>Pk.ret _
 ·exact normZ_pk _ _
theorem normT_pk (z v:AV):Pk (fun ρ c=>normT (ρ:=ρ) z v c):=by
 unfold normT
 split<;>first
  |exact Pk.obind _ fun _ _=>Pk.ret _
  |exact Pk.obind _ fun _ _=>Pk.obind _ fun _ _=>Pk.ret _
  |exact Pk.ret _
theorem normTs_pk:∀(zs:List AV) (cs:List AV),Pk (fun ρ c=>normTs (ρ:=ρ) zs cs c)
 | [],cs=>by unfold normTs;exact Pk.obind _ fun _ _=>Pk.ret _
 |z::zs,cs=>by
  unfold normTs
  exact Pk.obind _ fun p _=>Pk.bind (normT_pk z p.1) fun x=>Pk.bind (normTs_pk zs p.2) fun _=>Pk.ret _
theorem normN_pk (z v:AV):Pk (fun ρ c=>normN (ρ:=ρ) z v c):=by
 unfold normN
 split
 ·exact Pk.obind _ fun _ _=>Pk.ret _
 ·exact normT_pk _ _
theorem normNs_pk:∀(zs:List AV) (cs:List AV),Pk (fun ρ c=>normNs (ρ:=ρ) zs cs c)
 | [],cs=>by unfold normNs;exact Pk.obind _ fun _ _=>Pk.ret _
 |z::zs,cs=>by
  unfold normNs
  exact Pk.obind _ fun p _=>Pk.bind (normN_pk z p.1) fun x=>Pk.bind (normNs_pk zs p.2) fun _=>Pk.ret _
theorem normA_pk (z v:AV):Pk (fun ρ c=>normA (ρ:=ρ) z v c):=by
 unfold normA
 split
 ·exact Pk.obind _ fun cs _=>Pk.bind (normTs_pk _ cs) fun _=>Pk.ret _
 ·exact normT_pk _ _
theorem normAs_pk:∀(zs:List AV) (cs:List AV),Pk (fun ρ c=>normAs (ρ:=ρ) zs cs c)
 | [],cs=>by unfold normAs;exact Pk.obind _ fun _ _=>Pk.ret _
 |z::zs,cs=>by
  unfold normAs
  exact Pk.obind _ fun p _=>Pk.bind (normA_pk z p.1) fun x=>Pk.bind (normAs_pk zs p.2) fun _=>Pk.ret _
theorem normOb_pk (z o:Ob):Pk (fun ρ c=>normOb (ρ:=ρ) z o c):=by
 unfold normOb
 refine Pk.obind _ fun _ _=>Pk.obind _ fun _ _=> ?_
 split
 ·exact Pk.ret _
 ·split
  ·split
   ·exact Pk.ret _
   ·exact Pk.obind _ fun p _=>Pk.obind _ fun _ _=>Pk.bind (normNs_pk _ _) fun _=>Pk.ret _
  ·exact Pk.ret _
theorem normHeap_pk:∀(zs h:Heap),Pk (fun ρ c=>normHeap (ρ:=ρ) zs h c)
 | [],cs=>by unfold normHeap;exact Pk.obind _ fun _ _=>Pk.ret _
 |z::zs,cs=>by
  unfold normHeap
  exact Pk.obind _ fun p _=>Pk.bind (normOb_pk z p.1) fun x=>Pk.bind (normHeap_pk zs p.2) fun _=>Pk.ret _
theorem ibin_pk (op:BinOp) (k:IntKind) (x y:Int):Pk (fun ρ c=>ibin (ρ:=ρ) op k x y c):=by
 unfold ibin
 cases op<;>first
  |exact Pk.ret _
  |exact Pk.none
  |exact Pk.ite _ (fun _=>Pk.none) fun _=>Pk.ret _
theorem sbin_pk (op:BinOp) (x y:ByteArray):Pk (fun ρ c=>sbin (ρ:=ρ) op x y c):=by
 unfold sbin
 cases op<;>first
  |exact Pk.ret _
  |exact Pk.none
  |exact Pk.ite _ (fun _=>Pk.none) fun _=>Pk.ret _
theorem binV_pk (cx:Cx) (op:BinOp) (t:TypeId) (x y:AV):Pk (fun ρ c=>binV (ρ:=ρ) cx op t x y c):=by
 unfold binV
 split
 ·split
  ·exact Pk.ite _ (fun _=>Pk.none) fun _=>Pk.ret _
  ·exact Pk.ite _ (fun _=>Pk.none) fun _=>Pk.ret _
  ·exact Pk.ite _ (fun _=>ibin_pk _ _ _ _) fun _=>Pk.none
 ·exact sbin_pk _ _ _
 ·refine Pk.obind _ fun d _=> ?_
  split
  ·split<;>first |exact Pk.ret _ |exact Pk.none
  ·exact Pk.none
 ·exact Pk.none
theorem unV_pk (op:UnOp) (x:AV):Pk (fun ρ c=>unV (ρ:=ρ) op x c):=by
 unfold unV
 split<;>first |exact Pk.ret _ |exact Pk.none
theorem convV_pk (cx:Cx) (s d:TypeId) (x:AV):Pk (fun ρ c=>convV (ρ:=ρ) cx s d x c):=by
 unfold convV
 refine Pk.obind _ fun _ _=>Pk.obind _ fun _ _=> ?_
 split<;>first |exact Pk.ret _ |exact Pk.none
theorem cellsAt_pk (cx:Cx) (h:Heap) (p:AV):Pk (fun ρ c=>cellsAt (ρ:=ρ) cx h p c):=by
 unfold cellsAt
 split
 ·exact Pk.ret _
 ·refine Pk.obind _ fun o _=>Pk.obind _ fun _ _=>Pk.obind _ fun cs _=> ?_
  split
  ·exact Pk.obind _ fun z _=>Pk.bind (normCells_pk _ _) fun _=>Pk.ret _
  ·exact Pk.ret _
 ·exact Pk.none
theorem loadC_pk (cx:Cx) (t:TypeId) (cs:List AV):Pk (fun ρ c=>loadC (ρ:=ρ) cx t cs c):=by
 unfold loadC
 refine Pk.obind _ fun b _=> ?_
 split
 ·exact Pk.obind _ fun n _=>Pk.obind _ fun r _=>Pk.ret _
 ·exact Pk.obind _ fun p _=>Pk.ret _
theorem addOff_pk (p:AV) (d:Nat):Pk (fun ρ c=>addOff (ρ:=ρ) p d c):=by
 unfold addOff
 split<;>first |exact Pk.ret _ |exact Pk.none
theorem rowOff_pk (h:Heap) (x:AV) (n s:Nat):Pk (fun ρ c=>rowOff (ρ:=ρ) h x n s c):=by
 unfold rowOff
 split
 ·exact Pk.obind _ fun _ _=>Pk.obind _ fun _ _=>Pk.ret _
 ·exact Pk.none
theorem indexAddrV_pk (cx:Cx) (h:Heap) (t:TypeId) (x ix:AV):Pk (fun ρ c=>indexAddrV (ρ:=ρ) cx h t x ix c):=by
 unfold indexAddrV
 split
 ·refine Pk.obind _ fun d _=> ?_
  split
  ·exact Pk.ite _ (fun _=>Pk.ite _ (fun _=>Pk.obind _ fun _ _=>Pk.cond _ (fun _=>rowOff_pk _ _ _ _) fun _=>addOff_pk _ _) fun _=>Pk.none) fun _=>Pk.none
  ·split
   ·exact Pk.ite _ (fun _=>Pk.obind _ fun _ _=>Pk.obind _ fun _ _=>Pk.obind _ fun _ _=>Pk.bind (normCells_pk _ _) fun _=>Pk.ret _) fun _=>Pk.none
   ·exact Pk.ite _ (fun _=>Pk.ite _ (fun _=>Pk.obind _ fun _ _=>Pk.obind _ fun _ _=>Pk.obind _ fun _ _=>Pk.ret _) fun _=>Pk.none) fun _=>Pk.none
   ·exact Pk.none
  ·exact Pk.none
 ·exact Pk.none
theorem indexV_pk (cx:Cx) (t:TypeId) (x ix:AV):Pk (fun ρ c=>indexV (ρ:=ρ) cx t x ix c):=by
 unfold indexV
 split
 ·refine Pk.obind _ fun d _=> ?_
  split
  ·refine Pk.ite _ (fun _=>Pk.ite _ (fun _=>Pk.obind _ fun _ _=>Pk.obind _ fun b _=> ?_) fun _=>Pk.none) fun _=>Pk.none
   cases b
   ·exact Pk.obind _ fun v _=>Pk.bind (normCells_pk _ _) fun _=>Pk.ret _
   ·exact Pk.obind _ fun r _=>Pk.bind (normCells_pk _ _) fun _=>Pk.ret _
  ·exact Pk.ite _ (fun _=>Pk.obind _ fun _ _=>Pk.ret _) fun _=>Pk.none
  ·exact Pk.none
 ·exact Pk.none
theorem spliceK_pk:∀(cs:List AV) (n:Nat) (vs:List AV),Pk (fun ρ c=>spliceK (ρ:=ρ) cs n vs c)
 |cs,0,[]=>by cases cs<;>(simp only [spliceK];exact Pk.ret _)
 |x::cs,0,v::vs=>by simp only [spliceK];exact Pk.bind (spliceK_pk cs 0 vs) fun _=>Pk.ret _
 |x::cs,n+1,vs=>by simp only [spliceK];exact Pk.bind (spliceK_pk cs n vs) fun _=>Pk.ret _
 | [],0,v::vs=>by simp only [spliceK];exact Pk.none
 | [],n+1,vs=>by simp only [spliceK];exact Pk.none
theorem rowsP_pk (s:Nat):∀(ps:List (Nat×AV)) (i:Nat),Pk (fun ρ c=>rowsP (ρ:=ρ) s i ps c)
 | [],i=>by simp only [rowsP];exact Pk.ret _
 | (j,v)::ps,i=>by
  simp only [rowsP]
  split
  ·exact Pk.bind (rowsP_pk s ps (i+1)) fun _=>Pk.ret _
  ·exact Pk.none
theorem fillA_pk (place:Nat→Option (Nat×Nat)):∀(ps:List (Nat×AV)) (cs:List AV),Pk (fun ρ c=>fillA (ρ:=ρ) place ps cs c)
 | [],cs=>by simp only [fillA];exact Pk.ret _
 | (i,v)::rest,cs=>by
  simp only [fillA]
  refine Pk.obind _ fun p _=> ?_
  split
  ·exact Pk.bind (spliceK_pk _ _ _) fun _=>fillA_pk place rest _
  ·exact Pk.none
theorem buildV_pk (cx:Cx) (t:TypeId) (ps:List (Nat×AV)):Pk (fun ρ c=>buildV (ρ:=ρ) cx t ps c):=by
 unfold buildV
 refine Pk.obind _ fun z _=>Pk.obind _ fun d _=> ?_
 split
 ·exact Pk.obind _ fun _ _=>Pk.bind (fillA_pk _ _ _) fun _=>Pk.ret _
 ·exact Pk.obind _ fun _ _=>Pk.bind (fillA_pk _ _ _) fun _=>Pk.ret _
 ·exact Pk.none
theorem boundV_pk (x:AV) (y:Nat):Pk (fun ρ c=>boundV (ρ:=ρ) x y c):=by
 unfold boundV
 split
 ·exact Pk.ite _ (fun _=>Pk.ite _ (fun _=>Pk.ret _) fun _=>Pk.none) fun _=>Pk.none
 ·exact Pk.none
theorem boundO_pk (x:Option AV) (y d:Nat):Pk (fun ρ c=>boundO (ρ:=ρ) x y d c):=by
 unfold boundO
 split
 ·exact boundV_pk _ _
 ·exact Pk.ret _
theorem sliceV_pk (cx:Cx) (t:TypeId) (x:AV) (lo hi mx:Option AV):Pk (fun ρ c=>sliceV (ρ:=ρ) cx t x lo hi mx c):=by
 unfold sliceV
 refine Pk.obind _ fun d _=> ?_
 split
 ·exact Pk.bind (boundO_pk _ _ _) fun _=>Pk.bind (boundO_pk _ _ _) fun _=>Pk.ret _
 ·exact Pk.obind _ fun _ _=>Pk.obind _ fun _ _=>Pk.bind (boundO_pk _ _ _) fun _=>Pk.bind (boundO_pk _ _ _) fun _=>Pk.ret _
 ·exact Pk.obind _ fun _ _=>Pk.obind _ fun _ _=>Pk.bind (boundO_pk _ _ _) fun _=>Pk.bind (boundO_pk _ _ _) fun _=>Pk.ret _
 ·exact Pk.obind _ fun _ _=>Pk.obind _ fun _ _=>Pk.bind (boundV_pk _ _) fun _=>Pk.bind (boundV_pk _ _) fun _=>Pk.bind (boundO_pk _ _ _) fun _=>Pk.ret _
 ·exact Pk.none
theorem lenV_pk (cx:Cx) (t:TypeId) (x:AV):Pk (fun ρ c=>lenV (ρ:=ρ) cx t x c):=by
 unfold lenV
 refine Pk.obind _ fun d _=> ?_
 split<;>first |exact Pk.ret _ |exact Pk.none
theorem builtinV_pk (cx:Cx) (b:Builtin) (ts:List TypeId) (args:List AV):Pk (fun ρ c=>builtinV (ρ:=ρ) cx b ts args c):=by
 unfold builtinV
 split
 ·split
  ·exact lenV_pk _ _ _
  ·exact Pk.none
 ·exact Pk.ret _
 ·exact Pk.ret _
 ·exact Pk.none
theorem nilEq_pk (cx:Cx) (op:BinOp) (t:TypeId) (b:Bool):Pk (fun ρ c=>nilEq (ρ:=ρ) cx op t b c):=by
 unfold nilEq
 refine Pk.obind _ fun d _=> ?_
 split
 ·refine Pk.cond _ (fun _=> ?_) fun _=>Pk.none
  split<;>first |exact Pk.ret _ |exact Pk.none
 ·exact Pk.none
theorem assertV_pk (cx:Cx) (t:TypeId) (ok:Bool) (x:AV):Pk (fun ρ c=>assertV (ρ:=ρ) cx t ok x c):=by
 unfold assertV
 refine Pk.obind _ fun d _=> ?_
 split
 ·exact Pk.none
 ·split
  ·exact Pk.cond _ (fun _=>Pk.cond _ (fun _=>Pk.ret _) fun _=>Pk.ret _) fun _=>Pk.cond _ (fun _=>Pk.obind _ fun _ _=>Pk.ret _) fun _=>Pk.none
  ·exact Pk.cond _ (fun _=>Pk.obind _ fun _ _=>Pk.ret _) fun _=>Pk.none
  ·exact Pk.none
theorem binW_pk (cx:Cx) (op:BinOp) (t:TypeId) (x y:AV):Pk (fun ρ c=>binW (ρ:=ρ) cx op t x y c):=by
 unfold binW
 split
 ·refine Pk.cond _ (fun _=>Pk.obind _ fun b _=> ?_) fun _=>Pk.none
  split<;>first |exact Pk.ret _ |exact Pk.none
 ·exact nilEq_pk _ _ _ _
 ·exact nilEq_pk _ _ _ _
 ·exact binV_pk _ _ _ _ _
theorem bytesV_pk (cx:Cx) (h:Heap) (s d:TypeId) (x:AV):Pk (fun ρ c=>bytesV (ρ:=ρ) cx h s d x c):=by
 unfold bytesV
 refine Pk.obind _ fun d1 _=> ?_
 split
 ·refine Pk.obind _ fun d2 _=> ?_
  split
  ·refine Pk.obind _ fun d3 _=> ?_
   split
   ·exact Pk.obind _ fun _ _=>Pk.obind _ fun _ _=>Pk.ret _
   ·exact Pk.none
  ·exact Pk.none
 ·exact Pk.none
theorem convH_pk (cx:Cx) (h:Heap) (s d:TypeId) (x:AV):Pk (fun ρ c=>convH (ρ:=ρ) cx h s d x c):=by
 unfold convH
 split
 ·exact bytesV_pk _ _ _ _ _
 ·exact bytesV_pk _ _ _ _ _
 ·exact convV_pk _ _ _ _
theorem evalA_pk (cx:Cx) (op:Op) (env:Env) (h:Heap):Pk (fun ρ c=>evalA (ρ:=ρ) cx op env h c):=by
 unfold evalA
 split
 ·exact Pk.optbind _
 ·exact Pk.optbind _
 ·refine Pk.obind _ fun v _=> ?_
  split
  ·exact Pk.cond _ (fun _=>Pk.optbind _) fun _=>Pk.optbind _
  ·exact Pk.none
 ·exact Pk.obind _ fun p _=>Pk.bind (cellsAt_pk _ _ _) fun _=>loadC_pk _ _ _
 ·refine Pk.obind _ fun v _=> ?_
  split<;>first |exact Pk.ret _ |exact Pk.none
 ·exact Pk.obind _ fun _ _=>Pk.obind _ fun _ _=>Pk.bind (binW_pk _ _ _ _ _) fun _=>splitB_pk _
 ·exact Pk.obind _ fun _ _=>Pk.bind (unV_pk _ _) fun _=>splitB_pk _
 ·exact Pk.obind _ fun _ _=>convH_pk _ _ _ _ _
 ·refine Pk.obind _ fun _ _=>Pk.obind _ fun _ _=> ?_
  split
  ·exact Pk.none
  ·exact Pk.ret _
 ·exact Pk.obind _ fun _ _=>Pk.obind _ fun _ _=>Pk.ret _
 ·exact Pk.obind _ fun _ _=>buildV_pk _ _ _
 ·exact Pk.obind _ fun _ _=>Pk.obind _ fun _ _=>Pk.obind _ fun _ _=>Pk.obind _ fun _ _=>sliceV_pk _ _ _ _ _ _
 ·refine Pk.obind _ fun _ _=>Pk.obind _ fun _ _=> ?_
  split
  ·refine Pk.obind _ fun _ _=>Pk.obind _ fun _ _=> ?_
   split
   ·exact Pk.none
   ·exact addOff_pk _ _
  ·exact Pk.none
 ·refine Pk.obind _ fun _ _=>Pk.obind _ fun _ _=> ?_
  split
  ·exact Pk.obind _ fun _ _=>loadC_pk _ _ _
  ·exact Pk.none
 ·exact Pk.obind _ fun _ _=>Pk.obind _ fun _ _=>indexAddrV_pk _ _ _ _ _
 ·exact Pk.obind _ fun _ _=>Pk.obind _ fun _ _=>indexV_pk _ _ _ _
 ·refine Pk.obind _ fun _ _=> ?_
  split
  ·exact Pk.optbind _
  ·exact Pk.none
 ·exact Pk.obind _ fun _ _=>assertV_pk _ _ _ _
 ·exact Pk.obind _ fun _ _=>builtinV_pk _ _ _ _
 ·exact Pk.none
theorem storeV_pk (cx:Cx) (t:TypeId) (p x:AV) (h:Heap):Pk (fun ρ c=>storeV (ρ:=ρ) cx t p x h c):=by
 unfold storeV
 split
 ·refine Pk.obind _ fun _ _=>Pk.obind _ fun _ _=>Pk.obind _ fun _ _=>Pk.obind _ fun _ _=> ?_
  split
  ·split
   ·split
    ·exact Pk.bind (spliceK_pk _ _ _) fun _=>Pk.ret _
    ·exact Pk.none
   ·split
    ·exact Pk.obind _ fun _ _=>Pk.bind (normCells_pk _ _) fun _=>Pk.bind (spliceK_pk _ _ _) fun _=>Pk.ret _
    ·exact Pk.none
   ·exact Pk.none
   ·exact Pk.none
  ·exact Pk.none
 ·exact Pk.none
theorem makeV_pk (cx:Cx) (t:TypeId) (lv cv:AV) (h:Heap):Pk (fun ρ (c:AV×Heap→Option ρ)=>makeV (ρ:=ρ) cx t lv cv h fun v h=>c (v,h)):=by
 unfold makeV
 refine Pk.obind _ fun q _=> ?_
 split
 ·exact Pk.ite _ (fun _=>Pk.ite _ (fun _=>Pk.ite _ (fun _=>Pk.ret _) fun _=>Pk.none) fun _=>Pk.none) fun _=>Pk.none
 ·exact Pk.none
theorem appFin_pk (q:TypeId×Nat×List AV×Nat) (h:Heap) (kill:Option Nat) (es ys:List (List AV)):Pk (fun ρ (c:AV×Heap→Option ρ)=>appFin (ρ:=ρ) q h kill es ys fun v h=>c (v,h)):=by
 unfold appFin
 exact Pk.ite _ (fun _=>Pk.ret _) fun _=>Pk.none
theorem appendV_pk (cx:Cx) (t1 t2:TypeId) (x y:AV) (h:Heap):Pk (fun ρ (c:AV×Heap→Option ρ)=>appendV (ρ:=ρ) cx t1 t2 x y h fun v h=>c (v,h)):=by
 unfold appendV
 refine Pk.obind _ fun q _=>Pk.obind _ fun ys _=>Pk.cond _ (fun _=> ?_) fun _=>Pk.none
 split
 ·exact appFin_pk _ _ _ _ _
 ·refine Pk.obind _ fun _ _=>Pk.obind _ fun o _=>Pk.obind _ fun _ _=>Pk.obind _ fun _ _=>Pk.obind _ fun _ _=> ?_
  split
  ·exact Pk.obind _ fun _ _=>appFin_pk _ _ _ _ _
  ·exact Pk.none
 ·exact Pk.none
theorem copyV_pk (cx:Cx) (t1:TypeId) (x y:AV) (h:Heap):Pk (fun ρ (c:AV×Heap→Option ρ)=>copyV (ρ:=ρ) cx t1 x y h fun v h=>c (v,h)):=by
 unfold copyV
 refine Pk.obind _ fun q _=>Pk.obind _ fun ys _=>Pk.cond _ (fun _=> ?_) fun _=>Pk.none
 split
 ·refine Pk.obind _ fun o _=>Pk.obind _ fun _ _=>Pk.obind _ fun _ _=> ?_
  split
  ·exact Pk.obind _ fun _ _=>Pk.ret _
  ·exact Pk.none
 ·exact Pk.none
theorem clearV_pk (cx:Cx) (t1:TypeId) (x:AV) (h:Heap):Pk (fun ρ (c:AV×Heap→Option ρ)=>clearV (ρ:=ρ) cx t1 x h fun v h=>c (v,h)):=by
 unfold clearV
 refine Pk.obind _ fun q _=> ?_
 split
 ·refine Pk.obind _ fun o _=>Pk.obind _ fun _ _=>Pk.obind _ fun _ _=> ?_
  split
  ·exact Pk.obind _ fun _ _=>Pk.cond _ (fun _=>Pk.ret _) fun _=>Pk.none
  ·exact Pk.none
 ·exact Pk.none
theorem bins_pk (cx:Cx) (b:Builtin) (ts:List TypeId) (vs:List AV) (h:Heap):Pk (fun ρ (c:AV×Heap→Option ρ)=>bins (ρ:=ρ) cx b ts vs h fun v h=>c (v,h)):=by
 unfold bins
 split
 ·split
  ·exact clearV_pk _ _ _ _
  ·exact Pk.none
 ·split
  ·exact appendV_pk _ _ _ _ _ _
  ·exact copyV_pk _ _ _ _ _
  ·exact Pk.none
 ·exact Pk.none
theorem cloneV_pk (cx:Cx) (t:TypeId) (args:List AV) (h:Heap):Pk (fun ρ (c:AV×Heap→Option ρ)=>cloneV (ρ:=ρ) cx t args h fun v h=>c (v,h)):=by
 unfold cloneV
 split
 ·exact Pk.obind _ fun q _=>Pk.obind _ fun ys _=>Pk.cond _ (fun _=>appFin_pk _ _ _ _ _) fun _=>Pk.none
 ·exact Pk.none
theorem freshV_pk (cx:Cx) (t:TypeId) (Y:List AV→Option (List (List AV))) (args:List AV) (h:Heap):Pk (fun ρ (c:AV×Heap→Option ρ)=>freshV (ρ:=ρ) cx t Y args h fun v h=>c (v,h)):=by
 unfold freshV
 exact Pk.obind _ fun q _=>Pk.obind _ fun ys _=>Pk.cond _ (fun _=>appFin_pk _ _ _ _ _) fun _=>Pk.none
theorem turnV_pk (cx:Cx) (t:TypeId) (Z:List AV→List (List AV)→Option (List (List AV))) (args:List AV) (h:Heap):Pk (fun ρ (c:AV×Heap→Option ρ)=>turnV (ρ:=ρ) cx t Z args h fun v h=>c (v,h)):=by
 unfold turnV
 split
 ·refine Pk.obind _ fun q _=> ?_
  split
  ·exact Pk.obind _ fun _ _=>Pk.ret (α:=AV×Heap) (_,_)
  ·refine Pk.obind _ fun o _=>Pk.obind _ fun _ _=>Pk.obind _ fun _ _=> ?_
   split
   ·exact Pk.obind _ fun _ _=>Pk.ite _ (fun _=>Pk.obind _ fun zs _=>Pk.ret (α:=AV×Heap) (_,_)) fun _=>Pk.none
   ·exact Pk.none
  ·exact Pk.none
 ·exact Pk.none
theorem extV_pk (cx:Cx) (e:ExtF) (fv:AV) (args:List AV) (h:Heap):Pk (fun ρ (c:AV×Heap→Option ρ)=>extV (ρ:=ρ) cx e fv args h fun v h=>c (v,h)):=by
 unfold extV
 refine Pk.obind _ fun p _=> ?_
 cases e with
 |clone t=>exact cloneV_pk _ _ _ _
 |turn t Z=>exact turnV_pk _ _ _ _ _
 |fresh t Y=>exact freshV_pk _ _ _ _ _
theorem normO_pk (z v:AV):Pk (fun ρ c=>normO (ρ:=ρ) z v c):=by
 unfold normO
 split
 ·exact Pk.obind _ fun _ _=>Pk.bind (normAs_pk _ _) fun _=>Pk.ret _
 ·exact Pk.obind _ fun _ _=>Pk.ret _
 ·exact normA_pk _ _
theorem coerceB_pk (cx:Cx):∀(l:List (Nat×Bool×Nat×TypeId)) (env:Env) (h:Heap),Pk (fun ρ c=>coerceB (ρ:=ρ) cx l env h c)
 | [],env,h=>Pk.ret _
 | (s,a,d,t)::r,env,h=>by
  simp only [coerceB]
  refine Pk.obind _ fun v _=> ?_
  split
  ·refine Pk.obind _ fun o _=>Pk.obind _ fun _ _=>Pk.obind _ fun cs _=>Pk.obind _ fun x _=> ?_
   split
   ·refine Pk.obind _ fun q _=> ?_
    split
    ·exact Pk.cond _ (fun _=>coerceB_pk cx r _ _) fun _=>coerceB_pk cx r _ _
    ·exact Pk.none
   ·exact coerceB_pk cx r _ _
  ·exact Pk.none
theorem coerceN_pk (cx:Cx):∀(l:List (Nat×Nat×TypeId)) (env:Env) (h:Heap),Pk (fun ρ (c:Env×Heap→Option ρ)=>coerceN (ρ:=ρ) cx l env h fun e h=>c (e,h))
 | [],env,h=>by simp only [coerceN];exact Pk.ret _
 | (s,b,t)::r,env,h=>by
  simp only [coerceN]
  refine Pk.obind _ fun v _=> ?_
  split
  ·refine Pk.obind _ fun q _=> ?_
   split<;>exact coerceN_pk cx r _ _
  ·split
   ·refine Pk.obind _ fun x _=> ?_
    split
    ·exact Pk.obind _ fun q _=>coerceN_pk cx r _ _
    ·exact coerceN_pk cx r _ _
   ·exact coerceN_pk cx r _ _
  ·split
   ·exact Pk.obind _ fun x _=>coerceN_pk cx r _ _
   ·exact coerceN_pk cx r _ _
  ·exact coerceN_pk cx r _ _
theorem putK_pk (N:Nat) (d:Option Tmp) (v:AV) (env:Env):Pk (fun ρ c=>putK (ρ:=ρ) N d v env c):=by
 unfold putK
 split
 ·exact Pk.ret _
 ·split
  ·exact Pk.ret _
  ·exact Pk.none
theorem thawB_pk (env:Env):∀(l:List (Nat×Nat)) (h:Heap),Pk (fun ρ c=>thawB (ρ:=ρ) env l h c)
 | [],h=>Pk.ret _
 | (s,j)::r,h=>by
  simp only [thawB]
  refine Pk.obind _ fun v _=> ?_
  split
  ·refine Pk.obind _ fun o _=> ?_
   split
   ·split
    ·exact Pk.obind _ fun x _=>Pk.obind _ fun p _=>thawB_pk env r _
    ·exact Pk.none
   ·exact Pk.none
  ·exact Pk.none
end Go.Proofs.Av
