/- The evaluator's limit: what comes of some number of rounds comes of more; the equation by which it is unfolded. -/
import Derived.Test.YtoepfmodbhfckaaAzC
namespace Go.Proofs.Av
open Go
open Option renaming bind_some→χ
variable {ρ:Type}
def Lim (F:EF) (G:Nat→EF):Prop:=∀key args h r,F key args h=some r→∃n,∀m,n≤m→G m key args h=some r
section
variable {F:EF}{G:Nat→EF}{α β:Type}
def PkL (F:EF) (G:Nat→EF) (X:EF→(ρ:Type)→(α→Option ρ)→Option ρ):Prop :=
 ∀(ρ:Type) (c:α→Option ρ) (r:ρ),X F ρ c=some r→∃a,c a=some r∧Picks (X F) a∧∃n,∀m,n≤m→Picks (X (G m)) a
theorem PkL.const {Y:(ρ:Type)→(α→Option ρ)→Option ρ}(h:Pk Y):PkL F G (fun _=>Y):=fun ρ c r hr =>
 let ⟨a,h1,h2⟩:=h ρ c r hr
 ⟨a,h1,h2,0,fun _ _=>h2⟩
theorem PkL.ret (a:α):PkL F G (fun _ _ρ c=>c a):=PkL.const (Pk.ret a)
theorem PkL.none:PkL (α:=α) F G (fun _ _ρ _c=>Option.none):=PkL.const Pk.none
theorem PkL.bind {Y:EF→(ρ:Type)→(β→Option ρ)→Option ρ}{X:β→EF→(ρ:Type)→(α→Option ρ)→Option ρ}(hY:PkL F G Y) (h:∀b,PkL F G (X b)):PkL F G (fun F ρ c=>Y F ρ fun b=>X b F ρ c):=by
 intro ρ c r hr
 obtain⟨b,h1,h2,n1,h3⟩:=hY ρ _ r hr
 obtain⟨a,h4,h5,n2,h6⟩:=h b ρ c r h1
 refine⟨a,h4,fun ρ' c'=> ?_,max n1 n2,fun m hm ρ' c'=> ?_⟩
 ·show Y F ρ' (fun b=>X b F ρ' c')=c' a
  rw [h2 ρ'];exact h5 ρ' c'
 ·show Y (G m) ρ' (fun b=>X b (G m) ρ' c')=c' a
  rw [h3 m (by omega) ρ'];exact h6 m (by omega) ρ' c'
theorem PkL.obind (x:Option β) {X:β→EF→(ρ:Type)→(α→Option ρ)→Option ρ}(h:∀b,x=some b→PkL F G (X b)):PkL F G (fun F ρ c=>x.bind fun b=>X b F ρ c):=by
 intro ρ c r hr
 cases hx:x with
 |none=>simp [hx] at hr
 |some b =>
  simp only [hx,χ] at hr
  obtain⟨a,h1,h2,n,h3⟩:=h b hx ρ c r hr
  exact⟨a,h1,fun ρ' c'=>by simp only [χ];exact h2 ρ' c',n,fun m hm ρ' c'=>by simp only [χ];exact h3 m hm ρ' c'⟩
theorem PkL.cond (b:Bool) {X Y:EF→(ρ:Type)→(α→Option ρ)→Option ρ}(hX:b=true→PkL F G X) (hY:b=false→PkL F G Y):PkL F G (fun F ρ c=>cond b (X F ρ c) (Y F ρ c)):=by
 cases b
 ·exact hY rfl
 ·exact hX rfl
theorem PkL.optbind (x:Option α):PkL F G (fun _ _ρ c=>x.bind c):=PkL.const (Pk.optbind x)
theorem PkL.ask (hF:Lim F G) (key:Key) (args:List AV) (h:Heap):PkL F G (fun F _ρ c=>(F key args h).bind c):=by
 intro ρ c r hr
 cases hx:F key args h with
 |none=>simp [hx] at hr
 |some a =>
  obtain⟨n,hn⟩:=hF key args h a hx
  exact⟨a,by simpa [hx] using hr,fun ρ' c'=>by simp [hx],n,fun m hm ρ' c'=>by simp [hn m hm]⟩
theorem jsel_pkl (e:JX) {X:JX→EF→(ρ:Type)→(α→Option ρ)→Option ρ}(h:∀e,PkL F G (X e)):∀(l:List JX),PkL F G (fun F ρ c=>jsel e (fun e=>X e F ρ c) l)
 | []=>by simp only [jsel];exact PkL.none
 |x::xs=>by simp only [jsel];exact PkL.cond _ (fun _=>h x) fun _=>jsel_pkl e h xs
theorem loopX_pkl (cx:Cx) (f:FuncId) (e:JX) {X:JX→EF→(ρ:Type)→(α→Option ρ)→Option ρ}(h:∀e,PkL F G (X e)) (l:List JX):PkL F G (fun F ρ c=>loopX cx f e (fun e=>X e F ρ c) l):=by
 unfold loopX
 split
 ·exact jsel_pkl e h l
 ·exact PkL.cond _ (fun _=>PkL.obind _ fun x _=>PkL.bind (PkL.const (normZ_pk _ x)) fun x=>PkL.cond _ (fun _=>h _) fun _=>PkL.none) fun _=>jsel_pkl e h l
theorem iterN_pkl (ls:List Nat) {st:EF→(ρ:Type)→Env→Heap→(JX→Env→Heap→Option ρ)→Option ρ}
  (h:∀env hp,PkL F G (fun F ρ (c:JX×Env×Heap→Option ρ)=>st F ρ env hp fun e env h=>c (e,env,h))) :
  ∀(n:Nat) (env:Env) (hp:Heap),PkL F G (fun F ρ (c:JX×Env×Heap→Option ρ)=>iterN ls (st F ρ) n env hp fun e env h=>c (e,env,h))
 | 0,env,hp=>by simp only [iterN];exact PkL.none
 |n+1,env,hp=>by
  simp only [iterN]
  refine PkL.bind (h env hp) (X:=fun x F ρ c=>match x.1 with
   | .normal=>(getAll x.2.1 ls).bind fun vs=>iterN ls (st F ρ) n (ls.zip vs) x.2.2 fun e env h=>c (e,env,h)
   |e=>c (e,x.2.1,x.2.2)) fun x=> ?_
  obtain⟨e,env',hp'⟩:=x
  cases e
  case normal=>exact PkL.obind _ fun vs _=>iterN_pkl ls h n _ _
  all_goals exact PkL.ret _
theorem putBack_pkl (d:Option Nat) (e1 env:Env):PkL F G (fun _F ρ (c:Env→Option ρ)=>putBack d e1 env c):=by
 unfold putBack
 cases d with
 |none=>exact PkL.ret _
 |some d=>exact PkL.obind _ fun v _=>PkL.ret _
theorem onN_pkl (e:JX) {X:EF→(ρ:Type)→(α→Option ρ)→Option ρ}(h:PkL F G X):PkL F G (fun F ρ c=>onN e (X F ρ c)):=by
 cases e
 case normal=>exact h
 all_goals exact PkL.none
variable (hF:Lim F G)
include hF
theorem callV_pkl (cx:Cx) (q:Bool) (t:TypeId) (fv:AV) (args:List AV) (h:Heap):PkL F G (fun F ρ c=>callV (ρ:=ρ) cx F q t fv args h c):=by
 unfold callV
 refine PkL.obind _ fun g _=>PkL.obind _ fun as _=>PkL.obind _ fun p _=>PkL.bind (Y:=fun F ρ c=>(F (.fn p.1) p.2 []).bind c) (PkL.ask hF _ _ _) fun r=>PkL.obind _ fun v _=>PkL.bind (PkL.const (normR_pk _ _ v)) fun v=>PkL.cond _ (fun _=>PkL.ret _) fun _=>PkL.none
theorem ownV_pkl (cx:Cx) (o:Own) (fv:AV) (args:List AV) (h:Heap):PkL F G (fun F ρ (c:AV×Heap→Option ρ)=>ownV (ρ:=ρ) cx F o fv args h fun v h=>c (v,h)):=by
 unfold ownV
 refine PkL.obind _ fun p _=>PkL.obind _ fun g _=>PkL.cond _ (fun _=> ?_) fun _=>PkL.none
 exact PkL.bind (Y:=fun F ρ c=>(F (.own p.1) _ _).bind c) (PkL.ask hF _ _ _) fun r=>PkL.obind _ fun x _=>PkL.bind (PkL.const (normO_pk _ _)) fun v=>PkL.bind (PkL.const (normHeap_pk _ _)) fun h2 =>
  PkL.obind _ fun _ _=>PkL.obind _ fun _ _=>PkL.obind _ fun _ _=>PkL.ret _
theorem callP_pkl (cx:Cx) (T t:TypeId) (fv:AV) (args:List AV) (h:Heap):PkL F G (fun F ρ (c:JX×AV×Heap→Option ρ)=>callP (ρ:=ρ) cx F T t fv args h fun e v h=>c (e,v,h)):=by
 unfold callP
 refine PkL.obind _ fun g _=>PkL.obind _ fun as _=>PkL.obind _ fun p _=>PkL.bind (Y:=fun F ρ c=>(F (.fn p.1) p.2 []).bind c) (PkL.ask hF _ _ _) fun r=>PkL.cond _ (fun _=> ?_) fun _=> ?_
 ·exact PkL.obind _ fun x _=>PkL.bind (PkL.const (normZ_pk _ x)) fun x=>PkL.cond _ (fun _=>PkL.ret _) fun _=>PkL.none
 ·exact PkL.obind _ fun v _=>PkL.bind (PkL.const (normR_pk _ _ v)) fun v=>PkL.cond _ (fun _=>PkL.ret _) fun _=>PkL.none
theorem ownP_pkl (cx:Cx) (o:Own) (T:TypeId) (fv:AV) (args:List AV) (h:Heap):PkL F G (fun F ρ (c:JX×AV×Heap→Option ρ)=>ownP (ρ:=ρ) cx F o T fv args h fun e v h=>c (e,v,h)):=by
 unfold ownP
 refine PkL.obind _ fun g _=>PkL.obind _ fun as _=>PkL.obind _ fun p _=>PkL.bind (Y:=fun F ρ c=>(F (.own p.1) _ []).bind c) (PkL.ask hF _ _ _) fun r=>PkL.cond _ (fun _=> ?_) fun _=> ?_
 ·exact PkL.obind _ fun x _=>PkL.bind (PkL.const (normZ_pk _ x)) fun x=>PkL.cond _ (fun _=>PkL.ret _) fun _=>PkL.none
 ·exact PkL.bind (Y:=fun F ρ (c:AV×Heap→Option ρ)=>ownV cx F o fv args h fun v h=>c (v,h)) (X:=fun x F ρ (c:JX×AV×Heap→Option ρ)=>c (.normal,x.1,x.2)) (ownV_pkl hF _ _ _ _ _) fun x=>PkL.ret _
theorem callW_pkl (cx:Cx) (t:TypeId) (fv:AV) (args:List AV) (h:Heap):PkL F G (fun F ρ (c:AV×Heap→Option ρ)=>callW (ρ:=ρ) cx F t fv args h fun v h=>c (v,h)):=by
 unfold callW
 refine PkL.obind _ fun g _=>PkL.obind _ fun as _=>PkL.obind _ fun p _=>PkL.bind (Y:=fun F ρ c=>(F (.fn p.1) p.2 []).bind c) (PkL.ask hF _ _ _) fun r=>PkL.obind _ fun v _=>PkL.bind (PkL.const (normR_pk _ _ v)) fun v=>PkL.cond _ (fun _=>PkL.ret _) fun _=>PkL.ret _
theorem callX_pkl (cx:Cx) (q q2:Bool) (t:TypeId) (fv:AV) (args:List AV) (h:Heap):PkL F G (fun F ρ (c:JX×AV×Heap→Option ρ)=>callX (ρ:=ρ) cx F q q2 t fv args h fun e v h=>c (e,v,h)):=by
 unfold callX
 split
 ·exact PkL.cond _ (fun _=>PkL.none) fun _=>PkL.bind (Y:=fun F ρ (c:AV×Heap→Option ρ)=>extV cx _ fv args h fun v h=>c (v,h)) (X:=fun x F ρ (c:JX×AV×Heap→Option ρ)=>c (.normal,x.1,x.2)) (PkL.const (extV_pk _ _ _ _ _)) fun x=>PkL.ret _
 ·split
  ·refine PkL.cond _ (fun _=>PkL.none) fun _=> ?_
   split
   ·exact PkL.cond _ (fun _=>PkL.none) fun _=>ownP_pkl hF _ _ _ _ _ _
   ·exact PkL.bind (Y:=fun F ρ (c:AV×Heap→Option ρ)=>ownV cx F _ fv args h fun v h=>c (v,h)) (X:=fun x F ρ (c:JX×AV×Heap→Option ρ)=>c (.normal,x.1,x.2)) (ownV_pkl hF _ _ _ _ _) fun x=>PkL.ret _
  ·split
   ·exact PkL.cond _ (fun _=>PkL.none) fun _=>callP_pkl hF _ _ _ _ _ _
   ·exact PkL.cond _ (fun _=>PkL.bind (callV_pkl hF _ _ _ _ _ _) fun v=>PkL.ret _) fun _=>PkL.bind (Y:=fun F ρ (c:AV×Heap→Option ρ)=>callW cx F t fv args h fun v h=>c (v,h)) (X:=fun x F ρ (c:JX×AV×Heap→Option ρ)=>c (.normal,x.1,x.2)) (callW_pkl hF _ _ _ _ _) fun x=>PkL.ret _
omit hF in
theorem buildT_pkl (cx:Cx) (N:Nat) (dst:Option Tmp) (t:TypeId) (len:Nat) (parts:List (Nat×Operand)) (env:Env) (h:Heap):PkL F G (fun _F ρ (c:JX×Env×Heap→Option ρ)=>buildT (ρ:=ρ) cx N dst t len parts env h fun e env h=>c (e,env,h)):=by
 unfold buildT
 refine PkL.cond _ (fun _=> ?_) fun _=> ?_
 ·refine PkL.obind _ fun d _=> ?_
  split
  ·refine PkL.obind _ fun z _=>PkL.obind _ fun s _=>PkL.obind _ fun ps _=> ?_
   split
   ·exact PkL.obind _ fun rows _=>PkL.bind (PkL.const (putK_pk _ _ _ _)) fun _=>PkL.ret _
   ·exact PkL.none
  ·exact PkL.none
 refine PkL.obind _ fun d _=> ?_
 split
 ·refine PkL.obind _ fun z _=>PkL.obind _ fun s _=>PkL.obind _ fun ps _=>PkL.obind _ fun hp _=> ?_
  split
  ·exact PkL.bind (PkL.const (rowsP_pk _ _ _)) fun cs=>PkL.bind (PkL.const (putK_pk _ _ _ _)) fun _=>PkL.ret _
  ·exact PkL.none
 ·exact PkL.none
theorem stepOp_pkl (cx:Cx) (N:Nat) (q:Bool) (o:Oper) (env:Env) (h:Heap):PkL F G (fun F ρ (c:JX×Env×Heap→Option ρ)=>stepOp cx F N q o env h fun e env h=>c (e,env,h)):=by
 unfold stepOp
 split
 ·refine PkL.cond _ (fun _=>PkL.cond _ (fun _=>PkL.none) fun _=>PkL.obind _ fun r _=>PkL.bind (PkL.const (putK_pk _ _ _ _)) fun _=>PkL.ret _) fun _=>PkL.obind _ fun z _=>PkL.obind _ fun n _=> ?_
  split
  ·exact PkL.bind (PkL.const (putK_pk _ _ _ _)) fun _=>PkL.ret _
  ·exact PkL.none
 ·exact PkL.obind _ fun v _=>PkL.bind (PkL.const (putK_pk _ _ _ _)) fun _=>PkL.ret _
 ·exact PkL.obind _ fun p _=>PkL.obind _ fun v _=>PkL.bind (PkL.const (storeV_pk _ _ _ _ _)) fun h=>PkL.bind (PkL.const (putK_pk _ _ _ _)) fun _=>PkL.ret _
 ·refine PkL.cond _ (fun _=>PkL.cond _ (fun _=>PkL.none) fun _=>buildT_pkl _ _ _ _ _ _ _ _) fun _=>PkL.obind _ fun d _=> ?_
  split
  ·refine PkL.obind _ fun z _=>PkL.obind _ fun s _=>PkL.obind _ fun ps _=> ?_
   split
   ·exact PkL.bind (PkL.const (rowsP_pk _ _ _)) fun cs=>PkL.cond _ (fun _=>PkL.cond _ (fun _=>PkL.none) fun _=>PkL.bind (PkL.const (putK_pk _ _ _ _)) fun _=>PkL.ret _) fun _=>PkL.bind (PkL.const (putK_pk _ _ _ _)) fun _=>PkL.ret _
   ·exact PkL.none
  ·exact PkL.none
 ·exact PkL.obind _ fun p _=>PkL.obind _ fun v _=>PkL.bind (Y:=fun F ρ (c:AV×Heap→Option ρ)=>makeV cx _ _ _ h fun v h=>c (v,h)) (X:=fun x F ρ (c:JX×Env×Heap→Option ρ)=>putK N o.dst x.1 env fun env=>c (.normal,env,x.2)) (PkL.const (makeV_pk _ _ _ _ _)) fun x=>PkL.bind (PkL.const (putK_pk _ _ _ _)) fun _=>PkL.ret _
 ·exact PkL.obind _ fun p _=>PkL.bind (Y:=fun F ρ (c:AV×Heap→Option ρ)=>bins cx _ _ _ h fun v h=>c (v,h)) (X:=fun x F ρ (c:JX×Env×Heap→Option ρ)=>putK N o.dst x.1 env fun env=>c (.normal,env,x.2)) (PkL.const (bins_pk _ _ _ _ _)) fun x=>PkL.bind (PkL.const (putK_pk _ _ _ _)) fun _=>PkL.ret _
 ·exact PkL.obind _ fun p _=>PkL.bind (Y:=fun F ρ (c:AV×Heap→Option ρ)=>bins cx _ _ _ h fun v h=>c (v,h)) (X:=fun x F ρ (c:JX×Env×Heap→Option ρ)=>putK N o.dst x.1 env fun env=>c (.normal,env,x.2)) (PkL.const (bins_pk _ _ _ _ _)) fun x=>PkL.bind (PkL.const (putK_pk _ _ _ _)) fun _=>PkL.ret _
 ·exact PkL.obind _ fun p _=>PkL.bind (Y:=fun F ρ (c:AV×Heap→Option ρ)=>bins cx _ _ _ h fun v h=>c (v,h)) (X:=fun x F ρ (c:JX×Env×Heap→Option ρ)=>putK N o.dst x.1 env fun env=>c (.normal,env,x.2)) (PkL.const (bins_pk _ _ _ _ _)) fun x=>PkL.bind (PkL.const (putK_pk _ _ _ _)) fun _=>PkL.ret _
 ·refine PkL.obind _ fun p _=>PkL.obind _ fun v _=>PkL.bind (Y:=fun F ρ (c:JX×AV×Heap→Option ρ)=>callX cx F _ _ _ _ _ h fun e v h=>c (e,v,h)) (X:=fun x F ρ (c:JX×Env×Heap→Option ρ)=>match x.1 with
   | .normal=>putK N o.dst x.2.1 env fun env=>c (.normal,env,x.2.2)
   |e=>c (e,env,x.2.2)) (callX_pkl hF _ _ _ _ _ _ _) fun x=> ?_
  obtain⟨e,v,h'⟩:=x
  cases e
  case normal=>exact PkL.bind (PkL.const (putK_pk _ _ _ _)) fun _=>PkL.ret _
  all_goals exact PkL.ret _
 ·refine PkL.obind _ fun v _=> ?_
  split
  ·exact PkL.cond _ (fun _=>PkL.none) fun _=>PkL.ret _
  ·exact PkL.none
 ·exact PkL.bind (PkL.const (evalA_pk _ _ _ _)) fun h=>PkL.bind (PkL.const (putK_pk _ _ _ _)) fun _=>PkL.ret _
theorem runOps_pkl (cx:Cx) (N:Nat) (q:Bool) (ops:Array Oper):∀(l:List Oper) (env:Env) (h:Heap),PkL F G (fun F ρ (c:JX×Env×Heap→Option ρ)=>runOps cx F N q ops l env h fun e env h=>c (e,env,h))
 | [],env,h=>by simp only [runOps];exact PkL.ret _
 |o::rest,env,h=>by
  simp only [runOps]
  split
  ·refine PkL.bind (stepOp_pkl hF cx N q o env h) (X:=fun x F ρ (c:JX×Env×Heap→Option ρ)=>match x.1 with
    | .normal=>runOps cx F N q ops rest x.2.1 x.2.2 fun e env h=>c (e,env,h)
    |e=>c (e,x.2.1,x.2.2)) fun x=> ?_
   obtain⟨e,env',h'⟩:=x
   cases e
   case normal=>exact runOps_pkl cx N q ops rest env' h'
   all_goals exact PkL.ret _
  ·refine PkL.obind _ fun d _=>PkL.obind _ fun v _=> ?_
   split
   ·refine PkL.cond _ (fun _=> ?_) fun _=>PkL.bind (PkL.const (putK_pk _ _ _ _)) fun env=>runOps_pkl cx N q ops rest env h
    refine PkL.bind (stepOp_pkl hF cx N q o env h) (X:=fun x F ρ (c:JX×Env×Heap→Option ρ)=>match x.1 with
     | .normal=>runOps cx F N q ops rest x.2.1 x.2.2 fun e env h=>c (e,env,h)
     |e=>c (e,x.2.1,x.2.2)) fun x=> ?_
    obtain⟨e,env',h'⟩:=x
    cases e
    case normal=>exact runOps_pkl cx N q ops rest env' h'
    all_goals exact PkL.ret _
   ·exact PkL.bind (PkL.const (putK_pk _ _ _ _)) fun env=>runOps_pkl cx N q ops rest env h
   ·exact PkL.none
theorem runAny_pkl (cx:Cx) (N:Nat) (md:Bool) (h0:Heap) (T:List Nat) (ops:Array Oper):∀(l:List Oper) (env:Env) (h:Heap),PkL F G (fun F ρ (c:Env×Heap→Option ρ)=>runAny cx F N md h0 T ops l env h fun e h=>c (e,h))
 | [],env,h=>by simp only [runAny];exact PkL.ret _
 |o::rest,env,h=>by
  simp only [runAny]
  have one:=fun(h:Heap)=>runOps_pkl hF cx N true ops [o] (restrE env (o.looksAt ops)) h
  cases freeOp o with
  |true =>
   simp only [cond_true]
   exact PkL.bind (Y:=fun F ρ (c:JX×Env×Heap→Option ρ)=>runOps cx F N true ops [o] (restrE env (o.looksAt ops)) [] fun e env h=>c (e,env,h)) (one [])
    (X:=fun x F ρ (c:Env×Heap→Option ρ)=>onN x.1 ((nil? x.2.2).bind fun _=>putBack o.dst x.2.1 env fun env=>runAny cx F N md h0 T ops rest env h fun e h=>c (e,h)))
    fun x=>onN_pkl x.1 (PkL.obind _ fun _ _=>PkL.bind (putBack_pkl _ _ _) fun env=>runAny_pkl cx N md h0 T ops rest env h)
  |false =>
   simp only [cond_false]
   cases (md&& !effOp cx.turns o) with
   |true =>
    simp only [cond_true]
    refine PkL.obind _ fun rs _=> ?_
    exact PkL.bind (Y:=fun F ρ (c:JX×Env×Heap→Option ρ)=>runOps cx F N true ops [o] (restrE env (o.looksAt ops)) (hideH h0 (rs++T)) fun e env h=>c (e,env,h)) (one (hideH h0 (rs++T)))
     (X:=fun x F ρ (c:Env×Heap→Option ρ)=>onN x.1 (putBack o.dst x.2.1 env fun env=>runAny cx F N md h0 T ops rest env h fun e h=>c (e,h)))
     fun x=>onN_pkl x.1 (PkL.bind (putBack_pkl _ _ _) fun env=>runAny_pkl cx N md h0 T ops rest env h)
   |false =>
    simp only [cond_false]
    refine PkL.cond _ (fun _=>PkL.none) fun _=> ?_
    exact PkL.bind (Y:=fun F ρ (c:JX×Env×Heap→Option ρ)=>runOps cx F N true ops [o] (restrE env (o.looksAt ops)) h fun e env h=>c (e,env,h)) (one h)
     (X:=fun x F ρ (c:Env×Heap→Option ρ)=>onN x.1 (putBack o.dst x.2.1 env fun env=>runAny cx F N md h0 T ops rest env x.2.2 fun e h=>c (e,h)))
     fun x=>onN_pkl x.1 (PkL.bind (putBack_pkl _ _ _) fun env=>runAny_pkl cx N md h0 T ops rest env x.2.2)
theorem upCall_pkl (cx:Cx) (o:Oper) (env:Env) (h:Heap):PkL F G (fun F ρ (c:JX×AV×Heap→Option ρ)=>upCall cx F o env h fun e v h=>c (e,v,h)):=by
 unfold upCall
 split
 ·exact PkL.obind _ fun p _=>PkL.obind _ fun v _=>callX_pkl hF _ _ _ _ _ _ _
 ·exact PkL.none
theorem runUp_pkl (cx:Cx) (N:Nat) (md:Bool) (h0:Heap) (T:List Nat) (ops:Array Oper) (out:Env):∀(l:List Oper) (k:Nat) (env:Env) (h:Heap),PkL F G (fun F ρ (c:JX×Env×Heap→Option ρ)=>runUp cx F N md h0 T ops out k l env h fun e env h=>c (e,env,h))
 | [],k,env,h=>by simp only [runUp];exact PkL.ret _
 |o::rest,k,env,h=>by
  simp only [runUp]
  refine PkL.cond _ (fun _=> ?_) fun _=> ?_
  ·refine PkL.bind (Y:=fun F ρ (c:JX×AV×Heap→Option ρ)=>upCall cx F o (restrE env (o.looksAt ops)) h fun e v h=>c (e,v,h)) (upCall_pkl hF cx o (restrE env (o.looksAt ops)) h) (X:=fun x F ρ (c:JX×Env×Heap→Option ρ)=>match x.1 with
    | .normal=>putK N o.dst x.2.1 env fun env=>runUp cx F N md h0 T ops out (k+1) rest env x.2.2 fun e env h=>c (e,env,h)
    |e=>runAny cx F N md h0 T ops (restOf cx.turns ops rest (k+1) [k]) env h fun _ _=>c (e,out,x.2.2)) fun x=> ?_
   obtain⟨e,v,h'⟩:=x
   have off:∀e:JX,PkL F G (fun F ρ (c:JX×Env×Heap→Option ρ)=>runAny cx F N md h0 T ops (restOf cx.turns ops rest (k+1) [k]) env h fun _ _=>c (e,out,h')):=fun e =>
    PkL.bind (Y:=fun F ρ (c:Env×Heap→Option ρ)=>runAny cx F N md h0 T ops (restOf cx.turns ops rest (k+1) [k]) env h fun e h=>c (e,h)) (runAny_pkl hF cx N md h0 T ops (restOf cx.turns ops rest (k+1) [k]) env h) (X:=fun _ F ρ (c:JX×Env×Heap→Option ρ)=>c (e,out,h')) fun _=>PkL.ret _
   cases e with
   |normal=>exact PkL.bind (Y:=fun F ρ (c:Env→Option ρ)=>putK N o.dst v env c) (PkL.const (putK_pk _ _ _ _)) (X:=fun env F ρ (c:JX×Env×Heap→Option ρ)=>runUp cx F N md h0 T ops out (k+1) rest env h' fun e env h=>c (e,env,h)) fun env=>runUp_pkl cx N md h0 T ops out rest _ env h'
   |ret=>exact off .ret
   |exit i=>exact off (.exit i)
   |goto i=>exact off (.goto i)
   |pan x=>exact off (.pan x)
  ·exact PkL.bind (Y:=fun F ρ (c:Env×Heap→Option ρ)=>runAny cx F N md h0 T ops [o] env h fun e h=>c (e,h)) (runAny_pkl hF cx N md h0 T ops [o] env h) (X:=fun x F ρ (c:JX×Env×Heap→Option ρ)=>runUp cx F N md h0 T ops out (k+1) rest x.1 x.2 fun e env h=>c (e,env,h)) fun x=>runUp_pkl cx N md h0 T ops out rest _ x.1 x.2
theorem floatRun_pkl (cx:Cx) (N:Nat) (ops:Array Oper) (env:Env) (h:Heap):PkL F G (fun F ρ (c:JX×Env×Heap→Option ρ)=>floatRun cx F N ops env h fun e env h=>c (e,env,h)):=by
 unfold floatRun
 refine PkL.obind _ fun z _=>PkL.obind _ fun o _=>PkL.obind _ fun d _=> ?_
 split
 ·refine PkL.cond _ (fun _=> ?_) fun _=>PkL.none
  exact PkL.bind (runAny_pkl hF cx N false [] [] _ _ _ h) (X:=fun x F ρ c=>c (JX.normal,x.1,x.2)) fun eh=>PkL.ret _
 ·exact PkL.none
theorem run_pkl (cx:Cx) (f:FuncId) (N:Nat):∀(code:Code) (p:List Bool) (env:Env) (h:Heap),PkL F G (fun F ρ (c:JX×Env×Heap→Option ρ)=>run cx F f N code p env h fun e env h=>c (e,env,h))
 | .skip,p,env,h=>by simp only [run];exact PkL.ret _
 | .label _,p,env,h=>by simp only [run];exact PkL.ret _
 | .ret,p,env,h=>by simp only [run];exact PkL.ret _
 | .exit _,p,env,h=>by simp only [run];exact PkL.ret _
 | .goto _,p,env,h=>by simp only [run];exact PkL.ret _
 | .region _ ops false,p,env,h=>by simp only [run];exact runOps_pkl hF cx N false ops _ env h
 | .region _ ops true,p,env,h=>by
  simp only [run]
  refine PkL.cond _ (fun _=> ?_) fun _=>PkL.cond _ (fun _=> ?_) fun _=>PkL.cond _ (fun _=> ?_) fun _=>PkL.cond _ (fun _=>floatRun_pkl hF cx N ops env h) fun _=>PkL.cond _ (fun _=> ?_) fun _=>floatRun_pkl hF cx N ops env h
  ·exact runUp_pkl hF cx N false [] [] ops _ _ _ env h
  ·exact PkL.bind (runAny_pkl hF cx N false [] [] ops ops.toList env h) (X:=fun x F ρ c=>c (JX.normal,x.1,x.2)) fun eh=>PkL.ret _
  ·exact runUp_pkl hF cx N true h _ ops _ _ _ env h
  ·exact PkL.bind (runAny_pkl hF cx N true h _ ops _ env h) (X:=fun x F ρ (c:JX×Env×Heap→Option ρ)=>runOps cx F N false ops (ops.toList.drop (tailAt cx.turns ops)) x.1 x.2 fun e env h=>c (e,env,h)) fun eh=>runOps_pkl hF cx N false ops _ _ _
 | .seq a b,p,env,h=>by
  simp only [run]
  refine PkL.bind (run_pkl cx f N a (p++[false]) env h) (X:=fun x F ρ c=>match x.1 with
   | .normal=>run cx F f N b (p++[true]) x.2.1 x.2.2 fun e env h=>c (e,env,h)
   |e=>c (e,x.2.1,x.2.2)) fun x=> ?_
  obtain⟨e,env',hp'⟩:=x
  cases e
  case normal=>exact run_pkl cx f N b _ _ _
  all_goals exact PkL.ret _
 | .cond x a b,p,env,h=>by
  simp only [run]
  refine PkL.obind _ fun v _=> ?_
  split
  ·exact PkL.cond _ (fun _=>run_pkl cx f N a _ _ _) fun _=>run_pkl cx f N b _ _ _
  ·exact PkL.none
 | .block id b,p,env,h=>by
  simp only [run]
  refine PkL.bind (run_pkl cx f N b (p++[false]) env h) (X:=fun x F ρ c=>match x.1 with
   | .exit i=>match Nat.beq i id with
    |true=>thawB x.2.1 (cx.thawX f p) x.2.2 fun h=>c (.normal,x.2.1,h)
    |false=>c (.exit i,x.2.1,x.2.2)
   |e=>c (e,x.2.1,x.2.2)) fun x=> ?_
  obtain⟨e,env',hp'⟩:=x
  cases e
  case exit i =>
   dsimp only
   split
   ·exact PkL.bind (PkL.const (thawB_pk env' (cx.thawX f p) hp')) fun h=>PkL.ret _
   ·exact PkL.ret _
  all_goals exact PkL.ret _
 | .loop b,p,env,h=>by
  simp only [run]
  refine PkL.obind _ fun a _=> ?_
  split
  ·exact iterN_pkl _ (fun env hp=>run_pkl cx f N b _ env hp) _ _ _
  ·rename_i var inv _
   refine PkL.cond _ (fun _=> ?_) fun _=>PkL.none
   refine PkL.bind (Y:=fun F ρ (c:Env×Heap→Option ρ)=>coerceN cx (cx.nils f p) env h fun e h=>c (e,h)) (X:=fun y F ρ (c:JX×Env×Heap→Option ρ)=>coerceB cx (cx.boxes f p) y.1 y.2 fun h=>(getAll y.1 var).bind fun vs=>(getAll y.1 inv).bind fun is =>
    (F (.loop f p) (vs.map AV.wk++is.map AV.wk) (h.map Ob.wk)).bind fun r=>(asJump r).bind fun j =>
    loopX cx f j.1 (fun e=>normAs (formV cx f p e (vs.map AV.wk)) j.2.1 fun vs'=>normHeap (formH cx f p e (h.map Ob.wk)) j.2.2 fun h' =>
     c (e,var.zip vs'++inv.zip (is.map AV.wk),h')) ((exitsOf b).foldr addE [])) (PkL.const (coerceN_pk cx _ _ _)) fun y=> ?_
   refine PkL.bind (Y:=fun F ρ (c:Heap→Option ρ)=>coerceB cx (cx.boxes f p) y.1 y.2 c) (X:=fun h2 F ρ (c:JX×Env×Heap→Option ρ)=>(getAll y.1 var).bind fun vs=>(getAll y.1 inv).bind fun is =>
    (F (.loop f p) (vs.map AV.wk++is.map AV.wk) (h2.map Ob.wk)).bind fun r=>(asJump r).bind fun j =>
    loopX cx f j.1 (fun e=>normAs (formV cx f p e (vs.map AV.wk)) j.2.1 fun vs'=>normHeap (formH cx f p e (h2.map Ob.wk)) j.2.2 fun h' =>
     c (e,var.zip vs'++inv.zip (is.map AV.wk),h')) ((exitsOf b).foldr addE [])) (PkL.const (coerceB_pk cx _ _ _)) fun h2=> ?_
   exact PkL.obind _ fun vs _=>PkL.obind _ fun is _=>PkL.bind (Y:=fun F ρ c=>(F (.loop f p) (vs.map AV.wk++is.map AV.wk) (h2.map Ob.wk)).bind c) (PkL.ask hF _ _ _) fun r=>PkL.obind _ fun j _ =>
    loopX_pkl cx f _ (fun e=>PkL.bind (PkL.const (normAs_pk _ _)) fun vs'=>PkL.bind (PkL.const (normHeap_pk _ _)) fun h'=>PkL.ret _) _
 | .rangeFunc ..,p,env,h=>by simp only [run];exact PkL.none
 | .scope ..,p,env,h=>by simp only [run];exact PkL.none
 | .refuse ..,p,env,h=>by simp only [run];exact PkL.none
theorem runG_pkl (cx:Cx) (g:FuncId) (fn:Func) (dargs:List AV) (v:AV) (env:Env) (h:Heap):PkL F G (fun F ρ (c:AV→Option ρ)=>runG cx F g fn dargs v env h c):=by
 unfold runG
 refine PkL.obind _ fun gn _=>PkL.obind _ fun gb _=> ?_
 split
 ·refine PkL.obind _ fun d _=> ?_
  split
  ·refine PkL.bind (run_pkl hF cx g gn.ntmps _ [true] ((d,v)::numbered 0 dargs) h) (X:=fun x F ρ (c:AV→Option ρ)=>match x.1 with
    | .normal | .ret=>(resultsOf cx x.2.1 x.2.2 gn.results.toList).bind fun _ =>
     (resPtrs (cx.held g) env fn.results.toList).bind fun e3=>(resultsOf cx e3 x.2.2 fn.results.toList).bind fun vs=>(viewArgs x.2.2 vs).bind fun vs'=>c (oneOf vs')
    | _=>none) fun x=> ?_
   obtain⟨e,env',hp'⟩:=x
   cases e
   case normal=>exact PkL.obind _ fun _ _=>PkL.obind _ fun _ _=>PkL.obind _ fun _ _=>PkL.obind _ fun _ _=>PkL.ret _
   case ret=>exact PkL.obind _ fun _ _=>PkL.obind _ fun _ _=>PkL.obind _ fun _ _=>PkL.obind _ fun _ _=>PkL.ret _
   all_goals exact PkL.none
  ·exact PkL.none
 ·exact PkL.none
theorem runD_pkl (cx:Cx) (f g:FuncId) (fn:Func):∀(code:Code) (p:List Bool) (env:Env) (h:Heap),PkL F G (fun F ρ (c:AV→Option ρ)=>runD cx F f g fn code p env h c)
 | .seq (.region _ ops false) b,p,env,h=>by
  simp only [runD]
  cases splitD ops.toList with
  |none =>
   refine PkL.bind (runOps_pkl hF cx fn.ntmps false ops ops.toList env h) (X:=fun x F ρ (c:AV→Option ρ)=>match x.1 with
    | .normal=>runD cx F f g fn b (p++[true]) x.2.1 x.2.2 c
    | _=>none) fun x=> ?_
   obtain⟨e,env',hp'⟩:=x
   cases e
   case normal=>exact runD_pkl cx f g fn b _ _ _
   all_goals exact PkL.none
  |some q =>
   obtain⟨pre,fo,args⟩:=q
   refine PkL.bind (runOps_pkl hF cx fn.ntmps false ops pre env h) (X:=fun x F ρ (c:AV→Option ρ)=>match x.1 with
    | .normal=>(opnd cx x.2.1 fo).bind fun fv=>(opnds cx x.2.1 args).bind fun as=>(fv.call? as).bind fun q=>(chk q.1 g).bind fun _=>(chk (cx.held f) (cx.held g)).bind fun _=>cond (q.2.all (isPtr (cx.held g)))
     (run cx F f fn.ntmps b (p++[true]) x.2.1 x.2.2 fun e env h=>e.rv.bind fun v=>runG cx F g fn q.2 v env h c) none
    | _=>none) fun x=> ?_
   obtain⟨e,env',hp'⟩:=x
   cases e
   case normal =>
    refine PkL.obind _ fun fv _=>PkL.obind _ fun as _=>PkL.obind _ fun q _=>PkL.obind _ fun _ _=>PkL.obind _ fun _ _=>PkL.cond _ (fun _=> ?_) fun _=>PkL.none
    exact PkL.bind (run_pkl hF cx f fn.ntmps b (p++[true]) env' hp') (X:=fun x F ρ (c:AV→Option ρ)=>x.1.rv.bind fun v=>runG cx F g fn q.2 v x.2.1 x.2.2 c) fun x=>PkL.obind _ fun v _=>runG_pkl hF cx g fn q.2 v x.2.1 x.2.2
   all_goals exact PkL.none
 | .seq (.region _ _ true) _,p,env,h | .seq .skip _,p,env,h | .seq (.seq ..) _,p,env,h | .seq (.cond ..) _,p,env,h | .seq (.block ..) _,p,env,h | .seq (.loop ..) _,p,env,h | .seq (.rangeFunc ..) _,p,env,h
 | .seq (.exit ..) _,p,env,h | .seq (.scope ..) _,p,env,h | .seq (.label ..) _,p,env,h | .seq (.goto ..) _,p,env,h | .seq .ret _,p,env,h | .seq (.refuse ..) _,p,env,h
 | .skip,p,env,h | .region ..,p,env,h | .cond ..,p,env,h | .block ..,p,env,h | .loop ..,p,env,h | .rangeFunc ..,p,env,h | .exit ..,p,env,h | .scope ..,p,env,h | .label ..,p,env,h | .goto ..,p,env,h | .ret,p,env,h | .refuse ..,p,env,h=>by
  simp only [runD]
  exact PkL.none
theorem runKey_lim (cx:Cx):Lim (runKey cx F) (fun m=>runKey cx (G m)):=by
  intro key args h r hr
  cases key with
  | fn f =>
    simp only [runKey] at hr ⊢
    cases h1:cx.P.funcs[f]? with
    |none=>simp [h1] at hr
    | some fn =>
      simp only [h1,χ] at hr ⊢
      cases h2:fn.body with
      |none=>simp [h2] at hr
      | some b =>
        simp only [h2,χ] at hr ⊢
        cases h3:nil? h with
        |none=>simp [h3] at hr
        | some u =>
          simp only [h3,χ] at hr ⊢
          split at hr
          · rename_i h4
            cases hd:cx.dfr f with
            | some g =>
              simp only [hd] at hr ⊢
              obtain⟨a,ha,_,n,hn⟩:=runD_pkl hF cx f g fn b [] (numbered 0 args) [] _ (fun v=>some (Out.ret v,([]:Heap))) r hr
              exact⟨n,fun m hm=>(hn m hm _ (fun v=>some (Out.ret v,([]:Heap)))).trans ha⟩
            |none =>
            simp only [hd] at hr ⊢
            obtain⟨a,ha,_,n,hn⟩:=run_pkl hF cx f fn.ntmps b [] (numbered 0 args) [] _ (fun x=>match x.1 with
              | .normal | .ret=>(resultsOf cx x.2.1 x.2.2 fn.results.toList).bind fun vs=>(viewArgs x.2.2 vs).bind fun vs'=>some (Out.ret (oneOf vs'),([]:Heap))
              | .pan v=>cond ((cx.pans f).isSome&&panOk v) (some (.jump (.pan v) [],[])) none
              | _=>none) r hr
            refine⟨n,fun m hm=>Eq.trans ?_ ((hn m hm _ (fun x=>match x.1 with
              | .normal | .ret=>(resultsOf cx x.2.1 x.2.2 fn.results.toList).bind fun vs=>(viewArgs x.2.2 vs).bind fun vs'=>some (Out.ret (oneOf vs'),([]:Heap))
              | .pan v=>cond ((cx.pans f).isSome&&panOk v) (some (.jump (.pan v) [],[])) none
              | _=>none)).trans ha)⟩
            rfl
          · cases hr
  | own f =>
    simp only [runKey] at hr ⊢
    cases h1:cx.P.funcs[f]? with
    |none=>simp [h1] at hr
    | some fn =>
      simp only [h1,χ] at hr ⊢
      cases h2:fn.body with
      |none=>simp [h2] at hr
      | some b =>
        simp only [h2,χ] at hr ⊢
        split at hr
        · rename_i h4
          obtain⟨a,ha,_,n,hn⟩:=run_pkl hF cx f fn.ntmps b [] (numbered 0 args) h _ (fun x=>match x.1 with
            | .normal | .ret=>(resultsOf cx x.2.1 x.2.2 fn.results.toList).bind fun vs=>(gc (cx.held f) (addN (List.range (cx.held f)) (vs.flatMap (refs 5))) vs [] x.2.2).bind fun g=>some (Out.ret (oneOf g.1),g.2.2)
            | .pan v=>cond ((cx.pans f).isSome&&(panOk v&&Nat.beq (cx.held f) 0)) (some (Out.jump (.pan v) [],([]:Heap))) none
            | _=>none) r hr
          refine⟨n,fun m hm=>Eq.trans ?_ ((hn m hm _ (fun x=>match x.1 with
            | .normal | .ret=>(resultsOf cx x.2.1 x.2.2 fn.results.toList).bind fun vs=>(gc (cx.held f) (addN (List.range (cx.held f)) (vs.flatMap (refs 5))) vs [] x.2.2).bind fun g=>some (Out.ret (oneOf g.1),g.2.2)
            | .pan v=>cond ((cx.pans f).isSome&&(panOk v&&Nat.beq (cx.held f) 0)) (some (Out.jump (.pan v) [],([]:Heap))) none
            | _=>none)).trans ha)⟩
          rfl
        · cases hr
  | loop f p =>
    simp only [runKey] at hr ⊢
    cases h1:cx.P.funcs[f]? with
    |none=>simp [h1] at hr
    | some fn =>
      simp only [h1,χ] at hr ⊢
      cases h2:fn.body with
      |none=>simp [h2] at hr
      | some b =>
        simp only [h2,χ] at hr ⊢
        cases h3:sub p b with
        |none=>simp [h3] at hr
        | some u =>
          simp only [h3,χ] at hr ⊢
          cases u with
          | loop b =>
            simp only at hr ⊢
            cases h5:cx.ann f p with
            |none=>simp [h5] at hr
            | some a =>
              simp only [h5,χ] at hr ⊢
              cases a with
              |unroll=>simp at hr
              | live var inv =>
                simp only at hr ⊢
                cases h6:(loopOk var inv b) with
                |false=>simp [h6] at hr
                | true =>
                  simp only [h6,cond_true] at hr ⊢
                  split at hr
                  · rename_i h4
                    obtain⟨x,ha,_,n,hn⟩:=run_pkl hF cx f fn.ntmps b (p++[false]) ((var++inv).zip args) h _ (fun x=>match x.1 with
                      | .normal=>(getAll x.2.1 var).bind fun vs=>(getAll x.2.1 inv).bind fun is=>(gc (cx.held f) (ksOf h.length (pairsH args vs h x.2.2)) vs is x.2.2).bind fun g=>F (.loop f p) (g.1.map AV.wk++g.2.1.map AV.wk) (g.2.2.map Ob.wk)
                      | e => (getAll x.2.1 var).bind fun vs => (getAll x.2.1 inv).bind fun is => (gc (cx.held f) (ksOf h.length (pairsH args vs h x.2.2)) vs is x.2.2).bind fun g => some (Out.jump e (g.1.map AV.wk), g.2.2.map Ob.wk)) r (by
                        refine Eq.trans ?_ hr
                        rfl)
                    obtain⟨e,env',hp'⟩:=x
                    cases e with
                    | normal =>
                      simp only at ha
                      cases h7:getAll env' var with
                      |none=>simp [h7] at ha
                      |some vs =>
                       cases h8:getAll env' inv with
                       |none=>simp [h7,h8] at ha
                       |some is =>
                       cases h9:gc (cx.held f) (ksOf h.length (pairsH args vs h hp')) vs is hp' with
                       |none=>simp [h7,h8,h9] at ha
                       |some g =>
                        simp only [h7,h8,h9,χ] at ha
                        obtain⟨n2,hn2⟩:=hF _ _ _ _ ha
                        refine⟨max n n2,fun m hm=> ?_⟩
                        refine Eq.trans ?_ ((hn m (by omega) _ (fun x=>match x.1 with
                          | .normal=>(getAll x.2.1 var).bind fun vs=>(getAll x.2.1 inv).bind fun is=>(gc (cx.held f) (ksOf h.length (pairsH args vs h x.2.2)) vs is x.2.2).bind fun g=>G m (.loop f p) (g.1.map AV.wk++g.2.1.map AV.wk) (g.2.2.map Ob.wk)
                          |e=>(getAll x.2.1 var).bind fun vs=>(getAll x.2.1 inv).bind fun is=>(gc (cx.held f) (ksOf h.length (pairsH args vs h x.2.2)) vs is x.2.2).bind fun g=>some (Out.jump e (g.1.map AV.wk),g.2.2.map Ob.wk))).trans ?_)
                        · rfl
                        · simp only [h7, h8, h9, χ]
                          exact hn2 m (by omega)
                    | _ =>
                      refine⟨n,fun m hm=> ?_⟩
                      refine Eq.trans ?_ ((hn m hm _ (fun x=>match x.1 with
                          | .normal=>(getAll x.2.1 var).bind fun vs=>(getAll x.2.1 inv).bind fun is=>(gc (cx.held f) (ksOf h.length (pairsH args vs h x.2.2)) vs is x.2.2).bind fun g=>G m (.loop f p) (g.1.map AV.wk++g.2.1.map AV.wk) (g.2.2.map Ob.wk)
                          |e=>(getAll x.2.1 var).bind fun vs=>(getAll x.2.1 inv).bind fun is=>(gc (cx.held f) (ksOf h.length (pairsH args vs h x.2.2)) vs is x.2.2).bind fun g=>some (Out.jump e (g.1.map AV.wk),g.2.2.map Ob.wk))).trans ha)
                      rfl
                  · cases hr
          | _=>simp at hr
end
theorem ovrV_lim {F:EF}{G:Nat→EF}(hF:Lim F G) (cx:Cx) (key:Key) (args:List AV) (h:Heap) (r:Out×Heap) (hr:ovrV cx F (runKey cx F) key args h=some r):∃n,∀m,n≤m→ovrV cx (G m) (runKey cx (G m)) key args h=some r:=by
 unfold ovrV at hr ⊢
 cases key with
 |fn f =>
  simp only at hr ⊢
  cases ho:cx.ovr f with
  |some g=>rw [ho] at hr;exact⟨0,fun _ _=>hr⟩
  |none =>
   rw [ho] at hr
   simp only at hr ⊢
   cases hu:cx.rul f with
   |none=>rw [hu] at hr;exact runKey_lim hF cx _ _ h r hr
   |some ru =>
    rw [hu] at hr
    simp only at hr ⊢
    cases hn:nil? h with
    |none=>rw [hn] at hr;cases hr
    |some u =>
     rw [hn] at hr
     simp only [χ] at hr ⊢
     cases hg:ru.G F (argN cx f args) with
     |none=>rw [hg] at hr;cases hr
     |some v =>
      rw [hg] at hr
      obtain⟨n,h1⟩:=ru.lim F G hF _ v hg
      exact⟨n,fun m hm=>by rw [h1 m hm];exact hr⟩
 |own f=>exact runKey_lim hF cx _ args h r hr
 |loop f p=>exact runKey_lim hF cx _ args h r hr
theorem En_mono (cx:Cx):∀(n m:Nat),n≤m→∀key args h r,En cx n key args h=some r→En cx m key args h=some r:=by
 intro n
 induction n with
 |zero=>intro m _ key args h r hr;cases hr
 |succ n ih =>
  intro m hm key args h r hr
  obtain⟨k,rfl⟩:∃k,m=k+1:=⟨m-1,by omega⟩
  have hl:Lim (En cx n) (fun _=>En cx k):=fun key args h r hr=>⟨0,fun _ _=>ih k (by omega) key args h r hr⟩
  obtain⟨n0,hn⟩:=ovrV_lim hl cx key args h r hr
  exact hn n0 (Nat.le_refl _)
open Classical in
noncomputable def E (cx:Cx):EF:=fun key args h =>
 if hx:∃r,∃n,En cx n key args h=some r then some hx.choose else none
theorem E_spec (cx:Cx) (key:Key) (args:List AV) (h:Heap) (r:Out×Heap):E cx key args h=some r↔∃n,En cx n key args h=some r:=by
 unfold E
 constructor
 ·intro hr
  split at hr
  ·rename_i hx
   cases hr
   exact hx.choose_spec
  ·cases hr
 ·rintro⟨n,hn⟩
  have hx:∃r,∃n,En cx n key args h=some r:=⟨r,n,hn⟩
  rw [dif_pos hx]
  obtain⟨m,hm⟩:=hx.choose_spec
  have h1:=En_mono cx n (max n m) (by omega) _ _ _ _ hn
  have h2:=En_mono cx m (max n m) (by omega) _ _ _ _ hm
  rw [h1] at h2
  exact h2.symm
theorem E_lim (cx:Cx):Lim (E cx) (En cx):=fun key args h r hr=>by
 obtain⟨n,hn⟩:=(E_spec cx key args h r).1 hr
 exact⟨n,fun m hm=>En_mono cx n m hm _ _ _ _ hn⟩
theorem E_unfold (cx:Cx) (key:Key) (args:List AV) (h:Heap):E cx key args h=ovrV cx (E cx) (runKey cx (E cx)) key args h:=by
 have to:∀r,E cx key args h=some r→ovrV cx (E cx) (runKey cx (E cx)) key args h=some r:=fun r hr=>by
  obtain⟨n,hn⟩:=(E_spec cx key args h r).1 hr
  cases n with
  |zero=>cases hn
  |succ n =>
   have hl:Lim (En cx n) (fun _=>E cx):=fun key args h r hr=>⟨0,fun _ _=>(E_spec cx key args h r).2 ⟨n,hr⟩⟩
   obtain⟨n0,h0⟩:=ovrV_lim hl cx key args h r hn
   exact h0 n0 (Nat.le_refl _)
 have back:∀r,ovrV cx (E cx) (runKey cx (E cx)) key args h=some r→E cx key args h=some r:=fun r hr=>by
  obtain⟨n,hn⟩:=ovrV_lim (E_lim cx) cx key args h r hr
  exact(E_spec cx key args h r).2 ⟨n+1,hn n (Nat.le_refl _)⟩
 cases h1:E cx key args h with
 |some r=>exact(to r h1).symm
 |none =>
  cases h2:ovrV cx (E cx) (runKey cx (E cx)) key args h with
  |none=>rfl
  |some r=>rw [back r h2] at h1;cases h1
theorem E_norm {cx:Cx}{f:FuncId}(ho:cx.ovr f=none) (hu:cx.rul f=none:=by rfl) {args args':List AV}(hn:argN cx f args=argN cx f args'):E cx (.fn f) args []=E cx (.fn f) args' []:=by
 rw [E_unfold cx (.fn f) args [],E_unfold cx (.fn f) args' []]
 simp only [ovrV,ho,hu,hn]
end Go.Proofs.Av
