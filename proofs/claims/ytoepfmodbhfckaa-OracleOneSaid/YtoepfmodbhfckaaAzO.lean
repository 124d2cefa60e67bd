/- Loops: what is known behind them; slots that a piece of code does not write. -/
import Derived.Test.YtoepfmodbhfckaaAzN
namespace Go.Proofs.Av
open Go
theorem dropS_keeps {s d:Nat}{env:Env}(_h:s≠d):Keeps s env (dropS d env):=fun v hv=>⟨v,(dropS_look hv).2,rfl⟩
theorem wk1_wk1 (a:AV):a.wk1.wk1=a.wk1:=by
 cases a<;>rfl
theorem wk_idem (a:AV):a.wk.wk=a.wk:=by
 cases a with
 |agg cs =>
  show AV.wk (.agg (cs.map AV.wk1)) = .agg (cs.map AV.wk1)
  show AV.agg ((cs.map AV.wk1).map AV.wk1)=_
  rw [List.map_map]
  congr 1
  apply List.map_congr_left
  intro x _
  exact wk1_wk1 x
 | _=>rfl
section
variable {cx:Cx}{F:EF}{K:Kf}{N:Nat}{S:Nat→Prop}{μ:Mu}{env:Env}{h:Heap}{a:Act}{w:World}
theorem runOps_keeps {q:Bool}{ops:Array Oper}{s:Nat}:∀ {l:List Oper}{env:Env}{h:Heap}{e:JX}{env':Env}{h':Heap},(∀o,o∈l→o.dst≠some s) →
  runOps cx F N q ops l env h (fun e env h=>some (e,env,h))=some (e,env',h')→Keeps s env env'
 | [],env,h,e,env',h',hl,hr=>by simp only [runOps] at hr;cases hr;exact Keeps.refl _ _
 |o::rest,env,h,e,env',h',hl,hr=>by
  simp only [runOps] at hr
  have hrest:∀o,o∈rest→o.dst≠some s:=fun o ho=>hl o (List.mem_cons_of_mem _ ho)
  have h0:=hl o (List.mem_cons_self ..)
  have one:(stepOp cx F N q o env h fun e env h=>match e with
    | .normal=>runOps cx F N q ops rest env h fun e env h=>some (e,env,h)
    |e=>some (e,env,h))=some (e,env',h')→Keeps s env env':=fun hr=>by
   obtain⟨⟨e1,env1,h1⟩,h2,h3,_⟩:=stepOp_pkl (G:=fun _=>F) (fun _ _ _ r hr=>⟨0,fun _ _=>hr⟩) cx N q o env h _ (fun x=>match x.1 with
    | .normal=>runOps cx F N q ops rest x.2.1 x.2.2 fun e env h=>some (e,env,h)
    |e=>some (e,x.2.1,x.2.2)) _ hr
   have k1:=stepOp_keeps (h3 _ fun x=>some x) h0
   cases e1 with
   |normal=>exact k1.trans (runOps_keeps hrest h2)
   | _=>cases h2;exact k1
  split at hr
  ·exact one hr
  ·rename_i j want _
   obtain⟨d,h1,hr⟩:=bind_some_iff hr
   obtain⟨v,h2,hr⟩:=bind_some_iff hr
   split at hr
   ·rename_i b
    cases hb:(b==want) with
    |true=>rw [hb] at hr;exact one hr
    |false =>
     rw [hb] at hr
     simp only [cond_false] at hr
     obtain⟨env1,h3,h4⟩:=(putK_pk _ _ _ _).some hr
     exact(putK_keeps h4 h0).trans (runOps_keeps hrest h3)
   ·obtain⟨env1,h3,h4⟩:=(putK_pk _ _ _ _).some hr
    exact(putK_keeps h4 h0).trans (runOps_keeps hrest h3)
   ·cases hr
theorem prune_keeps {ls:List Nat}{vs:List AV}(hg:getAll env ls=some vs) (s:Nat):Keeps s env (ls.zip vs):=by
 intro v hv
 obtain⟨i,h1,h2⟩:=look_zip hv
 exact⟨v,(getAll_spec hg).2 i s v h1 h2,rfl⟩
theorem iterN_keeps {ls:List Nat}{s:Nat}{st:Env→Heap→(JX→Env→Heap→Option (JX×Env×Heap))→Option (JX×Env×Heap)}
  (hst:∀(env:Env) (h:Heap) (c:JX→Env→Heap→Option (JX×Env×Heap)) (r),st env h c=some r→∃e env' h',c e env' h'=some r∧Keeps s env env') :
  ∀(n:Nat) {env:Env}{h:Heap}{e:JX}{env':Env}{h':Heap},iterN ls st n env h (fun e env h=>some (e,env,h))=some (e,env',h')→Keeps s env env'
 | 0,env,h,e,env',h',hr=>by simp only [iterN] at hr;cases hr
 |n+1,env,h,e,env',h',hr=>by
  simp only [iterN] at hr
  obtain⟨e1,env1,h1,h2,h3⟩:=hst _ _ _ _ hr
  cases e1 with
  |normal =>
   simp only at h2
   obtain⟨vs,h4,h2⟩:=bind_some_iff h2
   exact h3.trans ((prune_keeps h4 s).trans (iterN_keeps hst n h2))
  | _=>cases h2;exact h3
theorem loopOk_nodup {var inv:List Nat}{b:Code}(h:loopOk var inv b=true):inv.Nodup:=by
 unfold loopOk at h
 simp only [Bool.and_eq_true] at h
 exact nodupL_spec h.2.1
theorem loopOk_spec {var inv:List Nat}{b:Code}(h:loopOk var inv b=true):(∀s,s∈inv→s ∉ dsts b)∧∀s,s∈var→s∈dsts b:=by
 unfold loopOk apartL at h
 simp only [Bool.and_eq_true] at h
 refine⟨fun s hs hd=> ?_,fun s hs=> ?_⟩
 ·have:=List.all_eq_true.1 h.1 s hs
  rw [any_beq.2 hd] at this
  cases this
 ·exact any_beq.1 (List.all_eq_true.1 h.2.2 s hs)
theorem runAny_keeps {N:Nat}{md:Bool}{h0:Heap}{TT:List Nat}{ops:Array Oper}{s:Nat}{l:List Oper}{env:Env}{h:Heap}{env':Env}{h':Heap}(hs:∀o∈l,o.dst≠some s) (hr:runAny cx F N md h0 TT ops l env h (fun e h=>some (e,h))=some (env',h')):Keeps s env env':=by
 obtain⟨E,H,V,g1,g2,g3,g4,g5⟩:=runAny_lex hr
 have key:∀k,k≤l.length→Keeps s env (E k):=by
  intro k
  induction k with
  |zero=>intro _;rw [g1];exact Keeps.refl _ _
  |succ k ih =>
   intro hk
   have ho:l[k]?=some l[k]:=List.getElem?_eq_getElem (by omega)
   have hl:=g5 k _ ho
   refine(ih (by omega)).trans fun v hv=> ?_
   rw [hl.env,ext_look_ne (hs _ (List.mem_of_getElem? ho))] at hv
   exact⟨v,hv,rfl⟩
 rw [←g3]
 exact key _ (Nat.le_refl _)
theorem runUp_keeps {N:Nat}{md:Bool}{h0:Heap}{TT:List Nat}{ops:Array Oper}{s:Nat}{env:Env}{h:Heap}{e:JX}{env':Env}{h':Heap}(hs:∀ {j:Nat}(o:Oper),ops[j]?=some o→o.dst≠some s) (hr:runUp cx F N md h0 TT ops (dropD ops env) 0 ops.toList env h (fun e env h=>some (e,env,h))=some (e,env',h')):Keeps s env env':=by
 rcases runUp_lex ops.toList 0 rfl hr with⟨_,E,H,V,g1,_,g3,_,g5⟩ |⟨E,H,V,D,M0,o0,v,_,_,_,_,_,_,g,_⟩
 ·have key:∀k,k≤ops.toList.length→Keeps s env (E k):=by
   intro k
   induction k with
   |zero=>intro _;rw [g1];exact Keeps.refl _ _
   |succ k ih =>
    intro hk
    have ho:ops.toList[k]?=some ops.toList[k]:=List.getElem?_eq_getElem (by omega)
    refine(ih (by omega)).trans fun v hv=> ?_
    rcases(g5 k _ ho).env with⟨hd,_⟩ |⟨_,he⟩
    ·cases hd
    ·rw [he,ext_look_ne (hs (j:=k) _ (by simp))] at hv
     exact⟨v,hv,rfl⟩
  rw [←g3]
  exact key _ (Nat.le_refl _)
 ·rw [g]
  exact fun v hv=>⟨v,dropD_look hv,rfl⟩
theorem coerceN_keeps {s:Nat}:∀ {l:List (Nat×Nat×TypeId)}{env:Env}{h:Heap}{env':Env}{h':Heap},(∀x∈l,x.1≠s)→coerceN cx l env h (fun e h=>some (e,h))=some (env',h')→Keeps s env env'
 | [],env,h,env',h',hl,hr=>by simp only [coerceN] at hr;cases hr;exact Keeps.refl _ _
 | (t,bb,ty)::r,env,h,env',h',hl,hr=>by
  simp only [coerceN] at hr
  obtain⟨v,h1,hr⟩:=bind_some_iff hr
  have hl':∀x∈r,x.1≠s:=fun x hx=>hl x (List.mem_cons_of_mem _ hx)
  have put:∀x:AV,Keeps s env ((t,x)::env):=fun x v hv=>by
   simp only [look] at hv
   split at hv
   ·rename_i hb
    exact absurd (Nat.eq_of_beq_eq_true hb) (hl (t,bb,ty) (List.mem_cons_self ..))
   ·exact⟨v,hv,rfl⟩
  split at hr
  ·obtain⟨q,h2,hr⟩:=bind_some_iff hr
   split at hr<;>exact Keeps.trans (put _) (coerceN_keeps hl' hr)
  ·split at hr
   ·obtain⟨x,h2,hr⟩:=bind_some_iff hr
    split at hr
    ·obtain⟨q,h2,hr⟩:=bind_some_iff hr
     exact Keeps.trans (put _) (coerceN_keeps hl' hr)
    ·exact coerceN_keeps hl' hr
   ·exact coerceN_keeps hl' hr
  ·split at hr
   ·obtain⟨x,h2,hr⟩:=bind_some_iff hr
    exact Keeps.trans (put _) (coerceN_keeps hl' hr)
   ·exact coerceN_keeps hl' hr
  ·exact coerceN_keeps hl' hr
theorem nilsOk_spec {l:List (Nat×Nat×TypeId)}{var:List Nat}(h:nilsOk l var=true) {x:Nat×Nat×TypeId}(hx:x∈l):x.1∈var :=
 any_beq.1 (List.all_eq_true.1 h x hx)
theorem run_keeps {f:FuncId}{s:Nat}:∀(code:Code) {p:List Bool}{env:Env}{h:Heap}{e:JX}{env':Env}{h':Heap},s ∉ dsts code →
  run cx F f N code p env h (fun e env h=>some (e,env,h))=some (e,env',h')→Keeps s env env'
 | .skip,p,env,h,e,env',h',hs,hr=>by simp only [run] at hr;cases hr;exact Keeps.refl _ _
 | .label _,p,env,h,e,env',h',hs,hr=>by simp only [run] at hr;cases hr;exact Keeps.refl _ _
 | .ret,p,env,h,e,env',h',hs,hr=>by simp only [run] at hr;cases hr;exact Keeps.refl _ _
 | .exit _,p,env,h,e,env',h',hs,hr=>by simp only [run] at hr;cases hr;exact Keeps.refl _ _
 | .goto _,p,env,h,e,env',h',hs,hr=>by simp only [run] at hr;cases hr;exact Keeps.refl _ _
 | .region _ ops false,p,env,h,e,env',h',hs,hr=>by
  simp only [run] at hr
  exact runOps_keeps (fun o ho hd=>hs (by simp only [dsts];exact List.mem_filterMap.2 ⟨o,ho,hd⟩)) hr
 | .region _ ops true,p,env,h,e,env',h',hs,hr=>by
  simp only [run] at hr
  cases hlo:upOk cx false ops with
  |true =>
   rw [hlo] at hr
   simp only [cond_true] at hr
   exact runUp_keeps (fun o ho hd=>hs (by simp only [dsts];exact List.mem_filterMap.2 ⟨o,by simpa using Array.mem_of_getElem? ho,hd⟩)) hr
  |false =>
  rw [hlo] at hr
  simp only [cond_false] at hr
  cases hc:anyOk cx.P cx.turns false ops with
  |true =>
   rw [hc] at hr
   simp only [cond_true] at hr
   obtain⟨⟨env1,h1⟩,h2,h3,_⟩:=runAny_pkl (G:=fun _=>F) (fun _ _ _ r hr=>⟨0,fun _ _=>hr⟩) cx N false [] [] ops ops.toList env h _ (fun x=>some (JX.normal,x.1,x.2)) _ hr
   cases h2
   exact runAny_keeps (fun o ho hd=>hs (by simp only [dsts];exact List.mem_filterMap.2 ⟨o,ho,hd⟩)) (h3 _ fun x=>some x)
  |false =>
   rw [hc] at hr
   simp only [cond_false] at hr
   cases hc1:upOk cx true ops with
   |true =>
    rw [hc1] at hr
    simp only [cond_true] at hr
    exact runUp_keeps (fun o ho hd=>hs (by simp only [dsts];exact List.mem_filterMap.2 ⟨o,by simpa using Array.mem_of_getElem? ho,hd⟩)) hr
   |false =>
   rw [hc1] at hr
   simp only [cond_false] at hr
   have hfloat:floatRun cx F N ops env h (fun e env h=>some (e,env,h))=some (e,env',h')→Keeps s env env':=by
    intro hr
    unfold floatRun at hr
    obtain⟨z,_,hr⟩:=bind_some_iff hr
    obtain⟨oz,hoz,hr⟩:=bind_some_iff hr
    obtain⟨d,hd,hr⟩:=bind_some_iff hr
    split at hr
    ·rename_i t hop
     cases hfl:(floatOk cx.P cx.turns ops z&&(!cx.rows t&&(Nat.blt d N&&(cx.zero t).isSome))) with
     |false=>rw [hfl] at hr;cases hr
     |true =>
      rw [hfl] at hr
      simp only [cond_true] at hr
      obtain⟨⟨env1,h1⟩,h2,h3,_⟩:=runAny_pkl (G:=fun _=>F) (fun _ _ _ r hr=>⟨0,fun _ _=>hr⟩) cx N false [] [] (anchor cx.turns ops z) _ (dropS d env) h _ (fun x=>some (JX.normal,x.1,x.2)) _ hr
      cases h2
      have hno:∀(j:Nat) (o:Oper),ops[j]?=some o→o.dst≠some s:=fun j o ho hd=>hs (by
       simp only [dsts]
       exact List.mem_filterMap.2 ⟨o,by simpa using Array.mem_of_getElem? ho,hd⟩)
      have hsd:s≠d:=fun e=>hno z oz hoz (by rw [hd,e])
      refine(dropS_keeps hsd).trans (runAny_keeps (fun o ho hd'=> ?_) (h3 _ fun x=>some x))
      obtain⟨j,hj⟩:=List.mem_iff_getElem?.1 ho
      have hj':(anchor cx.turns ops z)[j]?=some o:=by simpa using hj
      have:=anchor_dst (tf:=cx.turns) (ops:=ops) (z:=z) (j:=j)
      rw [hj'] at this
      obtain⟨o',ho',hd2⟩:=bind_some_iff (this.symm.trans hd')
      exact hno j o' ho' hd2
    ·cases hr
   generalize cx.flt f p=fl at hr
   cases fl with
   |true =>
    simp only [cond_true] at hr
    exact hfloat hr
   |false =>
   simp only [cond_false] at hr
   cases hc2:anyOk cx.P cx.turns true ops with
   |false =>
    rw [hc2] at hr
    simp only [cond_false] at hr
    exact hfloat hr
   |true =>
    rw [hc2] at hr
    simp only [cond_true] at hr
    obtain⟨⟨env1,h1⟩,h2,h3,_⟩:=runAny_pkl (G:=fun _=>F) (fun _ _ _ r hr=>⟨0,fun _ _=>hr⟩) cx N true h _ ops _ env h _ (fun x=>runOps cx F N false ops (ops.toList.drop (tailAt cx.turns ops)) x.1 x.2 fun e env h=>some (e,env,h)) _ hr
    exact(runAny_keeps (fun o ho hd=>hs (by simp only [dsts];exact List.mem_filterMap.2 ⟨o,List.mem_of_mem_take ho,hd⟩)) (h3 _ fun x=>some x)).trans
     (runOps_keeps (fun o ho hd=>hs (by simp only [dsts];exact List.mem_filterMap.2 ⟨o,List.mem_of_mem_drop ho,hd⟩)) h2)
 | .seq a b,p,env,h,e,env',h',hs,hr=>by
  simp only [run] at hr
  simp only [dsts,List.mem_append,not_or] at hs
  obtain⟨⟨e1,env1,h1⟩,h2,h3,_⟩:=run_pkl (G:=fun _=>F) (fun _ _ _ r hr=>⟨0,fun _ _=>hr⟩) cx f N a (p++[false]) env h _ (fun x=>match x.1 with
   | .normal=>run cx F f N b (p++[true]) x.2.1 x.2.2 fun e env h=>some (e,env,h)
   |e=>some (e,x.2.1,x.2.2)) _ hr
  have k1:=run_keeps a hs.1 (h3 _ fun x=>some x)
  cases e1 with
  |normal=>exact k1.trans (run_keeps b hs.2 h2)
  | _=>cases h2;exact k1
 | .cond x a b,p,env,h,e,env',h',hs,hr=>by
  simp only [run] at hr
  simp only [dsts,List.mem_append,not_or] at hs
  obtain⟨v,h1,hr⟩:=bind_some_iff hr
  split at hr
  ·rename_i t
   cases t with
   |true=>exact run_keeps a hs.1 hr
   |false=>exact run_keeps b hs.2 hr
  ·cases hr
 | .block id b,p,env,h,e,env',h',hs,hr=>by
  simp only [run] at hr
  simp only [dsts] at hs
  obtain⟨⟨e1,env1,h1⟩,h2,h3,_⟩:=run_pkl (G:=fun _=>F) (fun _ _ _ r hr=>⟨0,fun _ _=>hr⟩) cx f N b (p++[false]) env h _ (fun x=>match x.1 with
   | .exit i=>match Nat.beq i id with
    |true=>thawB x.2.1 (cx.thawX f p) x.2.2 fun h=>some (.normal,x.2.1,h)
    |false=>some (.exit i,x.2.1,x.2.2)
   |e=>some (e,x.2.1,x.2.2)) _ hr
  have k1:=run_keeps b hs (h3 _ fun x=>some x)
  cases e1 with
  |exit i =>
   simp only at h2
   split at h2
   ·obtain⟨h9,h4,_⟩:=(thawB_pk _ _ _).some h2
    cases h4;exact k1
   ·cases h2;exact k1
  | _=>cases h2;exact k1
 | .loop b,p,env,h,e,env',h',hs,hr=>by
  simp only [run] at hr
  simp only [dsts] at hs
  obtain⟨an,h1,hr⟩:=bind_some_iff hr
  split at hr
  ·refine iterN_keeps (fun env h c r hr=> ?_) _ hr
   obtain⟨⟨e1,env1,h1⟩,h2,h3,_⟩:=run_pkl (G:=fun _=>F) (fun _ _ _ r hr=>⟨0,fun _ _=>hr⟩) cx f N b (p++[false]) env h _ (fun x=>c x.1 x.2.1 x.2.2) _ hr
   exact⟨e1,env1,h1,h2,run_keeps b hs (h3 _ fun x=>some x)⟩
  ·rename_i var inv
   cases hokn:(loopOk var inv b&&nilsOk (cx.nils f p) var) with
   |false=>rw [hokn] at hr;cases hr
   |true =>
    rw [hokn] at hr
    simp only [cond_true] at hr
    simp only [Bool.and_eq_true] at hokn
    obtain⟨hok,hnil⟩:=hokn
    obtain⟨⟨env0,h0⟩,hr0,hco⟩:=(coerceN_pk cx (cx.nils f p) env h) _ (fun x=>coerceB cx (cx.boxes f p) x.1 x.2 fun h=>(getAll x.1 var).bind fun vs=>(getAll x.1 inv).bind fun is =>
     (F (.loop f p) (vs.map AV.wk++is.map AV.wk) (h.map Ob.wk)).bind fun r=>(asJump r).bind fun j =>
     loopX cx f j.1 (fun e=>normAs (formV cx f p e (vs.map AV.wk)) j.2.1 fun vs'=>normHeap (formH cx f p e (h.map Ob.wk)) j.2.2 fun h' =>
      some (e,var.zip vs'++inv.zip (is.map AV.wk),h')) ((exitsOf b).foldr addE [])) _ hr
    have hk0:Keeps s env env0:=coerceN_keeps (fun x hx he=>hs (he▸(loopOk_spec hok).2 _ (nilsOk_spec hnil hx))) (hco _ some)
    refine hk0.trans ?_
    clear hr
    simp only at hr0
    obtain⟨h0,hr0,_⟩:=(coerceB_pk cx (cx.boxes f p) env0 h0).some hr0
    obtain⟨vs,h2,hr⟩:=bind_some_iff hr0
    obtain⟨is,h3,hr⟩:=bind_some_iff hr
    obtain⟨r,h4,hr⟩:=bind_some_iff hr
    obtain⟨j,h5,hr⟩:=bind_some_iff hr
    have fin:∀(e0:JX),(normAs (formV cx f p e0 (vs.map AV.wk)) j.2.1 fun vs'=>normHeap (formH cx f p e0 (h0.map Ob.wk)) j.2.2 fun h'=>some (e0,var.zip vs'++inv.zip (is.map AV.wk),h'))=some (e,env',h')→Keeps s env0 env':=by
     intro e0 hr
     obtain⟨vs',h6,h7⟩:=(normAs_pk _ _).some hr
     obtain⟨h'',h8,h9⟩:=(normHeap_pk _ _).some h6
     cases h8
     intro v hv
     rcases look_append hv with hv |hv
     ·obtain⟨i,g1,g2⟩:=look_zip hv
      exact absurd ((loopOk_spec hok).2 s (List.mem_of_getElem? g1)) hs
     ·obtain⟨i,g1,g2⟩:=look_zip hv
      simp only [List.getElem?_map] at g2
      cases hx:is[i]? with
      |none=>rw [hx] at g2;cases g2
      |some x =>
       rw [hx] at g2
       cases g2
       exact⟨x,(getAll_spec h3).2 i s x g1 hx,wk_idem x⟩
    have sel:∀l:List JX,jsel j.1 (fun e=>normAs (formV cx f p e (vs.map AV.wk)) j.2.1 fun vs'=>normHeap (formH cx f p e (h0.map Ob.wk)) j.2.2 fun h'=>some (e,var.zip vs'++inv.zip (is.map AV.wk),h')) l=some (e,env',h')→Keeps s env0 env':=by
     intro l
     induction l with
     |nil=>intro hr;simp only [jsel] at hr;cases hr
     |cons x xs ih =>
      intro hr
      simp only [jsel] at hr
      cases hx:j.1.is x with
      |true=>rw [hx] at hr;exact fin x hr
      |false=>rw [hx] at hr;exact ih hr
    unfold loopX at hr
    split at hr
    ·exact sel _ hr
    ·rename_i T _
     cases hp:j.1.isPan with
     |false=>rw [hp] at hr;exact sel _ hr
     |true =>
      rw [hp] at hr
      obtain⟨x,h6,hr⟩:=bind_some_iff hr
      obtain⟨x',h7,_⟩:=(normZ_pk (cx.sv T) x).some hr
      cases hg:x'.ground with
      |true=>rw [hg] at h7;exact fin _ h7
      |false=>rw [hg] at h7;cases h7
 | .rangeFunc ..,p,env,h,e,env',h',hs,hr=>by simp only [run] at hr;cases hr
 | .scope ..,p,env,h,e,env',h',hs,hr=>by simp only [run] at hr;cases hr
 | .refuse ..,p,env,h,e,env',h',hs,hr=>by simp only [run] at hr;cases hr
end
end Go.Proofs.Av
