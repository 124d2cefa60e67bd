/- The evaluator is sound: what it tells of a function is what the machine's call does. -/
import Derived.Test.YtoepfmodbhfckaaAzP
import Derived.Recover
namespace Go.Proofs.Av
open Go
def NamesOk (P:Program):Prop:=∀(f:Nat) (fn:Func),P.funcs[f]?=some fn→(fn.name== "runtime.NumGoroutine")=false
section
variable {cx:Cx}{F:EF}{K:Kf}{N:Nat}{S:Nat→Prop}{μ:Mu}{env:Env}{h:Heap}{w:World}{tmps:Array Value}
theorem resultOf_sem (st:St cx K N S μ env h tmps w) {r:ResultVar}{av:AV}(hr:resultOf cx env h r=some av):∃v,Rep S w μ av v∧(match r with | .tmp t=>pure (tmps.getD t undef) | .cell a t=>(do loadVar t (←asAddr (tmps.getD a undef))):Sem Value).run cx.P w = .ok v w:=by
 cases r with
 |tmp t =>
  simp only [resultOf] at hr
  exact⟨_,st.env t av hr,rfl⟩
 |cell a t =>
  simp only [resultOf] at hr
  obtain⟨p,h1,hr⟩:=bind_some_iff hr
  obtain⟨cs,h2,h3⟩:=(cellsAt_pk _ _ _).some hr
  obtain⟨b,off,h4,h5⟩:=cellsAt_sem st.heap (st.env a p h1) h3
  obtain⟨v,h6,h7⟩:=loadC_sem h5 h2
  refine⟨v,h6,?_⟩
  simp [h4,asAddr,h7 w (Ext.refl w)]
theorem resultsOf_sem (st:St cx K N S μ env h tmps w):∀ {rs:List ResultVar}{as:List AV},resultsOf cx env h rs=some as →
  ∃vs,Reps S w μ as vs∧(rs.mapM fun
   |ResultVar.tmp t=>(pure (tmps.getD t undef):Sem Value)
   | .cell a t=>do loadVar t (←asAddr (tmps.getD a undef))).run cx.P w = .ok vs w
 | [],as,hr=>by cases hr;exact⟨[],.nil,rfl⟩
 |r::rs,as,hr=>by
  simp only [resultsOf] at hr
  obtain⟨x,h1,hr⟩:=bind_some_iff hr
  obtain⟨xs,h2,hr⟩:=bind_some_iff hr
  cases hr
  obtain⟨v,h3,h4⟩:=resultOf_sem st h1
  obtain⟨vs,h5,h6⟩:=resultsOf_sem st h2
  refine⟨v::vs,h5.cons h3,?_⟩
  rw [List.mapM_cons]
  simp only [Sem.run_bind]
  cases r<;>simp only [h4,Result.andThen_ok,Sem.run_pure,h6]
theorem results_sem (st:St cx K N S μ env h tmps w) {fn:Func}{as as':List AV}(hr:resultsOf cx env h fn.results.toList=some as) (hv:viewArgs h as=some as'):∃v S',(results fn tmps).run cx.P w = .ok v w∧Rep S' w Mu.none (oneOf as') v∧(∀b,S b→S' b)∧(∀b,S' b→S b∨∃r s,μ r=some (b,s)):=by
 obtain⟨vs,h1,h2⟩:=resultsOf_sem st hr
 have h3:=viewArgs_sem (T:=fun b=>S b∨∃r s,μ r=some (b,s)) (fun b hb => .inl hb) st.heap (.inr fun r b s hb => .inr ⟨r,s,hb⟩) hv h1
 refine⟨if hs:vs.toArray.size=1 then vs.toArray[0] else .tuple vs.toArray,fun b=>S b∨∃r s,μ r=some (b,s),?_,?_,fun b hb => .inl hb,fun b hb=>hb⟩
 ·unfold results
  rw [Array.mapM_eq_mapM_toList]
  simp only [Sem.run_bind,Sem.run_map,Sem.run_pure]
  exact(congrArg (fun r:Result (List Value)=>(r.andThen fun a w'=>Result.ok a.toArray w').andThen fun a w'=>Result.ok (if h:a.size=1 then a[0] else Value.tuple a) w') h2).trans rfl
 ·cases as' with
  |nil =>
   have:=h3.inv_nil
   subst this
   exact .tuple #[] rfl fun j v u hv=>by simp at hv
  |cons x xs =>
   obtain⟨v,r,rfl,h4,h5⟩:=h3.inv_cons
   cases xs with
   |nil =>
    have:=h5.inv_nil
    subst this
    simpa [oneOf] using h4
   |cons y ys =>
    obtain⟨v2,r2,rfl,h6,h7⟩:=h5.inv_cons
    simp only [oneOf]
    rw [dif_neg (by simp)]
    exact Rep.of_tuple h3
theorem look_numbered:∀ {as:List AV}{n t:Nat}{v:AV},look (numbered n as) t=some v→∃i,t=n+i∧as[i]?=some v
 | [],n,t,v,h=>by simp [numbered,look] at h
 |x::xs,n,t,v,h=>by
  simp only [numbered,look] at h
  split at h
  ·rename_i hb
   cases h
   exact⟨0,by rw [←Nat.eq_of_beq_eq_true hb];rfl,rfl⟩
  ·obtain⟨i,h1,h2⟩:=look_numbered h
   exact⟨i+1,by omega,by simpa using h2⟩
end
section
variable {cx:Cx}{F:EF}
theorem getAll_append {env:Env}:∀ {a b:List Nat}{us:List AV},getAll env (a++b)=some us→∃x y,getAll env a=some x∧getAll env b=some y∧us=x++y
 | [],b,us,h=>⟨[],us,rfl,h,rfl⟩
 |t::a,b,us,h=>by
  simp only [List.cons_append,getAll] at h
  obtain⟨v,h1,h⟩:=bind_some_iff h
  obtain⟨r,h2,h⟩:=bind_some_iff h
  cases h
  obtain⟨x,y,h3,h4,rfl⟩:=getAll_append h2
  exact⟨v::x,y,by simp [getAll,h1,h3],h4,rfl⟩
theorem numbered_st {S:Nat→Prop}{w:World}{args:List AV}{vals:List Value}{N:Nat}(hS:∀b,S b→b<w.heap.size) (hG:GRel cx S w) (hA:Reps S w Mu.none args vals) (hle:args.length≤N):St cx ⟨w,S,fun _=>False,Mu.none⟩ N S Mu.none (numbered 0 args) [] (vals.toArray++Array.replicate (N-vals.toArray.size) undef) w:=by
 have hlen:=hA.1
 refine⟨by simp;omega,fun t x ht=> ?_,hG,(fun r o ho=>by simp at ho),(fun r r' b s s' h=>by cases h),(fun r x h=>by cases h),(fun r b s h=>by cases h),fun _ h=>h,fun _ h => .inl h,hS,fun _ _ _=>rfl,Nat.le_refl _,rfl,rfl,OutD.refl _,fun r x h=>(by cases h)⟩
 obtain⟨i,rfl,hi⟩:=look_numbered ht
 obtain⟨u,hu,hru⟩:=hA.get hi
 have hil:=(List.getElem?_eq_some_iff.1 hu).1
 rw [Nat.zero_add,Array.getD_eq_getD_getElem?,Array.getElem?_append_left (by simpa using hil)]
 simp only [List.getElem?_toArray,hu,Option.getD_some]
 exact hru
theorem post_fin {K:Kf}{N:Nat}{S:Nat→Prop}{μ:Mu}{env:Env}{h:Heap}{w:World}{tmps:Array Value}(st:St cx K N S μ env h tmps w) (hK:K.O0=fun _=>False) {fn:Func}{vs vs':List AV}(h6:resultsOf cx env h fn.results.toList=some vs) (h7:viewArgs h vs=some vs'):∃x,(results fn tmps).run cx.P w = .ok x w∧Post cx K.S0 K.w0 (oneOf vs') (.returned x) w:=by
 obtain⟨x,S2,g1,g2,g3,g4⟩:=results_sem st h6 h7
 have hO:∀b,¬K.O0 b:=fun b=>by rw [hK];exact fun h=>h
 refine⟨x,g1,x,S2,rfl,g2,fun b hb=>st.frame b hb (hO b),st.le,st.os,st.tape,st.output,fun b hb=>g3 b (st.s0 b hb),fun b hb=> ?_,fun b hb=> ?_⟩
 ·rcases g4 b hb with h |⟨r,s,h⟩
  ·rcases st.snew b h with h |h |h
   ·exact .inl h
   ·exact(hO b h).elim
   ·exact .inr h
  ·rcases st.own r b s h with h |h
   ·exact(hO b h).elim
   ·exact .inr h
 ·rcases g4 b hb with h |⟨r,s,h⟩
  ·exact st.slt b h
  ·exact st.lt h
theorem isPtr_rep {S S':Nat→Prop}{w w':World}{μ μ':Mu}{m:Nat}{v:AV}{u:Value}(hv:isPtr m v=true) (hμ:∀r x,r<m→μ r=some x→μ' r=some x) (hr:Rep S w μ v u):Rep S' w' μ' v u:=by
 unfold isPtr at hv
 split at hv
 ·rename_i r ver i j
  have hlt:r<m:=by simpa using hv
  cases hr with
  |ptr b sz C hb=>exact .ptr b sz C (hμ _ _ hlt hb)
 ·cases hv
theorem resPtrs_spec {m:Nat}{env:Env}:∀ {rs:List ResultVar}{e3:Env},resPtrs m env rs=some e3→∀t v,look e3 t=some v→look env t=some v∧(isPtr m v=true∨v.ground=true)
 | [],e3,h,t,v,hv=>by cases h;cases hv
 | .cell a ty::r,e3,h,t,v,hv=>by
  simp only [resPtrs] at h
  obtain⟨x,h1,h⟩:=bind_some_iff h
  cases hp:isPtr m x with
  |false=>rw [hp] at h;cases h
  |true =>
   rw [hp] at h
   obtain⟨e4,h2,h⟩:=bind_some_iff h
   cases h
   simp only [look] at hv
   split at hv
   ·rename_i hb
    have:=Nat.eq_of_beq_eq_true hb
    subst this
    cases hv
    exact⟨h1,.inl hp⟩
   ·exact resPtrs_spec h2 t v hv
 | .tmp a::r,e3,h,t,v,hv=>by
  simp only [resPtrs] at h
  obtain⟨x,h1,h⟩:=bind_some_iff h
  cases hp:x.ground with
  |false=>rw [hp] at h;cases h
  |true =>
   rw [hp] at h
   obtain⟨e4,h2,h⟩:=bind_some_iff h
   cases h
   simp only [look] at hv
   split at hv
   ·rename_i hb
    have:=Nat.eq_of_beq_eq_true hb
    subst this
    cases hv
    exact⟨h1,.inr hp⟩
   ·exact resPtrs_spec h2 t v hv
def Kf.keep (K:Kf) (m:Nat) (μ:Mu):Kf:=⟨K.w0,K.S0,K.O0,fun r=>if r<m then μ r else none⟩
theorem St.keep {K:Kf}{N:Nat}{S:Nat→Prop}{μ:Mu}{env:Env}{h:Heap}{w:World}{tmps:Array Value}(st:St cx K N S μ env h tmps w) (m:Nat):St cx (K.keep m μ) N S μ env h tmps w :=
 ⟨st.size,st.env,st.g,st.heap,st.inj,st.dom,st.own,st.s0,st.snew,st.slt,st.frame,st.le,st.os,st.tape,st.output,fun r x hx=>by
  unfold Kf.keep at hx
  simp only at hx
  split at hx
  ·exact hx
  ·cases hx⟩
theorem keep_lt {K:Kf}{m:Nat}{μ:Mu}:∀r x,(K.keep m μ).fix r=some x→r<m:=fun r x hx=>by
 unfold Kf.keep at hx
 simp only at hx
 split at hx
 ·assumption
 ·cases hx
theorem keep_fix {K:Kf}{m:Nat}{μ:Mu}{r:Nat}(x:Nat×Nat×Nat) (hr:r<m) (h:μ r=some x):(K.keep m μ).fix r=some x:=by
 unfold Kf.keep
 simp only
 rw [if_pos hr]
 exact h
theorem panOk_rep {S:Nat→Prop}{w:World}{μ:Mu}{v:AV}(h:panOk v=true):Rep S w μ v v.toV:=by
 unfold panOk at h
 split at h
 ·rename_i t x
  refine .iface ?_
  have all:∀ {cs:List AV}(j:Nat) (v:AV) (u:Value),(cs.all fun | .val _=>true | _=>false)=true→cs[j]?=some v→(cs.map fun | .val v=>v | _=>undef).toArray[j]?=some u→Rep S w μ v u:=fun {cs} j v u hg hv hu=>by
   have:=List.all_eq_true.1 hg v (List.mem_of_getElem? hv)
   simp only [List.getElem?_toArray,List.getElem?_map,hv,Option.map_some] at hu
   cases v<;>first
    | (simp at this;done)
    | (cases hu;exact .val _)
  cases x<;>first
   | (cases h;done)
   |skip
  case val=>exact .val _
  case agg cs=>exact .agg _ (by simp) fun j v u hv hu=>all j v u h hv hu
  case tuple cs=>exact .tuple _ (by simp) fun j v u hv hu=>all j v u h hv hu
 ·cases h
def Why (e:JX) (rv:Value) (u:FrameMode):Prop:=(rv = .nilIface∧u = .returning)∨∃v,e = .pan v∧rv=v.toV∧u = .panicking [{ v:=rv,recovered:=false }]
theorem runG_wp (hX:ExtSound cx) (hF:FnSound cx F) (hO:OP cx F) (hL:LoopSound cx F) {K:Kf}(hK:K.O0=fun _=>False) {N:Nat}{S:Nat→Prop}{μ:Mu}{env:Env}{h:Heap}{w:World}{tmps:Array Value}(st:St cx K N S μ env h tmps w) {g:FuncId}{fn:Func}{dargs:List AV}{vals:List Value}{e:JX}{v av:AV}{rv:Value}{u:FrameMode}(hd:Reps S w μ dargs vals) (hv:Rep S w μ v rv) (hu:Why e rv u) (hr:runG cx F g fn dargs v env h some=some av) {fv:Fn}{cap dv:Array Value}(hi:∀w,(invoke (.fn fv cap) dv).run cx.P w = .ok (.enter g vals.toArray) w):Leaves cx.P fn tmps (Post cx K.S0 K.w0 av) [{ target := .fn fv cap,args:=dv }] u w:=by
 unfold runG at hr
 obtain⟨gn,h1,hr⟩:=bind_some_iff hr
 obtain⟨gb,h2,hr⟩:=bind_some_iff hr
 split at hr
 ·rename_i id gops rest
  obtain⟨d,h3,hr⟩:=bind_some_iff hr
  split at hr
  ·rename_i hle
   simp only [Bool.and_eq_true] at hle
   have hle1:=Nat.le_of_ble_eq_true hle.1
   have hdl:d<gn.ntmps:=by simpa using hle.2
   obtain⟨⟨e2,env2,h2'⟩,h4,h5,_⟩:=run_pkl (F:=F) (G:=fun _=>F) (fun _ _ _ r hr=>⟨0,fun _ _=>hr⟩) cx g gn.ntmps rest [true] ((d,v)::numbered 0 dargs) h _ (fun x=>match x.1 with
    | .normal | .ret=>(resultsOf cx x.2.1 x.2.2 gn.results.toList).bind fun _ =>
     (resPtrs (cx.held g) env fn.results.toList).bind fun e3=>(resultsOf cx e3 x.2.2 fn.results.toList).bind fun vs=>(viewArgs x.2.2 vs).bind fun vs'=>some (oneOf vs')
    | _=>none) _ hr
   have hrun:=h5 _ fun x=>some x
   refine leaves_cons (by rcases hu with⟨_,rfl⟩ |⟨_,_,_,rfl⟩<;>simp) (hi w) (callsD_of_wpS h1 h2 fun c₀ cs hc₀=>wpS_seq (wpS_region ?_))
   unfold recOp at h3
   split at h3
   ·rename_i d' args ts ty pos after hops
    have hgs:gops= #[{ dst:=some d',op := .call { callee := .builtin .recover,args:=args,argTypes:=ts },type:=ty,pos:=pos,after:=after,guard:=none }]:=by
     apply Array.ext'
     simpa using hops
    cases hemp:args.toList.isEmpty with
    |false=>rw [hemp] at h3;cases h3
    |true =>
     rw [hemp] at h3
     cases h3
     have hlen:=hd.1
     have behind:∀u',(u' = .returning∨∃x,u' = .panicking [{ v:=x,recovered:=true }])→rest.wpS cx.P (bodyPostS cx.P gn c₀ cs fun
       | .returned _,u',w'=>Leaves cx.P fn tmps (Post cx K.S0 K.w0 av) [] (settle u') w'
       | .panicked chain,u',w'=>Leaves cx.P fn tmps (Post cx K.S0 K.w0 av) [] (raised u' chain) w'
       | .outgrown,_,w'=>(Post cx K.S0 K.w0 av) .outgrown w') (({ tmps:=vals.toArray++Array.replicate (gn.ntmps-vals.toArray.size) undef,defers:=[] }:Act).put (some d) rv) ({ c₀ with mode:=u' }::cs) w:=fun u' hu'=>by
      have stg:St cx (K.keep (cx.held g) μ) gn.ntmps S μ ((d,v)::numbered 0 dargs) h (({ tmps:=vals.toArray++Array.replicate (gn.ntmps-vals.toArray.size) undef,defers:=[] }:Act).put (some d) rv).tmps w:=by
       have st1:=st.keep (cx.held g)
       have st2:St cx (K.keep (cx.held g) μ) gn.ntmps S μ (numbered 0 dargs) h ({ tmps:=vals.toArray++Array.replicate (gn.ntmps-vals.toArray.size) undef,defers:=[] }:Act).tmps w:=by
        refine { st1 with size:=by simp;omega,env:=fun t x ht=> ?_ }
        obtain⟨i,rfl,hi⟩:=look_numbered ht
        obtain⟨u,hu,hru⟩:=hd.get hi
        have hil:=(List.getElem?_eq_some_iff.1 hu).1
        show Rep S w μ x ((vals.toArray++_).getD _ undef)
        rw [Nat.zero_add,Array.getD_eq_getD_getElem?,Array.getElem?_append_left (by simpa using hil)]
        simp only [List.getElem?_toArray,hu,Option.getD_some]
        exact hru
       refine st2.putO (d:=some d) (v:=v) rfl ?_ hv
       unfold putK
       have hb:Nat.blt d gn.ntmps=true:=hle.2
       simp only [hb]
      refine wpS_of_wp (wp_mono (run_wp hF hO hX hL keep_lt h1 h2 rest (p:=[true]) rfl stg putK_defers hrun) fun X a' w' ⟨hXe,hd',S',μ',st'⟩=> ?_)
      have fin:((resultsOf cx env2 h2' gn.results.toList).bind fun _=>(resPtrs (cx.held g) env fn.results.toList).bind fun e3=>(resultsOf cx e3 h2' fn.results.toList).bind fun vs=>(viewArgs h2' vs).bind fun vs'=>some (oneOf vs'))=some av →
        a'.defers=[]∧∃u'',({ c₀ with mode:=u' }::cs:List Frame)= { c₀ with mode:=u'' }::cs∧∃x,(results gn a'.tmps).run cx.P w' = .ok x w'∧Leaves cx.P fn tmps (Post cx K.S0 K.w0 av) [] (settle u'') w':=by
       intro h4
       obtain⟨as,k1,h4⟩:=bind_some_iff h4
       obtain⟨e3,k2,h4⟩:=bind_some_iff h4
       obtain⟨vs,k3,h4⟩:=bind_some_iff h4
       obtain⟨vs',k4,h4⟩:=bind_some_iff h4
       cases h4
       refine⟨hd',u',rfl,?_⟩
       obtain⟨xs,k5,k6⟩:=resultsOf_sem st' k1
       refine⟨if hs:xs.toArray.size=1 then xs.toArray[0] else .tuple xs.toArray,?_,?_⟩
       ·unfold results
        rw [Array.mapM_eq_mapM_toList]
        simp only [Sem.run_bind,Sem.run_map,Sem.run_pure]
        exact(congrArg (fun r:Result (List Value)=>(r.andThen fun a w'=>Result.ok a.toArray w').andThen fun a w'=>Result.ok (if h:a.size=1 then a[0] else Value.tuple a) w') k6).trans rfl
       ·have hset:settle u' = .returning:=by
         rcases hu' with rfl |⟨x,rfl⟩<;>rfl
        rw [hset]
        have henv:EnvRel S' w' μ' e3 tmps:=fun t x ht=>by
         obtain⟨g1,g2 |g2⟩:=resPtrs_spec k2 t x ht
         ·exact isPtr_rep g2 (fun r y hr hy=>st'.fix r y (keep_fix y hr hy)) (st.env t x g1)
         ·exact ground_rep g2 (st.env t x g1)
        have stp:St cx (K.keep (cx.held g) μ) N S' μ' e3 h2' tmps w':= { st' with size:=st.size,env:=henv }
        exact post_fin stp hK k3 k4
      subst hXe
      cases e2 with
      |normal=>exact fin h4
      |ret=>exact fin h4
      | _=>cases h4
     subst hgs
     have hexec:∀ρ,(execOp ρ { dst:=some d,op := .call { callee := .builtin .recover,args:=args,argTypes:=ts },type:=ty,pos:=pos,after:=after,guard:=none }).run cx.P w = .ok .recover w:=fun ρ=>by
      simp [execOp,resolve,invoke,builtin]
     show wpOpsS _ _ _ [0] _ _ _
     simp only [wpOpsS,List.getElem?_toArray,List.getElem?_cons_zero,Region.wanted,if_true,hexec]
     rcases hu with⟨rfl,rfl⟩ |⟨v',_,hrv,rfl⟩
     ·simp only [recoverD,hc₀]
      have:=behind .returning (.inl rfl)
      have hcc:({ c₀ with mode := .returning }:Frame)=c₀:=by rw [←hc₀]
      rw [hcc] at this
      exact this
     ·simp only [recoverD,hc₀]
      exact behind _ (.inr ⟨_,rfl⟩)
   ·cases h3
  ·cases hr
 ·cases hr
theorem splitD_spec {ops:List Oper}{pre:List Oper}{fo:Operand}{args:List Operand}(h:splitD ops=some (pre,fo,args)):∃(aas:Array Operand) (ts:Array TypeId) (ty:TypeId) (pos:String) (after:Array Edge),aas.toList=args∧ops=pre++[{ dst:=none,op := .defer { callee := .value fo,args:=aas,argTypes:=ts },type:=ty,pos:=pos,after:=after,guard:=none }]:=by
 unfold splitD at h
 split at h
 ·rename_i fo' aas ts ty pos after hl
  cases h
  refine⟨aas,ts,ty,pos,after,rfl,?_⟩
  have hne:ops≠[]:=fun he=>by rw [he] at hl;cases hl
  have:=List.dropLast_concat_getLast hne
  rw [List.getLast?_eq_some_getLast hne] at hl
  cases hl2:ops.getLast hne
  rw [hl2] at hl this
  cases hl
  exact this.symm
 ·cases h
theorem runD_wp (hn:NamesOk cx.P) (hX:ExtSound cx) (hF:FnSound cx F) (hO:OP cx F) (hL:LoopSound cx F) {K:Kf}{f g:FuncId}{fn:Func}{bd:Code}(hfn:cx.P.funcs[f]?=some fn) (hbd:fn.body=some bd) :
  ∀(code:Code) {p:List Bool}{env:Env}{h:Heap}{a:Act}{w:World}{S:Nat→Prop}{μ:Mu}{av:AV},sub p bd=some code→St cx K fn.ntmps S μ env h a.tmps w→a.defers=[]→K.O0=(fun _=>False) →
   runD cx F f g fn code p env h some=some av→code.wp cx.P (bodyPostD cx.P fn (Post cx K.S0 K.w0 av)) a w
 | .seq (.region _ ops false) b,p,env,h,a,w,S,μ,av,hp,st,hd,hK,hr=>by
  simp only [runD] at hr
  refine wp_seq (wp_region_list ?_)
  cases hs:splitD ops.toList with
  |none =>
   rw [hs] at hr
   obtain⟨⟨e1,env1,h1⟩,h2,h3,_⟩:=runOps_pkl (G:=fun _=>F) (fun _ _ _ r hr=>⟨0,fun _ _=>hr⟩) cx fn.ntmps false ops ops.toList env h _ (fun x=>match x.1 with
    | .normal=>runD cx F f g fn b (p++[true]) x.2.1 x.2.2 some
    | _=>none) _ hr
   refine runOps_wp hF hO hX st (h3 _ fun x=>some x) fun S' μ' a' w' st' hd'=> ?_
   cases e1 with
   |normal=>exact runD_wp hn hX hF hO hL hfn hbd b (by rw [sub_append,hp];rfl) st' (hd'.trans hd) hK h2
   | _=>cases h2
  |some q =>
   obtain⟨pre,fo,args⟩:=q
   rw [hs] at hr
   obtain⟨aas,ts,ty,pos,after,has,hops⟩:=splitD_spec hs
   obtain⟨⟨e1,env1,h1⟩,h2,h3,_⟩:=runOps_pkl (G:=fun _=>F) (fun _ _ _ r hr=>⟨0,fun _ _=>hr⟩) cx fn.ntmps false ops pre env h _ (fun x=>match x.1 with
    | .normal=>(opnd cx x.2.1 fo).bind fun fv=>(opnds cx x.2.1 args).bind fun as=>(fv.call? as).bind fun q=>(chk q.1 g).bind fun _=>(chk (cx.held f) (cx.held g)).bind fun _=>cond (q.2.all (isPtr (cx.held g)))
     (run cx F f fn.ntmps b (p++[true]) x.2.1 x.2.2 fun e env h=>e.rv.bind fun v=>runG cx F g fn q.2 v env h some) none
    | _=>none) _ hr
   rw [hops]
   refine runOps_wpA hF hO hX _ st (h3 _ fun x=>some x) (fun he S' μ' a' w' st' hd'=> ?_) fun hne=> ?_
   ·subst he
    simp only at h2
    obtain⟨fv,k1,h2⟩:=bind_some_iff h2
    obtain⟨vs,k2,h2⟩:=bind_some_iff h2
    obtain⟨q,k3,h2⟩:=bind_some_iff h2
    obtain⟨_,k4,h2⟩:=bind_some_iff h2
    obtain⟨_,k5,h2⟩:=bind_some_iff h2
    have hg:q.1=g:=by
     unfold chk at k4
     split at k4
     ·assumption
     ·cases k4
    have hh:cx.held f=cx.held g:=by
     unfold chk at k5
     split at k5
     ·assumption
     ·cases k5
    cases hpt:q.2.all (isPtr (cx.held g)) with
    |false=>rw [hpt] at h2;cases h2
    |true =>
     rw [hpt] at h2
     simp only [cond_true] at h2
     have hfu:=opnd_sem st'.env st'.g k1
     have hus:=opnds_sem st'.env st'.g k2
     unfold AV.call? at k3
     split at k3
     ·rename_i f' first cap _
      cases k3
      simp only at hg hpt h2
      subst hg
      cases hev:a'.eval fo with
      |func fnv us1 vs1 =>
       rw [hev] at hfu
       cases hfu with
       |func _ _ hu hl hf1 hr1 =>
        have hargs:Reps S' w' μ' (first++vs++cap) (us1.toList++args.map a'.eval++vs1.toList) :=
         (Reps.append ⟨by simpa using hu,fun j x y hx hy=>hf1 j x y hx (by simpa using hy)⟩ hus).append ⟨by simpa using hl,fun j x y hx hy=>hr1 j x y hx (by simpa using hy)⟩
        unfold wpList
        have hw:Region.wanted { dst:=none,op := .defer { callee := .value fo,args:=aas,argTypes:=ts },type:=ty,pos:=pos,after:=after,guard:=none } (yielded ops a'.tmps)=true:=rfl
        rw [if_pos hw]
        left
        unfold Oper.wp
        have hrun:(execOp a'.eval { dst:=none,op := .defer { callee := .value fo,args:=aas,argTypes:=ts },type:=ty,pos:=pos,after:=after,guard:=none }).run cx.P w' = .ok (.defer { target := .fn (.func f') vs1,args:=us1++aas.map a'.eval }) w':=by
         simp [execOp,resolve,hev,Deferred.ofValue]
        rw [hrun,Oper.upon_defer]
        unfold wpList
        show b.wp cx.P _ _ _
        obtain⟨⟨e2,env2,h2'⟩,m1,m2,_⟩:=run_pkl (F:=F) (G:=fun _=>F) (fun _ _ _ r hr=>⟨0,fun _ _=>hr⟩) cx f fn.ntmps b (p++[true]) env1 h1 _ (fun x=>x.1.rv.bind fun v=>runG cx F f' fn (first++vs++cap) v x.2.1 x.2.2 some) _ h2
        have stk:=st'.keep (cx.held f)
        refine wp_mono (run_wp hF hO hX hL keep_lt hfn hbd b (D:=[{ target := .fn (.func f') vs1,args:=us1++aas.map a'.eval }]) (a:= { a' with defers:= { target := .fn (.func f') vs1,args:=us1++aas.map a'.eval }::a'.defers }) (by rw [sub_append,hp];rfl) stk
         (by show _::a'.defers=_;rw [hd',hd]) (m2 _ fun x=>some x)) fun X a2 w2 ⟨hXe,hd2,S2,μ2,st2⟩=> ?_
        obtain⟨v,n1,n2⟩:=bind_some_iff m1
        have hd3:Reps S2 w2 μ2 (first++vs++cap) (us1.toList++args.map a'.eval++vs1.toList):=⟨hargs.1,fun j x y hx hy=>isPtr_rep (List.all_eq_true.1 hpt x (List.mem_of_getElem? hx)) (fun r z hr hz=>st2.fix r z (keep_fix z (hh▸hr) hz)) (hargs.2 j x y hx hy)⟩
        have hinv:∀w,(invoke (.fn (.func f') vs1) (us1++aas.map a'.eval)).run cx.P w = .ok (.enter f' (us1.toList++args.map a'.eval++vs1.toList).toArray) w:=fun w=>by
         have e:(us1.toList++args.map a'.eval++vs1.toList).toArray=us1++aas.map a'.eval++vs1:=by apply Array.ext';simp [has]
         rw [e]
         unfold runG at n2
         obtain⟨gn,g1,n2⟩:=bind_some_iff n2
         obtain⟨gb,g2,n2⟩:=bind_some_iff n2
         have g3:¬gn.name= "runtime.NumGoroutine" :=by simpa using hn f' gn g1
         simp [invoke,callFunc,g1,g2,g3]
        subst hXe
        cases e2 with
        |normal =>
         cases n1
         show Leaves cx.P fn a2.tmps _ a2.defers .returning w2
         rw [hd2]
         exact runG_wp hX hF hO hL (K:=K.keep (cx.held f) μ') hK st2 (e := .normal) hd3 (.val .nilIface) (.inl ⟨rfl,rfl⟩) n2 hinv
        |ret =>
         cases n1
         show Leaves cx.P fn a2.tmps _ a2.defers .returning w2
         rw [hd2]
         exact runG_wp hX hF hO hL (K:=K.keep (cx.held f) μ') hK st2 (e := .ret) hd3 (.val .nilIface) (.inl ⟨rfl,rfl⟩) n2 hinv
        |pan v' =>
         simp only [JX.rv] at n1
         cases hpo:panOk v' with
         |false=>rw [hpo] at n1;cases n1
         |true =>
          rw [hpo] at n1
          cases n1
          show Leaves cx.P fn a2.tmps _ a2.defers (.panicking _) w2
          rw [hd2]
          exact runG_wp hX hF hO hL (K:=K.keep (cx.held f) μ') hK st2 (e := .pan v) hd3 (panOk_rep hpo) (.inr ⟨v,rfl,rfl,rfl⟩) n2 hinv
        | _=>cases n1
      | _=>rw [hev] at hfu;cases hfu
     ·cases k3
   ·cases e1 with
    |normal=>exact absurd rfl hne
    | _=>cases h2
 | .seq (.region _ _ true) _,p,env,h,a,w,S,μ,av,hp,st,hd,hK,hr | .seq .skip _,p,env,h,a,w,S,μ,av,hp,st,hd,hK,hr | .seq (.seq ..) _,p,env,h,a,w,S,μ,av,hp,st,hd,hK,hr | .seq (.cond ..) _,p,env,h,a,w,S,μ,av,hp,st,hd,hK,hr
 | .seq (.block ..) _,p,env,h,a,w,S,μ,av,hp,st,hd,hK,hr | .seq (.loop ..) _,p,env,h,a,w,S,μ,av,hp,st,hd,hK,hr | .seq (.rangeFunc ..) _,p,env,h,a,w,S,μ,av,hp,st,hd,hK,hr
 | .seq (.exit ..) _,p,env,h,a,w,S,μ,av,hp,st,hd,hK,hr | .seq (.scope ..) _,p,env,h,a,w,S,μ,av,hp,st,hd,hK,hr | .seq (.label ..) _,p,env,h,a,w,S,μ,av,hp,st,hd,hK,hr | .seq (.goto ..) _,p,env,h,a,w,S,μ,av,hp,st,hd,hK,hr
 | .seq .ret _,p,env,h,a,w,S,μ,av,hp,st,hd,hK,hr | .seq (.refuse ..) _,p,env,h,a,w,S,μ,av,hp,st,hd,hK,hr
 | .skip,p,env,h,a,w,S,μ,av,hp,st,hd,hK,hr | .region ..,p,env,h,a,w,S,μ,av,hp,st,hd,hK,hr | .cond ..,p,env,h,a,w,S,μ,av,hp,st,hd,hK,hr | .block ..,p,env,h,a,w,S,μ,av,hp,st,hd,hK,hr | .loop ..,p,env,h,a,w,S,μ,av,hp,st,hd,hK,hr
 | .rangeFunc ..,p,env,h,a,w,S,μ,av,hp,st,hd,hK,hr | .exit ..,p,env,h,a,w,S,μ,av,hp,st,hd,hK,hr | .scope ..,p,env,h,a,w,S,μ,av,hp,st,hd,hK,hr | .label ..,p,env,h,a,w,S,μ,av,hp,st,hd,hK,hr | .goto ..,p,env,h,a,w,S,μ,av,hp,st,hd,hK,hr
 | .ret,p,env,h,a,w,S,μ,av,hp,st,hd,hK,hr | .refuse ..,p,env,h,a,w,S,μ,av,hp,st,hd,hK,hr=>by
  simp only [runD] at hr
  cases hr
theorem fn_step (hn:NamesOk cx.P) (hX:ExtSound cx) (hF:FnSound cx F) (hO:OP cx F) (hL:LoopSound cx F):FnSound cx (runKey cx F):=by
 intro f args v hr
 simp only [runKey] at hr
 obtain⟨fn,h1,hr⟩:=bind_some_iff hr
 obtain⟨bd,h2,hr⟩:=bind_some_iff hr
 obtain⟨_,h3,hr⟩:=bind_some_iff hr
 refine⟨⟨fn,h1,by rw [h2];rfl,hn f fn h1⟩,?_⟩
 split at hr
 ·rename_i hle
  have hle:=Nat.le_of_ble_eq_true hle
  intro S w vals hS hG hA
  cases hdf:cx.dfr f with
  |some g =>
   simp only [hdf] at hr
   obtain⟨v',hr',_⟩:=(runD_pkl (F:=F) (G:=fun _=>F) (fun _ _ _ r hr=>⟨0,fun _ _=>hr⟩) cx f g fn bd [] (numbered 0 args) []) _ (fun v=>some (Out.ret v,([]:Heap))) _ hr
   cases hr'
   have hlen:=hA.1
   have st0:=numbered_st (N:=fn.ntmps) hS hG hA hle
   have hrun:=runD_pkl (F:=F) (G:=fun _=>F) (fun _ _ _ r hr=>⟨0,fun _ _=>hr⟩) cx f g fn bd [] (numbered 0 args) [] _ (fun v=>some (Out.ret v,([]:Heap))) _ hr
   obtain⟨v2,e2,e3,_⟩:=hrun
   cases e2
   exact calls_of_wp_defers h1 h2 (runD_wp hn hX hF hO hL h1 h2 bd (a:=⟨_,[]⟩) rfl st0 rfl rfl (e3 _ some))
  |none =>
  simp only [hdf] at hr
  obtain⟨⟨e,env',h'⟩,h4,h5,_⟩:=run_pkl (F:=F) (G:=fun _=>F) (fun _ _ _ r hr=>⟨0,fun _ _=>hr⟩) cx f fn.ntmps bd [] (numbered 0 args) [] _ (fun x=>match x.1 with
   | .normal | .ret=>(resultsOf cx x.2.1 x.2.2 fn.results.toList).bind fun vs=>(viewArgs x.2.2 vs).bind fun vs'=>some (Out.ret (oneOf vs'),([]:Heap))
   | .pan v=>cond ((cx.pans f).isSome&&panOk v) (some (Out.jump (.pan v) [],([]:Heap))) none
   | _=>none) _ hr
  have hlen:=hA.1
  have st0:St cx ⟨w,S,fun _=>False,Mu.none⟩ fn.ntmps S Mu.none (numbered 0 args) [] (vals.toArray++Array.replicate (fn.ntmps-vals.toArray.size) undef) w:=by
   refine⟨by simp;omega,fun t x ht=> ?_,hG,(fun r o ho=>by simp at ho),(fun r r' b s s' h=>by cases h),(fun r x h=>by cases h),(fun r b s h=>by cases h),fun _ h=>h,fun _ h => .inl h,hS,fun _ _ _=>rfl,Nat.le_refl _,rfl,rfl,OutD.refl _,fun r x h=>(by cases h)⟩
   obtain⟨i,rfl,hi⟩:=look_numbered ht
   obtain⟨u,hu,hru⟩:=hA.get hi
   have hil:=(List.getElem?_eq_some_iff.1 hu).1
   rw [Nat.zero_add,Array.getD_eq_getD_getElem?,Array.getElem?_append_left (by simpa using hil)]
   simp only [List.getElem?_toArray,hu,Option.getD_some]
   exact hru
  refine calls_of_wp h1 h2 (wp_mono (run_wp hF hO hX hL (fun r x h=>by cases h) h1 h2 bd (a:=⟨_,[]⟩) rfl st0 rfl (h5 _ fun x=>some x)) fun X a' w' ⟨hX,hd,S',μ',st⟩=> ?_)
  have fin:((resultsOf cx env' h' fn.results.toList).bind fun vs=>(viewArgs h' vs).bind fun vs'=>some (Out.ret (oneOf vs'),([]:Heap)))=some (Out.ret v,[]) →
    ∃x,(results fn a'.tmps).run cx.P w' = .ok x w'∧Post cx S w v (.returned x) w':=by
   intro h4
   obtain⟨vs,h6,h4⟩:=bind_some_iff h4
   obtain⟨vs',h7,h4⟩:=bind_some_iff h4
   cases h4
   obtain⟨x,S2,g1,g2,g3,g4⟩:=results_sem st h6 h7
   refine⟨x,g1,x,S2,rfl,g2,fun b hb=>st.frame b hb (fun h=>h),st.le,st.os,st.tape,st.output,fun b hb=>g3 b (st.s0 b hb),fun b hb=> ?_,fun b hb=> ?_⟩
   ·rcases g4 b hb with h |⟨r,s,h⟩
    ·rcases st.snew b h with h |h |h
     ·exact .inl h
     ·exact h.elim
     ·exact .inr h
    ·rcases st.own r b s h with h |h
     ·exact h.elim
     ·exact .inr h
   ·rcases g4 b hb with h |⟨r,s,h⟩
    ·exact st.slt b h
    ·exact st.lt h
  subst hX
  cases e with
  |normal=>exact⟨hd,fin h4⟩
  |ret=>exact⟨hd,fin h4⟩
  |pan v =>
   simp only at h4
   cases hc:((cx.pans f).isSome&&panOk v) with
   |true=>rw [hc] at h4;cases h4
   |false=>rw [hc] at h4;cases h4
  | _=>cases h4
 ·cases hr
theorem pan_step (hn:NamesOk cx.P) (hX:ExtSound cx) (hF:FnSound cx F) (hO:OP cx F) (hL:LoopSound cx F):PanSound cx (runKey cx F):=by
 intro f args v hr
 simp only [runKey] at hr
 obtain⟨fn,h1,hr⟩:=bind_some_iff hr
 obtain⟨bd,h2,hr⟩:=bind_some_iff hr
 obtain⟨_,h3,hr⟩:=bind_some_iff hr
 refine⟨⟨fn,h1,by rw [h2];rfl,hn f fn h1⟩,?_⟩
 split at hr
 ·rename_i hle
  have hle:=Nat.le_of_ble_eq_true hle
  intro S w vals hS hG hA
  cases hdf:cx.dfr f with
  |some g =>
   simp only [hdf] at hr
   obtain⟨v',hr',_⟩:=(runD_pkl (F:=F) (G:=fun _=>F) (fun _ _ _ r hr=>⟨0,fun _ _=>hr⟩) cx f g fn bd [] (numbered 0 args) []) _ (fun v=>some (Out.ret v,([]:Heap))) _ hr
   cases hr'
  |none =>
  simp only [hdf] at hr
  obtain⟨⟨e,env',h'⟩,h4,h5,_⟩:=run_pkl (F:=F) (G:=fun _=>F) (fun _ _ _ r hr=>⟨0,fun _ _=>hr⟩) cx f fn.ntmps bd [] (numbered 0 args) [] _ (fun x=>match x.1 with
   | .normal | .ret=>(resultsOf cx x.2.1 x.2.2 fn.results.toList).bind fun vs=>(viewArgs x.2.2 vs).bind fun vs'=>some (Out.ret (oneOf vs'),([]:Heap))
   | .pan v=>cond ((cx.pans f).isSome&&panOk v) (some (Out.jump (.pan v) [],([]:Heap))) none
   | _=>none) _ hr
  have st0:=numbered_st (N:=fn.ntmps) hS hG hA hle
  refine calls_of_wp h1 h2 (wp_mono (run_wp hF hO hX hL (fun r x h=>by cases h) h1 h2 bd (a:=⟨_,[]⟩) rfl st0 rfl (h5 _ fun x=>some x)) fun X a' w' ⟨hX,hd,S',μ',st⟩=> ?_)
  subst hX
  cases e with
  |pan v' =>
   simp only at h4
   cases hc:((cx.pans f).isSome&&panOk v') with
   |false=>rw [hc] at h4;cases h4
   |true =>
    rw [hc] at h4
    cases h4
    simp only [Bool.and_eq_true] at hc
    refine⟨hd,v.toV,S',rfl,panOk_rep hc.2,fun b hb=>st.frame b hb (fun h=>h),st.le,st.os,st.tape,st.output,st.s0,fun b hb=> ?_,st.slt⟩
    rcases st.snew b hb with h |h |h
    ·exact .inl h
    ·exact h.elim
    ·exact .inr h
  |normal =>
   obtain⟨vs,h6,h4⟩:=bind_some_iff h4
   obtain⟨vs',h7,h4⟩:=bind_some_iff h4
   cases h4
  |ret =>
   obtain⟨vs,h6,h4⟩:=bind_some_iff h4
   obtain⟨vs',h7,h4⟩:=bind_some_iff h4
   cases h4
  | _=>cases h4
 ·cases hr
theorem results_own {K:Kf}{N:Nat}{S:Nat→Prop}{μ:Mu}{env:Env}{h:Heap}{w:World}{tmps:Array Value}(st:St cx K N S μ env h tmps w) {m:Nat}(hK:∀r x,K.fix r=some x→r<m) {fn:Func}{as:List AV}{ks:List Nat}{g:List AV×List AV×Heap}(hr:resultsOf cx env h fn.results.toList=some as) (hg:gc m ks as [] h=some g):∃v μ',(results fn tmps).run cx.P w = .ok v w∧Rep S w μ' (oneOf g.1) v∧St cx K 0 S μ' [] g.2.2 #[] w:=by
 obtain⟨vs,h1,h2⟩:=resultsOf_sem st hr
 obtain⟨vs',is',h'⟩:=g
 have hg':=hg
 unfold gc at hg'
 cases hnb:(nodupL ks&&stays ks m) with
 |false=>rw [hnb] at hg';cases hg'
 |true =>
  rw [hnb] at hg'
  simp only [cond_true] at hg'
  obtain⟨vs1,g1,hg'⟩:=bind_some_iff hg'
  obtain⟨is1,g2,hg'⟩:=bind_some_iff hg'
  simp only [List.all_nil,cond_true] at hg'
  obtain⟨hs1,g3,hg'⟩:=bind_some_iff hg'
  cases hg'
  obtain⟨l3,m3⟩:=mapM_at g3
  have stz:=gc_st0 hK hg st
  have h3:Reps S w (gmu ks μ) vs' vs:=reps_mapM g1 h1
  refine⟨if hs:vs.toArray.size=1 then vs.toArray[0] else .tuple vs.toArray,gmu ks μ,?_,?_,stz⟩
  ·unfold results
   rw [Array.mapM_eq_mapM_toList]
   simp only [Sem.run_bind,Sem.run_map,Sem.run_pure]
   exact(congrArg (fun r:Result (List Value)=>(r.andThen fun a w'=>Result.ok a.toArray w').andThen fun a w'=>Result.ok (if h:a.size=1 then a[0] else Value.tuple a) w') h2).trans rfl
  ·cases vs' with
   |nil =>
    have:=h3.inv_nil
    subst this
    exact .tuple #[] rfl fun j v u hv=>by simp at hv
   |cons x xs =>
    obtain⟨v,r,rfl,h4,h5⟩:=h3.inv_cons
    cases xs with
    |nil =>
     have:=h5.inv_nil
     subst this
     simpa [oneOf] using h4
    |cons y ys =>
     obtain⟨v2,r2,rfl,h6,h7⟩:=h5.inv_cons
     simp only [oneOf]
     rw [dif_neg (by simp)]
     exact Rep.of_tuple h3
theorem own_step (hn:NamesOk cx.P) (hX:ExtSound cx) (hF:FnSound cx F) (hO:OP cx F) (hL:LoopSound cx F):OwnSound cx (runKey cx F):=by
 intro f args h v h' hr
 simp only [runKey] at hr
 obtain⟨fn,h1,hr⟩:=bind_some_iff hr
 obtain⟨bd,h2,hr⟩:=bind_some_iff hr
 refine⟨⟨fn,h1,by rw [h2];rfl,hn f fn h1⟩,?_⟩
 split at hr
 ·rename_i hle
  simp only [Bool.and_eq_true] at hle
  have hle1:=Nat.le_of_ble_eq_true hle.1
  refine⟨Nat.eq_of_beq_eq_true hle.2,?_⟩
  intro K S μ w vals st hK hA
  obtain⟨⟨e,env',h1'⟩,h4,h5,_⟩:=run_pkl (F:=F) (G:=fun _=>F) (fun _ _ _ r hr=>⟨0,fun _ _=>hr⟩) cx f fn.ntmps bd [] (numbered 0 args) h _ (fun x=>match x.1 with
   | .normal | .ret=>(resultsOf cx x.2.1 x.2.2 fn.results.toList).bind fun vs=>(gc (cx.held f) (addN (List.range (cx.held f)) (vs.flatMap (refs 5))) vs [] x.2.2).bind fun g=>some (Out.ret (oneOf g.1),g.2.2)
   | .pan v=>cond ((cx.pans f).isSome&&(panOk v&&Nat.beq (cx.held f) 0)) (some (Out.jump (.pan v) [],([]:Heap))) none
   | _=>none) _ hr
  have hlen:=hA.1
  have st0:St cx K fn.ntmps S μ (numbered 0 args) h (vals.toArray++Array.replicate (fn.ntmps-vals.toArray.size) undef) w:=by
   refine { st with size:=by simp;omega,env:=fun t x ht=> ?_ }
   obtain⟨i,rfl,hi⟩:=look_numbered ht
   obtain⟨u,hu,hru⟩:=hA.get hi
   have hil:=(List.getElem?_eq_some_iff.1 hu).1
   rw [Nat.zero_add,Array.getD_eq_getD_getElem?,Array.getElem?_append_left (by simpa using hil)]
   simp only [List.getElem?_toArray,hu,Option.getD_some]
   exact hru
  refine calls_of_wp h1 h2 (wp_mono (run_wp hF hO hX hL hK h1 h2 bd (a:=⟨_,[]⟩) rfl st0 rfl (h5 _ fun x=>some x)) fun X a' w' ⟨hXe,hd,S',μ',st'⟩=> ?_)
  have fin:((resultsOf cx env' h1' fn.results.toList).bind fun vs=>(gc (cx.held f) (addN (List.range (cx.held f)) (vs.flatMap (refs 5))) vs [] h1').bind fun g=>some (Out.ret (oneOf g.1),g.2.2))=some (Out.ret v,h') →
    ∃x,(results fn a'.tmps).run cx.P w' = .ok x w'∧∃cv S' μ',Ending.returned x = .returned cv∧Rep S' w' μ' v cv∧St cx K 0 S' μ' [] h' #[] w':=by
   intro h4
   obtain⟨vs,h6,h4⟩:=bind_some_iff h4
   obtain⟨g,h7,h4⟩:=bind_some_iff h4
   cases h4
   obtain⟨x,μ2,g1,g2,g3⟩:=results_own st' hK h6 h7
   exact⟨x,g1,x,S',μ2,rfl,g2,g3⟩
  subst hXe
  cases e with
  |normal=>exact⟨hd,fin h4⟩
  |ret=>exact⟨hd,fin h4⟩
  |pan v' =>
   simp only at h4
   cases hc:((cx.pans f).isSome&&(panOk v'&&Nat.beq (cx.held f) 0)) with
   |false=>rw [hc] at h4;cases h4
   |true=>rw [hc] at h4;cases h4
  | _=>cases h4
 ·cases hr
theorem ownPan_step (hn:NamesOk cx.P) (hX:ExtSound cx) (hF:FnSound cx F) (hO:OP cx F) (hL:LoopSound cx F):OwnPan cx (runKey cx F):=by
 intro f args v hr
 simp only [runKey] at hr
 obtain⟨fn,h1,hr⟩:=bind_some_iff hr
 obtain⟨bd,h2,hr⟩:=bind_some_iff hr
 refine⟨⟨fn,h1,by rw [h2];rfl,hn f fn h1⟩,?_⟩
 split at hr
 ·rename_i hle
  simp only [Bool.and_eq_true] at hle
  have hle1:=Nat.le_of_ble_eq_true hle.1
  intro S w vals hS hG hA
  obtain⟨⟨e,env',h'⟩,h4,h5,_⟩:=run_pkl (F:=F) (G:=fun _=>F) (fun _ _ _ r hr=>⟨0,fun _ _=>hr⟩) cx f fn.ntmps bd [] (numbered 0 args) [] _ (fun x=>match x.1 with
   | .normal | .ret=>(resultsOf cx x.2.1 x.2.2 fn.results.toList).bind fun vs=>(gc (cx.held f) (addN (List.range (cx.held f)) (vs.flatMap (refs 5))) vs [] x.2.2).bind fun g=>some (Out.ret (oneOf g.1),g.2.2)
   | .pan v=>cond ((cx.pans f).isSome&&(panOk v&&Nat.beq (cx.held f) 0)) (some (Out.jump (.pan v) [],([]:Heap))) none
   | _=>none) _ hr
  have st0:=numbered_st (N:=fn.ntmps) hS hG hA hle1
  refine calls_of_wp h1 h2 (wp_mono (run_wp hF hO hX hL (fun r x h=>by cases h) h1 h2 bd (a:=⟨_,[]⟩) rfl st0 rfl (h5 _ fun x=>some x)) fun X a' w' ⟨hX,hd,S',μ',st⟩=> ?_)
  subst hX
  cases e with
  |pan v' =>
   simp only at h4
   cases hc:((cx.pans f).isSome&&(panOk v'&&Nat.beq (cx.held f) 0)) with
   |false=>rw [hc] at h4;cases h4
   |true =>
    rw [hc] at h4
    cases h4
    simp only [Bool.and_eq_true] at hc
    refine⟨hd,v.toV,S',rfl,panOk_rep hc.2.1,fun b hb=>st.frame b hb (fun h=>h),st.le,st.os,st.tape,st.output,st.s0,fun b hb=> ?_,st.slt⟩
    rcases st.snew b hb with h |h |h
    ·exact .inl h
    ·exact h.elim
    ·exact .inr h
  |normal =>
   obtain⟨vs,h6,h4⟩:=bind_some_iff h4
   obtain⟨vs',h7,h4⟩:=bind_some_iff h4
   cases h4
  |ret =>
   obtain⟨vs,h6,h4⟩:=bind_some_iff h4
   obtain⟨vs',h7,h4⟩:=bind_some_iff h4
   cases h4
  | _=>cases h4
 ·cases hr
theorem loop_step (hX:ExtSound cx) (hF:FnSound cx F) (hO:OP cx F) (hL:LoopSound cx F):LoopSound cx (runKey cx F):=by
 intro f fn bd b var inv p hfn hbd hp hann hok args h e vs h' hr hwk hlen K S μ a w D hK st hd
 simp only [runKey,hfn,hbd,hp,hann,hok,Option.bind_some,cond_true] at hr
 split at hr
 ·obtain⟨⟨e1,env1,h1⟩,h2,h3,_⟩:=run_pkl (F:=F) (G:=fun _=>F) (fun _ _ _ r hr=>⟨0,fun _ _=>hr⟩) cx f fn.ntmps b (p++[false]) ((var++inv).zip args) h _ (fun x=>match x.1 with
   | .normal=>(getAll x.2.1 var).bind fun vs=>(getAll x.2.1 inv).bind fun is=>(gc (cx.held f) (ksOf h.length (pairsH args vs h x.2.2)) vs is x.2.2).bind fun g=>F (.loop f p) (g.1.map AV.wk++g.2.1.map AV.wk) (g.2.2.map Ob.wk)
   |e=>(getAll x.2.1 var).bind fun vs=>(getAll x.2.1 inv).bind fun is=>(gc (cx.held f) (ksOf h.length (pairsH args vs h x.2.2)) vs is x.2.2).bind fun g=>some (Out.jump e (g.1.map AV.wk),g.2.2.map Ob.wk)) _ (by
    refine Eq.trans ?_ hr
    rfl)
  have h3':=h3 _ fun x=>some x
  have hbody:=run_wp hF hO hX hL hK hfn hbd b (p:=p++[false]) (by rw [sub_append,hp];rfl) st hd h3'
  have keep:∀ {is':List AV},getAll env1 inv=some is'→is'.map AV.wk=args.drop var.length:=by
   intro is' hg
   obtain⟨g1,g2⟩:=getAll_spec hg
   apply List.ext_getElem?
   intro i
   simp only [List.getElem?_map]
   by_cases hi:i<inv.length
   ·have hi':i<is'.length:=by omega
    have hk:=run_keeps b ((loopOk_spec hok).1 inv[i] (List.getElem_mem hi)) h3'
    have hlook:=g2 i inv[i] is'[i] (List.getElem?_eq_getElem hi) (List.getElem?_eq_getElem hi')
    obtain⟨v0,hv0,hw0⟩:=hk _ hlook
    have hz:=zip_append' (a:=var) (b:=inv) (c:=args.take var.length) (d:=args.drop var.length) (by simp;omega)
    rw [List.take_append_drop] at hz
    rw [hz] at hv0
    rcases look_append hv0 with hv |hv
    ·obtain⟨k,k1,k2⟩:=look_zip hv
     exact absurd ((loopOk_spec hok).2 _ (List.mem_of_getElem? k1)) ((loopOk_spec hok).1 inv[i] (List.getElem_mem hi))
    ·obtain⟨k,k1,k2⟩:=look_zip hv
     have hk':=(List.getElem?_eq_some_iff.1 k1)
     have hki:k=i:=(List.getElem_inj (loopOk_nodup hok)).1 hk'.2
     subst hki
     rw [k2,List.getElem?_eq_getElem hi']
     simp only [Option.map_some]
     have hfix:v0.wk=v0:=by
      have h9:=congrArg (·[var.length+k]?) hwk
      simp only [List.getElem?_map] at h9
      rw [List.getElem?_drop] at k2
      rw [k2] at h9
      simpa using h9
     rw [hw0,hfix]
   ·rw [List.getElem?_eq_none (by omega),List.getElem?_eq_none (by simp;omega)]
    rfl
  refine wpIn_step (wp_mono hbody fun X a' w' ⟨hX,hd',S',μ',st'⟩=> ?_)
  subst hX
  have fin:∀ {us is' us2 is2:List AV}{h2:Heap},getAll env1 var=some us→getAll env1 inv=some is'→gc (cx.held f) (ksOf h.length (pairsH args us h h1)) us is' h1=some (us2,is2,h2) →
    is2=is'∧us2.length=var.length∧is2.length=inv.length∧∃μ2,St cx K fn.ntmps S' μ2 ((var++inv).zip (us2.map AV.wk++is2.map AV.wk)) (h2.map Ob.wk) a'.tmps w':=by
   intro us is' us2 is2 h2 g1 g2 hgc
   have stz:=st'.envSub (env2:=(var++inv).zip (us++is')) fun t v hv=>by
    rw [zip_append' (by simp [(getAll_spec g1).1])] at hv
    rcases look_append hv with hv |hv
    ·obtain⟨i,k1,k2⟩:=look_zip hv
     exact⟨v,(getAll_spec g1).2 i t v k1 k2,Wk.refl _⟩
    ·obtain⟨i,k1,k2⟩:=look_zip hv
     exact⟨v,(getAll_spec g2).2 i t v k1 k2,Wk.refl _⟩
   obtain⟨μ2,stg,gl1,gl2,gfix⟩:=gc_st hK hgc stz
   refine⟨gfix,gl1.trans (getAll_spec g1).1,gl2.trans (getAll_spec g2).1,μ2,(stg.envSub fun t v hv=> ?_).wkHeap⟩
   rw [←List.map_append] at hv
   obtain⟨i,k1,k2⟩:=look_zip2 hv
   simp only [List.getElem?_map] at k2
   cases hx:(us2++is2)[i]? with
   |none=>rw [hx] at k2;cases k2
   |some x=>rw [hx] at k2;cases k2;exact⟨x,k1 x hx,wk_wk x⟩
  have done:∀e1:JX,((getAll env1 var).bind fun vs=>(getAll env1 inv).bind fun is=>(gc (cx.held f) (ksOf h.length (pairsH args vs h h1)) vs is h1).bind fun g=>some (Out.jump e1 (g.1.map AV.wk),g.2.2.map Ob.wk))=some (Out.jump e vs,h') →
    After cx K fn.ntmps D e (var.zip vs++inv.zip (args.drop var.length)) h' e1.toExit a' w':=by
   intro e1 h2
   obtain⟨us,h4,h2⟩:=bind_some_iff h2
   obtain⟨is',h5,h2⟩:=bind_some_iff h2
   obtain⟨⟨us2,is2,h6⟩,h7,h2⟩:=bind_some_iff h2
   cases h2
   obtain⟨rfl,l1,l2,μ2,st2⟩:=fin h4 h5 h7
   rw [zip_append' (by simp [l1]),keep h5] at st2
   exact⟨rfl,hd',S',μ2,st2⟩
  cases e1 with
  |normal =>
   simp only at h2
   obtain⟨us,h4,k2⟩:=bind_some_iff h2
   obtain⟨is',h5,k3⟩:=bind_some_iff k2
   obtain⟨⟨us2,is2,h6⟩,h7,k4⟩:=bind_some_iff k3
   obtain⟨rfl,l1,l2,μ2,st2⟩:=fin h4 h5 h7
   have hdrop:(us2.map AV.wk++is2.map AV.wk).drop var.length=args.drop var.length:=by
    rw [List.drop_append_of_le_length (by simp [l1])]
    simp [l1,keep h5]
   have:=hL f fn bd b var inv p hfn hbd hp hann hok _ _ e vs h' k4 (by simp [wk_comp]) (by simp [l1,l2]) K S' μ2 a' w' D hK st2 hd'
   rw [hdrop] at this
   exact this
  |ret=>exact done _ h2
  |exit id=>exact done _ h2
  |goto l=>exact done _ h2
  |pan v=>exact done _ h2
 ·cases hr
theorem nilC_rep {S:Nat→Prop}{w:World}{μ:Mu}{n:Nat}{v:AV}{u:Value}(h:Rep S w μ v u):Rep S w μ (nilC n v) u:=by
 unfold nilC
 split
 ·rw [h.inv_val];exact .nil
 ·exact h
theorem zipZ_rep {S:Nat→Prop}{w:World}{μ:Mu}:∀ {zs:List Sh}{cs:List AV}{us:List Value},Reps S w μ cs us→Reps S w μ (zipZ zs cs) us
 | [],cs,us,h=>by unfold zipZ;exact h
 |z::zs,[],us,h=>by unfold zipZ;exact h
 |z::zs,c::cs,us,h=>by
  obtain⟨u,r,rfl,h1,h2⟩:=h.inv_cons
  unfold zipZ
  refine(zipZ_rep h2).cons ?_
  split
  ·exact nilC_rep h1
  ·exact h1
theorem nilV_rep {S:Nat→Prop}{w:World}{μ:Mu}{t:TypeId}{v:AV}{u:Value}(h:Rep S w μ v u):Rep S w μ (nilV cx t v) u:=by
 unfold nilV
 split
 ·split
  ·exact nilC_rep h
  ·exact h
 ·split
  ·cases h with
   |agg vs hl hr =>
    have h2:Reps S w μ (zipZ (shapes cx.P 20 t) _) vs.toList:=zipZ_rep ⟨by simpa using hl,fun j v u hv hu=>hr j v u hv (by simpa using hu)⟩
    exact .agg vs (by simpa using h2.1) fun j v u hv hu=>h2.2 j v u hv (by simpa using hu)
  ·exact h
 ·exact h
theorem zipN_rep {S:Nat→Prop}{w:World}{μ:Mu}:∀ {ts:List TypeId}{as:List AV}{us:List Value},Reps S w μ as us→Reps S w μ (zipN cx ts as) us
 | [],as,us,h=>by unfold zipN;exact h
 |t::ts,[],us,h=>by unfold zipN;exact h
 |t::ts,a::as,us,h=>by
  obtain⟨u,r,rfl,h1,h2⟩:=h.inv_cons
  unfold zipN
  exact(zipN_rep h2).cons (nilV_rep h1)
theorem argN_rep {S:Nat→Prop}{w:World}{μ:Mu}{f:FuncId}{as:List AV}{us:List Value}(h:Reps S w μ as us):Reps S w μ (argN cx f as) us:=by
 unfold argN
 split
 ·exact zipN_rep h
 ·exact h
theorem En_sound (hn:NamesOk cx.P) (hX:ExtSound cx):∀n,FnSound cx (En cx n)∧OP cx (En cx n)∧LoopSound cx (En cx n)
 | 0=>⟨fun f args v h=>(by cases h),⟨fun f args h v h' hr=>(by cases hr),fun f args v hr=>(by cases hr),fun f args v hr=>(by cases hr)⟩,fun f fn bd b var inv p _ _ _ _ _ args h e vs h' hr=>(by cases hr)⟩
 |n+1 =>
  have ih:=En_sound hn hX n
  have hf:=fn_step hn hX ih.1 ih.2.1 ih.2.2
  have hp:=pan_step hn hX ih.1 ih.2.1 ih.2.2
  ⟨fun f args v hr=>by
   simp only [En,ovrV] at hr
   cases ho:cx.ovr f with
   |none =>
    rw [ho] at hr
    simp only at hr
    cases hu:cx.rul f with
    |none=>rw [hu] at hr;exact⟨(hf f _ v hr).1,fun S w vals h1 h2 h3=>(hf f _ v hr).2 S w vals h1 h2 (argN_rep h3)⟩
    |some ru =>
     rw [hu] at hr
     obtain⟨_,_,hr⟩:=bind_some_iff hr
     obtain⟨v',h1,hr⟩:=bind_some_iff hr
     cases hr
     obtain⟨g1,g2⟩:=hX.rul f ru hu (En cx n) ih.1 _ v h1
     exact⟨g1,fun S w vals h2 h3 h4=>g2 S w vals h2 h3 (argN_rep h4)⟩
   |some G =>
    rw [ho] at hr
    obtain⟨_,_,hr⟩:=bind_some_iff hr
    obtain⟨v',h1,hr⟩:=bind_some_iff hr
    cases hr
    exact hX.ovr f G ho args v h1,⟨own_step hn hX ih.1 ih.2.1 ih.2.2,(fun f args v hr=>by
   simp only [En,ovrV] at hr
   cases ho:cx.ovr f with
   |none =>
    rw [ho] at hr
    simp only at hr
    cases hu:cx.rul f with
    |none=>rw [hu] at hr;exact⟨(hp f _ v hr).1,fun S w vals h1 h2 h3=>(hp f _ v hr).2 S w vals h1 h2 (argN_rep h3)⟩
    |some ru =>
     rw [hu] at hr
     obtain⟨_,_,hr⟩:=bind_some_iff hr
     obtain⟨v',h1,hr⟩:=bind_some_iff hr
     cases hr
   |some G =>
    rw [ho] at hr
    obtain⟨_,_,hr⟩:=bind_some_iff hr
    obtain⟨v',h1,hr⟩:=bind_some_iff hr
    cases hr),ownPan_step hn hX ih.1 ih.2.1 ih.2.2⟩,loop_step hX ih.1 ih.2.1 ih.2.2⟩
theorem E_sound (hn:NamesOk cx.P) (hX:ExtSound cx):FnSound cx (E cx):=by
 intro f args v h
 obtain⟨n,hn'⟩:=(E_spec cx _ _ _ _).1 h
 exact(En_sound hn hX n).1 f args v hn'
end
end Go.Proofs.Av
