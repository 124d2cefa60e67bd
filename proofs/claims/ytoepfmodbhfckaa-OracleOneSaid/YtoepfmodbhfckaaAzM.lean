/- Calls, single operations, regions. -/
import Derived.Test.YtoepfmodbhfckaaAzFrz
namespace Go.Proofs.Av
open Go
open Nat renaming eq_of_beq_eq_true→ε
structure Grown (cx:Cx) (S:Nat→Prop) (w:World) (S':Nat→Prop) (w':World):Prop where
 ext:Ext w w'
 le:w.heap.size≤w'.heap.size
 os:w'.os=w.os
 tape:w'.tape=w.tape
 output:OutD cx w w'
 sub:∀b,S b→S' b
 new:∀b,S' b→S b∨w.heap.size≤b
 lt:∀b,S' b→b<w'.heap.size
def Post (cx:Cx) (S:Nat→Prop) (w:World) (v:AV) (e:Ending) (w':World):Prop:=∃cv S',e = .returned cv∧Rep S' w' Mu.none v cv∧Grown cx S w S' w'
def FnSound (cx:Cx) (F:EF):Prop:=∀f args v,F (.fn f) args []=some (.ret v,[])→(∃fn,cx.P.funcs[f]?=some fn∧fn.body.isNone=false∧(fn.name== "runtime.NumGoroutine")=false) ∧
 ∀(S:Nat→Prop) (w:World) (vals:List Value),(∀b,S b→b<w.heap.size)→GRel cx S w→Reps S w Mu.none args vals→Calls cx.P f vals.toArray w (Post cx S w v)
def AV.toV:AV→Value
 | .val v=>v
 | .agg cs => .agg (cs.map fun | .val v=>v | _=>undef).toArray
 | .tuple cs => .tuple (cs.map fun | .val v=>v | _=>undef).toArray
 | .iface t x => .iface t x.toV
 | _=>undef
theorem ground_toV {S:Nat→Prop}{w:World}{μ:Mu}{v:AV}{u:Value}(hg:v.ground=true) (hr:Rep S w μ v u):u=v.toV:=by
 have all:∀ {cs:List AV}{vs:Array Value},(cs.all fun | .val _=>true | _=>false)=true→vs.size=cs.length→(∀(j:Nat) (v:AV) (u:Value),cs[j]?=some v→vs[j]?=some u→Rep S w μ v u) →
   vs=(cs.map fun | .val v=>v | _=>undef).toArray:=fun {cs vs} h1 h2 h3=>by
  apply Array.ext'
  apply List.ext_getElem?
  intro j
  simp only [List.getElem?_map]
  cases hc:cs[j]? with
  |none =>
   have:=List.getElem?_eq_none_iff.1 hc
   rw [List.getElem?_eq_none (by simp;omega)]
   rfl
  |some x =>
   have hj:=(List.getElem?_eq_some_iff.1 hc).1
   have hv:vs[j]?=some (vs[j]'(by omega)):=Array.getElem?_eq_getElem _
   have:=List.all_eq_true.1 h1 x (List.mem_of_getElem? hc)
   have hrx:=h3 j x _ hc hv
   rw [show vs.toList[j]?=vs[j]? by simp,hv]
   cases x<;>first
    | (simp at this;done)
    | (rw [hrx.inv_val];rfl)
 cases hr<;>first | (cases hg;done) |skip
 case val=>rfl
 case agg cs vs hl hr=>exact congrArg Value.agg (all hg hl hr)
 case tuple cs vs hl hr=>exact congrArg Value.tuple (all hg hl hr)
def JX.toExit:JX→Exit
 | .normal => .normal
 | .ret => .ret
 | .exit id => .exit id
 | .goto l => .goto l
 | .pan v => .panic [{ v:=v.toV,recovered:=false }]
def PanSound (cx:Cx) (F:EF):Prop:=∀f args v,F (.fn f) args []=some (.jump (.pan v) [],[])→Fact cx f ∧
 ∀(S:Nat→Prop) (w:World) (vals:List Value),(∀b,S b→b<w.heap.size)→GRel cx S w→Reps S w Mu.none args vals →
  Calls cx.P f vals.toArray w fun e w'=>∃pv S',e = .panicked [{ v:=pv,recovered:=false }]∧Rep S' w' Mu.none v pv∧Grown cx S w S' w'
def OwnPan (cx:Cx) (F:EF):Prop:=∀f args v,F (.own f) args []=some (.jump (.pan v) [],[])→Fact cx f ∧
 ∀(S:Nat→Prop) (w:World) (vals:List Value),(∀b,S b→b<w.heap.size)→GRel cx S w→Reps S w Mu.none args vals →
  Calls cx.P f vals.toArray w fun e w'=>∃pv S',e = .panicked [{ v:=pv,recovered:=false }]∧Rep S' w' Mu.none v pv∧Grown cx S w S' w'
structure OP (cx:Cx) (F:EF):Prop where
 own:OwnSound cx F
 pan:PanSound cx F
 ownPan:OwnPan cx F
section
variable {cx:Cx}{F:EF}{K:Kf}{N:Nat}{S:Nat→Prop}{μ:Mu}{env:Env}{h:Heap}{a:Act}{w:World}
theorem Mu.upd_self {μ:Mu}{r:Nat}{x:Nat×Nat×Nat}:(μ.upd r x) r=some x:=by unfold Mu.upd;rw [if_pos rfl]
theorem rep_ptr0 {S:Nat→Prop}{w:World}{μ:Mu}{r ver b sz C:Nat}(h:μ r=some (b,sz,C)):Rep S w μ (.ptr r ver 0 0) (.pointer (some ⟨b,0,none⟩)):=by
 have:=Rep.ptr (S:=S) (w:=w) (ver:=ver) (i:=0) (j:=0) b sz C h
 simpa using this
theorem ret1_eq {r:Out×Heap}{v:AV}(h:ret1 r=some v):r=(.ret v,[]):=by
 unfold ret1 at h
 split at h
 ·cases h;rfl
 ·cases h
theorem callV_sem (hF:FnSound cx F) (st:St cx K N S μ env h a.tmps w) {q:Bool}{t:TypeId}{fv:AV}{args:List AV}{fu:Value}{us:List Value}(hf:Rep S w μ fv fu) (hr:Reps S w μ args us) {av:AV}(hc:callV cx F q t fv args h some=some av):∃fn first cap f vals,fu = .func fn first cap∧(invoke (.fn fn cap) (first++us.toArray)).run cx.P w = .ok (.enter f vals) w∧(q=true→av.ground=true)∧Calls cx.P f vals w fun e w'=>∃cv S',e = .returned cv∧Rep S' w' μ av cv∧Grown cx S w S' w':=by
 unfold callV at hc
 obtain⟨g,h1,hc⟩:=bind_some_iff hc
 obtain⟨as,h2,hc⟩:=bind_some_iff hc
 obtain⟨p,h3,hc⟩:=bind_some_iff hc
 obtain⟨r,h4,hc⟩:=bind_some_iff hc
 obtain⟨v,h5,hc⟩:=bind_some_iff hc
 obtain⟨v',h6,h7⟩:=(normR_pk _ _ v).some hc
 have hwk:=normR_wk h7
 rw [ret1_eq h5] at h4
 obtain⟨⟨fn,g1,g2,g3⟩,g4⟩:=hF _ _ _ h4
 cases hcond:(v'.ground||(!q&&(refless 5 fv&&args.all (refless 5)))) with
 |false=>rw [hcond] at h6;cases h6
 |true =>
  rw [hcond] at h6
  simp only [cond_true] at h6
  cases h6
  have go:∀T:Nat→Prop,(∀b,S b→T b)→(∀b,T b→b<w.heap.size)→(refless 5 fv=true∨∀r b s,μ r=some (b,s)→T b)→(args.all (refless 5)=true∨∀r b s,μ r=some (b,s)→T b) →
    ∃fn first cap f vals,fu = .func fn first cap∧(invoke (.fn fn cap) (first++us.toArray)).run cx.P w = .ok (.enter f vals) w∧Calls cx.P f vals w (Post cx T w v):=by
   intro T hST hTl t1 t2
   have r1:=viewArg_sem hST st.heap t1 h1 hf
   have r2:=viewArgs_sem hST st.heap t2 h2 hr
   unfold AV.call? at h3
   split at h3
   ·rename_i f first cap _
    cases h3
    cases r1 with
    |func us1 vs1 hu hl hf1 hr1 =>
     refine⟨_,_,_,f,us1++us.toArray++vs1,rfl,?_,?_⟩
     ·cases hb:fn.body with
      |none=>rw [hb] at g2;cases g2
      |some bd =>
       have g3':¬fn.name= "runtime.NumGoroutine" :=by simpa using g3
       simp [invoke,callFunc,g1,hb,g3']
     ·have:=g4 T w (us1.toList++us++vs1.toList) hTl (fun g cs hg=>(st.g g cs hg).mono hST (fun _ _=>rfl) fun _ _ h=>h) ((Reps.append ⟨by simpa using hu,fun j x y hx hy=>hf1 j x y hx (by simpa using hy)⟩ r2).append
        ⟨by simpa using hl,fun j x y hx hy=>hr1 j x y hx (by simpa using hy)⟩)
      have e:(us1.toList++us++vs1.toList).toArray=us1++us.toArray++vs1:=by apply Array.ext';simp
      rwa [e] at this
   ·cases h3
  simp only [Bool.or_eq_true,Bool.and_eq_true] at hcond
  by_cases hg:av.ground=true
  ·obtain⟨fn',first,cap,f,vals,e1,e2,e3⟩:=go (fun b=>S b∨∃r s,μ r=some (b,s)) (fun b hb => .inl hb)
    (fun b hb=>by
     rcases hb with hb |⟨r,s,hb⟩
     ·exact st.slt b hb
     ·exact st.lt hb) (.inr fun r b s hb => .inr ⟨r,s,hb⟩) (.inr fun r b s hb => .inr ⟨r,s,hb⟩)
   refine⟨fn',first,cap,f,vals,e1,e2,fun _=>hg,e3.mono fun e w' ⟨cv,S',h8,h9,h10⟩=>⟨cv,S,h8,ground_rep hg (hwk _ _ _ _ h9),?_⟩⟩
   exact⟨h10.ext,h10.le,h10.os,h10.tape,h10.output,fun _ h=>h,fun _ h => .inl h,fun b hb=>Nat.lt_of_lt_of_le (st.slt b hb) h10.le⟩
  ·have hc2:=hcond.resolve_left hg
   simp at hc2
   obtain⟨hq,hc3,hc4⟩:=hc2
   obtain⟨fn',first,cap,f,vals,e1,e2,e3⟩:=go S (fun b hb=>hb) st.slt (.inl hc3) (.inl (List.all_eq_true.2 hc4))
   refine⟨fn',first,cap,f,vals,e1,e2,fun hq'=>(by rw [hq] at hq';cases hq'),e3.mono fun e w' ⟨cv,S',h8,h9,h10⟩=>⟨cv,S',h8,(hwk _ _ _ _ h9).of_none,h10⟩⟩
def ExtOk (cx:Cx):Prop:=∀f e,cx.ext f=some e→Fact cx f∧match e with
 | .turn t Z=>∀(K:Kf) (N:Nat) (S:Nat→Prop) (μ:Mu) (env:Env) (h:Heap) (tmps:Array Value) (w:World) (as:List AV) (vs:List Value) (av:AV) (h':Heap),St cx K N S μ env h tmps w→Reps S w μ as vs →
  turnV cx t Z as h (fun v h=>some (v,h))=some (av,h')→Calls cx.P f vs.toArray w fun e w'=>∃cv S' μ',e = .returned cv∧Rep S' w' μ' av cv∧St cx K N S' μ' env h' tmps w'
 | .fresh t Y=>∀(K:Kf) (N:Nat) (S:Nat→Prop) (μ:Mu) (env:Env) (h:Heap) (tmps:Array Value) (w:World) (as:List AV) (vs:List Value) (av:AV) (h':Heap),St cx K N S μ env h tmps w→Reps S w μ as vs →
  freshV cx t Y as h (fun v h=>some (v,h))=some (av,h')→Calls cx.P f vs.toArray w fun e w'=>∃cv S' μ',e = .returned cv∧Rep S' w' μ' av cv∧St cx K N S' μ' env h' tmps w'
 | .clone t=>∀(K:Kf) (N:Nat) (S:Nat→Prop) (μ:Mu) (env:Env) (h:Heap) (tmps:Array Value) (w:World) (y:AV) (v:Value) (av:AV) (h':Heap),St cx K N S μ env h tmps w→Rep S w μ y v →
  cloneV cx t [y] h (fun v h=>some (v,h))=some (av,h')→Calls cx.P f #[v] w fun e w'=>∃cv S' μ',e = .returned cv∧Rep S' w' μ' av cv∧St cx K N S' μ' env h' tmps w'
structure ExtSound (cx:Cx):Prop where
 ext:ExtOk cx
 ovr:∀f G,cx.ovr f=some G→∀args v,G args=some v→Fact cx f ∧
  ∀(S:Nat→Prop) (w:World) (vals:List Value),(∀b,S b→b<w.heap.size)→GRel cx S w→Reps S w Mu.none args vals→Calls cx.P f vals.toArray w (Post cx S w v)
 rul:∀f ru,cx.rul f=some ru→∀F:EF,FnSound cx F→∀args v,ru.G F args=some v→Fact cx f ∧
  ∀(S:Nat→Prop) (w:World) (vals:List Value),(∀b,S b→b<w.heap.size)→GRel cx S w→Reps S w Mu.none args vals→Calls cx.P f vals.toArray w (Post cx S w v)
theorem St.grown {tmps:Array Value}(st:St cx K N S μ env h tmps w) {S':Nat→Prop}{w':World}(hg:Grown cx S w S' w'):St cx K N S' μ env h tmps w' :=
 st.ext hg.ext hg.le hg.os hg.tape hg.output hg.sub hg.new hg.lt
theorem bins_sem {tmps:Array Value}(st:St cx K N S μ env h tmps w) {b:Builtin}{ts:Array TypeId}{vs:List AV}{us:Array Value}(hr:Reps S w μ vs us.toList) {av:AV}{h':Heap}(hb:bins cx b ts.toList vs h (fun v h=>some (v,h))=some (av,h')) (ty:TypeId) (cs:Array Bool):∃r w' μ',(builtin b ts ty cs us).run cx.P w = .ok (.value r) w'∧Rep S w' μ' av r∧St cx K N S μ' env h' tmps w':=by
 obtain⟨ts⟩:=ts
 obtain⟨us⟩:=us
 simp only at hr hb
 unfold bins at hb
 split at hb
 ·rename_i t1 x
  obtain⟨u,r,h1,h2,h3⟩:=hr.inv_cons
  have:=h3.inv_nil
  subst this
  subst h1
  split at hb
  ·obtain⟨r,w',μ',g1,g2,g3⟩:=clearV_sem st h2 (ty:=ty) hb
   exact⟨r,w',μ',by simp [builtin,g1],g2,g3⟩
  ·cases hb
 ·rename_i t1 t2 x y
  obtain⟨u,r,h1,h2,h3⟩:=hr.inv_cons
  obtain⟨u2,r2,h4,h5,h6⟩:=h3.inv_cons
  have:=h6.inv_nil
  subst this
  subst h4
  subst h1
  split at hb
  ·obtain⟨r,w',μ',g1,g2,g3⟩:=appendV_sem st h2 h5 (ty:=ty) hb
   exact⟨r,w',μ',by simp [builtin,g1],g2,g3⟩
  ·obtain⟨r,w',μ',g1,g2,g3⟩:=copyV_sem (t2:=t2) st h2 h5 (ty:=ty) hb
   exact⟨r,w',μ',by simp [builtin,g1],g2,g3⟩
  ·cases hb
 ·cases hb
theorem call_enter (st:St cx K N S μ env h a.tmps w) {fv g:AV}{args as:List AV}{fu:Value}{us:List Value}(hf:Rep S w μ fv fu) (hr:Reps S w μ args us) (h1:viewArg h fv=some g) (h2:viewArgs h args=some as) {p:FuncId×List AV}(h3:g.call? as=some p) (hfact:Fact cx p.1):∃fn first cap vals,fu = .func fn first cap∧(invoke (.fn fn cap) (first++us.toArray)).run cx.P w = .ok (.enter p.1 vals.toArray) w∧Reps (fun b=>S b∨∃r s,μ r=some (b,s)) w Mu.none p.2 vals:=by
 have r1:=viewArg_sem (T:=fun b=>S b∨∃r s,μ r=some (b,s)) (fun b hb => .inl hb) st.heap (.inr fun r b s hb => .inr ⟨r,s,hb⟩) h1 hf
 have r2:=viewArgs_sem (T:=fun b=>S b∨∃r s,μ r=some (b,s)) (fun b hb => .inl hb) st.heap (.inr fun r b s hb => .inr ⟨r,s,hb⟩) h2 hr
 obtain⟨fn,g1,g2,g3⟩:=hfact
 unfold AV.call? at h3
 split at h3
 ·rename_i f first cap _
  cases h3
  cases r1 with
  |func us1 vs1 hu hl hf1 hr1 =>
   refine⟨_,_,_,us1.toList++us++vs1.toList,rfl,?_,?_⟩
   ·have e:(us1.toList++us++vs1.toList).toArray=us1++us.toArray++vs1:=by apply Array.ext';simp
    rw [e]
    cases hb:fn.body with
    |none=>rw [hb] at g2;cases g2
    |some bd =>
     have g3':¬fn.name= "runtime.NumGoroutine" :=by simpa using g3
     simp [invoke,callFunc,g1,hb,g3']
   ·exact(Reps.append ⟨by simpa using hu,fun j x y hx hy=>hf1 j x y hx (by simpa using hy)⟩ r2).append ⟨by simpa using hl,fun j x y hx hy=>hr1 j x y hx (by simpa using hy)⟩
 ·cases h3
def CallRes (cx:Cx) (K:Kf) (N:Nat) (env:Env) (tmps:Array Value) (e:JX) (av:AV) (h':Heap) (en:Ending) (w':World):Prop:=match e with
 | .normal=>∃cv S' μ',en = .returned cv∧Rep S' w' μ' av cv∧St cx K N S' μ' env h' tmps w'
 |e=>∃ch S' μ',en = .panicked ch∧e.toExit = .panic ch∧St cx K N S' μ' env h' tmps w'
theorem callP_sem (hF:FnSound cx F) (hO:OP cx F) (st:St cx K N S μ env h a.tmps w) {T t:TypeId}{fv:AV}{args:List AV}{fu:Value}{us:List Value}(hf:Rep S w μ fv fu) (hr:Reps S w μ args us) {e:JX}{av:AV}{h':Heap}(hc:callP cx F T t fv args h (fun e v h=>some (e,v,h))=some (e,av,h')):∃fn first cap f vals,fu = .func fn first cap∧(invoke (.fn fn cap) (first++us.toArray)).run cx.P w = .ok (.enter f vals) w∧Calls cx.P f vals w (CallRes cx K N env a.tmps e av h'):=by
 unfold callP at hc
 obtain⟨g,h1,hc⟩:=bind_some_iff hc
 obtain⟨as,h2,hc⟩:=bind_some_iff hc
 obtain⟨p,h3,hc⟩:=bind_some_iff hc
 obtain⟨r,h4,hc⟩:=bind_some_iff hc
 cases hp:isPan r with
 |true =>
  rw [hp] at hc
  simp only [cond_true] at hc
  obtain⟨x,h5,hc⟩:=bind_some_iff hc
  obtain⟨x',h6,h7⟩:=(normZ_pk _ x).some hc
  unfold panV at h5
  split at h5
  ·rename_i v
   unfold AV.if? at h5
   split at h5
   ·rename_i t' y
    split at h5
    ·rename_i ht
     cases h5
     subst ht
     cases hg:x'.ground with
     |false=>rw [hg] at h6;cases h6
     |true =>
      rw [hg] at h6
      cases h6
      obtain⟨hfact,hcalls⟩:=hO.pan _ _ _ h4
      obtain⟨fn,first,cap,vals,e1,e2,e3⟩:=call_enter st hf hr h1 h2 h3 hfact
      refine⟨fn,first,cap,_,_,e1,e2,(hcalls _ w vals (fun b hb=>by
       rcases hb with hb |⟨r,s,hb⟩
       ·exact st.slt b hb
       ·exact st.lt hb) (fun g cs hg=>(st.g g cs hg).mono (fun b hb => .inl hb) (fun _ _=>rfl) fun _ _ h=>h) e3).mono fun en w' ⟨pv,S',h8,h9,h10⟩=> ?_⟩
      refine⟨_,S,μ,h8,?_,st.grown ⟨h10.ext,h10.le,h10.os,h10.tape,h10.output,fun _ h=>h,fun _ h => .inl h,fun b hb=>Nat.lt_of_lt_of_le (st.slt b hb) h10.le⟩⟩
      cases h9 with
      |iface hx =>
       have:=ground_toV hg (normZ_wk h7 _ _ _ _ hx)
       rw [this]
       rfl
    ·cases h5
   ·cases h5
  ·cases h5
 |false =>
  rw [hp] at hc
  simp only [cond_false] at hc
  obtain⟨v,h5,hc⟩:=bind_some_iff hc
  obtain⟨v',h6,h7⟩:=(normR_pk _ _ v).some hc
  have hcv:callV cx F false t fv args h some=some v':=by
   unfold callV
   simp only [h1,h2,h3,h4,h5,Option.bind_some]
   obtain⟨a',q1,q2⟩:=(normR_pk (cx.svs t) (cx.sv t) v) AV some v' h7
   cases q1
   have q3:∀(c':AV→Option AV),normR (cx.svs t) (cx.sv t) v c'=c' v':=q2 AV
   rw [q3]
   cases hg:(v'.ground||(refless 5 fv&&args.all (refless 5))) with
   |false=>rw [hg] at h6;cases h6
   |true=>simp [hg]
  have hcv':e = .normal∧av=v'∧h'=h:=by
   cases hg:(v'.ground||(refless 5 fv&&args.all (refless 5))) with
   |false=>rw [hg] at h6;cases h6
   |true=>rw [hg] at h6;cases h6;exact⟨rfl,rfl,rfl⟩
  obtain⟨rfl,rfl,rfl⟩:=hcv'
  obtain⟨fn,first,cap,f,vals,e1,e2,_,e3⟩:=callV_sem hF st hf hr hcv
  exact⟨fn,first,cap,f,vals,e1,e2,e3.mono fun e w' ⟨cv,S',h8,h9,h10⟩=>⟨cv,S',μ,h8,h9,st.grown h10⟩⟩
theorem callW_sem (hF:FnSound cx F) (st:St cx K N S μ env h a.tmps w) {t:TypeId}{fv:AV}{args:List AV}{fu:Value}{us:List Value}(hf:Rep S w μ fv fu) (hr:Reps S w μ args us) {av:AV}{h':Heap}(hc:callW cx F t fv args h (fun v h=>some (v,h))=some (av,h')):∃fn first cap f vals,fu = .func fn first cap∧(invoke (.fn fn cap) (first++us.toArray)).run cx.P w = .ok (.enter f vals) w∧Calls cx.P f vals w (CallRes cx K N env a.tmps .normal av h'):=by
 unfold callW at hc
 obtain⟨g,h1,hc⟩:=bind_some_iff hc
 obtain⟨as,h2,hc⟩:=bind_some_iff hc
 obtain⟨p,h3,hc⟩:=bind_some_iff hc
 obtain⟨r,h4,hc⟩:=bind_some_iff hc
 obtain⟨v,h5,hc⟩:=bind_some_iff hc
 obtain⟨v',h6,h7⟩:=(normR_pk _ _ v).some hc
 cases hg:(v'.ground||(refless 5 fv&&args.all (refless 5))) with
 |true =>
  rw [hg] at h6
  simp only [cond_true] at h6
  cases h6
  have hcv:callV cx F false t fv args h some=some av:=by
   unfold callV
   simp only [h1,h2,h3,h4,h5,Option.bind_some]
   obtain⟨a',q1,q2⟩:=(normR_pk (cx.svs t) (cx.sv t) v) AV some av h7
   cases q1
   have q3:∀(c':AV→Option AV),normR (cx.svs t) (cx.sv t) v c'=c' av:=q2 AV
   rw [q3]
   simp [hg]
  obtain⟨fn,first,cap,f,vals,e1,e2,_,e3⟩:=callV_sem hF st hf hr hcv
  exact⟨fn,first,cap,f,vals,e1,e2,e3.mono fun e w' ⟨cv,S',h8,h9,h10⟩=>⟨cv,S',μ,h8,h9,st.grown h10⟩⟩
 |false =>
  rw [hg] at h6
  simp only [cond_false] at h6
  cases h6
  have hwk:=normR_wk h7
  rw [ret1_eq h5] at h4
  obtain⟨⟨fn,g1,g2,g3⟩,g4⟩:=hF _ _ _ h4
  obtain⟨T,st',hST,hT⟩:=st.freezeL (rs:=(fv::args).flatMap (vrefs h 5))
  simp only [List.flatMap_cons,List.mem_append] at hT
  have r1:=viewArg_semR hST st.heap (fun r hr=>hT r (.inl hr)) h1 hf
  have r2:=viewArgs_semR hST st.heap (fun r hr=>hT r (.inr hr)) h2 hr
  unfold AV.call? at h3
  split at h3
  ·rename_i f first cap _
   cases h3
   cases r1 with
   |func us1 vs1 hu hl hf1 hr1 =>
    refine⟨_,_,_,f,us1++us.toArray++vs1,rfl,?_,?_⟩
    ·cases hb:fn.body with
     |none=>rw [hb] at g2;cases g2
     |some bd =>
      have g3':¬fn.name= "runtime.NumGoroutine" :=by simpa using g3
      simp [invoke,callFunc,g1,hb,g3']
    ·have:=g4 T w (us1.toList++us++vs1.toList) st'.slt (fun g cs hg=>(st.g g cs hg).mono hST (fun _ _=>rfl) fun _ _ h=>h) ((Reps.append ⟨by simpa using hu,fun j x y hx hy=>hf1 j x y hx (by simpa using hy)⟩ r2).append
       ⟨by simpa using hl,fun j x y hx hy=>hr1 j x y hx (by simpa using hy)⟩)
     have e:(us1.toList++us++vs1.toList).toArray=us1++us.toArray++vs1:=by apply Array.ext';simp
     rw [e] at this
     exact this.mono fun e w' ⟨cv,S',h8,h9,h10⟩=>⟨cv,S',μ,h8,(hwk _ _ _ _ h9).of_none,st'.grown h10⟩
  ·cases h3
theorem ownP_sem (_hF:FnSound cx F) (hO:OP cx F) (st:St cx K N S μ env h a.tmps w) {o:Own}{T:TypeId}{fv:AV}{args:List AV}{fu:Value}{us:List Value}(hf:Rep S w μ fv fu) (hr:Reps S w μ args us) {e:JX}{av:AV}{h':Heap}(ho:∀f,fnOf fv=some f→cx.own f=some o) (hc:ownP cx F o T fv args h (fun e v h=>some (e,v,h))=some (e,av,h')):∃fn first cap f vals,fu = .func fn first cap∧(invoke (.fn fn cap) (first++us.toArray)).run cx.P w = .ok (.enter f vals) w∧Calls cx.P f vals w (CallRes cx K N env a.tmps e av h'):=by
 unfold ownP at hc
 obtain⟨g,h1,hc⟩:=bind_some_iff hc
 obtain⟨as,h2,hc⟩:=bind_some_iff hc
 obtain⟨p,h3,hc⟩:=bind_some_iff hc
 obtain⟨r,h4,hc⟩:=bind_some_iff hc
 cases hp:isPan r with
 |true =>
  rw [hp] at hc
  simp only [cond_true] at hc
  obtain⟨x,h5,hc⟩:=bind_some_iff hc
  obtain⟨x',h6,h7⟩:=(normZ_pk _ x).some hc
  unfold panV at h5
  split at h5
  ·rename_i v
   unfold AV.if? at h5
   split at h5
   ·rename_i t' y
    split at h5
    ·rename_i ht
     cases h5
     subst ht
     cases hg:x'.ground with
     |false=>rw [hg] at h6;cases h6
     |true =>
      rw [hg] at h6
      cases h6
      obtain⟨hfact,hcalls⟩:=hO.ownPan _ _ _ h4
      obtain⟨fn,first,cap,vals,e1,e2,e3⟩:=call_enter st hf hr h1 h2 h3 hfact
      refine⟨fn,first,cap,_,_,e1,e2,(hcalls _ w vals (fun b hb=>by
       rcases hb with hb |⟨r,s,hb⟩
       ·exact st.slt b hb
       ·exact st.lt hb) (fun g cs hg=>(st.g g cs hg).mono (fun b hb => .inl hb) (fun _ _=>rfl) fun _ _ h=>h) (wks_map AV.wk wk_wk _ _ _ _ _ e3)).mono fun en w' ⟨pv,S',h8,h9,h10⟩=> ?_⟩
      refine⟨_,S,μ,h8,?_,st.grown ⟨h10.ext,h10.le,h10.os,h10.tape,h10.output,fun _ h=>h,fun _ h => .inl h,fun b hb=>Nat.lt_of_lt_of_le (st.slt b hb) h10.le⟩⟩
      cases h9 with
      |iface hx =>
       have:=ground_toV hg (normZ_wk h7 _ _ _ _ hx)
       rw [this]
       rfl
    ·cases h5
   ·cases h5
  ·cases h5
 |false =>
  rw [hp] at hc
  simp only [cond_false] at hc
  obtain⟨⟨av1,h1'⟩,hc0,hcp,_⟩:=(ownV_pkl (G:=fun _=>F) (fun _ _ _ r hr=>⟨0,fun _ _=>hr⟩) cx o fv args h) _ (fun x=>some (JX.normal,x.1,x.2)) _ hc
  cases hc0
  exact ownV_sem hO.own st ho hf hr (hcp _ some)
theorem callX_sem (hF:FnSound cx F) (hO:OP cx F) (hX:ExtSound cx) (st:St cx K N S μ env h a.tmps w) {q q2:Bool}{t:TypeId}{fv:AV}{args:List AV}{fu:Value}{us:List Value}(hf:Rep S w μ fv fu) (hr:Reps S w μ args us) {e:JX}{av:AV}{h':Heap}(hc:callX cx F q q2 t fv args h (fun e v h=>some (e,v,h))=some (e,av,h')):∃fn first cap f vals,fu = .func fn first cap∧(invoke (.fn fn cap) (first++us.toArray)).run cx.P w = .ok (.enter f vals) w∧Calls cx.P f vals w (CallRes cx K N env a.tmps e av h'):=by
 unfold callX at hc
 split at hc
 ·rename_i e he
  cases q with
  |true=>cases hc
  |false =>
   simp only [cond_false] at hc
   obtain⟨⟨av1,h1'⟩,hc0,hcp⟩:=(extV_pk cx e fv args h) _ (fun x=>some (JX.normal,x.1,x.2)) _ hc
   cases hc0
   have hc:=hcp _ some
   clear hcp
   obtain⟨f,h2,h3⟩:=bind_some_iff he
   have hspec:=hX.ext _ _ h3
   cases e with
   |turn t Z =>
    simp only [extV] at hc
    obtain⟨p,h1,hc1⟩:=bind_some_iff hc
    unfold AV.call? at h1
    split at h1
    ·rename_i f' first cap _
     cases h1
     cases h2
     obtain⟨⟨fn,f1,f2,f3⟩,hspec⟩:=hspec
     cases hf with
     |func us1 vs1 hu hl hf1 hr1 =>
      have hargs:Reps S w μ (first++args++cap) (us1.toList++us++vs1.toList) :=
       (Reps.append ⟨by simpa using hu,fun j x y hx hy=>hf1 j x y hx (by simpa using hy)⟩ hr).append ⟨by simpa using hl,fun j x y hx hy=>hr1 j x y hx (by simpa using hy)⟩
      refine⟨_,_,_,f,us1++us.toArray++vs1,rfl,?_,?_⟩
      ·cases hb:fn.body with
       |none=>rw [hb] at f2;cases f2
       |some bd =>
        have g3':¬fn.name= "runtime.NumGoroutine" :=by simpa using f3
        simp [invoke,callFunc,f1,hb,g3']
      ·have e:(us1.toList++us++vs1.toList).toArray=us1++us.toArray++vs1:=by apply Array.ext';simp
       rw [←e]
       exact hspec K N S μ env h a.tmps w _ _ _ _ st hargs hc1
    ·cases h1
   |fresh t Y =>
    simp only [extV] at hc
    obtain⟨p,h1,hc1⟩:=bind_some_iff hc
    unfold AV.call? at h1
    split at h1
    ·rename_i f' first cap _
     cases h1
     cases h2
     obtain⟨⟨fn,f1,f2,f3⟩,hspec⟩:=hspec
     cases hf with
     |func us1 vs1 hu hl hf1 hr1 =>
      have hargs:Reps S w μ (first++args++cap) (us1.toList++us++vs1.toList) :=
       (Reps.append ⟨by simpa using hu,fun j x y hx hy=>hf1 j x y hx (by simpa using hy)⟩ hr).append ⟨by simpa using hl,fun j x y hx hy=>hr1 j x y hx (by simpa using hy)⟩
      refine⟨_,_,_,f,us1++us.toArray++vs1,rfl,?_,?_⟩
      ·cases hb:fn.body with
       |none=>rw [hb] at f2;cases f2
       |some bd =>
        have g3':¬fn.name= "runtime.NumGoroutine" :=by simpa using f3
        simp [invoke,callFunc,f1,hb,g3']
      ·have e:(us1.toList++us++vs1.toList).toArray=us1++us.toArray++vs1:=by apply Array.ext';simp
       rw [←e]
       exact hspec K N S μ env h a.tmps w _ _ _ _ st hargs hc1
    ·cases h1
   |clone t =>
    simp only [extV] at hc
    obtain⟨p,h1,hc1⟩:=bind_some_iff hc
    unfold AV.call? at h1
    split at h1
    ·rename_i f' first cap _
     cases h1
     cases h2
     obtain⟨⟨fn,f1,f2,f3⟩,hspec⟩:=hspec
     cases hf with
     |func us1 vs1 hu hl hf1 hr1 =>
      have hargs:Reps S w μ (first++args++cap) (us1.toList++us++vs1.toList) :=
       (Reps.append ⟨by simpa using hu,fun j x y hx hy=>hf1 j x y hx (by simpa using hy)⟩ hr).append ⟨by simpa using hl,fun j x y hx hy=>hr1 j x y hx (by simpa using hy)⟩
      refine⟨_,_,_,f,us1++us.toArray++vs1,rfl,?_,?_⟩
      ·cases hb:fn.body with
       |none=>rw [hb] at f2;cases f2
       |some bd =>
        have g3':¬fn.name= "runtime.NumGoroutine" :=by simpa using f3
        simp [invoke,callFunc,f1,hb,g3']
      ·have e:(us1.toList++us++vs1.toList).toArray=us1++us.toArray++vs1:=by apply Array.ext';simp
       rw [←e]
       simp only at hspec hc1
       generalize first++args++cap=l at hc1 hargs
       generalize us1.toList++us++vs1.toList=l' at hargs ⊢
       have hc2:=hc1
       unfold cloneV at hc2
       split at hc2
       ·rename_i y
        obtain⟨v,r,h5,h6,h7⟩:=hargs.inv_cons
        rw [h5,h7.inv_nil]
        exact hspec K N S μ env h a.tmps w y v _ _ st h6 hc1
       ·cases hc2
    ·cases h1
 ·split at hc
  ·rename_i o ho
   cases q with
   |true=>cases hc
   |false =>
    simp only [cond_false] at hc
    split at hc
    ·cases q2 with
     |true=>cases hc
     |false=>exact ownP_sem hF hO st hf hr (fun f hf'=>by rw [hf'] at ho;exact ho) hc
    ·obtain⟨⟨av1,h1'⟩,hc0,hcp,_⟩:=(ownV_pkl (G:=fun _=>F) (fun _ _ _ r hr=>⟨0,fun _ _=>hr⟩) cx o fv args h) _ (fun x=>some (JX.normal,x.1,x.2)) _ hc
     cases hc0
     exact ownV_sem hO.own st (fun f hf'=>by rw [hf'] at ho;exact ho) hf hr (hcp _ some)
  ·split at hc
   ·cases q2 with
    |true=>cases hc
    |false=>exact callP_sem hF hO st hf hr hc
   ·generalize (q2&&(q|| !frzOf cx fv))=qq at hc
    cases qq with
    |true =>
     simp only [cond_true] at hc
     obtain⟨v,hc1,h1⟩:=(callV_pkl (G:=fun _=>F) (fun _ _ _ r hr=>⟨0,fun _ _=>hr⟩) cx false t fv args h _ _ _ hc)
     cases hc1
     obtain⟨fn,first,cap,f,vals,e1,e2,_,e3⟩:=callV_sem hF st hf hr (h1.1 _ some)
     exact⟨fn,first,cap,f,vals,e1,e2,e3.mono fun e w' ⟨cv,S',h8,h9,h10⟩=>⟨cv,S',μ,h8,h9,st.grown h10⟩⟩
    |false =>
     simp only [cond_false] at hc
     obtain⟨⟨av1,h1'⟩,hc0,hcp,_⟩:=(callW_pkl (G:=fun _=>F) (fun _ _ _ r hr=>⟨0,fun _ _=>hr⟩) cx t fv args h) _ (fun x=>some (JX.normal,x.1,x.2)) _ hc
     cases hc0
     exact callW_sem hF st hf hr (hcp _ some)
theorem rowsP_fill {s:Nat}:∀ {ps:List (Nat×AV)}{qs:List (Nat×Value)}{i:Nat}{rows:List (List AV)}{ds:Array Value},rowsP s i ps some=some rows→qs.length=ps.length →
  (∀(j:Nat) (p:Nat×AV) (q:Nat×Value),ps[j]?=some p→qs[j]?=some q→q.1=p.1∧Rep S w μ p.2 q.2)→(i+ps.length)*s≤ds.size →
  rows.length=ps.length∧(∀x,x∈rows→x.length=s∧x.all AV.flat1=true)∧∃es,Instr.fill (fun i=>some (i*s,s)) ds qs=some es∧es.size=ds.size∧(∀k,k<i*s→es[k]?=ds[k]?) ∧
   ∀(a b:Nat) (x:List AV) (v:AV),rows[a]?=some x→x[b]?=some v→∃u,es[(i+a)*s+b]?=some u∧Rep S w μ v u
 | [],qs,i,rows,ds,h,hl,hp,hd=>by
  simp only [rowsP] at h
  cases h
  have:qs=[]:=by simpa using hl
  subst this
  exact⟨rfl,(fun x hx=>by cases hx),ds,rfl,rfl,fun _ _=>rfl,fun a b x v ha=>(by simp at ha)⟩
 | (j,v)::ps,qs,i,rows,ds,h,hl,hp,hd=>by
  simp only [rowsP] at h
  split at h
  ·rename_i hc
   simp only [Bool.and_eq_true] at hc
   obtain⟨c1,c2,c3⟩:=hc
   obtain⟨rows',h1,h2⟩:=(rowsP_pk _ _ _).some h
   cases h1
   have hij:=ε c1
   subst hij
   have hvl:=ε c2
   cases qs with
   |nil=>simp at hl
   |cons q qs =>
    obtain⟨hq1,hq2⟩:=hp 0 (i,v) q (by simp) (by simp)
    obtain⟨qi,qv⟩:=q
    simp only at hq1 hq2
    subst hq1
    have hcells:=hq2.cells
    have hqs:qv.cells.size=s:=by
     have:=hcells.1
     simp at this
     omega
    simp only [List.length_cons] at hd
    have hmul:(qi+1+ps.length)*s=(qi+(ps.length+1))*s:=by congr 1;omega
    have hle:(qi+1)*s≤(qi+(ps.length+1))*s:=Nat.mul_le_mul_right s (by omega)
    rw [Nat.add_mul,Nat.one_mul] at hle
    obtain⟨r1,r2,es,r3,r4,r5,r6⟩:=rowsP_fill (qs:=qs) (ds:=(qv.cells.toList.zipIdx 0).foldl (fun cs (x:Value×Nat)=>cs.setIfInBounds (qi*s+x.2) x.1) ds) h2 (by simpa using hl)
     (fun j x y hx hy=>hp (j+1) x y (by simpa using hx) (by simpa using hy)) (by rw [foldl_set_size,hmul];exact hd)
    have old:∀k,((qv.cells.toList.zipIdx 0).foldl (fun cs (x:Value×Nat)=>cs.setIfInBounds (qi*s+x.2) x.1) ds)[k]?=if qi*s+0≤k∧k<qi*s+0+qv.cells.toList.length then qv.cells.toList[k-(qi*s+0)]? else ds[k]?:=fun k =>
     foldl_set_get (qi*s) qv.cells.toList 0 ds (by simp [hqs];omega) k
    simp only [Nat.add_zero,Array.length_toList,hqs] at old
    refine⟨by simp [r1],fun x hx=> ?_,es,?_,by rw [r4,foldl_set_size],fun k hk=> ?_,fun a b x v' ha hb=> ?_⟩
    ·rcases List.mem_cons.1 hx with rfl |hx
     ·exact⟨hvl,c3⟩
     ·exact r2 x hx
    ·simp only [Instr.fill]
     rw [if_neg (by simp [hqs];omega)]
     rw [←r3]
     congr 1
     rw [←Array.foldl_toList,Array.toList_zipIdx]
    ·rw [r5 k (by rw [Nat.add_mul];omega),old k,if_neg (by omega)]
    ·cases a with
     |zero =>
      simp at ha
      subst ha
      obtain⟨u,hu,hr⟩:=hcells.get hb
      have hbs:b<s:=by rw [←hvl];exact(List.getElem?_eq_some_iff.1 hb).1
      refine⟨u,?_,hr⟩
      rw [Nat.add_zero,r5 _ (by rw [Nat.add_mul,Nat.one_mul];omega),old,if_pos (by omega),Nat.add_sub_cancel_left]
      exact hu
     |succ a =>
      obtain⟨u,hu,hr⟩:=r6 a b x v' (by simpa using ha) hb
      refine⟨u,?_,hr⟩
      rw [←hu]
      congr 3
      omega
  ·cases h
theorem rowsR_fill {s:Nat}:∀ {ps:List (Nat×AV)}{qs:List (Nat×Value)}{i:Nat}{rows:List (List AV)}{ds:Array Value},rowsR s i ps=some rows→qs.length=ps.length →
  (∀(j:Nat) (p:Nat×AV) (q:Nat×Value),ps[j]?=some p→qs[j]?=some q→q.1=p.1∧Rep S w μ p.2 q.2)→(i+ps.length)*s≤ds.size →
  rows.length=ps.length∧(∀x,x∈rows→x.length=s)∧∃es,Instr.fill (fun i=>some (i*s,s)) ds qs=some es∧es.size=ds.size∧(∀k,k<i*s→es[k]?=ds[k]?) ∧
   ∀(a b:Nat) (x:List AV) (v:AV),rows[a]?=some x→x[b]?=some v→∃u,es[(i+a)*s+b]?=some u∧Rep S w μ v u
 | [],qs,i,rows,ds,h,hl,hp,hd=>by
  simp only [rowsR] at h
  cases h
  have:qs=[]:=by simpa using hl
  subst this
  exact⟨rfl,(fun x hx=>by cases hx),ds,rfl,rfl,fun _ _=>rfl,fun a b x v ha=>(by simp at ha)⟩
 | (j,v)::ps,qs,i,rows,ds,h,hl,hp,hd=>by
  simp only [rowsR] at h
  split at h
  ·rename_i hc
   simp only [Bool.and_eq_true] at hc
   obtain⟨c1,c2⟩:=hc
   obtain⟨rows',h2,h1⟩:=bind_some_iff h
   cases h1
   have hij:=ε c1
   subst hij
   have hvl:=ε c2
   cases qs with
   |nil=>simp at hl
   |cons q qs =>
    obtain⟨hq1,hq2⟩:=hp 0 (i,v) q (by simp) (by simp)
    obtain⟨qi,qv⟩:=q
    simp only at hq1 hq2
    subst hq1
    have hcells:=hq2.cells
    have hqs:qv.cells.size=s:=by
     have:=hcells.1
     simp at this
     omega
    simp only [List.length_cons] at hd
    have hmul:(qi+1+ps.length)*s=(qi+(ps.length+1))*s:=by congr 1;omega
    have hle:(qi+1)*s≤(qi+(ps.length+1))*s:=Nat.mul_le_mul_right s (by omega)
    rw [Nat.add_mul,Nat.one_mul] at hle
    obtain⟨r1,r2,es,r3,r4,r5,r6⟩:=rowsR_fill (qs:=qs) (ds:=(qv.cells.toList.zipIdx 0).foldl (fun cs (x:Value×Nat)=>cs.setIfInBounds (qi*s+x.2) x.1) ds) h2 (by simpa using hl)
     (fun j x y hx hy=>hp (j+1) x y (by simpa using hx) (by simpa using hy)) (by rw [foldl_set_size,hmul];exact hd)
    have old:∀k,((qv.cells.toList.zipIdx 0).foldl (fun cs (x:Value×Nat)=>cs.setIfInBounds (qi*s+x.2) x.1) ds)[k]?=if qi*s+0≤k∧k<qi*s+0+qv.cells.toList.length then qv.cells.toList[k-(qi*s+0)]? else ds[k]?:=fun k =>
     foldl_set_get (qi*s) qv.cells.toList 0 ds (by simp [hqs];omega) k
    simp only [Nat.add_zero,Array.length_toList,hqs] at old
    refine⟨by simp [r1],fun x hx=> ?_,es,?_,by rw [r4,foldl_set_size],fun k hk=> ?_,fun a b x v' ha hb=> ?_⟩
    ·rcases List.mem_cons.1 hx with rfl |hx
     ·exact hvl
     ·exact r2 x hx
    ·simp only [Instr.fill]
     rw [if_neg (by simp [hqs];omega)]
     rw [←r3]
     congr 1
     rw [←Array.foldl_toList,Array.toList_zipIdx]
    ·rw [r5 k (by rw [Nat.add_mul];omega),old k,if_neg (by omega)]
    ·cases a with
     |zero =>
      simp at ha
      subst ha
      obtain⟨u,hu,hr⟩:=hcells.get hb
      have hbs:b<s:=by rw [←hvl];exact(List.getElem?_eq_some_iff.1 hb).1
      refine⟨u,?_,hr⟩
      rw [Nat.add_zero,r5 _ (by rw [Nat.add_mul,Nat.one_mul];omega),old,if_pos (by omega),Nat.add_sub_cancel_left]
      exact hu
     |succ a =>
      obtain⟨u,hu,hr⟩:=r6 a b x v' (by simpa using ha) hb
      refine⟨u,?_,hr⟩
      rw [←hu]
      congr 3
      omega
  ·cases h
theorem row_sem (st:St cx K N S μ env h a.tmps w) {t e:TypeId}{len s:Nat}{z:Value}{ps:List (Nat×AV)}{qs:Array (Nat×Value)}{rows:List (List AV)}(hd:cx.P.underlying t=some (.slice e)) (hz:cx.zero e=some z) (hs:cx.size e=some s) (_hzl:(zcells z).length=s) (hs0:0<s) (hl0:0<len) (hmax:len*s≤16777216) (hpl:ps.length=len) (hl:qs.size=ps.length) (hp:∀(j:Nat) (p:Nat×AV) (q:Nat×Value),ps[j]?=some p→qs.toList[j]?=some q→q.1=p.1∧Rep S w μ p.2 q.2) (hf:rowsP s 0 ps some=some rows):∃v S' w',(Instr.buildSlice t len qs).run cx.P w = .ok v w'∧Rep S' w' μ (.list 1 s rows) v∧Grown cx S w S' w':=by
 obtain⟨f1,f2,es,f3,f4,_,f6⟩:=rowsP_fill (S:=S) (w:=w) (μ:=μ) (qs:=qs.toList) (ds:=(Array.range (len*s)).map (fun i=>z.cells[i%z.cells.size]!)) hf (by simpa using hl) hp (by simp [hpl])
 have hlen:es.size=len*s:=by simpa using f4
 rw [hpl] at f1
 refine⟨.slice (some ⟨w.heap.size,0,none⟩) len len,(fun b=>S b∨b=w.heap.size),{ w with heap:=w.heap.push (.cells es e) },?_,?_,?_⟩
 ·have hzr:(zeroValue e).run cx.P w = .ok z w:=by
   unfold Cx.zero at hz
   obtain⟨i,h7,h8⟩:=bind_some_iff hz
   simp [zeroValue,typeInfo,h7,h8]
  have hne:¬len*s=0:=Nat.ne_of_gt (Nat.mul_pos hl0 hs0)
  have hgt:¬len*s>2 ^ 24:=by
   have:(2:Nat) ^ 24=16777216:=by decide
   omega
  unfold Instr.buildSlice
  simp [run_underlying hd,run_size hs,hne,hgt,hzr,f3,newRow]
 ·have hold:∀ {v:AV}{u:Value},Rep S w Mu.none v u→Rep (fun b=>S b∨b=w.heap.size) { w with heap:=w.heap.push (.cells es e) } Mu.none v u:=fun hr =>
   hr.mono (fun _ h => .inl h) (fun b hb=>by
    have:=st.slt b hb
    simp [Array.getElem?_push,Nat.ne_of_lt this]) fun _ _ h=>h
  have key:=Rep.list (S:=fun b=>S b∨b=w.heap.size) (w:= { w with heap:=w.heap.push (.cells es e) }) (μ:=μ) (fl:=1) (sz:=s) (es:=rows) w.heap.size 0 len (fun i j=>(es[i*s+j]?).getD .nilFunc) (.inr rfl)
   (fun x hx=>(f2 x hx).1)
   (fun i j hi hj=>by
    rw [f1] at hi
    have:(i+1)*s≤len*s:=Nat.mul_le_mul_right s hi
    rw [Nat.add_mul,Nat.one_mul] at this
    have hlt:i*s+j<es.size:=by omega
    simp [World.cell?,hlt])
   (fun i j x v hx hv=>by
    obtain⟨u,hu,hr⟩:=f6 i j x v hx hv
    rw [Nat.zero_add] at hu
    simp only [hu,Option.getD_some]
    exact hold (flat1_none (List.all_eq_true.1 (f2 x (List.mem_of_getElem? hx)).2 v (List.mem_of_getElem? hv)) hr))
   (by rw [f1];exact Nat.le_refl _) (fun _=>f1.symm)
  rw [f1] at key
  exact key
 ·refine⟨fun b hb=>by simp [Array.getElem?_push,Nat.ne_of_lt hb],by simp,rfl,rfl,⟨rfl,fun _=>Nat.le_refl _⟩,fun _ h => .inl h,fun b hb=> ?_,fun b hb=> ?_⟩
  ·rcases hb with h |rfl
   ·exact .inl h
   ·exact .inr (Nat.le_refl _)
  ·rcases hb with h |rfl
   ·have:=st.slt b h;simp;omega
   ·simp
theorem rowA_sem (st:St cx K N S μ env h a.tmps w) {t e:TypeId}{len s:Nat}{z:Value}{ps:List (Nat×AV)}{qs:Array (Nat×Value)}{rows:List (List AV)}(hd:cx.P.underlying t=some (.slice e)) (hz:cx.zero e=some z) (hs:cx.size e=some s) (hs0:0<s) (hl0:0<len) (hmax:len*s≤16777216) (hpl:ps.length=len) (hl:qs.size=ps.length) (hp:∀(j:Nat) (p:Nat×AV) (q:Nat×Value),ps[j]?=some p→qs.toList[j]?=some q→q.1=p.1∧Rep S w μ p.2 q.2) (hf:rowsP s 0 ps some=some rows):∃v μ' w',(Instr.buildSlice t len qs).run cx.P w = .ok v w'∧Rep S w' μ' (.arr h.length s 0 len) v∧St cx K N S μ' env (h++[⟨.arr,e,s,s,rows⟩]) a.tmps w':=by
 obtain⟨f1,f2,es,f3,f4,_,f6⟩:=rowsP_fill (S:=S) (w:=w) (μ:=μ) (qs:=qs.toList) (ds:=(Array.range (len*s)).map (fun i=>z.cells[i%z.cells.size]!)) hf (by simpa using hl) hp (by simp [hpl])
 have hlen:es.size=len*s:=by simpa using f4
 rw [hpl] at f1
 have hx:=st.step (w':=w.alloc (.cells es e)) (kill:=none) (o:=⟨.arr,e,s,s,rows⟩) (x:=some (w.heap.size,s,len))
  (by simp) rfl rfl ⟨rfl,fun _=>Nat.le_refl _⟩ (fun b hb _=>heap_alloc_old w _ hb) (fun r hr=>by cases hr) rfl (fun hx=>by cases hx) (fun b s' C hx=>by
   cases hx
   refine⟨rfl,.inr (Nat.le_refl _),_,heap_alloc_new w _,hlen,?_,fun i x hx=>(f2 x (List.mem_of_getElem? hx)).1,fun i j x v hx hv=> ?_⟩
   ·show rows.length*s≤es.size
    rw [f1,hlen]
    exact Nat.le_refl _
   ·obtain⟨u,hu,hr⟩:=f6 i j x v hx hv
    rw [Nat.zero_add] at hu
    refine⟨u,hu,(flat1_none (List.all_eq_true.1 (f2 x (List.mem_of_getElem? hx)).2 v (List.mem_of_getElem? hv)) hr).mono (fun _ h=>h) (fun b hb=>heap_alloc_old w _ (st.slt b hb)) fun _ _ h=>h⟩)
 refine⟨.slice (some ⟨w.heap.size,0,none⟩) len len,_,w.alloc (.cells es e),?_,?_,hx⟩
 ·have hzr:(zeroValue e).run cx.P w = .ok z w:=by
   unfold Cx.zero at hz
   obtain⟨i,h7,h8⟩:=bind_some_iff hz
   simp [zeroValue,typeInfo,h7,h8]
  have hne:¬len*s=0:=Nat.ne_of_gt (Nat.mul_pos hl0 hs0)
  have hgt:¬len*s>2 ^ 24:=by
   have:(2:Nat) ^ 24=16777216:=by decide
   omega
  unfold Instr.buildSlice
  simp [run_underlying hd,run_size hs,hne,hgt,hzr,f3,newRow]
 ·have:=Rep.arr (S:=S) (w:=w.alloc (.cells es e)) (μ:=μ.updO h.length (some (w.heap.size,s,len))) (r:=h.length) (ver:=s) (off:=0) (len:=len) w.heap.size len
   (by simp [Mu.updO,Mu.upd]) (by omega)
  simpa using this
theorem rowR_sem (st:St cx K N S μ env h a.tmps w) {t e:TypeId}{len s:Nat}{z:Value}{ps:List (Nat×AV)}{qs:Array (Nat×Value)}{rows:List (List AV)}(hd:cx.P.underlying t=some (.slice e)) (hz:cx.zero e=some z) (hs:cx.size e=some s) (hs0:0<s) (hl0:0<len) (hmax:len*s≤16777216) (hpl:ps.length=len) (hl:qs.size=ps.length) (hp:∀(j:Nat) (p:Nat×AV) (q:Nat×Value),ps[j]?=some p→qs.toList[j]?=some q→q.1=p.1∧Rep S w μ p.2 q.2) (hf:rowsR s 0 ps=some rows):∃v μ' w',(Instr.buildSlice t len qs).run cx.P w = .ok v w'∧Rep S w' μ' (.arr h.length s 0 len) v∧St cx K N S μ' env (h++[⟨.box,e,s,s,rows⟩]) a.tmps w':=by
 obtain⟨f1,f2,es,f3,f4,_,f6⟩:=rowsR_fill (S:=S) (w:=w) (μ:=μ) (qs:=qs.toList) (ds:=(Array.range (len*s)).map (fun i=>z.cells[i%z.cells.size]!)) hf (by simpa using hl) hp (by simp [hpl])
 have hlen:es.size=len*s:=by simpa using f4
 rw [hpl] at f1
 have hx:=st.allocR (o:=⟨.box,e,s,s,rows⟩) (vs:=es) (t:=e) (C:=len) rfl (by show rows.length*s≤es.size;rw [f1,hlen];exact Nat.le_refl _) (fun i x hx=>f2 x (List.mem_of_getElem? hx)) (fun i j x v hx hv=>by
  obtain⟨u,hu,hr⟩:=f6 i j x v hx hv
  rw [Nat.zero_add] at hu
  exact⟨u,hu,hr⟩)
 refine⟨.slice (some ⟨w.heap.size,0,none⟩) len len,_,w.alloc (.cells es e),?_,?_,hx⟩
 ·have hzr:(zeroValue e).run cx.P w = .ok z w:=by
   unfold Cx.zero at hz
   obtain⟨i,h7,h8⟩:=bind_some_iff hz
   simp [zeroValue,typeInfo,h7,h8]
  have hne:¬len*s=0:=Nat.ne_of_gt (Nat.mul_pos hl0 hs0)
  have hgt:¬len*s>2 ^ 24:=by
   have:(2:Nat) ^ 24=16777216:=by decide
   omega
  unfold Instr.buildSlice
  simp [run_underlying hd,run_size hs,hne,hgt,hzr,f3,newRow]
 ·have:=Rep.arr (S:=S) (w:=w.alloc (.cells es e)) (μ:=μ.upd h.length (w.heap.size,s,len)) (r:=h.length) (ver:=s) (off:=0) (len:=len) w.heap.size len
   (by simp [Mu.upd]) (by omega)
  simpa using this
theorem rowsZ_len:∀(n s:Nat) (cs:List Value),(rowsZ n s cs).length=n
 | 0,_,_=>rfl
 |n+1,s,cs=>by simp only [rowsZ,List.length_cons,rowsZ_len n]
theorem rowsZ_get:∀ {n s:Nat}{cs:List Value}{i:Nat}{x:List AV},(rowsZ n s cs)[i]?=some x→i<n∧x=((cs.drop (i*s)).take s).map .val
 | 0,_,_,i,x,h=>by simp [rowsZ] at h
 |n+1,s,cs,0,x,h=>by
  simp only [rowsZ,List.getElem?_cons_zero,Option.some.injEq] at h
  subst h
  exact⟨Nat.zero_lt_succ _,by simp⟩
 |n+1,s,cs,i+1,x,h=>by
  simp only [rowsZ,List.getElem?_cons_succ] at h
  obtain⟨h1,h2⟩:=rowsZ_get h
  refine⟨Nat.succ_lt_succ h1,?_⟩
  rw [h2,List.drop_drop,Nat.add_mul,Nat.one_mul,Nat.add_comm s]
theorem rowZ_sem (st:St cx K N S μ env h a.tmps w) {t:TypeId}{q:Nat×Nat×List Value}(hq:rowInfo cx t=some q):∃z μ',cx.zero t=some z∧Rep S (w.alloc (.cells z.cells t)) μ' (.ptr h.length q.2.1 0 0) (.pointer (some ⟨w.heap.size,0,none⟩))∧St cx K N S μ' env (h++[⟨.arr,t,q.2.1,q.2.1,rowsZ q.1 q.2.1 q.2.2⟩]) a.tmps (w.alloc (.cells z.cells t)):=by
 unfold rowInfo at hq
 obtain⟨d,hd,hq⟩:=bind_some_iff hq
 split at hq
 ·rename_i len e
  obtain⟨z,hz,hq⟩:=bind_some_iff hq
  obtain⟨s,hs,hq⟩:=bind_some_iff hq
  split at hq
  ·rename_i hlen
   cases hq
   have hlen:z.cells.size=len*s:=by simpa [zcells] using ε hlen
   have hx:=st.step (w':=w.alloc (.cells z.cells t)) (kill:=none) (o:=⟨.arr,t,s,s,rowsZ len s (zcells z)⟩) (x:=some (w.heap.size,s,len))
    (by simp) rfl rfl ⟨rfl,fun _=>Nat.le_refl _⟩ (fun b hb _=>heap_alloc_old w _ hb) (fun r hr=>by cases hr) rfl (fun hx=>by cases hx) (fun b s' C hx=>by
     cases hx
     refine⟨rfl,.inr (Nat.le_refl _),_,heap_alloc_new w _,hlen,?_,fun i x hx=> ?_,fun i j x v hx hv=> ?_⟩
     ·show(rowsZ len s (zcells z)).length*s≤z.cells.size
      rw [rowsZ_len,hlen]
      exact Nat.le_refl _
     ·obtain⟨h1,h2⟩:=rowsZ_get hx
      rw [h2,List.length_map,List.length_take,List.length_drop]
      have:(i+1)*s≤len*s:=Nat.mul_le_mul_right _ h1
      rw [Nat.add_mul,Nat.one_mul] at this
      simp only [zcells,Array.length_toList,hlen]
      show min s (len*s-i*s)=s
      omega
     ·obtain⟨h1,h2⟩:=rowsZ_get hx
      rw [h2,List.getElem?_map,List.getElem?_take] at hv
      split at hv
      ·rw [List.getElem?_drop] at hv
       cases hu:(zcells z)[i*s+j]? with
       |none=>rw [hu] at hv;cases hv
       |some u =>
        rw [hu] at hv
        cases hv
        exact⟨u,by simpa [zcells] using hu,.val _⟩
      ·cases hv)
   exact⟨z,_,hz,rep_ptr0 (sz:=s) (C:=len) (by simp [Mu.updO,Mu.upd]),hx⟩
  ·cases hq
 ·cases hq
set_option maxHeartbeats 1000000 in
theorem stepOp_wp (hF:FnSound cx F) (hO:OP cx F) (hX:ExtSound cx) (st:St cx K N S μ env h a.tmps w) {q:Bool}{o:Oper}{e:JX}{env':Env}{h':Heap}(hs:stepOp cx F N q o env h (fun e env h=>some (e,env,h))=some (e,env',h')) {next:Act→World→Prop}{Q:Exit→Act→World→Prop}(hn:e = .normal→∀S' μ' a' w',St cx K N S' μ' env' h' a'.tmps w'→a'.defers=a.defers→next a' w') (hp:e ≠ .normal→∀S' μ' a' w',St cx K N S' μ' env' h' a'.tmps w'→a'.defers=a.defers→Q e.toExit a' w'):o.wp cx.P a w next Q:=by
  obtain⟨dst,op,ty,pos,after,guard⟩:=o
  have plain:∀ {av:AV}{v:Value}{env2:Env},(execOp a.eval { dst,op,type:=ty,pos,after,guard }).run cx.P w = .ok (.value v) w→Rep S w μ av v→putK N dst av env some=some env2→St cx K N S μ env2 h (a.put dst v).tmps w :=
    fun hrun hr hp=>st.putO rfl hp hr
  unfold stepOp at hs
  split at hs
  · -- a variable
    rename_i t hop
    try simp only at hop
    subst hop
    cases hrw:cx.rows t with
    | true =>
      rw [hrw,cond_true] at hs
      cases q with
      |true=>cases hs
      | false =>
        rw [cond_false] at hs
        obtain⟨qq,h1,hs⟩:=bind_some_iff hs
        obtain⟨env2,h3,h4⟩:=(putK_pk _ _ _ _).some hs
        cases h3
        obtain⟨z,μ',r1,r2,r3⟩:=rowZ_sem st h1
        unfold Oper.wp
        have hz:(zeroValue t).run cx.P w = .ok z w:=by
          unfold Cx.zero at r1
          obtain⟨i,h5,h6⟩:=bind_some_iff r1
          simp [zeroValue,typeInfo,h5,h6]
        have hrun:(execOp a.eval { dst:=dst,op := .alloc t,type:=ty,pos:=pos,after:=after,guard:=guard }).run cx.P w =
            .ok (.value (.pointer (some ⟨w.heap.size,0,none⟩))) (w.alloc (.cells z.cells t)):=by
          simp [execOp,Instr.alloc,hz,newVar,newRow]
        rw [hrun]
        exact hn rfl _ _ _ _ (r3.putO rfl h4 r2) putK_defers
    |false =>
    rw [hrw,cond_false] at hs
    obtain⟨z,h1,hs⟩:=bind_some_iff hs
    obtain⟨n,h2,hs⟩:=bind_some_iff hs
    split at hs
    · rename_i hlen
      obtain⟨env2,h3,h4⟩:=(putK_pk _ _ _ _).some hs
      cases h3
      have hn0:=ε hlen
      have st2:=st.alloc (o:=⟨.box,t,n,0,[(zcells z).map .val]⟩) (vs:=z.cells) (t:=t) rfl ⟨_,rfl,by simpa using hn0,by simpa [zcells] using reps_vals (S:=S) (w:=w) (μ:=μ) z.cells.toList⟩
      unfold Oper.wp
      have hz:(zeroValue t).run cx.P w = .ok z w:=by
        unfold Cx.zero at h1
        obtain⟨i,h5,h6⟩:=bind_some_iff h1
        simp [zeroValue,typeInfo,h5,h6]
      have hrun:(execOp a.eval { dst:=dst,op := .alloc t,type:=ty,pos:=pos,after:=after,guard:=guard }).run cx.P w =
          .ok (.value (.pointer (some ⟨w.heap.size,0,none⟩))) { w with heap:=w.heap.push (.cells z.cells t) }:=by
        simp [execOp,Instr.alloc,hz,newVar,newRow]
      rw [hrun]
      refine hn rfl _ _ _ _ (st2.putO rfl h4 ?_) putK_defers
      exact rep_ptr0 Mu.upd_self
    · cases hs
  · rename_i t x hop
    try simp only at hop
    subst hop
    obtain⟨v,h1,hs⟩:=bind_some_iff hs
    obtain⟨env2,h3,h4⟩:=(putK_pk _ _ _ _).some hs
    cases h3
    have hr:=opnd_sem st.env st.g h1
    have st2:=st.alloc (o:=⟨.box,t,v.cells.length,0,[v.cells]⟩) (vs:=(a.eval x).cells) (t:=t) rfl ⟨_,rfl,rfl,hr.cells⟩
    unfold Oper.wp
    have hrun:(execOp a.eval { dst:=dst,op := .box t x,type:=ty,pos:=pos,after:=after,guard:=guard }).run cx.P w =
        .ok (.value (.pointer (some ⟨w.heap.size,0,none⟩))) { w with heap:=w.heap.push (.cells (a.eval x).cells t) }:=by
      simp [execOp,Instr.box,newVar,newRow]
    rw [hrun]
    refine hn rfl _ _ _ _ (st2.putO rfl h4 ?_) putK_defers
    exact rep_ptr0 Mu.upd_self
  · rename_i t p x hop
    try simp only at hop
    subst hop
    obtain⟨pv,h1,hs⟩:=bind_some_iff hs
    obtain⟨xv,h2,hs⟩:=bind_some_iff hs
    obtain⟨h2',h3,h4⟩:=(storeV_pk _ _ _ _ _).some hs
    obtain⟨env2,h5,h6⟩:=(putK_pk _ _ _ _).some h3
    cases h5
    obtain⟨w',h7,st2⟩:=storeV_sem st (opnd_sem st.env st.g h1) (opnd_sem st.env st.g h2) h4
    unfold Oper.wp
    have hrun:(execOp a.eval { dst:=dst,op := .store t p x,type:=ty,pos:=pos,after:=after,guard:=guard }).run cx.P w = .ok .skip w':=by
      simp [execOp,h7]
    rw [hrun]
    exact hn rfl _ _ _ _ (st2.putO rfl h6 (.val undef)) putK_defers
  · rename_i t len parts hop
    try simp only at hop
    subst hop
    cases hth:cx.thaw dst t with
    | true =>
      simp only [hth,cond_true] at hs
      cases q with
      |true=>cases hs
      | false =>
        simp only [cond_false] at hs
        unfold buildT at hs
        cases hpt:cx.ptrs t with
        | true =>
          rw [hpt] at hs
          simp only [cond_true] at hs
          obtain⟨d,h1,hs⟩:=bind_some_iff hs
          split at hs
          · rename_i e
            obtain⟨z,h2,hs⟩:=bind_some_iff hs
            obtain⟨s,h3,hs⟩:=bind_some_iff hs
            obtain⟨ps,h4,hs⟩:=bind_some_iff hs
            split at hs
            · rename_i hc
              simp only [Bool.and_eq_true] at hc
              obtain⟨c2,c3,c4,c5⟩:=hc
              obtain⟨rows,h6,hs⟩:=bind_some_iff hs
              obtain⟨env2,h8,h9⟩:=(putK_pk _ _ _ _).some hs
              cases h8
              obtain⟨hpl,hpp⟩:=parts_sem st.env st.g h4
              obtain⟨v,μ',w',r1,r2,r3⟩:=rowR_sem st (qs:=parts.map fun(i,x)=>(i,a.eval x)) h1 h2 h3 (by simpa using c2) (by simpa using c3) (Nat.le_of_ble_eq_true c4) (ε c5) (by simpa using hpl)
                (fun j p q hp hq=>hpp j p q hp (by simpa using hq)) h6
              unfold Oper.wp
              have hrun:(execOp a.eval { dst:=dst,op := .buildSlice t len parts,type:=ty,pos:=pos,after:=after,guard:=guard }).run cx.P w = .ok (.value v) w':=by
                simp only [execOp]
                simp [r1]
              rw [hrun]
              exact hn rfl _ _ _ _ (r3.putO rfl h9 r2) putK_defers
            · cases hs
          · cases hs
        |false =>
        rw [hpt] at hs
        simp only [cond_false] at hs
        obtain⟨d,h1,hs⟩:=bind_some_iff hs
        split at hs
        · rename_i e
          obtain⟨z,h2,hs⟩:=bind_some_iff hs
          obtain⟨s,h3,hs⟩:=bind_some_iff hs
          obtain⟨ps,h4,hs⟩:=bind_some_iff hs
          obtain⟨⟨hh,ps'⟩,h5,hs⟩:=bind_some_iff hs
          split at hs
          · rename_i hc
            simp only [Bool.and_eq_true] at hc
            obtain⟨c1,c2,c3,c4,c5⟩:=hc
            obtain⟨rows,h6,h7⟩:=(rowsP_pk _ _ _).some hs
            obtain⟨env2,h8,h9⟩:=(putK_pk _ _ _ _).some h6
            cases h8
            obtain⟨hpl,hpp⟩:=parts_sem st.env st.g h4
            obtain⟨S1,st1,g1,g2,g3⟩:=thawPs_sem st (qs:=parts.toList.map fun(i,x)=>(i,a.eval x)) (by simpa using hpl) (fun j p q hp hq=>hpp j p q hp (by simpa using hq)) h5
            obtain⟨v,S',w',r1,r2,r3⟩:=row_sem st1 (qs:=parts.map fun(i,x)=>(i,a.eval x)) h1 h2 h3 (ε c1) (by simpa using c2) (by simpa using c3) (Nat.le_of_ble_eq_true c4) (ε c5) (by simpa using g2)
              (fun j p q hp hq=>g3 j p q hp (by simpa using hq)) h7
            unfold Oper.wp
            have hrun:(execOp a.eval { dst:=dst,op := .buildSlice t len parts,type:=ty,pos:=pos,after:=after,guard:=guard }).run cx.P w = .ok (.value v) w':=by
              simp only [execOp]
              simp [r1]
            rw [hrun]
            exact hn rfl _ _ _ _ ((st1.grown r3).putO rfl h9 r2) putK_defers
          · cases hs
        · cases hs
    |false =>
    simp only [hth,cond_false] at hs
    obtain⟨d,h1,hs⟩:=bind_some_iff hs
    split at hs
    · rename_i e
      obtain⟨z,h2,hs⟩:=bind_some_iff hs
      obtain⟨s,h3,hs⟩:=bind_some_iff hs
      obtain⟨ps,h4,hs⟩:=bind_some_iff hs
      split at hs
      · rename_i hc
        simp only [Bool.and_eq_true] at hc
        obtain⟨c1,c2,c3,c4,c5⟩:=hc
        obtain⟨rows,h5,h6⟩:=(rowsP_pk _ _ _).some hs
        obtain⟨hpl,hpp⟩:=parts_sem st.env st.g h4
        cases hmk:cx.made dst t with
        | true =>
          cases q with
          |true=>simp only [hmk,cond_true] at h5;cases h5
          | false =>
            simp only [hmk,cond_true,cond_false] at h5
            obtain⟨env2,h7,h8⟩:=(putK_pk _ _ _ _).some h5
            cases h7
            obtain⟨v,μ',w',r1,r2,r3⟩:=rowA_sem st (qs:=parts.map fun(i,x)=>(i,a.eval x)) h1 h2 h3 (by simpa using c2) (by simpa using c3) (Nat.le_of_ble_eq_true c4) (ε c5) (by simpa using hpl)
              (fun j p q hp hq=>hpp j p q hp (by simpa using hq)) h6
            unfold Oper.wp
            have hrun:(execOp a.eval { dst:=dst,op := .buildSlice t len parts,type:=ty,pos:=pos,after:=after,guard:=guard }).run cx.P w = .ok (.value v) w':=by
              simp only [execOp]
              simp [r1]
            rw [hrun]
            exact hn rfl _ _ _ _ (r3.putO rfl h8 r2) putK_defers
        |false =>
        simp only [hmk,cond_false] at h5
        obtain⟨env2,h7,h8⟩:=(putK_pk _ _ _ _).some h5
        cases h7
        obtain⟨v,S',w',r1,r2,r3⟩:=row_sem st (qs:=parts.map fun(i,x)=>(i,a.eval x)) h1 h2 h3 (ε c1) (by simpa using c2) (by simpa using c3) (Nat.le_of_ble_eq_true c4) (ε c5) (by simpa using hpl)
          (fun j p q hp hq=>hpp j p q hp (by simpa using hq)) h6
        unfold Oper.wp
        have hrun:(execOp a.eval { dst:=dst,op := .buildSlice t len parts,type:=ty,pos:=pos,after:=after,guard:=guard }).run cx.P w = .ok (.value v) w':=by
          simp only [execOp]
          simp [r1]
        rw [hrun]
        exact hn rfl _ _ _ _ ((st.grown r3).putO rfl h8 r2) putK_defers
      · cases hs
    · cases hs
  · rename_i t l n hop
    try simp only at hop
    subst hop
    obtain⟨lv,h1,hs⟩:=bind_some_iff hs
    obtain⟨nv,h2,hs⟩:=bind_some_iff hs
    obtain⟨⟨av,h1'⟩,h3,h4⟩:=(makeV_pk cx t lv nv h) _ (fun x=>putK N dst x.1 env fun env=>some (JX.normal,env,x.2)) _ hs
    obtain⟨env2,h5,h6⟩:=(putK_pk _ _ _ _).some h3
    cases h5
    obtain⟨r,w',μ',g1,g2,g3⟩:=makeV_sem st (opnd_sem st.env st.g h1) (opnd_sem st.env st.g h2) (h4 _ some)
    unfold Oper.wp
    have hrun:(execOp a.eval { dst:=dst,op := .makeSlice t l n,type:=ty,pos:=pos,after:=after,guard:=guard }).run cx.P w = .ok (.value r) w':=by
      simp [execOp,g1]
    rw [hrun]
    exact hn rfl _ _ _ _ (g3.putO rfl h6 g2) putK_defers
  · rename_i args ts hop
    try simp only at hop
    subst hop
    obtain⟨vs,h2,hs⟩:=bind_some_iff hs
    obtain⟨⟨av,h1'⟩,h3,h4⟩:=(bins_pk cx .append ts.toList vs h) _ (fun x=>putK N dst x.1 env fun env=>some (JX.normal,env,x.2)) _ hs
    obtain⟨env2,h5,h6⟩:=(putK_pk _ _ _ _).some h3
    cases h5
    obtain⟨r,w',μ',g1,g2,g3⟩:=bins_sem st (us:=args.map a.eval) (by simpa using opnds_sem st.env st.g h2) (h4 _ some) ty (args.map fun | .const _=>true | _=>false)
    unfold Oper.wp
    have hrun:(execOp a.eval { dst:=dst,op := .call { callee := .builtin .append,args,argTypes:=ts },type:=ty,pos:=pos,after:=after,guard:=guard }).run cx.P w = .ok (.value r) w':=by
      simp [execOp,resolve,invoke]
      exact g1
    rw [hrun]
    exact hn rfl _ _ _ _ (g3.putO rfl h6 g2) putK_defers
  · rename_i args ts hop
    try simp only at hop
    subst hop
    obtain⟨vs,h2,hs⟩:=bind_some_iff hs
    obtain⟨⟨av,h1'⟩,h3,h4⟩:=(bins_pk cx .copy ts.toList vs h) _ (fun x=>putK N dst x.1 env fun env=>some (JX.normal,env,x.2)) _ hs
    obtain⟨env2,h5,h6⟩:=(putK_pk _ _ _ _).some h3
    cases h5
    obtain⟨r,w',μ',g1,g2,g3⟩:=bins_sem st (us:=args.map a.eval) (by simpa using opnds_sem st.env st.g h2) (h4 _ some) ty (args.map fun | .const _=>true | _=>false)
    unfold Oper.wp
    have hrun:(execOp a.eval { dst:=dst,op := .call { callee := .builtin .copy,args,argTypes:=ts },type:=ty,pos:=pos,after:=after,guard:=guard }).run cx.P w = .ok (.value r) w':=by
      simp [execOp,resolve,invoke]
      exact g1
    rw [hrun]
    exact hn rfl _ _ _ _ (g3.putO rfl h6 g2) putK_defers
  · rename_i args ts hop
    try simp only at hop
    subst hop
    obtain⟨vs,h2,hs⟩:=bind_some_iff hs
    obtain⟨⟨av,h1'⟩,h3,h4⟩:=(bins_pk cx .clear ts.toList vs h) _ (fun x=>putK N dst x.1 env fun env=>some (JX.normal,env,x.2)) _ hs
    obtain⟨env2,h5,h6⟩:=(putK_pk _ _ _ _).some h3
    cases h5
    obtain⟨r,w',μ',g1,g2,g3⟩:=bins_sem st (us:=args.map a.eval) (by simpa using opnds_sem st.env st.g h2) (h4 _ some) ty (args.map fun | .const _=>true | _=>false)
    unfold Oper.wp
    have hrun:(execOp a.eval { dst:=dst,op := .call { callee := .builtin .clear,args,argTypes:=ts },type:=ty,pos:=pos,after:=after,guard:=guard }).run cx.P w = .ok (.value r) w':=by
      simp [execOp,resolve,invoke]
      exact g1
    rw [hrun]
    exact hn rfl _ _ _ _ (g3.putO rfl h6 g2) putK_defers
  · rename_i fo args ts hop
    try simp only at hop
    subst hop
    obtain⟨fv,h1,hs⟩:=bind_some_iff hs
    obtain⟨vs,h2,hs⟩:=bind_some_iff hs
    obtain⟨⟨e1,av,h1'⟩,h3,h4⟩:=(callX_pkl (G:=fun _=>F) (fun _ _ _ r hr=>⟨0,fun _ _=>hr⟩) cx _ _ ty fv vs h) _ (fun x=>match x.1 with
      | .normal=>putK N dst x.2.1 env fun env=>some (JX.normal,env,x.2.2)
      |e=>some (e,env,x.2.2)) _ hs
    obtain⟨fn,first,cap,f,vals,e1',e2,e3⟩:=callX_sem hF hO hX st (opnd_sem st.env st.g h1) (opnds_sem st.env st.g h2) (h4.1 _ some)
    unfold Oper.wp
    have hrun:(execOp a.eval { dst:=dst,op := .call { callee := .value fo,args,argTypes:=ts },type:=ty,pos:=pos,after:=after,guard:=guard }).run cx.P w = .ok (.enter f vals) w:=by
      simp only [execOp,resolve,e1',Deferred.ofValue,Sem.run_bind,Sem.run_pure,Result.andThen_ok]
      have:(args.map a.eval)=(args.toList.map a.eval).toArray:=by apply Array.ext';simp
      rw [this]
      exact e2
    rw [hrun]
    refine e3.mono fun en w' hres=> ?_
    cases e1 with
    | normal =>
      obtain⟨cv,S',μ',h8,h9,h10⟩:=hres
      simp only at h3
      obtain⟨env2,h5,h6⟩:=(putK_pk _ _ _ _).some h3
      cases h5
      subst h8
      exact hn rfl _ _ _ _ (h10.putO rfl h6 h9) putK_defers
    | _ =>
      obtain⟨ch,S',μ',h8,h9,h10⟩:=hres
      cases h3
      subst h8
      first
        | (cases h9;done)
        | (have:=hp (by simp) S' μ' a w' h10 rfl
           rw [h9] at this
           exact this)
  · rename_i x hop
    try simp only at hop
    subst hop
    obtain⟨v,h1,hs⟩:=bind_some_iff hs
    split at hs
    · rename_i t y
      cases hq:(q|| !y.ground) with
      |true=>rw [hq] at hs;cases hs
      | false =>
        rw [hq] at hs
        cases hs
        simp only [Bool.or_eq_false_iff,Bool.not_eq_false'] at hq
        have hr:=opnd_sem st.env st.g h1
        unfold Oper.wp
        cases hev:a.eval x with
        | iface t' u =>
          rw [hev] at hr
          cases hr with
          | iface hx =>
            have hu:=ground_toV hq.2 hx
            have hrun:(execOp a.eval { dst:=dst,op := .panic x,type:=ty,pos:=pos,after:=after,guard:=guard }).run cx.P w = .halt (.panic (.iface t u)) w:=by
              simp [execOp,hev,Instr.panic]
            rw [hrun]
            have:=hp (by simp) S μ a w st rfl
            rw [JX.toExit,AV.toV,←hu] at this
            exact this
        | _=>rw [hev] at hr;cases hr
    · cases hs
  · obtain ⟨av, h3, h4⟩ := (evalA_pk _ _ _ _).some hs
    obtain⟨env2,h5,h6⟩:=(putK_pk _ _ _ _).some h3
    cases h5
    obtain⟨v,h7,h8⟩:=evalA_sem st.env st.g st.heap (o:= { dst,op,type:=ty,pos,after,guard }) h4
    unfold Oper.wp
    rw [h8 w (Ext.refl w)]
    exact hn rfl _ _ _ _ (st.putO rfl h6 h7) putK_defers
theorem yielded_of {ops:Array Oper}{j d:Nat}{v:Value}(hd:gslot ops j=some d) (hv:a.tmps[d]?=some v):yielded ops a.tmps j=match v with | .bool b=>some b | _=>none:=by
 unfold gslot at hd
 unfold yielded
 rw [hd]
 simp only [Option.bind_some,hv]
 cases v<;>rfl
theorem getD_some {tmps:Array Value}{d:Nat}{v:Value}(h:tmps.getD d undef=v) (hv:v≠undef):tmps[d]?=some v:=by
 rw [Array.getD_eq_getD_getElem?] at h
 cases hx:tmps[d]? with
 |none=>rw [hx] at h;exact absurd h.symm hv
 |some x=>rw [hx] at h;simp at h;rw [h]
theorem runOps_wpA (hF:FnSound cx F) (hO:OP cx F) (hX:ExtSound cx) {q:Bool}{ops:Array Oper}{Q:Exit→Act→World→Prop}(tl:List Oper):∀ {l:List Oper}{S:Nat→Prop}{μ:Mu}{env:Env}{h:Heap}{a:Act}{w:World}{e:JX}{env':Env}{h':Heap},St cx K N S μ env h a.tmps w →
  runOps cx F N q ops l env h (fun e env h=>some (e,env,h))=some (e,env',h')→(e = .normal→∀S' μ' a' w',St cx K N S' μ' env' h' a'.tmps w'→a'.defers=a.defers→wpList cx.P ops Q tl a' w')→(e ≠ .normal→∀S' μ' a' w',St cx K N S' μ' env' h' a'.tmps w'→a'.defers=a.defers→Q e.toExit a' w')→wpList cx.P ops Q (l++tl) a w
 | [],S,μ,env,h,a,w,e,env',h',st,hr,hn,hp=>by
  simp only [runOps] at hr
  cases hr
  exact hn rfl S μ a w st rfl
 |o::rest,S,μ,env,h,a,w,e,env',h',st,hr,hn,hp=>by
  simp only [runOps] at hr
  rw [List.cons_append]
  unfold wpList
  have one:∀ {e1:JX}{env1:Env}{h1:Heap},stepOp cx F N q o env h (fun e env h=>some (e,env,h))=some (e1,env1,h1)→(match e1 with
    | .normal=>runOps cx F N q ops rest env1 h1 fun e env h=>some (e,env,h)
    |e=>some (e,env1,h1))=some (e,env',h')→o.wp cx.P a w (wpList cx.P ops Q (rest++tl)) Q:=fun {e1 env1 h1} g1 g2=>by
   cases e1 with
   |normal=>exact stepOp_wp hF hO hX st g1 (fun _ S' μ' a' w' st' hd=>runOps_wpA hF hO hX tl st' g2 (fun he S'' μ'' a'' w'' st'' hd'=>hn he S'' μ'' a'' w'' st'' (hd'.trans hd)) fun he S'' μ'' a'' w'' st'' hd'=>hp he S'' μ'' a'' w'' st'' (hd'.trans hd)) fun hne=>absurd rfl hne
   | _=>cases g2;exact stepOp_wp hF hO hX st g1 (fun he=>by cases he) hp
  have skip:∀ {env1:Env},putK N o.dst (.val undef) env some=some env1→runOps cx F N q ops rest env1 h (fun e env h=>some (e,env,h))=some (e,env',h')→wpList cx.P ops Q (rest++tl) (a.put o.dst undef) w:=fun h1 h2 =>
   runOps_wpA hF hO hX tl (st.putO rfl h1 (.val undef)) h2 (fun he S'' μ'' a'' w'' st'' hd'=>hn he S'' μ'' a'' w'' st'' (hd'.trans putK_defers)) fun he S'' μ'' a'' w'' st'' hd'=>hp he S'' μ'' a'' w'' st'' (hd'.trans putK_defers)
  split at hr
  ·rename_i hg
   obtain⟨⟨e1,env1,h1⟩,h2,h3,_⟩:=stepOp_pkl (G:=fun _=>F) (fun _ _ _ r hr=>⟨0,fun _ _=>hr⟩) cx N q o env h _ (fun x=>match x.1 with
    | .normal=>runOps cx F N q ops rest x.2.1 x.2.2 fun e env h=>some (e,env,h)
    |e=>some (e,x.2.1,x.2.2)) _ hr
   have hw:Region.wanted o (yielded ops a.tmps)=true:=by unfold Region.wanted;rw [hg]
   rw [if_pos hw]
   exact .inl (one (h3 _ fun x=>some x) h2)
  ·rename_i j want hg
   obtain⟨d,h1,hr⟩:=bind_some_iff hr
   obtain⟨v,h2,hr⟩:=bind_some_iff hr
   have hrep:=st.env d v h2
   split at hr
   ·rename_i b
    have hb:a.tmps[d]?=some (.bool b):=getD_some hrep.inv_val (by simp [undef])
    have hw:Region.wanted o (yielded ops a.tmps)=(b==want):=by
     unfold Region.wanted
     rw [hg]
     simp only [yielded_of h1 hb]
     cases b<;>cases want<;>rfl
    cases hbw:(b==want) with
    |true =>
     rw [hbw] at hr hw
     simp only [cond_true] at hr
     rw [if_pos hw]
     obtain⟨⟨e1,env1,h1⟩,h2,h3,_⟩:=stepOp_pkl (G:=fun _=>F) (fun _ _ _ r hr=>⟨0,fun _ _=>hr⟩) cx N q o env h _ (fun x=>match x.1 with
    | .normal=>runOps cx F N q ops rest x.2.1 x.2.2 fun e env h=>some (e,env,h)
    |e=>some (e,x.2.1,x.2.2)) _ hr
     exact .inl (one (h3 _ fun x=>some x) h2)
    |false =>
     rw [hbw] at hr hw
     simp only [cond_false] at hr
     rw [if_neg (by rw [hw];simp)]
     obtain⟨env1,h3,h4⟩:=(putK_pk _ _ _ _).some hr
     exact skip h4 h3
   ·rename_i us
    have hne:Region.wanted o (yielded ops a.tmps)=false:=by
     unfold Region.wanted
     rw [hg]
     have:yielded ops a.tmps j=none:=by
      unfold gslot at h1
      unfold yielded
      rw [h1]
      simp only [Option.bind_some]
      have h5:=hrep.inv_val
      rw [Array.getD_eq_getD_getElem?] at h5
      cases hx:a.tmps[d]? with
      |none=>rfl
      |some x=>rw [hx] at h5;simp at h5;rw [h5]
     simp only [this]
     rfl
    rw [if_neg (by rw [hne];simp)]
    obtain⟨env1,h3,h4⟩:=(putK_pk _ _ _ _).some hr
    exact skip h4 h3
   ·cases hr
theorem runOps_wp (hF:FnSound cx F) (hO:OP cx F) (hX:ExtSound cx) {q:Bool}{ops:Array Oper}{Q:Exit→Act→World→Prop}{l:List Oper}{S:Nat→Prop}{μ:Mu}{env:Env}{h:Heap}{a:Act}{w:World}{e:JX}{env':Env}{h':Heap}(st:St cx K N S μ env h a.tmps w) (hr:runOps cx F N q ops l env h (fun e env h=>some (e,env,h))=some (e,env',h')) (hq:∀S' μ' a' w',St cx K N S' μ' env' h' a'.tmps w'→a'.defers=a.defers→Q e.toExit a' w'):wpList cx.P ops Q l a w:=by
 have:=runOps_wpA hF hO hX (Q:=Q) [] st hr (fun he=>by subst he;exact hq) fun _=>hq
 rwa [List.append_nil] at this
end
end Go.Proofs.Av
