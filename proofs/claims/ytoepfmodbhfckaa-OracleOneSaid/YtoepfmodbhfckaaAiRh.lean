/- Parts of a function's code, run by themselves. -/
import Derived.Test.YtoepfmodbhfckaaAiX
import Derived.KernelRfl
import Derived.Maps.OwnSet
import Derived.ScopeJumps
namespace Go.Proofs.Av
open Go
open Option renaming bind→Ω
open Go.IntKind renaming i64→ı
open Go.IntKind renaming wrap→ω
open List renaming length→ℓ
open Option renaming bind_some→χ
def piece (cx:Cx) (F:EF) (f N:Nat) (bd:Option Code) (p:List Bool) (ls:List Nat) (env:Env) (h:Heap):Option (JX×List AV×Heap) :=
 bd.bind fun bd=>(sub p bd).bind fun c=>run cx F f N c p env h fun e env h=>(getAll env ls).bind fun vs=>some (e,vs,h)
def pieceF (cx:Cx) (F:EF) (f N:Nat) (bd:Option Code) (p:List Bool) (ls:List Nat) (env:Env) (h:Heap):Option (JX×List AV×Heap) :=
 bd.bind fun bd=>(sub p bd).bind fun c=>runF cx F f N c p env h fun e env h=>getF env ls fun vs=>some (e,vs,h)
theorem piece_eq (cx:Cx) (F:EF) (f N:Nat) (bd:Option Code) (p:List Bool) (ls:List Nat) (env:Env) (h:Heap):piece cx F f N bd p ls env h=pieceF cx F f N bd p ls env h:=by
 unfold piece pieceF
 congr 1
 funext bd
 congr 1
 funext c
 rw [runF_eq]
 congr 1
 funext e env h
 rw [getF_eq]
def opsAt:Code→Array Oper
 | .region _ ops false=>ops
 | _=> #[]
def pieceO (cx:Cx) (F:EF) (N:Nat) (bd:Option Code) (p:List Bool) (i n:Nat) (ls:List Nat) (env:Env) (h:Heap):Option (JX×List AV×Heap) :=
 bd.bind fun bd=>(sub p bd).bind fun c=>opersF cx F N false (opsAt c) (((opsAt c).toList.drop i).take n) env h fun e env h=>getF env ls fun vs=>some (e,vs,h)
def noRule:Rule:=⟨fun _ _=>none,fun F Gn _ args v hv=>by cases hv⟩
noncomputable def cx0:Cx:= { cx with ext:=fun _=>none,ovr:=fun _=>none,rul:=fun f=>(rulT f).map fun _=>noRule }
theorem cx0_ext:ExtSound cx0:=by
 refine⟨fun f e h=>(by cases h),fun f G h=>(by cases h),fun f ru h F hF args v hv=> ?_⟩
 have h':(rulT f).map (fun _=>noRule)=some ru:=h
 cases hr:rulT f with
 |none=>rw [hr] at h';cases h'
 |some x=>rw [hr] at h';cases h';cases hv
theorem not_quiet:¬ ∀f,cx.ovr f=none∧(cx.rul f).isNone=true:=fun h=>by
 have h1:=(h 138).2
 have h2:(cx.rul 138).isNone=false:=by kernel_rfl
 rw [h2] at h1
 cases h1
theorem not_quiet0:¬ ∀f,cx0.ovr f=none∧(cx0.rul f).isNone=true:=fun h=>by
 have h1:=(h 138).2
 have h2:(cx0.rul 138).isNone=false:=by kernel_rfl
 rw [h2] at h1
 cases h1
theorem Grown.down {S S':Nat→Prop}{w w':World}(h:Grown cx S w S' w'):Grown cx0 S w S' w':=⟨h.ext,h.le,h.os,h.tape,⟨h.output.out,fun hq=>absurd hq not_quiet0⟩,h.sub,h.new,h.lt⟩
theorem Grown.up {S S':Nat→Prop}{w w':World}(h:Grown cx0 S w S' w'):Grown cx S w S' w':=⟨h.ext,h.le,h.os,h.tape,⟨h.output.out,fun hq=>absurd hq not_quiet⟩,h.sub,h.new,h.lt⟩
theorem post_up {S:Nat→Prop}{w:World}{v:AV}{e:Ending}{w':World}(h:Post cx0 S w v e w'):Post cx S w v e w':=by
 obtain⟨cv,S',h1,h2,h3⟩:=h
 exact⟨cv,S',h1,h2,h3.up⟩
def rets (F:EF):EF:=fun key args h=>match key with
 | .fn f=>match F (.fn f) args h with
  |some (.ret v,[])=>some (.ret v,[])
  | _=>none
 | _=>none
theorem rets_ret {F:EF}{f:FuncId}{args:List AV}{v:AV}(h:F (.fn f) args []=some (.ret v,[])):rets F (.fn f) args []=some (.ret v,[]):=by
 unfold rets
 simp only [h]
theorem rets_inv {F:EF}{f:FuncId}{args:List AV}{h:Heap}{r:Out×Heap}(hr:rets F (.fn f) args h=some r):∃v,r=(.ret v,[])∧F (.fn f) args h=some (.ret v,[]):=by
 have hr':(match F (.fn f) args h with
  |some (.ret v,[])=>some (.ret v,[])
  | _=>none)=some r:=hr
 split at hr'
 ·rename_i v h1
  have:=Option.some.inj hr'
  exact⟨v,this.symm,h1⟩
 ·exact absurd hr' (by simp)
theorem rets_fn {F:EF}(hF:FnSound cx F):FnSound cx0 (rets F):=by
 intro f args v h
 obtain⟨v',h1,h2⟩:=rets_inv h
 cases h1
 obtain⟨g1,g2⟩:=hF f args v h2
 exact⟨g1,fun S w vals hS hG hr=>(g2 S w vals hS hG hr).mono fun e w' ⟨cv,S',q1,q2,q3⟩=>⟨cv,S',q1,q2,q3.down⟩⟩
theorem rets_op (F:EF):OP cx0 (rets F):=by
 refine⟨fun f args h v h' hr=> ?_,fun f args v hr=> ?_,fun f args v hr=> ?_⟩
 ·have hr':(none:Option (Out×Heap))=some (.ret v,h'):=hr
  cases hr'
 ·obtain⟨v',h1,_⟩:=rets_inv hr
  cases h1
 ·have hr':(none:Option (Out×Heap))=some _:=hr
  cases hr'
theorem rets_loop (F:EF):LoopSound cx0 (rets F):=by
 intro f fn bd b var inv p _ _ _ _ _ args h e vs h' hr
 have hr':(none:Option (Out×Heap))=some _:=hr
 cases hr'
theorem piece_wp {F:EF}(hF:FnSound cx F) {K:Kf}{D:List Deferred}{f:FuncId}{fn:Func}{bd code:Code}(hfn:cx.P.funcs[f]?=some fn) (hbd:fn.body=some bd) {p:List Bool}(hp:sub p bd=some code) (hK:∀r x,K.fix r=some x→r<cx0.held f) {S:Nat→Prop}{μ:Mu}{env:Env}{h:Heap}{a:Act}{w:World}(st:St cx0 K fn.ntmps S μ env h a.tmps w) (hd:a.defers=D) {ls:List Nat}{e:JX}{vs:List AV}{h':Heap}(hr:pieceF cx0 (rets F) f fn.ntmps fn.body p ls env h=some (e,vs,h')):code.wp cx.P (fun X a' w'=>X=e.toExit∧a'.defers=D∧∃S' μ',St cx0 K fn.ntmps S' μ' (ls.zip vs) h' a'.tmps w') a w:=by
 rw [←piece_eq] at hr
 unfold piece at hr
 rw [hbd,χ,hp,χ] at hr
 obtain⟨⟨e1,env1,h1⟩,h2,h3,_⟩:=run_pkl (F:=rets F) (G:=fun _=>rets F) (fun _ _ _ r hr=>⟨0,fun _ _=>hr⟩) cx0 f fn.ntmps code p env h _ (fun z=>(getAll z.2.1 ls).bind fun vs=>some (z.1,vs,z.2.2)) _ hr
 obtain⟨vs',h4,h5⟩:=bind_some_iff h2
 cases h5
 refine wp_mono (run_wp (rets_fn hF) (rets_op F) cx0_ext (rets_loop F) hK hfn hbd code hp st hd (h3 _ fun z=>some z)) fun X a' w' ⟨g1,g2,S',μ',g3⟩=>⟨g1,g2,S',μ',g3.envSub fun t v hv=> ?_⟩
 obtain⟨i,q1,q2⟩:=look_zip hv
 exact⟨v,(getAll_spec h4).2 i t v q1 q2,Wk.refl _⟩
end Go.Proofs.Av
/-A map that is a set of numbers,kept by a call to itself,beside what the evaluator knows. -/
namespace Go.Proofs.Av
open Go
open Option renaming bind→Ω
open Go.IntKind renaming i64→ı
open Go.IntKind renaming wrap→ω
open List renaming length→ℓ
open Option renaming bind_some→χ
theorem pieceO_wp {F:EF}(hF:FnSound cx F) {K:Kf}{fn:Func}{bd:Code}(hbd:fn.body=some bd) {p:List Bool}{id:Nat}{ops:Array Oper}(hp:sub p bd=some (.region id ops false)) {S:Nat→Prop}{μ:Mu}{env:Env}{h:Heap}{a:Act}{w:World}(st:St cx0 K fn.ntmps S μ env h a.tmps w) {i n:Nat}{ls:List Nat}{e:JX}{vs:List AV}{h':Heap}(hr:pieceO cx0 (rets F) fn.ntmps fn.body p i n ls env h=some (e,vs,h')) {tl:List Oper}{Q:Exit→Act→World→Prop}(he:e = .normal) (hQ:∀S' μ' a' w',a'.defers=a.defers→St cx0 K fn.ntmps S' μ' (ls.zip vs) h' a'.tmps w'→wpList cx.P ops Q tl a' w'):wpList cx.P ops Q ((ops.toList.drop i).take n++tl) a w:=by
 unfold pieceO at hr
 rw [hbd,χ,hp,χ,opersF_eq] at hr
 have hr':runOps cx0 (rets F) fn.ntmps false ops ((ops.toList.drop i).take n) env h (fun e env h=>getF env ls fun vs=>some (e,vs,h))=some (e,vs,h'):=hr
 obtain⟨⟨e1,env1,h1⟩,h2,h3,_⟩:=runOps_pkl (F:=rets F) (G:=fun _=>rets F) (fun _ _ _ r hr=>⟨0,fun _ _=>hr⟩) cx0 fn.ntmps false ops ((ops.toList.drop i).take n) env h _ (fun z=>getF z.2.1 ls fun vs=>some (z.1,vs,z.2.2)) _ hr'
 rw [getF_eq] at h2
 obtain⟨vs',h4,h5⟩:=bind_some_iff h2
 cases h5
 refine runOps_wpA (rets_fn hF) (rets_op F) cx0_ext tl st (h3 _ fun z=>some z) (fun _ S' μ' a' w' st' hd=>hQ S' μ' a' w' hd (st'.envSub fun t v hv=> ?_)) fun hne=>absurd he hne
 obtain⟨i,q1,q2⟩:=look_zip hv
 exact⟨v,(getAll_spec h4).2 i t v q1 q2,Wk.refl _⟩
section
variable {cx:Cx}{K:Kf}{N:Nat}{S:Nat→Prop}{μ:Mu}{env:Env}{h:Heap}{tmps:Array Value}{w:World}
theorem St.late0 (st:St cx K N S μ env h tmps w) (b:Obj):St cx (K.late { w with heap:=w.heap.push b } w.heap.size) N S μ env h tmps { w with heap:=w.heap.push b }:=by
 have hext:∀x,x<w.heap.size→(w.heap.push b)[x]?=w.heap[x]?:=fun x hx=>by
  rw [Array.getElem?_push,if_neg (by omega)]
 have st1:St cx K N S μ env h tmps { w with heap:=w.heap.push b }:=st.ext (fun x hx=>hext x hx) (by simp) rfl rfl ⟨rfl,fun _=>Nat.le_refl _⟩ (fun _ h=>h) (fun _ h => .inl h) fun x hx=>by
  have:=st.slt x hx
  simp
  omega
 refine { st1 with own:= ?_,snew:= ?_,frame:=fun _ _ _=>rfl,le:=Nat.le_refl _,os:=rfl,tape:=rfl,output:=OutD.refl _ }
 ·intro r x s hx
  have:=st.lt hx
  exact .inl ⟨st.own r x s hx,by omega⟩
 ·intro x hx
  have:=st.slt x hx
  rcases st.snew x hx with h |h
  ·exact .inl h
  ·exact .inr (.inl ⟨h,by omega⟩)
theorem St.turnLate {w1:World}{z:Nat}(st:St cx (K.late w1 z) N S μ env h tmps w) (hz:z<w1.heap.size) (hS0:¬K.S0 z) (o:Obj):St cx (K.late { w1 with heap:=w1.heap.setIfInBounds z o } z) N S μ env h tmps { w with heap:=w.heap.setIfInBounds z o }:=by
 have hnS:∀b,S b→b≠z:=fun b hb e=>by
  subst e
  rcases st.snew b hb with h1 |h1 |h1
  ·exact hS0 h1
  ·exact h1.2 rfl
  ·have:w1.heap.size≤b:=h1
   omega
 have hnμ:∀r b s,μ r=some (b,s)→b≠z:=fun r b s hb e=>by
  subst e
  rcases st.own r b s hb with h1 |h1
  ·exact h1.2 rfl
  ·have:w1.heap.size≤b:=h1
   omega
 have hk:∀b,b≠z→(w.heap.setIfInBounds z o)[b]?=w.heap[b]?:=fun b hb=>Array.getElem?_setIfInBounds_ne (Ne.symm hb)
 exact {
  size:=st.size
  env:=fun t v ht=>(st.env t v ht).mono (fun _ h=>h) (fun b hb=>hk b (hnS b hb)) fun _ _ h=>h
  g:=fun g cs hg=>(st.g g cs hg).mono (fun _ h=>h) (fun b hb=>hk b (hnS b hb)) fun _ _ h=>h
  heap:=fun r o' ho=>(st.heap r o' ho).mono (fun _ h=>h) (fun b hb=>hk b (hnS b hb)) (fun _ _ h=>h) rfl (by show w.heap.size≤(w.heap.setIfInBounds z o).size;simp) (fun _ b s hb=>hk b (hnμ r b s hb)) fun b s hb hns hs=>hns hs
  inj:=st.inj
  dom:=st.dom
  own:=fun r b s hb=>by
   rcases st.own r b s hb with h1 |h1
   ·exact .inl h1
   ·exact .inr (by show(w1.heap.setIfInBounds z o).size≤b;rw [Array.size_setIfInBounds];exact h1)
  s0:=st.s0
  snew:=fun b hb=>by
   rcases st.snew b hb with h1 |h1 |h1
   ·exact .inl h1
   ·exact .inr (.inl h1)
   ·exact .inr (.inr (by show(w1.heap.setIfInBounds z o).size≤b;rw [Array.size_setIfInBounds];exact h1))
  slt:=fun b hb=>by
   show b<(w.heap.setIfInBounds z o).size
   rw [Array.size_setIfInBounds]
   exact st.slt b hb
  frame:=fun b hb ho=>by
   show(w.heap.setIfInBounds z o)[b]?=(w1.heap.setIfInBounds z o)[b]?
   have hb':b<w1.heap.size:=by
    have:b<(w1.heap.setIfInBounds z o).size:=hb
    simpa using this
   have hle:w1.heap.size≤w.heap.size:=st.le
   by_cases e:b=z
   ·subst e
    rw [Array.getElem?_setIfInBounds_self_of_lt hz,Array.getElem?_setIfInBounds_self_of_lt (by omega)]
   ·rw [hk b e,Array.getElem?_setIfInBounds_ne (Ne.symm e)]
    exact st.frame b hb' ho
  le:=by
   show(w1.heap.setIfInBounds z o).size≤(w.heap.setIfInBounds z o).size
   simp only [Array.size_setIfInBounds]
   exact st.le
  os:=st.os
  tape:=st.tape
  output:=⟨st.output.out,st.output.drawn⟩
  fix:=st.fix }
theorem St.lateAt {w1:World}{z:Nat}(st:St cx (K.late w1 z) N S μ env h tmps w) (hz:z<w1.heap.size):w.heap[z]?=w1.heap[z]?:=st.frame z hz fun h=>h.2 rfl
def lowR (m:Nat) (v:AV):Prop:=∀(S:Nat→Prop) (w:World) (μ:Mu) (u:Value),Rep S w μ v u→Rep S w (fun r=>if r<m then μ r else none) v u
theorem lowR_val {m:Nat}(u:Value):lowR m (.val u):=fun S w μ u' h=>by rw [h.inv_val];exact .val _
theorem lowR_list {m fl sz:Nat}{es:List (List AV)}:lowR m (.list fl sz es):=fun S w μ u h=>by
 cases h with
 |list b off cap f hS hlen hc hr hcap hfull=>exact .list b off cap f hS hlen hc hr hcap hfull
 |nil=>exact .nil
 |empty a cap hf=>exact .empty a cap hf
theorem lowR_ptr {m r ver i j:Nat}(hr:r<m):lowR m (.ptr r ver i j):=fun S w μ u h=>by
 cases h with
 |ptr b sz C hm=>exact .ptr b sz C (by simp only [hr,if_true];exact hm)
theorem St.drop {tl:Heap}(st:St cx K N S μ env (h++tl) tmps w) (he:∀t v,look env t=some v→lowR h.length v) (ho:∀o∈h,∀e∈o.es,∀v∈e,lowR h.length v) (hK:∀r x,K.fix r=some x→r<h.length) :
  St cx K N S (fun r=>if r<h.length then μ r else none) env h tmps w where
 size:=st.size
 env t v ht:=he t v ht _ _ _ _ (st.env t v ht)
 g:=st.g
 heap r o hr:=by
  have hlt:r<h.length:=(List.getElem?_eq_some_iff.1 hr).1
  have hr':(h++tl)[r]?=some o:=by rw [List.getElem?_append_left hlt];exact hr
  have hmem:o∈h:=List.mem_of_getElem? hr
  rcases st.heap r o hr' with⟨h1,h2,h3⟩ |⟨h1,h2,h3⟩ |⟨h1,h2⟩
  ·exact .inl ⟨h1,h2,by simpa only [hlt,if_true] using h3⟩
  ·exact .inr (.inl ⟨h1,h2,by simpa only [hlt,if_true] using h3⟩)
  ·refine .inr (.inr ⟨h1,⟨?_⟩⟩)
   obtain⟨b,vs,t,C,q1,q2,q3,q4,q5,q5',q6,q7⟩:=h2.ex
   refine⟨b,vs,t,C,by simpa only [hlt,if_true] using q1,q2,q3,q4,q5,q5',q6,fun i j e v hi hj=> ?_⟩
   obtain⟨u,g1,g2⟩:=q7 i j e v hi hj
   refine⟨u,g1,?_⟩
   have hl:=ho o hmem e (List.mem_of_getElem? hi) v (List.mem_of_getElem? hj) _ _ _ _ g2
   unfold Ob.mu at hl g2 ⊢
   cases hk:o.k<;>simp only [hk] at hl g2 ⊢ <;>first |exact hl |exact g2
 inj r r' b s s' h1 h2 h3 h4:=by
  split at h1<;>split at h2<;>first |cases h1 |cases h2 |skip
  rename_i l1 l2
  have up:∀ {r},r<h.length→alive h r→alive (h++tl) r:=fun {r} hr ha o ho=>ha o (by rw [List.getElem?_append_left hr] at ho;exact ho)
  exact st.inj r r' b s s' h1 h2 (up l1 h3) (up l2 h4)
 dom r x hx:=by
  split at hx
  ·assumption
  ·cases hx
 own r b s hx:=by
  split at hx
  ·exact st.own r b s hx
  ·cases hx
 s0:=st.s0
 snew:=st.snew
 slt:=st.slt
 frame:=st.frame
 le:=st.le
 os:=st.os
 tape:=st.tape
 output:=st.output
 fix r x hx:=by
  rw [if_pos (hK r x hx)]
  exact st.fix r x hx
end
end Go.Proofs.Av
/-has:search by halves with a label,by the rule. -/
set_option maxRecDepth 100000
namespace Go.Proofs.Av
open Go
open Option renaming bind→Ω
open Go.IntKind renaming i64→ı
open Go.IntKind renaming wrap→ω
open List renaming length→ℓ
open Option renaming bind_some→χ
theorem p138a:∀(F:EF) (fl:Nat) (es:List (List AV)) (a b:Value),pieceF cx0 F 138 33 Try.f138.body [false] [0,3,4] [(0,AV.list fl 2 es),(1,AV.agg [AV.val a,AV.val b])] []=some (JX.normal,[AV.list fl 2 es,AV.ptr 0 0 0 0,vbool false],[Ob.mk OK.box 80 2 0 [[AV.val a,AV.val b]]]):=by
 intros
 kernel_rfl
theorem p138b:∀(F:EF) (fl:Nat) (es:List (List AV)) (a b:Value) (x:Bool),pieceF cx0 F 138 33 Try.f138.body [true,false] [0,3,4,5,6] [(0,AV.list fl 2 es),(3,AV.ptr 0 0 0 0),(4,vbool x)] [Ob.mk OK.box 80 2 0 [[AV.val a,AV.val b]]]=bif decide ((0:Int)=((ℓ es:Nat):Int)) then some (JX.ret,[AV.list fl 2 es,AV.ptr 0 0 0 0,vbool false,vi 0,vi ↑(ℓ es)],[Ob.mk OK.box 80 2 0 [[AV.val a,AV.val b]]]) else if 0≤ω ı (Int.tdiv (ω ı (Int.add 0 ↑(ℓ es))) 2) then Ω es[Int.toNat (ω ı (Int.tdiv (ω ı (Int.add 0 ↑(ℓ es))) 2))]? fun cs0↦Ω (uncons? cs0) fun p1↦Ω (AV.int? IntKind.u64 p1.fst) fun n2↦Ω (uncons? p1.snd) fun p3↦Ω (AV.int? IntKind.u64 p3.fst) fun n4↦Ω (nil? p3.snd) fun x5↦Ω (F (Key.fn 134) [AV.agg [vu n2,vu n4],AV.agg [AV.val a,AV.val b]] []) fun r6↦Ω (ret1 r6) fun v7↦Ω (AV.int? ı v7) fun n8↦bif decide (n8<0) then some (JX.goto 0,[AV.list fl 2 es,AV.ptr 0 0 0 0,vbool x,vi (ω ı (Int.add (ω ı (Int.tdiv (ω ı (Int.add 0 ↑(ℓ es))) 2)) 1)),vi ↑(ℓ es)],[Ob.mk OK.box 80 2 0 [[AV.val a,AV.val b]]]) else bif decide (n8>0) then some (JX.goto 0,[AV.list fl 2 es,AV.ptr 0 0 0 0,vbool x,vi 0,vi (ω ı (Int.tdiv (ω ı (Int.add 0 ↑(ℓ es))) 2))],[Ob.mk OK.box 80 2 0 [[AV.val a,AV.val b]]]) else some (JX.ret,[AV.list fl 2 es,AV.ptr 0 0 0 0,vbool true,vi 0,vi ↑(ℓ es)],[Ob.mk OK.box 80 2 0 [[AV.val a,AV.val b]]]) else none:=by
 intros
 kernel_rfl
theorem p138c:∀(F:EF) (fl:Nat) (es:List (List AV)) (a b:Value) (x:Bool) (i j:Int),pieceF cx0 F 138 33 Try.f138.body [true,false,true,true] [0,3,4,5,6] [(0,AV.list fl 2 es),(3,AV.ptr 0 0 0 0),(4,vbool x),(5,vi i),(6,vi j)] [Ob.mk OK.box 80 2 0 [[AV.val a,AV.val b]]]=bif decide (i=j) then some (JX.ret,[AV.list fl 2 es,AV.ptr 0 0 0 0,vbool false,vi i,vi j],[Ob.mk OK.box 80 2 0 [[AV.val a,AV.val b]]]) else if 0≤ω ı (Int.tdiv (ω ı (Int.add i j)) 2) then Ω es[Int.toNat (ω ı (Int.tdiv (ω ı (Int.add i j)) 2))]? fun cs9↦Ω (uncons? cs9) fun p10↦Ω (AV.int? IntKind.u64 p10.fst) fun n11↦Ω (uncons? p10.snd) fun p12↦Ω (AV.int? IntKind.u64 p12.fst) fun n13↦Ω (nil? p12.snd) fun x14↦Ω (F (Key.fn 134) [AV.agg [vu n11,vu n13],AV.agg [AV.val a,AV.val b]] []) fun r15↦Ω (ret1 r15) fun v16↦Ω (AV.int? ı v16) fun n17↦bif decide (n17<0) then some (JX.goto 0,[AV.list fl 2 es,AV.ptr 0 0 0 0,vbool x,vi (ω ı (Int.add (ω ı (Int.tdiv (ω ı (Int.add i j)) 2)) 1)),vi j],[Ob.mk OK.box 80 2 0 [[AV.val a,AV.val b]]]) else bif decide (n17>0) then some (JX.goto 0,[AV.list fl 2 es,AV.ptr 0 0 0 0,vbool x,vi i,vi (ω ı (Int.tdiv (ω ı (Int.add i j)) 2))],[Ob.mk OK.box 80 2 0 [[AV.val a,AV.val b]]]) else some (JX.ret,[AV.list fl 2 es,AV.ptr 0 0 0 0,vbool true,vi i,vi j],[Ob.mk OK.box 80 2 0 [[AV.val a,AV.val b]]]) else none:=by
 intros
 kernel_rfl
def intOf:Value→Int
 | .int _ q=>q
 | _=>0
theorem wrapI {n:Int}(h1 : -9223372036854775808≤n) (h2:n≤9223372036854775807):ω .i64 n=n:=by
 simp only [ω,IntKind.bits,IntKind.signed,Bool.true_and]
 split<;>simp_all<;>omega
theorem p138s (F:EF) (fl:Nat) (es:List (List AV)) (a b:Value) (x:Bool):pieceF cx0 F 138 33 Try.f138.body [true,false] [0,3,4,5,6] [(0,AV.list fl 2 es),(3,AV.ptr 0 0 0 0),(4,vbool x)] [Ob.mk OK.box 80 2 0 [[AV.val a,AV.val b]]]=pieceF cx0 F 138 33 Try.f138.body [true,false,true,true] [0,3,4,5,6] [(0,AV.list fl 2 es),(3,AV.ptr 0 0 0 0),(4,vbool x),(5,vi 0),(6,vi (es.length:Int))] [Ob.mk OK.box 80 2 0 [[AV.val a,AV.val b]]] :=
 (p138b F fl es a b x).trans (p138c F fl es a b x 0 es.length).symm
theorem callI_inv {F:EF}{f:Nat}{args:List AV}{o:Int}(h:callI F f args=some o):F (.fn f) args []=some (.ret (vi o),[]):=by
 unfold callI at h
 obtain⟨r,h1,h⟩:=bind_some_iff h
 obtain⟨v,h2,h⟩:=bind_some_iff h
 have h3:=ret1_eq h2
 subst h3
 have h4:=wk_int h
 subst h4
 exact h1
theorem asU2_inv {c:List AV}{u:Unit}(h:asU2 c=some u):∃m n:Int,c=[vu m,vu n]:=by
 unfold asU2 at h
 split at h
 ·exact⟨_,_,rfl⟩
 ·cases h
theorem has_pass {F:EF}{fl:Nat}{es:List (List AV)}{a b:Value}{x:Bool}{n i j:Nat}{v:AV}(hv:hasL 134 es (.agg [.val a,.val b]) n i j F=some v) (hij:i≤j) (hj:j≤es.length) (hl:es.length≤4000000):∃T,pieceF cx0 (rets F) 138 33 Try.f138.body [true,false,true,true] [0,3,4,5,6] [(0,AV.list fl 2 es),(3,AV.ptr 0 0 0 0),(4,vbool x),(5,vi i),(6,vi j)] [Ob.mk OK.box 80 2 0 [[AV.val a,AV.val b]]]=some T∧((∃(q:Bool) (i' j':Int),v=vbool q∧T=(.ret,[AV.list fl 2 es,AV.ptr 0 0 0 0,vbool q,vi i',vi j'],[Ob.mk OK.box 80 2 0 [[AV.val a,AV.val b]]]))∨∃n' i' j':Nat,hasL 134 es (.agg [.val a,.val b]) n' i' j' F=some v∧i'≤j'∧j'≤es.length∧j'-i'<j-i∧T=(.goto 0,[AV.list fl 2 es,AV.ptr 0 0 0 0,vbool x,vi i',vi j'],[Ob.mk OK.box 80 2 0 [[AV.val a,AV.val b]]])):=by
 cases n with
 |zero=>cases hv
 |succ n =>
 rw [p138c]
 unfold hasL at hv
 by_cases h0:i=j
 ·subst h0
  rw [if_pos rfl] at hv
  cases hv
  rw [decide_eq_true rfl]
  exact⟨_,rfl,.inl ⟨false,i,i,rfl,rfl⟩⟩
 ·rw [if_neg h0] at hv
  obtain⟨c,h1,hv1⟩:=bind_some_iff hv
  obtain⟨_,h2,hv2⟩:=bind_some_iff hv1
  obtain⟨o,h3,hv3⟩:=bind_some_iff hv2
  clear hv hv1 hv2
  obtain⟨m1,m2,rfl⟩:=asU2_inv h2
  have h4:=rets_ret (callI_inv h3)
  have e0:decide ((i:Int)=(j:Int))=false:=decide_eq_false (by omega)
  have e1:ω .i64 (Int.tdiv (ω .i64 (Int.add (i:Int) (j:Int))) 2)=(((i+j)/2:Nat):Int):=by
   have e2:ω .i64 (Int.add (i:Int) (j:Int))=((i+j:Nat):Int):=(wrapI (n:=(i:Int)+j) (by omega) (by omega)).trans (by omega)
   rw [e2]
   have e3:Int.tdiv ((i+j:Nat):Int) 2=(((i+j)/2:Nat):Int):=rfl
   rw [e3]
   exact wrapI (by omega) (by omega)
  have e5:ω .i64 (Int.add (((i+j)/2:Nat):Int) 1)=(((i+j)/2+1:Nat):Int):=(wrapI (n:=(((i+j)/2:Nat):Int)+1) (by omega) (by omega)).trans (by omega)
  rw [e0,e1,e5]
  simp only [cond_false]
  rw [if_pos (by omega),show Int.toNat (((i+j)/2:Nat):Int)=(i+j)/2 from rfl,h1]
  simp only [χ]
  have e6:uncons? [vu m1,vu m2]=some (vu m1,[vu m2]):=rfl
  have e7:uncons? [vu m2]=some (vu m2,[]):=rfl
  rw [e6]
  simp only [χ]
  rw [show AV.int? IntKind.u64 (vu m1)=some m1 from rfl]
  simp only [χ]
  rw [e7]
  simp only [χ]
  rw [show AV.int? IntKind.u64 (vu m2)=some m2 from rfl,show nil? ([]:List AV)=some () from rfl]
  simp only [χ]
  rw [h4]
  simp only [χ]
  rw [show ret1 (Out.ret (vi o),([]:Heap))=some (vi o) from rfl]
  simp only [χ]
  rw [show AV.int? ı (vi o)=some o from rfl]
  simp only [χ]
  by_cases h5:o<0
  ·rw [if_pos h5] at hv3
   rw [decide_eq_true h5]
   exact⟨_,rfl,.inr ⟨n,_,j,hv3,by omega,hj,by omega,rfl⟩⟩
  ·rw [if_neg h5] at hv3
   rw [decide_eq_false h5]
   by_cases h6:o>0
   ·rw [if_pos h6] at hv3
    rw [decide_eq_true h6]
    exact⟨_,rfl,.inr ⟨n,i,_,hv3,by omega,by omega,by omega,rfl⟩⟩
   ·rw [if_neg h6] at hv3
    cases hv3
    rw [decide_eq_false h6]
    exact⟨_,rfl,.inl ⟨true,_,_,rfl,rfl⟩⟩
theorem fact138:Fact cx 138:=⟨Try.f138,Try.func138,by kernel_rfl,by kernel_rfl⟩
def seqL:Code→Code
 | .seq a _=>a
 |c=>c
def seqR:Code→Code
 | .seq _ b=>b
 |c=>c
def inner:Code→Code
 | .scope b=>b
 | .block _ b=>b
 | .loop b=>b
 |c=>c
noncomputable def bd138:Code:=(Try.f138.body).getD .skip
noncomputable def sc138:Code:=inner (seqR bd138)
theorem b138:Try.f138.body=some bd138:=by kernel_rfl
theorem b138a:bd138 = .seq (seqL bd138) (.scope sc138):=by kernel_rfl
theorem b138b:sc138 = .seq (seqL sc138) (.seq (.label 0) (seqR (seqR sc138))):=by kernel_rfl
theorem n138:Try.f138.ntmps=33:=by kernel_rfl
theorem s138a:sub [false] bd138=some (seqL bd138):=by kernel_rfl
theorem s138b:sub [true,false] bd138=some sc138:=by kernel_rfl
theorem s138c:sub [true,false,true,true] bd138=some (seqR (seqR sc138)):=by kernel_rfl
theorem r138 (q:Bool) (x y z u:AV) (h:Heap):resultsOf cx0 ([0,3,4,5,6].zip [x,y,vbool q,z,u]) h Try.f138.results.toList=some [vbool q]:=by kernel_rfl
theorem l138:findLabel sc138 0=some (.seq .skip (seqR (seqR sc138))):=by kernel_rfl
def envH (fl:Nat) (es:List (List AV)) (x:Bool) (i j:Int):Env:=[0,3,4,5,6].zip [AV.list fl 2 es,AV.ptr 0 0 0 0,vbool x,vi i,vi j]
theorem St.slot {cx:Cx}{K:Kf}{N:Nat}{S:Nat→Prop}{μ:Mu}{env:Env}{h:Heap}{tmps:Array Value}{w:World}(st:St cx K N S μ env h tmps w) {t:Nat}{v:Value}(hv:look env t=some (.val v)):tmps.getD t undef=v:=(st.env t _ hv).inv_val
theorem rul138 {F:EF}(hF:FnSound cx F) {args:List AV}{v:AV}(hG:hasG 134 F args=some v):Fact cx 138∧∀S w vals,(∀b,S b→b<w.heap.size)→GRel cx S w→Reps S w Mu.none args vals→Calls cx.P 138 vals.toArray w (Post cx S w v):=by
 refine⟨fact138,fun S w vals hS hGr hr=> ?_⟩
 unfold hasG at hG
 split at hG
 case h_2=>cases hG
 rename_i fl es a b
 split at hG
 case isFalse=>cases hG
 rename_i hl
 have hlen:=hr.1
 have st0:=numbered_st (cx:=cx0) (N:=33) hS hGr hr (by simp)
 obtain⟨K,hK⟩:∃K:Kf,K=⟨w,S,fun _=>False,Mu.none⟩:=⟨_,rfl⟩
 rw [←hK] at st0
 have hfix:∀r x,K.fix r=some x→r<cx0.held 138:=fun r x h=>by rw [hK] at h;cases h
 have hN:=n138
 have fin:∀(q:Bool) (i j:Int) (x:AV) (S':Nat→Prop) (μ':Mu) (a':Act) (w':World),v=vbool q→a'.defers=[]→St cx0 K 33 S' μ' ([0,3,4,5,6].zip [x,AV.ptr 0 0 0 0,vbool q,vi i,vi j]) [Ob.mk OK.box 80 2 0 [[AV.val a,AV.val b]]] a'.tmps w' →
   bodyPost cx.P Try.f138 (Post cx S w v) .ret a' w':=by
  intro q i j x S' μ' a' w' hvq hd st
  obtain⟨y,g1,g2⟩:=post_fin (vs':=[vbool q]) st (by rw [hK]) (r138 q x _ _ _ _) rfl
  rw [hK] at g2
  exact⟨hd,y,g1,by rw [hvq];exact post_up g2⟩
 refine calls_of_wp Try.func138 b138 ?_
 rw [b138a,hN]
 refine wp_seq (wp_mono (piece_wp hF Try.func138 b138 s138a hfix (a:=⟨_,[]⟩) (ls:=[0,3,4]) (e := .normal) (vs:=[AV.list fl 2 es,AV.ptr 0 0 0 0,vbool false]) (h':=[Ob.mk OK.box 80 2 0 [[AV.val a,AV.val b]]]) (by rw [hN];exact st0) rfl (by rw [hN];exact p138a _ fl es a b)) fun X a1 w1 ⟨g1,g2,S1,μ1,st1⟩=> ?_)
 subst g1
 rw [hN] at st1
 show(Code.scope sc138).wp _ _ a1 w1
 refine wp_scope_jumps 0 (fun a' w'=>a'.defers=[]∧∃S' μ' n i j x,i≤j∧j≤es.length∧hasL 134 es (.agg [.val a,.val b]) n i j F=some v∧St cx0 K 33 S' μ' (envH fl es x i j) [Ob.mk OK.box 80 2 0 [[AV.val a,AV.val b]]] a'.tmps w')
  (fun a' _=>(intOf (a'.tmps.getD 6 undef)-intOf (a'.tmps.getD 5 undef)).toNat) l138 ?_ ?_
 ·obtain⟨T,hT,h2⟩:=has_pass (fl:=fl) (x:=false) hG (Nat.zero_le _) (Nat.le_refl _) hl
  have hT':=(p138s (rets F) fl es a b false).trans hT
  obtain⟨e,vs,h'⟩:=T
  refine wp_mono (piece_wp hF Try.func138 b138 s138b hfix (ls:=[0,3,4,5,6]) (e:=e) (vs:=vs) (h':=h') (by rw [hN];exact st1) g2 (by rw [hN];exact hT')) fun X a2 w2 ⟨k1,k2,S2,μ2,st2⟩=> ?_
  rw [hN] at st2
  subst k1
  rcases h2 with⟨q,i',j',hq9,h9⟩ |⟨n',i',j',h3,h4,h5,h6,h7⟩
  ·cases h9
   exact fin q _ _ _ S2 μ2 a2 w2 hq9 k2 st2
  ·cases h7
   exact⟨rfl,k2,S2,μ2,n',i',j',false,h4,h5,h3,st2⟩
 ·rintro a2 w2 ⟨k2,S2,μ2,n,i,j,x,h4,h5,h3,st2⟩
  refine wp_seq (wp_skip ?_)
  obtain⟨T,hT,h2⟩:=has_pass (fl:=fl) (x:=x) h3 h4 h5 hl
  obtain⟨e,vs,h'⟩:=T
  have m5:=st2.slot (t:=5) (v := .int .i64 i) rfl
  have m6:=st2.slot (t:=6) (v := .int .i64 j) rfl
  refine wp_mono (piece_wp hF Try.func138 b138 s138c hfix (ls:=[0,3,4,5,6]) (e:=e) (vs:=vs) (h':=h') (by rw [hN];exact st2) k2 (by rw [hN];exact hT)) fun X a3 w3 ⟨k1,k3,S3,μ3,st3⟩=> ?_
  rw [hN] at st3
  subst k1
  rcases h2 with⟨q,i',j',hq9,h9⟩ |⟨n',i',j',h3,h4',h5',h6',h7⟩
  ·cases h9
   exact fin q _ _ _ S3 μ3 a3 w3 hq9 k3 st3
  ·cases h7
   refine⟨rfl,⟨k3,S3,μ3,n',i',j',x,h4',h5',h3,st3⟩,?_⟩
   have m5':=st3.slot (t:=5) (v := .int .i64 i') rfl
   have m6':=st3.slot (t:=6) (v := .int .i64 j') rfl
   rw [m5,m6,m5',m6']
   show((j':Int)-i').toNat<((j:Int)-i).toNat
   omega
end Go.Proofs.Av
