/- A region whose order is drawn, with a variable that may be made at any time. -/
import Derived.Test.YtoepfmodbhfckaaAzNb
namespace Go.Proofs.Av
open Go
open Nat renaming eq_of_beq_eq_true→ε
def Keeps (s:Nat) (env env':Env):Prop:=∀v,look env' s=some v→∃v0,look env s=some v0∧v.wk=v0.wk
theorem Keeps.refl (s:Nat) (env:Env):Keeps s env env:=fun v h=>⟨v,h,rfl⟩
theorem Keeps.trans {s:Nat}{e1 e2 e3:Env}(h:Keeps s e1 e2) (k:Keeps s e2 e3):Keeps s e1 e3:=fun v hv =>
 let ⟨v1,h1,h2⟩:=k v hv
 let ⟨v0,h3,h4⟩:=h v1 h1
 ⟨v0,h3,h2.trans h4⟩
section
variable {cx:Cx}{F:EF}{K:Kf}{N:Nat}{S:Nat→Prop}{μ:Mu}{env:Env}{h:Heap}{a:Act}{w:World}
theorem putK_keeps {d:Option Tmp}{v:AV}{env':Env}(hp:putK N d v env some=some env') {s:Nat}(hs:d≠some s):Keeps s env env':=by
 unfold putK at hp
 split at hp
 ·cases hp;exact Keeps.refl _ _
 ·rename_i t
  split at hp
  ·cases hp
   intro x hx
   simp only [look] at hx
   split at hx
   ·rename_i hb
    exact absurd (congrArg some (ε hb)) hs
   ·exact⟨x,hx,rfl⟩
  ·cases hp
theorem stepOp_keeps {q:Bool}{o:Oper}{e:JX}{env':Env}{h':Heap}(hs:stepOp cx F N q o env h (fun e env h=>some (e,env,h))=some (e,env',h')) {s:Nat}(hd:o.dst≠some s):Keeps s env env':=by
 unfold stepOp at hs
 split at hs
 ·rename_i t hop
  cases hrw:cx.rows t with
  |true =>
   rw [hrw,cond_true] at hs
   cases q with
   |true=>cases hs
   |false =>
    rw [cond_false] at hs
    obtain⟨z,h1,hs⟩:=bind_some_iff hs
    obtain⟨env2,h3,h4⟩:=(putK_pk _ _ _ _).some hs
    cases h3
    exact putK_keeps h4 hd
  |false =>
  rw [hrw,cond_false] at hs
  obtain⟨z,h1,hs⟩:=bind_some_iff hs
  obtain⟨n,h2,hs⟩:=bind_some_iff hs
  split at hs
  ·obtain⟨env2,h3,h4⟩:=(putK_pk _ _ _ _).some hs
   cases h3
   exact putK_keeps h4 hd
  ·cases hs
 ·obtain⟨z,h1,hs⟩:=bind_some_iff hs
  obtain⟨env2,h3,h4⟩:=(putK_pk _ _ _ _).some hs
  cases h3
  exact putK_keeps h4 hd
 ·obtain⟨pv,h1,hs⟩:=bind_some_iff hs
  obtain⟨xv,h2,hs⟩:=bind_some_iff hs
  obtain⟨h2',h3,h4⟩:=(storeV_pk _ _ _ _ _).some hs
  obtain⟨env2,h5,h6⟩:=(putK_pk _ _ _ _).some h3
  cases h5
  exact putK_keeps h6 hd
 ·rename_i t len parts hop
  cases hth:cx.thaw o.dst t with
  |true =>
   simp only [hth,cond_true] at hs
   cases q with
   |true=>cases hs
   |false =>
    simp only [cond_false] at hs
    unfold buildT at hs
    cases hpt:cx.ptrs t with
    |true =>
     rw [hpt] at hs
     simp only [cond_true] at hs
     obtain⟨d,h1,hs⟩:=bind_some_iff hs
     split at hs
     ·obtain⟨z,h2,hs⟩:=bind_some_iff hs
      obtain⟨n,h3,hs⟩:=bind_some_iff hs
      obtain⟨ps,h4,hs⟩:=bind_some_iff hs
      split at hs
      ·obtain⟨cs,h6,hs⟩:=bind_some_iff hs
       obtain⟨env2,h8,h9⟩:=(putK_pk _ _ _ _).some hs
       cases h8
       exact putK_keeps h9 hd
      ·cases hs
     ·cases hs
    |false =>
    rw [hpt] at hs
    simp only [cond_false] at hs
    obtain⟨d,h1,hs⟩:=bind_some_iff hs
    split at hs
    ·obtain⟨z,h2,hs⟩:=bind_some_iff hs
     obtain⟨n,h3,hs⟩:=bind_some_iff hs
     obtain⟨ps,h4,hs⟩:=bind_some_iff hs
     obtain⟨hp,h5,hs⟩:=bind_some_iff hs
     split at hs
     ·obtain⟨cs,h6,h7⟩:=(rowsP_pk _ _ _).some hs
      obtain⟨env2,h8,h9⟩:=(putK_pk _ _ _ _).some h6
      cases h8
      exact putK_keeps h9 hd
     ·cases hs
    ·cases hs
  |false =>
  simp only [hth,cond_false] at hs
  obtain⟨d,h1,hs⟩:=bind_some_iff hs
  split at hs
  ·obtain⟨z,h2,hs⟩:=bind_some_iff hs
   obtain⟨n,h3,hs⟩:=bind_some_iff hs
   obtain⟨ps,h4,hs⟩:=bind_some_iff hs
   split at hs
   ·obtain⟨cs,h5,h6⟩:=(rowsP_pk _ _ _).some hs
    cases hmk:cx.made o.dst t with
    |true =>
     rw [hmk] at h5
     cases q with
     |true=>cases h5
     |false =>
      simp only [cond_true,cond_false] at h5
      obtain⟨env2,h7,h8⟩:=(putK_pk _ _ _ _).some h5
      cases h7
      exact putK_keeps h8 hd
    |false =>
    rw [hmk] at h5
    simp only [cond_false] at h5
    obtain⟨env2,h7,h8⟩:=(putK_pk _ _ _ _).some h5
    cases h7
    exact putK_keeps h8 hd
   ·cases hs
  ·cases hs
 ·obtain⟨lv,h1,hs⟩:=bind_some_iff hs
  obtain⟨nv,h2,hs⟩:=bind_some_iff hs
  obtain⟨⟨av,h1'⟩,h3,h4⟩:=(makeV_pk cx _ lv nv h) _ (fun x=>putK N o.dst x.1 env fun env=>some (JX.normal,env,x.2)) _ hs
  obtain⟨env2,h5,h6⟩:=(putK_pk _ _ _ _).some h3
  cases h5
  exact putK_keeps h6 hd
 ·obtain⟨vs,h2,hs⟩:=bind_some_iff hs
  obtain⟨⟨av,h1'⟩,h3,h4⟩:=(bins_pk cx _ _ vs h) _ (fun x=>putK N o.dst x.1 env fun env=>some (JX.normal,env,x.2)) _ hs
  obtain⟨env2,h5,h6⟩:=(putK_pk _ _ _ _).some h3
  cases h5
  exact putK_keeps h6 hd
 ·obtain⟨vs,h2,hs⟩:=bind_some_iff hs
  obtain⟨⟨av,h1'⟩,h3,h4⟩:=(bins_pk cx _ _ vs h) _ (fun x=>putK N o.dst x.1 env fun env=>some (JX.normal,env,x.2)) _ hs
  obtain⟨env2,h5,h6⟩:=(putK_pk _ _ _ _).some h3
  cases h5
  exact putK_keeps h6 hd
 ·obtain⟨vs,h2,hs⟩:=bind_some_iff hs
  obtain⟨⟨av,h1'⟩,h3,h4⟩:=(bins_pk cx _ _ vs h) _ (fun x=>putK N o.dst x.1 env fun env=>some (JX.normal,env,x.2)) _ hs
  obtain⟨env2,h5,h6⟩:=(putK_pk _ _ _ _).some h3
  cases h5
  exact putK_keeps h6 hd
 ·obtain⟨fv,h1,hs⟩:=bind_some_iff hs
  obtain⟨vs,h2,hs⟩:=bind_some_iff hs
  obtain⟨⟨e1,av,h1'⟩,h3,h4⟩:=(callX_pkl (G:=fun _=>F) (fun _ _ _ r hr=>⟨0,fun _ _=>hr⟩) cx _ _ _ fv vs h) _ (fun x=>match x.1 with
   | .normal=>putK N o.dst x.2.1 env fun env=>some (JX.normal,env,x.2.2)
   |e=>some (e,env,x.2.2)) _ hs
  cases e1 with
  |normal =>
   simp only at h3
   obtain⟨env2,h5,h6⟩:=(putK_pk _ _ _ _).some h3
   cases h5
   exact putK_keeps h6 hd
  | _=>cases h3;exact Keeps.refl _ _
 ·obtain⟨v,h1,hs⟩:=bind_some_iff hs
  split at hs
  ·rename_i t y
   cases hq:(q|| !y.ground) with
   |true=>rw [hq] at hs;cases hs
   |false=>rw [hq] at hs;cases hs;exact Keeps.refl _ _
  ·cases hs
 ·obtain⟨av,h3,h4⟩:=(evalA_pk _ _ _ _).some hs
  obtain⟨env2,h5,h6⟩:=(putK_pk _ _ _ _).some h3
  cases h5
  exact putK_keeps h6 hd
end
theorem put_tmps {a:Act}{d:Option Tmp}{s:Nat}{v:Value}(h:d≠some s):(a.put d v).tmps[s]?=a.tmps[s]?:=by
 unfold Act.put
 cases d with
 |none=>rfl
 |some t =>
  simp only
  rw [Array.getElem?_setIfInBounds_ne (fun e=>h (by rw [e]))]
theorem oper_tmps {P:Program}{o:Oper}{a:Act}{w:World}{Kn:Act→World→Prop}{Q:Exit→Act→World→Prop}{s:Nat}(hd:o.dst≠some s) (h:o.wp P a w (fun a' w'=>a'.tmps[s]?=a.tmps[s]?→Kn a' w') Q):o.wp P a w Kn Q:=by
 unfold Oper.wp at *
 generalize (execOp a.eval o).run P w=r at *
 cases r with
 |ok n w' =>
  cases n<;>simp only [Oper.upon] at h ⊢ <;>
   first
    |exact h (put_tmps hd)
    |exact Calls.mono h (fun e w'' he=>by cases e<;>first |exact he (put_tmps hd) |exact he)
    |exact Rows.mono h (fun _ _ he=>he (put_tmps hd))
 |halt x w'=>cases x<;>simp only [Oper.upon] at h ⊢ <;>exact h
theorem wpOp_tmps {P:Program}{ops:Array Oper}{i s:Nat}{a:Act}{w:World}{Kn:Act→World→Prop}{Q:Exit→Act→World→Prop}(hd:∀o,ops[i]?=some o→o.dst≠some s) (h:wpOp P ops Q i (fun a' w'=>a'.tmps[s]?=a.tmps[s]?→Kn a' w') a w):wpOp P ops Q i Kn a w:=by
 unfold wpOp at *
 split
 ·rename_i ho
  simp only [ho] at h
  exact h trivial
 ·rename_i o ho
  simp only [ho] at h
  split
  ·rename_i hw
   simp only [hw,if_true] at h
   exact h.imp (oper_tmps (hd o ho)) id
  ·rename_i hw
   simp only [hw] at h
   exact h (put_tmps (hd o ho))
theorem yielded_anchor {tf:FuncId→Bool}{ops:Array Oper}{z:Nat}{tmps:Array Value}:yielded (anchor tf ops z) tmps=yielded ops tmps:=by
 funext k
 unfold yielded
 rw [anchor_dst]
theorem wpOp_anchor {P:Program}{tf:FuncId→Bool}{ops:Array Oper}{z i:Nat}{a:Act}{w:World}{Kn:Act→World→Prop}{Q:Exit→Act→World→Prop}(hi:i≠z) (h:wpOp P (anchor tf ops z) Q i Kn a w):wpOp P ops Q i Kn a w:=by
 unfold wpOp at *
 rw [anchor_ne hi,yielded_anchor] at h
 exact h
theorem ready_anchor {tf:FuncId→Bool}{ops:Array Oper}{z i:Nat}{listed:Array Bool}(hi:i≠z):i∈Region.ready .any (anchor tf ops z) listed↔i∈Region.ready .any ops listed:=by
 rw [mem_ready,mem_ready,anchor_ne hi]
theorem any_anchor {P:Program}{tf:FuncId→Bool}{ops:Array Oper}{z:Nat}{Q:Exit→Act→World→Prop}:∀(fuel:Nat) (listed:Array Bool) (a:Act) (w:World),listed.getD z true=true→wpAny P .any (anchor tf ops z) Q fuel listed a w→wpAny P .any ops Q fuel listed a w
 |fuel,listed,a,w,hz,h=>by
  have nz:∀i (ops:Array Oper),i∈Region.ready .any ops listed→i≠z:=fun i ops hi hx=>by
   subst hx
   obtain⟨h1,_⟩:=mem_ready.1 hi
   rw [hz] at h1
   cases h1
  have hr:∀i,i∈Region.ready .any (anchor tf ops z) listed↔i∈Region.ready .any ops listed:=fun i =>
   ⟨fun hi=>(ready_anchor (nz i _ hi)).1 hi,fun hi=>(ready_anchor (nz i _ hi)).2 hi⟩
  have hnil:Region.ready .any ops listed=[]→Region.ready .any (anchor tf ops z) listed=[]:=fun hn=>by
   cases hx:Region.ready .any (anchor tf ops z) listed with
   |nil=>rfl
   |cons i l =>
    have:=(hr i).1 (by rw [hx];exact List.mem_cons_self ..)
    rw [hn] at this
    cases this
  have hnil':Region.ready .any (anchor tf ops z) listed=[]→Region.ready .any ops listed=[]:=fun hn=>by
   cases hx:Region.ready .any ops listed with
   |nil=>rfl
   |cons i l =>
    have:=(hr i).2 (by rw [hx];exact List.mem_cons_self ..)
    rw [hn] at this
    cases this
  cases fuel with
  |zero=>exact⟨hnil' h.1,h.2⟩
  |succ fuel =>
   refine⟨fun hn=>h.1 (hnil hn),fun i hi=> ?_⟩
   have hiz:=nz i _ hi
   refine wpOp_anchor hiz (wpOp_mono (fun a w hh=>any_anchor fuel _ a w ?_ hh) (h.2 i ((hr i).2 hi)))
   rw [getD_set_ne true hiz]
   exact hz
def Kf.late (K:Kf) (w1:World) (z:Nat):Kf:= { w0:=w1,S0:=K.S0,O0:=fun b=>(K.O0 b∨K.w0.heap.size≤b)∧b≠z,fix:=K.fix }
section
variable {cx:Cx}{F:EF}{K:Kf}{N:Nat}{S:Nat→Prop}{μ:Mu}{env:Env}{h:Heap}{a:Act}{w:World}{ops:Array Oper}
theorem dropS_look {d t:Nat}{v:AV}:∀ {e:Env},look (dropS d e) t=some v→t≠d∧look e t=some v
 | [],h=>by cases h
 | (s,x)::e,h=>by
  unfold dropS at h
  simp only [List.filter_cons] at h
  cases hs:Nat.beq s d with
  |true =>
   rw [hs] at h
   simp only [Bool.not_true,Bool.false_eq_true,if_false] at h
   obtain⟨h1,h2⟩:=dropS_look (e:=e) h
   refine⟨h1,?_⟩
   simp only [look]
   have:Nat.beq s t=false:=by
    cases hb:Nat.beq s t with
    |false=>rfl
    |true=>exact absurd ((ε hb).symm.trans (ε hs)) h1
   rw [this]
   exact h2
  |false =>
   rw [hs] at h
   simp only [Bool.not_false,if_true,look] at h
   simp only [look]
   cases hb:Nat.beq s t with
   |true =>
    rw [hb] at h
    refine⟨fun e=> ?_,h⟩
    rw [←e,hb] at hs
    cases hs
   |false =>
    rw [hb] at h
    exact dropS_look (e:=e) h
theorem st_late (st:St cx K N S μ env h a.tmps w) {d:Nat}{v:Value}{b:Obj}:St cx (K.late { w with heap:=w.heap.push b } w.heap.size) N S μ (dropS d env) h (a.put (some d) v).tmps { w with heap:=w.heap.push b }:=by
 have hext:∀x,x<w.heap.size→(w.heap.push b)[x]?=w.heap[x]?:=fun x hx=>by
  rw [Array.getElem?_push,if_neg (by omega)]
 have st1:St cx K N S μ env h a.tmps { w with heap:=w.heap.push b }:=st.ext (fun x hx=>hext x hx) (by simp) rfl rfl ⟨rfl,fun _=>Nat.le_refl _⟩ (fun _ h=>h) (fun _ h => .inl h) fun x hx=>by
  have:=st.slt x hx
  simp
  omega
 refine { st1 with size:= ?_,env:= ?_,own:= ?_,snew:= ?_,frame:=fun _ _ _=>rfl,le:=Nat.le_refl _,os:=rfl,tape:=rfl,output:=OutD.refl _ }
 ·simp only [Act.put,Array.size_setIfInBounds]
  exact st.size
 ·intro t x ht
  obtain⟨h1,h2⟩:=dropS_look ht
  have:=st1.env t x h2
  simpa [Act.put,Array.getD_eq_getD_getElem?,Array.getElem?_setIfInBounds_ne (Ne.symm h1)] using this
 ·intro r x s hx
  have:=st.lt hx
  exact .inl ⟨st.own r x s hx,by omega⟩
 ·intro x hx
  have:=st.slt x hx
  rcases st.snew x hx with h |h
  ·exact .inl h
  ·exact .inr (.inl ⟨h,by omega⟩)
theorem st_forget {w1:World}{z:Nat}{tmps:Array Value}{w0:World}{b:Obj}(h1:w1= { w0 with heap:=w0.heap.push b }) (hz:z=w0.heap.size) (st0:St cx K N S μ env h a.tmps w0) {S':Nat→Prop}{μ':Mu}{e':Env}{h':Heap}{w':World}(st:St cx (K.late w1 z) N S' μ' e' h' tmps w'):St cx K N S' μ' e' h' tmps w':=by
 subst h1 hz
 refine { st with own:= ?_,snew:= ?_,frame:= ?_,le:= ?_,os:=st.os.trans st0.os,tape:=st.tape.trans st0.tape,output:= ?_ }
 ·intro r x s hx
  rcases st.own r x s hx with h |h
  ·exact h.1
  ·refine .inr (Nat.le_trans st0.le ?_)
   simp only [Kf.late,Array.size_push] at h
   omega
 ·intro x hx
  rcases st.snew x hx with h |h |h
  ·exact .inl h
  ·exact .inr h.1
  ·refine .inr (.inr (Nat.le_trans st0.le ?_))
   simp only [Kf.late,Array.size_push] at h
   omega
 ·intro x hx ho
  have hlt:x<w0.heap.size:=Nat.lt_of_lt_of_le hx st0.le
  have:=st.frame x (by simp only [Kf.late,Array.size_push];omega) (by
   rintro⟨h |h,_⟩
   ·exact ho h
   ·omega)
  rw [this]
  simp only [Kf.late]
  rw [Array.getElem?_push,if_neg (by omega)]
  exact st0.frame x hx ho
 ·have:=st.le
  simp only [Kf.late,Array.size_push] at this
  have:=st0.le
  omega
 ·have h1:OutD cx w0 w':=⟨st.output.out,st.output.drawn⟩
  exact h1.trans st0.output
theorem st_known {w1:World}{z:Nat}{tmps:Array Value}{w0:World}{vs:Array Value}{t:TypeId}(h1:w1= { w0 with heap:=w0.heap.push (.cells vs t) }) (hz:z=w0.heap.size) (st0:St cx K N S μ env h a.tmps w0) {S':Nat→Prop}{μ':Mu}{e':Env}{h':Heap}{w':World}(st:St cx (K.late w1 z) N S' μ' e' h' tmps w') {d n:Nat}(_hd:d<N) (ht:tmps[d]?=some (.pointer (some ⟨z,0,none⟩))) (hn:vs.size=n):St cx K N S' (μ'.upd h'.length (z,n,0)) ((d,.ptr h'.length 0 0 0)::e') (h'++[⟨.box,t,n,0,[vs.toList.map .val]⟩]) tmps w':=by
 have stf:=st_forget (tmps:=tmps) h1 hz st0 st
 have hcells:w'.heap[z]?=some (.cells vs t):=by
  rw [st.frame z (by subst h1 hz;simp [Kf.late]) (fun h=>h.2 rfl)]
  subst h1 hz
  show(w0.heap.push _)[w0.heap.size]?=_
  rw [Array.getElem?_push,if_pos rfl]
 have hzlt:z<w'.heap.size:=(Array.getElem?_eq_some_iff.1 hcells).1
 have hown:∀r b s,μ' r=some (b,s)→b≠z:=fun r b s hx he=>by
  rcases st.own r b s hx with h |h
  ·exact h.2 he
  ·subst h1 hz
   simp only [Kf.late,Array.size_push] at h
   omega
 have hS:¬S' z:=fun hs=>by
  rcases st.snew z hs with h |h |h
  ·have:=st0.slt z (st0.s0 z h)
   omega
  ·exact h.2 rfl
  ·subst h1 hz
   simp only [Kf.late,Array.size_push] at h
   omega
 have hfresh:μ' h'.length=none:=by
  cases hx:μ' h'.length with
  |none=>rfl
  |some x=>have:=st.dom _ _ hx;omega
 have hμ:∀r x,μ' r=some x→μ'.upd h'.length (z,n,0) r=some x:=fun r x hx=>by
  unfold Mu.upd
  rw [if_neg (by intro e;subst e;rw [hfresh] at hx;cases hx)]
  exact hx
 refine⟨st.size,fun t v htv=> ?_,fun g cs hg=>(st.g g cs hg).mono (fun _ h=>h) (fun _ _=>rfl) fun _ _ h=>h,?_,?_,?_,?_,stf.s0,stf.snew,stf.slt,stf.frame,stf.le,stf.os,stf.tape,stf.output,fun r x hx=>hμ r x (stf.fix r x hx)⟩
 ·simp only [look] at htv
  split at htv
  ·rename_i hb
   obtain rfl:=ε hb
   cases htv
   rw [Array.getD_eq_getD_getElem?,ht]
   exact rep_ptr0 Mu.upd_self
  ·exact(st.env t v htv).mono (fun _ h=>h) (fun _ _=>rfl) hμ
 ·intro r o' ho'
  by_cases hrl:r<h'.length
  ·rw [List.getElem?_append_left hrl] at ho'
   exact(st.heap r o' ho').mono (fun _ h=>h) (fun _ _=>rfl) hμ (by unfold Mu.upd;rw [if_neg (by omega)]) (Nat.le_refl _) (fun _ _ _ _=>rfl) fun _ _ _ h=>h
  ·rw [List.getElem?_append_right (by omega)] at ho'
   have hr0:r=h'.length:=by
    have:=(List.getElem?_eq_some_iff.1 ho').1
    simp at this
    omega
   subst hr0
   simp at ho'
   subst ho'
   refine .inr (.inr ⟨by simp,⟨z,vs,t,0,by simp [Mu.upd],hcells,fun h=>(by cases h),fun _=>hS,by simp [hn],fun h=>(by cases h),fun i e hie=> ?_,fun i j e v hie hv=> ?_⟩⟩)
   ·cases i with
    |zero=>simp at hie;subst hie;simpa using hn
    |succ i=>simp at hie
   ·cases i with
    |zero =>
     simp at hie
     subst hie
     obtain⟨u,hu,hru⟩:=(reps_vals (S:=S') (w:=w') (μ:=μ') vs.toList).get hv
     refine⟨u,by simpa using hu,?_⟩
     unfold Ob.mu
     exact hru.mono (fun _ h=>h) (fun _ _=>rfl) hμ
    |succ i=>simp at hie
 ·intro r r' b s s' h1 h2 ha ha'
  unfold Mu.upd at h1 h2
  split at h1<;>split at h2
  ·omega
  ·cases h1
   exact absurd rfl (hown _ _ _ h2)
  ·cases h2
   exact absurd rfl (hown _ _ _ h1)
  ·refine st.inj r r' b s s' h1 h2 (fun x hx=>ha x ?_) (fun x hx=>ha' x ?_)
   ·rw [List.getElem?_append_left (by have:=st.dom r _ h1;omega)];exact hx
   ·rw [List.getElem?_append_left (by have:=st.dom r' _ h2;omega)];exact hx
 ·intro r x hx
  unfold Mu.upd at hx
  split at hx
  ·simp;omega
  ·have:=st.dom r x hx;simp;omega
 ·intro r b s hx
  unfold Mu.upd at hx
  split at hx
  ·cases hx
   exact .inr (hz▸st0.le)
  ·exact stf.own r b s hx
structure Ahead (cx:Cx) (K:Kf) (N:Nat) (d:Nat) (t:TypeId) (vs:Array Value) (Kz:Kf) (tmps:Array Value):Prop where
 ex:∃(S:Nat→Prop) (μ:Mu) (e:Env) (h:Heap) (a0:Act) (w0:World),St cx K N S μ e h a0.tmps w0∧Kz=K.late { w0 with heap:=w0.heap.push (.cells vs t) } w0.heap.size∧tmps[d]?=some (.pointer (some ⟨w0.heap.size,0,none⟩))
theorem Ahead.moves {d:Nat}{t:TypeId}{vs:Array Value}{Kz:Kf}{tmps tmps':Array Value}(h:Ahead cx K N d t vs Kz tmps) (ht:tmps'[d]?=tmps[d]?):Ahead cx K N d t vs Kz tmps':=by
 obtain⟨S,μ,e,hh,a0,w0,h1,h2,h3⟩:=h
 exact⟨S,μ,e,hh,a0,w0,h1,h2,ht.trans h3⟩
theorem Ahead.forget {d:Nat}{t:TypeId}{vs:Array Value}{Kz:Kf}{tmps0 tmps:Array Value}(hk:Ahead cx K N d t vs Kz tmps0) (st:St cx Kz N S μ env h tmps w):St cx K N S μ env h tmps w:=by
 obtain⟨S0,μ0,e0,h0,a0,w0,h1,rfl,h3⟩:=hk
 exact st_forget (tmps:=tmps) rfl rfl h1 st
theorem Ahead.known {d n:Nat}{t:TypeId}{vs:Array Value}{Kz:Kf}{tmps:Array Value}(hk:Ahead cx K N d t vs Kz tmps) (st:St cx Kz N S μ env h tmps w) (hd:d<N) (hn:vs.size=n):∃μ',St cx K N S μ' ((d,.ptr h.length 0 0 0)::env) (h++[⟨.box,t,n,0,[vs.toList.map .val]⟩]) tmps w:=by
 obtain⟨S0,μ0,e0,h0,a0,w0,h1,rfl,h3⟩:=hk
 exact⟨_,st_known (tmps:=tmps) rfl rfl h1 st hd h3 hn⟩
theorem alloc_wp (st:St cx K N S μ env h a.tmps w) {o:Oper}{d:Nat}{t:TypeId}{z:Value}(hop:o.op = .alloc t) (hdst:o.dst=some d) (hd:d<N) (hz:cx.zero t=some z) {next:Act→World→Prop}{Q:Exit→Act→World→Prop}(hn:∀Kz a' w',Ahead cx K N d t z.cells Kz a'.tmps→St cx Kz N S μ (dropS d env) h a'.tmps w'→a'.defers=a.defers→next a' w'):o.wp cx.P a w next Q:=by
 have hrun:(execOp a.eval o).run cx.P w = .ok (.value (.pointer (some ⟨w.heap.size,0,none⟩))) { w with heap:=w.heap.push (.cells z.cells t) }:=by
  have hz':(zeroValue t).run cx.P w = .ok z w:=by
   unfold Cx.zero at hz
   obtain⟨i,h5,h6⟩:=bind_some_iff hz
   simp [zeroValue,typeInfo,h5,h6]
  obtain⟨dst,op,ty,pos,after,guard⟩:=o
  simp only at hop
  subst hop
  simp [execOp,Instr.alloc,hz',newVar,newRow]
 unfold Oper.wp
 rw [hrun,Oper.upon_value,hdst]
 refine hn _ _ _ ⟨S,μ,env,h,a,w,st,rfl,?_⟩ (st_late st) putK_defers
 simp only [Act.put]
 rw [Array.getElem?_setIfInBounds_self_of_lt (by rw [st.size];exact hd)]
theorem dropS_ne {d t:Nat}(hne:t≠d):∀ {e:Env},look (dropS d e) t=look e t
 | []=>rfl
 | (s,x)::e=>by
  unfold dropS
  simp only [List.filter_cons]
  cases hs:Nat.beq s d with
  |true =>
   simp only [Bool.not_true,Bool.false_eq_true,if_false,look]
   have:Nat.beq s t=false:=by
    cases hb:Nat.beq s t with
    |false=>rfl
    |true=>exact absurd ((ε hb).symm.trans (ε hs)) hne
   rw [this]
   exact dropS_ne hne (e:=e)
  |false =>
   simp only [Bool.not_false,if_true,look]
   split
   ·rfl
   ·exact dropS_ne hne (e:=e)
end
section
variable {cx:Cx}{F:EF}{K:Kf}{N:Nat}{h0:Heap}{TT:List Nat}{ops:Array Oper}{E:Nat→Env}{H:Nat→Heap}{V:Nat→AV}{M z d:Nat}{t:TypeId}{zv:Value}{oz:Oper}
structure Flo (cx:Cx) (N:Nat) (ops:Array Oper) (z d:Nat) (t:TypeId) (zv:Value) (oz:Oper):Prop extends FloatOk cx.P cx.turns ops z where
 at_:ops[z]?=some oz
 op:oz.op = .alloc t
 dz:oz.dst=some d
 gz:oz.guard=none
 free:∀x∈oz.after,¬Region.binds .any x=true
 plain:cx.rows t=false
 zero:cx.zero t=some zv
 lt:d<N
theorem Flo.zlt (f:Flo cx N ops z d t zv oz):z<ops.size:=(Array.getElem?_eq_some_iff.1 f.at_).1
theorem Flo.self (f:Flo cx N ops z d t zv oz):(anchor cx.turns ops z)[z]?=some (anchorOp (anchors cx.turns ops.toList 0 z) oz):=anchor_self f.at_
theorem Flo.eff (f:Flo cx N ops z d t zv oz):effOp cx.turns (anchorOp (anchors cx.turns ops.toList 0 z) oz)=true:=by
 unfold effOp anchorOp
 simp only [f.op]
theorem Flo.dst (f:Flo cx N ops z d t zv oz) {i:Nat}{o:Oper}(hi:i≠z) (ho:(anchor cx.turns ops z)[i]?=some o):o.dst≠some d:=fun hd=>hi (f.qa.uniq ho f.self hd f.dz)
theorem Flo.dst' (f:Flo cx N ops z d t zv oz) {i:Nat}(hi:i≠z):∀o,ops[i]?=some o→o.dst≠some d:=fun o ho=>f.dst hi (by rw [anchor_ne hi];exact ho)
theorem wanted_none {o:Oper}{y:Nat→Option Bool}(hg:o.guard=none):Region.wanted o y=true:=by unfold Region.wanted;rw [hg]
theorem any_late (hF:FnSound cx F) (hO:OP cx F) (hX:ExtSound cx) (f:Flo cx N ops z d t zv oz) (hl:∀(k:Nat) (o:Oper),k<ops.size→(anchor cx.turns ops z)[k]?=some o→Lex cx F N false [] [] (anchor cx.turns ops z) o (E k) (H k) (V k) (E (k+1)) (H (k+1)))
  (hE0:∀v,look (E 0) d≠some v) {Q:Exit→Act→World→Prop}{a0:Act}(hq:∀S μ a w,St cx K N S μ (E ops.size) (H ops.size) a.tmps w→a.defers=a0.defers→Q .normal a w) {Kz:Kf} :
  ∀(fuel:Nat) (listed lz:Array Bool) (a:Act) (w:World),unl listed ops.size=fuel→AnyInv cx Kz N ops.size (anchor cx.turns ops z) E H V lz a w→Ahead cx K N d t zv.cells Kz a.tmps→listed.size=ops.size→listed.getD z false=true→lz.getD z false=false →
   (∀j,j≠z→listed.getD j false=lz.getD j false)→(∀j,z<j→lz.getD j false=false)→Closed ops listed→a.defers=a0.defers→wpAny cx.P .any ops Q fuel listed a w
 |fuel,listed,lz,a,w,hu,inv,ah,hsz,hz,hlz,heq,hlM,hcl,hd=>by
  have hMs:ops.size≤(anchor cx.turns ops z).size:=by rw [anchor_size];exact Nat.le_refl _
  have hzs:=f.zlt
  by_cases hall:∀i∈anchors cx.turns ops.toList 0 z,listed.getD i false=true
  ·obtain⟨hs2,hc2,S,μ,e,m,st,hm,heff,henv0,henv⟩:=inv
   have effz:∀j o,j<z→(anchor cx.turns ops z)[j]?=some o→effOp cx.turns o=true→listed.getD j false=true:=fun j o hj ho he=>by
    refine hall j (anchors_spec.2 ⟨Nat.zero_le _,by omega,o,?_,(f.od j o ho he).1⟩)
    rw [anchor_ne (by omega)] at ho
    simpa using ho
   have hmz:m≤z:=by
    rcases Nat.lt_or_ge z m with h |h
    ·have:=(heff z _ f.self f.eff).2 h
     rw [hlz] at this
     cases this
    ·exact h
   have hH:H z=H m:=lex_heap (D:=fun _=>false) hMs (fun k o hk ho => .inl (hl k o hk ho)) z hmz (by omega) fun j oj h1 h2 hj=>by
    cases he:effOp cx.turns oj with
    |false=>rfl
    |true =>
     have h3:=effz j oj h2 hj he
     rw [heq j (by omega)] at h3
     have:=(heff j oj hj he).1 h3
     omega
   obtain⟨n,hn,hHz,hVz⟩:∃n,zv.cells.size=n∧H (z+1)=H z++[⟨.box,t,n,0,[zv.cells.toList.map .val]⟩]∧V z = .ptr (H z).length 0 0 0:=by
    have lx:=hl z _ hzs f.self
    have hfr:freeOp (anchorOp (anchors cx.turns ops.toList 0 z) oz)=false:=by
     unfold freeOp anchorOp
     simp only [f.op]
    have:=(lx.bound hfr rfl).1
    unfold oneV at this
    rw [show(anchorOp (anchors cx.turns ops.toList 0 z) oz).guard=none from f.gz] at this
    simp only [stepV,show(anchorOp (anchors cx.turns ops.toList 0 z) oz).op = .alloc t from f.op,f.plain,cond_false,f.zero,Option.bind_some] at this
    obtain⟨n,_,this⟩:=bind_some_iff this
    split at this
    ·rename_i hlen
     have hn:=ε hlen
     simp only [Option.some.injEq,Prod.mk.injEq] at this
     exact⟨n,by simpa [zcells] using hn,this.2.symm,this.1.symm⟩
    ·cases this
   rw [←hH] at st
   obtain⟨μ',st'⟩:=ah.known st f.lt hn
   rw [←hHz,←hVz] at st'
   refine any_anchor fuel listed a w (by rw [getD_tf (by omega) true false];exact hz) (any_wp hF hO hX f.qa f.od (fun hx=>by cases hx) (anchor_size _ _ _).symm (fun k o hk ho => .inl (hl k o hk ho)) hq fuel listed a w (by rw [anchor_size];exact hu) ⟨by rw [anchor_size];exact hsz,fun x y hw hy=> ?_,S,μ',_,z+1,st',hzs,fun j oj hj he=> ?_,fun t' v ht hno=> ?_,fun k o t' hk ho hdt=> ?_⟩ hd)
   ·by_cases hyz:y=z
    ·subst hyz
     obtain⟨o2,ho2,e2,he2,hb,rfl⟩:=hw
     rw [f.self] at ho2
     cases ho2
     simp only [anchorOp,List.mem_toArray,List.mem_append,List.mem_map] at he2
     rcases he2 with he2 |⟨i,hi,rfl⟩
     ·exact absurd hb (f.free e2 (by simpa using he2))
     ·exact hall i hi
    ·obtain⟨o2,ho2,hw⟩:=hw
     rw [anchor_ne hyz] at ho2
     exact hcl x y ⟨o2,ho2,hw⟩ hy
   ·by_cases hjz:j=z
    ·subst hjz
     exact⟨fun _=>Nat.lt_succ_self _,fun _=>hz⟩
    ·rcases Nat.lt_or_gt_of_ne hjz with h |h
     ·exact⟨fun _=>by omega,fun _=>effz j oj h hj he⟩
     ·refine⟨fun hx=> ?_,fun hx=>by omega⟩
      rw [heq j hjz,hlM j h] at hx
      cases hx
   ·have htd:t'≠d:=fun hx=>by
     subst hx
     exact hE0 v ht
    simp only [look]
    rw [show Nat.beq d t'=false from by
     cases hb:Nat.beq d t' with
     |false=>rfl
     |true=>exact absurd (ε hb).symm htd]
    refine henv0 t' v ht fun k o ho hdt=> ?_
    have:=hno k o ho hdt
    by_cases hkz:k=z
    ·subst hkz;exact hlz
    ·rw [←heq k hkz];exact this
   ·by_cases hkz:k=z
    ·subst hkz
     rw [f.self] at ho
     cases ho
     have:d=t':=by
      have:=f.dz.symm.trans hdt
      cases this
      rfl
     subst this
     simp only [look,Nat.beq_refl]
    ·have htd:t'≠d:=fun hx=>f.dst hkz ho (by rw [hdt,hx])
     simp only [look]
     rw [show Nat.beq d t'=false from by
      cases hb:Nat.beq d t' with
      |false=>rfl
      |true=>exact absurd (ε hb).symm htd]
     exact henv k o t' (by rw [←heq k hkz];exact hk) ho hdt
  ·cases fuel with
   |zero =>
    refine absurd (fun i hi=> ?_) hall
    obtain⟨_,h2,_⟩:=anchors_spec.1 hi
    rw [getD_tf (by omega) false true]
    exact unl_zero hu i (by omega)
   |succ fuel =>
    refine⟨fun hr=> ?_,fun i hi=> ?_⟩
    ·refine absurd (fun i hi=> ?_) hall
     obtain⟨_,h2,_⟩:=anchors_spec.1 hi
     rw [getD_tf (by omega) false true]
     exact ready_none f.q hsz hr i (by omega)
    ·obtain⟨k1,oi,hoi,hall2⟩:=mem_ready.1 hi
     have his:i<ops.size:=(Array.getElem?_eq_some_iff.1 hoi).1
     have hiz:i≠z:=fun hx=>by
      subst hx
      rw [getD_tf (by omega) true false,hz] at k1
      cases k1
     have hiM:i<z:=by
      rcases Nat.lt_or_gt_of_ne hiz with h |h
      ·exact h
      ·exact absurd (f.back hcl i oi h hoi hall2).2 hall
     have hcl':Closed ops (listed.setIfInBounds i true):=fun x y hw hy=>by
      by_cases hyi:y=i
      ·subst hyi
       obtain⟨o2,ho2,e2,he2,hb,hon⟩:=hw
       rw [hoi] at ho2
       cases ho2
       have:=hall2 e2 he2 hb
       rw [hon] at this
       exact getD_set_true this
      ·rw [getD_set_ne false (Ne.symm hyi)] at hy
       exact getD_set_true (hcl x y hw hy)
     have hri:i∈Region.ready .any (anchor cx.turns ops z) lz:=by
      have hs2:=inv.size
      rw [anchor_size] at hs2
      refine mem_ready.2 ⟨?_,oi,by rw [anchor_ne hiz];exact hoi,fun e2 he2 hb=> ?_⟩
      ·rw [getD_tf (by omega) true false,←heq i hiz,getD_tf (by omega) false true]
       exact k1
      ·have:=f.q.dep hoi e2 he2 hb
       rw [←heq _ (by omega)]
       exact hall2 e2 he2 hb
     refine wpOp_tmps (f.dst' hiz) (wpOp_anchor (tf:=cx.turns) hiz ?_)
     refine inv.next (D:=fun _=>false) hF hO hX f.qa f.od (fun hx=>by cases hx) hMs (fun k o hk ho => .inl (hl k o hk ho)) rfl (fun _ _=>rfl) his hri fun a' w' inv' hd' htm=>any_late hF hO hX f hl hE0 hq fuel _ _ a' w' ?_ inv' (ah.moves htm) (by simp [hsz]) ?_ ?_ (fun j hj=> ?_) (fun j hj=> ?_) hcl' (hd'.trans hd)
     ·have:=unl_set k1 ops.size
      rw [if_pos his] at this
      omega
     ·rw [getD_set_ne false hiz];exact hz
     ·rw [getD_set_ne false hiz];exact hlz
     ·have hs2:=inv.size
      rw [anchor_size] at hs2
      by_cases hji:j=i
      ·subst hji
       simp [show j<listed.size by omega,show j<lz.size by omega]
      ·rw [getD_set_ne false (Ne.symm hji),getD_set_ne false (Ne.symm hji)];exact heq j hj
     ·rw [getD_set_ne false (by omega:i≠j)];exact hlM j hj
theorem any_free (hF:FnSound cx F) (hO:OP cx F) (hX:ExtSound cx) (f:Flo cx N ops z d t zv oz) (hl:∀(k:Nat) (o:Oper),k<ops.size→(anchor cx.turns ops z)[k]?=some o→Lex cx F N false [] [] (anchor cx.turns ops z) o (E k) (H k) (V k) (E (k+1)) (H (k+1)))
  (hE0:∀v,look (E 0) d≠some v) {Q:Exit→Act→World→Prop}{a0:Act}(hq:∀S μ a w,St cx K N S μ (E ops.size) (H ops.size) a.tmps w→a.defers=a0.defers→Q .normal a w) :
  ∀(fuel:Nat) (listed:Array Bool) (a:Act) (w:World),unl listed ops.size=fuel→AnyInv cx K N ops.size (anchor cx.turns ops z) E H V listed a w→(∀j,z≤j→listed.getD j false=false)→a.defers=a0.defers→wpAny cx.P .any ops Q fuel listed a w
 |fuel,listed,a,w,hu,inv,hlM,hd=>by
  have hsz:listed.size=ops.size:=by rw [inv.size,anchor_size]
  have hMs:ops.size≤(anchor cx.turns ops z).size:=by rw [anchor_size];exact Nat.le_refl _
  have hzs:=f.zlt
  have hzf:listed.getD z true=false:=by rw [getD_tf (by omega) true false];exact hlM z (Nat.le_refl _)
  have hcl:Closed ops listed:=fun x y hw hy=>by
   have hyz:y≠z:=fun hx=>by
    subst hx
    rw [hlM y (Nat.le_refl _)] at hy
    cases hy
   obtain⟨o2,ho2,hw⟩:=hw
   exact inv.closed x y ⟨o2,by rw [anchor_ne hyz];exact ho2,hw⟩ hy
  cases fuel with
  |zero =>
   have:=unl_zero hu z hzs
   rw [hzf] at this
   cases this
  |succ fuel =>
   refine⟨fun hr=> ?_,fun i hi=> ?_⟩
   ·have:=ready_none f.q hsz hr z hzs
    rw [hzf] at this
    cases this
   ·obtain⟨k1,oi,hoi,hall2⟩:=mem_ready.1 hi
    have his:i<ops.size:=(Array.getElem?_eq_some_iff.1 hoi).1
    have hfu:unl (listed.setIfInBounds i true) ops.size=fuel:=by
     have:=unl_set k1 ops.size
     rw [if_pos his] at this
     omega
    have hcl':Closed ops (listed.setIfInBounds i true):=fun x y hw hy=>by
     by_cases hyi:y=i
     ·subst hyi
      obtain⟨o2,ho2,e2,he2,hb,hon⟩:=hw
      rw [hoi] at ho2
      cases ho2
      have:=hall2 e2 he2 hb
      rw [hon] at this
      exact getD_set_true this
     ·rw [getD_set_ne false (Ne.symm hyi)] at hy
      exact getD_set_true (hcl x y hw hy)
    by_cases hiz:i=z
    ·subst hiz
     unfold wpOp
     rw [f.at_]
     simp only
     rw [if_pos (wanted_none f.gz)]
     obtain⟨hsz',hcl2,S,μ,e0,m,st,hm,heff,henv0,henv⟩:=inv
     refine .inl (alloc_wp st f.op f.dz f.lt f.zero fun Kz a' w' ah st' hd2=> ?_)
     refine any_late hF hO hX f hl hE0 hq fuel _ listed a' w' hfu ⟨hsz',hcl2,S,μ,_,m,st',hm,heff,fun t' v ht hno=> ?_,fun k o t' hk ho hdt=> ?_⟩ ah (by simp [hsz]) (by simp [show i<listed.size by omega]) (hlM i (Nat.le_refl _)) (fun j hj=>getD_set_ne false (Ne.symm hj)) (fun j hj=>hlM j (by omega)) hcl' (hd2.trans hd)
     ·rw [dropS_ne (fun hx=>by subst hx;exact hE0 v ht)]
      exact henv0 t' v ht hno
     ·have hki:k≠i:=fun hx=>by
       subst hx
       rw [hlM k (Nat.le_refl _)] at hk
       cases hk
      rw [dropS_ne (fun hx=>f.dst hki ho (by rw [hdt,hx]))]
      exact henv k o t' hk ho hdt
    ·have hiM:i<z:=by
      rcases Nat.lt_or_gt_of_ne hiz with h |h
      ·exact h
      ·have:=(f.back hcl i oi h hoi hall2).1
       rw [hlM z (Nat.le_refl _)] at this
       cases this
     refine wpOp_anchor (tf:=cx.turns) hiz ?_
     refine inv.next (D:=fun _=>false) hF hO hX f.qa f.od (fun hx=>by cases hx) hMs (fun k o hk ho => .inl (hl k o hk ho)) rfl (fun _ _=>rfl) his ((ready_anchor hiz).2 hi) fun a' w' inv' hd'=>any_free hF hO hX f hl hE0 hq fuel _ a' w' hfu inv' (fun j hj=> ?_) (hd'.trans hd)
     rw [getD_set_ne false (by omega:i≠j)];exact hlM j hj
theorem region_float (hF:FnSound cx F) (hO:OP cx F) (hX:ExtSound cx) {S:Nat→Prop}{μ:Mu}{env env':Env}{h h':Heap}{e:JX}{a:Act}{w:World}(st:St cx K N S μ env h a.tmps { w with drawn:=w.drawn+1 }) {id:Nat}(hr:floatRun cx F N ops env h (fun e env h=>some (e,env,h))=some (e,env',h')) {Q:Exit→Act→World→Prop}(hq:∀S' μ' a' w',St cx K N S' μ' env' h' a'.tmps w'→a'.defers=a.defers→Q e.toExit a' w'):(Code.region id ops true).wp cx.P Q a w:=by
 unfold floatRun at hr
 obtain⟨z,hfi,hr1⟩:=bind_some_iff hr
 obtain⟨oz,hoz,hr2⟩:=bind_some_iff hr1
 obtain⟨d,hd,hr3⟩:=bind_some_iff hr2
 clear hr hr1 hr2
 have hr:=hr3
 clear hr3
 split at hr
 ·rename_i t hop
  cases hfl:(floatOk cx.P cx.turns ops z&&(!cx.rows t&&(Nat.blt d N&&(cx.zero t).isSome))) with
  |false=>rw [hfl] at hr;cases hr
  |true =>
   rw [hfl] at hr
   simp only [cond_true] at hr
   simp only [Bool.and_eq_true,Bool.not_eq_true'] at hfl
   obtain⟨hf1,hf2,hf3,hf4⟩:=hfl
   obtain⟨zv,hzv⟩:=Option.isSome_iff_exists.1 hf4
   have fo:=floatOk_spec hf1
   obtain⟨_,o',ho',hif⟩:=floatIn_spec hfi
   obtain⟨_,_,hgz,hfree⟩:=isFloat_spec hif
   have:o'=oz:=by
    rw [Nat.sub_zero] at ho'
    have:ops.toList[z]?=some oz:=by simpa using hoz
    rw [ho'] at this
    cases this
    rfl
   subst this
   have hdN:d<N:=by
    have:Nat.ble (d+1) N=true:=hf3
    exact Nat.le_of_ble_eq_true this
   have f:Flo cx N ops z d t zv o':= { fo with at_:=hoz,op:=hop,dz:=hd,gz:=hgz,free:=hfree,plain:=hf2,zero:=hzv,lt:=hdN }
   obtain⟨⟨env1,h1⟩,h2,h3,_⟩:=runAny_pkl (G:=fun _=>F) (fun _ _ _ r hr=>⟨0,fun _ _=>hr⟩) cx N false [] [] (anchor cx.turns ops z) _ (dropS d env) h _ (fun x=>some (JX.normal,x.1,x.2)) _ hr
   cases h2
   have h3:=h3 _ fun x=>some x
   obtain⟨E,H,V,g1,g2,g3,g4,g5⟩:=runAny_lex h3
   have hsz:(anchor cx.turns ops z).toList.length=ops.size:=by rw [Array.length_toList,anchor_size]
   rw [hsz] at g3 g4
   have hl:∀(k:Nat) (o:Oper),k<ops.size→(anchor cx.turns ops z)[k]?=some o→Lex cx F N false [] [] (anchor cx.turns ops z) o (E k) (H k) (V k) (E (k+1)) (H (k+1)):=fun k o _ ho=>g5 k o (by simpa using ho)
   have hz0':∀j,(Array.replicate ops.size false).getD j false=false:=fun j=>getD_replicate_false _ _
   refine wp_region_any f.follows (any_free (K:=K) (E:=E) (H:=H) (V:=V) hF hO hX f hl (fun v hv=> ?_) (fun S' μ' a' w' st' hd'=>hq S' μ' a' w' (by rw [←g3,←g4];exact st') hd') ops.size _ a _ (unl_replicate _ _ (Nat.le_refl _)) ?_ (fun j _=>hz0' j) rfl)
   ·rw [g1] at hv
    exact(dropS_look hv).1 rfl
   ·refine⟨by simp [anchor_size],fun i j hw hj=> ?_,S,μ,env,0,by rw [g2];exact st,Nat.zero_le _,fun j o hj he=> ?_,fun t v ht _=>by rw [g1] at ht;exact(dropS_look ht).2,fun k o t hk=> ?_⟩
    ·rw [hz0' j] at hj;cases hj
    ·rw [hz0' j];exact⟨(fun hx=>by cases hx),fun hx=>by omega⟩
    ·rw [hz0' k] at hk;cases hk
 ·cases hr
end
end Go.Proofs.Av
