/- The state in which a function's code is, and how operations that write keep it. -/
import Derived.Test.YtoepfmodbhfckaaAzH
import Derived.Test.YtoepfmodbhfckaaAzD
namespace Go.Proofs.Av
open Go
structure OutD (cx:Cx) (w0 w:World):Prop where
 out:w.output=w0.output
 drawn:(∀f,cx.ovr f=none∧(cx.rul f).isNone=true)→w0.drawn≤w.drawn
theorem OutD.refl {cx:Cx}(w:World):OutD cx w w:=⟨rfl,fun _=>Nat.le_refl _⟩
theorem OutD.trans {cx:Cx}{w0 w w':World}(h:OutD cx w w') (k:OutD cx w0 w):OutD cx w0 w':=⟨h.out.trans k.out,fun hc=>Nat.le_trans (k.drawn hc) (h.drawn hc)⟩
structure Kf where
 w0:World
 S0:Nat→Prop
 O0:Nat→Prop
 fix:Mu
def alive (h:Heap) (r:Nat):Prop:=∀o:Ob,h[r]?=some o→o.k ≠ .dead
structure St (cx:Cx) (K:Kf) (N:Nat) (S:Nat→Prop) (μ:Mu) (env:Env) (h:Heap) (tmps:Array Value) (w:World):Prop where
 size:tmps.size=N
 env:EnvRel S w μ env tmps
 g:GRel cx S w
 heap:HRel S w μ h
 inj:∀r r' b s s',μ r=some (b,s)→μ r'=some (b,s')→alive h r→alive h r'→r=r'
 dom:∀r x,μ r=some x→r<h.length
 own:∀r b s,μ r=some (b,s)→K.O0 b∨K.w0.heap.size≤b
 s0:∀b,K.S0 b→S b
 snew:∀b,S b→K.S0 b∨K.O0 b∨K.w0.heap.size≤b
 slt:∀b,S b→b<w.heap.size
 frame:∀b,b<K.w0.heap.size→¬K.O0 b→w.heap[b]?=K.w0.heap[b]?
 le:K.w0.heap.size≤w.heap.size
 os:w.os=K.w0.os
 tape:w.tape=K.w0.tape
 output:OutD cx K.w0 w
 fix:∀r x,K.fix r=some x→μ r=some x
section
variable {cx:Cx}{K:Kf}{N:Nat}{S:Nat→Prop}{μ:Mu}{env:Env}{h:Heap}{tmps:Array Value}{w:World}
theorem St.lt (st:St cx K N S μ env h tmps w) {r b:Nat}{s:Nat×Nat}(hμ:μ r=some (b,s)):b<w.heap.size:=by
 have hr:=st.dom r _ hμ
 exact st.heap.lt (List.getElem?_eq_getElem hr) hμ
theorem ObRel.mono {S':Nat→Prop}{w':World}{μ':Mu}{r:Nat}{o:Ob}(ho:ObRel S w μ r o) (hS:∀b,S b→S' b) (hw:∀b,S b→w'.heap[b]?=w.heap[b]?) (hμ:∀r x,μ r=some x→μ' r=some x) (hb:∀b s,μ r=some (b,s)→w'.heap[b]?=w.heap[b]?) (hn:∀b s,μ r=some (b,s)→¬S b→¬S' b):ObRel S' w' μ' r o:=by
 obtain⟨b,vs,t,C,h1,h2,h3,h4,h5,h5',h6,h7⟩:=ho.ex
 refine⟨b,vs,t,C,hμ _ _ h1,by rw [hb b _ h1];exact h2,fun hk=>hS b (h3 hk),fun hk=>hn b _ h1 (h4 hk),h5,h5',h6,fun i j e v he hv=> ?_⟩
 obtain⟨u,hu,hr⟩:=h7 i j e v he hv
 refine⟨u,hu,hr.mono hS hw fun r x hx=> ?_⟩
 unfold Ob.mu at hx ⊢
 cases hk:o.k<;>rw [hk] at hx<;>first |exact hμ r x hx |cases hx
theorem ObR.mono {S':Nat→Prop}{w':World}{μ':Mu}{r:Nat}{o:Ob}(ho:ObR S w μ r o) (hS:∀b,S b→S' b) (hw:∀b,S b→w'.heap[b]?=w.heap[b]?) (hμ:∀r x,μ r=some x→μ' r=some x) (hr:μ' r=μ r) (hle:w.heap.size≤w'.heap.size) (hb:o.k ≠ .dead→∀b s,μ r=some (b,s)→w'.heap[b]?=w.heap[b]?) (hn:∀b s,μ r=some (b,s)→¬S b→¬S' b):ObR S' w' μ' r o:=by
 rcases ho with⟨h1,h2,h3⟩ |⟨h1,h2,h3⟩ |⟨h1,h2⟩
 ·exact .inl ⟨h1,h2,fun b s C hx=>by
   rw [hr] at hx
   have:=h3 b s C hx
   exact⟨Nat.lt_of_lt_of_le this.1 hle,this.2⟩⟩
 ·exact .inr (.inl ⟨h1,h2,hr.trans h3⟩)
 ·exact .inr (.inr ⟨h1,h2.mono hS hw hμ (hb h1) hn⟩)
theorem St.ext (st:St cx K N S μ env h tmps w) {w':World}{S':Nat→Prop}(hx:Ext w w') (hle:w.heap.size≤w'.heap.size) (h1:w'.os=w.os) (h2:w'.tape=w.tape) (h3:OutD cx w w')
  (hS:∀b,S b→S' b) (hn:∀b,S' b→S b∨w.heap.size≤b) (hl:∀b,S' b→b<w'.heap.size):St cx K N S' μ env h tmps w' where
 size:=st.size
 env t v ht:=(st.env t v ht).mono hS (fun b hb=>hx b (st.slt b hb)) fun _ _ h=>h
 g g cs hg:=(st.g g cs hg).mono hS (fun b hb=>hx b (st.slt b hb)) fun _ _ h=>h
 heap r o ho:=(st.heap r o ho).mono hS (fun b hb=>hx b (st.slt b hb)) (fun _ _ h=>h) rfl hle (fun _ b s hb=>hx b (st.lt hb)) fun b s hb hns hs=>by
  rcases hn b hs with h |h
  ·exact hns h
  ·have:=st.lt hb;omega
 inj:=st.inj
 dom:=st.dom
 own:=st.own
 s0 b hb:=hS b (st.s0 b hb)
 snew b hb:=by
  rcases hn b hb with h |h
  ·exact st.snew b h
  ·exact .inr (.inr (Nat.le_trans st.le h))
 slt:=hl
 frame b hb ho:=by rw [hx b (Nat.lt_of_lt_of_le hb st.le)];exact st.frame b hb ho
 le:=Nat.le_trans st.le hle
 os:=h1.trans st.os
 tape:=h2.trans st.tape
 output:=h3.trans st.output
 fix:=st.fix
theorem St.put (st:St cx K N S μ env h tmps w) {d:Nat}{v:AV}{c:Value}(hd:d<N) (hr:Rep S w μ v c):St cx K N S μ ((d,v)::env) h (tmps.setIfInBounds d c) w where
 size:=by simp [st.size]
 env t x ht:=by
  unfold look at ht
  split at ht
  ·rename_i hb
   have:=Nat.eq_of_beq_eq_true hb
   subst this
   cases ht
   have:d<tmps.size:=by rw [st.size];exact hd
   simp [Array.getD,this]
   exact hr
  ·rename_i hb
   have hne:d≠t:=fun h=>by subst h;simp at hb
   have:=st.env t x ht
   simpa [Array.getD_eq_getD_getElem?,Array.getElem?_setIfInBounds_ne hne] using this
 g:=st.g
 heap:=st.heap
 inj:=st.inj
 dom:=st.dom
 own:=st.own
 s0:=st.s0
 snew:=st.snew
 slt:=st.slt
 frame:=st.frame
 le:=st.le
 os:=st.os
 tape:=st.tape
 output:=st.output
 fix:=st.fix
theorem St.putO (st:St cx K N S μ env h tmps w) {d:Option Tmp}{v:AV}{c:Value}{env':Env}{a:Act}(ha:a.tmps=tmps) (hp:putK N d v env some=some env') (hr:Rep S w μ v c):St cx K N S μ env' h (a.put d c).tmps w:=by
 unfold putK at hp
 subst ha
 split at hp
 ·cases hp
  exact st
 ·split at hp
  ·rename_i hb
   cases hp
   simp only [Act.put]
   exact st.put (by
    have:Nat.ble (_+1) _=true:=hb
    exact Nat.le_of_ble_eq_true this) hr
  ·cases hp
theorem putK_defers {a:Act}{d:Option Tmp}{c:Value}:(a.put d c).defers=a.defers:=by
 unfold Act.put;split<;>rfl
def Mu.upd (μ:Mu) (r:Nat) (x:Nat×Nat×Nat):Mu:=fun i=>if i=r then some x else μ i
theorem St.alloc (st:St cx K N S μ env h tmps w) {o:Ob}{vs:Array Value}{t:TypeId}(hk:o.k = .box) (hes:∃cs,o.es=[cs]∧cs.length=o.sz∧Reps S w μ cs vs.toList):St cx K N S (μ.upd h.length (w.heap.size,o.sz,0)) env (h++[o]) tmps { w with heap:=w.heap.push (.cells vs t) }:=by
 obtain⟨cs,he,hsz,hr⟩:=hes
 have hfresh:μ h.length=none:=by
  cases hx:μ h.length with
  |none=>rfl
  |some x=>have:=st.dom _ _ hx;omega
 have hμ:∀r x,μ r=some x→μ.upd h.length (w.heap.size,o.sz,0) r=some x:=fun r x hx=>by
  unfold Mu.upd
  rw [if_neg (by intro e;subst e;rw [hfresh] at hx;cases hx)]
  exact hx
 have hext:∀b,b<w.heap.size→(w.heap.push (.cells vs t))[b]?=w.heap[b]?:=fun b hb=>by
  rw [Array.getElem?_push,if_neg (by omega)]
 have hvs:vs.size=o.sz:=by have:=hr.1;simp at this;omega
 refine⟨st.size,fun t v ht=>(st.env t v ht).mono (fun _ h=>h) (fun b hb=>hext b (st.slt b hb)) hμ,fun g cs hg=>(st.g g cs hg).mono (fun _ h=>h) (fun b hb=>hext b (st.slt b hb)) fun _ _ h=>h,?_,?_,?_,?_,st.s0,st.snew,?_,?_,?_,st.os,st.tape,⟨st.output.out,st.output.drawn⟩,fun r x hx=>hμ r x (st.fix r x hx)⟩
 ·intro r o' ho'
  by_cases hrl:r<h.length
  ·rw [List.getElem?_append_left hrl] at ho'
   exact(st.heap r o' ho').mono (fun _ h=>h) (fun b hb=>hext b (st.slt b hb)) hμ (by unfold Mu.upd;rw [if_neg (by omega)]) (by simp) (fun _ b s hb=>hext b (st.lt hb)) fun _ _ _ h=>h
  ·rw [List.getElem?_append_right (by omega)] at ho'
   have hr0:r=h.length:=by
    have:=(List.getElem?_eq_some_iff.1 ho').1
    simp at this
    omega
   subst hr0
   simp at ho'
   subst ho'
   refine .inr (.inr ⟨by rw [hk];simp,⟨w.heap.size,vs,t,0,by simp [Mu.upd],by simp,fun h=>(by rw [hk] at h;cases h),fun _ hs=>(by have:=st.slt _ hs;omega),by rw [he];simp;omega,fun h=>(by rw [hk] at h;cases h),fun i e hie=> ?_,fun i j e v hie hv=> ?_⟩⟩)
   ·rw [he] at hie
    cases i with
    |zero=>simp at hie;subst hie;exact hsz
    |succ i=>simp at hie
   ·rw [he] at hie
    cases i with
    |zero =>
     simp at hie
     subst hie
     obtain⟨u,hu,hru⟩:=hr.get hv
     refine⟨u,by simpa using hu,?_⟩
     unfold Ob.mu
     rw [hk]
     exact hru.mono (fun _ h=>h) (fun b hb=>hext b (st.slt b hb)) hμ
    |succ i=>simp at hie
 ·intro r r' b s s' h1 h2 ha ha'
  unfold Mu.upd at h1 h2
  split at h1<;>split at h2
  ·omega
  ·cases h1
   have:=st.lt h2;omega
  ·cases h2
   have:=st.lt h1;omega
  ·refine st.inj r r' b s s' h1 h2 (fun x hx=>ha x ?_) (fun x hx=>ha' x ?_)
   ·rw [List.getElem?_append_left (by have:=st.dom r _ h1;omega)];exact hx
   ·rw [List.getElem?_append_left (by have:=st.dom r' _ h2;omega)];exact hx
 ·intro r x hx
  unfold Mu.upd at hx
  split at hx
  ·simp;omega
  ·have:=st.dom r x hx;simp;omega
 ·intro r b s hx
  unfold Mu.upd at hx
  split at hx
  ·cases hx;exact .inr st.le
  ·exact st.own r b s hx
 ·intro b hb
  have:=st.slt b hb
  simp;omega
 ·intro b hb ho
  show(w.heap.push _)[b]?=_
  rw [hext b (Nat.lt_of_lt_of_le hb st.le)]
  exact st.frame b hb ho
 ·have:=st.le
  simp;omega
theorem St.allocR (st:St cx K N S μ env h tmps w) {o:Ob}{vs:Array Value}{t:TypeId}{C:Nat}(hk:o.k = .box) (hsz:o.es.length*o.sz≤vs.size) (hel:∀(i:Nat) (e:List AV),o.es[i]?=some e→e.length=o.sz) (hrr:∀(i j:Nat) (e:List AV) (v:AV),o.es[i]?=some e→e[j]?=some v→∃u,vs[i*o.sz+j]?=some u∧Rep S w μ v u):St cx K N S (μ.upd h.length (w.heap.size,o.sz,C)) env (h++[o]) tmps { w with heap:=w.heap.push (.cells vs t) }:=by
 have hfresh:μ h.length=none:=by
  cases hx:μ h.length with
  |none=>rfl
  |some x=>have:=st.dom _ _ hx;omega
 have hμ:∀r x,μ r=some x→μ.upd h.length (w.heap.size,o.sz,C) r=some x:=fun r x hx=>by
  unfold Mu.upd
  rw [if_neg (by intro e;subst e;rw [hfresh] at hx;cases hx)]
  exact hx
 have hext:∀b,b<w.heap.size→(w.heap.push (.cells vs t))[b]?=w.heap[b]?:=fun b hb=>by
  rw [Array.getElem?_push,if_neg (by omega)]
 refine⟨st.size,fun t v ht=>(st.env t v ht).mono (fun _ h=>h) (fun b hb=>hext b (st.slt b hb)) hμ,fun g cs hg=>(st.g g cs hg).mono (fun _ h=>h) (fun b hb=>hext b (st.slt b hb)) fun _ _ h=>h,?_,?_,?_,?_,st.s0,st.snew,?_,?_,?_,st.os,st.tape,⟨st.output.out,st.output.drawn⟩,fun r x hx=>hμ r x (st.fix r x hx)⟩
 ·intro r o' ho'
  by_cases hrl:r<h.length
  ·rw [List.getElem?_append_left hrl] at ho'
   exact(st.heap r o' ho').mono (fun _ h=>h) (fun b hb=>hext b (st.slt b hb)) hμ (by unfold Mu.upd;rw [if_neg (by omega)]) (by simp) (fun _ b s hb=>hext b (st.lt hb)) fun _ _ _ h=>h
  ·rw [List.getElem?_append_right (by omega)] at ho'
   have hr0:r=h.length:=by
    have:=(List.getElem?_eq_some_iff.1 ho').1
    simp at this
    omega
   subst hr0
   simp at ho'
   subst ho'
   refine .inr (.inr ⟨by rw [hk];simp,⟨w.heap.size,vs,t,C,by simp [Mu.upd],by simp,fun h=>(by rw [hk] at h;cases h),fun _ hs=>(by have:=st.slt _ hs;omega),hsz,fun h=>(by rw [hk] at h;cases h),hel,fun i j e v hie hv=> ?_⟩⟩)
   obtain⟨u,hu,hru⟩:=hrr i j e v hie hv
   refine⟨u,hu,?_⟩
   unfold Ob.mu
   rw [hk]
   exact hru.mono (fun _ h=>h) (fun b hb=>hext b (st.slt b hb)) hμ
 ·intro r r' b s s' h1 h2 ha ha'
  unfold Mu.upd at h1 h2
  split at h1<;>split at h2
  ·omega
  ·cases h1
   have:=st.lt h2;omega
  ·cases h2
   have:=st.lt h1;omega
  ·refine st.inj r r' b s s' h1 h2 (fun x hx=>ha x ?_) (fun x hx=>ha' x ?_)
   ·rw [List.getElem?_append_left (by have:=st.dom r _ h1;omega)];exact hx
   ·rw [List.getElem?_append_left (by have:=st.dom r' _ h2;omega)];exact hx
 ·intro r x hx
  unfold Mu.upd at hx
  split at hx
  ·simp;omega
  ·have:=st.dom r x hx;simp;omega
 ·intro r b s hx
  unfold Mu.upd at hx
  split at hx
  ·cases hx;exact .inr st.le
  ·exact st.own r b s hx
 ·intro b hb
  have:=st.slt b hb
  simp;omega
 ·intro b hb ho
  show(w.heap.push _)[b]?=_
  rw [hext b (Nat.lt_of_lt_of_le hb st.le)]
  exact st.frame b hb ho
 ·have:=st.le
  simp;omega
end
end Go.Proofs.Av
