/- A region whose order is drawn: whatever the order, what its text's order comes to. -/
import Derived.Test.YtoepfmodbhfckaaAzNa
namespace Go.Proofs.Av
open Go
open Nat renaming eq_of_beq_eq_true→ε
open Option renaming bind_some→χ
def ext (d:Option Nat) (v:AV) (e:Env):Env:=match d with
 |none=>e
 |some d=>(d,v)::e
theorem putK_ext {N:Nat}{d:Option Nat}{v:AV}{e e1:Env}(h:putK N d v e some=some e1):e1=ext d v e:=by
 unfold putK at h
 cases d with
 |none=>cases h;rfl
 |some t =>
  simp only at h
  split at h
  ·cases h;rfl
  ·cases h
theorem putK_any {N:Nat}{d:Option Nat}{v:AV}{e e1:Env}(h:putK N d v e some=some e1) (e':Env):putK N d v e' some=some (ext d v e'):=by
 unfold putK at h ⊢
 cases d with
 |none=>rfl
 |some t =>
  simp only at h
  split at h
  ·rename_i hb
   show(match Nat.blt t N with |true=>some ((t,v)::e') |false=>none)=_
   rw [hb]
   rfl
  ·cases h
structure Lex (cx:Cx) (F:EF) (N:Nat) (md:Bool) (h0:Heap) (TT:List Nat) (ops:Array Oper) (o:Oper) (e:Env) (h:Heap) (v:AV) (e1:Env) (h1:Heap):Prop where
 free:freeOp o=true→oneV cx F ops o (restrE e (o.looksAt ops)) []=some (v,[])∧h1=h
 look:freeOp o=false→(md&& !effOp cx.turns o)=true→(∃rs,hidR e (hidS cx ops o)=some rs∧∃h',oneV cx F ops o (restrE e (o.looksAt ops)) (hideH h0 (rs++TT))=some (v,h'))∧h1=h
 bound:freeOp o=false→(md&& !effOp cx.turns o)=false→oneV cx F ops o (restrE e (o.looksAt ops)) h=some (v,h1)∧(md=true→addOp cx.adds o=true∨tgtOk cx (restrE e (o.looksAt ops)) h0.length o=true∨lateOk ops (restrE e (o.looksAt ops)) o=true∨heldOk cx TT (restrE e (o.looksAt ops)) h o=true)
 put:∀e',putK N o.dst v e' some=some (ext o.dst v e')
 env:e1=ext o.dst v e
structure LexP (cx:Cx) (F:EF) (N:Nat) (md:Bool) (ops:Array Oper) (o:Oper) (e:Env) (h:Heap) (v:AV) (e1:Env) (h1:Heap):Prop where
 hh:md=true→h1=h
 eff:effOp cx.turns o=true
 nf:freeOp o=false
 g:o.guard=none
 call:upCall cx F o (restrE e (o.looksAt ops)) h (fun e v h=>some (e,v,h))=some (.normal,v,h1)
 put:∀e',putK N o.dst v e' some=some (ext o.dst v e')
 env:e1=ext o.dst v e
def LexU (d:Bool) (cx:Cx) (F:EF) (N:Nat) (md:Bool) (h0:Heap) (TT:List Nat) (ops:Array Oper) (o:Oper) (e:Env) (h:Heap) (v:AV) (e1:Env) (h1:Heap):Prop:=match d with
 |true=>e1=e∧h1=h
 |false=>Lex cx F N md h0 TT ops o e h v e1 h1∨LexP cx F N md ops o e h v e1 h1
theorem LexU.env {d:Bool}{cx:Cx}{F:EF}{N:Nat}{md:Bool}{h0:Heap}{TT:List Nat}{ops:Array Oper}{o:Oper}{e:Env}{h:Heap}{v:AV}{e1:Env}{h1:Heap}(k:LexU d cx F N md h0 TT ops o e h v e1 h1):(d=true∧e1=e)∨(d=false∧e1=ext o.dst v e):=by
 cases d with
 |true=>exact .inl ⟨rfl,k.1⟩
 |false=>exact .inr ⟨rfl,k.elim (·.env) (·.env)⟩
theorem nil?_eq {α:Type}{l:List α}(h:nil? l=some ()):l=[]:=by cases l<;>first |rfl |cases h
theorem runAny_lex {cx:Cx}{F:EF}{N:Nat}{md:Bool}{h0:Heap}{TT:List Nat}{ops:Array Oper}:∀ {l:List Oper}{e:Env}{h:Heap}{e':Env}{h':Heap},runAny cx F N md h0 TT ops l e h (fun e h=>some (e,h))=some (e',h') →
  ∃(E:Nat→Env) (H:Nat→Heap) (V:Nat→AV),E 0=e∧H 0=h∧E l.length=e'∧H l.length=h'∧∀(k:Nat) (o:Oper),l[k]?=some o→Lex cx F N md h0 TT ops o (E k) (H k) (V k) (E (k+1)) (H (k+1))
 | [],e,h,e',h',hr=>by
  simp only [runAny] at hr
  cases hr
  exact⟨fun _=>e,fun _=>h,fun _=>default,rfl,rfl,rfl,rfl,fun k o ho=>by simp at ho⟩
 |o::rest,e,h,e',h',hr=>by
  simp only [runAny] at hr
  have step:∃v e1 h1,Lex cx F N md h0 TT ops o e h v e1 h1∧runAny cx F N md h0 TT ops rest e1 h1 (fun e h=>some (e,h))=some (e',h'):=by
   have back:∀ {v:AV}{e1:Env}{h1:Heap},putK N o.dst v (restrE e (o.looksAt ops)) some=some e1→putBack o.dst e1 e (fun env=>runAny cx F N md h0 TT ops rest env h1 fun e h=>some (e,h))=some (e',h') →
     runAny cx F N md h0 TT ops rest (ext o.dst v e) h1 (fun e h=>some (e,h))=some (e',h'):=fun hp hb=>by
    rw [putK_ext hp] at hb
    unfold putBack at hb
    cases hd:o.dst with
    |none=>rw [hd] at hb;exact hb
    |some d =>
     rw [hd] at hb
     simp only [ext,look,Nat.beq_refl,χ] at hb
     exact hb
   cases hf:freeOp o with
   |true =>
    rw [hf] at hr
    simp only [cond_true,runOps_one,onN] at hr
    obtain⟨⟨v,h1⟩,h2,hr⟩:=bind_some_iff hr
    obtain⟨e1,h3,h4⟩:=(putK_pk _ _ _ _).some hr
    obtain⟨u,h5,h6⟩:=bind_some_iff h3
    obtain rfl:=nil?_eq (l:=h1) h5
    exact⟨v,_,h,⟨fun _=>⟨h2,rfl⟩,fun hx=>(by rw [hf] at hx;cases hx),fun hx=>(by rw [hf] at hx;cases hx),putK_any h4,rfl⟩,back h4 h6⟩
   |false =>
    rw [hf] at hr
    simp only [cond_false] at hr
    cases hm:(md&& !effOp cx.turns o) with
    |true =>
     rw [hm] at hr
     simp only [cond_true,runOps_one,onN] at hr
     obtain⟨rs,hrs,hr⟩:=bind_some_iff hr
     obtain⟨⟨v,h1⟩,h2,hr⟩:=bind_some_iff hr
     obtain⟨e1,h3,h4⟩:=(putK_pk _ _ _ _).some hr
     exact⟨v,_,h,⟨fun hx=>(by rw [hf] at hx;cases hx),fun _ _=>⟨⟨rs,hrs,_,h2⟩,rfl⟩,fun _ hx=>(by rw [hm] at hx;cases hx),putK_any h4,rfl⟩,back h4 h3⟩
    |false =>
     rw [hm] at hr
     simp only [cond_false] at hr
     have hk:md=true→addOp cx.adds o=true∨tgtOk cx (restrE e (o.looksAt ops)) h0.length o=true∨lateOk ops (restrE e (o.looksAt ops)) o=true∨heldOk cx TT (restrE e (o.looksAt ops)) h o=true:=fun hmd=>by
      cases hx:(addOp cx.adds o||(tgtOk cx (restrE e (o.looksAt ops)) h0.length o||(lateOk ops (restrE e (o.looksAt ops)) o||heldOk cx TT (restrE e (o.looksAt ops)) h o))) with
      |true=>simpa using hx
      |false=>rw [hmd,hx] at hr;cases hr
     have hr:runOps cx F N true ops [o] (restrE e (o.looksAt ops)) h (fun ex e1 h1=>onN ex (putBack o.dst e1 e fun env=>runAny cx F N md h0 TT ops rest env h1 fun e h=>some (e,h)))=some (e',h'):=by
      cases hx:(md&& !(addOp cx.adds o||(tgtOk cx (restrE e (o.looksAt ops)) h0.length o||(lateOk ops (restrE e (o.looksAt ops)) o||heldOk cx TT (restrE e (o.looksAt ops)) h o)))) with
      |true=>rw [hx] at hr;cases hr
      |false=>rw [hx] at hr;exact hr
     simp only [runOps_one,onN] at hr
     obtain⟨⟨v,h1⟩,h2,hr⟩:=bind_some_iff hr
     obtain⟨e1,h3,h4⟩:=(putK_pk _ _ _ _).some hr
     exact⟨v,_,h1,⟨fun hx=>(by rw [hf] at hx;cases hx),fun _ hx=>(by rw [hm] at hx;cases hx),fun _ _=>⟨h2,hk⟩,putK_any h4,rfl⟩,back h4 h3⟩
  obtain⟨v,e1,h1,hl,hr⟩:=step
  obtain⟨E,H,V,g1,g2,g3,g4,g5⟩:=runAny_lex hr
  refine⟨fun k=>match k with | 0=>e |k+1=>E k,fun k=>match k with | 0=>h |k+1=>H k,fun k=>match k with | 0=>v |k+1=>V k,rfl,rfl,g3,g4,fun k o' ho=> ?_⟩
  cases k with
  |zero =>
   cases ho
   simp only [g1,g2]
   exact hl
  |succ k=>exact g5 k o' (by simpa using ho)
theorem restr_look {env:Env}:∀ {ls:List Nat}{t:Nat}{v:AV},look (restrE env ls) t=some v→t∈ls∧look env t=some v
 | [],t,v,h=>by cases h
 |s::ls,t,v,h=>by
  simp only [restrE] at h
  cases hs:look env s with
  |none =>
   rw [hs] at h
   obtain⟨a,b⟩:=restr_look h
   exact⟨List.mem_cons_of_mem _ a,b⟩
  |some x =>
   rw [hs] at h
   simp only [look] at h
   split at h
   ·rename_i hb
    cases h
    obtain rfl:=ε hb
    exact⟨List.mem_cons_self ..,hs⟩
   ·obtain⟨a,b⟩:=restr_look h
    exact⟨List.mem_cons_of_mem _ a,b⟩
theorem look_ext {d:Option Nat}{v:AV}{e:Env}{t:Nat}{x:AV}(h:look (ext d v e) t=some x):(d=some t∧x=v)∨(d≠some t∧look e t=some x):=by
 unfold ext at h
 cases d with
 |none=>exact .inr ⟨by simp,h⟩
 |some d =>
  simp only [look] at h
  split at h
  ·rename_i hb
   cases h
   exact .inl ⟨by rw [ε hb],rfl⟩
  ·rename_i hb
   refine .inr ⟨fun hd=> ?_,h⟩
   cases hd
   rw [Nat.beq_refl] at hb
   cases hb
theorem ext_look_self {d:Nat}{v:AV}{e:Env}:look (ext (some d) v e) d=some v:=by
 simp only [ext,look,Nat.beq_refl]
theorem ext_look_ne {d:Option Nat}{v:AV}{e:Env}{t:Nat}(h:d≠some t):look (ext d v e) t=look e t:=by
 unfold ext
 cases d with
 |none=>rfl
 |some d =>
  simp only [look]
  split
  ·rename_i hb
   exact absurd (by rw [ε hb]) h
  ·rfl
def unl (listed:Array Bool):Nat→Nat
 | 0=>0
 |n+1=>unl listed n+cond (listed.getD n true) 0 1
theorem unl_set {listed:Array Bool}{i:Nat}(hu:listed.getD i true=false):∀(n:Nat),unl (listed.setIfInBounds i true) n+(if i<n then 1 else 0)=unl listed n
 | 0=>by simp [unl]
 |n+1=>by
  have ih:=unl_set hu n
  simp only [unl]
  by_cases hin:i=n
  ·subst hin
   have hlt:i<listed.size:=by
    rcases Nat.lt_or_ge i listed.size with h |h
    ·exact h
    ·simp [Array.getElem?_eq_none h] at hu
   rw [hu,show(listed.setIfInBounds i true).getD i true=true by simp [hlt]]
   simp at ih ⊢
   omega
  ·rw [getD_set_ne true hin]
   by_cases h:i<n
   ·simp only [h,if_true] at ih
    simp only [show i<n+1 by omega,if_true]
    omega
   ·simp only [h,if_false] at ih
    simp only [show ¬i<n+1 by omega,if_false]
    omega
theorem unl_zero {listed:Array Bool}:∀ {n:Nat},unl listed n=0→∀i,i<n→listed.getD i true=true
 | 0,h,i,hi=>by omega
 |n+1,h,i,hi=>by
  simp only [unl] at h
  by_cases hin:i=n
  ·subst hin
   cases hx:listed.getD i true with
   |true=>rfl
   |false=>rw [hx] at h;simp at h
  ·exact unl_zero (n:=n) (by omega) i (by omega)
theorem getD_tf {listed:Array Bool}{i:Nat}(hi:i<listed.size) (b c:Bool):listed.getD i b=listed.getD i c:=by simp [hi]
theorem any_beqF {j:Nat}{l:List Nat}:(l.any (Nat.beq j))=false↔j ∉ l:=by
 constructor
 ·intro h hm
  have:=List.any_eq_false.1 h j hm
  simp at this
 ·intro h
  refine List.any_eq_false.2 fun x hx hb=>h ?_
  have e:j=x:=ε hb
  rw [e]
  exact hx
theorem obren_ver {ks:List Nat}{o o':Ob}(h:Ob.ren ks o=some o'):o'.ver=o.ver:=by
 unfold Ob.ren at h
 split at h
 ·obtain⟨es,_,h⟩:=bind_some_iff h
  cases h
  rfl
 ·cases h;rfl
theorem normOb_form {z o:Ob}{o':Ob}(h:normOb z o some=some o'):o'.ver=z.ver∧o'.sz=z.sz:=by
 unfold normOb at h
 obtain⟨_,_,h⟩:=bind_some_iff h
 obtain⟨_,_,h⟩:=bind_some_iff h
 split at h
 ·cases h;exact⟨rfl,rfl⟩
 ·split at h
  ·split at h
   ·cases h;exact⟨rfl,rfl⟩
   ·obtain⟨p,_,h⟩:=bind_some_iff h
    obtain⟨_,_,h⟩:=bind_some_iff h
    obtain⟨cs,h,_⟩:=(normNs_pk _ _).some h
    cases h
    exact⟨rfl,rfl⟩
  ·cases h;exact⟨rfl,rfl⟩
theorem normHeap_form:∀ {zs h h':Heap},normHeap zs h some=some h'→h'.length=zs.length∧∀(i:Nat) (o:Ob),h'[i]?=some o→∃z,zs[i]?=some z∧o.ver=z.ver∧o.sz=z.sz
 | [],h,h',hr=>by
  simp only [normHeap] at hr
  obtain⟨_,_,hr⟩:=bind_some_iff hr
  cases hr
  exact⟨rfl,fun i o ho=>by simp at ho⟩
 |z::zs,h,h',hr=>by
  simp only [normHeap] at hr
  obtain⟨p,_,hr⟩:=bind_some_iff hr
  obtain⟨o1,h2,h3⟩:=(normOb_pk _ _).some hr
  obtain⟨r,h4,h5⟩:=(normHeap_pk _ _).some h2
  cases h4
  obtain⟨g1,g2⟩:=normHeap_form h5
  refine⟨by simp [g1],fun i o ho=> ?_⟩
  cases i with
  |zero=>cases ho;exact⟨z,rfl,normOb_form h3⟩
  |succ i=>exact g2 i o (by simpa using ho)
theorem sameV_spec {h:Heap}:∀ {ks:List Nat}{zs:Heap},sameV h ks zs=true→∀(i k:Nat) (z o:Ob),ks[i]?=some k→zs[i]?=some z→h[k]?=some o→o.ver=z.ver∧o.sz=z.sz
 | [],zs,hs,i,k,z,o,hk,hz,ho=>by simp at hk
 |k0::ks,z0::zs,hs,i,k,z,o,hk,hz,ho=>by
  simp only [sameV] at hs
  split at hs
  ·rename_i o' ho'
   simp only [Bool.and_eq_true] at hs
   cases i with
   |zero =>
    cases hk;cases hz
    rw [ho'] at ho
    cases ho
    exact⟨ε hs.1,ε hs.2.1⟩
   |succ i=>exact sameV_spec hs.2.2 i k z o (by simpa using hk) (by simpa using hz) ho
  ·cases hs
 |k0::ks,[],hs,i,k,z,o,hk,hz,ho=>by simp at hz
theorem storeV_at {cx:Cx}{t:TypeId}{r ver a b:Nat}{x:AV}{h h1:Heap}(hs:storeV cx t (.ptr r ver a b) x h some=some h1):∃o0 o1:Ob,h[r]?=some o0∧h1=h.set r o1∧o1.ver=o0.ver∧o1.sz=o0.sz:=by
 unfold storeV at hs
 obtain⟨o',g3,hs⟩:=bind_some_iff hs
 obtain⟨_,g4,hs⟩:=bind_some_iff hs
 obtain⟨cs,g5,hs⟩:=bind_some_iff hs
 obtain⟨n,g6,hs⟩:=bind_some_iff hs
 split at hs
 ·split at hs
  ·split at hs
   ·obtain⟨cs',g7,_⟩:=(spliceK_pk _ _ _).some hs
    cases g7
    exact⟨o',_,g3,rfl,rfl,rfl⟩
   ·cases hs
  ·split at hs
   ·obtain⟨z,g8,hs⟩:=bind_some_iff hs
    obtain⟨cs1,g9,_⟩:=(normCells_pk z cs).some hs
    obtain⟨cs',g7,_⟩:=(spliceK_pk _ _ _).some g9
    cases g7
    exact⟨o',_,g3,rfl,rfl,rfl⟩
   ·cases hs
  ·cases hs
  ·cases hs
 ·cases hs
def AtT (TT:List Nat) (h h1:Heap):Prop:=h.length≤h1.length∧∀(r:Nat) (o0:Ob),h[r]?=some o0→∃o1,h1[r]?=some o1∧o1.ver=o0.ver∧o1.sz=o0.sz∧(o1=o0∨r∈TT)
theorem AtT.refl (TT:List Nat) (h:Heap):AtT TT h h:=⟨Nat.le_refl _,fun _r o0 ho=>⟨o0,ho,rfl,rfl,.inl rfl⟩⟩
theorem AtT.app {TT:List Nat}{h h1 x:Heap}(k:AtT TT h h1):AtT TT h (h1++x):=⟨by have:=k.1;simp;omega,fun r o0 ho=>by
 obtain⟨o1,g1,g2⟩:=k.2 r o0 ho
 exact⟨o1,by rw [List.getElem?_append_left (List.getElem?_eq_some_iff.1 g1).1];exact g1,g2⟩⟩
theorem AtT.set {TT:List Nat}{h:Heap}{r:Nat}{o o':Ob}(ho:h[r]?=some o) (h1:o'.ver=o.ver) (h2:o'.sz=o.sz) (hr:r∈TT):AtT TT h (h.set r o'):=⟨by simp,fun r0 o0 ho0=>by
 by_cases hrr:r=r0
 ·subst hrr
  rw [ho] at ho0
  cases ho0
  exact⟨o',by rw [List.getElem?_set_self (List.getElem?_eq_some_iff.1 ho).1],h1,h2,.inr hr⟩
 ·exact⟨o0,by rw [List.getElem?_set_ne hrr];exact ho0,rfl,rfl,.inl rfl⟩⟩
theorem AtT.kill {TT:List Nat}{h:Heap}{r:Nat}(hr:r∈TT):AtT TT h (killH h (some r)):=by
 unfold killH
 simp only
 split
 ·rename_i o ho
  exact AtT.set ho rfl rfl hr
 ·exact .refl _ _
theorem appFin_at {TT:List Nat}{h h1:Heap}{q:TypeId×Nat×List AV×Nat}{kill:Option Nat}{es ys:List (List AV)}{v:AV}(hk:∀r,kill=some r→r∈TT) (hs:appFin q h kill es ys (fun v h=>some (v,h))=some (v,h1)):AtT TT h h1:=by
 unfold appFin at hs
 split at hs
 ·cases hs
  cases kill with
  |none=>exact(AtT.refl _ _).app
  |some r=>exact(AtT.kill (hk r rfl)).app
 ·cases hs
theorem bins_at {TT:List Nat}{cx:Cx}{b:Builtin}{ts:List TypeId}{a:AV}{vs:List AV}{h h1:Heap}{v:AV}(ha:refIn TT a=true) (hs:bins cx b ts (a::vs) h (fun v h=>some (v,h))=some (v,h1)):AtT TT h h1:=by
 have harr:∀r ver off len,a = .arr r ver off len→r∈TT:=fun r ver off len e=>by
  subst e
  obtain⟨y,hy1,hy2⟩:=List.any_eq_true.1 (show TT.any (Nat.beq r)=true from ha)
  rw [ε hy2]
  exact hy1
 unfold bins at hs
 split at hs
 ·rename_i t1 x1 he
  cases he
  split at hs
  ·unfold clearV at hs
   obtain⟨q,g1,hs⟩:=bind_some_iff hs
   split at hs
   ·obtain⟨o,g2,hs⟩:=bind_some_iff hs
    obtain⟨_,g3,hs⟩:=bind_some_iff hs
    obtain⟨_,g4,hs⟩:=bind_some_iff hs
    split at hs
    ·obtain⟨_,g5,hs⟩:=bind_some_iff hs
     cases hz:q.2.2.1.all AV.one with
     |false=>rw [hz] at hs;cases hs
     |true =>
      rw [hz] at hs
      cases hs
      exact AtT.set g2 rfl rfl (harr _ _ _ _ rfl)
    ·cases hs
   ·cases hs
  ·cases hs
 ·rename_i t1 t2 x1 y1 he
  cases he
  split at hs
  ·unfold appendV at hs
   obtain⟨q,g1,hs⟩:=bind_some_iff hs
   obtain⟨ys,g2,hs⟩:=bind_some_iff hs
   cases hy:ysOk ys with
   |false=>rw [hy] at hs;cases hs
   |true =>
    rw [hy] at hs
    simp only [cond_true] at hs
    split at hs
    ·exact appFin_at (fun r hr=>by cases hr) hs
    ·obtain⟨_,g3,hs⟩:=bind_some_iff hs
     obtain⟨o,g4,hs⟩:=bind_some_iff hs
     obtain⟨_,g5,hs⟩:=bind_some_iff hs
     obtain⟨_,g6,hs⟩:=bind_some_iff hs
     obtain⟨_,g7,hs⟩:=bind_some_iff hs
     split at hs
     ·obtain⟨_,g8,hs⟩:=bind_some_iff hs
      exact appFin_at (fun r hr=>by cases hr;exact harr _ _ _ _ rfl) hs
     ·cases hs
    ·cases hs
  ·unfold copyV at hs
   obtain⟨q,g1,hs⟩:=bind_some_iff hs
   obtain⟨ys,g2,hs⟩:=bind_some_iff hs
   cases hy:ysOk ys with
   |false=>rw [hy] at hs;cases hs
   |true =>
    rw [hy] at hs
    simp only [cond_true] at hs
    split at hs
    ·obtain⟨o,g4,hs⟩:=bind_some_iff hs
     obtain⟨_,g5,hs⟩:=bind_some_iff hs
     obtain⟨_,g6,hs⟩:=bind_some_iff hs
     split at hs
     ·obtain⟨_,g8,hs⟩:=bind_some_iff hs
      cases hs
      exact AtT.set g4 rfl rfl (harr _ _ _ _ rfl)
     ·cases hs
    ·cases hs
  ·cases hs
 ·cases hs
theorem stepV_at {TT:List Nat}{cx:Cx}{F:EF}{o:Oper}{e:Env}{h h1:Heap}{v:AV}(hf:tgtIn cx TT e o=true) (hs:stepV cx F o e h=some (v,h1)):AtT TT h h1:=by
 unfold tgtIn at hf
 split at hf
 ·rename_i xo ht
  split at hf
  ·rename_i a ha
   unfold tgtOp at ht
   unfold stepV at hs
   cases hop:o.op<;>rw [hop] at ht hs<;>first
    | (cases ht;done)
    |skip
   case store t p y =>
    cases ht
    simp only at hs
    simp only [ha,χ] at hs
    obtain⟨w,g1,hs⟩:=bind_some_iff hs
    obtain⟨h2,g2,hs⟩:=bind_some_iff hs
    cases hs
    unfold refIn at hf
    split at hf
    ·unfold storeV at g2
     cases g2
    ·rename_i r ver i j
     obtain⟨y,hy1,hy2⟩:=List.any_eq_true.1 hf
     obtain⟨o0,o1,q1,rfl,q3,q4⟩:=storeV_at g2
     exact AtT.set q1 q3 q4 (by rw [ε hy2];exact hy1)
    ·cases hf
   case call cl =>
    obtain⟨callee,args,ts⟩:=cl
    cases callee<;>first
     | (cases ht;done)
     |skip
    rename_i b
    cases b<;>first
     | (cases ht;done)
     |skip
    all_goals
     simp only at ht hs
     obtain⟨vs,g1,hs⟩:=bind_some_iff hs
     obtain⟨r,rfl⟩:=opnds_head (by simpa using ht) ha g1
     exact bins_at hf hs
  ·cases hf
 ·cases hf
theorem own_held {cx:Cx}{F:EF}{TT:List Nat}{w:Own}{fv:AV}{args:List AV}{p:FuncId×List AV}{h h1:Heap}{v:AV}(hp:fv.call? args=some p) (hall:(reach h 3 (addN [] (p.2.flatMap (refs 5)))).all (fun r=>TT.any (Nat.beq r))=true) (hsame:sameV h (reach h 3 (addN [] (p.2.flatMap (refs 5)))) w.hz=true) (hns:w.same=false) (h2:ownV cx F w fv args h (fun v h=>some (v,h))=some (v,h1)):h.length≤h1.length∧∀(r:Nat) (o0:Ob),h[r]?=some o0→∃o1,h1[r]?=some o1∧o1.ver=o0.ver∧o1.sz=o0.sz∧(o1=o0∨r∈TT):=by
 unfold ownV at h2
 rw [hp] at h2
 simp only [χ] at h2
 generalize hks:reach h 3 (addN [] (p.2.flatMap (refs 5)))=ks at h2 hall hsame
 obtain⟨g,_,h2⟩:=bind_some_iff h2
 cases hlv:livesK g.2.2 with
 |false=>rw [hlv] at h2;cases h2
 |true =>
  rw [hlv] at h2
  simp only [cond_true] at h2
  obtain⟨rr,_,h2⟩:=bind_some_iff h2
  obtain⟨x,_,h2⟩:=bind_some_iff h2
  obtain⟨v1,h2,_⟩:=(normO_pk _ _).some h2
  obtain⟨hh2,h2,hnh⟩:=(normHeap_pk _ _).some h2
  obtain⟨_,hle,h2⟩:=bind_some_iff h2
  obtain⟨v',_,h2⟩:=bind_some_iff h2
  obtain⟨hm,hmg,h2⟩:=bind_some_iff h2
  cases h2
  rw [hns,cond_false] at hnh
  obtain⟨f1,f2⟩:=normHeap_form hnh
  obtain⟨m1,m2⟩:=mergeH_get hmg
  rw [backKs_len] at m1
  refine⟨by omega,fun r o0 ho=> ?_⟩
  have hrl:=(List.getElem?_eq_some_iff.1 ho).1
  have ho1:h1[r]?=some h1[r]:=List.getElem?_eq_getElem (by omega)
  refine⟨_,ho1,?_⟩
  obtain⟨j,b1,b2⟩:=m2 r _ ho1
  rcases backKs_get b1 with⟨_,c1⟩ |⟨_,c1,c2⟩ |⟨c1,_⟩
  ·have hkr:=pos_spec c1
   have hrT:r∈TT:=by
    have:=List.all_eq_true.1 hall r (List.mem_of_getElem? hkr)
    obtain⟨y,hy1,hy2⟩:=List.any_eq_true.1 this
    rw [ε hy2]
    exact hy1
   rcases b2 with⟨o2,d1,d2⟩ |⟨d1,d2⟩
   ·obtain⟨z,z1,z2,z3⟩:=f2 j o2 d1
    obtain⟨y1,y2⟩:=sameV_spec hsame j r z o0 hkr z1 ho
    exact⟨(obren_ver d2).trans (z2.trans y1.symm),(obren_form d2).2.1.trans (z3.trans y2.symm),.inr hrT⟩
   ·rw [ho] at d2
    cases d2
    exact⟨rfl,rfl,.inl rfl⟩
  ·rcases b2 with⟨o2,d1,d2⟩ |⟨d1,d2⟩
   ·have:=(List.getElem?_eq_some_iff.1 d1).1
    omega
   ·rw [ho] at d2
    exact⟨by rw [←Option.some.inj d2],by rw [←Option.some.inj d2],.inl (Option.some.inj d2).symm⟩
  ·omega
theorem oneV_held {cx:Cx}{F:EF}{ops:Array Oper}{TT:List Nat}{o:Oper}{e:Env}{h h1:Heap}{v:AV}(hk:heldOk cx TT e h o=true) (h2:oneV cx F ops o e h=some (v,h1)):h.length≤h1.length∧∀(r:Nat) (o0:Ob),h[r]?=some o0→∃o1,h1[r]?=some o1∧o1.ver=o0.ver∧o1.sz=o0.sz∧(o1=o0∨r∈TT):=by
 have rfl':h.length≤h.length∧∀(r:Nat) (o0:Ob),h[r]?=some o0→∃o1,h[r]?=some o1∧o1.ver=o0.ver∧o1.sz=o0.sz∧(o1=o0∨r∈TT):=⟨Nat.le_refl _,fun r o0 ho=>⟨o0,ho,rfl,rfl,.inl rfl⟩⟩
 have one:stepV cx F o e h=some (v,h1)→h.length≤h1.length∧∀(r:Nat) (o0:Ob),h[r]?=some o0→∃o1,h1[r]?=some o1∧o1.ver=o0.ver∧o1.sz=o0.sz∧(o1=o0∨r∈TT):=fun h2=>by
  unfold heldOk at hk
  split at hk
  ·rename_i s args ts hop
   unfold stepV at h2
   rw [hop] at h2
   simp only [Bool.and_eq_true] at hk
   obtain⟨hemp,hk⟩:=hk
   simp only [opnd] at h2
   obtain⟨fv,g1,h2⟩:=bind_some_iff h2
   rw [g1] at hk
   simp only at hk
   split at hk
   ·rename_i p hp
    have hargs:args.toList=[]:=by simpa using hemp
    rw [hargs] at h2
    simp only [opnds,χ] at h2
    have htf:turnFn (.tmp s) args=true:=hemp
    rw [htf] at h2
    have hfn:fnOf fv=some p.1:=by
     unfold AV.call? at hp
     split at hp
     ·cases hp;rfl
     ·cases hp
    unfold callX at h2
    rw [hfn] at h2
    simp only [χ] at h2
    cases he:cx.ext p.1 with
    |some x=>rw [he] at hk;cases hk
    |none =>
     rw [he] at hk h2
     simp only at hk h2
     cases hw:cx.own p.1 with
     |none =>
      rw [hw] at h2
      simp only at h2
      cases hpn:cx.pans p.1 with
      |some T=>rw [hpn] at h2;cases h2
      |none =>
       have hfz:cx.frz p.1=false:=by simpa [hw] using hk
       rw [hpn] at h2
       simp only [frzOf,hfn,hfz,Bool.not_false,Bool.or_true,Bool.and_true,cond_true] at h2
       rw [(callV_pk cx F false o.type fv [] h).nat] at h2
       obtain⟨x,_,h3⟩:=bind_some_iff h2
       cases h3
       exact rfl'
     |some w =>
      rw [hw] at hk h2
      simp only [Bool.and_eq_true,Bool.not_eq_true'] at hk
      obtain⟨⟨hns,hnp⟩,hall,hsame⟩:=hk
      have hnp:cx.pans p.1=none:=by
       cases hx:cx.pans p.1 with
       |none=>rfl
       |some T=>rw [hx] at hnp;cases hnp
      simp only [Bool.not_true,Bool.and_false,cond_false,hnp] at h2
      exact own_held hp hall hsame hns h2
   ·cases hk
  ·rename_i f args ts hop
   unfold stepV at h2
   rw [hop] at h2
   simp only [opnd,χ] at h2
   have htf:turnFn (.func f) args=true:=rfl
   rw [htf] at h2
   cases hv:opnds cx e args.toList with
   |none=>rw [hv] at h2;cases h2
   |some vs =>
    rw [hv] at h2 hk
    simp only [χ] at h2
    unfold callX at h2
    simp only [fnOf,χ] at h2
    cases he:cx.ext f with
    |some x=>rw [he] at hk;cases hk
    |none =>
     rw [he] at hk h2
     simp only at hk h2
     cases hw:cx.own f with
     |none=>rw [hw] at hk;cases hk
     |some w =>
      rw [hw] at hk h2
      simp only [Bool.and_eq_true,Bool.not_eq_true'] at hk
      obtain⟨⟨hns,hnp⟩,hall,hsame⟩:=hk
      have hnp:cx.pans f=none:=by
       cases hx:cx.pans f with
       |none=>rfl
       |some T=>rw [hx] at hnp;cases hnp
      simp only [Bool.not_true,Bool.and_false,cond_false,hnp] at h2
      have hp:(AV.func (.func f) [] []).call? vs=some (f,vs):=by simp [AV.call?]
      exact own_held hp hall hsame hns h2
  ·exact stepV_at hk h2
 unfold oneV at h2
 cases hg:o.guard with
 |none=>rw [hg] at h2;exact one h2
 |some jw =>
  obtain⟨j,want⟩:=jw
  rw [hg] at h2
  obtain⟨d,h3,h2⟩:=bind_some_iff h2
  obtain⟨u,h4,h2⟩:=bind_some_iff h2
  split at h2
  ·rename_i b
   cases hb:(b==want) with
   |true=>rw [hb] at h2;exact one h2
   |false=>rw [hb] at h2;cases h2;exact rfl'
  ·cases h2;exact rfl'
  ·cases h2
section
variable {cx:Cx}{F:EF}{K:Kf}{N:Nat}{md:Bool}{h0:Heap}{TT:List Nat}{ops:Array Oper}{E:Nat→Env}{H:Nat→Heap}{V:Nat→AV}{M:Nat}{a0:Act}{w0:World}{D:Nat→Bool}
structure AnyInv (cx:Cx) (K:Kf) (N:Nat) (M:Nat) (ops:Array Oper) (E:Nat→Env) (H:Nat→Heap) (V:Nat→AV) (listed:Array Bool) (a:Act) (w:World):Prop where
 size:listed.size=ops.size
 closed:Closed ops listed
 st:∃S μ e m,St cx K N S μ e (H m) a.tmps w∧m≤M∧(∀(j:Nat) (o:Oper),ops[j]?=some o→effOp cx.turns o=true→(listed.getD j false=true↔j<m)) ∧
  (∀t v,look (E 0) t=some v→(∀(k:Nat) (o:Oper),ops[k]?=some o→o.dst=some t→listed.getD k false=false)→look e t=some v) ∧
  ∀(k:Nat) (o:Oper) (t:Nat),listed.getD k false=true→ops[k]?=some o→o.dst=some t→look e t=some (V k)
theorem QOk.uniq (h:QOk cx.turns md ops) {i j t:Nat}{oi oj:Oper}(hi:ops[i]?=some oi) (hj:ops[j]?=some oj) (di:oi.dst=some t) (dj:oj.dst=some t):i=j:=by
 have ri:(ops.toList.map (qr cx.turns md ops))[i]?=some (qr cx.turns md ops oi):=by rw [recs_get,hi];rfl
 have rj:(ops.toList.map (qr cx.turns md ops))[j]?=some (qr cx.turns md ops oj):=by rw [recs_get,hj];rfl
 rcases Nat.lt_trichotomy i j with h1 |h1 |h1
 ·exact absurd di ((h j oj hj).up t dj i _ h1 ri)
 ·exact h1
 ·exact absurd dj ((h i oi hi).up t di j _ h1 rj)
theorem QOk.look (h:QOk cx.turns md ops) {j:Nat}{oj:Oper}(hj:ops[j]?=some oj) {s:Nat}(hs:s∈oj.looksAt ops):(∀(k:Nat) (o:Oper),ops[k]?=some o→o.dst≠some s)∨(∃(e:Nat) (o:Oper),ops[e]?=some o∧o.dst=some s∧Waits ops e j)∨∃(e:Nat) (o:Oper),ops[e]?=some o∧o.dst=some s∧(Waits ops j e∨e=j):=by
 rcases(h j oj hj).looks s hs with h1 |⟨e,r,he,hd,hdep⟩ |⟨e,r,he,hd,hdep⟩
 ·refine .inl fun k o ho hd=> ?_
  exact h1 k (qr cx.turns md ops o) (by rw [recs_get,ho];rfl) hd
 ·rw [recs_get] at he
  cases ho:ops[e]? with
  |none=>rw [ho] at he;cases he
  |some o =>
   rw [ho] at he
   cases he
   obtain⟨x,hx,hb,hon⟩:=deps_mem.1 hdep
   exact .inr (.inl ⟨e,o,ho,hd,oj,hj,x,hx,hb,hon⟩)
 ·rw [recs_get] at he
  cases ho:ops[e]? with
  |none=>rw [ho] at he;cases he
  |some o =>
   rw [ho] at he
   cases he
   refine .inr (.inr ⟨e,o,ho,hd,?_⟩)
   rcases hdep with hdep |hdep
   ·obtain⟨x,hx,hb,hon⟩:=deps_mem.1 hdep
    exact .inl ⟨o,ho,x,hx,hb,hon⟩
   ·exact .inr hdep
theorem lex_look (q:QOk cx.turns md ops) (hM:M≤ops.size) (hl:∀(k:Nat) (o:Oper),k<M→ops[k]?=some o→LexU (D k) cx F N md h0 TT ops o (E k) (H k) (V k) (E (k+1)) (H (k+1))):∀(k:Nat),k≤M→∀t v,look (E k) t=some v →
  (∃(i:Nat) (o:Oper),i<k∧ops[i]?=some o∧o.dst=some t∧v=V i)∨((∀(i:Nat) (o:Oper),i<k→D i=false→ops[i]?=some o→o.dst≠some t)∧look (E 0) t=some v)
 | 0,hk,t,v,h => .inr ⟨fun i o hi=>by omega,h⟩
 |k+1,hk,t,v,h=>by
  have ho:ops[k]?=some ops[k]:=Array.getElem?_eq_getElem (by omega)
  rcases(hl k _ (by omega) ho).env with⟨hd,he⟩ |⟨hd,he⟩
  ·rw [he] at h
   rcases lex_look q hM hl k (by omega) t v h with⟨i,o,h3,h4⟩ |⟨h3,h4⟩
   ·exact .inl ⟨i,o,by omega,h4⟩
   ·refine .inr ⟨fun i o hi hdi ho'=> ?_,h4⟩
    by_cases hik:i=k
    ·subst hik
     rw [hd] at hdi
     cases hdi
    ·exact h3 i o (by omega) hdi ho'
  rw [he] at h
  rcases look_ext h with⟨h1,h2⟩ |⟨h1,h2⟩
  ·exact .inl ⟨k,_,by omega,ho,h1,h2⟩
  ·rcases lex_look q hM hl k (by omega) t v h2 with⟨i,o,h3,h4⟩ |⟨h3,h4⟩
   ·exact .inl ⟨i,o,by omega,h4⟩
   ·refine .inr ⟨fun i o hi hdi ho'=> ?_,h4⟩
    by_cases hik:i=k
    ·subst hik
     rw [ho] at ho'
     cases ho'
     exact h1
    ·exact h3 i o (by omega) hdi ho'
theorem lex_heap (hM:M≤ops.size) (hl:∀(k:Nat) (o:Oper),k<M→ops[k]?=some o→LexU (D k) cx F N md h0 TT ops o (E k) (H k) (V k) (E (k+1)) (H (k+1))) {i:Nat}:∀(k:Nat),i≤k→k≤M→(∀(j:Nat) (o:Oper),i≤j→j<k→ops[j]?=some o→effOp cx.turns o=false)→H k=H i
 | 0,h1,h2,h3=>by rw [show i=0 by omega]
 |k+1,h1,h2,h3=>by
  by_cases hik:i=k+1
  ·rw [hik]
  ·have ih:=lex_heap hM hl k (by omega) (by omega) fun j o hj hjk=>h3 j o hj (by omega)
   have ho:ops[k]?=some ops[k]:=Array.getElem?_eq_getElem (by omega)
   rw [←ih]
   have hlk:=hl k _ (by omega) ho
   cases hD:D k with
   |true=>rw [hD] at hlk;exact hlk.2
   |false =>
    rw [hD] at hlk
    rcases hlk with hlk |hlk
    ·cases hf:freeOp ops[k] with
     |true=>exact(hlk.free hf).2
     |false=>cases hm:(md&& !effOp cx.turns ops[k]) with
      |true=>exact(hlk.look hf hm).2
      |false=>exact oneV_same (h3 k _ (by omega) (by omega) ho) (hlk.bound hf hm).1
    ·have:=h3 k _ (by omega) (by omega) ho
     rw [hlk.eff] at this
     cases this
theorem lex_out (hM:M≤ops.size) (hl:∀(k:Nat) (o:Oper),k<M→ops[k]?=some o→LexU (D k) cx F N md h0 TT ops o (E k) (H k) (V k) (E (k+1)) (H (k+1))) {s:Nat}(hs:∀(i:Nat) (o:Oper),ops[i]?=some o→o.dst≠some s):∀(k:Nat),k≤M→look (E k) s=look (E 0) s
 | 0,_=>rfl
 |k+1,hk=>by
  have ho:ops[k]?=some ops[k]:=Array.getElem?_eq_getElem (by omega)
  rcases(hl k _ (by omega) ho).env with⟨_,he⟩ |⟨_,he⟩
  ·rw [he];exact lex_out hM hl hs k (by omega)
  ·rw [he,ext_look_ne (hs k _ ho)]
   exact lex_out hM hl hs k (by omega)
theorem lateT_spec {o:Oper}{s:Nat}(h:lateT ops o=some s):(∃t x,o.op = .store t (.tmp s) x)∧∀(i:Nat) (o:Oper),ops[i]?=some o→o.dst≠some s:=by
 unfold lateT at h
 split at h
 ·rename_i t s' x hop
  cases hc:(ops.toList.any fun x=>dIs s' x.dst) with
  |true=>rw [hc] at h;cases h
  |false =>
   rw [hc] at h
   cases h
   refine⟨⟨t,x,hop⟩,fun i o ho hd=> ?_⟩
   have:=List.any_eq_false.1 hc o (by rw [Array.mem_toList_iff];exact Array.mem_of_getElem? ho)
   rw [hd] at this
   simp [dIs] at this
 ·cases h
theorem lates_mem {o:Oper}{s:Nat}(hs:lateT ops o=some s):∀ {l:List Oper}{k j:Nat},l[j]?=some o→(k+j,s)∈lates ops l k
 | [],k,j,h=>by simp at h
 |x::l,k,0,h=>by
  simp at h
  subst h
  simp only [lates,hs]
  exact List.mem_cons_self ..
 |x::l,k,j+1,h=>by
  have ih:=lates_mem hs (l:=l) (k:=k+1) (j:=j) (by simpa using h)
  rw [show k+1+j=k+(j+1) by omega] at ih
  simp only [lates]
  split
  ·exact List.mem_cons_of_mem _ ih
  ·exact ih
theorem idxOf_spec {d:Nat}:∀ {l:List QR}{k i:Nat},idxOf d l k=some i→k≤i∧∃r,l[i-k]?=some r∧r.dst=some d
 | [],k,i,h=>by cases h
 |r::l,k,i,h=>by
  simp only [idxOf] at h
  cases hc:dIs d r.dst with
  |true =>
   rw [hc] at h
   cases h
   exact⟨Nat.le_refl _,r,by simp,dIs_eq hc⟩
  |false =>
   rw [hc] at h
   obtain⟨h1,r',h2,h3⟩:=idxOf_spec h
   refine⟨by omega,r',?_,h3⟩
   rw [show i-k=(i-(k+1))+1 by omega]
   simpa using h2
theorem descs_spec {tf:FuncId→Bool}{e:Nat}:∀(rs:List QR) (k:Nat) (m:List Nat),(ops.toList.map (qr tf md ops)).drop k=rs→(∀x∈m,x=e∨Path ops e x)→∀j∈descs rs k m,j=e∨Path ops e j
 | [],k,m,hp,hm,j,hj=>hm j hj
 |r0::rs,k,m,hp,hm,j,hj=>by
  have h0:(ops.toList.map (qr tf md ops))[k]?=some r0:=by
   have:(ops.toList.map (qr tf md ops))[k]?=((ops.toList.map (qr tf md ops)).drop k)[0]?:=by rw [List.getElem?_drop];rfl
   rw [this,hp];rfl
  have hp':(ops.toList.map (qr tf md ops)).drop (k+1)=rs:=by
   rw [←List.drop_drop (i:=1) (j:=k),hp]<;>rfl
  simp only [descs] at hj
  cases hk:r0.deps.any (fun d=>m.any (Nat.beq d)) with
  |false=>rw [hk] at hj;exact descs_spec rs (k+1) m hp' hm j hj
  |true =>
   rw [hk] at hj
   obtain⟨d,hd,hdm⟩:=List.any_eq_true.1 hk
   obtain⟨x,hx,hxe⟩:=List.any_eq_true.1 hdm
   rw [←ε hxe] at hx
   have hp0:Path ops e k:=by
    rcases hm d hx with rfl |hq
    ·exact .one (waits_of h0 hd)
    ·exact .more hq (waits_of h0 hd)
   refine descs_spec rs (k+1) (k::m) hp' (fun y hy=> ?_) j hj
   rcases List.mem_cons.1 hy with rfl |hy
   ·exact .inr hp0
   ·exact hm y hy
theorem hidR_mem {env:Env}{s r ver a b:Nat}(hl:look env s=some (.ptr r ver a b)):∀ {ss rs:List Nat},hidR env ss=some rs→s∈ss→r∈rs
 | [],rs,h,hs=>by cases hs
 |t::ss,rs,h,hs=>by
  simp only [hidR] at h
  obtain⟨v,h1,h⟩:=bind_some_iff h
  split at h
  ·obtain⟨rs',h2,h⟩:=bind_some_iff h
   cases h
   rcases List.mem_cons.1 hs with rfl |hs
   ·rw [hl] at h1
    cases h1
    exact List.mem_cons_self ..
   ·exact List.mem_cons_of_mem _ (hidR_mem hl h2 hs)
  ·cases h
theorem hide_le {hh:Heap}:∀ {rs:List Nat}{h:Heap},(∀(r:Nat) (o:Ob),h[r]?=some o→∃o',hh[r]?=some o'∧o'.ver=o.ver∧o'.sz=o.sz∧(o'=o∨r∈rs∨(o.k = .dead∧o.es=[])))→HLe (hideH h rs) hh
 | [],h,hp=>fun r o hr=>by
  obtain⟨o',h1,h2,h3,h4⟩:=hp r o hr
  refine⟨o',h1,h2,h3,?_⟩
  rcases h4 with h4 |h4 |h4
  ·exact .inl h4
  ·cases h4
  ·exact .inr h4
 |x::rs,h,hp=>by
  simp only [hideH]
  refine hide_le fun r o hr=> ?_
  unfold killH at hr
  simp only at hr
  split at hr
  ·rename_i o0 hx
   by_cases hrx:x=r
   ·subst hrx
    have hlt:=(List.getElem?_eq_some_iff.1 hx).1
    rw [List.getElem?_set_self hlt] at hr
    cases hr
    obtain⟨o',h1,h2,h3,_⟩:=hp x o0 hx
    exact⟨o',h1,h2,h3,.inr (.inr ⟨rfl,rfl⟩)⟩
   ·rw [List.getElem?_set_ne hrx] at hr
    obtain⟨o',h1,h2,h3,h4⟩:=hp r o hr
    refine⟨o',h1,h2,h3,?_⟩
    rcases h4 with h4 |h4 |h4
    ·exact .inl h4
    ·rcases List.mem_cons.1 h4 with h4 |h4
     ·exact absurd h4.symm hrx
     ·exact .inr (.inl h4)
    ·exact .inr (.inr h4)
  ·rename_i hx
   obtain⟨o',h1,h2,h3,h4⟩:=hp r o hr
   refine⟨o',h1,h2,h3,?_⟩
   rcases h4 with h4 |h4 |h4
   ·exact .inl h4
   ·rcases List.mem_cons.1 h4 with h4 |h4
    ·subst h4;rw [hx] at hr;cases hr
    ·exact .inr (.inl h4)
   ·exact .inr (.inr h4)
theorem oneV_late {o:Oper}{e:Env}{s r ver a b:Nat}{h h1:Heap}{v:AV}(hs:lateT ops o=some s) (hl:look e s=some (.ptr r ver a b)) (h2:oneV cx F ops o e h=some (v,h1)):h1=h∨∃o0 o1:Ob,h[r]?=some o0∧h1=h.set r o1∧o1.ver=o0.ver∧o1.sz=o0.sz:=by
 obtain⟨⟨t,x,hop⟩,_⟩:=lateT_spec hs
 have one:stepV cx F o e h=some (v,h1)→∃o0 o1:Ob,h[r]?=some o0∧h1=h.set r o1∧o1.ver=o0.ver∧o1.sz=o0.sz:=fun h2=>by
  unfold stepV at h2
  rw [hop] at h2
  simp only [opnd,hl,χ] at h2
  obtain⟨w,g1,h2⟩:=bind_some_iff h2
  obtain⟨h3,g2,h2⟩:=bind_some_iff h2
  cases h2
  exact storeV_at g2
 unfold oneV at h2
 cases hg:o.guard with
 |none=>rw [hg] at h2;exact .inr (one h2)
 |some jw =>
  obtain⟨j,want⟩:=jw
  rw [hg] at h2
  obtain⟨d,h3,h2⟩:=bind_some_iff h2
  obtain⟨u,h4,h2⟩:=bind_some_iff h2
  split at h2
  ·rename_i b
   cases hb:(b==want) with
   |true=>rw [hb] at h2;exact .inr (one h2)
   |false=>rw [hb] at h2;cases h2;exact .inl rfl
  ·cases h2;exact .inl rfl
  ·cases h2
def Agree (_cx:Cx) (TT:List Nat) (ops:Array Oper) (E0:Env) (h0:Heap) (k:Nat) (hk:Heap):Prop:=∃h' x,hk=h'++x∧h'.length=h0.length∧∀(r:Nat) (o:Ob),h0[r]?=some o→∃o',h'[r]?=some o'∧o'.ver=o.ver∧o'.sz=o.sz ∧
 (o'=o∨r∈TT∨∃(j:Nat) (oj:Oper) (s ver a b:Nat),j<k∧ops[j]?=some oj∧lateT ops oj=some s∧look E0 s=some (.ptr r ver a b))
theorem Agree.mono {E0:Env}{k k':Nat}{hk:Heap}(h:Agree cx TT ops E0 h0 k hk) (hkk:k≤k'):Agree cx TT ops E0 h0 k' hk:=by
 obtain⟨h',x,h1,h2,h3⟩:=h
 refine⟨h',x,h1,h2,fun r o hr=> ?_⟩
 obtain⟨o',g1,g2,g3,g4⟩:=h3 r o hr
 refine⟨o',g1,g2,g3,g4.imp_right fun g4=>g4.imp_right fun⟨j,oj,s,ver,a,b,hj,hrest⟩=>⟨j,oj,s,ver,a,b,by omega,hrest⟩⟩
theorem lex_agree (hh0:H 0=h0) (hM:M≤ops.size) (hl:∀(k:Nat) (o:Oper),k<M→ops[k]?=some o→LexU (D k) cx F N true h0 TT ops o (E k) (H k) (V k) (E (k+1)) (H (k+1))):∀(k:Nat),k≤M→Agree cx TT ops (E 0) h0 k (H k)
 | 0,_=>⟨h0,[],by simp [hh0],rfl,fun r o hr=>⟨o,hr,rfl,rfl,.inl rfl⟩⟩
 |k+1,hk=>by
  have ih:=lex_agree hh0 hM hl k (by omega)
  have ho:ops[k]?=some ops[k]:=Array.getElem?_eq_getElem (by omega)
  have hlk:=hl k _ (by omega) ho
  cases hD:D k with
  |true=>rw [hD] at hlk;rw [hlk.2];exact ih.mono (by omega)
  |false =>
  rw [hD] at hlk
  rcases hlk with hlk |hlk
  case inr=>rw [hlk.hh rfl];exact ih.mono (by omega)
  cases hf:freeOp ops[k] with
  |true=>rw [(hlk.free hf).2];exact ih.mono (by omega)
  |false=>cases hm:(true&& !effOp cx.turns ops[k]) with
   |true=>rw [(hlk.look hf hm).2];exact ih.mono (by omega)
   |false =>
    obtain⟨g1,g2⟩:=hlk.bound hf hm
    obtain⟨h',x,h1,h2,h3⟩:=ih
    have up:∀(r:Nat) (o:Ob),h0[r]?=some o→∃o',h'[r]?=some o'∧o'.ver=o.ver∧o'.sz=o.sz∧(o'=o∨r∈TT∨∃(j:Nat) (oj:Oper) (s ver a b:Nat),j<k+1∧ops[j]?=some oj∧lateT ops oj=some s∧look (E 0) s=some (.ptr r ver a b)):=fun r o hr=>by
     obtain⟨o',g1,g2,g3,g4⟩:=h3 r o hr
     exact⟨o',g1,g2,g3,g4.imp_right fun g4=>g4.imp_right fun⟨j,oj,s,ver,a,b,hj,hrest⟩=>⟨j,oj,s,ver,a,b,by omega,hrest⟩⟩
    rcases g2 rfl with g2 |g2 |g2 |g2
    ·obtain⟨y,hy⟩:=oneV_add g2 g1
     exact⟨h',x++y,by rw [hy,h1,List.append_assoc],h2,up⟩
    ·rw [h1] at g1
     rw [←h2] at g2
     obtain⟨y,hy⟩:=oneV_new g2 g1
     exact⟨h',y,hy,h2,up⟩
    ·unfold lateOk at g2
     split at g2
     ·rename_i s hs
      split at g2
      ·rename_i r ver a b hlk
       obtain⟨_,hlk0⟩:=restr_look hlk
       rw [lex_out hM hl (lateT_spec hs).2 k (by omega)] at hlk0
       rcases oneV_late hs hlk g1 with he |⟨o0,o1,e1,e2,e3,e4⟩
       ·exact⟨h',x,by rw [he,h1],h2,up⟩
       ·rw [h1] at e1 e2
        by_cases hrl:r<h'.length
        ·refine⟨h'.set r o1,x,by rw [e2,List.set_append,if_pos hrl],by simpa using h2,fun r0 o hr=> ?_⟩
         by_cases hr0:r=r0
         ·subst hr0
          obtain⟨o',k1,k2,k3,_⟩:=h3 r o hr
          rw [List.getElem?_append_left hrl,k1] at e1
          cases e1
          exact⟨o1,by rw [List.getElem?_set_self hrl],e3.trans k2,e4.trans k3,.inr (.inr ⟨k,_,s,ver,a,b,by omega,ho,hs,hlk0⟩)⟩
         ·obtain⟨o',k1,k2,k3,k4⟩:=up r0 o hr
          exact⟨o',by rw [List.getElem?_set_ne hr0];exact k1,k2,k3,k4⟩
        ·exact⟨h',x.set (r-h'.length) o1,by rw [e2,List.set_append,if_neg hrl],h2,up⟩
      ·cases g2
     ·cases g2
    ·obtain⟨e1,e2⟩:=oneV_held g2 g1
     have hll:(H k).length=h'.length+x.length:=by rw [h1];simp
     refine⟨(H (k+1)).take h0.length,(H (k+1)).drop h0.length,by simp,by simp;omega,fun r o hr=> ?_⟩
     obtain⟨o',k1,k2,k3,k4⟩:=up r o hr
     have hrl:=(List.getElem?_eq_some_iff.1 hr).1
     obtain⟨o1,q1,q2,q3,q4⟩:=e2 r o' (by rw [h1,List.getElem?_append_left (by omega)];exact k1)
     refine⟨o1,by rw [List.getElem?_take,if_pos hrl];exact q1,q2.trans k2,q3.trans k3,?_⟩
     rcases q4 with rfl |q4
     ·exact k4
     ·exact .inr (.inl q4)
theorem one_wp (hF:FnSound cx F) (hO:OP cx F) (hX:ExtSound cx) {S:Nat→Prop}{μ:Mu}{e:Env}{h h1:Heap}{v:AV}{a:Act}{w:World}(st:St cx K N S μ e h a.tmps w) {i:Nat}{o:Oper}(ho:ops[i]?=some o) (hv:oneV cx F ops o e h=some (v,h1)) (hp:putK N o.dst v e some=some (ext o.dst v e)) {Kn:Act→World→Prop}{Q:Exit→Act→World→Prop}(hn:∀S' μ' a' w',St cx K N S' μ' (ext o.dst v e) h1 a'.tmps w'→a'.defers=a.defers→Kn a' w'):wpOp cx.P ops Q i Kn a w:=by
 unfold wpOp
 rw [ho]
 simp only
 have one:stepV cx F o e h=some (v,h1)→o.wp cx.P a w Kn Q:=fun hs =>
  stepOp_wp (q:=true) hF hO hX st (e := .normal) (by rw [stepOp_V,hs,χ];exact(putK_pk N o.dst v e).nat (fun e=>some (JX.normal,e,h1)) |>.trans (by rw [hp];rfl)) (fun _=>hn) fun hne=>absurd rfl hne
 have skip:v = .val undef→h1=h→Kn (a.put o.dst undef) w:=fun h2 h3=>by
  subst h2;subst h3
  exact hn S μ _ w (st.putO rfl hp (.val undef)) putK_defers
 unfold oneV at hv
 cases hg:o.guard with
 |none =>
  rw [hg] at hv
  have hw:Region.wanted o (yielded ops a.tmps)=true:=by unfold Region.wanted;rw [hg]
  rw [if_pos hw]
  exact .inl (one hv)
 |some jw =>
  obtain⟨j,want⟩:=jw
  rw [hg] at hv
  obtain⟨d,h2,hv⟩:=bind_some_iff hv
  obtain⟨x,h3,hv⟩:=bind_some_iff hv
  have hrep:=st.env d x h3
  split at hv
  ·rename_i b
   have hb:a.tmps[d]?=some (.bool b):=getD_some hrep.inv_val (by simp [undef])
   have hw:Region.wanted o (yielded ops a.tmps)=(b==want):=by
    unfold Region.wanted
    rw [hg]
    simp only [yielded_of h2 hb]
    cases b<;>cases want<;>rfl
   cases hbw:(b==want) with
   |true =>
    rw [hbw] at hv hw
    rw [if_pos hw]
    exact .inl (one hv)
   |false =>
    rw [hbw] at hv hw
    rw [if_neg (by rw [hw];simp)]
    cases hv
    exact skip rfl rfl
  ·rename_i us
   have hne:Region.wanted o (yielded ops a.tmps)=false:=by
    unfold Region.wanted
    rw [hg]
    have:yielded ops a.tmps j=none:=by
     unfold gslot at h2
     unfold yielded
     rw [h2]
     simp only [χ]
     have h5:=hrep.inv_val
     rw [Array.getD_eq_getD_getElem?] at h5
     cases hx:a.tmps[d]? with
     |none=>rfl
     |some x=>rw [hx] at h5;simp at h5;rw [h5]
    simp only [this]
    rfl
   rw [if_neg (by rw [hne];simp)]
   cases hv
   exact skip rfl rfl
  ·cases hv
theorem upCall_up {ρ:Type}{o:Oper}{e0 e:Env}{h:Heap}{r:ρ}{c:JX→AV→Heap→Option ρ}(hE:∀t v,look e0 t=some v→look e t=some v) (hs:upCall cx F o e0 h c=some r):upCall cx F o e h c=some r:=by
 unfold upCall at hs ⊢
 split at hs
 ·rename_i f args ts hop
  exact bind_up hs (fun a ha=>opnd_up hE ha) fun a ha=>bind_up ha (fun b hb=>opnds_up hE hb) fun b hb=>hb
 ·cases hs
theorem upCall_pick (cx:Cx) (F:EF) (o:Oper) (e:Env) (h:Heap) {x:JX×AV×Heap}(hs:upCall cx F o e h (fun e v h=>some (e,v,h))=some x) {ρ:Type}(c:JX→AV→Heap→Option ρ):upCall cx F o e h c=c x.1 x.2.1 x.2.2:=by
 obtain⟨a,h1,h2,_⟩:=upCall_pkl (F:=F) (G:=fun _=>F) (fun _ _ _ r hr=>⟨0,fun _ _=>hr⟩) cx o e h _ (fun x=>some x) _ hs
 cases h1
 exact h2 _ fun x=>c x.1 x.2.1 x.2.2
theorem stepOp_up {o:Oper}{e:Env}{h:Heap}{x:JX×AV×Heap}(hs:upCall cx F o e h (fun e v h=>some (e,v,h))=some x) {ρ:Type}(c:JX→Env→Heap→Option ρ) :
  stepOp cx F N false o e h c=match x.1 with
   | .normal=>putK N o.dst x.2.1 e fun env=>c .normal env x.2.2
   |e'=>c e' e x.2.2:=by
 have hp:=upCall_pick cx F o e h hs fun e' v h'=>match e' with
   | .normal=>putK N o.dst v e fun env=>c .normal env h'
   |e'=>c e' e h'
 refine Eq.trans ?_ hp
 unfold upCall at hs ⊢
 split at hs
 ·rename_i f args ts hop
  unfold stepOp
  rw [hop]
  rfl
 ·cases hs
theorem oneP_wp (hF:FnSound cx F) (hO:OP cx F) (hX:ExtSound cx) {S:Nat→Prop}{μ:Mu}{e:Env}{h h1:Heap}{v:AV}{a:Act}{w:World}(st:St cx K N S μ e h a.tmps w) {i:Nat}{o:Oper}(ho:ops[i]?=some o) (hg:o.guard=none) (hv:upCall cx F o e h (fun e v h=>some (e,v,h))=some (.normal,v,h1)) (hp:putK N o.dst v e some=some (ext o.dst v e)) {Kn:Act→World→Prop}{Q:Exit→Act→World→Prop}(hn:∀S' μ' a' w',St cx K N S' μ' (ext o.dst v e) h1 a'.tmps w'→a'.defers=a.defers→Kn a' w'):wpOp cx.P ops Q i Kn a w:=by
 unfold wpOp
 rw [ho]
 simp only
 have hw:Region.wanted o (yielded ops a.tmps)=true:=by unfold Region.wanted;rw [hg]
 rw [if_pos hw]
 refine .inl (stepOp_wp (q:=false) (e := .normal) (env':=ext o.dst v e) (h':=h1) hF hO hX st ?_ (fun _=>hn) fun hne=>absurd rfl hne)
 rw [stepOp_up hv]
 exact((putK_pk N o.dst v e).nat (fun e=>some (JX.normal,e,h1))).trans (by rw [hp];rfl)
theorem AnyInv.next (hF:FnSound cx F) (hO:OP cx F) (hX:ExtSound cx) (q:QOk cx.turns md ops) (od:OrdOk cx.turns md ops) (hh0:md=true→H 0=h0) (hM:M≤ops.size) (hl:∀(k:Nat) (o:Oper),k<M→ops[k]?=some o→LexU (D k) cx F N md h0 TT ops o (E k) (H k) (V k) (E (k+1)) (H (k+1))) {listed:Array Bool}{a:Act}{w:World}(inv:AnyInv cx K N M ops E H V listed a w) {i:Nat}(hD:D i=false) (hdep:∀x,Waits ops x i→D x=false) (hiM:i<M) (hr:i∈Region.ready .any ops listed) {Kn:Act→World→Prop}{Q:Exit→Act→World→Prop}(hn:∀a' w',AnyInv cx K N M ops E H V (listed.setIfInBounds i true) a' w'→a'.defers=a.defers→Kn a' w'):wpOp cx.P ops Q i Kn a w:=by
 obtain⟨hsz,hcl,S,μ,e,m,st,hm,heff,henv0,henv⟩:=inv
 obtain⟨hu,o,ho,hall⟩:=mem_ready.1 hr
 have his:i<ops.size:=(Array.getElem?_eq_some_iff.1 ho).1
 have huf:listed.getD i false=false:=by rw [getD_tf (by omega) false true];exact hu
 have lx:=hl i o hiM ho
 rw [hD] at lx
 have hE:∀t v,look (restrE (E i) (o.looksAt ops)) t=some v→look e t=some v:=fun t v ht=>by
  obtain⟨h1,h2⟩:=restr_look ht
  rcases lex_look q hM hl i (by omega) t v h2 with⟨k,ok,hk,hok,hdk,rfl⟩ |⟨h3,h4⟩
  ·rcases q.look ho h1 with h5 |⟨e',o',he',hd',hw⟩ |⟨e',o',he',hd',hw⟩
   ·exact absurd hdk (h5 k ok hok)
   ·have:e'=k:=q.uniq he' hok hd' hdk
    subst this
    obtain⟨o2,ho2,x,hx,hb,hon⟩:=hw
    rw [ho] at ho2
    cases ho2
    refine henv e' ok t ?_ hok hdk
    rw [←hon]
    exact hall x hx hb
   ·have:e'=k:=q.uniq he' hok hd' hdk
    subst this
    rcases hw with⟨o2,ho2,x,hx,hb,hon⟩ |hw
    ·have:=q.dep ho2 x hx hb
     omega
    ·omega
  ·rcases q.look ho h1 with h5 |⟨e',o',he',hd',hw⟩ |⟨e',o',he',hd',hw⟩
   ·exact henv0 t v h4 fun k o' ho' hd'=>absurd hd' (h5 k o' ho')
   ·obtain⟨o2,ho2,x,hx,hb,hon⟩:=hw
    rw [ho] at ho2
    cases ho2
    have:=q.dep ho x hx hb
    exact absurd hd' (h3 e' o' (by omega) (hdep e' ⟨o,ho,x,hx,hb,hon⟩) he')
   ·refine henv0 t v h4 fun k o2 ho2 hd2=> ?_
    have:k=e':=q.uniq ho2 he' hd2 hd'
    subst this
    rcases hw with hw |hw
    ·cases hx:listed.getD k false with
     |false=>rfl
     |true =>
      have:=hcl i k hw hx
      rw [huf] at this
      cases this
    ·rw [hw];exact huf
 have setf:∀j,j≠i→(listed.setIfInBounds i true).getD j false=listed.getD j false:=fun j hj=>getD_set_ne false (Ne.symm hj)
 have seti:(listed.setIfInBounds i true).getD i false=true:=by simp [show i<listed.size by omega]
 have hcl':Closed ops (listed.setIfInBounds i true):=fun x y hw hy=>by
  by_cases hyi:y=i
  ·subst hyi
   obtain⟨o2,ho2,z,hz,hb,hon⟩:=hw
   rw [ho] at ho2
   cases ho2
   have h1:=hall z hz hb
   rw [hon] at h1
   exact getD_set_true h1
  ·rw [setf y hyi] at hy
   exact getD_set_true (hcl x y hw hy)
 have back:∀(m':Nat) (S':Nat→Prop) (μ':Mu) (a':Act) (w':World),m'≤M→(∀j oj,ops[j]?=some oj→effOp cx.turns oj=true→((listed.setIfInBounds i true).getD j false=true↔j<m')) →
   St cx K N S' μ' (ext o.dst (V i) e) (H m') a'.tmps w'→AnyInv cx K N M ops E H V (listed.setIfInBounds i true) a' w':=fun m' S' μ' a' w' hm' hx st'=>by
  refine⟨by simp [hsz],hcl',S',μ',_,m',st',hm',hx,fun t v ht hno=> ?_,fun k ok t hk hok hd=> ?_⟩
  ·have hne:o.dst≠some t:=fun hd=>by
    have:=hno i o ho hd
    rw [show(listed.setIfInBounds i true).getD i false=true by simp [show i<listed.size by omega]] at this
    cases this
   rw [ext_look_ne hne]
   refine henv0 t v ht fun k o' ho' hd'=> ?_
   have:=hno k o' ho' hd'
   by_cases hki:k=i
   ·subst hki
    exact huf
   ·rwa [getD_set_ne false (Ne.symm hki)] at this
  ·by_cases hki:k=i
   ·subst hki
    rw [ho] at hok
    cases hok
    rw [hd]
    exact ext_look_self
   ·rw [setf k hki] at hk
    rw [ext_look_ne (fun h=>hki (q.uniq hok ho hd h))]
    exact henv k ok t hk hok hd
 have low:loose cx.turns md o=false→∀j oj,j<i→ops[j]?=some oj→effOp cx.turns oj=true→listed.getD j false=true:=fun hlo j oj hji hj he=>by
  exact hcl.ready ((od j oj hj he).2.2 i o hji ho hlo) hr
 have high:loose cx.turns md o=false→∀j oj,i<j→ops[j]?=some oj→effOp cx.turns oj=true→listed.getD j false=false:=fun hlo j oj hij hj he=>by
  cases hx:listed.getD j false with
  |false=>rfl
  |true =>
   have:=hcl.path ((od j oj hj he).2.1 i o hij ho hlo) hx
   rw [huf] at this
   cases this
 have hH:loose cx.turns md o=false→H m=H i:=fun hlo=>by
  rcases Nat.le_total m i with h |h
  ·refine(lex_heap hM hl i h (by omega) fun j oj h1 h2 hj=> ?_).symm
   cases he:effOp cx.turns oj with
   |false=>rfl
   |true =>
    have:=(heff j oj hj he).1 (low hlo j oj h2 hj he)
    omega
  ·refine lex_heap hM hl m h hm fun j oj h1 h2 hj=> ?_
   cases he:effOp cx.turns oj with
   |false=>rfl
   |true =>
    have h3:=(heff j oj hj he).2 h2
    by_cases hji:j=i
    ·subst hji
     rw [huf] at h3
     cases h3
    ·rw [high hlo j oj (by omega) hj he] at h3
     cases h3
 rcases lx with lx |lx
 case inr =>
  have hlo:loose cx.turns md o=false:=by
   unfold loose
   rw [lx.eff,lx.nf]
   cases md<;>rfl
  have h1:=upCall_up hE lx.call
  rw [←hH hlo] at h1
  refine oneP_wp hF hO hX st ho lx.g h1 (lx.put e) fun S' μ' a' w' st' hd=> ?_
  refine hn a' w' (back (i+1) S' μ' a' w' (by omega) (fun j oj hj hej=> ?_) st') hd
  by_cases hji:j=i
  ·subst hji
   exact⟨fun _=>by omega,fun _=>seti⟩
  ·rw [setf j hji]
   rcases Nat.lt_or_ge j i with h2 |h2
   ·exact⟨fun _=>by omega,fun _=>low hlo j oj h2 hj hej⟩
   ·rw [high hlo j oj (by omega) hj hej]
    exact⟨(fun hx=>by cases hx),fun hx=>by omega⟩
 cases hf:freeOp o with
 |true =>
  have h1:=oneV_up hE (lx.free hf).1
  have h2:=(oneV_free (h':=H m) hf h1).2
  have hne:effOp cx.turns o=false:=freeOp_eff hf
  refine one_wp hF hO hX st ho h2 (lx.put e) fun S' μ' a' w' st' hd=>hn a' w' (back m S' μ' a' w' hm (fun j oj hj he=> ?_) st') hd
  by_cases hji:j=i
  ·subst hji
   rw [ho] at hj
   cases hj
   rw [hne] at he
   cases he
  ·rw [setf j hji]
   exact heff j oj hj he
 |false =>
  cases hmd:(md&& !effOp cx.turns o) with
  |true =>
   have hm1:md=true:=by
    cases md with
    |true=>rfl
    |false=>cases hmd
   have hne:effOp cx.turns o=false:=by
    rw [hm1] at hmd
    simpa using hmd
   obtain⟨⟨rs,hrs,h',h1⟩,_⟩:=lx.look hf hmd
   have h1:=oneV_up hE h1
   obtain⟨hA,x,hx,hAl,hAg⟩:=lex_agree (hh0 hm1) hM (hm1▸hl) m hm
   have hle:HLe (hideH h0 (rs++TT)) (H m):=by
    refine hide_le fun r o0 hr0=> ?_
    obtain⟨o',k1,k2,k3,k4⟩:=hAg r o0 hr0
    refine⟨o',by rw [hx,List.getElem?_append_left (List.getElem?_eq_some_iff.1 k1).1];exact k1,k2,k3,?_⟩
    rcases k4 with k4 |k4 |⟨j,oj,s,ver,a,b,hj,hoj,hs,hls⟩
    ·exact .inl k4
    ·exact .inr (.inl (List.mem_append_right _ k4))
    ·refine .inr (.inl (List.mem_append_left _ ?_))
     obtain⟨⟨t,y,hop⟩,hout⟩:=lateT_spec hs
     have hjl:listed.getD j false=true:=(heff j oj hoj (by unfold effOp;rw [hop])).2 hj
     have hnp:¬(j=i∨Path ops i j):=fun hp=>by
      rcases hp with rfl |hp
      ·rw [huf] at hjl;cases hjl
      ·have:=hcl.path hp hjl
       rw [huf] at this
       cases this
     refine hidR_mem (s:=s) (ver:=ver) (a:=a) (b:=b) (by rw [lex_out hM hl hout i (by omega)];exact hls) hrs ?_
     have hmem:(0+j,s)∈lates ops ops.toList 0:=lates_mem hs (by simpa using hoj)
     rw [Nat.zero_add] at hmem
     unfold hidS
     split
     ·rename_i hnil
      rw [hnil] at hmem
      cases hmem
     ·rename_i p ps hps
      rw [hps] at hmem
      have all:s∈(p::ps).map (·.2):=List.mem_map.2 ⟨(j,s),hmem,rfl⟩
      split
      ·exact all
      ·rename_i d hd
       split
       ·exact all
       ·rename_i i' hi'
        obtain⟨_,r',hr',hd'⟩:=idxOf_spec hi'
        rw [Nat.sub_zero] at hr'
        have hii:i'=i:=by
         rw [recs_get] at hr'
         cases ho':ops[i']? with
         |none=>rw [ho'] at hr';cases hr'
         |some o2 =>
          rw [ho'] at hr'
          cases hr'
          exact q.uniq ho' ho hd' hd
        subst hii
        refine List.mem_map.2 ⟨(j,s),List.mem_filter.2 ⟨hmem,?_⟩,rfl⟩
        simp only [Bool.not_eq_true',any_beqF]
        intro hmj
        exact hnp (descs_spec (md:=true) (tf:=cx.turns) _ (i'+1) [i'] rfl (fun x hx => .inl (by simpa using hx)) j hmj)
   have h2:oneV cx F ops o e (H m)=some (V i,H m):=oneV_mono hle hne h1
   refine one_wp hF hO hX st ho h2 (lx.put e) fun S' μ' a' w' st' hd=>hn a' w' (back m S' μ' a' w' hm (fun j oj hj he=> ?_) st') hd
   by_cases hji:j=i
   ·subst hji
    rw [ho] at hj
    cases hj
    rw [hne] at he
    cases he
   ·rw [setf j hji]
    exact heff j oj hj he
  |false =>
  have hlo:loose cx.turns md o=false:=by
   unfold loose
   cases md with
   |false=>simpa using hf
   |true=>simpa using hmd
  have h1:=oneV_up hE (lx.bound hf hmd).1
  rw [←hH hlo] at h1
  refine one_wp hF hO hX st ho h1 (lx.put e) fun S' μ' a' w' st' hd=> ?_
  cases he:effOp cx.turns o with
  |true =>
   refine hn a' w' (back (i+1) S' μ' a' w' (by omega) (fun j oj hj hej=> ?_) st') hd
   by_cases hji:j=i
   ·subst hji
    exact⟨fun _=>by omega,fun _=>seti⟩
   ·rw [setf j hji]
    rcases Nat.lt_or_ge j i with h2 |h2
    ·exact⟨fun _=>by omega,fun _=>low hlo j oj h2 hj hej⟩
    ·rw [high hlo j oj (by omega) hj hej]
     exact⟨(fun hx=>by cases hx),fun hx=>by omega⟩
  |false =>
   have h2:=oneV_same he h1
   have h3:H (i+1)=H m:=h2
   rw [h3] at st'
   refine hn a' w' (back m S' μ' a' w' hm (fun j oj hj hej=> ?_) st') hd
   by_cases hji:j=i
   ·subst hji
    rw [ho] at hj
    cases hj
    rw [he] at hej
    cases hej
   ·rw [setf j hji]
    exact heff j oj hj hej
theorem AnyInv.done (q:QOk cx.turns md ops) (hM:M≤ops.size) (hl:∀(k:Nat) (o:Oper),k<M→ops[k]?=some o→LexU false cx F N md h0 TT ops o (E k) (H k) (V k) (E (k+1)) (H (k+1))) {listed:Array Bool}{a:Act}{w:World}(inv:AnyInv cx K N M ops E H V listed a w) (hall:∀i,i<M→listed.getD i true=true) (hrest:∀i,M≤i→listed.getD i false=false):∃S μ,St cx K N S μ (E M) (H M) a.tmps w:=by
 obtain⟨hsz,hcl,S,μ,e,m,st,hm,heff,henv0,henv⟩:=inv
 have hallf:∀i,i<M→listed.getD i false=true:=fun i hi=>by rw [getD_tf (by omega) false true];exact hall i hi
 have hH:H M=H m:=lex_heap (D:=fun _=>false) hM hl M hm (Nat.le_refl _) fun j oj h1 h2 hj=>by
  cases he:effOp cx.turns oj with
  |false=>rfl
  |true =>
   have:=(heff j oj hj he).1 (hallf j h2)
   omega
 refine⟨S,μ,?_⟩
 rw [hH]
 refine { st with env:=fun t v ht=>st.env t v ?_ }
 rcases lex_look (D:=fun _=>false) q hM hl M (Nat.le_refl _) t v ht with⟨i,o,hi,ho,hd,rfl⟩ |⟨h1,h2⟩
 ·exact henv i o t (hallf i hi) ho hd
 ·refine henv0 t v h2 fun k o hk hd=> ?_
  rcases Nat.lt_or_ge k M with hkM |hkM
  ·exact absurd hd (h1 k o hkM rfl hk)
  ·exact hrest k hkM
theorem ready_none (q:QOk cx.turns md ops) {listed:Array Bool}(hsz:listed.size=ops.size) (hr:Region.ready .any ops listed=[]):∀i,i<ops.size→listed.getD i true=true:=by
 intro i
 induction i using Nat.strongRecOn with
 | _ i ih =>
  intro hi
  cases hx:listed.getD i true with
  |true=>rfl
  |false =>
   have ho:ops[i]?=some ops[i]:=Array.getElem?_eq_getElem hi
   have:i∈Region.ready .any ops listed:=mem_ready.2 ⟨hx,_,ho,fun e he hb=>by
    have h1:=q.dep ho e he hb
    rw [getD_tf (by omega) false true]
    exact ih e.on h1 (by omega)⟩
   rw [hr] at this
   cases this
theorem any_wp (hF:FnSound cx F) (hO:OP cx F) (hX:ExtSound cx) (q:QOk cx.turns md ops) (od:OrdOk cx.turns md ops) (hh0:md=true→H 0=h0) (hM:M=ops.size) (hl:∀(k:Nat) (o:Oper),k<M→ops[k]?=some o→LexU false cx F N md h0 TT ops o (E k) (H k) (V k) (E (k+1)) (H (k+1))) {Q:Exit→Act→World→Prop}{a0:Act}
  (hq:∀S μ a w,St cx K N S μ (E M) (H M) a.tmps w→a.defers=a0.defers→Q .normal a w):∀(fuel:Nat) (listed:Array Bool) (a:Act) (w:World),unl listed ops.size=fuel →
  AnyInv cx K N M ops E H V listed a w→a.defers=a0.defers→wpAny cx.P .any ops Q fuel listed a w
 | 0,listed,a,w,hu,inv,hd=>by
  have hall:=unl_zero hu
  refine⟨?_,?_⟩
  ·cases hr:Region.ready .any ops listed with
   |nil=>rfl
   |cons i l =>
    have hi:i∈Region.ready .any ops listed:=by rw [hr];exact List.mem_cons_self ..
    obtain⟨h1,o,ho,_⟩:=mem_ready.1 hi
    rw [hall i (Array.getElem?_eq_some_iff.1 ho).1] at h1
    cases h1
  ·obtain⟨S,μ,st⟩:=inv.done q (by omega) hl (fun i hi=>hall i (by omega)) (fun i hi=>by have:=inv.size;simp [Array.getD,show ¬i<listed.size by omega])
   exact hq S μ a w st hd
 |fuel+1,listed,a,w,hu,inv,hd=>by
  refine⟨fun hr=> ?_,fun i hi=> ?_⟩
  ·obtain⟨S,μ,st⟩:=inv.done q (by omega) hl (fun i hi=>ready_none q inv.size hr i (by omega)) (fun i hi=>by have:=inv.size;simp [Array.getD,show ¬i<listed.size by omega])
   exact hq S μ a w st hd
  ·obtain⟨h1,o,ho,_⟩:=mem_ready.1 hi
   have his:i<ops.size:=(Array.getElem?_eq_some_iff.1 ho).1
   refine inv.next (D:=fun _=>false) hF hO hX q od hh0 (by omega) hl rfl (fun _ _=>rfl) (by omega) hi fun a' w' inv' hd'=>any_wp hF hO hX q od hh0 hM hl hq fuel _ a' w' ?_ inv' (hd'.trans hd)
   have:=unl_set h1 ops.size
   rw [if_pos his] at this
   omega
theorem unl_replicate (k:Nat):∀(n:Nat),n≤k→unl (Array.replicate k false) n=n
 | 0,h=>rfl
 |n+1,h=>by
  simp only [unl]
  rw [unl_replicate k n (by omega),show(Array.replicate k false).getD n true=false by simp [show n<k by omega]]
  rfl
theorem region_any (hF:FnSound cx F) (hO:OP cx F) (hX:ExtSound cx) {S:Nat→Prop}{μ:Mu}{env env':Env}{h h':Heap}{a:Act}{w:World}(st:St cx K N S μ env h a.tmps { w with drawn:=w.drawn+1 }) {id:Nat}(hok:anyOk cx.P cx.turns md ops=true) (hh:md=true→h=h0) (hr:runAny cx F N md h0 TT ops ops.toList env h (fun e h=>some (e,h))=some (env',h')) {Q:Exit→Act→World→Prop}(hq:∀S' μ' a' w',St cx K N S' μ' env' h' a'.tmps w'→a'.defers=a.defers→Q .normal a' w'):(Code.region id ops true).wp cx.P Q a w:=by
 obtain⟨hm,_,q,od⟩:=anyOk_spec hok
 obtain⟨E,H,V,g1,g2,g3,g4,g5⟩:=runAny_lex hr
 have hl:∀(k:Nat) (o:Oper),k<ops.size→ops[k]?=some o→Lex cx F N md h0 TT ops o (E k) (H k) (V k) (E (k+1)) (H (k+1)):=fun k o _ ho=>g5 k o (by simpa using ho)
 have hsz:ops.toList.length=ops.size:=by simp
 rw [hsz] at g3 g4
 refine wp_region_any hm (any_wp (E:=E) (H:=H) (V:=V) (h0:=h0) (M:=ops.size) hF hO hX q od (fun hx=>g2.trans (hh hx)) rfl (fun k o hk ho => .inl (hl k o hk ho)) (a0:=a) (fun S' μ' a' w' st' hd=>hq S' μ' a' w' (by rw [←g3,←g4];exact st') hd) ops.size _ a _ (unl_replicate _ _ (Nat.le_refl _)) ?_ rfl)
 have hz0:∀j b,j<ops.size→(Array.replicate ops.size false).getD j b=false:=fun j b hj=>by simp [hj]
 have hz0':∀j,(Array.replicate ops.size false).getD j false=false:=fun j=>getD_replicate_false _ _
 refine⟨by simp,fun i j hw hj=> ?_,S,μ,env,0,by rw [g2];exact st,Nat.zero_le _,fun j o hj he=> ?_,fun t v ht _=>by rw [g1] at ht;exact ht,fun k o t hk=> ?_⟩
 ·rw [hz0' j] at hj;cases hj
 ·rw [hz0' j];exact⟨(fun hx=>by cases hx),fun hx=>by omega⟩
 ·rw [hz0' k] at hk;cases hk
theorem tail_wp (hF:FnSound cx F) (hO:OP cx F) (hX:ExtSound cx) (q:QOk cx.turns md ops) {Q:Exit→Act→World→Prop}{a0:Act}{e:JX}{env':Env}{h':Heap}
  (hq:∀S' μ' a' w',St cx K N S' μ' env' h' a'.tmps w'→a'.defers=a0.defers→Q e.toExit a' w'):∀(l:List Oper) (m:Nat) {S:Nat→Prop}{μ:Mu}{env:Env}{h:Heap}{a:Act}{w:World}{listed:Array Bool}{fuel:Nat},
  ops.toList.drop m=l→(∀j,m≤j→j<ops.size→∃o,ops[j]?=some o∧o.guard=none∧∀i,i<j→Path ops i j)→listed.size=ops.size→(∀j,j<m→listed.getD j true=true)→(∀j,m≤j→listed.getD j false=false) →
  unl listed ops.size=fuel→St cx K N S μ env h a.tmps w→a.defers=a0.defers→runOps cx F N false ops l env h (fun e env h=>some (e,env,h))=some (e,env',h')→wpAny cx.P .any ops Q fuel listed a w
 | [],m,S,μ,env,h,a,w,listed,fuel,hd,ht,hsz,h1,h2,hu,st,hdef,hr=>by
  simp only [runOps] at hr
  cases hr
  have hm:ops.size≤m:=by
   have:=congrArg List.length hd
   simp at this
   omega
  have hnone:Region.ready .any ops listed=[]:=by
   cases hr:Region.ready .any ops listed with
   |nil=>rfl
   |cons j l =>
    have hj:j∈Region.ready .any ops listed:=by rw [hr];exact List.mem_cons_self ..
    obtain⟨k1,oj,hoj,_⟩:=mem_ready.1 hj
    have hjs:=(Array.getElem?_eq_some_iff.1 hoj).1
    rw [h1 j (by omega)] at k1
    cases k1
  have hqq:=hq S μ a w st hdef
  cases fuel with
  |zero=>exact⟨hnone,hqq⟩
  |succ fuel=>exact⟨fun _=>hqq,fun j hj=>by rw [hnone] at hj;cases hj⟩
 |o::l,m,S,μ,env,h,a,w,listed,fuel,hd,ht,hsz,h1,h2,hu,st,hdef,hr=>by
  have hm:m<ops.size:=by
   have:=congrArg List.length hd
   simp at this
   omega
  have ho:ops[m]?=some o:=by
   have:=congrArg (fun l=>l[0]?) hd
   simpa using this
  have hd':ops.toList.drop (m+1)=l:=by rw [←List.drop_drop,hd];rfl
  obtain⟨o',ho',hg,_⟩:=ht m (Nat.le_refl _) hm
  rw [ho] at ho'
  cases ho'
  have hcl:Closed ops listed:=fun x y hw hy=>by
   obtain⟨o2,ho2,z,hz,hb,hon⟩:=hw
   have hxy:=q.dep ho2 z hz hb
   have hym:y<m:=by
    rcases Nat.lt_or_ge y m with h |h
    ·exact h
    ·rw [h2 y h] at hy;cases hy
   rw [getD_tf (by omega) false true]
   exact h1 x (by omega)
  have hlm:listed.getD m true=false:=by rw [getD_tf (by omega) true false];exact h2 m (Nat.le_refl _)
  cases fuel with
  |zero =>
   have hall:=unl_zero hu m hm
   rw [hlm] at hall
   cases hall
  |succ fuel =>
   refine⟨fun hr=> ?_,fun i hi=> ?_⟩
   ·have hall:=ready_none q hsz hr m hm
    rw [hlm] at hall
    cases hall
   ·obtain⟨k1,oi,hoi,_⟩:=mem_ready.1 hi
    have his:i<ops.size:=(Array.getElem?_eq_some_iff.1 hoi).1
    have him:i=m:=by
     rcases Nat.lt_trichotomy i m with h |h |h
     ·rw [h1 i h] at k1;cases k1
     ·exact h
     ·obtain⟨_,_,_,hp⟩:=ht i (by omega) his
      have:=hcl.ready (hp m h) hi
      rw [h2 m (Nat.le_refl _)] at this
      cases this
    subst him
    unfold wpOp
    rw [ho]
    simp only
    have hw:Region.wanted o (yielded ops a.tmps)=true:=by unfold Region.wanted;rw [hg]
    rw [if_pos hw]
    simp only [runOps,hg] at hr
    obtain⟨⟨e1,env1,h1'⟩,g2,g3,_⟩:=stepOp_pkl (G:=fun _=>F) (fun _ _ _ r hr=>⟨0,fun _ _=>hr⟩) cx N false o env h _ (fun x=>match x.1 with
     | .normal=>runOps cx F N false ops l x.2.1 x.2.2 fun e env h=>some (e,env,h)
     |e=>some (e,x.2.1,x.2.2)) _ hr
    have g1:=g3 _ fun x=>some x
    refine .inl ?_
    have next:∀(a':Act) (w':World) (S':Nat→Prop) (μ':Mu),e1 = .normal→St cx K N S' μ' env1 h1' a'.tmps w'→a'.defers=a.defers→wpAny cx.P .any ops Q fuel (listed.setIfInBounds i true) a' w':=fun a' w' S' μ' he st' hd2=>by
     subst he
     refine tail_wp hF hO hX q hq l (i+1) hd' (fun j h3 h4=>ht j (by omega) h4) (by simp [hsz]) (fun j hj=> ?_) (fun j hj=> ?_) ?_ st' (hd2.trans hdef) g2
     ·by_cases hji:j=i
      ·subst hji;simp [show j<listed.size by omega]
      ·rw [getD_set_ne true (Ne.symm hji)];exact h1 j (by omega)
     ·rw [getD_set_ne false (by omega:i≠j)];exact h2 j (by omega)
     ·have:=unl_set (show listed.getD i true=false from hlm) ops.size
      rw [if_pos his] at this
      omega
    cases e1 with
    |normal=>exact stepOp_wp hF hO hX st g1 (fun _ S' μ' a' w' st' hd2=>next a' w' S' μ' rfl st' hd2) fun hne=>absurd rfl hne
    | _=>cases g2;exact stepOp_wp hF hO hX st g1 (fun he=>by cases he) fun _ S' μ' a' w' st' hd2=>hq S' μ' a' w' st' (hd2.trans hdef)
theorem any_tail (hF:FnSound cx F) (hO:OP cx F) (hX:ExtSound cx) (q:QOk cx.turns md ops) (od:OrdOk cx.turns md ops) (hh0:md=true→H 0=h0) (hM:M≤ops.size)
  (hl:∀(k:Nat) (o:Oper),k<M→ops[k]?=some o→Lex cx F N md h0 TT ops o (E k) (H k) (V k) (E (k+1)) (H (k+1))) {Q:Exit→Act→World→Prop}{a0:Act}(ht:∀j,M≤j→j<ops.size→∃o,ops[j]?=some o∧o.guard=none∧∀i,i<j→Path ops i j)
  {e:JX}{env':Env}{h':Heap}(hr:runOps cx F N false ops (ops.toList.drop M) (E M) (H M) (fun e env h=>some (e,env,h))=some (e,env',h')) (hq:∀S' μ' a' w',St cx K N S' μ' env' h' a'.tmps w'→a'.defers=a0.defers→Q e.toExit a' w') :
  ∀(fuel:Nat) (listed:Array Bool) (a:Act) (w:World),unl listed ops.size=fuel→AnyInv cx K N M ops E H V listed a w→(∀j,M≤j→listed.getD j false=false)→a.defers=a0.defers→wpAny cx.P .any ops Q fuel listed a w
 |fuel,listed,a,w,hu,inv,hlM,hd=>by
  by_cases hall:∀j,j<M→listed.getD j true=true
  ·obtain⟨S,μ,st⟩:=inv.done q hM (fun k o hk ho => .inl (hl k o hk ho)) hall hlM
   exact tail_wp hF hO hX q hq _ M rfl ht inv.size hall hlM hu st hd hr
  ·cases fuel with
   |zero =>
    refine absurd (fun j hj=> ?_) hall
    exact unl_zero hu j (by omega)
   |succ fuel =>
    refine⟨fun hr=> ?_,fun i hi=> ?_⟩
    ·exact absurd (fun j hj=>ready_none q inv.size hr j (by omega)) hall
    ·obtain⟨k1,oi,hoi,_⟩:=mem_ready.1 hi
     have his:i<ops.size:=(Array.getElem?_eq_some_iff.1 hoi).1
     have hiM:i<M:=by
      rcases Nat.lt_or_ge i M with h |h
      ·exact h
      ·obtain⟨_,_,_,hp⟩:=ht i h his
       refine absurd (fun j hj=> ?_) hall
       rw [getD_tf (by have:=inv.size;omega) true false]
       exact inv.closed.ready (hp j (by omega)) hi
     refine inv.next (D:=fun _=>false) hF hO hX q od hh0 hM (fun k o hk ho => .inl (hl k o hk ho)) rfl (fun _ _=>rfl) hiM hi fun a' w' inv' hd'=>any_tail hF hO hX q od hh0 hM hl ht hr hq fuel _ a' w' ?_ inv' (fun j hj=> ?_) (hd'.trans hd)
     ·have:=unl_set k1 ops.size
      rw [if_pos his] at this
      omega
     ·rw [getD_set_ne false (by omega:i≠j)];exact hlM j hj
theorem region_tail (hF:FnSound cx F) (hO:OP cx F) (hX:ExtSound cx) {S:Nat→Prop}{μ:Mu}{env env1 env':Env}{h h1 h':Heap}{e:JX}{a:Act}{w:World}(st:St cx K N S μ env h a.tmps { w with drawn:=w.drawn+1 }) {id:Nat}(hok:anyOk cx.P cx.turns true ops=true) (hr:runAny cx F N true h TT ops (ops.toList.take (tailAt cx.turns ops)) env h (fun e h=>some (e,h))=some (env1,h1)) (hs:runOps cx F N false ops (ops.toList.drop (tailAt cx.turns ops)) env1 h1 (fun e env h=>some (e,env,h))=some (e,env',h')) {Q:Exit→Act→World→Prop}(hq:∀S' μ' a' w',St cx K N S' μ' env' h' a'.tmps w'→a'.defers=a.defers→Q e.toExit a' w'):(Code.region id ops true).wp cx.P Q a w:=by
 obtain⟨hm,_,q,od⟩:=anyOk_spec hok
 obtain⟨E,H,V,g1,g2,g3,g4,g5⟩:=runAny_lex hr
 have hM:tailAt cx.turns ops≤ops.size:=Nat.sub_le _ _
 have hsz:(ops.toList.take (tailAt cx.turns ops)).length=tailAt cx.turns ops:=by simp;omega
 rw [hsz] at g3 g4
 have hl:∀(k:Nat) (o:Oper),k<tailAt cx.turns ops→ops[k]?=some o→Lex cx F N true h TT ops o (E k) (H k) (V k) (E (k+1)) (H (k+1)):=fun k o hk ho=>g5 k o (by
  rw [List.getElem?_take,if_pos hk]
  simpa using ho)
 have hz0':∀j,(Array.replicate ops.size false).getD j false=false:=fun j=>getD_replicate_false _ _
 rw [←g3,←g4] at hs
 refine wp_region_any hm (any_tail (K:=K) (E:=E) (H:=H) (V:=V) (h0:=h) (M:=tailAt cx.turns ops) hF hO hX q od (fun _=>g2) hM hl (a0:=a) (fun j h1 h2=>tailAt_spec h1 h2) hs hq ops.size _ a _ (unl_replicate _ _ (Nat.le_refl _)) ?_ (fun j _=>hz0' j) rfl)
 refine⟨by simp,fun i j hw hj=> ?_,S,μ,env,0,by rw [g2];exact st,Nat.zero_le _,fun j o hj he=> ?_,fun t v ht _=>by rw [g1] at ht;exact ht,fun k o t hk=> ?_⟩
 ·rw [hz0' j] at hj;cases hj
 ·rw [hz0' j];exact⟨(fun hx=>by cases hx),fun hx=>by omega⟩
 ·rw [hz0' k] at hk;cases hk
end
end Go.Proofs.Av
