/- Regions whose order is drawn, in which calls may go up: whichever goes up, it is the one that does by the text's order. -/
import Derived.Test.YtoepfmodbhfckaaAzNz
namespace Go.Proofs.Av
open Go
theorem upOp_spec {cx:Cx}{md:Bool}{o:Oper}(h:upOp cx md o=true):effOp cx.turns o=true∧freeOp o=false∧o.guard=none∧∃f args ts,o.op = .call { callee := .value (.func f),args:=args,argTypes:=ts }∧upFn cx md f=true:=by
 unfold upOp at h
 simp only [Bool.and_eq_true] at h
 obtain⟨h1,h2⟩:=h
 have hg:o.guard=none:=by
  unfold noG at h2
  cases hx:o.guard with
  |none=>rfl
  |some _=>rw [hx] at h2;cases h2
 unfold isPanCall at h1
 split at h1
 ·rename_i f args ts hop
  refine⟨?_,?_,hg,f,args,ts,hop,h1⟩
  ·unfold effOp
   rw [hop]
   simp only
   unfold upFn at h1
   unfold Cx.turns
   cases hp:cx.pans f with
   |none=>rw [hp] at h1;cases h1
   |some T =>
    cases cx.ext f with
    |some _=>rfl
    |none=>cases cx.own f<;>rfl
  ·unfold freeOp
   rw [hop]
 ·cases h1
theorem up_heap {cx:Cx}{F:EF}{o:Oper}{e:Env}{h h1:Heap}{x:JX}{v:AV}(hu:upOp cx true o=true) (hc:upCall cx F o e h (fun e v h=>some (e,v,h))=some (x,v,h1)):h1=h:=by
 obtain⟨_,_,_,f,args,ts,hop,hf⟩:=upOp_spec hu
 unfold upCall at hc
 rw [hop] at hc
 simp only at hc
 obtain⟨fv,h2,hc⟩:=bind_some_iff hc
 obtain⟨vs,h3,hc⟩:=bind_some_iff hc
 cases h2
 unfold upFn at hf
 simp only [Bool.not_true,Bool.false_or,Bool.and_eq_true,Option.isNone_iff_eq_none] at hf
 obtain⟨hp,ho,he⟩:=hf
 unfold callX at hc
 simp only [fnOf,Option.bind_some,he,ho] at hc
 cases hp':cx.pans f with
 |none=>rw [hp'] at hp;cases hp
 |some T =>
  rw [hp'] at hc
  simp only [cond_false] at hc
  unfold callP at hc
  obtain⟨g,_,hc⟩:=bind_some_iff hc
  obtain⟨as,_,hc⟩:=bind_some_iff hc
  obtain⟨p,_,hc⟩:=bind_some_iff hc
  obtain⟨r,_,hc⟩:=bind_some_iff hc
  cases hi:isPan r with
  |true =>
   rw [hi] at hc
   simp only [cond_true] at hc
   obtain⟨x,_,hc⟩:=bind_some_iff hc
   obtain⟨x',hc,_⟩:=(normZ_pk _ x).some hc
   cases hg:x'.ground with
   |true=>rw [hg] at hc;cases hc;rfl
   |false=>rw [hg] at hc;cases hc
  |false =>
   rw [hi] at hc
   simp only [cond_false] at hc
   obtain⟨x,_,hc⟩:=bind_some_iff hc
   obtain⟨x',hc,_⟩:=(normR_pk _ _ x).some hc
   cases hg:(x'.ground||(refless 5 (AV.func (.func f) [] [])&&vs.all (refless 5))) with
   |true=>rw [hg] at hc;cases hc;rfl
   |false=>rw [hg] at hc;cases hc
theorem dropD_look {ops:Array Oper}{t:Nat}{v:AV}:∀ {e:Env},look (dropD ops e) t=some v→look e t=some v
 | [],h=>by cases h
 | (s,x)::e,h=>by
  unfold dropD at h
  rw [List.filter_cons] at h
  simp only [look]
  split at h
  ·simp only [look] at h
   split at h
   ·exact h
   ·exact dropD_look h
  ·rename_i hn
   split
   ·rename_i hb
    have hst:=Nat.eq_of_beq_eq_true hb
    subst hst
    exfalso
    have:∀(e:Env),look (e.filter fun p=> !(ops.toList.any fun o=>dIs p.1 o.dst)) s≠some v:=by
     intro e
     induction e with
     |nil=>intro h;cases h
     |cons p e ih =>
      intro h
      rw [List.filter_cons] at h
      split at h
      ·rename_i hp
       obtain⟨p1,p2⟩:=p
       simp only [look] at h
       split at h
       ·rename_i hb
        have:=Nat.eq_of_beq_eq_true hb
        subst this
        exact hn hp
       ·exact ih h
      ·exact ih h
    exact this e h
   ·exact dropD_look h
theorem dropD_out {ops:Array Oper}{t:Nat}{v:AV}:∀ {e:Env},look (dropD ops e) t=some v→∀o∈ops.toList,o.dst≠some t
 | [],h=>by cases h
 | (s,x)::e,h=>by
  unfold dropD at h
  rw [List.filter_cons] at h
  split at h
  ·rename_i hn
   simp only [look] at h
   split at h
   ·rename_i hb
    have hst:=Nat.eq_of_beq_eq_true hb
    subst hst
    intro o ho hd
    have hn':(ops.toList.any fun o=>dIs s o.dst)=false:=by simpa only [Bool.not_eq_true'] using hn
    have:=List.any_eq_false.1 hn' o ho
    rw [hd] at this
    simp [dIs] at this
   ·exact dropD_out h
  ·exact dropD_out h
section
variable {cx:Cx}{F:EF}{K:Kf}{N:Nat}{md:Bool}{h0:Heap}{TT:List Nat}{ops:Array Oper}
theorem runAny_cons {md:Bool}{h0:Heap}{TT:List Nat}{o:Oper}{l:List Oper}{e:Env}{h:Heap}{ρ:Type}{c:Env→Heap→Option ρ}:runAny cx F N md h0 TT ops (o::l) e h c=runAny cx F N md h0 TT ops [o] e h fun e h=>runAny cx F N md h0 TT ops l e h c:=by
 simp only [runAny]
theorem rest_lex:∀(l:List Oper) (k:Nat) (m:List Nat) {e:Env}{h:Heap}{r:Env×Heap},runAny cx F N md h0 TT ops (restOf cx.turns ops l k m) e h (fun e h=>some (e,h))=some r →
  ∃(E:Nat→Env) (H:Nat→Heap) (V:Nat→AV) (D:Nat→Bool),E 0=e∧H 0=h∧(∀(j:Nat) (o:Oper),l[j]?=some o→LexU (D j) cx F N md h0 TT ops o (E j) (H j) (V j) (E (j+1)) (H (j+1))) ∧
   ∀(j:Nat) (o:Oper),l[j]?=some o→(D j=true↔∃d∈(qr cx.turns false ops o).deps,d∈m∨∃j',j'<j∧D j'=true∧d=k+j')
 | [],k,m,e,h,r,hr=>⟨fun _=>e,fun _=>h,fun _=>default,fun _=>false,rfl,rfl,fun j o ho=>by simp at ho,fun j o ho=>by simp at ho⟩
 |o::l,k,m,e,h,r,hr=>by
  simp only [restOf] at hr
  cases hc:((qr cx.turns false ops o).deps.any fun d=>m.any (Nat.beq d)) with
  |true =>
   rw [hc] at hr
   simp only [cond_true] at hr
   obtain⟨E,H,V,D,g1,g2,g3,g4⟩:=rest_lex l (k+1) (k::m) hr
   refine⟨fun j=>match j with | 0=>e |j+1=>E j,fun j=>match j with | 0=>h |j+1=>H j,fun j=>match j with | 0=>default |j+1=>V j,fun j=>match j with | 0=>true |j+1=>D j,rfl,rfl,fun j o' ho=> ?_,fun j o' ho=> ?_⟩
   ·cases j with
    |zero=>exact⟨g1,g2⟩
    |succ j=>exact g3 j o' (by simpa using ho)
   ·cases j with
    |zero =>
     cases ho
     refine⟨fun _=> ?_,fun _=>rfl⟩
     obtain⟨d,hd,hm⟩:=List.any_eq_true.1 hc
     obtain⟨x,hx,hxe⟩:=List.any_eq_true.1 hm
     rw [←Nat.eq_of_beq_eq_true hxe] at hx
     exact⟨d,hd,.inl hx⟩
    |succ j =>
     refine(g4 j o' (by simpa using ho)).trans ⟨fun⟨d,hd,hm⟩=>⟨d,hd,?_⟩,fun⟨d,hd,hm⟩=>⟨d,hd,?_⟩⟩
     ·rcases hm with hm |⟨j',h1,h2,h3⟩
      ·rcases List.mem_cons.1 hm with hm |hm
       ·exact .inr ⟨0,by omega,rfl,by omega⟩
       ·exact .inl hm
      ·exact .inr ⟨j'+1,by omega,h2,by omega⟩
     ·rcases hm with hm |⟨j',h1,h2,h3⟩
      ·exact .inl (List.mem_cons_of_mem _ hm)
      ·cases j' with
       |zero=>exact .inl (by rw [h3];exact List.mem_cons_self ..)
       |succ j'=>exact .inr ⟨j',by omega,h2,by omega⟩
  |false =>
   rw [hc] at hr
   simp only [cond_false] at hr
   have hnm:∀d∈(qr cx.turns false ops o).deps,d ∉ m:=fun d hd hm=>by
    have:=List.any_eq_false.1 hc d hd
    rw [Bool.not_eq_true,any_beqF] at this
    exact this hm
   have split1:∃v e1 h1,Lex cx F N md h0 TT ops o e h v e1 h1∧runAny cx F N md h0 TT ops (restOf cx.turns ops l (k+1) m) e1 h1 (fun e h=>some (e,h))=some r:=by
    obtain⟨E,H,V,q1,q2,q3,q4,q5⟩:=runAny_lex (e':=r.1) (h':=r.2) hr
    obtain⟨⟨e1,h1⟩,p1,p2,_⟩:=runAny_pkl (F:=F) (G:=fun _=>F) (fun _ _ _ r hr=>⟨0,fun _ _=>hr⟩) cx N md h0 TT ops [o] e h _ (fun x=>runAny cx F N md h0 TT ops (restOf cx.turns ops l (k+1) m) x.1 x.2 fun e h=>some (e,h)) r (by
     rw [←hr,runAny_cons])
    obtain⟨E',H',V',w1,w2,w3,w4,w5⟩:=runAny_lex (p2 _ fun x=>some x)
    have:=w5 0 o rfl
    rw [w1,w2] at this
    exact⟨V' 0,E' 1,H' 1,this,by rw [show E' 1=e1 from w3,show H' 1=h1 from w4];exact p1⟩
   obtain⟨v,e1,h1,hlx,hr⟩:=split1
   obtain⟨E,H,V,D,g1,g2,g3,g4⟩:=rest_lex l (k+1) m hr
   refine⟨fun j=>match j with | 0=>e |j+1=>E j,fun j=>match j with | 0=>h |j+1=>H j,fun j=>match j with | 0=>v |j+1=>V j,fun j=>match j with | 0=>false |j+1=>D j,rfl,rfl,fun j o' ho=> ?_,fun j o' ho=> ?_⟩
   ·cases j with
    |zero =>
     cases ho
     rw [←g1,←g2] at hlx
     exact .inl hlx
    |succ j=>exact g3 j o' (by simpa using ho)
   ·cases j with
    |zero =>
     cases ho
     refine⟨fun h=>(by cases h),fun⟨d,hd,hm⟩=> ?_⟩
     rcases hm with hm |⟨j',h1,_⟩
     ·exact absurd hm (hnm d hd)
     ·omega
    |succ j =>
     refine(g4 j o' (by simpa using ho)).trans ⟨fun⟨d,hd,hm⟩=>⟨d,hd,?_⟩,fun⟨d,hd,hm⟩=>⟨d,hd,?_⟩⟩
     ·rcases hm with hm |⟨j',h1,h2,h3⟩
      ·exact .inl hm
      ·exact .inr ⟨j'+1,by omega,h2,by omega⟩
     ·rcases hm with hm |⟨j',h1,h2,h3⟩
      ·exact .inl hm
      ·cases j' with
       |zero=>cases h2
       |succ j'=>exact .inr ⟨j',by omega,h2,by omega⟩
def UpOut (cx:Cx) (F:EF) (N:Nat) (md:Bool) (h0:Heap) (TT:List Nat) (ops:Array Oper) (out:Env) (k:Nat) (l:List Oper) (env:Env) (h:Heap) (e:JX) (env':Env) (h':Heap):Prop :=
 (e = .normal∧∃(E:Nat→Env) (H:Nat→Heap) (V:Nat→AV),E 0=env∧H 0=h∧E l.length=env'∧H l.length=h'∧∀(j:Nat) (o:Oper),l[j]?=some o→LexU false cx F N md h0 TT ops o (E j) (H j) (V j) (E (j+1)) (H (j+1))) ∨
  ∃(E:Nat→Env) (H:Nat→Heap) (V:Nat→AV) (D:Nat→Bool) (M0:Nat) (o0:Oper) (v:AV),E 0=env∧H 0=h∧l[M0]?=some o0∧upOp cx md o0=true ∧
   upCall cx F o0 (restrE (E M0) (o0.looksAt ops)) (H M0) (fun e v h=>some (e,v,h))=some (e,v,h')∧e ≠ .normal∧env'=out∧D M0=true∧(∀j,j<M0→D j=false) ∧
   (∀(j:Nat) (o:Oper),M0<j→l[j]?=some o→(D j=true↔∃d∈(qr cx.turns false ops o).deps,∃j',M0≤j'∧j'<j∧D j'=true∧d=k+j')) ∧
   ∀(j:Nat) (o:Oper),l[j]?=some o→LexU (D j) cx F N md h0 TT ops o (E j) (H j) (V j) (E (j+1)) (H (j+1))
theorem runUp_lex {out:Env}{e:JX}{env':Env}{h':Heap}:∀(l:List Oper) (k:Nat) {env:Env}{h:Heap},ops.toList.drop k=l→runUp cx F N md h0 TT ops out k l env h (fun e env h=>some (e,env,h))=some (e,env',h') →
  UpOut cx F N md h0 TT ops out k l env h e env' h'
 | [],k,env,h,hk,hr=>by
  simp only [runUp] at hr
  cases hr
  exact .inl ⟨rfl,fun _=>env',fun _=>h',fun _=>default,rfl,rfl,rfl,rfl,fun j o ho=>by simp at ho⟩
 |o::l,k,env,h,hk,hr=>by
  have hk':ops.toList.drop (k+1)=l:=by rw [←List.drop_drop,hk];rfl
  have ih:=fun(env:Env) (h:Heap)=>runUp_lex (out:=out) (e:=e) (env':=env') (h':=h') l (k+1) (env:=env) (h:=h) hk'
  simp only [runUp] at hr
  have push:∀(v1:AV) (e1:Env) (h1:Heap),LexU false cx F N md h0 TT ops o env h v1 e1 h1→runUp cx F N md h0 TT ops out (k+1) l e1 h1 (fun e env h=>some (e,env,h))=some (e,env',h') →
    UpOut cx F N md h0 TT ops out k (o::l) env h e env' h':=fun v1 e1 h1 hlx hr=>by
   rcases ih _ _ hr with⟨he,E,H,V,g1,g2,g3,g4,g5⟩ |⟨E,H,V,D,M0,o0,v,g1,g2,g3,g4,g5,g6,g7,g8,g9,g10,g11⟩
   ·refine .inl ⟨he,fun j=>match j with | 0=>env |j+1=>E j,fun j=>match j with | 0=>h |j+1=>H j,fun j=>match j with | 0=>v1 |j+1=>V j,rfl,rfl,g3,g4,fun j o' ho=> ?_⟩
    cases j with
    |zero =>
     cases ho
     rw [←g1,←g2] at hlx
     exact hlx
    |succ j=>exact g5 j o' (by simpa using ho)
   ·refine .inr ⟨fun j=>match j with | 0=>env |j+1=>E j,fun j=>match j with | 0=>h |j+1=>H j,fun j=>match j with | 0=>v1 |j+1=>V j,fun j=>match j with | 0=>false |j+1=>D j,M0+1,o0,v,rfl,rfl,by simpa using g3,g4,g5,g6,g7,g8,fun j hj=> ?_,fun j o' hj ho=> ?_,fun j o' ho=> ?_⟩
    ·cases j with
     |zero=>rfl
     |succ j=>exact g9 j (by omega)
    ·cases j with
     |zero=>omega
     |succ j =>
      refine(g10 j o' (by omega) (by simpa using ho)).trans ⟨fun⟨d,hd,j',q1,q2,q3,q4⟩=>⟨d,hd,j'+1,by omega,by omega,q3,by omega⟩,fun⟨d,hd,j',q1,q2,q3,q4⟩=> ?_⟩
      cases j' with
      |zero=>omega
      |succ j'=>exact⟨d,hd,j',by omega,by omega,q3,by omega⟩
    ·cases j with
     |zero =>
      cases ho
      rw [←g1,←g2] at hlx
      exact hlx
     |succ j=>exact g11 j o' (by simpa using ho)
  cases hc:upOp cx md o with
  |true =>
   obtain⟨u1,u2,u3,_⟩:=upOp_spec hc
   rw [hc] at hr
   simp only [cond_true] at hr
   obtain⟨⟨e1,v1,h1⟩,p1,p2,_⟩:=upCall_pkl (F:=F) (G:=fun _=>F) (fun _ _ _ r hr=>⟨0,fun _ _=>hr⟩) cx o (restrE env (o.looksAt ops)) h _ (fun x=>match x.1 with
    | .normal=>putK N o.dst x.2.1 env fun env=>runUp cx F N md h0 TT ops out (k+1) l env x.2.2 fun e env h=>some (e,env,h)
    |e=>runAny cx F N md h0 TT ops (restOf cx.turns ops l (k+1) [k]) env h fun _ _=>some (e,out,x.2.2)) _ hr
   have hcall:=p2 _ fun x=>some x
   have off:e1 ≠ .normal→((runAny cx F N md h0 TT ops (restOf cx.turns ops l (k+1) [k]) env h fun _ _=>some (e1,out,h1))=some (e,env',h'))→UpOut cx F N md h0 TT ops out k (o::l) env h e env' h':=fun hne hr => .inr (by
    obtain⟨x,q1,q2,_⟩:=runAny_pkl (F:=F) (G:=fun _=>F) (fun _ _ _ r hr=>⟨0,fun _ _=>hr⟩) cx N md h0 TT ops (restOf cx.turns ops l (k+1) [k]) env h _ (fun _=>some (e1,out,h1)) _ hr
    cases q1
    obtain⟨E,H,V,D,g1,g2,g3,g4⟩:=rest_lex l (k+1) [k] (q2 _ fun x=>some x)
    refine⟨fun j=>match j with | 0=>env |j+1=>E j,fun j=>match j with | 0=>h |j+1=>H j,fun j=>match j with | 0=>default |j+1=>V j,fun j=>match j with | 0=>true |j+1=>D j,0,o,v1,rfl,rfl,rfl,hc,hcall,hne,rfl,rfl,fun j hj=>by omega,fun j o' hj ho=> ?_,fun j o' ho=> ?_⟩
    ·cases j with
     |zero=>omega
     |succ j =>
      refine(g4 j o' (by simpa using ho)).trans ⟨fun⟨d,hd,hm⟩=>⟨d,hd,?_⟩,fun⟨d,hd,j',w1,w2,w3,w4⟩=>⟨d,hd,?_⟩⟩
      ·rcases hm with hm |⟨j',w1,w2,w3⟩
       ·exact⟨0,by omega,by omega,rfl,by simpa using hm⟩
       ·exact⟨j'+1,by omega,by omega,w2,by omega⟩
      ·cases j' with
       |zero=>exact .inl (by simpa using w4)
       |succ j'=>exact .inr ⟨j',by omega,w3,by omega⟩
    ·cases j with
     |zero=>exact⟨g1,g2⟩
     |succ j=>exact g3 j o' (by simpa using ho))
   cases e1 with
   |normal =>
    obtain⟨env2,b1,b2⟩:=(putK_pk _ _ _ _).some p1
    rw [putK_ext b2] at b1
    exact push v1 _ h1 (.inr ⟨fun hm=>by subst hm;exact up_heap hc hcall,u1,u2,u3,hcall,putK_any b2,rfl⟩) b1
   |ret=>exact off (by simp) p1
   |exit i=>exact off (by simp) p1
   |goto i=>exact off (by simp) p1
   |pan x=>exact off (by simp) p1
  |false =>
   rw [hc] at hr
   simp only [cond_false] at hr
   obtain⟨⟨e1,h1⟩,p1,p2,_⟩:=runAny_pkl (F:=F) (G:=fun _=>F) (fun _ _ _ r hr=>⟨0,fun _ _=>hr⟩) cx N md h0 TT ops [o] env h _ (fun x=>runUp cx F N md h0 TT ops out (k+1) l x.1 x.2 fun e env h=>some (e,env,h)) _ hr
   obtain⟨E',H',V',w1,w2,w3,w4,w5⟩:=runAny_lex (p2 _ fun x=>some x)
   have:=w5 0 o rfl
   rw [w1,w2] at this
   exact push (V' 0) (E' 1) (H' 1) (.inl this) (by rw [show E' 1=e1 from w3,show H' 1=h1 from w4];exact p1)
end
section
variable {cx:Cx}{F:EF}{K:Kf}{N:Nat}{md:Bool}{h0:Heap}{TT:List Nat}{ops:Array Oper}{E:Nat→Env}{H:Nat→Heap}{V:Nat→AV}{D:Nat→Bool}
theorem any_up (hF:FnSound cx F) (hO:OP cx F) (hX:ExtSound cx) (hh0:md=true→H 0=h0) (q:QOk cx.turns md ops) (od:OrdOk cx.turns md ops) {M0:Nat}{o:Oper}(ho:ops[M0]?=some o) (hop:upOp cx md o=true) {e1:JX}{v:AV}{h1:Heap}(hne:e1 ≠ .normal)
  (hcall:upCall cx F o (restrE (E M0) (o.looksAt ops)) (H M0) (fun e v h=>some (e,v,h))=some (e1,v,h1)) (hD0:D M0=true) (hDlow:∀j,j<M0→D j=false) (hDup:∀x y,Waits ops x y→D x=true→D y=true)
  (hDp:∀(j:Nat) (oj:Oper),ops[j]?=some oj→D j=true→j=M0∨Path ops M0 j)
  (hl:∀(k:Nat) (o:Oper),k<ops.size→ops[k]?=some o→LexU (D k) cx F N md h0 TT ops o (E k) (H k) (V k) (E (k+1)) (H (k+1))) {Q:Exit→Act→World→Prop}{a0:Act}
  (hq:∀S' μ' a' w',St cx K N S' μ' (dropD ops (E 0)) h1 a'.tmps w'→a'.defers=a0.defers→Q e1.toExit a' w'):∀(fuel:Nat) (listed:Array Bool) (a:Act) (w:World),unl listed ops.size=fuel →
  AnyInv cx K N ops.size ops E H V listed a w→listed.getD M0 false=false→a.defers=a0.defers→wpAny cx.P .any ops Q fuel listed a w
 | 0,listed,a,w,hu,inv,hlM,hd=>by
  have hlt:=(Array.getElem?_eq_some_iff.1 ho).1
  have hall:=unl_zero hu M0 hlt
  rw [getD_tf (by have:=inv.size;omega) true false,hlM] at hall
  cases hall
 |fuel+1,listed,a,w,hu,inv,hlM,hd=>by
  obtain⟨u1,u2,u3,_⟩:=upOp_spec hop
  have hlt:=(Array.getElem?_eq_some_iff.1 ho).1
  refine⟨fun hr=> ?_,fun i hi=> ?_⟩
  ·have hall:=ready_none q inv.size hr M0 hlt
   rw [getD_tf (by have:=inv.size;omega) true false,hlM] at hall
   cases hall
  ·obtain⟨k1,oi,hoi,hall⟩:=mem_ready.1 hi
   have his:i<ops.size:=(Array.getElem?_eq_some_iff.1 hoi).1
   by_cases hiM:i=M0
   ·subst hiM
    rw [ho] at hoi
    cases hoi
    obtain⟨hsz,hcl,S,μ,e,m,st,hm,heff,henv0,henv⟩:=inv
    have hE:∀t v,look (restrE (E i) (o.looksAt ops)) t=some v→look e t=some v:=fun t v ht=>by
     obtain⟨h1,h2⟩:=restr_look ht
     rcases lex_look q (Nat.le_refl _) hl i (by omega) t v h2 with⟨k,ok,hk,hok,hdk,rfl⟩ |⟨h3,h4⟩
     ·rcases q.look ho h1 with h5 |⟨e',o',he',hd',hw⟩ |⟨e',o',he',hd',hw⟩
      ·exact absurd hdk (h5 k ok hok)
      ·have:e'=k:=q.uniq he' hok hd' hdk
       subst this
       obtain⟨o2,ho2,x,hx,hb,hon⟩:=hw
       rw [ho] at ho2
       cases ho2
       refine henv e' ok t ?_ hok hdk
       rw [←hon]
       exact hall x hx hb
      ·have:e'=k:=q.uniq he' hok hd' hdk
       subst this
       rcases hw with⟨o2,ho2,x,hx,hb,hon⟩ |hw
       ·have:=q.dep ho2 x hx hb
        omega
       ·omega
     ·rcases q.look ho h1 with h5 |⟨e',o',he',hd',hw⟩ |⟨e',o',he',hd',hw⟩
      ·exact henv0 t v h4 fun k o' ho' hd'=>absurd hd' (h5 k o' ho')
      ·obtain⟨o2,ho2,x,hx,hb,hon⟩:=hw
       rw [ho] at ho2
       cases ho2
       have:=q.dep ho x hx hb
       exact absurd hd' (h3 e' o' (by omega) (hDlow e' (by omega)) he')
      ·refine henv0 t v h4 fun k o2 ho2 hd2=> ?_
       have:k=e':=q.uniq ho2 he' hd2 hd'
       subst this
       rcases hw with hw |hw
       ·cases hx:listed.getD k false with
        |false=>rfl
        |true =>
         have:=hcl i k hw hx
         rw [hlM] at this
         cases this
       ·rw [hw];exact hlM
    have hlo:loose cx.turns md o=false:=by
     unfold loose
     rw [u1,u2]
     cases md<;>rfl
    have low:∀j oj,j<i→ops[j]?=some oj→effOp cx.turns oj=true→listed.getD j false=true:=fun j oj hji hj he=>by
     exact hcl.ready ((od j oj hj he).2.2 i o hji ho hlo) hi
    have high:∀j oj,i<j→ops[j]?=some oj→effOp cx.turns oj=true→listed.getD j false=false:=fun j oj hij hj he=>by
     cases hx:listed.getD j false with
     |false=>rfl
     |true =>
      have:=hcl.path ((od j oj hj he).2.1 i o hij ho hlo) hx
      rw [hlM] at this
      cases this
    have hH:H m=H i:=by
     rcases Nat.le_total m i with h |h
     ·refine(lex_heap (Nat.le_refl _) hl i h (by omega) fun j oj h1 h2 hj=> ?_).symm
      cases he:effOp cx.turns oj with
      |false=>rfl
      |true =>
       have:=(heff j oj hj he).1 (low j oj h2 hj he)
       omega
     ·refine lex_heap (Nat.le_refl _) hl m h hm fun j oj h1 h2 hj=> ?_
      cases he:effOp cx.turns oj with
      |false=>rfl
      |true =>
       have h3:=(heff j oj hj he).2 h2
       by_cases hji:j=i
       ·subst hji
        rw [hlM] at h3
        cases h3
       ·rw [high j oj (by omega) hj he] at h3
        cases h3
    have hc:=upCall_up hE hcall
    rw [←hH] at hc
    unfold wpOp
    rw [ho]
    simp only
    have hw:Region.wanted o (yielded ops a.tmps)=true:=by unfold Region.wanted;rw [u3]
    rw [if_pos hw]
    refine .inl (stepOp_wp (q:=false) (e:=e1) (env':=e) (h':=h1) hF hO hX st ?_ (fun he=>absurd he hne) fun _ S' μ' a' w' st' hd'=>hq S' μ' a' w' { st' with env:=fun t v ht=>st'.env t v ?_ } (hd'.trans hd))
    ·rw [stepOp_up hc]
     cases e1 with
     |normal=>exact absurd rfl hne
     | _=>rfl
    ·exact henv0 t v (dropD_look ht) fun k o' ho' hd'=>absurd hd' (dropD_out ht o' (by simpa using Array.mem_of_getElem? ho'))
   ·have hDi:D i=false:=by
     cases hx:D i with
     |false=>rfl
     |true =>
      rcases hDp i oi hoi hx with h |h
      ·exact absurd h hiM
      ·have:=inv.closed.ready h hi
       rw [hlM] at this
       cases this
    refine inv.next hF hO hX q od hh0 (Nat.le_refl _) hl hDi (fun x hw=> ?_) his hi fun a' w' inv' hd'=>any_up hF hO hX hh0 q od ho hop hne hcall hD0 hDlow hDup hDp hl hq fuel _ a' w' ?_ inv' ?_ (hd'.trans hd)
    ·cases hx:D x with
     |false=>rfl
     |true=>rw [hDup x i hw hx] at hDi;cases hDi
    ·have:=unl_set k1 ops.size
     rw [if_pos his] at this
     omega
    ·rw [getD_set_ne false hiM];exact hlM
theorem region_up (hF:FnSound cx F) (hO:OP cx F) (hX:ExtSound cx) {S:Nat→Prop}{μ:Mu}{env env':Env}{h h':Heap}{e:JX}{a:Act}{w:World}(st:St cx K N S μ env h a.tmps { w with drawn:=w.drawn+1 }) {id:Nat}(hh:md=true→h=h0) (hok:upOk cx md ops=true) (hr:runUp cx F N md h0 TT ops (dropD ops env) 0 ops.toList env h (fun e env h=>some (e,env,h))=some (e,env',h')) {Q:Exit→Act→World→Prop}(hq:∀S' μ' a' w',St cx K N S' μ' env' h' a'.tmps w'→a'.defers=a.defers→Q e.toExit a' w'):(Code.region id ops true).wp cx.P Q a w:=by
 unfold upOk at hok
 simp only [Bool.and_eq_true] at hok
 obtain⟨hm,_,q,od⟩:=anyOk_spec hok.2
 have hz0':∀j,(Array.replicate ops.size false).getD j false=false:=fun j=>getD_replicate_false _ _
 have start:∀ {E:Nat→Env}{H:Nat→Heap}{V:Nat→AV},E 0=env→H 0=h→AnyInv cx K N ops.size ops E H V (Array.replicate ops.size false) a { w with drawn:=w.drawn+1 }:=fun g1 g2=>by
  refine⟨by simp,fun i j hw hj=> ?_,S,μ,env,0,by rw [g2];exact st,Nat.zero_le _,fun j o hj he=> ?_,fun t v ht _=>by rw [g1] at ht;exact ht,fun k o t hk=> ?_⟩
  ·rw [hz0' j] at hj;cases hj
  ·rw [hz0' j];exact⟨(fun hx=>by cases hx),fun hx=>by omega⟩
  ·rw [hz0' k] at hk;cases hk
 have hsz:ops.toList.length=ops.size:=by simp
 rcases runUp_lex ops.toList 0 rfl hr with⟨rfl,E,H,V,g1,g2,g3,g4,g5⟩ |⟨E,H,V,D,M0,o0,v,g1,g2,g3,g4,g5,g6,g7,g8,g9,g10,g11⟩
 ·rw [hsz] at g3 g4
  exact wp_region_any hm (any_wp (E:=E) (H:=H) (V:=V) (h0:=h0) (TT:=TT) (M:=ops.size) hF hO hX q od (fun hx=>g2.trans (hh hx)) rfl (fun k o _ ho=>g5 k o (by simpa using ho)) (a0:=a) (fun S' μ' a' w' st' hd=>hq S' μ' a' w' (by rw [←g3,←g4];exact st') hd) ops.size _ a _ (unl_replicate _ _ (Nat.le_refl _)) (start g1 g2) rfl)
 ·have ho:ops[M0]?=some o0:=by simpa using g3
  have hlt:=(Array.getElem?_eq_some_iff.1 ho).1
  have hdw:∀(j:Nat) (oj:Oper),ops[j]?=some oj→D j=true→j=M0∨Path ops M0 j:=by
   intro j
   induction j using Nat.strongRecOn with
   | _ j ih =>
    intro oj hj hD
    rcases Nat.lt_trichotomy j M0 with h1 |h1 |h1
    ·rw [g9 j h1] at hD;cases hD
    ·exact .inl h1
    ·obtain⟨d,hd,j',w1,w2,w3,w4⟩:=(g10 j oj h1 (by simpa using hj)).1 hD
     have hjl:=(Array.getElem?_eq_some_iff.1 hj).1
     have hdj:d=j':=by omega
     subst hdj
     have hw:Waits ops d j:=waits_of (tf:=cx.turns) (md:=false) (by rw [recs_get,hj];rfl) hd
     rcases ih d w2 ops[d] (Array.getElem?_eq_getElem (by omega)) w3 with h2 |h2
     ·subst h2;exact .inr (.one hw)
     ·exact .inr (.more h2 hw)
  refine wp_region_any hm (any_up (E:=E) (H:=H) (V:=V) (D:=D) hF hO hX (fun hx=>g2.trans (hh hx)) q od ho g4 g6 g5 g8 g9 (fun x y hw hx=> ?_) hdw (fun k o _ ho=>g11 k o (by simpa using ho)) (a0:=a) (fun S' μ' a' w' st' hd=>hq S' μ' a' w' (by rw [g7,←g1];exact st') hd) ops.size _ a _ (unl_replicate _ _ (Nat.le_refl _)) (start g1 g2) (hz0' _) rfl)
  obtain⟨oy,hoy,z,hz,hb,hon⟩:=hw
  have hxy:=q.dep hoy z hz hb
  rw [hon] at hxy
  have hMx:M0≤x:=by
   rcases Nat.lt_or_ge x M0 with h1 |h1
   ·rw [g9 x h1] at hx;cases hx
   ·exact h1
  exact(g10 y oy (by omega) (by simpa using hoy)).2 ⟨x,deps_mem.2 ⟨z,hz,hb,hon⟩,x,hMx,hxy,hx,by omega⟩
end
end Go.Proofs.Av
