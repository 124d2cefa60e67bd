/- Code, functions, loops: what the evaluator tells is so. -/
import Derived.Test.YtoepfmodbhfckaaAzOa
namespace Go.Proofs.Av
open Go
def WpIn (P:Program) (c:Code) (Q:Exit→Act→World→Prop) (a:Act) (w:World):Prop :=
 ∀(b:Frame) (k:List Item) (cs:List Frame),∃e a' w',Q e a' w'∧Arrives P (lone (b.at a (.code c :: .inLoop c::k)) cs w) b k cs e a' w'
theorem wp_loop_of_in {P:Program}{c:Code}{Q:Exit→Act→World→Prop}{a:Act}{w:World}(h:WpIn P c Q a w):(Code.loop c).wp P Q a w:=by
 intro b k cs
 obtain⟨e,a',w',hq,harr⟩:=h b k cs
 exact⟨e,a',w',hq,.of_steps (.one step_loop) harr⟩
theorem wpIn_step {P:Program}{c:Code}{Q:Exit→Act→World→Prop}{a:Act}{w:World}(h:c.wp P (Exit.then (WpIn P c Q) Q) a w):WpIn P c Q a w:=by
 intro b k cs
 obtain⟨e,a₁,w₁,hq,harr⟩:=h b (.inLoop c::k) cs
 cases e with
 |normal =>
  obtain⟨e₂,a₂,w₂,hq₂,harr₂⟩:=hq b k cs
  exact⟨e₂,a₂,w₂,hq₂,.of_steps (Steps.trans harr (.one step_inLoop)) harr₂⟩
 |exit id=>exact⟨_,a₁,w₁,hq,.pass (x := .inLoop c) rfl (fun _ _ => .inl (by simp)) harr⟩
 |goto l=>exact⟨_,a₁,w₁,hq,.pass (x := .inLoop c) rfl (fun _ _ => .inl (by simp)) harr⟩
 |ret=>exact⟨_,a₁,w₁,hq,.pass (x := .inLoop c) rfl (fun _ _ => .inl (by simp)) harr⟩
 |panic ch=>exact⟨_,a₁,w₁,hq,.pass (x := .inLoop c) rfl (fun _ _ => .inl (by simp)) harr⟩
 |outgrown=>exact⟨_,a₁,w₁,hq,.pass (x := .inLoop c) rfl (fun _ _ => .inl (by simp)) harr⟩
theorem wpIn_mono {P:Program}{c:Code}{Q Q':Exit→Act→World→Prop}{a:Act}{w:World}(h:WpIn P c Q a w) (hq:∀e a w,Q e a w→Q' e a w):WpIn P c Q' a w :=
 fun b k cs=>let ⟨e,a',w',q,r⟩:=h b k cs;⟨e,a',w',hq _ _ _ q,r⟩
def child:Bool→Code→Option Code
 |false,.seq a _=>some a
 |true,.seq _ b=>some b
 |false,.cond _ a _=>some a
 |true,.cond _ _ b=>some b
 |false,.block _ b=>some b
 |false,.loop b=>some b
 |false,.scope b=>some b
 | _,_=>none
theorem sub_append:∀(p:List Bool) (b:Bool) (c:Code),sub (p++[b]) c=(sub p c).bind (child b)
 | [],b,c=>by cases b<;>cases c<;>rfl
 |x::p,b,c=>by
  cases x<;>cases c<;>first
   |rfl
   | (simp only [List.cons_append,sub];exact sub_append p b _)
   | (cases p<;>rfl)
def After (cx:Cx) (K:Kf) (N:Nat) (D:List Deferred) (e:JX) (env:Env) (h:Heap) (X:Exit) (a:Act) (w:World):Prop:=X=e.toExit∧a.defers=D∧∃S μ,St cx K N S μ env h a.tmps w
theorem aggSet_nil {S:Nat→Prop}{w:World}{μ:Mu}{cs:List AV}{u:Value}{j r ver:Nat}(hr:Rep S w μ (.agg cs) u) (hj:cs[j]?=some (.val (.slice none 0 0))):Rep S w μ (.agg (cs.set j (.arr r ver 0 0))) u:=by
 cases hr with
 |agg vs hl hr =>
  refine .agg vs (by simp [hl]) fun k v x hv hx=> ?_
  by_cases hjk:j=k
  ·subst hjk
   rw [List.getElem?_set_self (List.getElem?_eq_some_iff.1 hj).1] at hv
   cases hv
   have:=hr j _ x hj hx
   rw [this.inv_val]
   exact .anil
  ·rw [List.getElem?_set_ne hjk] at hv
   exact hr k v x hv hx
theorem coerceN_st {cx:Cx}{K:Kf}{N:Nat}{tmps:Array Value}{w:World}:∀ {l:List (Nat×Nat×TypeId)}{S:Nat→Prop}{μ:Mu}{env:Env}{h:Heap}{env':Env}{h':Heap},St cx K N S μ env h tmps w →
  coerceN cx l env h (fun e h=>some (e,h))=some (env',h')→∃S' μ',St cx K N S' μ' env' h' tmps w
 | [],S,μ,env,h,env',h',st,hr=>by simp only [coerceN] at hr;cases hr;exact⟨S,μ,st⟩
 | (t,bb,ty)::r,S,μ,env,h,env',h',st,hr=>by
  simp only [coerceN] at hr
  obtain⟨v,h1,hr⟩:=bind_some_iff hr
  split at hr
  ·obtain⟨q,h2,hr⟩:=bind_some_iff hr
   have hv:=(st.env t _ h1).inv_val
   split at hr
   ·have henv:EnvRel S w μ ((t,.list 0 q.2.1 [])::env) tmps:=by
     intro t' x hx
     simp only [look] at hx
     split at hx
     ·rename_i hb
      have:=Nat.eq_of_beq_eq_true hb
      subst this
      cases hx
      rw [hv]
      exact .nil
     ·exact st.env t' x hx
    exact coerceN_st { st with env:=henv } hr
   have st1:=st.step (w':=w) (kill:=none) (o:=⟨.arr,q.1,q.2.1,q.2.1,[]⟩) (x:=none) (Nat.le_refl _) rfl rfl (OutD.refl _) (fun _ _ _=>rfl) (fun r hr=>by cases hr) rfl (fun _=>rfl) fun b s C hx=>by cases hx
   have henv:EnvRel S w (μ.updO h.length none) ((t,.arr h.length q.2.1 0 0)::env) tmps:=by
    intro t' x hx
    simp only [look] at hx
    split at hx
    ·rename_i hb
     have:=Nat.eq_of_beq_eq_true hb
     subst this
     cases hx
     rw [hv]
     exact .anil
    ·exact st1.env t' x hx
   have st2:St cx K N S (μ.updO h.length none) ((t,.arr h.length q.2.1 0 0)::env) (h++[⟨.arr,q.1,q.2.1,q.2.1,[]⟩]) tmps w:= { st1 with env:=henv }
   exact coerceN_st st2 hr
  ·rename_i cs
   split at hr
   ·rename_i j _
    obtain⟨x,h3,hr⟩:=bind_some_iff hr
    split at hr
    ·obtain⟨q,h2,hr⟩:=bind_some_iff hr
     have st1:=st.step (w':=w) (kill:=none) (o:=⟨.arr,q.1,q.2.1,q.2.1,[]⟩) (x:=none) (Nat.le_refl _) rfl rfl (OutD.refl _) (fun _ _ _=>rfl) (fun r hr=>by cases hr) rfl (fun _=>rfl) fun b s C hx=>by cases hx
     have henv:EnvRel S w (μ.updO h.length none) ((t,.agg (cs.set j (.arr h.length q.2.1 0 0)))::env) tmps:=by
      intro t' x hx
      simp only [look] at hx
      split at hx
      ·rename_i hb
       have:=Nat.eq_of_beq_eq_true hb
       subst this
       cases hx
       exact aggSet_nil (st1.env t _ h1) h3
      ·exact st1.env t' x hx
     have st2:St cx K N S (μ.updO h.length none) ((t,.agg (cs.set j (.arr h.length q.2.1 0 0)))::env) (h++[⟨.arr,q.1,q.2.1,q.2.1,[]⟩]) tmps w:= { st1 with env:=henv }
     exact coerceN_st st2 hr
    ·exact coerceN_st st hr
   ·exact coerceN_st st hr
  ·rename_i r1 ver off len
   split at hr
   ·obtain⟨x,h2,hr⟩:=bind_some_iff hr
    have h2':=h2
    simp only [view] at h2'
    obtain⟨o,h3,h2'⟩:=bind_some_iff h2'
    obtain⟨_,_,h2'⟩:=bind_some_iff h2'
    have hk:o.k ≠ .dead:=fun hk=>by rw [hk] at h2';cases h2'
    have st1:=st.freeze h3 hk
    have hx:∀u,Rep S w μ (.arr r1 ver off len) u→Rep (frz S μ r1) w μ x u:=fun u hu =>
     (view_semR (T:=frz S μ r1) (fun b hb => .inl hb) st.heap 1 (fun _ _ h=>h) (fun r' hr' o' ho' hd b s hb=>by
      have:r'=r1:=by simpa [vrefs] using hr'
      subst this
      exact .inr ⟨s,hb⟩) h2 hu).of_none
    have henv:EnvRel (frz S μ r1) w μ ((t,x)::env) tmps:=by
     intro t' y hy
     simp only [look] at hy
     split at hy
     ·rename_i hb
      have:=Nat.eq_of_beq_eq_true hb
      subst this
      cases hy
      exact hx _ (st.env t _ h1)
     ·exact st1.env t' y hy
    exact coerceN_st { st1 with env:=henv } hr
   ·exact coerceN_st st hr
  ·exact coerceN_st st hr
theorem Wks.set:∀ {cs:List AV}{j:Nat}{c x:AV},cs[j]?=some c→Wk c x→Wks cs (cs.set j x)
 | [],j,c,x,h,_=>by simp at h
 |y::cs,0,c,x,h,hw=>by
  simp at h
  subst h
  exact Wks.cons hw (Wks.refl _)
 |y::cs,j+1,c,x,h,hw=>Wks.cons (Wk.refl _) (Wks.set (cs:=cs) (j:=j) (by simpa using h) hw)
theorem normCell_val {z:Sh}{v:AV}{u:Value}(h:normCell z v some=some (.val u)):v = .val u:=by
 unfold normCell at h
 split at h
 ·obtain⟨n,h1,h⟩:=bind_some_iff h
  cases h
  exact wk_int h1
 ·obtain⟨n,h1,h⟩:=bind_some_iff h
  cases h
  unfold AV.bool? at h1
  split at h1
  ·cases h1;rfl
  ·cases h1
 ·obtain⟨n,h1,h⟩:=bind_some_iff h
  cases h
  unfold AV.str? at h1
  split at h1
  ·cases h1;rfl
  ·cases h1
 ·obtain⟨n,h1,h⟩:=bind_some_iff h
  cases h
  unfold AV.float? at h1
  split at h1
  ·split at h1
   ·rename_i hk
    cases h1
    rw [hk]
   ·cases h1
  ·cases h1
 ·obtain⟨n,h1,h⟩:=bind_some_iff h
  cases h
 ·cases h;rfl
theorem normCells_val:∀ {zs:List Sh}{cs cs':List AV},normCells zs cs some=some cs'→(cs'.all fun | .val _=>true | _=>false)=true→cs=cs'
 | [],cs,cs',h,_=>by
  simp only [normCells] at h
  obtain⟨u,h1,h⟩:=bind_some_iff h
  cases h
  exact nil?_eq h1
 |z::zs,cs,cs',h,hg=>by
  simp only [normCells] at h
  obtain⟨q,h1,h⟩:=bind_some_iff h
  obtain⟨c,h2,h3⟩:=(normCell_pk z q.1).some h
  obtain⟨r,h4,h5⟩:=(normCells_pk zs q.2).some h2
  cases h4
  simp only [List.all_cons,Bool.and_eq_true] at hg
  have e1:q.2=r:=normCells_val h5 hg.2
  cases cs with
  |nil=>cases h1
  |cons y ys =>
   cases h1
   cases c with
   |val u =>
    have e2:=normCell_val h3
    simp only at e1 e2
    rw [e1,e2]
   | _=>simp at hg
theorem normZ_toV {z:Sv}{v a:AV}(h:normZ z v some=some a) (hg:a.ground=true):v.toV=a.toV:=by
 unfold normZ at h
 split at h
 ·rename_i zs
  obtain⟨cs,h1,h⟩:=bind_some_iff h
  obtain⟨cs',h2,h3⟩:=(normCells_pk zs cs).some h
  cases h2
  unfold AV.cells? at h1
  split at h1
  ·cases h1
   rw [normCells_val h3 hg]
  ·cases h1
 ·obtain⟨b,h1,h⟩:=bind_some_iff h
  unfold AV.bool? at h1
  split at h1
  ·cases h1
   cases b<;>(cases h;rfl)
  ·cases h1
 ·rename_i zc
  cases a with
  |val u=>rw [normCell_val h]
  |agg cs =>
   unfold normCell at h
   split at h<;>first
    | (obtain⟨n,h1,h⟩:=bind_some_iff h;cases h;done)
    | (cases h;rfl)
  |tuple cs =>
   unfold normCell at h
   split at h<;>first
    | (obtain⟨n,h1,h⟩:=bind_some_iff h;cases h;done)
    | (cases h;rfl)
  | _=>cases hg
theorem coerceB_st {cx:Cx}{K:Kf}{N:Nat}{S:Nat→Prop}{env:Env}{tmps:Array Value}{w:World}:∀ {l:List (Nat×Bool×Nat×TypeId)}{μ:Mu}{h:Heap}{h':Heap},St cx K N S μ env h tmps w →
  coerceB cx l env h some=some h'→∃μ',St cx K N S μ' env h' tmps w
 | [],μ,h,h',st,hr=>by simp only [coerceB] at hr;cases hr;exact⟨μ,st⟩
 | (t,ab,d,ty)::r,μ,h,h',st,hr=>by
  simp only [coerceB] at hr
  obtain⟨v,h1,hr⟩:=bind_some_iff hr
  split at hr
  ·rename_i b ver i j
   obtain⟨o,h2,hr⟩:=bind_some_iff hr
   obtain⟨_,h3,hr⟩:=bind_some_iff hr
   obtain⟨cs,h4,hr⟩:=bind_some_iff hr
   obtain⟨x,h5,hr⟩:=bind_some_iff hr
   split at hr
   ·obtain⟨q,h6,hr⟩:=bind_some_iff hr
    split at hr
    ·rename_i hk
     cases ab with
     |false =>
      have hbl:=(List.getElem?_eq_some_iff.1 h2).1
      have hwk:Wks cs (cs.set (j+d) (.list 0 q.2.1 [])):=Wks.set h5 fun S w μ v hv=>by
       rw [hv.inv_val]
       exact .nil
      have st2:=st.heapWk (h2:=h.set b { o with es:=o.es.set i (cs.set (j+d) (.list 0 q.2.1 [])) }) (by simp) fun r o2 ho2=>by
       by_cases hrb:b=r
       ·subst hrb
        rw [List.getElem?_set_self hbl] at ho2
        cases ho2
        refine⟨o,h2,rfl,rfl,rfl,by simp,fun k e2 he2=> ?_⟩
        by_cases hki:i=k
        ·subst hki
         have hil:=(List.getElem?_eq_some_iff.1 h4).1
         simp only at he2
         rw [List.getElem?_set_self hil] at he2
         cases he2
         exact⟨cs,h4,hwk,by simp⟩
        ·simp only at he2
         rw [List.getElem?_set_ne hki] at he2
         exact⟨e2,he2,Wks.refl _,rfl⟩
       ·rw [List.getElem?_set_ne hrb] at ho2
        exact⟨o2,ho2,ObWk.refl _⟩
      exact coerceB_st st2 hr
     |true =>
     have st1:=st.step (w':=w) (kill:=none) (o:=⟨.arr,q.1,q.2.1,q.2.1,[]⟩) (x:=none) (Nat.le_refl _) rfl rfl (OutD.refl _) (fun _ _ _=>rfl) (fun r hr=>by cases hr) rfl (fun _=>rfl) fun b s C hx=>by cases hx
     have hbl:=(List.getElem?_eq_some_iff.1 h2).1
     have hwk:Wks cs (cs.set (j+d) (.arr h.length q.2.1 0 0)):=Wks.set h5 fun S w μ v hv=>by
      rw [hv.inv_val]
      exact .anil
     have st2:=st1.heapWk (h2:=h.set b { o with es:=o.es.set i (cs.set (j+d) (.arr h.length q.2.1 0 0)) }++[⟨.arr,q.1,q.2.1,q.2.1,[]⟩]) (by show _=(h++[_]).length;simp) fun r o2 ho2=>by
      show ∃o1,(h++[_])[r]?=some o1∧_
      by_cases hrl:r<h.length
      ·rw [List.getElem?_append_left (by simpa using hrl)] at ho2
       rw [List.getElem?_append_left hrl]
       by_cases hrb:b=r
       ·subst hrb
        rw [List.getElem?_set_self hbl] at ho2
        cases ho2
        refine⟨o,h2,rfl,rfl,rfl,by simp,fun k e2 he2=> ?_⟩
        by_cases hki:i=k
        ·subst hki
         have hil:=(List.getElem?_eq_some_iff.1 h4).1
         simp only at he2
         rw [List.getElem?_set_self hil] at he2
         cases he2
         exact⟨cs,h4,hwk,by simp⟩
        ·simp only at he2
         rw [List.getElem?_set_ne hki] at he2
         exact⟨e2,he2,Wks.refl _,rfl⟩
       ·rw [List.getElem?_set_ne hrb] at ho2
        exact⟨o2,ho2,ObWk.refl _⟩
      ·rw [List.getElem?_append_right (by simpa using hrl)] at ho2
       rw [List.getElem?_append_right (by omega)]
       refine⟨o2,by simpa using ho2,ObWk.refl _⟩
     exact coerceB_st st2 hr
    ·cases hr
   ·exact coerceB_st st hr
  ·cases hr
def LoopSound (cx:Cx) (F:EF):Prop:=∀f fn bd b var inv p,cx.P.funcs[f]?=some fn→fn.body=some bd→sub p bd=some (.loop b)→cx.ann f p=some (.live var inv)→loopOk var inv b=true →
 ∀args h e vs h',F (.loop f p) args h=some (.jump e vs,h')→args.map AV.wk=args→args.length=var.length+inv.length →
 ∀(K:Kf) S μ a w D,(∀r x,K.fix r=some x→r<cx.held f)→St cx K fn.ntmps S μ ((var++inv).zip args) h a.tmps w→a.defers=D→WpIn cx.P b (After cx K fn.ntmps D e (var.zip vs++inv.zip (args.drop var.length)) h') a w
section
variable {cx:Cx}{F:EF}{K:Kf}
theorem wk_comp:AV.wk ∘ AV.wk=AV.wk:=funext wk_idem
theorem zip_append' {α β:Type}:∀ {a b:List α}{c d:List β},a.length=c.length→(a++b).zip (c++d)=a.zip c++b.zip d
 | [],b,[],d,h=>rfl
 |x::a,b,y::c,d,h=>by simp [zip_append' (a:=a) (b:=b) (c:=c) (d:=d) (by simpa using h)]
theorem jx_is {a b:JX}(h:a.is b=true):a=b:=by
 cases a<;>cases b<;>simp [JX.is] at h<;>first
  |rfl
  | (rw [h])
  | (rw [Nat.eq_of_beq_eq_true h])
theorem iterN_wp {D:List Deferred}{f:FuncId}{N:Nat}{b:Code}{p:List Bool}{ls:List Nat}
  (hb:∀ {env:Env}{h:Heap}{a:Act}{w:World}{S:Nat→Prop}{μ:Mu}{e:JX}{env':Env}{h':Heap},St cx K N S μ env h a.tmps w→a.defers=D→run cx F f N b p env h (fun e env h=>some (e,env,h))=some (e,env',h') →
   b.wp cx.P (After cx K N D e env' h') a w):∀(n:Nat) {env:Env}{h:Heap}{a:Act}{w:World}{S:Nat→Prop}{μ:Mu}{e:JX}{env':Env}{h':Heap},St cx K N S μ env h a.tmps w→a.defers=D →
   iterN ls (run cx F f N b p) n env h (fun e env h=>some (e,env,h))=some (e,env',h')→WpIn cx.P b (After cx K N D e env' h') a w
 | 0,env,h,a,w,S,μ,e,env',h',st,hd,hr=>by simp only [iterN] at hr;cases hr
 |n+1,env,h,a,w,S,μ,e,env',h',st,hd,hr=>by
  simp only [iterN] at hr
  obtain⟨⟨e1,env1,h1⟩,h2,h3,_⟩:=run_pkl (F:=F) (G:=fun _=>F) (fun _ _ _ r hr=>⟨0,fun _ _=>hr⟩) cx f N b p env h _ (fun x=>match x.1 with
   | .normal=>(getAll x.2.1 ls).bind fun vs=>iterN ls (run cx F f N b p) n (ls.zip vs) x.2.2 fun e env h=>some (e,env,h)
   |e=>some (e,x.2.1,x.2.2)) _ hr
  refine wpIn_step (wp_mono (hb st hd (h3 _ fun x=>some x)) fun X a' w' ⟨hX,hd',S',μ',st'⟩=> ?_)
  subst hX
  cases e1 with
  |normal =>
   simp only at h2
   obtain⟨vs,h4,h2⟩:=bind_some_iff h2
   refine iterN_wp hb n (st'.envSub fun t v hv=> ?_) hd' h2
   obtain⟨i,g1,g2⟩:=look_zip hv
   exact⟨v,(getAll_spec h4).2 i t v g1 g2,Wk.refl _⟩
  | _=>cases h2;exact⟨rfl,hd',S',μ',st'⟩
theorem run_wp {D:List Deferred}(hF:FnSound cx F) (hO:OP cx F) (hX:ExtSound cx) (hL:LoopSound cx F) {f:FuncId}(hK:∀r x,K.fix r=some x→r<cx.held f) {fn:Func}{bd:Code}(hfn:cx.P.funcs[f]?=some fn) (hbd:fn.body=some bd) :
  ∀(code:Code) {p:List Bool}{env:Env}{h:Heap}{a:Act}{w:World}{S:Nat→Prop}{μ:Mu}{e:JX}{env':Env}{h':Heap},sub p bd=some code→St cx K fn.ntmps S μ env h a.tmps w→a.defers=D →
   run cx F f fn.ntmps code p env h (fun e env h=>some (e,env,h))=some (e,env',h')→code.wp cx.P (After cx K fn.ntmps D e env' h') a w
 | .skip,p,env,h,a,w,S,μ,e,env',h',hp,st,hd,hr=>by simp only [run] at hr;cases hr;exact wp_skip ⟨rfl,hd,S,μ,st⟩
 | .label _,p,env,h,a,w,S,μ,e,env',h',hp,st,hd,hr=>by simp only [run] at hr;cases hr;exact wp_label ⟨rfl,hd,S,μ,st⟩
 | .ret,p,env,h,a,w,S,μ,e,env',h',hp,st,hd,hr=>by simp only [run] at hr;cases hr;exact wp_ret ⟨rfl,hd,S,μ,st⟩
 | .exit _,p,env,h,a,w,S,μ,e,env',h',hp,st,hd,hr=>by simp only [run] at hr;cases hr;exact wp_exit ⟨rfl,hd,S,μ,st⟩
 | .goto _,p,env,h,a,w,S,μ,e,env',h',hp,st,hd,hr=>by simp only [run] at hr;cases hr;exact wp_goto ⟨rfl,hd,S,μ,st⟩
 | .region id ops draw,p,env,h,a,w,S,μ,e,env',h',hp,st,hd,hr=>by
  exact region_wp hF hO hX st hr (Q:=After cx K fn.ntmps D e env' h') fun S' μ' a' w' st' hd'=>⟨rfl,hd'.trans hd,S',μ',st'⟩
 | .seq x y,p,env,h,a,w,S,μ,e,env',h',hp,st,hd,hr=>by
  simp only [run] at hr
  obtain⟨⟨e1,env1,h1⟩,h2,h3,_⟩:=run_pkl (F:=F) (G:=fun _=>F) (fun _ _ _ r hr=>⟨0,fun _ _=>hr⟩) cx f fn.ntmps x (p++[false]) env h _ (fun z=>match z.1 with
   | .normal=>run cx F f fn.ntmps y (p++[true]) z.2.1 z.2.2 fun e env h=>some (e,env,h)
   |e=>some (e,z.2.1,z.2.2)) _ hr
  refine wp_seq (wp_mono (run_wp hF hO hX hL hK hfn hbd x (by rw [sub_append,hp];rfl) st hd (h3 _ fun z=>some z)) fun X a' w' ⟨hX,hd',S',μ',st'⟩=> ?_)
  subst hX
  cases e1 with
  |normal=>exact run_wp hF hO hX hL hK hfn hbd y (by rw [sub_append,hp];rfl) st' hd' h2
  | _=>cases h2;exact⟨rfl,hd',S',μ',st'⟩
 | .cond x c1 c2,p,env,h,a,w,S,μ,e,env',h',hp,st,hd,hr=>by
  simp only [run] at hr
  obtain⟨v,h1,hr⟩:=bind_some_iff hr
  split at hr
  ·rename_i t
   have hc:=(opnd_sem st.env st.g h1).inv_val
   cases t with
   |true=>exact wp_cond_true hc (run_wp hF hO hX hL hK hfn hbd c1 (by rw [sub_append,hp];rfl) st hd hr)
   |false=>exact wp_cond_false hc (run_wp hF hO hX hL hK hfn hbd c2 (by rw [sub_append,hp];rfl) st hd hr)
  ·cases hr
 | .block id b,p,env,h,a,w,S,μ,e,env',h',hp,st,hd,hr=>by
  simp only [run] at hr
  obtain⟨⟨e1,env1,h1⟩,h2,h3,_⟩:=run_pkl (F:=F) (G:=fun _=>F) (fun _ _ _ r hr=>⟨0,fun _ _=>hr⟩) cx f fn.ntmps b (p++[false]) env h _ (fun x=>match x.1 with
   | .exit i=>match Nat.beq i id with
    |true=>thawB x.2.1 (cx.thawX f p) x.2.2 fun h=>some (.normal,x.2.1,h)
    |false=>some (.exit i,x.2.1,x.2.2)
   |e=>some (e,x.2.1,x.2.2)) _ hr
  refine wp_block (wp_mono (run_wp hF hO hX hL hK hfn hbd b (by rw [sub_append,hp];rfl) st hd (h3 _ fun z=>some z)) fun X a' w' ⟨hX,hd',S',μ',st'⟩=> ?_)
  subst hX
  cases e1 with
  |exit i =>
   simp only at h2
   split at h2
   ·rename_i hb
    obtain⟨h9,h4,h5⟩:=(thawB_pk _ _ _).some h2
    cases h4
    have:=Nat.eq_of_beq_eq_true hb
    subst this
    simp only [JX.toExit,Exit.inBlock,if_true]
    obtain⟨S2,st2⟩:=thawB_sem st' h5
    exact⟨rfl,hd',S2,μ',st2⟩
   ·rename_i hb
    cases h2
    have hne:¬i=id:=fun he=>by subst he;simp at hb
    simp only [JX.toExit,Exit.inBlock,if_neg hne]
    exact⟨rfl,hd',S',μ',st'⟩
  | _=>cases h2;exact⟨rfl,hd',S',μ',st'⟩
 | .loop b,p,env,h,a,w,S,μ,e,env',h',hp,st,hd,hr=>by
  simp only [run] at hr
  obtain⟨an,h1,hr⟩:=bind_some_iff hr
  split at hr
  ·refine wp_loop_of_in (iterN_wp (fun st hd hr=>run_wp hF hO hX hL hK hfn hbd b (by rw [sub_append,hp];rfl) st hd hr) _ st hd hr)
  ·rename_i var inv
   cases hokn:(loopOk var inv b&&nilsOk (cx.nils f p) var) with
   |false=>rw [hokn] at hr;cases hr
   |true =>
    rw [hokn] at hr
    simp only [cond_true] at hr
    simp only [Bool.and_eq_true] at hokn
    obtain⟨hok,hnil⟩:=hokn
    obtain⟨⟨env0,h0⟩,hr0,hco⟩:=(coerceN_pk cx (cx.nils f p) env h) _ (fun x=>coerceB cx (cx.boxes f p) x.1 x.2 fun h=>(getAll x.1 var).bind fun vs=>(getAll x.1 inv).bind fun is =>
     (F (.loop f p) (vs.map AV.wk++is.map AV.wk) (h.map Ob.wk)).bind fun r=>(asJump r).bind fun j =>
     loopX cx f j.1 (fun e=>normAs (formV cx f p e (vs.map AV.wk)) j.2.1 fun vs'=>normHeap (formH cx f p e (h.map Ob.wk)) j.2.2 fun h' =>
      some (e,var.zip vs'++inv.zip (is.map AV.wk),h')) ((exitsOf b).foldr addE [])) _ hr
    obtain⟨S1,μ1,st⟩:=coerceN_st st (hco _ some)
    clear hr hco
    simp only at hr0
    obtain⟨h0,hr0,hcb⟩:=(coerceB_pk cx (cx.boxes f p) env0 h0).some hr0
    obtain⟨μ0,st⟩:=coerceB_st st hcb
    obtain⟨vs,h2,hr⟩:=bind_some_iff hr0
    obtain⟨is,h3,hr⟩:=bind_some_iff hr
    obtain⟨r,h4,hr⟩:=bind_some_iff hr
    obtain⟨j,h5,hr⟩:=bind_some_iff hr
    obtain⟨j1,j2,j3⟩:=j
    have hj:r=(.jump j1 j2,j3):=by
     unfold asJump at h5
     split at h5
     ·cases h5;rfl
     ·cases h5
    subst hj
    have l1:=(getAll_spec h2).1
    have l2:=(getAll_spec h3).1
    have hst0:St cx K fn.ntmps S1 μ0 ((var++inv).zip (vs.map AV.wk++is.map AV.wk)) (h0.map Ob.wk) a.tmps w:=by
     refine(st.envSub fun t v hv=> ?_).wkHeap
     rw [zip_append' (by simp [l1])] at hv
     rcases look_append hv with hv |hv
     ·obtain⟨i,g1,g2⟩:=look_zip hv
      simp only [List.getElem?_map] at g2
      cases hx:vs[i]? with
      |none=>rw [hx] at g2;cases g2
      |some x=>rw [hx] at g2;cases g2;exact⟨x,(getAll_spec h2).2 i t x g1 hx,wk_wk x⟩
     ·obtain⟨i,g1,g2⟩:=look_zip hv
      simp only [List.getElem?_map] at g2
      cases hx:is[i]? with
      |none=>rw [hx] at g2;cases g2
      |some x=>rw [hx] at g2;cases g2;exact⟨x,(getAll_spec h3).2 i t x g1 hx,wk_wk x⟩
    have hw:=hL f fn bd b var inv p hfn hbd hp h1 hok _ _ j1 j2 j3 h4 (by simp [wk_comp]) (by simp [l1,l2]) K S1 μ0 a w D hK hst0 hd
    have hdrop:(vs.map AV.wk++is.map AV.wk).drop var.length=is.map AV.wk:=by
     rw [List.drop_append_of_le_length (by simp [l1])]
     simp [l1]
    rw [hdrop] at hw
    refine wp_loop_of_in (wpIn_mono hw fun X a' w' ⟨hX,hd',S',μ',st'⟩=> ?_)
    have fin:∀(e0:JX),j1.toExit=e0.toExit→(normAs (formV cx f p e0 (vs.map AV.wk)) j2 fun vs'=>normHeap (formH cx f p e0 (h0.map Ob.wk)) j3 fun h'=>some (e0,var.zip vs'++inv.zip (is.map AV.wk),h'))=some (e,env',h')→After cx K fn.ntmps D e env' h' X a' w':=by
     intro e0 he hr
     obtain⟨vs',h6,h7⟩:=(normAs_pk _ _).some hr
     obtain⟨h'',h8,h9⟩:=(normHeap_pk _ _).some h6
     cases h8
     refine⟨by rw [hX,he],hd',S',μ',?_⟩
     have hh:=normHeap_wk h9
     refine(st'.envSub fun t v hv=> ?_).heapWk hh.1 hh.2
     obtain⟨hl7,hw7⟩:=normAs_wk h7
     have key:∀(ls:List Nat) (xs ys:List AV) (rest:Env),ys.length=xs.length→(∀(i:Nat) (y:AV),ys[i]?=some y→∃x,xs[i]?=some x∧Wk x y)→∀v,look (ls.zip ys++rest) t=some v→∃v0,look (ls.zip xs++rest) t=some v0∧Wk v0 v:=by
      intro ls
      induction ls with
      |nil=>intro xs ys rest _ _ v hv;exact⟨v,by simpa using hv,Wk.refl _⟩
      |cons s ls ih =>
       intro xs ys rest hl hwk v hv
       cases ys with
       |nil =>
        have:xs=[]:=by simpa using hl.symm
        subst this
        exact⟨v,by simpa using hv,Wk.refl _⟩
       |cons y ys =>
        cases xs with
        |nil=>simp at hl
        |cons x xs =>
         simp only [List.zip_cons_cons,List.cons_append,look] at hv ⊢
         split at hv
         ·rename_i hb
          cases hv
          obtain⟨x',hx',hwx⟩:=hwk 0 v (by simp)
          simp at hx'
          subst hx'
          exact⟨x,rfl,hwx⟩
         ·rename_i hb
          obtain⟨v0,g1,g2⟩:=ih xs ys rest (by simpa using hl) (fun i y hy=>by
           obtain⟨x',hx',hwx⟩:=hwk (i+1) y (by simpa using hy)
           exact⟨x',by simpa using hx',hwx⟩) v hv
          exact⟨v0,g1,g2⟩
     exact key var j2 vs' _ hl7 hw7 v hv
    have sel:∀l:List JX,jsel j1 (fun e=>normAs (formV cx f p e (vs.map AV.wk)) j2 fun vs'=>normHeap (formH cx f p e (h0.map Ob.wk)) j3 fun h'=>some (e,var.zip vs'++inv.zip (is.map AV.wk),h')) l=some (e,env',h')→After cx K fn.ntmps D e env' h' X a' w':=by
     intro l
     induction l with
     |nil=>intro hr;simp only [jsel] at hr;cases hr
     |cons x xs ih =>
      intro hr
      simp only [jsel] at hr
      cases hx:j1.is x with
      |true=>rw [hx] at hr;exact fin x (by rw [jx_is hx]) hr
      |false=>rw [hx] at hr;exact ih hr
    change loopX cx f j1 (fun e=>normAs (formV cx f p e (vs.map AV.wk)) j2 fun vs'=>normHeap (formH cx f p e (h0.map Ob.wk)) j3 fun h'=>some (e,var.zip vs'++inv.zip (is.map AV.wk),h')) _=_ at hr
    unfold loopX at hr
    cases hT:cx.pans f with
    |none=>rw [hT] at hr;exact sel _ hr
    |some T =>
     rw [hT] at hr
     simp only at hr
     cases hp:j1.isPan with
     |false=>rw [hp] at hr;exact sel _ hr
     |true =>
      rw [hp] at hr
      simp only [cond_true] at hr
      obtain⟨x,h6,hr⟩:=bind_some_iff hr
      obtain⟨x',h7,h8⟩:=(normZ_pk (cx.sv T) x).some hr
      cases hg:x'.ground with
      |false=>rw [hg] at h7;cases h7
      |true =>
       rw [hg] at h7
       simp only [cond_true] at h7
       have hxe:j1 = .pan (.iface T x):=by
        unfold JX.panX at h6
        split at h6
        ·rename_i v
         unfold AV.if? at h6
         split at h6
         ·split at h6
          ·rename_i ht
           cases h6
           subst ht
           rfl
          ·cases h6
         ·cases h6
        ·cases h6
       have hv:(AV.iface T x).toV=(AV.iface T x').toV:=by
        have e1:=normZ_toV h8 hg
        show Value.iface T x.toV=Value.iface T x'.toV
        rw [e1]
       exact fin (.pan (.iface T x')) (by rw [hxe];show Exit.panic _=Exit.panic _;rw [hv]) h7
 | .rangeFunc ..,p,env,h,a,w,S,μ,e,env',h',hp,st,hd,hr=>by simp only [run] at hr;cases hr
 | .scope ..,p,env,h,a,w,S,μ,e,env',h',hp,st,hd,hr=>by simp only [run] at hr;cases hr
 | .refuse ..,p,env,h,a,w,S,μ,e,env',h',hp,st,hd,hr=>by simp only [run] at hr;cases hr
end
end Go.Proofs.Av
