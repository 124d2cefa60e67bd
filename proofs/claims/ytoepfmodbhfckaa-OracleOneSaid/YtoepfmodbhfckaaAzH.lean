/- Operations that only read: the one theorem. -/
import Derived.Test.YtoepfmodbhfckaaAzGa
namespace Go.Proofs.Av
open Go
section
variable {cx:Cx}{S:Nat→Prop}{w:World}{μ:Mu}{env:Env}{a:Act}{h:Heap}
def RepO (S:Nat→Prop) (w:World) (μ:Mu):Option AV→Option Value→Prop
 |some x,some v=>Rep S w μ x v
 |none,none=>True
 | _,_=>False
def obnd (u:Option Value) (y' d:Nat) (code:BoundsCode):Sem Nat:=match u with
 |some v=>Instr.sliceBound v y' code
 |none=>pure d
theorem boundO_sem {P:Program}{x:Option AV}{u:Option Value}{y d n:Nat}(hx:RepO S w μ x u) (h:boundO x y d some=some n) {y':Nat}(hy:y≤y') (code:BoundsCode) (w':World):(x.isSome=true→n≤y)∧(x=none→n=d)∧(obnd u y' d code).run P w' = .ok n w':=by
 unfold boundO at h
 cases x with
 |none =>
  cases u with
  |none=>cases h;exact⟨(fun h=>by cases h),(fun _=>rfl),rfl⟩
  |some v=>exact hx.elim
 |some x =>
  cases u with
  |none=>exact hx.elim
  |some v =>
   obtain⟨h1,h2⟩:=bound_sem (P:=P) hx h hy code w'
   exact⟨(fun _=>h1),(fun h=>by cases h),h2⟩
theorem list_slice {fl' sz:Nat}{es:List (List AV)}{b off:Nat}{f:Nat→Nat→Value}(hS:S b) (hlen:∀e,e∈es→e.length=sz) (hc:∀i j,i<es.length→j<sz→w.cell? ⟨b,off+i*sz+j,none⟩=some (f i j)) (hr:∀(i j:Nat) (e:List AV) (v:AV),es[i]?=some e→e[j]?=some v→Rep S w Mu.none v (f i j)) {l m k:Nat}(hl:l≤k) (hk:k≤es.length) (hm:k≤m) (hf:fl'=1→m=k):Rep S w μ (.list fl' sz ((es.take k).drop l)) (.slice (if m=l then some ⟨b,off,none⟩ else some (Addr.add ⟨b,off,none⟩ (l*sz))) (k-l) (m-l)):=by
 have hll:((es.take k).drop l).length=k-l:=by simp;omega
 rw [←hll]
 have get:∀(i:Nat) (e:List AV),((es.take k).drop l)[i]?=some e→es[l+i]?=some e∧l+i<k:=by
  intro i e he
  rw [List.getElem?_drop,List.getElem?_take] at he
  split at he
  ·exact⟨he,by assumption⟩
  ·cases he
 split
 ·rename_i hml
  refine .list b off _ (fun i j=>f (l+i) j) hS (fun e he=>hlen e (List.mem_of_mem_take (List.mem_of_mem_drop he))) (fun i j hi _=>by rw [hll] at hi;omega) (fun i j e v he hv=>hr _ j e v (get i e he).1 hv) (by omega) (fun h1=> ?_)
  have:=hf h1;omega
 ·rw [add_plain]
  refine .list b (off+l*sz) _ (fun i j=>f (l+i) j) hS (fun e he=>hlen e (List.mem_of_mem_take (List.mem_of_mem_drop he))) (fun i j hi hj=> ?_) (fun i j e v he hv=>hr _ j e v (get i e he).1 hv) (by omega) (fun h1=> ?_)
  ·have:=hc (l+i) j (by rw [hll] at hi;omega) hj
   rw [Nat.add_mul] at this
   rw [show off+l*sz+i*sz+j=off+(l*sz+i*sz)+j by omega]
   exact this
  ·have:=hf h1;omega
theorem slice_run {cx:Cx}{t e:TypeId}{s len cap k l:Nat}{ad:Option Addr}{l' h':Option Value}(hd:cx.P.underlying t=some (.slice e)) (hs:cx.size e=some s) {w':World}(b1:(obnd h' cap len .sliceAcap).run cx.P w' = .ok k w') (b2:(obnd l' k 0 .sliceB).run cx.P w' = .ok l w'):(Instr.sliceAt t (.slice ad len cap) l' h' none).run cx.P w' = .ok (.slice (if cap=l then ad else ad.map (·.add (l*s))) (k-l) (cap-l)) w':=by
 unfold Instr.sliceAt
 cases h' with
 |none =>
  cases l' with
  |none =>
   simp only [obnd,Sem.run_pure] at b1 b2
   cases b1
   cases b2
   simp [Instr.slice,Instr.sliceBounds,run_underlying hd,run_size hs]
  |some y =>
   simp only [obnd,Sem.run_pure] at b1 b2
   cases b1
   simp [Instr.slice,Instr.sliceBounds,run_underlying hd,run_size hs,b2]
 |some x =>
  cases l' with
  |none =>
   simp only [obnd,Sem.run_pure] at b1 b2
   cases b2
   simp [Instr.slice,Instr.sliceBounds,run_underlying hd,run_size hs,b1]
  |some y =>
   simp only [obnd] at b1 b2
   simp [Instr.slice,Instr.sliceBounds,run_underlying hd,run_size hs,b1,b2]
theorem sliceV_sem {t:TypeId}{x av:AV}{u:Value}{lo hi mx:Option AV}{l' h' m':Option Value}(hx:Rep S w μ x u) (hlo:RepO S w μ lo l') (hhi:RepO S w μ hi h') (hmx:RepO S w μ mx m') (hv:sliceV cx t x lo hi mx some=some av):∃r,Rep S w μ av r∧∀w',(Instr.sliceAt t u l' h' m').run cx.P w' = .ok r w':=by
 unfold sliceV at hv
 obtain⟨d,hd,hv⟩:=bind_some_iff hv
 split at hv
 ·--a text
  rename_i s _
  cases m' with
  |some m=>exact hmx.elim
  |none =>
   obtain⟨k,h1,h2⟩:=(boundO_pk _ _ _).some hv
   obtain⟨l,h3,h4⟩:=(boundO_pk _ _ _).some h1
   cases h3
   refine⟨_,.val _,fun w'=> ?_⟩
   obtain⟨_,_,b1⟩:=boundO_sem (P:=cx.P) hhi h2 (Nat.le_refl _) .sliceAlen w'
   obtain⟨_,_,b2⟩:=boundO_sem (P:=cx.P) hlo h4 (Nat.le_refl _) .sliceB w'
   rw [hx.inv_val]
   unfold Instr.sliceAt
   cases h'<;>cases l'<;>simp_all [Instr.slice,Instr.sliceBounds,run_underlying hd,obnd]
 ·rename_i e fl sz es _
  cases m' with
  |some m=>exact hmx.elim
  |none =>
   obtain⟨s,h5,hv2⟩:=bind_some_iff hv
   obtain⟨_,h6,hv3⟩:=bind_some_iff hv2
   have hs:=chk_eq h6
   subst hs
   obtain⟨k,h1,h2⟩:=(boundO_pk _ _ _).some hv3
   obtain⟨l,h3,h4⟩:=(boundO_pk _ _ _).some h1
   cases h3
   have hk:k≤es.length:=by
    obtain⟨c1,c2,_⟩:=boundO_sem (P:=cx.P) hhi h2 (Nat.le_refl _) .sliceAcap default
    cases hi with
    |none=>rw [c2 rfl];exact Nat.le_refl _
    |some x=>exact c1 rfl
   have hl:l≤k:=by
    obtain⟨c1,c2,_⟩:=boundO_sem (P:=cx.P) hlo h4 (Nat.le_refl _) .sliceB default
    cases lo with
    |none=>rw [c2 rfl];exact Nat.zero_le _
    |some x=>exact c1 rfl
   cases hx with
   |list b off cap f hS hlen hc hr hcap hfull =>
    refine⟨_,list_slice hS hlen hc hr hl hk (Nat.le_trans hk hcap) (fun h=>by cases h),fun w'=> ?_⟩
    obtain⟨_,_,b1⟩:=boundO_sem (P:=cx.P) hhi h2 hcap .sliceAcap w'
    obtain⟨_,_,b2⟩:=boundO_sem (P:=cx.P) hlo h4 (Nat.le_refl _) .sliceB w'
    exact(slice_run hd h5 b1 b2).trans (by by_cases hcl:cap=l<;>simp [hcl])
   |nil =>
    have hk0:k=0:=by simpa using hk
    have hl0:l=0:=by omega
    subst hk0
    subst hl0
    refine⟨.slice none 0 0,by simpa using Rep.nil,fun w'=> ?_⟩
    obtain⟨_,_,b1⟩:=boundO_sem (P:=cx.P) hhi h2 (Nat.le_refl _) .sliceAcap w'
    obtain⟨_,_,b2⟩:=boundO_sem (P:=cx.P) hlo h4 (Nat.le_refl _) .sliceB w'
    exact(slice_run hd h5 b1 b2).trans (by simp)
   |empty ad cap hf =>
    have hk0:k=0:=by simpa using hk
    have hl0:l=0:=by omega
    subst hk0
    subst hl0
    refine⟨.slice (some ad) 0 cap,by simpa using Rep.empty ad cap (fun h=>by cases h),fun w'=> ?_⟩
    obtain⟨_,_,b1⟩:=boundO_sem (P:=cx.P) hhi h2 (Nat.zero_le cap) .sliceAcap w'
    obtain⟨_,_,b2⟩:=boundO_sem (P:=cx.P) hlo h4 (Nat.le_refl _) .sliceB w'
    exact(slice_run hd h5 b1 b2).trans (by by_cases hc0:cap=0<;>simp [hc0,Addr.add])
 ·rename_i e r ver off len _
  cases m' with
  |some m=>exact hmx.elim
  |none =>
   obtain⟨s,h5,hv2⟩:=bind_some_iff hv
   obtain⟨_,h6,hv3⟩:=bind_some_iff hv2
   have hs:=chk_eq h6
   subst hs
   obtain⟨k,h1,h2⟩:=(boundO_pk _ _ _).some hv3
   obtain⟨l,h3,h4⟩:=(boundO_pk _ _ _).some h1
   cases h3
   have hk:k≤len:=by
    obtain⟨c1,c2,_⟩:=boundO_sem (P:=cx.P) hhi h2 (Nat.le_refl _) .sliceAcap default
    cases hi with
    |none=>rw [c2 rfl];exact Nat.le_refl _
    |some x=>exact c1 rfl
   have hl:l≤k:=by
    obtain⟨c1,c2,_⟩:=boundO_sem (P:=cx.P) hlo h4 (Nat.le_refl _) .sliceB default
    cases lo with
    |none=>rw [c2 rfl];exact Nat.zero_le _
    |some x=>exact c1 rfl
   cases hx with
   |arr b cap hμ hcap =>
    obtain⟨_,_,b1⟩:=boundO_sem (P:=cx.P) hhi h2 hcap .sliceAcap w
    by_cases hlc:cap=l∧0<l
    ·obtain⟨hcl,hl0⟩:=hlc
     have hkl:k-l=0:=by omega
     rw [hkl]
     refine⟨.slice (some ⟨b,off*ver,none⟩) 0 0,.arr0 _ (by omega),fun w'=> ?_⟩
     obtain⟨_,_,b1⟩:=boundO_sem (P:=cx.P) hhi h2 hcap .sliceAcap w'
     obtain⟨_,_,b2⟩:=boundO_sem (P:=cx.P) hlo h4 (Nat.le_refl _) .sliceB w'
     rw [slice_run hd h5 b1 b2,if_pos hcl,hkl,show cap-l=0 by omega]
    ·refine⟨.slice (some ⟨b,(off+l)*ver,none⟩) (k-l) (cap-l),.arr b (cap-l) (by rw [show off+l+(cap-l)=off+cap by omega];exact hμ) (by omega),fun w'=> ?_⟩
     obtain⟨_,_,b1⟩:=boundO_sem (P:=cx.P) hhi h2 hcap .sliceAcap w'
     obtain⟨_,_,b2⟩:=boundO_sem (P:=cx.P) hlo h4 (Nat.le_refl _) .sliceB w'
     rw [slice_run hd h5 b1 b2]
     have hcell:(if cap=l then some (⟨b,off*ver,none⟩:Addr) else(some (⟨b,off*ver,none⟩:Addr)).map (·.add (l*ver)))=some ⟨b,(off+l)*ver,none⟩:=by
      by_cases hne:cap=l
      ·have hl0:l=0:=by omega
       rw [if_pos hne,hl0];rfl
      ·rw [if_neg hne,Nat.add_mul,Option.map_some,add_plain]
     rw [hcell]
   |arr0 ad ha =>
    have hk0:k=0:=by simpa using hk
    have hl0:l=0:=by omega
    subst hk0
    subst hl0
    refine⟨.slice (some ad) 0 0,.arr0 ad ha,fun w'=> ?_⟩
    obtain⟨_,_,b1⟩:=boundO_sem (P:=cx.P) hhi h2 (Nat.le_refl _) .sliceAcap w'
    obtain⟨_,_,b2⟩:=boundO_sem (P:=cx.P) hlo h4 (Nat.le_refl _) .sliceB w'
    exact(slice_run hd h5 b1 b2).trans (by simp)
   |anil =>
    have hk0:k=0:=by simpa using hk
    have hl0:l=0:=by omega
    subst hk0
    subst hl0
    refine⟨.slice none 0 0,by simpa using Rep.anil,fun w'=> ?_⟩
    obtain⟨_,_,b1⟩:=boundO_sem (P:=cx.P) hhi h2 (Nat.le_refl _) .sliceAcap w'
    obtain⟨_,_,b2⟩:=boundO_sem (P:=cx.P) hlo h4 (Nat.le_refl _) .sliceB w'
    exact(slice_run hd h5 b1 b2).trans (by simp)
 ·rename_i e fl sz es m0 _
  cases m' with
  |none=>exact hmx.elim
  |some mv =>
   obtain⟨s,h5,hv2⟩:=bind_some_iff hv
   obtain⟨_,h6,hv3⟩:=bind_some_iff hv2
   have hs:=chk_eq h6
   subst hs
   obtain⟨m,h7,h8⟩:=(boundV_pk _ _).some hv3
   obtain⟨k,h1,h2⟩:=(boundV_pk _ _).some h7
   obtain⟨l,h3,h4⟩:=(boundO_pk _ _ _).some h1
   cases h3
   cases hi with
   |none=>simp [boundV,undef] at h2
   |some hi =>
    cases h' with
    |none=>exact hhi.elim
    |some hv' =>
     obtain⟨hm,_⟩:=bound_sem (P:=cx.P) hmx h8 (Nat.le_refl _) .slice3Acap default
     obtain⟨hk,_⟩:=bound_sem (P:=cx.P) hhi h2 (Nat.le_refl _) .slice3B default
     have hl:l≤k:=by
      obtain⟨c1,c2,_⟩:=boundO_sem (P:=cx.P) hlo h4 (Nat.le_refl _) .slice3C default
      cases lo with
      |none=>rw [c2 rfl];exact Nat.zero_le _
      |some x=>exact c1 rfl
     cases hx with
     |list b off cap f hS hlen hc hr hcap hfull =>
      refine⟨_,list_slice hS hlen hc hr hl (Nat.le_trans hk hm) hk (fun h=> ?_),fun w'=> ?_⟩
      ·cases hb:Nat.beq m k with
       |true=>exact Nat.eq_of_beq_eq_true hb
       |false=>rw [hb] at h;cases h
      obtain⟨_,b0⟩:=bound_sem (P:=cx.P) hmx h8 hcap .slice3Acap w'
      obtain⟨_,b1⟩:=bound_sem (P:=cx.P) hhi h2 (Nat.le_refl _) .slice3B w'
      obtain⟨_,_,b2⟩:=boundO_sem (P:=cx.P) hlo h4 (Nat.le_refl _) .slice3C w'
      unfold Instr.sliceAt
      cases l'<;>simp [obnd] at b2<;>simp [Instr.slice,Instr.sliceBounds,run_underlying hd,run_size h5,b0,b1,b2]
     |nil =>
      have hm0:m=0:=by simpa using hm
      have hk0:k=0:=by omega
      have hl0:l=0:=by omega
      subst hm0
      subst hk0
      subst hl0
      refine⟨.slice none 0 0,by simpa using Rep.nil,fun w'=> ?_⟩
      obtain⟨_,b0⟩:=bound_sem (P:=cx.P) hmx h8 (Nat.le_refl _) .slice3Acap w'
      obtain⟨_,b1⟩:=bound_sem (P:=cx.P) hhi h2 (Nat.le_refl _) .slice3B w'
      obtain⟨_,_,b2⟩:=boundO_sem (P:=cx.P) hlo h4 (Nat.le_refl _) .slice3C w'
      unfold Instr.sliceAt
      cases l'<;>simp_all [Instr.slice,Instr.sliceBounds,run_underlying hd,run_size h5,obnd]
     |empty ad cap hf =>
      have hm0:m=0:=by simpa using hm
      have hk0:k=0:=by omega
      have hl0:l=0:=by omega
      subst hm0
      subst hk0
      subst hl0
      refine⟨.slice (some ad) 0 0,by simpa using Rep.empty ad 0 (fun _=>rfl),fun w'=> ?_⟩
      obtain⟨_,b0⟩:=bound_sem (P:=cx.P) hmx h8 (Nat.zero_le cap) .slice3Acap w'
      obtain⟨_,b1⟩:=bound_sem (P:=cx.P) hhi h2 (Nat.le_refl _) .slice3B w'
      obtain⟨_,_,b2⟩:=boundO_sem (P:=cx.P) hlo h4 (Nat.le_refl _) .slice3C w'
      unfold Instr.sliceAt
      cases l'<;>simp_all [Instr.slice,Instr.sliceBounds,run_underlying hd,run_size h5,obnd,Addr.add]
 ·cases hv
theorem oopnd_sem (hE:EnvRel S w μ env a.tmps) (hG:GRel cx S w) {x:Option Operand}{av:Option AV}(h:oopnd cx env x=some av):RepO S w μ av (x.map a.eval):=by
 cases x with
 |none=>cases h;trivial
 |some x =>
  obtain⟨v,h1,h2⟩:=bind_some_iff h
  cases h2
  exact opnd_sem hE hG h1
theorem parts_sem (hE:EnvRel S w μ env a.tmps) (hG:GRel cx S w):∀ {xs:List (Nat×Operand)}{ps:List (Nat×AV)},parts? cx env xs=some ps →
  xs.length=ps.length∧∀(j:Nat) (p:Nat×AV) (q:Nat×Value),ps[j]?=some p→(xs.map fun(i,x)=>(i,a.eval x))[j]?=some q→q.1=p.1∧Rep S w μ p.2 q.2
 | [],ps,h=>by cases h;exact⟨rfl,fun j p q h=>by simp at h⟩
 | (i,x)::xs,ps,h=>by
  simp only [parts?] at h
  obtain⟨v,h1,h⟩:=bind_some_iff h
  obtain⟨vs,h2,h⟩:=bind_some_iff h
  cases h
  obtain⟨h3,h4⟩:=parts_sem hE hG h2
  refine⟨by simp [h3],fun j p q hp hq=> ?_⟩
  cases j with
  |zero =>
   simp at hp hq
   subst hp
   subst hq
   exact⟨rfl,opnd_sem hE hG h1⟩
  |succ j=>exact h4 j p q (by simpa using hp) (by simpa using hq)
theorem builtinV_sem {b:Builtin}{ts:Array TypeId}{args:List AV}{us:Array Value}{av:AV}(hr:Reps S w μ args us.toList) (hv:builtinV cx b ts.toList args some=some av) (ty:TypeId) (cs:Array Bool):∃r,Rep S w μ av r∧∀w',(builtin b ts ty cs us).run cx.P w' = .ok (.value r) w':=by
 unfold builtinV at hv
 split at hv
 ·rename_i x _
  obtain⟨u,r,h1,h2,h3⟩:=hr.inv_cons
  have:=h3.inv_nil
  subst this
  have hu:us= #[u]:=by apply Array.ext';simpa using h1
  subst hu
  split at hv
  ·rename_i t rest hts
   have h0:ts[0]?=some t:=by
    have:=congrArg (·[0]?) hts
    simpa using this
   obtain⟨v,hv1,_⟩:=lenV_sem (ty:=ty) h2 hv ts h0 default
   subst hv1
   refine⟨v,.val v,fun w'=> ?_⟩
   obtain⟨v',hv1',hv2'⟩:=lenV_sem (ty:=ty) h2 hv ts h0 w'
   cases hv1'
   simp [builtin,hv2']
  ·cases hv
 ·rename_i k x k' y
  obtain⟨u,r,h1,h2,h3⟩:=hr.inv_cons
  obtain⟨u',r',h4,h5,h6⟩:=h3.inv_cons
  have:=h6.inv_nil
  subst this
  subst h4
  have hu:us= #[u,u']:=by apply Array.ext';simpa using h1
  subst hu
  rw [h2.inv_val,h5.inv_val]
  cases hv
  exact⟨_,.val _,fun w'=>by simp [builtin,run_max_int2]⟩
 ·rename_i k x k' y
  obtain⟨u,r,h1,h2,h3⟩:=hr.inv_cons
  obtain⟨u',r',h4,h5,h6⟩:=h3.inv_cons
  have:=h6.inv_nil
  subst this
  subst h4
  have hu:us= #[u,u']:=by apply Array.ext';simpa using h1
  subst hu
  rw [h2.inv_val,h5.inv_val]
  cases hv
  exact⟨_,.val _,fun w'=>by simp [builtin,run_min_int2]⟩
 ·cases hv
theorem nilEq_sem {op:BinOp}{t:TypeId}{b:Bool}{av:AV}{u:Value}(hu:(u = .nilIface∧b=true)∨((∃t' x,u = .iface t' x)∧b=false)) (h:nilEq cx op t b some=some av) (w':World) (ox oy:Operand):∃r,av = .val r∧(do eqGuard op t ox oy u .nilIface;binOp op t u .nilIface:Sem Value).run cx.P w' = .ok r w':=by
 unfold nilEq at h
 obtain⟨d,h1,h⟩:=bind_some_iff h
 split at h
 ·rename_i ms
  cases hms:ms.isEmpty with
  |false=>rw [hms] at h;cases h
  |true =>
   rw [hms] at h
   simp only [cond_true] at h
   have heq:∀d:Nat,(Op.equalIn (d+1) t u .nilIface).run cx.P w' = .ok b w':=fun d=>by
    rcases hu with⟨rfl,rfl⟩ |⟨⟨t',x,rfl⟩,rfl⟩
    ·simp [Op.equalIn,run_underlying h1]
    ·simp [Op.equalIn,run_underlying h1]
   have hgd:∀d:Nat,(Op.eqGuardIn (d+1) t .nilIface .nilIface).run cx.P w' = .ok false w':=fun d=>by simp [Op.eqGuardIn,run_underlying h1,hms]
   have hg:(eqGuard op t ox oy u .nilIface).run cx.P w' = .ok () w':=by
    unfold eqGuard
    rcases hu with⟨rfl,rfl⟩ |⟨⟨t',x,rfl⟩,rfl⟩
    ·cases op<;>simp<;>(try (split<;>simp [Op.maxDepth,hgd 9999]))
    ·cases op<;>simp
   simp only [Sem.run_bind,hg,Result.andThen_ok]
   split at h
   ·cases h
    refine⟨_,rfl,?_⟩
    rcases hu with⟨rfl,rfl⟩ |⟨⟨t',x,rfl⟩,rfl⟩<;>(simp only [binOp];simp [Op.equal,Op.maxDepth,heq 9999])
   ·cases h
    refine⟨_,rfl,?_⟩
    rcases hu with⟨rfl,rfl⟩ |⟨⟨t',x,rfl⟩,rfl⟩<;>(simp only [binOp];simp [Op.equal,Op.maxDepth,heq 9999])
   ·cases h
 ·cases h
theorem assertV_sem {t xt:TypeId}{ok:Bool}{x av:AV}{u:Value}(hx:Rep S w μ x u) (h:assertV cx t ok x some=some av):∃v,Rep S w μ av v∧∀w',(Instr.typeAssert u xt t ok).run cx.P w' = .ok v w':=by
 unfold assertV at h
 obtain⟨d,h1,hk⟩:=bind_some_iff h
 clear h
 have fails:∀ {z:Value},cx.zero t=some z→∀w',(zeroValue t).run cx.P w' = .ok z w':=fun h2 w'=>by
  unfold Cx.zero at h2
  obtain⟨i,h5,h6⟩:=bind_some_iff h2
  simp [zeroValue,typeInfo,h5,h6]
 have pair:∀ {a:AV}{v:Value}{b:Bool},Rep S w μ a v→Rep S w μ (.tuple [a,.val (.bool b)]) (.tuple #[v,.bool b]):=fun {a v b} hr => .tuple _ rfl fun j y z hy hz=>by
  cases j with
  |zero=>simp at hy hz;subst hy;subst hz;exact hr
  |succ j =>
   cases j with
   |zero=>simp at hy hz;subst hy;subst hz;exact .val _
   |succ j=>simp at hy
 split at hk
 ·cases hk
 ·rename_i hd
  split at hk
  ·rename_i t' v
   cases hx with
   |iface hv =>
    cases ht:Nat.beq t' t with
    |true =>
     rw [ht] at hk
     simp only [cond_true] at hk
     have:=Nat.eq_of_beq_eq_true ht
     subst this
     cases ok with
     |true =>
      cases hk
      refine⟨_,pair hv,fun w'=> ?_⟩
      unfold Instr.typeAssert
      cases d<;>first | (exact absurd rfl (hd _)) |simp [run_underlying h1]
     |false =>
      cases hk
      refine⟨_,hv,fun w'=> ?_⟩
      unfold Instr.typeAssert
      cases d<;>first | (exact absurd rfl (hd _)) |simp [run_underlying h1]
    |false =>
     rw [ht] at hk
     simp only [cond_false] at hk
     have hne:¬t'=t:=fun he=>by subst he;rw [Nat.beq_refl] at ht;cases ht
     cases ok with
     |false=>cases hk
     |true =>
      obtain⟨z,h2,h3⟩:=bind_some_iff hk
      cases h3
      refine⟨_,pair (rep_ofValue z),fun w'=> ?_⟩
      unfold Instr.typeAssert
      cases d<;>first | (exact absurd rfl (hd _)) |simp [run_underlying h1,hne,fails h2 w']
  ·rw [hx.inv_val]
   cases ok with
   |false=>cases hk
   |true =>
    obtain⟨z,h2,h3⟩:=bind_some_iff hk
    cases h3
    refine⟨_,pair (rep_ofValue z),fun w'=> ?_⟩
    unfold Instr.typeAssert
    cases d<;>first | (exact absurd rfl (hd _)) |simp [run_underlying h1,fails h2 w']
  ·cases hk
theorem binW_sem {op:BinOp}{t:TypeId}{x y av:AV}{u v:Value}(hx:Rep S w μ x u) (hy:Rep S w μ y v) (h:binW cx op t x y some=some av) (w':World) (ox oy:Operand):∃r,av = .val r∧(do eqGuard op t ox oy u v;binOp op t u v:Sem Value).run cx.P w' = .ok r w':=by
 unfold binW at h
 split at h
 ·exact binW_agg_sem hx hy h w' ox oy
 ·rw [hy.inv_val]
  cases hx with
  |iface hv=>exact nilEq_sem (.inr ⟨⟨_,_,rfl⟩,rfl⟩) h w' ox oy
 ·rw [hy.inv_val,hx.inv_val]
  exact nilEq_sem (.inl ⟨rfl,rfl⟩) h w' ox oy
 ·exact binV_sem hx hy h w' ox oy
theorem convH_sem (hH:HRel S w μ h) {s d:TypeId}{x av:AV}{u:Value}(hx:Rep S w μ x u) (hc:convH cx h s d x some=some av):∃r,av = .val r∧∀w',Ext w w'→(convert s d u).run cx.P w' = .ok r w':=by
 cases x with
 |list fl sz es=>exact bytesV_sem hH hx hc
 |arr r ver off len=>exact bytesV_sem hH hx hc
 | _ =>
  obtain⟨v,h5,_⟩:=convV_sem (cx:=cx) hx hc default
  subst h5
  refine⟨v,rfl,fun w' _=> ?_⟩
  obtain⟨v',h6,h7⟩:=convV_sem (cx:=cx) hx hc w'
  cases h6
  exact h7
theorem evalA_sem (hE:EnvRel S w μ env a.tmps) (hG:GRel cx S w) (hH:HRel S w μ h) {o:Oper}{av:AV}(hv:evalA cx o.op env h some=some av):∃v,Rep S w μ av v∧∀w',Ext w w'→(execOp a.eval o).run cx.P w' = .ok (.value v) w':=by
 obtain⟨dst,op,ty,pos,after,guard⟩:=o
 simp only at hv
 unfold evalA at hv
 split at hv
 ·obtain⟨x,h1,hv⟩:=bind_some_iff hv
  cases hv
  exact⟨_,opnd_sem hE hG h1,fun w' _=>by simp [execOp]⟩
 ·obtain⟨x,h1,hv⟩:=bind_some_iff hv
  cases hv
  exact⟨_,opnd_sem hE hG h1,fun w' _=>by simp [execOp]⟩
 ·obtain⟨x,h1,hv⟩:=bind_some_iff hv
  split at hv
  ·rename_i t
   have hb:=(opnd_sem hE hG h1).inv_val
   cases t with
   |true =>
    obtain⟨x,h2,hv⟩:=bind_some_iff hv
    cases hv
    exact⟨_,opnd_sem hE hG h2,fun w' _=>by simp [execOp,hb,asBool]⟩
   |false =>
    obtain⟨x,h2,hv⟩:=bind_some_iff hv
    cases hv
    exact⟨_,opnd_sem hE hG h2,fun w' _=>by simp [execOp,hb,asBool]⟩
  ·cases hv
 ·obtain⟨p,h1,hv⟩:=bind_some_iff hv
  obtain⟨cs,h2,h3⟩:=(cellsAt_pk _ _ _).some hv
  obtain⟨b,off,h4,h5⟩:=cellsAt_sem hH (opnd_sem hE hG h1) h3
  obtain⟨v,h6,h7⟩:=loadC_sem h5 h2
  refine⟨v,h6,fun w' hx=> ?_⟩
  simp [execOp,Instr.loadAt,h4,Instr.sureAddr,h7 w' hx]
 ·obtain⟨x,h1,hv⟩:=bind_some_iff hv
  have hr:=opnd_sem hE hG h1
  split at hv
  ·cases hv
   refine⟨_,hr,fun w' _=> ?_⟩
   cases hx:a.eval _ with
   |pointer p =>
    rw [hx] at hr
    cases hr
    simp [execOp,hx]
   | _=>rw [hx] at hr;cases hr
  ·cases hv
   refine⟨_,hr,fun w' _=> ?_⟩
   cases hx:a.eval _ with
   |pointer p =>
    rw [hx] at hr
    cases hr
    simp [execOp,hx]
   | _=>rw [hx] at hr;cases hr
  ·cases hv
   refine⟨_,hr,fun w' _=> ?_⟩
   cases hx:a.eval _ with
   |func p =>
    rw [hx] at hr
    cases hr
    simp [execOp,hx]
   | _=>rw [hx] at hr;cases hr
  ·cases hv
 ·rename_i bop t x y yt
  obtain⟨u,h1,hv⟩:=bind_some_iff hv
  obtain⟨v,h2,hv⟩:=bind_some_iff hv
  obtain⟨r,h3,h4⟩:=(binW_pk _ _ _ _ _).some hv
  have:=splitB_eq h3
  subst this
  obtain⟨v,h5,_⟩:=binW_sem (opnd_sem hE hG h1) (opnd_sem hE hG h2) h4 default x y
  subst h5
  refine⟨v,.val v,fun w' _=> ?_⟩
  obtain⟨v',h6,h7⟩:=binW_sem (opnd_sem hE hG h1) (opnd_sem hE hG h2) h4 w' x y
  cases h6
  have e:(execOp a.eval { dst:=dst,op := .binOp bop t x y yt,type:=ty,pos:=pos,after:=after,guard:=guard }:Sem Next)=(do pure (.value (←(do eqGuard bop t x y (a.eval x) (a.eval y);binOp bop t (a.eval x) (a.eval y):Sem Value))):Sem Next):=rfl
  rw [e]
  simp only [Sem.run_bind (f:=fun v=>(pure (Next.value v):Sem Next)),h7,Result.andThen_ok,Sem.run_pure]
 ·obtain⟨u,h1,hv⟩:=bind_some_iff hv
  obtain⟨r,h3,h4⟩:=(unV_pk _ _).some hv
  have:=splitB_eq h3
  subst this
  obtain⟨v,h5,_⟩:=unV_sem (cx:=cx) (opnd_sem hE hG h1) h4 default
  subst h5
  refine⟨v,.val v,fun w' _=> ?_⟩
  obtain⟨v',h6,h7⟩:=unV_sem (cx:=cx) (opnd_sem hE hG h1) h4 w'
  cases h6
  simp [execOp,h7]
 ·obtain⟨u,h1,hv⟩:=bind_some_iff hv
  obtain⟨v,h5,h7⟩:=convH_sem (cx:=cx) hH (opnd_sem hE hG h1) hv
  subst h5
  exact⟨v,.val v,fun w' hx=>by simp [execOp,h7 w' hx]⟩
 ·obtain⟨u,h1,hv⟩:=bind_some_iff hv
  obtain⟨d,h2,hv⟩:=bind_some_iff hv
  split at hv
  ·cases hv
  ·rename_i hni
   cases hv
   refine⟨_,.iface (opnd_sem hE hG h1),fun w' _=> ?_⟩
   cases d<;>first
    |exact absurd rfl (hni _)
    |simp [execOp,Instr.makeInterface,run_underlying h2]
 ·rename_i fn first cap
  obtain⟨fs,h1,hv⟩:=bind_some_iff hv
  obtain⟨cs,h2,hv⟩:=bind_some_iff hv
  cases hv
  have r1:=opnds_sem hE hG h1
  have r2:=opnds_sem hE hG h2
  refine⟨.func fn (first.map a.eval) (cap.map a.eval),.func _ _ (by simpa using r1.1) (by simpa using r2.1) (fun j v u hv hu=>r1.2 j v u hv (by simpa using hu)) (fun j v u hv hu=>r2.2 j v u hv (by simpa using hu)),fun w' _=> ?_⟩
  simp [execOp,Instr.makeFunc]
 ·rename_i t ps
  obtain⟨l,h1,hv⟩:=bind_some_iff hv
  obtain⟨h2,h3⟩:=parts_sem hE hG h1
  obtain⟨v,h4,h5⟩:=buildV_sem (S:=S) (w:=w) (μ:=μ) (qs:=ps.map fun(i,x)=>(i,a.eval x)) (by simpa using h2) (fun j p q hp hq=>h3 j p q hp (by simpa using hq)) hv
  exact⟨v,h4,fun w' _=>by simp [execOp,h5 w']⟩
 ·obtain⟨u,h1,hv⟩:=bind_some_iff hv
  obtain⟨l,h2,hv⟩:=bind_some_iff hv
  obtain⟨k,h3,hv⟩:=bind_some_iff hv
  obtain⟨m,h4,hv⟩:=bind_some_iff hv
  obtain⟨v,h5,h6⟩:=sliceV_sem (opnd_sem hE hG h1) (oopnd_sem hE hG h2) (oopnd_sem hE hG h3) (oopnd_sem hE hG h4) hv
  exact⟨v,h5,fun w' _=>by simp [execOp,h6 w']⟩
 ·rename_i s x f
  obtain⟨u,h1,hv⟩:=bind_some_iff hv
  obtain⟨d,h2,hv⟩:=bind_some_iff hv
  split at hv
  ·rename_i fs
   obtain⟨fl,h3,hv⟩:=bind_some_iff hv
   obtain⟨n,h4,hv⟩:=bind_some_iff hv
   split at hv
   ·cases hv
   ·rename_i hn
    obtain⟨b,off,h5,h6⟩:=addOff_sem (opnd_sem hE hG h1) hv
    refine⟨_,h6,fun w' _=> ?_⟩
    have hn0:n≠0:=fun h=>by subst h;cases hn
    simp [execOp,Instr.fieldAt,run_underlying h2,h3,h5,Instr.sureAddr,fieldPlace,run_size h4,hn0,add_plain]
  ·cases hv
 ·obtain⟨u,h1,hv⟩:=bind_some_iff hv
  obtain⟨d,h2,hv⟩:=bind_some_iff hv
  split at hv
  ·rename_i fs cs _
   obtain⟨fl,h3,hv⟩:=bind_some_iff hv
   obtain⟨us,h4,h5⟩:=(opnd_sem hE hG h1).inv_agg
   obtain⟨v,h6,h7⟩:=part_sem h5 hv
   refine⟨v,h6,fun w' _=> ?_⟩
   have:=h7 w'
   simp only [Array.toArray_toList] at this
   simp [execOp,Instr.field,run_underlying h2,h3,h4,asAgg,this]
  ·cases hv
 ·obtain⟨u,h1,hv⟩:=bind_some_iff hv
  obtain⟨i,h2,hv⟩:=bind_some_iff hv
  obtain⟨v,h5,h6⟩:=indexAddrV_sem hH (opnd_sem hE hG h1) (opnd_sem hE hG h2) hv
  exact⟨v,h5,fun w' _=>by simp [execOp,h6 w']⟩
 ·obtain⟨u,h1,hv⟩:=bind_some_iff hv
  obtain⟨i,h2,hv⟩:=bind_some_iff hv
  obtain⟨v,h5,h6⟩:=indexV_sem (opnd_sem hE hG h1) (opnd_sem hE hG h2) hv
  exact⟨v,h5,fun w' _=>by simp [execOp,h6 w']⟩
 ·obtain⟨u,h1,hv⟩:=bind_some_iff hv
  split at hv
  ·rename_i vs
   obtain⟨x,h2,hv⟩:=bind_some_iff hv
   cases hv
   obtain⟨us,h3,h4⟩:=(opnd_sem hE hG h1).inv_tuple
   obtain⟨v,h5,h6⟩:=h4.get h2
   refine⟨v,h6,fun w' _=> ?_⟩
   rw [Array.getElem?_toList] at h5
   simp [execOp,Instr.extract,h3,h5]
  ·cases hv
 ·rename_i x xt t ok
  obtain⟨u,h1,hv⟩:=bind_some_iff hv
  obtain⟨v,h5,h6⟩:=assertV_sem (xt:=xt) (opnd_sem hE hG h1) hv
  exact⟨v,h5,fun w' _=>by simp [execOp,h6 w']⟩
 ·rename_i b args ts
  obtain⟨vs,h1,hv⟩:=bind_some_iff hv
  obtain⟨r,h2,h3⟩:=builtinV_sem (us:=args.map a.eval) (by simpa using opnds_sem hE hG h1) hv ty (args.map fun | .const _=>true | _=>false)
  refine⟨r,h2,fun w' _=> ?_⟩
  simp [execOp,resolve,invoke]
  exact h3 w'
 ·cases hv
end
end Go.Proofs.Av
