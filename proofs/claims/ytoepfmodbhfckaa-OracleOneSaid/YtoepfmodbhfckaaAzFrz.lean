/- An object that is given up: its block stays as it is from now on. -/
import Derived.Test.YtoepfmodbhfckaaAzLb
namespace Go.Proofs.Av
open Go
section
variable {cx:Cx}{K:Kf}{N:Nat}{S:Nat→Prop}{μ:Mu}{env:Env}{h:Heap}{tmps:Array Value}{w:World}
def frz (S:Nat→Prop) (μ:Mu) (r:Nat) (b:Nat):Prop:=S b∨∃s,μ r=some (b,s)
theorem St.freeze (st:St cx K N S μ env h tmps w) {r:Nat}{o:Ob}(hr:h[r]?=some o) (hk:o.k ≠ .dead):St cx K N (frz S μ r) μ env (killH h (some r)) tmps w:=by
 have hS:∀b,S b→frz S μ r b:=fun b hb => .inl hb
 have hal:∀r',alive (killH h (some r)) r'→alive h r':=fun r' ha o' ho' hd=>by
  by_cases hrr:r=r'
  ·subst hrr
   rw [hr] at ho'
   cases ho'
   exact hk hd
  ·refine ha o' ?_ hd
   have e:killH h (some r)=h.set r { o with k := .dead,es:=[] }:=by
    show(match h[r]? with |some o=>h.set r { o with k := .dead,es:=[] } |none=>h)=_
    rw [hr]
   rw [e,List.getElem?_set_ne hrr]
   exact ho'
 have har:alive h r:=fun o' ho' hd=>by rw [hr] at ho';cases ho';exact hk hd
 refine⟨st.size,fun t v ht=>(st.env t v ht).mono hS (fun _ _=>rfl) (fun _ _ h=>h),fun g cs hg=>(st.g g cs hg).mono hS (fun _ _=>rfl) (fun _ _ h=>h),fun r' o' ho'=> ?_,fun a a' b s s' h1 h2 h3 h4=>st.inj a a' b s s' h1 h2 (hal a h3) (hal a' h4),fun a x hx=>by rw [killH_len];exact st.dom a x hx,st.own,fun b hb => .inl (st.s0 b hb),fun b hb=> ?_,fun b hb=> ?_,st.frame,st.le,st.os,st.tape,st.output,st.fix⟩
 ·rcases killH_get ho' with⟨h1,o0,h2,rfl⟩ |⟨h1,h2⟩
  ·cases h1
   refine .inl ⟨rfl,rfl,fun b s C hx=> ?_⟩
   have hz:s=o0.sz:=st.heap.sz h2 hx
   exact⟨st.lt hx,hz⟩
  ·rcases st.heap r' o' h2 with h3 |h3 |⟨h3,⟨b,vs,t,C,k1,k2,k3,k4,k5,k6,k7,k8⟩⟩
   ·exact .inl h3
   ·exact .inr (.inl h3)
   ·refine .inr (.inr ⟨h3,⟨b,vs,t,C,k1,k2,fun hro => .inl (k3 hro),fun hro hb=> ?_,k5,k6,k7,fun i j e v he hv=> ?_⟩⟩)
    ·rcases hb with hb |⟨s,hb⟩
     ·exact k4 hro hb
     ·have halr:alive h r':=fun o1 ho1 hd=>by rw [h2] at ho1;cases ho1;exact h3 hd
      exact h1 (by rw [st.inj r r' b s _ hb k1 har halr])
    ·obtain⟨u,hu,hrep⟩:=k8 i j e v he hv
     exact⟨u,hu,hrep.mono hS (fun _ _=>rfl) (fun _ _ h=>h)⟩
 ·rcases hb with hb |⟨s,hb⟩
  ·exact st.snew b hb
  ·rcases st.own r b s hb with h1 |h1
   ·exact .inr (.inl h1)
   ·exact .inr (.inr h1)
 ·rcases hb with hb |⟨s,hb⟩
  ·exact st.slt b hb
  ·exact st.lt hb
theorem view_semR {T:Nat→Prop}(hST:∀b,S b→T b) (hH:HRel S w μ h):∀(n:Nat) {a a':AV}{v:Value}{μ':Mu},(∀r x,μ' r=some x→μ r=some x) →
  (∀r∈vrefs h n a,∀o,h[r]?=some o→o.k ≠ .dead→∀b s,μ r=some (b,s)→T b)→view h n a=some a'→Rep S w μ' a v→Rep T w Mu.none a' v
 | 0,a,a',v,μ',hμ,hT,hv,hr=>by cases hv
 |n+1,a,a',v,μ',hμ,hT,hv,hr=>by
  have old:∀ {x:AV}{u:Value},Rep S w Mu.none x u→Rep T w Mu.none x u:=fun hr=>hr.mono hST (fun _ _=>rfl) fun _ _ h=>h
  have many:∀ {cs cs':List AV}{vs:List Value}{μ'':Mu},(∀r x,μ'' r=some x→μ r=some x)→(∀r∈cs.flatMap (vrefs h n),∀o,h[r]?=some o→o.k ≠ .dead→∀b s,μ r=some (b,s)→T b)→cs.mapM (view h n)=some cs' →
    (∀(j:Nat) (v:AV) (u:Value),cs[j]?=some v→vs[j]?=some u→Rep S w μ'' v u)→∀(j:Nat) (v:AV) (u:Value),cs'[j]?=some v→vs[j]?=some u→Rep T w Mu.none v u:=by
   intro cs cs' vs μ'' hμ'' hT' hm hrr j v u hv hu
   obtain⟨x,hx,hvx⟩:=(mapM_get hm).2 j v hv
   exact view_semR hST hH n hμ'' (fun r hr'=>hT' r (List.mem_flatMap.2 ⟨x,List.mem_of_getElem? hx,hr'⟩)) hvx (hrr j x u hx hu)
  cases a with
  |val x=>simp only [view] at hv;cases hv;rw [hr.inv_val];exact .val _
  |list fl sz es =>
   simp only [view] at hv
   cases hv
   cases hr with
   |list b off cap f hS hlen hc hr hcap hfull=>exact .list b off cap f (hST b hS) hlen hc (fun i j e v he hv=>old (hr i j e v he hv)) hcap (fun h=>by cases h)
   |nil=>exact .nil
   |empty a cap hf=>exact .empty a cap (fun h=>by cases h)
  |rop cs =>
   simp only [view] at hv
   cases hv
   cases hr with
   |rop b off f hS hc hr=>exact .rop b off f (hST b hS) hc fun j v hv=>old (hr j v hv)
  |ptr r ver i j =>
   simp only [view] at hv
   obtain⟨o,h1,hv⟩:=bind_some_iff hv
   obtain⟨_,h2,hv⟩:=bind_some_iff hv
   obtain⟨e,h3,hv⟩:=bind_some_iff hv
   have hT':∀b s,μ r=some (b,s)→T b:=hT r (by simp [vrefs]) o h1 (fun hd=>by
    rcases hH r o h1 with⟨_,x,_⟩ |⟨x,_⟩ |⟨x,_⟩
    ·rw [x] at h3;simp at h3
    ·rw [x] at hd;cases hd
    ·exact x hd)
   cases hr with
   |ptr b sz C hb =>
    have hb':=hμ _ _ hb
    obtain⟨b',vs,t,C',g1,g2,g3,g4,g5,_,g6,g7⟩:=(hH.solid h1 h3).ex
    rw [hb'] at g1
    cases g1
    have hel:=g6 i e h3
    have place:∀(cs':List AV),cs'.length=o.sz→(∀(k:Nat) (v:AV),cs'[k]?=some v→∃u,vs[i*o.sz+k]?=some u∧Rep T w Mu.none v u) →
      Rep T w Mu.none (.rop (cs'.drop j)) (.pointer (some ⟨b,i*o.sz+j,none⟩)):=by
     intro cs' hl hcs
     have hcell:CellsAt T w Mu.none b (i*o.sz) cs':=by
      refine⟨(List.range cs'.length).map fun k=>vs.getD (i*o.sz+k) undef,⟨by simp,fun k v u hv hu=> ?_⟩,fun k u hu=> ?_⟩
      ·obtain⟨x,hx,hrx⟩:=hcs k v hv
       have hk:=(List.getElem?_eq_some_iff.1 hv).1
       simp [hk] at hu
       subst hu
       simpa [Array.getD_eq_getD_getElem?,hx] using hrx
      ·have hk:=(List.getElem?_eq_some_iff.1 hu).1
       simp at hk
       obtain⟨x,hx,hrx⟩:=hcs k _ (List.getElem?_eq_getElem hk)
       simp [hk] at hu
       subst hu
       rw [cell_of_cells g2]
       simp [hx]
     exact(hcell.drop j).rop (hT' b _ hb')
    split at hv
    ·rename_i hk
     obtain⟨cs',h4,hv⟩:=bind_some_iff hv
     cases hv
     obtain⟨hl,hg⟩:=mapM_get h4
     refine place cs' (by rw [hl,hel]) fun k v hv=> ?_
     obtain⟨x,hx,hvx⟩:=hg k v hv
     obtain⟨u,hu,hru⟩:=g7 i k e x h3 hx
     exact⟨u,hu,view_semR hST hH n Ob.mu_le (fun r' hr'=>hT r' (by
      simp only [vrefs,h1,hk,List.mem_cons,List.mem_flatMap]
      exact .inr ⟨e,List.mem_of_getElem? h3,x,List.mem_of_getElem? hx,hr'⟩)) hvx hru⟩
    ·rename_i hk
     cases hv
     refine place e hel fun k v hv=> ?_
     obtain⟨u,hu,hru⟩:=g7 i k e v h3 hv
     refine⟨u,hu,old ?_⟩
     unfold Ob.mu at hru
     cases hko:o.k<;>rw [hko] at hru<;>first |exact hru |exact absurd hko hk
  |arr r ver off len =>
   simp only [view] at hv
   obtain⟨o,h1,hv⟩:=bind_some_iff hv
   obtain⟨_,h2,hv⟩:=bind_some_iff hv
   split at hv
   ·rename_i hk
    have hT':∀b s,μ r=some (b,s)→T b:=hT r (by simp [vrefs]) o h1 (by rw [hk];intro h;cases h)
    obtain⟨_,h3,hv⟩:=bind_some_iff hv
    cases hv
    have hle:off+len≤o.es.length:=by
     unfold chkLe at h3
     split at h3
     ·assumption
     ·cases h3
    cases hr with
    |anil =>
     have:(o.es.take (0+0)).drop 0=[]:=by simp
     rw [this]
     exact .nil
    |arr0 a ha =>
     have:(o.es.take (off+0)).drop off=[]:=by simp
     rw [this]
     exact .empty a 0 (fun h=>by cases h)
    |arr b cap hb hcap =>
     have hb':=hμ _ _ hb
     have hsol:ObRel S w μ r o:=by
      rcases hH r o h1 with⟨x,_⟩ |⟨_,_,x⟩ |⟨_,x⟩
      ·rw [hk] at x;cases x
      ·rw [hb'] at x;cases x
      ·exact x
     obtain⟨b',vs,t,C',g1,g2,g3,g4,g5,_,g6,g7⟩:=hsol.ex
     rw [hb'] at g1
     cases g1
     have hlen:((o.es.take (off+len)).drop off).length=len:=by simp;omega
     have get:∀(i:Nat) (e:List AV),((o.es.take (off+len)).drop off)[i]?=some e→o.es[off+i]?=some e:=by
      intro i e he
      rw [List.getElem?_drop,List.getElem?_take] at he
      split at he
      ·exact he
      ·cases he
     have cell:∀i j,i<len→j<o.sz→w.cell? ⟨b,off*o.sz+i*o.sz+j,none⟩=some (vs.getD ((off+i)*o.sz+j) undef):=by
      intro i j hi hj
      rw [cell_of_cells g2,Nat.add_mul]
      have:(off+i+1)*o.sz≤o.es.length*o.sz:=Nat.mul_le_mul_right _ (by omega)
      rw [Nat.add_mul,Nat.add_mul,Nat.one_mul] at this
      rw [Array.getD_eq_getD_getElem?,Array.getElem?_eq_getElem (by omega)]
      rfl
     have key:=Rep.list (S:=T) (w:=w) (μ:=Mu.none) (fl:=0) (sz:=o.sz) (es:=(o.es.take (off+len)).drop off) b (off*o.sz) cap (fun i j=>vs.getD ((off+i)*o.sz+j) undef) (hT' b _ hb')
      (fun e he=>by
       obtain⟨i,hi⟩:=List.mem_iff_getElem?.1 he
       exact g6 _ e (get i e hi))
      (fun i j hi hj=>cell i j (by rw [hlen] at hi;exact hi) hj)
      (fun i j e v he hv=>by
       obtain⟨u,hu,hru⟩:=g7 _ j e v (get i e he) hv
       rw [Array.getD_eq_getD_getElem?,hu]
       simp only [Option.getD_some]
       refine old ?_
       unfold Ob.mu at hru
       rw [hk] at hru
       exact hru)
      (by rw [hlen];exact hcap) (fun h=>by cases h)
     rw [hlen] at key
     exact key
   ·rename_i hk
    have hT':∀b s,μ r=some (b,s)→T b:=hT r (by simp [vrefs]) o h1 (by rw [hk];intro h;cases h)
    obtain⟨_,h3,hv⟩:=bind_some_iff hv
    cases hv
    have hle:off+len≤o.es.length:=by
     unfold chkLe at h3
     split at h3
     ·assumption
     ·cases h3
    cases hr with
    |anil =>
     have:(o.es.take (0+0)).drop 0=[]:=by simp
     rw [this]
     exact .nil
    |arr0 a ha =>
     have:(o.es.take (off+0)).drop off=[]:=by simp
     rw [this]
     exact .empty a 0 (fun h=>by cases h)
    |arr b cap hb hcap =>
     have hb':=hμ _ _ hb
     have hsol:ObRel S w μ r o:=by
      rcases hH r o h1 with⟨x,_⟩ |⟨x,_⟩ |⟨_,x⟩
      ·rw [hk] at x;cases x
      ·rw [hk] at x;cases x
      ·exact x
     obtain⟨b',vs,t,C',g1,g2,g3,g4,g5,_,g6,g7⟩:=hsol.ex
     rw [hb'] at g1
     cases g1
     have hlen:((o.es.take (off+len)).drop off).length=len:=by simp;omega
     have get:∀(i:Nat) (e:List AV),((o.es.take (off+len)).drop off)[i]?=some e→o.es[off+i]?=some e:=by
      intro i e he
      rw [List.getElem?_drop,List.getElem?_take] at he
      split at he
      ·exact he
      ·cases he
     have cell:∀i j,i<len→j<o.sz→w.cell? ⟨b,off*o.sz+i*o.sz+j,none⟩=some (vs.getD ((off+i)*o.sz+j) undef):=by
      intro i j hi hj
      rw [cell_of_cells g2,Nat.add_mul]
      have:(off+i+1)*o.sz≤o.es.length*o.sz:=Nat.mul_le_mul_right _ (by omega)
      rw [Nat.add_mul,Nat.add_mul,Nat.one_mul] at this
      rw [Array.getD_eq_getD_getElem?,Array.getElem?_eq_getElem (by omega)]
      rfl
     have key:=Rep.list (S:=T) (w:=w) (μ:=Mu.none) (fl:=0) (sz:=o.sz) (es:=(o.es.take (off+len)).drop off) b (off*o.sz) cap (fun i j=>vs.getD ((off+i)*o.sz+j) undef) (hT' b _ hb')
      (fun e he=>by
       obtain⟨i,hi⟩:=List.mem_iff_getElem?.1 he
       exact g6 _ e (get i e hi))
      (fun i j hi hj=>cell i j (by rw [hlen] at hi;exact hi) hj)
      (fun i j e v he hv=>by
       obtain⟨u,hu,hru⟩:=g7 _ j e v (get i e he) hv
       rw [Array.getD_eq_getD_getElem?,hu]
       simp only [Option.getD_some]
       refine old ?_
       unfold Ob.mu at hru
       rw [hk] at hru
       exact hru)
      (by rw [hlen];exact hcap) (fun h=>by cases h)
     rw [hlen] at key
     exact key
   ·cases hv
  |agg cs =>
   simp only [view] at hv
   obtain⟨cs',h1,hv⟩:=bind_some_iff hv
   cases hv
   cases hr with
   |agg vs hl hr =>
    refine .agg vs (by rw [(mapM_get h1).1];exact hl) fun j v u hv hu=>many (vs:=vs.toList) hμ hT h1 (fun j v u hv hu=>hr j v u hv (by simpa using hu)) j v u hv (by simpa using hu)
  |tuple cs =>
   simp only [view] at hv
   obtain⟨cs',h1,hv⟩:=bind_some_iff hv
   cases hv
   cases hr with
   |tuple vs hl hr =>
    refine .tuple vs (by rw [(mapM_get h1).1];exact hl) fun j v u hv hu=>many (vs:=vs.toList) hμ hT h1 (fun j v u hv hu=>hr j v u hv (by simpa using hu)) j v u hv (by simpa using hu)
  |iface t x =>
   simp only [view] at hv
   obtain⟨x',h1,hv⟩:=bind_some_iff hv
   cases hv
   cases hr with
   |iface hx=>exact .iface (view_semR hST hH n hμ hT h1 hx)
  |func fn fs cs =>
   simp only [view] at hv
   obtain⟨fs',h1,hv⟩:=bind_some_iff hv
   obtain⟨cs',h2,hv⟩:=bind_some_iff hv
   cases hv
   cases hr with
   |func us vs hu hl hf hr =>
    have t1:∀r∈fs.flatMap (vrefs h n),∀o,h[r]?=some o→o.k ≠ .dead→∀b s,μ r=some (b,s)→T b:=fun r hr'=>hT r (List.mem_append.2 (.inl hr'))
    have t2:∀r∈cs.flatMap (vrefs h n),∀o,h[r]?=some o→o.k ≠ .dead→∀b s,μ r=some (b,s)→T b:=fun r hr'=>hT r (List.mem_append.2 (.inr hr'))
    exact .func us vs (by rw [(mapM_get h1).1];exact hu) (by rw [(mapM_get h2).1];exact hl)
     (fun j v u hv hu=>many (vs:=us.toList) hμ t1 h1 (fun j v u hv hu=>hf j v u hv (by simpa using hu)) j v u hv (by simpa using hu))
     (fun j v u hv hu=>many (vs:=vs.toList) hμ t2 h2 (fun j v u hv hu=>hr j v u hv (by simpa using hu)) j v u hv (by simpa using hu))
theorem viewArg_semR {T:Nat→Prop}(hST:∀b,S b→T b) (hH:HRel S w μ h) {a a':AV}{v:Value}(hT:∀r∈vrefs h 5 a,∀o,h[r]?=some o→o.k ≠ .dead→∀b s,μ r=some (b,s)→T b) (hv:viewArg h a=some a') (hr:Rep S w μ a v):Rep T w Mu.none a' v:=by
 obtain⟨x,h1,h2⟩:=bind_some_iff hv
 cases h2
 exact wk_wk x _ _ _ _ (view_semR hST hH 5 (fun _ _ h=>h) hT h1 hr)
theorem viewArgs_semR {T:Nat→Prop}(hST:∀b,S b→T b) (hH:HRel S w μ h):∀ {as as':List AV}{vs:List Value},(∀r∈as.flatMap (vrefs h 5),∀o,h[r]?=some o→o.k ≠ .dead→∀b s,μ r=some (b,s)→T b)→viewArgs h as=some as'→Reps S w μ as vs→Reps T w Mu.none as' vs
 | [],as',vs,hT,hv,hr=>by cases hv;rw [hr.inv_nil];exact .nil
 |a::as,as',vs,hT,hv,hr=>by
  simp only [viewArgs] at hv
  obtain⟨x,h1,hv⟩:=bind_some_iff hv
  obtain⟨xs,h2,hv⟩:=bind_some_iff hv
  cases hv
  obtain⟨v,r,rfl,h3,h4⟩:=hr.inv_cons
  simp only [List.flatMap_cons,List.mem_append] at hT
  exact(viewArgs_semR hST hH (fun r hr'=>hT r (.inr hr')) h2 h4).cons (viewArg_semR hST hH (fun r hr'=>hT r (.inl hr')) h1 h3)
theorem St.freezeRo (st:St cx K N S μ env h tmps w) {r:Nat}{o:Ob}(hr:h[r]?=some o) (hk:o.k = .arr) (he:o.es≠[]):St cx K N (frz S μ r) μ env (h.set r { o with k := .ro }) tmps w:=by
 have hS:∀b,S b→frz S μ r b:=fun b hb => .inl hb
 have hlt:=(List.getElem?_eq_some_iff.1 hr).1
 have hal:∀r',alive (h.set r { o with k := .ro }) r'→alive h r':=fun r' ha o' ho' hd=>by
  by_cases hrr:r=r'
  ·subst hrr
   rw [hr] at ho'
   cases ho'
   rw [hk] at hd
   cases hd
  ·exact ha o' (by rw [List.getElem?_set_ne hrr];exact ho') hd
 have har:alive h r:=fun o' ho' hd=>by rw [hr] at ho';cases ho';rw [hk] at hd;cases hd
 refine⟨st.size,fun t v ht=>(st.env t v ht).mono hS (fun _ _=>rfl) (fun _ _ h=>h),fun g cs hg=>(st.g g cs hg).mono hS (fun _ _=>rfl) (fun _ _ h=>h),fun r' o' ho'=> ?_,fun a a' b s s' h1 h2 h3 h4=>st.inj a a' b s s' h1 h2 (hal a h3) (hal a' h4),fun a x hx=>by rw [List.length_set];exact st.dom a x hx,st.own,fun b hb => .inl (st.s0 b hb),fun b hb=> ?_,fun b hb=> ?_,st.frame,st.le,st.os,st.tape,st.output,st.fix⟩
 ·by_cases hrr:r=r'
  ·subst hrr
   rw [List.getElem?_set_self hlt] at ho'
   cases ho'
   rcases st.heap r o hr with⟨h3,_⟩ |⟨_,h3,_⟩ |⟨_,⟨b,vs,t,C,k1,k2,k3,k4,k5,k6,k7,k8⟩⟩
   ·rw [hk] at h3;cases h3
   ·exact absurd h3 he
   ·refine .inr (.inr ⟨fun h=>(by cases h),⟨b,vs,t,C,k1,k2,fun _ => .inr ⟨_,k1⟩,fun hro=>absurd rfl hro,k5,fun h=>(by cases h),k7,fun i j e v he hv=> ?_⟩⟩)
    obtain⟨u,hu,hrep⟩:=k8 i j e v he hv
    refine⟨u,hu,?_⟩
    unfold Ob.mu at hrep ⊢
    rw [hk] at hrep
    exact hrep.mono hS (fun _ _=>rfl) (fun _ _ h=>h)
  ·rw [List.getElem?_set_ne hrr] at ho'
   rcases st.heap r' o' ho' with h3 |h3 |⟨h3,⟨b,vs,t,C,k1,k2,k3,k4,k5,k6,k7,k8⟩⟩
   ·exact .inl h3
   ·exact .inr (.inl h3)
   ·refine .inr (.inr ⟨h3,⟨b,vs,t,C,k1,k2,fun hro => .inl (k3 hro),fun hro hb=> ?_,k5,k6,k7,fun i j e v he hv=> ?_⟩⟩)
    ·rcases hb with hb |⟨s,hb⟩
     ·exact k4 hro hb
     ·have halr:alive h r':=fun o1 ho1 hd=>by rw [ho'] at ho1;cases ho1;exact h3 hd
      exact hrr (by rw [st.inj r r' b s _ hb k1 har halr])
    ·obtain⟨u,hu,hrep⟩:=k8 i j e v he hv
     exact⟨u,hu,hrep.mono hS (fun _ _=>rfl) (fun _ _ h=>h)⟩
 ·rcases hb with hb |⟨s,hb⟩
  ·exact st.snew b hb
  ·rcases st.own r b s hb with h1 |h1
   ·exact .inr (.inl h1)
   ·exact .inr (.inr h1)
 ·rcases hb with hb |⟨s,hb⟩
  ·exact st.slt b hb
  ·exact st.lt hb
theorem thawC_all (st:St cx K N S μ env h tmps w) {v v':AV}{h':Heap}(ht:thawC h v=some (h',v')):∃S',St cx K N S' μ env h' tmps w∧(∀b,S b→S' b)∧∀u,Rep S w μ v u→Rep S' w μ v' u:=by
 unfold thawC at ht
 split at ht
 ·rename_i r ver off len
  obtain⟨o,h1,ht⟩:=bind_some_iff ht
  obtain⟨_,h2,ht⟩:=bind_some_iff ht
  cases hb:Nat.beq o.es.length 0 with
  |true=>rw [hb] at ht;cases ht
  |false =>
   rw [hb,cond_false] at ht
   have hes:o.es≠[]:=fun h=>by rw [h] at hb;cases hb
   have vw:∀(x:AV),view h 1 (.arr r ver off len)=some x→∀(T:Nat→Prop),(∀b,S b→T b)→(∀b s,μ r=some (b,s)→T b)→∀u,Rep S w μ (.arr r ver off len) u→Rep T w μ x u:=fun x hx T hST hT u hr =>
    (view_semR hST st.heap 1 (fun _ _ h=>h) (fun r' hr' o' ho' hd b s hb=>by
     have:r'=r:=by simpa [vrefs] using hr'
     subst this
     exact hT b s hb) hx hr).of_none
   split at ht
   ·rename_i hk
    obtain⟨_,h3,ht⟩:=bind_some_iff ht
    cases ht
    refine⟨_,st.freezeRo h1 hk hes,fun b hb => .inl hb,vw _ ?_ _ (fun b hb => .inl hb) fun b s hb => .inr ⟨s,hb⟩⟩
    simp only [view,h1,h2,h3,hk,Option.bind_some]
   ·rename_i hk
    obtain⟨_,h3,ht⟩:=bind_some_iff ht
    cases ht
    have hsb:∀b s,μ r=some (b,s)→S b:=fun b s hb'=>by
     rcases st.heap r o h1 with⟨x,_⟩ |⟨x,_⟩ |⟨_,⟨b2,vs,t,C,k1,k2,k3,_⟩⟩
     ·rw [hk] at x;cases x
     ·rw [hk] at x;cases x
     ·rw [hb'] at k1
      cases k1
      exact k3 hk
    refine⟨S,st,fun b hb=>hb,vw _ ?_ _ (fun b hb=>hb) hsb⟩
    simp only [view,h1,h2,h3,hk,Option.bind_some]
   ·cases ht
 ·cases ht
  exact⟨S,st,fun b hb=>hb,fun u hr=>hr⟩
theorem thawC_sem (st:St cx K N S μ env h tmps w) {v v':AV}{u:Value}{h':Heap}(hr:Rep S w μ v u) (ht:thawC h v=some (h',v')):∃S',St cx K N S' μ env h' tmps w∧(∀b,S b→S' b)∧Rep S' w μ v' u:=by
 obtain⟨S',h1,h2,h3⟩:=thawC_all st ht
 exact⟨S',h1,h2,h3 u hr⟩
theorem St.cell (st:St cx K N S μ env h tmps w) {b j:Nat}{o:Ob}{cs:List AV}{x x':AV}(ho:h[b]?=some o) (hk:o.k = .box) (he:o.es=[cs]) (hx:cs[j]?=some x) (hr:∀u,Rep S w μ x u→Rep S w μ x' u):St cx K N S μ env (h.set b { o with es:=[cs.set j x'] }) tmps w:=by
 have hlt:=(List.getElem?_eq_some_iff.1 ho).1
 have hal:∀r',alive (h.set b { o with es:=[cs.set j x'] }) r'→alive h r':=fun r' ha o' ho' hd=>by
  by_cases hrr:b=r'
  ·subst hrr
   rw [ho] at ho'
   cases ho'
   rw [hk] at hd
   cases hd
  ·exact ha o' (by rw [List.getElem?_set_ne hrr];exact ho') hd
 refine⟨st.size,st.env,st.g,fun r' o' ho'=> ?_,fun a a' b s s' h1 h2 h3 h4=>st.inj a a' b s s' h1 h2 (hal a h3) (hal a' h4),fun a x hx=>by rw [List.length_set];exact st.dom a x hx,st.own,st.s0,st.snew,st.slt,st.frame,st.le,st.os,st.tape,st.output,st.fix⟩
 by_cases hrr:b=r'
 ·subst hrr
  rw [List.getElem?_set_self hlt] at ho'
  cases ho'
  rcases st.heap b o ho with⟨h3,_⟩ |⟨h3,_⟩ |⟨h3,⟨b2,vs,t,C,k1,k2,k3,k4,k5,k6,k7,k8⟩⟩
  ·rw [hk] at h3;cases h3
  ·rw [hk] at h3;cases h3
  ·refine .inr (.inr ⟨h3,⟨b2,vs,t,C,k1,k2,k3,k4,by rw [he] at k5;exact k5,k6,fun i e hi=> ?_,fun i j' e v hi hv=> ?_⟩⟩)
   ·match i,hi with
    | 0,hi =>
     cases hi
     rw [List.length_set]
     exact k7 0 cs (by rw [he];rfl)
   ·match i,hi with
    | 0,hi =>
     cases hi
     rw [List.getElem?_set] at hv
     split at hv
     ·rename_i hj
      split at hv
      ·cases hv
       subst hj
       obtain⟨u,hu,hrep⟩:=k8 0 j cs x (by rw [he];rfl) hx
       refine⟨u,hu,?_⟩
       unfold Ob.mu at hrep ⊢
       rw [hk] at hrep
       simp only [hk]
       exact hr u hrep
      ·cases hv
     ·exact k8 0 j' cs v (by rw [he];rfl) hv
 ·rw [List.getElem?_set_ne hrr] at ho'
  exact st.heap r' o' ho'
theorem rep_arr {S':Nat→Prop}{r ver off len:Nat}{u:Value}(h:Rep S w μ (.arr r ver off len) u):Rep S' w μ (.arr r ver off len) u:=by
 cases h with
 |arr0 a h=>exact .arr0 a h
 |anil=>exact .anil
 |arr b cap h hcap=>exact .arr b cap h hcap
theorem thawC_same {v v':AV}{h':Heap}(ht:thawC h v=some (h',v')):(∃r ver off len,v = .arr r ver off len)∨(v'=v∧h'=h):=by
 unfold thawC at ht
 split at ht
 ·exact .inl ⟨_,_,_,_,rfl⟩
 ·cases ht;exact .inr ⟨rfl,rfl⟩
theorem thawC_box {v v':AV}{h':Heap}{b:Nat}{o:Ob}(ht:thawC h v=some (h',v')) (ho:h[b]?=some o) (hk:o.k = .box):h'[b]?=some o:=by
 unfold thawC at ht
 split at ht
 ·rename_i r ver off len
  obtain⟨o2,h1,ht⟩:=bind_some_iff ht
  obtain⟨_,h2,ht⟩:=bind_some_iff ht
  cases hb:Nat.beq o2.es.length 0 with
  |true=>rw [hb] at ht;cases ht
  |false =>
   rw [hb,cond_false] at ht
   split at ht
   ·rename_i hk2
    obtain⟨_,h3,ht⟩:=bind_some_iff ht
    cases ht
    have:r≠b:=fun e=>by
     subst e
     rw [ho] at h1
     cases h1
     rw [hk] at hk2
     cases hk2
    rw [List.getElem?_set_ne this]
    exact ho
   ·obtain⟨_,h3,ht⟩:=bind_some_iff ht
    cases ht
    exact ho
   ·cases ht
 ·cases ht;exact ho
theorem thawB_sem:∀ {l:List (Nat×Nat)}{S:Nat→Prop}{h h':Heap},St cx K N S μ env h tmps w→thawB env l h some=some h'→∃S',St cx K N S' μ env h' tmps w
 | [],S,h,h',st,ht=>by
  cases ht
  exact⟨S,st⟩
 | (s,j)::r,S,h,h',st,ht=>by
  simp only [thawB] at ht
  obtain⟨v,h1,ht⟩:=bind_some_iff ht
  split at ht
  ·rename_i b ver i k
   obtain⟨o,h2,ht⟩:=bind_some_iff ht
   split at ht
   ·rename_i hk
    split at ht
    ·rename_i cs he
     obtain⟨x,h3,ht⟩:=bind_some_iff ht
     obtain⟨⟨h4,x'⟩,h5,ht⟩:=bind_some_iff ht
     obtain⟨S1,st1,g1,g2⟩:=thawC_all st h5
     refine thawB_sem (st1.cell (thawC_box h5 h2 hk) hk he h3 fun u hu=> ?_) ht
     rcases thawC_same h5 with⟨a,b',c,d,rfl⟩ |⟨e1,_⟩
     ·exact g2 u (rep_arr hu)
     ·rw [e1];exact hu
    ·cases ht
   ·cases ht
  ·cases ht
theorem Reps.mono' {S S':Nat→Prop}{cs:List AV}{us:List Value}(h:Reps S w μ cs us) (hS:∀b,S b→S' b):Reps S' w μ cs us:=⟨h.1,fun j v u hv hu=>(h.2 j v u hv hu).mono hS (fun _ _=>rfl) fun _ _ h=>h⟩
theorem thawCs_sem:∀ {cs cs':List AV}{us:List Value}{S:Nat→Prop}{h h':Heap},St cx K N S μ env h tmps w→Reps S w μ cs us→thawCs h cs=some (h',cs') →
  ∃S',St cx K N S' μ env h' tmps w∧(∀b,S b→S' b)∧Reps S' w μ cs' us
 | [],cs',us,S,h,h',st,hr,ht=>by
  cases ht
  exact⟨S,st,fun b hb=>hb,hr⟩
 |c::cs,cs',us,S,h,h',st,hr,ht=>by
  simp only [thawCs] at ht
  obtain⟨⟨h1,v⟩,h2,ht⟩:=bind_some_iff ht
  obtain⟨⟨h3,vs⟩,h4,ht⟩:=bind_some_iff ht
  cases ht
  obtain⟨u,r,rfl,h5,h6⟩:=hr.inv_cons
  obtain⟨S1,st1,g1,g2⟩:=thawC_sem st h5 h2
  obtain⟨S2,st2,g3,g4⟩:=thawCs_sem st1 (Reps.mono' h6 g1) h4
  exact⟨S2,st2,fun b hb=>g3 b (g1 b hb),g4.cons (g2.mono g3 (fun _ _=>rfl) fun _ _ h=>h)⟩
theorem thawV_sem (st:St cx K N S μ env h tmps w) {v v':AV}{u:Value}{h':Heap}(hr:Rep S w μ v u) (ht:thawV h v=some (h',v')):∃S',St cx K N S' μ env h' tmps w∧(∀b,S b→S' b)∧Rep S' w μ v' u:=by
 unfold thawV at ht
 split at ht
 ·rename_i cs
  obtain⟨⟨h1,cs'⟩,h2,ht⟩:=bind_some_iff ht
  cases ht
  cases hr with
  |agg vs hl hr =>
   obtain⟨S',g1,g2,g3⟩:=thawCs_sem st (us:=vs.toList) ⟨by simpa using hl,fun j v u hv hu=>hr j v u hv (by simpa using hu)⟩ h2
   exact⟨S',g1,g2,.agg vs (by simpa using g3.1) fun j v u hv hu=>g3.2 j v u hv (by simpa using hu)⟩
 ·exact thawC_sem st hr ht
theorem thawPs_sem:∀ {ps ps':List (Nat×AV)}{qs:List (Nat×Value)}{S:Nat→Prop}{h h':Heap},St cx K N S μ env h tmps w→qs.length=ps.length →
  (∀(j:Nat) (p:Nat×AV) (q:Nat×Value),ps[j]?=some p→qs[j]?=some q→q.1=p.1∧Rep S w μ p.2 q.2)→thawPs h ps=some (h',ps') →
  ∃S',St cx K N S' μ env h' tmps w∧(∀b,S b→S' b)∧qs.length=ps'.length∧∀(j:Nat) (p:Nat×AV) (q:Nat×Value),ps'[j]?=some p→qs[j]?=some q→q.1=p.1∧Rep S' w μ p.2 q.2
 | [],ps',qs,S,h,h',st,hl,hp,ht=>by
  cases ht
  exact⟨S,st,fun b hb=>hb,hl,hp⟩
 |c::ps,ps',[],S,h,h',st,hl,hp,ht=>by simp at hl
 |c::ps,ps',q::qs,S,h,h',st,hl,hp,ht=>by
  simp only [thawPs] at ht
  obtain⟨⟨h1,v⟩,h2,ht⟩:=bind_some_iff ht
  obtain⟨⟨h3,vs⟩,h4,ht⟩:=bind_some_iff ht
  cases ht
  obtain⟨e1,e2⟩:=hp 0 c q rfl rfl
  obtain⟨S1,st1,g1,g2⟩:=thawV_sem st e2 h2
  obtain⟨S2,st2,g3,g4,g5⟩:=thawPs_sem (qs:=qs) st1 (by simpa using hl) (fun j p q hj hq=>by
   obtain⟨f1,f2⟩:=hp (j+1) p q (by simpa using hj) (by simpa using hq)
   exact⟨f1,f2.mono g1 (fun _ _=>rfl) fun _ _ h=>h⟩) h4
  refine⟨S2,st2,fun b hb=>g3 b (g1 b hb),by simp [g4],fun j p q' hj hq=> ?_⟩
  cases j with
  |zero =>
   simp at hj hq
   subst hj hq
   exact⟨e1,g2.mono g3 (fun _ _=>rfl) fun _ _ h=>h⟩
  |succ j=>exact g5 j p q' (by simpa using hj) (by simpa using hq)
theorem St.freezeL:∀ {rs:List Nat}{S:Nat→Prop}{h:Heap},St cx K N S μ env h tmps w→∃S',St cx K N S' μ env (killA h rs) tmps w∧(∀b,S b→S' b)∧∀r∈rs,∀o,h[r]?=some o→o.k ≠ .dead→∀b s,μ r=some (b,s)→S' b
 | [],S,h,st=>⟨S,st,fun _ h=>h,fun r hr=>by cases hr⟩
 |r::rs,S,h,st=>by
  unfold killA
  cases hr:h[r]? with
  |none =>
   obtain⟨S',h1,h2,h3⟩:=freezeL (rs:=rs) st
   refine⟨S',h1,h2,fun r' hr' o ho=> ?_⟩
   rcases List.mem_cons.1 hr' with rfl |hr'
   ·rw [hr] at ho;cases ho
   ·exact h3 r' hr' o ho
  |some o =>
   have dead:o.k = .dead→∃S',St cx K N S' μ env (killA h rs) tmps w∧(∀b,S b→S' b)∧∀r'∈r::rs,∀o,h[r']?=some o→o.k ≠ .dead→∀b s,μ r'=some (b,s)→S' b:=fun hd=>by
    obtain⟨S',h1,h2,h3⟩:=freezeL (rs:=rs) st
    refine⟨S',h1,h2,fun r' hr' o' ho hk=> ?_⟩
    rcases List.mem_cons.1 hr' with rfl |hr'
    ·rw [hr] at ho;cases ho;exact absurd hd hk
    ·exact h3 r' hr' o' ho hk
   have live:o.k ≠ .dead→∃S',St cx K N S' μ env (killA (killH h (some r)) rs) tmps w∧(∀b,S b→S' b)∧∀r'∈r::rs,∀o,h[r']?=some o→o.k ≠ .dead→∀b s,μ r'=some (b,s)→S' b:=fun hd=>by
    obtain⟨S',h1,h2,h3⟩:=freezeL (rs:=rs) (st.freeze hr hd)
    refine⟨S',h1,fun b hb=>h2 b (.inl hb),fun r' hr' o' ho hk b s hb=> ?_⟩
    by_cases hrr:r'=r
    ·subst hrr
     exact h2 b (.inr ⟨s,hb⟩)
    ·rcases List.mem_cons.1 hr' with h4 |hr'
     ·exact absurd h4 hrr
     ·refine h3 r' hr' o' ?_ hk b s hb
      have e:killH h (some r)=h.set r { o with k := .dead,es:=[] }:=by
       show(match h[r]? with |some o=>h.set r { o with k := .dead,es:=[] } |none=>h)=_
       rw [hr]
      rw [e,List.getElem?_set_ne (fun h=>hrr h.symm)]
      exact ho
   simp only
   cases hk:o.k with
   |dead=>exact dead hk
   | _=>exact live (by rw [hk];intro h;cases h)
end
end Go.Proofs.Av
