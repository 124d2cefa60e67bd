/- Views of arguments, calls, single operations, regions in the order of the text. -/
import Derived.Test.YtoepfmodbhfckaaAzJe
namespace Go.Proofs.Av
open Go
open List renaming getElem?_eq_some_iff→γ
open List renaming getElem?_eq_getElem→η
open Nat renaming eq_of_beq_eq_true→ε
theorem mapM_get {α β:Type}{f:α→Option β}:∀ {xs:List α}{ys:List β},xs.mapM f=some ys→ys.length=xs.length∧∀(j:Nat) (y:β),ys[j]?=some y→∃x,xs[j]?=some x∧f x=some y
 | [],ys,h=>by simp at h;subst h;exact⟨rfl,fun j y h=>by simp at h⟩
 |x::xs,ys,h=>by
  simp only [List.mapM_cons,Option.pure_def,Option.bind_eq_bind] at h
  obtain⟨y,h1,h⟩:=bind_some_iff h
  obtain⟨r,h2,h⟩:=bind_some_iff h
  cases h
  obtain⟨h3,h4⟩:=mapM_get h2
  refine⟨by simp [h3],fun j z hz=> ?_⟩
  cases j with
  |zero=>simp at hz;subst hz;exact⟨x,rfl,h1⟩
  |succ j=>exact h4 j z (by simpa using hz)
section
variable {cx:Cx}{K:Kf}{N:Nat}{S:Nat→Prop}{μ:Mu}{env:Env}{h:Heap}{tmps:Array Value}{w:World}
theorem view_sem {T:Nat→Prop}(hST:∀b,S b→T b) (hH:HRel S w μ h):∀(n:Nat) {a a':AV}{v:Value}{μ':Mu},(∀r x,μ' r=some x→μ r=some x) →
  (refless n a=true∨∀r b s,μ r=some (b,s)→T b)→view h n a=some a'→Rep S w μ' a v→Rep T w Mu.none a' v
 | 0,a,a',v,μ',hμ,hT,hv,hr=>by cases hv
 |n+1,a,a',v,μ',hμ,hT,hv,hr=>by
  have old:∀ {x:AV}{u:Value},Rep S w Mu.none x u→Rep T w Mu.none x u:=fun hr=>hr.mono hST (fun _ _=>rfl) fun _ _ h=>h
  have many:∀ {cs cs':List AV}{vs:List Value}{μ'':Mu},(∀r x,μ'' r=some x→μ r=some x)→(cs.all (refless n)=true∨∀r b s,μ r=some (b,s)→T b)→cs.mapM (view h n)=some cs' →
    (∀(j:Nat) (v:AV) (u:Value),cs[j]?=some v→vs[j]?=some u→Rep S w μ'' v u)→∀(j:Nat) (v:AV) (u:Value),cs'[j]?=some v→vs[j]?=some u→Rep T w Mu.none v u:=by
   intro cs cs' vs μ'' hμ'' hT' hm hrr j v u hv hu
   obtain⟨x,hx,hvx⟩:=(mapM_get hm).2 j v hv
   refine view_sem hST hH n hμ'' ?_ hvx (hrr j x u hx hu)
   rcases hT' with h |h
   ·exact .inl (List.all_eq_true.1 h x (List.mem_of_getElem? hx))
   ·exact .inr h
  cases a with
  |val x=>simp only [view] at hv;cases hv;rw [hr.inv_val];exact .val _
  |list fl sz es =>
   simp only [view] at hv
   cases hv
   cases hr with
   |list b off cap f hS hlen hc hr hcap hfull=>exact .list b off cap f (hST b hS) hlen hc (fun i j e v he hv=>old (hr i j e v he hv)) hcap (fun h=>by cases h)
   |nil=>exact .nil
   |empty a cap hf=>exact .empty a cap (fun h=>by cases h)
  |rop cs =>
   simp only [view] at hv
   cases hv
   cases hr with
   |rop b off f hS hc hr=>exact .rop b off f (hST b hS) hc fun j v hv=>old (hr j v hv)
  |ptr r ver i j =>
   have hT':∀r b s,μ r=some (b,s)→T b:=by
    rcases hT with h |h
    ·simp [refless] at h
    ·exact h
   simp only [view] at hv
   obtain⟨o,h1,hv⟩:=bind_some_iff hv
   obtain⟨_,h2,hv⟩:=bind_some_iff hv
   obtain⟨e,h3,hv⟩:=bind_some_iff hv
   cases hr with
   |ptr b sz C hb =>
    have hb':=hμ _ _ hb
    obtain⟨b',vs,t,C',g1,g2,g3,g4,g5,_,g6,g7⟩:=(hH.solid h1 h3).ex
    rw [hb'] at g1
    cases g1
    have hel:=g6 i e h3
    have place:∀(cs':List AV),cs'.length=o.sz→(∀(k:Nat) (v:AV),cs'[k]?=some v→∃u,vs[i*o.sz+k]?=some u∧Rep T w Mu.none v u) →
      Rep T w Mu.none (.rop (cs'.drop j)) (.pointer (some ⟨b,i*o.sz+j,none⟩)):=by
     intro cs' hl hcs
     have hcell:CellsAt T w Mu.none b (i*o.sz) cs':=by
      refine⟨(List.range cs'.length).map fun k=>vs.getD (i*o.sz+k) undef,⟨by simp,fun k v u hv hu=> ?_⟩,fun k u hu=> ?_⟩
      ·obtain⟨x,hx,hrx⟩:=hcs k v hv
       have hk:=(γ.1 hv).1
       simp [hk] at hu
       subst hu
       simpa [Array.getD_eq_getD_getElem?,hx] using hrx
      ·have hk:=(γ.1 hu).1
       simp at hk
       obtain⟨x,hx,hrx⟩:=hcs k _ (η hk)
       simp [hk] at hu
       subst hu
       rw [cell_of_cells g2]
       simp [hx]
     exact(hcell.drop j).rop (hT' r b _ hb')
    split at hv
    ·rename_i hk
     obtain⟨cs',h4,hv⟩:=bind_some_iff hv
     cases hv
     obtain⟨hl,hg⟩:=mapM_get h4
     refine place cs' (by rw [hl,hel]) fun k v hv=> ?_
     obtain⟨x,hx,hvx⟩:=hg k v hv
     obtain⟨u,hu,hru⟩:=g7 i k e x h3 hx
     exact⟨u,hu,view_sem hST hH n Ob.mu_le (.inr hT') hvx hru⟩
    ·rename_i hk
     cases hv
     refine place e hel fun k v hv=> ?_
     obtain⟨u,hu,hru⟩:=g7 i k e v h3 hv
     refine⟨u,hu,old ?_⟩
     unfold Ob.mu at hru
     cases hko:o.k<;>rw [hko] at hru<;>first |exact hru |exact absurd hko hk
  |arr r ver off len =>
   have hT':∀r b s,μ r=some (b,s)→T b:=by
    rcases hT with h |h
    ·simp [refless] at h
    ·exact h
   simp only [view] at hv
   obtain⟨o,h1,hv⟩:=bind_some_iff hv
   obtain⟨_,h2,hv⟩:=bind_some_iff hv
   split at hv
   ·rename_i hk
    obtain⟨_,h3,hv⟩:=bind_some_iff hv
    cases hv
    have hle:off+len≤o.es.length:=by
     unfold chkLe at h3
     split at h3
     ·assumption
     ·cases h3
    cases hr with
    |anil =>
     have:(o.es.take (0+0)).drop 0=[]:=by simp
     rw [this]
     exact .nil
    |arr0 a ha =>
     have:(o.es.take (off+0)).drop off=[]:=by simp
     rw [this]
     exact .empty a 0 (fun h=>by cases h)
    |arr b cap hb hcap =>
     have hb':=hμ _ _ hb
     have hsol:ObRel S w μ r o:=by
      rcases hH r o h1 with⟨x,_⟩ |⟨_,_,x⟩ |⟨_,x⟩
      ·rw [hk] at x;cases x
      ·rw [hb'] at x;cases x
      ·exact x
     obtain⟨b',vs,t,C',g1,g2,g3,g4,g5,_,g6,g7⟩:=hsol.ex
     rw [hb'] at g1
     cases g1
     have hlen:((o.es.take (off+len)).drop off).length=len:=by simp;omega
     have get:∀(i:Nat) (e:List AV),((o.es.take (off+len)).drop off)[i]?=some e→o.es[off+i]?=some e:=by
      intro i e he
      rw [List.getElem?_drop,List.getElem?_take] at he
      split at he
      ·exact he
      ·cases he
     have cell:∀i j,i<len→j<o.sz→w.cell? ⟨b,off*o.sz+i*o.sz+j,none⟩=some (vs.getD ((off+i)*o.sz+j) undef):=by
      intro i j hi hj
      rw [cell_of_cells g2,Nat.add_mul]
      have:(off+i+1)*o.sz≤o.es.length*o.sz:=Nat.mul_le_mul_right _ (by omega)
      rw [Nat.add_mul,Nat.add_mul,Nat.one_mul] at this
      rw [Array.getD_eq_getD_getElem?,Array.getElem?_eq_getElem (by omega)]
      rfl
     have key:=Rep.list (S:=T) (w:=w) (μ:=Mu.none) (fl:=0) (sz:=o.sz) (es:=(o.es.take (off+len)).drop off) b (off*o.sz) cap (fun i j=>vs.getD ((off+i)*o.sz+j) undef) (hT' r b _ hb')
      (fun e he=>by
       obtain⟨i,hi⟩:=List.mem_iff_getElem?.1 he
       exact g6 _ e (get i e hi))
      (fun i j hi hj=>cell i j (by rw [hlen] at hi;exact hi) hj)
      (fun i j e v he hv=>by
       obtain⟨u,hu,hru⟩:=g7 _ j e v (get i e he) hv
       rw [Array.getD_eq_getD_getElem?,hu]
       simp only [Option.getD_some]
       refine old ?_
       unfold Ob.mu at hru
       rw [hk] at hru
       exact hru)
      (by rw [hlen];exact hcap) (fun h=>by cases h)
     rw [hlen] at key
     exact key
   ·rename_i hk
    obtain⟨_,h3,hv⟩:=bind_some_iff hv
    cases hv
    have hle:off+len≤o.es.length:=by
     unfold chkLe at h3
     split at h3
     ·assumption
     ·cases h3
    cases hr with
    |anil =>
     have:(o.es.take (0+0)).drop 0=[]:=by simp
     rw [this]
     exact .nil
    |arr0 a ha =>
     have:(o.es.take (off+0)).drop off=[]:=by simp
     rw [this]
     exact .empty a 0 (fun h=>by cases h)
    |arr b cap hb hcap =>
     have hb':=hμ _ _ hb
     have hsol:ObRel S w μ r o:=by
      rcases hH r o h1 with⟨x,_⟩ |⟨x,_⟩ |⟨_,x⟩
      ·rw [hk] at x;cases x
      ·rw [hk] at x;cases x
      ·exact x
     obtain⟨b',vs,t,C',g1,g2,g3,g4,g5,_,g6,g7⟩:=hsol.ex
     rw [hb'] at g1
     cases g1
     have hlen:((o.es.take (off+len)).drop off).length=len:=by simp;omega
     have get:∀(i:Nat) (e:List AV),((o.es.take (off+len)).drop off)[i]?=some e→o.es[off+i]?=some e:=by
      intro i e he
      rw [List.getElem?_drop,List.getElem?_take] at he
      split at he
      ·exact he
      ·cases he
     have cell:∀i j,i<len→j<o.sz→w.cell? ⟨b,off*o.sz+i*o.sz+j,none⟩=some (vs.getD ((off+i)*o.sz+j) undef):=by
      intro i j hi hj
      rw [cell_of_cells g2,Nat.add_mul]
      have:(off+i+1)*o.sz≤o.es.length*o.sz:=Nat.mul_le_mul_right _ (by omega)
      rw [Nat.add_mul,Nat.add_mul,Nat.one_mul] at this
      rw [Array.getD_eq_getD_getElem?,Array.getElem?_eq_getElem (by omega)]
      rfl
     have key:=Rep.list (S:=T) (w:=w) (μ:=Mu.none) (fl:=0) (sz:=o.sz) (es:=(o.es.take (off+len)).drop off) b (off*o.sz) cap (fun i j=>vs.getD ((off+i)*o.sz+j) undef) (hT' r b _ hb')
      (fun e he=>by
       obtain⟨i,hi⟩:=List.mem_iff_getElem?.1 he
       exact g6 _ e (get i e hi))
      (fun i j hi hj=>cell i j (by rw [hlen] at hi;exact hi) hj)
      (fun i j e v he hv=>by
       obtain⟨u,hu,hru⟩:=g7 _ j e v (get i e he) hv
       rw [Array.getD_eq_getD_getElem?,hu]
       simp only [Option.getD_some]
       refine old ?_
       unfold Ob.mu at hru
       rw [hk] at hru
       exact hru)
      (by rw [hlen];exact hcap) (fun h=>by cases h)
     rw [hlen] at key
     exact key
   ·cases hv
  |agg cs =>
   simp only [view] at hv
   obtain⟨cs',h1,hv⟩:=bind_some_iff hv
   cases hv
   cases hr with
   |agg vs hl hr =>
    refine .agg vs (by rw [(mapM_get h1).1];exact hl) fun j v u hv hu=>many (vs:=vs.toList) hμ (by simpa [refless] using hT) h1 (fun j v u hv hu=>hr j v u hv (by simpa using hu)) j v u hv (by simpa using hu)
  |tuple cs =>
   simp only [view] at hv
   obtain⟨cs',h1,hv⟩:=bind_some_iff hv
   cases hv
   cases hr with
   |tuple vs hl hr =>
    refine .tuple vs (by rw [(mapM_get h1).1];exact hl) fun j v u hv hu=>many (vs:=vs.toList) hμ (by simpa [refless] using hT) h1 (fun j v u hv hu=>hr j v u hv (by simpa using hu)) j v u hv (by simpa using hu)
  |iface t x =>
   simp only [view] at hv
   obtain⟨x',h1,hv⟩:=bind_some_iff hv
   cases hv
   cases hr with
   |iface hx=>exact .iface (view_sem hST hH n hμ (by simpa [refless] using hT) h1 hx)
  |func fn fs cs =>
   simp only [view] at hv
   obtain⟨fs',h1,hv⟩:=bind_some_iff hv
   obtain⟨cs',h2,hv⟩:=bind_some_iff hv
   cases hv
   cases hr with
   |func us vs hu hl hf hr =>
    have t1:fs.all (refless n)=true∨∀r b s,μ r=some (b,s)→T b:=by
     rcases hT with h |h
     ·simp only [refless,Bool.and_eq_true] at h;exact .inl h.1
     ·exact .inr h
    have t2:cs.all (refless n)=true∨∀r b s,μ r=some (b,s)→T b:=by
     rcases hT with h |h
     ·simp only [refless,Bool.and_eq_true] at h;exact .inl h.2
     ·exact .inr h
    exact .func us vs (by rw [(mapM_get h1).1];exact hu) (by rw [(mapM_get h2).1];exact hl)
     (fun j v u hv hu=>many (vs:=us.toList) hμ t1 h1 (fun j v u hv hu=>hf j v u hv (by simpa using hu)) j v u hv (by simpa using hu))
     (fun j v u hv hu=>many (vs:=vs.toList) hμ t2 h2 (fun j v u hv hu=>hr j v u hv (by simpa using hu)) j v u hv (by simpa using hu))
theorem viewArg_sem {T:Nat→Prop}(hST:∀b,S b→T b) (hH:HRel S w μ h) {a a':AV}{v:Value}(hT:refless 5 a=true∨∀r b s,μ r=some (b,s)→T b) (hv:viewArg h a=some a') (hr:Rep S w μ a v):Rep T w Mu.none a' v:=by
 obtain⟨x,h1,h2⟩:=bind_some_iff hv
 cases h2
 exact wk_wk x _ _ _ _ (view_sem hST hH 5 (fun _ _ h=>h) hT h1 hr)
theorem viewArgs_sem {T:Nat→Prop}(hST:∀b,S b→T b) (hH:HRel S w μ h):∀ {as as':List AV}{vs:List Value},(as.all (refless 5)=true∨∀r b s,μ r=some (b,s)→T b)→viewArgs h as=some as'→Reps S w μ as vs→Reps T w Mu.none as' vs
 | [],as',vs,hT,hv,hr=>by cases hv;rw [hr.inv_nil];exact .nil
 |a::as,as',vs,hT,hv,hr=>by
  simp only [viewArgs] at hv
  obtain⟨x,h1,hv⟩:=bind_some_iff hv
  obtain⟨xs,h2,hv⟩:=bind_some_iff hv
  cases hv
  obtain⟨v,r,rfl,h3,h4⟩:=hr.inv_cons
  have hT1:refless 5 a=true∨∀r b s,μ r=some (b,s)→T b:=by
   rcases hT with h |h
   ·simp only [List.all_cons,Bool.and_eq_true] at h;exact .inl h.1
   ·exact .inr h
  have hT2:as.all (refless 5)=true∨∀r b s,μ r=some (b,s)→T b:=by
   rcases hT with h |h
   ·simp only [List.all_cons,Bool.and_eq_true] at h;exact .inl h.2
   ·exact .inr h
  exact(viewArgs_sem hST hH hT2 h2 h4).cons (viewArg_sem hST hH hT1 h1 h3)
theorem ground_rep {a:AV}{v:Value}{S':Nat→Prop}{w':World}{μ':Mu}(hg:a.ground=true) (hr:Rep S w μ a v):Rep S' w' μ' a v:=by
 cases hr with
 |val v=>exact .val v
 |agg vs hl hr =>
  refine .agg vs hl fun j x u hx hu=> ?_
  have:=List.all_eq_true.1 hg x (List.mem_of_getElem? hx)
  have hrx:=hr j x u hx hu
  cases hrx<;>first |exact .val _ | (simp at this)
 |tuple vs hl hr =>
  refine .tuple vs hl fun j x u hx hu=> ?_
  have:=List.all_eq_true.1 hg x (List.mem_of_getElem? hx)
  have hrx:=hr j x u hx hu
  cases hrx<;>first |exact .val _ | (simp at this)
 | _=>simp [AV.ground] at hg
theorem ground_same {a:AV}{v u:Value}{S':Nat→Prop}{w':World}{μ':Mu}(hg:a.ground=true) (hr:Rep S w μ a v) (hr':Rep S' w' μ' a u):u=v:=by
 cases hr with
 |val v=>exact hr'.inv_val
 | @agg _ cs vs hl hr =>
  obtain⟨us,rfl,hus⟩:=hr'.inv_agg
  congr 1
  apply Array.ext'
  apply List.ext_getElem?
  intro j
  by_cases hj:j<vs.size
  ·have h1:j<us.toList.length:=by rw [hus.1];omega
   obtain⟨x,hx⟩:∃x,cs[j]?=some x:=⟨_,η (by omega)⟩
   have h2:=hr j x vs[j] hx (Array.getElem?_eq_getElem hj)
   have h3:=hus.2 j x us.toList[j] hx (η h1)
   have:=List.all_eq_true.1 hg x (List.mem_of_getElem? hx)
   cases x with
   |val y=>rw [η h1,h3.inv_val,Array.getElem?_toList,Array.getElem?_eq_getElem hj,h2.inv_val]
   | _=>simp at this
  ·rw [List.getElem?_eq_none (by rw [hus.1];omega),List.getElem?_eq_none (by simp;omega)]
 | @tuple _ cs vs hl hr =>
  obtain⟨us,rfl,hus⟩:=hr'.inv_tuple
  congr 1
  apply Array.ext'
  apply List.ext_getElem?
  intro j
  by_cases hj:j<vs.size
  ·have h1:j<us.toList.length:=by rw [hus.1];omega
   obtain⟨x,hx⟩:∃x,cs[j]?=some x:=⟨_,η (by omega)⟩
   have h2:=hr j x vs[j] hx (Array.getElem?_eq_getElem hj)
   have h3:=hus.2 j x us.toList[j] hx (η h1)
   have:=List.all_eq_true.1 hg x (List.mem_of_getElem? hx)
   cases x with
   |val y=>rw [η h1,h3.inv_val,Array.getElem?_toList,Array.getElem?_eq_getElem hj,h2.inv_val]
   | _=>simp at this
  ·rw [List.getElem?_eq_none (by rw [hus.1];omega),List.getElem?_eq_none (by simp;omega)]
 | _=>simp [AV.ground] at hg
end
end Go.Proofs.Av
/-Slots,weaker forms,objects by new numbers. -/
namespace Go.Proofs.Av
open Go
open List renaming getElem?_eq_some_iff→γ
open List renaming getElem?_eq_getElem→η
open Nat renaming eq_of_beq_eq_true→ε
section
variable {cx:Cx}{F:EF}{K:Kf}{N:Nat}{S:Nat→Prop}{μ:Mu}{env:Env}{h:Heap}{a:Act}{w:World}
theorem getAll_spec:∀ {ls:List Nat}{vs:List AV},getAll env ls=some vs→vs.length=ls.length∧∀(i t:Nat) (v:AV),ls[i]?=some t→vs[i]?=some v→look env t=some v
 | [],vs,h=>by cases h;exact⟨rfl,fun i t v h=>by simp at h⟩
 |t::ts,vs,h=>by
  simp only [getAll] at h
  obtain⟨v,h1,h⟩:=bind_some_iff h
  obtain⟨r,h2,h⟩:=bind_some_iff h
  cases h
  obtain⟨h3,h4⟩:=getAll_spec h2
  refine⟨by simp [h3],fun i t' v' ht hv=> ?_⟩
  cases i with
  |zero=>simp at ht hv;subst ht;subst hv;exact h1
  |succ i=>exact h4 i t' v' (by simpa using ht) (by simpa using hv)
theorem look_zip:∀ {ls:List Nat}{vs:List AV}{t:Nat}{v:AV},look (ls.zip vs) t=some v→∃i:Nat,ls[i]?=some t∧vs[i]?=some v
 | [],vs,t,v,h=>by simp [look] at h
 |s::ls,[],t,v,h=>by simp [look] at h
 |s::ls,x::vs,t,v,h=>by
  simp only [List.zip_cons_cons,look] at h
  split at h
  ·rename_i hb
   cases h
   exact⟨0,by simp [ε hb],rfl⟩
  ·obtain⟨i,h1,h2⟩:=look_zip h
   exact⟨i+1,by simpa using h1,by simpa using h2⟩
theorem look_append {e1 e2:Env}{t:Nat}{v:AV}(h:look (e1++e2) t=some v):look e1 t=some v∨look e2 t=some v:=by
 induction e1 with
 |nil=>exact .inr h
 |cons x e1 ih =>
  obtain⟨s,y⟩:=x
  simp only [List.cons_append,look] at h ⊢
  split at h
  ·exact .inl h
  ·exact ih h
theorem EnvRel.sub {tmps:Array Value}{env2:Env}(hE:EnvRel S w μ env tmps) (hs:∀t v,look env2 t=some v→∃v0,look env t=some v0∧Wk v0 v):EnvRel S w μ env2 tmps:=fun t v ht =>
 let ⟨v0,h1,h2⟩:=hs t v ht
 h2 _ _ _ _ (hE t v0 h1)
theorem St.envSub {tmps:Array Value}{env2:Env}(st:St cx K N S μ env h tmps w) (hs:∀t v,look env2 t=some v→∃v0,look env t=some v0∧Wk v0 v):St cx K N S μ env2 h tmps w :=
 { st with env:=st.env.sub hs }
structure ObWk (o1 o2:Ob):Prop where
 k:o2.k=o1.k
 t:o2.t=o1.t
 sz:o2.sz=o1.sz
 len:o2.es.length≤o1.es.length
 es:∀(i:Nat) (e2:List AV),o2.es[i]?=some e2→∃e1,o1.es[i]?=some e1∧Wks e1 e2∧e2.length=e1.length
theorem ObWk.refl (o:Ob):ObWk o o:=⟨rfl,rfl,rfl,Nat.le_refl _,fun _i e h=>⟨e,h,Wks.refl _,rfl⟩⟩
theorem St.heapWk {tmps:Array Value}{h2:Heap}(st:St cx K N S μ env h tmps w) (hl:h2.length=h.length) (hw:∀(r:Nat) (o2:Ob),h2[r]?=some o2→∃o1:Ob,h[r]?=some o1∧ObWk o1 o2):St cx K N S μ env h2 tmps w:=by
 have hal:∀r,alive h2 r→r<h.length→alive h r:=fun r ha hr x hx=>by
  have hr2:r<h2.length:=by omega
  obtain⟨o1,ho1,hk⟩:=hw r h2[r] (η hr2)
  rw [hx] at ho1
  cases ho1
  rw [←hk.k]
  exact ha _ (η hr2)
 refine { st with heap:=fun r o2 ho2=> ?_,dom:=fun r x hx=>by rw [hl];exact st.dom r x hx,inj:=fun r r' b s s' h1 h2 ha ha'=>st.inj r r' b s s' h1 h2 (hal r ha (st.dom r _ h1)) (hal r' ha' (st.dom r' _ h2)) }
 obtain⟨o1,ho1,hk⟩:=hw r o2 ho2
 have none_es:o1.es=[]→o2.es=[]:=fun he=>by
  have:=hk.len
  rw [he] at this
  exact List.eq_nil_of_length_eq_zero (by simpa using this)
 rcases st.heap r o1 ho1 with⟨d1,d2,d3⟩ |⟨d1,d2,d3⟩ |⟨d1,d2⟩
 ·exact .inl ⟨hk.k.trans d1,none_es d2,fun b s C hx=>by rw [hk.sz];exact d3 b s C hx⟩
 ·exact .inr (.inl ⟨hk.k.trans d1,none_es d2,d3⟩)
 refine .inr (.inr ⟨by rw [hk.k];exact d1,?_⟩)
 obtain⟨b,vs,t,C,g1,g2,g3,g4,g5,g5',g6,g7⟩:=d2.ex
 have hmu:o2.mu μ=o1.mu μ:=by unfold Ob.mu;rw [hk.k]
 refine⟨b,vs,t,C,by rw [hk.sz];exact g1,g2,fun h=>g3 (hk.k▸h),fun h=>g4 (hk.k▸h),?_,fun h=>by rw [hk.sz,hk.t];exact g5' (hk.k▸h),fun i e2 he2=> ?_,fun i j e2 v2 he2 hv2=> ?_⟩
 ·rw [hk.sz]
  exact Nat.le_trans (Nat.mul_le_mul_right _ hk.len) g5
 ·obtain⟨e1,he1,_,hlen⟩:=hk.es i e2 he2
  rw [hlen,hk.sz]
  exact g6 i e1 he1
 ·obtain⟨e1,he1,hwk,hlen⟩:=hk.es i e2 he2
  have hrow:Reps S w (o1.mu μ) e1 ((vs.toList.drop (i*o1.sz)).take o1.sz):=by
   have hel:=g6 i e1 he1
   have hi:=(γ.1 he1).1
   have hin:i*o1.sz+o1.sz≤vs.size:=by
    have:(i+1)*o1.sz≤o1.es.length*o1.sz:=Nat.mul_le_mul_right _ hi
    rw [Nat.add_mul,Nat.one_mul] at this
    omega
   refine⟨by simp [hel];omega,fun k x y hx hy=> ?_⟩
   obtain⟨u',hu',hru'⟩:=g7 i k e1 x he1 hx
   rw [List.getElem?_take] at hy
   split at hy
   ·rw [List.getElem?_drop] at hy
    simp only [Array.getElem?_toList] at hy
    rw [hu'] at hy
    cases hy
    exact hru'
   ·cases hy
  obtain⟨y,hy,hry⟩:=(hwk _ _ _ _ hrow).get hv2
  rw [List.getElem?_take] at hy
  split at hy
  ·rw [List.getElem?_drop] at hy
   simp only [Array.getElem?_toList] at hy
   rw [hk.sz,hmu]
   exact⟨y,hy,hry⟩
  ·cases hy
theorem obwk_wk (o:Ob):ObWk o o.wk:=by
 unfold Ob.wk
 split
 ·refine⟨rfl,rfl,rfl,by simp,fun i e2 he=> ?_⟩
  simp only [List.getElem?_map] at he
  cases hx:o.es[i]? with
  |none=>rw [hx] at he;cases he
  |some e1 =>
   rw [hx] at he
   cases he
   exact⟨e1,rfl,wks_map _ wk1_wk e1,by simp⟩
 ·exact ObWk.refl o
theorem St.wkHeap {tmps:Array Value}(st:St cx K N S μ env h tmps w):St cx K N S μ env (h.map Ob.wk) tmps w:=by
 refine st.heapWk (by simp) fun r o2 ho=> ?_
 simp only [List.getElem?_map] at ho
 cases hx:h[r]? with
 |none=>rw [hx] at ho;cases ho
 |some o1=>rw [hx] at ho;cases ho;exact⟨o1,rfl,obwk_wk o1⟩
end
theorem normT_wk {z v a:AV}(h:normT z v some=some a):Wk v a:=by
 unfold normT at h
 split at h
 ·obtain⟨n,h1,h2⟩:=bind_some_iff h;cases h2;rw [wk_int h1];exact Wk.refl _
 ·obtain⟨n,h1,h2⟩:=bind_some_iff h;cases h2;rw [wk_bool h1];exact Wk.refl _
 ·obtain⟨n,h1,h2⟩:=bind_some_iff h;cases h2;rw [wk_str h1];exact Wk.refl _
 ·obtain⟨n,h1,h2⟩:=bind_some_iff h;cases h2;rw [wk_float h1];exact Wk.refl _
 ·obtain⟨n,h1,h2⟩:=bind_some_iff h;cases h2;exact wk_list h1
 ·obtain⟨x,h1,h2⟩:=bind_some_iff h
  obtain⟨_,h3,h2⟩:=bind_some_iff h2
  cases h2
  have h3:=chk_eq h3
  unfold AV.arr? at h1
  split at h1
  ·split at h1
   ·rename_i hr
    cases h1
    simp only at h3
    rw [hr,h3]
    exact Wk.refl _
   ·cases h1
  ·cases h1
 ·cases h;exact Wk.refl _
theorem normTs_wk:∀ {zs cs as:List AV},normTs zs cs some=some as→Wks cs as∧as.length=cs.length
 | [],cs,as,h=>by
  simp only [normTs] at h
  obtain⟨u,h1,h2⟩:=bind_some_iff h
  cases h2
  rw [nil_eq h1]
  exact⟨Wks.refl _,rfl⟩
 |z::zs,cs,as,h=>by
  simp only [normTs] at h
  obtain⟨p,h1,h2⟩:=bind_some_iff h
  obtain⟨x,h3,h4⟩:=(normT_pk z p.1).some h2
  obtain⟨r,h5,h6⟩:=(normTs_pk zs p.2).some h3
  cases h5
  rw [uncons_eq h1]
  exact⟨Wks.cons (normT_wk h4) (normTs_wk h6).1,by simp [(normTs_wk h6).2]⟩
theorem normN_wk {z v a:AV}(h:normN z v some=some a):Wk v a:=by
 unfold normN at h
 split at h
 ·obtain⟨_,h1,h⟩:=bind_some_iff h
  cases h
  unfold AV.nilS? at h1
  split at h1
  ·exact Wk.refl _
  ·cases h1
 ·exact normT_wk h
theorem normNs_wk:∀ {zs cs as:List AV},normNs zs cs some=some as→Wks cs as∧as.length=cs.length
 | [],cs,as,h=>by
  simp only [normNs] at h
  obtain⟨u,h1,h2⟩:=bind_some_iff h
  cases h2
  rw [nil_eq h1]
  exact⟨Wks.refl _,rfl⟩
 |z::zs,cs,as,h=>by
  simp only [normNs] at h
  obtain⟨p,h1,h2⟩:=bind_some_iff h
  obtain⟨x,h3,h4⟩:=(normN_pk z p.1).some h2
  obtain⟨r,h5,h6⟩:=(normNs_pk zs p.2).some h3
  cases h5
  rw [uncons_eq h1]
  exact⟨Wks.cons (normN_wk h4) (normNs_wk h6).1,by simp [(normNs_wk h6).2]⟩
theorem normA_wk {z v a:AV}(h:normA z v some=some a):Wk v a:=by
 unfold normA at h
 split at h
 ·obtain⟨cs,h1,h2⟩:=bind_some_iff h
  obtain⟨as,h3,h4⟩:=(normTs_pk _ cs).some h2
  cases h3
  rw [wk_cells h1]
  intro S w μ u hu
  obtain⟨vs,rfl,hvs⟩:=hu.inv_agg
  have:=Rep.of_agg ((normTs_wk h4).1 S w μ _ hvs)
  simpa using this
 ·exact normT_wk h
theorem normAs_wk:∀ {zs cs as:List AV},normAs zs cs some=some as→as.length=cs.length∧∀(i:Nat) (a:AV),as[i]?=some a→∃c,cs[i]?=some c∧Wk c a
 | [],cs,as,h=>by
  simp only [normAs] at h
  obtain⟨u,h1,h2⟩:=bind_some_iff h
  cases h2
  rw [nil_eq h1]
  exact⟨rfl,fun i a h=>by simp at h⟩
 |z::zs,cs,as,h=>by
  simp only [normAs] at h
  obtain⟨p,h1,h2⟩:=bind_some_iff h
  obtain⟨x,h3,h4⟩:=(normA_pk z p.1).some h2
  obtain⟨r,h5,h6⟩:=(normAs_pk zs p.2).some h3
  cases h5
  obtain⟨h7,h8⟩:=normAs_wk h6
  rw [uncons_eq h1]
  refine⟨by simp [h7],fun i a ha=> ?_⟩
  cases i with
  |zero=>simp at ha;subst ha;exact⟨_,rfl,normA_wk h4⟩
  |succ i=>exact h8 i a (by simpa using ha)
theorem normOb_wk {z o o':Ob}(h:normOb z o some=some o'):ObWk o o':=by
 unfold normOb at h
 obtain⟨_,h1,h⟩:=bind_some_iff h
 have hz:o.k=z.k∧o.t=z.t∧o.sz=z.sz:=by
  unfold obIs at h1
  split at h1
  ·assumption
  ·cases h1
 obtain⟨_,hver,h⟩:=bind_some_iff h
 split at h
 ·cases h
  exact⟨hz.1.symm,hz.2.1.symm,hz.2.2.symm,Nat.zero_le _,fun i e he=>by simp at he⟩
 ·split at h
  ·split at h
   ·cases h
    exact⟨hz.1.symm,hz.2.1.symm,hz.2.2.symm,Nat.le_refl _,fun i e he=>⟨e,he,Wks.refl _,rfl⟩⟩
   ·obtain⟨p,h2,h⟩:=bind_some_iff h
    obtain⟨_,h3,h⟩:=bind_some_iff h
    obtain⟨cs',h4,h5⟩:=(normNs_pk _ _).some h
    cases h4
    have hes:o.es=[p.1]:=by rw [uncons_eq h2,nil_eq h3]
    refine⟨hz.1.symm,hz.2.1.symm,hz.2.2.symm,by rw [hes];simp,fun i e he=> ?_⟩
    cases i with
    |zero =>
     simp at he
     subst he
     exact⟨p.1,by rw [hes];rfl,(normNs_wk h5).1,(normNs_wk h5).2⟩
    |succ i=>simp at he
  ·cases h
   exact⟨hz.1.symm,hz.2.1.symm,hz.2.2.symm,Nat.le_refl _,fun i e he=>⟨e,he,Wks.refl _,rfl⟩⟩
theorem normHeap_wk:∀ {zs h h':Heap},normHeap zs h some=some h'→h'.length=h.length∧∀(r:Nat) (o2:Ob),h'[r]?=some o2→∃o1:Ob,h[r]?=some o1∧ObWk o1 o2
 | [],cs,as,h=>by
  simp only [normHeap] at h
  obtain⟨u,h1,h2⟩:=bind_some_iff h
  cases h2
  rw [nil_eq h1]
  exact⟨rfl,fun i a h=>by simp at h⟩
 |z::zs,cs,as,h=>by
  simp only [normHeap] at h
  obtain⟨p,h1,h2⟩:=bind_some_iff h
  obtain⟨x,h3,h4⟩:=(normOb_pk z p.1).some h2
  obtain⟨r,h5,h6⟩:=(normHeap_pk zs p.2).some h3
  cases h5
  obtain⟨h7,h8⟩:=normHeap_wk h6
  rw [uncons_eq h1]
  refine⟨by simp [h7],fun i a ha=> ?_⟩
  cases i with
  |zero=>simp at ha;subst ha;exact⟨_,rfl,normOb_wk h4⟩
  |succ i=>exact h8 i a (by simpa using ha)
theorem any_beq {s:Nat}{l:List Nat}:l.any (Nat.beq s)=true↔s∈l:=by
 rw [List.any_eq_true]
 constructor
 ·rintro⟨x,hx,hb⟩
  rw [ε hb];exact hx
 ·exact fun h=>⟨s,h,Nat.beq_refl s⟩
theorem nodupL_spec:∀ {l:List Nat},nodupL l=true→l.Nodup
 | [],h=>List.nodup_nil
 |x::xs,h=>by
  simp only [nodupL,Bool.and_eq_true] at h
  refine List.nodup_cons.2 ⟨fun hx=> ?_,nodupL_spec h.2⟩
  have:=h.1
  rw [any_beq.2 hx] at this
  cases this
theorem mapM_at {α β:Type}{f:α→Option β}:∀ {l:List α}{l':List β},l.mapM f=some l'→l'.length=l.length∧∀(i:Nat) (y:β),l'[i]?=some y→∃x,l[i]?=some x∧f x=some y
 | [],l',h=>by
  have:l'=[]:=by simpa using h.symm
  subst this
  exact⟨rfl,fun i y h=>by simp at h⟩
 |x::l,l',h=>by
  rw [List.mapM_cons] at h
  obtain⟨y,h1,h⟩:=bind_some_iff h
  obtain⟨r,h2,h⟩:=bind_some_iff h
  cases h
  obtain⟨h3,h4⟩:=mapM_at h2
  refine⟨by simp [h3],fun i z hz=> ?_⟩
  cases i with
  |zero=>simp at hz;subst hz;exact⟨x,rfl,h1⟩
  |succ i=>exact h4 i z (by simpa using hz)
theorem pos_spec:∀ {ks:List Nat}{r i:Nat},pos ks r=some i→ks[i]?=some r
 | [],r,i,h=>by cases h
 |k::ks,r,i,h=>by
  simp only [pos] at h
  split at h
  ·rename_i hb
   cases h
   simp [ε hb]
  ·obtain⟨j,h1,h⟩:=bind_some_iff h
   cases h
   simpa using pos_spec h1
theorem pos_nodup {ks:List Nat}(hn:ks.Nodup) {r i j:Nat}(h:pos ks r=some i) (hj:ks[j]?=some r):i=j:=by
 have hi:=pos_spec h
 obtain⟨a,b⟩:=γ.1 hi
 obtain⟨c,d⟩:=γ.1 hj
 exact(List.getElem_inj hn).1 (b.trans d.symm)
def gmu (ks:List Nat) (μ:Mu):Mu:=fun i=>(ks[i]?).bind μ
section
variable {S:Nat→Prop}{w:World}{μ:Mu}{ks:List Nat}
theorem reps_ren {n:Nat}(ih:∀(v v':AV) (u:Value),ren ks n v=some v'→Rep S w μ v u→Rep S w (gmu ks μ) v' u) {cs cs':List AV}(h:cs.mapM (ren ks n)=some cs'):cs'.length=cs.length∧∀(us:Array Value) (j:Nat) (v:AV) (u:Value),(∀(j:Nat) (v:AV) (u:Value),cs[j]?=some v→us[j]?=some u→Rep S w μ v u)→cs'[j]?=some v→us[j]?=some u→Rep S w (gmu ks μ) v u:=by
 obtain⟨h1,h2⟩:=mapM_at h
 refine⟨h1,fun us j v u hr hv hu=> ?_⟩
 obtain⟨x,hx,hf⟩:=h2 j v hv
 exact ih x v u hf (hr j x u hx hu)
theorem ren_rep:∀(n:Nat) (v v':AV) (u:Value),ren ks n v=some v'→Rep S w μ v u→Rep S w (gmu ks μ) v' u
 | 0,v,v',u,h,hr=>by cases h
 |n+1,v,v',u,h,hr=>by
  have ih:=ren_rep n
  cases v<;>simp only [ren] at h
  case val x=>cases h;rw [hr.inv_val];exact .val x
  case list fl sz es =>
   cases h
   cases hr with
   |list b off cap f hs hlen hc hr hcap hfull=>exact .list b off cap f hs hlen hc hr hcap hfull
   |nil=>exact .nil
   |empty a cap hf=>exact .empty a cap hf
  case rop cs =>
   cases h
   cases hr with
   |rop b off f hs hc hr=>exact .rop b off f hs hc hr
  case ptr r ver i j =>
   obtain⟨r',h1,h⟩:=bind_some_iff h
   cases h
   cases hr with
   |ptr b sz C hm=>exact .ptr b sz C (by unfold gmu;rw [pos_spec h1];exact hm)
  case arr r ver off len =>
   obtain⟨r',h1,h⟩:=bind_some_iff h
   cases h
   cases hr with
   |anil=>exact .anil
   |arr0 a ha=>exact .arr0 a ha
   |arr b cap hm hcap=>exact .arr b cap (by unfold gmu;rw [pos_spec h1];exact hm) hcap
  case agg cs =>
   obtain⟨cs',h1,h⟩:=bind_some_iff h
   cases h
   cases hr with
   |agg vs hl hr =>
    obtain⟨h2,h3⟩:=reps_ren ih h1
    exact .agg vs (hl.trans h2.symm) fun j v u=>h3 vs j v u hr
  case tuple cs =>
   obtain⟨cs',h1,h⟩:=bind_some_iff h
   cases h
   cases hr with
   |tuple vs hl hr =>
    obtain⟨h2,h3⟩:=reps_ren ih h1
    exact .tuple vs (hl.trans h2.symm) fun j v u=>h3 vs j v u hr
  case iface t x =>
   obtain⟨x',h1,h⟩:=bind_some_iff h
   cases h
   cases hr with
   |iface hr=>exact .iface (ih _ _ _ h1 hr)
  case func fn fs cs =>
   obtain⟨fs',h1,h⟩:=bind_some_iff h
   obtain⟨cs',h2,h⟩:=bind_some_iff h
   cases h
   cases hr with
   |func us vs hu hl hf hr =>
    obtain⟨h3,h4⟩:=reps_ren ih h1
    obtain⟨h5,h6⟩:=reps_ren ih h2
    exact .func us vs (hu.trans h3.symm) (hl.trans h5.symm) (fun j v u=>h4 us j v u hf) fun j v u=>h6 vs j v u hr
theorem mapM_id {n:Nat}(hn:ks.Nodup) (ih:∀(v v':AV),(refs n v).all (fixedN ks)=true→ren ks n v=some v'→v'=v):∀ {cs cs':List AV},(cs.flatMap (refs n)).all (fixedN ks)=true→cs.mapM (ren ks n)=some cs'→cs'=cs
 | [],cs',hf,h=>by simpa using h.symm
 |c::cs,cs',hf,h=>by
  rw [List.mapM_cons] at h
  obtain⟨y,h1,h⟩:=bind_some_iff h
  obtain⟨r,h2,h⟩:=bind_some_iff h
  cases h
  simp only [List.flatMap_cons,List.all_append,Bool.and_eq_true] at hf
  rw [ih c y hf.1 h1,mapM_id hn ih hf.2 h2]
theorem fixedN_pos (hn:ks.Nodup) {r i:Nat}(hf:fixedN ks r=true) (h:pos ks r=some i):i=r:=by
 unfold fixedN at hf
 split at hf
 ·rename_i k hk
  obtain rfl:=ε hf
  exact pos_nodup hn h hk
 ·cases hf
theorem ren_id (hn:ks.Nodup):∀(n:Nat) (v v':AV),(refs n v).all (fixedN ks)=true→ren ks n v=some v'→v'=v
 | 0,v,v',hf,h=>by cases h
 |n+1,v,v',hf,h=>by
  have ih:=ren_id hn n
  cases v<;>simp only [ren] at h<;>simp only [refs] at hf
  case val x=>cases h;rfl
  case list fl sz es=>cases h;rfl
  case rop cs=>cases h;rfl
  case ptr r ver i j =>
   obtain⟨r',h1,h⟩:=bind_some_iff h
   cases h
   rw [fixedN_pos hn (by simpa using hf) h1]
  case arr r ver off len =>
   obtain⟨r',h1,h⟩:=bind_some_iff h
   cases h
   rw [fixedN_pos hn (by simpa using hf) h1]
  case agg cs =>
   obtain⟨cs',h1,h⟩:=bind_some_iff h
   cases h
   rw [mapM_id hn ih hf h1]
  case tuple cs =>
   obtain⟨cs',h1,h⟩:=bind_some_iff h
   cases h
   rw [mapM_id hn ih hf h1]
  case iface t x =>
   obtain⟨x',h1,h⟩:=bind_some_iff h
   cases h
   rw [ih _ _ hf h1]
  case func fn fs cs =>
   obtain⟨fs',h1,h⟩:=bind_some_iff h
   obtain⟨cs',h2,h⟩:=bind_some_iff h
   cases h
   simp only [List.all_append,Bool.and_eq_true] at hf
   rw [mapM_id hn ih hf.1 h1,mapM_id hn ih hf.2 h2]
theorem obren_rel {k i:Nat}{o o':Ob}(hi:ks[i]?=some k) (h:Ob.ren ks o=some o') (ho:ObRel S w μ k o):ObRel S w (gmu ks μ) i o':=by
 obtain⟨b,vs,t,C,h1,h2,h3,h4,h5,h5',h6,h7⟩:=ho.ex
 have hg:gmu ks μ i=some (b,o.sz,C):=by unfold gmu;rw [hi];exact h1
 unfold Ob.ren at h
 split at h
 ·rename_i hk
  obtain⟨es,g1,g2⟩:=bind_some_iff h
  cases g2
  obtain⟨g3,g4⟩:=mapM_at g1
  refine⟨b,vs,t,C,hg,h2,h3,h4,by rw [g3];exact h5,h5',fun i e he=> ?_,fun i j e v he hv=> ?_⟩
  ·obtain⟨e0,k1,k2⟩:=g4 i e he
   rw [(mapM_at k2).1]
   exact h6 i e0 k1
  ·obtain⟨e0,k1,k2⟩:=g4 i e he
   obtain⟨v0,k3,k4⟩:=(mapM_at k2).2 j v hv
   obtain⟨u,k5,k6⟩:=h7 i j e0 v0 k1 k3
   refine⟨u,k5,?_⟩
   unfold Ob.mu at k6 ⊢
   simp only [hk] at k6 ⊢
   exact ren_rep 5 v0 v u k4 k6
 ·rename_i hk
  cases h
  refine⟨b,vs,t,C,hg,h2,h3,h4,h5,h5',h6,fun i j e v he hv=> ?_⟩
  obtain⟨u,k5,k6⟩:=h7 i j e v he hv
  refine⟨u,k5,?_⟩
  unfold Ob.mu at k6 ⊢
  cases hkk:o.k<;>simp only [hkk] at k6 ⊢ <;>first
   |exact k6
   |exact absurd hkk hk
end
theorem obren_form {ks:List Nat}{o o':Ob}(h:Ob.ren ks o=some o'):o'.k=o.k∧o'.sz=o.sz∧o'.t=o.t∧(o.es=[]→o'.es=[]):=by
 unfold Ob.ren at h
 split at h
 ·obtain⟨es,g1,g2⟩:=bind_some_iff h
  cases g2
  refine⟨rfl,rfl,rfl,fun he=> ?_⟩
  rw [he] at g1
  simpa using g1.symm
 ·cases h
  exact⟨rfl,rfl,rfl,fun h=>h⟩
theorem obren_obr {S:Nat→Prop}{w:World}{μ:Mu}{ks:List Nat}{k i:Nat}{o o':Ob}(hi:ks[i]?=some k) (h:Ob.ren ks o=some o') (ho:ObR S w μ k o):ObR S w (gmu ks μ) i o':=by
 obtain⟨f1,f2,f3,f4⟩:=obren_form h
 have hg:gmu ks μ i=μ k:=by unfold gmu;rw [hi];rfl
 rcases ho with⟨d1,d2,d3⟩ |⟨d1,d2,d3⟩ |⟨d1,d2⟩
 ·exact .inl ⟨f1.trans d1,f4 d2,fun b s C hx=>by rw [hg] at hx;rw [f2];exact d3 b s C hx⟩
 ·exact .inr (.inl ⟨f1.trans d1,f4 d2,hg.trans d3⟩)
 ·exact .inr (.inr ⟨by rw [f1];exact d1,obren_rel hi h d2⟩)
theorem alive_gc {ks:List Nat}{h h':Heap}(l3:h'.length=ks.length) (m3:∀(i:Nat) (y:Ob),h'[i]?=some y→∃k,ks[i]?=some k∧(h[k]?).bind (Ob.ren ks)=some y) {r x:Nat}(hx:ks[r]?=some x) (ha:alive h' r):alive h x:=fun o ho hd=>by
 have hr:=(γ.1 hx).1
 have hr':r<h'.length:=by omega
 obtain⟨k,hk,hko⟩:=m3 r h'[r] (η hr')
 rw [hx] at hk
 cases hk
 obtain⟨o0,g1,g2⟩:=bind_some_iff hko
 rw [ho] at g1
 cases g1
 exact ha _ (η hr') ((obren_form g2).1.trans hd)
theorem look_zip2:∀ {ls:List Nat}{vs:List AV}{ws:List AV}{t:Nat}{v:AV},look (ls.zip vs) t=some v→∃i:Nat,(∀x,ws[i]?=some x→look (ls.zip ws) t=some x)∧vs[i]?=some v
 | [],vs,ws,t,v,h=>by simp [look] at h
 |s::ls,[],ws,t,v,h=>by simp [look] at h
 |s::ls,y::vs,ws,t,v,h=>by
  simp only [List.zip_cons_cons,look] at h
  split at h
  ·rename_i hb
   cases h
   refine⟨0,fun x hx=> ?_,rfl⟩
   cases ws with
   |nil=>simp at hx
   |cons z ws =>
    simp at hx
    subst hx
    simp only [List.zip_cons_cons,look,hb]
  ·rename_i hb
   cases ws with
   |nil =>
    obtain⟨i,h1,h2⟩:=look_zip2 (ws:=[]) h
    exact⟨i+1,fun x hx=>by simp at hx,by simpa using h2⟩
   |cons z ws =>
    obtain⟨i,h1,h2⟩:=look_zip2 (ws:=ws) h
    refine⟨i+1,fun x hx=> ?_,by simpa using h2⟩
    simp only [List.zip_cons_cons,look,hb]
    exact h1 x (by simpa using hx)
end Go.Proofs.Av
/-A call that is handed objects,and writes them. -/
namespace Go.Proofs.Av
open Go
open List renaming getElem?_eq_some_iff→γ
open List renaming getElem?_eq_getElem→η
open Nat renaming eq_of_beq_eq_true→ε
def Fact (cx:Cx) (f:FuncId):Prop:=∃fn,cx.P.funcs[f]?=some fn∧fn.body.isNone=false∧(fn.name== "runtime.NumGoroutine")=false
def OwnSound (cx:Cx) (F:EF):Prop:=∀f args h v h',F (.own f) args h=some (.ret v,h')→Fact cx f∧h.length=cx.held f ∧
 ∀(K:Kf) (S:Nat→Prop) (μ:Mu) (w:World) (vals:List Value),St cx K 0 S μ [] h #[] w→(∀r x,K.fix r=some x→r<cx.held f)→Reps S w μ args vals →
  Calls cx.P f vals.toArray w fun e w'=>∃cv S' μ',e = .returned cv∧Rep S' w' μ' v cv∧St cx K 0 S' μ' [] h' #[] w'
section
variable {cx:Cx}{F:EF}{K:Kf}{N:Nat}{S:Nat→Prop}{μ:Mu}{env:Env}{h:Heap}{tmps:Array Value}{w:World}
theorem lives_k {h1:Heap}(hl:livesK h1=true) {i:Nat}{o:Ob}(ho:h1[i]?=some o):o.k ≠ .dead∧o.k ≠ .ro:=by
 have:=List.all_eq_true.1 hl o (List.mem_of_getElem? ho)
 cases hk:o.k<;>rw [hk] at this<;>simp_all
def subK (S:Nat→Prop) (w:World) (ks:List Nat) (μ:Mu):Kf:=⟨w,S,fun b=>∃k s,k∈ks∧μ k=some (b,s),gmu ks μ⟩
theorem sub_st (st:St cx K N S μ env h tmps w) {ks:List Nat}{h1:Heap}(hn:ks.Nodup) (l3:h1.length=ks.length) (m3:∀(i:Nat) (y:Ob),h1[i]?=some y→∃k,ks[i]?=some k∧(h[k]?).bind (Ob.ren ks)=some y):St cx (subK S w ks μ) 0 S (gmu ks μ) [] h1 #[] w:=by
 refine⟨rfl,fun t v ht=>(by cases ht),st.g,fun r o ho=> ?_,fun r r' b s s' hr hr' ha ha'=> ?_,fun r x hx=> ?_,fun r b s hr=> ?_,fun _ h=>h,fun _ h => .inl h,st.slt,fun _ _ _=>rfl,Nat.le_refl _,rfl,rfl,OutD.refl _,fun _ _ h=>h⟩
 ·obtain⟨k,hk,hko⟩:=m3 r o ho
  obtain⟨o0,k1,k2⟩:=bind_some_iff hko
  exact obren_obr hk k2 (st.heap k o0 k1)
 ·unfold gmu at hr hr'
  obtain⟨x,hx,hr⟩:=bind_some_iff hr
  obtain⟨y,hy,hr'⟩:=bind_some_iff hr'
  have:=st.inj x y b s s' hr hr' (alive_gc l3 m3 hx ha) (alive_gc l3 m3 hy ha')
  subst this
  obtain⟨a,b'⟩:=γ.1 hx
  obtain⟨c,d⟩:=γ.1 hy
  exact(List.getElem_inj hn).1 (b'.trans d.symm)
 ·unfold gmu at hx
  obtain⟨y,hy,_⟩:=bind_some_iff hx
  have:=(γ.1 hy).1
  omega
 ·unfold gmu at hr
  obtain⟨y,hy,hr⟩:=bind_some_iff hr
  exact .inl ⟨y,s,List.mem_of_getElem? hy,hr⟩
theorem pos_some_of {ks:List Nat}:∀ {r:Nat},r∈ks→∃i,pos ks r=some i:=by
 induction ks with
 |nil=>intro r hr;cases hr
 |cons k ks ih =>
  intro r hr
  simp only [pos]
  cases hb:Nat.beq k r with
  |true=>exact⟨0,rfl⟩
  |false =>
   rcases List.mem_cons.1 hr with rfl |hr
   ·simp at hb
   ·obtain⟨i,hi⟩:=ih hr
    exact⟨i+1,by simp [hi]⟩
theorem backKs_get {n l:Nat}{ks:List Nat}{r j:Nat}(h:(backKs n l ks)[r]?=some j):(r<n∧pos ks r=some j)∨(r<n∧pos ks r=none∧j=l+r)∨(n≤r∧r-n<l-ks.length∧j=ks.length+(r-n)):=by
 unfold backKs at h
 by_cases hr:r<n
 ·rw [List.getElem?_append_left (by simpa using hr)] at h
  simp only [List.getElem?_map,List.getElem?_range hr,Option.map_some] at h
  cases hp:pos ks r with
  |none=>rw [hp] at h;cases h;exact .inr (.inl ⟨hr,rfl,rfl⟩)
  |some i=>rw [hp] at h;cases h;exact .inl ⟨hr,rfl⟩
 ·rw [List.getElem?_append_right (by simp;omega)] at h
  simp only [List.length_map,List.length_range,List.getElem?_map] at h
  have hlt:r-n<l-ks.length:=by
   cases hx:(List.range (l-ks.length))[r-n]? with
   |none=>rw [hx] at h;cases h
   |some y =>
    have:=(γ.1 hx).1
    simpa using this
  rw [List.getElem?_range hlt] at h
  cases h
  exact .inr (.inr ⟨by omega,hlt,rfl⟩)
theorem backKs_len (n l:Nat) (ks:List Nat):(backKs n l ks).length=n+(l-ks.length):=by simp [backKs]
theorem mergeH_get {ks:List Nat}{h h2 h':Heap}(hm:mergeH ks h h2=some h'):h'.length=ks.length∧∀(r:Nat) (o:Ob),h'[r]?=some o→∃j,ks[r]?=some j∧((∃o2,h2[j]?=some o2∧o2.ren ks=some o)∨(h2[j]?=none∧h[r]?=some o)):=by
 unfold mergeH at hm
 obtain⟨l1,m1⟩:=mapM_at hm
 have hz:((List.range ks.length).zip ks).length=ks.length:=by simp
 refine⟨l1.trans hz,fun r o ho=> ?_⟩
 obtain⟨⟨a,j⟩,hx,hf⟩:=m1 r o ho
 rw [List.getElem?_zip_eq_some] at hx
 obtain⟨h1,h2'⟩:=hx
 have hr:r<ks.length:=(γ.1 h2').1
 rw [List.getElem?_range hr] at h1
 cases h1
 refine⟨j,h2',?_⟩
 simp only at hf
 cases hj:h2[j]? with
 |none=>rw [hj] at hf;exact .inr ⟨rfl,hf⟩
 |some o2=>rw [hj] at hf;exact .inl ⟨o2,rfl,hf⟩
theorem back_st (st:St cx K N S μ env h tmps w) {ks:List Nat}{h1 h2 h':Heap}(_hn:ks.Nodup) (l3:h1.length=ks.length) (m3:∀(i:Nat) (y:Ob),h1[i]?=some y→∃k,ks[i]?=some k∧(h[k]?).bind (Ob.ren ks)=some y) (hl:livesK h1=true) {S':Nat→Prop}{μ':Mu}{w':World}(stc:St cx (subK S w ks μ) 0 S' μ' [] h2 #[] w') (hle:ks.length≤h2.length) (hm:mergeH (backKs h.length h2.length ks) h h2=some h'):∃μ'',St cx K N S' μ'' env h' tmps w'∧∀r x,gmu (backKs h.length h2.length ks) μ' r=some x→μ'' r=some x:=by
 have kobj:∀k,k∈ks→∃o,h[k]?=some o∧o.k ≠ .dead∧o.k ≠ .ro:=fun k hk=>by
  obtain⟨i,hi⟩:=List.mem_iff_getElem?.1 hk
  have hi':i<h1.length:=by
   have:=(γ.1 hi).1
   omega
  obtain⟨k',hk',hko⟩:=m3 i h1[i] (η hi')
  rw [hi] at hk'
  cases hk'
  obtain⟨o0,g1,g2⟩:=bind_some_iff hko
  have hf:=(obren_form g2).1
  have hlv:=lives_k hl (η hi')
  exact⟨o0,g1,by rw [←hf];exact hlv.1,by rw [←hf];exact hlv.2⟩
 have kalive:∀k,k∈ks→alive h k:=fun k hk x hx=>by
  obtain⟨o,g1,g2,_⟩:=kobj k hk
  rw [hx] at g1
  cases g1
  exact g2
 have kS:∀k b s,k∈ks→μ k=some (b,s)→¬S b:=fun k b s hk hm=>by
  obtain⟨o,g1,g2,g3⟩:=kobj k hk
  rcases st.heap k o g1 with⟨d,_⟩ |⟨_,_,d⟩ |⟨_,d⟩
  ·exact absurd d g2
  ·rw [hm] at d;cases d
  ·obtain⟨b',vs,t,C,e1,e2,e3,e4,_⟩:=d.ex
   rw [hm] at e1
   cases e1
   exact e4 g3
 have hSS:∀b,S b→S' b:=stc.s0
 have hSO:∀b,S b→w'.heap[b]?=w.heap[b]?:=fun b hb=>stc.frame b (st.slt b hb) fun⟨k,s,hk,hm⟩=>kS k b s hk hm hb
 have g_old:∀r x,μ r=some x→∀y,gmu (backKs h.length h2.length ks) μ' r=some y→y=x:=fun r x hx y hy=>by
  unfold gmu at hy
  obtain⟨j,hj,hy⟩:=bind_some_iff hy
  rcases backKs_get hj with⟨_,hp⟩ |⟨_,_,rfl⟩ |⟨hr,_⟩
  ·have hfix:=stc.fix j x (show gmu ks μ j=some x by unfold gmu;rw [pos_spec hp];exact hx)
   rw [hfix] at hy
   exact(Option.some.inj hy).symm
  ·have:=stc.dom _ _ hy
   omega
  ·have:=st.dom r x hx
   omega
 have g_un:∀r,r<h.length→pos ks r=none→gmu (backKs h.length h2.length ks) μ' r=none:=fun r hr hp=>by
  cases hg:gmu (backKs h.length h2.length ks) μ' r with
  |none=>rfl
  |some y =>
   unfold gmu at hg
   obtain⟨j,hj,hg⟩:=bind_some_iff hg
   rcases backKs_get hj with⟨_,hp'⟩ |⟨_,_,rfl⟩ |⟨hr',_⟩
   ·rw [hp] at hp';cases hp'
   ·have:=stc.dom _ _ hg
    omega
   ·omega
 refine⟨fun r=>match μ r with |some x=>some x |none=>gmu (backKs h.length h2.length ks) μ' r,?_,?_⟩
 rotate_left
 ·intro r x hx
  dsimp only
  cases hμ:μ r with
  |none=>exact hx
  |some y =>
   show some y=some x
   rw [g_old r y hμ x hx]
 obtain⟨hlen,hget⟩:=mergeH_get hm
 rw [backKs_len] at hlen
 generalize hμdef:(fun r=>match μ r with |some x=>some x |none=>gmu (backKs h.length h2.length ks) μ' r:Mu)=μ2
 have hμ2:∀r,μ2 r=match μ r with |some x=>some x |none=>gmu (backKs h.length h2.length ks) μ' r:=fun r=>by rw [←hμdef]
 have m_old:∀r x,μ r=some x→μ2 r=some x:=fun r x hx=>by rw [hμ2,hx]
 have m_new:∀r x,gmu (backKs h.length h2.length ks) μ' r=some x→μ2 r=some x:=fun r x hx=>by
  rw [hμ2]
  cases hμ:μ r with
  |none=>exact hx
  |some y =>
   show some y=some x
   rw [g_old r y hμ x hx]
 have m_touch:∀r j,(backKs h.length h2.length ks)[r]?=some j→j<h2.length→μ2 r=gmu (backKs h.length h2.length ks) μ' r:=fun r j hj hjl=>by
  rw [hμ2]
  cases hμ:μ r with
  |none=>rfl
  |some y =>
   rcases backKs_get hj with⟨_,hp⟩ |⟨_,_,rfl⟩ |⟨hr,_⟩
   ·have hfix:=stc.fix j y (show gmu ks μ j=some y by unfold gmu;rw [pos_spec hp];exact hμ)
    show some y=_
    unfold gmu
    rw [hj]
    exact hfix.symm
   ·omega
   ·have:=st.dom r y hμ
    omega
 have origin:∀r b s,μ2 r=some (b,s)→(r<h.length∧pos ks r=none∧μ r=some (b,s))∨∃j,(backKs h.length h2.length ks)[r]?=some j∧j<h2.length∧μ' j=some (b,s):=fun r b s hx=>by
  rw [hμ2] at hx
  cases hμ:μ r with
  |some y =>
   rw [hμ] at hx
   have hx':y=(b,s):=Option.some.inj hx
   subst hx'
   have hr:=st.dom r _ hμ
   cases hp:pos ks r with
   |none=>exact .inl ⟨hr,rfl,rfl⟩
   |some i =>
    have hfix:=stc.fix i (b,s) (show gmu ks μ i=some (b,s) by unfold gmu;rw [pos_spec hp];exact hμ)
    have hil:i<ks.length:=(γ.1 (pos_spec hp)).1
    refine .inr ⟨i,?_,by omega,hfix⟩
    unfold backKs
    rw [List.getElem?_append_left (by simpa using hr)]
    simp [List.getElem?_range hr,hp]
  |none =>
   rw [hμ] at hx
   unfold gmu at hx
   obtain⟨j,hj,hx⟩:=bind_some_iff hx
   exact .inr ⟨j,hj,stc.dom _ _ hx,hx⟩
 have al_un:∀r,r<h.length→pos ks r=none→alive h' r→alive h r:=fun r hr hp ha x hx=>by
  have hr':r<h'.length:=by omega
  obtain⟨j,hj,hc⟩:=hget r h'[r] (η hr')
  rcases backKs_get hj with⟨_,hp'⟩ |⟨_,_,rfl⟩ |⟨hr2,_⟩
  ·rw [hp] at hp';cases hp'
  ·rcases hc with⟨o2,h3,_⟩ |⟨_,h3⟩
   ·have:=(γ.1 h3).1
    omega
   ·rw [hx] at h3
    rw [Option.some.inj h3]
    exact ha _ (η hr')
  ·omega
 have al_to:∀r j,(backKs h.length h2.length ks)[r]?=some j→j<h2.length→alive h' r→alive h2 j:=fun r j hj hjl ha x hx hd=>by
  have hr':r<h'.length:=by
   have:=(γ.1 hj).1
   rw [backKs_len] at this
   omega
  obtain⟨j',hj',hc⟩:=hget r h'[r] (η hr')
  rw [hj] at hj'
  cases hj'
  rcases hc with⟨o2,h3,h4⟩ |⟨h3,_⟩
  ·rw [hx] at h3
   cases h3
   exact ha _ (η hr') ((obren_form h4).1.trans hd)
  ·rw [hx] at h3;cases h3
 have un_O:∀r b s,pos ks r=none→μ r=some (b,s)→alive h r→¬ ∃k s,k∈ks∧μ k=some (b,s):=fun r b s hp hm ha ⟨k,s',hk,hmk⟩=>by
  have:=st.inj r k b s s' hm hmk ha (kalive k hk)
  subst this
  obtain⟨i,hi⟩:=pos_some_of hk
  rw [hp] at hi
  cases hi
 refine⟨st.size,fun t v ht=>(st.env t v ht).mono hSS hSO m_old,stc.g,?_,?_,?_,?_,fun b hb=>hSS b (st.s0 b hb),?_,stc.slt,?_,Nat.le_trans st.le stc.le,stc.os.trans st.os,stc.tape.trans st.tape,stc.output.trans st.output,fun r x hx=>m_old r x (st.fix r x hx)⟩
 ·intro r o' ho'
  obtain⟨j,hj,hc⟩:=hget r o' ho'
  rcases hc with⟨o2,h3,h4⟩ |⟨h3,h4⟩
  ·have hjl:=(γ.1 h3).1
   have hob:=obren_obr hj h4 (stc.heap j o2 h3)
   exact hob.mono (fun _ h=>h) (fun _ _=>rfl) m_new (m_touch r j hj hjl) (Nat.le_refl _) (fun _ _ _ _=>rfl) fun _ _ _ h=>h
  ·have hun:r<h.length∧pos ks r=none:=by
    rcases backKs_get hj with⟨_,hp⟩ |⟨hr,hp,_⟩ |⟨_,hlt,rfl⟩
    ·have:=(γ.1 (pos_spec hp)).1
     have hjl:j<h2.length:=by omega
     rw [η hjl] at h3
     cases h3
    ·exact⟨hr,hp⟩
    ·have hjl:ks.length+(r-h.length)<h2.length:=by omega
     rw [η hjl] at h3
     cases h3
   obtain⟨hr,hp⟩:=hun
   have hμr:μ2 r=μ r:=by
    rw [hμ2]
    cases hμ:μ r with
    |none=>exact g_un r hr hp
    |some y=>rfl
   rcases st.heap r o' h4 with⟨d1,d2,d3⟩ |⟨d1,d2,d3⟩ |⟨d1,d2⟩
   ·exact .inl ⟨d1,d2,fun b s C hx=>by
     rw [hμr] at hx
     have:=d3 b s C hx
     exact⟨Nat.lt_of_lt_of_le this.1 stc.le,this.2⟩⟩
   ·exact .inr (.inl ⟨d1,d2,hμr.trans d3⟩)
   ·have ha:alive h r:=fun x hx=>by rw [h4] at hx;cases hx;exact d1
    refine .inr (.inr ⟨d1,d2.mono hSS hSO m_old (fun b s hm=> ?_) fun b s hm hns hs=> ?_⟩)
    ·exact stc.frame b (st.lt hm) (un_O r b s hp hm ha)
    ·rcases stc.snew b hs with h |h |h
     ·exact hns h
     ·exact un_O r b s hp hm ha h
     ·have:=st.lt hm
      have hw:(subK S w ks μ).w0.heap.size=w.heap.size:=rfl
      omega
 ·intro r r' b s s' hr hr' ha ha'
  have cross:∀ {r b s s' j},r<h.length→pos ks r=none→μ r=some (b,s)→alive h' r→μ' j=some (b,s')→False:=fun {r b s s' j} h1 h2' h3 h4 h5=>by
   rcases stc.own j b s' h5 with h6 |h6
   ·exact un_O r b s h2' h3 (al_un r h1 h2' h4) h6
   ·have:=st.lt h3
    have hw:(subK S w ks μ).w0.heap.size=w.heap.size:=rfl
    omega
  rcases origin r b s hr with⟨a1,a2,a3⟩ |⟨j,a1,a2,a3⟩<;>rcases origin r' b s' hr' with⟨b1,b2,b3⟩ |⟨j',b1,b2,b3⟩
  ·exact st.inj r r' b s s' a3 b3 (al_un r a1 a2 ha) (al_un r' b1 b2 ha')
  ·exact(cross a1 a2 a3 ha b3).elim
  ·exact(cross b1 b2 b3 ha' a3).elim
  ·have hjj:=stc.inj j j' b s s' a3 b3 (al_to r j a1 a2 ha) (al_to r' j' b1 b2 ha')
   subst hjj
   rcases backKs_get a1 with⟨c1,c2⟩ |⟨c1,c2,c3⟩ |⟨c1,c2,c3⟩<;>rcases backKs_get b1 with⟨d1,d2⟩ |⟨d1,d2,d3⟩ |⟨d1,d2,d3⟩
   ·have e1:=pos_spec c2
    rw [pos_spec d2] at e1
    exact(Option.some.inj e1).symm
   ·omega
   ·have:=(γ.1 (pos_spec c2)).1
    omega
   ·omega
   ·omega
   ·omega
   ·have:=(γ.1 (pos_spec d2)).1
    omega
   ·omega
   ·omega
 ·intro r x hx
  obtain⟨b,s⟩:=x
  rcases origin r b s hx with⟨a1,_⟩ |⟨j,a1,_⟩
  ·omega
  ·have:=(γ.1 a1).1
   rw [backKs_len] at this
   omega
 ·intro r b s hx
  rcases origin r b s hx with⟨_,_,a3⟩ |⟨j,_,_,a3⟩
  ·exact st.own r b s a3
  ·rcases stc.own j b s a3 with⟨k,s',hk,hmk⟩ |h6
   ·exact st.own k b s' hmk
   ·exact .inr (Nat.le_trans st.le h6)
 ·intro b hb
  rcases stc.snew b hb with h |⟨k,s',hk,hmk⟩ |h
  ·exact st.snew b h
  ·exact .inr (st.own k b s' hmk)
  ·exact .inr (.inr (Nat.le_trans st.le h))
 ·intro b hb ho
  rw [stc.frame b (Nat.lt_of_lt_of_le hb st.le) fun⟨k,s',hk,hmk⟩=> ?_]
  ·exact st.frame b hb ho
  ·rcases st.own k b s' hmk with h |h
   ·exact ho h
   ·omega
theorem reps_mapM {ks:List Nat}{as as':List AV}{vs:List Value}(hm:as.mapM (ren ks 5)=some as') (hr:Reps S w μ as vs):Reps S w (gmu ks μ) as' vs:=by
 obtain⟨l1,m1⟩:=mapM_at hm
 refine⟨by rw [l1];exact hr.1,fun j v u hv hu=> ?_⟩
 obtain⟨x,hx,hf⟩:=m1 j v hv
 exact ren_rep 5 x v u hf (hr.2 j x u hx hu)
theorem pIs_eq {r ver i j:Nat}{v:AV}{u:Unit}(h:v.pIs r ver i j=some u):v = .ptr r ver i j:=by
 unfold AV.pIs at h
 split at h
 ·rename_i r' ver' i' j'
  cases hc:(Nat.beq r' r&&(Nat.beq ver' ver&&(Nat.beq i' i&&Nat.beq j' j))) with
  |false=>rw [hc] at h;cases h
  |true =>
   simp only [Bool.and_eq_true] at hc
   rw [ε hc.1,ε hc.2.1,ε hc.2.2.1,ε hc.2.2.2]
 ·cases h
theorem normO_wk {z v a:AV}(h:normO z v some=some a):Wk v a:=by
 unfold normO at h
 split at h
 ·rename_i zs
  obtain⟨cs,h1,h2⟩:=bind_some_iff h
  obtain⟨as,h3,h4⟩:=(normAs_pk _ cs).some h2
  cases h3
  rw [wk_tup h1]
  intro S w μ u hu
  obtain⟨vs,rfl,hvs⟩:=hu.inv_tuple
  obtain⟨l1,m1⟩:=normAs_wk h4
  have:Reps S w μ as vs.toList:=⟨by rw [l1];exact hvs.1,fun j x y hx hy=>by
   obtain⟨c,hc,hwk⟩:=m1 j x hx
   exact hwk _ _ _ _ (hvs.2 j c y hc hy)⟩
  have:=Rep.of_tuple this
  simpa using this
 ·obtain⟨u,h1,h2⟩:=bind_some_iff h
  cases h2
  rw [pIs_eq h1]
  exact Wk.refl _
 ·exact normA_wk h
theorem ownV_sem (hO:OwnSound cx F) (st:St cx K N S μ env h tmps w) {o:Own}{fv:AV}{args:List AV}{fu:Value}{us:List Value}(ho:∀f,fnOf fv=some f→cx.own f=some o) (hf:Rep S w μ fv fu) (hr:Reps S w μ args us) {av:AV}{h':Heap}(hc:ownV cx F o fv args h (fun v h=>some (v,h))=some (av,h')):∃fn first cap f vals,fu = .func fn first cap∧(invoke (.fn fn cap) (first++us.toArray)).run cx.P w = .ok (.enter f vals) w∧Calls cx.P f vals w fun e w'=>∃cv S' μ',e = .returned cv∧Rep S' w' μ' av cv∧St cx K N S' μ' env h' tmps w':=by
 unfold ownV at hc
 obtain⟨p,h1,hc1⟩:=bind_some_iff hc
 obtain⟨g,h2,hc2⟩:=bind_some_iff hc1
 cases hlv:livesK g.2.2 with
 |false=>rw [hlv] at hc2;cases hc2
 |true =>
  rw [hlv] at hc2
  simp only [cond_true] at hc2
  generalize hks:reach h 3 (addN [] (p.2.flatMap (refs 5)))=ks at h2 hc2
  obtain⟨r,h3,hc3⟩:=bind_some_iff hc2
  obtain⟨x,h4,hc4⟩:=bind_some_iff hc3
  obtain⟨v,hc5,h5⟩:=(normO_pk _ _).some hc4
  obtain⟨h2',hc6,h6⟩:=(normHeap_pk _ _).some hc5
  obtain⟨_,h7,hc7⟩:=bind_some_iff hc6
  obtain⟨v',h8,hc8⟩:=bind_some_iff hc7
  obtain⟨hh,h9,hc9⟩:=bind_some_iff hc8
  cases hc9
  have hle:ks.length≤h2'.length:=by
   unfold chkLe at h7
   split at h7
   ·assumption
   ·cases h7
  have hrx:r=(.ret x.1,x.2):=by
   unfold asRet at h4
   split at h4
   ·cases h4;rfl
   ·cases h4
  rw [hrx] at h3
  unfold gc at h2
  cases hnb:(nodupL ks&&stays ks 0) with
  |false=>rw [hnb] at h2;cases h2
  |true =>
   simp only [Bool.and_eq_true] at hnb
   have hn:=nodupL_spec hnb.1
   rw [hnb.1,hnb.2] at h2
   simp only [Bool.and_self,cond_true] at h2
   obtain⟨vs1,g1,h2⟩:=bind_some_iff h2
   obtain⟨is1,g2,h2⟩:=bind_some_iff h2
   simp only [List.all_nil,cond_true] at h2
   obtain⟨hs1,g3,h2⟩:=bind_some_iff h2
   cases h2
   obtain⟨l3,m3⟩:=mapM_at g3
   simp only at h3 hlv
   obtain⟨⟨fn,f1,f2,f3⟩,hheld,hcalls⟩:=hO _ _ _ _ _ h3
   unfold AV.call? at h1
   split at h1
   ·rename_i f first cap
    cases h1
    simp only at f1 hheld hcalls g1 h3
    cases hf with
    |func us1 vs1' hu hl hf1 hr1 =>
     have hargs:Reps S w μ (first++args++cap) (us1.toList++us++vs1'.toList) :=
      (Reps.append ⟨by simpa using hu,fun j x y hx hy=>hf1 j x y hx (by simpa using hy)⟩ hr).append ⟨by simpa using hl,fun j x y hx hy=>hr1 j x y hx (by simpa using hy)⟩
     have stS:=(sub_st st hn l3 m3).wkHeap
     have hreps:=wks_map AV.wk wk_wk vs1 _ _ _ _ (reps_mapM g1 hargs)
     refine⟨_,_,_,f,us1++us.toArray++vs1',rfl,?_,?_⟩
     ·cases hb:fn.body with
      |none=>rw [hb] at f2;cases f2
      |some bd =>
       have g3':¬fn.name= "runtime.NumGoroutine" :=by simpa using f3
       simp [invoke,callFunc,f1,hb,g3']
     ·have hcall:=hcalls (subK S w ks μ) S (gmu ks μ) w _ stS (fun r x hx=>by
       have h0:gmu ks μ r=some x:=hx
       unfold gmu at h0
       obtain⟨y,hy,_⟩:=bind_some_iff h0
       have:=(γ.1 hy).1
       rw [←hheld,List.length_map,l3]
       exact this) hreps
      have e:(us1.toList++us++vs1'.toList).toArray=us1++us.toArray++vs1':=by apply Array.ext';simp
      rw [e] at hcall
      refine hcall.mono fun e w' ⟨cv,S',μ',k1,k2,k3⟩=> ?_
      obtain⟨hl6,hw6⟩:=normHeap_wk h6
      have stc:=k3.heapWk hl6 hw6
      obtain⟨μ'',q1,q2⟩:=back_st st hn l3 m3 hlv stc hle h9
      exact⟨cv,S',μ'',k1,(ren_rep 5 _ _ _ h8 (normO_wk h5 _ _ _ _ k2)).mono (fun _ h=>h) (fun _ _=>rfl) q2,q1⟩
   ·cases h1
end
end Go.Proofs.Av
