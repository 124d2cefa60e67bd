/- Operations that only read, put together. -/
import Derived.Test.YtoepfmodbhfckaaAzF
import Derived.Laws.Tables
import Derived.Laws.AppendOwn
namespace Go.Proofs.Av
open Go
theorem spliceK_eq:∀ {cs:List AV}{n:Nat}{vs r:List AV},spliceK cs n vs some=some r→n+vs.length≤cs.length∧r=cs.take n++vs++cs.drop (n+vs.length)
 |cs,0,[],r,h=>by
  cases cs<;>(simp only [spliceK] at h;cases h;simp)
 |x::cs,0,v::vs,r,h=>by
  simp only [spliceK] at h
  obtain⟨r',h1,h2⟩:=(spliceK_pk cs 0 vs).some h
  cases h1
  obtain⟨h3,h4⟩:=spliceK_eq h2
  refine⟨by simp;omega,?_⟩
  rw [h4]
  simp
 |x::cs,n+1,vs,r,h=>by
  simp only [spliceK] at h
  obtain⟨r',h1,h2⟩:=(spliceK_pk cs n vs).some h
  cases h1
  obtain⟨h3,h4⟩:=spliceK_eq h2
  refine⟨by simp;omega,?_⟩
  rw [h4]
  simp [Nat.add_right_comm n 1]
 | [],0,v::vs,r,h=>by simp only [spliceK] at h;cases h
 | [],n+1,vs,r,h=>by simp only [spliceK] at h;cases h
theorem foldl_set_get (off:Nat):∀(vs:List Value) (k:Nat) (cs:Array Value),off+k+vs.length≤cs.size→∀i,
  ((vs.zipIdx k).foldl (fun cs (x:Value×Nat)=>cs.setIfInBounds (off+x.2) x.1) cs)[i]?=if off+k≤i∧i<off+k+vs.length then vs[i-(off+k)]? else cs[i]?
 | [],k,cs,h,i=>by simp;intro h1 h2;omega
 |v::vs,k,cs,h,i=>by
  simp only [List.zipIdx_cons,List.foldl_cons]
  simp only [List.length_cons] at h
  rw [foldl_set_get off vs (k+1) _ (by simp;omega) i]
  simp only [Array.getElem?_setIfInBounds,List.length_cons]
  by_cases h1:off+k=i
  ·subst h1
   simp [show off+k<cs.size by omega]
   intro h1;omega
  ·by_cases h2:off+(k+1)≤i∧i<off+(k+1)+vs.length
   ·rw [if_pos h2,if_pos (by omega)]
    obtain⟨m,hm⟩:∃m,i-(off+k)=m+1:=⟨i-(off+k)-1,by omega⟩
    rw [hm,show i-(off+(k+1))=m by omega]
    simp
   ·rw [if_neg h2,if_neg h1,if_neg (by omega)]
theorem foldl_set_size (off:Nat):∀(vs:List (Value×Nat)) (cs:Array Value),(vs.foldl (fun cs (x:Value×Nat)=>cs.setIfInBounds (off+x.2) x.1) cs).size=cs.size
 | [],cs=>rfl
 |v::vs,cs=>by simp only [List.foldl_cons];rw [foldl_set_size off vs];simp
theorem splice_get {cs vs:List AV}{n:Nat}(h:n+vs.length≤cs.length) (i:Nat):(cs.take n++vs++cs.drop (n+vs.length))[i]?=if n≤i∧i<n+vs.length then vs[i-n]? else cs[i]?:=by
 have hl:(cs.take n).length=n:=by simp;omega
 by_cases h1:i<n
 ·rw [if_neg (by omega),List.append_assoc,List.getElem?_append_left (by omega)]
  simp [h1]
 ·by_cases h2:i<n+vs.length
  ·rw [if_pos (by omega),List.getElem?_append_left (by simp;omega),List.getElem?_append_right (by omega),hl]
  ·rw [if_neg (by omega),List.getElem?_append_right (by simp;omega)]
   simp only [List.getElem?_drop,List.length_append,hl]
   congr 1
   omega
section
variable {cx:Cx}{S:Nat→Prop}{w:World}{μ:Mu}{env:Env}{a:Act}{h:Heap}
theorem splice_reps {cs vs r:List AV}{n:Nat}{ds:Array Value}{us:List Value}(hc:Reps S w μ cs ds.toList) (hv:Reps S w μ vs us) (hr:spliceK cs n vs some=some r):n+us.length≤ds.size∧Reps S w μ r (((us.zipIdx 0).foldl (fun cs (x:Value×Nat)=>cs.setIfInBounds (n+x.2) x.1) ds).toList):=by
 obtain⟨h1,rfl⟩:=spliceK_eq hr
 have hcl:ds.size=cs.length:=by simpa using hc.1
 have hvl:=hv.1
 refine⟨by omega,by simp [foldl_set_size];omega,fun j v u hj hu=> ?_⟩
 rw [splice_get h1] at hj
 rw [Array.getElem?_toList,foldl_set_get n us 0 ds (by omega)] at hu
 simp only [Nat.add_zero] at hu
 rw [hvl] at hu
 split at hj
 ·rename_i hc1
  rw [if_pos hc1] at hu
  exact hv.2 _ v u hj hu
 ·rename_i hc1
  rw [if_neg hc1] at hu
  exact hc.2 _ v u hj (by simpa using hu)
theorem fill_sem (place:Nat→Option (Nat×Nat)):∀ {ps:List (Nat×AV)}{qs:List (Nat×Value)}{cs r:List AV}{ds:Array Value},
  qs.length=ps.length→(∀(j:Nat) (p:Nat×AV) (q:Nat×Value),ps[j]?=some p→qs[j]?=some q→q.1=p.1∧Rep S w μ p.2 q.2)→Reps S w μ cs ds.toList→fillA place ps cs some=some r →
  ∃es,Instr.fill place ds qs=some es∧Reps S w μ r es.toList
 | [],qs,cs,r,ds,hl,hp,hc,h=>by
  simp only [fillA] at h
  cases h
  have:qs=[]:=by simpa using hl
  subst this
  exact⟨ds,rfl,hc⟩
 | (i,v)::ps,qs,cs,r,ds,hl,hp,hc,h=>by
  simp only [fillA] at h
  obtain⟨p,h1,hsp⟩:=bind_some_iff h
  cases qs with
  |nil=>simp at hl
  |cons q qs =>
   obtain⟨hq1,hq2⟩:=hp 0 (i,v) q (by simp) (by simp)
   obtain⟨qi,qv⟩:=q
   simp only at hq1 hq2
   subst hq1
   split at hsp
   ·rename_i hb
    obtain⟨cs',h2,h3⟩:=(spliceK_pk _ _ _).some hsp
    have hcells:=hq2.cells
    obtain⟨h4,h5⟩:=splice_reps hc hcells h3
    obtain⟨es,h6,h7⟩:=fill_sem place (by simpa using hl) (fun j x y hx hy=>hp (j+1) x y (by simpa using hx) (by simpa using hy)) h5 h2
    refine⟨es,?_,h7⟩
    have hsz:qv.cells.size=p.2:=by
     have e1:qv.cells.toList.length=v.cells.length:=hcells.1
     have e2:=Nat.eq_of_beq_eq_true hb
     simp at e1
     omega
    obtain⟨off,size⟩:=p
    simp only at hsz h4 h5 h6
    simp only [Instr.fill,h1]
    have hlen:qv.cells.toList.length=qv.cells.size:=by simp
    have hnot:(decide (qv.cells.size≠size)||decide (off+qv.cells.size>ds.size))=false:=by
     simp
     exact⟨hsz,by omega⟩
    rw [if_neg (by simpa using hnot)]
    rw [←h6]
    congr 1
    rw [←Array.foldl_toList,Array.toList_zipIdx]
   ·cases hsp
theorem places_eq:∀ {fs:List Field}{ps:List (Nat×Nat)},fieldPlaces cx fs=some ps→fs.mapM (fun f=>(cx.P.info? f.type).map fun i=>(f.offset,i.size))=some ps
 | [],ps,h=>by cases h;rfl
 |f::fs,ps,h=>by
  simp only [fieldPlaces] at h
  obtain⟨n,h1,h⟩:=bind_some_iff h
  obtain⟨r,h2,h⟩:=bind_some_iff h
  cases h
  unfold Cx.size at h1
  obtain⟨i,h3,h4⟩:=bind_some_iff h1
  cases h4
  simp [List.mapM_cons,h3,places_eq h2]
theorem buildV_sem {t:TypeId}{ps:List (Nat×AV)}{qs:Array (Nat×Value)}{av:AV}(hl:qs.size=ps.length) (hp:∀(j:Nat) (p:Nat×AV) (q:Nat×Value),ps[j]?=some p→qs.toList[j]?=some q→q.1=p.1∧Rep S w μ p.2 q.2) (h:buildV cx t ps some=some av):∃v,Rep S w μ av v∧∀w',(Instr.build t qs).run cx.P w' = .ok v w':=by
 unfold buildV at h
 obtain⟨zc,hzz,h⟩:=bind_some_iff h
 unfold zeroCells Cx.zero at hzz
 obtain⟨z,hz1,hz⟩:=bind_some_iff hzz
 cases hz
 obtain⟨it,hit,h1⟩:=bind_some_iff hz1
 obtain⟨d,hd,h⟩:=bind_some_iff h
 have hz:Reps S w μ ((zcells z).map .val) z.cells.toList:=reps_vals _
 split at h
 ·rename_i fields
  obtain⟨pl,h2,h⟩:=bind_some_iff h
  obtain⟨cs,h3,h4⟩:=(fillA_pk _ _ _).some h
  cases h3
  obtain⟨es,h5,h6⟩:=fill_sem (S:=S) (w:=w) (μ:=μ) (fun i=>pl[i]?) (qs:=qs.toList) (by simpa using hl) hp hz h4
  refine⟨.agg es,by simpa using Rep.of_agg h6,fun w'=>run_build w' t qs es ?_⟩
  unfold Program.built
  rw [hit,hd]
  simp only [h1,places_eq h2]
  simpa using h5
 ·rename_i len elem
  obtain⟨s,h2,h⟩:=bind_some_iff h
  obtain⟨cs,h3,h4⟩:=(fillA_pk _ _ _).some h
  cases h3
  obtain⟨es,h5,h6⟩:=fill_sem (S:=S) (w:=w) (μ:=μ) (fun i=>some (i*s,s)) (qs:=qs.toList) (by simpa using hl) hp hz h4
  refine⟨.agg es,by simpa using Rep.of_agg h6,fun w'=>run_build w' t qs es ?_⟩
  unfold Cx.size at h2
  obtain⟨ie,h7,h8⟩:=bind_some_iff h2
  cases h8
  unfold Program.built
  rw [hit,hd]
  simp only [h1,h7]
  exact h5
 ·cases h
end
end Go.Proofs.Av
/-A slice's elements in memory;bytes as a text;structs that are the same. -/
namespace Go.Proofs.Av
open Go
def SrcV (w:World) (size:Nat) (y:Value) (m:Nat) (news:List Value):Prop:=news.length=m*size∧(∀u∈news,u.oneCell'=true)∧((y = .slice none 0 0∧m=0) ∨
 ∃a c,y = .slice (some a) m c∧∀(j:Nat) (u:Value),news[j]?=some u→w.cell? (a.add j)=some u)
theorem div_mod_lt {j m s:Nat}(hs:0<s) (hj:j<m*s):j/s<m∧j%s<s∧j/s*s+j%s=j:=by
 refine⟨(Nat.div_lt_iff_lt_mul hs).2 hj,Nat.mod_lt _ hs,?_⟩
 have:=Nat.div_add_mod j s
 rw [Nat.mul_comm] at this
 exact this
section
variable {cx:Cx}{S:Nat→Prop}{w:World}{μ:Mu}{h:Heap}
theorem one_cell {v:AV}{u:Value}(h:v.one=true) (hr:Rep S w μ v u):u.oneCell'=true:=by
 cases hr<;>first |rfl |skip
 case val=>cases u<;>first |rfl | (simp [AV.one] at h)
 all_goals simp [AV.one] at h
theorem yRows_src (hH:HRel S w μ h) {sz:Nat}(hs:0<sz) {y:AV}{v:Value}(hy:Rep S w μ y v) {ys:List (List AV)}(hr:yRows h sz y=some ys) (hok:ysOk ys=true):∃news,SrcV w sz v ys.length news∧(∀e∈ys,e.length=sz)∧∀(i j:Nat) (e:List AV) (a:AV),ys[i]?=some e→e[j]?=some a→∃u,news[i*sz+j]?=some u∧Rep S w Mu.none a u:=by
 have hone:∀(i j:Nat) (e:List AV) (a:AV),ys[i]?=some e→e[j]?=some a→a.one=true:=fun i j e a he ha =>
  List.all_eq_true.1 (List.all_eq_true.1 hok e (List.mem_of_getElem? he)) a (List.mem_of_getElem? ha)
 have build:∀(m:Nat) (f:Nat→Nat→Value),ys.length=m→(∀e∈ys,e.length=sz)→(∀(i j:Nat) (e:List AV) (a:AV),ys[i]?=some e→e[j]?=some a→Rep S w Mu.none a (f i j)) →
   ((v = .slice none 0 0∧m=0)∨∃b off c,v = .slice (some ⟨b,off,none⟩) m c∧∀i j,i<m→j<sz→w.cell? ⟨b,off+i*sz+j,none⟩=some (f i j)) →
   ∃news,SrcV w sz v ys.length news∧(∀e∈ys,e.length=sz)∧∀(i j:Nat) (e:List AV) (a:AV),ys[i]?=some e→e[j]?=some a→∃u,news[i*sz+j]?=some u∧Rep S w Mu.none a u:=by
  intro m f hm hlen hrep hv
  subst hm
  have hget:∀k u,((List.range (ys.length*sz)).map fun k=>f (k/sz) (k%sz))[k]?=some u→k<ys.length*sz∧u=f (k/sz) (k%sz):=fun k u hu=>by
   have hk:=(List.getElem?_eq_some_iff.1 hu).1
   simp at hk
   simp [hk] at hu
   exact⟨hk,hu.symm⟩
  refine⟨(List.range (ys.length*sz)).map fun k=>f (k/sz) (k%sz),⟨by simp,fun u hu=> ?_,?_⟩,hlen,fun i j e a he ha=> ?_⟩
  ·obtain⟨k,hk⟩:=List.mem_iff_getElem?.1 hu
   obtain⟨hkl,rfl⟩:=hget k u hk
   obtain⟨d1,d2,d3⟩:=div_mod_lt hs hkl
   have he:ys[k/sz]?=some ys[k/sz]:=List.getElem?_eq_getElem d1
   have hel:=hlen _ (List.getElem_mem d1)
   have ha:ys[k/sz][k%sz]?=some (ys[k/sz][k%sz]'(by omega)):=List.getElem?_eq_getElem (by omega)
   exact one_cell (hone _ _ _ _ he ha) (hrep _ _ _ _ he ha)
  ·rcases hv with⟨rfl,h0⟩ |⟨b,off,c,rfl,hc⟩
   ·exact .inl ⟨rfl,h0⟩
   ·refine .inr ⟨⟨b,off,none⟩,c,rfl,fun k u hu=> ?_⟩
    obtain⟨hkl,rfl⟩:=hget k u hu
    obtain⟨d1,d2,d3⟩:=div_mod_lt hs hkl
    have:=hc _ _ d1 d2
    rw [Nat.add_assoc,d3] at this
    have hadd:(⟨b,off,none⟩:Addr).add k=⟨b,off+k,none⟩:=by unfold Addr.add;split<;>simp_all
    rw [hadd]
    exact this
  ·have hi:=(List.getElem?_eq_some_iff.1 he).1
   have hj:=(List.getElem?_eq_some_iff.1 ha).1
   have hel:=hlen e (List.mem_of_getElem? he)
   have hlt:i*sz+j<ys.length*sz:=by
    have:(i+1)*sz≤ys.length*sz:=Nat.mul_le_mul_right _ hi
    rw [Nat.add_mul,Nat.one_mul] at this
    omega
   refine⟨f i j,?_,hrep i j e a he ha⟩
   have hd:(i*sz+j)/sz=i:=by
    rw [Nat.mul_comm,Nat.mul_add_div hs,Nat.div_eq_of_lt (by omega)]
    omega
   have hm:(i*sz+j)%sz=j:=by
    rw [Nat.mul_comm,Nat.mul_add_mod,Nat.mod_eq_of_lt (by omega)]
   simp [hlt,hd,hm]
 unfold yRows at hr
 split at hr
 ·rename_i fl sz' es
  obtain⟨_,h1,hr⟩:=bind_some_iff hr
  cases hr
  have hsz:=chk_eq h1
  subst hsz
  cases hy with
  |list b off cap f hS hlen hc hr hcap hfull=>exact build _ f rfl hlen hr (.inr ⟨b,off,cap,rfl,hc⟩)
  |nil=>exact build 0 (fun _ _=>undef) rfl (fun e he=>by cases he) (fun i j e a he=>by simp at he) (.inl ⟨rfl,rfl⟩)
  |empty a cap hf =>
   refine⟨[],⟨by simp,(fun u hu=>by cases hu),.inr ⟨a,cap,rfl,fun j u hu=>by simp at hu⟩⟩,(fun e he=>by cases he),fun i j e a he=>by simp at he⟩
 ·cases hr
  have hv:=hy.inv_val
  exact build 0 (fun _ _=>undef) rfl (fun e he=>by cases he) (fun i j e a he=>by simp at he) (.inl ⟨hv,rfl⟩)
 ·rename_i r ver off len
  obtain⟨o,h1,hr⟩:=bind_some_iff hr
  obtain⟨_,h2,hr⟩:=bind_some_iff hr
  obtain⟨_,h3,hr⟩:=bind_some_iff hr
  have hsz:=chk_eq h3
  split at hr
  ·rename_i hk
   obtain⟨_,h4,hr⟩:=bind_some_iff hr
   cases hr
   have hle:off+len≤o.es.length:=by
    unfold chkLe at h4
    split at h4
    ·assumption
    ·cases h4
   have hlen:((o.es.take (off+len)).drop off).length=len:=by simp;omega
   have get:∀(i:Nat) (e:List AV),((o.es.take (off+len)).drop off)[i]?=some e→o.es[off+i]?=some e:=by
    intro i e he
    rw [List.getElem?_drop,List.getElem?_take] at he
    split at he
    ·exact he
    ·cases he
   by_cases h0:len=0
   ·have hnil:(o.es.take (off+len)).drop off=[]:=List.eq_nil_of_length_eq_zero (by omega)
    rw [hnil]
    subst h0
    cases hy with
    |arr0 a ha=>exact⟨[],⟨by simp,(fun u hu=>by cases hu),.inr ⟨_,0,rfl,fun j u hu=>by simp at hu⟩⟩,(fun e he=>by cases he),fun i j e a he=>by simp at he⟩
    |anil=>exact⟨[],⟨by simp,(fun u hu=>by cases hu),.inl ⟨rfl,rfl⟩⟩,(fun e he=>by cases he),fun i j e a he=>by simp at he⟩
    |arr b cap hb hcap=>exact⟨[],⟨by simp,(fun u hu=>by cases hu),.inr ⟨_,cap,rfl,fun j u hu=>by simp at hu⟩⟩,(fun e he=>by cases he),fun i j e a he=>by simp at he⟩
   ·have hes:o.es[off]?=some (o.es[off]'(by omega)):=List.getElem?_eq_getElem (by omega)
    obtain⟨b',vs,t,C',g1,g2,g3,g4,g5,_,g6,g7⟩:=(hH.solid h1 hes).ex
    cases hy with
    |anil=>exact absurd rfl h0
    |arr0 a ha=>exact absurd rfl h0
    |arr b cap hb hcap =>
     rw [hb] at g1
     cases g1
     subst hsz
     refine build len (fun i j=>vs.getD ((off+i)*o.sz+j) undef) hlen (fun e he=> ?_) (fun i j e a he ha=> ?_) (.inr ⟨_,off*o.sz,cap,rfl,fun i j hi hj=> ?_⟩)
     ·obtain⟨i,hi⟩:=List.mem_iff_getElem?.1 he
      exact g6 _ e (get i e hi)
     ·obtain⟨u,hu,hru⟩:=g7 _ j e a (get i e he) ha
      rw [Array.getD_eq_getD_getElem?,hu]
      simp only [Option.getD_some]
      unfold Ob.mu at hru
      rw [hk] at hru
      exact hru
     ·rw [cell_of_cells g2,←Nat.add_mul]
      have:(off+i+1)*o.sz≤o.es.length*o.sz:=Nat.mul_le_mul_right _ (by omega)
      rw [Nat.add_mul,Nat.one_mul] at this
      rw [Array.getD_eq_getD_getElem?,Array.getElem?_eq_getElem (by omega)]
      rfl
  ·cases hr
 ·cases hr
theorem cell_extA {w w':World}(hx:Ext w w') {a:Addr}{v:Value}(h:w.cell? a=some v):w'.cell? a=some v:=by
 obtain⟨b,o,s⟩:=a
 rw [cell_of_block (hx b ?_) o s]
 ·exact h
 ·rcases Nat.lt_or_ge b w.heap.size with hb |hb
  ·exact hb
  ·have:w.heap[b]?=none:=by simp;omega
   unfold World.cell? at h
   simp only [this] at h
   cases h
theorem numsOf_get:∀ {ys:List (List AV)}{ns:List Int},numsOf ys=some ns→ys=ns.map fun n=>[AV.val (.int .u8 n)]
 | [],ns,hn=>by cases hn;rfl
 |e::r,ns,hn=>by
  simp only [numsOf] at hn
  obtain⟨p,h1,hn⟩:=bind_some_iff hn
  obtain⟨_,h2,hn⟩:=bind_some_iff hn
  obtain⟨n,h3,hn⟩:=bind_some_iff hn
  obtain⟨ns',h4,hn⟩:=bind_some_iff hn
  cases hn
  rw [uncons_eq h1,nil_eq h2,wk_int h3,numsOf_get h4]
  rfl
theorem bytesV_sem (hH:HRel S w μ h) {s d:TypeId}{x av:AV}{u:Value}(hx:Rep S w μ x u) (hb:bytesV cx h s d x some=some av):∃r,av = .val r∧∀w',Ext w w'→(convert s d u).run cx.P w' = .ok r w':=by
 unfold bytesV at hb
 obtain⟨d1,h1,hb⟩:=bind_some_iff hb
 split at hb
 ·rename_i e
  obtain⟨d2,h2,hb⟩:=bind_some_iff hb
  split at hb
  ·obtain⟨d3,h3,hb⟩:=bind_some_iff hb
   split at hb
   ·obtain⟨ys,h4,hb⟩:=bind_some_iff hb
    obtain⟨ns,h5,hb⟩:=bind_some_iff hb
    cases hb
    have hys:=numsOf_get h5
    have hok:ysOk ys=true:=by
     rw [hys]
     simp only [ysOk,List.all_map,List.all_eq_true]
     intro n _
     rfl
    obtain⟨news,⟨s1,s2,s3⟩,_,s4⟩:=yRows_src hH Nat.one_pos hx h4 hok
    have hlen:ys.length=ns.length:=by rw [hys];simp
    have hnews:news=ns.map (Value.int .u8):=by
     apply List.ext_getElem?
     intro i
     by_cases hi:i<ns.length
     ·obtain⟨v,hv,hrv⟩:=s4 i 0 [AV.val (.int .u8 ns[i])] (.val (.int .u8 ns[i])) (by rw [hys];simp [hi]) rfl
      rw [Nat.mul_one,Nat.add_zero] at hv
      rw [hv,hrv.inv_val]
      simp [hi]
     ·rw [List.getElem?_eq_none (by rw [s1,hlen];omega),List.getElem?_eq_none (by simp;omega)]
    refine⟨_,rfl,fun w' hx'=> ?_⟩
    rcases s3 with⟨rfl,h0⟩ |⟨a,c,rfl,hc⟩
    ·have:ns=[]:=List.eq_nil_of_length_eq_zero (by omega)
     subst this
     exact run_convert_bytes_nil (P:=cx.P) w' s e h1 h2 0 0 d h3
    ·rw [hlen,run_convert_bytes_string w' s d e (some a) ns.length c h1 h2 h3]
     have hl:(loadCells a ns.length).run cx.P w' = .ok (ns.map (Value.int .u8)).toArray w':=by
      have:=run_loadCells_list (P:=cx.P) w' a (ns.map (Value.int .u8)) (fun j v hj=>by
       have:=hc j v (by rw [hnews];exact hj)
       exact cell_extA hx' this)
      simpa using this
     rw [run_bytesToString w' a ns.length c ns hl,foldl_push_bytes]
     simp [strOfNums,ByteArray.empty,ByteArray.emptyWithCapacity]
     rfl
   ·cases hb
  ·cases hb
 ·cases hb
theorem eqFs_sem {d:Nat}{eq:TypeId→AV→AV→Option Bool}(he:∀ {t:TypeId}{x y:AV}{u v:Value}{b:Bool},eq t x y=some b→Rep S w μ x u→Rep S w μ y v→∀w',(Op.equalIn d t u v).run cx.P w' = .ok b w') :
  ∀ {fs:List Field}{xs ys:List AV}{us vs:List Value}{b:Bool},eqFs cx eq xs ys fs=some b→Reps S w μ xs us→Reps S w μ ys vs→∀w',(Op.eqFields d us.toArray vs.toArray fs).run cx.P w' = .ok b w'
 | [],xs,ys,us,vs,b,h,hx,hy,w'=>by cases h;rfl
 |f::fs,xs,ys,us,vs,b,h,hx,hy,w'=>by
  simp only [eqFs] at h
  cases hn:(f.name== "_") with
  |true=>rw [hn] at h;cases h
  |false =>
   rw [hn] at h
   simp only [cond_false] at h
   obtain⟨x,h1,h⟩:=bind_some_iff h
   obtain⟨y,h2,h⟩:=bind_some_iff h
   obtain⟨r,h3,h⟩:=bind_some_iff h
   obtain⟨r',h4,h⟩:=bind_some_iff h
   cases h
   obtain⟨u,g1,g2⟩:=part_sem (cx:=cx) hx h1
   obtain⟨v,g3,g4⟩:=part_sem (cx:=cx) hy h2
   have hne:f.name≠ "_" :=by simpa using hn
   simp only [Op.eqFields,Sem.run_ite,if_pos hne,Sem.run_bind,g2 w',Result.andThen_ok,g4 w',he h3 g1 g3 w']
   cases r with
   |true=>simpa using eqFs_sem he h4 hx hy w'
   |false=>simp
theorem eqV_sem:∀(n d:Nat) {t:TypeId}{x y:AV}{u v:Value}{b:Bool},eqV cx n t x y=some b→Rep S w μ x u→Rep S w μ y v→∀w',(Op.equalIn (d+n) t u v).run cx.P w' = .ok b w'
 | 0,d,t,x,y,u,v,b,h,hx,hy,w'=>by cases h
 |n+1,d,t,x,y,u,v,b,h,hx,hy,w'=>by
  simp only [eqV] at h
  obtain⟨td,h1,h⟩:=bind_some_iff h
  split at h
  ·cases h
   rw [hx.inv_val,hy.inv_val]
   exact run_equalIn_bool' w' (d+n) t _ _ h1
  ·split at h
   ·rename_i hk
    cases h
    subst hk
    rw [hx.inv_val,hy.inv_val]
    exact run_equalIn_int w' (d+n) t _ _ _ _ h1
   ·cases h
  ·cases h
   rw [hx.inv_val,hy.inv_val]
   exact run_equalIn_string w' (d+n) t _ _ h1
  ·rename_i fs xs ys _
   obtain⟨us,rfl,hus⟩:=hx.inv_agg
   obtain⟨vs,rfl,hvs⟩:=hy.inv_agg
   cases hq:cx.eqOk t with
   |false=>rw [hq] at h;cases h
   |true =>
    have hp:=(cx.eq_ok t hq).2
    rw [hq] at h
    simp only [cond_true] at h
    have hf:cx.P.fieldsOf t=fs:=by unfold Program.fieldsOf;rw [h1]
    rw [show d+(n+1)=(d+n)+1 from rfl,run_equalIn_agg w' (d+n) t us vs (by rw [hf];exact h1) hp,hf]
    have:=eqFs_sem (cx:=cx) (d:=d+n) (fun h hx hy w'=>eqV_sem n d h hx hy w') h hus hvs w'
    simpa using this
  ·cases h
theorem binW_agg_sem {op:BinOp}{t:TypeId}{xs ys:List AV}{av:AV}{u v:Value}(hx:Rep S w μ (.agg xs) u) (hy:Rep S w μ (.agg ys) v) (h:binW cx op t (.agg xs) (.agg ys) some=some av) (w':World) (ox oy:Operand):∃r,av = .val r∧(do eqGuard op t ox oy u v;binOp op t u v:Sem Value).run cx.P w' = .ok r w':=by
 unfold binW at h
 simp only at h
 cases hq:cx.eqOk t with
 |false=>rw [hq] at h;cases h
 |true =>
  have hg:=(cx.eq_ok t hq).1
  rw [hq] at h
  simp only [cond_true] at h
  obtain⟨b,h1,h⟩:=bind_some_iff h
  obtain⟨us,rfl,hus⟩:=hx.inv_agg
  obtain⟨vs,rfl,hvs⟩:=hy.inv_agg
  have he:=eqV_sem (cx:=cx) 8 9992 h1 hx hy w'
  simp only [Sem.run_bind,run_eqGuard_agg w' op t ox oy us vs hg,Result.andThen_ok]
  split at h
  ·cases h
   refine⟨_,rfl,?_⟩
   rw [run_eql_struct,he]
   rfl
  ·cases h
   refine⟨_,rfl,?_⟩
   rw [run_neq_struct,he]
   rfl
  ·cases h
end
end Go.Proofs.Av
