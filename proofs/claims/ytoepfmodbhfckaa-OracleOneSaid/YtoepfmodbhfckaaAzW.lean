/- Library functions that turn a slice's elements in place (slices.SortFunc, slices.Sort), told once. -/
import Derived.Test.YtoepfmodbhfckaaAzT
import Derived.Shelf.SlSortCmp.WholeK
import Derived.Shelf.SlSortCmp.NoneTotal
namespace Go.Proofs.Av
open Go Go.Sort
def sortBy {α:Type}(dec:List AV→Option α) (enc:α→List AV) (le:α→α→Bool) (es:List (List AV)):Option (List (List AV)) :=
 (es.mapM dec).bind fun d=>some ((d.mergeSort le).map enc)
def restIs (g:Option Nat):List AV→Bool
 | []=>g.isNone
 | [.func (.func g') [] []]=>match g with
  |some g=>Nat.beq g' g
  |none=>false
 | _=>false
def restV (g:Option Nat):List Value:=match g with
 |some g=>[.func (.func g) #[] #[]]
 |none=>[]
def sortZ {α:Type}(g:Option Nat) (dec:List AV→Option α) (enc:α→List AV) (le:α→α→Bool) (rest:List AV) (es:List (List AV)):Option (List (List AV)) :=
 cond (restIs g rest) (sortBy dec enc le es) none
section
variable {cx:Cx}{K:Kf}{N:Nat}{S:Nat→Prop}{μ:Mu}{env:Env}{h:Heap}{tmps:Array Value}{w:World}
theorem rest_reps {g:Option Nat}{rest:List AV}{us:List Value}(hr:restIs g rest=true) (h:Reps S w μ rest us):us=restV g:=by
 unfold restIs at hr
 split at hr
 ·cases g with
  |none=>exact h.inv_nil
  |some _=>cases hr
 ·rename_i g'
  cases g with
  |none=>cases hr
  |some g =>
   have:=Nat.eq_of_beq_eq_true hr
   subst this
   obtain⟨v,r,rfl,h1,h2⟩:=h.inv_cons
   rw [h2.inv_nil]
   cases h1 with
   |func us vs hu hl hf hr =>
    have e1:us= #[]:=Array.eq_empty_of_size_eq_zero (by simpa using hu)
    have e2:vs= #[]:=Array.eq_empty_of_size_eq_zero (by simpa using hl)
    rw [e1,e2]
    rfl
 ·cases hr
theorem mapM_len {α β:Type}{f:α→Option β}{xs:List α}{ys:List β}(h:xs.mapM f=some ys):ys.length=xs.length:=(mapM_get h).1
theorem sortWorld_eq {α:Type} [Inhabited α] (encV:α→List Value) (k:Nat) (b off n:Nat) (d:Array α) (os:Array Obj) {vs:Array Value}{t:TypeId}(hw:w.heap[b]?=some (.cells vs t (0,0))):sortWorldK encV k w b off n d os=World.setRow (grow (Sort.ahead w n) os) b (putCells id off (flatK encV k d) vs):=by
 unfold sortWorldK putRowK putRow mapBlock
 have hb:=(Array.getElem?_eq_some_iff.1 hw).1
 unfold World.setRow grow
 congr 1
 apply Array.ext_getElem?
 intro j
 by_cases hj:j<w.heap.size
 ·rw [Array.getElem?_append_left (by simpa [Sort.ahead] using hj)]
  simp only [Array.getElem?_modify]
  by_cases hk:b=j
  ·subst hk
   simp [Sort.ahead,hw,onCells,Array.getElem?_append_left hb]
  ·simp [hk,Sort.ahead,Array.getElem?_append_left hj]
 ·have hne:b≠j:=by omega
  rw [Array.getElem?_append_right (by simpa [Sort.ahead] using Nat.le_of_not_lt hj)]
  simp [Array.getElem?_modify,hne,Sort.ahead,Array.getElem?_append_right (Nat.le_of_not_lt hj)]
theorem dec_rows {α:Type}{dec:List AV→Option α}{enc:α→List AV}(hdec:∀e x,dec e=some x→e=enc x) {es:List (List AV)}{d:List α}(h:es.mapM dec=some d):es=d.map enc:=by
 obtain⟨h1,h2⟩:=mapM_get h
 apply List.ext_getElem?
 intro i
 rw [List.getElem?_map]
 cases hd:d[i]? with
 |none =>
  rw [List.getElem?_eq_none (by rw [←h1];exact List.getElem?_eq_none_iff.1 hd)]
  rfl
 |some x =>
  obtain⟨e,h3,h4⟩:=h2 i x hd
  rw [h3,hdec e x h4]
  rfl
theorem flat_at {α:Type} [Inhabited α] {encV:α→List Value}{k:Nat}(hk:∀x,(encV x).length=k) {d:List α}{i j:Nat}{x:α}{u:Value}(hi:d[i]?=some x) (hj:(encV x)[j]?=some u):(flatK encV k d.toArray)[i*k+j]! =u:=by
 have hil:=(List.getElem?_eq_some_iff.1 hi).1
 have hjl:=(List.getElem?_eq_some_iff.1 hj).1
 rw [hk] at hjl
 have hlt:i*k+j<d.toArray.size*k:=by
  have:(i+1)*k≤d.length*k:=Nat.mul_le_mul_right _ hil
  rw [Nat.add_mul,Nat.one_mul] at this
  simp
  omega
 have h0:0<k:=by omega
 rw [get_flatK _ _ _ _ hlt]
 have e1:(i*k+j)/k=i:=by rw [Nat.mul_comm,Nat.mul_add_div h0,Nat.div_eq_of_lt hjl,Nat.add_zero]
 have e2:(i*k+j)%k=j:=by rw [Nat.mul_comm,Nat.mul_add_mod,Nat.mod_eq_of_lt hjl]
 rw [e1,e2]
 have e3:d.toArray[i]! =x:=by simp [hi]
 rw [e3]
 simp [hj]
theorem turn_ok {α:Type} [Inhabited α] {f:FuncId}(hf:Fact cx f) {t:TypeId}(g:Option Nat) {dec:List AV→Option α}{enc:α→List AV}{encV:α→List Value}{le:α→α→Bool}{k:Nat}(k0:0<k) (hq:∀q,sliceInfo cx t=some q→q.2.1=k) (hdec:∀e x,dec e=some x→e=enc x) (henc:∀x,enc x=(encV x).map AV.val) (hk:∀x,(encV x).length=k) (hnone:∀p cap w,Calls cx.P f (#[.slice p 0 cap]++(restV g).toArray) w fun e w'=>e = .returned (.tuple #[])∧w'=w) (hrow:∀blk off cap (d:Array α) w,HoldsK encV k w blk off d→blk<w.heap.size→d.size<4611686018427387904→Calls cx.P f (#[.slice (some ⟨blk,off,none⟩) d.size cap]++(restV g).toArray) w fun e w'=>e = .returned (.tuple #[])∧∃n os,w'=sortWorldK encV k w blk off n (d.toList.mergeSort le).toArray os):Fact cx f∧∀(K:Kf) (N:Nat) (S:Nat→Prop) (μ:Mu) (env:Env) (h:Heap) (tmps:Array Value) (w:World) (als:List AV) (vs:List Value) (av:AV) (h':Heap),St cx K N S μ env h tmps w→Reps S w μ als vs→turnV cx t (sortZ g dec enc le) als h (fun v h=>some (v,h))=some (av,h')→Calls cx.P f vs.toArray w fun e w'=>∃cv S' μ',e = .returned cv∧Rep S' w' μ' av cv∧St cx K N S' μ' env h' tmps w':=by
 refine⟨hf,fun K N S μ env h tmps w als us av h' st hr ht=> ?_⟩
 unfold turnV at ht
 split at ht
 ·rename_i x rest
  obtain⟨q,h1,ht⟩:=bind_some_iff ht
  have hqk:=hq q h1
  obtain⟨v,r,rfl,h2,h3⟩:=hr.inv_cons
  have ev:(v::r).toArray= #[v]++r.toArray:=by simp
  split at ht
  ·obtain⟨zs,h4,ht⟩:=bind_some_iff ht
   cases ht
   unfold sortZ at h4
   cases hri:restIs g rest with
   |false=>rw [hri] at h4;cases h4
   |true =>
    rw [ev,rest_reps hri h3,h2.inv_val]
    exact(hnone none 0 w).mono fun e w' ⟨g1,g2⟩=>by subst g2;exact⟨_,S,μ,g1,.val _,st⟩
  ·rename_i r0 ver off len _
   obtain⟨o,h4,ht⟩:=bind_some_iff ht
   obtain⟨_,h5,ht⟩:=bind_some_iff ht
   obtain⟨_,h6,ht⟩:=bind_some_iff ht
   split at ht
   ·rename_i hok
    obtain⟨_,h7,ht⟩:=bind_some_iff ht
    split at ht
    case isFalse=>cases ht
    rename_i hbig
    obtain⟨zs,h8,ht⟩:=bind_some_iff ht
    cases ht
    unfold sortZ at h8
    cases hri:restIs g rest with
    |false=>rw [hri] at h8;cases h8
    |true =>
     rw [hri] at h8
     simp only [cond_true] at h8
     rw [ev,rest_reps hri h3]
     unfold sortBy at h8
     obtain⟨d,h9,h10⟩:=bind_some_iff h8
     cases h10
     have hle:off+len≤o.es.length:=by
      unfold chkLe at h7
      split at h7
      ·assumption
      ·cases h7
     have hver:o.ver=ver:=by
      unfold chk at h5
      split at h5
      ·assumption
      ·cases h5
     have hosz:o.sz=k:=by
      unfold chk at h6
      split at h6
      ·rw [←hqk];assumption
      ·cases h6
     have hrows:=dec_rows hdec h9
     have hdl:d.length=len:=by
      have:=mapM_len h9
      rw [this]
      simp
      omega
     have hzl:((d.mergeSort le).map enc).length=len:=by simp [hdl]
     by_cases hl0:len=0
     ·subst hl0
      have hd0:d=[]:=List.eq_nil_of_length_eq_zero hdl
      subst hd0
      obtain⟨p,cap,rfl⟩:∃p cap,v = .slice p 0 cap:=by
       cases h2 with
       |arr0 a=>exact⟨_,_,rfl⟩
       |anil=>exact⟨_,_,rfl⟩
       |arr b cap=>exact⟨_,_,rfl⟩
      refine(hnone p cap w).mono fun e w' ⟨g1,g2⟩=> ?_
      subst g2
      refine⟨_,S,μ,g1,.val _,?_⟩
      have e1:({ o with es:=o.es.take off++([].mergeSort le).map enc++o.es.drop (off+0) }:Ob)=o:=by simp
      rw [e1]
      have e2:h.set r0 o=h:=by
       apply List.ext_getElem?
       intro j
       by_cases hj:r0=j
       ·subst hj
        rw [List.getElem?_set_self (List.getElem?_eq_some_iff.1 h4).1,h4]
       ·rw [List.getElem?_set_ne hj]
      rw [e2]
      exact st
     ·cases h2 with
      |arr0 a=>exact absurd rfl hl0
      |anil=>exact absurd rfl hl0
      |arr b cap hb hcap =>
       have hsol:ObRel S w μ r0 o:=by
        rcases st.heap r0 o h4 with⟨d1,_⟩ |⟨_,_,d1⟩ |⟨_,d1⟩
        ·rw [hok] at d1;cases d1
        ·rw [hb] at d1;cases d1
        ·exact d1
       obtain⟨b',vs,t0,C,c1,c2,c3,c4,c5,c5',c6,c7⟩:=hsol.ex
       have hb0:=hb
       rw [c1] at hb0
       cases hb0
       obtain⟨c8,c9⟩:=c5' hok
       rw [hosz] at c5 c6 c7 c8
       have hmu:o.mu μ=Mu.none:=by
        unfold Ob.mu
        rw [hok]
       have hbs:=(Array.getElem?_eq_some_iff.1 c2).1
       have hcell:∀i j x u,d[i]?=some x→(encV x)[j]?=some u→vs[(off+i)*k+j]?=some u:=fun i j x u hi hj=>by
        have he:o.es[off+i]?=some (enc x):=by
         have:((o.es.take (off+len)).drop off)[i]?=some (enc x):=by rw [hrows,List.getElem?_map,hi];rfl
         rw [List.getElem?_drop,List.getElem?_take] at this
         split at this
         ·exact this
         ·cases this
        obtain⟨y,g1,g2⟩:=c7 (off+i) j (enc x) (.val u) he (by rw [henc,List.getElem?_map,hj];rfl)
        rw [g2.inv_val] at g1
        exact g1
       have hH:HoldsK encV k w b (off*k) d.toArray:=by
        intro t ht
        have ht':t<d.length*k:=by simpa using ht
        have hi:t/k<d.length:=Nat.div_lt_of_lt_mul (by rw [Nat.mul_comm];exact ht')
        have hj:t%k<k:=Nat.mod_lt _ k0
        have hti:t/k*k+t%k=t:=by rw [Nat.mul_comm];exact Nat.div_add_mod t k
        obtain⟨x,hx⟩:∃x,d[t/k]?=some x:=⟨_,List.getElem?_eq_getElem hi⟩
        obtain⟨u,hu⟩:∃u,(encV x)[t%k]?=some u:=⟨_,List.getElem?_eq_getElem (by rw [hk];exact hj)⟩
        have g1:=hcell _ _ x u hx hu
        have g2:=flat_at hk hx hu
        rw [hti] at g2
        rw [g2]
        have e1:(off+t/k)*k+t%k=off*k+t:=by rw [Nat.add_mul];omega
        rw [e1] at g1
        refine⟨?_,?_⟩
        ·simp [World.cell?,c2,g1]
        ·simp [World.frozen?,c2]
       have hs:o.sz=k:=hosz
       have key:=hrow b (off*k) cap d.toArray w hH hbs (by simp [hdl];omega)
       have hsz:d.toArray.size=len:=by simp [hdl]
       rw [hsz] at key
       simp only [] at key
       have hkk:off*o.sz=off*k:=by rw [hosz]
       rw [hkk]
       refine key.mono fun e w' ⟨g1,n,os,g2⟩=> ?_
       refine⟨_,S,μ,g1,.val _,?_⟩
       rw [g2,sortWorld_eq encV k b (off*k) n _ os c2]
       have st1:St cx K N S μ env h tmps (grow (Sort.ahead w n) os):=st.ext (fun b hb=>by simp [grow,Sort.ahead,Array.getElem?_append_left hb]) (by simp [grow,Sort.ahead]) rfl rfl ⟨rfl,by simp [grow,Sort.ahead]⟩ (fun _ h=>h) (fun _ h => .inl h) fun b hb=>by
        have:=st.slt b hb
        simp [grow,Sort.ahead]
        omega
       have hSk:∀b,S b→(grow (Sort.ahead w n) os).heap[b]?=w.heap[b]?:=fun b hb=>by
        simp [grow,Sort.ahead,Array.getElem?_append_left (st.slt b hb)]
       have hml:(d.mergeSort le).length=len:=by simp [hdl]
       have hput:∀t:Nat,t<vs.size→(putCells id (off*k) (flatK encV k (d.mergeSort le).toArray) vs)[t]?=some (if off*k≤t∧t<off*k+len*k then(flatK encV k (d.mergeSort le).toArray)[t-off*k]! else vs[t]!):=fun t ht=>by
        unfold putCells
        rw [Array.getElem?_mapIdx,Array.getElem?_eq_getElem ht]
        simp [hml,ht]
       have hcap':(off+len)*k≤vs.size:=Nat.le_trans (Nat.mul_le_mul_right _ hle) c5
       have hl':(o.es.take off++(d.mergeSort le).map enc++o.es.drop (off+len)).length=o.es.length:=by
        simp [hdl]
        omega
       have hget:∀(i:Nat) (e:List AV),(o.es.take off++(d.mergeSort le).map enc++o.es.drop (off+len))[i]?=some e→(i<off∨off+len≤i)∧o.es[i]?=some e∨off≤i∧i<off+len∧∃x,(d.mergeSort le)[i-off]?=some x∧e=enc x:=fun i e he=>by
        have hto:(o.es.take off).length=off:=by simp;omega
        by_cases h1:i<off
        ·rw [List.append_assoc,List.getElem?_append_left (by omega),List.getElem?_take,if_pos h1] at he
         exact .inl ⟨.inl h1,he⟩
        ·by_cases h2:i<off+len
         ·rw [List.append_assoc,List.getElem?_append_right (by omega),hto,List.getElem?_append_left (by simp [hdl];omega),List.getElem?_map] at he
          cases hx:(d.mergeSort le)[i-off]? with
          |none=>rw [hx] at he;cases he
          |some x=>rw [hx] at he;cases he;exact .inr ⟨by omega,h2,x,rfl,rfl⟩
         ·rw [List.getElem?_append_right (by simp [hdl];omega),List.getElem?_drop] at he
          have:off+len+(i-(o.es.take off++(d.mergeSort le).map enc).length)=i:=by simp [hdl];omega
          rw [this] at he
          exact .inl ⟨.inr (by omega),he⟩
       refine st1.reset (vs:=vs) (vs':=putCells id (off*k) (flatK encV k (d.mergeSort le).toArray) vs) (t:=t0) h4 hok c1 (by simp [grow,Sort.ahead,Array.getElem?_append_left hbs,c2]) (by simp [putCells]) ?_ ?_ ?_
       ·rw [hl',hosz]
        simpa [putCells] using c5
       ·intro i e he
        rw [hosz]
        rcases hget i e he with⟨_,h1⟩ |⟨_,_,x,_,rfl⟩
        ·exact c6 i e h1
        ·rw [henc,List.length_map,hk]
       ·intro i j e a he ha
        rw [hosz]
        have hil:i<o.es.length:=by have:=(List.getElem?_eq_some_iff.1 he).1;rw [hl'] at this;exact this
        have hel:e.length=k:=by
         rcases hget i e he with⟨_,h1⟩ |⟨_,_,x,_,rfl⟩
         ·exact c6 i e h1
         ·rw [henc,List.length_map,hk]
        have hjk:j<k:=by have:=(List.getElem?_eq_some_iff.1 ha).1;omega
        have hin:i*k+j<vs.size:=by
         have:(i+1)*k≤o.es.length*k:=Nat.mul_le_mul_right _ hil
         rw [Nat.add_mul,Nat.one_mul] at this
         omega
        rw [hput _ hin]
        rcases hget i e he with⟨h0,h1⟩ |⟨h01,h02,x,hx,rfl⟩
        ·rw [if_neg]
         ·obtain⟨u,g1,g2⟩:=c7 i j e a h1 ha
          rw [hmu] at g2
          refine⟨u,by rw [getElem!_pos vs _ hin,(Array.getElem?_eq_some_iff.1 g1).2],g2.mono (fun _ h=>h) hSk fun _ _ h=>h⟩
         ·rcases h0 with h0 |h0
          ·have:(i+1)*k≤off*k:=Nat.mul_le_mul_right _ h0
           rw [Nat.add_mul,Nat.one_mul] at this
           omega
          ·have:(off+len)*k≤i*k:=Nat.mul_le_mul_right _ h0
           rw [Nat.add_mul] at this
           omega
        ·have g1:off*k≤i*k:=Nat.mul_le_mul_right _ h01
         have g2:(i+1)*k≤(off+len)*k:=Nat.mul_le_mul_right _ h02
         rw [Nat.add_mul,Nat.one_mul,Nat.add_mul] at g2
         rw [if_pos (by omega)]
         rw [henc,List.getElem?_map] at ha
         cases hu:(encV x)[j]? with
         |none=>rw [hu] at ha;cases ha
         |some u =>
          rw [hu] at ha
          cases ha
          have e1:i*k+j-off*k=(i-off)*k+j:=by rw [Nat.sub_mul];omega
          rw [e1,flat_at hk hx hu]
          exact⟨u,rfl,.val u⟩
   ·cases ht
  ·cases ht
 ·cases ht
end
end Go.Proofs.Av
