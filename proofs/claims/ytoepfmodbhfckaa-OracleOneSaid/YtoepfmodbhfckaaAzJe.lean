/- Stores. -/
import Derived.Test.YtoepfmodbhfckaaAzI
import Derived.Laws.CopyRow
import Derived.Laws.AppendOwn
import Derived.Laws.MakeOwn
import Derived.Laws.OwnMore
import Derived.Lib.AppendStr
namespace Go.Proofs.Av
open Go
open List renaming getElem?_eq_some_iff→γ
section
variable {cx:Cx}{K:Kf}{N:Nat}{S:Nat→Prop}{μ:Mu}{env:Env}{h:Heap}{tmps:Array Value}{w:World}
theorem row_index {i i' sz j j' n:Nat}(hj':j'<sz) (hjn:j+n≤sz):(i*sz+j≤i'*sz+j'∧i'*sz+j'<i*sz+j+n)↔(i'=i∧j≤j'∧j'<j+n):=by
 rcases Nat.lt_trichotomy i' i with h |h |h
 ·have:(i'+1)*sz≤i*sz:=Nat.mul_le_mul_right _ h
  rw [Nat.add_mul,Nat.one_mul] at this
  omega
 ·subst h;omega
 ·have:(i+1)*sz≤i'*sz:=Nat.mul_le_mul_right _ h
  rw [Nat.add_mul,Nat.one_mul] at this
  omega
theorem splice_get_val {cs vs:List Value}{n:Nat}(h:n+vs.length≤cs.length) (i:Nat):(cs.take n++vs++cs.drop (n+vs.length))[i]?=if n≤i∧i<n+vs.length then vs[i-n]? else cs[i]?:=by
 have hl:(cs.take n).length=n:=by simp;omega
 by_cases h1:i<n
 ·rw [if_neg (by omega),List.append_assoc,List.getElem?_append_left (by omega)]
  simp [h1]
 ·by_cases h2:i<n+vs.length
  ·rw [if_pos (by omega),List.getElem?_append_left (by simp;omega),List.getElem?_append_right (by omega),hl]
  ·rw [if_neg (by omega),List.getElem?_append_right (by simp;omega)]
   simp only [List.getElem?_drop,List.length_append,hl]
   congr 1
   omega
theorem Ob.mu_le {o:Ob}:∀r x,o.mu μ r=some x→μ r=some x:=by
 intro r x hx
 unfold Ob.mu at hx
 cases hk:o.k<;>rw [hk] at hx<;>first |exact hx |cases hx
theorem St.store (st:St cx K N S μ env h tmps w) {r i j b C:Nat}{o:Ob}{e cs xs e':List AV}{us:List Value}(ho:h[r]?=some o) (hk:o.k ≠ .ro) (he:o.es[i]?=some e) (hwk:Wks e cs) (hcl:cs.length=e.length) (hjn:j+xs.length≤o.sz) (hx:Reps S w (o.mu μ) xs us) (hsp:spliceK cs j xs some=some e') (hb:μ r=some (b,o.sz,C)):∃vs t,w.heap[b]?=some (.cells vs t (0,0))∧i*o.sz+j+us.length≤vs.size∧St cx K N S μ env (h.set r { o with es:=o.es.set i e' }) tmps (w.setRow b (vs.toList.take (i*o.sz+j)++us++vs.toList.drop (i*o.sz+j+us.length)).toArray):=by
 have hkd:o.k ≠ .dead:=fun hd=>by
  rcases st.heap r o ho with⟨_,h1,_⟩ |⟨h1,_⟩ |⟨h1,_⟩
  ·rw [h1] at he;simp at he
  ·rw [hd] at h1;cases h1
  ·exact h1 hd
 obtain⟨b',vs,t,C',h1,h2,h3,h4,h5,h5',h6,h7⟩:=(st.heap.solid ho he).ex
 rw [hb] at h1
 cases h1
 have hi:i<o.es.length:=(γ.1 he).1
 have hel:=h6 i e he
 have hul:us.length=xs.length:=hx.1
 have hin:i*o.sz+o.sz≤vs.size:=by
  have:(i+1)*o.sz≤o.es.length*o.sz:=Nat.mul_le_mul_right _ hi
  rw [Nat.add_mul,Nat.one_mul] at this
  omega
 have hnS:¬S b:=h4 hk
 refine⟨vs,t,h2,by omega,?_⟩
 obtain⟨hs1,hs2⟩:=spliceK_eq hsp
 have hother:∀k,k≠b→(w.setRow b (vs.toList.take (i*o.sz+j)++us++vs.toList.drop (i*o.sz+j+us.length)).toArray).heap[k]?=w.heap[k]?:=fun k hk=>setRow_other w b k _ hk
 have hal:∀k,alive (h.set r { o with es:=o.es.set i e' }) k→alive h k:=fun k ha x hx=>by
  by_cases hkr:r=k
  ·subst hkr
   rw [ho] at hx
   cases hx
   exact hkd
  ·exact ha x (by rw [List.getElem?_set_ne hkr];exact hx)
 have hSk:∀k,S k→(w.setRow b (vs.toList.take (i*o.sz+j)++us++vs.toList.drop (i*o.sz+j+us.length)).toArray).heap[k]?=w.heap[k]?:=fun k hk=>hother k fun e=>hnS (e▸hk)
 refine⟨st.size,fun t v ht=>(st.env t v ht).mono (fun _ h=>h) hSk fun _ _ h=>h,fun g cs hg=>(st.g g cs hg).mono (fun _ h=>h) hSk fun _ _ h=>h,?_,fun r1 r2 b1 s1 s2 hb1 hb2 ha1 ha2=>st.inj r1 r2 b1 s1 s2 hb1 hb2 (hal r1 ha1) (hal r2 ha2),fun r x hx=>by simpa using st.dom r x hx,st.own,st.s0,st.snew,fun b hb=>by simpa using st.slt b hb,?_,by simpa using st.le,st.os,st.tape,⟨st.output.out,st.output.drawn⟩,st.fix⟩
 ·intro r' o' ho'
  by_cases hr:r=r'
  ·subst hr
   have hrl:=(γ.1 ho).1
   rw [List.getElem?_set_self hrl] at ho'
   cases ho'
   refine .inr (.inr ⟨hkd,⟨b,_,t,C,hb,setRow_heap w b vs _ t _ h2,fun hk'=>absurd hk' hk,fun _=>hnS,?_,?_,?_,?_⟩⟩)
   ·simp;omega
   ·intro hka
    have:=h5' hka
    refine⟨?_,this.2⟩
    simp only [List.size_toArray,List.length_append,List.length_take,List.length_drop,Array.length_toList]
    omega
   ·intro i' x hx'
    simp only at hx'
    rw [List.getElem?_set] at hx'
    split at hx'
    ·cases hx'
     rw [hs2]
     simp
     omega
    ·exact h6 i' x hx'
   ·intro i' j' x v hx' hv
    simp only at hx' ⊢
    have hj':j'<o.sz:=by
     rw [List.getElem?_set] at hx'
     have hjl:=(γ.1 hv).1
     split at hx'
     ·cases hx'
      rw [hs2] at hjl
      simp at hjl
      omega
     ·have:=h6 i' x hx';omega
    have hget:(vs.toList.take (i*o.sz+j)++us++vs.toList.drop (i*o.sz+j+us.length)).toArray[i'*o.sz+j']? =
      if i'=i∧j≤j'∧j'<j+xs.length then us[j'-j]? else vs[i'*o.sz+j']?:=by
     rw [List.getElem?_toArray,splice_get_val (by simp;omega)]
     have hiff:=row_index (i:=i) (i':=i') (j:=j) (n:=xs.length) hj' hjn
     by_cases hc:i'=i∧j≤j'∧j'<j+xs.length
     ·rw [if_pos hc,if_pos (by rw [hul];exact hiff.2 hc),hc.1]
      congr 1
      omega
     ·rw [if_neg hc,if_neg (by rw [hul];exact fun h=>hc (hiff.1 h))]
      simp
    rw [hget]
    have mono:∀ {v u},Rep S w (o.mu μ) v u→Rep S (w.setRow b (vs.toList.take (i*o.sz+j)++us++vs.toList.drop (i*o.sz+j+us.length)).toArray) (o.mu μ) v u :=
     fun hr=>hr.mono (fun _ h=>h) hSk fun _ _ h=>h
    have hmu:({ o with es:=o.es.set i e' }:Ob).mu μ=o.mu μ:=rfl
    by_cases hii:i'=i
    ·subst hii
     rw [List.getElem?_set_self hi] at hx'
     cases hx'
     rw [hs2,splice_get hs1] at hv
     by_cases hc:j≤j'∧j'<j+xs.length
     ·rw [if_pos hc] at hv
      rw [if_pos ⟨rfl,hc⟩]
      obtain⟨u,hu,hru⟩:=hx.get hv
      exact⟨u,hu,mono hru⟩
     ·rw [if_neg hc] at hv
      rw [if_neg (fun h=>hc h.2)]
      have hje:j'<e.length:=by omega
      obtain⟨u,hu,hru⟩:=h7 i' j' e e[j'] he (List.getElem?_eq_getElem hje)
      have hcell:Reps S w (o.mu μ) e ((vs.toList.drop (i'*o.sz)).take o.sz):=by
       refine⟨by simp [hel];omega,fun k x y hx hy=> ?_⟩
       obtain⟨u',hu',hru'⟩:=h7 i' k e x he hx
       rw [List.getElem?_take] at hy
       split at hy
       ·rw [List.getElem?_drop] at hy
        simp only [Array.getElem?_toList] at hy
        rw [hu'] at hy
        cases hy
        exact hru'
       ·cases hy
      obtain⟨y,hy,hry⟩:=(hwk _ _ _ _ hcell).get hv
      rw [List.getElem?_take,if_pos hj',List.getElem?_drop] at hy
      simp only [Array.getElem?_toList] at hy
      exact⟨y,hy,mono hry⟩
    ·rw [if_neg (fun h=>hii h.1)]
     rw [List.getElem?_set_ne (fun h=>hii h.symm)] at hx'
     obtain⟨u,hu,hru⟩:=h7 i' j' x v hx' hv
     exact⟨u,hu,mono hru⟩
  ·rw [List.getElem?_set_ne hr] at ho'
   exact(st.heap r' o' ho').mono (fun _ h=>h) hSk (fun _ _ h=>h) rfl (by simp) (fun hkd' b' s hb'=>hother b' fun e=>hr (by
    subst e
    exact st.inj r r' b' _ _ hb hb' (fun x hx=>by rw [ho] at hx;cases hx;exact hkd) fun x hx=>by rw [ho'] at hx;cases hx;exact hkd')) fun _ _ _ h=>h
 ·intro k hk ho'
  have hne:k≠b:=fun e=>by
   subst e
   rcases st.own r k _ hb with h |h
   ·exact ho' h
   ·omega
  rw [hother k hne]
  exact st.frame k hk ho'
theorem flat1_none {v:AV}{u:Value}(h:v.flat1=true) (hr:Rep S w μ v u):Rep S w Mu.none v u:=by
 cases hr<;>first
  |exact .val _
  |exact .nil
  |exact .empty _ _ ‹_›
  |exact .list _ _ _ _ ‹_› ‹_› ‹_› ‹_› ‹_› ‹_›
  |exact .rop _ _ _ ‹_› ‹_› ‹_›
  | (simp [AV.flat1] at h)
theorem flat_cells {x:AV}(h:x.flat=true):∀v,v∈x.cells→v.flat1=true:=by
 intro v hv
 cases x with
 |agg cs=>exact List.all_eq_true.1 h v hv
 |val u =>
  cases u with
  |agg cs =>
   obtain⟨y,hy,rfl⟩:=List.mem_map.1 hv
   rfl
  | _=>simp [AV.cells] at hv;subst hv;rfl
 | _=>simp [AV.cells] at hv;subst hv;exact h
theorem normCells_len:∀ {zs:List Sh}{cs as:List AV},normCells zs cs some=some as→as.length=cs.length
 | [],cs,as,h=>by
  simp only [normCells] at h
  obtain⟨u,h1,h2⟩:=bind_some_iff h
  cases h2
  rw [nil_eq h1]
 |z::zs,cs,as,h=>by
  simp only [normCells] at h
  obtain⟨p,h1,h2⟩:=bind_some_iff h
  obtain⟨x,h3,h4⟩:=(normCell_pk z p.1).some h2
  obtain⟨r,h5,h6⟩:=(normCells_pk zs p.2).some h3
  cases h5
  rw [uncons_eq h1]
  simp [normCells_len h6]
theorem storeV_sem (st:St cx K N S μ env h tmps w) {t:TypeId}{p x:AV}{u v:Value}(hp:Rep S w μ p u) (hx:Rep S w μ x v) {h':Heap}(hs:storeV cx t p x h some=some h'):∃w',(Instr.storeAt t u v).run cx.P w = .ok () w'∧St cx K N S μ env h' tmps w':=by
 unfold storeV at hs
 split at hs
 ·rename_i r ver i j
  obtain⟨o,h1,hs⟩:=bind_some_iff hs
  obtain⟨_,h2,hs⟩:=bind_some_iff hs
  obtain⟨e,h3,hs⟩:=bind_some_iff hs
  obtain⟨n,h4,hs⟩:=bind_some_iff hs
  have hcells:=hx.cells
  cases hp with
  |ptr b sz C hb =>
   have hse:=st.heap.sz h1 hb
   subst hse
   split at hs
   ·rename_i hc
    simp only [Bool.and_eq_true] at hc
    have hn:=Nat.eq_of_beq_eq_true hc.1
    have hone:∀y∈v.cells.toList,y.oneCell'=true:=by
     intro y hy
     obtain⟨k,hk⟩:=List.mem_iff_getElem?.1 hy
     have hkl:k<x.cells.length:=by
      have:=(γ.1 hk).1
      rw [←hcells.1];exact this
     exact one_cell (List.all_eq_true.1 hc.2 _ (List.getElem_mem hkl)) (hcells.2 k _ y (List.getElem?_eq_getElem hkl) hk)
    have fin:∀ {cs xs e':List AV},o.k ≠ .ro→Wks e cs→cs.length=e.length→xs=x.cells→Reps S w (o.mu μ) xs v.cells.toList→j+n≤o.sz→spliceK cs j xs some=some e' →
      ∃w',(Instr.storeAt t (.pointer (some ⟨b,i*o.sz+j,none⟩)) v).run cx.P w = .ok () w'∧St cx K N S μ env (h.set r { o with es:=o.es.set i e' }) tmps w':=by
     intro cs xs e' hk hwk hcl hxs hr hjn hsp
     subst hxs
     obtain⟨vs,ty,g1,g2,g3⟩:=st.store h1 hk h3 hwk hcl (by omega) hr hsp hb
     refine⟨_,?_,g3⟩
     have hlen:v.cells.size=n:=by have:=hcells.1;simp at this;omega
     have hrun:=run_storeCells_at (P:=cx.P) b (i*o.sz+j) ty v.cells.toList 0 vs w g1 (by simpa using g2) hone
     simp only [Nat.add_zero] at hrun
     simp [Instr.storeAt,Instr.sureAddr,storeVar,run_size h4,hlen,hrun]
    split at hs
    ·rename_i hkb
     split at hs
     ·rename_i hble
      obtain⟨e',h5,h6⟩:=(spliceK_pk _ _ _).some hs
      cases h5
      refine fin (by rw [hkb];simp) (Wks.refl _) rfl rfl ?_ (Nat.le_of_ble_eq_true hble) h6
      unfold Ob.mu
      rw [hkb]
      exact hcells
     ·cases hs
    ·rename_i hka
     split at hs
     ·rename_i hflat hble
      obtain⟨z,h5,hs⟩:=bind_some_iff hs
      obtain⟨cs',h6,h7⟩:=(normCells_pk z e).some hs
      obtain⟨e',h8,h9⟩:=(spliceK_pk _ _ _).some h6
      cases h8
      have hwk:=normCells_wk h7
      have hcl:cs'.length=e.length:=normCells_len h7
      refine fin (by rw [hka];simp) hwk hcl rfl ?_ (Nat.le_of_ble_eq_true hble) h9
      unfold Ob.mu
      rw [hka]
      exact⟨hcells.1,fun k y z hy hz=>flat1_none (flat_cells hflat y (List.mem_of_getElem? hy)) (hcells.2 k y z hy hz)⟩
     ·cases hs
    ·cases hs
    ·cases hs
   ·cases hs
 ·cases hs
end
end Go.Proofs.Av
/-Slices of one's own:new ones,ones given up for longer ones,ones written over. -/
namespace Go.Proofs.Av
open Go
open List renaming getElem?_eq_some_iff→γ
section
variable {cx:Cx}{K:Kf}{N:Nat}{S:Nat→Prop}{μ:Mu}{env:Env}{h:Heap}{tmps:Array Value}{w:World}
def Mu.updO (μ:Mu) (r:Nat) (x:Option (Nat×Nat×Nat)):Mu:=match x with
 | .none=>μ
 | .some x=>μ.upd r x
theorem killH_len (h:Heap) (kill:Option Nat):(killH h kill).length=h.length:=by
 unfold killH
 split
 ·rfl
 ·split<;>simp
theorem killH_get {h:Heap}{kill:Option Nat}{r:Nat}{o:Ob}(ho:(killH h kill)[r]?=some o):(kill=some r∧∃o0,h[r]?=some o0∧o= { o0 with k := .dead,es:=[] })∨(kill≠some r∧h[r]?=some o):=by
 unfold killH at ho
 split at ho
 ·exact .inr ⟨by simp,ho⟩
 ·rename_i k
  split at ho
  ·rename_i o0 h0
   by_cases hkr:k=r
   ·subst hkr
    rw [List.getElem?_set_self (γ.1 h0).1] at ho
    cases ho
    exact .inl ⟨rfl,o0,h0,rfl⟩
   ·rw [List.getElem?_set_ne hkr] at ho
    exact .inr ⟨by simpa using hkr,ho⟩
  ·rename_i h0
   by_cases hkr:k=r
   ·subst hkr
    rw [h0] at ho
    cases ho
   ·exact .inr ⟨by simpa using hkr,ho⟩
structure RowOk (S:Nat→Prop) (w w':World) (μ:Mu) (kill:Option Nat) (o:Ob) (b s C:Nat):Prop where
 sz:s=o.sz
 new:(∃r s',kill=some r∧μ r=some (b,s'))∨w.heap.size≤b
 row:∃vs,w'.heap[b]?=some (.cells vs o.t (0,0))∧vs.size=C*o.sz∧o.es.length*o.sz≤vs.size∧(∀(i:Nat) (e:List AV),o.es[i]?=some e→e.length=o.sz) ∧
  (∀(i j:Nat) (e:List AV) (v:AV),o.es[i]?=some e→e[j]?=some v→∃u,vs[i*o.sz+j]?=some u∧Rep S w' Mu.none v u)
theorem St.step (st:St cx K N S μ env h tmps w) {w':World}{kill:Option Nat}{o:Ob}{x:Option (Nat×Nat×Nat)}(hle:w.heap.size≤w'.heap.size) (h1:w'.os=w.os) (h2:w'.tape=w.tape) (h3:OutD cx w w') (hblk:∀b,b<w.heap.size→(∀r s,kill=some r→μ r≠some (b,s))→w'.heap[b]?=w.heap[b]?) (hkill:∀r,kill=some r→∃o0,h[r]?=some o0∧o0.k = .arr) (hk:o.k = .arr) (hn:x=none→o.es=[]) (hs:∀b s C,x=some (b,s,C)→RowOk S w w' μ kill o b s C):St cx K N S (μ.updO h.length x) env (killH h kill++[o]) tmps w':=by
 have hfresh:μ h.length=none:=by
  cases hx:μ h.length with
  |none=>rfl
  |some x=>have:=st.dom _ _ hx;omega
 have hμ:∀r y,μ r=some y→(μ.updO h.length x) r=some y:=fun r y hy=>by
  unfold Mu.updO
  cases x with
  |none=>exact hy
  |some x =>
   simp only [Mu.upd]
   rw [if_neg (by intro e;subst e;rw [hfresh] at hy;cases hy)]
   exact hy
 have hold:∀r,r≠h.length→(μ.updO h.length x) r=μ r:=fun r hr=>by
  unfold Mu.updO
  cases x with
  |none=>rfl
  |some x=>simp only [Mu.upd];rw [if_neg hr]
 have hkS:∀r b s,kill=some r→μ r=some (b,s)→¬S b:=fun r b s hkr hm=>by
  obtain⟨o0,g1,g2⟩:=hkill r hkr
  rcases st.heap r o0 g1 with⟨d1,_⟩ |⟨_,_,d1⟩ |⟨_,d1⟩
  ·rw [g2] at d1;cases d1
  ·rw [hm] at d1;cases d1
  ·obtain⟨b',vs,t,C,e1,e2,e3,e4,_⟩:=d1.ex
   rw [hm] at e1
   cases e1
   exact e4 (by rw [g2];simp)
 have hSk:∀b,S b→w'.heap[b]?=w.heap[b]?:=fun b hb=>hblk b (st.slt b hb) fun r s hkr hm=>hkS r b s hkr hm hb
 have hlen:=killH_len h kill
 have hnew:∀r o',(killH h kill++[o])[r]?=some o'→(r<h.length∧(killH h kill)[r]?=some o')∨(r=h.length∧o'=o):=fun r o' ho'=>by
  by_cases hr:r<h.length
  ·rw [List.getElem?_append_left (by omega)] at ho'
   exact .inl ⟨hr,ho'⟩
  ·rw [List.getElem?_append_right (by omega)] at ho'
   have h0:=(γ.1 ho').1
   simp at h0
   have:r-(killH h kill).length=0:=by omega
   rw [this] at ho'
   simp at ho'
   exact .inr ⟨by omega,ho'.symm⟩
 have hal:∀r,r<h.length→alive (killH h kill++[o]) r→alive h r∧kill≠some r:=fun r hr ha=>by
  constructor
  ·intro y hy hd
   by_cases hkr:kill=some r
   ·obtain⟨o0,g1,g2⟩:=hkill r hkr
    rw [hy] at g1
    cases g1
    rw [hd] at g2
    cases g2
   ·refine ha y ?_ hd
    rw [List.getElem?_append_left (by omega)]
    unfold killH
    cases kill with
    |none=>exact hy
    |some k =>
     have:k≠r:=fun e=>hkr (by rw [e])
     simp only
     split
     ·rw [List.getElem?_set_ne this];exact hy
     ·exact hy
  ·intro hkr
   obtain⟨o0,g1,g2⟩:=hkill r hkr
   refine ha { o0 with k := .dead,es:=[] } ?_ rfl
   rw [List.getElem?_append_left (by omega)]
   unfold killH
   rw [hkr]
   simp only [g1]
   rw [List.getElem?_set_self hr]
 refine⟨st.size,fun t v ht=>(st.env t v ht).mono (fun _ h=>h) hSk hμ,fun g cs hg=>(st.g g cs hg).mono (fun _ h=>h) hSk fun _ _ h=>h,?_,?_,?_,?_,st.s0,st.snew,fun b hb=>Nat.lt_of_lt_of_le (st.slt b hb) hle,?_,Nat.le_trans st.le hle,h1.trans st.os,h2.trans st.tape,h3.trans st.output,fun r x hx=>hμ r x (st.fix r x hx)⟩
 ·intro r o' ho'
  rcases hnew r o' ho' with⟨hr,ho'⟩ |⟨rfl,rfl⟩
  ·rcases killH_get ho' with⟨hkr,o0,g1,rfl⟩ |⟨hkr,g1⟩
   ·refine .inl ⟨rfl,rfl,fun b s C hm=> ?_⟩
    rw [hold r (by omega)] at hm
    exact⟨Nat.lt_of_lt_of_le (st.heap.lt g1 hm) hle,show s=o0.sz from st.heap.sz g1 hm⟩
   ·refine(st.heap r o' g1).mono (fun _ h=>h) hSk hμ (hold r (by omega)) hle (fun hkd b s hm=>hblk b (st.heap.lt g1 hm) fun r2 s2 hk2 hm2=> ?_) fun _ _ _ h=>h
    obtain⟨o2,e1,e2⟩:=hkill r2 hk2
    have:=st.inj r r2 b s s2 hm hm2 (fun y hy=>by rw [g1] at hy;cases hy;exact hkd) (fun y hy=>by rw [e1] at hy;cases hy;rw [e2];simp)
    exact hkr (by rw [this];exact hk2)
  ·cases x with
   |none=>exact .inr (.inl ⟨hk,hn rfl,hfresh⟩)
   |some x =>
    obtain⟨b,s,C⟩:=x
    obtain⟨q1,q2,vs,q3,q4,q5,q6,q7⟩:=hs b s C rfl
    subst q1
    refine .inr (.inr ⟨by rw [hk];simp,b,vs,o'.t,C,by simp [Mu.updO,Mu.upd],q3,fun h=>(by rw [hk] at h;cases h),fun _ hb=> ?_,q5,fun _=>⟨q4,rfl⟩,q6,fun i j e v he hv=> ?_⟩)
    ·rcases q2 with⟨r,s',hkr,hm⟩ |hb'
     ·exact hkS r b s' hkr hm hb
     ·have:=st.slt b hb;omega
    ·obtain⟨u,hu,hru⟩:=q7 i j e v he hv
     refine⟨u,hu,?_⟩
     unfold Ob.mu
     rw [hk]
     exact hru
 ·intro r r' b s s' hr hr' ha ha'
  have dom':∀r y,(μ.updO h.length x) r=some y→r<h.length∨r=h.length:=fun r y hy=>by
   by_cases hrl:r=h.length
   ·exact .inr hrl
   ·rw [hold r hrl] at hy
    exact .inl (st.dom r _ hy)
  have key:∀r1 s1 s2,r1<h.length→μ r1=some (b,s1)→alive (killH h kill++[o]) r1→(μ.updO h.length x) h.length=some (b,s2)→False:=fun r1 s1 s2 hr1 hm1 ha1 hm2=>by
   cases x with
   |none=>rw [show(μ.updO h.length none) h.length=μ h.length from rfl,hfresh] at hm2;cases hm2
   |some x =>
    obtain⟨b2,s3,C3⟩:=x
    simp only [Mu.updO,Mu.upd,if_true] at hm2
    cases hm2
    obtain⟨q1,q2,_⟩:=hs b s3 C3 rfl
    obtain⟨al1,al2⟩:=hal r1 hr1 ha1
    rcases q2 with⟨r2,s',hkr,hm⟩ |hb'
    ·obtain⟨o2,e1,e2⟩:=hkill r2 hkr
     have:=st.inj r1 r2 b s1 s' hm1 hm al1 (fun y hy=>by rw [e1] at hy;cases hy;rw [e2];simp)
     exact al2 (by rw [this];exact hkr)
    ·have:=st.lt hm1;omega
  rcases dom' r _ hr with hrl |rfl<;>rcases dom' r' _ hr' with hrl' |hrl'
  ·rw [hold r (by omega)] at hr
   rw [hold r' (by omega)] at hr'
   exact st.inj r r' b s s' hr hr' (hal r hrl ha).1 (hal r' hrl' ha').1
  ·subst hrl'
   rw [hold r (by omega)] at hr
   exact(key r s s' hrl hr ha hr').elim
  ·rw [hold r' (by omega)] at hr'
   exact(key r' s' s hrl' hr' ha' hr).elim
  ·exact hrl'.symm
 ·intro r y hy
  rw [List.length_append,hlen]
  by_cases hrl:r=h.length
  ·simp;omega
  ·rw [hold r hrl] at hy
   have:=st.dom r _ hy
   simp;omega
 ·intro r b s hm
  by_cases hrl:r=h.length
  ·subst hrl
   cases x with
   |none=>rw [show(μ.updO h.length none) h.length=μ h.length from rfl,hfresh] at hm;cases hm
   |some x =>
    obtain⟨b2,s3,C3⟩:=x
    simp only [Mu.updO,Mu.upd,if_true] at hm
    cases hm
    obtain⟨_,q2,_⟩:=hs b s3 C3 rfl
    rcases q2 with⟨r2,s',hkr,hm⟩ |hb'
    ·exact st.own r2 b s' hm
    ·exact .inr (Nat.le_trans st.le hb')
  ·rw [hold r hrl] at hm
   exact st.own r b s hm
 ·intro b hb ho
  rw [hblk b (Nat.lt_of_lt_of_le hb st.le) fun r s hkr hm=> ?_]
  ·exact st.frame b hb ho
  ·rcases st.own r b s hm with h |h
   ·exact ho h
   ·omega
end
end Go.Proofs.Av
/-What append,make and copy do,told of one's own rows. -/
namespace Go.Proofs.Av
open Go
open List renaming getElem?_eq_some_iff→γ
def OwnV (w:World) (e:TypeId) (size:Nat) (v:Value) (n:Nat) (xs:List Value):Prop:=xs.length=n*size∧((v = .slice none 0 0∧n=0) ∨
 ∃g cap cur,v = .slice (some ⟨g,0,none⟩) n cap∧w.heap[g]?=some (.cells cur e (0,0))∧n≤cap∧cur.size=cap*size∧cur.toList.take (n*size)=xs)
theorem app_run {P:Program}(w:World) (t ty e:TypeId) (i:TypeInfo) (z:Value) (ht:P.underlying t=some (.slice e)) (hi:P.info? e=some i) (hz:i.zero=some z) (hzs:z.cells.size=i.size) (_hsz:0<i.size) (v:Value) (n:Nat) (xs:List Value) (hown:OwnV w e i.size v n xs) (y:Value) (m:Nat) (news:List Value) (hy:SrcV w i.size y m news) (h63:n+m≤maxLen) (hbytes:(n+m)*i.bytes≤140737488355328):∃v' w',(Builtin.append_ #[t,t] ty #[v,y]).run P w = .ok v' w'∧w.grownBy w' v.ownBlock∧w.drawn≤w'.drawn∧((v' = .slice none 0 0∧v = .slice none 0 0∧m=0)∨∃g' cap' cur',v' = .slice (some ⟨g',0,none⟩) (n+m) cap'∧w'.heap[g']?=some (.cells cur' e (0,0))∧n+m≤cap'∧cur'.size=cap'*i.size∧cur'.toList.take ((n+m)*i.size)=xs++news∧(v.ownBlock=some g'∨w.heap.size≤g')):=by
 obtain⟨hl,h1,hy⟩:=hy
 have hsmall:n+m≤9223372036854775807:=by simp only [maxLen] at h63;omega
 have hlen:(xs++news).length=(n+m)*i.size:=by rw [List.length_append,hown.1,hl,Nat.add_mul]
 rcases hy with⟨rfl,rfl⟩ |⟨a,c,rfl,hnews⟩
 ·have hn:news=[]:=List.eq_nil_of_length_eq_zero (by simpa using hl)
  subst hn
  refine⟨v,w,?_,⟨rfl,rfl,rfl,Nat.le_refl _,fun _ _ _=>rfl⟩,Nat.le_refl _,?_⟩
  ·rcases hown.2 with⟨rfl,rfl⟩ |⟨g,cap,cur,rfl,_,hnc,_⟩
   ·simp [Builtin.append_,run_underlying ht,sizeOf,typeInfo,hi,Builtin.lenOf,Builtin.firstCells]
   ·simp [Builtin.append_,run_underlying ht,sizeOf,typeInfo,hi,Builtin.lenOf,Builtin.firstCells,hnc,storeCells]
  ·rcases hown.2 with⟨rfl,rfl⟩ |⟨g,cap,cur,rfl,h2,h3,h4,h5⟩
   ·exact .inl ⟨rfl,rfl,rfl⟩
   ·exact .inr ⟨g,cap,cur,rfl,h2,h3,h4,by simpa using h5,.inl rfl⟩
 have grown:∀(old:Nat),old<n+m→∀(row:Option Nat),
   (∃g' cap' cur',(Value.slice (some ⟨w.heap.size,0,none⟩) (n+m) (grownCap w (n+m) old e)) = .slice (some ⟨g',0,none⟩) (n+m) cap' ∧
    (w.drew.alloc (.cells (xs.toArray++news.toArray++Builtin.zeroCells z.cells (grownCap w (n+m) old e-(n+m))) e)).heap[g']?=some (.cells cur' e (0,0))∧n+m≤cap'∧cur'.size=cap'*i.size ∧
    cur'.toList.take ((n+m)*i.size)=xs++news∧w.heap.size≤g') ∧
   w.grownBy (w.drew.alloc (.cells (xs.toArray++news.toArray++Builtin.zeroCells z.cells (grownCap w (n+m) old e-(n+m))) e)) row:=by
  intro old ho row
  have hge:=grownCap_ge w (n+m) old e
  refine⟨⟨w.heap.size,_,_,rfl,heap_alloc_new w.drew _,hge,?_,?_,Nat.le_refl _⟩,⟨rfl,rfl,rfl,by simp,fun k hk _=>heap_alloc_old w.drew _ hk⟩⟩
  ·simp only [Array.size_append,List.size_toArray,size_zeroCells,hzs,hown.1,hl,←Nat.add_mul]
   congr 1
   omega
  ·simp only [Array.toList_append,List.append_assoc]
   rw [←List.append_assoc,←hlen]
   exact List.take_left
 rcases hown.2 with⟨rfl,rfl⟩ |⟨g,cap,cur,rfl,hg,hnc,hcs,htake⟩
 ·have hx:xs=[]:=List.eq_nil_of_length_eq_zero (by simpa using hown.1)
  subst hx
  by_cases hm:m=0
  ·subst hm
   have hn:news=[]:=List.eq_nil_of_length_eq_zero (by simpa using hl)
   subst hn
   refine⟨.slice none 0 0,w,?_,⟨rfl,rfl,rfl,Nat.le_refl _,fun _ _ _=>rfl⟩,Nat.le_refl _,.inl ⟨rfl,rfl,rfl⟩⟩
   simp [Builtin.append_,run_underlying ht,sizeOf,typeInfo,hi,Builtin.lenOf,Builtin.firstCells,loadCells,loadCellsFrom]
  ·have hr:=run_append_nil (P:=P) w t ty e i z ht hi hz a m c news hl hnews (by omega) (by omega) (by have hb:=hbytes;simp only [Nat.zero_add] at hb;omega)
   have hgr:=grown 0 (by omega) (Value.ownBlock (.slice none 0 0))
   simp only [Nat.zero_add,List.nil_append,Array.empty_append] at hgr ⊢
   obtain⟨⟨g',cap',cur',q1,q2,q3,q4,q5,q6⟩,q7⟩:=hgr
   exact⟨_,_,hr,q7,Nat.le_succ _,.inr ⟨g',cap',cur',q1,q2,q3,q4,q5,.inr q6⟩⟩
 ·by_cases hroom:n+m≤cap
  ·have hfit:n*i.size+news.length≤cur.size:=by rw [hl,hcs,←Nat.add_mul];exact Nat.mul_le_mul_right _ hroom
   have hr:=run_append_room (P:=P) w t ty e i ht hi g n cap cur hg a m c news hl hnews h1 hroom hfit
   refine⟨_,_,hr,⟨rfl,rfl,rfl,by simp,fun k _ hk=>setRow_other w g k _ (fun e=>hk (by simp [Value.ownBlock,e]))⟩,Nat.le_refl _,.inr ⟨g,cap,_,rfl,setRow_heap w g cur _ e _ hg,hroom,?_,?_,.inl rfl⟩⟩
   ·simp only [List.size_toArray,List.length_append,List.length_take,List.length_drop,Array.length_toList]
    omega
   ·rw [htake,←hlen]
    exact List.take_left
  ·have holds:∀j u,xs[j]?=some u→w.cell? ((⟨g,0,none⟩:Addr).add j)=some u:=by
    intro j u hu
    have hadd:(⟨g,0,none⟩:Addr).add j=⟨g,j,none⟩:=by unfold Addr.add;split<;>simp_all
    rw [hadd,cell_of_row w g j cur e (0,0) hg]
    rw [←htake,List.getElem?_take] at hu
    split at hu
    ·simpa using hu
    ·cases hu
   have hr:=run_append_grow (P:=P) w t ty e i z ht hi hz ⟨g,0,none⟩ n cap xs hown.1 holds a m c news hl hnews (by omega) (by omega) (growslice_fits (by omega) hbytes)
   obtain⟨⟨g',cap',cur',q1,q2,q3,q4,q5,q6⟩,q7⟩:=grown cap (by omega) (Value.ownBlock (.slice (some ⟨g,0,none⟩) n cap))
   exact⟨_,_,hr,q7,Nat.le_succ _,.inr ⟨g',cap',cur',q1,q2,q3,q4,q5,.inr q6⟩⟩
inductive SrcA (P:Program) (w:World) (t t2:TypeId) (size:Nat) (y:Value) (m:Nat) (news:List Value):Prop
 |slice (ht:t2=t) (h:SrcV w size y m news)
 |str (hu:P.underlying t2=some .string) (h1:size=1) (s:ByteArray) (hy:y = .string s) (hm:m=s.size) (hn:news=Lib.strCells s)
theorem SrcA.len {P:Program}{w:World}{t t2:TypeId}{size:Nat}{y:Value}{m:Nat}{news:List Value}(h:SrcA P w t t2 size y m news):news.length=m*size:=by
 cases h with
 |slice _ h=>exact h.1
 |str hu h1 s hy hm hn=>rw [hn,hm,h1,Lib.strCells_length,Nat.mul_one]
theorem app_runA {P:Program}(w:World) (t t2 ty e:TypeId) (i:TypeInfo) (z:Value) (ht:P.underlying t=some (.slice e)) (hi:P.info? e=some i) (hz:i.zero=some z) (hzs:z.cells.size=i.size) (hsz:0<i.size) (v:Value) (n:Nat) (xs:List Value) (hown:OwnV w e i.size v n xs) (y:Value) (m:Nat) (news:List Value) (hy:SrcA P w t t2 i.size y m news) (h63:n+m≤maxLen) (hbytes:(n+m)*i.bytes≤140737488355328):∃v' w',(Builtin.append_ #[t,t2] ty #[v,y]).run P w = .ok v' w'∧w.grownBy w' v.ownBlock∧w.drawn≤w'.drawn∧((v' = .slice none 0 0∧v = .slice none 0 0∧m=0)∨∃g' cap' cur',v' = .slice (some ⟨g',0,none⟩) (n+m) cap'∧w'.heap[g']?=some (.cells cur' e (0,0))∧n+m≤cap'∧cur'.size=cap'*i.size∧cur'.toList.take ((n+m)*i.size)=xs++news∧(v.ownBlock=some g'∨w.heap.size≤g')):=by
 have hl:=hy.len
 cases hy with
 |slice ht2 hy=>rw [ht2];exact app_run w t ty e i z ht hi hz hzs hsz v n xs hown y m news hy h63 hbytes
 |str hu h1 s hy hm hn =>
 subst hy
 have hl':news.length=m:=by rw [hl,h1,Nat.mul_one]
 have hsmall:n+m≤9223372036854775807:=by simp only [maxLen] at h63;omega
 have hlen:(xs++news).length=(n+m)*i.size:=by rw [List.length_append,hown.1,hl,Nat.add_mul]
 have grown:∀(old:Nat),old<n+m→∀(row:Option Nat),
   (∃g' cap' cur',(Value.slice (some ⟨w.heap.size,0,none⟩) (n+m) (grownCap w (n+m) old e)) = .slice (some ⟨g',0,none⟩) (n+m) cap' ∧
    (w.drew.alloc (.cells (xs.toArray++news.toArray++Builtin.zeroCells z.cells (grownCap w (n+m) old e-(n+m))) e)).heap[g']?=some (.cells cur' e (0,0))∧n+m≤cap'∧cur'.size=cap'*i.size ∧
    cur'.toList.take ((n+m)*i.size)=xs++news∧w.heap.size≤g') ∧
   w.grownBy (w.drew.alloc (.cells (xs.toArray++news.toArray++Builtin.zeroCells z.cells (grownCap w (n+m) old e-(n+m))) e)) row:=by
  intro old ho row
  have hge:=grownCap_ge w (n+m) old e
  refine⟨⟨w.heap.size,_,_,rfl,heap_alloc_new w.drew _,hge,?_,?_,Nat.le_refl _⟩,⟨rfl,rfl,rfl,by simp,fun k hk _=>heap_alloc_old w.drew _ hk⟩⟩
  ·simp only [Array.size_append,List.size_toArray,size_zeroCells,hzs,hown.1,hl,←Nat.add_mul]
   congr 1
   omega
  ·simp only [Array.toList_append,List.append_assoc]
   rw [←List.append_assoc,←hlen]
   exact List.take_left
 rcases hown.2 with⟨rfl,rfl⟩ |⟨g,cap,cur,rfl,hg,hnc,hcs,htake⟩
 ·have hx:xs=[]:=List.eq_nil_of_length_eq_zero (by simpa using hown.1)
  subst hx
  by_cases hm0:m=0
  ·subst hm0
   have hn0:news=[]:=List.eq_nil_of_length_eq_zero hl'
   refine⟨.slice none 0 0,w,?_,⟨rfl,rfl,rfl,Nat.le_refl _,fun _ _ _=>rfl⟩,Nat.le_refl _,.inl ⟨rfl,rfl,rfl⟩⟩
   have hs0:s.size=0:=hm.symm
   simp [Builtin.append_,run_underlying ht,run_underlying hu,sizeOf,typeInfo,hi,Builtin.lenOf,Builtin.firstCells,hs0]
  ·subst hm
   have hr:=run_append_nil_string (P:=P) w t t2 ty e i z ht hu hi hz s (by omega) (by omega) (by have hb:=hbytes;simp only [Nat.zero_add] at hb;omega)
   have hgr:=grown 0 (by omega) (Value.ownBlock (.slice none 0 0))
   have hnn:news.toArray=s.data.map (fun b=>Value.int .u8 b.toNat):=by
    rw [hn]
    apply Array.ext'
    simp [Lib.strCells]
   rw [hnn] at hgr
   simp only [Nat.zero_add,List.nil_append,Array.empty_append] at hgr ⊢
   obtain⟨⟨g',cap',cur',q1,q2,q3,q4,q5,q6⟩,q7⟩:=hgr
   exact⟨_,_,hr,q7,Nat.le_succ _,.inr ⟨g',cap',cur',q1,q2,q3,q4,q5,.inr q6⟩⟩
 ·subst hm
  by_cases hroom:n+s.size≤cap
  ·have hfit:n+s.size≤cur.size:=by rw [hcs,h1,Nat.mul_one];exact hroom
   have hr:=Lib.run_append_room_string (P:=P) w t t2 ty e i ht hu hi h1 g n cap cur hg s hroom hfit
   refine⟨_,_,hr,⟨rfl,rfl,rfl,by simp,fun k _ hk=>setRow_other w g k _ (fun e=>hk (by simp [Value.ownBlock,e]))⟩,Nat.le_refl _,.inr ⟨g,cap,_,rfl,setRow_heap w g cur _ e _ hg,hroom,?_,?_,.inl rfl⟩⟩
   ·simp only [List.size_toArray,List.length_append,List.length_take,List.length_drop,Array.length_toList,Lib.strCells_length]
    omega
   ·rw [h1,Nat.mul_one] at htake hlen
    rw [htake,←hn,h1,Nat.mul_one,←hlen]
    exact List.take_left
  ·have holds:∀j u,xs[j]?=some u→w.cell? ((⟨g,0,none⟩:Addr).add j)=some u:=by
    intro j u hu
    have hadd:(⟨g,0,none⟩:Addr).add j=⟨g,j,none⟩:=by unfold Addr.add;split<;>simp_all
    rw [hadd,cell_of_row w g j cur e (0,0) hg]
    rw [←htake,List.getElem?_take] at hu
    split at hu
    ·simpa using hu
    ·cases hu
   have hr:=Lib.run_append_grow_string (P:=P) w t t2 ty e i z ht hu hi hz ⟨g,0,none⟩ n cap xs hown.1 holds s (by omega) (by omega) (growslice_fits (by omega) hbytes)
   rw [←hn] at hr
   obtain⟨⟨g',cap',cur',q1,q2,q3,q4,q5,q6⟩,q7⟩:=grown cap (by omega) (Value.ownBlock (.slice (some ⟨g,0,none⟩) n cap))
   exact⟨_,_,hr,q7,Nat.le_succ _,.inr ⟨g',cap',cur',q1,q2,q3,q4,q5,.inr q6⟩⟩
theorem copy_run {P:Program}(w:World) (dT sT ty elem:TypeId) (i:TypeInfo) (hu:P.underlying dT=some (.slice elem)) (hi:P.info? elem=some i) (g o dLen dCap:Nat) (cur:Array Value) (t:TypeId) (hg:w.heap[g]?=some (.cells cur t (0,0))) (y:Value) (m:Nat) (news:List Value) (hy:SrcV w i.size y m news) (hfit:o+(news.take (Nat.min m dLen*i.size)).length≤cur.size):(Builtin.copy_ #[dT,sT] ty #[.slice (some ⟨g,o,none⟩) dLen dCap,y]).run P w = .ok (goInt (Nat.min m dLen)) (w.setRow g (cur.toList.take o++news.take (Nat.min m dLen*i.size)++cur.toList.drop (o+(news.take (Nat.min m dLen*i.size)).length)).toArray):=by
 obtain⟨hl,h1,hy⟩:=hy
 have hst:=run_storeCells_at P g o t (news.take (Nat.min m dLen*i.size)) 0 cur w hg (by simpa using hfit) (fun v hv=>h1 v (List.mem_of_mem_take hv))
 simp only [Nat.add_zero] at hst
 have hmin:Nat.min m dLen*i.size≤news.length:=by
  rw [hl]
  exact Nat.mul_le_mul_right _ (Nat.min_le_left _ _)
 rcases hy with⟨rfl,rfl⟩ |⟨a,c,rfl,hsrc⟩
 ·have hn:news=[]:=List.eq_nil_of_length_eq_zero (by simpa using hl)
  subst hn
  have hz:w.setRow g (cur.toList.take o++cur.toList.drop o).toArray=w:=by
   rw [List.take_append_drop]
   simpa using setRow_self w g cur t (0,0) hg
  simp only [List.take_nil,List.length_nil,Nat.add_zero,List.append_nil]
  rw [hz]
  simp [Builtin.copy_,run_underlying hu,Builtin.lenOf,Builtin.firstCells,sizeOf,typeInfo,hi,storeCells,Nat.min_def]
 ·have hlen:(news.take (Nat.min m dLen*i.size)).length=Nat.min m dLen*i.size:=by rw [List.length_take];omega
  have hld:=run_loadCells_list (P:=P) w a (news.take (Nat.min m dLen*i.size)) (fun j v hv=>by
   rw [List.getElem?_take] at hv
   split at hv
   ·exact hsrc j v hv
   ·cases hv)
  rw [hlen] at hld
  simp [Builtin.copy_,run_underlying hu,Builtin.lenOf,Builtin.firstCells,sizeOf,typeInfo,hi,hld,hst]
end Go.Proofs.Av
/-append,make and copy:what the evaluator tells of them is so. -/
namespace Go.Proofs.Av
open Go
open List renaming getElem?_eq_some_iff→γ
theorem sliceInfo_spec {cx:Cx}{t:TypeId}{q:TypeId×Nat×List AV×Nat}(h:sliceInfo cx t=some q):∃i z,cx.P.underlying t=some (.slice q.1)∧cx.P.info? q.1=some i∧i.zero=some z∧z.cells.size=i.size∧0<i.size∧0<i.bytes∧q.2.1=i.size∧q.2.2.1=z.cells.toList.map .val∧q.2.2.2=i.bytes:=by
 unfold sliceInfo at h
 obtain⟨d,h1,h⟩:=bind_some_iff h
 split at h
 ·rename_i e
  obtain⟨i,h2,h⟩:=bind_some_iff h
  obtain⟨z,h3,h⟩:=bind_some_iff h
  split at h
  ·rename_i hb
   cases h
   simp only [Bool.and_eq_true] at hb
   have hz:i.zero=some z:=by
    unfold Cx.zero at h3
    rw [h2] at h3
    exact h3
   exact⟨i,z,h1,h2,hz,by have:=Nat.eq_of_beq_eq_true hb.1;simpa [zcells] using this,by simpa [Nat.blt_eq] using hb.2.1,by simpa [Nat.blt_eq] using hb.2.2,rfl,rfl,rfl⟩
  ·cases h
 ·cases h
section
variable {cx:Cx}{K:Kf}{N:Nat}{S:Nat→Prop}{μ:Mu}{env:Env}{h:Heap}{tmps:Array Value}{w:World}
theorem madeCells_get {z:Array Value}{n s i j:Nat}(hz:z.size=s) (_hs:0<s) (hi:i<n) (hj:j<s):(madeCells z (n*s))[i*s+j]?=z[j]?:=by
 have hlt:i*s+j<n*s:=by
  have:(i+1)*s≤n*s:=Nat.mul_le_mul_right _ hi
  rw [Nat.add_mul,Nat.one_mul] at this
  omega
 have hm:(i*s+j)%s=j:=by rw [Nat.mul_comm,Nat.mul_add_mod,Nat.mod_eq_of_lt hj]
 simp [madeCells,hlt,hz,hm,hj]
theorem makeV_sem (st:St cx K N S μ env h tmps w) {t:TypeId}{lv cv:AV}{u v:Value}(hl:Rep S w μ lv u) (hc:Rep S w μ cv v) {av:AV}{h':Heap}(hm:makeV cx t lv cv h (fun v h=>some (v,h))=some (av,h')):∃r w' μ',(Instr.makeSlice t u v).run cx.P w = .ok r w'∧Rep S w' μ' av r∧St cx K N S μ' env h' tmps w':=by
 unfold makeV at hm
 obtain⟨q,h1,hm⟩:=bind_some_iff hm
 obtain⟨i,z,i1,i2,i3,i4,i5,i6,i7,i8,i9⟩:=sliceInfo_spec h1
 split at hm
 ·rename_i kl l kc n _
  rw [hl.inv_val,hc.inv_val]
  split at hm
  ·rename_i h0
   split at hm
   ·rename_i hln
    split at hm
    ·rename_i hb
     cases hm
     rw [i9] at hb
     have h63:n≤9223372036854775807:=by
      have:(1:Int)*n≤(i.bytes:Int)*n:=Int.mul_le_mul_of_nonneg_right (by omega) (by omega)
      omega
     have hr:=run_make (P:=cx.P) w t q.1 i z i1 i2 i3 kl kc l n h0 hln hb h63
     have hx:=st.step (w':=w.alloc (.cells (madeCells z.cells (n.toNat*i.size)) q.1)) (kill:=none) (o:=⟨.arr,q.1,q.2.1,q.2.1,List.replicate l.toNat q.2.2.1⟩) (x:=some (w.heap.size,i.size,n.toNat))
      (by simp) rfl rfl ⟨rfl,fun _=>Nat.le_refl _⟩ (fun b hb _=>heap_alloc_old w _ hb) (fun r hr=>by cases hr) rfl (fun hx=>by cases hx) (fun b s C hx=>by
       cases hx
       refine⟨i7.symm,.inr (Nat.le_refl _),_,heap_alloc_new w _,?_,?_,?_,?_⟩
       ·show(madeCells z.cells (n.toNat*i.size)).size=n.toNat*q.2.1
        rw [size_madeCells,i7]
       ·show(List.replicate l.toNat q.2.2.1).length*q.2.1≤(madeCells z.cells (n.toNat*i.size)).size
        rw [size_madeCells,i7,List.length_replicate]
        exact Nat.mul_le_mul_right _ (by omega)
       ·intro k e he
        have:=List.mem_of_getElem? he
        rw [List.eq_of_mem_replicate this,i7,i8]
        simpa using i4
       ·intro k j e a he ha
        have hk:=(γ.1 he).1
        simp at hk
        have:=List.mem_of_getElem? he
        rw [List.eq_of_mem_replicate this,i8] at ha
        simp only [List.getElem?_map] at ha
        cases hz:z.cells.toList[j]? with
        |none=>rw [hz] at ha;cases ha
        |some y =>
         rw [hz] at ha
         cases ha
         have hz':z.cells[j]?=some y:=by simpa using hz
         have hj:j<i.size:=by
          have:=(Array.getElem?_eq_some_iff.1 hz').1
          omega
         refine⟨y,?_,.val y⟩
         show(madeCells z.cells (n.toNat*i.size))[k*q.2.1+j]?=some y
         rw [i7,madeCells_get i4 i5 (by omega) hj]
         exact hz')
     refine⟨_,_,_,hr,?_,hx⟩
     have:=Rep.arr (S:=S) (w:=w.alloc (.cells (madeCells z.cells (n.toNat*i.size)) q.1)) (μ:=μ.updO h.length (some (w.heap.size,i.size,n.toNat))) (r:=h.length) (ver:=q.2.1) (off:=0) (len:=l.toNat) w.heap.size n.toNat
      (by simp [Mu.updO,Mu.upd,i7]) (by omega)
     simpa using this
    ·cases hm
   ·cases hm
  ·cases hm
 ·cases hm
end
end Go.Proofs.Av
/-append and copy:what the evaluator tells of them is so. -/
namespace Go.Proofs.Av
open Go
open List renaming getElem?_eq_some_iff→γ
section
variable {cx:Cx}{K:Kf}{N:Nat}{S:Nat→Prop}{μ:Mu}{env:Env}{h:Heap}{tmps:Array Value}{w:World}
theorem appFin_sem (st:St cx K N S μ env h tmps w) {t:TypeId}{q:TypeId×Nat×List AV×Nat}(hq:sliceInfo cx t=some q) {kill:Option Nat}{es ys:List (List AV)}{u v:Value}{xs news:List Value}(hown:OwnV w q.1 q.2.1 u es.length xs) {t2:TypeId}(hsrc:SrcA cx.P w t t2 q.2.1 v ys.length news) (hel:∀e∈es,e.length=q.2.1) (hyl:∀e∈ys,e.length=q.2.1) (hec:∀(i j:Nat) (e:List AV) (a:AV),es[i]?=some e→e[j]?=some a→∃x,xs[i*q.2.1+j]?=some x∧Rep S w Mu.none a x) (hyc:∀(i j:Nat) (e:List AV) (a:AV),ys[i]?=some e→e[j]?=some a→∃x,news[i*q.2.1+j]?=some x∧Rep S w Mu.none a x) (hkill:∀r,kill=some r→∃o0,h[r]?=some o0∧o0.k = .arr) (hblock:∀g,u.ownBlock=some g→∃r s,kill=some r∧μ r=some (g,s)) {ty:TypeId}{av:AV}{h':Heap}(ha:appFin q h kill es ys (fun v h=>some (v,h))=some (av,h')):∃r w' μ',(Builtin.append_ #[t,t2] ty #[u,v]).run cx.P w = .ok r w'∧Rep S w' μ' av r∧St cx K N S μ' env h' tmps w':=by
 obtain⟨i,z,i1,i2,i3,i4,i5,i6,i7,i8,i9⟩:=sliceInfo_spec hq
 unfold appFin at ha
 split at ha
 ·rename_i hb
  cases ha
  rw [i9] at hb
  rw [i7] at hown hsrc hel hyl hec hyc
  have h63:es.length+ys.length≤maxLen:=by
   have:(es.length+ys.length)*1≤(es.length+ys.length)*i.bytes:=Nat.mul_le_mul_left _ i6
   simp only [maxLen]
   omega
  obtain⟨r,w',hr,hg,hgd,hres⟩:=app_runA (P:=cx.P) w t t2 ty q.1 i z i1 i2 i3 i4 i5 u es.length xs hown v ys.length news hsrc h63 hb
  have hnS:∀g,u.ownBlock=some g→¬S g:=fun g hgb hS=>by
   obtain⟨r0,s,hk,hm⟩:=hblock g hgb
   obtain⟨o0,g1,g2⟩:=hkill r0 hk
   rcases st.heap r0 o0 g1 with⟨d1,_⟩ |⟨_,_,d1⟩ |⟨_,d1⟩
   ·rw [g2] at d1;cases d1
   ·rw [hm] at d1;cases d1
   ·obtain⟨b',vs,t,C,e1,e2,e3,e4,_⟩:=d1.ex
    rw [hm] at e1
    cases e1
    exact e4 (by rw [g2];simp) hS
  have hSk:∀b,S b→w'.heap[b]?=w.heap[b]?:=fun b hb=>hg.block b (st.slt b hb) fun hx=>hnS b hx.symm hb
  have hlen:(xs++news).length=(es.length+ys.length)*i.size:=by rw [List.length_append,hown.1,hsrc.len,Nat.add_mul]
  have cells:∀(cur:Array Value),cur.toList.take ((es.length+ys.length)*i.size)=xs++news→∀(k j:Nat) (e:List AV) (a:AV),(es++ys)[k]?=some e→e[j]?=some a →
    ∃x,cur[k*i.size+j]?=some x∧Rep S w' Mu.none a x:=by
   intro cur hcur k j e a he ha
   have hj:=(γ.1 ha).1
   have mono:∀ {x},Rep S w Mu.none a x→Rep S w' Mu.none a x:=fun hr=>hr.mono (fun _ h=>h) hSk fun _ _ h=>h
   have from_:∀x,(xs++news)[k*i.size+j]?=some x→cur[k*i.size+j]?=some x:=fun x hx=>by
    rw [←hcur,List.getElem?_take] at hx
    split at hx
    ·simpa using hx
    ·cases hx
   by_cases hk:k<es.length
   ·rw [List.getElem?_append_left hk] at he
    obtain⟨x,hx,hrx⟩:=hec k j e a he ha
    refine⟨x,from_ x ?_,mono hrx⟩
    rw [List.getElem?_append_left (γ.1 hx).1]
    exact hx
   ·rw [List.getElem?_append_right (by omega)] at he
    obtain⟨x,hx,hrx⟩:=hyc _ j e a he ha
    refine⟨x,from_ x ?_,mono hrx⟩
    have hsub:(k-es.length)*i.size=k*i.size-es.length*i.size:=Nat.sub_mul _ _ _
    have hle:es.length*i.size≤k*i.size:=Nat.mul_le_mul_right _ (by omega)
    rw [List.getElem?_append_right (by rw [hown.1];omega),hown.1,←hx]
    congr 1
    omega
  have lens:∀(k:Nat) (e:List AV),(es++ys)[k]?=some e→e.length=i.size:=fun k e he=>by
   rcases List.mem_append.1 (List.mem_of_getElem? he) with h |h
   ·exact hel e h
   ·exact hyl e h
  have hblk:∀b,b<w.heap.size→(∀r s,kill=some r→μ r≠some (b,s))→w'.heap[b]?=w.heap[b]?:=fun b hb hn=>hg.block b hb fun hx=>by
   obtain⟨r0,s,hk,hm⟩:=hblock b hx.symm
   exact hn r0 s hk hm
  rcases hres with⟨rfl,rfl,hm0⟩ |⟨g',cap',cur',rfl,q1,q2,q3,q4,q5⟩
  ·--nothing to nothing
   have he0:es=[]:=by
    rcases hown.2 with⟨_,h0⟩ |⟨g,cap,cur,hx,_⟩
    ·exact List.eq_nil_of_length_eq_zero h0
    ·cases hx
   have hy0:ys=[]:=List.eq_nil_of_length_eq_zero hm0
   subst he0
   subst hy0
   have hx:=st.step (w':=w') (kill:=kill) (o:=⟨.arr,q.1,q.2.1,q.2.1,[]++[]⟩) (x:=none) hg.size hg.os hg.tape ⟨hg.output,fun _=>hgd⟩ hblk hkill rfl (fun _=>rfl) (fun b s C hx=>by cases hx)
   exact⟨_,w',_,hr,.anil,hx⟩
  ·have hx:=st.step (w':=w') (kill:=kill) (o:=⟨.arr,q.1,q.2.1,q.2.1,es++ys⟩) (x:=some (g',i.size,cap')) hg.size hg.os hg.tape ⟨hg.output,fun _=>hgd⟩ hblk hkill rfl (fun hx=>by cases hx) (fun b s C hx=>by
    cases hx
    refine⟨i7.symm,?_,cur',q1,?_,?_,?_,?_⟩
    ·rcases q5 with h |h
     ·obtain⟨r0,s,hk,hm⟩:=hblock g' h
      exact .inl ⟨r0,s,hk,hm⟩
     ·exact .inr h
    ·show cur'.size=cap'*q.2.1
     rw [i7];exact q3
    ·show(es++ys).length*q.2.1≤cur'.size
     rw [i7,q3,List.length_append]
     exact Nat.mul_le_mul_right _ q2
    ·show ∀(k:Nat) (e:List AV),(es++ys)[k]?=some e→e.length=q.2.1
     rw [i7];exact lens
    ·show ∀(k j:Nat) (e:List AV) (a:AV),(es++ys)[k]?=some e→e[j]?=some a→∃x,cur'[k*q.2.1+j]?=some x∧Rep S w' Mu.none a x
     rw [i7];exact cells cur' q4)
   refine⟨_,w',_,hr,?_,hx⟩
   have:=Rep.arr (S:=S) (w:=w') (μ:=μ.updO h.length (some (g',i.size,cap'))) (r:=h.length) (ver:=q.2.1) (off:=0) (len:=es.length+ys.length) g' cap' (by simp [Mu.updO,Mu.upd,i7]) q2
   simpa using this
 ·cases ha
theorem srcRows_src (hH:HRel S w μ h) {t1 t2:TypeId}{sz:Nat}(hs:0<sz) {y:AV}{v:Value}(hy:Rep S w μ y v) {ys:List (List AV)}(h3:srcRows cx h t1 t2 sz y=some ys) (hok:ysOk ys=true):∃news,SrcA cx.P w t1 t2 sz v ys.length news∧(∀e∈ys,e.length=sz)∧∀(i j:Nat) (e:List AV) (a:AV),ys[i]?=some e→e[j]?=some a→∃x,news[i*sz+j]?=some x∧Rep S w Mu.none a x:=by
 unfold srcRows at h3
 split at h3
 ·rename_i s
  obtain⟨d,h1,h3⟩:=bind_some_iff h3
  split at h3
  ·obtain⟨_,h2,h3⟩:=bind_some_iff h3
   cases h3
   have h2:=chk_eq h2
   subst h2
   rw [hy.inv_val]
   refine⟨Lib.strCells s,.str h1 rfl s rfl (by simp [strRows]) rfl,fun e he=> ?_,fun i j e a he ha=> ?_⟩
   ·obtain⟨b,_,rfl⟩:=List.mem_map.1 he
    rfl
   ·unfold strRows at he
    rw [List.getElem?_map] at he
    cases hb:s.data.toList[i]? with
    |none=>rw [hb] at he;cases he
    |some b =>
     rw [hb] at he
     cases he
     cases j with
     |zero =>
      cases ha
      refine⟨.int .u8 b.toNat,?_,.val _⟩
      unfold Lib.strCells
      rw [Nat.mul_one,Nat.add_zero,List.getElem?_map,hb]
      rfl
     |succ j=>simp at ha
  ·cases h3
 ·obtain⟨_,h2,h3⟩:=bind_some_iff h3
  have h2:=chk_eq h2
  obtain⟨news,h4,h5,h6⟩:=yRows_src hH hs hy h3 hok
  exact⟨news,.slice (by first |exact h2 |exact h2.symm) h4,h5,h6⟩
theorem appendV_sem (st:St cx K N S μ env h tmps w) {t1 t2:TypeId}{x y:AV}{u v:Value}(hx:Rep S w μ x u) (hy:Rep S w μ y v) {ty:TypeId}{av:AV}{h':Heap}(ha:appendV cx t1 t2 x y h (fun v h=>some (v,h))=some (av,h')):∃r w' μ',(Builtin.append_ #[t1,t2] ty #[u,v]).run cx.P w = .ok r w'∧Rep S w' μ' av r∧St cx K N S μ' env h' tmps w':=by
 unfold appendV at ha
 obtain⟨q,h2,ha2⟩:=bind_some_iff ha
 clear ha
 obtain⟨ys,h3,ha3⟩:=bind_some_iff ha2
 clear ha2
 obtain⟨i,z,i1,i2,i3,i4,i5,i6,i7,i8,i9⟩:=sliceInfo_spec h2
 cases hok:ysOk ys with
 |false=>rw [hok] at ha3;cases ha3
 |true =>
  rw [hok] at ha3
  simp only [cond_true] at ha3
  have hs:0<q.2.1:=by rw [i7];exact i5
  obtain⟨news,hsrc,hyl,hyc⟩:=srcRows_src st.heap hs hy h3 hok
  split at ha3
  ·rw [hx.inv_val]
   exact appFin_sem st h2 (xs:=[]) ⟨by simp,.inl ⟨rfl,rfl⟩⟩ hsrc (fun e he=>by cases he) hyl (fun i j e a he=>by simp at he) hyc (fun r hr=>by cases hr) (fun g hg=>by simp [Value.ownBlock] at hg) ha3
  ·rename_i r ver off n
   obtain⟨_,g1,ha4⟩:=bind_some_iff ha3
   clear ha3
   obtain⟨o,g2,ha5⟩:=bind_some_iff ha4
   clear ha4
   obtain⟨_,g3,ha6⟩:=bind_some_iff ha5
   clear ha5
   obtain⟨_,g4,ha7⟩:=bind_some_iff ha6
   clear ha6
   obtain⟨_,g5,ha8⟩:=bind_some_iff ha7
   clear ha7
   have g1:=chk_eq g1
   have g4:=chk_eq g4
   have g5:=chk_eq g5
   rw [g1] at hx
   split at ha8
   ·rename_i hk
    obtain⟨_,g6,ha9⟩:=bind_some_iff ha8
    clear ha8
    have g6:=chk_eq g6
    have hkill:∀r',some r=some r'→∃o0,h[r']?=some o0∧o0.k = .arr:=fun r' hr=>by cases hr;exact⟨o,g2,hk⟩
    cases hx with
    |arr0 a ha0=>omega
    |anil =>
     have he0:o.es=[]:=List.eq_nil_of_length_eq_zero (by first |exact g6 |exact g6.symm)
     rw [he0] at ha9
     exact appFin_sem st h2 (xs:=[]) ⟨by simp,.inl ⟨rfl,rfl⟩⟩ hsrc (fun e he=>by cases he) hyl (fun i j e a he=>by simp at he) hyc hkill (fun g hg=>by simp [Value.ownBlock] at hg) ha9
    |arr b cap hb hcap =>
     have hn:n=o.es.length:=by first |exact g6 |exact g6.symm
     subst hn
     have hsol:ObRel S w μ r o:=by
      rcases st.heap r o g2 with⟨d,_⟩ |⟨_,_,d⟩ |⟨_,d⟩
      ·rw [hk] at d;cases d
      ·rw [hb] at d;cases d
      ·exact d
     obtain⟨b',vs,t,C',e1,e2,e3,e4,e5,e5',e6,e7⟩:=hsol.ex
     rw [hb] at e1
     cases e1
     obtain⟨e8,e9⟩:=e5' hk
     subst e9
     have hsz:o.sz=q.2.1:=g4
     refine appFin_sem st h2 (xs:=vs.toList.take (o.es.length*q.2.1)) ⟨?_,.inr ⟨b,cap,vs,?_,?_,hcap,?_,rfl⟩⟩ hsrc (fun e he=> ?_) hyl (fun i j e a he ha'=> ?_) hyc hkill (fun g hg=> ?_) ha9
     ·rw [List.length_take,Array.length_toList]
      rw [hsz] at e5
      omega
     ·simp
     ·rw [←g5];exact e2
     ·rw [e8,Nat.zero_add,hsz]
     ·obtain⟨k,hk'⟩:=List.mem_iff_getElem?.1 he
      rw [←hsz];exact e6 k e hk'
     ·obtain⟨x,hx',hrx⟩:=e7 i j e a he ha'
      have hi:=(γ.1 he).1
      have hj:=(γ.1 ha').1
      have hel:=e6 i e he
      refine⟨x,?_,?_⟩
      ·rw [←hsz,List.getElem?_take,if_pos (by
        have:(i+1)*o.sz≤o.es.length*o.sz:=Nat.mul_le_mul_right _ hi
        rw [Nat.add_mul,Nat.one_mul] at this
        omega)]
       simpa using hx'
      ·unfold Ob.mu at hrx
       rw [hk] at hrx
       exact hrx
     ·simp [Value.ownBlock] at hg
      subst hg
      exact⟨r,_,rfl,hb⟩
   ·cases ha8
  ·cases ha3
end
end Go.Proofs.Av
/-A row of one's own,written over:copy and clear. -/
namespace Go.Proofs.Av
open Go
open List renaming getElem?_eq_some_iff→γ
section
variable {cx:Cx}{K:Kf}{N:Nat}{S:Nat→Prop}{μ:Mu}{env:Env}{h:Heap}{tmps:Array Value}{w:World}
theorem St.reset (st:St cx K N S μ env h tmps w) {r b C:Nat}{o:Ob}{es':List (List AV)}{vs vs':Array Value}{t:TypeId}(ho:h[r]?=some o) (hk:o.k = .arr) (hb:μ r=some (b,o.sz,C)) (hw:w.heap[b]?=some (.cells vs t (0,0))) (hvs:vs'.size=vs.size) (hle:es'.length*o.sz≤vs'.size) (hlen:∀(i:Nat) (e:List AV),es'[i]?=some e→e.length=o.sz) (hcell:∀(i j:Nat) (e:List AV) (a:AV),es'[i]?=some e→e[j]?=some a→∃u,vs'[i*o.sz+j]?=some u∧Rep S w Mu.none a u):St cx K N S μ env (h.set r { o with es:=es' }) tmps (w.setRow b vs'):=by
 have hsol:ObRel S w μ r o:=by
  rcases st.heap r o ho with⟨d,_⟩ |⟨_,_,d⟩ |⟨_,d⟩
  ·rw [hk] at d;cases d
  ·rw [hb] at d;cases d
  ·exact d
 obtain⟨b',vs0,t0,C',h1,h2,h3,h4,h5,h5',h6,h7⟩:=hsol.ex
 rw [hb] at h1
 cases h1
 rw [hw] at h2
 cases h2
 have hnS:¬S b:=h4 (by rw [hk];simp)
 have hother:∀k,k≠b→(w.setRow b vs').heap[k]?=w.heap[k]?:=fun k hk=>setRow_other w b k _ hk
 have hkd:o.k ≠ .dead:=by rw [hk];simp
 have hal:∀k,alive (h.set r { o with es:=es' }) k→alive h k:=fun k ha x hx=>by
  by_cases hkr:r=k
  ·subst hkr
   rw [ho] at hx
   cases hx
   exact hkd
  ·exact ha x (by rw [List.getElem?_set_ne hkr];exact hx)
 have hSk:∀k,S k→(w.setRow b vs').heap[k]?=w.heap[k]?:=fun k hk=>hother k fun e=>hnS (e▸hk)
 refine⟨st.size,fun t v ht=>(st.env t v ht).mono (fun _ h=>h) hSk fun _ _ h=>h,fun g cs hg=>(st.g g cs hg).mono (fun _ h=>h) hSk fun _ _ h=>h,?_,fun r1 r2 b1 s1 s2 hb1 hb2 ha1 ha2=>st.inj r1 r2 b1 s1 s2 hb1 hb2 (hal r1 ha1) (hal r2 ha2),fun r x hx=>by simpa using st.dom r x hx,st.own,st.s0,st.snew,fun b hb=>by simpa using st.slt b hb,?_,by simpa using st.le,st.os,st.tape,⟨st.output.out,st.output.drawn⟩,st.fix⟩
 ·intro r' o' ho'
  by_cases hr:r=r'
  ·subst hr
   have hrl:=(γ.1 ho).1
   rw [List.getElem?_set_self hrl] at ho'
   cases ho'
   refine .inr (.inr ⟨hkd,⟨b,vs',t,C,hb,setRow_heap w b vs _ t _ hw,fun hk'=>absurd hk' (by rw [hk];simp),fun _=>hnS,hle,?_,hlen,?_⟩⟩)
   ·intro hka
    have:=h5' hka
    exact⟨hvs.trans this.1,this.2⟩
   ·intro i j e a he ha
    obtain⟨u,hu,hru⟩:=hcell i j e a he ha
    refine⟨u,hu,?_⟩
    unfold Ob.mu
    simp only [hk]
    exact hru.mono (fun _ h=>h) hSk fun _ _ h=>h
  ·rw [List.getElem?_set_ne hr] at ho'
   exact(st.heap r' o' ho').mono (fun _ h=>h) hSk (fun _ _ h=>h) rfl (by simp) (fun hkd' b' s hb'=>hother b' fun e=>hr (by
    subst e
    exact st.inj r r' b' _ _ hb hb' (fun x hx=>by rw [ho] at hx;cases hx;exact hkd) fun x hx=>by rw [ho'] at hx;cases hx;exact hkd')) fun _ _ _ h=>h
 ·intro k hk ho'
  have hne:k≠b:=fun e=>by
   subst e
   rcases st.own r k _ hb with h |h
   ·exact ho' h
   ·omega
  rw [hother k hne]
  exact st.frame k hk ho'
theorem rows_over {sz off C:Nat}{es ys:List (List AV)}{vs:Array Value}{news:List Value}(hC:vs.size=C*sz) (hle:es.length*sz≤vs.size) (hoy:off+ys.length≤es.length) (hnl:news.length=ys.length*sz)
  (hel:∀(i:Nat) (e:List AV),es[i]?=some e→e.length=sz) (hyl:∀e∈ys,e.length=sz)
  (hec:∀(i j:Nat) (e:List AV) (a:AV),es[i]?=some e→e[j]?=some a→∃u,vs[i*sz+j]?=some u∧Rep S w Mu.none a u)
  (hyc:∀(i j:Nat) (e:List AV) (a:AV),ys[i]?=some e→e[j]?=some a→∃u,news[i*sz+j]?=some u∧Rep S w Mu.none a u) :
  let es':=es.take off++ys++es.drop (off+ys.length)
  let vs':=(vs.toList.take (off*sz)++news++vs.toList.drop (off*sz+news.length)).toArray
  vs'.size=vs.size∧es'.length*sz≤vs'.size∧(∀(i:Nat) (e:List AV),es'[i]?=some e→e.length=sz) ∧
   ∀(i j:Nat) (e:List AV) (a:AV),es'[i]?=some e→e[j]?=some a→∃u,vs'[i*sz+j]?=some u∧Rep S w Mu.none a u:=by
 intro es' vs'
 have hm1:(off+ys.length)*sz≤es.length*sz:=Nat.mul_le_mul_right _ hoy
 rw [Nat.add_mul] at hm1
 have hfit:off*sz+news.length≤vs.toList.length:=by simp;omega
 have hsz:vs'.size=vs.size:=by
  simp only [vs',List.size_toArray,List.length_append,List.length_take,List.length_drop,Array.length_toList]
  omega
 have hlen:es'.length=es.length:=by
  simp only [es',List.length_append,List.length_take,List.length_drop]
  omega
 have get:∀i,es'[i]?=if off≤i∧i<off+ys.length then ys[i-off]? else es[i]?:=by
  intro i
  have hl:(es.take off).length=off:=by simp;omega
  simp only [es']
  by_cases h1:i<off
  ·rw [if_neg (by omega),List.append_assoc,List.getElem?_append_left (by omega)]
   simp [h1]
  ·by_cases h2:i<off+ys.length
   ·rw [if_pos (by omega),List.getElem?_append_left (by simp;omega),List.getElem?_append_right (by omega),hl]
   ·rw [if_neg (by omega),List.getElem?_append_right (by simp;omega)]
    simp only [List.getElem?_drop,List.length_append,hl]
    congr 1
    omega
 refine⟨hsz,by rw [hlen,hsz];exact hle,fun i e he=> ?_,fun i j e a he ha=> ?_⟩
 ·rw [get] at he
  split at he
  ·exact hyl e (List.mem_of_getElem? he)
  ·exact hel i e he
 ·have hj:j<sz:=by
   have h1:=(γ.1 ha).1
   rw [get] at he
   split at he
   ·have:=hyl e (List.mem_of_getElem? he);omega
   ·have:=hel i e he;omega
  have hget:vs'[i*sz+j]?=if off*sz≤i*sz+j∧i*sz+j<off*sz+news.length then news[i*sz+j-off*sz]? else vs[i*sz+j]?:=by
   simp only [vs']
   rw [List.getElem?_toArray,splice_get_val hfit]
   simp
  rw [get] at he
  rw [hget]
  split at he
  ·rename_i hc
   obtain⟨u,hu,hru⟩:=hyc _ j e a he ha
   have h1:off*sz≤i*sz:=Nat.mul_le_mul_right _ hc.1
   have h2:(i+1)*sz≤(off+ys.length)*sz:=Nat.mul_le_mul_right _ hc.2
   rw [Nat.add_mul,Nat.add_mul,Nat.one_mul] at h2
   refine⟨u,?_,hru⟩
   rw [if_pos (by omega),←hu,Nat.sub_mul]
   congr 1
   omega
  ·rename_i hc
   obtain⟨u,hu,hru⟩:=hec i j e a he ha
   refine⟨u,?_,hru⟩
   rw [if_neg]
   ·exact hu
   ·intro ⟨h1,h2⟩
    apply hc
    rw [hnl,←Nat.add_mul] at h2
    constructor
    ·refine Nat.le_of_lt_succ (Nat.lt_of_mul_lt_mul_right (a:=sz) ?_)
     rw [Nat.succ_mul]
     omega
    ·refine Nat.lt_of_mul_lt_mul_right (a:=sz) ?_
     omega
theorem copyV_sem (st:St cx K N S μ env h tmps w) {t1 t2 ty:TypeId}{x y:AV}{u v:Value}(hx:Rep S w μ x u) (hy:Rep S w μ y v) {av:AV}{h':Heap}(hm:copyV cx t1 x y h (fun v h=>some (v,h))=some (av,h')):∃r w' μ',(Builtin.copy_ #[t1,t2] ty #[u,v]).run cx.P w = .ok r w'∧Rep S w' μ' av r∧St cx K N S μ' env h' tmps w':=by
 unfold copyV at hm
 obtain⟨q,h1,hm1⟩:=bind_some_iff hm
 clear hm
 obtain⟨ys,h2,hm⟩:=bind_some_iff hm1
 clear hm1
 obtain⟨i,z,i1,i2,i3,i4,i5,i6,i7,i8,i9⟩:=sliceInfo_spec h1
 cases hok:ysOk ys with
 |false=>rw [hok] at hm;cases hm
 |true =>
  rw [hok] at hm
  simp only [cond_true] at hm
  have hs:0<q.2.1:=by rw [i7];exact i5
  obtain⟨news,hsrc,hyl,hyc⟩:=yRows_src st.heap hs hy h2 hok
  split at hm
  ·rename_i r ver off len
   obtain⟨o,g1,hm2⟩:=bind_some_iff hm
   clear hm
   obtain⟨_,g2,hm3⟩:=bind_some_iff hm2
   clear hm2
   obtain⟨_,g3,hm4⟩:=bind_some_iff hm3
   clear hm3
   have g2:=chk_eq g2
   have g3:=chk_eq g3
   split at hm4
   ·rename_i hk
    obtain⟨_,g4,hm5⟩:=bind_some_iff hm4
    clear hm4
    have hle:off+len≤o.es.length:=by
     unfold chkLe at g4
     split at g4
     ·assumption
     ·cases g4
    cases hm5
    have hsz:i.size=o.sz:=by rw [←i7];exact g3.symm
    rw [i7] at hsrc hyl hyc
    have trivial0:∀ {ad:Option Addr},len=0→∃r' w' μ',(Builtin.copy_ #[t1,t2] ty #[.slice ad 0 0,v]).run cx.P w = .ok r' w'∧Rep S w' μ' (.val (.int .i64 (Nat.min ys.length len))) r' ∧
      St cx K N S μ' env (h.set r { o with es:=o.es.take off++ys.take (Nat.min ys.length len)++o.es.drop (off+Nat.min ys.length len) }) tmps w':=by
     intro ad h0
     subst h0
     have hmin:Nat.min ys.length 0=0:=Nat.min_eq_right (Nat.zero_le _)
     rw [hmin]
     have hself:(h.set r { o with es:=o.es.take off++ys.take 0++o.es.drop (off+0) })=h:=by
      have:o.es.take off++ys.take 0++o.es.drop (off+0)=o.es:=by simp
      rw [this]
      apply List.ext_getElem?
      intro k
      by_cases hkr:r=k
      ·subst hkr
       rw [List.getElem?_set_self (γ.1 g1).1,g1]
      ·rw [List.getElem?_set_ne hkr]
     rw [hself]
     refine⟨.int .i64 0,w,μ,?_,by simpa using Rep.val (S:=S) (w:=w) (μ:=μ) (.int .i64 0),st⟩
     obtain⟨_,_,hv⟩:=hsrc
     rcases hv with⟨rfl,hm0⟩ |⟨a,c,rfl,_⟩
     ·cases ad<;>simp [Builtin.copy_,run_underlying i1,sizeOf,typeInfo,i2,Builtin.lenOf,Builtin.firstCells,storeCells,goInt]
     ·cases ad<;>simp [Builtin.copy_,run_underlying i1,sizeOf,typeInfo,i2,Builtin.lenOf,Builtin.firstCells,storeCells,loadCells,loadCellsFrom,goInt]
    cases hx with
    |arr0 a ha=>exact trivial0 rfl
    |anil=>exact trivial0 rfl
    |arr b cap hb hcap =>
     have hsol:ObRel S w μ r o:=by
      rcases st.heap r o g1 with⟨d,_⟩ |⟨_,_,d⟩ |⟨_,d⟩
      ·rw [hk] at d;cases d
      ·rw [hb] at d;cases d
      ·exact d
     obtain⟨b',vs,t,C',e1,e2,e3,e4,e5,e5',e6,e7⟩:=hsol.ex
     rw [hb] at e1
     cases e1
     obtain⟨e8,e9⟩:=e5' hk
     have hmin:(news.take (Nat.min ys.length len*i.size)).length=Nat.min ys.length len*i.size:=by
      rw [List.length_take,hsrc.1]
      have:Nat.min ys.length len*i.size≤ys.length*i.size:=Nat.mul_le_mul_right _ (Nat.min_le_left _ _)
      omega
     have hml:Nat.min ys.length len≤len:=Nat.min_le_right _ _
     have hmy:Nat.min ys.length len≤ys.length:=Nat.min_le_left _ _
     have hroom:off*o.sz+Nat.min ys.length len*o.sz≤vs.size:=by
      rw [←Nat.add_mul]
      exact Nat.le_trans (Nat.mul_le_mul_right _ (by omega)) e5
     have hrun:=copy_run (P:=cx.P) w t1 t2 ty q.1 i i1 i2 b (off*o.sz) len cap vs t e2 v ys.length news hsrc (by rw [hmin,hsz];exact hroom)
     obtain⟨r1,r2,r3,r4⟩:=rows_over (S:=S) (w:=w) (sz:=o.sz) (off:=off) (C:=off+cap) (es:=o.es) (ys:=ys.take (Nat.min ys.length len)) (vs:=vs) (news:=news.take (Nat.min ys.length len*i.size)) e8 e5
      (by rw [List.length_take];omega) (by rw [hmin,List.length_take,Nat.min_eq_left hmy,hsz]) e6 (fun e he=>by rw [←hsz];exact hyl e (List.mem_of_mem_take he))
      (fun i' j e a he ha=>by
       obtain⟨u,hu,hru⟩:=e7 i' j e a he ha
       refine⟨u,hu,?_⟩
       unfold Ob.mu at hru
       rw [hk] at hru
       exact hru)
      (fun i' j e a he ha=>by
       rw [List.getElem?_take] at he
       split at he
       ·rename_i hi'
        obtain⟨u,hu,hru⟩:=hyc i' j e a he ha
        refine⟨u,?_,hru⟩
        have hj:=(γ.1 ha).1
        have hel:=hyl e (List.mem_of_getElem? he)
        have:(i'+1)*i.size≤Nat.min ys.length len*i.size:=Nat.mul_le_mul_right _ hi'
        rw [Nat.add_mul,Nat.one_mul] at this
        rw [List.getElem?_take,if_pos (by rw [←hsz];omega),←hsz]
        exact hu
       ·cases he)
     have hl':(ys.take (Nat.min ys.length len)).length=Nat.min ys.length len:=by rw [List.length_take];omega
     rw [hl'] at r2 r3 r4
     refine⟨_,_,μ,hrun,?_,st.reset g1 hk hb e2 r1 r2 r3 r4⟩
     exact Rep.val _
   ·cases hm4
  ·cases hm
theorem zeroCells_get {z:Array Value}{n s i j:Nat}(hz:z.size=s) (hs:0<s) (hi:i<n) (hj:j<s):(Builtin.zeroCells z n)[i*s+j]?=z[j]?:=by
 subst hz
 have hlt:i*z.size+j<n*z.size:=by
  have:(i+1)*z.size≤n*z.size:=Nat.mul_le_mul_right _ hi
  rw [Nat.add_mul,Nat.one_mul] at this
  omega
 have hm:(i*z.size+j)%z.size=j:=by rw [Nat.mul_comm,Nat.mul_add_mod,Nat.mod_eq_of_lt hj]
 simp [Builtin.zeroCells,hlt,hm,hj]
theorem clearV_sem (st:St cx K N S μ env h tmps w) {t1 ty:TypeId}{x:AV}{u:Value}(hx:Rep S w μ x u) {av:AV}{h':Heap}(hm:clearV cx t1 x h (fun v h=>some (v,h))=some (av,h')):∃r w' μ',(Builtin.clear_ #[t1] ty #[u]).run cx.P w = .ok r w'∧Rep S w' μ' av r∧St cx K N S μ' env h' tmps w':=by
 unfold clearV at hm
 obtain⟨q,h1,hm1⟩:=bind_some_iff hm
 clear hm
 obtain⟨i,z,i1,i2,i3,i4,i5,i6,i7,i8,i9⟩:=sliceInfo_spec h1
 split at hm1
 ·rename_i r ver off len
  obtain⟨o,g1,hm2⟩:=bind_some_iff hm1
  clear hm1
  obtain⟨_,g2,hm3⟩:=bind_some_iff hm2
  clear hm2
  obtain⟨_,g3,hm4⟩:=bind_some_iff hm3
  clear hm3
  have g2:=chk_eq g2
  have g3:=chk_eq g3
  split at hm4
  ·rename_i hk
   obtain⟨_,g4,hm5⟩:=bind_some_iff hm4
   clear hm4
   have hle:off+len≤o.es.length:=by
    unfold chkLe at g4
    split at g4
    ·assumption
    ·cases g4
   cases hone:(q.2.2.1.all AV.one) with
   |false=>rw [hone] at hm5;cases hm5
   |true =>
    rw [hone] at hm5
    cases hm5
    have hsz:i.size=o.sz:=by rw [←i7];exact g3.symm
    have hzr:(zeroValue q.1).run cx.P w = .ok z w:=by simp [zeroValue,typeInfo,i2,i3]
    have trivial0:∀ {ad:Option Addr}{cap:Nat},len=0→∃r' w' μ',(Builtin.clear_ #[t1] ty #[.slice ad 0 cap]).run cx.P w = .ok r' w'∧Rep S w' μ' (.val (.tuple #[])) r' ∧
      St cx K N S μ' env (h.set r { o with es:=o.es.take off++List.replicate len q.2.2.1++o.es.drop (off+len) }) tmps w':=by
     intro ad cap h0
     subst h0
     have hself:(h.set r { o with es:=o.es.take off++List.replicate 0 q.2.2.1++o.es.drop (off+0) })=h:=by
      have:o.es.take off++List.replicate 0 q.2.2.1++o.es.drop (off+0)=o.es:=by simp
      rw [this]
      apply List.ext_getElem?
      intro k
      by_cases hkr:r=k
      ·subst hkr
       rw [List.getElem?_set_self (γ.1 g1).1,g1]
      ·rw [List.getElem?_set_ne hkr]
     rw [hself]
     exact⟨.tuple #[],w,μ,by cases ad<;>simp [Builtin.clear_,run_underlying i1],.val _,st⟩
    cases hx with
    |arr0 a ha=>exact trivial0 rfl
    |anil=>exact trivial0 rfl
    |arr b cap hb hcap =>
     by_cases h0:len=0
     ·subst h0
      exact trivial0 rfl
     ·have hsol:ObRel S w μ r o:=by
       rcases st.heap r o g1 with⟨d,_⟩ |⟨_,_,d⟩ |⟨_,d⟩
       ·rw [hk] at d;cases d
       ·rw [hb] at d;cases d
       ·exact d
      obtain⟨b',vs,t,C',e1,e2,e3,e4,e5,e5',e6,e7⟩:=hsol.ex
      rw [hb] at e1
      cases e1
      obtain⟨e8,e9⟩:=e5' hk
      have hnl:(Builtin.zeroCells z.cells len).toList.length=len*o.sz:=by rw [Array.length_toList,size_zeroCells,i4,hsz]
      have hroom:off*o.sz+len*o.sz≤vs.size:=by
       rw [←Nat.add_mul]
       exact Nat.le_trans (Nat.mul_le_mul_right _ (by omega)) e5
      have hval:∀y∈(Builtin.zeroCells z.cells len).toList,y.oneCell'=true:=by
       intro y hy
       obtain⟨k,hk'⟩:=List.mem_iff_getElem?.1 hy
       have hkl:=(γ.1 hk').1
       rw [hnl,←hsz] at hkl
       obtain⟨d1,d2,d3⟩:=div_mod_lt i5 hkl
       have hg:=zeroCells_get (z:=z.cells) i4 i5 d1 d2
       rw [d3] at hg
       rw [Array.getElem?_toList,hg] at hk'
       have hmem:AV.val y∈q.2.2.1:=by
        rw [i8]
        exact List.mem_map.2 ⟨y,by simpa using Array.mem_of_getElem? hk',rfl⟩
       exact one_cell (S:=S) (w:=w) (μ:=μ) (List.all_eq_true.1 hone _ hmem) (.val y)
      have hst:=run_storeCells_at cx.P b (off*o.sz) t (Builtin.zeroCells z.cells len).toList 0 vs w e2 (by simp only [Nat.add_zero];rw [hnl];exact hroom) hval
      simp only [Nat.add_zero] at hst
      obtain⟨r1,r2,r3,r4⟩:=rows_over (S:=S) (w:=w) (sz:=o.sz) (off:=off) (C:=off+cap) (es:=o.es) (ys:=List.replicate len q.2.2.1) (vs:=vs) (news:=(Builtin.zeroCells z.cells len).toList) e8 e5
       (by rw [List.length_replicate];exact hle) (by rw [hnl,List.length_replicate]) e6 (fun e he=>by
        rw [List.eq_of_mem_replicate he,i8,←hsz]
        simpa using i4)
       (fun i' j e a he ha=>by
        obtain⟨u,hu,hru⟩:=e7 i' j e a he ha
        refine⟨u,hu,?_⟩
        unfold Ob.mu at hru
        rw [hk] at hru
        exact hru)
       (fun i' j e a he ha=>by
        have hi':=(γ.1 he).1
        simp at hi'
        rw [List.eq_of_mem_replicate (List.mem_of_getElem? he),i8] at ha
        simp only [List.getElem?_map] at ha
        cases hz:z.cells.toList[j]? with
        |none=>rw [hz] at ha;cases ha
        |some y =>
         rw [hz] at ha
         cases ha
         have hz':z.cells[j]?=some y:=by simpa using hz
         have hj:j<i.size:=by
          have:=(Array.getElem?_eq_some_iff.1 hz').1
          omega
         refine⟨y,?_,.val y⟩
         rw [Array.getElem?_toList,←hsz,zeroCells_get i4 i5 hi' hj]
         exact hz')
      rw [List.length_replicate] at r2 r3 r4
      refine⟨.tuple #[],_,μ,?_,.val _,st.reset g1 hk hb e2 r1 r2 r3 r4⟩
      obtain⟨len',rfl⟩:∃l,len=l+1:=⟨len-1,by omega⟩
      simp [Builtin.clear_,run_underlying i1,hzr,hst]
  ·cases hm4
 ·cases hm1
end
end Go.Proofs.Av
