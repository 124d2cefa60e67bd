/- What is told of slices.Collect is so; all that is told by itself is so. -/
import Derived.Test.YtoepfmodbhfckaaAiCo
import Derived.Test.YtoepfmodbhfckaaAiSa
import Derived.Test.YtoepfmodbhfckaaAiRc
set_option maxRecDepth 100000
namespace Go.Proofs.Av
open Go Go.RowKit
theorem fact160:Fact cx 160:=⟨Try.f160,Try.func160,by kernel_rfl,by kernel_rfl⟩
theorem q65:sliceInfo cx 65=some (26,1,[vu 0],8):=by kernel_rfl
theorem allU1:∀ {es:List (List AV)},es.all isU1=true→∃zs:List Int,es=zs.map fun z=>[vu z]
 | [],_=>⟨[],rfl⟩
 |e::r,h=>by
  simp only [List.all_cons,Bool.and_eq_true] at h
  obtain⟨zs,hz⟩:=allU1 h.2
  have h1:=h.1
  unfold isU1 at h1
  split at h1
  ·rename_i z
   exact⟨z::zs,by rw [hz];rfl⟩
  ·cases h1
theorem ext160:Fact cx 160∧∀(K:Kf) (N:Nat) (S:Nat→Prop) (μ:Mu) (env:Env) (h:Heap) (tmps:Array Value) (w:World) (als:List AV) (vs:List Value) (av:AV) (h':Heap),St cx K N S μ env h tmps w→Reps S w μ als vs→freshV cx 65 (collP 162) als h (fun v h=>some (v,h))=some (av,h')→Calls cx.P 160 vs.toArray w fun e w'=>∃cv S' μ',e = .returned cv∧Rep S' w' μ' av cv∧St cx K N S' μ' env h' tmps w':=by
 refine⟨fact160,fun K N S μ env h tmps w als vs av h' st hr ht=> ?_⟩
 unfold freshV at ht
 rw [q65,Option.bind_some] at ht
 obtain⟨ys,h1,ht1⟩:=bind_some_iff ht
 clear ht
 unfold collP at h1
 split at h1
 case h_2=>cases h1
 rename_i g fl es
 cases hg:Nat.beq g 162 with
 |false=>rw [hg] at h1;cases h1
 |true =>
 rw [hg] at h1
 have hg':=Nat.eq_of_beq_eq_true hg
 subst hg'
 simp only [cond_true] at h1
 split at h1
 case isFalse=>cases h1
 rename_i hlen
 cases hall:es.all isU1 with
 |false=>rw [hall] at h1;cases h1
 |true =>
 rw [hall] at h1
 have h1':some es=some ys:=h1
 have h1e:=Option.some.inj h1'
 clear h1 h1'
 subst h1e
 obtain⟨zs,hzs⟩:=allU1 hall
 have hzl:zs.length=es.length:=by rw [hzs];simp
 cases hok:ysOk es with
 |false=>rw [hok] at ht1;cases ht1
 |true =>
 rw [hok] at ht1
 simp only [cond_true] at ht1
 unfold appFin at ht1
 split at ht1
 case isFalse=>cases ht1
 rename_i hb
 have ht2:some (AV.arr h.length 1 0 (0+es.length),h++[Ob.mk .arr 26 1 1 ([]++es)])=some (av,h'):=ht1
 cases ht2
 obtain⟨v1,r1,rfl,g1,g2⟩:=hr.inv_cons
 have:=g2.inv_nil
 subst this
 obtain⟨vs1,hv1,hu⟩:∃u,v1 = .func (.func 162) #[] #[u]∧Rep S w μ (.rop [.list fl 1 es]) u:=by
  cases g1 with
  |func us vs hu hl hf hr2 =>
   have e1:us= #[]:=Array.eq_empty_of_size_eq_zero (by simpa using hu)
   have hs:vs.size=1:=by simpa using hl
   refine⟨vs[0],?_,hr2 0 _ _ rfl (by simp [hs])⟩
   rw [e1]
   congr 1
   apply Array.ext
   ·simp [hs]
   ·intro i h1 h2
    have:i=0:=by omega
    subst this
    rfl
 subst hv1
 cases hu with
 |rop b off f hS hc hrr =>
 have hc0:w.cell? ⟨b,off,none⟩=some (f 0):=hc 0 (by simp)
 have hr0:=hrr 0 _ rfl
 have hI:IntsAt w.heap.size w (f 0) zs:=by
  generalize hx:f 0=sv at hr0
  cases hr0 with
  |list b' off' cap f' hS' hl' hc' hr' hcap hfull =>
   refine .inr ⟨b',off',cap,by rw [hzl],st.slt b' hS',fun j hj=> ?_⟩
   have hj':j<es.length:=by omega
   have h2:=hc' j 0 hj' (by omega)
   have he:es[j]?=some [vu zs[j]]:=by rw [hzs];simp [hj]
   have h3:=(hr' j 0 _ _ he rfl).inv_val
   rw [h3] at h2
   have e2:off'+j*1+0=off'+j:=by omega
   rw [e2] at h2
   rw [h2]
   simp [hj]
  |nil=>exact .inl ⟨List.eq_nil_of_length_eq_zero (by rw [hzl];rfl),_,_,rfl⟩
  |empty a cap hf=>exact .inl ⟨List.eq_nil_of_length_eq_zero (by rw [hzl];rfl),_,_,rfl⟩
 refine(collect_calls b off (f 0) zs (by unfold maxLen;omega) (by omega) w (st.slt b hS) hc0 hI).mono fun e w' ⟨v,e1,hrow,hbl⟩=> ?_
 have hout:OutD cx w w':=⟨hbl.output,fun hq=>absurd hq not_quiet⟩
 rcases hrow.2 with⟨rfl,h0⟩ |⟨gb,cap,cur,rfl,q1,q2,q3,q4,q5,q6⟩
 ·have hes:es=[]:=List.eq_nil_of_length_eq_zero (by omega)
  subst hes
  have hx:=st.step (w':=w') (kill:=none) (o:=⟨.arr,26,1,1,[]⟩) (x:=none) hbl.size hbl.os hbl.tape hout (fun b hb _=>hbl.block b hb) (fun r hr=>by cases hr) rfl (fun _=>rfl) (fun b s C hx=>by cases hx)
  exact⟨_,S,_,e1,.anil,hx⟩
 ·have hx:=st.step (w':=w') (kill:=none) (o:=⟨.arr,26,1,1,es⟩) (x:=some (gb,1,cap)) hbl.size hbl.os hbl.tape hout (fun b hb _=>hbl.block b hb) (fun r hr=>by cases hr) rfl (fun hx=>by cases hx) (fun b s C hx=>by
   cases hx
   refine⟨rfl,.inr q1,cur,q2,q5,?_,?_,?_⟩
   ·show es.length*1≤cur.size
    omega
   ·intro k e he
    have he':es[k]?=some e:=he
    rw [hzs,List.getElem?_map] at he'
    cases hz:zs[k]? with
    |none=>rw [hz] at he';cases he'
    |some z=>rw [hz] at he';cases he';rfl
   ·intro k j e a he ha
    have he':es[k]?=some e:=he
    rw [hzs,List.getElem?_map] at he'
    cases hz:zs[k]? with
    |none=>rw [hz] at he';cases he'
    |some z =>
     rw [hz] at he'
     cases he'
     match j,ha with
     | 0,ha =>
      cases ha
      refine⟨.int .u64 z,?_,.val _⟩
      have hkl:k<zs.length:=(List.getElem?_eq_some_iff.1 hz).1
      have h5:(cur.toList.take (zs.length*1))[k]?=some (.int .u64 z):=by rw [q6,List.getElem?_map,hz];rfl
      rw [List.getElem?_take,if_pos (by omega)] at h5
      show cur[k*1+0]?=_
      rw [show k*1+0=k by omega]
      simpa using h5)
  refine⟨_,S,_,e1,?_,hx⟩
  have:=Rep.arr (S:=S) (w:=w') (μ:=μ.updO h.length (some (gb,1,cap))) (r:=h.length) (ver:=1) (off:=0) (len:=0+es.length) gb cap (by simp [Mu.updO,Mu.upd]) (by omega)
  simpa [hzl] using this
theorem cx_ext:ExtSound cx:=by
 refine⟨fun f e h=> ?_,fun f G h=>(by cases h),fun f ru h F hF args v hv=> ?_⟩
 ·have h':(match Nat.beq f 113 with |true=>some (ExtF.turn 34 sortPP) |false=>match Nat.beq f 158 with |true=>some (ExtF.fresh 34 growP) |false=>match Nat.beq f 160 with |true=>some (ExtF.fresh 65 (collP 162)) |false=>none)=some e:=h
  cases hf:Nat.beq f 113 with
  |true =>
   rw [hf] at h'
   cases h'
   have:=Nat.eq_of_beq_eq_true hf
   subst this
   exact ext113
  |false =>
   rw [hf] at h'
   cases hf2:Nat.beq f 158 with
   |true =>
    rw [hf2] at h'
    cases h'
    have:=Nat.eq_of_beq_eq_true hf2
    subst this
    exact ext158
   |false =>
    rw [hf2] at h'
    cases hf3:Nat.beq f 160 with
    |true =>
     rw [hf3] at h'
     cases h'
     have:=Nat.eq_of_beq_eq_true hf3
     subst this
     exact ext160
    |false =>
     rw [hf3] at h'
     cases h'
 ·have h':(bif Nat.beq f 138 then some (hasRule 134) else bif Nat.beq f 89 then some (checkRule 42 83 138) else none)=some ru:=h
  cases hf:Nat.beq f 138 with
  |true =>
   rw [hf] at h'
   cases h'
   have:=Nat.eq_of_beq_eq_true hf
   subst this
   exact rul138 hF hv
  |false =>
   rw [hf] at h'
   cases hf2:Nat.beq f 89 with
   |true =>
    rw [hf2] at h'
    cases h'
    have:=Nat.eq_of_beq_eq_true hf2
    subst this
    exact rul89 hF hv
   |false =>
    rw [hf2] at h'
    cases h'
end Go.Proofs.Av
