/- slices.Clone, told once: what its walk shows is what the evaluator tells of it. -/
import Derived.Test.YtoepfmodbhfckaaAzT
import Derived.Lib.SliceRun
namespace Go.Proofs.Av
open Go
section
variable {cx:Cx}{K:Kf}{N:Nat}{S:Nat→Prop}{μ:Mu}{env:Env}{h:Heap}{tmps:Array Value}{w:World}
theorem clone_fin (st:St cx K N S μ env h tmps w) {t:TypeId}{q:TypeId×Nat×List AV×Nat}(hq:sliceInfo cx t=some q) {ys:List (List AV)}{v:Value}{news:List Value}(hsrc:SrcV w q.2.1 v ys.length news) (hyl:∀e∈ys,e.length=q.2.1) (hyc:∀(i j:Nat) (e:List AV) (a:AV),ys[i]?=some e→e[j]?=some a→∃x,news[i*q.2.1+j]?=some x∧Rep S w Mu.none a x) {ty:TypeId}{av:AV}{h':Heap}(ha:appFin q h none [] ys (fun v h=>some (v,h))=some (av,h')):(v = .slice none 0 0∧∃μ',Rep S w μ' av (.slice none 0 0)∧St cx K N S μ' env h' tmps w)∨∃a c,v = .slice (some a) ys.length c∧∃r w' μ',(Builtin.append_ #[t,t] ty #[.slice (some ⟨w.heap.size,0,none⟩) 0 0,v]).run cx.P (w.alloc (.cells #[] q.1)) = .ok r w'∧Rep S w' μ' av r∧St cx K N S μ' env h' tmps w':=by
 obtain⟨i,z,i1,i2,i3,i4,i5,i6,i7,i8,i9⟩:=sliceInfo_spec hq
 unfold appFin at ha
 split at ha
 ·rename_i hb
  cases ha
  rw [i9] at hb
  rw [i7] at hsrc hyl hyc
  obtain⟨s1,s2,s3⟩:=hsrc
  rcases s3 with⟨rfl,h0⟩ |⟨a,c,rfl,hcells⟩
  ·have hy0:ys=[]:=List.eq_nil_of_length_eq_zero h0
   subst hy0
   have hx:=st.step (w':=w) (kill:=none) (o:=⟨.arr,q.1,q.2.1,q.2.1,[]++[]⟩) (x:=none) (Nat.le_refl _) rfl rfl (OutD.refl _) (fun _ _ _=>rfl) (fun r hr=>by cases hr) rfl (fun _=>rfl) (fun b s C hx=>by cases hx)
   exact .inl ⟨rfl,_,.anil,hx⟩
  ·refine .inr ⟨a,c,rfl,?_⟩
   have h63:0+ys.length≤maxLen:=by
    have:(0+ys.length)*1≤(0+ys.length)*i.bytes:=Nat.mul_le_mul_left _ i6
    simp only [List.length_nil] at hb
    simp only [maxLen]
    omega
   have hown:OwnV (w.alloc (.cells #[] q.1)) q.1 i.size (.slice (some ⟨w.heap.size,0,none⟩) 0 0) 0 [] :=
    ⟨by simp,.inr ⟨w.heap.size,0,#[],rfl,heap_alloc_new w _,Nat.le_refl _,by simp,by simp⟩⟩
   obtain⟨r,w',hr,hg,hgd,hres⟩:=app_run (P:=cx.P) (w.alloc (.cells #[] q.1)) t ty q.1 i z i1 i2 i3 i4 i5 _ 0 [] hown (.slice (some a) ys.length c) ys.length news
    ⟨s1,s2,.inr ⟨a,c,rfl,fun j u hj=>Lib.cell?_alloc_some _ (hcells j u hj)⟩⟩ h63 (by simpa using hb)
   rcases hres with⟨_,hx,_⟩ |⟨g',cap',cur',rfl,q1,q2,q3,q4,q5⟩
   ·cases hx
   ·have hge:w.heap.size≤g':=by
     rcases q5 with h |h
     ·simp [Value.ownBlock] at h;omega
     ·simp at h;omega
    have hblk:∀b,b<w.heap.size→w'.heap[b]?=w.heap[b]?:=fun b hb=>by
     rw [hg.block b (by simp;omega) (by simp [Value.ownBlock];omega)]
     exact heap_alloc_old w _ hb
    have hSk:∀b,S b→w'.heap[b]?=w.heap[b]?:=fun b hb=>hblk b (st.slt b hb)
    have hx:=st.step (w':=w') (kill:=none) (o:=⟨.arr,q.1,q.2.1,q.2.1,[]++ys⟩) (x:=some (g',i.size,cap')) (by have:=hg.size;simp at this;omega) hg.os hg.tape ⟨hg.output,fun _=>hgd⟩ (fun b hb _=>hblk b hb) (fun r hr=>by cases hr) rfl (fun hx=>by cases hx) (fun b s C hx=>by
     cases hx
     refine⟨i7.symm,.inr hge,cur',q1,?_,?_,?_,?_⟩
     ·show cur'.size=cap'*q.2.1
      rw [i7];exact q3
     ·show([]++ys).length*q.2.1≤cur'.size
      rw [i7,q3,List.nil_append]
      exact Nat.mul_le_mul_right _ (by omega)
     ·show ∀(k:Nat) (e:List AV),([]++ys)[k]?=some e→e.length=q.2.1
      rw [i7,List.nil_append]
      exact fun k e he=>hyl e (List.mem_of_getElem? he)
     ·show ∀(k j:Nat) (e:List AV) (a:AV),([]++ys)[k]?=some e→e[j]?=some a→∃x,cur'[k*q.2.1+j]?=some x∧Rep S w' Mu.none a x
      rw [i7,List.nil_append]
      intro k j e a he ha
      obtain⟨x,hx,hrx⟩:=hyc k j e a he ha
      refine⟨x,?_,hrx.mono (fun _ h=>h) hSk fun _ _ h=>h⟩
      have hl:(List.take ((0+ys.length)*i.size) cur'.toList)[k*i.size+j]?=some x:=by rw [q4];simpa using hx
      rw [List.getElem?_take] at hl
      split at hl
      ·simpa using hl
      ·cases hl)
    refine⟨_,w',_,hr,?_,hx⟩
    have:=Rep.arr (S:=S) (w:=w') (μ:=μ.updO h.length (some (g',i.size,cap'))) (r:=h.length) (ver:=q.2.1) (off:=0) (len:=0+ys.length) g' cap' (by simp [Mu.updO,Mu.upd,i7]) (by omega)
    simpa using this
 ·cases ha
end
def CloneRuns (P:Program) (f:FuncId) (t e:TypeId):Prop:=∃ty,
 (∀w,Calls P f #[.slice none 0 0] w fun x w'=>x = .returned (.slice none 0 0)∧w'=w) ∧
 ∀w a n c r w',(Builtin.append_ #[t,t] ty #[.slice (some ⟨w.heap.size,0,none⟩) 0 0,.slice (some a) n c]).run P (w.alloc (.cells #[] e)) = .ok r w'→Calls P f #[.slice (some a) n c] w fun x w''=>x = .returned r∧w''=w'
theorem ext_clone {cx:Cx}{f:FuncId}{t e:TypeId}(hf:Fact cx f) (hu:cx.P.underlying t=some (.slice e)) (hc:CloneRuns cx.P f t e):Fact cx f∧∀(K:Kf) (N:Nat) (S:Nat→Prop) (μ:Mu) (env:Env) (h:Heap) (tmps:Array Value) (w:World) (y:AV) (v:Value) (av:AV) (h':Heap),St cx K N S μ env h tmps w→Rep S w μ y v→cloneV cx t [y] h (fun v h=>some (v,h))=some (av,h')→Calls cx.P f #[v] w fun e w'=>∃cv S' μ',e = .returned cv∧Rep S' w' μ' av cv∧St cx K N S' μ' env h' tmps w':=by
 refine⟨hf,fun K N S μ env h tmps w y v av h' st hy ha=> ?_⟩
 obtain⟨ty,hnil,hrow⟩:=hc
 simp only [cloneV] at ha
 obtain⟨q,h1,ha⟩:=bind_some_iff ha
 obtain⟨ys,h2,ha⟩:=bind_some_iff ha
 obtain⟨i,z,i1,i2,i3,i4,i5,i6,i7,i8,i9⟩:=sliceInfo_spec h1
 have he:q.1=e:=by
  rw [hu] at i1
  cases i1
  rfl
 subst he
 cases hok:ysOk ys with
 |false=>rw [hok] at ha;cases ha
 |true =>
  rw [hok] at ha
  simp only [cond_true] at ha
  obtain⟨news,hsrc,hyl,hyc⟩:=yRows_src st.heap (by rw [i7];exact i5) hy h2 hok
  rcases clone_fin (ty:=ty) st h1 hsrc hyl hyc ha with⟨rfl,μ',h5,h6⟩ |⟨a,c,rfl,r,w',μ',h5,h6,h7⟩
  ·exact(hnil w).mono fun x w' ⟨g1,g2⟩=>by subst g2;exact⟨_,S,μ',g1,h5,h6⟩
  ·exact(hrow w a _ c r w' h5).mono fun x w'' ⟨g1,g2⟩=>by subst g2;exact⟨_,S,μ',g1,h6,h7⟩
end Go.Proofs.Av
