/- Objects that nobody needs any more are left out; the others are numbered anew. -/
import Derived.Test.YtoepfmodbhfckaaAzO
namespace Go.Proofs.Av
open Go
theorem stays_spec {ks:List Nat}:∀ {m:Nat},stays ks m=true→∀r,r<m→ks[r]?=some r
 | 0,_,r,hr=>by omega
 |m+1,h,r,hr=>by
  simp only [stays,Bool.and_eq_true] at h
  by_cases hrm:r=m
  ·subst hrm
   have h1:=h.1
   unfold fixedN at h1
   split at h1
   ·rename_i k hk
    rw [hk,Nat.eq_of_beq_eq_true h1]
   ·cases h1
  ·exact stays_spec h.2 r (by omega)
theorem gc_st {cx:Cx}{K:Kf}{N:Nat}{S:Nat→Prop}{μ:Mu}{h h':Heap}{tmps:Array Value}{w:World}{ks:List Nat}{vs is vs' is':List AV}{ls:List Nat}{m:Nat}(hK:∀r x,K.fix r=some x→r<m) (hg:gc m ks vs is h=some (vs',is',h')) (st:St cx K N S μ (ls.zip (vs++is)) h tmps w):∃μ',St cx K N S μ' (ls.zip (vs'++is')) h' tmps w∧vs'.length=vs.length∧is'.length=is.length∧is'=is:=by
 unfold gc at hg
 cases hnb:(nodupL ks&&stays ks m) with
 |false=>rw [hnb] at hg;cases hg
 |true =>
  have hn:=nodupL_spec (Bool.and_eq_true_iff.1 hnb).1
  have hst:=stays_spec (Bool.and_eq_true_iff.1 hnb).2
  rw [hnb] at hg
  simp only [cond_true] at hg
  obtain⟨vs1,g1,hg⟩:=bind_some_iff hg
  obtain⟨is1,g2,hg⟩:=bind_some_iff hg
  cases hfx:(is.all fun v=>(refs 5 v).all (fixedN ks)) with
  |false=>rw [hfx] at hg;cases hg
  |true =>
   rw [hfx] at hg
   simp only [cond_true] at hg
   obtain⟨h1,g3,hg⟩:=bind_some_iff hg
   cases hg
   obtain⟨l1,m1⟩:=mapM_at g1
   obtain⟨l2,m2⟩:=mapM_at g2
   obtain⟨l3,m3⟩:=mapM_at g3
   refine⟨gmu ks μ,?_,l1,l2,?_⟩
   ·refine⟨st.size,fun t v ht=> ?_,st.g,fun r o ho=> ?_,fun r r' b s s' hr hr' ha ha'=> ?_,fun r x hx=> ?_,fun r b s hr=> ?_,st.s0,st.snew,st.slt,st.frame,st.le,st.os,st.tape,st.output,fun r x hx=>by unfold gmu;rw [hst r (hK r x hx)];exact st.fix r x hx⟩
    ·obtain⟨i,k1,k2⟩:=look_zip2 (ws:=vs++is) ht
     have:∃x,(vs++is)[i]?=some x∧ren ks 5 x=some v:=by
      by_cases hi:i<vs.length
      ·rw [List.getElem?_append_left (by omega)] at k2
       obtain⟨x,h2,h3⟩:=m1 i v k2
       exact⟨x,by rw [List.getElem?_append_left hi];exact h2,h3⟩
      ·rw [List.getElem?_append_right (by omega)] at k2
       rw [l1] at k2
       obtain⟨x,h2,h3⟩:=m2 _ v k2
       exact⟨x,by rw [List.getElem?_append_right (by omega)];exact h2,h3⟩
     obtain⟨x,hx,hrx⟩:=this
     exact ren_rep 5 x v _ hrx (st.env t x (k1 x hx))
    ·obtain⟨k,hk,hko⟩:=m3 r o ho
     obtain⟨o0,k1,k2⟩:=bind_some_iff hko
     exact obren_obr hk k2 (st.heap k o0 k1)
    ·unfold gmu at hr hr'
     obtain⟨x,hx,hr⟩:=bind_some_iff hr
     obtain⟨y,hy,hr'⟩:=bind_some_iff hr'
     have:=st.inj x y b s s' hr hr' (alive_gc l3 m3 hx ha) (alive_gc l3 m3 hy ha')
     subst this
     obtain⟨a,b'⟩:=List.getElem?_eq_some_iff.1 hx
     obtain⟨c,d⟩:=List.getElem?_eq_some_iff.1 hy
     exact(List.getElem_inj hn).1 (b'.trans d.symm)
    ·unfold gmu at hx
     obtain⟨y,hy,_⟩:=bind_some_iff hx
     have:=(List.getElem?_eq_some_iff.1 hy).1
     omega
    ·unfold gmu at hr
     obtain⟨y,hy,hr⟩:=bind_some_iff hr
     exact st.own y b s hr
   ·apply List.ext_getElem?
    intro i
    by_cases hi:i<is.length
    ·have h5:i<is'.length:=by omega
     rw [List.getElem?_eq_getElem h5,List.getElem?_eq_getElem hi]
     obtain⟨x,hx1,hx2⟩:=m2 i _ (List.getElem?_eq_getElem h5)
     rw [List.getElem?_eq_getElem hi] at hx1
     cases hx1
     rw [ren_id hn 5 _ _ (List.all_eq_true.1 hfx _ (List.getElem_mem hi)) hx2]
    ·rw [List.getElem?_eq_none (by omega),List.getElem?_eq_none (by omega)]
theorem gc_st0 {cx:Cx}{K:Kf}{N:Nat}{S:Nat→Prop}{μ:Mu}{env:Env}{h h':Heap}{tmps:Array Value}{w:World}{ks:List Nat}{vs is vs' is':List AV}{m:Nat}(hK:∀r x,K.fix r=some x→r<m) (hg:gc m ks vs is h=some (vs',is',h')) (st:St cx K N S μ env h tmps w):St cx K 0 S (gmu ks μ) [] h' #[] w:=by
 unfold gc at hg
 cases hnb:(nodupL ks&&stays ks m) with
 |false=>rw [hnb] at hg;cases hg
 |true =>
  have hn:=nodupL_spec (Bool.and_eq_true_iff.1 hnb).1
  have hst:=stays_spec (Bool.and_eq_true_iff.1 hnb).2
  rw [hnb] at hg
  simp only [cond_true] at hg
  obtain⟨vs1,g1,hg⟩:=bind_some_iff hg
  obtain⟨is1,g2,hg⟩:=bind_some_iff hg
  cases hfx:(is.all fun v=>(refs 5 v).all (fixedN ks)) with
  |false=>rw [hfx] at hg;cases hg
  |true =>
   rw [hfx] at hg
   simp only [cond_true] at hg
   obtain⟨h1,g3,hg⟩:=bind_some_iff hg
   cases hg
   obtain⟨l3,m3⟩:=mapM_at g3
   refine⟨rfl,fun t v ht=>(by cases ht),st.g,fun r o ho=> ?_,fun r r' b s s' hr hr' ha ha'=> ?_,fun r x hx=> ?_,fun r b s hr=> ?_,st.s0,st.snew,st.slt,st.frame,st.le,st.os,st.tape,st.output,fun r x hx=>by unfold gmu;rw [hst r (hK r x hx)];exact st.fix r x hx⟩
   ·obtain⟨k,hk,hko⟩:=m3 r o ho
    obtain⟨o0,k1,k2⟩:=bind_some_iff hko
    exact obren_obr hk k2 (st.heap k o0 k1)
   ·unfold gmu at hr hr'
    obtain⟨x,hx,hr⟩:=bind_some_iff hr
    obtain⟨y,hy,hr'⟩:=bind_some_iff hr'
    have:=st.inj x y b s s' hr hr' (alive_gc l3 m3 hx ha) (alive_gc l3 m3 hy ha')
    subst this
    obtain⟨a,b'⟩:=List.getElem?_eq_some_iff.1 hx
    obtain⟨c,d⟩:=List.getElem?_eq_some_iff.1 hy
    exact(List.getElem_inj hn).1 (b'.trans d.symm)
   ·unfold gmu at hx
    obtain⟨y,hy,_⟩:=bind_some_iff hx
    have:=(List.getElem?_eq_some_iff.1 hy).1
    omega
   ·unfold gmu at hr
    obtain⟨y,hy,hr⟩:=bind_some_iff hr
    exact st.own y b s hr
end Go.Proofs.Av
