/- The oracle's functions, and the document's: Sign, Valid, Check, All. -/
import Derived.Test.YtoepfmodbhfckaaAiOv
set_option maxRecDepth 100000
namespace Go.Proofs.Av
open Go
open Option renaming bind_some→χ
theorem ysOk_rowsN (l:List Nat):ysOk (rowsN l)=true:=by
 unfold ysOk
 rw [List.all_eq_true]
 intro e he
 obtain⟨p,_,rfl⟩:=List.mem_map.1 he
 rfl
def srtN (l:List Nat):List Nat:=l.mergeSort fun x y=>decide (x≤y)
theorem c141 (ks:List Nat) (hl:ks.length≤49):E cx (Key.fn 141) [.func (Fn.func 162) [] [.rop [.list 0 1 (rowsN ks)]]] []=some (Out.ret (.list 0 1 (rowsN (srtN ks))),[]):=by
 have st:=f93_c0 (rowsN ks)
 have hc:collP 162 [.func (Fn.func 162) [] [.rop [.list 0 1 (rowsN ks)]]]=some (rowsN ks):=by
  show(if(rowsN ks).length≤1000000000000 then cond ((rowsN ks).all isU1) (some (rowsN ks)) none else none)=_
  rw [if_pos (by rw [rowsN_len];omega),show(rowsN ks).all isU1=true from List.all_eq_true.2 fun e he=>by
   obtain⟨k,_,rfl⟩:=List.mem_map.1 he
   rfl]
  rfl
 rw [hc,χ,ysOk_rowsN,cond_true,rowsN_len] at st
 have st:=st.trans (goY (show Nat.mul (Nat.add 0 ks.length) 8≤140737488355328 by show(0+ks.length)*8≤_;omega) _ _)
 obtain⟨d',h1,h2⟩:=c161 (d:=ks.toArray) (by simpa using hl)
 have e1:E cx (Key.own 161) [.arr 0 1 0 (Nat.add 0 ks.length)] [⟨.arr,26,1,1,[]++rowsN ks⟩]=OR d':=by
  rw [show Nat.add 0 ks.length=ks.length from Nat.zero_add _]
  have:E cx (.own 161) [AR ks.toArray.size] (HA ks.toArray)=_:=h1
  simpa using this
 have st:=st.trans (goO e1 _)
 have hd:d'.toList=srtN ks:=by rw [h2];rfl
 have hdl:(rw' d').length=ks.length:=by
  show(d'.toList.map _).length=_
  rw [List.length_map,hd]
  exact(List.mergeSort_perm _ _).length_eq
 dsimp only at st
 rw [show Nat.add 0 (Nat.add 0 ks.length)=ks.length by show 0+(0+ks.length)=_;omega] at st
 have st:=st.trans (goLe (show ks.length≤(rw' d').length by omega) _)
 rw [List.take_of_length_le (by omega),List.drop_zero] at st
 rw [st]
 show some (Out.ret (.list 0 1 (d'.toList.map _)),[])=_
 rw [hd]
theorem loop93 (r:Nat) (ks:List Nat) (b:Bool) (hl:ks.length≤2048):∀(rest:List Nat) (i:Nat) (o:List P2),ks.drop i=rest→i+rest.length=ks.length→o.length=i→∃y,E cx (.loop 93 [true,true,false,true,false]) [vi i,vu r,.ptr 0 0 0 0,.list 0 1 (rowsN ks),vi ks.length] [⟨.box,36,2,0,[[vbool b,.arr 1 2 0 o.length]]⟩,⟨.arr,80,2,2,prs o⟩]=some (Out.jump (.exit 0) [vi y],[⟨.box,36,2,0,[[vbool b,.arr 1 2 0 (o++rest.map fun k=>(k,r)).length]]⟩,⟨.arr,80,2,2,prs (o++rest.map fun k=>(k,r))⟩]):=by
 intro rest
 induction rest with
 |nil =>
  intro i o hd hi ho
  refine⟨i,(f93_l1 _ _ _ _ _ _ _).trans ((goDn (by simp at hi;omega) _ _).trans ?_)⟩
  simp
 |cons k r' ih =>
  intro i o hd hi ho
  obtain⟨g,hd2,hlt⟩:=drop_cons' hd
  simp only [List.length_cons] at hi
  obtain⟨y,hy⟩:=ih (i+1) (o++[(k,r)]) hd2 (by omega) (by simp;omega)
  refine⟨y,(f93_l1 _ _ _ _ _ _ _).trans ((goD (show(i:Int)<(ks.length:Int) by omega) _ _).trans ((goY (show(0:Int)≤(i:Int) by omega) _ _).trans ((goRn' (n:=i) rfl g _).trans ((goCk (show o.length=(prs o).length from(prs_len o).symm) _).trans ((goY (show Nat.mul (Nat.add (prs o).length 1) 16≤140737488355328 by rw [prs_len];show(o.length+1)*16≤_;omega) _ _).trans ?_)))))⟩
  rw [wS (by omega)]
  show E cx (.loop 93 [true,true,false,true,false]) [vi ((i+1:Nat):Int),vu r,.ptr 0 0 0 0,.list 0 1 (rowsN ks),vi ks.length] [⟨.box,36,2,0,[[vbool b,.arr 1 2 0 ((prs o).length+1)]]⟩,⟨.arr,80,2,2,prs o++prs [(k,r)]⟩]=_
  rw [prs_app',prs_len,show o.length+1=(o++[(k,r)]).length by simp,hy]
  simp
theorem srtN_map (r:Nat) (ks:List Nat):(srtN ks).map (fun k=>(k,r))=sgn r ks:=by
 refine pw_uniq ?_ (sorted_pw _) (((List.mergeSort_perm _ _).map _).trans (sorted_perm _).symm)
 have h:=List.pairwise_mergeSort (le:=fun x y:Nat=>decide (x≤y)) (fun a b c h1 h2=>by simp at *;omega) (fun a b=>by simp;omega) ks
 refine List.pairwise_map.2 (h.imp fun {a b} h=>(leP_iff _ _).2 ?_)
 simp at h ⊢
 omega
theorem c93 (r:Nat) (ks:List Nat) (hl:ks.length≤49):RTok' (E cx (Key.fn 93) [vu r,.list 0 1 (rowsN ks)] []) (sigR r ks):=by
 have st:=f93 (r:Int) (rowsN ks)
 rw [rowsN_len] at st
 have hsl:(srtN ks).length=ks.length:=(List.mergeSort_perm _ _).length_eq
 obtain⟨y,hy⟩:=loop93 r (srtN ks) false (by omega) (srtN ks) 0 [] rfl (by omega) rfl
 have goN1:∀ {ρ:Type}{x:Option (Out×Heap)}{es:List (List AV)}(h:x=some (Out.ret (.list 0 1 es),[])) (k:List (List AV)→Option ρ),(x.bind fun r=>(ret1 r).bind fun v=>(AV.list? 1 v).bind fun es=>k es)=k es:=fun h k=>by rw [h];rfl
 have st:=st.trans ((goDn (show ¬(ks.length:Int)>2048 by omega) _ _).trans (goN1 (c141 ks hl) _))
 rw [rowsN_len] at st
 have hy':E cx (.loop 93 [true,true,false,true,false]) [vi 0,vu r,.ptr 0 0 0 0,.list 0 1 (rowsN (srtN ks)),vi (srtN ks).length] [⟨.box,36,2,0,[[vbool false,.arr 1 2 0 0]]⟩,⟨.arr,80,2,2,[]⟩]=_:=hy
 rw [hy'] at st
 unfold sigR
 rw [if_pos (by omega)]
 rw [List.nil_append,srtN_map] at st
 have st:=st.trans (goLe (show Nat.add 0 (sgn r ks).length≤(prs (sgn r ks)).length by rw [prs_len];exact Nat.le_of_eq (Nat.zero_add _)) _)
 refine⟨_,st,?_⟩
 show some (List.drop 0 (List.take (Nat.add 0 (sgn r ks).length) (prs (sgn r ks))))=_
 rw [view0]
theorem callI_of {f:Nat}{args:List AV}{n:Int}(h:E cx (.fn f) args []=some (Out.ret (vi n),[])):callI (E cx) f args=some n:=by unfold callI;rw [h];rfl
theorem callB_of {f:Nat}{args:List AV}{b:Bool}(h:E cx (.fn f) args []=rb b):callB (E cx) f args=some b:=by unfold callB;rw [h];rfl
theorem hasL_of (t:List P2) (p:P2) (hs:SW t):∀(n i j:Nat),j-i<n→i≤j→j≤t.length→(∀k (h:k<t.length),t[k]=p→i≤k∧k<j)→hasL 134 (prs t) (.agg [vu p.1,vu p.2]) n i j (E cx)=some (vbool (decide (p∈t))):=by
 intro n
 induction n with
 |zero=>intro i j h;omega
 |succ n ih =>
  intro i j hn hij hj hp
  unfold hasL
  by_cases h0:i=j
  ·rw [if_pos h0,decide_eq_false fun hm=>by
    obtain⟨k,hk,e⟩:=List.mem_iff_getElem.1 hm
    have:=hp k hk e
    omega]
  ·rw [if_neg h0]
   have hm:(i+j)/2<t.length:=by omega
   rw [prs_get (List.getElem?_eq_getElem hm),χ,show encP t[(i+j)/2]=[vu (t[(i+j)/2].1:Int),vu (t[(i+j)/2].2:Int)] from rfl,show asU2 [vu (t[(i+j)/2].1:Int),vu (t[(i+j)/2].2:Int)]=some () from rfl,χ,callI_of (c134 _ _),χ]
   cases hlt:ltP t[(i+j)/2] p with
   |true =>
    rw [if_pos ((ordI_neg _ _).2 hlt)]
    refine ih _ _ (by omega) (by omega) hj fun k hk e=>⟨?_,(hp k hk e).2⟩
    by_cases hk2:(i+j)/2<k
    ·omega
    ·exfalso
     by_cases e2:k=(i+j)/2
     ·subst e2;rw [e,ltP_irr] at hlt;cases hlt
     ·have:=List.pairwise_iff_getElem.1 hs k ((i+j)/2) hk hm (by omega)
      rw [e] at this
      have:=ltP_trans this hlt
      rw [ltP_irr] at this;cases this
   |false =>
    have hge:=(ordI_ge _ _).2 hlt
    rw [if_neg (by omega)]
    by_cases e:t[(i+j)/2]=p
    ·rw [if_neg (by unfold ordI;rw [if_pos e];omega),decide_eq_true (e▸List.getElem_mem hm)]
    ·have hgt:=ltP_tri hlt e
     rw [if_pos (by unfold ordI;rw [if_neg e,if_neg (by rw [hlt];simp)];omega)]
     refine ih _ _ (by omega) (by omega) (by omega) fun k hk e3=>⟨(hp k hk e3).1,?_⟩
     by_cases hk2:k<(i+j)/2
     ·exact hk2
     ·exfalso
      by_cases e2:k=(i+j)/2
      ·subst e2;exact e e3
      ·have:=List.pairwise_iff_getElem.1 hs ((i+j)/2) k hm hk (by omega)
       rw [e3] at this
       rw [hlt] at this;cases this
theorem c138 (t:List P2) (p:P2) (hs:SW t) (ht:t.length≤4000000):E cx (Key.fn 138) [.list 0 2 (prs t),.agg [vu p.1,vu p.2]] []=rb (decide (p∈t)):=by
 rw [E_unfold]
 have h:hasG 134 (E cx) [.list 0 2 (prs t),.agg [vu p.1,vu p.2]]=some (vbool (decide (p∈t))):=by
  show(if(prs t).length≤4000000 then _ else none)=_
  rw [if_pos (by rw [prs_len];exact ht),prs_len]
  exact hasL_of t p hs _ 0 t.length (by omega) (by omega) (Nat.le_refl _) fun k hk _=>⟨Nat.zero_le _,hk⟩
 show((hasG 134 (E cx) [.list 0 2 (prs t),.agg [vu p.1,vu p.2]]).bind fun v=>some (Out.ret v,([]:Heap)))=_
 rw [h]
 rfl
theorem c85 (t:List P2) (p:P2) (ht:t.length≤4000000):E cx (Key.fn 85) [.list 0 2 (prs t),.agg [vu p.1,vu p.2]] []=rb (tabR t&&decide (p∈t)):=by
 refine(f85 _ _ _).trans ?_
 cases h:tabR t with
 |false=>exact goF ((c83 t ht).trans (by rw [h])) _ _
 |true =>
  refine(goT ((c83 t ht).trans (by rw [h])) _ _).trans ?_
  have c:=c138 t p ((tabR_iff t).1 h).1 ht
  rw [c]
  cases decide (p∈t)<;>rfl
theorem c86 (t:List P2) (p:P2) (ht:t.length≤4000000):E cx (Key.fn 86) [.list 0 2 (prs t),.agg [vu p.1,vu p.2]] []=rb (tabR t&&decide (p∈t)):=by
 refine(f86 _ _ _).trans ?_
 cases h:tabR t with
 |false=>exact goF ((c84 t ht).trans (by rw [h])) _ _
 |true =>
  refine(goT ((c84 t ht).trans (by rw [h])) _ _).trans ?_
  rw [c136 t p ht]
  cases decide (p∈t)<;>rfl
theorem c87 (a b:List P2) (ha:a.length≤4000000):E cx (Key.fn 87) [.list 0 2 (prs a),.list 0 2 (prs b)] []=rb (decide (a=b)):=by
 refine(f87 _ _).trans ?_
 rw [c47 false false a b ha]
 cases h:decide (a=b)<;>simp at h<;>simp [h,ret1,AV.bool?]
end Go.Proofs.Av
/-The oracle's Check,and the document's. -/
set_option maxRecDepth 100000
namespace Go.Proofs.Av
open Go
open Option renaming bind_some→χ
theorem goTok {ρ:Type}{x:Option (Out×Heap)}{f:Bool}{l:List P2}{e:Int}(h:RTok x f l e) (k:Bool→List (List AV)→Int→Option ρ):(x.bind fun r=>(ret1 r).bind fun v=>v.tup?.bind fun vs=>(uncons? vs).bind fun p1=>(AV.cells? p1.fst).bind fun cs=>(uncons? cs).bind fun p2=>(AV.bool? p2.fst).bind fun b=>(uncons? p2.snd).bind fun p3=>(AV.list? 2 p3.fst).bind fun l=>(nil? p3.snd).bind fun _=>(uncons? p1.snd).bind fun p4=>(AV.int? .i64 p4.fst).bind fun e=>(nil? p4.snd).bind fun _=>k b l e)=k f (prs l) e:=by
 obtain⟨a,rfl,ha⟩:=h
 show(Option.bind (AV.list? 2 a) fun l=>k f l e)=_
 rw [ha]
 rfl
noncomputable def ckR (t:List P2) (ks:List Nat) (r:Nat) (f:Bool) (l:List P2):Bool:=tabR t&&decide (f=false∧ks≠[]∧ks.Nodup∧ks.length≤2048∧l=sgn r ks∧∀p∈l,p∈t)
theorem ckR_iff {t:List P2}{ks:List Nat}{r:Nat}{f:Bool}{l:List P2}:ckR t ks r f l=true↔tabR t=true∧f=false∧ks≠[]∧ks.Nodup∧ks.length≤2048∧l=sgn r ks∧∀p∈l,p∈t:=by
 unfold ckR
 rw [Bool.and_eq_true,decide_eq_true_eq]
abbrev itC (ks:List Nat) (r:Nat) (f:Bool) (l:List P2):List AV:=[.list 0 1 (rowsN ks),vu r,vbool f,.list 0 2 (prs l)]
def apartAt (ks:List Nat) (i:Nat):Prop:=∀(a b:Nat) (hb:b<ks.length) (hab:a<b),b<i→ks[a]≠ks[b]
theorem apart_nodup {ks:List Nat}(h:apartAt ks ks.length):ks.Nodup:=List.pairwise_iff_getElem.2 fun a b ha hb hab=>h a b hb hab hb
theorem loop90i (t:List P2) (ks:List Nat) (r:Nat) (f:Bool) (l:List P2) (b:Bool) {i:Nat}(hi:i<ks.length) (hl:ks.length≤4000000):∀(d k:Nat),k+d=i→(∀j,j<k→∀h:j<ks.length,ks[j]≠ks[i])→((∀j,j<i→∀h:j<ks.length,ks[j]≠ks[i])∧∃y,E cx (.loop 90 [true,false,true,false,false,true,false,false,true,false]) [vbool b,vi k,.list 0 2 (prs t),.ptr 0 0 0 0,vi i] [⟨.box,115,4,0,[itC ks r f l]⟩]=some (Out.jump (.exit 2) [vbool b,vi y],[⟨.box,115,4,0,[itC ks r f l]⟩]))∨((∃j,j<i∧∃h:j<ks.length,ks[j]=ks[i])∧∃y,E cx (.loop 90 [true,false,true,false,false,true,false,false,true,false]) [vbool b,vi k,.list 0 2 (prs t),.ptr 0 0 0 0,vi i] [⟨.box,115,4,0,[itC ks r f l]⟩]=some (Out.jump .ret [vbool false,vi y],[⟨.box,115,4,0,[itC ks r f l]⟩])):=by
 intro d
 induction d with
 |zero =>
  intro k hk h
  have:k=i:=by omega
  subst this
  exact .inl ⟨h,k,(f90_l0_l1 _ _ _ _ _ _ _ _).trans (goDn (by omega) _ _)⟩
 |succ d ih =>
  intro k hk h
  have hkl:k<ks.length:=by omega
  have st:=(f90_l0_l1 b (k:Int) (prs t) (i:Int) (rowsN ks) (r:Int) f (prs l)).trans ((goD (show(k:Int)<(i:Int) by omega) _ _).trans ((goY (show(0:Int)≤(i:Int) by omega) _ _).trans ((goRn' (n:=i) rfl (List.getElem?_eq_getElem hi) _).trans ((goY (show(0:Int)≤(k:Int) by omega) _ _).trans (goRn' (n:=k) rfl (List.getElem?_eq_getElem hkl) _)))))
  rw [wS (by omega)] at st
  by_cases e:ks[i]=ks[k]
  ·exact .inr ⟨⟨k,by omega,hkl,e.symm⟩,k,st.trans (goD (show(ks[i]:Int)=(ks[k]:Int) by omega) _ _)⟩
  ·have st:=st.trans (goDn (show ¬(ks[i]:Int)=(ks[k]:Int) by omega) _ _)
   rcases ih (k+1) (by omega) (fun j hj hjl=>by
    by_cases ej:j=k
    ·subst ej;exact fun h=>e h.symm
    ·exact h j (by omega) hjl) with⟨g1,y,g2⟩ |⟨g1,y,g2⟩
   ·exact .inl ⟨g1,y,st.trans g2⟩
   ·exact .inr ⟨g1,y,st.trans g2⟩
theorem loop90 (t:List P2) (ks:List Nat) (r:Nat) (f:Bool) (l:List P2) (b:Bool) (hl:ks.length≤4000000):∀(d i:Nat),i+d=ks.length→apartAt ks i→(ks.Nodup∧∃y,E cx (.loop 90 [true,false,true,false]) [vbool b,vi i,.list 0 2 (prs t),.ptr 0 0 0 0] [⟨.box,115,4,0,[itC ks r f l]⟩]=some (Out.jump (.exit 0) [vbool b,vi y],[⟨.box,115,4,0,[itC ks r f l]⟩]))∨(¬ks.Nodup∧∃y,E cx (.loop 90 [true,false,true,false]) [vbool b,vi i,.list 0 2 (prs t),.ptr 0 0 0 0] [⟨.box,115,4,0,[itC ks r f l]⟩]=some (Out.jump .ret [vbool false,vi y],[⟨.box,115,4,0,[itC ks r f l]⟩])):=by
 intro d
 induction d with
 |zero =>
  intro i hi h
  have:i=ks.length:=by omega
  subst this
  exact .inl ⟨apart_nodup h,_,(f90_l0 _ _ _ _ _ _ _).trans (goDn (by rw [rowsN_len];omega) _ _)⟩
 |succ d ih =>
  intro i hi h
  have hm:i<ks.length:=by omega
  have st:=(f90_l0 b (i:Int) (prs t) (rowsN ks) (r:Int) f (prs l)).trans (goD (show(i:Int)<((rowsN ks).length:Int) by rw [rowsN_len];omega) _ _)
  rcases loop90i t ks r f l b hm hl i 0 (by omega) (fun j h=>by omega) with⟨g1,y,g2⟩ |⟨⟨j,hj,hjl,g1⟩,y,g2⟩
  ·rw [show(0:Int)=((0:Nat):Int) from rfl,g2] at st
   have st2:E cx (.loop 90 [true,false,true,false]) [vbool b,vi i,.list 0 2 (prs t),.ptr 0 0 0 0] [⟨.box,115,4,0,[itC ks r f l]⟩]=E cx (.loop 90 [true,false,true,false]) [vbool b,vi (IntKind.wrap .i64 (Int.add (i:Int) 1)),.list 0 2 (prs t),.ptr 0 0 0 0] [⟨.box,115,4,0,[itC ks r f l]⟩]:=st
   rw [wS (by omega)] at st2
   rw [st2]
   refine ih (i+1) (by omega) fun a b hb hab hb2=> ?_
   by_cases e:b=i
   ·subst e;exact g1 a hab (by omega)
   ·exact h a b hb hab (by omega)
  ·rw [show(0:Int)=((0:Nat):Int) from rfl,g2] at st
   exact .inr ⟨fun hn=>List.pairwise_iff_getElem.1 hn j i (by omega) hm hj g1,i,st⟩
theorem loop90v (t:List P2) (ks:List Nat) (r:Nat) (f:Bool) (l o:List P2) (b c:Bool) (ht:t.length≤4000000) (ho:o.length≤4000000):∀(rest:List P2) (i:Nat),o.drop i=rest→i+rest.length=o.length→((∀p∈rest,tabR t=true∧p∈t)∧∃y,E cx (.loop 90 [true,true,true,true,true,false,true,false]) [vbool b,vi i,.list 0 2 (prs t),.ptr 1 0 0 0] [⟨.box,115,4,0,[itC ks r f l]⟩,⟨.box,36,2,0,[[vbool c,.list 0 2 (prs o)]]⟩]=some (Out.jump (.exit 4) [vbool b,vi y],[⟨.box,115,4,0,[itC ks r f l]⟩,⟨.box,36,2,0,[[vbool c,.list 0 2 (prs o)]]⟩]))∨((∃p∈rest,¬(tabR t=true∧p∈t))∧∃y,E cx (.loop 90 [true,true,true,true,true,false,true,false]) [vbool b,vi i,.list 0 2 (prs t),.ptr 1 0 0 0] [⟨.box,115,4,0,[itC ks r f l]⟩,⟨.box,36,2,0,[[vbool c,.list 0 2 (prs o)]]⟩]=some (Out.jump .ret [vbool false,vi y],[⟨.box,115,4,0,[itC ks r f l]⟩,⟨.box,36,2,0,[[vbool c,.list 0 2 (prs o)]]⟩])):=by
 intro rest
 induction rest with
 |nil =>
  intro i hd hi
  exact .inl ⟨fun p h=>by simp at h,i,(f90_l2 _ _ _ _ _ _ _ _ _).trans (goDn (by rw [prs_len];simp at hi;omega) _ _)⟩
 |cons p r' ih =>
  intro i hd hi
  obtain⟨g,hd2,hlt⟩:=drop_cons' hd
  simp only [List.length_cons] at hi
  have st:=(f90_l2 b (i:Int) (prs t) (rowsN ks) (r:Int) f (prs l) c (prs o)).trans ((goD (show(i:Int)<((prs o).length:Int) by rw [prs_len];omega) _ _).trans ((goY (show(0:Int)≤(i:Int) by omega) _ _).trans ((goPr (n:=i) rfl g _).trans (goB (c86 t p ht) _))))
  rw [wS (by omega)] at st
  by_cases hv:tabR t=true∧p∈t
  ·rw [hv.1,decide_eq_true hv.2,Bool.and_self,cond_true] at st
   rcases ih (i+1) hd2 (by omega) with⟨g1,y,g2⟩ |⟨⟨q,g0,g1⟩,y,g2⟩
   ·exact .inl ⟨fun q hq=>(List.mem_cons.1 hq).elim (fun e=>e▸hv) (g1 q),y,st.trans g2⟩
   ·exact .inr ⟨⟨q,List.mem_cons_of_mem _ g0,g1⟩,y,st.trans g2⟩
  ·have e:(tabR t&&decide (p∈t))=false:=by
    cases h1:tabR t<;>by_cases h2:p∈t<;>simp [h1,h2] at hv ⊢
   rw [e,cond_false] at st
   exact .inr ⟨⟨p,List.mem_cons_self ..,hv⟩,i,st⟩
theorem c90 (t:List P2) (ks:List Nat) (r:Nat) (f:Bool) (l:List P2) (ht:t.length≤4000000) (hk:ks.length≤4000000):E cx (Key.fn 90) [.list 0 2 (prs t),.agg (itC ks r f l)] []=rb (ckR t ks r f l):=by
 have st:=f90 (prs t) (rowsN ks) (r:Int) f (prs l)
 rcases loop90 t ks r f l false hk ks.length 0 (by omega) (fun a b hb hab h=>by omega) with⟨h1,y,h2⟩ |⟨h1,y,h2⟩
 ·rw [show(0:Int)=((0:Nat):Int) from rfl,h2] at st
  have st2:=st.trans (show _=_ from(goTok (c88 r ks hk) _))
  have hsl:=sgn_len r ks
  unfold sigR at st2
  by_cases h2048:ks.length≤2048
  ·rw [if_pos h2048] at st2
   have st2:=st2.trans (goB (c47 false f (sgn r ks) l (by omega)) _)
   by_cases hs:false=f∧sgn r ks=l
   ·rw [decide_eq_true hs,cond_true] at st2
    have st2:=st2.trans (goE rfl _ _)
    rw [rowsN_len] at st2
    by_cases h0:ks=[]
    ·rw [st2.trans (goD (show(ks.length:Int)=0 by rw [h0];rfl) _ _)]
     congr 4
     symm
     rw [←Bool.not_eq_true,ckR_iff]
     exact fun h=>h.2.2.1 h0
    ·have hpos:0<ks.length:=List.length_pos_iff.2 h0
     have st2:=st2.trans (goDn (show ¬(ks.length:Int)=0 by omega) _ _)
     rcases loop90v t ks r f l (sgn r ks) false false ht (by omega) (sgn r ks) 0 rfl (by omega) with⟨g1,y2,g2⟩ |⟨⟨p,g0,g1⟩,y2,g2⟩
     ·rw [show(0:Int)=((0:Nat):Int) from rfl,g2] at st2
      have hck:ckR t ks r f l=true:=by
       rw [ckR_iff]
       obtain⟨p,hp⟩:∃p,p∈sgn r ks:=List.exists_mem_of_length_pos (by omega)
       exact⟨(g1 p hp).1,hs.1.symm,h0,h1,h2048,hs.2.symm,fun q hq=>(g1 q (hs.2▸hq)).2⟩
      rw [st2,hck]
      rfl
     ·rw [show(0:Int)=((0:Nat):Int) from rfl,g2] at st2
      have hck:ckR t ks r f l=false:=by
       rw [←Bool.not_eq_true,ckR_iff]
       exact fun h=>g1 ⟨h.1,h.2.2.2.2.2.2 p (hs.2▸g0)⟩
      rw [st2,hck]
      rfl
   ·rw [decide_eq_false hs,cond_false] at st2
    have hck:ckR t ks r f l=false:=by
     rw [←Bool.not_eq_true,ckR_iff]
     exact fun h=>hs ⟨h.2.1.symm,h.2.2.2.2.2.1.symm⟩
    rw [st2,hck]
    rfl
  ·rw [if_neg h2048] at st2
   have st2:=st2.trans (goB (c47 false f [] l (by simp)) _)
   have hck:ckR t ks r f l=false:=by
    rw [←Bool.not_eq_true,ckR_iff]
    exact fun h=>h2048 h.2.2.2.2.1
   rw [st2,hck]
   cases decide (false=f∧[]=l)<;>rfl
 ·rw [show(0:Int)=((0:Nat):Int) from rfl,h2] at st
  have hck:ckR t ks r f l=false:=by
   rw [←Bool.not_eq_true,ckR_iff]
   exact fun h=>h1 h.2.2.2.1
  rw [st,hck]
  rfl
end Go.Proofs.Av
/-The oracle's Check and All. -/
set_option maxRecDepth 100000
namespace Go.Proofs.Av
open Go
open Option renaming bind_some→χ
abbrev U8 (n:Nat):Prop:=n<18446744073709551616
theorem keysU_rows:∀(ks:List Nat),(∀k∈ks,U8 k)→keysU (rowsN ks)=some (ks.map fun(k:Nat)=>(k:Int))
 | [],_=>rfl
 |k::r,h=>by
  have ih:=keysU_rows r fun x hx=>h x (List.mem_cons_of_mem _ hx)
  have hk:U8 k:=h k (List.mem_cons_self ..)
  unfold U8 at hk
  show(if(0:Int)≤(k:Int)∧(k:Int)<18446744073709551616 then(keysU (rowsN r)).bind fun l=>some ((k:Int)::l) else none)=_
  rw [if_pos (by omega),ih]
  rfl
theorem many_le:∀l:List Int,many l≤l.length
 | []=>Nat.le_refl _
 |k::r=>by
  have:=many_le r
  unfold many
  split<;>simp<;>omega
theorem many_nodup:∀l:List Int,many l=l.length↔l.Nodup
 | []=>by simp [many]
 |k::r=>by
  have h1:=many_le r
  have ih:=many_nodup r
  unfold many
  rw [List.nodup_cons]
  by_cases h:k∈r
  ·rw [if_pos (by simpa using h)]
   simp [h]
   omega
  ·rw [if_neg (by simpa using h)]
   simp [h,ih]
theorem nodup_cast (ks:List Nat):(ks.map fun(k:Nat)=>(k:Int)).Nodup↔ks.Nodup:=by
 show List.Pairwise _ _↔List.Pairwise _ _
 rw [List.pairwise_map]
 constructor<;>intro h<;>exact h.imp fun {a b} h=>by omega
theorem allL_of (t:List P2) (ks:List Nat) (ht:t.length≤4000000) (hs:SW t):∀(l:List P2),(∀p∈l,U8 p.1) →
  allL 138 (prs t) (ks.map fun(k:Nat)=>(k:Int)) (prs l) (E cx)=some (vbool (decide (∀p∈l,p.1∈ks∧p∈t)))
 | [],_=>by simp [allL]
 |p::r,h=>by
  have ih:=allL_of t ks ht hs r fun x hx=>h x (List.mem_cons_of_mem _ hx)
  have hk:U8 p.1:=h p (List.mem_cons_self ..)
  unfold U8 at hk
  show(if(0:Int)≤(p.1:Int)∧(p.1:Int)<18446744073709551616 then cond ((ks.map fun(k:Nat)=>(k:Int)).contains (p.1:Int)) ((callB (E cx) 138 [.list 0 2 (prs t),.agg [vu p.1,vu p.2]]).bind fun h=>cond h (allL 138 (prs t) (ks.map fun(k:Nat)=>(k:Int)) (prs r) (E cx)) (some (vbool false))) (some (vbool false)) else none)=_
  rw [if_pos (by omega),callB_of (c138 t p hs ht),χ]
  have hc:(ks.map fun(k:Nat)=>(k:Int)).contains (p.1:Int)=decide (p.1∈ks):=by
   rw [List.contains_eq_mem]
   congr 1
   rw [List.mem_map]
   apply propext
   constructor
   ·rintro⟨a,h1,h2⟩
    rw [show p.1=a by omega]
    exact h1
   ·exact fun h=>⟨_,h,rfl⟩
  rw [hc,ih]
  by_cases h1:p.1∈ks
  ·by_cases h2:p∈t
   ·simp [h1,h2]
   ·simp [h1,h2]
  ·simp [h1]
theorem keysGo_sw (r:Nat):∀(l:List P2) (pv:Option P2),keysGo r pv l=true→PW l→(∀p∈l,p.2=r)∧SW l∧∀q p s,pv=some q→l=p::s→q≠p
 | [],pv,_,_=>⟨by simp,.nil,fun _ _ _ _ h=>by cases h⟩
 |p::s,pv,h,hp=>by
  unfold keysGo at h
  simp only [Bool.and_eq_true,decide_eq_true_eq,Bool.not_eq_true',decide_eq_false_iff_not] at h
  obtain⟨h1,h2,h3⟩:=h
  obtain⟨p1,p2⟩:=List.pairwise_cons.1 hp
  obtain⟨g1,g2,g3⟩:=keysGo_sw r s (some p) h3 p2
  refine⟨fun q hq=>(List.mem_cons.1 hq).elim (fun e=>e▸h1) (g1 q),List.pairwise_cons.2 ⟨fun q hq=> ?_,g2⟩,fun q p' s' hpv he=>by cases he;exact fun e=>h2 (e▸hpv)⟩
  match s,hq,g2,g3,p1 with
  |a::s',hq,g2,g3,p1 =>
   have hpa:ltP p a=true:=by
    cases hc:ltP p a with
    |true=>rfl
    |false =>
     have h5:=(ltP_def _ _).1 (ltP_tri hc (g3 p a s' rfl rfl))
     have h6:=(leP_iff _ _).1 (p1 a (List.mem_cons_self ..))
     omega
   rcases List.mem_cons.1 hq with rfl |hq
   ·exact hpa
   ·exact ltP_trans hpa ((List.pairwise_cons.1 g2).1 q hq)
theorem sw_keysGo (r:Nat):∀(l:List P2) (pv:Option P2),SW l→(∀p∈l,p.2=r)→(∀q p s,pv=some q→l=p::s→q≠p)→keysGo r pv l=true
 | [],pv,_,_,_=>rfl
 |p::s,pv,hs,h1,h2=>by
  obtain⟨p1,p2⟩:=List.pairwise_cons.1 hs
  have ih:=sw_keysGo r s (some p) p2 (fun q hq=>h1 q (List.mem_cons_of_mem _ hq)) fun q a s' e1 e2=>by
   cases e1
   subst e2
   intro e
   have:=p1 a (List.mem_cons_self ..)
   rw [e,ltP_irr] at this
   cases this
  unfold keysGo
  simp only [Bool.and_eq_true,decide_eq_true_eq,Bool.not_eq_true',decide_eq_false_iff_not]
  exact⟨h1 p (List.mem_cons_self ..),fun e=>h2 p p s e rfl rfl,ih⟩
theorem keysR_iff (l:List P2) (r:Nat):(rightT l&&keysGo r none l)=true↔SW l∧l.length≤2048∧∀p∈l,p.2=r:=by
 rw [Bool.and_eq_true]
 constructor
 ·rintro⟨h1,h2⟩
  obtain⟨g1,g2,_⟩:=keysGo_sw r l none h2 (rightT_pw h1)
  exact⟨g2,rightT_len h1,g1⟩
 ·rintro⟨h1,h2,h3⟩
  exact⟨rightT_of h2 (sw_pw h1),sw_keysGo r l none h1 h3 fun _ _ _ h=>by cases h⟩
theorem keysL_nodup {l:List P2}{r:Nat}(h1:SW l) (h3:∀p∈l,p.2=r):(keysL l).Nodup:=by
 show List.Pairwise _ _
 unfold keysL
 rw [List.pairwise_map]
 refine List.Pairwise.imp_of_mem (fun {a b} ha hb h=> ?_) h1
 have:=(ltP_def _ _).1 h
 have e1:=h3 a ha
 have e2:=h3 b hb
 omega
theorem keysL_back {l:List P2}{r:Nat}(h3:∀p∈l,p.2=r):(keysL l).map (fun k=>(k,r))=l:=by
 unfold keysL
 rw [List.map_map]
 conv=>rhs;rw [←List.map_id l]
 exact List.map_congr_left fun p hp=>Prod.ext rfl (h3 p hp).symm
theorem perm_of_sub:∀ {a b:List Nat},a.Nodup→(∀x∈a,x∈b)→b.length≤a.length→a.Perm b
 | [],b,_,_,hl=>by
  have:b=[]:=List.length_eq_zero_iff.1 (by simpa using hl)
  rw [this]
 |x::a,b,hn,hs,hl=>by
  obtain⟨n1,n2⟩:=List.nodup_cons.1 hn
  have hx:=hs x (List.mem_cons_self ..)
  have ih:=perm_of_sub (a:=a) (b:=b.erase x) n2 (fun y hy=>(List.mem_erase_of_ne (fun(e:y=x)=>n1 (by rw [←e];exact hy))).2 (hs y (List.mem_cons_of_mem _ hy))) (by
   rw [List.length_erase_of_mem hx]
   simp at hl
   omega)
  exact(ih.cons x).trans (List.perm_cons_erase hx).symm
theorem sgn_congr {r:Nat}{a b:List Nat}(h:a.Perm b):sgn r a=sgn r b:=sorted_congr (h.map _)
theorem sgn_mem {r:Nat}{ks:List Nat}{p:P2}:p∈sgn r ks↔p.1∈ks∧p.2=r:=by
 unfold sgn
 rw [(sorted_perm _).mem_iff,List.mem_map]
 constructor
 ·rintro⟨k,h,rfl⟩;exact⟨h,rfl⟩
 ·rintro⟨h,rfl⟩;exact⟨_,h,rfl⟩
theorem sgn_sw {r:Nat}{ks:List Nat}(h:ks.Nodup):SW (sgn r ks):=by
 refine pw_sw (sorted_pw _) ((sorted_perm _).nodup_iff.2 ?_)
 show List.Pairwise _ _
 rw [List.pairwise_map]
 exact h.imp fun {a b} h e=>h (congrArg Prod.fst e)
theorem sgn_keys (r:Nat) (ks:List Nat):(keysL (sgn r ks)).Perm ks:=by
 have h:=(sorted_perm (ks.map fun k=>(k,r))).map (fun p:P2=>p.1)
 rw [List.map_map] at h
 refine h.trans ?_
 rw [show(fun p:P2=>p.1) ∘ (fun k=>(k,r))=id from rfl,List.map_id]
theorem sgn_self {l:List P2}{r:Nat}(h1:SW l) (h3:∀p∈l,p.2=r):sgn r (keysL l)=l:=by
 unfold sgn
 rw [keysL_back h3]
 exact sorted_of (sw_pw h1)
theorem c89 (t:List P2) (ks:List Nat) (r:Nat) (f:Bool) (l:List P2) (ht:t.length≤4000000) (hk:ks.length≤1000000) (hl:l.length≤4000000) (hu:∀k∈ks,U8 k) (hlu:∀p∈l,U8 p.1):E cx (Key.fn 89) [.list 0 2 (prs t),.agg (itC ks r f l)] []=rb (ckR t ks r f l):=by
 rw [E_unfold]
 obtain⟨a,k1,k2⟩:=c42 f l r hl
 have hkc:keysC (E cx) 42 [.agg [vbool f,.list 0 2 (prs l)],vu r]=some (rowsN (keysR l r).1,(keysR l r).2):=by
  unfold keysC
  rw [k1]
  show(match AV.tuple [a,.val (.bool (keysR l r).2)] with
   | .tuple [a,.val (.bool b)]=>(a.list? 1).bind fun es=>some (es,b)
   | _=>none)=_
  show((a.list? 1).bind fun es=>some (es,(keysR l r).2))=_
  rw [k2]
  rfl
 have h:checkG 42 83 138 (E cx) [.list 0 2 (prs t),.agg (itC ks r f l)]=some (vbool (ckR t ks r f l)):=by
  show((keysC (E cx) 42 [.agg [vbool f,.list 0 2 (prs l)],vu r]).bind fun q=>(keysU (rowsN ks)).bind fun kl=>if(rowsN ks).length≤1000000∧(prs t).length≤4000000∧(prs l).length≤4000000 then
   (cond (!q.2||(f||(decide ((rowsN ks).length=0)||decide (q.1.length≠(rowsN ks).length)))) (some (vbool false)) ((callB (E cx) 83 [.list 0 2 (prs t)]).bind fun rt =>
    cond (!rt||decide (many kl≠q.1.length)) (some (vbool false)) (allL 138 (prs t) kl (prs l) (E cx)))) else none)=_
  rw [hkc,χ,keysU_rows ks hu,χ,if_pos (by rw [rowsN_len,prs_len,prs_len];omega),callB_of (c83 t ht),χ]
  simp only [rowsN_len]
  unfold keysR
  cases hkr:(rightT l&&keysGo r none l) with
  |false =>
   have hck:ckR t ks r f l=false:=by
    rw [←Bool.not_eq_true,ckR_iff]
    rintro⟨g1,g2,g3,g4,g5,g6,g7⟩
    have:=(keysR_iff l r).2 ⟨g6▸sgn_sw g4,by rw [g6,sgn_len];exact g5,fun p hp=>(sgn_mem.1 (g6▸hp)).2⟩
    rw [hkr] at this
    cases this
   rw [hck]
   rfl
  |true =>
   obtain⟨w1,w2,w3⟩:=(keysR_iff l r).1 hkr
   simp only [if_true]
   have hkl:(keysL l).length=l.length:=List.length_map ..
   rw [hkl]
   by_cases c1:f=false∧ks≠[]∧l.length=ks.length
   ·obtain⟨c1,c2,c3⟩:=c1
    have hpos:0<ks.length:=List.length_pos_iff.2 c2
    rw [c1,decide_eq_false (show ¬ks.length=0 by omega),decide_eq_false (show ¬l.length≠ks.length from fun h=>h c3)]
    simp only [Bool.not_true,Bool.false_or,cond_false]
    by_cases c4:tabR t=true∧ks.Nodup
    ·rw [c4.1,decide_eq_false (fun h:many (ks.map fun(k:Nat)=>(k:Int))≠l.length=>h (by rw [(many_nodup _).2 ((nodup_cast ks).2 c4.2),List.length_map];omega))]
     simp only [Bool.not_true,Bool.false_or,cond_false]
     rw [allL_of t ks ht ((tabR_iff t).1 c4.1).1 l hlu]
     congr 2
     rw [←c1]
     by_cases c5:∀p∈l,p.1∈ks∧p∈t
     ·rw [decide_eq_true c5]
      symm
      rw [c1,ckR_iff]
      refine⟨c4.1,rfl,c2,c4.2,by omega,?_,fun p hp=>(c5 p hp).2⟩
      have hp:(keysL l).Perm ks:=perm_of_sub (keysL_nodup w1 w3) (fun x hx=>by
       obtain⟨p,hp,rfl⟩:=List.mem_map.1 hx
       exact(c5 p hp).1) (by omega)
      rw [←sgn_congr hp,sgn_self w1 w3]
     ·rw [decide_eq_false c5]
      symm
      rw [←Bool.not_eq_true,ckR_iff]
      exact fun h=>c5 fun p hp=>⟨(sgn_mem.1 (h.2.2.2.2.2.1▸hp)).1,h.2.2.2.2.2.2 p hp⟩
    ·have e:(!tabR t||decide (many (ks.map fun(k:Nat)=>(k:Int))≠l.length))=true:=by
      rw [Bool.or_eq_true,decide_eq_true_eq]
      by_cases h1:tabR t=true
      ·right
       intro h2
       refine c4 ⟨h1,(nodup_cast ks).1 ((many_nodup _).1 (by rw [h2,List.length_map];omega))⟩
      ·left
       simpa using h1
     rw [e,cond_true]
     have hck:ckR t ks r false l=false:=by
      rw [←Bool.not_eq_true,ckR_iff]
      exact fun h=>c4 ⟨h.1,h.2.2.2.1⟩
     rw [hck]
   ·have e:(!true||(f||(decide (ks.length=0)||decide (l.length≠ks.length))))=true:=by
     rw [Bool.not_true,Bool.false_or,Bool.or_eq_true,Bool.or_eq_true,decide_eq_true_eq,decide_eq_true_eq]
     by_cases h1:f=false
     ·by_cases h2:ks=[]
      ·right;left;rw [h2];rfl
      ·right;right;exact fun h3=>c1 ⟨h1,h2,h3⟩
     ·left;simpa using h1
    rw [e,cond_true]
    have hck:ckR t ks r f l=false:=by
     rw [←Bool.not_eq_true,ckR_iff]
     exact fun h=>c1 ⟨h.2.1,h.2.2.1,by rw [h.2.2.2.2.2.1,sgn_len]⟩
    rw [hck]
 show((checkG 42 83 138 (E cx) [.list 0 2 (prs t),.agg (itC ks r f l)]).bind fun v=>some (Out.ret v,([]:Heap)))=_
 rw [h]
 rfl
end Go.Proofs.Av
