/- All; the fixed calls. -/
import Derived.Test.YtoepfmodbhfckaaAiYa
set_option maxRecDepth 100000
namespace Go.Proofs.Av
open Go
abbrev It:=List Nat×Nat×Bool×List P2
noncomputable abbrev ckI (t:List P2) (x:It):Bool:=ckR t x.1 x.2.1 x.2.2.1 x.2.2.2
def ItOk (x:It):Prop:=x.1.length≤1000000∧x.2.2.2.length≤4000000∧(∀k∈x.1,U8 k)∧∀p∈x.2.2.2,U8 p.1
def RwI (W0:List (List AV)) (L:List It):Prop:=W0.length=L.length∧∀(i:Nat) (x:It),L[i]?=some x→∃a c,W0[i]?=some [a,vu x.2.1,vbool x.2.2.1,c]∧a.list? 1=some (rowsN x.1)∧c.list? 2=some (prs x.2.2.2)
theorem goIt {ρ:Type}{W0:List (List AV)}{i:Int}{n:Nat}{x:It}(hn:i=n) (h:∃a c,W0[n]?=some [a,vu x.2.1,vbool x.2.2.1,c]∧a.list? 1=some (rowsN x.1)∧c.list? 2=some (prs x.2.2.2)) (k:List (List AV)→Int→Bool→List (List AV)→Option ρ):(W0[Int.toNat i]?.bind fun cs=>(uncons? cs).bind fun p=>(AV.list? 1 p.fst).bind fun es=>(uncons? p.snd).bind fun q=>(AV.int? .u64 q.fst).bind fun r=>(uncons? q.snd).bind fun u=>(AV.bool? u.fst).bind fun f=>(uncons? u.snd).bind fun v=>(AV.list? 2 v.fst).bind fun l=>(nil? v.snd).bind fun _=>k es r f l)=k (rowsN x.1) x.2.1 x.2.2.1 (prs x.2.2.2):=by
 subst hn
 obtain⟨a,c,h1,h2,h3⟩:=h
 rw [Int.toNat_natCast,h1]
 show(Option.bind (AV.list? 1 a) fun es=>Option.bind (AV.list? 2 c) fun l=>k es x.2.1 x.2.2.1 l)=_
 rw [h2,h3]
 rfl
theorem c140 (t:List P2) (x:It) (ht:t.length≤4000000) (hx:ItOk x):E cx (Key.fn 140) [.agg (itC x.1 x.2.1 x.2.2.1 x.2.2.2),.rop [.list 0 2 (prs t)]] []=rb (!ckI t x):=by
 refine(f140 _ _ _ _ _).trans ?_
 rw [c89 t x.1 x.2.1 x.2.2.1 x.2.2.2 ht hx.1 hx.2.1 hx.2.2.1 hx.2.2.2]
 show(bif ckI t x then _ else _)=_
 cases ckI t x<;>rfl
theorem loop159 (t:List P2) (W0:List (List AV)) (L:List It) (x0:Int) (hW:RwI W0 L) (ht:t.length≤4000000) (hL:L.length≤4000000) (hok:∀x∈L,ItOk x):∀(rest:List It) (i:Nat),L.drop i=rest→i+rest.length=L.length→((rest.all (ckI t))=true∧∃y z,E cx (.loop 159 [true,false,true,false]) [vi x0,vi i,.list 0 4 W0,.func (Fn.func 140) [] [.rop [.list 0 2 (prs t)]],vi W0.length] []=some (Out.jump (.exit 0) [vi y,vi z],[]))∨((rest.all (ckI t))=false∧∃(y:Nat) (z:Int),E cx (.loop 159 [true,false,true,false]) [vi x0,vi i,.list 0 4 W0,.func (Fn.func 140) [] [.rop [.list 0 2 (prs t)]],vi W0.length] []=some (Out.jump .ret [vi y,vi z],[])):=by
 intro rest
 induction rest with
 |nil =>
  intro i hd hi
  exact .inl ⟨rfl,x0,i,(f91_c0_c1_l2 _ _ _ _ _).trans (goDn (by rw [hW.1];simp at hi;omega) _ _)⟩
 |cons x r ih =>
  intro i hd hi
  obtain⟨g,hd2,hlt⟩:=drop_cons' hd
  simp only [List.length_cons] at hi
  have st:=(f91_c0_c1_l2 x0 (i:Int) W0 (prs t) (W0.length:Int)).trans ((goD (show(i:Int)<(W0.length:Int) by rw [hW.1];omega) _ _).trans ((goY (show(0:Int)≤(i:Int) by omega) _ _).trans ((goIt (n:=i) rfl (hW.2 i x g) _).trans (goB (c140 t x ht (hok x (List.mem_of_getElem? g))) _))))
  rw [wS (by omega)] at st
  rw [List.all_cons]
  cases hc:ckI t x with
  |true =>
   rw [hc,Bool.not_true,cond_false] at st
   rw [Bool.true_and]
   rcases ih (i+1) hd2 (by omega) with⟨h1,y,z,h2⟩ |⟨h1,y,z,h2⟩
   ·exact .inl ⟨h1,y,z,st.trans h2⟩
   ·exact .inr ⟨h1,y,z,st.trans h2⟩
  |false =>
   rw [hc,Bool.not_false,cond_true] at st
   exact .inr ⟨rfl,i,i,st⟩
theorem c91 (t:List P2) (W0:List (List AV)) (L:List It) (hW:RwI W0 L) (ht:t.length≤4000000) (hL:L.length≤4000000) (hok:∀x∈L,ItOk x):E cx (Key.fn 91) [.list 0 2 (prs t),.list 0 4 W0] []=rb (L.all (ckI t)):=by
 have s1:=f91_c0_c1 W0 (prs t)
 have s2:=f91_c0 W0 (prs t)
 refine(f91 _ _).trans ?_
 rcases loop159 t W0 L 0 hW ht hL hok L 0 rfl (by omega) with⟨h1,y,z,h2⟩ |⟨h1,y,z,h2⟩
 ·have h2':E cx (.loop 159 [true,false,true,false]) [vi 0,vi 0,.list 0 4 W0,.func (Fn.func 140) [] [.rop [.list 0 2 (prs t)]],vi W0.length] []=_:=h2
  rw [h2'] at s1
  rw [s1] at s2
  rw [s2,h1]
  rfl
 ·have h2':E cx (.loop 159 [true,false,true,false]) [vi 0,vi 0,.list 0 4 W0,.func (Fn.func 140) [] [.rop [.list 0 2 (prs t)]],vi W0.length] []=_:=h2
  rw [h2'] at s1
  rw [s1] at s2
  have s3:=s2.trans (show _=rb true from(goD (p:=(y:Int)≥0) (by omega) (rb true) (rb false)))
  rw [s3,h1]
  rfl
theorem loop92 (t:List P2) (W0:List (List AV)) (L:List It) (b:Bool) (hW:RwI W0 L) (ht:t.length≤4000000) (hL:L.length≤4000000) (hok:∀x∈L,ItOk x):∀(rest:List It) (i:Nat),L.drop i=rest→i+rest.length=L.length→((rest.all (ckI t))=true∧∃y,E cx (.loop 92 [true,false,true,false]) [vbool b,vi i,.list 0 2 (prs t),.list 0 4 W0] []=some (Out.jump (.exit 0) [vbool b,vi y],[]))∨((rest.all (ckI t))=false∧∃y,E cx (.loop 92 [true,false,true,false]) [vbool b,vi i,.list 0 2 (prs t),.list 0 4 W0] []=some (Out.jump .ret [vbool false,vi y],[])):=by
 intro rest
 induction rest with
 |nil =>
  intro i hd hi
  exact .inl ⟨rfl,i,(f92_l0 _ _ _ _).trans (goDn (by rw [hW.1];simp at hi;omega) _ _)⟩
 |cons x r ih =>
  intro i hd hi
  obtain⟨g,hd2,hlt⟩:=drop_cons' hd
  simp only [List.length_cons] at hi
  have hx:=hok x (List.mem_of_getElem? g)
  have st:=(f92_l0 b (i:Int) (prs t) W0).trans ((goD (show(i:Int)<(W0.length:Int) by rw [hW.1];omega) _ _).trans ((goY (show(0:Int)≤(i:Int) by omega) _ _).trans ((goIt (n:=i) rfl (hW.2 i x g) _).trans (goB (c90 t x.1 x.2.1 x.2.2.1 x.2.2.2 ht (by have:=hx.1;omega)) _))))
  rw [wS (by omega)] at st
  rw [List.all_cons]
  show((ckR t x.1 x.2.1 x.2.2.1 x.2.2.2&&r.all (ckI t))=true∧_)∨((ckR t x.1 x.2.1 x.2.2.1 x.2.2.2&&r.all (ckI t))=false∧_)
  cases hc:ckR t x.1 x.2.1 x.2.2.1 x.2.2.2 with
  |true =>
   rw [hc,cond_true] at st
   rw [Bool.true_and]
   rcases ih (i+1) hd2 (by omega) with⟨h1,y,h2⟩ |⟨h1,y,h2⟩
   ·exact .inl ⟨h1,y,st.trans h2⟩
   ·exact .inr ⟨h1,y,st.trans h2⟩
  |false =>
   rw [hc,cond_false] at st
   exact .inr ⟨rfl,i,st⟩
theorem c92 (t:List P2) (W0:List (List AV)) (L:List It) (hW:RwI W0 L) (ht:t.length≤4000000) (hL:L.length≤4000000) (hok:∀x∈L,ItOk x):E cx (Key.fn 92) [.list 0 2 (prs t),.list 0 4 W0] []=rb (L.all (ckI t)):=by
 refine(f92 _ _).trans ?_
 rcases loop92 t W0 L false hW ht hL hok L 0 rfl (by omega) with⟨h1,y,h2⟩ |⟨h1,y,h2⟩
 ·rw [show(0:Int)=((0:Nat):Int) from rfl,h2,h1];rfl
 ·rw [show(0:Int)=((0:Nat):Int) from rfl,h2,h1];rfl
abbrev tab0:List P2:=[(1,7),(2,7)]
theorem tab0_right:tabR tab0=true:=(tabR_iff _).2 ⟨by decide,by decide⟩
theorem sgn0:sgn 7 [2,1]=tab0:=by rw [←sgL_eq];rfl
theorem ck_yes:ckR tab0 [2,1] 7 false tab0=true:=ckR_iff.2 ⟨tab0_right,rfl,by decide,by decide,by decide,sgn0.symm,by decide⟩
theorem ck_other:ckR tab0 [2,1] 8 false tab0=false:=by
 rw [←Bool.not_eq_true,ckR_iff]
 rintro⟨_,_,_,_,_,h,_⟩
 have:(1,7)∈sgn 8 [2,1]:=h▸(by decide:((1,7):P2)∈tab0)
 have:=(sgn_mem.1 this).2
 simp at this
theorem ck_less:ckR tab0 [1] 7 false tab0=false:=by
 rw [←Bool.not_eq_true,ckR_iff]
 rintro⟨_,_,_,_,_,h,_⟩
 have:=congrArg List.length h
 rw [sgn_len] at this
 simp at this
theorem it_ok (ks:List Nat) (r:Nat) (f:Bool) (l:List P2) (h1:ks.length≤1000) (h2:l.length≤1000) (h3:∀k∈ks,k<1000) (h4:∀p∈l,p.1<1000):ItOk (ks,r,f,l) :=
 ⟨by show ks.length≤_;omega,by show l.length≤_;omega,fun k hk=>by have:=h3 k hk;unfold U8;omega,fun p hp=>by have:=h4 p hp;unfold U8;omega⟩
theorem rw_two {x y:It}{a c a' c':AV}(h1:a.list? 1=some (rowsN x.1)) (h2:c.list? 2=some (prs x.2.2.2)) (h3:a'.list? 1=some (rowsN y.1)) (h4:c'.list? 2=some (prs y.2.2.2)):RwI [[a,vu x.2.1,vbool x.2.2.1,c],[a',vu y.2.1,vbool y.2.2.1,c']] [x,y]:=by
 refine⟨rfl,fun i z h=> ?_⟩
 match i,h with
 | 0,h=>cases h;exact⟨a,c,rfl,h1,h2⟩
 | 1,h=>cases h;exact⟨a',c',rfl,h3,h4⟩
theorem f78_true:E cx (Key.fn 78) [] []=rb true:=by
 refine f78.trans ?_
 have e1:E cx (.fn 81) [.val (.slice none 0 0),.list 0 2 [[vu 2,vu 7],[vu 1,vu 7],[vu 2,vu 7]]] []=E cx (.fn 81) [.list 0 2 (prs []),.list 0 2 (prs [(2,7),(1,7),(2,7)])] []:=E_norm (by rfl) (by kernel_rfl) (by kernel_rfl)
 have e2:E cx (.fn 81) [.list 0 2 [[vu 2,vu 0],[vu 1,vu 0]],.val (.slice none 0 0)] []=E cx (.fn 81) [.list 0 2 (prs [(2,0),(1,0)]),.list 0 2 (prs [])] []:=E_norm (by rfl) (by kernel_rfl) (by kernel_rfl)
 have e3:∀es:List (List AV),E cx (.fn 91) [.list 0 2 es,.val (.slice none 0 0)] []=E cx (.fn 91) [.list 0 2 es,.list 0 4 []] []:=fun es=>E_norm (by rfl) (by kernel_rfl) (by kernel_rfl)
 have a1:=c81 [] [(2,7),(1,7),(2,7)] (by decide) (by decide)
 rw [addR_ok .nil (by decide),show uni [] [(2,7),(1,7),(2,7)]=tab0 from by decide] at a1
 rw [e1]
 refine(goRP a1 _).trans ?_
 have a2:=c93 7 [2,1] (by decide)
 have e4:sigR 7 [2,1]=(false,tab0,0):=by unfold sigR;rw [if_pos (by decide),sgn0]
 rw [e4] at a2
 refine(goTok a2 _).trans ?_
 have a3:=c81 [(2,0),(1,0)] [] (by decide) (by decide)
 have e5:addR [(2,0),(1,0)] []=([],1):=by
  unfold addR
  rw [if_neg (by rw [tabR_iff];rintro⟨h,_⟩;revert h;decide)]
 rw [e5] at a3
 rw [e2]
 refine(goRP a3 _).trans ?_
 rw [e3]
 have it:=it_ok [2,1] 7 false tab0 (by decide) (by decide) (by decide) (by decide)
 have it2:=it_ok [1] 7 false tab0 (by decide) (by decide) (by decide) (by decide)
 have k1:E cx (.fn 89) [.list 0 2 (prs tab0),.agg [.list 0 1 [[vu 2],[vu 1]],vu 7,vbool false,.list 0 2 (prs tab0)]] []=rb true:=(c89 tab0 [2,1] 7 false tab0 (by decide) it.1 it.2.1 it.2.2.1 it.2.2.2).trans (by rw [ck_yes])
 have k2:E cx (.fn 89) [.list 0 2 (prs tab0),.agg [.list 0 1 [[vu 2],[vu 1]],vu 8,vbool false,.list 0 2 (prs tab0)]] []=rb false:=(c89 tab0 [2,1] 8 false tab0 (by decide) it.1 it.2.1 it.2.2.1 it.2.2.2).trans (by rw [ck_other])
 have k3:E cx (.fn 89) [.list 0 2 (prs tab0),.agg [.list 0 1 [[vu 1]],vu 7,vbool false,.list 0 2 (prs tab0)]] []=rb false:=(c89 tab0 [1] 7 false tab0 (by decide) it2.1 it2.2.1 it2.2.2.1 it2.2.2.2).trans (by rw [ck_less])
 have l0:E cx (.fn 91) [.list 0 2 (prs tab0),.list 0 4 []] []=rb true:=c91 tab0 [] [] ⟨rfl,fun i x h=>by cases h⟩ (by decide) (by decide) (by simp)
 have l1:E cx (.fn 91) [.list 0 2 (prs tab0),.list 0 4 [[.list 1 1 [[vu 2],[vu 1]],vu 7,vbool false,.list 0 2 (prs tab0)],[.list 1 1 [[vu 2],[vu 1]],vu 7,vbool false,.list 0 2 (prs tab0)]]] []=rb true :=
  (c91 tab0 _ [([2,1],7,false,tab0),([2,1],7,false,tab0)] (rw_two rfl rfl rfl rfl) (by decide) (by decide) (fun x hx=>by simp at hx;rw [hx];exact it)).trans (by simp [ckI,ck_yes])
 have l2:E cx (.fn 91) [.list 0 2 (prs tab0),.list 0 4 [[.list 1 1 [[vu 2],[vu 1]],vu 7,vbool false,.list 0 2 (prs tab0)],[.list 1 1 [[vu 1]],vu 7,vbool false,.list 0 2 (prs tab0)]]] []=rb false :=
  (c91 tab0 _ [([2,1],7,false,tab0),([1],7,false,tab0)] (rw_two rfl rfl rfl rfl) (by decide) (by decide) (fun x hx=>by simp at hx;rcases hx with rfl |rfl;exact it;exact it2)).trans (by simp [ckI,ck_yes,ck_less])
 have v1:=c85 tab0 (1,7) (by decide)
 rw [tab0_right,decide_eq_true (by decide)] at v1
 have v2:=c85 tab0 (1,6) (by decide)
 rw [tab0_right,decide_eq_false (by decide)] at v2
 have r1:=c83 tab0 (by decide)
 rw [tab0_right] at r1
 have p1:=c87 tab0 tab0 (by decide)
 rw [decide_eq_true rfl] at p1
 refine(goD (by decide) _ _).trans ((goT p1 _ _).trans ((goD (by decide) _ _).trans ((goD (show((prs tab0).length:Int)=2 by decide) _ _).trans ((goD (by decide) _ _).trans ((goT k1 _ _).trans ((goF k2 _ _).trans ((goF k3 _ _).trans ((goT l0 _ _).trans ((goT l1 _ _).trans ((goF l2 _ _).trans ((goT r1 _ _).trans ((goT v1 _ _).trans (goF v2 _ _)))))))))))))
end Go.Proofs.Av
