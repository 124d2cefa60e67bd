/- The oracle's functions, and the document's, in closed form: order, Right, with, in, Table, Keys, Sign. -/
import Derived.Test.YtoepfmodbhfckaaAiYo
import Derived.Test.YtoepfmodbhfckaaAiSoC
set_option maxRecDepth 100000
namespace Go.Proofs.Av
open Go
open Option renaming bind→Ω
open Go.IntKind renaming wrap→ω
open List renaming getElem?_eq_getElem→η
open Int renaming toNat→τ
theorem c94 {c n:Int}(hc:RI c) (hn:0<n):E cx (Key.fn 94) [vi c,vi n] []=some (Out.ret (vi (pickI c n)),[]):=by
 refine(f94 _ _).trans ?_
 unfold pickI
 by_cases h:c<0
 ·rw [if_pos h]
  refine(goD h _ _).trans ((goN (show ¬n=0 by omega) _ _).trans ?_)
  have e:ω .i64 (Int.sub 0 (ω .i64 (Int.add c 1))) = -(c+1):=by
   rw [wr_add (a:=c) (b:=1) (by omega) (by omega)]
   exact(wr_sub (a:=0) (by omega) (by omega)).trans (by omega)
  rw [e]
 ·rw [if_neg h]
  exact(goDn h _ _).trans (goN (show ¬n=0 by omega) _ _)
theorem c134 (p q:P2):E cx (Key.fn 134) [.agg [vu p.1,vu p.2],.agg [vu q.1,vu q.2]] []=some (Out.ret (vi (ordI p q)),[]):=by
 refine(f134 _ _ _ _).trans ((goI (c148 _ _) _).trans ((goI (c148 _ _) _).trans ((goI (c147 _ _) _).trans ?_)))
 obtain⟨a,b⟩:=p
 obtain⟨c,d⟩:=q
 have h2:(if cmpI (a:Int) (c:Int)=0 then cmpI (b:Int) (d:Int) else cmpI (a:Int) (c:Int))=ordI (a,b) (c,d):=by
  have e:∀x y:Nat,cmpI (x:Int) (y:Int)=if x<y then -1 else if y<x then 1 else 0:=fun x y=>by
   unfold cmpI
   simp only [Int.ofNat_lt,gt_iff_lt]
  rw [e,e]
  unfold ordI ltP
  rcases Nat.lt_trichotomy a c with h1 |h1 |h1<;>rcases Nat.lt_trichotomy b d with h3 |h3 |h3 <;>
   simp [h1,h3,Nat.lt_asymm,Nat.ne_of_lt,Nat.ne_of_gt]<;>omega
 rw [h2]
def stAt (l:List P2) (j:Nat):Prop:=∀p q,l[j]?=some p→l[j+1]?=some q→ltP p q=true
def stI (l:List P2):Prop:=∀j,stAt l j
abbrev SW (l:List P2):Prop:=l.Pairwise fun a b=>ltP a b=true
open Classical in
noncomputable def stB (l:List P2):Bool:=decide (stI l)
open Classical in
theorem stB_t {l:List P2}(h:stI l):stB l=true:=by unfold stB;exact decide_eq_true h
open Classical in
theorem stB_f {l:List P2}(h:¬stI l):stB l=false:=by unfold stB;exact decide_eq_false h
noncomputable def tabR (l:List P2):Bool:=stB l&&decide (l.length≤4096)
theorem ltP_def (x y:P2):ltP x y=true↔x.1<y.1∨x.1=y.1∧x.2<y.2:=by
 unfold ltP
 simp
theorem ltP_trans {x y z:P2}(h1:ltP x y=true) (h2:ltP y z=true):ltP x z=true:=by
 rw [ltP_def] at *
 omega
theorem ltP_irr (x:P2):ltP x x=false:=by
 cases h:ltP x x with
 |false=>rfl
 |true=>have:=(ltP_def x x).1 h;omega
theorem ltP_tri {x y:P2}(h1:ltP x y=false) (h2:x≠y):ltP y x=true:=by
 rw [ltP_def]
 have:¬(x.1<y.1∨x.1=y.1∧x.2<y.2):=fun h=>by rw [(ltP_def x y).2 h] at h1;cases h1
 have h3:¬(x.1=y.1∧x.2=y.2):=fun h=>h2 (Prod.ext h.1 h.2)
 omega
theorem sw_iff (l:List P2):stI l↔SW l:=by
 constructor
 ·intro h
  refine List.pairwise_iff_getElem.2 fun i j hi hj hij=> ?_
  obtain⟨d,rfl⟩:=Nat.exists_eq_add_of_le (show i+1≤j by omega)
  clear hij
  induction d with
  |zero=>exact h i _ _ (η hi) (η hj)
  |succ d ih =>
   have h1:=ih (by omega)
   have h2:=h (i+1+d) _ _ (η (by omega)) (η hj)
   exact ltP_trans h1 h2
 ·intro h j p q hp hq
  obtain⟨h1,e1⟩:=List.getElem?_eq_some_iff.1 hp
  obtain⟨h2,e2⟩:=List.getElem?_eq_some_iff.1 hq
  subst e1 e2
  exact List.pairwise_iff_getElem.1 h j (j+1) h1 h2 (by omega)
theorem tabR_iff (l:List P2):tabR l=true↔SW l∧l.length≤4096:=by
 unfold tabR
 rw [Bool.and_eq_true,decide_eq_true_eq,←sw_iff]
 by_cases h:stI l
 ·simp [stB_t h,h]
 ·simp [stB_f h,h]
theorem ordI_ge (p q:P2):ordI p q≥0↔ltP p q=false:=by
 have:=ordI_neg p q
 cases h:ltP p q with
 |true=>simp [h] at this;constructor<;>intro h2<;>first |omega |cases h2
 |false =>
  simp [h] at this
  exact⟨fun _=>rfl,fun _=>by omega⟩
theorem loop83 (l:List P2) (b:Bool) (hl:l.length≤4000000):∀(d i:Nat),i+d=l.length→(∀j,j+1<i→stAt l j)→(stI l∧∃x y,E cx (.loop 83 [true,false,true,false]) [vbool b,vi i,.list 0 2 (prs l),vi l.length] []=some (Out.jump (.exit 0) [vbool x,vi y],[]))∨(¬stI l∧∃y,E cx (.loop 83 [true,false,true,false]) [vbool b,vi i,.list 0 2 (prs l),vi l.length] []=some (Out.jump .ret [vbool false,vi y],[])):=by
 intro d
 induction d with
 |zero =>
  intro i hi h
  refine .inl ⟨fun j=> ?_,b,i,(f83_l0 _ _ _ _).trans (goDn (by omega) _ _)⟩
  by_cases hj:j+1<i
  ·exact h j hj
  ·intro p q hp hq
   have:=(List.getElem?_eq_some_iff.1 hq).1
   omega
 |succ d ih =>
  intro i hi h
  have hm:i<l.length:=by omega
  have st:=(f83_l0 b (i:Int) (prs l) (l.length:Int)).trans (goD (show(i:Int)<(l.length:Int) by omega) _ _)
  rw [wS (by omega)] at st
  by_cases h0:i=0
  ·subst h0
   rw [st.trans (goDn (show ¬((0:Nat):Int)>0 by omega) _ _)]
   exact ih 1 (by omega) (fun j hj=>by omega)
  ·have st:=st.trans (goD (show(i:Int)>0 by omega) _ _)
   rw [show ω .i64 (Int.sub (i:Int) 1)=((i-1:Nat):Int) from(wr_sub (b:=1) (by omega) (by omega)).trans (by omega)] at st
   have g1:l[i-1]?=some l[i-1]:=η (by omega)
   have g2:l[i]?=some l[i]:=η hm
   have st:=st.trans ((goY (show(0:Int)≤((i-1:Nat):Int) by omega) _ _).trans ((goPr (n:=i-1) rfl g1 _).trans ((goY (show(0:Int)≤(i:Int) by omega) _ _).trans ((goPr (n:=i) rfl g2 _).trans (goI (c134 _ _) _)))))
   cases hlt:ltP l[i-1] l[i] with
   |true =>
    have h2:=(ordI_neg _ _).2 hlt
    rw [st.trans (goDn (show ¬ordI l[i-1] l[i]≥0 by omega) _ _)]
    refine ih (i+1) (by omega) (fun j hj=> ?_)
    by_cases hj2:j+1<i
    ·exact h j hj2
    ·intro p q hp hq
     rw [show j=i-1 by omega,g1] at hp
     rw [show j+1=i by omega,g2] at hq
     cases hp;cases hq
     exact hlt
   |false =>
    refine .inr ⟨fun hs=> ?_,(i:Int),st.trans (goD ((ordI_ge _ _).2 hlt) _ _)⟩
    have:=hs (i-1) _ _ g1 (by rw [show i-1+1=i by omega];exact g2)
    rw [hlt] at this
    cases this
theorem c83 (l:List P2) (hl:l.length≤4000000):E cx (Key.fn 83) [.list 0 2 (prs l)] []=rb (tabR l):=by
 refine(f83 _).trans ?_
 rw [prs_len]
 unfold tabR
 rcases loop83 l false hl l.length 0 (by omega) (fun j hj=>by omega) with⟨h1,x,y,h2⟩ |⟨h1,y,h2⟩
 ·rw [show(0:Int)=((0:Nat):Int) from rfl,h2,stB_t h1]
  by_cases h:l.length≤4096
  ·rw [decide_eq_true h]
   exact goD (show(l.length:Int)≤4096 by omega) _ _
  ·rw [decide_eq_false h]
   exact goDn (show ¬(l.length:Int)≤4096 by omega) _ _
 ·rw [show(0:Int)=((0:Nat):Int) from rfl,h2,stB_f h1]
  rfl
theorem loop84 (l:List P2) (b:Bool) (hl:l.length≤4000000):∀(d i:Nat),(i+d=l.length∨l.length≤i∧d=0)→0<i→(∀j,j+1<i→stAt l j)→(stI l∧∃x y,E cx (.loop 84 [true,false,true,false]) [vbool b,vi i,.list 0 2 (prs l)] []=some (Out.jump (.exit 0) [vbool x,vi y],[]))∨(¬stI l∧∃y,E cx (.loop 84 [true,false,true,false]) [vbool b,vi i,.list 0 2 (prs l)] []=some (Out.jump .ret [vbool false,vi y],[])):=by
 intro d
 induction d with
 |zero =>
  intro i hi h0 h
  refine .inl ⟨fun j=> ?_,b,i,(f84_l0 _ _ _).trans (goDn (by rw [prs_len];omega) _ _)⟩
  by_cases hj:j+1<i
  ·exact h j hj
  ·intro p q hp hq
   have:=(List.getElem?_eq_some_iff.1 hq).1
   omega
 |succ d ih =>
  intro i hi h0 h
  have hm:i<l.length:=by omega
  have st:=(f84_l0 b (i:Int) (prs l)).trans (goD (show(i:Int)<((prs l).length:Int) by rw [prs_len];omega) _ _)
  rw [wS (by omega),show ω .i64 (Int.sub (i:Int) 1)=((i-1:Nat):Int) from(wr_sub (b:=1) (by omega) (by omega)).trans (by omega)] at st
  have g1:l[i-1]?=some l[i-1]:=η (by omega)
  have g2:l[i]?=some l[i]:=η hm
  have st:=st.trans ((goY (show(0:Int)≤((i-1:Nat):Int) by omega) _ _).trans ((goPr (n:=i-1) rfl g1 _).trans ((goY (show(0:Int)≤(i:Int) by omega) _ _).trans (goPr (n:=i) rfl g2 _))))
  cases hlt:ltP l[i-1] l[i] with
  |true =>
   rw [st.trans (goT ((c105 _ _).trans (by rw [hlt])) _ _)]
   refine ih (i+1) (by omega) (by omega) (fun j hj=> ?_)
   by_cases hj2:j+1<i
   ·exact h j hj2
   ·intro p q hp hq
    rw [show j=i-1 by omega,g1] at hp
    rw [show j+1=i by omega,g2] at hq
    cases hp;cases hq
    exact hlt
  |false =>
   refine .inr ⟨fun hs=> ?_,(i:Int),st.trans (goF ((c105 _ _).trans (by rw [hlt])) _ _)⟩
   have:=hs (i-1) _ _ g1 (by rw [show i-1+1=i by omega];exact g2)
   rw [hlt] at this
   cases this
theorem c84 (l:List P2) (hl:l.length≤4000000):E cx (Key.fn 84) [.list 0 2 (prs l)] []=rb (tabR l):=by
 refine(f84 _).trans ?_
 rw [prs_len]
 unfold tabR
 rcases loop84 l false hl (l.length-1) 1 (by omega) (by omega) (fun j hj=>by omega) with⟨h1,x,y,h2⟩ |⟨h1,y,h2⟩
 ·rw [show(1:Int)=((1:Nat):Int) from rfl,h2,stB_t h1]
  by_cases h:l.length≤4096
  ·rw [decide_eq_true h]
   exact goD (show(l.length:Int)≤4096 by omega) _ _
  ·rw [decide_eq_false h]
   exact goDn (show ¬(l.length:Int)≤4096 by omega) _ _
 ·rw [show(1:Int)=((1:Nat):Int) from rfl,h2,stB_f h1]
  rfl
theorem loop136 (l:List P2) (p:P2) (b:Bool) (hl:l.length≤4000000):∀(rest:List P2) (i:Nat),l.drop i=rest→i+rest.length=l.length→(p ∉ rest∧∃x y,E cx (.loop 136 [true,false,true,false]) [vbool b,vi i,.list 0 2 (prs l),.ptr 0 0 0 0] [⟨.box,80,2,0,[[vu p.1,vu p.2]]⟩]=some (Out.jump (.exit 0) [vbool x,vi y],[⟨.box,80,2,0,[[vu p.1,vu p.2]]⟩]))∨(p∈rest∧∃y,E cx (.loop 136 [true,false,true,false]) [vbool b,vi i,.list 0 2 (prs l),.ptr 0 0 0 0] [⟨.box,80,2,0,[[vu p.1,vu p.2]]⟩]=some (Out.jump .ret [vbool true,vi y],[⟨.box,80,2,0,[[vu p.1,vu p.2]]⟩])):=by
 intro rest
 induction rest with
 |nil =>
  intro i hd hi
  exact .inl ⟨by simp,b,i,(f136_l0 _ _ _ _ _).trans (goDn (by rw [prs_len];simp at hi;omega) _ _)⟩
 |cons q r ih =>
  intro i hd hi
  obtain⟨g,hd2,hlt⟩:=drop_cons' hd
  have st:=(f136_l0 b (i:Int) (prs l) (p.1:Int) (p.2:Int)).trans ((goD (show(i:Int)<((prs l).length:Int) by rw [prs_len];omega) _ _).trans ((goY (show(0:Int)≤(i:Int) by omega) _ _).trans (goPr (n:=i) rfl g _)))
  rw [pairEq,wS (by omega)] at st
  by_cases hq:q=p
  ·rw [decide_eq_true hq] at st
   exact .inr ⟨by simp [hq],i,st⟩
  ·rw [decide_eq_false hq] at st
   rw [st]
   rcases ih (i+1) hd2 (by simp at hi;omega) with⟨h1,h2⟩ |⟨h1,h2⟩
   ·exact .inl ⟨fun h=>(List.mem_cons.1 h).elim (fun h=>hq h.symm) h1,h2⟩
   ·exact .inr ⟨by simp [h1],h2⟩
theorem c136 (l:List P2) (p:P2) (hl:l.length≤4000000):E cx (Key.fn 136) [.list 0 2 (prs l),.agg [vu p.1,vu p.2]] []=rb (decide (p∈l)):=by
 refine(f136 _ _ _).trans ?_
 rcases loop136 l p false hl l 0 rfl (by omega) with⟨h1,x,y,h2⟩ |⟨h1,y,h2⟩
 ·rw [show(0:Int)=((0:Nat):Int) from rfl,h2,decide_eq_false h1];rfl
 ·rw [show(0:Int)=((0:Nat):Int) from rfl,h2,decide_eq_true h1];rfl
def atW (p:P2) (l:List P2):Nat→Nat
 | 0=>0
 |n+1=>match l[n]? with
  |some q=>if ltP q p then n+1 else atW p l n
  |none=>0
def insW (p:P2) (l:List P2):List P2:=l.take (atW p l l.length)++p::l.drop (atW p l l.length)
theorem atW_le (p:P2) (l:List P2):∀n,atW p l n≤n
 | 0=>Nat.le_refl _
 |n+1=>by
  unfold atW
  split
  ·split
   ·exact Nat.le_refl _
   ·exact Nat.le_succ_of_le (atW_le p l n)
  ·omega
theorem insW_len (p:P2) (l:List P2):(insW p l).length=l.length+1:=by
 have:=atW_le p l l.length
 unfold insW
 simp
 omega
theorem loop137 (l:List P2) (p:P2) (hl:l.length≤4000000):∀n,n≤l.length →
  E cx (.loop 137 [true,true,false,false]) [vi n,.list 0 2 (prs l),.ptr 0 0 0 0] [⟨.box,80,2,0,[[vu p.1,vu p.2]]⟩]=some (Out.jump (.exit 0) [vi (atW p l n)],[⟨.box,80,2,0,[[vu p.1,vu p.2]]⟩])
 | 0,_=>(f137_l0 _ _ _ _).trans (goDn (by omega) _ _)
 |n+1,hn=>by
  have g:l[n]?=some l[n]:=η (by omega)
  have st:=(f137_l0 ((n+1:Nat):Int) (prs l) (p.1:Int) (p.2:Int)).trans (goD (show((n+1:Nat):Int)>0 by omega) _ _)
  rw [wP (by omega)] at st
  have st:=st.trans ((goY (show(0:Int)≤(n:Int) by omega) _ _).trans (goPr (n:=n) rfl g _))
  unfold atW
  rw [g]
  simp only
  cases h:ltP l[n] p with
  |true=>exact st.trans (goT ((c105 _ _).trans (by rw [h])) _ _)
  |false=>exact(st.trans (goF ((c105 _ _).trans (by rw [h])) _ _)).trans (loop137 l p hl n (by omega))
theorem goJp {ρ:Type}{x:Option (Out×Heap)}{e:JX}{n a b:Int}{c:List AV}(he:e.is e=true) (h:x=some (Out.jump e [vi n],[⟨.box,80,2,0,[[vu a,vu b]]⟩])) (k:Int→Int→Int→Option ρ) (j:Option ρ):(x.bind fun r=>(asJump r).bind fun q=>bif JX.is q.fst e then(uncons? q.snd.fst).bind fun p=>(AV.int? .i64 p.fst).bind fun n=>(nil? p.snd).bind fun _=>(uncons? q.snd.snd).bind fun u=>(obIs (Ob.mk OK.box 80 2 0 [c]) u.fst).bind fun _=>(chk u.fst.ver 0).bind fun _=>(uncons? u.fst.es).bind fun p2=>(nil? p2.snd).bind fun _=>(uncons? p2.fst).bind fun p3=>(AV.int? .u64 p3.fst).bind fun a=>(uncons? p3.snd).bind fun p4=>(AV.int? .u64 p4.fst).bind fun b=>(nil? p4.snd).bind fun _=>(nil? u.snd).bind fun _=>k n a b else j)=k n a b:=by
 rw [h]
 show(bif e.is e then _ else _)=_
 rw [he]
 rfl
theorem prs_app' (a b:List P2):prs a++prs b=prs (a++b):=by simp [prs]
theorem c137 (l:List P2) (p:P2) (hl:l.length≤1000000):E cx (Key.fn 137) [.list 0 2 (prs l),.agg [vu p.1,vu p.2]] []=some (Out.ret (.list 0 2 (prs (insW p l))),[]):=by
 refine(f137 _ _ _).trans ?_
 rw [prs_len]
 refine(goJp (e := .exit 0) rfl (loop137 l p (by omega) l.length (Nat.le_refl _)) _ _).trans ?_
 have hle:=atW_le p l l.length
 have hil:=insW_len p l
 unfold insW at hil ⊢
 generalize atW p l l.length=k at *
 have hk:τ ((k:Nat):Int)=k:=Int.toNat_natCast k
 have e1:List.drop 0 (List.take k (prs l))=prs (l.take k):=by simp [prs]
 have e2:List.drop k (List.take l.length (prs l))=prs (l.drop k):=by
  rw [List.take_of_length_le (by rw [prs_len];exact Nat.le_refl _)]
  simp [prs]
 rw [hk,e1,e2]
 have l1:(prs (l.take k)).length=k:=by rw [prs_len,List.length_take];omega
 have l2:(prs (l.drop k)).length=l.length-k:=by rw [prs_len,List.length_drop]
 simp only [List.nil_append]
 refine(goY (show(0:Int)≤(k:Int) by omega) _ _).trans ((goY (show(k:Int)≤(l.length:Int) by omega) _ _).trans ?_)
 rw [ysOk_prs,ysOk_prs,l1,l2]
 simp only [cond_true]
 have l3:(prs (l.take k)++[[vu (p.1:Int),vu (p.2:Int)]]).length=k+1:=by rw [List.length_append,l1];rfl
 rw [l3]
 refine(goY (show Nat.mul (Nat.add 0 k) 16≤140737488355328 by show(0+k)*16≤_;omega) _ _).trans ((goCk (show Nat.add 0 k=k from Nat.zero_add k) _).trans ((goY (show Nat.mul (Nat.add k 1) 16≤140737488355328 by show(k+1)*16≤_;omega) _ _).trans ((goY (show(0:Int)≤(k:Int) by omega) _ _).trans ((goY (show(k:Int)≤(l.length:Int) by omega) _ _).trans ((goCk (show Nat.add k 1=k+1 from rfl) _).trans ((goY (show Nat.mul (Nat.add (k+1) (l.length-k)) 16≤140737488355328 by show(k+1+(l.length-k))*16≤_;omega) _ _).trans ?_))))))
 have e3:prs (l.take k)++[[vu (p.1:Int),vu (p.2:Int)]]++prs (l.drop k)=prs (l.take k++p::l.drop k):=by simp [prs,encP]
 rw [e3]
 have l4:(prs (l.take k++p::l.drop k)).length=l.length+1:=by rw [prs_len,hil]
 refine(goLe (show Nat.add 0 (Nat.add (k+1) (l.length-k))≤(prs (l.take k++p::l.drop k)).length by rw [l4];show 0+(k+1+(l.length-k))≤_;omega) _).trans ?_
 rw [List.take_of_length_le (by rw [l4];show _≤0+(k+1+(l.length-k));omega)]
 rfl
end Go.Proofs.Av
/-The oracle's functions,and the document's:slices.Compact. -/
set_option maxRecDepth 100000
namespace Go.Proofs.Av
open Go
open Option renaming bind→Ω
open Go.IntKind renaming wrap→ω
open List renaming getElem?_eq_getElem→η
open Int renaming toNat→τ
def cmpP:List P2→List P2
 | []=>[]
 | [x]=>[x]
 |x::y::r=>if x=y then cmpP (y::r) else x::cmpP (y::r)
theorem cmpP_mem:∀ {l:List P2}{x:P2},x∈cmpP l↔x∈l
 | [],x=>Iff.rfl
 | [y],x=>Iff.rfl
 |a::b::r,x=>by
  unfold cmpP
  have ih:=cmpP_mem (l:=b::r) (x:=x)
  split
  ·rename_i h
   subst h
   rw [ih]
   simp
  ·simp only [List.mem_cons] at ih ⊢
   rw [ih]
theorem cmpP_snoc:∀(xs:List P2) (x y:P2),cmpP (xs++[x,y])=if x=y then cmpP (xs++[x]) else cmpP (xs++[x])++[y]
 | [],x,y=>by
  show cmpP [x,y]=_
  unfold cmpP
  by_cases h:x=y
  ·rw [if_pos h,if_pos h,h];rfl
  ·rw [if_neg h,if_neg h];rfl
 | [a],x,y=>by
  show cmpP (a::x::[y])=if x=y then cmpP (a::x::[]) else cmpP (a::x::[])++[y]
  simp only [cmpP]
  by_cases h1:a=x<;>by_cases h2:x=y<;>simp [h1,h2]
 |a::b::r,x,y=>by
  have ih:=cmpP_snoc (b::r) x y
  simp only [List.cons_append] at ih
  show cmpP (a::b::(r++[x,y]))=if x=y then cmpP (a::b::(r++[x])) else cmpP (a::b::(r++[x]))++[y]
  rw [cmpP,cmpP,ih]
  by_cases h1:a=b<;>by_cases h2:x=y<;>simp [h1,h2]
theorem cmpP_take {l:List P2}{m:Nat}(h0:0<m) (hm:m<l.length):cmpP (l.take (m+1))=if l[m-1]=l[m] then cmpP (l.take m) else cmpP (l.take m)++[l[m]]:=by
 obtain⟨k,rfl⟩:∃k,m=k+1:=⟨m-1,by omega⟩
 have e1:l.take (k+1)=l.take k++[l[k]]:=by rw [List.take_add_one,η (by omega)];rfl
 have e2:l.take (k+1+1)=l.take k++[l[k],l[k+1]]:=by rw [List.take_add_one,e1,η hm];exact List.append_assoc _ _ _
 rw [e2,e1,cmpP_snoc]
 rfl
theorem cmpP_le:∀l:List P2,(cmpP l).length≤l.length
 | []=>Nat.le_refl _
 | [x]=>Nat.le_refl _
 |x::y::r=>by
  have:=cmpP_le (y::r)
  unfold cmpP
  split
  ·simp only [List.length_cons] at this ⊢;omega
  ·simp only [List.length_cons] at this ⊢;omega
theorem go1P {ρ:Type}{l:List P2}{i:Int}{n o:Nat}{r:P2}(hn:i=n) (h:l[o+n]?=some r) (k:Int→Int→Option ρ):((nth (prs l) (Nat.add o (τ i))).bind fun cs=>(uncons? cs).bind fun p=>(AV.int? .u64 p.fst).bind fun s=>(uncons? p.snd).bind fun p2=>(AV.int? .u64 p2.fst).bind fun t=>(nil? p2.snd).bind fun _=>k s t)=k r.1 r.2:=by
 subst hn
 have:nth (prs l) (Nat.add o (τ (n:Int)))=some [vu (r.1:Int),vu (r.2:Int)]:=by
  rw [nth_eq,Int.toNat_natCast]
  show(prs l)[o+n]?=_
  simp [prs,encP,h]
 rw [this]
 rfl
theorem goPd {ρ:Type}{p q:P2}(h:p=q) (k j:Option ρ):(bif (decide ((p.1:Int)=(q.1:Int))&&(decide ((p.2:Int)=(q.2:Int))&&true)) then k else j)=k:=by rw [pairEq,decide_eq_true h];rfl
theorem goPdn {ρ:Type}{p q:P2}(h:¬p=q) (k j:Option ρ):(bif (decide ((p.1:Int)=(q.1:Int))&&(decide ((p.2:Int)=(q.2:Int))&&true)) then k else j)=j:=by rw [pairEq,decide_eq_false h];rfl
theorem goPe2 {ρ:Type}{p q:P2}(h:p=q) (k j:Option ρ):(bif !(decide ((p.1:Int)=(q.1:Int))&&(decide ((p.2:Int)=(q.2:Int))&&true)) then k else j)=j:=by rw [pairEq,decide_eq_true h];rfl
theorem goPe2n {ρ:Type}{p q:P2}(h:¬p=q) (k j:Option ρ):(bif !(decide ((p.1:Int)=(q.1:Int))&&(decide ((p.2:Int)=(q.2:Int))&&true)) then k else j)=k:=by rw [pairEq,decide_eq_false h];rfl
theorem loop135i (l:List P2) (hl:l.length≤4000000) (k0:Nat) (hk0:0<k0):∀(d k2 k:Nat) (A:List P2),k0+k2+d=l.length→0<k2→k<k0+k2→A.length=l.length→A.take k=cmpP (l.take (k0+k2))→k=(cmpP (l.take (k0+k2))).length →
  (∀j,k0+k2-1≤j→A[j]?=l[j]?) →
  ∃A':List P2,E cx (Key.loop 135 [true,true,false,true,false,false,true,false,false,true,false,true,false,true,false]) [vi k,vi k2,.arr 0 2 0 l.length,.arr 0 2 k0 (l.length-k0)] [⟨.arr,80,2,2,prs A⟩] =
   some (Out.jump (.exit 2) [vi (cmpP l).length,vi (l.length-k0:Nat)],[⟨.arr,80,2,2,prs A'⟩])∧A'.length=l.length∧A'.take (cmpP l).length=cmpP l
 | 0,k2,k,A,hd,h2,hk,hA,ht,hkl,hj=>by
  have hfull:l.take (k0+k2)=l:=List.take_of_length_le (by omega)
  rw [hfull] at ht hkl
  refine⟨A,(f135_l0_l1 _ _ _ _ _ _).trans ((goDn (by omega) _ _).trans ?_),hA,by rw [←hkl];exact ht⟩
  rw [hkl,show k2=l.length-k0 by omega]
 |d+1,k2,k,A,hd,h2,hk,hA,ht,hkl,hj=>by
  have hm:k0+k2<l.length:=by omega
  have g1:A[k0+k2]?=some l[k0+k2]:=by rw [hj _ (by omega)];exact η hm
  have g2:A[k0+(k2-1)]?=some l[k0+k2-1]:=by rw [hj _ (by omega),show k0+(k2-1)=k0+k2-1 by omega];exact η (by omega)
  have wp:ω .i64 (Int.sub (k2:Int) 1)=((k2-1:Nat):Int):=(wr_sub (b:=1) (by omega) (by omega)).trans (by omega)
  have hct:=cmpP_take (l:=l) (m:=k0+k2) (by omega) hm
  refine ?_
  have start:∀ {R},(bif decide (l[k0+k2]≠l[k0+k2-1]) then E cx (Key.loop 135 [true,true,false,true,false,false,true,false,false,true,false,true,false,true,false]) [vi (k+1:Nat),vi (k2+1:Nat),.arr 0 2 0 l.length,.arr 0 2 k0 (l.length-k0)] [⟨.arr,80,2,2,prs (A.set k l[k0+k2])⟩] else
    E cx (Key.loop 135 [true,true,false,true,false,false,true,false,false,true,false,true,false,true,false]) [vi k,vi (k2+1:Nat),.arr 0 2 0 l.length,.arr 0 2 k0 (l.length-k0)] [⟨.arr,80,2,2,prs A⟩])=R →
    E cx (Key.loop 135 [true,true,false,true,false,false,true,false,false,true,false,true,false,true,false]) [vi k,vi k2,.arr 0 2 0 l.length,.arr 0 2 k0 (l.length-k0)] [⟨.arr,80,2,2,prs A⟩]=R:=fun {R} h=>by
   refine(f135_l0_l1 _ _ _ _ _ _).trans ((goD (by omega) _ _).trans ((goY (by omega) _ _).trans ((goY (by omega) _ _).trans ((go1P (n:=k2) (o:=k0) rfl g1 _).trans ?_))))
   rw [wp]
   refine(goY (by omega) _ _).trans ((goY (by omega) _ _).trans ((go1P (n:=k2-1) (o:=k0) rfl g2 _).trans ?_))
   by_cases hne:l[k0+k2]=l[k0+k2-1]
   ·refine(goPe2 hne _ _).trans ?_
    rw [wS (by omega)]
    exact(goDn (p:=l[k0+k2]≠l[k0+k2-1]) (fun h=>h hne) _ _).symm.trans h
   ·refine(goPe2n hne _ _).trans ((goY (by omega) _ _).trans ((goY (by omega) _ _).trans ((go1P (n:=k2) (o:=k0) rfl g1 _).trans ((goY (by omega) _ _).trans ((goY (by omega) _ _).trans ?_)))))
    have hkA:A[0+k]?=some A[k]:=by rw [Nat.zero_add];exact η (by omega)
    refine(go1P (n:=k) (o:=0) rfl hkA _).trans ?_
    rw [wS (by omega),wS (by omega)]
    have hset:List.set (prs A) (Nat.add 0 (τ (k:Int))) [vu (l[k0+k2].1:Int),vu (l[k0+k2].2:Int)]=prs (A.set k l[k0+k2]):=by
     rw [Int.toNat_natCast,show Nat.add 0 k=k from Nat.zero_add k]
     simp [prs,encP,List.map_set]
    rw [hset]
    exact(goD (p:=l[k0+k2]≠l[k0+k2-1]) hne _ _).symm.trans h
  by_cases hne:l[k0+k2]=l[k0+k2-1]
  ·have hct':cmpP (l.take (k0+(k2+1)))=cmpP (l.take (k0+k2)):=by
    rw [show k0+(k2+1)=k0+k2+1 by omega,hct,if_pos hne.symm]
   obtain⟨A',q1,q2,q3⟩:=loop135i l hl k0 hk0 d (k2+1) k A (by omega) (by omega) (by omega) hA (by rw [hct'];exact ht) (by rw [hct'];exact hkl) (fun j hjj=>hj j (by omega))
   exact⟨A',start ((goDn (p:=l[k0+k2]≠l[k0+k2-1]) (fun h=>h hne) _ _).trans q1),q2,q3⟩
  ·have hct':cmpP (l.take (k0+(k2+1)))=cmpP (l.take (k0+k2))++[l[k0+k2]]:=by
    rw [show k0+(k2+1)=k0+k2+1 by omega,hct,if_neg (fun h=>hne h.symm)]
   obtain⟨A',q1,q2,q3⟩:=loop135i l hl k0 hk0 d (k2+1) (k+1) (A.set k l[k0+k2]) (by omega) (by omega) (by omega) (by simp;exact hA) (by
    rw [hct',←ht,List.take_add_one,List.getElem?_set_self (by omega)]
    rw [List.take_set_of_le (Nat.le_refl _)]
    rfl) (by rw [hct',List.length_append,←hkl];rfl) (fun j hjj=>by rw [List.getElem?_set_ne (by omega)];exact hj j (by omega))
   exact⟨A',start ((goD (p:=l[k0+k2]≠l[k0+k2-1]) hne _ _).trans q1),q2,q3⟩
theorem loop135 (l:List P2) (hl:l.length≤4000000):∀(d i:Nat),i+d=l.length→0<i→cmpP (l.take i)=l.take i →
  (cmpP l=l∧E cx (Key.loop 135 [true,true,false,true,false]) [.val (.slice none 0 0),vi i,.arr 0 2 0 l.length] [⟨.arr,80,2,2,prs l⟩]=some (Out.jump (.exit 0) [.val (.slice none 0 0),vi l.length],[⟨.arr,80,2,2,prs l⟩])) ∨
  (∃(k:Int) (es:List (List AV)),es.take (cmpP l).length=prs (cmpP l)∧es.length=l.length∧E cx (Key.loop 135 [true,true,false,true,false]) [.val (.slice none 0 0),vi i,.arr 0 2 0 l.length] [⟨.arr,80,2,2,prs l⟩]=some (Out.jump .ret [.arr 0 2 0 (cmpP l).length,vi k],[⟨.arr,80,2,2,es⟩]))
 | 0,i,hd,h0,ht=>by
  have hfull:l.take i=l:=List.take_of_length_le (by omega)
  rw [hfull] at ht
  exact .inl ⟨ht,(f135_l0 _ _ _).trans ((goDn (by omega) _ _).trans (by rw [show i=l.length by omega]))⟩
 |d+1,i,hd,h0,ht=>by
  have hm:i<l.length:=by omega
  have g1:l[i]?=some l[i]:=η hm
  have g2:l[i-1]?=some l[i-1]:=η (by omega)
  have wp:ω .i64 (Int.sub (i:Int) 1)=((i-1:Nat):Int):=(wr_sub (b:=1) (by omega) (by omega)).trans (by omega)
  have hct:=cmpP_take (l:=l) (m:=i) h0 hm
  have hcl:=cmpP_le l
  by_cases he:l[i]=l[i-1]
  ·right
   have htk:(l.take i).length=i:=by rw [List.length_take];omega
   have hct':cmpP (l.take (i+1))=l.take i:=by rw [hct,if_pos he.symm,ht]
   obtain⟨A',q1,q2,q3⟩:=loop135i l hl i h0 d 1 i l (by omega) (by omega) (by omega) rfl hct'.symm (by rw [hct',htk]) (fun j hj=>rfl)
   have hlA:(prs A').length=l.length:=by rw [prs_len,q2]
   refine⟨((cmpP l).length:Int),(prs A').take (Nat.add 0 (cmpP l).length)++List.replicate (Nat.sub l.length (cmpP l).length) [vu 0,vu 0]++(prs A').drop (Nat.add (Nat.add 0 (cmpP l).length) (Nat.sub l.length (cmpP l).length)),?_,?_,?_⟩
   ·rw [show Nat.add 0 (cmpP l).length=(cmpP l).length from Nat.zero_add _,List.append_assoc,List.take_append_of_le_length (by rw [List.length_take];omega),List.take_take,Nat.min_self,prs_take,q3]
   ·simp only [List.length_append,List.length_take,List.length_replicate,List.length_drop]
    rw [hlA]
    show min (0+(cmpP l).length) l.length+(l.length-(cmpP l).length)+(l.length-(0+(cmpP l).length+(l.length-(cmpP l).length)))=l.length
    omega
   ·refine(f135_l0 _ _ _).trans ((goD (by omega) _ _).trans ((goY (by omega) _ _).trans ((goY (by omega) _ _).trans ((go1P (n:=i) (o:=0) rfl (by rw [Nat.zero_add];exact g1) _).trans ?_))))
    rw [wp]
    refine(goY (by omega) _ _).trans ((goY (by omega) _ _).trans ((go1P (n:=i-1) (o:=0) rfl (by rw [Nat.zero_add];exact g2) _).trans ?_))
    refine(goPd he _ _).trans ((goY (by omega) _ _).trans ((goY (by omega) _ _).trans ?_))
    rw [Int.toNat_natCast]
    show(Ω (E cx (Key.loop 135 [true,true,false,true,false,false,true,false,false,true,false,true,false,true,false]) [vi i,vi ((1:Nat):Int),.arr 0 2 0 l.length,.arr 0 2 (0+i) (l.length-i)] [⟨.arr,80,2,2,prs l⟩]) _)=_
    rw [Nat.zero_add,q1]
    simp only [Option.bind_some,asJump,JX.is,Nat.beq_refl,cond_true,uncons?,nil?,AV.int?,chk,obIs,if_true,and_self]
    rw [Int.toNat_natCast]
    refine(goY (by omega) _ _).trans ((goY (by omega) _ _).trans ?_)
    refine(goLe (by rw [hlA];show 0+(cmpP l).length+(l.length-(cmpP l).length)≤_;omega) _).trans ?_
    refine(goY (by omega) _ _).trans ((goY (by omega) _ _).trans ?_)
    rfl
  ·have hct':cmpP (l.take (i+1))=l.take (i+1):=by
    rw [hct,if_neg (fun h=>he h.symm),ht,List.take_add_one,g1]
    rfl
   have nx:∀ {R},E cx (Key.loop 135 [true,true,false,true,false]) [.val (.slice none 0 0),vi (i+1:Nat),.arr 0 2 0 l.length] [⟨.arr,80,2,2,prs l⟩]=R→E cx (Key.loop 135 [true,true,false,true,false]) [.val (.slice none 0 0),vi i,.arr 0 2 0 l.length] [⟨.arr,80,2,2,prs l⟩]=R:=fun {R} h=>by
    refine(f135_l0 _ _ _).trans ((goD (by omega) _ _).trans ((goY (by omega) _ _).trans ((goY (by omega) _ _).trans ((go1P (n:=i) (o:=0) rfl (by rw [Nat.zero_add];exact g1) _).trans ?_))))
    rw [wp]
    refine(goY (by omega) _ _).trans ((goY (by omega) _ _).trans ((go1P (n:=i-1) (o:=0) rfl (by rw [Nat.zero_add];exact g2) _).trans ?_))
    refine(goPdn he _ _).trans ?_
    rw [wS (by omega)]
    exact h
   rcases loop135 l hl d (i+1) (by omega) (by omega) hct' with⟨q1,q2⟩ |⟨k,es,q1,q2,q3⟩
   ·exact .inl ⟨q1,nx q2⟩
   ·exact .inr ⟨k,es,q1,q2,nx q3⟩
theorem c135 (l:List P2) (hl:l.length≤4000000):∃es:List (List AV),es.take (cmpP l).length=prs (cmpP l)∧es.length=l.length∧E cx (Key.own 135) [.arr 0 2 0 l.length] [⟨.arr,80,2,2,prs l⟩]=some (Out.ret (.arr 0 2 0 (cmpP l).length),[⟨.arr,80,2,2,es⟩]):=by
 by_cases h2:l.length<2
 ·have hc:cmpP l=l:=by
   match l,h2 with
   | [],_=>rfl
   | [x],_=>rfl
   |x::y::r,h=>simp at h;omega
  refine⟨prs l,?_,prs_len l,(f135 _ _).trans ((goD (by omega) _ _).trans (by rw [hc]))⟩
  rw [hc,List.take_of_length_le (by rw [prs_len];exact Nat.le_refl _)]
 ·have h1:cmpP (l.take 1)=l.take 1:=by
   match l with
   | []=>rfl
   | [x]=>rfl
   |x::y::r=>rfl
  have key:=loop135 l hl (l.length-1) 1 (by omega) (by omega) h1
  have start:∀ {R},_=R→E cx (Key.own 135) [.arr 0 2 0 l.length] [⟨.arr,80,2,2,prs l⟩]=R:=fun {R} h=>(f135 _ _).trans ((goDn (by omega) _ _).trans h)
  rcases key with⟨q1,q2⟩ |⟨k,es,q1,q2,q3⟩
  ·refine⟨prs l,?_,prs_len l,start ?_⟩
   ·rw [q1,List.take_of_length_le (by rw [prs_len];exact Nat.le_refl _)]
   ·show(Ω (E cx (Key.loop 135 [true,true,false,true,false]) [.val (.slice none 0 0),vi ((1:Nat):Int),.arr 0 2 0 l.length] [⟨.arr,80,2,2,prs l⟩]) _)=_
    rw [q2,q1]
    rfl
  ·refine⟨es,q1,q2,start ?_⟩
   show(Ω (E cx (Key.loop 135 [true,true,false,true,false]) [.val (.slice none 0 0),vi ((1:Nat):Int),.arr 0 2 0 l.length] [⟨.arr,80,2,2,prs l⟩]) _)=_
   rw [q3]
   rfl
end Go.Proofs.Av
/-The oracle's functions,and the document's:Add,Table,Keys,Sign. -/
set_option maxRecDepth 100000
namespace Go.Proofs.Av
open Go
open Option renaming bind→Ω
open Go.IntKind renaming wrap→ω
open List renaming getElem?_eq_getElem→η
open Int renaming toNat→τ
theorem atW_spec (p:P2) (l:List P2) (hl:PW l):∀n,n≤l.length→(∀i (h:i<l.length),i<atW p l n→leP l[i] p=true)∧∀i (h:i<l.length),atW p l n≤i→i<n→leP p l[i]=true
 | 0,_=>⟨fun i h hi=>by simp [atW] at hi,fun i h _ hi=>by omega⟩
 |n+1,hn=>by
  have g:l[n]?=some l[n]:=η (by omega)
  unfold atW
  rw [g]
  simp only
  cases h:ltP l[n] p with
  |true =>
   simp only [if_true]
   refine⟨fun i hi hin=> ?_,fun i hi h1 h2=>by omega⟩
   have h1:leP l[n] p=true:=(leP_iff _ _).2 (by have:=(ltP_def _ _).1 h;omega)
   by_cases e:i=n
   ·subst e;exact h1
   ·exact leP_trans _ _ _ (List.pairwise_iff_getElem.1 hl i n hi (by omega) (by omega)) h1
  |false =>
   simp only [Bool.false_eq_true,if_false]
   obtain⟨g1,g2⟩:=atW_spec p l hl n (by omega)
   refine⟨g1,fun i hi h1 h2=> ?_⟩
   by_cases e:i=n
   ·subst e
    have:leP l[i] p=true→p=l[i]:=fun h3=>by
     rcases(leP_iff _ _).1 h3 with h4 |h4
     ·exact absurd ((ltP_def _ _).2 (.inl h4)) (by rw [h];simp)
     ·rcases Nat.lt_or_ge l[i].2 p.2 with h5 |h5
      ·exact absurd ((ltP_def _ _).2 (.inr ⟨h4.1,h5⟩)) (by rw [h];simp)
      ·exact Prod.ext h4.1.symm (by omega)
    cases h6:leP l[i] p with
    |false=>exact leP_not h6
    |true =>
     rw [←this h6]
     exact(leP_iff _ _).2 (.inr ⟨rfl,Nat.le_refl _⟩)
   ·exact g2 i hi h1 (by omega)
theorem insW_perm (p:P2) (l:List P2):(insW p l).Perm (p::l):=by
 unfold insW
 refine List.perm_middle.trans ?_
 rw [List.take_append_drop]
theorem insW_pw (p:P2) (l:List P2) (hl:PW l):PW (insW p l):=by
 obtain⟨g1,g2⟩:=atW_spec p l hl l.length (Nat.le_refl _)
 have hk:=atW_le p l l.length
 unfold insW
 refine List.pairwise_append.2 ⟨hl.sublist (List.take_sublist _ _),List.pairwise_cons.2 ⟨fun q hq=> ?_,hl.sublist (List.drop_sublist _ _)⟩,fun a ha b hb=> ?_⟩
 ·obtain⟨i,hi,rfl⟩:=List.mem_iff_getElem.1 hq
  rw [List.length_drop] at hi
  rw [List.getElem_drop]
  exact g2 _ (by omega) (by omega) (by omega)
 ·obtain⟨i,hi,rfl⟩:=List.mem_iff_getElem.1 ha
  rw [List.length_take] at hi
  rw [List.getElem_take]
  have h1:=g1 i (by omega) (by omega)
  rcases List.mem_cons.1 hb with rfl |hb
  ·exact h1
  ·obtain⟨j,hj,rfl⟩:=List.mem_iff_getElem.1 hb
   rw [List.length_drop] at hj
   rw [List.getElem_drop]
   exact leP_trans _ _ _ h1 (g2 _ (by omega) (by omega) (by omega))
theorem sw_pw {l:List P2}(h:SW l):PW l:=h.imp fun {a b} h=>(leP_iff _ _).2 (by have:=(ltP_def _ _).1 h;omega)
theorem sw_nodup {l:List P2}(h:SW l):l.Nodup:=h.imp fun {a b} h e=>by rw [e,ltP_irr] at h;cases h
theorem pw_sw {l:List P2}(h:PW l) (hn:l.Nodup):SW l:=by
 refine List.Pairwise.imp₂ ?_ h hn
 intro a b h1 h2
 cases h3:ltP a b with
 |true=>rfl
 |false=>exact absurd (leP_anti _ _ h1 ((leP_iff _ _).2 (by have:=(ltP_def _ _).1 (ltP_tri h3 h2);omega))) h2
theorem sw_ext:∀ {a b:List P2},SW a→SW b→(∀x,x∈a↔x∈b)→a=b
 | [],[],_,_,_=>rfl
 | [],y::b,_,_,h=>absurd ((h y).2 (List.mem_cons_self ..)) (by simp)
 |x::a,[],_,_,h=>absurd ((h x).1 (List.mem_cons_self ..)) (by simp)
 |x::a,y::b,ha,hb,h=>by
  obtain⟨h1,h2⟩:=List.pairwise_cons.1 ha
  obtain⟨h3,h4⟩:=List.pairwise_cons.1 hb
  have e:x=y:=by
   rcases List.mem_cons.1 ((h x).1 (List.mem_cons_self ..)) with e |e
   ·exact e
   ·rcases List.mem_cons.1 ((h y).2 (List.mem_cons_self ..)) with e2 |e2
    ·exact e2.symm
    ·have:=ltP_trans (h3 x e) (h1 y e2)
     rw [ltP_irr] at this
     cases this
  subst e
  congr 1
  refine sw_ext h2 h4 fun z=>⟨fun hz=> ?_,fun hz=> ?_⟩
  ·rcases List.mem_cons.1 ((h z).1 (List.mem_cons_of_mem _ hz)) with e |e
   ·subst e
    have:=h1 z hz
    rw [ltP_irr] at this
    cases this
   ·exact e
  ·rcases List.mem_cons.1 ((h z).2 (List.mem_cons_of_mem _ hz)) with e |e
   ·subst e
    have:=h3 z hz
    rw [ltP_irr] at this
    cases this
   ·exact e
def uni (t:List P2):List P2→List P2
 | []=>t
 |p::r=>if p∈t then uni t r else uni (insW p t) r
theorem uni_mem:∀ {l t:List P2}{x:P2},x∈uni t l↔x∈t∨x∈l
 | [],t,x=>by simp [uni]
 |p::r,t,x=>by
  unfold uni
  by_cases h:p∈t
  ·rw [if_pos h,uni_mem,List.mem_cons]
   constructor
   ·rintro(h1 |h1)<;>simp [h1]
   ·rintro(h1 |rfl |h1)<;>simp [*]
  ·rw [if_neg h,uni_mem,(insW_perm p t).mem_iff,List.mem_cons,List.mem_cons]
   constructor
   ·rintro((h1 |h1) |h1)<;>simp [h1]
   ·rintro(h1 |h1 |h1)<;>simp [h1]
theorem insW_sw {p:P2}{t:List P2}(h:SW t) (hp:p ∉ t):SW (insW p t) :=
 pw_sw (insW_pw p t (sw_pw h)) ((insW_perm p t).nodup_iff.2 (List.nodup_cons.2 ⟨hp,sw_nodup h⟩))
theorem uni_sw:∀ {l t:List P2},SW t→SW (uni t l)
 | [],t,h=>h
 |p::r,t,h=>by
  unfold uni
  by_cases hp:p∈t
  ·rw [if_pos hp];exact uni_sw h
  ·rw [if_neg hp];exact uni_sw (insW_sw h hp)
theorem uni_len:∀(l t:List P2),(uni t l).length≤t.length+l.length
 | [],t=>Nat.le_refl _
 |p::r,t=>by
  unfold uni
  split
  ·have:=uni_len r t;simp;omega
  ·have:=uni_len r (insW p t);rw [insW_len] at this;simp;omega
theorem len_uni:∀(l t:List P2),t.length≤(uni t l).length
 | [],t=>Nat.le_refl _
 |p::r,t=>by
  unfold uni
  split
  ·exact len_uni r t
  ·have:=len_uni r (insW p t);rw [insW_len] at this;omega
theorem cmpP_sw:∀ {l:List P2},PW l→SW (cmpP l)
 | [],_ => .nil
 | [x],_ => .cons (fun _ h=>by cases h) .nil
 |x::y::r,h=>by
  obtain⟨h1,h2⟩:=List.pairwise_cons.1 h
  unfold cmpP
  split
  ·exact cmpP_sw h2
  ·rename_i hne
   refine List.pairwise_cons.2 ⟨fun z hz=> ?_,cmpP_sw h2⟩
   have hz':=cmpP_mem.1 hz
   have hxy:=h1 y (List.mem_cons_self ..)
   have hyz:leP y z=true:=by
    rcases List.mem_cons.1 hz' with rfl |hz'
    ·exact(leP_iff _ _).2 (.inr ⟨rfl,Nat.le_refl _⟩)
    ·exact(List.pairwise_cons.1 h2).1 z hz'
   cases hc:ltP x z with
   |true=>rfl
   |false =>
    exfalso
    by_cases e:x=z
    ·subst e
     exact hne (leP_anti _ _ hxy hyz)
    ·have h5:=(ltP_def _ _).1 (ltP_tri hc e)
     have h6:=(leP_iff _ _).1 (leP_trans _ _ _ hxy hyz)
     omega
theorem uni_eq {t l:List P2}(h:SW t):cmpP (sorted (t++l))=uni t l:=by
 refine sw_ext (cmpP_sw (sorted_pw _)) (uni_sw h) fun x=> ?_
 rw [cmpP_mem,(sorted_perm _).mem_iff,List.mem_append,uni_mem]
def RP (x:Option (Out×Heap)) (r:List P2×Int):Prop:=∃a,x=some (Out.ret (.tuple [a,vi r.2]),[])∧a.list? 2=some (prs r.1)
noncomputable def addR (t l:List P2):List P2×Int:=if tabR t then(if(uni t l).length≤4096 then(uni t l,0) else([],4)) else([],1)
theorem view_prs {l:List P2}:List.drop 0 (List.take (Nat.add 0 (Nat.add 0 l.length)) ([]++prs l))=prs l:=by
 rw [List.nil_append,show Nat.add 0 (Nat.add 0 l.length)=l.length by show 0+(0+l.length)=_;omega,List.take_of_length_le (by rw [prs_len];exact Nat.le_refl _)]
 rfl
theorem goL {ρ:Type}{x:Option (Out×Heap)}{es:List (List AV)}(h:x=some (Out.ret (.list 0 2 es),[])) (k:List (List AV)→Option ρ):(x.bind fun r=>(ret1 r).bind fun v=>(AV.list? 2 v).bind fun es=>k es)=k es:=by rw [h];rfl
theorem loop82 (l:List P2) (hl:l.length≤100000):∀(rest:List P2) (i:Nat) (o:List P2),l.drop i=rest→i+rest.length=l.length→o.length+rest.length≤200000→∃y,E cx (.loop 82 [true,true,true,true,false,true,false]) [.list 0 2 (prs o),vi i,.list 0 2 (prs l)] [⟨.dead,80,2,2,[]⟩]=some (Out.jump (.exit 0) [.list 0 2 (prs (uni o rest)),vi y],[⟨.dead,80,2,2,[]⟩]):=by
 intro rest
 induction rest with
 |nil =>
  intro i o hd hi ho
  exact⟨i,(f82_l0 _ _ _).trans (goDn (by rw [prs_len];simp at hi;omega) _ _)⟩
 |cons p r ih =>
  intro i o hd hi ho
  obtain⟨g,hd2,hlt⟩:=drop_cons' hd
  simp only [List.length_cons] at hi ho
  have st:=(f82_l0 (prs o) (i:Int) (prs l)).trans ((goD (show(i:Int)<((prs l).length:Int) by rw [prs_len];omega) _ _).trans ((goY (show(0:Int)≤(i:Int) by omega) _ _).trans ((goPr (n:=i) rfl g _).trans (goB (c136 o p (by omega)) _))))
  rw [wS (by omega)] at st
  unfold uni
  by_cases hp:p∈o
  ·rw [decide_eq_true hp] at st
   rw [if_pos hp,st]
   exact ih (i+1) o hd2 (by omega) (by omega)
  ·rw [decide_eq_false hp,cond_false] at st
   rw [if_neg hp,st]
   obtain⟨y,hy⟩:=ih (i+1) (insW p o) hd2 (by omega) (by rw [insW_len];omega)
   refine⟨y,?_⟩
   exact(goY (show(0:Int)≤(i:Int) by omega) _ _).trans ((goPr (n:=i) rfl g _).trans ((goL (c137 o p (by omega)) _).trans hy))
theorem c82 (t l:List P2) (ht:t.length≤100000) (hl:l.length≤100000):RP (E cx (Key.fn 82) [.list 0 2 (prs t),.list 0 2 (prs l)] []) (addR t l):=by
 have st:=f82 (prs t) (prs l)
 unfold addR
 cases h:tabR t with
 |false=>exact⟨_,st.trans (goF ((c84 t (by omega)).trans (by rw [h])) _ _),rfl⟩
 |true =>
  have st:=st.trans (goT ((c84 t (by omega)).trans (by rw [h])) _ _)
  rw [ysOk_prs] at st
  simp only [prs_len] at st
  rw [view_prs] at st
  obtain⟨y,hy⟩:=loop82 l hl l 0 t rfl (by omega) (by omega)
  have hll:=uni_len l t
  have st:=st.trans ((goY (show Nat.mul (Nat.add 0 t.length) 16≤140737488355328 by show(0+t.length)*16≤_;omega) _ _).trans ((goLe (show Nat.add 0 (Nat.add 0 t.length)≤([]++prs t).length by simp [prs]) _)))
  rw [show(0:Int)=((0:Nat):Int) from rfl,hy] at st
  simp only [if_true]
  have fin:∀(Y:Option (Out×Heap)),(E cx (Key.fn 82) [.list 0 2 (prs t),.list 0 2 (prs l)] []=bif decide (((prs (uni t l)).length:Int)>4096) then some (Out.ret (.tuple [.val (.slice none 0 0),vi 4]),[]) else some (Out.ret (.tuple [.list 0 2 (prs (uni t l)),vi 0]),[])):=fun _=>st
  have fin:=fin none
  rw [prs_len] at fin
  by_cases h5:(uni t l).length≤4096
  ·rw [if_pos h5]
   exact⟨_,fin.trans (goDn (show ¬((uni t l).length:Int)>4096 by omega) _ _),rfl⟩
  ·rw [if_neg h5]
   exact⟨_,fin.trans (goD (show((uni t l).length:Int)>4096 by omega) _ _),rfl⟩
end Go.Proofs.Av
/-The oracle's functions,and the document's:Concat,Add,Table,Keys,Sign. -/
set_option maxRecDepth 100000
namespace Go.Proofs.Av
open Go
open Option renaming bind→Ω
open Go.IntKind renaming wrap→ω
open List renaming getElem?_eq_getElem→η
open Int renaming toNat→τ
theorem goLi {ρ:Type}{W:List (List AV)}{i:Int}{es:List (List AV)}(h:W[i.toNat]?=some [AV.list 0 2 es]) (k:List (List AV)→Option ρ):(W[i.toNat]?.bind fun cs=>(uncons? cs).bind fun p=>(AV.list? 2 p.fst).bind fun es=>(nil? p.snd).bind fun _=>k es)=k es:=by rw [h];rfl
theorem c133 (a b:List P2) (ha:a.length≤200000) (hb:b.length≤200000):E cx (Key.own 133) [.list 0 1 [[.list 0 2 (prs a)],[.list 0 2 (prs b)]]] []=some (Out.ret (.arr 0 2 0 (a.length+b.length)),[⟨.arr,80,2,2,prs (a++b)⟩]):=by
 have s1:∀n:Nat,n≤1000000→∀l:List P2,l.length≤1000000→ω .i64 (Int.add (n:Int) ((prs l).length:Int))=((n+l.length:Nat):Int):=fun n hn l hl=>by
  rw [prs_len]
  exact(wr_add (by omega) (by omega)).trans (by omega)
 have e2:E cx (Key.loop 133 [true,true,false,true,false]) [vi ((a.length+b.length:Nat):Int),vi ((2:Nat):Int),.list 0 1 [[.list 0 2 (prs a)],[.list 0 2 (prs b)]],.list 0 1 [[.list 0 2 (prs a)],[.list 0 2 (prs b)]],vi 2] []=some (Out.jump (.exit 0) [vi ((a.length+b.length:Nat):Int),vi 2],[]) :=
  (f81_c0_l1 _ _ _ _ _).trans (goDn (by decide) _ _)
 have e1:E cx (Key.loop 133 [true,true,false,true,false]) [vi ((a.length:Nat):Int),vi ((1:Nat):Int),.list 0 1 [[.list 0 2 (prs a)],[.list 0 2 (prs b)]],.list 0 1 [[.list 0 2 (prs a)],[.list 0 2 (prs b)]],vi 2] []=some (Out.jump (.exit 0) [vi ((a.length+b.length:Nat):Int),vi 2],[]):=by
  refine(f81_c0_l1 _ _ _ _ _).trans ((goD (by decide) _ _).trans ((goY (by decide) _ _).trans ?_))
  refine(goLi (es:=prs b) rfl _).trans ?_
  rw [s1 _ (by omega) _ (by omega),wS (by omega)]
  exact(goDn (by omega) _ _).trans e2
 have e0:E cx (Key.loop 133 [true,true,false,true,false]) [vi 0,vi ((0:Nat):Int),.list 0 1 [[.list 0 2 (prs a)],[.list 0 2 (prs b)]],.list 0 1 [[.list 0 2 (prs a)],[.list 0 2 (prs b)]],vi 2] []=some (Out.jump (.exit 0) [vi ((a.length+b.length:Nat):Int),vi 2],[]):=by
  refine(f81_c0_l1 _ _ _ _ _).trans ((goD (by decide) _ _).trans ((goY (by decide) _ _).trans ?_))
  refine(goLi (es:=prs a) rfl _).trans ?_
  rw [show(0:Int)=((0:Nat):Int) from rfl,s1 _ (by omega) _ (by omega),wS (by omega),Nat.zero_add]
  exact(goDn (by omega) _ _).trans e1
 have z2:E cx (Key.loop 133 [true,true,true,true,false,true,false]) [.arr 0 2 0 (a.length+b.length),vi ((2:Nat):Int),.list 0 1 [[.list 0 2 (prs a)],[.list 0 2 (prs b)]],vi 2] [⟨.arr,80,2,2,prs (a++b)⟩]=some (Out.jump (.exit 2) [.arr 0 2 0 (a.length+b.length),vi 2],[⟨.arr,80,2,2,prs (a++b)⟩]) :=
  (f81_c0_l2 _ _ _ _ _).trans (goDn (by decide) _ _)
 have z1:E cx (Key.loop 133 [true,true,true,true,false,true,false]) [.arr 0 2 0 a.length,vi ((1:Nat):Int),.list 0 1 [[.list 0 2 (prs a)],[.list 0 2 (prs b)]],vi 2] [⟨.arr,80,2,2,prs a⟩]=some (Out.jump (.exit 2) [.arr 0 2 0 (a.length+b.length),vi 2],[⟨.arr,80,2,2,prs (a++b)⟩]):=by
  refine(f81_c0_l2 _ _ _ _ _).trans ((goD (by decide) _ _).trans ((goY (by decide) _ _).trans ?_))
  refine(goLi (es:=prs b) rfl _).trans ?_
  rw [ysOk_prs]
  refine(goCk (show a.length=(prs a).length from(prs_len a).symm) _).trans ((goY (show Nat.mul (Nat.add (prs a).length (prs b).length) 16≤140737488355328 by rw [prs_len,prs_len];show(a.length+b.length)*16≤_;omega) _ _).trans ?_)
  rw [wS (by omega)]
  show E cx (Key.loop 133 [true,true,true,true,false,true,false]) [.arr 0 2 0 ((prs a).length+(prs b).length),vi ((2:Nat):Int),.list 0 1 [[.list 0 2 (prs a)],[.list 0 2 (prs b)]],vi 2] [⟨.arr,80,2,2,prs a++prs b⟩]=_
  rw [prs_len,prs_len,prs_app']
  exact z2
 have z0:E cx (Key.loop 133 [true,true,true,true,false,true,false]) [.arr 0 2 0 0,vi ((0:Nat):Int),.list 0 1 [[.list 0 2 (prs a)],[.list 0 2 (prs b)]],vi 2] [⟨.arr,80,2,2,[]⟩]=some (Out.jump (.exit 2) [.arr 0 2 0 (a.length+b.length),vi 2],[⟨.arr,80,2,2,prs (a++b)⟩]):=by
  refine(f81_c0_l2 _ _ _ _ _).trans ((goD (by decide) _ _).trans ((goY (by decide) _ _).trans ?_))
  refine(goLi (es:=prs a) rfl _).trans ?_
  rw [ysOk_prs]
  refine(goCk (show 0=([]:List (List AV)).length from rfl) _).trans ((goY (show Nat.mul (Nat.add ([]:List (List AV)).length (prs a).length) 16≤140737488355328 by rw [prs_len];show(0+a.length)*16≤_;omega) _ _).trans ?_)
  rw [wS (by omega)]
  show E cx (Key.loop 133 [true,true,true,true,false,true,false]) [.arr 0 2 0 (0+(prs a).length),vi ((1:Nat):Int),.list 0 1 [[.list 0 2 (prs a)],[.list 0 2 (prs b)]],vi 2] [⟨.arr,80,2,2,prs a⟩]=_
  rw [prs_len,Nat.zero_add]
  exact z1
 refine(f81_c0 _).trans ?_
 show(Ω (E cx (Key.loop 133 [true,true,false,true,false]) [vi 0,vi ((0:Nat):Int),.list 0 1 [[.list 0 2 (prs a)],[.list 0 2 (prs b)]],.list 0 1 [[.list 0 2 (prs a)],[.list 0 2 (prs b)]],vi 2] []) _)=_
 rw [e0]
 show(Ω (growP [.val (.slice none 0 0),vi ((a.length+b.length:Nat):Int)]) _)=_
 have hg:growP [.val (.slice none 0 0),vi ((a.length+b.length:Nat):Int)]=some []:=by
  show(if(0:Int)≤((a.length+b.length:Nat):Int) then(if((a.length+b.length:Nat):Int)≤1000000000000 then some [] else none) else none)=_
  rw [if_pos (by omega),if_pos (by omega)]
 rw [hg]
 show(Ω (E cx (Key.loop 133 [true,true,true,true,false,true,false]) [.arr 0 2 0 0,vi ((0:Nat):Int),.list 0 1 [[.list 0 2 (prs a)],[.list 0 2 (prs b)]],vi 2] [⟨.arr,80,2,2,[]⟩]) _)=_
 rw [z0]
 rfl
theorem sortPo_prs (l:List P2):sortPP [.func (Fn.func 134) [] []] (prs l)=some (prs (sorted l)):=by
 have h1:sortP [.func (Fn.func 134) [] []] (prs l)=none:=by rfl
 unfold sortPP
 rw [h1]
 have h:=sortP_prs l
 unfold sortP sortZ at h
 unfold sortPo sortZ
 exact h
theorem goA2p {ρ:Type}{x:Option (Out×Heap)}{n:Nat}{R:List (List AV)}(h:x=some (Out.ret (.arr 0 2 0 n),[⟨.arr,80,2,2,R⟩])) (k:Nat×Nat×Nat→Ob×List Ob→Option ρ):(x.bind fun r=>(asRet r).bind fun q=>(AV.arr? 0 q.fst).bind fun z=>(chk z.fst 2).bind fun _=>(uncons? q.snd).bind fun p=>(obIs (Ob.mk OK.arr 80 2 2 []) p.fst).bind fun _=>(chk p.fst.ver 2).bind fun _=>(nil? p.snd).bind fun _=>k z p)=k (2,0,n) (⟨.arr,80,2,2,R⟩,[]):=by rw [h];rfl
theorem c81 (t l:List P2) (ht:t.length≤100000) (hl:l.length≤100000):RP (E cx (Key.fn 81) [.list 0 2 (prs t),.list 0 2 (prs l)] []) (addR t l):=by
 have st:=f81 (prs t) (prs l)
 unfold addR
 cases h:tabR t with
 |false=>exact⟨_,st.trans (goF ((c83 t (by omega)).trans (by rw [h])) _ _),rfl⟩
 |true =>
  have hsw:=((tabR_iff t).1 h).1
  have hu:=uni_eq (l:=l) hsw
  have st:=st.trans ((goT ((c83 t (by omega)).trans (by rw [h])) _ _).trans (goA2p (c133 t l (by omega) (by omega)) _))
  dsimp only at st
  have hln:(prs (t++l)).length=t.length+l.length:=by rw [prs_len,List.length_append]
  have e0:Nat.add 0 (t.length+l.length)=t.length+l.length:=Nat.zero_add _
  rw [e0,List.take_of_length_le (by omega),List.drop_zero] at st
  have st:=st.trans ((goLe (show t.length+l.length≤(prs (t++l)).length by omega) _).trans ((goY (show t.length+l.length≤4611686018427387903 by omega) _ _).trans (show Ω (sortPP [.func (Fn.func 134) [] []] (prs (t++l))) _=_ by rw [sortPo_prs])))
  have e1:List.take 0 (prs (t++l))++prs (sorted (t++l))++List.drop (t.length+l.length) (prs (t++l))=prs (sorted (t++l)):=by
   rw [List.drop_of_length_le (by omega)]
   simp
  rw [Option.bind_some,e1] at st
  have hsl:(sorted (t++l)).length=t.length+l.length:=by rw [(sorted_perm _).length_eq,List.length_append]
  obtain⟨es,q1,q2,q3⟩:=c135 (sorted (t++l)) (by omega)
  rw [hsl,hu] at q3
  rw [hu] at q1
  have st:=st.trans (goA2p q3 _)
  dsimp only at st
  have hcl:=cmpP_le (sorted (t++l))
  rw [hu] at hcl
  simp only [if_true]
  by_cases h5:(uni t l).length≤4096
  ·rw [if_pos h5]
   have e2:Nat.add 0 (uni t l).length=(uni t l).length:=Nat.zero_add _
   have st:=st.trans ((goDn (show ¬((uni t l).length:Int)>4096 by omega) _ _).trans (goLe (show Nat.add 0 (uni t l).length≤es.length by rw [e2];omega) _))
   rw [e2,q1] at st
   exact⟨_,st,rfl⟩
  ·rw [if_neg h5]
   exact⟨_,st.trans (goD (show((uni t l).length:Int)>4096 by omega) _ _),rfl⟩
end Go.Proofs.Av
/-The oracle's functions,and the document's:Table,Keys,Sign. -/
set_option maxRecDepth 100000
namespace Go.Proofs.Av
open Go
open Option renaming bind→Ω
open Go.IntKind renaming wrap→ω
open List renaming getElem?_eq_getElem→η
open Int renaming toNat→τ
theorem addR_ok {t l:List P2}(h:SW t) (hl:t.length+l.length≤4096):addR t l=(uni t l,0):=by
 have h1:=uni_len l t
 unfold addR
 rw [if_pos ((tabR_iff t).2 ⟨h,by omega⟩),if_pos (by omega)]
def tabL:List Int→List P2→List P2
 | [],o=>o
 |a::r,o=>tabL r (uni o [pairOf a])
def tabP (raw:List Int):List P2:=tabL (raw.take 60) []
theorem tabL_sw:∀(l:List Int) (o:List P2),SW o→SW (tabL l o)
 | [],o,h=>h
 |a::r,o,h=>tabL_sw r _ (uni_sw h)
theorem tabL_len:∀(l:List Int) (o:List P2),(tabL l o).length≤o.length+l.length
 | [],o=>Nat.le_refl _
 |a::r,o=>by
  have h1:=tabL_len r (uni o [pairOf a])
  have h2:=uni_len [pairOf a] o
  simp only [tabL,List.length_cons,List.length_nil] at *
  omega
theorem tabP_sw (raw:List Int):SW (tabP raw):=tabL_sw _ _ .nil
theorem tabP_len (raw:List Int):(tabP raw).length≤60:=by
 have h:=tabL_len (raw.take 60) []
 rw [List.length_take] at h
 simp only [List.length_nil] at h
 unfold tabP
 omega
theorem tabP_right (raw:List Int):tabR (tabP raw)=true:=(tabR_iff _).2 ⟨tabP_sw raw,by have:=tabP_len raw;omega⟩
theorem goRP {ρ:Type}{x:Option (Out×Heap)}{r:List P2×Int}(h:RP x r) (k:List (List AV)→Int→Option ρ):(x.bind fun r=>(ret1 r).bind fun v=>(AV.tup? v).bind fun vs=>(uncons? vs).bind fun p=>(AV.list? 2 p.fst).bind fun es=>(uncons? p.snd).bind fun q=>(AV.int? .i64 q.fst).bind fun n=>(nil? q.snd).bind fun _=>k es n)=k (prs r.1) r.2:=by
 obtain⟨a,h1,h2⟩:=h
 rw [h1]
 show(Ω (AV.list? 2 a) _)=_
 rw [h2]
 rfl
theorem get_int {raw:List Int}(hr:∀a∈raw,RI a) {i:Nat}{a:Int}(h:raw[i]?=some a):RI a:=hr a (List.mem_of_getElem? h)
theorem ri_div {a:Int}(h:RI a):RI (a.tdiv 16):=by
 have h1:(a.tdiv 16).natAbs=a.natAbs/16:=Int.natAbs_tdiv a 16
 unfold RI at *
 omega
theorem loop79 (raw:List Int) (hr:∀a∈raw,RI a):∀(rest:List Int) (i:Nat) (o:List P2),(raw.take 60).drop i=rest→i+rest.length=(raw.take 60).length→SW o→o.length≤i→∃y,E cx (.loop 79 [true,true,false,true,false]) [.list 0 2 (prs o),vi i,.list 0 1 (ints raw)] []=some (Out.jump (.exit 0) [.list 0 2 (prs (tabL rest o)),vi y],[]):=by
 intro rest
 induction rest with
 |nil =>
  intro i o hd hi hsw ho
  refine⟨i,(f79_l0 _ _ _).trans ?_⟩
  rw [List.length_take] at hi
  simp only [List.length_nil,List.length_map] at hi ⊢
  by_cases h1:i<raw.length
  ·exact(goD (show(i:Int)<(raw.length:Int) by omega) _ _).trans (goDn (show ¬(i:Int)<60 by omega) _ _)
  ·exact goDn (show ¬(i:Int)<(raw.length:Int) by omega) _ _
 |cons a r ih =>
  intro i o hd hi hsw ho
  obtain⟨g,hd2,hlt⟩:=drop_cons' hd
  rw [List.length_take] at hlt
  have g':raw[i]?=some a:=by rw [List.getElem?_take,if_pos (by omega)] at g;exact g
  have hra:=get_int hr g'
  have hlen:=uni_len [pairOf a] o
  simp only [List.length_cons,List.length_nil] at hi hlen
  have hil:i+1≤60:=by omega
  obtain⟨y,hy⟩:=ih (i+1) (uni o [pairOf a]) hd2 (by omega) (uni_sw hsw) (by omega)
  have c:=c82 o [pairOf a] (by omega) (by simp)
  rw [addR_ok hsw (by simp;omega)] at c
  refine⟨y,(f79_l0 _ _ _).trans ((goD (show(i:Int)<((ints raw).length:Int) by simp;omega) _ _).trans ((goD (show(i:Int)<60 by omega) _ _).trans ((goY (show(0:Int)≤(i:Int) by omega) _ _).trans ((go1 (n:=i) rfl g' _).trans ((goI (c94 hra (by omega)) _).trans ((goY (show(0:Int)≤(i:Int) by omega) _ _).trans ((go1 (n:=i) rfl g' _).trans ?_)))))))⟩
  have hdv:=ri_div hra
  rw [show ω .i64 (Int.tdiv a 16)=a.tdiv 16 from wr_id hdv.1 hdv.2]
  refine(goI (c94 hdv (by omega)) _).trans ?_
  rw [wu_pick (c:=a) (n:=12) (by omega) (by omega),wu_pick (c:=Int.tdiv a 16) (n:=3) (by omega) (by omega)]
  refine(goRP (show RP (E cx (.fn 82) [.list 0 2 (prs o),.list 0 2 [[vu ((pickI a 12).toNat:Int),vu ((pickI (Int.tdiv a 16) 3).toNat:Int)]]] []) (uni o [pairOf a],0) from c) _).trans ?_
  rw [wS (by omega)]
  exact hy
theorem c79 (raw:List Int) (hr:∀a∈raw,RI a):E cx (Key.fn 79) [.list 0 1 (ints raw)] []=some (Out.ret (.list 0 2 (prs (tabP raw))),[]):=by
 obtain⟨y,h⟩:=loop79 raw hr (raw.take 60) 0 [] rfl (by omega) .nil (Nat.le_refl _)
 refine(f79 _).trans ?_
 show(Ω (E cx (.loop 79 [true,true,false,true,false]) [.list 0 2 (prs []),vi ((0:Nat):Int),.list 0 1 (ints raw)] []) _)=_
 rw [h]
 rfl
def kyL:List Int→List Nat→List Nat
 | [],o=>o
 |a::r,o=>if(pickI a 12).toNat∈o then kyL r o else kyL r (o++[(pickI a 12).toNat])
def keyP (raw:List Int):List Nat:=kyL (raw.take 12) []
theorem kyL_spec:∀(l:List Int) (o:List Nat),o.Nodup→(∀k∈o,k<12)→(kyL l o).Nodup∧(∀k∈kyL l o,k<12)∧(kyL l o).length≤o.length+l.length
 | [],o,h1,h2=>⟨h1,h2,Nat.le_refl _⟩
 |a::r,o,h1,h2=>by
  have hp:=pickI_lt (c:=a) (n:=12) (by omega)
  unfold kyL
  split
  ·obtain⟨q1,q2,q3⟩:=kyL_spec r o h1 h2
   exact⟨q1,q2,by simp;omega⟩
  ·rename_i hn
   obtain⟨q1,q2,q3⟩:=kyL_spec r (o++[(pickI a 12).toNat]) (List.nodup_append.2 ⟨h1,by simp,by simp;exact fun x hx e=>hn (e▸hx)⟩) (fun k hk=>by
    rcases List.mem_append.1 hk with h |h
    ·exact h2 k h
    ·rw [List.mem_singleton] at h;omega)
   exact⟨q1,q2,by simp at q3 ⊢;omega⟩
theorem keyP_spec (raw:List Int):(keyP raw).Nodup∧(∀k∈keyP raw,k<12)∧(keyP raw).length≤12:=by
 obtain⟨h1,h2,h3⟩:=kyL_spec (raw.take 12) [] List.nodup_nil (fun k h=>by cases h)
 refine⟨h1,h2,?_⟩
 rw [List.length_take] at h3
 simp at h3
 unfold keyP
 omega
abbrev rowsT (l:List Bool):List (List AV):=l.map fun b=>[vbool b]
theorem goTt {ρ:Type}{l:List Bool}{i:Int}{n:Nat}{b:Bool}(hn:i=n) (h:l[n]?=some b) (k:Bool→Option ρ):((nth (rowsT l) (Nat.add 0 (τ i))).bind fun cs=>(uncons? cs).bind fun p=>(AV.bool? p.fst).bind fun s=>(nil? p.snd).bind fun _=>k s)=k b:=by
 subst hn
 have:nth (rowsT l) (Nat.add 0 (τ (n:Int)))=some [vbool b]:=by
  rw [nth_eq,Int.toNat_natCast,show Nat.add 0 n=n from Nat.zero_add n]
  simp [rowsT,h]
 rw [this]
 rfl
theorem loop80 (raw:List Int) (hr:∀a∈raw,RI a):∀(rest:List Int) (i:Nat) (o:List Nat) (hb:List Bool),(raw.take 12).drop i=rest→i+rest.length=(raw.take 12).length→hb.length=12→(∀k,k<12→hb[k]?=some (decide (k∈o)))→o.length≤i→∃y hb',E cx (.loop 80 [true,true,true,false,true,false]) [.arr 1 1 0 o.length,vi i,.list 0 1 (ints raw),.ptr 0 1 0 0] [⟨.arr,161,1,1,rowsT hb⟩,⟨.arr,26,1,1,rowsN o⟩]=some (Out.jump (.exit 0) [.arr 1 1 0 (kyL rest o).length,vi y],[⟨.arr,161,1,1,rowsT hb'⟩,⟨.arr,26,1,1,rowsN (kyL rest o)⟩]):=by
 intro rest
 induction rest with
 |nil =>
  intro i o hb hd hi hl hk ho
  refine⟨i,hb,(f80_l0 _ _ _ _ _).trans ?_⟩
  rw [List.length_take] at hi
  simp only [List.length_nil,List.length_map] at hi ⊢
  by_cases h1:i<raw.length
  ·exact(goD (show(i:Int)<(raw.length:Int) by omega) _ _).trans (goDn (show ¬(i:Int)<12 by omega) _ _)
  ·exact goDn (show ¬(i:Int)<(raw.length:Int) by omega) _ _
 |cons a r ih =>
  intro i o hb hd hi hl hk ho
  obtain⟨g,hd2,hlt⟩:=drop_cons' hd
  rw [List.length_take] at hlt
  have g':raw[i]?=some a:=by rw [List.getElem?_take,if_pos (by omega)] at g;exact g
  have hra:=get_int hr g'
  have hp:=pickI_lt (c:=a) (n:=12) (by omega)
  simp only [List.length_cons] at hi
  have e0:pickI a 12=(((pickI a 12).toNat:Nat):Int):=by omega
  have hbk:=hk (pickI a 12).toNat (by omega)
  have st:=(f80_l0 o.length (i:Int) (ints raw) (rowsT hb) (rowsN o)).trans ((goD (show(i:Int)<((ints raw).length:Int) by simp;omega) _ _).trans ((goD (show(i:Int)<12 by omega) _ _).trans ((goY (show(0:Int)≤(i:Int) by omega) _ _).trans ((go1 (n:=i) rfl g' _).trans ((goI (c94 hra (by omega)) _).trans ((goY hp.1 _ _).trans ((goY hp.2 _ _).trans (goTt e0 hbk _))))))))
  rw [wS (by omega)] at st
  unfold kyL
  by_cases hm:(pickI a 12).toNat∈o
  ·rw [decide_eq_true hm,Bool.not_true,cond_false] at st
   rw [if_pos hm,st]
   exact ih (i+1) o hb hd2 (by omega) hl hk (by omega)
  ·rw [decide_eq_false hm,Bool.not_false,cond_true] at st
   rw [if_neg hm,st]
   obtain⟨y,hb',hy⟩:=ih (i+1) (o++[(pickI a 12).toNat]) (hb.set (pickI a 12).toNat true) hd2 (by omega) (by simp;exact hl) (fun k hk12=>by
    by_cases e:k=(pickI a 12).toNat
    ·subst e
     rw [List.getElem?_set_self (by omega)]
     simp
    ·rw [List.getElem?_set_ne (fun h=>e h.symm),hk k hk12]
     simp [e]) (by simp;omega)
   refine⟨y,hb',(goY hp.1 _ _).trans ((goY hp.2 _ _).trans ((goTt e0 hbk _).trans ((goCk (show o.length=(rowsN o).length from(rowsN_len o).symm) _).trans ((goY (show Nat.mul (Nat.add (rowsN o).length 1) 8≤140737488355328 by rw [rowsN_len];show(o.length+1)*8≤_;omega) _ _).trans ?_))))⟩
   have e1:List.set (rowsT hb) (Nat.add 0 (τ (pickI a 12))) [vbool true]=rowsT (hb.set (pickI a 12).toNat true):=by
    rw [show Nat.add 0 (τ (pickI a 12))=(pickI a 12).toNat from Nat.zero_add _]
    simp [rowsT,List.map_set]
   rw [wu_pick (c:=a) (n:=12) (by omega) (by omega),e1]
   have e2:rowsN o++[[vu ((pickI a 12).toNat:Int)]]=rowsN (o++[(pickI a 12).toNat]):=by simp [rowsN]
   show E cx (.loop 80 [true,true,true,false,true,false]) [.arr 1 1 0 ((rowsN o).length+1),vi ((i+1:Nat):Int),.list 0 1 (ints raw),.ptr 0 1 0 0] [⟨.arr,161,1,1,rowsT (hb.set (pickI a 12).toNat true)⟩,⟨.arr,26,1,1,rowsN o++[[vu ((pickI a 12).toNat:Int)]]⟩]=_
   rw [e2,rowsN_len,show o.length+1=(o++[(pickI a 12).toNat]).length by simp]
   exact hy
theorem c80 (raw:List Int) (hr:∀a∈raw,RI a):E cx (Key.fn 80) [.list 0 1 (ints raw)] []=some (Out.ret (.list 0 1 (rowsN (keyP raw))),[]):=by
 obtain⟨y,hb',h⟩:=loop80 raw hr (raw.take 12) 0 [] (List.replicate 12 false) rfl (by omega) rfl (fun k hk=>by rw [List.getElem?_replicate,if_pos hk];rfl) (Nat.le_refl _)
 refine(f80 _).trans ?_
 show(Ω (E cx (.loop 80 [true,true,true,false,true,false]) [.arr 1 1 0 ([]:List Nat).length,vi ((0:Nat):Int),.list 0 1 (ints raw),.ptr 0 1 0 0] [⟨.arr,161,1,1,rowsT (List.replicate 12 false)⟩,⟨.arr,26,1,1,rowsN []⟩]) _)=_
 rw [h]
 show(Ω (chkLe (Nat.add 0 (kyL (raw.take 12) []).length) (rowsN (kyL (raw.take 12) [])).length) _)=_
 refine(goLe (show Nat.add 0 (kyL (raw.take 12) []).length≤_ by rw [rowsN_len];exact Nat.le_of_eq (Nat.zero_add _)) _).trans ?_
 rw [viewN]
 rfl
def sgL (r:Nat):List Nat→List P2→List P2
 | [],o=>o
 |k::ks,o=>sgL r ks (insW (k,r) o)
def sgn (r:Nat) (ks:List Nat):List P2:=sorted (ks.map fun k=>(k,r))
theorem sgL_spec (r:Nat):∀(ks:List Nat) (o:List P2),PW o→PW (sgL r ks o)∧(sgL r ks o).Perm (o++ks.map fun k=>(k,r))
 | [],o,h=>⟨h,by simp [sgL]⟩
 |k::ks,o,h=>by
  obtain⟨h1,h2⟩:=sgL_spec r ks (insW (k,r) o) (insW_pw _ _ h)
  refine⟨h1,h2.trans ?_⟩
  refine((insW_perm (k,r) o).append_right _).trans ?_
  simp only [List.map_cons,List.cons_append]
  exact List.perm_middle.symm
theorem sgL_eq (r:Nat) (ks:List Nat):sgL r ks []=sgn r ks:=by
 obtain⟨h1,h2⟩:=sgL_spec r ks [] .nil
 exact pw_uniq h1 (sorted_pw _) (h2.trans (sorted_perm _).symm)
theorem sgn_len (r:Nat) (ks:List Nat):(sgn r ks).length=ks.length:=by unfold sgn;rw [(sorted_perm _).length_eq,List.length_map]
noncomputable def sigR (r:Nat) (ks:List Nat):Bool×List P2×Int:=if ks.length≤2048 then(false,sgn r ks,0) else(false,[],4)
theorem goRn' {ρ:Type}{l:List Nat}{i:Int}{n:Nat}{w:Nat}(hn:i=n) (h:l[n]?=some w) (k:Int→Option ρ):((rowsN l)[τ i]?.bind fun cs=>(uncons? cs).bind fun p1=>(AV.int? .u64 p1.fst).bind fun a=>(nil? p1.snd).bind fun _=>k a)=k w:=by
 subst hn
 have:(rowsN l)[n]?=some [vu w]:=by simp [rowsN,h]
 rw [Int.toNat_natCast,this]
 rfl
theorem loop88 (r:Nat) (ks:List Nat) (b1 b2:Bool) (hl:ks.length≤2048):∀(rest:List Nat) (i:Nat) (o:List P2),ks.drop i=rest→i+rest.length=ks.length→o.length≤4096-rest.length→∃y,E cx (.loop 88 [true,true,true,false,true,false]) [vi i,vu r,.list 0 1 (rowsN ks),.ptr 0 0 0 0,.ptr 1 0 0 0] [⟨.box,36,2,0,[[vbool b1,.val (.slice none 0 0)]]⟩,⟨.box,36,2,0,[[vbool b2,.list 0 2 (prs o)]]⟩]=some (Out.jump (.exit 0) [vi y],[⟨.box,36,2,0,[[vbool b1,.val (.slice none 0 0)]]⟩,⟨.box,36,2,0,[[vbool b2,.list 0 2 (prs (sgL r rest o))]]⟩]):=by
 intro rest
 induction rest with
 |nil =>
  intro i o hd hi ho
  exact⟨i,(f88_l0 _ _ _ _ _ _).trans (goDn (by rw [rowsN_len];simp at hi;omega) _ _)⟩
 |cons k r' ih =>
  intro i o hd hi ho
  obtain⟨g,hd2,hlt⟩:=drop_cons' hd
  simp only [List.length_cons] at hi ho
  obtain⟨y,hy⟩:=ih (i+1) (insW (k,r) o) hd2 (by omega) (by rw [insW_len];omega)
  refine⟨y,(f88_l0 _ _ _ _ _ _).trans ((goD (show(i:Int)<((rowsN ks).length:Int) by rw [rowsN_len];omega) _ _).trans ((goY (show(0:Int)≤(i:Int) by omega) _ _).trans ((goRn' (n:=i) rfl g _).trans ((goL (c137 o (k,r) (by omega)) _).trans ?_))))⟩
  rw [wS (by omega)]
  exact hy
theorem c88 (r:Nat) (ks:List Nat) (hl:ks.length≤4000000):RTok' (E cx (Key.fn 88) [vu r,.list 0 1 (rowsN ks)] []) (sigR r ks):=by
 have st:=f88 (r:Int) (rowsN ks)
 rw [rowsN_len] at st
 unfold sigR
 by_cases h:ks.length≤2048
 ·rw [if_pos h]
  obtain⟨y,hy⟩:=loop88 r ks false false h ks 0 [] rfl (by omega) (by simp)
  have st:=st.trans (goDn (show ¬(ks.length:Int)>2048 by omega) _ _)
  have hy':E cx (.loop 88 [true,true,true,false,true,false]) [vi 0,vu r,.list 0 1 (rowsN ks),.ptr 0 0 0 0,.ptr 1 0 0 0] [⟨.box,36,2,0,[[vbool false,.val (.slice none 0 0)]]⟩,⟨.box,36,2,0,[[vbool false,.list 0 2 []]]⟩]=_:=hy
  rw [hy'] at st
  refine⟨_,st,?_⟩
  show AV.list? 2 (.list 0 2 (prs (sgL r ks [])))=_
  rw [sgL_eq]
  rfl
 ·rw [if_neg h]
  exact⟨_,st.trans (goD (show(ks.length:Int)>2048 by omega) _ _),rfl⟩
end Go.Proofs.Av
