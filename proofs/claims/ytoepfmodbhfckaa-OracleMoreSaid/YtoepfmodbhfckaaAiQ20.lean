/- OracleMore is true. -/
import Derived.Test.YtoepfmodbhfckaaAiQa
import Derived.Test.YtoepfmodbhfckaaAiY20
set_option maxRecDepth 100000
namespace Go.Proofs.Av
open Go
theorem uni_self:∀ {l t:List P2},(∀x∈l,x∈t)→uni t l=t
 | [],t,_=>rfl
 |p::r,t,h=>by
  unfold uni
  rw [if_pos (h p (List.mem_cons_self ..))]
  exact uni_self fun x hx=>h x (List.mem_cons_of_mem _ hx)
theorem ckR_more {t u:List P2}{ks:List Nat}{r:Nat}{f:Bool}{l:List P2}(hu:tabR u=true) (hs:∀x∈t,x∈u) (h:ckR t ks r f l=true):ckR u ks r f l=true:=by
 rw [ckR_iff] at h ⊢
 exact⟨hu,h.2.1,h.2.2.1,h.2.2.2.1,h.2.2.2.2.1,h.2.2.2.2.2.1,fun p hp=>hs p (h.2.2.2.2.2.2 p hp)⟩
theorem goT' {ρ:Type}{x:Option (Out×Heap)}{b:Bool}(h:x=rb b) (hb:b=true) (k j:Option ρ):(x.bind fun r=>(ret1 r).bind fun v=>v.bool?.bind fun b=>bif b then k else j)=k:=by rw [h,hb];rfl
theorem goF' {ρ:Type}{x:Option (Out×Heap)}{b:Bool}(h:x=rb b) (hb:b=false) (k j:Option ρ):(x.bind fun r=>(ret1 r).bind fun v=>v.bool?.bind fun b=>bif b then k else j)=j:=by rw [h,hb];rfl
theorem wrS {i:Nat}(h:i≤4000000):IntKind.wrap .i64 (Int.add (i:Int) 1)=((i+1:Nat):Int):=(wr_add (b:=1) (by omega) (by omega)).trans (by omega)
theorem step20 (b:Bool) (i:Nat) (t m u:List P2) (W:List (List AV)) (bs:Bool) (S:List (List AV)) (x:It) (hi:i<2) (hW:∃a c,W[i]?=some [a,vu x.2.1,vbool x.2.2.1,c]∧a.list? 1=some (rowsN x.1)∧c.list? 2=some (prs x.2.2.2)) (ht:t.length≤4000000) (hu:u.length≤4000000) (hx:ItOk x) (hr:tabR u=true) (hs:∀x∈t,x∈u):E cx (Key.loop 20 [true,true,true,true,true,true,true,true,true,true,false,true,false]) [vbool b,vi i,vbool true,.list 0 2 (prs t),.list 0 2 (prs m),.list 0 2 (prs u),.list 0 4 W,vi 2] [⟨.box,36,2,0,[[vbool bs,.list 0 2 S]]⟩]=E cx (Key.loop 20 [true,true,true,true,true,true,true,true,true,true,false,true,false]) [vbool b,vi (i+1:Nat),vbool true,.list 0 2 (prs t),.list 0 2 (prs m),.list 0 2 (prs u),.list 0 4 W,vi 2] [⟨.box,36,2,0,[[vbool bs,.list 0 2 S]]⟩]:=by
 obtain⟨k1,k2,k3,k4⟩:=hx
 have h1:=c89 t x.1 x.2.1 x.2.2.1 x.2.2.2 ht k1 k2 k3 k4
 have h2:=c89 u x.1 x.2.1 x.2.2.1 x.2.2.2 hu k1 k2 k3 k4
 refine(f20_l0 _ _ _ _ _ _ _ _ _ _).trans ((goD (show(i:Int)<2 by omega) _ _).trans ((goY (show(0:Int)≤i by omega) _ _).trans ((goIt rfl hW _).trans ?_)))
 have fin:q20_l0_0 b i true (prs t) (prs m) (prs u) W 2 bs S=E cx (Key.loop 20 [true,true,true,true,true,true,true,true,true,true,false,true,false]) [vbool b,vi (i+1:Nat),vbool true,.list 0 2 (prs t),.list 0 2 (prs m),.list 0 2 (prs u),.list 0 4 W,vi 2] [⟨.box,36,2,0,[[vbool bs,.list 0 2 S]]⟩]:=by
  unfold q20_l0_0
  rw [wrS (by omega)]
 cases hc:ckR t x.1 x.2.1 x.2.2.1 x.2.2.2 with
 |true=>exact(goT' h1 hc _ _).trans ((goT' h2 (ckR_more hr hs hc) _ _).trans fin)
 |false=>exact(goF' h1 hc _ _).trans fin
theorem loop20 (b:Bool) (t m u:List P2) (bs:Bool) (S:List (List AV)) (ht:t.length≤4000000) (hm:m.length≤4000000) (hu:u.length≤4000000) (hr:tabR u=true) (htr:tabR t=true) (hmr:tabR m=true) (hs:∀x∈u,x∈t∨x∈m):∀(d i:Nat),i+d=u.length→E cx (Key.loop 20 [true,true,true,true,true,true,true,true,true,true,true,false,true,false]) [vbool b,vi i,vbool true,.list 0 2 (prs t),.list 0 2 (prs m),.list 0 2 (prs u)] [⟨.box,36,2,0,[[vbool bs,.list 0 2 S]]⟩]=some (Out.jump (.exit 2) [vbool b,vi (u.length:Nat)],[⟨.box,36,2,0,[[vbool bs,.list 0 2 S]]⟩]):=by
 intro d
 induction d with
 |zero =>
  intro i hi
  have e:i=u.length:=by omega
  subst e
  refine(f20_l1 _ _ _ _ _ _ _ _).trans ?_
  rw [prs_len]
  exact goDn (by omega) _ _
 |succ d ih =>
  intro i hi
  have hlt:i<u.length:=by omega
  have hg:=List.getElem?_eq_getElem hlt
  refine(f20_l1 _ _ _ _ _ _ _ _).trans ?_
  rw [prs_len]
  have h1:=c85 u u[i] hu
  have h2:=c85 t u[i] ht
  have h3:=c85 m u[i] hm
  have hmem:u[i]∈u:=List.getElem_mem hlt
  have fin:q20_l1_0 b i true (prs t) (prs m) (prs u) bs S=some (Out.jump (.exit 2) [vbool b,vi (u.length:Nat)],[⟨.box,36,2,0,[[vbool bs,.list 0 2 S]]⟩]):=by
   unfold q20_l1_0
   rw [wrS (by omega)]
   exact ih (i+1) (by omega)
  refine(goD (by omega) _ _).trans ((goY (by omega) _ _).trans ((goPr rfl hg _).trans ((goT' h1 (by rw [hr,decide_eq_true hmem];rfl) _ _).trans ((goY (by omega) _ _).trans ((goPr rfl hg _).trans ?_)))))
  by_cases hit:u[i]∈t
  ·exact(goT' h2 (by rw [htr,decide_eq_true hit];rfl) _ _).trans fin
  ·have him:=(hs _ hmem).resolve_left hit
   exact(goF' h2 (by rw [decide_eq_false hit];simp) _ _).trans ((goY (by omega) _ _).trans ((goPr rfl hg _).trans ((goT' h3 (by rw [hmr,decide_eq_true him];rfl) _ _).trans fin)))
theorem law20 (raw more tok few:List Int) (root:Int) (h1:∀a∈raw,RI a) (h2:∀a∈more,RI a) (h3:∀a∈tok,RI a) (h4:∀a∈few,RI a) (h5:RI root):E cx (Key.fn 20) [.list 0 1 (ints raw),.list 0 1 (ints more),.list 0 1 (ints tok),.list 0 1 (ints few),vi root] []=rb true:=by
 refine(f20 _ _ _ _ _).trans ((goL (c79 raw h1) _).trans ((goL (c79 more h2) _).trans ?_))
 generalize ht:tabP raw=t
 generalize hm:tabP more=m
 have tl:t.length≤60:=ht▸tabP_len raw
 have ml:m.length≤60:=hm▸tabP_len more
 have tw:SW t:=ht▸tabP_sw raw
 have mw:SW m:=hm▸tabP_sw more
 have tr:tabR t=true:=ht▸tabP_right raw
 have mr:tabR m=true:=hm▸tabP_right more
 have ul:=uni_len m t
 have ul2:=len_uni m t
 have uw:SW (uni t m):=uni_sw tw
 have hmem:∀x,x∈uni t m↔x∈t∨x∈m:=fun x=>uni_mem
 have r1:=c81 t m (by omega) (by omega)
 rw [addR_ok tw (by omega)] at r1
 have r2:=c81 (uni t m) t (by omega) (by omega)
 rw [addR_ok uw (by omega),uni_self fun x hx=>(hmem x).2 (.inl hx)] at r2
 generalize hu:uni t m=u at *
 have ur:tabR u=true:=(tabR_iff u).2 ⟨uw,by omega⟩
 refine(goRP r1 _).trans ((goRP r2 _).trans ((goI (c94 h5 (by omega)) _).trans ((goR1 (c80 few h4) _).trans ?_)))
 obtain⟨k1,k2,k3⟩:=keyP_spec few
 generalize hk:keyP few=k at *
 rw [wu_pick (by omega) (by omega)]
 generalize (pickI root 3).toNat=r
 have kU:∀x∈k,U8 x:=fun x hx=>by have:=k2 x hx;show x<_;omega
 refine(goTok (t93 r k (by omega)) _).trans ((goE rfl _ _).trans ((goE rfl _ _).trans ((goE rfl _ _).trans ((goT' (c87 u u (by omega)) (by simp) _ _).trans ((goT' (c83 u (by omega)) ur _ _).trans ((goAg (c37 tok h3 false) _).trans ?_))))))
 have sl:(sgn r k).length≤4000000:=by rw [sgn_len];omega
 have tkl:=tokP_len tok
 have st:=fun(i:Nat) (x:It) h1 h2 h3=>step20 false i t m u [[.list 0 1 (rowsN k),vu r,vbool false,.list 0 2 (prs (sgn r k))],[.list 0 1 (rowsN k),vu r,vbool false,.list 0 2 (prs (tokP tok))]] false (prs (sgn r k)) x h1 h2 (by omega) (by omega) h3 ur fun x hx=>(hmem x).2 (.inl hx)
 have l0:=(st 0 (k,r,false,sgn r k) (by omega) ⟨_,_,rfl,rfl,rfl⟩ ⟨by show k.length≤_;omega,sl,kU,sgn_U8 kU⟩).trans ((st 1 (k,r,false,tokP tok) (by omega) ⟨_,_,rfl,rfl,rfl⟩ ⟨by show k.length≤_;omega,by show(tokP tok).length≤_;omega,kU,tokP_U8 tok⟩).trans
  ((f20_l0 _ _ _ _ _ _ _ _ _ _).trans (goDn (by decide) _ _)))
 have l1:=loop20 false t m u false (prs (sgn r k)) (by omega) (by omega) (by omega) ur tr mr (fun x hx=>(hmem x).1 hx) u.length 0 (by omega)
 have l0':E cx (Key.loop 20 [true,true,true,true,true,true,true,true,true,true,false,true,false]) [vbool false,vi 0,vbool true,.list 0 2 (prs t),.list 0 2 (prs m),.list 0 2 (prs u),.list 0 4 [[.list 0 1 (rowsN k),vu r,vbool false,.list 0 2 (prs (sgn r k))],[.list 0 1 (rowsN k),vu r,vbool false,.list 0 2 (prs (tokP tok))]],vi 2] [⟨.box,36,2,0,[[vbool false,.list 0 2 (prs (sgn r k))]]⟩]=_:=l0
 rw [l0']
 have l1':E cx (Key.loop 20 [true,true,true,true,true,true,true,true,true,true,true,false,true,false]) [vbool false,vi 0,vbool true,.list 0 2 (prs t),.list 0 2 (prs m),.list 0 2 (prs u)] [⟨.box,36,2,0,[[vbool false,.list 0 2 (prs (sgn r k))]]⟩]=_:=l1
 show(Option.bind (E cx (Key.loop 20 [true,true,true,true,true,true,true,true,true,true,true,false,true,false]) [vbool false,vi 0,vbool true,.list 0 2 (prs t),.list 0 2 (prs m),.list 0 2 (prs u)] [⟨.box,36,2,0,[[vbool false,.list 0 2 (prs (sgn r k))]]⟩]) _)=_
 rw [l1']
 show(bif decide (((prs u).length:Int)≤IntKind.wrap IntKind.i64 (Int.add ((prs t).length:Int) ((prs m).length:Int))) then bif decide (((prs u).length:Int)≥((prs t).length:Int)) then rb true else rb false else rb false)=rb true
 rw [prs_len,prs_len,prs_len,show IntKind.wrap IntKind.i64 (Int.add (t.length:Int) (m.length:Int))=(t.length:Int)+m.length from wr_add (by omega) (by omega)]
 exact(goD (by omega) _ _).trans (goD (by omega) _ _)
end Go.Proofs.Av
