/- OracleMerge is true. -/
import Derived.Test.YtoepfmodbhfckaaAiQa
import Derived.Test.YtoepfmodbhfckaaAiY23
set_option maxRecDepth 100000
namespace Go.Proofs.Av
open Go
theorem goT' {ρ:Type}{x:Option (Out×Heap)}{b:Bool}(h:x=rb b) (hb:b=true) (k j:Option ρ):(x.bind fun r=>(ret1 r).bind fun v=>v.bool?.bind fun b=>bif b then k else j)=k:=by rw [h,hb];rfl
theorem goF' {ρ:Type}{x:Option (Out×Heap)}{b:Bool}(h:x=rb b) (hb:b=false) (k j:Option ρ):(x.bind fun r=>(ret1 r).bind fun v=>v.bool?.bind fun b=>bif b then k else j)=j:=by rw [h,hb];rfl
theorem take0 (k:List Nat) (n:Nat):List.drop 0 (List.take (Int.toNat (n:Int)) (rowsN k))=rowsN (k.take n):=by
 rw [List.drop_zero,Int.toNat_natCast]
 exact List.map_take.symm
theorem drop1 (k:List Nat) (n:Nat):List.drop (Int.toNat (n:Int)) (List.take k.length (rowsN k))=rowsN (k.drop n):=by
 rw [←rowsN_len k,List.take_length,Int.toNat_natCast]
 exact List.map_drop.symm
theorem sgn_app (r:Nat) (a b:List Nat):sorted (sgn r a++sgn r b)=sgn r (a++b):=by
 unfold sgn
 rw [List.map_append]
 exact sorted_congr ((sorted_perm _).append (sorted_perm _))
theorem ckS {t:List P2}{ks:List Nat}{r:Nat}(ht:tabR t=true) (hn:ks.Nodup) (hl:ks.length≤2048):ckR t ks r false (sgn r ks)=decide (ks≠[]∧∀k∈ks,(k,r)∈t):=by
 rw [Bool.eq_iff_iff,ckR_iff,decide_eq_true_eq]
 constructor
 ·rintro⟨_,_,h1,_,_,_,h2⟩
  exact⟨h1,fun k hk=>h2 (k,r) (sgn_mem.2 ⟨hk,rfl⟩)⟩
 ·rintro⟨h1,h2⟩
  refine⟨ht,rfl,h1,hn,hl,rfl,fun p hp=> ?_⟩
  obtain⟨g1,g2⟩:=sgn_mem.1 hp
  have:=h2 p.1 g1
  rw [←g2] at this
  exact this
theorem q0_23 {k:List Nat}{r:Nat}{n12:Int}{t:List P2}(hw:IntKind.wrap .u64 n12=(r:Int)) (hk:k≠[]) (hl:k.length≤12) (kU:∀x∈k,U8 x) (ht:t.length≤4000000):q23_0 (rowsN k) n12 false (prs (sgn r k)) (prs t)=rb true:=by
 obtain⟨k0,kr,rfl⟩:=List.exists_cons_of_ne_nil hk
 unfold q23_0
 rw [hw]
 show(Option.bind (E cx (Key.fn 93) [vu r,.list 0 1 (rowsN [k0])] []) _)=_
 refine(goTok (t93 r [k0] (by simp)) _).trans ((goTok (t45 false false (sgn r (k0::kr)) (sgn r [k0]) (sgn_right r _ (by omega)) (sgn_right r _ (by simp)) (by rw [sgn_len,sgn_len];simp at hl ⊢;omega)) _).trans ((goD rfl _ _).trans ((goD rfl _ _).trans ?_)))
 have h:=c89 t (k0::kr) r (false||false) (sorted (sgn r (k0::kr)++sgn r [k0])) ht (by omega) (by rw [(sorted_perm _).length_eq,List.length_append,sgn_len,sgn_len];simp at hl ⊢;omega) kU (sorted_U8 (sgn_U8 kU) (sgn_U8 fun x hx=>kU x (by simp at hx;subst hx;simp)))
 refine goF' h ?_ _ _
 rw [←Bool.not_eq_true,ckR_iff]
 rintro⟨_,_,_,_,_,h6,_⟩
 have:=congrArg List.length h6
 rw [(sorted_perm _).length_eq,List.length_append,sgn_len,sgn_len] at this
 simp at this
theorem law23 (raw few:List Int) (at_ root:Int) (h1:∀a∈raw,RI a) (h2:∀a∈few,RI a) (h3:RI at_) (h4:RI root):E cx (Key.fn 23) [.list 0 1 (ints raw),.list 0 1 (ints few),vi at_,vi root] []=rb true:=by
 refine(f23 _ _ _ _).trans ((goL (c79 raw h1) _).trans ((goR1 (c80 few h2) _).trans ((goI (c94 h4 (by omega)) _).trans ?_)))
 generalize ht:tabP raw=t
 have tl:t.length≤60:=ht▸tabP_len raw
 have tr:tabR t=true:=ht▸tabP_right raw
 obtain⟨k1,k2,k3⟩:=keyP_spec few
 generalize hk:keyP few=k at *
 have kU:∀x∈k,U8 x:=fun x hx=>by have:=k2 x hx;show x<_;omega
 have hw:=wu_pick (c:=root) (n:=3) (by omega) (by omega)
 generalize (pickI root 3).toNat=r at hw
 generalize pickI root 3=n12 at hw
 rw [rowsN_len,show IntKind.wrap IntKind.i64 (Int.add (k.length:Int) 1)=(k.length:Int)+1 from wr_add (by omega) (by omega)]
 refine(goI (c94 h3 (by omega)) _).trans ?_
 have hp:=pickI_lt (c:=at_) (n:=(k.length:Int)+1) (by omega)
 obtain⟨n,hn⟩:∃n:Nat,pickI at_ ((k.length:Int)+1)=(n:Int):=⟨(pickI at_ ((k.length:Int)+1)).toNat,by omega⟩
 rw [hn] at hp ⊢
 have hnl:n≤k.length:=by omega
 rw [take0,drop1,hw]
 have hA:(k.take n).length≤12:=by simp;omega
 have hB:(k.drop n).length≤12:=by simp;omega
 have hAU:∀x∈k.take n,U8 x:=fun x hx=>kU x (List.mem_of_mem_take hx)
 have hBU:∀x∈k.drop n,U8 x:=fun x hx=>kU x (List.mem_of_mem_drop hx)
 have hAn:(k.take n).Nodup:=k1.sublist (List.take_sublist n k)
 have hBn:(k.drop n).Nodup:=k1.sublist (List.drop_sublist n k)
 have h45:=t45 false false (sgn r (k.take n)) (sgn r (k.drop n)) (sgn_right r _ (by omega)) (sgn_right r _ (by omega)) (by rw [sgn_len,sgn_len];omega)
 rw [sgn_app,List.take_append_drop] at h45
 refine(goY (by omega) _ _).trans ((goY (by omega) _ _).trans ((goTok (t93 r (k.take n) (by omega)) _).trans ((goY (by omega) _ _).trans ((goY (by omega) _ _).trans ((goTok (t93 r (k.drop n) (by omega)) _).trans ((goTok h45 _).trans ((goTok (t93 r k (by omega)) _).trans
  ((goE rfl _ _).trans ((goE rfl _ _).trans ((goE rfl _ _).trans ((goE rfl _ _).trans ((goT' (c47 (false||false) false (sgn r k) (sgn r k) (by rw [sgn_len];omega)) (by simp) _ _).trans ((goY (by omega) _ _).trans ((goY (by omega) _ _).trans ?_))))))))))))))
 have sl:∀q:List Nat,q.length≤12→(sgn r q).length≤4000000:=fun q hq=>by rw [sgn_len];omega
 have one:=c89 t (k.take n) r false (sgn r (k.take n)) (by omega) (by omega) (sl _ hA) hAU (sgn_U8 hAU)
 have two:=c89 t (k.drop n) r false (sgn r (k.drop n)) (by omega) (by omega) (sl _ hB) hBU (sgn_U8 hBU)
 have both:=c89 t k r (false||false) (sgn r k) (by omega) (by omega) (sl _ (by omega)) kU (sgn_U8 kU)
 rw [ckS tr hAn (by omega)] at one
 rw [ckS tr hBn (by omega)] at two
 rw [show(false||false)=false from rfl,ckS tr k1 (by omega)] at both
 have split:(∀x∈k,(x,r)∈t)↔(∀x∈k.take n,(x,r)∈t)∧∀x∈k.drop n,(x,r)∈t:=by
  constructor
  ·exact fun h=>⟨fun x hx=>h x (List.mem_of_mem_take hx),fun x hx=>h x (List.mem_of_mem_drop hx)⟩
  ·rintro⟨g1,g2⟩ x hx
   rw [←List.take_append_drop n k] at hx
   rcases List.mem_append.1 hx with h |h
   ·exact g1 x h
   ·exact g2 x h
 have ne1:k.take n≠[]↔0<n∧k≠[]:=by
  rw [←List.length_pos_iff,←List.length_pos_iff,List.length_take]
  omega
 have ne2:k.drop n≠[]↔n<k.length:=by
  rw [←List.length_pos_iff,List.length_drop]
  omega
 have nek:k≠[]↔0<k.length:=List.length_pos_iff.symm
 have f0:∀h:k≠[],q23_0 (rowsN k) n12 (false||false) (prs (sgn r k)) (prs t)=rb true:=fun h=>q0_23 hw h (by omega) kU (by omega)
 have f1:k≠[]→q23_1 (rowsN k) n12 (false||false) (prs (sgn r k)) (prs t)=rb true:=fun h=>by
  unfold q23_1
  rw [rowsN_len]
  exact(goDn (by have:=nek.1 h;omega) _ _).trans (f0 h)
 have f2:k≠[]→q23_2 n (rowsN k) n12 (false||false) (prs (sgn r k)) (prs t)=rb true:=fun h=>by
  unfold q23_2
  rw [f1 h,Bool.cond_self]
 have f3:k≠[]→¬n<k.length→q23_3 n (rowsN k) n12 (false||false) (prs (sgn r k)) (prs t)=rb true:=fun h hn=>by
  unfold q23_3
  rw [rowsN_len]
  exact(goDn (by omega) _ _).trans (f1 h)
 have f4:q23_4 (rowsN k) n12 (false||false) (prs (sgn r k)) (prs t)=rb true:=by
  unfold q23_4
  rw [rowsN_len]
  by_cases h:k.length=0
  ·exact goD (by omega) _ _
  ·exact(goDn (by omega) _ _).trans (f0 (nek.2 (by omega)))
 by_cases b1:k.take n≠[]∧∀x∈k.take n,(x,r)∈t
 ·by_cases b2:k.drop n≠[]∧∀x∈k.drop n,(x,r)∈t
  ·have b3:k≠[]∧∀x∈k,(x,r)∈t:=⟨(ne1.1 b1.1).2,split.2 ⟨b1.2,b2.2⟩⟩
   refine(goT' one (decide_eq_true b1) _ _).trans ((goY (by omega) _ _).trans ((goY (by omega) _ _).trans ((goT' two (decide_eq_true b2) _ _).trans ((goT' both (decide_eq_true b3) _ _).trans ?_))))
   rw [f2 b3.1,Bool.cond_self]
  ·refine(goT' one (decide_eq_true b1) _ _).trans ((goY (by omega) _ _).trans ((goY (by omega) _ _).trans ((goF' two (decide_eq_false b2) _ _).trans ?_)))
   by_cases b3:k≠[]∧∀x∈k,(x,r)∈t
   ·have hn2:¬n<k.length:=fun h=>b2 ⟨ne2.2 h,(split.1 b3.2).2⟩
    refine(goT' both (decide_eq_true b3) _ _).trans ?_
    rw [f3 b3.1 hn2,Bool.cond_self]
   ·exact(goF' both (decide_eq_false b3) _ _).trans f4
 ·refine(goF' one (decide_eq_false b1) _ _).trans ((goY (by omega) _ _).trans ((goY (by omega) _ _).trans ?_))
  have nb:∀b3:k≠[]∧∀x∈k,(x,r)∈t,¬0<n:=fun b3 h=>b1 ⟨ne1.2 ⟨h,b3.1⟩,(split.1 b3.2).1⟩
  by_cases b2:k.drop n≠[]∧∀x∈k.drop n,(x,r)∈t
  ·refine(goT' two (decide_eq_true b2) _ _).trans ?_
   by_cases b3:k≠[]∧∀x∈k,(x,r)∈t
   ·refine(goT' both (decide_eq_true b3) _ _).trans ((goDn (by have:=nb b3;omega) _ _).trans (f2 b3.1))
   ·exact(goF' both (decide_eq_false b3) _ _).trans f4
  ·refine(goF' two (decide_eq_false b2) _ _).trans ?_
   by_cases b3:k≠[]∧∀x∈k,(x,r)∈t
   ·have hn2:¬n<k.length:=fun h=>b2 ⟨ne2.2 h,(split.1 b3.2).2⟩
    refine(goT' both (decide_eq_true b3) _ _).trans ((goDn (by have:=nb b3;omega) _ _).trans (f3 b3.1 hn2))
   ·exact(goF' both (decide_eq_false b3) _ _).trans f4
end Go.Proofs.Av
