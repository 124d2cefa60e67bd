/- OracleForged is true. -/
import Derived.Test.YtoepfmodbhfckaaAiQa
import Derived.Test.YtoepfmodbhfckaaAiY22
set_option maxRecDepth 100000
namespace Go.Proofs.Av
open Go
theorem ckR_forged (t:List P2) (ks:List Nat) (r:Nat) (l:List P2):ckR t ks r true l=false:=by
 rw [←Bool.not_eq_true,ckR_iff]
 rintro⟨_,h,_⟩
 cases h
theorem step22 (b:Bool) (i:Nat) (r:Nat) (ks:List Nat) (W:List (List AV)) (t s m:List P2) (hi:i<3) (hW:W[i]?=some [.list 0 2 (prs t)]) (ht:t.length≤4000000) (hk:ks.length≤1000000) (hs:s.length≤4000000) (hm:m.length≤4000000) (hu:∀k∈ks,U8 k) (hsu:∀p∈s,U8 p.1) (hmu:∀p∈m,U8 p.1):E cx (Key.loop 22 [true,true,true,true,true,true,true,false,true,false]) [vbool b,vi i,vu r,vbool true,.list 0 1 (rowsN ks),.ptr 0 0 0 0,.ptr 1 0 0 0,.list 0 1 W,vi 3] [⟨.box,36,2,0,[[vbool true,.list 0 2 (prs s)]]⟩,⟨.box,36,2,0,[[vbool true,.list 0 2 (prs m)]]⟩]=E cx (Key.loop 22 [true,true,true,true,true,true,true,false,true,false]) [vbool b,vi (i+1:Nat),vu r,vbool true,.list 0 1 (rowsN ks),.ptr 0 0 0 0,.ptr 1 0 0 0,.list 0 1 W,vi 3] [⟨.box,36,2,0,[[vbool true,.list 0 2 (prs s)]]⟩,⟨.box,36,2,0,[[vbool true,.list 0 2 (prs m)]]⟩]:=by
 refine(f22_l0 _ _ _ _ _ _ _ _ _ _ _).trans ((goD (show(i:Int)<3 by omega) _ _).trans ((goY (show(0:Int)≤i by omega) _ _).trans ((goLi (show W[(i:Int).toNat]?=_ from hW) _).trans ?_)))
 have h1:=c89 t ks r true s ht hk hs hu hsu
 have h2:=c89 t ks r true m ht hk hm hu hmu
 rw [ckR_forged] at h1 h2
 refine(goF h1 _ _).trans ((goF h2 _ _).trans ?_)
 rw [show IntKind.wrap .i64 (Int.add (i:Int) 1)=((i+1:Nat):Int) from(wr_add (b:=1) (by omega) (by omega)).trans (by omega)]
theorem law22 (wild:List P2) (raw:List Int) (keys:List Nat) (root:Nat) (tok:List Int) (hraw:∀a∈raw,RI a) (hk:∀k∈keys,U8 k) (ht:∀a∈tok,RI a):E cx (Key.fn 22) [.list 0 2 (prs wild),.list 0 1 (ints raw),.list 0 1 (rowsN keys),vu root,.list 0 1 (ints tok)] []=rb true:=by
 refine(f22 _ _ _ _ _).trans ?_
 rw [prs_len,rowsN_len]
 have e1:(if(20:Int)<((keys.length:Nat):Int) then(20:Int) else((keys.length:Nat):Int))=((min 20 keys.length:Nat):Int):=clip 20 keys.length
 have e2:(if(40:Int)<((wild.length:Nat):Int) then(40:Int) else((wild.length:Nat):Int))=((min 40 wild.length:Nat):Int):=clip 40 wild.length
 rw [e1,e2,clipN,clipP]
 have hkl:(keys.take 20).length≤20:=by simp;omega
 have hU:=take_U8 20 hk
 refine(goY (by omega) _ _).trans ((goY (by omega) _ _).trans ((goTok (t93 root (keys.take 20) (by omega)) _).trans ((goAg (c37 tok ht false) _).trans ?_)))
 have h45:=t45 false true (tokP tok) (sgn root (keys.take 20)) (tokP_right tok) (sgn_right root _ (by omega)) (by have:=tokP_len tok;rw [sgn_len];omega)
 refine(goTok h45 _).trans ((goE rfl _ _).trans ((goE rfl _ _).trans ((goNb _ _).trans ((goY (by omega) _ _).trans ((goY (by omega) _ _).trans ((goL (c79 raw hraw) _).trans ?_))))))
 have hm:(sorted (tokP tok++sgn root (keys.take 20))).length≤4000000:=by
  rw [(sorted_perm _).length_eq,List.length_append,sgn_len]
  have:=tokP_len tok
  omega
 have hs:(sgn root (keys.take 20)).length≤4000000:=by rw [sgn_len];omega
 have st:∀(i:Nat) (t:List P2),i<3→([[AV.list 0 2 (prs (wild.take 40))],[AV.list 0 2 (prs (tabP raw))],[AV.list 0 2 (prs (sgn root (keys.take 20)))]]:List (List AV))[i]?=some [.list 0 2 (prs t)]→t.length≤4000000→_:=fun i t h1 h2 h3 =>
  step22 false i root (keys.take 20) _ t (sgn root (keys.take 20)) _ h1 h2 h3 (by omega) hs hm hU (sgn_U8 hU) (sorted_U8 (tokP_U8 tok) (sgn_U8 hU))
 have l0:=(st 0 (wild.take 40) (by omega) rfl (by simp;omega)).trans ((st 1 (tabP raw) (by omega) rfl (by have:=tabP_len raw;omega)).trans ((st 2 _ (by omega) rfl hs).trans ((f22_l0 _ _ _ _ _ _ _ _ _ _ _).trans (goDn (by decide) _ _))))
 have l0':E cx (Key.loop 22 [true,true,true,true,true,true,true,false,true,false]) [vbool false,vi 0,vu root,vbool true,.list 0 1 (rowsN (keys.take 20)),.ptr 0 0 0 0,.ptr 1 0 0 0,.list 0 1 [[AV.list 0 2 (prs (wild.take 40))],[AV.list 0 2 (prs (tabP raw))],[AV.list 0 2 (prs (sgn root (keys.take 20)))]],vi 3] [⟨.box,36,2,0,[[vbool true,.list 0 2 (prs (sgn root (keys.take 20)))]]⟩,⟨.box,36,2,0,[[vbool (false||true),.list 0 2 (prs (sorted (tokP tok++sgn root (keys.take 20))))]]⟩]=_:=l0
 rw [l0']
 rfl
end Go.Proofs.Av
