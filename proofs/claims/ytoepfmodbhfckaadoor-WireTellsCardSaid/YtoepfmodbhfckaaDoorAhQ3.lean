/- WireTells is true. -/
import Derived.Test.YtoepfmodbhfckaaDoorAhY3
set_option maxRecDepth 100000
namespace Go.Proofs.Av
open Go
section
variable {ρ:Type}
theorem goVr {T:List Vt}{i:Int}{n:Nat}{v:Vt}(hn:i=n) (h:T[n]?=some v) (k:Int→Int→Int→Int→Int→Int→List (List AV)→Bool→List (List AV)→Option ρ):((T.map vC)[Int.toNat i]?.bind fun cs=>(uncons? cs).bind fun px_a=>(AV.int? .u64 px_a.fst).bind fun xa=>(uncons? px_a.snd).bind fun px_b=>(AV.int? .u64 px_b.fst).bind fun xb=>(uncons? px_b.snd).bind fun px_c=>(AV.int? .u64 px_c.fst).bind fun xc=>(uncons? px_c.snd).bind fun px_d=>(AV.int? .u64 px_d.fst).bind fun xd=>(uncons? px_d.snd).bind fun px_e=>(AV.int? .u64 px_e.fst).bind fun xe=>(uncons? px_e.snd).bind fun px_n=>(AV.int? .i64 px_n.fst).bind fun xn=>(uncons? px_n.snd).bind fun px_on=>(AV.list? 1 px_on.fst).bind fun xon=>(uncons? px_on.snd).bind fun px_f=>(AV.bool? px_f.fst).bind fun xf=>(uncons? px_f.snd).bind fun px_p=>(AV.list? 2 px_p.fst).bind fun xp=>(nil? px_p.snd).bind fun _=>k xa xb xc xd xe xn xon xf xp)=k v.a v.b v.c v.d v.e v.n (ints v.on) v.f (prs v.p):=by
 subst hn
 have:(T.map vC)[Int.toNat (n:Int)]?=some (vC v):=by simp [h]
 rw [this]
 rfl
theorem goAr {T:List Ag}{i:Int}{n:Nat}{v:Ag}(hn:i=n) (h:T[n]?=some v) (k:Int→Bool→List (List AV)→Int→Int→Int→Int→Int→Int→List (List AV)→Bool→List (List AV)→Option ρ):((T.map aC)[Int.toNat i]?.bind fun cs=>(uncons? cs).bind fun px_by0=>(AV.int? .u64 px_by0.fst).bind fun xby0=>(uncons? px_by0.snd).bind fun px_g=>(AV.bool? px_g.fst).bind fun xg=>(uncons? px_g.snd).bind fun px_q=>(AV.list? 2 px_q.fst).bind fun xq=>(uncons? px_q.snd).bind fun px_a=>(AV.int? .u64 px_a.fst).bind fun xa=>(uncons? px_a.snd).bind fun px_b=>(AV.int? .u64 px_b.fst).bind fun xb=>(uncons? px_b.snd).bind fun px_c=>(AV.int? .u64 px_c.fst).bind fun xc=>(uncons? px_c.snd).bind fun px_d=>(AV.int? .u64 px_d.fst).bind fun xd=>(uncons? px_d.snd).bind fun px_e=>(AV.int? .u64 px_e.fst).bind fun xe=>(uncons? px_e.snd).bind fun px_n=>(AV.int? .i64 px_n.fst).bind fun xn=>(uncons? px_n.snd).bind fun px_on=>(AV.list? 1 px_on.fst).bind fun xon=>(uncons? px_on.snd).bind fun px_f=>(AV.bool? px_f.fst).bind fun xf=>(uncons? px_f.snd).bind fun px_p=>(AV.list? 2 px_p.fst).bind fun xp=>(nil? px_p.snd).bind fun _=>k xby0 xg xq xa xb xc xd xe xn xon xf xp)=k v.by0 v.g (prs v.q) v.v.a v.v.b v.v.c v.v.d v.v.e v.v.n (ints v.v.on) v.v.f (prs v.v.p):=by
 subst hn
 have:(T.map aC)[Int.toNat (n:Int)]?=some (aC v):=by simp [h]
 rw [this]
 rfl
abbrev H9 (d0 d1 d2 d3 d4:Nat) (v:Vt) (x:Rw) (r0 r1 r2:Nat) (w o:Vt) (g1 g2 g3:Ag):Heap:=[Ob.mk OK.box 24 5 0 [[vu d0,vu d1,vu d2,vu d3,vu d4]],Ob.mk OK.box 32 9 0 [vC v],Ob.mk OK.box 35 9 0 [rC x],Ob.mk OK.box 37 3 0 [[vu r0,vu r1,vu r2]],Ob.mk OK.box 32 9 0 [vC w],Ob.mk OK.box 32 9 0 [vC o],Ob.mk OK.box 41 12 0 [aC g1],Ob.mk OK.box 41 12 0 [aC g2],Ob.mk OK.box 41 12 0 [aC g3]]
theorem goH9 {e:Nat}{b:Bool}{n:Int}{d0 d1 d2 d3 d4:Nat}{v:Vt}{x:Rw}{r0 r1 r2:Nat}{w o:Vt}{g1 g2 g3:Ag}{X:Option (Out×Heap)}{z0 z1 z2 z3 z4 z5 z6 z7 z8:List (List AV)}(h:X=some (Out.jump (.exit e) [vbool b,vi n],H9 d0 d1 d2 d3 d4 v x r0 r1 r2 w o g1 g2 g3)) (K:Bool→Int→Int→Int→Int→Int→Int→Int→Int→Int→Int→Int→List (List AV)→Bool→List (List AV)→Int→Int→Int→Int→Int→Int→List (List AV)→List (List AV)→Bool→Int→Int→Int→Int→Int→Int→Int→Int→Int→List (List AV)→Bool→List (List AV)→Int→Int→Int→Int→Int→Int→List (List AV)→Bool→List (List AV)→Int→Bool→List (List AV)→Int→Int→Int→Int→Int→Int→List (List AV)→Bool→List (List AV)→Int→Bool→List (List AV)→Int→Int→Int→Int→Int→Int→List (List AV)→Bool→List (List AV)→Int→Bool→List (List AV)→Int→Int→Int→Int→Int→Int→List (List AV)→Bool→List (List AV)→Option ρ) (Z:JX×List AV×Heap→Option ρ):(X.bind fun r=>(asJump r).bind fun j=>bif JX.is j.fst (JX.exit e) then(uncons? j.snd.fst).bind fun s0=>(AV.bool? s0.fst).bind fun b=>(uncons? s0.snd).bind fun s1=>(AV.int? .i64 s1.fst).bind fun _=>(nil? s1.snd).bind fun _=>(uncons? j.snd.snd).bind fun h0=>(obIs (Ob.mk OK.box 24 5 0 z0) h0.fst).bind fun _=>(chk h0.fst.ver 0).bind fun _=>(uncons? h0.fst.es).bind fun q0=>(nil? q0.snd).bind fun _=>(uncons? q0.fst).bind fun po0_a=>(AV.int? .u64 po0_a.fst).bind fun o0a=>(uncons? po0_a.snd).bind fun po0_b=>(AV.int? .u64 po0_b.fst).bind fun o0b=>(uncons? po0_b.snd).bind fun po0_c=>(AV.int? .u64 po0_c.fst).bind fun o0c=>(uncons? po0_c.snd).bind fun po0_d=>(AV.int? .u64 po0_d.fst).bind fun o0d=>(uncons? po0_d.snd).bind fun po0_e=>(AV.int? .u64 po0_e.fst).bind fun o0e=>(nil? po0_e.snd).bind fun _=>(uncons? h0.snd).bind fun h1=>(obIs (Ob.mk OK.box 32 9 0 z1) h1.fst).bind fun _=>(chk h1.fst.ver 0).bind fun _=>(uncons? h1.fst.es).bind fun q1=>(nil? q1.snd).bind fun _=>(uncons? q1.fst).bind fun po1_a=>(AV.int? .u64 po1_a.fst).bind fun o1a=>(uncons? po1_a.snd).bind fun po1_b=>(AV.int? .u64 po1_b.fst).bind fun o1b=>(uncons? po1_b.snd).bind fun po1_c=>(AV.int? .u64 po1_c.fst).bind fun o1c=>(uncons? po1_c.snd).bind fun po1_d=>(AV.int? .u64 po1_d.fst).bind fun o1d=>(uncons? po1_d.snd).bind fun po1_e=>(AV.int? .u64 po1_e.fst).bind fun o1e=>(uncons? po1_e.snd).bind fun po1_n=>(AV.int? .i64 po1_n.fst).bind fun o1n=>(uncons? po1_n.snd).bind fun po1_on=>(AV.list? 1 po1_on.fst).bind fun o1on=>(uncons? po1_on.snd).bind fun po1_f=>(AV.bool? po1_f.fst).bind fun o1f=>(uncons? po1_f.snd).bind fun po1_p=>(AV.list? 2 po1_p.fst).bind fun o1p=>(nil? po1_p.snd).bind fun _=>(uncons? h1.snd).bind fun h2=>(obIs (Ob.mk OK.box 35 9 0 z2) h2.fst).bind fun _=>(chk h2.fst.ver 0).bind fun _=>(uncons? h2.fst.es).bind fun q2=>(nil? q2.snd).bind fun _=>(uncons? q2.fst).bind fun po2_a=>(AV.int? .i64 po2_a.fst).bind fun o2a=>(uncons? po2_a.snd).bind fun po2_b=>(AV.int? .i64 po2_b.fst).bind fun o2b=>(uncons? po2_b.snd).bind fun po2_c=>(AV.int? .i64 po2_c.fst).bind fun o2c=>(uncons? po2_c.snd).bind fun po2_d=>(AV.int? .i64 po2_d.fst).bind fun o2d=>(uncons? po2_d.snd).bind fun po2_e=>(AV.int? .i64 po2_e.fst).bind fun o2e=>(uncons? po2_e.snd).bind fun po2_n=>(AV.int? .i64 po2_n.fst).bind fun o2n=>(uncons? po2_n.snd).bind fun po2_on=>(AV.list? 1 po2_on.fst).bind fun o2on=>(uncons? po2_on.snd).bind fun po2_ps=>(AV.list? 1 po2_ps.fst).bind fun o2ps=>(uncons? po2_ps.snd).bind fun po2_bad=>(AV.bool? po2_bad.fst).bind fun o2bad=>(nil? po2_bad.snd).bind fun _=>(uncons? h2.snd).bind fun h3=>(obIs (Ob.mk OK.box 37 3 0 z3) h3.fst).bind fun _=>(chk h3.fst.ver 0).bind fun _=>(uncons? h3.fst.es).bind fun q3=>(nil? q3.snd).bind fun _=>(uncons? q3.fst).bind fun po3_a=>(AV.int? .u64 po3_a.fst).bind fun o3a=>(uncons? po3_a.snd).bind fun po3_b=>(AV.int? .u64 po3_b.fst).bind fun o3b=>(uncons? po3_b.snd).bind fun po3_c=>(AV.int? .u64 po3_c.fst).bind fun o3c=>(nil? po3_c.snd).bind fun _=>(uncons? h3.snd).bind fun h4=>(obIs (Ob.mk OK.box 32 9 0 z4) h4.fst).bind fun _=>(chk h4.fst.ver 0).bind fun _=>(uncons? h4.fst.es).bind fun q4=>(nil? q4.snd).bind fun _=>(uncons? q4.fst).bind fun po4_a=>(AV.int? .u64 po4_a.fst).bind fun o4a=>(uncons? po4_a.snd).bind fun po4_b=>(AV.int? .u64 po4_b.fst).bind fun o4b=>(uncons? po4_b.snd).bind fun po4_c=>(AV.int? .u64 po4_c.fst).bind fun o4c=>(uncons? po4_c.snd).bind fun po4_d=>(AV.int? .u64 po4_d.fst).bind fun o4d=>(uncons? po4_d.snd).bind fun po4_e=>(AV.int? .u64 po4_e.fst).bind fun o4e=>(uncons? po4_e.snd).bind fun po4_n=>(AV.int? .i64 po4_n.fst).bind fun o4n=>(uncons? po4_n.snd).bind fun po4_on=>(AV.list? 1 po4_on.fst).bind fun o4on=>(uncons? po4_on.snd).bind fun po4_f=>(AV.bool? po4_f.fst).bind fun o4f=>(uncons? po4_f.snd).bind fun po4_p=>(AV.list? 2 po4_p.fst).bind fun o4p=>(nil? po4_p.snd).bind fun _=>(uncons? h4.snd).bind fun h5=>(obIs (Ob.mk OK.box 32 9 0 z5) h5.fst).bind fun _=>(chk h5.fst.ver 0).bind fun _=>(uncons? h5.fst.es).bind fun q5=>(nil? q5.snd).bind fun _=>(uncons? q5.fst).bind fun po5_a=>(AV.int? .u64 po5_a.fst).bind fun o5a=>(uncons? po5_a.snd).bind fun po5_b=>(AV.int? .u64 po5_b.fst).bind fun o5b=>(uncons? po5_b.snd).bind fun po5_c=>(AV.int? .u64 po5_c.fst).bind fun o5c=>(uncons? po5_c.snd).bind fun po5_d=>(AV.int? .u64 po5_d.fst).bind fun o5d=>(uncons? po5_d.snd).bind fun po5_e=>(AV.int? .u64 po5_e.fst).bind fun o5e=>(uncons? po5_e.snd).bind fun po5_n=>(AV.int? .i64 po5_n.fst).bind fun o5n=>(uncons? po5_n.snd).bind fun po5_on=>(AV.list? 1 po5_on.fst).bind fun o5on=>(uncons? po5_on.snd).bind fun po5_f=>(AV.bool? po5_f.fst).bind fun o5f=>(uncons? po5_f.snd).bind fun po5_p=>(AV.list? 2 po5_p.fst).bind fun o5p=>(nil? po5_p.snd).bind fun _=>(uncons? h5.snd).bind fun h6=>(obIs (Ob.mk OK.box 41 12 0 z6) h6.fst).bind fun _=>(chk h6.fst.ver 0).bind fun _=>(uncons? h6.fst.es).bind fun q6=>(nil? q6.snd).bind fun _=>(uncons? q6.fst).bind fun po6_by0=>(AV.int? .u64 po6_by0.fst).bind fun o6by0=>(uncons? po6_by0.snd).bind fun po6_g=>(AV.bool? po6_g.fst).bind fun o6g=>(uncons? po6_g.snd).bind fun po6_q=>(AV.list? 2 po6_q.fst).bind fun o6q=>(uncons? po6_q.snd).bind fun po6_a=>(AV.int? .u64 po6_a.fst).bind fun o6a=>(uncons? po6_a.snd).bind fun po6_b=>(AV.int? .u64 po6_b.fst).bind fun o6b=>(uncons? po6_b.snd).bind fun po6_c=>(AV.int? .u64 po6_c.fst).bind fun o6c=>(uncons? po6_c.snd).bind fun po6_d=>(AV.int? .u64 po6_d.fst).bind fun o6d=>(uncons? po6_d.snd).bind fun po6_e=>(AV.int? .u64 po6_e.fst).bind fun o6e=>(uncons? po6_e.snd).bind fun po6_n=>(AV.int? .i64 po6_n.fst).bind fun o6n=>(uncons? po6_n.snd).bind fun po6_on=>(AV.list? 1 po6_on.fst).bind fun o6on=>(uncons? po6_on.snd).bind fun po6_f=>(AV.bool? po6_f.fst).bind fun o6f=>(uncons? po6_f.snd).bind fun po6_p=>(AV.list? 2 po6_p.fst).bind fun o6p=>(nil? po6_p.snd).bind fun _=>(uncons? h6.snd).bind fun h7=>(obIs (Ob.mk OK.box 41 12 0 z7) h7.fst).bind fun _=>(chk h7.fst.ver 0).bind fun _=>(uncons? h7.fst.es).bind fun q7=>(nil? q7.snd).bind fun _=>(uncons? q7.fst).bind fun po7_by0=>(AV.int? .u64 po7_by0.fst).bind fun o7by0=>(uncons? po7_by0.snd).bind fun po7_g=>(AV.bool? po7_g.fst).bind fun o7g=>(uncons? po7_g.snd).bind fun po7_q=>(AV.list? 2 po7_q.fst).bind fun o7q=>(uncons? po7_q.snd).bind fun po7_a=>(AV.int? .u64 po7_a.fst).bind fun o7a=>(uncons? po7_a.snd).bind fun po7_b=>(AV.int? .u64 po7_b.fst).bind fun o7b=>(uncons? po7_b.snd).bind fun po7_c=>(AV.int? .u64 po7_c.fst).bind fun o7c=>(uncons? po7_c.snd).bind fun po7_d=>(AV.int? .u64 po7_d.fst).bind fun o7d=>(uncons? po7_d.snd).bind fun po7_e=>(AV.int? .u64 po7_e.fst).bind fun o7e=>(uncons? po7_e.snd).bind fun po7_n=>(AV.int? .i64 po7_n.fst).bind fun o7n=>(uncons? po7_n.snd).bind fun po7_on=>(AV.list? 1 po7_on.fst).bind fun o7on=>(uncons? po7_on.snd).bind fun po7_f=>(AV.bool? po7_f.fst).bind fun o7f=>(uncons? po7_f.snd).bind fun po7_p=>(AV.list? 2 po7_p.fst).bind fun o7p=>(nil? po7_p.snd).bind fun _=>(uncons? h7.snd).bind fun h8=>(obIs (Ob.mk OK.box 41 12 0 z8) h8.fst).bind fun _=>(chk h8.fst.ver 0).bind fun _=>(uncons? h8.fst.es).bind fun q8=>(nil? q8.snd).bind fun _=>(uncons? q8.fst).bind fun po8_by0=>(AV.int? .u64 po8_by0.fst).bind fun o8by0=>(uncons? po8_by0.snd).bind fun po8_g=>(AV.bool? po8_g.fst).bind fun o8g=>(uncons? po8_g.snd).bind fun po8_q=>(AV.list? 2 po8_q.fst).bind fun o8q=>(uncons? po8_q.snd).bind fun po8_a=>(AV.int? .u64 po8_a.fst).bind fun o8a=>(uncons? po8_a.snd).bind fun po8_b=>(AV.int? .u64 po8_b.fst).bind fun o8b=>(uncons? po8_b.snd).bind fun po8_c=>(AV.int? .u64 po8_c.fst).bind fun o8c=>(uncons? po8_c.snd).bind fun po8_d=>(AV.int? .u64 po8_d.fst).bind fun o8d=>(uncons? po8_d.snd).bind fun po8_e=>(AV.int? .u64 po8_e.fst).bind fun o8e=>(uncons? po8_e.snd).bind fun po8_n=>(AV.int? .i64 po8_n.fst).bind fun o8n=>(uncons? po8_n.snd).bind fun po8_on=>(AV.list? 1 po8_on.fst).bind fun o8on=>(uncons? po8_on.snd).bind fun po8_f=>(AV.bool? po8_f.fst).bind fun o8f=>(uncons? po8_f.snd).bind fun po8_p=>(AV.list? 2 po8_p.fst).bind fun o8p=>(nil? po8_p.snd).bind fun _=>(nil? h8.snd).bind fun _=>K b o0a o0b o0c o0d o0e o1a o1b o1c o1d o1e o1n o1on o1f o1p o2a o2b o2c o2d o2e o2n o2on o2ps o2bad o3a o3b o3c o4a o4b o4c o4d o4e o4n o4on o4f o4p o5a o5b o5c o5d o5e o5n o5on o5f o5p o6by0 o6g o6q o6a o6b o6c o6d o6e o6n o6on o6f o6p o7by0 o7g o7q o7a o7b o7c o7d o7e o7n o7on o7f o7p o8by0 o8g o8q o8a o8b o8c o8d o8e o8n o8on o8f o8p else Z j)=K b d0 d1 d2 d3 d4 v.a v.b v.c v.d v.e v.n (ints v.on) v.f (prs v.p) x.a x.b x.c x.d x.e x.n (ints x.on) (ints x.ps) x.bad r0 r1 r2 w.a w.b w.c w.d w.e w.n (ints w.on) w.f (prs w.p) o.a o.b o.c o.d o.e o.n (ints o.on) o.f (prs o.p) g1.by0 g1.g (prs g1.q) g1.v.a g1.v.b g1.v.c g1.v.d g1.v.e g1.v.n (ints g1.v.on) g1.v.f (prs g1.v.p) g2.by0 g2.g (prs g2.q) g2.v.a g2.v.b g2.v.c g2.v.d g2.v.e g2.v.n (ints g2.v.on) g2.v.f (prs g2.v.p) g3.by0 g3.g (prs g3.q) g3.v.a g3.v.b g3.v.c g3.v.d g3.v.e g3.v.n (ints g3.v.on) g3.v.f (prs g3.v.p):=by
 rw [h]
 show(bif Nat.beq e e then _ else _)=_
 rw [Nat.beq_refl]
 rfl
end
abbrev K0:Key:=Key.loop 3 [true,true,true,true,true,true,true,true,true,true,true,false,true,false]
abbrev K1:Key:=Key.loop 3 [true,true,true,true,true,true,true,true,true,true,true,true,false,true,false]
abbrev K2:Key:=Key.loop 3 [true,true,true,true,true,true,true,true,true,true,true,true,true,true,true,true,false,true,false]
theorem unv_len (y:B):(unvR y).1.on.length≤4000000∧(unvR y).1.p.length≤4000000:=by
 by_cases h:(unvR y).2=0
 ·obtain⟨v1,_⟩:=vote_unv h
  have e1:=right_len v1.right
  have e2:=rightT_len v1.tok
  exact⟨by omega,by omega⟩
 ·have:=(c98 y).2 h
  rw [this.2]
  exact⟨by simp [v0],by simp [v0]⟩
theorem una_len (y:B):(unaR y).1.q.length≤4000000∧(unaR y).1.v.on.length≤4000000∧(unaR y).1.v.p.length≤4000000:=by
 have z:a0.q.length≤4000000∧a0.v.on.length≤4000000∧a0.v.p.length≤4000000:=by simp [a0,v0]
 by_cases h1:(splitR y 8 2).2.2≠0
 ·rw [unaR_1 h1];exact z
 rw [unaR_2 h1]
 by_cases h2:(decR (piece y 8 2 0)).2.2≠0
 ·rw [unaP_1 h2];exact z
 by_cases h3:(unvR (piece y 8 2 1)).2≠0
 ·rw [unaP_2 h2 h3];exact z
 rw [unaP_3 h2 h3]
 obtain⟨d1,_⟩:=decR_right (l:=piece y 8 2 0) (f:=(decR (piece y 8 2 0)).1) (q:=(decR (piece y 8 2 0)).2.1) (by
  have h2':(decR (piece y 8 2 0)).2.2=0:=by simpa using h2
  rw [←h2'])
 have e1:=rightT_len d1
 exact⟨by simp only;omega,unv_len _⟩
section
variable (b b2:Bool) (d0 d1 d2 d3 d4:Nat) (v:Vt) (x:Rw) (r0 r1 r2:Nat) (w o:Vt) (g1 g2 g3:Ag)
theorem loop0 (s:ByteArray) (a c:Int) (T:List Vt) (hT:T.length=2) (hb:∀y∈T,y.on.length≤4000000∧y.p.length≤4000000):∀(rest:List Vt) (i:Nat),T.drop i=rest→i+rest.length=2 →
  E cx K0 [vbool b,vi i,vs s,vi a,vb c,.ptr 0 0 0 0,.ptr 3 0 0 0,vbool b2,.ptr 5 0 0 0,.ptr 6 0 0 0,.ptr 7 0 0 0,.ptr 8 0 0 0,.list 0 9 (T.map vC),vi 2] (H9 d0 d1 d2 d3 d4 v x r0 r1 r2 w o g1 g2 g3)=some (Out.jump (.exit 0) [vbool b,vi 2],H9 d0 d1 d2 d3 d4 v x r0 r1 r2 w o g1 g2 g3)
 | [],i,hd,hi=>by
  have:i=2:=by simpa using hi
  subst this
  exact(f3_l0 ..).trans (goDn (by omega) _ _)
 |y::rest,i,hd,hi=>by
  obtain⟨h1,h2,h3⟩:=drop_cons' hd
  simp only [List.length_cons] at hi
  obtain⟨l1,l2⟩:=hb y (List.mem_of_getElem? h1)
  refine(f3_l0 ..).trans ((goD (by omega) _ _).trans ((goY (by omega) _ _).trans ((goVr rfl h1 _).trans ((goJn (c26 y l1 l2) _).trans ((goJn (c9 y l1 l2) _).trans ((goQn rfl _ _).trans ((goE rfl _ _).trans ?_)))))))
  rw [wS (by omega)]
  exact loop0 s a c T hT hb rest (i+1) h2 (by omega)
theorem loop1 (s:ByteArray) (a c:Int) (T:List Ag) (hT:T.length=3) (hb:∀y∈T,y.q.length≤4000000∧y.v.on.length≤4000000∧y.v.p.length≤4000000):∀(rest:List Ag) (i:Nat),T.drop i=rest→i+rest.length=3 →
  E cx K1 [vbool b,vi i,vs s,vi a,vb c,.ptr 0 0 0 0,.ptr 3 0 0 0,vbool b2,.ptr 5 0 0 0,.ptr 6 0 0 0,.list 0 12 (T.map aC),vi 3] (H9 d0 d1 d2 d3 d4 v x r0 r1 r2 w o g1 g2 g3)=some (Out.jump (.exit 2) [vbool b,vi 3],H9 d0 d1 d2 d3 d4 v x r0 r1 r2 w o g1 g2 g3)
 | [],i,hd,hi=>by
  have:i=3:=by simpa using hi
  subst this
  exact(f3_l1 ..).trans (goDn (by omega) _ _)
 |y::rest,i,hd,hi=>by
  obtain⟨h1,h2,h3⟩:=drop_cons' hd
  simp only [List.length_cons] at hi
  obtain⟨l0,l1,l2⟩:=hb y (List.mem_of_getElem? h1)
  refine(f3_l1 ..).trans ((goD (by omega) _ _).trans ((goY (by omega) _ _).trans ((goAr rfl h1 _).trans ((goJn (c29 y l0 l1 l2) _).trans ((goJn (c11 y l0 l1 l2) _).trans ((goQn rfl _ _).trans ((goE rfl _ _).trans ?_)))))))
  rw [wS (by omega)]
  exact loop1 s a c T hT hb rest (i+1) h2 (by omega)
theorem loop2 (T:List B) (hT:T.length=9):∀(rest:List B) (i:Nat),T.drop i=rest→i+rest.length=9 →
  E cx K2 [vbool b,vi i,.ptr 0 0 0 0,.ptr 3 0 0 0,vbool b2,.list 0 1 (rowsB T),vi 9] (H9 d0 d1 d2 d3 d4 v x r0 r1 r2 w o g1 g2 g3)=some (Out.jump (.exit 4) [vbool b,vi 9],H9 d0 d1 d2 d3 d4 v x r0 r1 r2 w o g1 g2 g3)
 | [],i,hd,hi=>by
  have:i=9:=by simpa using hi
  subst this
  exact(f3_l2 ..).trans (goDn (by omega) _ _)
 |y::rest,i,hd,hi=>by
  obtain⟨h1,h2,h3⟩:=drop_cons' hd
  simp only [List.length_cons] at hi
  obtain⟨l1,l2⟩:=unv_len y
  obtain⟨m0,m1,m2⟩:=una_len y
  have hdc:∀(n:Int),decide (n=n)=true:=fun n=>decide_eq_true rfl
  refine(f3_l2 ..).trans ((goD (by omega) _ _).trans ((goY (by omega) _ _).trans ((goP rfl h1 _).trans ((goVT (c27 y) _).trans ((goVT (c15 y) _).trans ((goAT (c30 y) _).trans ((goAT (c17 y) _).trans ((goRT (c31 y) _).trans ((goRT (c19 y) _).trans ?_)))))))))
  refine(goE rfl _ _).trans ((goT ((c33 (unvR y).1 (unvR y).1 l1 l2).t rfl) _ _).trans ((goE rfl _ _).trans ((goT ((c34 (unaR y).1 (unaR y).1 m0 m1 m2).t rfl) _ _).trans ?_)))
  rw [hdc,hdc,hdc]
  refine(goE rfl _ _).trans ?_
  rw [wS (by omega)]
  exact loop2 T hT rest (i+1) h2 (by omega)
end
theorem min_cut (n m:Nat):∃k:Nat,(if(n:Int)<(m:Int) then(n:Int) else(m:Int))=k∧k≤m∧k≤n:=by
 by_cases h:(n:Int)<(m:Int)
 ·exact⟨n,by rw [if_pos h],by omega,Nat.le_refl _⟩
 ·exact⟨m,by rw [if_neg h],Nat.le_refl _,by omega⟩
def cutV (v:Vt) (i j:Nat):Vt:=⟨v.a,v.b,v.c,v.d,v.e,v.n,v.on.take i,v.f,v.p.take j⟩
theorem c3 (d0 d1 d2 d3 d4:Nat) (v:Vt) (x:Rw) (hx:RwOk x) {by':Int}(hb:RI by') (q:List Int) (hq:∀r∈q,RI r) (r0 r1 r2:Nat) (s:B) {a:Int}(ha:RI a) (c:UInt8) :
  E cx (Key.fn 3) [.agg [vu d0,vu d1,vu d2,vu d3,vu d4],.agg (vC v),.agg (rC x),vi by',.list 0 1 (ints q),.agg [vu r0,vu r1,vu r2],vs (mk s),vi a,vb c.toNat] []=rb true:=by
 obtain⟨lx1,lx2⟩:=raw_on x
 obtain⟨ao,asz⟩:=rawA_ok x by' q
 have vsz:=raw_size x
 have la0:(rawA x by' q).q.length≤4000000:=by have:=tokP_len q;show(tokP q).length≤_;omega
 obtain⟨i,hi,i1,i2⟩:=min_cut 40 (ints v.on).length
 obtain⟨j,hj,j1,j2⟩:=min_cut 40 (prs v.p).length
 have hi':(if 40<(((ints v.on).length:Nat):Int) then(40:Int) else(((ints v.on).length:Nat):Int))=i:=hi
 have hj':(if 40<(((prs v.p).length:Nat):Int) then(40:Int) else(((prs v.p).length:Nat):Int))=j:=hj
 refine(f3 d0 d1 d2 d3 d4 v.a v.b v.c v.d v.e v.n (ints v.on) v.f (prs v.p) x.a x.b x.c x.d x.e x.n (ints x.on) (ints x.ps) x.bad by' (ints q) r0 r1 r2 (mk s) a c.toNat).trans ?_
 rw [hi',hj',Int.toNat_natCast,Int.toNat_natCast,ints_take,prs_take,List.drop_zero,List.drop_zero]
 refine(goY (by omega) _ _).trans ((goY (by omega) _ _).trans ((goY (by omega) _ _).trans ((goY (by omega) _ _).trans ((goV (c25 x hx) _).trans ((goAg (c28 x hx hb q hq) _).trans ?_)))))
 have w1:(cutV v i j).on.length≤4000000∧(cutV v i j).p.length≤4000000:=⟨by show(v.on.take i).length≤_;rw [List.length_take];omega,by show(v.p.take j).length≤_;rw [List.length_take];omega⟩
 have l0:=loop0 false true d0 d1 d2 d3 d4 v x r0 r1 r2 (cutV v i j) (rawV x) (rawA x by' q) ⟨(rawA x by' q).by0,(rawA x by' q).g,(rawA x by' q).q,cutV v i j⟩ ⟨(rawA x by' q).by0,v.f,v.p.take j,rawV x⟩ (mk s) a c.toNat [cutV v i j,rawV x] rfl (by
  intro y hy
  rcases List.mem_cons.1 hy with rfl |hy
  ·exact w1
  ·rcases List.mem_cons.1 hy with rfl |hy
   ·exact⟨lx1,lx2⟩
   ·cases hy) _ 0 rfl rfl
 refine(goH9 l0 _ _).trans ?_
 have l1:=loop1 false true d0 d1 d2 d3 d4 v x r0 r1 r2 (cutV v i j) (rawV x) (rawA x by' q) ⟨(rawA x by' q).by0,(rawA x by' q).g,(rawA x by' q).q,cutV v i j⟩ ⟨(rawA x by' q).by0,v.f,v.p.take j,rawV x⟩ (mk s) a c.toNat [rawA x by' q,⟨(rawA x by' q).by0,(rawA x by' q).g,(rawA x by' q).q,cutV v i j⟩,⟨(rawA x by' q).by0,v.f,v.p.take j,rawV x⟩] rfl (by
  intro y hy
  rcases List.mem_cons.1 hy with rfl |hy
  ·exact⟨la0,lx1,lx2⟩
  ·rcases List.mem_cons.1 hy with rfl |hy
   ·exact⟨la0,w1⟩
   ·rcases List.mem_cons.1 hy with rfl |hy
    ·exact⟨w1.2,lx1,lx2⟩
    ·cases hy) _ 0 rfl rfl
 refine(goH9 l1 _ _).trans ?_
 have k9:=c9 (rawV x) lx1 lx2
 rw [voteR_ok (raw_ok x).right (raw_ok x).tok] at k9
 have k11:=c11 (rawA x by' q) la0 lx1 lx2
 rw [aggR_ok ao] at k11
 have sz:∀l:B,((ByteArray.size (mk l):Nat):Int)=(l.length:Int):=fun _=>rfl
 obtain⟨m,hm,m1,m2⟩:=min_cut 200 s.length
 have hm':(if 200<((ByteArray.size (mk s):Nat):Int) then(200:Int) else((ByteArray.size (mk s):Nat):Int))=m:=hm
 refine(goJn k9 _).trans ((goJn k11 _).trans ?_)
 rw [hm',Int.toNat_natCast,ext_mk,List.drop_zero]
 obtain⟨k,hk,k1,k2⟩:=min_cut 24 (s.take m).length
 have hk':(if 24<((ByteArray.size (mk (s.take m)):Nat):Int) then(24:Int) else((ByteArray.size (mk (s.take m)):Nat):Int))=k:=hk
 have lt:(s.take m).length≤200:=by rw [List.length_take];omega
 have hp9:=pickI_lt (c:=a) (n:=9) (by omega)
 refine(goY (by omega) _ _).trans ((goY (by rw [sz];omega) _ _).trans ((goS (c35 (voteB (rawV x)) (by omega) a ha c) _).trans ?_))
 rw [app_mk]
 refine(goN (show ¬(((voteB (rawV x)).length+(s.take m).length:Nat):Int)>9223372036854775807 by omega) _ _).trans ((goS (c35 (aggB (rawA x by' q)) (by omega) a ha c) _).trans ?_)
 rw [hk',Int.toNat_natCast,ext_mk,List.drop_zero]
 refine(goY (by omega) _ _).trans ((goY (by rw [sz];omega) _ _).trans ((goI (c95 ha (by omega)) _).trans ?_))
 rw [wr_add (a:=40) (by omega) (by omega)]
 refine(goS (c35 (voteB (rawV x)) (by omega) _ ⟨by omega,by omega⟩ c) _).trans ((goI (c95 ha (by omega)) _).trans ?_)
 rw [wr_add (a:=8) (by omega) (by omega)]
 refine(goS (c35 (aggB (rawA x by' q)) (by omega) _ ⟨by omega,by omega⟩ c) _).trans ?_
 have l2:=loop2 false true d0 d1 d2 d3 d4 v x r0 r1 r2 (cutV v i j) (rawV x) (rawA x by' q) ⟨(rawA x by' q).by0,(rawA x by' q).g,(rawA x by' q).q,cutV v i j⟩ ⟨(rawA x by' q).by0,v.f,v.p.take j,rawV x⟩
  [s.take m,voteB (rawV x),trn (voteB (rawV x)) a c,voteB (rawV x)++s.take m,aggB (rawA x by' q),trn (aggB (rawA x by' q)) a c,(s.take m).take k,trn (voteB (rawV x)) (40+pickI a 9) c,trn (aggB (rawA x by' q)) (8+pickI a 9) c] rfl _ 0 rfl rfl
 refine(goH9 l2 _ _).trans ((goU (c22r d0 d1 d2 d3 d4) _).trans ((goU (c23r d0 d1 d2 d3 d4) _).trans ((goD rfl _ _).trans ((goS (c32 r0 r1 r2) _).trans ((goS (c25r r0 r1 r2) _).trans (goQ rfl _ _))))))
end Go.Proofs.Av
