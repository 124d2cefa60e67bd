/- Trees of the sort of uint64. -/
import Derived.Test.YtoepfmodbhfckaaAiX
set_option maxRecDepth 100000
namespace Go.Proofs.Av
open Go
open Option renaming bind→Ω
open Go.IntKind renaming i64→ı
open Go.IntKind renaming u64→υ
open Go.IntKind renaming wrap→ω
open Int renaming toNat→τ
theorem f161:∀(n0:Nat) (x1:List (List AV)),E cx (Key.own 161) [AV.arr 0 1 0 n0] [Ob.mk OK.arr 26 1 1 x1]=Ω (E cx (Key.fn 151) [vu (ω υ (n0:Int))] []) fun r2↦Ω (ret1 r2) fun v3↦Ω (AV.int? ı v3) fun n4↦Ω (E cx (Key.own 187) [AV.arr 0 1 0 n0,vi 0,vi (n0:Int),vi n4] [Ob.mk OK.arr 26 1 1 x1]) fun r5↦Ω (asRet r5) fun x6↦Ω (AV.tup? x6.fst) fun vs7↦Ω (nil? vs7) fun _↦Ω (uncons? x6.snd) fun p9↦Ω (obIs (Ob.mk OK.arr 26 1 1 []) p9.fst) fun _↦Ω (chk p9.fst.ver 1) fun _↦Ω (nil? p9.snd) fun _↦some (Out.ret (AV.tuple []),[Ob.mk OK.arr 26 1 1 p9.fst.es]):=by
 intros
 exact(E_in [188,142] _ _ _).trans (by kernel_rfl)
theorem f197:∀(n13:Nat) (data14:List (List AV)) (a15 b16:Int),E cx (Key.own 197) [AV.arr 0 1 0 n13,vi a15,vi b16] [Ob.mk OK.arr 26 1 1 data14]=Ω (E cx (Key.loop 197 [true,false]) [vi (ω ı (Int.add a15 1)),AV.arr 0 1 0 n13,vi a15,vi b16] [Ob.mk OK.arr 26 1 1 data14]) fun r17↦Ω (asJump r17) fun j18↦bif JX.is j18.fst (JX.exit 0) then Ω (uncons? j18.snd.fst) fun p19↦Ω (AV.int? ı p19.fst) fun _↦Ω (nil? p19.snd) fun _↦Ω (uncons? j18.snd.snd) fun p22↦Ω (obIs (Ob.mk OK.arr 26 1 1 data14) p22.fst) fun _↦Ω (chk p22.fst.ver 1) fun _↦Ω (nil? p22.snd) fun _↦some (Out.ret (AV.tuple []),[Ob.mk OK.arr 26 1 1 p22.fst.es]) else none:=by
 intros
 exact(E_in [188,142] _ _ _).trans (by kernel_rfl)
theorem f197_l0:∀(x26:Int) (n27:Nat) (x28 x29:Int) (l30:List (List AV)),E cx (Key.loop 197 [true,false]) [vi x26,AV.arr 0 1 0 n27,vi x28,vi x29] [Ob.mk OK.arr 26 1 1 l30]=bif decide (x26<x29) then Ω (E cx (Key.loop 197 [true,false,false,true,false,false,true,false]) [vi x26,AV.arr 0 1 0 n27,vi x28,vi x29,vi x26] [Ob.mk OK.arr 26 1 1 l30]) fun r31↦Ω (asJump r31) fun j32↦bif JX.is j32.fst (JX.exit 2) then Ω (uncons? j32.snd.fst) fun p33↦Ω (AV.int? ı p33.fst) fun _↦Ω (nil? p33.snd) fun _↦Ω (uncons? j32.snd.snd) fun p36↦Ω (obIs (Ob.mk OK.arr 26 1 1 l30) p36.fst) fun _↦Ω (chk p36.fst.ver 1) fun _↦Ω (nil? p36.snd) fun _↦E cx (Key.loop 197 [true,false]) [vi (ω ı (Int.add x26 1)),AV.arr 0 1 0 n27,vi x28,vi x29] [Ob.mk OK.arr 26 1 1 p36.fst.es] else none else some (Out.jump (JX.exit 0) [vi x26],[Ob.mk OK.arr 26 1 1 l30]):=by
 intros
 exact(E_in [188,142] _ _ _).trans (by kernel_rfl)
theorem f197_l0_l1:∀(x40:Int) (n41:Nat) (x42 x43 x44:Int) (l45:List (List AV)),E cx (Key.loop 197 [true,false,false,true,false,false,true,false]) [vi x40,AV.arr 0 1 0 n41,vi x42,vi x43,vi x44] [Ob.mk OK.arr 26 1 1 l45]=bif decide (x40>x42) then if 0≤x40 then if x40<(n41:Int) then Ω (nth l45 (Nat.add 0 (τ x40))) fun cs46↦Ω (uncons? cs46) fun p47↦Ω (AV.int? υ p47.fst) fun n48↦Ω (nil? p47.snd) fun _↦if 0≤ω ı (Int.sub x40 1) then if ω ı (Int.sub x40 1)<(n41:Int) then Ω (nth l45 (Nat.add 0 (τ (ω ı (Int.sub x40 1))))) fun cs50↦Ω (uncons? cs50) fun p51↦Ω (AV.int? υ p51.fst) fun n52↦Ω (nil? p51.snd) fun _↦Ω (E cx (Key.fn 203) [vu n48,vu n52] []) fun r54↦Ω (ret1 r54) fun v55↦Ω (AV.bool? v55) fun b56↦bif b56 then if 0≤ω ı (Int.sub x40 1) then if ω ı (Int.sub x40 1)<(n41:Int) then Ω (nth l45 (Nat.add 0 (τ (ω ı (Int.sub x40 1))))) fun cs57↦Ω (uncons? cs57) fun p58↦Ω (AV.int? υ p58.fst) fun n59↦Ω (nil? p58.snd) fun _↦if 0≤x40 then if x40<(n41:Int) then Ω (nth l45 (Nat.add 0 (τ x40))) fun cs61↦Ω (uncons? cs61) fun p62↦Ω (AV.int? υ p62.fst) fun n63↦Ω (nil? p62.snd) fun _↦if 0≤x40 then if x40<(n41:Int) then Ω (nth l45 (Nat.add 0 (τ x40))) fun cs65↦Ω (uncons? cs65) fun p66↦Ω (AV.int? υ p66.fst) fun _↦Ω (nil? p66.snd) fun _↦if 0≤ω ı (Int.sub x40 1) then if ω ı (Int.sub x40 1)<(n41:Int) then Ω (nth (List.set l45 (Nat.add 0 (τ x40)) [vu n59]) (Nat.add 0 (τ (ω ı (Int.sub x40 1))))) fun cs69↦Ω (uncons? cs69) fun p70↦Ω (AV.int? υ p70.fst) fun _↦Ω (nil? p70.snd) fun _↦E cx (Key.loop 197 [true,false,false,true,false,false,true,false]) [vi (ω ı (Int.sub x40 1)),AV.arr 0 1 0 n41,vi x42,vi x43,vi x44] [Ob.mk OK.arr 26 1 1 (List.set (List.set l45 (Nat.add 0 (τ x40)) [vu n59]) (Nat.add 0 (τ (ω ı (Int.sub x40 1)))) [vu n63])] else none else none else none else none else none else none else none else none else some (Out.jump (JX.exit 2) [vi x40],[Ob.mk OK.arr 26 1 1 l45]) else none else none else none else none else some (Out.jump (JX.exit 2) [vi x40],[Ob.mk OK.arr 26 1 1 l45]):=by
 intros
 exact(E_in [188,142] _ _ _).trans (by kernel_rfl)
theorem f198:∀(n73:Nat) (data74:List (List AV)) (a75 b76:Int),E cx (Key.own 198) [AV.arr 0 1 0 n73,vi a75,vi b76] [Ob.mk OK.arr 26 1 1 data74]=Ω (E cx (Key.loop 198 [true,true,true,false,true,false]) [vi (ω ı (Int.tdiv (ω ı (Int.sub (ω ı (Int.sub b76 a75)) 1)) 2)),AV.arr 0 1 0 n73,vi a75,vi 0,vi (ω ı (Int.sub b76 a75))] [Ob.mk OK.arr 26 1 1 data74]) fun r77↦Ω (asJump r77) fun j78↦bif JX.is j78.fst (JX.exit 0) then Ω (uncons? j78.snd.fst) fun p79↦Ω (AV.int? ı p79.fst) fun _↦Ω (nil? p79.snd) fun _↦Ω (uncons? j78.snd.snd) fun p82↦Ω (obIs (Ob.mk OK.arr 26 1 1 data74) p82.fst) fun _↦Ω (chk p82.fst.ver 1) fun _↦Ω (nil? p82.snd) fun _↦Ω (E cx (Key.loop 198 [true,true,true,true,true,false]) [vi (ω ı (Int.sub (ω ı (Int.sub b76 a75)) 1)),AV.arr 0 1 0 n73,vi a75,vi 0] [Ob.mk OK.arr 26 1 1 p82.fst.es]) fun r86↦Ω (asJump r86) fun j87↦bif JX.is j87.fst (JX.exit 2) then Ω (uncons? j87.snd.fst) fun p88↦Ω (AV.int? ı p88.fst) fun _↦Ω (nil? p88.snd) fun _↦Ω (uncons? j87.snd.snd) fun p91↦Ω (obIs (Ob.mk OK.arr 26 1 1 p82.fst.es) p91.fst) fun _↦Ω (chk p91.fst.ver 1) fun _↦Ω (nil? p91.snd) fun _↦some (Out.ret (AV.tuple []),[Ob.mk OK.arr 26 1 1 p91.fst.es]) else none else none:=by
 intros
 exact(E_in [188,142] _ _ _).trans (by kernel_rfl)
theorem f198_l0:∀(x95:Int) (n96:Nat) (x97 x98 x99:Int) (l100:List (List AV)),E cx (Key.loop 198 [true,true,true,false,true,false]) [vi x95,AV.arr 0 1 0 n96,vi x97,vi x98,vi x99] [Ob.mk OK.arr 26 1 1 l100]=bif decide (x95≥0) then Ω (E cx (Key.own 208) [AV.arr 0 1 0 n96,vi x95,vi x99,vi x97] [Ob.mk OK.arr 26 1 1 l100]) fun r101↦Ω (asRet r101) fun x102↦Ω (AV.tup? x102.fst) fun vs103↦Ω (nil? vs103) fun _↦Ω (uncons? x102.snd) fun p105↦Ω (obIs (Ob.mk OK.arr 26 1 1 []) p105.fst) fun _↦Ω (chk p105.fst.ver 1) fun _↦Ω (nil? p105.snd) fun _↦E cx (Key.loop 198 [true,true,true,false,true,false]) [vi (ω ı (Int.sub x95 1)),AV.arr 0 1 0 n96,vi x97,vi x98,vi x99] [Ob.mk OK.arr 26 1 1 p105.fst.es] else some (Out.jump (JX.exit 0) [vi x95],[Ob.mk OK.arr 26 1 1 l100]):=by
 intros
 exact(E_in [188,142] _ _ _).trans (by kernel_rfl)
theorem f198_l1:∀(x109:Int) (n110:Nat) (x111 x112:Int) (l113:List (List AV)),E cx (Key.loop 198 [true,true,true,true,true,false]) [vi x109,AV.arr 0 1 0 n110,vi x111,vi x112] [Ob.mk OK.arr 26 1 1 l113]=bif decide (x109≥0) then if 0≤ω ı (Int.add x111 x109) then if ω ı (Int.add x111 x109)<(n110:Int) then Ω (nth l113 (Nat.add 0 (τ (ω ı (Int.add x111 x109))))) fun cs114↦Ω (uncons? cs114) fun p115↦Ω (AV.int? υ p115.fst) fun n116↦Ω (nil? p115.snd) fun _↦if 0≤x111 then if x111<(n110:Int) then Ω (nth l113 (Nat.add 0 (τ x111))) fun cs118↦Ω (uncons? cs118) fun p119↦Ω (AV.int? υ p119.fst) fun n120↦Ω (nil? p119.snd) fun _↦if 0≤x111 then if x111<(n110:Int) then Ω (nth l113 (Nat.add 0 (τ x111))) fun cs122↦Ω (uncons? cs122) fun p123↦Ω (AV.int? υ p123.fst) fun _↦Ω (nil? p123.snd) fun _↦if 0≤ω ı (Int.add x111 x109) then if ω ı (Int.add x111 x109)<(n110:Int) then Ω (nth (List.set l113 (Nat.add 0 (τ x111)) [vu n116]) (Nat.add 0 (τ (ω ı (Int.add x111 x109))))) fun cs126↦Ω (uncons? cs126) fun p127↦Ω (AV.int? υ p127.fst) fun _↦Ω (nil? p127.snd) fun _↦Ω (E cx (Key.own 208) [AV.arr 0 1 0 n110,vi x112,vi x109,vi x111] [Ob.mk OK.arr 26 1 1 (List.set (List.set l113 (Nat.add 0 (τ x111)) [vu n116]) (Nat.add 0 (τ (ω ı (Int.add x111 x109)))) [vu n120])]) fun r130↦Ω (asRet r130) fun x131↦Ω (AV.tup? x131.fst) fun vs132↦Ω (nil? vs132) fun _↦Ω (uncons? x131.snd) fun p134↦Ω (obIs (Ob.mk OK.arr 26 1 1 []) p134.fst) fun _↦Ω (chk p134.fst.ver 1) fun _↦Ω (nil? p134.snd) fun _↦E cx (Key.loop 198 [true,true,true,true,true,false]) [vi (ω ı (Int.sub x109 1)),AV.arr 0 1 0 n110,vi x111,vi x112] [Ob.mk OK.arr 26 1 1 p134.fst.es] else none else none else none else none else none else none else none else none else some (Out.jump (JX.exit 2) [vi x109],[Ob.mk OK.arr 26 1 1 l113]):=by
 intros
 exact(E_in [188,142] _ _ _).trans (by kernel_rfl)
theorem f199:∀(n138:Nat) (data139:List (List AV)) (a140 b141:Int),E cx (Key.own 199) [AV.arr 0 1 0 n138,vi a140,vi b141] [Ob.mk OK.arr 26 1 1 data139]=bif decide (ω ı (Int.sub b141 a140)≥8) then Ω (E cx (Key.fn 190) [vi (ω ı (Int.sub b141 a140))] []) fun r142↦Ω (ret1 r142) fun v143↦Ω (AV.int? υ v143) fun n144↦Ω (E cx (Key.loop 199 [true,true,false,true,true,true,false]) [vi (ω ı (Int.sub (ω ı (Int.add a140 (ω ı (Int.mul (ω ı (Int.tdiv (ω ı (Int.sub b141 a140)) 4)) 2)))) 1)),AV.arr 0 1 0 n138,vi a140,vi (ω ı (Int.sub b141 a140)),AV.ptr 1 0 0 0,vu n144] [Ob.mk OK.arr 26 1 1 data139,Ob.mk OK.box 222 1 0 [[vu (ω υ (ω ı (Int.sub b141 a140)))]]]) fun r145↦Ω (asJump r145) fun j146↦bif JX.is j146.fst (JX.exit 0) then Ω (uncons? j146.snd.fst) fun p147↦Ω (AV.int? ı p147.fst) fun _↦Ω (nil? p147.snd) fun _↦Ω (uncons? j146.snd.snd) fun p150↦Ω (obIs (Ob.mk OK.arr 26 1 1 data139) p150.fst) fun _↦Ω (chk p150.fst.ver 1) fun _↦Ω (uncons? p150.snd) fun p153↦Ω (obIs (Ob.mk OK.box 222 1 0 [[vu (ω υ (ω ı (Int.sub b141 a140)))]]) p153.fst) fun _↦Ω (chk p153.fst.ver 0) fun _↦Ω (uncons? p153.fst.es) fun p156↦Ω (nil? p156.snd) fun _↦Ω (uncons? p156.fst) fun p158↦Ω (AV.int? υ p158.fst) fun _↦Ω (nil? p158.snd) fun _↦Ω (nil? p153.snd) fun _↦some (Out.ret (AV.tuple []),[Ob.mk OK.arr 26 1 1 p150.fst.es]) else none else some (Out.ret (AV.tuple []),[Ob.mk OK.arr 26 1 1 data139]):=by
 intros
 exact(E_in [188,142] _ _ _).trans (by kernel_rfl)
theorem f199_l0:∀(x162:Int) (n163:Nat) (x164 x165 x166:Int) (l167:List (List AV)) (x168:Int),E cx (Key.loop 199 [true,true,false,true,true,true,false]) [vi x162,AV.arr 0 1 0 n163,vi x164,vi x165,AV.ptr 1 0 0 0,vu x166] [Ob.mk OK.arr 26 1 1 l167,Ob.mk OK.box 222 1 0 [[vu x168]]]=bif decide (x162≤ω ı (Int.add (ω ı (Int.add x164 (ω ı (Int.mul (ω ı (Int.tdiv x165 4)) 2)))) 1)) then Ω (E cx (Key.own 191) [AV.ptr 0 0 0 0] [Ob.mk OK.box 222 1 0 [[vu x168]]]) fun r169↦Ω (asRet r169) fun x170↦Ω (AV.int? υ x170.fst) fun n171↦Ω (uncons? x170.snd) fun p172↦Ω (obIs (Ob.mk OK.box 222 1 0 [[vu x168]]) p172.fst) fun _↦Ω (chk p172.fst.ver 0) fun _↦Ω (uncons? p172.fst.es) fun p175↦Ω (nil? p175.snd) fun _↦Ω (uncons? p175.fst) fun p177↦Ω (AV.int? υ p177.fst) fun n178↦Ω (nil? p177.snd) fun _↦Ω (nil? p172.snd) fun _↦bif decide (ω ı (iand υ n171 (ω υ (Int.sub x166 1)))≥x165) then if 0≤ω ı (Int.add x164 (ω ı (Int.sub (ω ı (iand υ n171 (ω υ (Int.sub x166 1)))) x165))) then if ω ı (Int.add x164 (ω ı (Int.sub (ω ı (iand υ n171 (ω υ (Int.sub x166 1)))) x165)))<(n163:Int) then Ω (nth l167 (Nat.add 0 (τ (ω ı (Int.add x164 (ω ı (Int.sub (ω ı (iand υ n171 (ω υ (Int.sub x166 1)))) x165))))))) fun cs181↦Ω (uncons? cs181) fun p182↦Ω (AV.int? υ p182.fst) fun n183↦Ω (nil? p182.snd) fun _↦if 0≤x162 then if x162<(n163:Int) then Ω (nth l167 (Nat.add 0 (τ x162))) fun cs185↦Ω (uncons? cs185) fun p186↦Ω (AV.int? υ p186.fst) fun n187↦Ω (nil? p186.snd) fun _↦if 0≤x162 then if x162<(n163:Int) then Ω (nth l167 (Nat.add 0 (τ x162))) fun cs189↦Ω (uncons? cs189) fun p190↦Ω (AV.int? υ p190.fst) fun _↦Ω (nil? p190.snd) fun _↦if 0≤ω ı (Int.add x164 (ω ı (Int.sub (ω ı (iand υ n171 (ω υ (Int.sub x166 1)))) x165))) then if ω ı (Int.add x164 (ω ı (Int.sub (ω ı (iand υ n171 (ω υ (Int.sub x166 1)))) x165)))<(n163:Int) then Ω (nth (List.set l167 (Nat.add 0 (τ x162)) [vu n183]) (Nat.add 0 (τ (ω ı (Int.add x164 (ω ı (Int.sub (ω ı (iand υ n171 (ω υ (Int.sub x166 1)))) x165))))))) fun cs193↦Ω (uncons? cs193) fun p194↦Ω (AV.int? υ p194.fst) fun _↦Ω (nil? p194.snd) fun _↦E cx (Key.loop 199 [true,true,false,true,true,true,false]) [vi (ω ı (Int.add x162 1)),AV.arr 0 1 0 n163,vi x164,vi x165,AV.ptr 1 0 0 0,vu x166] [Ob.mk OK.arr 26 1 1 (List.set (List.set l167 (Nat.add 0 (τ x162)) [vu n183]) (Nat.add 0 (τ (ω ı (Int.add x164 (ω ı (Int.sub (ω ı (iand υ n171 (ω υ (Int.sub x166 1)))) x165)))))) [vu n187]),Ob.mk OK.box 222 1 0 [[vu n178]]] else none else none else none else none else none else none else none else none else if 0≤ω ı (Int.add x164 (ω ı (iand υ n171 (ω υ (Int.sub x166 1))))) then if ω ı (Int.add x164 (ω ı (iand υ n171 (ω υ (Int.sub x166 1)))))<(n163:Int) then Ω (nth l167 (Nat.add 0 (τ (ω ı (Int.add x164 (ω ı (iand υ n171 (ω υ (Int.sub x166 1))))))))) fun cs197↦Ω (uncons? cs197) fun p198↦Ω (AV.int? υ p198.fst) fun n199↦Ω (nil? p198.snd) fun _↦if 0≤x162 then if x162<(n163:Int) then Ω (nth l167 (Nat.add 0 (τ x162))) fun cs201↦Ω (uncons? cs201) fun p202↦Ω (AV.int? υ p202.fst) fun n203↦Ω (nil? p202.snd) fun _↦if 0≤x162 then if x162<(n163:Int) then Ω (nth l167 (Nat.add 0 (τ x162))) fun cs205↦Ω (uncons? cs205) fun p206↦Ω (AV.int? υ p206.fst) fun _↦Ω (nil? p206.snd) fun _↦if 0≤ω ı (Int.add x164 (ω ı (iand υ n171 (ω υ (Int.sub x166 1))))) then if ω ı (Int.add x164 (ω ı (iand υ n171 (ω υ (Int.sub x166 1)))))<(n163:Int) then Ω (nth (List.set l167 (Nat.add 0 (τ x162)) [vu n199]) (Nat.add 0 (τ (ω ı (Int.add x164 (ω ı (iand υ n171 (ω υ (Int.sub x166 1))))))))) fun cs209↦Ω (uncons? cs209) fun p210↦Ω (AV.int? υ p210.fst) fun _↦Ω (nil? p210.snd) fun _↦E cx (Key.loop 199 [true,true,false,true,true,true,false]) [vi (ω ı (Int.add x162 1)),AV.arr 0 1 0 n163,vi x164,vi x165,AV.ptr 1 0 0 0,vu x166] [Ob.mk OK.arr 26 1 1 (List.set (List.set l167 (Nat.add 0 (τ x162)) [vu n199]) (Nat.add 0 (τ (ω ı (Int.add x164 (ω ı (iand υ n171 (ω υ (Int.sub x166 1)))))))) [vu n203]),Ob.mk OK.box 222 1 0 [[vu n178]]] else none else none else none else none else none else none else none else none else some (Out.jump (JX.exit 0) [vi x162],[Ob.mk OK.arr 26 1 1 l167,Ob.mk OK.box 222 1 0 [[vu x168]]]):=by
 intros
 exact(E_in [188,142] _ _ _).trans (by kernel_rfl)
theorem f201:∀(n213:Nat) (data214:List (List AV)) (a215 b216:Int),E cx (Key.own 201) [AV.arr 0 1 0 n213,vi a215,vi b216] [Ob.mk OK.arr 26 1 1 data214]=Ω (E cx (Key.loop 201 [true,true,false]) [vi a215,vi (ω ı (Int.sub b216 1)),AV.arr 0 1 0 n213] [Ob.mk OK.arr 26 1 1 data214]) fun r217↦Ω (asJump r217) fun j218↦bif JX.is j218.fst (JX.exit 0) then Ω (uncons? j218.snd.fst) fun p219↦Ω (AV.int? ı p219.fst) fun _↦Ω (uncons? p219.snd) fun p221↦Ω (AV.int? ı p221.fst) fun _↦Ω (nil? p221.snd) fun _↦Ω (uncons? j218.snd.snd) fun p224↦Ω (obIs (Ob.mk OK.arr 26 1 1 data214) p224.fst) fun _↦Ω (chk p224.fst.ver 1) fun _↦Ω (nil? p224.snd) fun _↦some (Out.ret (AV.tuple []),[Ob.mk OK.arr 26 1 1 p224.fst.es]) else none:=by
 intros
 exact(E_in [188,142] _ _ _).trans (by kernel_rfl)
theorem f201_l0:∀(x228 x229:Int) (n230:Nat) (l231:List (List AV)),E cx (Key.loop 201 [true,true,false]) [vi x228,vi x229,AV.arr 0 1 0 n230] [Ob.mk OK.arr 26 1 1 l231]=bif decide (x228<x229) then if 0≤x229 then if x229<(n230:Int) then Ω (nth l231 (Nat.add 0 (τ x229))) fun cs232↦Ω (uncons? cs232) fun p233↦Ω (AV.int? υ p233.fst) fun n234↦Ω (nil? p233.snd) fun _↦if 0≤x228 then if x228<(n230:Int) then Ω (nth l231 (Nat.add 0 (τ x228))) fun cs236↦Ω (uncons? cs236) fun p237↦Ω (AV.int? υ p237.fst) fun n238↦Ω (nil? p237.snd) fun _↦if 0≤x228 then if x228<(n230:Int) then Ω (nth l231 (Nat.add 0 (τ x228))) fun cs240↦Ω (uncons? cs240) fun p241↦Ω (AV.int? υ p241.fst) fun _↦Ω (nil? p241.snd) fun _↦if 0≤x229 then if x229<(n230:Int) then Ω (nth (List.set l231 (Nat.add 0 (τ x228)) [vu n234]) (Nat.add 0 (τ x229))) fun cs244↦Ω (uncons? cs244) fun p245↦Ω (AV.int? υ p245.fst) fun _↦Ω (nil? p245.snd) fun _↦E cx (Key.loop 201 [true,true,false]) [vi (ω ı (Int.add x228 1)),vi (ω ı (Int.sub x229 1)),AV.arr 0 1 0 n230] [Ob.mk OK.arr 26 1 1 (List.set (List.set l231 (Nat.add 0 (τ x228)) [vu n234]) (Nat.add 0 (τ x229)) [vu n238])] else none else none else none else none else none else none else none else none else some (Out.jump (JX.exit 0) [vi x228,vi x229],[Ob.mk OK.arr 26 1 1 l231]):=by
 intros
 exact(E_in [188,142] _ _ _).trans (by kernel_rfl)
theorem f202:∀(n248:Nat) (data249:List (List AV)) (a250 b251:Int),E cx (Key.own 202) [AV.arr 0 1 0 n248,vi a250,vi b251] [Ob.mk OK.arr 26 1 1 data249]=Ω (E cx (Key.loop 202 [true,true,false,true,false]) [vbool false,vi (ω ı (Int.add a250 1)),vi 0,AV.arr 0 1 0 n248,vi a250,vi b251] [Ob.mk OK.arr 26 1 1 data249]) fun r252↦Ω (asJump r252) fun j253↦bif JX.is j253.fst (JX.exit 0) then Ω (uncons? j253.snd.fst) fun p254↦Ω (AV.bool? p254.fst) fun _↦Ω (uncons? p254.snd) fun p256↦Ω (AV.int? ı p256.fst) fun _↦Ω (uncons? p256.snd) fun p258↦Ω (AV.int? ı p258.fst) fun _↦Ω (nil? p258.snd) fun _↦Ω (uncons? j253.snd.snd) fun p261↦Ω (obIs (Ob.mk OK.arr 26 1 1 data249) p261.fst) fun _↦Ω (chk p261.fst.ver 1) fun _↦Ω (nil? p261.snd) fun _↦some (Out.ret (vbool false),[Ob.mk OK.arr 26 1 1 p261.fst.es]) else bif JX.is j253.fst JX.ret then Ω (uncons? j253.snd.fst) fun p265↦Ω (AV.bool? p265.fst) fun b266↦Ω (uncons? p265.snd) fun p267↦Ω (AV.int? ı p267.fst) fun _↦Ω (uncons? p267.snd) fun p269↦Ω (AV.int? ı p269.fst) fun _↦Ω (nil? p269.snd) fun _↦Ω (uncons? j253.snd.snd) fun p272↦Ω (obIs (Ob.mk OK.arr 26 1 1 data249) p272.fst) fun _↦Ω (chk p272.fst.ver 1) fun _↦Ω (nil? p272.snd) fun _↦some (Out.ret (vbool b266),[Ob.mk OK.arr 26 1 1 p272.fst.es]) else none:=by
 intros
 exact(E_in [188,142] _ _ _).trans (by kernel_rfl)
theorem f202_l0:∀(b276:Bool) (x277 x278:Int) (n279:Nat) (x280 x281:Int) (l282:List (List AV)),E cx (Key.loop 202 [true,true,false,true,false]) [vbool b276,vi x277,vi x278,AV.arr 0 1 0 n279,vi x280,vi x281] [Ob.mk OK.arr 26 1 1 l282]=bif decide (x278<5) then Ω (E cx (Key.loop 202 [true,true,false,true,false,false,true,false,false,false,false]) [vi x277,AV.arr 0 1 0 n279,vi x280,vi x281,vbool b276,vi x278] [Ob.mk OK.arr 26 1 1 l282]) fun r283↦Ω (asJump r283) fun j284↦bif JX.is j284.fst (JX.exit 2) then Ω (uncons? j284.snd.fst) fun p285↦Ω (AV.int? ı p285.fst) fun n286↦Ω (nil? p285.snd) fun _↦Ω (uncons? j284.snd.snd) fun p288↦Ω (obIs (Ob.mk OK.arr 26 1 1 l282) p288.fst) fun _↦Ω (chk p288.fst.ver 1) fun _↦Ω (nil? p288.snd) fun _↦bif decide (n286=x281) then some (Out.jump JX.ret [vbool true,vi n286,vi x278],[Ob.mk OK.arr 26 1 1 p288.fst.es]) else bif decide (ω ı (Int.sub x281 x280)<50) then some (Out.jump JX.ret [vbool false,vi n286,vi x278],[Ob.mk OK.arr 26 1 1 p288.fst.es]) else if 0≤ω ı (Int.sub n286 1) then if ω ı (Int.sub n286 1)<(n279:Int) then Ω (nth p288.fst.es (Nat.add 0 (τ (ω ı (Int.sub n286 1))))) fun cs292↦Ω (uncons? cs292) fun p293↦Ω (AV.int? υ p293.fst) fun n294↦Ω (nil? p293.snd) fun _↦if 0≤n286 then if n286<(n279:Int) then Ω (nth p288.fst.es (Nat.add 0 (τ n286))) fun cs296↦Ω (uncons? cs296) fun p297↦Ω (AV.int? υ p297.fst) fun n298↦Ω (nil? p297.snd) fun _↦if 0≤n286 then if n286<(n279:Int) then Ω (nth p288.fst.es (Nat.add 0 (τ n286))) fun cs300↦Ω (uncons? cs300) fun p301↦Ω (AV.int? υ p301.fst) fun _↦Ω (nil? p301.snd) fun _↦if 0≤ω ı (Int.sub n286 1) then if ω ı (Int.sub n286 1)<(n279:Int) then Ω (nth (List.set p288.fst.es (Nat.add 0 (τ n286)) [vu n294]) (Nat.add 0 (τ (ω ı (Int.sub n286 1))))) fun cs304↦Ω (uncons? cs304) fun p305↦Ω (AV.int? υ p305.fst) fun _↦Ω (nil? p305.snd) fun _↦bif decide (ω ı (Int.sub n286 x280)≥2) then Ω (E cx (Key.loop 202 [true,true,false,true,false,false,true,false,false,true,true,true,true,false,true,false,true,false]) [vi (ω ı (Int.sub n286 1)),AV.arr 0 1 0 n279,vi x280,vi x281,vbool b276,vi n286,vi x278] [Ob.mk OK.arr 26 1 1 (List.set (List.set p288.fst.es (Nat.add 0 (τ n286)) [vu n294]) (Nat.add 0 (τ (ω ı (Int.sub n286 1)))) [vu n298])]) fun r308↦Ω (asJump r308) fun j309↦bif JX.is j309.fst (JX.exit 4) then Ω (uncons? j309.snd.fst) fun p310↦Ω (AV.int? ı p310.fst) fun _↦Ω (nil? p310.snd) fun _↦Ω (uncons? j309.snd.snd) fun p313↦Ω (obIs (Ob.mk OK.arr 26 1 1 (List.set (List.set p288.fst.es (Nat.add 0 (τ n286)) [vu n294]) (Nat.add 0 (τ (ω ı (Int.sub n286 1)))) [vu n298])) p313.fst) fun _↦Ω (chk p313.fst.ver 1) fun _↦Ω (nil? p313.snd) fun _↦bif decide (ω ı (Int.sub x281 n286)≥2) then Ω (E cx (Key.loop 202 [true,true,false,true,false,false,true,false,false,true,true,true,true,true,true,false,true,false]) [vi (ω ı (Int.add n286 1)),AV.arr 0 1 0 n279,vi x280,vi x281,vbool b276,vi n286,vi x278] [Ob.mk OK.arr 26 1 1 p313.fst.es]) fun r317↦Ω (asJump r317) fun j318↦bif JX.is j318.fst (JX.exit 6) then Ω (uncons? j318.snd.fst) fun p319↦Ω (AV.int? ı p319.fst) fun _↦Ω (nil? p319.snd) fun _↦Ω (uncons? j318.snd.snd) fun p322↦Ω (obIs (Ob.mk OK.arr 26 1 1 p313.fst.es) p322.fst) fun _↦Ω (chk p322.fst.ver 1) fun _↦Ω (nil? p322.snd) fun _↦E cx (Key.loop 202 [true,true,false,true,false]) [vbool b276,vi n286,vi (ω ı (Int.add x278 1)),AV.arr 0 1 0 n279,vi x280,vi x281] [Ob.mk OK.arr 26 1 1 p322.fst.es] else none else E cx (Key.loop 202 [true,true,false,true,false]) [vbool b276,vi n286,vi (ω ı (Int.add x278 1)),AV.arr 0 1 0 n279,vi x280,vi x281] [Ob.mk OK.arr 26 1 1 p313.fst.es] else none else bif decide (ω ı (Int.sub x281 n286)≥2) then Ω (E cx (Key.loop 202 [true,true,false,true,false,false,true,false,false,true,true,true,true,true,true,false,true,false]) [vi (ω ı (Int.add n286 1)),AV.arr 0 1 0 n279,vi x280,vi x281,vbool b276,vi n286,vi x278] [Ob.mk OK.arr 26 1 1 (List.set (List.set p288.fst.es (Nat.add 0 (τ n286)) [vu n294]) (Nat.add 0 (τ (ω ı (Int.sub n286 1)))) [vu n298])]) fun r326↦Ω (asJump r326) fun j327↦bif JX.is j327.fst (JX.exit 6) then Ω (uncons? j327.snd.fst) fun p328↦Ω (AV.int? ı p328.fst) fun _↦Ω (nil? p328.snd) fun _↦Ω (uncons? j327.snd.snd) fun p331↦Ω (obIs (Ob.mk OK.arr 26 1 1 (List.set (List.set p288.fst.es (Nat.add 0 (τ n286)) [vu n294]) (Nat.add 0 (τ (ω ı (Int.sub n286 1)))) [vu n298])) p331.fst) fun _↦Ω (chk p331.fst.ver 1) fun _↦Ω (nil? p331.snd) fun _↦E cx (Key.loop 202 [true,true,false,true,false]) [vbool b276,vi n286,vi (ω ı (Int.add x278 1)),AV.arr 0 1 0 n279,vi x280,vi x281] [Ob.mk OK.arr 26 1 1 p331.fst.es] else none else E cx (Key.loop 202 [true,true,false,true,false]) [vbool b276,vi n286,vi (ω ı (Int.add x278 1)),AV.arr 0 1 0 n279,vi x280,vi x281] [Ob.mk OK.arr 26 1 1 (List.set (List.set p288.fst.es (Nat.add 0 (τ n286)) [vu n294]) (Nat.add 0 (τ (ω ı (Int.sub n286 1)))) [vu n298])] else none else none else none else none else none else none else none else none else none else some (Out.jump (JX.exit 0) [vbool b276,vi x277,vi x278],[Ob.mk OK.arr 26 1 1 l282]):=by
 intros
 exact(E_in [188,142] _ _ _).trans (by kernel_rfl)
theorem f202_l0_l1:∀(x335:Int) (n336:Nat) (x337 x338:Int) (b339:Bool) (x340:Int) (l341:List (List AV)),E cx (Key.loop 202 [true,true,false,true,false,false,true,false,false,false,false]) [vi x335,AV.arr 0 1 0 n336,vi x337,vi x338,vbool b339,vi x340] [Ob.mk OK.arr 26 1 1 l341]=bif decide (x335<x338) then if 0≤x335 then if x335<(n336:Int) then Ω (nth l341 (Nat.add 0 (τ x335))) fun cs342↦Ω (uncons? cs342) fun p343↦Ω (AV.int? υ p343.fst) fun n344↦Ω (nil? p343.snd) fun _↦if 0≤ω ı (Int.sub x335 1) then if ω ı (Int.sub x335 1)<(n336:Int) then Ω (nth l341 (Nat.add 0 (τ (ω ı (Int.sub x335 1))))) fun cs346↦Ω (uncons? cs346) fun p347↦Ω (AV.int? υ p347.fst) fun n348↦Ω (nil? p347.snd) fun _↦Ω (E cx (Key.fn 203) [vu n344,vu n348] []) fun r350↦Ω (ret1 r350) fun v351↦Ω (AV.bool? v351) fun b352↦bif b352 then some (Out.jump (JX.exit 2) [vi x335],[Ob.mk OK.arr 26 1 1 l341]) else E cx (Key.loop 202 [true,true,false,true,false,false,true,false,false,false,false]) [vi (ω ı (Int.add x335 1)),AV.arr 0 1 0 n336,vi x337,vi x338,vbool b339,vi x340] [Ob.mk OK.arr 26 1 1 l341] else none else none else none else none else some (Out.jump (JX.exit 2) [vi x335],[Ob.mk OK.arr 26 1 1 l341]):=by
 intros
 exact(E_in [188,142] _ _ _).trans (by kernel_rfl)
theorem f202_l0_l2:∀(x353:Int) (n354:Nat) (x355 x356:Int) (b357:Bool) (x358 x359:Int) (l360:List (List AV)),E cx (Key.loop 202 [true,true,false,true,false,false,true,false,false,true,true,true,true,false,true,false,true,false]) [vi x353,AV.arr 0 1 0 n354,vi x355,vi x356,vbool b357,vi x358,vi x359] [Ob.mk OK.arr 26 1 1 l360]=bif decide (x353≥1) then if 0≤x353 then if x353<(n354:Int) then Ω (nth l360 (Nat.add 0 (τ x353))) fun cs361↦Ω (uncons? cs361) fun p362↦Ω (AV.int? υ p362.fst) fun n363↦Ω (nil? p362.snd) fun _↦if 0≤ω ı (Int.sub x353 1) then if ω ı (Int.sub x353 1)<(n354:Int) then Ω (nth l360 (Nat.add 0 (τ (ω ı (Int.sub x353 1))))) fun cs365↦Ω (uncons? cs365) fun p366↦Ω (AV.int? υ p366.fst) fun n367↦Ω (nil? p366.snd) fun _↦Ω (E cx (Key.fn 203) [vu n363,vu n367] []) fun r369↦Ω (ret1 r369) fun v370↦Ω (AV.bool? v370) fun b371↦bif b371 then if 0≤ω ı (Int.sub x353 1) then if ω ı (Int.sub x353 1)<(n354:Int) then Ω (nth l360 (Nat.add 0 (τ (ω ı (Int.sub x353 1))))) fun cs372↦Ω (uncons? cs372) fun p373↦Ω (AV.int? υ p373.fst) fun n374↦Ω (nil? p373.snd) fun _↦if 0≤x353 then if x353<(n354:Int) then Ω (nth l360 (Nat.add 0 (τ x353))) fun cs376↦Ω (uncons? cs376) fun p377↦Ω (AV.int? υ p377.fst) fun n378↦Ω (nil? p377.snd) fun _↦if 0≤x353 then if x353<(n354:Int) then Ω (nth l360 (Nat.add 0 (τ x353))) fun cs380↦Ω (uncons? cs380) fun p381↦Ω (AV.int? υ p381.fst) fun _↦Ω (nil? p381.snd) fun _↦if 0≤ω ı (Int.sub x353 1) then if ω ı (Int.sub x353 1)<(n354:Int) then Ω (nth (List.set l360 (Nat.add 0 (τ x353)) [vu n374]) (Nat.add 0 (τ (ω ı (Int.sub x353 1))))) fun cs384↦Ω (uncons? cs384) fun p385↦Ω (AV.int? υ p385.fst) fun _↦Ω (nil? p385.snd) fun _↦E cx (Key.loop 202 [true,true,false,true,false,false,true,false,false,true,true,true,true,false,true,false,true,false]) [vi (ω ı (Int.sub x353 1)),AV.arr 0 1 0 n354,vi x355,vi x356,vbool b357,vi x358,vi x359] [Ob.mk OK.arr 26 1 1 (List.set (List.set l360 (Nat.add 0 (τ x353)) [vu n374]) (Nat.add 0 (τ (ω ı (Int.sub x353 1)))) [vu n378])] else none else none else none else none else none else none else none else none else some (Out.jump (JX.exit 4) [vi x353],[Ob.mk OK.arr 26 1 1 l360]) else none else none else none else none else some (Out.jump (JX.exit 4) [vi x353],[Ob.mk OK.arr 26 1 1 l360]):=by
 intros
 exact(E_in [188,142] _ _ _).trans (by kernel_rfl)
theorem f202_l0_l3:∀(x388:Int) (n389:Nat) (x390 x391:Int) (b392:Bool) (x393 x394:Int) (l395:List (List AV)),E cx (Key.loop 202 [true,true,false,true,false,false,true,false,false,true,true,true,true,true,true,false,true,false]) [vi x388,AV.arr 0 1 0 n389,vi x390,vi x391,vbool b392,vi x393,vi x394] [Ob.mk OK.arr 26 1 1 l395]=bif decide (x388<x391) then if 0≤x388 then if x388<(n389:Int) then Ω (nth l395 (Nat.add 0 (τ x388))) fun cs396↦Ω (uncons? cs396) fun p397↦Ω (AV.int? υ p397.fst) fun n398↦Ω (nil? p397.snd) fun _↦if 0≤ω ı (Int.sub x388 1) then if ω ı (Int.sub x388 1)<(n389:Int) then Ω (nth l395 (Nat.add 0 (τ (ω ı (Int.sub x388 1))))) fun cs400↦Ω (uncons? cs400) fun p401↦Ω (AV.int? υ p401.fst) fun n402↦Ω (nil? p401.snd) fun _↦Ω (E cx (Key.fn 203) [vu n398,vu n402] []) fun r404↦Ω (ret1 r404) fun v405↦Ω (AV.bool? v405) fun b406↦bif b406 then if 0≤ω ı (Int.sub x388 1) then if ω ı (Int.sub x388 1)<(n389:Int) then Ω (nth l395 (Nat.add 0 (τ (ω ı (Int.sub x388 1))))) fun cs407↦Ω (uncons? cs407) fun p408↦Ω (AV.int? υ p408.fst) fun n409↦Ω (nil? p408.snd) fun _↦if 0≤x388 then if x388<(n389:Int) then Ω (nth l395 (Nat.add 0 (τ x388))) fun cs411↦Ω (uncons? cs411) fun p412↦Ω (AV.int? υ p412.fst) fun n413↦Ω (nil? p412.snd) fun _↦if 0≤x388 then if x388<(n389:Int) then Ω (nth l395 (Nat.add 0 (τ x388))) fun cs415↦Ω (uncons? cs415) fun p416↦Ω (AV.int? υ p416.fst) fun _↦Ω (nil? p416.snd) fun _↦if 0≤ω ı (Int.sub x388 1) then if ω ı (Int.sub x388 1)<(n389:Int) then Ω (nth (List.set l395 (Nat.add 0 (τ x388)) [vu n409]) (Nat.add 0 (τ (ω ı (Int.sub x388 1))))) fun cs419↦Ω (uncons? cs419) fun p420↦Ω (AV.int? υ p420.fst) fun _↦Ω (nil? p420.snd) fun _↦E cx (Key.loop 202 [true,true,false,true,false,false,true,false,false,true,true,true,true,true,true,false,true,false]) [vi (ω ı (Int.add x388 1)),AV.arr 0 1 0 n389,vi x390,vi x391,vbool b392,vi x393,vi x394] [Ob.mk OK.arr 26 1 1 (List.set (List.set l395 (Nat.add 0 (τ x388)) [vu n409]) (Nat.add 0 (τ (ω ı (Int.sub x388 1)))) [vu n413])] else none else none else none else none else none else none else none else none else some (Out.jump (JX.exit 6) [vi x388],[Ob.mk OK.arr 26 1 1 l395]) else none else none else none else none else some (Out.jump (JX.exit 6) [vi x388],[Ob.mk OK.arr 26 1 1 l395]):=by
 intros
 exact(E_in [188,142] _ _ _).trans (by kernel_rfl)
theorem f204:∀(n423:Nat) (data424:List (List AV)) (a425 b426 pivot427:Int),E cx (Key.own 204) [AV.arr 0 1 0 n423,vi a425,vi b426,vi pivot427] [Ob.mk OK.arr 26 1 1 data424]=if 0≤pivot427 then if pivot427<(n423:Int) then Ω (nth data424 (Nat.add 0 (τ pivot427))) fun cs428↦Ω (uncons? cs428) fun p429↦Ω (AV.int? υ p429.fst) fun n430↦Ω (nil? p429.snd) fun _↦if 0≤a425 then if a425<(n423:Int) then Ω (nth data424 (Nat.add 0 (τ a425))) fun cs432↦Ω (uncons? cs432) fun p433↦Ω (AV.int? υ p433.fst) fun n434↦Ω (nil? p433.snd) fun _↦if 0≤a425 then if a425<(n423:Int) then Ω (nth data424 (Nat.add 0 (τ a425))) fun cs436↦Ω (uncons? cs436) fun p437↦Ω (AV.int? υ p437.fst) fun _↦Ω (nil? p437.snd) fun _↦if 0≤pivot427 then if pivot427<(n423:Int) then Ω (nth (List.set data424 (Nat.add 0 (τ a425)) [vu n430]) (Nat.add 0 (τ pivot427))) fun cs440↦Ω (uncons? cs440) fun p441↦Ω (AV.int? υ p441.fst) fun _↦Ω (nil? p441.snd) fun _↦Ω (E cx (Key.loop 204 [true,true,true,false,false]) [vi (ω ı (Int.add a425 1)),vi (ω ı (Int.sub b426 1)),AV.arr 0 1 0 n423,vi a425] [Ob.mk OK.arr 26 1 1 (List.set (List.set data424 (Nat.add 0 (τ a425)) [vu n430]) (Nat.add 0 (τ pivot427)) [vu n434])]) fun r444↦Ω (asJump r444) fun j445↦bif JX.is j445.fst (JX.exit 0) then Ω (uncons? j445.snd.fst) fun p446↦Ω (AV.int? ı p446.fst) fun n447↦Ω (uncons? p446.snd) fun p448↦Ω (AV.int? ı p448.fst) fun _↦Ω (nil? p448.snd) fun _↦Ω (uncons? j445.snd.snd) fun p451↦Ω (obIs (Ob.mk OK.arr 26 1 1 (List.set (List.set data424 (Nat.add 0 (τ a425)) [vu n430]) (Nat.add 0 (τ pivot427)) [vu n434])) p451.fst) fun _↦Ω (chk p451.fst.ver 1) fun _↦Ω (nil? p451.snd) fun _↦some (Out.ret (vi n447),[Ob.mk OK.arr 26 1 1 p451.fst.es]) else none else none else none else none else none else none else none else none else none:=by
 intros
 exact(E_in [188,142] _ _ _).trans (by kernel_rfl)
theorem f204_l0:∀(x455 x456:Int) (n457:Nat) (x458:Int) (l459:List (List AV)),E cx (Key.loop 204 [true,true,true,false,false]) [vi x455,vi x456,AV.arr 0 1 0 n457,vi x458] [Ob.mk OK.arr 26 1 1 l459]=Ω (E cx (Key.loop 204 [true,true,true,false,false,false,false,false,false]) [vi x455,AV.arr 0 1 0 n457,vi x458,vi x456] [Ob.mk OK.arr 26 1 1 l459]) fun r460↦Ω (asJump r460) fun j461↦bif JX.is j461.fst (JX.exit 2) then Ω (uncons? j461.snd.fst) fun p462↦Ω (AV.int? ı p462.fst) fun n463↦Ω (nil? p462.snd) fun _↦Ω (uncons? j461.snd.snd) fun p465↦Ω (obIs (Ob.mk OK.arr 26 1 1 l459) p465.fst) fun _↦Ω (chk p465.fst.ver 1) fun _↦Ω (nil? p465.snd) fun _↦Ω (E cx (Key.loop 204 [true,true,true,false,false,false,false,true,false,false]) [vi x456,AV.arr 0 1 0 n457,vi x458,vi n463] [Ob.mk OK.arr 26 1 1 p465.fst.es]) fun r469↦Ω (asJump r469) fun j470↦bif JX.is j470.fst (JX.exit 4) then Ω (uncons? j470.snd.fst) fun p471↦Ω (AV.int? ı p471.fst) fun n472↦Ω (nil? p471.snd) fun _↦Ω (uncons? j470.snd.snd) fun p474↦Ω (obIs (Ob.mk OK.arr 26 1 1 p465.fst.es) p474.fst) fun _↦Ω (chk p474.fst.ver 1) fun _↦Ω (nil? p474.snd) fun _↦bif decide (n463>n472) then some (Out.jump (JX.exit 0) [vi n463,vi n472],[Ob.mk OK.arr 26 1 1 p474.fst.es]) else if 0≤n472 then if n472<(n457:Int) then Ω (nth p474.fst.es (Nat.add 0 (τ n472))) fun cs478↦Ω (uncons? cs478) fun p479↦Ω (AV.int? υ p479.fst) fun n480↦Ω (nil? p479.snd) fun _↦if 0≤n463 then if n463<(n457:Int) then Ω (nth p474.fst.es (Nat.add 0 (τ n463))) fun cs482↦Ω (uncons? cs482) fun p483↦Ω (AV.int? υ p483.fst) fun n484↦Ω (nil? p483.snd) fun _↦if 0≤n463 then if n463<(n457:Int) then Ω (nth p474.fst.es (Nat.add 0 (τ n463))) fun cs486↦Ω (uncons? cs486) fun p487↦Ω (AV.int? υ p487.fst) fun _↦Ω (nil? p487.snd) fun _↦if 0≤n472 then if n472<(n457:Int) then Ω (nth (List.set p474.fst.es (Nat.add 0 (τ n463)) [vu n480]) (Nat.add 0 (τ n472))) fun cs490↦Ω (uncons? cs490) fun p491↦Ω (AV.int? υ p491.fst) fun _↦Ω (nil? p491.snd) fun _↦E cx (Key.loop 204 [true,true,true,false,false]) [vi (ω ı (Int.add n463 1)),vi (ω ı (Int.sub n472 1)),AV.arr 0 1 0 n457,vi x458] [Ob.mk OK.arr 26 1 1 (List.set (List.set p474.fst.es (Nat.add 0 (τ n463)) [vu n480]) (Nat.add 0 (τ n472)) [vu n484])] else none else none else none else none else none else none else none else none else none else none:=by
 intros
 exact(E_in [188,142] _ _ _).trans (by kernel_rfl)
theorem f204_l0_l1:∀(x494:Int) (n495:Nat) (x496 x497:Int) (l498:List (List AV)),E cx (Key.loop 204 [true,true,true,false,false,false,false,false,false]) [vi x494,AV.arr 0 1 0 n495,vi x496,vi x497] [Ob.mk OK.arr 26 1 1 l498]=bif decide (x494≤x497) then if 0≤x496 then if x496<(n495:Int) then Ω (nth l498 (Nat.add 0 (τ x496))) fun cs499↦Ω (uncons? cs499) fun p500↦Ω (AV.int? υ p500.fst) fun n501↦Ω (nil? p500.snd) fun _↦if 0≤x494 then if x494<(n495:Int) then Ω (nth l498 (Nat.add 0 (τ x494))) fun cs503↦Ω (uncons? cs503) fun p504↦Ω (AV.int? υ p504.fst) fun n505↦Ω (nil? p504.snd) fun _↦Ω (E cx (Key.fn 203) [vu n501,vu n505] []) fun r507↦Ω (ret1 r507) fun v508↦Ω (AV.bool? v508) fun b509↦bif b509 then some (Out.jump (JX.exit 2) [vi x494],[Ob.mk OK.arr 26 1 1 l498]) else E cx (Key.loop 204 [true,true,true,false,false,false,false,false,false]) [vi (ω ı (Int.add x494 1)),AV.arr 0 1 0 n495,vi x496,vi x497] [Ob.mk OK.arr 26 1 1 l498] else none else none else none else none else some (Out.jump (JX.exit 2) [vi x494],[Ob.mk OK.arr 26 1 1 l498]):=by
 intros
 exact(E_in [188,142] _ _ _).trans (by kernel_rfl)
theorem f204_l0_l2:∀(x510:Int) (n511:Nat) (x512 x513:Int) (l514:List (List AV)),E cx (Key.loop 204 [true,true,true,false,false,false,false,true,false,false]) [vi x510,AV.arr 0 1 0 n511,vi x512,vi x513] [Ob.mk OK.arr 26 1 1 l514]=bif decide (x513≤x510) then if 0≤x512 then if x512<(n511:Int) then Ω (nth l514 (Nat.add 0 (τ x512))) fun cs515↦Ω (uncons? cs515) fun p516↦Ω (AV.int? υ p516.fst) fun n517↦Ω (nil? p516.snd) fun _↦if 0≤x510 then if x510<(n511:Int) then Ω (nth l514 (Nat.add 0 (τ x510))) fun cs519↦Ω (uncons? cs519) fun p520↦Ω (AV.int? υ p520.fst) fun n521↦Ω (nil? p520.snd) fun _↦Ω (E cx (Key.fn 203) [vu n517,vu n521] []) fun r523↦Ω (ret1 r523) fun v524↦Ω (AV.bool? v524) fun b525↦bif b525 then E cx (Key.loop 204 [true,true,true,false,false,false,false,true,false,false]) [vi (ω ı (Int.sub x510 1)),AV.arr 0 1 0 n511,vi x512,vi x513] [Ob.mk OK.arr 26 1 1 l514] else some (Out.jump (JX.exit 4) [vi x510],[Ob.mk OK.arr 26 1 1 l514]) else none else none else none else none else some (Out.jump (JX.exit 4) [vi x510],[Ob.mk OK.arr 26 1 1 l514]):=by
 intros
 exact(E_in [188,142] _ _ _).trans (by kernel_rfl)
theorem f205:∀(n526:Nat) (data527:List (List AV)) (a528 b529 pivot530:Int),E cx (Key.own 205) [AV.arr 0 1 0 n526,vi a528,vi b529,vi pivot530] [Ob.mk OK.arr 26 1 1 data527]=if 0≤pivot530 then if pivot530<(n526:Int) then Ω (nth data527 (Nat.add 0 (τ pivot530))) fun cs531↦Ω (uncons? cs531) fun p532↦Ω (AV.int? υ p532.fst) fun n533↦Ω (nil? p532.snd) fun _↦if 0≤a528 then if a528<(n526:Int) then Ω (nth data527 (Nat.add 0 (τ a528))) fun cs535↦Ω (uncons? cs535) fun p536↦Ω (AV.int? υ p536.fst) fun n537↦Ω (nil? p536.snd) fun _↦if 0≤a528 then if a528<(n526:Int) then Ω (nth data527 (Nat.add 0 (τ a528))) fun cs539↦Ω (uncons? cs539) fun p540↦Ω (AV.int? υ p540.fst) fun _↦Ω (nil? p540.snd) fun _↦if 0≤pivot530 then if pivot530<(n526:Int) then Ω (nth (List.set data527 (Nat.add 0 (τ a528)) [vu n533]) (Nat.add 0 (τ pivot530))) fun cs543↦Ω (uncons? cs543) fun p544↦Ω (AV.int? υ p544.fst) fun _↦Ω (nil? p544.snd) fun _↦Ω (E cx (Key.loop 205 [true,true,true,false,false]) [vi (ω ı (Int.add a528 1)),AV.arr 0 1 0 n526,vi a528,vi (ω ı (Int.sub b529 1))] [Ob.mk OK.arr 26 1 1 (List.set (List.set data527 (Nat.add 0 (τ a528)) [vu n533]) (Nat.add 0 (τ pivot530)) [vu n537])]) fun r547↦Ω (asJump r547) fun j548↦bif JX.is j548.fst (JX.exit 0) then Ω (uncons? j548.snd.fst) fun p549↦Ω (AV.int? ı p549.fst) fun n550↦Ω (nil? p549.snd) fun _↦Ω (uncons? j548.snd.snd) fun p552↦Ω (obIs (Ob.mk OK.arr 26 1 1 (List.set (List.set data527 (Nat.add 0 (τ a528)) [vu n533]) (Nat.add 0 (τ pivot530)) [vu n537])) p552.fst) fun _↦Ω (chk p552.fst.ver 1) fun _↦Ω (nil? p552.snd) fun _↦Ω (E cx (Key.loop 205 [true,true,true,true,false,false]) [vi (ω ı (Int.sub b529 1)),AV.arr 0 1 0 n526,vi a528,vi n550] [Ob.mk OK.arr 26 1 1 p552.fst.es]) fun r556↦Ω (asJump r556) fun j557↦bif JX.is j557.fst (JX.exit 2) then Ω (uncons? j557.snd.fst) fun p558↦Ω (AV.int? ı p558.fst) fun n559↦Ω (nil? p558.snd) fun _↦Ω (uncons? j557.snd.snd) fun p561↦Ω (obIs (Ob.mk OK.arr 26 1 1 p552.fst.es) p561.fst) fun _↦Ω (chk p561.fst.ver 1) fun _↦Ω (nil? p561.snd) fun _↦bif decide (n550>n559) then if 0≤a528 then if a528<(n526:Int) then Ω (nth p561.fst.es (Nat.add 0 (τ a528))) fun cs565↦Ω (uncons? cs565) fun p566↦Ω (AV.int? υ p566.fst) fun n567↦Ω (nil? p566.snd) fun _↦if 0≤n559 then if n559<(n526:Int) then Ω (nth p561.fst.es (Nat.add 0 (τ n559))) fun cs569↦Ω (uncons? cs569) fun p570↦Ω (AV.int? υ p570.fst) fun n571↦Ω (nil? p570.snd) fun _↦if 0≤n559 then if n559<(n526:Int) then Ω (nth p561.fst.es (Nat.add 0 (τ n559))) fun cs573↦Ω (uncons? cs573) fun p574↦Ω (AV.int? υ p574.fst) fun _↦Ω (nil? p574.snd) fun _↦if 0≤a528 then if a528<(n526:Int) then Ω (nth (List.set p561.fst.es (Nat.add 0 (τ n559)) [vu n567]) (Nat.add 0 (τ a528))) fun cs577↦Ω (uncons? cs577) fun p578↦Ω (AV.int? υ p578.fst) fun _↦Ω (nil? p578.snd) fun _↦some (Out.ret (AV.tuple [vi n559,vbool true]),[Ob.mk OK.arr 26 1 1 (List.set (List.set p561.fst.es (Nat.add 0 (τ n559)) [vu n567]) (Nat.add 0 (τ a528)) [vu n571])]) else none else none else none else none else none else none else none else none else if 0≤n559 then if n559<(n526:Int) then Ω (nth p561.fst.es (Nat.add 0 (τ n559))) fun cs581↦Ω (uncons? cs581) fun p582↦Ω (AV.int? υ p582.fst) fun n583↦Ω (nil? p582.snd) fun _↦if 0≤n550 then if n550<(n526:Int) then Ω (nth p561.fst.es (Nat.add 0 (τ n550))) fun cs585↦Ω (uncons? cs585) fun p586↦Ω (AV.int? υ p586.fst) fun n587↦Ω (nil? p586.snd) fun _↦if 0≤n550 then if n550<(n526:Int) then Ω (nth p561.fst.es (Nat.add 0 (τ n550))) fun cs589↦Ω (uncons? cs589) fun p590↦Ω (AV.int? υ p590.fst) fun _↦Ω (nil? p590.snd) fun _↦if 0≤n559 then if n559<(n526:Int) then Ω (nth (List.set p561.fst.es (Nat.add 0 (τ n550)) [vu n583]) (Nat.add 0 (τ n559))) fun cs593↦Ω (uncons? cs593) fun p594↦Ω (AV.int? υ p594.fst) fun _↦Ω (nil? p594.snd) fun _↦Ω (E cx (Key.loop 205 [true,true,true,true,true,true,true,true,true,false,false]) [vi (ω ı (Int.add n550 1)),vi (ω ı (Int.sub n559 1)),AV.arr 0 1 0 n526,vi a528] [Ob.mk OK.arr 26 1 1 (List.set (List.set p561.fst.es (Nat.add 0 (τ n550)) [vu n583]) (Nat.add 0 (τ n559)) [vu n587])]) fun r597↦Ω (asJump r597) fun j598↦bif JX.is j598.fst (JX.exit 4) then Ω (uncons? j598.snd.fst) fun p599↦Ω (AV.int? ı p599.fst) fun _↦Ω (uncons? p599.snd) fun p601↦Ω (AV.int? ı p601.fst) fun n602↦Ω (nil? p601.snd) fun _↦Ω (uncons? j598.snd.snd) fun p604↦Ω (obIs (Ob.mk OK.arr 26 1 1 (List.set (List.set p561.fst.es (Nat.add 0 (τ n550)) [vu n583]) (Nat.add 0 (τ n559)) [vu n587])) p604.fst) fun _↦Ω (chk p604.fst.ver 1) fun _↦Ω (nil? p604.snd) fun _↦if 0≤a528 then if a528<(n526:Int) then Ω (nth p604.fst.es (Nat.add 0 (τ a528))) fun cs608↦Ω (uncons? cs608) fun p609↦Ω (AV.int? υ p609.fst) fun n610↦Ω (nil? p609.snd) fun _↦if 0≤n602 then if n602<(n526:Int) then Ω (nth p604.fst.es (Nat.add 0 (τ n602))) fun cs612↦Ω (uncons? cs612) fun p613↦Ω (AV.int? υ p613.fst) fun n614↦Ω (nil? p613.snd) fun _↦if 0≤n602 then if n602<(n526:Int) then Ω (nth p604.fst.es (Nat.add 0 (τ n602))) fun cs616↦Ω (uncons? cs616) fun p617↦Ω (AV.int? υ p617.fst) fun _↦Ω (nil? p617.snd) fun _↦if 0≤a528 then if a528<(n526:Int) then Ω (nth (List.set p604.fst.es (Nat.add 0 (τ n602)) [vu n610]) (Nat.add 0 (τ a528))) fun cs620↦Ω (uncons? cs620) fun p621↦Ω (AV.int? υ p621.fst) fun _↦Ω (nil? p621.snd) fun _↦some (Out.ret (AV.tuple [vi n602,vbool false]),[Ob.mk OK.arr 26 1 1 (List.set (List.set p604.fst.es (Nat.add 0 (τ n602)) [vu n610]) (Nat.add 0 (τ a528)) [vu n614])]) else none else none else none else none else none else none else none else none else none else none else none else none else none else none else none else none else none else none else none else none else none else none else none else none else none else none else none:=by
 intros
 exact(E_in [188,142] _ _ _).trans (by kernel_rfl)
theorem f205_l0:∀(x624:Int) (n625:Nat) (x626 x627:Int) (l628:List (List AV)),E cx (Key.loop 205 [true,true,true,false,false]) [vi x624,AV.arr 0 1 0 n625,vi x626,vi x627] [Ob.mk OK.arr 26 1 1 l628]=bif decide (x624≤x627) then if 0≤x624 then if x624<(n625:Int) then Ω (nth l628 (Nat.add 0 (τ x624))) fun cs629↦Ω (uncons? cs629) fun p630↦Ω (AV.int? υ p630.fst) fun n631↦Ω (nil? p630.snd) fun _↦if 0≤x626 then if x626<(n625:Int) then Ω (nth l628 (Nat.add 0 (τ x626))) fun cs633↦Ω (uncons? cs633) fun p634↦Ω (AV.int? υ p634.fst) fun n635↦Ω (nil? p634.snd) fun _↦Ω (E cx (Key.fn 203) [vu n631,vu n635] []) fun r637↦Ω (ret1 r637) fun v638↦Ω (AV.bool? v638) fun b639↦bif b639 then E cx (Key.loop 205 [true,true,true,false,false]) [vi (ω ı (Int.add x624 1)),AV.arr 0 1 0 n625,vi x626,vi x627] [Ob.mk OK.arr 26 1 1 l628] else some (Out.jump (JX.exit 0) [vi x624],[Ob.mk OK.arr 26 1 1 l628]) else none else none else none else none else some (Out.jump (JX.exit 0) [vi x624],[Ob.mk OK.arr 26 1 1 l628]):=by
 intros
 exact(E_in [188,142] _ _ _).trans (by kernel_rfl)
theorem f205_l1:∀(x640:Int) (n641:Nat) (x642 x643:Int) (l644:List (List AV)),E cx (Key.loop 205 [true,true,true,true,false,false]) [vi x640,AV.arr 0 1 0 n641,vi x642,vi x643] [Ob.mk OK.arr 26 1 1 l644]=bif decide (x643≤x640) then if 0≤x640 then if x640<(n641:Int) then Ω (nth l644 (Nat.add 0 (τ x640))) fun cs645↦Ω (uncons? cs645) fun p646↦Ω (AV.int? υ p646.fst) fun n647↦Ω (nil? p646.snd) fun _↦if 0≤x642 then if x642<(n641:Int) then Ω (nth l644 (Nat.add 0 (τ x642))) fun cs649↦Ω (uncons? cs649) fun p650↦Ω (AV.int? υ p650.fst) fun n651↦Ω (nil? p650.snd) fun _↦Ω (E cx (Key.fn 203) [vu n647,vu n651] []) fun r653↦Ω (ret1 r653) fun v654↦Ω (AV.bool? v654) fun b655↦bif b655 then some (Out.jump (JX.exit 2) [vi x640],[Ob.mk OK.arr 26 1 1 l644]) else E cx (Key.loop 205 [true,true,true,true,false,false]) [vi (ω ı (Int.sub x640 1)),AV.arr 0 1 0 n641,vi x642,vi x643] [Ob.mk OK.arr 26 1 1 l644] else none else none else none else none else some (Out.jump (JX.exit 2) [vi x640],[Ob.mk OK.arr 26 1 1 l644]):=by
 intros
 exact(E_in [188,142] _ _ _).trans (by kernel_rfl)
theorem f205_l2:∀(x656 x657:Int) (n658:Nat) (x659:Int) (l660:List (List AV)),E cx (Key.loop 205 [true,true,true,true,true,true,true,true,true,false,false]) [vi x656,vi x657,AV.arr 0 1 0 n658,vi x659] [Ob.mk OK.arr 26 1 1 l660]=Ω (E cx (Key.loop 205 [true,true,true,true,true,true,true,true,true,false,false,false,false,false,false]) [vi x656,AV.arr 0 1 0 n658,vi x659,vi x657] [Ob.mk OK.arr 26 1 1 l660]) fun r661↦Ω (asJump r661) fun j662↦bif JX.is j662.fst (JX.exit 6) then Ω (uncons? j662.snd.fst) fun p663↦Ω (AV.int? ı p663.fst) fun n664↦Ω (nil? p663.snd) fun _↦Ω (uncons? j662.snd.snd) fun p666↦Ω (obIs (Ob.mk OK.arr 26 1 1 l660) p666.fst) fun _↦Ω (chk p666.fst.ver 1) fun _↦Ω (nil? p666.snd) fun _↦Ω (E cx (Key.loop 205 [true,true,true,true,true,true,true,true,true,false,false,false,false,true,false,false]) [vi x657,AV.arr 0 1 0 n658,vi x659,vi n664] [Ob.mk OK.arr 26 1 1 p666.fst.es]) fun r670↦Ω (asJump r670) fun j671↦bif JX.is j671.fst (JX.exit 8) then Ω (uncons? j671.snd.fst) fun p672↦Ω (AV.int? ı p672.fst) fun n673↦Ω (nil? p672.snd) fun _↦Ω (uncons? j671.snd.snd) fun p675↦Ω (obIs (Ob.mk OK.arr 26 1 1 p666.fst.es) p675.fst) fun _↦Ω (chk p675.fst.ver 1) fun _↦Ω (nil? p675.snd) fun _↦bif decide (n664>n673) then some (Out.jump (JX.exit 4) [vi n664,vi n673],[Ob.mk OK.arr 26 1 1 p675.fst.es]) else if 0≤n673 then if n673<(n658:Int) then Ω (nth p675.fst.es (Nat.add 0 (τ n673))) fun cs679↦Ω (uncons? cs679) fun p680↦Ω (AV.int? υ p680.fst) fun n681↦Ω (nil? p680.snd) fun _↦if 0≤n664 then if n664<(n658:Int) then Ω (nth p675.fst.es (Nat.add 0 (τ n664))) fun cs683↦Ω (uncons? cs683) fun p684↦Ω (AV.int? υ p684.fst) fun n685↦Ω (nil? p684.snd) fun _↦if 0≤n664 then if n664<(n658:Int) then Ω (nth p675.fst.es (Nat.add 0 (τ n664))) fun cs687↦Ω (uncons? cs687) fun p688↦Ω (AV.int? υ p688.fst) fun _↦Ω (nil? p688.snd) fun _↦if 0≤n673 then if n673<(n658:Int) then Ω (nth (List.set p675.fst.es (Nat.add 0 (τ n664)) [vu n681]) (Nat.add 0 (τ n673))) fun cs691↦Ω (uncons? cs691) fun p692↦Ω (AV.int? υ p692.fst) fun _↦Ω (nil? p692.snd) fun _↦E cx (Key.loop 205 [true,true,true,true,true,true,true,true,true,false,false]) [vi (ω ı (Int.add n664 1)),vi (ω ı (Int.sub n673 1)),AV.arr 0 1 0 n658,vi x659] [Ob.mk OK.arr 26 1 1 (List.set (List.set p675.fst.es (Nat.add 0 (τ n664)) [vu n681]) (Nat.add 0 (τ n673)) [vu n685])] else none else none else none else none else none else none else none else none else none else none:=by
 intros
 exact(E_in [188,142] _ _ _).trans (by kernel_rfl)
theorem f205_l2_l3:∀(x695:Int) (n696:Nat) (x697 x698:Int) (l699:List (List AV)),E cx (Key.loop 205 [true,true,true,true,true,true,true,true,true,false,false,false,false,false,false]) [vi x695,AV.arr 0 1 0 n696,vi x697,vi x698] [Ob.mk OK.arr 26 1 1 l699]=bif decide (x695≤x698) then if 0≤x695 then if x695<(n696:Int) then Ω (nth l699 (Nat.add 0 (τ x695))) fun cs700↦Ω (uncons? cs700) fun p701↦Ω (AV.int? υ p701.fst) fun n702↦Ω (nil? p701.snd) fun _↦if 0≤x697 then if x697<(n696:Int) then Ω (nth l699 (Nat.add 0 (τ x697))) fun cs704↦Ω (uncons? cs704) fun p705↦Ω (AV.int? υ p705.fst) fun n706↦Ω (nil? p705.snd) fun _↦Ω (E cx (Key.fn 203) [vu n702,vu n706] []) fun r708↦Ω (ret1 r708) fun v709↦Ω (AV.bool? v709) fun b710↦bif b710 then E cx (Key.loop 205 [true,true,true,true,true,true,true,true,true,false,false,false,false,false,false]) [vi (ω ı (Int.add x695 1)),AV.arr 0 1 0 n696,vi x697,vi x698] [Ob.mk OK.arr 26 1 1 l699] else some (Out.jump (JX.exit 6) [vi x695],[Ob.mk OK.arr 26 1 1 l699]) else none else none else none else none else some (Out.jump (JX.exit 6) [vi x695],[Ob.mk OK.arr 26 1 1 l699]):=by
 intros
 exact(E_in [188,142] _ _ _).trans (by kernel_rfl)
theorem f205_l2_l4:∀(x711:Int) (n712:Nat) (x713 x714:Int) (l715:List (List AV)),E cx (Key.loop 205 [true,true,true,true,true,true,true,true,true,false,false,false,false,true,false,false]) [vi x711,AV.arr 0 1 0 n712,vi x713,vi x714] [Ob.mk OK.arr 26 1 1 l715]=bif decide (x714≤x711) then if 0≤x711 then if x711<(n712:Int) then Ω (nth l715 (Nat.add 0 (τ x711))) fun cs716↦Ω (uncons? cs716) fun p717↦Ω (AV.int? υ p717.fst) fun n718↦Ω (nil? p717.snd) fun _↦if 0≤x713 then if x713<(n712:Int) then Ω (nth l715 (Nat.add 0 (τ x713))) fun cs720↦Ω (uncons? cs720) fun p721↦Ω (AV.int? υ p721.fst) fun n722↦Ω (nil? p721.snd) fun _↦Ω (E cx (Key.fn 203) [vu n718,vu n722] []) fun r724↦Ω (ret1 r724) fun v725↦Ω (AV.bool? v725) fun b726↦bif b726 then some (Out.jump (JX.exit 8) [vi x711],[Ob.mk OK.arr 26 1 1 l715]) else E cx (Key.loop 205 [true,true,true,true,true,true,true,true,true,false,false,false,false,true,false,false]) [vi (ω ı (Int.sub x711 1)),AV.arr 0 1 0 n712,vi x713,vi x714] [Ob.mk OK.arr 26 1 1 l715] else none else none else none else none else some (Out.jump (JX.exit 8) [vi x711],[Ob.mk OK.arr 26 1 1 l715]):=by
 intros
 exact(E_in [188,142] _ _ _).trans (by kernel_rfl)
noncomputable def q208_0:JX×List AV×Heap→List (List AV)→Option (Out×Heap) :=
 fun j733 data728 ↦
 Ω (uncons? j733.snd.fst) fun p734 ↦
 Ω (AV.int? ı p734.fst) fun _ ↦
 Ω (nil? p734.snd) fun _ ↦
 Ω (uncons? j733.snd.snd) fun p737 ↦
 Ω (obIs (Ob.mk OK.arr 26 1 1 data728) p737.fst) fun _ ↦
 Ω (chk p737.fst.ver 1) fun _ ↦
 Ω (nil? p737.snd) fun _ ↦
 some (Out.ret (AV.tuple []),[Ob.mk OK.arr 26 1 1 p737.fst.es])
theorem f208:∀(n727:Nat) (data728:List (List AV)) (lo729 hi730 first731:Int),E cx (Key.own 208) [AV.arr 0 1 0 n727,vi lo729,vi hi730,vi first731] [Ob.mk OK.arr 26 1 1 data728]=Ω (E cx (Key.loop 208 [true,false]) [vi lo729,AV.arr 0 1 0 n727,vi hi730,vi first731] [Ob.mk OK.arr 26 1 1 data728]) fun r732↦Ω (asJump r732) fun j733↦bif JX.is j733.fst (JX.exit 0) then q208_0 j733 data728 else bif JX.is j733.fst JX.ret then q208_0 j733 data728 else none:=by
 intros
 exact(E_in [188,142] _ _ _).trans (by kernel_rfl)
noncomputable def q208_l0_0:Int→Int→Nat→List (List AV)→Int→Option (Out×Heap) :=
 fun x751 x748 n749 l752 x750 ↦
 if 0≤ω ı (Int.add x751 x748) then
 if ω ı (Int.add x751 x748)<(n749:Int) then
 Ω (nth l752 (Nat.add 0 (τ (ω ı (Int.add x751 x748))))) fun cs791 ↦
 Ω (uncons? cs791) fun p792 ↦
 Ω (AV.int? υ p792.fst) fun n793 ↦
 Ω (nil? p792.snd) fun _ ↦
 if
 0 ≤
 ω ı
 (Int.add x751 (ω ı (Int.add (ω ı (Int.mul 2 x748)) 1))) then
 if
 ω ı
 (Int.add x751 (ω ı (Int.add (ω ı (Int.mul 2 x748)) 1))) <
 (n749:Int) then
 Ω
 (nth l752
 (Nat.add 0
 (τ
 (ω ı
 (Int.add x751 (ω ı (Int.add (ω ı (Int.mul 2 x748)) 1)))))))
 fun cs795 ↦
 Ω (uncons? cs795) fun p796 ↦
 Ω (AV.int? υ p796.fst) fun n797 ↦
 Ω (nil? p796.snd) fun _ ↦
 Ω (E cx (Key.fn 203) [vu n793,vu n797] []) fun r799 ↦
 Ω (ret1 r799) fun v800 ↦
 Ω (AV.bool? v800) fun b801 ↦
 bif b801 then
 if
 0 ≤
 ω ı
 (Int.add x751 (ω ı (Int.add (ω ı (Int.mul 2 x748)) 1))) then
 if
 ω ı
 (Int.add x751 (ω ı (Int.add (ω ı (Int.mul 2 x748)) 1))) <
 (n749:Int) then
 Ω
 (nth l752
 (Nat.add 0
 (τ
 (ω ı
 (Int.add x751
 (ω ı (Int.add (ω ı (Int.mul 2 x748)) 1)))))))
 fun cs802 ↦
 Ω (uncons? cs802) fun p803 ↦
 Ω (AV.int? υ p803.fst) fun n804 ↦
 Ω (nil? p803.snd) fun _ ↦
 if 0≤ω ı (Int.add x751 x748) then
 if ω ı (Int.add x751 x748)<(n749:Int) then
 Ω
 (nth l752 (Nat.add 0 (τ (ω ı (Int.add x751 x748)))))
 fun cs806 ↦
 Ω (uncons? cs806) fun p807 ↦
 Ω (AV.int? υ p807.fst) fun n808 ↦
 Ω (nil? p807.snd) fun _ ↦
 if 0≤ω ı (Int.add x751 x748) then
 if ω ı (Int.add x751 x748)<(n749:Int) then
 Ω
 (nth l752
 (Nat.add 0 (τ (ω ı (Int.add x751 x748)))))
 fun cs810 ↦
 Ω (uncons? cs810) fun p811 ↦
 Ω (AV.int? υ p811.fst) fun _ ↦
 Ω (nil? p811.snd) fun _ ↦
 if
 0 ≤
 ω ı
 (Int.add x751
 (ω ı
 (Int.add (ω ı (Int.mul 2 x748)) 1))) then
 if
 ω ı
 (Int.add x751
 (ω ı
 (Int.add (ω ı (Int.mul 2 x748)) 1))) <
 (n749:Int) then
 Ω
 (nth
 (List.set l752
 (Nat.add 0 (τ (ω ı (Int.add x751 x748))))
 [vu n804])
 (Nat.add 0
 (τ
 (ω ı
 (Int.add x751
 (ω ı
 (Int.add (ω ı (Int.mul 2 x748)) 1)))))))
 fun cs814 ↦
 Ω (uncons? cs814) fun p815 ↦
 Ω (AV.int? υ p815.fst) fun _ ↦
 Ω (nil? p815.snd) fun _ ↦
 E cx (Key.loop 208 [true,false])
 [vi
 (ω ı
 (Int.add (ω ı (Int.mul 2 x748)) 1)),
 AV.arr 0 1 0 n749,vi x750,
 vi x751]
 [Ob.mk OK.arr 26 1 1
 (List.set
 (List.set l752
 (Nat.add 0
 (τ (ω ı (Int.add x751 x748))))
 [vu n804])
 (Nat.add 0
 (τ
 (ω ı
 (Int.add x751
 (ω ı
 (Int.add (ω ı (Int.mul 2 x748))
 1))))))
 [vu n808])]
 else none
 else none
 else none
 else none
 else none
 else none
 else none
 else none
 else
 some (Out.jump JX.ret [vi x748],[Ob.mk OK.arr 26 1 1 l752])
 else none
 else none
 else none
 else none
theorem f208_l0:∀(x748:Int) (n749:Nat) (x750 x751:Int) (l752:List (List AV)),E cx (Key.loop 208 [true,false]) [vi x748,AV.arr 0 1 0 n749,vi x750,vi x751] [Ob.mk OK.arr 26 1 1 l752]=bif decide (ω ı (Int.add (ω ı (Int.mul 2 x748)) 1)≥x750) then some (Out.jump (JX.exit 0) [vi x748],[Ob.mk OK.arr 26 1 1 l752]) else bif decide (ω ı (Int.add (ω ı (Int.add (ω ı (Int.mul 2 x748)) 1)) 1)<x750) then if 0≤ω ı (Int.add x751 (ω ı (Int.add (ω ı (Int.mul 2 x748)) 1))) then if ω ı (Int.add x751 (ω ı (Int.add (ω ı (Int.mul 2 x748)) 1)))<(n749:Int) then Ω (nth l752 (Nat.add 0 (τ (ω ı (Int.add x751 (ω ı (Int.add (ω ı (Int.mul 2 x748)) 1))))))) fun cs753↦Ω (uncons? cs753) fun p754↦Ω (AV.int? υ p754.fst) fun n755↦Ω (nil? p754.snd) fun _↦if 0≤ω ı (Int.add (ω ı (Int.add x751 (ω ı (Int.add (ω ı (Int.mul 2 x748)) 1)))) 1) then if ω ı (Int.add (ω ı (Int.add x751 (ω ı (Int.add (ω ı (Int.mul 2 x748)) 1)))) 1)<(n749:Int) then Ω (nth l752 (Nat.add 0 (τ (ω ı (Int.add (ω ı (Int.add x751 (ω ı (Int.add (ω ı (Int.mul 2 x748)) 1)))) 1))))) fun cs757↦Ω (uncons? cs757) fun p758↦Ω (AV.int? υ p758.fst) fun n759↦Ω (nil? p758.snd) fun _↦Ω (E cx (Key.fn 203) [vu n755,vu n759] []) fun r761↦Ω (ret1 r761) fun v762↦Ω (AV.bool? v762) fun b763↦bif b763 then if 0≤ω ı (Int.add x751 x748) then if ω ı (Int.add x751 x748)<(n749:Int) then Ω (nth l752 (Nat.add 0 (τ (ω ı (Int.add x751 x748))))) fun cs764↦Ω (uncons? cs764) fun p765↦Ω (AV.int? υ p765.fst) fun n766↦Ω (nil? p765.snd) fun _↦if 0≤ω ı (Int.add x751 (ω ı (Int.add (ω ı (Int.add (ω ı (Int.mul 2 x748)) 1)) 1))) then if ω ı (Int.add x751 (ω ı (Int.add (ω ı (Int.add (ω ı (Int.mul 2 x748)) 1)) 1)))<(n749:Int) then Ω (nth l752 (Nat.add 0 (τ (ω ı (Int.add x751 (ω ı (Int.add (ω ı (Int.add (ω ı (Int.mul 2 x748)) 1)) 1))))))) fun cs768↦Ω (uncons? cs768) fun p769↦Ω (AV.int? υ p769.fst) fun n770↦Ω (nil? p769.snd) fun _↦Ω (E cx (Key.fn 203) [vu n766,vu n770] []) fun r772↦Ω (ret1 r772) fun v773↦Ω (AV.bool? v773) fun b774↦bif b774 then if 0≤ω ı (Int.add x751 (ω ı (Int.add (ω ı (Int.add (ω ı (Int.mul 2 x748)) 1)) 1))) then if ω ı (Int.add x751 (ω ı (Int.add (ω ı (Int.add (ω ı (Int.mul 2 x748)) 1)) 1)))<(n749:Int) then Ω (nth l752 (Nat.add 0 (τ (ω ı (Int.add x751 (ω ı (Int.add (ω ı (Int.add (ω ı (Int.mul 2 x748)) 1)) 1))))))) fun cs775↦Ω (uncons? cs775) fun p776↦Ω (AV.int? υ p776.fst) fun n777↦Ω (nil? p776.snd) fun _↦if 0≤ω ı (Int.add x751 x748) then if ω ı (Int.add x751 x748)<(n749:Int) then Ω (nth l752 (Nat.add 0 (τ (ω ı (Int.add x751 x748))))) fun cs779↦Ω (uncons? cs779) fun p780↦Ω (AV.int? υ p780.fst) fun n781↦Ω (nil? p780.snd) fun _↦if 0≤ω ı (Int.add x751 x748) then if ω ı (Int.add x751 x748)<(n749:Int) then Ω (nth l752 (Nat.add 0 (τ (ω ı (Int.add x751 x748))))) fun cs783↦Ω (uncons? cs783) fun p784↦Ω (AV.int? υ p784.fst) fun _↦Ω (nil? p784.snd) fun _↦if 0≤ω ı (Int.add x751 (ω ı (Int.add (ω ı (Int.add (ω ı (Int.mul 2 x748)) 1)) 1))) then if ω ı (Int.add x751 (ω ı (Int.add (ω ı (Int.add (ω ı (Int.mul 2 x748)) 1)) 1)))<(n749:Int) then Ω (nth (List.set l752 (Nat.add 0 (τ (ω ı (Int.add x751 x748)))) [vu n777]) (Nat.add 0 (τ (ω ı (Int.add x751 (ω ı (Int.add (ω ı (Int.add (ω ı (Int.mul 2 x748)) 1)) 1))))))) fun cs787↦Ω (uncons? cs787) fun p788↦Ω (AV.int? υ p788.fst) fun _↦Ω (nil? p788.snd) fun _↦E cx (Key.loop 208 [true,false]) [vi (ω ı (Int.add (ω ı (Int.add (ω ı (Int.mul 2 x748)) 1)) 1)),AV.arr 0 1 0 n749,vi x750,vi x751] [Ob.mk OK.arr 26 1 1 (List.set (List.set l752 (Nat.add 0 (τ (ω ı (Int.add x751 x748)))) [vu n777]) (Nat.add 0 (τ (ω ı (Int.add x751 (ω ı (Int.add (ω ı (Int.add (ω ı (Int.mul 2 x748)) 1)) 1)))))) [vu n781])] else none else none else none else none else none else none else none else none else some (Out.jump JX.ret [vi x748],[Ob.mk OK.arr 26 1 1 l752]) else none else none else none else none else q208_l0_0 x751 x748 n749 l752 x750 else none else none else none else none else q208_l0_0 x751 x748 n749 l752 x750:=by
 intros
 exact(E_in [188,142] _ _ _).trans (by kernel_rfl)
theorem f209:∀(data845:List (List AV)) (a846 swaps847:Int),E cx (Key.own 209) [AV.list 0 1 data845,vi a846,AV.ptr 0 0 0 0] [Ob.mk OK.box 3 1 0 [[vi swaps847]]]=Ω (E cx (Key.own 210) [AV.list 0 1 data845,vi (ω ı (Int.sub a846 1)),vi a846,vi (ω ı (Int.add a846 1)),AV.ptr 0 0 0 0] [Ob.mk OK.box 3 1 0 [[vi swaps847]]]) fun r848↦Ω (asRet r848) fun x849↦Ω (AV.int? ı x849.fst) fun n850↦Ω (uncons? x849.snd) fun p851↦Ω (obIs (Ob.mk OK.box 3 1 0 [[vi swaps847]]) p851.fst) fun _↦Ω (chk p851.fst.ver 0) fun _↦Ω (uncons? p851.fst.es) fun p854↦Ω (nil? p854.snd) fun _↦Ω (uncons? p854.fst) fun p856↦Ω (AV.int? ı p856.fst) fun n857↦Ω (nil? p856.snd) fun _↦Ω (nil? p851.snd) fun _↦some (Out.ret (vi n850),[Ob.mk OK.box 3 1 0 [[vi n857]]]):=by
 intros
 exact(E_in [188,142] _ _ _).trans (by kernel_rfl)
theorem f210:∀(data860:List (List AV)) (a861 b862 c863 swaps864:Int),E cx (Key.own 210) [AV.list 0 1 data860,vi a861,vi b862,vi c863,AV.ptr 0 0 0 0] [Ob.mk OK.box 3 1 0 [[vi swaps864]]]=Ω (E cx (Key.own 211) [AV.list 0 1 data860,vi a861,vi b862,AV.ptr 0 0 0 0] [Ob.mk OK.box 3 1 0 [[vi swaps864]]]) fun r865↦Ω (asRet r865) fun x866↦Ω (AV.tup? x866.fst) fun vs867↦Ω (uncons? vs867) fun p868↦Ω (AV.int? ı p868.fst) fun n869↦Ω (uncons? p868.snd) fun p870↦Ω (AV.int? ı p870.fst) fun n871↦Ω (nil? p870.snd) fun _↦Ω (uncons? x866.snd) fun p873↦Ω (obIs (Ob.mk OK.box 3 1 0 [[vi swaps864]]) p873.fst) fun _↦Ω (chk p873.fst.ver 0) fun _↦Ω (uncons? p873.fst.es) fun p876↦Ω (nil? p876.snd) fun _↦Ω (uncons? p876.fst) fun p878↦Ω (AV.int? ı p878.fst) fun n879↦Ω (nil? p878.snd) fun _↦Ω (nil? p873.snd) fun _↦Ω (E cx (Key.own 211) [AV.list 0 1 data860,vi n871,vi c863,AV.ptr 0 0 0 0] [Ob.mk OK.box 3 1 0 [[vi n879]]]) fun r882↦Ω (asRet r882) fun x883↦Ω (AV.tup? x883.fst) fun vs884↦Ω (uncons? vs884) fun p885↦Ω (AV.int? ı p885.fst) fun n886↦Ω (uncons? p885.snd) fun p887↦Ω (AV.int? ı p887.fst) fun _↦Ω (nil? p887.snd) fun _↦Ω (uncons? x883.snd) fun p890↦Ω (obIs (Ob.mk OK.box 3 1 0 [[vi n879]]) p890.fst) fun _↦Ω (chk p890.fst.ver 0) fun _↦Ω (uncons? p890.fst.es) fun p893↦Ω (nil? p893.snd) fun _↦Ω (uncons? p893.fst) fun p895↦Ω (AV.int? ı p895.fst) fun n896↦Ω (nil? p895.snd) fun _↦Ω (nil? p890.snd) fun _↦Ω (E cx (Key.own 211) [AV.list 0 1 data860,vi n869,vi n886,AV.ptr 0 0 0 0] [Ob.mk OK.box 3 1 0 [[vi n896]]]) fun r899↦Ω (asRet r899) fun x900↦Ω (AV.tup? x900.fst) fun vs901↦Ω (uncons? vs901) fun p902↦Ω (AV.int? ı p902.fst) fun _↦Ω (uncons? p902.snd) fun p904↦Ω (AV.int? ı p904.fst) fun n905↦Ω (nil? p904.snd) fun _↦Ω (uncons? x900.snd) fun p907↦Ω (obIs (Ob.mk OK.box 3 1 0 [[vi n896]]) p907.fst) fun _↦Ω (chk p907.fst.ver 0) fun _↦Ω (uncons? p907.fst.es) fun p910↦Ω (nil? p910.snd) fun _↦Ω (uncons? p910.fst) fun p912↦Ω (AV.int? ı p912.fst) fun n913↦Ω (nil? p912.snd) fun _↦Ω (nil? p907.snd) fun _↦some (Out.ret (vi n905),[Ob.mk OK.box 3 1 0 [[vi n913]]]):=by
 intros
 exact(E_in [188,142] _ _ _).trans (by kernel_rfl)
theorem f211:∀(data916:List (List AV)) (a917 b918 swaps919:Int),E cx (Key.own 211) [AV.list 0 1 data916,vi a917,vi b918,AV.ptr 0 0 0 0] [Ob.mk OK.box 3 1 0 [[vi swaps919]]]=if 0≤b918 then Ω data916[τ b918]? fun cs920↦Ω (uncons? cs920) fun p921↦Ω (AV.int? υ p921.fst) fun n922↦Ω (nil? p921.snd) fun _↦if 0≤a917 then Ω data916[τ a917]? fun cs924↦Ω (uncons? cs924) fun p925↦Ω (AV.int? υ p925.fst) fun n926↦Ω (nil? p925.snd) fun _↦Ω (E cx (Key.fn 203) [vu n922,vu n926] []) fun r928↦Ω (ret1 r928) fun v929↦Ω (AV.bool? v929) fun b930↦bif b930 then some (Out.ret (AV.tuple [vi b918,vi a917]),[Ob.mk OK.box 3 1 0 [[vi (ω ı (Int.add swaps919 1))]]]) else some (Out.ret (AV.tuple [vi a917,vi b918]),[Ob.mk OK.box 3 1 0 [[vi swaps919]]]) else none else none:=by
 intros
 exact(E_in [188,142] _ _ _).trans (by kernel_rfl)
theorem f191:∀(r931:Int),E cx (Key.own 191) [AV.ptr 0 0 0 0] [Ob.mk OK.box 222 1 0 [[vu r931]]]=some (Out.ret (vu (ixor υ (ixor υ (ixor υ r931 (ishl υ r931 13)) (ishr υ (ixor υ r931 (ishl υ r931 13)) 7)) (ishl υ (ixor υ (ixor υ r931 (ishl υ r931 13)) (ishr υ (ixor υ r931 (ishl υ r931 13)) 7)) 17))),[Ob.mk OK.box 222 1 0 [[vu (ixor υ (ixor υ (ixor υ r931 (ishl υ r931 13)) (ishr υ (ixor υ r931 (ishl υ r931 13)) 7)) (ishl υ (ixor υ (ixor υ r931 (ishl υ r931 13)) (ishr υ (ixor υ r931 (ishl υ r931 13)) 7)) 17))]]]):=by
 intros
 exact(E_in [188,142] _ _ _).trans (by kernel_rfl)
theorem f187:∀(n0:Nat) (data1:List (List AV)) (a2 b3 limit4:Int),E cx (Key.own 187) [AV.arr 0 1 0 n0,vi a2,vi b3,vi limit4] [Ob.mk OK.arr 26 1 1 data1]=Ω (E cx (Key.loop 187 [true,true,false]) [vi a2,vi b3,vi limit4,vbool true,vbool true,AV.arr 0 1 0 n0] [Ob.mk OK.arr 26 1 1 data1]) fun r5↦Ω (asJump r5) fun j6↦bif JX.is j6.fst JX.ret then Ω (uncons? j6.snd.fst) fun p7↦Ω (AV.int? ı p7.fst) fun _↦Ω (uncons? p7.snd) fun p9↦Ω (AV.int? ı p9.fst) fun _↦Ω (uncons? p9.snd) fun p11↦Ω (AV.int? ı p11.fst) fun _↦Ω (uncons? p11.snd) fun p13↦Ω (AV.bool? p13.fst) fun _↦Ω (uncons? p13.snd) fun p15↦Ω (AV.bool? p15.fst) fun _↦Ω (nil? p15.snd) fun _↦Ω (uncons? j6.snd.snd) fun p18↦Ω (obIs (Ob.mk OK.arr 26 1 1 data1) p18.fst) fun _↦Ω (chk p18.fst.ver 1) fun _↦Ω (nil? p18.snd) fun _↦some (Out.ret (AV.tuple []),[Ob.mk OK.arr 26 1 1 p18.fst.es]) else none:=by
 intros
 exact(E_in [188,142] _ _ _).trans (by kernel_rfl)
noncomputable def q187_l0_0:Int→Int→Int→Nat→Int→Ob×List Ob→Bool→Option (Out×Heap) :=
 fun n92 x22 x23 n27 x24 p96 b94 ↦
 bif
 decide
 (ω ı (Int.sub n92 x22)≥ω ı (Int.tdiv (ω ı (Int.sub x23 x22)) 8)) then
 Ω
 (E cx (Key.own 187)
 [AV.arr 0 1 0 n27,vi x22,vi n92,vi (ω ı (Int.sub x24 1))]
 [Ob.mk OK.arr 26 1 1 p96.fst.es])
 fun r100 ↦
 Ω (asRet r100) fun x101 ↦
 Ω (AV.tup? x101.fst) fun vs102 ↦
 Ω (nil? vs102) fun _ ↦
 Ω (uncons? x101.snd) fun p104 ↦
 Ω (obIs (Ob.mk OK.arr 26 1 1 []) p104.fst) fun _ ↦
 Ω (chk p104.fst.ver 1) fun _ ↦
 Ω (nil? p104.snd) fun _ ↦
 E cx (Key.loop 187 [true,true,false])
 [vi (ω ı (Int.add n92 1)),vi x23,
 vi (ω ı (Int.sub x24 1)),vbool true,vbool b94,
 AV.arr 0 1 0 n27]
 [Ob.mk OK.arr 26 1 1 p104.fst.es]
 else
 Ω
 (E cx (Key.own 187)
 [AV.arr 0 1 0 n27,vi x22,vi n92,vi (ω ı (Int.sub x24 1))]
 [Ob.mk OK.arr 26 1 1 p96.fst.es])
 fun r108 ↦
 Ω (asRet r108) fun x109 ↦
 Ω (AV.tup? x109.fst) fun vs110 ↦
 Ω (nil? vs110) fun _ ↦
 Ω (uncons? x109.snd) fun p112 ↦
 Ω (obIs (Ob.mk OK.arr 26 1 1 []) p112.fst) fun _ ↦
 Ω (chk p112.fst.ver 1) fun _ ↦
 Ω (nil? p112.snd) fun _ ↦
 E cx (Key.loop 187 [true,true,false])
 [vi (ω ı (Int.add n92 1)),vi x23,
 vi (ω ı (Int.sub x24 1)),vbool false,vbool b94,
 AV.arr 0 1 0 n27]
 [Ob.mk OK.arr 26 1 1 p112.fst.es]
noncomputable def q187_l0_1:Int→Int→Int→Nat→Int→Ob×List Ob→Bool→Option (Out×Heap) :=
 fun x23 n92 x22 n27 x24 p96 b94 ↦
 bif
 decide
 (ω ı (Int.sub x23 n92)≥ω ı (Int.tdiv (ω ı (Int.sub x23 x22)) 8)) then
 Ω
 (E cx (Key.own 187)
 [AV.arr 0 1 0 n27,vi (ω ı (Int.add n92 1)),vi x23,
 vi (ω ı (Int.sub x24 1))]
 [Ob.mk OK.arr 26 1 1 p96.fst.es])
 fun r116 ↦
 Ω (asRet r116) fun x117 ↦
 Ω (AV.tup? x117.fst) fun vs118 ↦
 Ω (nil? vs118) fun _ ↦
 Ω (uncons? x117.snd) fun p120 ↦
 Ω (obIs (Ob.mk OK.arr 26 1 1 []) p120.fst) fun _ ↦
 Ω (chk p120.fst.ver 1) fun _ ↦
 Ω (nil? p120.snd) fun _ ↦
 E cx (Key.loop 187 [true,true,false])
 [vi x22,vi n92,vi (ω ı (Int.sub x24 1)),vbool true,
 vbool b94,AV.arr 0 1 0 n27]
 [Ob.mk OK.arr 26 1 1 p120.fst.es]
 else
 Ω
 (E cx (Key.own 187)
 [AV.arr 0 1 0 n27,vi (ω ı (Int.add n92 1)),vi x23,
 vi (ω ı (Int.sub x24 1))]
 [Ob.mk OK.arr 26 1 1 p96.fst.es])
 fun r124 ↦
 Ω (asRet r124) fun x125 ↦
 Ω (AV.tup? x125.fst) fun vs126 ↦
 Ω (nil? vs126) fun _ ↦
 Ω (uncons? x125.snd) fun p128 ↦
 Ω (obIs (Ob.mk OK.arr 26 1 1 []) p128.fst) fun _ ↦
 Ω (chk p128.fst.ver 1) fun _ ↦
 Ω (nil? p128.snd) fun _ ↦
 E cx (Key.loop 187 [true,true,false])
 [vi x22,vi n92,vi (ω ı (Int.sub x24 1)),vbool false,
 vbool b94,AV.arr 0 1 0 n27]
 [Ob.mk OK.arr 26 1 1 p128.fst.es]
noncomputable def q187_l0_2:Nat→Int→Int→Int→Ob×List Ob→Int→Option (Out×Heap) :=
 fun n27 x22 x23 n58 p73 x24 ↦
 Ω
 (E cx (Key.own 205)
 [AV.arr 0 1 0 n27,vi x22,vi x23,
 vi
 (ω ı (Int.sub (ω ı (Int.sub x23 1)) (ω ı (Int.sub n58 x22))))]
 [Ob.mk OK.arr 26 1 1 p73.fst.es])
 fun r88 ↦
 Ω (asRet r88) fun x89 ↦
 Ω (AV.tup? x89.fst) fun vs90 ↦
 Ω (uncons? vs90) fun p91 ↦
 Ω (AV.int? ı p91.fst) fun n92 ↦
 Ω (uncons? p91.snd) fun p93 ↦
 Ω (AV.bool? p93.fst) fun b94 ↦
 Ω (nil? p93.snd) fun _ ↦
 Ω (uncons? x89.snd) fun p96 ↦
 Ω (obIs (Ob.mk OK.arr 26 1 1 []) p96.fst) fun _ ↦
 Ω (chk p96.fst.ver 1) fun _ ↦
 Ω (nil? p96.snd) fun _ ↦
 bif decide (ω ı (Int.sub n92 x22)<ω ı (Int.sub x23 n92)) then
 q187_l0_0 n92 x22 x23 n27 x24 p96 b94
 else q187_l0_1 x23 n92 x22 n27 x24 p96 b94
noncomputable def q187_l0_3:Int→Nat→Ob×List Ob→Int→Int→Int→Bool→Bool→Option (Out×Heap) :=
 fun x22 n27 p73 x23 n58 x24 b25 b26 ↦
 bif decide (x22>0) then
 if 0≤ω ı (Int.sub x22 1) then
 if ω ı (Int.sub x22 1)<(n27:Int) then
 Ω (nth p73.fst.es (Nat.add 0 (τ (ω ı (Int.sub x22 1))))) fun cs77 ↦
 Ω (uncons? cs77) fun p78 ↦
 Ω (AV.int? υ p78.fst) fun n79 ↦
 Ω (nil? p78.snd) fun _ ↦
 if
 0 ≤
 ω ı
 (Int.sub (ω ı (Int.sub x23 1)) (ω ı (Int.sub n58 x22))) then
 if
 ω ı
 (Int.sub (ω ı (Int.sub x23 1)) (ω ı (Int.sub n58 x22))) <
 (n27:Int) then
 Ω
 (nth p73.fst.es
 (Nat.add 0
 (τ
 (ω ı
 (Int.sub (ω ı (Int.sub x23 1)) (ω ı (Int.sub n58 x22)))))))
 fun cs81 ↦
 Ω (uncons? cs81) fun p82 ↦
 Ω (AV.int? υ p82.fst) fun n83 ↦
 Ω (nil? p82.snd) fun _ ↦
 Ω (E cx (Key.fn 203) [vu n79,vu n83] []) fun r85 ↦
 Ω (ret1 r85) fun v86 ↦
 Ω (AV.bool? v86) fun b87 ↦
 bif b87 then q187_l0_2 n27 x22 x23 n58 p73 x24
 else
 Ω
 (E cx (Key.own 204)
 [AV.arr 0 1 0 n27,vi x22,vi x23,
 vi
 (ω ı
 (Int.sub (ω ı (Int.sub x23 1)) (ω ı (Int.sub n58 x22))))]
 [Ob.mk OK.arr 26 1 1 p73.fst.es])
 fun r132 ↦
 Ω (asRet r132) fun x133 ↦
 Ω (AV.int? ı x133.fst) fun n134 ↦
 Ω (uncons? x133.snd) fun p135 ↦
 Ω (obIs (Ob.mk OK.arr 26 1 1 []) p135.fst) fun _ ↦
 Ω (chk p135.fst.ver 1) fun _ ↦
 Ω (nil? p135.snd) fun _ ↦
 E cx (Key.loop 187 [true,true,false])
 [vi n134,vi x23,
 vi (ω ı (Int.sub x24 1)),vbool b25,
 vbool b26,AV.arr 0 1 0 n27]
 [Ob.mk OK.arr 26 1 1 p135.fst.es]
 else none
 else none
 else none
 else none
 else q187_l0_2 n27 x22 x23 n58 p73 x24
noncomputable def q187_l0_4:Bool→Int→Nat→Ob×List Ob→Int→Int→Int→Bool→Option (Out×Heap) :=
 fun b26 x22 n27 p66 x23 n58 x24 b25↦bif b26 then none else q187_l0_3 x22 n27 p66 x23 n58 x24 b25 b26
noncomputable def q187_l0_5:Nat→Int→Int→Int→Ob×List Ob→Int→Option (Out×Heap) :=
 fun n27 x22 x23 n58 p716 x24 ↦
 Ω
 (E cx (Key.own 205) [AV.arr 0 1 0 n27,vi x22,vi x23,vi n58]
 [Ob.mk OK.arr 26 1 1 p716.fst.es])
 fun r731 ↦
 Ω (asRet r731) fun x732 ↦
 Ω (AV.tup? x732.fst) fun vs733 ↦
 Ω (uncons? vs733) fun p734 ↦
 Ω (AV.int? ı p734.fst) fun n735 ↦
 Ω (uncons? p734.snd) fun p736 ↦
 Ω (AV.bool? p736.fst) fun b737 ↦
 Ω (nil? p736.snd) fun _ ↦
 Ω (uncons? x732.snd) fun p739 ↦
 Ω (obIs (Ob.mk OK.arr 26 1 1 []) p739.fst) fun _ ↦
 Ω (chk p739.fst.ver 1) fun _ ↦
 Ω (nil? p739.snd) fun _ ↦
 bif decide (ω ı (Int.sub n735 x22)<ω ı (Int.sub x23 n735)) then
 q187_l0_0 n735 x22 x23 n27 x24 p739 b737
 else q187_l0_1 x23 n735 x22 n27 x24 p739 b737
noncomputable def q187_l0_6:Int→Nat→Ob×List Ob→Int→Int→Int→Bool→Bool→Option (Out×Heap) :=
 fun x22 n27 p716 n58 x23 x24 b25 b26 ↦
 bif decide (x22>0) then
 if 0≤ω ı (Int.sub x22 1) then
 if ω ı (Int.sub x22 1)<(n27:Int) then
 Ω (nth p716.fst.es (Nat.add 0 (τ (ω ı (Int.sub x22 1))))) fun cs720 ↦
 Ω (uncons? cs720) fun p721 ↦
 Ω (AV.int? υ p721.fst) fun n722 ↦
 Ω (nil? p721.snd) fun _ ↦
 if 0≤n58 then
 if n58<(n27:Int) then
 Ω (nth p716.fst.es (Nat.add 0 (τ n58))) fun cs724 ↦
 Ω (uncons? cs724) fun p725 ↦
 Ω (AV.int? υ p725.fst) fun n726 ↦
 Ω (nil? p725.snd) fun _ ↦
 Ω (E cx (Key.fn 203) [vu n722,vu n726] []) fun r728 ↦
 Ω (ret1 r728) fun v729 ↦
 Ω (AV.bool? v729) fun b730 ↦
 bif b730 then q187_l0_5 n27 x22 x23 n58 p716 x24
 else
 Ω
 (E cx (Key.own 204)
 [AV.arr 0 1 0 n27,vi x22,vi x23,vi n58]
 [Ob.mk OK.arr 26 1 1 p716.fst.es])
 fun r775 ↦
 Ω (asRet r775) fun x776 ↦
 Ω (AV.int? ı x776.fst) fun n777 ↦
 Ω (uncons? x776.snd) fun p778 ↦
 Ω (obIs (Ob.mk OK.arr 26 1 1 []) p778.fst) fun _ ↦
 Ω (chk p778.fst.ver 1) fun _ ↦
 Ω (nil? p778.snd) fun _ ↦
 E cx (Key.loop 187 [true,true,false])
 [vi n777,vi x23,
 vi (ω ı (Int.sub x24 1)),vbool b25,
 vbool b26,AV.arr 0 1 0 n27]
 [Ob.mk OK.arr 26 1 1 p778.fst.es]
 else none
 else none
 else none
 else none
 else q187_l0_5 n27 x22 x23 n58 p716 x24
noncomputable def q187_l0_7:Bool→Int→Nat→Ob×List Ob→Int→Int→Int→Bool→Option (Out×Heap) :=
 fun b26 x22 n27 p49 n58 x23 x24 b25↦bif b26 then none else q187_l0_6 x22 n27 p49 n58 x23 x24 b25 b26
noncomputable def q187_l0_8:Int→Int→Int→Nat→Int→Ob×List Ob→Bool→Option (Out×Heap) :=
 fun n1607 x22 x23 n27 x24 p1611 b1609 ↦
 bif
 decide
 (ω ı (Int.sub n1607 x22) ≥
 ω ı (Int.tdiv (ω ı (Int.sub x23 x22)) 8)) then
 Ω
 (E cx (Key.own 187)
 [AV.arr 0 1 0 n27,vi x22,vi n1607,vi x24]
 [Ob.mk OK.arr 26 1 1 p1611.fst.es])
 fun r1615 ↦
 Ω (asRet r1615) fun x1616 ↦
 Ω (AV.tup? x1616.fst) fun vs1617 ↦
 Ω (nil? vs1617) fun _ ↦
 Ω (uncons? x1616.snd) fun p1619 ↦
 Ω (obIs (Ob.mk OK.arr 26 1 1 []) p1619.fst) fun _ ↦
 Ω (chk p1619.fst.ver 1) fun _ ↦
 Ω (nil? p1619.snd) fun _ ↦
 E cx (Key.loop 187 [true,true,false])
 [vi (ω ı (Int.add n1607 1)),vi x23,vi x24,vbool true,
 vbool b1609,AV.arr 0 1 0 n27]
 [Ob.mk OK.arr 26 1 1 p1619.fst.es]
 else
 Ω
 (E cx (Key.own 187)
 [AV.arr 0 1 0 n27,vi x22,vi n1607,vi x24]
 [Ob.mk OK.arr 26 1 1 p1611.fst.es])
 fun r1623 ↦
 Ω (asRet r1623) fun x1624 ↦
 Ω (AV.tup? x1624.fst) fun vs1625 ↦
 Ω (nil? vs1625) fun _ ↦
 Ω (uncons? x1624.snd) fun p1627 ↦
 Ω (obIs (Ob.mk OK.arr 26 1 1 []) p1627.fst) fun _ ↦
 Ω (chk p1627.fst.ver 1) fun _ ↦
 Ω (nil? p1627.snd) fun _ ↦
 E cx (Key.loop 187 [true,true,false])
 [vi (ω ı (Int.add n1607 1)),vi x23,vi x24,vbool false,
 vbool b1609,AV.arr 0 1 0 n27]
 [Ob.mk OK.arr 26 1 1 p1627.fst.es]
noncomputable def q187_l0_9:Int→Int→Int→Nat→Int→Ob×List Ob→Bool→Option (Out×Heap) :=
 fun x23 n1607 x22 n27 x24 p1611 b1609 ↦
 bif
 decide
 (ω ı (Int.sub x23 n1607) ≥
 ω ı (Int.tdiv (ω ı (Int.sub x23 x22)) 8)) then
 Ω
 (E cx (Key.own 187)
 [AV.arr 0 1 0 n27,vi (ω ı (Int.add n1607 1)),vi x23,vi x24]
 [Ob.mk OK.arr 26 1 1 p1611.fst.es])
 fun r1631 ↦
 Ω (asRet r1631) fun x1632 ↦
 Ω (AV.tup? x1632.fst) fun vs1633 ↦
 Ω (nil? vs1633) fun _ ↦
 Ω (uncons? x1632.snd) fun p1635 ↦
 Ω (obIs (Ob.mk OK.arr 26 1 1 []) p1635.fst) fun _ ↦
 Ω (chk p1635.fst.ver 1) fun _ ↦
 Ω (nil? p1635.snd) fun _ ↦
 E cx (Key.loop 187 [true,true,false])
 [vi x22,vi n1607,vi x24,vbool true,vbool b1609,
 AV.arr 0 1 0 n27]
 [Ob.mk OK.arr 26 1 1 p1635.fst.es]
 else
 Ω
 (E cx (Key.own 187)
 [AV.arr 0 1 0 n27,vi (ω ı (Int.add n1607 1)),vi x23,vi x24]
 [Ob.mk OK.arr 26 1 1 p1611.fst.es])
 fun r1639 ↦
 Ω (asRet r1639) fun x1640 ↦
 Ω (AV.tup? x1640.fst) fun vs1641 ↦
 Ω (nil? vs1641) fun _ ↦
 Ω (uncons? x1640.snd) fun p1643 ↦
 Ω (obIs (Ob.mk OK.arr 26 1 1 []) p1643.fst) fun _ ↦
 Ω (chk p1643.fst.ver 1) fun _ ↦
 Ω (nil? p1643.snd) fun _ ↦
 E cx (Key.loop 187 [true,true,false])
 [vi x22,vi n1607,vi x24,vbool false,vbool b1609,
 AV.arr 0 1 0 n27]
 [Ob.mk OK.arr 26 1 1 p1643.fst.es]
noncomputable def q187_l0_10:Nat→Int→Int→Int→Ob×List Ob→Int→Option (Out×Heap) :=
 fun n27 x22 x23 n1573 p1588 x24 ↦
 Ω
 (E cx (Key.own 205)
 [AV.arr 0 1 0 n27,vi x22,vi x23,
 vi
 (ω ı (Int.sub (ω ı (Int.sub x23 1)) (ω ı (Int.sub n1573 x22))))]
 [Ob.mk OK.arr 26 1 1 p1588.fst.es])
 fun r1603 ↦
 Ω (asRet r1603) fun x1604 ↦
 Ω (AV.tup? x1604.fst) fun vs1605 ↦
 Ω (uncons? vs1605) fun p1606 ↦
 Ω (AV.int? ı p1606.fst) fun n1607 ↦
 Ω (uncons? p1606.snd) fun p1608 ↦
 Ω (AV.bool? p1608.fst) fun b1609 ↦
 Ω (nil? p1608.snd) fun _ ↦
 Ω (uncons? x1604.snd) fun p1611 ↦
 Ω (obIs (Ob.mk OK.arr 26 1 1 []) p1611.fst) fun _ ↦
 Ω (chk p1611.fst.ver 1) fun _ ↦
 Ω (nil? p1611.snd) fun _ ↦
 bif decide (ω ı (Int.sub n1607 x22)<ω ı (Int.sub x23 n1607)) then
 q187_l0_8 n1607 x22 x23 n27 x24 p1611 b1609
 else q187_l0_9 x23 n1607 x22 n27 x24 p1611 b1609
noncomputable def q187_l0_11:Int→Nat→Ob×List Ob→Int→Int→Int→Bool→Bool→Option (Out×Heap) :=
 fun x22 n27 p1588 x23 n1573 x24 b25 b26 ↦
 bif decide (x22>0) then
 if 0≤ω ı (Int.sub x22 1) then
 if ω ı (Int.sub x22 1)<(n27:Int) then
 Ω (nth p1588.fst.es (Nat.add 0 (τ (ω ı (Int.sub x22 1))))) fun cs1592 ↦
 Ω (uncons? cs1592) fun p1593 ↦
 Ω (AV.int? υ p1593.fst) fun n1594 ↦
 Ω (nil? p1593.snd) fun _ ↦
 if
 0 ≤
 ω ı
 (Int.sub (ω ı (Int.sub x23 1)) (ω ı (Int.sub n1573 x22))) then
 if
 ω ı
 (Int.sub (ω ı (Int.sub x23 1)) (ω ı (Int.sub n1573 x22))) <
 (n27:Int) then
 Ω
 (nth p1588.fst.es
 (Nat.add 0
 (τ
 (ω ı
 (Int.sub (ω ı (Int.sub x23 1)) (ω ı (Int.sub n1573 x22)))))))
 fun cs1596 ↦
 Ω (uncons? cs1596) fun p1597 ↦
 Ω (AV.int? υ p1597.fst) fun n1598 ↦
 Ω (nil? p1597.snd) fun _ ↦
 Ω (E cx (Key.fn 203) [vu n1594,vu n1598] []) fun r1600 ↦
 Ω (ret1 r1600) fun v1601 ↦
 Ω (AV.bool? v1601) fun b1602 ↦
 bif b1602 then q187_l0_10 n27 x22 x23 n1573 p1588 x24
 else
 Ω
 (E cx (Key.own 204)
 [AV.arr 0 1 0 n27,vi x22,vi x23,
 vi
 (ω ı
 (Int.sub (ω ı (Int.sub x23 1)) (ω ı (Int.sub n1573 x22))))]
 [Ob.mk OK.arr 26 1 1 p1588.fst.es])
 fun r1647 ↦
 Ω (asRet r1647) fun x1648 ↦
 Ω (AV.int? ı x1648.fst) fun n1649 ↦
 Ω (uncons? x1648.snd) fun p1650 ↦
 Ω (obIs (Ob.mk OK.arr 26 1 1 []) p1650.fst) fun _ ↦
 Ω (chk p1650.fst.ver 1) fun _ ↦
 Ω (nil? p1650.snd) fun _ ↦
 E cx (Key.loop 187 [true,true,false])
 [vi n1649,vi x23,vi x24,vbool b25,
 vbool b26,AV.arr 0 1 0 n27]
 [Ob.mk OK.arr 26 1 1 p1650.fst.es]
 else none
 else none
 else none
 else none
 else q187_l0_10 n27 x22 x23 n1573 p1588 x24
noncomputable def q187_l0_12:Bool→Int→Nat→Ob×List Ob→Int→Int→Int→Bool→Option (Out×Heap) :=
 fun b26 x22 n27 p1581 x23 n1573 x24 b25↦bif b26 then none else q187_l0_11 x22 n27 p1581 x23 n1573 x24 b25 b26
noncomputable def q187_l0_13:Nat→Int→Int→Int→Ob×List Ob→Int→Option (Out×Heap) :=
 fun n27 x22 x23 n1573 p2231 x24 ↦
 Ω
 (E cx (Key.own 205) [AV.arr 0 1 0 n27,vi x22,vi x23,vi n1573]
 [Ob.mk OK.arr 26 1 1 p2231.fst.es])
 fun r2246 ↦
 Ω (asRet r2246) fun x2247 ↦
 Ω (AV.tup? x2247.fst) fun vs2248 ↦
 Ω (uncons? vs2248) fun p2249 ↦
 Ω (AV.int? ı p2249.fst) fun n2250 ↦
 Ω (uncons? p2249.snd) fun p2251 ↦
 Ω (AV.bool? p2251.fst) fun b2252 ↦
 Ω (nil? p2251.snd) fun _ ↦
 Ω (uncons? x2247.snd) fun p2254 ↦
 Ω (obIs (Ob.mk OK.arr 26 1 1 []) p2254.fst) fun _ ↦
 Ω (chk p2254.fst.ver 1) fun _ ↦
 Ω (nil? p2254.snd) fun _ ↦
 bif decide (ω ı (Int.sub n2250 x22)<ω ı (Int.sub x23 n2250)) then
 q187_l0_8 n2250 x22 x23 n27 x24 p2254 b2252
 else q187_l0_9 x23 n2250 x22 n27 x24 p2254 b2252
noncomputable def q187_l0_14:Nat→Int→Int→Int→List (List AV)→Int→Option (Out×Heap) :=
 fun n27 x22 x23 n1573 l28 x24 ↦
 Ω
 (E cx (Key.own 205) [AV.arr 0 1 0 n27,vi x22,vi x23,vi n1573]
 [Ob.mk OK.arr 26 1 1 l28])
 fun r2352 ↦
 Ω (asRet r2352) fun x2353 ↦
 Ω (AV.tup? x2353.fst) fun vs2354 ↦
 Ω (uncons? vs2354) fun p2355 ↦
 Ω (AV.int? ı p2355.fst) fun n2356 ↦
 Ω (uncons? p2355.snd) fun p2357 ↦
 Ω (AV.bool? p2357.fst) fun b2358 ↦
 Ω (nil? p2357.snd) fun _ ↦
 Ω (uncons? x2353.snd) fun p2360 ↦
 Ω (obIs (Ob.mk OK.arr 26 1 1 []) p2360.fst) fun _ ↦
 Ω (chk p2360.fst.ver 1) fun _ ↦
 Ω (nil? p2360.snd) fun _ ↦
 bif decide (ω ı (Int.sub n2356 x22)<ω ı (Int.sub x23 n2356)) then
 q187_l0_8 n2356 x22 x23 n27 x24 p2360 b2358
 else q187_l0_9 x23 n2356 x22 n27 x24 p2360 b2358
noncomputable def q187_l0_15:Int→Nat→List (List AV)→Int→Int→Int→Bool→Bool→Option (Out×Heap) :=
 fun x22 n27 l28 n1573 x23 x24 b25 b26 ↦
 bif decide (x22>0) then
 if 0≤ω ı (Int.sub x22 1) then
 if ω ı (Int.sub x22 1)<(n27:Int) then
 Ω (nth l28 (Nat.add 0 (τ (ω ı (Int.sub x22 1))))) fun cs2341 ↦
 Ω (uncons? cs2341) fun p2342 ↦
 Ω (AV.int? υ p2342.fst) fun n2343 ↦
 Ω (nil? p2342.snd) fun _ ↦
 if 0≤n1573 then
 if n1573<(n27:Int) then
 Ω (nth l28 (Nat.add 0 (τ n1573))) fun cs2345 ↦
 Ω (uncons? cs2345) fun p2346 ↦
 Ω (AV.int? υ p2346.fst) fun n2347 ↦
 Ω (nil? p2346.snd) fun _ ↦
 Ω (E cx (Key.fn 203) [vu n2343,vu n2347] []) fun r2349 ↦
 Ω (ret1 r2349) fun v2350 ↦
 Ω (AV.bool? v2350) fun b2351 ↦
 bif b2351 then q187_l0_14 n27 x22 x23 n1573 l28 x24
 else
 Ω
 (E cx (Key.own 204)
 [AV.arr 0 1 0 n27,vi x22,vi x23,vi n1573]
 [Ob.mk OK.arr 26 1 1 l28])
 fun r2396 ↦
 Ω (asRet r2396) fun x2397 ↦
 Ω (AV.int? ı x2397.fst) fun n2398 ↦
 Ω (uncons? x2397.snd) fun p2399 ↦
 Ω (obIs (Ob.mk OK.arr 26 1 1 []) p2399.fst) fun _ ↦
 Ω (chk p2399.fst.ver 1) fun _ ↦
 Ω (nil? p2399.snd) fun _ ↦
 E cx (Key.loop 187 [true,true,false])
 [vi n2398,vi x23,vi x24,vbool b25,
 vbool b26,AV.arr 0 1 0 n27]
 [Ob.mk OK.arr 26 1 1 p2399.fst.es]
 else none
 else none
 else none
 else none
 else q187_l0_14 n27 x22 x23 n1573 l28 x24
noncomputable def q187_l0_16:Bool→Int→Nat→List (List AV)→Int→Int→Int→Bool→Option (Out×Heap) :=
 fun b26 x22 n27 l28 n1573 x23 x24 b25↦bif b26 then none else q187_l0_15 x22 n27 l28 n1573 x23 x24 b25 b26
theorem f187_l0:∀(x22 x23 x24:Int) (b25 b26:Bool) (n27:Nat) (l28:List (List AV)),E cx (Key.loop 187 [true,true,false]) [vi x22,vi x23,vi x24,vbool b25,vbool b26,AV.arr 0 1 0 n27] [Ob.mk OK.arr 26 1 1 l28]=bif decide (ω ı (Int.sub x23 x22)≤12) then Ω (E cx (Key.own 197) [AV.arr 0 1 0 n27,vi x22,vi x23] [Ob.mk OK.arr 26 1 1 l28]) fun r29↦Ω (asRet r29) fun x30↦Ω (AV.tup? x30.fst) fun vs31↦Ω (nil? vs31) fun _↦Ω (uncons? x30.snd) fun p33↦Ω (obIs (Ob.mk OK.arr 26 1 1 []) p33.fst) fun _↦Ω (chk p33.fst.ver 1) fun _↦Ω (nil? p33.snd) fun _↦some (Out.jump JX.ret [vi x22,vi x23,vi x24,vbool b25,vbool b26],[Ob.mk OK.arr 26 1 1 p33.fst.es]) else bif decide (x24=0) then Ω (E cx (Key.own 198) [AV.arr 0 1 0 n27,vi x22,vi x23] [Ob.mk OK.arr 26 1 1 l28]) fun r37↦Ω (asRet r37) fun x38↦Ω (AV.tup? x38.fst) fun vs39↦Ω (nil? vs39) fun _↦Ω (uncons? x38.snd) fun p41↦Ω (obIs (Ob.mk OK.arr 26 1 1 []) p41.fst) fun _↦Ω (chk p41.fst.ver 1) fun _↦Ω (nil? p41.snd) fun _↦some (Out.jump JX.ret [vi x22,vi x23,vi x24,vbool b25,vbool b26],[Ob.mk OK.arr 26 1 1 p41.fst.es]) else bif !b25 then Ω (E cx (Key.own 199) [AV.arr 0 1 0 n27,vi x22,vi x23] [Ob.mk OK.arr 26 1 1 l28]) fun r45↦Ω (asRet r45) fun x46↦Ω (AV.tup? x46.fst) fun vs47↦Ω (nil? vs47) fun _↦Ω (uncons? x46.snd) fun p49↦Ω (obIs (Ob.mk OK.arr 26 1 1 []) p49.fst) fun _↦Ω (chk p49.fst.ver 1) fun _↦Ω (nil? p49.snd) fun _↦Ω (chkLe (Nat.add 0 n27) (List.length p49.fst.es)) fun _↦Ω (E cx (Key.fn 200) [AV.list 0 1 (List.drop 0 (List.take (Nat.add 0 n27) p49.fst.es)),vi x22,vi x23] []) fun r54↦Ω (ret1 r54) fun v55↦Ω (AV.tup? v55) fun vs56↦Ω (uncons? vs56) fun p57↦Ω (AV.int? ı p57.fst) fun n58↦Ω (uncons? p57.snd) fun p59↦Ω (AV.int? ı p59.fst) fun n60↦Ω (nil? p59.snd) fun _↦bif decide (n60=2) then Ω (E cx (Key.own 201) [AV.arr 0 1 0 n27,vi x22,vi x23] [Ob.mk OK.arr 26 1 1 p49.fst.es]) fun r62↦Ω (asRet r62) fun x63↦Ω (AV.tup? x63.fst) fun vs64↦Ω (nil? vs64) fun _↦Ω (uncons? x63.snd) fun p66↦Ω (obIs (Ob.mk OK.arr 26 1 1 []) p66.fst) fun _↦Ω (chk p66.fst.ver 1) fun _↦Ω (nil? p66.snd) fun _↦bif decide (b25=true) then bif b25 then bif decide (b26=true) then bif decide (b26=true) then bif b26 then Ω (E cx (Key.own 202) [AV.arr 0 1 0 n27,vi x22,vi x23] [Ob.mk OK.arr 26 1 1 p66.fst.es]) fun r70↦Ω (asRet r70) fun x71↦Ω (AV.bool? x71.fst) fun b72↦Ω (uncons? x71.snd) fun p73↦Ω (obIs (Ob.mk OK.arr 26 1 1 []) p73.fst) fun _↦Ω (chk p73.fst.ver 1) fun _↦Ω (nil? p73.snd) fun _↦bif b72 then some (Out.jump JX.ret [vi x22,vi x23,vi (ω ı (Int.sub x24 1)),vbool b25,vbool b26],[Ob.mk OK.arr 26 1 1 p73.fst.es]) else q187_l0_3 x22 n27 p73 x23 n58 x24 b25 b26 else q187_l0_3 x22 n27 p66 x23 n58 x24 b25 b26 else q187_l0_4 b26 x22 n27 p66 x23 n58 x24 b25 else bif decide (b26=true) then none else q187_l0_4 b26 x22 n27 p66 x23 n58 x24 b25 else q187_l0_3 x22 n27 p66 x23 n58 x24 b25 b26 else bif b25 then none else q187_l0_3 x22 n27 p66 x23 n58 x24 b25 b26 else bif decide (b25=true) then bif b25 then bif decide (b26=true) then bif decide (b26=true) then bif decide (n60=1) then bif b26 then Ω (E cx (Key.own 202) [AV.arr 0 1 0 n27,vi x22,vi x23] [Ob.mk OK.arr 26 1 1 p49.fst.es]) fun r713↦Ω (asRet r713) fun x714↦Ω (AV.bool? x714.fst) fun b715↦Ω (uncons? x714.snd) fun p716↦Ω (obIs (Ob.mk OK.arr 26 1 1 []) p716.fst) fun _↦Ω (chk p716.fst.ver 1) fun _↦Ω (nil? p716.snd) fun _↦bif b715 then some (Out.jump JX.ret [vi x22,vi x23,vi (ω ı (Int.sub x24 1)),vbool b25,vbool b26],[Ob.mk OK.arr 26 1 1 p716.fst.es]) else q187_l0_6 x22 n27 p716 n58 x23 x24 b25 b26 else q187_l0_6 x22 n27 p49 n58 x23 x24 b25 b26 else bif b26 then q187_l0_6 x22 n27 p49 n58 x23 x24 b25 b26 else q187_l0_6 x22 n27 p49 n58 x23 x24 b25 b26 else q187_l0_7 b26 x22 n27 p49 n58 x23 x24 b25 else bif decide (b26=true) then none else q187_l0_7 b26 x22 n27 p49 n58 x23 x24 b25 else q187_l0_6 x22 n27 p49 n58 x23 x24 b25 b26 else bif b25 then none else q187_l0_6 x22 n27 p49 n58 x23 x24 b25 b26 else Ω (chkLe (Nat.add 0 n27) (List.length l28)) fun _↦Ω (E cx (Key.fn 200) [AV.list 0 1 (List.drop 0 (List.take (Nat.add 0 n27) l28)),vi x22,vi x23] []) fun r1569↦Ω (ret1 r1569) fun v1570↦Ω (AV.tup? v1570) fun vs1571↦Ω (uncons? vs1571) fun p1572↦Ω (AV.int? ı p1572.fst) fun n1573↦Ω (uncons? p1572.snd) fun p1574↦Ω (AV.int? ı p1574.fst) fun n1575↦Ω (nil? p1574.snd) fun _↦bif decide (n1575=2) then Ω (E cx (Key.own 201) [AV.arr 0 1 0 n27,vi x22,vi x23] [Ob.mk OK.arr 26 1 1 l28]) fun r1577↦Ω (asRet r1577) fun x1578↦Ω (AV.tup? x1578.fst) fun vs1579↦Ω (nil? vs1579) fun _↦Ω (uncons? x1578.snd) fun p1581↦Ω (obIs (Ob.mk OK.arr 26 1 1 []) p1581.fst) fun _↦Ω (chk p1581.fst.ver 1) fun _↦Ω (nil? p1581.snd) fun _↦bif decide (b25=true) then bif b25 then bif decide (b26=true) then bif decide (b26=true) then bif b26 then Ω (E cx (Key.own 202) [AV.arr 0 1 0 n27,vi x22,vi x23] [Ob.mk OK.arr 26 1 1 p1581.fst.es]) fun r1585↦Ω (asRet r1585) fun x1586↦Ω (AV.bool? x1586.fst) fun b1587↦Ω (uncons? x1586.snd) fun p1588↦Ω (obIs (Ob.mk OK.arr 26 1 1 []) p1588.fst) fun _↦Ω (chk p1588.fst.ver 1) fun _↦Ω (nil? p1588.snd) fun _↦bif b1587 then some (Out.jump JX.ret [vi x22,vi x23,vi x24,vbool b25,vbool b26],[Ob.mk OK.arr 26 1 1 p1588.fst.es]) else q187_l0_11 x22 n27 p1588 x23 n1573 x24 b25 b26 else q187_l0_11 x22 n27 p1581 x23 n1573 x24 b25 b26 else q187_l0_12 b26 x22 n27 p1581 x23 n1573 x24 b25 else bif decide (b26=true) then none else q187_l0_12 b26 x22 n27 p1581 x23 n1573 x24 b25 else q187_l0_11 x22 n27 p1581 x23 n1573 x24 b25 b26 else bif b25 then none else q187_l0_11 x22 n27 p1581 x23 n1573 x24 b25 b26 else bif decide (b25=true) then bif b25 then bif decide (b26=true) then bif decide (b26=true) then bif decide (n1575=1) then bif b26 then Ω (E cx (Key.own 202) [AV.arr 0 1 0 n27,vi x22,vi x23] [Ob.mk OK.arr 26 1 1 l28]) fun r2228↦Ω (asRet r2228) fun x2229↦Ω (AV.bool? x2229.fst) fun b2230↦Ω (uncons? x2229.snd) fun p2231↦Ω (obIs (Ob.mk OK.arr 26 1 1 []) p2231.fst) fun _↦Ω (chk p2231.fst.ver 1) fun _↦Ω (nil? p2231.snd) fun _↦bif b2230 then some (Out.jump JX.ret [vi x22,vi x23,vi x24,vbool b25,vbool b26],[Ob.mk OK.arr 26 1 1 p2231.fst.es]) else bif decide (x22>0) then if 0≤ω ı (Int.sub x22 1) then if ω ı (Int.sub x22 1)<(n27:Int) then Ω (nth p2231.fst.es (Nat.add 0 (τ (ω ı (Int.sub x22 1))))) fun cs2235↦Ω (uncons? cs2235) fun p2236↦Ω (AV.int? υ p2236.fst) fun n2237↦Ω (nil? p2236.snd) fun _↦if 0≤n1573 then if n1573<(n27:Int) then Ω (nth p2231.fst.es (Nat.add 0 (τ n1573))) fun cs2239↦Ω (uncons? cs2239) fun p2240↦Ω (AV.int? υ p2240.fst) fun n2241↦Ω (nil? p2240.snd) fun _↦Ω (E cx (Key.fn 203) [vu n2237,vu n2241] []) fun r2243↦Ω (ret1 r2243) fun v2244↦Ω (AV.bool? v2244) fun b2245↦bif b2245 then q187_l0_13 n27 x22 x23 n1573 p2231 x24 else Ω (E cx (Key.own 204) [AV.arr 0 1 0 n27,vi x22,vi x23,vi n1573] [Ob.mk OK.arr 26 1 1 p2231.fst.es]) fun r2290↦Ω (asRet r2290) fun x2291↦Ω (AV.int? ı x2291.fst) fun n2292↦Ω (uncons? x2291.snd) fun p2293↦Ω (obIs (Ob.mk OK.arr 26 1 1 []) p2293.fst) fun _↦Ω (chk p2293.fst.ver 1) fun _↦Ω (nil? p2293.snd) fun _↦E cx (Key.loop 187 [true,true,false]) [vi n2292,vi x23,vi x24,vbool b25,vbool b26,AV.arr 0 1 0 n27] [Ob.mk OK.arr 26 1 1 p2293.fst.es] else none else none else none else none else q187_l0_13 n27 x22 x23 n1573 p2231 x24 else q187_l0_15 x22 n27 l28 n1573 x23 x24 b25 b26 else bif b26 then q187_l0_15 x22 n27 l28 n1573 x23 x24 b25 b26 else q187_l0_15 x22 n27 l28 n1573 x23 x24 b25 b26 else q187_l0_16 b26 x22 n27 l28 n1573 x23 x24 b25 else bif decide (b26=true) then none else q187_l0_16 b26 x22 n27 l28 n1573 x23 x24 b25 else q187_l0_15 x22 n27 l28 n1573 x23 x24 b25 b26 else bif b25 then none else q187_l0_15 x22 n27 l28 n1573 x23 x24 b25 b26:=by
 intros
 exact(E_in [188,142] _ _ _).trans (by kernel_rfl)
theorem f203:∀(x0 y1:Int),E cx (Key.fn 203) [vu x0,vu y1] []=Ω (E cx (Key.fn 165) [vu x0] []) fun r2↦Ω (ret1 r2) fun v3↦Ω (AV.bool? v3) fun b4↦bif b4 then Ω (E cx (Key.fn 165) [vu y1] []) fun r5↦Ω (ret1 r5) fun v6↦Ω (AV.bool? v6) fun b7↦bif b7 then bif decide (x0<y1) then some (Out.ret (vbool true),[]) else some (Out.ret (vbool false),[]) else some (Out.ret (vbool true),[]) else bif decide (x0<y1) then some (Out.ret (vbool true),[]) else some (Out.ret (vbool false),[]):=by
 intros
 exact(E_in [188,142] _ _ _).trans (by kernel_rfl)
theorem f190:∀(length8:Int),E cx (Key.fn 190) [vi length8] []=Ω (E cx (Key.fn 151) [vu (ω υ length8)] []) fun r9↦Ω (ret1 r9) fun v10↦Ω (AV.int? ı v10) fun n11↦if n11<0 then none else some (Out.ret (vu (ishl υ 1 n11)),[]):=by
 intros
 exact(E_in [188,142] _ _ _).trans (by kernel_rfl)
theorem f151:∀(x12:Int),E cx (Key.fn 151) [vu x12] []=Ω (E cx (Key.fn 175) [vu x12] []) fun r13↦Ω (ret1 r13) fun v14↦Ω (AV.int? ı v14) fun n15↦some (Out.ret (vi n15),[]):=by
 intros
 exact(E_in [188,142] _ _ _).trans (by kernel_rfl)
theorem f200:∀(data16:List (List AV)) (a17 b18:Int),E cx (Key.fn 200) [AV.list 0 1 data16,vi a17,vi b18] []=bif decide (ω ı (Int.sub b18 a17)≥8) then bif decide (ω ı (Int.sub b18 a17)≥50) then Ω (E cx (Key.own 209) [AV.list 0 1 data16,vi (ω ı (Int.add a17 (ω ı (Int.mul (ω ı (Int.tdiv (ω ı (Int.sub b18 a17)) 4)) 1)))),AV.ptr 0 0 0 0] [Ob.mk OK.box 3 1 0 [[vi 0]]]) fun r19↦Ω (asRet r19) fun x20↦Ω (AV.int? ı x20.fst) fun n21↦Ω (uncons? x20.snd) fun p22↦Ω (obIs (Ob.mk OK.box 3 1 0 [[vi 0]]) p22.fst) fun _↦Ω (chk p22.fst.ver 0) fun _↦Ω (uncons? p22.fst.es) fun p25↦Ω (nil? p25.snd) fun _↦Ω (uncons? p25.fst) fun p27↦Ω (AV.int? ı p27.fst) fun n28↦Ω (nil? p27.snd) fun _↦Ω (nil? p22.snd) fun _↦Ω (E cx (Key.own 209) [AV.list 0 1 data16,vi (ω ı (Int.add a17 (ω ı (Int.mul (ω ı (Int.tdiv (ω ı (Int.sub b18 a17)) 4)) 2)))),AV.ptr 0 0 0 0] [Ob.mk OK.box 3 1 0 [[vi n28]]]) fun r31↦Ω (asRet r31) fun x32↦Ω (AV.int? ı x32.fst) fun n33↦Ω (uncons? x32.snd) fun p34↦Ω (obIs (Ob.mk OK.box 3 1 0 [[vi n28]]) p34.fst) fun _↦Ω (chk p34.fst.ver 0) fun _↦Ω (uncons? p34.fst.es) fun p37↦Ω (nil? p37.snd) fun _↦Ω (uncons? p37.fst) fun p39↦Ω (AV.int? ı p39.fst) fun n40↦Ω (nil? p39.snd) fun _↦Ω (nil? p34.snd) fun _↦Ω (E cx (Key.own 209) [AV.list 0 1 data16,vi (ω ı (Int.add a17 (ω ı (Int.mul (ω ı (Int.tdiv (ω ı (Int.sub b18 a17)) 4)) 3)))),AV.ptr 0 0 0 0] [Ob.mk OK.box 3 1 0 [[vi n40]]]) fun r43↦Ω (asRet r43) fun x44↦Ω (AV.int? ı x44.fst) fun n45↦Ω (uncons? x44.snd) fun p46↦Ω (obIs (Ob.mk OK.box 3 1 0 [[vi n40]]) p46.fst) fun _↦Ω (chk p46.fst.ver 0) fun _↦Ω (uncons? p46.fst.es) fun p49↦Ω (nil? p49.snd) fun _↦Ω (uncons? p49.fst) fun p51↦Ω (AV.int? ı p51.fst) fun n52↦Ω (nil? p51.snd) fun _↦Ω (nil? p46.snd) fun _↦Ω (E cx (Key.own 210) [AV.list 0 1 data16,vi n21,vi n33,vi n45,AV.ptr 0 0 0 0] [Ob.mk OK.box 3 1 0 [[vi n52]]]) fun r55↦Ω (asRet r55) fun x56↦Ω (AV.int? ı x56.fst) fun n57↦Ω (uncons? x56.snd) fun p58↦Ω (obIs (Ob.mk OK.box 3 1 0 [[vi n52]]) p58.fst) fun _↦Ω (chk p58.fst.ver 0) fun _↦Ω (uncons? p58.fst.es) fun p61↦Ω (nil? p61.snd) fun _↦Ω (uncons? p61.fst) fun p63↦Ω (AV.int? ı p63.fst) fun n64↦Ω (nil? p63.snd) fun _↦Ω (nil? p58.snd) fun _↦bif decide (n64=0) then some (Out.ret (AV.tuple [vi n57,vi 1]),[]) else bif decide (n64=12) then some (Out.ret (AV.tuple [vi n57,vi 2]),[]) else some (Out.ret (AV.tuple [vi n57,vi 0]),[]) else Ω (E cx (Key.own 210) [AV.list 0 1 data16,vi (ω ı (Int.add a17 (ω ı (Int.mul (ω ı (Int.tdiv (ω ı (Int.sub b18 a17)) 4)) 1)))),vi (ω ı (Int.add a17 (ω ı (Int.mul (ω ı (Int.tdiv (ω ı (Int.sub b18 a17)) 4)) 2)))),vi (ω ı (Int.add a17 (ω ı (Int.mul (ω ı (Int.tdiv (ω ı (Int.sub b18 a17)) 4)) 3)))),AV.ptr 0 0 0 0] [Ob.mk OK.box 3 1 0 [[vi 0]]]) fun r67↦Ω (asRet r67) fun x68↦Ω (AV.int? ı x68.fst) fun n69↦Ω (uncons? x68.snd) fun p70↦Ω (obIs (Ob.mk OK.box 3 1 0 [[vi 0]]) p70.fst) fun _↦Ω (chk p70.fst.ver 0) fun _↦Ω (uncons? p70.fst.es) fun p73↦Ω (nil? p73.snd) fun _↦Ω (uncons? p73.fst) fun p75↦Ω (AV.int? ı p75.fst) fun n76↦Ω (nil? p75.snd) fun _↦Ω (nil? p70.snd) fun _↦bif decide (n76=0) then some (Out.ret (AV.tuple [vi n69,vi 1]),[]) else bif decide (n76=12) then some (Out.ret (AV.tuple [vi n69,vi 2]),[]) else some (Out.ret (AV.tuple [vi n69,vi 0]),[]) else some (Out.ret (AV.tuple [vi (ω ı (Int.add a17 (ω ı (Int.mul (ω ı (Int.tdiv (ω ı (Int.sub b18 a17)) 4)) 2)))),vi 1]),[]):=by
 intros
 exact(E_in [188,142] _ _ _).trans (by kernel_rfl)
end Go.Proofs.Av
