/- OracleLaw 20 -/
import Derived.Test.YtoepfmodbhfckaaAiPa
set_option maxRecDepth 100000
namespace Go.Proofs.Av
open Go
open Option renaming bind→Ω
open Go.IntKind renaming i64→ı
open Go.IntKind renaming u64→υ
noncomputable def q20_0:JX×List AV×Heap→Bool→List (List AV)→Option (Out×Heap) :=
 fun j79 b73 es75 ↦
 bif JX.is j79.fst JX.ret then
 Ω (uncons? j79.snd.fst) fun p96 ↦
 Ω (AV.bool? p96.fst) fun b97 ↦
 Ω (uncons? p96.snd) fun p98 ↦
 Ω (AV.int? ı p98.fst) fun _ ↦
 Ω (nil? p98.snd) fun _ ↦
 Ω (uncons? j79.snd.snd) fun p101 ↦
 Ω
 (obIs (Ob.mk OK.box 36 2 0 [[vbool b73,AV.list 0 2 es75]]) p101.fst)
 fun _ ↦
 Ω (chk p101.fst.ver 0) fun _ ↦
 Ω (uncons? p101.fst.es) fun p104 ↦
 Ω (nil? p104.snd) fun _ ↦
 Ω (uncons? p104.fst) fun p106 ↦
 Ω (AV.bool? p106.fst) fun _ ↦
 Ω (uncons? p106.snd) fun p108 ↦
 Ω (AV.list? 2 p108.fst) fun _ ↦
 Ω (nil? p108.snd) fun _ ↦
 Ω (nil? p101.snd) fun _↦some (Out.ret (vbool b97),[])
 else none
theorem f20:∀(raw0 more1 tok2 few3:List (List AV)) (root4:Int),E cx (Key.fn 20) [AV.list 0 1 raw0,AV.list 0 1 more1,AV.list 0 1 tok2,AV.list 0 1 few3,vi root4] []=Ω (E cx (Key.fn 79) [AV.list 0 1 raw0] []) fun r5↦Ω (ret1 r5) fun v6↦Ω (AV.list? 2 v6) fun es7↦Ω (E cx (Key.fn 79) [AV.list 0 1 more1] []) fun r8↦Ω (ret1 r8) fun v9↦Ω (AV.list? 2 v9) fun es10↦Ω (E cx (Key.fn 81) [AV.list 0 2 es7,AV.list 0 2 es10] []) fun r11↦Ω (ret1 r11) fun v12↦Ω (AV.tup? v12) fun vs13↦Ω (uncons? vs13) fun p14↦Ω (AV.list? 2 p14.fst) fun es15↦Ω (uncons? p14.snd) fun p16↦Ω (AV.int? ı p16.fst) fun n17↦Ω (nil? p16.snd) fun _↦Ω (E cx (Key.fn 81) [AV.list 0 2 es15,AV.list 0 2 es7] []) fun r19↦Ω (ret1 r19) fun v20↦Ω (AV.tup? v20) fun vs21↦Ω (uncons? vs21) fun p22↦Ω (AV.list? 2 p22.fst) fun es23↦Ω (uncons? p22.snd) fun p24↦Ω (AV.int? ı p24.fst) fun n25↦Ω (nil? p24.snd) fun _↦Ω (E cx (Key.fn 94) [vi root4,vi 3] []) fun r27↦Ω (ret1 r27) fun v28↦Ω (AV.int? ı v28) fun n29↦Ω (E cx (Key.fn 80) [AV.list 0 1 few3] []) fun r30↦Ω (ret1 r30) fun v31↦Ω (AV.list? 1 v31) fun es32↦Ω (E cx (Key.fn 93) [vu (IntKind.wrap υ n29),AV.list 0 1 es32] []) fun r33↦Ω (ret1 r33) fun v34↦Ω (AV.tup? v34) fun vs35↦Ω (uncons? vs35) fun p36↦Ω (AV.cells? p36.fst) fun cs37↦Ω (uncons? cs37) fun p38↦Ω (AV.bool? p38.fst) fun b39↦Ω (uncons? p38.snd) fun p40↦Ω (AV.list? 2 p40.fst) fun es41↦Ω (nil? p40.snd) fun _↦Ω (uncons? p36.snd) fun p43↦Ω (AV.int? ı p43.fst) fun n44↦Ω (nil? p43.snd) fun _↦bif n17 !=0 then some (Out.ret (vbool false),[]) else bif n25 !=0 then some (Out.ret (vbool false),[]) else bif n44 !=0 then some (Out.ret (vbool false),[]) else Ω (E cx (Key.fn 87) [AV.list 0 2 es15,AV.list 0 2 es23] []) fun r46↦Ω (ret1 r46) fun v47↦Ω (AV.bool? v47) fun b48↦bif b48 then Ω (E cx (Key.fn 83) [AV.list 0 2 es15] []) fun r49↦Ω (ret1 r49) fun v50↦Ω (AV.bool? v50) fun b51↦bif b51 then Ω (E cx (Key.fn 37) [AV.list 0 1 tok2,vbool false] []) fun r52↦Ω (ret1 r52) fun v53↦Ω (AV.cells? v53) fun cs54↦Ω (uncons? cs54) fun p55↦Ω (AV.bool? p55.fst) fun b56↦Ω (uncons? p55.snd) fun p57↦Ω (AV.list? 2 p57.fst) fun es58↦Ω (nil? p57.snd) fun _↦Ω (E cx (Key.loop 20 [true,true,true,true,true,true,true,true,true,true,false,true,false]) [vbool false,vi 0,vbool true,AV.list 0 2 es7,AV.list 0 2 es10,AV.list 0 2 es15,AV.list 0 4 [[AV.list 0 1 es32,vu (IntKind.wrap υ n29),vbool b39,AV.list 0 2 es41],[AV.list 0 1 es32,vu (IntKind.wrap υ n29),vbool b56,AV.list 0 2 es58]],vi 2] [Ob.mk OK.box 36 2 0 [[vbool b39,AV.list 0 2 es41]]]) fun r60↦Ω (asJump r60) fun j61↦bif JX.is j61.fst (JX.exit 0) then Ω (uncons? j61.snd.fst) fun p62↦Ω (AV.bool? p62.fst) fun b63↦Ω (uncons? p62.snd) fun p64↦Ω (AV.int? ı p64.fst) fun _↦Ω (nil? p64.snd) fun _↦Ω (uncons? j61.snd.snd) fun p67↦Ω (obIs (Ob.mk OK.box 36 2 0 [[vbool b39,AV.list 0 2 es41]]) p67.fst) fun _↦Ω (chk p67.fst.ver 0) fun _↦Ω (uncons? p67.fst.es) fun p70↦Ω (nil? p70.snd) fun _↦Ω (uncons? p70.fst) fun p72↦Ω (AV.bool? p72.fst) fun b73↦Ω (uncons? p72.snd) fun p74↦Ω (AV.list? 2 p74.fst) fun es75↦Ω (nil? p74.snd) fun _↦Ω (nil? p67.snd) fun _↦Ω (E cx (Key.loop 20 [true,true,true,true,true,true,true,true,true,true,true,false,true,false]) [vbool b63,vi 0,vbool true,AV.list 0 2 es7,AV.list 0 2 es10,AV.list 0 2 es15] [Ob.mk OK.box 36 2 0 [[vbool b73,AV.list 0 2 es75]]]) fun r78↦Ω (asJump r78) fun j79↦bif JX.is j79.fst (JX.exit 2) then Ω (uncons? j79.snd.fst) fun p80↦Ω (AV.bool? p80.fst) fun _↦Ω (uncons? p80.snd) fun p82↦Ω (AV.int? ı p82.fst) fun _↦Ω (nil? p82.snd) fun _↦Ω (uncons? j79.snd.snd) fun p85↦Ω (obIs (Ob.mk OK.box 36 2 0 [[vbool b73,AV.list 0 2 es75]]) p85.fst) fun _↦Ω (chk p85.fst.ver 0) fun _↦Ω (uncons? p85.fst.es) fun p88↦Ω (nil? p88.snd) fun _↦Ω (uncons? p88.fst) fun p90↦Ω (AV.bool? p90.fst) fun _↦Ω (uncons? p90.snd) fun p92↦Ω (AV.list? 2 p92.fst) fun _↦Ω (nil? p92.snd) fun _↦Ω (nil? p85.snd) fun _↦bif decide (((List.length es15):Int)≤IntKind.wrap ı (Int.add ((List.length es7):Int) ((List.length es10):Int))) then bif decide (((List.length es15):Int)≥((List.length es7):Int)) then some (Out.ret (vbool true),[]) else some (Out.ret (vbool false),[]) else some (Out.ret (vbool false),[]) else q20_0 j79 b73 es75 else q20_0 j61 b39 es41 else some (Out.ret (vbool false),[]) else some (Out.ret (vbool false),[]):=by
 intros
 exact(E_ov f78_true [188,142] _ _ _).trans (by kernel_rfl)
noncomputable def q20_l0_0:Bool →
 Int →
 Bool →
 List (List AV) →
 List (List AV) →
 List (List AV)→List (List AV)→Int→Bool→List (List AV)→Option (Out×Heap) :=
 fun b128 x129 b130 l131 l132 l133 l134 x135 b136 l137 ↦
 E cx (Key.loop 20 [true,true,true,true,true,true,true,true,true,true,false,true,false])
 [vbool b128,vi (IntKind.wrap ı (Int.add x129 1)),vbool b130,AV.list 0 2 l131,
 AV.list 0 2 l132,AV.list 0 2 l133,AV.list 0 4 l134,vi x135]
 [Ob.mk OK.box 36 2 0 [[vbool b136,AV.list 0 2 l137]]]
theorem f20_l0:∀(b128:Bool) (x129:Int) (b130:Bool) (l131 l132 l133 l134:List (List AV)) (x135:Int) (b136:Bool) (l137:List (List AV)),E cx (Key.loop 20 [true,true,true,true,true,true,true,true,true,true,false,true,false]) [vbool b128,vi x129,vbool b130,AV.list 0 2 l131,AV.list 0 2 l132,AV.list 0 2 l133,AV.list 0 4 l134,vi x135] [Ob.mk OK.box 36 2 0 [[vbool b136,AV.list 0 2 l137]]]=bif decide (x129<x135) then if 0≤x129 then Ω l134[Int.toNat x129]? fun cs138↦Ω (uncons? cs138) fun p139↦Ω (AV.list? 1 p139.fst) fun es140↦Ω (uncons? p139.snd) fun p141↦Ω (AV.int? υ p141.fst) fun n142↦Ω (uncons? p141.snd) fun p143↦Ω (AV.bool? p143.fst) fun b144↦Ω (uncons? p143.snd) fun p145↦Ω (AV.list? 2 p145.fst) fun es146↦Ω (nil? p145.snd) fun _↦Ω (E cx (Key.fn 89) [AV.list 0 2 l131,AV.agg [AV.list 0 1 es140,vu n142,vbool b144,AV.list 0 2 es146]] []) fun r148↦Ω (ret1 r148) fun v149↦Ω (AV.bool? v149) fun b150↦bif b150 then Ω (E cx (Key.fn 89) [AV.list 0 2 l133,AV.agg [AV.list 0 1 es140,vu n142,vbool b144,AV.list 0 2 es146]] []) fun r151↦Ω (ret1 r151) fun v152↦Ω (AV.bool? v152) fun b153↦bif b153 then q20_l0_0 b128 x129 b130 l131 l132 l133 l134 x135 b136 l137 else some (Out.jump JX.ret [vbool false,vi x129],[Ob.mk OK.box 36 2 0 [[vbool b136,AV.list 0 2 l137]]]) else q20_l0_0 b128 x129 b130 l131 l132 l133 l134 x135 b136 l137 else none else some (Out.jump (JX.exit 0) [vbool b128,vi x129],[Ob.mk OK.box 36 2 0 [[vbool b136,AV.list 0 2 l137]]]):=by
 intros
 exact(E_ov f78_true [188,142] _ _ _).trans (by kernel_rfl)
noncomputable def q20_l1_0:Bool →
 Int →
 Bool →
 List (List AV) →
 List (List AV)→List (List AV)→Bool→List (List AV)→Option (Out×Heap) :=
 fun b154 x155 b156 l157 l158 l159 b160 l161 ↦
 E cx (Key.loop 20 [true,true,true,true,true,true,true,true,true,true,true,false,true,false])
 [vbool b154,vi (IntKind.wrap ı (Int.add x155 1)),vbool b156,AV.list 0 2 l157,
 AV.list 0 2 l158,AV.list 0 2 l159]
 [Ob.mk OK.box 36 2 0 [[vbool b160,AV.list 0 2 l161]]]
theorem f20_l1:∀(b154:Bool) (x155:Int) (b156:Bool) (l157 l158 l159:List (List AV)) (b160:Bool) (l161:List (List AV)),E cx (Key.loop 20 [true,true,true,true,true,true,true,true,true,true,true,false,true,false]) [vbool b154,vi x155,vbool b156,AV.list 0 2 l157,AV.list 0 2 l158,AV.list 0 2 l159] [Ob.mk OK.box 36 2 0 [[vbool b160,AV.list 0 2 l161]]]=bif decide (x155<((List.length l159):Int)) then if 0≤x155 then Ω l159[Int.toNat x155]? fun cs162↦Ω (uncons? cs162) fun p163↦Ω (AV.int? υ p163.fst) fun n164↦Ω (uncons? p163.snd) fun p165↦Ω (AV.int? υ p165.fst) fun n166↦Ω (nil? p165.snd) fun _↦Ω (E cx (Key.fn 85) [AV.list 0 2 l159,AV.agg [vu n164,vu n166]] []) fun r168↦Ω (ret1 r168) fun v169↦Ω (AV.bool? v169) fun b170↦bif b170 then if 0≤x155 then Ω l159[Int.toNat x155]? fun cs171↦Ω (uncons? cs171) fun p172↦Ω (AV.int? υ p172.fst) fun n173↦Ω (uncons? p172.snd) fun p174↦Ω (AV.int? υ p174.fst) fun n175↦Ω (nil? p174.snd) fun _↦Ω (E cx (Key.fn 85) [AV.list 0 2 l157,AV.agg [vu n173,vu n175]] []) fun r177↦Ω (ret1 r177) fun v178↦Ω (AV.bool? v178) fun b179↦bif b179 then q20_l1_0 b154 x155 b156 l157 l158 l159 b160 l161 else if 0≤x155 then Ω l159[Int.toNat x155]? fun cs180↦Ω (uncons? cs180) fun p181↦Ω (AV.int? υ p181.fst) fun n182↦Ω (uncons? p181.snd) fun p183↦Ω (AV.int? υ p183.fst) fun n184↦Ω (nil? p183.snd) fun _↦Ω (E cx (Key.fn 85) [AV.list 0 2 l158,AV.agg [vu n182,vu n184]] []) fun r186↦Ω (ret1 r186) fun v187↦Ω (AV.bool? v187) fun b188↦bif b188 then q20_l1_0 b154 x155 b156 l157 l158 l159 b160 l161 else some (Out.jump JX.ret [vbool false,vi x155],[Ob.mk OK.box 36 2 0 [[vbool b160,AV.list 0 2 l161]]]) else none else none else some (Out.jump JX.ret [vbool false,vi x155],[Ob.mk OK.box 36 2 0 [[vbool b160,AV.list 0 2 l161]]]) else none else some (Out.jump (JX.exit 2) [vbool b154,vi x155],[Ob.mk OK.box 36 2 0 [[vbool b160,AV.list 0 2 l161]]]):=by
 intros
 exact(E_ov f78_true [188,142] _ _ _).trans (by kernel_rfl)
end Go.Proofs.Av
