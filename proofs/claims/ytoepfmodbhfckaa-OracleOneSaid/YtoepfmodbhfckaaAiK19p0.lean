/- Closed forms, as far as law 19 needs them. -/
import Derived.Test.YtoepfmodbhfckaaAiX
import Derived.Sort.AssemblyPlain
import Derived.Sort.LotD5
set_option maxRecDepth 100000
namespace Go.Proofs.Av
open Go Go.Sort
open Option renaming bind→Ω
open Go.IntKind renaming i64→ı
open Go.IntKind renaming u64→υ
open Go.IntKind renaming wrap→ω
open UInt8 renaming ofNat→β
open List renaming getElem?_eq_getElem→η
open List renaming length→ℓ
open Option renaming bind_some→χ
open Int renaming toNat→τ
section
section
theorem f40:∀(t252:Bool) (t253:List (List AV)),E cx (Key.fn 40) [AV.agg [vbool t252,AV.list 0 2 t253]] []=bif decide (((ℓ t253):Int)≤2048) then Ω (E cx (Key.fn 108) [AV.list 0 2 t253,AV.func (Fn.func 109) [] []] []) fun r254↦Ω (ret1 r254) fun v255↦Ω (AV.bool? v255) fun b256↦bif b256 then some (Out.ret (vbool true),[]) else some (Out.ret (vbool false),[]) else some (Out.ret (vbool false),[]):=by
 intros
 exact(E_in [188] _ _ _).trans (by kernel_rfl)
theorem f40_c0:∀(l257:List (List AV)),E cx (Key.fn 108) [AV.list 0 2 l257,AV.func (Fn.func 109) [] []] []=Ω (E cx (Key.loop 108 [true,false,true,false]) [vbool false,vi (ω ı (Int.sub (((ℓ l257):Int)) 1)),AV.list 0 2 l257,AV.func (Fn.func 109) [] []] []) fun r258↦Ω (asJump r258) fun j259↦bif JX.is j259.fst (JX.exit 0) then Ω (uncons? j259.snd.fst) fun p260↦Ω (AV.bool? p260.fst) fun _↦Ω (uncons? p260.snd) fun p262↦Ω (AV.int? ı p262.fst) fun _↦Ω (nil? p262.snd) fun _↦Ω (nil? j259.snd.snd) fun _↦some (Out.ret (vbool true),[]) else bif JX.is j259.fst JX.ret then Ω (uncons? j259.snd.fst) fun p266↦Ω (AV.bool? p266.fst) fun b267↦Ω (uncons? p266.snd) fun p268↦Ω (AV.int? ı p268.fst) fun _↦Ω (nil? p268.snd) fun _↦Ω (nil? j259.snd.snd) fun _↦some (Out.ret (vbool b267),[]) else none:=by
 intros
 exact(E_in [188] _ _ _).trans (by kernel_rfl)
theorem f40_c0_l1:∀(b272:Bool) (x273:Int) (l274:List (List AV)),E cx (Key.loop 108 [true,false,true,false]) [vbool b272,vi x273,AV.list 0 2 l274,AV.func (Fn.func 109) [] []] []=bif decide (x273>0) then if 0≤x273 then Ω l274[τ x273]? fun cs275↦Ω (uncons? cs275) fun p276↦Ω (AV.int? υ p276.fst) fun n277↦Ω (uncons? p276.snd) fun p278↦Ω (AV.int? υ p278.fst) fun n279↦Ω (nil? p278.snd) fun _↦if 0≤ω ı (Int.sub x273 1) then Ω l274[τ (ω ı (Int.sub x273 1))]? fun cs281↦Ω (uncons? cs281) fun p282↦Ω (AV.int? υ p282.fst) fun n283↦Ω (uncons? p282.snd) fun p284↦Ω (AV.int? υ p284.fst) fun n285↦Ω (nil? p284.snd) fun _↦Ω (E cx (Key.fn 109) [AV.agg [vu n277,vu n279],AV.agg [vu n283,vu n285]] []) fun r287↦Ω (ret1 r287) fun v288↦Ω (AV.int? ı v288) fun n289↦bif decide (n289<0) then some (Out.jump JX.ret [vbool false,vi x273],[]) else E cx (Key.loop 108 [true,false,true,false]) [vbool b272,vi (ω ı (Int.sub x273 1)),AV.list 0 2 l274,AV.func (Fn.func 109) [] []] [] else none else none else some (Out.jump (JX.exit 0) [vbool b272,vi x273],[]):=by
 intros
 exact(E_in [188] _ _ _).trans (by kernel_rfl)
theorem f42:∀(t295:Bool) (t296:List (List AV)) (root297:Int),E cx (Key.fn 42) [AV.agg [vbool t295,AV.list 0 2 t296],vu root297] []=Ω (E cx (Key.fn 40) [AV.agg [vbool t295,AV.list 0 2 t296]] []) fun r298↦Ω (ret1 r298) fun v299↦Ω (AV.bool? v299) fun b300↦bif b300 then Ω (E cx (Key.loop 42 [true,true,false,true,false]) [AV.arr 1 1 0 0,vbool false,vi 0,vu root297,AV.ptr 0 0 0 0,AV.list 0 2 t296,vi ((ℓ t296):Int)] [Ob.mk OK.box 36 2 0 [[vbool t295,AV.list 0 2 t296]],Ob.mk OK.arr 26 1 1 []]) fun r301↦Ω (asJump r301) fun j302↦bif JX.is j302.fst (JX.exit 0) then Ω (uncons? j302.snd.fst) fun p303↦Ω (AV.arr? 1 p303.fst) fun x304↦Ω (chk x304.fst 1) fun _↦Ω (uncons? p303.snd) fun p306↦Ω (AV.bool? p306.fst) fun _↦Ω (uncons? p306.snd) fun p308↦Ω (AV.int? ı p308.fst) fun _↦Ω (nil? p308.snd) fun _↦Ω (uncons? j302.snd.snd) fun p311↦Ω (obIs (Ob.mk OK.box 36 2 0 [[vbool t295,AV.list 0 2 t296]]) p311.fst) fun _↦Ω (chk p311.fst.ver 0) fun _↦Ω (uncons? p311.fst.es) fun p314↦Ω (nil? p314.snd) fun _↦Ω (uncons? p314.fst) fun p316↦Ω (AV.bool? p316.fst) fun _↦Ω (uncons? p316.snd) fun p318↦Ω (AV.list? 2 p318.fst) fun _↦Ω (nil? p318.snd) fun _↦Ω (uncons? p311.snd) fun p321↦Ω (obIs (Ob.mk OK.arr 26 1 1 []) p321.fst) fun _↦Ω (chk p321.fst.ver 1) fun _↦Ω (nil? p321.snd) fun _↦Ω (chkLe (Nat.add x304.snd.fst x304.snd.snd) (ℓ p321.fst.es)) fun _↦some (Out.ret (AV.tuple [AV.list 0 1 (List.drop x304.snd.fst (List.take (Nat.add x304.snd.fst x304.snd.snd) p321.fst.es)),vbool true]),[]) else bif JX.is j302.fst JX.ret then Ω (uncons? j302.snd.fst) fun p326↦Ω (AV.list? 1 p326.fst) fun es327↦Ω (uncons? p326.snd) fun p328↦Ω (AV.bool? p328.fst) fun b329↦Ω (uncons? p328.snd) fun p330↦Ω (AV.int? ı p330.fst) fun _↦Ω (nil? p330.snd) fun _↦Ω (uncons? j302.snd.snd) fun p333↦Ω (obIs (Ob.mk OK.box 36 2 0 [[vbool t295,AV.list 0 2 t296]]) p333.fst) fun _↦Ω (chk p333.fst.ver 0) fun _↦Ω (uncons? p333.fst.es) fun p336↦Ω (nil? p336.snd) fun _↦Ω (uncons? p336.fst) fun p338↦Ω (AV.bool? p338.fst) fun _↦Ω (uncons? p338.snd) fun p340↦Ω (AV.list? 2 p340.fst) fun _↦Ω (nil? p340.snd) fun _↦Ω (uncons? p333.snd) fun p343↦Ω (obIs (Ob.mk OK.arr 26 1 1 []) p343.fst) fun _↦Ω (chk p343.fst.ver 1) fun _↦Ω (nil? p343.snd) fun _↦some (Out.ret (AV.tuple [AV.list 0 1 es327,vbool b329]),[]) else none else some (Out.ret (AV.tuple [AV.val (Value.slice none 0 0),vbool false]),[]):=by
 intros
 exact(E_in [188] _ _ _).trans (by kernel_rfl)
theorem f42_l0:∀(n347:Nat) (b348:Bool) (x349 x350:Int) (l351:List (List AV)) (x352:Int) (b353:Bool) (l354 l355:List (List AV)),E cx (Key.loop 42 [true,true,false,true,false]) [AV.arr 1 1 0 n347,vbool b348,vi x349,vu x350,AV.ptr 0 0 0 0,AV.list 0 2 l351,vi x352] [Ob.mk OK.box 36 2 0 [[vbool b353,AV.list 0 2 l354]],Ob.mk OK.arr 26 1 1 l355]=bif decide (x349<x352) then if 0≤x349 then Ω l351[τ x349]? fun cs356↦Ω (uncons? cs356) fun p357↦Ω (AV.int? υ p357.fst) fun n358↦Ω (uncons? p357.snd) fun p359↦Ω (AV.int? υ p359.fst) fun n360↦Ω (nil? p359.snd) fun _↦bif n360 !=x350 then some (Out.jump JX.ret [AV.val (Value.slice none 0 0),vbool false,vi x349],[Ob.mk OK.box 36 2 0 [[vbool b353,AV.list 0 2 l354]],Ob.mk OK.arr 26 1 1 l355]) else bif decide (x349>0) then if 0≤ω ı (Int.sub x349 1) then Ω l354[τ (ω ı (Int.sub x349 1))]? fun cs362↦Ω (uncons? cs362) fun p363↦Ω (AV.int? υ p363.fst) fun n364↦Ω (uncons? p363.snd) fun p365↦Ω (AV.int? υ p365.fst) fun n366↦Ω (nil? p365.snd) fun _↦bif decide (n364=n358)&&(decide (n366=n360)&&true) then some (Out.jump JX.ret [AV.val (Value.slice none 0 0),vbool false,vi x349],[Ob.mk OK.box 36 2 0 [[vbool b353,AV.list 0 2 l354]],Ob.mk OK.arr 26 1 1 l355]) else Ω (chk n347 (ℓ (Ob.mk OK.arr 26 1 1 l355).es)) fun _↦if Nat.mul (Nat.add (ℓ (Ob.mk OK.arr 26 1 1 l355).es) 1) 8≤140737488355328 then E cx (Key.loop 42 [true,true,false,true,false]) [AV.arr 1 1 0 (Nat.add (ℓ (Ob.mk OK.arr 26 1 1 l355).es) 1),vbool b348,vi (ω ı (Int.add x349 1)),vu x350,AV.ptr 0 0 0 0,AV.list 0 2 l351,vi x352] [Ob.mk OK.box 36 2 0 [[vbool b353,AV.list 0 2 l354]],Ob.mk OK.arr 26 1 1 ((Ob.mk OK.arr 26 1 1 l355).es++[[vu n358]])] else none else none else Ω (chk n347 (ℓ (Ob.mk OK.arr 26 1 1 l355).es)) fun _↦if Nat.mul (Nat.add (ℓ (Ob.mk OK.arr 26 1 1 l355).es) 1) 8≤140737488355328 then E cx (Key.loop 42 [true,true,false,true,false]) [AV.arr 1 1 0 (Nat.add (ℓ (Ob.mk OK.arr 26 1 1 l355).es) 1),vbool b348,vi (ω ı (Int.add x349 1)),vu x350,AV.ptr 0 0 0 0,AV.list 0 2 l351,vi x352] [Ob.mk OK.box 36 2 0 [[vbool b353,AV.list 0 2 l354]],Ob.mk OK.arr 26 1 1 ((Ob.mk OK.arr 26 1 1 l355).es++[[vu n358]])] else none else none else some (Out.jump (JX.exit 0) [AV.arr 1 1 0 n347,vbool b348,vi x349],[Ob.mk OK.box 36 2 0 [[vbool b353,AV.list 0 2 l354]],Ob.mk OK.arr 26 1 1 l355]):=by
 intros
 exact(E_in [188] _ _ _).trans (by kernel_rfl)
theorem f47:∀(a828:Bool) (a829:List (List AV)) (b830:Bool) (b831:List (List AV)),E cx (Key.fn 47) [AV.agg [vbool a828,AV.list 0 2 a829],AV.agg [vbool b830,AV.list 0 2 b831]] []=bif !decide (a828=b830) then some (Out.ret (vbool false),[]) else bif ((ℓ a829):Int) !=((ℓ b831):Int) then some (Out.ret (vbool false),[]) else Ω (E cx (Key.loop 47 [true,true,false,true,false]) [vbool false,vi 0,AV.ptr 0 0 0 0,AV.ptr 1 0 0 0] [Ob.mk OK.box 36 2 0 [[vbool a828,AV.list 0 2 a829]],Ob.mk OK.box 36 2 0 [[vbool b830,AV.list 0 2 b831]]]) fun r832↦Ω (asJump r832) fun j833↦bif JX.is j833.fst (JX.exit 0) then Ω (uncons? j833.snd.fst) fun p834↦Ω (AV.bool? p834.fst) fun _↦Ω (uncons? p834.snd) fun p836↦Ω (AV.int? ı p836.fst) fun _↦Ω (nil? p836.snd) fun _↦Ω (uncons? j833.snd.snd) fun p839↦Ω (obIs (Ob.mk OK.box 36 2 0 [[vbool a828,AV.list 0 2 a829]]) p839.fst) fun _↦Ω (chk p839.fst.ver 0) fun _↦Ω (uncons? p839.fst.es) fun p842↦Ω (nil? p842.snd) fun _↦Ω (uncons? p842.fst) fun p844↦Ω (AV.bool? p844.fst) fun _↦Ω (uncons? p844.snd) fun p846↦Ω (AV.list? 2 p846.fst) fun _↦Ω (nil? p846.snd) fun _↦Ω (uncons? p839.snd) fun p849↦Ω (obIs (Ob.mk OK.box 36 2 0 [[vbool b830,AV.list 0 2 b831]]) p849.fst) fun _↦Ω (chk p849.fst.ver 0) fun _↦Ω (uncons? p849.fst.es) fun p852↦Ω (nil? p852.snd) fun _↦Ω (uncons? p852.fst) fun p854↦Ω (AV.bool? p854.fst) fun _↦Ω (uncons? p854.snd) fun p856↦Ω (AV.list? 2 p856.fst) fun _↦Ω (nil? p856.snd) fun _↦Ω (nil? p849.snd) fun _↦some (Out.ret (vbool true),[]) else bif JX.is j833.fst JX.ret then Ω (uncons? j833.snd.fst) fun p860↦Ω (AV.bool? p860.fst) fun b861↦Ω (uncons? p860.snd) fun p862↦Ω (AV.int? ı p862.fst) fun _↦Ω (nil? p862.snd) fun _↦Ω (uncons? j833.snd.snd) fun p865↦Ω (obIs (Ob.mk OK.box 36 2 0 [[vbool a828,AV.list 0 2 a829]]) p865.fst) fun _↦Ω (chk p865.fst.ver 0) fun _↦Ω (uncons? p865.fst.es) fun p868↦Ω (nil? p868.snd) fun _↦Ω (uncons? p868.fst) fun p870↦Ω (AV.bool? p870.fst) fun _↦Ω (uncons? p870.snd) fun p872↦Ω (AV.list? 2 p872.fst) fun _↦Ω (nil? p872.snd) fun _↦Ω (uncons? p865.snd) fun p875↦Ω (obIs (Ob.mk OK.box 36 2 0 [[vbool b830,AV.list 0 2 b831]]) p875.fst) fun _↦Ω (chk p875.fst.ver 0) fun _↦Ω (uncons? p875.fst.es) fun p878↦Ω (nil? p878.snd) fun _↦Ω (uncons? p878.fst) fun p880↦Ω (AV.bool? p880.fst) fun _↦Ω (uncons? p880.snd) fun p882↦Ω (AV.list? 2 p882.fst) fun _↦Ω (nil? p882.snd) fun _↦Ω (nil? p875.snd) fun _↦some (Out.ret (vbool b861),[]) else none:=by
 intros
 exact(E_in [188] _ _ _).trans (by kernel_rfl)
theorem f47_l0:∀(b886:Bool) (x887:Int) (b888:Bool) (l889:List (List AV)) (b890:Bool) (l891:List (List AV)),E cx (Key.loop 47 [true,true,false,true,false]) [vbool b886,vi x887,AV.ptr 0 0 0 0,AV.ptr 1 0 0 0] [Ob.mk OK.box 36 2 0 [[vbool b888,AV.list 0 2 l889]],Ob.mk OK.box 36 2 0 [[vbool b890,AV.list 0 2 l891]]]=bif decide (x887<((ℓ l889):Int)) then if 0≤x887 then Ω l889[τ x887]? fun cs892↦Ω (uncons? cs892) fun p893↦Ω (AV.int? υ p893.fst) fun n894↦Ω (uncons? p893.snd) fun p895↦Ω (AV.int? υ p895.fst) fun n896↦Ω (nil? p895.snd) fun _↦if 0≤x887 then Ω l891[τ x887]? fun cs898↦Ω (uncons? cs898) fun p899↦Ω (AV.int? υ p899.fst) fun n900↦Ω (uncons? p899.snd) fun p901↦Ω (AV.int? υ p901.fst) fun n902↦Ω (nil? p901.snd) fun _↦bif !(decide (n894=n900)&&(decide (n896=n902)&&true)) then some (Out.jump JX.ret [vbool false,vi x887],[Ob.mk OK.box 36 2 0 [[vbool b888,AV.list 0 2 l889]],Ob.mk OK.box 36 2 0 [[vbool b890,AV.list 0 2 l891]]]) else E cx (Key.loop 47 [true,true,false,true,false]) [vbool b886,vi (ω ı (Int.add x887 1)),AV.ptr 0 0 0 0,AV.ptr 1 0 0 0] [Ob.mk OK.box 36 2 0 [[vbool b888,AV.list 0 2 l889]],Ob.mk OK.box 36 2 0 [[vbool b890,AV.list 0 2 l891]]] else none else none else some (Out.jump (JX.exit 0) [vbool b886,vi x887],[Ob.mk OK.box 36 2 0 [[vbool b888,AV.list 0 2 l889]],Ob.mk OK.box 36 2 0 [[vbool b890,AV.list 0 2 l891]]]):=by
 intros
 exact(E_in [188] _ _ _).trans (by kernel_rfl)
theorem f105:∀(a1192 a1193 b1194 b1195:Int),E cx (Key.fn 105) [AV.agg [vu a1192,vu a1193],AV.agg [vu b1194,vu b1195]] []=bif decide (a1192<b1194) then some (Out.ret (vbool true),[]) else bif decide (a1192=b1194) then bif decide (a1193<b1195) then some (Out.ret (vbool true),[]) else some (Out.ret (vbool false),[]) else some (Out.ret (vbool false),[]):=by
 intros
 exact(E_in [188] _ _ _).trans (by kernel_rfl)
theorem f109:∀(a1240 a1241 b1242 b1243:Int),E cx (Key.fn 109) [AV.agg [vu a1240,vu a1241],AV.agg [vu b1242,vu b1243]] []=bif decide (a1240=b1242)&&(decide (a1241=b1243)&&true) then some (Out.ret (vi 0),[]) else Ω (E cx (Key.fn 148) [vu a1240,vu b1242] []) fun r1244↦Ω (ret1 r1244) fun v1245↦Ω (AV.int? ı v1245) fun n1246↦Ω (E cx (Key.fn 148) [vu a1241,vu b1243] []) fun r1247↦Ω (ret1 r1247) fun v1248↦Ω (AV.int? ı v1248) fun n1249↦Ω (E cx (Key.fn 147) [AV.list 0 1 [[vi n1246],[vi n1249]]] []) fun r1250↦Ω (ret1 r1250) fun v1251↦Ω (AV.int? ı v1251) fun n1252↦some (Out.ret (vi n1252),[]):=by
 intros
 exact(E_in [188] _ _ _).trans (by kernel_rfl)
theorem f147:∀(vals1395:List (List AV)),E cx (Key.fn 147) [AV.list 0 1 vals1395] []=Ω (E cx (Key.loop 147 [true,true,false,true,false]) [vi 0,vi 0,vi 0,AV.list 0 1 vals1395,vi ((ℓ vals1395):Int)] []) fun r1396↦Ω (asJump r1396) fun j1397↦bif JX.is j1397.fst (JX.exit 0) then Ω (uncons? j1397.snd.fst) fun p1398↦Ω (AV.int? ı p1398.fst) fun _↦Ω (uncons? p1398.snd) fun p1400↦Ω (AV.int? ı p1400.fst) fun _↦Ω (nil? p1400.snd) fun _↦Ω (nil? j1397.snd.snd) fun _↦some (Out.ret (vi 0),[]) else bif JX.is j1397.fst JX.ret then Ω (uncons? j1397.snd.fst) fun p1404↦Ω (AV.int? ı p1404.fst) fun n1405↦Ω (uncons? p1404.snd) fun p1406↦Ω (AV.int? ı p1406.fst) fun _↦Ω (nil? p1406.snd) fun _↦Ω (nil? j1397.snd.snd) fun _↦some (Out.ret (vi n1405),[]) else none:=by
 intros
 exact(E_in [188] _ _ _).trans (by kernel_rfl)
theorem f147_l0:∀(x1410 x1411 x1412:Int) (l1413:List (List AV)) (x1414:Int),E cx (Key.loop 147 [true,true,false,true,false]) [vi x1410,vi x1411,vi x1412,AV.list 0 1 l1413,vi x1414] []=bif decide (x1411<x1414) then if 0≤x1411 then Ω l1413[τ x1411]? fun cs1415↦Ω (uncons? cs1415) fun p1416↦Ω (AV.int? ı p1416.fst) fun n1417↦Ω (nil? p1416.snd) fun _↦bif n1417 !=x1412 then some (Out.jump JX.ret [vi n1417,vi x1411],[]) else E cx (Key.loop 147 [true,true,false,true,false]) [vi x1410,vi (ω ı (Int.add x1411 1)),vi x1412,AV.list 0 1 l1413,vi x1414] [] else none else some (Out.jump (JX.exit 0) [vi x1410,vi x1411],[]):=by
 intros
 exact(E_in [188] _ _ _).trans (by kernel_rfl)
theorem f148:∀(x1419 y1420:Int),E cx (Key.fn 148) [vu x1419,vu y1420] []=Ω (E cx (Key.fn 165) [vu x1419] []) fun r1421↦Ω (ret1 r1421) fun v1422↦Ω (AV.bool? v1422) fun b1423↦bif b1423 then Ω (E cx (Key.fn 165) [vu y1420] []) fun r1424↦Ω (ret1 r1424) fun v1425↦Ω (AV.bool? v1425) fun b1426↦bif b1426 then some (Out.ret (vi 0),[]) else some (Out.ret (vi (-1)),[]) else Ω (E cx (Key.fn 165) [vu y1420] []) fun r1427↦Ω (ret1 r1427) fun v1428↦Ω (AV.bool? v1428) fun b1429↦bif b1429 then some (Out.ret (vi 1),[]) else bif decide (x1419<y1420) then some (Out.ret (vi (-1)),[]) else bif decide (x1419>y1420) then some (Out.ret (vi 1),[]) else some (Out.ret (vi 0),[]):=by
 intros
 exact(E_in [188] _ _ _).trans (by kernel_rfl)
theorem f165:∀(x1443:Int),E cx (Key.fn 165) [vu x1443] []=bif x1443 !=x1443 then some (Out.ret (vbool true),[]) else some (Out.ret (vbool false),[]):=by
 intros
 exact(E_in [188] _ _ _).trans (by kernel_rfl)
end
section
section
variable {ρ:Type}{x:Option (Out×Heap)}
theorem wr_id {n:Int}(h1 : -9223372036854775808≤n) (h2:n≤9223372036854775807):ω .i64 n=n:=by
 simp only [ω,IntKind.bits,IntKind.signed,Bool.true_and]
 split<;>simp_all<;>omega
theorem wr_add {a b:Int}(h1 : -9223372036854775808≤a+b) (h2:a+b≤9223372036854775807):ω .i64 (Int.add a b)=a+b:=wr_id (n:=a+b) h1 h2
theorem wr_sub {a b:Int}(h1 : -9223372036854775808≤a-b) (h2:a-b≤9223372036854775807):ω .i64 (Int.sub a b)=a-b:=wr_id (n:=a-b) h1 h2
theorem wr_mul {a b:Int}(h1 : -9223372036854775808≤a*b) (h2:a*b≤9223372036854775807):ω .i64 (Int.mul a b)=a*b:=wr_id (n:=a*b) h1 h2
theorem wu_id {n:Int}(h1:0≤n) (h2:n<18446744073709551616):ω .u64 n=n:=by
 simp only [ω,IntKind.bits,IntKind.signed,Bool.false_and]
 simp
 omega
abbrev rb (b:Bool):Option (Out×Heap):=some (Out.ret (vbool b),[])
abbrev RI (n:Int):Prop := -9223372036854775808≤n∧n≤9223372036854775807
theorem goB {b:Bool}(h:x=rb b) (k:Bool→Option ρ):(x.bind fun r=>(ret1 r).bind fun v=>v.bool?.bind fun b=>k b)=k b:=by rw [h];rfl
theorem goT (h:x=rb true) (k j:Option ρ):(x.bind fun r=>(ret1 r).bind fun v=>v.bool?.bind fun b=>bif b then k else j)=k:=by rw [h];rfl
theorem goF (h:x=rb false) (k j:Option ρ):(x.bind fun r=>(ret1 r).bind fun v=>v.bool?.bind fun b=>bif b then k else j)=j:=by rw [h];rfl
theorem goI {n:Int}(h:x=some (Out.ret (vi n),[])) (k:Int→Option ρ):(x.bind fun r=>(ret1 r).bind fun v=>(v.int? .i64).bind fun n=>k n)=k n:=by rw [h];rfl
theorem goU {n:Int}(h:x=some (Out.ret (vu n),[])) (k:Int→Option ρ):(x.bind fun r=>(ret1 r).bind fun v=>(v.int? .u64).bind fun n=>k n)=k n:=by rw [h];rfl
theorem goN {p:Prop} [Decidable p] (h:¬p) (k j:Option ρ):(if p then k else j)=j:=if_neg h
theorem goY {p:Prop} [Decidable p] (h:p) (k j:Option ρ):(if p then k else j)=k:=if_pos h
theorem goD {p:Prop} [Decidable p] (h:p) (k j:Option ρ):(bif decide p then k else j)=k:=by rw [decide_eq_true h];rfl
theorem goDn {p:Prop} [Decidable p] (h:¬p) (k j:Option ρ):(bif decide p then k else j)=j:=by rw [decide_eq_false h];rfl
theorem goE {a b:Int}(h:a=b) (k j:Option ρ):(bif a !=b then k else j)=j:=by rw [h,show(b !=b)=false by simp];rfl
theorem goEn {a b:Int}(h:a≠b) (k j:Option ρ):(bif a !=b then k else j)=k:=by rw [show(a !=b)=true by simp [h]];rfl
theorem goLe {a b:Nat}(h:a≤b) (k:Option ρ):((chkLe a b).bind fun _=>k)=k:=by rw [show chkLe a b=some () from if_pos h];rfl
theorem goCk {a b:Nat}(h:a=b) (k:Option ρ):((chk a b).bind fun _=>k)=k:=by rw [show chk a b=some () from if_pos h];rfl
abbrev B:=List UInt8
abbrev mk (l:B):ByteArray:=ByteArray.mk (Array.mk l)
abbrev ints (l:List Int):List (List AV):=l.map fun n=>[vi n]
theorem go1 {l:List Int}{i:Int}{n:Nat}{r:Int}(hn:i=n) (h:l[n]?=some r) (k:Int→Option ρ):((ints l)[τ i]?.bind fun cs=>(uncons? cs).bind fun p=>(AV.int? .i64 p.fst).bind fun s=>(nil? p.snd).bind fun _=>k s)=k r:=by
 subst hn
 have:(ints l)[τ (n:Int)]?=some [vi r]:=by simp [ints,h]
 rw [this]
 rfl
def val:B→Nat
 | []=>0
 |b::r=>b.toNat+256*val r
end
section
def pickI (c n:Int):Int:=if c<0 then(-(c+1)).tmod n else c.tmod n
theorem pickI_lt {c n:Int}(hn:0<n):0≤pickI c n∧pickI c n<n:=by
 unfold pickI
 split
 ·rw [Int.tmod_eq_emod_of_nonneg (by omega)]
  exact⟨Int.emod_nonneg _ (by omega),Int.emod_lt_of_pos _ hn⟩
 ·rw [Int.tmod_eq_emod_of_nonneg (by omega)]
  exact⟨Int.emod_nonneg _ (by omega),Int.emod_lt_of_pos _ hn⟩
end
section
section
variable {ρ:Type}{x:Option (Out×Heap)}
abbrev P2:=Nat×Nat
abbrev prs (l:List P2):List (List AV):=l.map encP
theorem prs_len (l:List P2):(prs l).length=l.length:=by simp [prs]
theorem prs_get {l:List P2}{n:Nat}{p:P2}(h:l[n]?=some p):(prs l)[n]?=some (encP p):=by simp [prs,h]
theorem goPr {l:List P2}{i:Int}{n:Nat}{p:P2}(hn:i=n) (h:l[n]?=some p) (k:Int→Int→Option ρ):((prs l)[τ i]?.bind fun cs=>(uncons? cs).bind fun p1=>(AV.int? .u64 p1.fst).bind fun a=>(uncons? p1.snd).bind fun p2=>(AV.int? .u64 p2.fst).bind fun b=>(nil? p2.snd).bind fun _=>k a b)=k p.1 p.2:=by
 subst hn
 rw [Int.toNat_natCast,prs_get h]
 rfl
theorem wS {i:Nat}(h:i<9223372036854775807):ω .i64 (Int.add (i:Int) 1)=((i+1:Nat):Int):=wr_add (b:=1) (by omega) (by omega)
theorem wP {i:Nat}(h:i<9223372036854775807):ω .i64 (Int.sub ((i+1:Nat):Int) 1)=(i:Int):=(wr_sub (b:=1) (by omega) (by omega)).trans (by omega)
end
theorem c165 (x:Int):E cx (Key.fn 165) [vu x] []=rb false:=(f165 x).trans (goE rfl _ _)
def cmpI (x y:Int):Int:=if x<y then -1 else if x>y then 1 else 0
theorem c148 (x y:Int):E cx (Key.fn 148) [vu x,vu y] []=some (Out.ret (vi (cmpI x y)),[]):=by
 refine(f148 x y).trans ((goF (c165 x) _ _).trans ((goF (c165 y) _ _).trans ?_))
 unfold cmpI
 by_cases h1:x<y
 ·rw [if_pos h1];exact goD h1 _ _
 ·rw [if_neg h1]
  refine(goDn h1 _ _).trans ?_
  by_cases h2:x>y
  ·rw [if_pos h2];exact goD h2 _ _
  ·rw [if_neg h2];exact goDn h2 _ _
theorem c147 (a b:Int):E cx (Key.fn 147) [.list 0 1 [[vi a],[vi b]]] []=some (Out.ret (vi (if a=0 then b else a)),[]):=by
 refine(f147 _).trans ?_
 have e2:E cx (Key.loop 147 [true,true,false,true,false]) [vi 0,vi (ω .i64 (Int.add (ω .i64 (Int.add 0 1)) 1)),vi 0,.list 0 1 [[vi a],[vi b]],vi 2] []=some (Out.jump (.exit 0) [vi 0,vi 2],[]) :=
  (f147_l0 _ _ _ _ _).trans (goDn (by decide) _ _)
 have e1:E cx (Key.loop 147 [true,true,false,true,false]) [vi 0,vi (ω .i64 (Int.add 0 1)),vi 0,.list 0 1 [[vi a],[vi b]],vi 2] []=if b=0 then some (Out.jump (.exit 0) [vi 0,vi 2],[]) else some (Out.jump .ret [vi b,vi 1],[]):=by
  refine(f147_l0 _ _ _ _ _).trans ((goD (by decide) _ _).trans ((goY (by decide) _ _).trans ?_))
  by_cases hb:b=0
  ·subst hb
   rw [if_pos rfl]
   exact e2
  ·rw [if_neg hb]
   exact goEn (a:=b) (b:=0) hb _ _
 have e0:E cx (Key.loop 147 [true,true,false,true,false]) [vi 0,vi 0,vi 0,.list 0 1 [[vi a],[vi b]],vi 2] []=if a=0 then(if b=0 then some (Out.jump (.exit 0) [vi 0,vi 2],[]) else some (Out.jump .ret [vi b,vi 1],[])) else some (Out.jump .ret [vi a,vi 0],[]):=by
  refine(f147_l0 _ _ _ _ _).trans ((goD (by decide) _ _).trans ((goY (by decide) _ _).trans ?_))
  by_cases ha:a=0
  ·subst ha
   rw [if_pos rfl]
   exact e1
  ·rw [if_neg ha]
   exact goEn (a:=a) (b:=0) ha _ _
 show(Ω (E cx (Key.loop 147 [true,true,false,true,false]) [vi 0,vi 0,vi 0,.list 0 1 [[vi a],[vi b]],vi 2] []) _)=_
 rw [e0]
 by_cases ha:a=0
 ·rw [if_pos ha,if_pos ha]
  by_cases hb:b=0
  ·rw [if_pos hb,hb];rfl
  ·rw [if_neg hb];rfl
 ·rw [if_neg ha,if_neg ha];rfl
def ordI (p q:P2):Int:=if p=q then 0 else if ltP p q then -1 else 1
theorem c109 (p q:P2):E cx (Key.fn 109) [.agg [vu p.1,vu p.2],.agg [vu q.1,vu q.2]] []=some (Out.ret (vi (ordI p q)),[]):=by
 refine(f109 _ _ _ _).trans ?_
 obtain⟨a,b⟩:=p
 obtain⟨c,d⟩:=q
 simp only
 by_cases h:a=c∧b=d
 ·obtain⟨rfl,rfl⟩:=h
  simp [ordI]
 ·have h1:(decide ((a:Int)=(c:Int))&&(decide ((b:Int)=(d:Int))&&true))=false:=by
   simp
   omega
  rw [h1]
  refine(goI (c148 _ _) _).trans ((goI (c148 _ _) _).trans ((goI (c147 _ _) _).trans ?_))
  have h2:(if cmpI (a:Int) (c:Int)=0 then cmpI (b:Int) (d:Int) else cmpI (a:Int) (c:Int))=ordI (a,b) (c,d):=by
   have e:∀x y:Nat,cmpI (x:Int) (y:Int)=if x<y then -1 else if y<x then 1 else 0:=fun x y=>by
    unfold cmpI
    simp only [Int.ofNat_lt,gt_iff_lt]
   rw [e,e]
   unfold ordI ltP
   rcases Nat.lt_trichotomy a c with h1 |h1 |h1<;>rcases Nat.lt_trichotomy b d with h3 |h3 |h3 <;>
    simp [h1,h3,Nat.lt_asymm,Nat.ne_of_lt,Nat.ne_of_gt]<;>omega
  rw [h2]
theorem c105 (p q:P2):E cx (Key.fn 105) [.agg [vu p.1,vu p.2],.agg [vu q.1,vu q.2]] []=rb (ltP p q):=by
 refine(f105 _ _ _ _).trans ?_
 obtain⟨a,b⟩:=p
 obtain⟨c,d⟩:=q
 simp only [ltP]
 by_cases h1:a<c
 ·refine(goD (by omega) _ _).trans ?_
  simp [h1]
 ·refine(goDn (by omega) _ _).trans ?_
  by_cases h2:a=c
  ·refine(goD (by omega) _ _).trans ?_
   by_cases h3:b<d
   ·refine(goD (by omega) _ _).trans ?_
    simp [h2,h3]
   ·refine(goDn (by omega) _ _).trans ?_
    simp [h2,h3]
  ·refine(goDn (by omega) _ _).trans ?_
   simp [h1,h2]
theorem ordI_neg (p q:P2):ordI p q<0↔ltP p q=true:=by
 unfold ordI
 by_cases h:p=q
 ·subst h
  simp [ltP]
 ·rw [if_neg h]
  cases ltP p q<;>simp
end
section
def okAt (l:List P2) (j:Nat):Prop:=∀p q,l[j]?=some p→l[j+1]?=some q→ltP q p=false
def srtI (l:List P2):Prop:=∀j,okAt l j
open Classical in
noncomputable def srtB (l:List P2):Bool:=decide (srtI l)
open Classical in
theorem srtB_t {l:List P2}(h:srtI l):srtB l=true:=by unfold srtB;exact decide_eq_true h
open Classical in
theorem srtB_f {l:List P2}(h:¬srtI l):srtB l=false:=by unfold srtB;exact decide_eq_false h
theorem okAt_ge {l:List P2}{j:Nat}(h:l.length≤j+1):okAt l j:=fun p q hp hq=>by
 rw [List.getElem?_eq_none h] at hq
 cases hq
theorem loop108 (l:List P2) (b:Bool) (hl:l.length≤4000000):∀i,i<l.length →
  ((∀j,j<i→okAt l j)∧E cx (Key.loop 108 [true,false,true,false]) [vbool b,vi i,.list 0 2 (prs l),.func (Fn.func 109) [] []] []=some (Out.jump (.exit 0) [vbool b,vi 0],[])) ∨
  ((∃j,j<i∧¬okAt l j)∧∃k:Nat,E cx (Key.loop 108 [true,false,true,false]) [vbool b,vi i,.list 0 2 (prs l),.func (Fn.func 109) [] []] []=some (Out.jump .ret [vbool false,vi k],[]))
 | 0,hi => .inl ⟨fun j hj=>by omega,(f40_c0_l1 _ _ _).trans (goDn (by omega) _ _)⟩
 |i+1,hi=>by
  have hp:l[i]?=some l[i]:=η (by omega)
  have hq:l[i+1]?=some l[i+1]:=η hi
  have go:∀ {R},(bif decide (ordI l[i+1] l[i]<0) then some (Out.jump JX.ret [vbool false,vi ((i+1:Nat):Int)],[]) else
    E cx (Key.loop 108 [true,false,true,false]) [vbool b,vi (ω .i64 (Int.sub ((i+1:Nat):Int) 1)),.list 0 2 (prs l),.func (Fn.func 109) [] []] [])=R →
    E cx (Key.loop 108 [true,false,true,false]) [vbool b,vi (i+1:Nat),.list 0 2 (prs l),.func (Fn.func 109) [] []] []=R:=fun {R} h=>by
   refine(f40_c0_l1 _ _ _).trans ((goD (by omega) _ _).trans ((goY (by omega) _ _).trans ((goPr (n:=i+1) rfl hq _).trans ?_)))
   rw [wP (by omega)]
   refine(goY (by omega) _ _).trans ((goPr (n:=i) rfl hp _).trans ((goI (c109 _ _) _).trans ?_))
   rw [wP (by omega)] at h
   exact h
  cases hb:ltP l[i+1] l[i] with
  |true =>
   exact .inr ⟨⟨i,by omega,fun h=>by rw [h _ _ hp hq] at hb;cases hb⟩,i+1,go (goD ((ordI_neg _ _).2 hb) _ _)⟩
  |false =>
   have hn:¬ordI l[i+1] l[i]<0:=fun h=>by rw [(ordI_neg _ _).1 h] at hb;cases hb
   have hok:okAt l i:=fun p q h1 h2=>by
    rw [hp] at h1;rw [hq] at h2
    cases h1;cases h2
    exact hb
   rcases loop108 l b hl i (by omega) with⟨g1,g2⟩ |⟨⟨j,g1,g2⟩,k,g3⟩
   ·refine .inl ⟨fun j hj=> ?_,go ((goDn hn _ _).trans ?_)⟩
    ·by_cases hji:j=i
     ·subst hji;exact hok
     ·exact g1 j (by omega)
    ·rw [wP (by omega)];exact g2
   ·refine .inr ⟨⟨j,by omega,g2⟩,k,go ((goDn hn _ _).trans ?_)⟩
    rw [wP (by omega)];exact g3
theorem c108 (l:List P2) (hl:l.length≤4000000):E cx (Key.fn 108) [.list 0 2 (prs l),.func (Fn.func 109) [] []] []=rb (srtB l):=by
 refine(f40_c0 _).trans ?_
 rw [prs_len]
 cases hll:l.length with
 |zero =>
  have e:E cx (Key.loop 108 [true,false,true,false]) [vbool false,vi (ω .i64 (Int.sub ((0:Nat):Int) 1)),.list 0 2 (prs l),.func (Fn.func 109) [] []] []=some (Out.jump (.exit 0) [vbool false,vi (-1)],[]) :=
   (f40_c0_l1 _ _ _).trans (goDn (by decide) _ _)
  rw [e,srtB_t fun j=>okAt_ge (by omega)]
  rfl
 |succ n =>
  rw [wP (by omega)]
  rcases loop108 l false hl n (by omega) with⟨g1,g2⟩ |⟨⟨j,g1,g2⟩,k,g3⟩
  ·rw [g2,srtB_t fun j=>by
    by_cases hj:j<n
    ·exact g1 j hj
    ·exact okAt_ge (by omega)]
   rfl
  ·rw [g3,srtB_f fun h=>g2 (h j)]
   rfl
noncomputable def rightT (l:List P2):Bool:=decide (l.length≤2048)&&srtB l
theorem c40 (f:Bool) (l:List P2) (hl:l.length≤4000000):E cx (Key.fn 40) [.agg [vbool f,.list 0 2 (prs l)]] []=rb (rightT l):=by
 refine(f40 _ _).trans ?_
 unfold rightT
 by_cases h:l.length≤2048
 ·refine(goD (by rw [prs_len];omega) _ _).trans ((goB (c108 l hl) _).trans ?_)
  rw [decide_eq_true h]
  cases srtB l<;>rfl
 ·refine(goDn (by rw [prs_len];omega) _ _).trans ?_
  rw [decide_eq_false h]
  rfl
end
section
def RTok (x:Option (Out×Heap)) (f:Bool) (l:List P2) (e:Int):Prop:=∃a,x=some (Out.ret (.tuple [.agg [vbool f,a],vi e]),[])∧a.list? 2=some (prs l)
theorem ysOk_prs (l:List P2):ysOk (prs l)=true:=by
 unfold ysOk
 rw [List.all_eq_true]
 intro e he
 obtain⟨p,_,rfl⟩:=List.mem_map.1 he
 rfl
def sorted (l:List P2):List P2:=l.mergeSort leP
theorem decP_enc (p:P2):decP (encP p)=some p:=rfl
theorem sortP_prs (l:List P2):sortP [.func (Fn.func 109) [] []] (prs l)=some (prs (sorted l)):=by
 unfold sortP sortZ
 show cond true (sortBy decP encP leP (prs l)) none=_
 unfold sortBy
 have:(prs l).mapM decP=some l:=by
  induction l with
  |nil=>rfl
  |cons p l ih =>
   show((p::l).map encP).mapM decP=_
   rw [List.map_cons,List.mapM_cons,decP_enc]
   have ih':(l.map encP).mapM decP=some l:=ih
   rw [ih']
   rfl
 simp only [cond_true,this]
 rfl
abbrev RTok' (x:Option (Out×Heap)) (r:Bool×List P2×Int):Prop:=RTok x r.1 r.2.1 r.2.2
end
section
theorem leP_iff (x y:P2):leP x y=true↔x.1<y.1∨x.1=y.1∧x.2≤y.2:=by
 simp only [leP,ltP,Bool.not_eq_true',Bool.or_eq_false_iff,Bool.and_eq_false_iff,decide_eq_false_iff_not]
 omega
theorem leP_trans (a b c:P2) (h1:leP a b=true) (h2:leP b c=true):leP a c=true:=by
 rw [leP_iff] at *
 omega
theorem leP_total (a b:P2):(leP a b||leP b a)=true:=by
 rw [Bool.or_eq_true,leP_iff,leP_iff]
 omega
theorem leP_anti (a b:P2) (h1:leP a b=true) (h2:leP b a=true):a=b:=by
 rw [leP_iff] at *
 exact Prod.ext (by omega) (by omega)
theorem leP_not {a b:P2}(h:leP a b=false):leP b a=true:=by
 have:=leP_total a b
 rw [h] at this
 simpa using this
abbrev PW (l:List P2):Prop:=l.Pairwise fun a b=>leP a b=true
theorem srt_pw (l:List P2):srtI l↔PW l:=by
 constructor
 ·intro h
  induction l with
  |nil=>exact .nil
  |cons a l ih =>
   have ih':=ih fun j p q hp hq=>h (j+1) p q (by simpa using hp) (by simpa using hq)
   refine List.Pairwise.cons (fun b hb=> ?_) ih'
   cases l with
   |nil=>cases hb
   |cons c l =>
    have hac:leP a c=true:=by
     have:=h 0 a c rfl rfl
     simp [leP,this]
    rcases List.mem_cons.1 hb with rfl |hb
    ·exact hac
    ·exact leP_trans _ _ _ hac ((List.pairwise_cons.1 ih').1 b hb)
 ·intro h j p q hp hq
  have hj:=(List.getElem?_eq_some_iff.1 hq).1
  have:=List.pairwise_iff_getElem.1 h j (j+1) (by omega) hj (by omega)
  rw [(List.getElem?_eq_some_iff.1 hp).2,(List.getElem?_eq_some_iff.1 hq).2] at this
  simpa [leP] using this
theorem sorted_pw (l:List P2):PW (sorted l):=List.pairwise_mergeSort leP_trans leP_total l
theorem sorted_perm (l:List P2):(sorted l).Perm l:=List.mergeSort_perm l leP
theorem sorted_of {l:List P2}(h:PW l):sorted l=l:=List.mergeSort_of_pairwise h
theorem pw_uniq {a b:List P2}(ha:PW a) (hb:PW b) (h:a.Perm b):a=b:=List.Perm.eq_of_pairwise (fun x y _ _ h1 h2=>leP_anti x y h1 h2) ha hb h
theorem sorted_congr {a b:List P2}(h:a.Perm b):sorted a=sorted b:=pw_uniq (sorted_pw a) (sorted_pw b) ((sorted_perm a).trans (h.trans (sorted_perm b).symm))
end
section
theorem drop_cons' {α:Type}{l r:List α}{i:Nat}{p:α}(h:l.drop i=p::r):l[i]?=some p∧l.drop (i+1)=r∧i<l.length:=by
 refine⟨?_,?_,?_⟩
 ·have:=congrArg (fun l=>l[0]?) h;simpa using this
 ·rw [←List.drop_drop,h];rfl
 ·have:=congrArg ℓ h;simp at this;omega
theorem rightT_len {l:List P2}(h:rightT l=true):l.length≤2048:=by
 unfold rightT at h
 simp only [Bool.and_eq_true,decide_eq_true_eq] at h
 exact h.1
theorem rightT_pw {l:List P2}(h:rightT l=true):PW l:=by
 unfold rightT at h
 simp only [Bool.and_eq_true,decide_eq_true_eq] at h
 refine(srt_pw l).1 ?_
 by_cases hs:srtI l
 ·exact hs
 ·have:=h.2
  rw [srtB_f hs] at this
  cases this
theorem rightT_of {l:List P2}(h1:l.length≤2048) (h2:PW l):rightT l=true:=by
 unfold rightT
 rw [decide_eq_true h1,srtB_t ((srt_pw l).2 h2)]
 rfl
theorem pairEq (p q:P2):(decide ((p.1:Int)=(q.1:Int))&&(decide ((p.2:Int)=(q.2:Int))&&true))=decide (p=q):=by
 obtain⟨a,b⟩:=p
 obtain⟨c,d⟩:=q
 by_cases h1:a=c<;>by_cases h2:b=d<;>simp [h1,h2,Int.ofNat_inj]
theorem loop47 (b0 f1 f2:Bool) (a b:List P2) (hab:a.length=b.length) (hl:a.length≤4000000):∀(d i:Nat),i+d=a.length →
  (a.drop i=b.drop i∧E cx (Key.loop 47 [true,true,false,true,false]) [vbool b0,vi i,.ptr 0 0 0 0,.ptr 1 0 0 0] [⟨.box,36,2,0,[[vbool f1,.list 0 2 (prs a)]]⟩,⟨.box,36,2,0,[[vbool f2,.list 0 2 (prs b)]]⟩] =
   some (Out.jump (.exit 0) [vbool b0,vi a.length],[⟨.box,36,2,0,[[vbool f1,.list 0 2 (prs a)]]⟩,⟨.box,36,2,0,[[vbool f2,.list 0 2 (prs b)]]⟩])) ∨
  (a.drop i≠b.drop i∧∃k:Nat,E cx (Key.loop 47 [true,true,false,true,false]) [vbool b0,vi i,.ptr 0 0 0 0,.ptr 1 0 0 0] [⟨.box,36,2,0,[[vbool f1,.list 0 2 (prs a)]]⟩,⟨.box,36,2,0,[[vbool f2,.list 0 2 (prs b)]]⟩] =
   some (Out.jump .ret [vbool false,vi k],[⟨.box,36,2,0,[[vbool f1,.list 0 2 (prs a)]]⟩,⟨.box,36,2,0,[[vbool f2,.list 0 2 (prs b)]]⟩]))
 | 0,i,hd=>by
  refine .inl ⟨by rw [List.drop_eq_nil_of_le (by omega),List.drop_eq_nil_of_le (by omega)],(f47_l0 _ _ _ _ _ _).trans ((goDn (by rw [prs_len];omega) _ _).trans (by rw [show i=a.length by omega]))⟩
 |d+1,i,hd=>by
  have hp:a[i]?=some a[i]:=η (by omega)
  have hq:b[i]?=some b[i]:=η (by omega)
  have ha:a.drop i=a[i]::a.drop (i+1):=List.drop_eq_getElem_cons (by omega)
  have hb:b.drop i=b[i]::b.drop (i+1):=List.drop_eq_getElem_cons (by omega)
  have go:∀ {R},(bif !decide (a[i]=b[i]) then some (Out.jump .ret [vbool false,vi i],[⟨.box,36,2,0,[[vbool f1,.list 0 2 (prs a)]]⟩,⟨.box,36,2,0,[[vbool f2,.list 0 2 (prs b)]]⟩]) else
    E cx (Key.loop 47 [true,true,false,true,false]) [vbool b0,vi (i+1:Nat),.ptr 0 0 0 0,.ptr 1 0 0 0] [⟨.box,36,2,0,[[vbool f1,.list 0 2 (prs a)]]⟩,⟨.box,36,2,0,[[vbool f2,.list 0 2 (prs b)]]⟩])=R →
    E cx (Key.loop 47 [true,true,false,true,false]) [vbool b0,vi i,.ptr 0 0 0 0,.ptr 1 0 0 0] [⟨.box,36,2,0,[[vbool f1,.list 0 2 (prs a)]]⟩,⟨.box,36,2,0,[[vbool f2,.list 0 2 (prs b)]]⟩]=R:=fun {R} h=>by
   refine(f47_l0 _ _ _ _ _ _).trans ((goD (by rw [prs_len];omega) _ _).trans ((goY (by omega) _ _).trans ((goPr (n:=i) rfl hp _).trans ((goY (by omega) _ _).trans ((goPr (n:=i) rfl hq _).trans ?_)))))
   rw [pairEq,wS (by omega)]
   exact h
  rw [ha,hb]
  by_cases he:a[i]=b[i]
  ·rw [decide_eq_true he] at go
   rcases loop47 b0 f1 f2 a b hab hl d (i+1) (by omega) with⟨g1,g2⟩ |⟨g1,k,g2⟩
   ·exact .inl ⟨by rw [he,g1],go g2⟩
   ·exact .inr ⟨fun h=>g1 (List.cons.inj h).2,k,go g2⟩
  ·rw [decide_eq_false he] at go
   exact .inr ⟨fun h=>he (List.cons.inj h).1,i,go rfl⟩
theorem c47 (f1 f2:Bool) (a b:List P2) (hl:a.length≤4000000):E cx (Key.fn 47) [.agg [vbool f1,.list 0 2 (prs a)],.agg [vbool f2,.list 0 2 (prs b)]] []=rb (decide (f1=f2∧a=b)):=by
 refine(f47 _ _ _ _).trans ?_
 rw [prs_len,prs_len]
 by_cases hf:f1=f2
 ·rw [decide_eq_true hf]
  by_cases hab:a.length=b.length
  ·refine(goE (a:=(a.length:Int)) (b:=(b.length:Int)) (by omega) _ _).trans ?_
   show(Ω (E cx (Key.loop 47 [true,true,false,true,false]) [vbool false,vi ((0:Nat):Int),.ptr 0 0 0 0,.ptr 1 0 0 0] [⟨.box,36,2,0,[[vbool f1,.list 0 2 (prs a)]]⟩,⟨.box,36,2,0,[[vbool f2,.list 0 2 (prs b)]]⟩]) _)=_
   rcases loop47 false f1 f2 a b hab hl a.length 0 (by omega) with⟨g1,g2⟩ |⟨g1,k,g2⟩
   ·rw [g2,decide_eq_true ⟨hf,g1⟩]
    rfl
   ·rw [g2,decide_eq_false fun h=>g1 h.2]
    rfl
  ·rw [decide_eq_false fun h=>hab (by rw [h.2])]
   exact goEn (a:=(a.length:Int)) (b:=(b.length:Int)) (by omega) _ _
 ·rw [decide_eq_false hf,decide_eq_false fun h=>hf h.1]
  rfl
end
section
theorem view0 {q:List P2}:List.drop 0 (List.take (Nat.add 0 q.length) (prs q))=prs q:=by
 rw [List.drop_zero,show Nat.add 0 q.length=q.length from Nat.zero_add _,←prs_len q,List.take_length]
end
section
def pvAt (l:List P2) (i:Nat):Option P2:=if i=0 then none else l[i-1]?
def keysGo (r:Nat):Option P2→List P2→Bool
 | _,[]=>true
 |pv,p::rest=>decide (p.2=r)&&(!decide (pv=some p)&&keysGo r (some p) rest)
def keysL (l:List P2):List Nat:=l.map (·.1)
noncomputable def keysR (l:List P2) (r:Nat):List Nat×Bool:=if rightT l&&keysGo r none l then(keysL l,true) else([],false)
abbrev rowsN (l:List Nat):List (List AV):=l.map fun(k:Nat)=>[vu (k:Int)]
theorem rowsN_len (l:List Nat):(rowsN l).length=l.length:=by simp [rowsN]
theorem rowsN_app (a b:List Nat):rowsN a++rowsN b=rowsN (a++b):=by simp [rowsN]
def RK (x:Option (Out×Heap)) (r:List Nat×Bool):Prop:=∃a,x=some (Out.ret (.tuple [a,vbool r.2]),[])∧a.list? 1=some (rowsN r.1)
theorem pv_succ {l:List P2}{i:Nat}:pvAt l (i+1)=l[i]?:=by simp [pvAt]
theorem loop42 (b0 b:Bool) (r:Nat) (l:List P2) (hl:l.length≤2048):∀(rest:List P2) (i:Nat) (o:List Nat),l.drop i=rest→i+rest.length=l.length→o.length=i →
  (keysGo r (pvAt l i) rest=true∧E cx (Key.loop 42 [true,true,false,true,false]) [.arr 1 1 0 o.length,vbool b0,vi i,vu r,.ptr 0 0 0 0,.list 0 2 (prs l),vi l.length] [⟨.box,36,2,0,[[vbool b,.list 0 2 (prs l)]]⟩,⟨.arr,26,1,1,rowsN o⟩] =
   some (Out.jump (.exit 0) [.arr 1 1 0 (o++keysL rest).length,vbool b0,vi l.length],[⟨.box,36,2,0,[[vbool b,.list 0 2 (prs l)]]⟩,⟨.arr,26,1,1,rowsN (o++keysL rest)⟩])) ∨
  (keysGo r (pvAt l i) rest=false∧∃(k:Nat) (rs:List (List AV)),E cx (Key.loop 42 [true,true,false,true,false]) [.arr 1 1 0 o.length,vbool b0,vi i,vu r,.ptr 0 0 0 0,.list 0 2 (prs l),vi l.length] [⟨.box,36,2,0,[[vbool b,.list 0 2 (prs l)]]⟩,⟨.arr,26,1,1,rowsN o⟩] =
   some (Out.jump .ret [.val (.slice none 0 0),vbool false,vi k],[⟨.box,36,2,0,[[vbool b,.list 0 2 (prs l)]]⟩,⟨.arr,26,1,1,rs⟩]))
 | [],i,o,hd,hi,ho=>by
  simp only [List.length_nil,Nat.add_zero] at hi
  refine .inl ⟨rfl,(f42_l0 _ _ _ _ _ _ _ _ _).trans ((goDn (by omega) _ _).trans ?_)⟩
  simp [keysL,hi]
 |p::rest,i,o,hd,hi,ho=>by
  obtain⟨hp,hd',hlt⟩:=drop_cons' hd
  simp only [List.length_cons] at hi
  have hgo:keysGo r (pvAt l i) (p::rest)=(decide (p.2=r)&&(!decide (pvAt l i=some p)&&keysGo r (some p) rest)):=rfl
  have tl:∀ {R},E cx (Key.loop 42 [true,true,false,true,false]) [.arr 1 1 0 (o++[p.1]).length,vbool b0,vi (i+1:Nat),vu r,.ptr 0 0 0 0,.list 0 2 (prs l),vi l.length] [⟨.box,36,2,0,[[vbool b,.list 0 2 (prs l)]]⟩,⟨.arr,26,1,1,rowsN (o++[p.1])⟩]=R →
    (Ω (chk o.length (ℓ (rowsN o))) fun _=>if Nat.mul (Nat.add (ℓ (rowsN o)) 1) 8≤140737488355328 then
     E cx (Key.loop 42 [true,true,false,true,false]) [.arr 1 1 0 (Nat.add (ℓ (rowsN o)) 1),vbool b0,vi (ω .i64 (Int.add (i:Int) 1)),vu r,.ptr 0 0 0 0,.list 0 2 (prs l),vi l.length] [⟨.box,36,2,0,[[vbool b,.list 0 2 (prs l)]]⟩,⟨.arr,26,1,1,rowsN o++rowsN [p.1]⟩] else none)=R:=fun {R} h=>by
   rw [rowsN_len,rowsN_app,wS (by omega)]
   refine(goCk rfl _).trans ((goY (by show(o.length+1)*8≤_;omega) _ _).trans ?_)
   have e:Nat.add o.length 1=(o++[p.1]).length:=by simp
   rw [e]
   exact h
  have go:∀ {R},(bif !(decide (p.2=r)&& !decide (pvAt l i=some p)) then some (Out.jump .ret [.val (.slice none 0 0),vbool false,vi i],[⟨.box,36,2,0,[[vbool b,.list 0 2 (prs l)]]⟩,⟨.arr,26,1,1,rowsN o⟩]) else
    E cx (Key.loop 42 [true,true,false,true,false]) [.arr 1 1 0 (o++[p.1]).length,vbool b0,vi (i+1:Nat),vu r,.ptr 0 0 0 0,.list 0 2 (prs l),vi l.length] [⟨.box,36,2,0,[[vbool b,.list 0 2 (prs l)]]⟩,⟨.arr,26,1,1,rowsN (o++[p.1])⟩])=R →
    E cx (Key.loop 42 [true,true,false,true,false]) [.arr 1 1 0 o.length,vbool b0,vi i,vu r,.ptr 0 0 0 0,.list 0 2 (prs l),vi l.length] [⟨.box,36,2,0,[[vbool b,.list 0 2 (prs l)]]⟩,⟨.arr,26,1,1,rowsN o⟩]=R:=fun {R} h=>by
   refine(f42_l0 _ _ _ _ _ _ _ _ _).trans ((goD (by omega) _ _).trans ((goY (by omega) _ _).trans ((goPr (n:=i) rfl hp _).trans ?_)))
   by_cases h1:p.2=r
   ·refine(goE (by omega) _ _).trans ?_
    rw [decide_eq_true h1] at h
    cases i with
    |zero =>
     refine(goDn (by omega) _ _).trans ?_
     exact tl h
    |succ j =>
     have hq:l[j]?=some l[j]:=η (by omega)
     refine(goD (by omega) _ _).trans ?_
     rw [wP (by omega)]
     refine(goY (by omega) _ _).trans ((goPr (n:=j) rfl hq _).trans ?_)
     rw [pairEq]
     rw [pv_succ,hq] at h
     by_cases h2:l[j]=p
     ·rw [decide_eq_true h2]
      rw [decide_eq_true (show some l[j]=some p by rw [h2])] at h
      exact h
     ·rw [decide_eq_false h2]
      rw [decide_eq_false (fun h3:some l[j]=some p=>h2 (Option.some.inj h3))] at h
      exact tl h
   ·refine(goEn (by omega) _ _).trans ?_
    rw [decide_eq_false h1] at h
    exact h
  cases hc:(decide (p.2=r)&& !decide (pvAt l i=some p)) with
  |false =>
   rw [hc] at go
   refine .inr ⟨?_,i,_,go rfl⟩
   rw [hgo,←Bool.and_assoc,hc]
   rfl
  |true =>
   rw [hc] at go
   rw [hgo,←Bool.and_assoc,hc,Bool.true_and]
   rcases loop42 b0 b r l hl rest (i+1) (o++[p.1]) hd' (by omega) (by simp;omega) with⟨g1,g2⟩ |⟨g1,k,rs,g2⟩
   ·rw [pv_succ,hp] at g1
    refine .inl ⟨g1,go (g2.trans ?_)⟩
    have e:o++[p.1]++keysL rest=o++keysL (p::rest):=by simp [keysL]
    rw [e]
   ·rw [pv_succ,hp] at g1
    exact .inr ⟨g1,k,rs,go g2⟩
theorem RK_of {x y:Option (Out×Heap)}{r:List Nat×Bool}(h:x=y) (k:RK y r):RK x r:=by rw [h];exact k
theorem viewN {q:List Nat}:List.drop 0 (List.take (Nat.add 0 q.length) (rowsN q))=rowsN q:=by
 rw [List.drop_zero,show Nat.add 0 q.length=q.length from Nat.zero_add _,←rowsN_len q,List.take_length]
theorem c42 (f:Bool) (l:List P2) (r:Nat) (hl:l.length≤4000000):RK (E cx (Key.fn 42) [.agg [vbool f,.list 0 2 (prs l)],vu r] []) (keysR l r):=by
 refine RK_of ((f42 _ _ _).trans (goB (c40 f l hl) _)) ?_
 unfold keysR
 cases hr:rightT l with
 |false=>exact⟨_,rfl,rfl⟩
 |true =>
  have hll:=rightT_len hr
  rw [prs_len]
  show RK (Ω (E cx (Key.loop 42 [true,true,false,true,false]) [.arr 1 1 0 ([]:List Nat).length,vbool false,vi ((0:Nat):Int),vu r,.ptr 0 0 0 0,.list 0 2 (prs l),vi l.length] [⟨.box,36,2,0,[[vbool f,.list 0 2 (prs l)]]⟩,⟨.arr,26,1,1,rowsN []⟩]) _) _
  rcases loop42 false f r l hll l 0 [] rfl (by omega) rfl with⟨g1,g2⟩ |⟨g1,k,rs,g2⟩
  ·have g1':keysGo r none l=true:=g1
   rw [g2,g1']
   refine⟨.list 0 1 (rowsN (keysL l)),?_,rfl⟩
   simp only [List.nil_append]
   show(Ω (chkLe (Nat.add 0 (keysL l).length) (ℓ (rowsN (keysL l)))) fun _=>some (Out.ret (.tuple [.list 0 1 (List.drop 0 (List.take (Nat.add 0 (keysL l).length) (rowsN (keysL l)))),vbool true]),([]:Heap)))=_
   rw [goLe (by rw [rowsN_len];exact Nat.le_of_eq (Nat.zero_add _)),viewN]
   rfl
  ·have g1':keysGo r none l=false:=g1
   rw [g2,g1']
   exact⟨_,rfl,rfl⟩
end
section
def pairOf (a:Int):P2:=((pickI a 12).toNat,(pickI (a.tdiv 16) 3).toNat)
theorem wu_pick {c n:Int}(hn:0<n) (h2:n<1000):ω .u64 (pickI c n)=(((pickI c n).toNat:Nat):Int):=by
 have:=pickI_lt (c:=c) hn
 rw [wu_id (by omega) (by omega)]
 omega
theorem prs_take (l:List P2) (n:Nat):(prs l).take n=prs (l.take n):=by simp [prs]
end
end
end
section
theorem f161:∀(n0:Nat) (x1:List (List AV)),E cx (Key.own 161) [AV.arr 0 1 0 n0] [Ob.mk OK.arr 26 1 1 x1]=Ω (E cx (Key.fn 151) [vu (ω υ (n0:Int))] []) fun r2↦Ω (ret1 r2) fun v3↦Ω (AV.int? ı v3) fun n4↦Ω (E cx (Key.own 187) [AV.arr 0 1 0 n0,vi 0,vi (n0:Int),vi n4] [Ob.mk OK.arr 26 1 1 x1]) fun r5↦Ω (asRet r5) fun x6↦Ω (AV.tup? x6.fst) fun vs7↦Ω (nil? vs7) fun _↦Ω (uncons? x6.snd) fun p9↦Ω (obIs (Ob.mk OK.arr 26 1 1 []) p9.fst) fun _↦Ω (chk p9.fst.ver 1) fun _↦Ω (nil? p9.snd) fun _↦some (Out.ret (AV.tuple []),[Ob.mk OK.arr 26 1 1 p9.fst.es]):=by
 intros
 exact(E_in [188,142] _ _ _).trans (by kernel_rfl)
theorem f197:∀(n13:Nat) (data14:List (List AV)) (a15 b16:Int),E cx (Key.own 197) [AV.arr 0 1 0 n13,vi a15,vi b16] [Ob.mk OK.arr 26 1 1 data14]=Ω (E cx (Key.loop 197 [true,false]) [vi (ω ı (Int.add a15 1)),AV.arr 0 1 0 n13,vi a15,vi b16] [Ob.mk OK.arr 26 1 1 data14]) fun r17↦Ω (asJump r17) fun j18↦bif JX.is j18.fst (JX.exit 0) then Ω (uncons? j18.snd.fst) fun p19↦Ω (AV.int? ı p19.fst) fun _↦Ω (nil? p19.snd) fun _↦Ω (uncons? j18.snd.snd) fun p22↦Ω (obIs (Ob.mk OK.arr 26 1 1 data14) p22.fst) fun _↦Ω (chk p22.fst.ver 1) fun _↦Ω (nil? p22.snd) fun _↦some (Out.ret (AV.tuple []),[Ob.mk OK.arr 26 1 1 p22.fst.es]) else none:=by
 intros
 exact(E_in [188,142] _ _ _).trans (by kernel_rfl)
theorem f197_l0:∀(x26:Int) (n27:Nat) (x28 x29:Int) (l30:List (List AV)),E cx (Key.loop 197 [true,false]) [vi x26,AV.arr 0 1 0 n27,vi x28,vi x29] [Ob.mk OK.arr 26 1 1 l30]=bif decide (x26<x29) then Ω (E cx (Key.loop 197 [true,false,false,true,false,false,true,false]) [vi x26,AV.arr 0 1 0 n27,vi x28,vi x29,vi x26] [Ob.mk OK.arr 26 1 1 l30]) fun r31↦Ω (asJump r31) fun j32↦bif JX.is j32.fst (JX.exit 2) then Ω (uncons? j32.snd.fst) fun p33↦Ω (AV.int? ı p33.fst) fun _↦Ω (nil? p33.snd) fun _↦Ω (uncons? j32.snd.snd) fun p36↦Ω (obIs (Ob.mk OK.arr 26 1 1 l30) p36.fst) fun _↦Ω (chk p36.fst.ver 1) fun _↦Ω (nil? p36.snd) fun _↦E cx (Key.loop 197 [true,false]) [vi (ω ı (Int.add x26 1)),AV.arr 0 1 0 n27,vi x28,vi x29] [Ob.mk OK.arr 26 1 1 p36.fst.es] else none else some (Out.jump (JX.exit 0) [vi x26],[Ob.mk OK.arr 26 1 1 l30]):=by
 intros
 exact(E_in [188,142] _ _ _).trans (by kernel_rfl)
theorem f197_l0_l1:∀(x40:Int) (n41:Nat) (x42 x43 x44:Int) (l45:List (List AV)),E cx (Key.loop 197 [true,false,false,true,false,false,true,false]) [vi x40,AV.arr 0 1 0 n41,vi x42,vi x43,vi x44] [Ob.mk OK.arr 26 1 1 l45]=bif decide (x40>x42) then if 0≤x40 then if x40<(n41:Int) then Ω (nth l45 (Nat.add 0 (τ x40))) fun cs46↦Ω (uncons? cs46) fun p47↦Ω (AV.int? υ p47.fst) fun n48↦Ω (nil? p47.snd) fun _↦if 0≤ω ı (Int.sub x40 1) then if ω ı (Int.sub x40 1)<(n41:Int) then Ω (nth l45 (Nat.add 0 (τ (ω ı (Int.sub x40 1))))) fun cs50↦Ω (uncons? cs50) fun p51↦Ω (AV.int? υ p51.fst) fun n52↦Ω (nil? p51.snd) fun _↦Ω (E cx (Key.fn 203) [vu n48,vu n52] []) fun r54↦Ω (ret1 r54) fun v55↦Ω (AV.bool? v55) fun b56↦bif b56 then if 0≤ω ı (Int.sub x40 1) then if ω ı (Int.sub x40 1)<(n41:Int) then Ω (nth l45 (Nat.add 0 (τ (ω ı (Int.sub x40 1))))) fun cs57↦Ω (uncons? cs57) fun p58↦Ω (AV.int? υ p58.fst) fun n59↦Ω (nil? p58.snd) fun _↦if 0≤x40 then if x40<(n41:Int) then Ω (nth l45 (Nat.add 0 (τ x40))) fun cs61↦Ω (uncons? cs61) fun p62↦Ω (AV.int? υ p62.fst) fun n63↦Ω (nil? p62.snd) fun _↦if 0≤x40 then if x40<(n41:Int) then Ω (nth l45 (Nat.add 0 (τ x40))) fun cs65↦Ω (uncons? cs65) fun p66↦Ω (AV.int? υ p66.fst) fun _↦Ω (nil? p66.snd) fun _↦if 0≤ω ı (Int.sub x40 1) then if ω ı (Int.sub x40 1)<(n41:Int) then Ω (nth (List.set l45 (Nat.add 0 (τ x40)) [vu n59]) (Nat.add 0 (τ (ω ı (Int.sub x40 1))))) fun cs69↦Ω (uncons? cs69) fun p70↦Ω (AV.int? υ p70.fst) fun _↦Ω (nil? p70.snd) fun _↦E cx (Key.loop 197 [true,false,false,true,false,false,true,false]) [vi (ω ı (Int.sub x40 1)),AV.arr 0 1 0 n41,vi x42,vi x43,vi x44] [Ob.mk OK.arr 26 1 1 (List.set (List.set l45 (Nat.add 0 (τ x40)) [vu n59]) (Nat.add 0 (τ (ω ı (Int.sub x40 1)))) [vu n63])] else none else none else none else none else none else none else none else none else some (Out.jump (JX.exit 2) [vi x40],[Ob.mk OK.arr 26 1 1 l45]) else none else none else none else none else some (Out.jump (JX.exit 2) [vi x40],[Ob.mk OK.arr 26 1 1 l45]):=by
 intros
 exact(E_in [188,142] _ _ _).trans (by kernel_rfl)
theorem f198:∀(n73:Nat) (data74:List (List AV)) (a75 b76:Int),E cx (Key.own 198) [AV.arr 0 1 0 n73,vi a75,vi b76] [Ob.mk OK.arr 26 1 1 data74]=Ω (E cx (Key.loop 198 [true,true,true,false,true,false]) [vi (ω ı (Int.tdiv (ω ı (Int.sub (ω ı (Int.sub b76 a75)) 1)) 2)),AV.arr 0 1 0 n73,vi a75,vi 0,vi (ω ı (Int.sub b76 a75))] [Ob.mk OK.arr 26 1 1 data74]) fun r77↦Ω (asJump r77) fun j78↦bif JX.is j78.fst (JX.exit 0) then Ω (uncons? j78.snd.fst) fun p79↦Ω (AV.int? ı p79.fst) fun _↦Ω (nil? p79.snd) fun _↦Ω (uncons? j78.snd.snd) fun p82↦Ω (obIs (Ob.mk OK.arr 26 1 1 data74) p82.fst) fun _↦Ω (chk p82.fst.ver 1) fun _↦Ω (nil? p82.snd) fun _↦Ω (E cx (Key.loop 198 [true,true,true,true,true,false]) [vi (ω ı (Int.sub (ω ı (Int.sub b76 a75)) 1)),AV.arr 0 1 0 n73,vi a75,vi 0] [Ob.mk OK.arr 26 1 1 p82.fst.es]) fun r86↦Ω (asJump r86) fun j87↦bif JX.is j87.fst (JX.exit 2) then Ω (uncons? j87.snd.fst) fun p88↦Ω (AV.int? ı p88.fst) fun _↦Ω (nil? p88.snd) fun _↦Ω (uncons? j87.snd.snd) fun p91↦Ω (obIs (Ob.mk OK.arr 26 1 1 p82.fst.es) p91.fst) fun _↦Ω (chk p91.fst.ver 1) fun _↦Ω (nil? p91.snd) fun _↦some (Out.ret (AV.tuple []),[Ob.mk OK.arr 26 1 1 p91.fst.es]) else none else none:=by
 intros
 exact(E_in [188,142] _ _ _).trans (by kernel_rfl)
theorem f198_l0:∀(x95:Int) (n96:Nat) (x97 x98 x99:Int) (l100:List (List AV)),E cx (Key.loop 198 [true,true,true,false,true,false]) [vi x95,AV.arr 0 1 0 n96,vi x97,vi x98,vi x99] [Ob.mk OK.arr 26 1 1 l100]=bif decide (x95≥0) then Ω (E cx (Key.own 208) [AV.arr 0 1 0 n96,vi x95,vi x99,vi x97] [Ob.mk OK.arr 26 1 1 l100]) fun r101↦Ω (asRet r101) fun x102↦Ω (AV.tup? x102.fst) fun vs103↦Ω (nil? vs103) fun _↦Ω (uncons? x102.snd) fun p105↦Ω (obIs (Ob.mk OK.arr 26 1 1 []) p105.fst) fun _↦Ω (chk p105.fst.ver 1) fun _↦Ω (nil? p105.snd) fun _↦E cx (Key.loop 198 [true,true,true,false,true,false]) [vi (ω ı (Int.sub x95 1)),AV.arr 0 1 0 n96,vi x97,vi x98,vi x99] [Ob.mk OK.arr 26 1 1 p105.fst.es] else some (Out.jump (JX.exit 0) [vi x95],[Ob.mk OK.arr 26 1 1 l100]):=by
 intros
 exact(E_in [188,142] _ _ _).trans (by kernel_rfl)
theorem f198_l1:∀(x109:Int) (n110:Nat) (x111 x112:Int) (l113:List (List AV)),E cx (Key.loop 198 [true,true,true,true,true,false]) [vi x109,AV.arr 0 1 0 n110,vi x111,vi x112] [Ob.mk OK.arr 26 1 1 l113]=bif decide (x109≥0) then if 0≤ω ı (Int.add x111 x109) then if ω ı (Int.add x111 x109)<(n110:Int) then Ω (nth l113 (Nat.add 0 (τ (ω ı (Int.add x111 x109))))) fun cs114↦Ω (uncons? cs114) fun p115↦Ω (AV.int? υ p115.fst) fun n116↦Ω (nil? p115.snd) fun _↦if 0≤x111 then if x111<(n110:Int) then Ω (nth l113 (Nat.add 0 (τ x111))) fun cs118↦Ω (uncons? cs118) fun p119↦Ω (AV.int? υ p119.fst) fun n120↦Ω (nil? p119.snd) fun _↦if 0≤x111 then if x111<(n110:Int) then Ω (nth l113 (Nat.add 0 (τ x111))) fun cs122↦Ω (uncons? cs122) fun p123↦Ω (AV.int? υ p123.fst) fun _↦Ω (nil? p123.snd) fun _↦if 0≤ω ı (Int.add x111 x109) then if ω ı (Int.add x111 x109)<(n110:Int) then Ω (nth (List.set l113 (Nat.add 0 (τ x111)) [vu n116]) (Nat.add 0 (τ (ω ı (Int.add x111 x109))))) fun cs126↦Ω (uncons? cs126) fun p127↦Ω (AV.int? υ p127.fst) fun _↦Ω (nil? p127.snd) fun _↦Ω (E cx (Key.own 208) [AV.arr 0 1 0 n110,vi x112,vi x109,vi x111] [Ob.mk OK.arr 26 1 1 (List.set (List.set l113 (Nat.add 0 (τ x111)) [vu n116]) (Nat.add 0 (τ (ω ı (Int.add x111 x109)))) [vu n120])]) fun r130↦Ω (asRet r130) fun x131↦Ω (AV.tup? x131.fst) fun vs132↦Ω (nil? vs132) fun _↦Ω (uncons? x131.snd) fun p134↦Ω (obIs (Ob.mk OK.arr 26 1 1 []) p134.fst) fun _↦Ω (chk p134.fst.ver 1) fun _↦Ω (nil? p134.snd) fun _↦E cx (Key.loop 198 [true,true,true,true,true,false]) [vi (ω ı (Int.sub x109 1)),AV.arr 0 1 0 n110,vi x111,vi x112] [Ob.mk OK.arr 26 1 1 p134.fst.es] else none else none else none else none else none else none else none else none else some (Out.jump (JX.exit 2) [vi x109],[Ob.mk OK.arr 26 1 1 l113]):=by
 intros
 exact(E_in [188,142] _ _ _).trans (by kernel_rfl)
theorem f199:∀(n138:Nat) (data139:List (List AV)) (a140 b141:Int),E cx (Key.own 199) [AV.arr 0 1 0 n138,vi a140,vi b141] [Ob.mk OK.arr 26 1 1 data139]=bif decide (ω ı (Int.sub b141 a140)≥8) then Ω (E cx (Key.fn 190) [vi (ω ı (Int.sub b141 a140))] []) fun r142↦Ω (ret1 r142) fun v143↦Ω (AV.int? υ v143) fun n144↦Ω (E cx (Key.loop 199 [true,true,false,true,true,true,false]) [vi (ω ı (Int.sub (ω ı (Int.add a140 (ω ı (Int.mul (ω ı (Int.tdiv (ω ı (Int.sub b141 a140)) 4)) 2)))) 1)),AV.arr 0 1 0 n138,vi a140,vi (ω ı (Int.sub b141 a140)),AV.ptr 1 0 0 0,vu n144] [Ob.mk OK.arr 26 1 1 data139,Ob.mk OK.box 222 1 0 [[vu (ω υ (ω ı (Int.sub b141 a140)))]]]) fun r145↦Ω (asJump r145) fun j146↦bif JX.is j146.fst (JX.exit 0) then Ω (uncons? j146.snd.fst) fun p147↦Ω (AV.int? ı p147.fst) fun _↦Ω (nil? p147.snd) fun _↦Ω (uncons? j146.snd.snd) fun p150↦Ω (obIs (Ob.mk OK.arr 26 1 1 data139) p150.fst) fun _↦Ω (chk p150.fst.ver 1) fun _↦Ω (uncons? p150.snd) fun p153↦Ω (obIs (Ob.mk OK.box 222 1 0 [[vu (ω υ (ω ı (Int.sub b141 a140)))]]) p153.fst) fun _↦Ω (chk p153.fst.ver 0) fun _↦Ω (uncons? p153.fst.es) fun p156↦Ω (nil? p156.snd) fun _↦Ω (uncons? p156.fst) fun p158↦Ω (AV.int? υ p158.fst) fun _↦Ω (nil? p158.snd) fun _↦Ω (nil? p153.snd) fun _↦some (Out.ret (AV.tuple []),[Ob.mk OK.arr 26 1 1 p150.fst.es]) else none else some (Out.ret (AV.tuple []),[Ob.mk OK.arr 26 1 1 data139]):=by
 intros
 exact(E_in [188,142] _ _ _).trans (by kernel_rfl)
theorem f199_l0:∀(x162:Int) (n163:Nat) (x164 x165 x166:Int) (l167:List (List AV)) (x168:Int),E cx (Key.loop 199 [true,true,false,true,true,true,false]) [vi x162,AV.arr 0 1 0 n163,vi x164,vi x165,AV.ptr 1 0 0 0,vu x166] [Ob.mk OK.arr 26 1 1 l167,Ob.mk OK.box 222 1 0 [[vu x168]]]=bif decide (x162≤ω ı (Int.add (ω ı (Int.add x164 (ω ı (Int.mul (ω ı (Int.tdiv x165 4)) 2)))) 1)) then Ω (E cx (Key.own 191) [AV.ptr 0 0 0 0] [Ob.mk OK.box 222 1 0 [[vu x168]]]) fun r169↦Ω (asRet r169) fun x170↦Ω (AV.int? υ x170.fst) fun n171↦Ω (uncons? x170.snd) fun p172↦Ω (obIs (Ob.mk OK.box 222 1 0 [[vu x168]]) p172.fst) fun _↦Ω (chk p172.fst.ver 0) fun _↦Ω (uncons? p172.fst.es) fun p175↦Ω (nil? p175.snd) fun _↦Ω (uncons? p175.fst) fun p177↦Ω (AV.int? υ p177.fst) fun n178↦Ω (nil? p177.snd) fun _↦Ω (nil? p172.snd) fun _↦bif decide (ω ı (iand υ n171 (ω υ (Int.sub x166 1)))≥x165) then if 0≤ω ı (Int.add x164 (ω ı (Int.sub (ω ı (iand υ n171 (ω υ (Int.sub x166 1)))) x165))) then if ω ı (Int.add x164 (ω ı (Int.sub (ω ı (iand υ n171 (ω υ (Int.sub x166 1)))) x165)))<(n163:Int) then Ω (nth l167 (Nat.add 0 (τ (ω ı (Int.add x164 (ω ı (Int.sub (ω ı (iand υ n171 (ω υ (Int.sub x166 1)))) x165))))))) fun cs181↦Ω (uncons? cs181) fun p182↦Ω (AV.int? υ p182.fst) fun n183↦Ω (nil? p182.snd) fun _↦if 0≤x162 then if x162<(n163:Int) then Ω (nth l167 (Nat.add 0 (τ x162))) fun cs185↦Ω (uncons? cs185) fun p186↦Ω (AV.int? υ p186.fst) fun n187↦Ω (nil? p186.snd) fun _↦if 0≤x162 then if x162<(n163:Int) then Ω (nth l167 (Nat.add 0 (τ x162))) fun cs189↦Ω (uncons? cs189) fun p190↦Ω (AV.int? υ p190.fst) fun _↦Ω (nil? p190.snd) fun _↦if 0≤ω ı (Int.add x164 (ω ı (Int.sub (ω ı (iand υ n171 (ω υ (Int.sub x166 1)))) x165))) then if ω ı (Int.add x164 (ω ı (Int.sub (ω ı (iand υ n171 (ω υ (Int.sub x166 1)))) x165)))<(n163:Int) then Ω (nth (List.set l167 (Nat.add 0 (τ x162)) [vu n183]) (Nat.add 0 (τ (ω ı (Int.add x164 (ω ı (Int.sub (ω ı (iand υ n171 (ω υ (Int.sub x166 1)))) x165))))))) fun cs193↦Ω (uncons? cs193) fun p194↦Ω (AV.int? υ p194.fst) fun _↦Ω (nil? p194.snd) fun _↦E cx (Key.loop 199 [true,true,false,true,true,true,false]) [vi (ω ı (Int.add x162 1)),AV.arr 0 1 0 n163,vi x164,vi x165,AV.ptr 1 0 0 0,vu x166] [Ob.mk OK.arr 26 1 1 (List.set (List.set l167 (Nat.add 0 (τ x162)) [vu n183]) (Nat.add 0 (τ (ω ı (Int.add x164 (ω ı (Int.sub (ω ı (iand υ n171 (ω υ (Int.sub x166 1)))) x165)))))) [vu n187]),Ob.mk OK.box 222 1 0 [[vu n178]]] else none else none else none else none else none else none else none else none else if 0≤ω ı (Int.add x164 (ω ı (iand υ n171 (ω υ (Int.sub x166 1))))) then if ω ı (Int.add x164 (ω ı (iand υ n171 (ω υ (Int.sub x166 1)))))<(n163:Int) then Ω (nth l167 (Nat.add 0 (τ (ω ı (Int.add x164 (ω ı (iand υ n171 (ω υ (Int.sub x166 1))))))))) fun cs197↦Ω (uncons? cs197) fun p198↦Ω (AV.int? υ p198.fst) fun n199↦Ω (nil? p198.snd) fun _↦if 0≤x162 then if x162<(n163:Int) then Ω (nth l167 (Nat.add 0 (τ x162))) fun cs201↦Ω (uncons? cs201) fun p202↦Ω (AV.int? υ p202.fst) fun n203↦Ω (nil? p202.snd) fun _↦if 0≤x162 then if x162<(n163:Int) then Ω (nth l167 (Nat.add 0 (τ x162))) fun cs205↦Ω (uncons? cs205) fun p206↦Ω (AV.int? υ p206.fst) fun _↦Ω (nil? p206.snd) fun _↦if 0≤ω ı (Int.add x164 (ω ı (iand υ n171 (ω υ (Int.sub x166 1))))) then if ω ı (Int.add x164 (ω ı (iand υ n171 (ω υ (Int.sub x166 1)))))<(n163:Int) then Ω (nth (List.set l167 (Nat.add 0 (τ x162)) [vu n199]) (Nat.add 0 (τ (ω ı (Int.add x164 (ω ı (iand υ n171 (ω υ (Int.sub x166 1))))))))) fun cs209↦Ω (uncons? cs209) fun p210↦Ω (AV.int? υ p210.fst) fun _↦Ω (nil? p210.snd) fun _↦E cx (Key.loop 199 [true,true,false,true,true,true,false]) [vi (ω ı (Int.add x162 1)),AV.arr 0 1 0 n163,vi x164,vi x165,AV.ptr 1 0 0 0,vu x166] [Ob.mk OK.arr 26 1 1 (List.set (List.set l167 (Nat.add 0 (τ x162)) [vu n199]) (Nat.add 0 (τ (ω ı (Int.add x164 (ω ı (iand υ n171 (ω υ (Int.sub x166 1)))))))) [vu n203]),Ob.mk OK.box 222 1 0 [[vu n178]]] else none else none else none else none else none else none else none else none else some (Out.jump (JX.exit 0) [vi x162],[Ob.mk OK.arr 26 1 1 l167,Ob.mk OK.box 222 1 0 [[vu x168]]]):=by
 intros
 exact(E_in [188,142] _ _ _).trans (by kernel_rfl)
theorem f201:∀(n213:Nat) (data214:List (List AV)) (a215 b216:Int),E cx (Key.own 201) [AV.arr 0 1 0 n213,vi a215,vi b216] [Ob.mk OK.arr 26 1 1 data214]=Ω (E cx (Key.loop 201 [true,true,false]) [vi a215,vi (ω ı (Int.sub b216 1)),AV.arr 0 1 0 n213] [Ob.mk OK.arr 26 1 1 data214]) fun r217↦Ω (asJump r217) fun j218↦bif JX.is j218.fst (JX.exit 0) then Ω (uncons? j218.snd.fst) fun p219↦Ω (AV.int? ı p219.fst) fun _↦Ω (uncons? p219.snd) fun p221↦Ω (AV.int? ı p221.fst) fun _↦Ω (nil? p221.snd) fun _↦Ω (uncons? j218.snd.snd) fun p224↦Ω (obIs (Ob.mk OK.arr 26 1 1 data214) p224.fst) fun _↦Ω (chk p224.fst.ver 1) fun _↦Ω (nil? p224.snd) fun _↦some (Out.ret (AV.tuple []),[Ob.mk OK.arr 26 1 1 p224.fst.es]) else none:=by
 intros
 exact(E_in [188,142] _ _ _).trans (by kernel_rfl)
theorem f201_l0:∀(x228 x229:Int) (n230:Nat) (l231:List (List AV)),E cx (Key.loop 201 [true,true,false]) [vi x228,vi x229,AV.arr 0 1 0 n230] [Ob.mk OK.arr 26 1 1 l231]=bif decide (x228<x229) then if 0≤x229 then if x229<(n230:Int) then Ω (nth l231 (Nat.add 0 (τ x229))) fun cs232↦Ω (uncons? cs232) fun p233↦Ω (AV.int? υ p233.fst) fun n234↦Ω (nil? p233.snd) fun _↦if 0≤x228 then if x228<(n230:Int) then Ω (nth l231 (Nat.add 0 (τ x228))) fun cs236↦Ω (uncons? cs236) fun p237↦Ω (AV.int? υ p237.fst) fun n238↦Ω (nil? p237.snd) fun _↦if 0≤x228 then if x228<(n230:Int) then Ω (nth l231 (Nat.add 0 (τ x228))) fun cs240↦Ω (uncons? cs240) fun p241↦Ω (AV.int? υ p241.fst) fun _↦Ω (nil? p241.snd) fun _↦if 0≤x229 then if x229<(n230:Int) then Ω (nth (List.set l231 (Nat.add 0 (τ x228)) [vu n234]) (Nat.add 0 (τ x229))) fun cs244↦Ω (uncons? cs244) fun p245↦Ω (AV.int? υ p245.fst) fun _↦Ω (nil? p245.snd) fun _↦E cx (Key.loop 201 [true,true,false]) [vi (ω ı (Int.add x228 1)),vi (ω ı (Int.sub x229 1)),AV.arr 0 1 0 n230] [Ob.mk OK.arr 26 1 1 (List.set (List.set l231 (Nat.add 0 (τ x228)) [vu n234]) (Nat.add 0 (τ x229)) [vu n238])] else none else none else none else none else none else none else none else none else some (Out.jump (JX.exit 0) [vi x228,vi x229],[Ob.mk OK.arr 26 1 1 l231]):=by
 intros
 exact(E_in [188,142] _ _ _).trans (by kernel_rfl)
theorem f202:∀(n248:Nat) (data249:List (List AV)) (a250 b251:Int),E cx (Key.own 202) [AV.arr 0 1 0 n248,vi a250,vi b251] [Ob.mk OK.arr 26 1 1 data249]=Ω (E cx (Key.loop 202 [true,true,false,true,false]) [vbool false,vi (ω ı (Int.add a250 1)),vi 0,AV.arr 0 1 0 n248,vi a250,vi b251] [Ob.mk OK.arr 26 1 1 data249]) fun r252↦Ω (asJump r252) fun j253↦bif JX.is j253.fst (JX.exit 0) then Ω (uncons? j253.snd.fst) fun p254↦Ω (AV.bool? p254.fst) fun _↦Ω (uncons? p254.snd) fun p256↦Ω (AV.int? ı p256.fst) fun _↦Ω (uncons? p256.snd) fun p258↦Ω (AV.int? ı p258.fst) fun _↦Ω (nil? p258.snd) fun _↦Ω (uncons? j253.snd.snd) fun p261↦Ω (obIs (Ob.mk OK.arr 26 1 1 data249) p261.fst) fun _↦Ω (chk p261.fst.ver 1) fun _↦Ω (nil? p261.snd) fun _↦some (Out.ret (vbool false),[Ob.mk OK.arr 26 1 1 p261.fst.es]) else bif JX.is j253.fst JX.ret then Ω (uncons? j253.snd.fst) fun p265↦Ω (AV.bool? p265.fst) fun b266↦Ω (uncons? p265.snd) fun p267↦Ω (AV.int? ı p267.fst) fun _↦Ω (uncons? p267.snd) fun p269↦Ω (AV.int? ı p269.fst) fun _↦Ω (nil? p269.snd) fun _↦Ω (uncons? j253.snd.snd) fun p272↦Ω (obIs (Ob.mk OK.arr 26 1 1 data249) p272.fst) fun _↦Ω (chk p272.fst.ver 1) fun _↦Ω (nil? p272.snd) fun _↦some (Out.ret (vbool b266),[Ob.mk OK.arr 26 1 1 p272.fst.es]) else none:=by
 intros
 exact(E_in [188,142] _ _ _).trans (by kernel_rfl)
theorem f202_l0:∀(b276:Bool) (x277 x278:Int) (n279:Nat) (x280 x281:Int) (l282:List (List AV)),E cx (Key.loop 202 [true,true,false,true,false]) [vbool b276,vi x277,vi x278,AV.arr 0 1 0 n279,vi x280,vi x281] [Ob.mk OK.arr 26 1 1 l282]=bif decide (x278<5) then Ω (E cx (Key.loop 202 [true,true,false,true,false,false,true,false,false,false,false]) [vi x277,AV.arr 0 1 0 n279,vi x280,vi x281,vbool b276,vi x278] [Ob.mk OK.arr 26 1 1 l282]) fun r283↦Ω (asJump r283) fun j284↦bif JX.is j284.fst (JX.exit 2) then Ω (uncons? j284.snd.fst) fun p285↦Ω (AV.int? ı p285.fst) fun n286↦Ω (nil? p285.snd) fun _↦Ω (uncons? j284.snd.snd) fun p288↦Ω (obIs (Ob.mk OK.arr 26 1 1 l282) p288.fst) fun _↦Ω (chk p288.fst.ver 1) fun _↦Ω (nil? p288.snd) fun _↦bif decide (n286=x281) then some (Out.jump JX.ret [vbool true,vi n286,vi x278],[Ob.mk OK.arr 26 1 1 p288.fst.es]) else bif decide (ω ı (Int.sub x281 x280)<50) then some (Out.jump JX.ret [vbool false,vi n286,vi x278],[Ob.mk OK.arr 26 1 1 p288.fst.es]) else if 0≤ω ı (Int.sub n286 1) then if ω ı (Int.sub n286 1)<(n279:Int) then Ω (nth p288.fst.es (Nat.add 0 (τ (ω ı (Int.sub n286 1))))) fun cs292↦Ω (uncons? cs292) fun p293↦Ω (AV.int? υ p293.fst) fun n294↦Ω (nil? p293.snd) fun _↦if 0≤n286 then if n286<(n279:Int) then Ω (nth p288.fst.es (Nat.add 0 (τ n286))) fun cs296↦Ω (uncons? cs296) fun p297↦Ω (AV.int? υ p297.fst) fun n298↦Ω (nil? p297.snd) fun _↦if 0≤n286 then if n286<(n279:Int) then Ω (nth p288.fst.es (Nat.add 0 (τ n286))) fun cs300↦Ω (uncons? cs300) fun p301↦Ω (AV.int? υ p301.fst) fun _↦Ω (nil? p301.snd) fun _↦if 0≤ω ı (Int.sub n286 1) then if ω ı (Int.sub n286 1)<(n279:Int) then Ω (nth (List.set p288.fst.es (Nat.add 0 (τ n286)) [vu n294]) (Nat.add 0 (τ (ω ı (Int.sub n286 1))))) fun cs304↦Ω (uncons? cs304) fun p305↦Ω (AV.int? υ p305.fst) fun _↦Ω (nil? p305.snd) fun _↦bif decide (ω ı (Int.sub n286 x280)≥2) then Ω (E cx (Key.loop 202 [true,true,false,true,false,false,true,false,false,true,true,true,true,false,true,false,true,false]) [vi (ω ı (Int.sub n286 1)),AV.arr 0 1 0 n279,vi x280,vi x281,vbool b276,vi n286,vi x278] [Ob.mk OK.arr 26 1 1 (List.set (List.set p288.fst.es (Nat.add 0 (τ n286)) [vu n294]) (Nat.add 0 (τ (ω ı (Int.sub n286 1)))) [vu n298])]) fun r308↦Ω (asJump r308) fun j309↦bif JX.is j309.fst (JX.exit 4) then Ω (uncons? j309.snd.fst) fun p310↦Ω (AV.int? ı p310.fst) fun _↦Ω (nil? p310.snd) fun _↦Ω (uncons? j309.snd.snd) fun p313↦Ω (obIs (Ob.mk OK.arr 26 1 1 (List.set (List.set p288.fst.es (Nat.add 0 (τ n286)) [vu n294]) (Nat.add 0 (τ (ω ı (Int.sub n286 1)))) [vu n298])) p313.fst) fun _↦Ω (chk p313.fst.ver 1) fun _↦Ω (nil? p313.snd) fun _↦bif decide (ω ı (Int.sub x281 n286)≥2) then Ω (E cx (Key.loop 202 [true,true,false,true,false,false,true,false,false,true,true,true,true,true,true,false,true,false]) [vi (ω ı (Int.add n286 1)),AV.arr 0 1 0 n279,vi x280,vi x281,vbool b276,vi n286,vi x278] [Ob.mk OK.arr 26 1 1 p313.fst.es]) fun r317↦Ω (asJump r317) fun j318↦bif JX.is j318.fst (JX.exit 6) then Ω (uncons? j318.snd.fst) fun p319↦Ω (AV.int? ı p319.fst) fun _↦Ω (nil? p319.snd) fun _↦Ω (uncons? j318.snd.snd) fun p322↦Ω (obIs (Ob.mk OK.arr 26 1 1 p313.fst.es) p322.fst) fun _↦Ω (chk p322.fst.ver 1) fun _↦Ω (nil? p322.snd) fun _↦E cx (Key.loop 202 [true,true,false,true,false]) [vbool b276,vi n286,vi (ω ı (Int.add x278 1)),AV.arr 0 1 0 n279,vi x280,vi x281] [Ob.mk OK.arr 26 1 1 p322.fst.es] else none else E cx (Key.loop 202 [true,true,false,true,false]) [vbool b276,vi n286,vi (ω ı (Int.add x278 1)),AV.arr 0 1 0 n279,vi x280,vi x281] [Ob.mk OK.arr 26 1 1 p313.fst.es] else none else bif decide (ω ı (Int.sub x281 n286)≥2) then Ω (E cx (Key.loop 202 [true,true,false,true,false,false,true,false,false,true,true,true,true,true,true,false,true,false]) [vi (ω ı (Int.add n286 1)),AV.arr 0 1 0 n279,vi x280,vi x281,vbool b276,vi n286,vi x278] [Ob.mk OK.arr 26 1 1 (List.set (List.set p288.fst.es (Nat.add 0 (τ n286)) [vu n294]) (Nat.add 0 (τ (ω ı (Int.sub n286 1)))) [vu n298])]) fun r326↦Ω (asJump r326) fun j327↦bif JX.is j327.fst (JX.exit 6) then Ω (uncons? j327.snd.fst) fun p328↦Ω (AV.int? ı p328.fst) fun _↦Ω (nil? p328.snd) fun _↦Ω (uncons? j327.snd.snd) fun p331↦Ω (obIs (Ob.mk OK.arr 26 1 1 (List.set (List.set p288.fst.es (Nat.add 0 (τ n286)) [vu n294]) (Nat.add 0 (τ (ω ı (Int.sub n286 1)))) [vu n298])) p331.fst) fun _↦Ω (chk p331.fst.ver 1) fun _↦Ω (nil? p331.snd) fun _↦E cx (Key.loop 202 [true,true,false,true,false]) [vbool b276,vi n286,vi (ω ı (Int.add x278 1)),AV.arr 0 1 0 n279,vi x280,vi x281] [Ob.mk OK.arr 26 1 1 p331.fst.es] else none else E cx (Key.loop 202 [true,true,false,true,false]) [vbool b276,vi n286,vi (ω ı (Int.add x278 1)),AV.arr 0 1 0 n279,vi x280,vi x281] [Ob.mk OK.arr 26 1 1 (List.set (List.set p288.fst.es (Nat.add 0 (τ n286)) [vu n294]) (Nat.add 0 (τ (ω ı (Int.sub n286 1)))) [vu n298])] else none else none else none else none else none else none else none else none else none else some (Out.jump (JX.exit 0) [vbool b276,vi x277,vi x278],[Ob.mk OK.arr 26 1 1 l282]):=by
 intros
 exact(E_in [188,142] _ _ _).trans (by kernel_rfl)
theorem f202_l0_l1:∀(x335:Int) (n336:Nat) (x337 x338:Int) (b339:Bool) (x340:Int) (l341:List (List AV)),E cx (Key.loop 202 [true,true,false,true,false,false,true,false,false,false,false]) [vi x335,AV.arr 0 1 0 n336,vi x337,vi x338,vbool b339,vi x340] [Ob.mk OK.arr 26 1 1 l341]=bif decide (x335<x338) then if 0≤x335 then if x335<(n336:Int) then Ω (nth l341 (Nat.add 0 (τ x335))) fun cs342↦Ω (uncons? cs342) fun p343↦Ω (AV.int? υ p343.fst) fun n344↦Ω (nil? p343.snd) fun _↦if 0≤ω ı (Int.sub x335 1) then if ω ı (Int.sub x335 1)<(n336:Int) then Ω (nth l341 (Nat.add 0 (τ (ω ı (Int.sub x335 1))))) fun cs346↦Ω (uncons? cs346) fun p347↦Ω (AV.int? υ p347.fst) fun n348↦Ω (nil? p347.snd) fun _↦Ω (E cx (Key.fn 203) [vu n344,vu n348] []) fun r350↦Ω (ret1 r350) fun v351↦Ω (AV.bool? v351) fun b352↦bif b352 then some (Out.jump (JX.exit 2) [vi x335],[Ob.mk OK.arr 26 1 1 l341]) else E cx (Key.loop 202 [true,true,false,true,false,false,true,false,false,false,false]) [vi (ω ı (Int.add x335 1)),AV.arr 0 1 0 n336,vi x337,vi x338,vbool b339,vi x340] [Ob.mk OK.arr 26 1 1 l341] else none else none else none else none else some (Out.jump (JX.exit 2) [vi x335],[Ob.mk OK.arr 26 1 1 l341]):=by
 intros
 exact(E_in [188,142] _ _ _).trans (by kernel_rfl)
theorem f204:∀(n423:Nat) (data424:List (List AV)) (a425 b426 pivot427:Int),E cx (Key.own 204) [AV.arr 0 1 0 n423,vi a425,vi b426,vi pivot427] [Ob.mk OK.arr 26 1 1 data424]=if 0≤pivot427 then if pivot427<(n423:Int) then Ω (nth data424 (Nat.add 0 (τ pivot427))) fun cs428↦Ω (uncons? cs428) fun p429↦Ω (AV.int? υ p429.fst) fun n430↦Ω (nil? p429.snd) fun _↦if 0≤a425 then if a425<(n423:Int) then Ω (nth data424 (Nat.add 0 (τ a425))) fun cs432↦Ω (uncons? cs432) fun p433↦Ω (AV.int? υ p433.fst) fun n434↦Ω (nil? p433.snd) fun _↦if 0≤a425 then if a425<(n423:Int) then Ω (nth data424 (Nat.add 0 (τ a425))) fun cs436↦Ω (uncons? cs436) fun p437↦Ω (AV.int? υ p437.fst) fun _↦Ω (nil? p437.snd) fun _↦if 0≤pivot427 then if pivot427<(n423:Int) then Ω (nth (List.set data424 (Nat.add 0 (τ a425)) [vu n430]) (Nat.add 0 (τ pivot427))) fun cs440↦Ω (uncons? cs440) fun p441↦Ω (AV.int? υ p441.fst) fun _↦Ω (nil? p441.snd) fun _↦Ω (E cx (Key.loop 204 [true,true,true,false,false]) [vi (ω ı (Int.add a425 1)),vi (ω ı (Int.sub b426 1)),AV.arr 0 1 0 n423,vi a425] [Ob.mk OK.arr 26 1 1 (List.set (List.set data424 (Nat.add 0 (τ a425)) [vu n430]) (Nat.add 0 (τ pivot427)) [vu n434])]) fun r444↦Ω (asJump r444) fun j445↦bif JX.is j445.fst (JX.exit 0) then Ω (uncons? j445.snd.fst) fun p446↦Ω (AV.int? ı p446.fst) fun n447↦Ω (uncons? p446.snd) fun p448↦Ω (AV.int? ı p448.fst) fun _↦Ω (nil? p448.snd) fun _↦Ω (uncons? j445.snd.snd) fun p451↦Ω (obIs (Ob.mk OK.arr 26 1 1 (List.set (List.set data424 (Nat.add 0 (τ a425)) [vu n430]) (Nat.add 0 (τ pivot427)) [vu n434])) p451.fst) fun _↦Ω (chk p451.fst.ver 1) fun _↦Ω (nil? p451.snd) fun _↦some (Out.ret (vi n447),[Ob.mk OK.arr 26 1 1 p451.fst.es]) else none else none else none else none else none else none else none else none else none:=by
 intros
 exact(E_in [188,142] _ _ _).trans (by kernel_rfl)
theorem f204_l0:∀(x455 x456:Int) (n457:Nat) (x458:Int) (l459:List (List AV)),E cx (Key.loop 204 [true,true,true,false,false]) [vi x455,vi x456,AV.arr 0 1 0 n457,vi x458] [Ob.mk OK.arr 26 1 1 l459]=Ω (E cx (Key.loop 204 [true,true,true,false,false,false,false,false,false]) [vi x455,AV.arr 0 1 0 n457,vi x458,vi x456] [Ob.mk OK.arr 26 1 1 l459]) fun r460↦Ω (asJump r460) fun j461↦bif JX.is j461.fst (JX.exit 2) then Ω (uncons? j461.snd.fst) fun p462↦Ω (AV.int? ı p462.fst) fun n463↦Ω (nil? p462.snd) fun _↦Ω (uncons? j461.snd.snd) fun p465↦Ω (obIs (Ob.mk OK.arr 26 1 1 l459) p465.fst) fun _↦Ω (chk p465.fst.ver 1) fun _↦Ω (nil? p465.snd) fun _↦Ω (E cx (Key.loop 204 [true,true,true,false,false,false,false,true,false,false]) [vi x456,AV.arr 0 1 0 n457,vi x458,vi n463] [Ob.mk OK.arr 26 1 1 p465.fst.es]) fun r469↦Ω (asJump r469) fun j470↦bif JX.is j470.fst (JX.exit 4) then Ω (uncons? j470.snd.fst) fun p471↦Ω (AV.int? ı p471.fst) fun n472↦Ω (nil? p471.snd) fun _↦Ω (uncons? j470.snd.snd) fun p474↦Ω (obIs (Ob.mk OK.arr 26 1 1 p465.fst.es) p474.fst) fun _↦Ω (chk p474.fst.ver 1) fun _↦Ω (nil? p474.snd) fun _↦bif decide (n463>n472) then some (Out.jump (JX.exit 0) [vi n463,vi n472],[Ob.mk OK.arr 26 1 1 p474.fst.es]) else if 0≤n472 then if n472<(n457:Int) then Ω (nth p474.fst.es (Nat.add 0 (τ n472))) fun cs478↦Ω (uncons? cs478) fun p479↦Ω (AV.int? υ p479.fst) fun n480↦Ω (nil? p479.snd) fun _↦if 0≤n463 then if n463<(n457:Int) then Ω (nth p474.fst.es (Nat.add 0 (τ n463))) fun cs482↦Ω (uncons? cs482) fun p483↦Ω (AV.int? υ p483.fst) fun n484↦Ω (nil? p483.snd) fun _↦if 0≤n463 then if n463<(n457:Int) then Ω (nth p474.fst.es (Nat.add 0 (τ n463))) fun cs486↦Ω (uncons? cs486) fun p487↦Ω (AV.int? υ p487.fst) fun _↦Ω (nil? p487.snd) fun _↦if 0≤n472 then if n472<(n457:Int) then Ω (nth (List.set p474.fst.es (Nat.add 0 (τ n463)) [vu n480]) (Nat.add 0 (τ n472))) fun cs490↦Ω (uncons? cs490) fun p491↦Ω (AV.int? υ p491.fst) fun _↦Ω (nil? p491.snd) fun _↦E cx (Key.loop 204 [true,true,true,false,false]) [vi (ω ı (Int.add n463 1)),vi (ω ı (Int.sub n472 1)),AV.arr 0 1 0 n457,vi x458] [Ob.mk OK.arr 26 1 1 (List.set (List.set p474.fst.es (Nat.add 0 (τ n463)) [vu n480]) (Nat.add 0 (τ n472)) [vu n484])] else none else none else none else none else none else none else none else none else none else none:=by
 intros
 exact(E_in [188,142] _ _ _).trans (by kernel_rfl)
theorem f204_l0_l1:∀(x494:Int) (n495:Nat) (x496 x497:Int) (l498:List (List AV)),E cx (Key.loop 204 [true,true,true,false,false,false,false,false,false]) [vi x494,AV.arr 0 1 0 n495,vi x496,vi x497] [Ob.mk OK.arr 26 1 1 l498]=bif decide (x494≤x497) then if 0≤x496 then if x496<(n495:Int) then Ω (nth l498 (Nat.add 0 (τ x496))) fun cs499↦Ω (uncons? cs499) fun p500↦Ω (AV.int? υ p500.fst) fun n501↦Ω (nil? p500.snd) fun _↦if 0≤x494 then if x494<(n495:Int) then Ω (nth l498 (Nat.add 0 (τ x494))) fun cs503↦Ω (uncons? cs503) fun p504↦Ω (AV.int? υ p504.fst) fun n505↦Ω (nil? p504.snd) fun _↦Ω (E cx (Key.fn 203) [vu n501,vu n505] []) fun r507↦Ω (ret1 r507) fun v508↦Ω (AV.bool? v508) fun b509↦bif b509 then some (Out.jump (JX.exit 2) [vi x494],[Ob.mk OK.arr 26 1 1 l498]) else E cx (Key.loop 204 [true,true,true,false,false,false,false,false,false]) [vi (ω ı (Int.add x494 1)),AV.arr 0 1 0 n495,vi x496,vi x497] [Ob.mk OK.arr 26 1 1 l498] else none else none else none else none else some (Out.jump (JX.exit 2) [vi x494],[Ob.mk OK.arr 26 1 1 l498]):=by
 intros
 exact(E_in [188,142] _ _ _).trans (by kernel_rfl)
theorem f204_l0_l2:∀(x510:Int) (n511:Nat) (x512 x513:Int) (l514:List (List AV)),E cx (Key.loop 204 [true,true,true,false,false,false,false,true,false,false]) [vi x510,AV.arr 0 1 0 n511,vi x512,vi x513] [Ob.mk OK.arr 26 1 1 l514]=bif decide (x513≤x510) then if 0≤x512 then if x512<(n511:Int) then Ω (nth l514 (Nat.add 0 (τ x512))) fun cs515↦Ω (uncons? cs515) fun p516↦Ω (AV.int? υ p516.fst) fun n517↦Ω (nil? p516.snd) fun _↦if 0≤x510 then if x510<(n511:Int) then Ω (nth l514 (Nat.add 0 (τ x510))) fun cs519↦Ω (uncons? cs519) fun p520↦Ω (AV.int? υ p520.fst) fun n521↦Ω (nil? p520.snd) fun _↦Ω (E cx (Key.fn 203) [vu n517,vu n521] []) fun r523↦Ω (ret1 r523) fun v524↦Ω (AV.bool? v524) fun b525↦bif b525 then E cx (Key.loop 204 [true,true,true,false,false,false,false,true,false,false]) [vi (ω ı (Int.sub x510 1)),AV.arr 0 1 0 n511,vi x512,vi x513] [Ob.mk OK.arr 26 1 1 l514] else some (Out.jump (JX.exit 4) [vi x510],[Ob.mk OK.arr 26 1 1 l514]) else none else none else none else none else some (Out.jump (JX.exit 4) [vi x510],[Ob.mk OK.arr 26 1 1 l514]):=by
 intros
 exact(E_in [188,142] _ _ _).trans (by kernel_rfl)
theorem f205:∀(n526:Nat) (data527:List (List AV)) (a528 b529 pivot530:Int),E cx (Key.own 205) [AV.arr 0 1 0 n526,vi a528,vi b529,vi pivot530] [Ob.mk OK.arr 26 1 1 data527]=if 0≤pivot530 then if pivot530<(n526:Int) then Ω (nth data527 (Nat.add 0 (τ pivot530))) fun cs531↦Ω (uncons? cs531) fun p532↦Ω (AV.int? υ p532.fst) fun n533↦Ω (nil? p532.snd) fun _↦if 0≤a528 then if a528<(n526:Int) then Ω (nth data527 (Nat.add 0 (τ a528))) fun cs535↦Ω (uncons? cs535) fun p536↦Ω (AV.int? υ p536.fst) fun n537↦Ω (nil? p536.snd) fun _↦if 0≤a528 then if a528<(n526:Int) then Ω (nth data527 (Nat.add 0 (τ a528))) fun cs539↦Ω (uncons? cs539) fun p540↦Ω (AV.int? υ p540.fst) fun _↦Ω (nil? p540.snd) fun _↦if 0≤pivot530 then if pivot530<(n526:Int) then Ω (nth (List.set data527 (Nat.add 0 (τ a528)) [vu n533]) (Nat.add 0 (τ pivot530))) fun cs543↦Ω (uncons? cs543) fun p544↦Ω (AV.int? υ p544.fst) fun _↦Ω (nil? p544.snd) fun _↦Ω (E cx (Key.loop 205 [true,true,true,false,false]) [vi (ω ı (Int.add a528 1)),AV.arr 0 1 0 n526,vi a528,vi (ω ı (Int.sub b529 1))] [Ob.mk OK.arr 26 1 1 (List.set (List.set data527 (Nat.add 0 (τ a528)) [vu n533]) (Nat.add 0 (τ pivot530)) [vu n537])]) fun r547↦Ω (asJump r547) fun j548↦bif JX.is j548.fst (JX.exit 0) then Ω (uncons? j548.snd.fst) fun p549↦Ω (AV.int? ı p549.fst) fun n550↦Ω (nil? p549.snd) fun _↦Ω (uncons? j548.snd.snd) fun p552↦Ω (obIs (Ob.mk OK.arr 26 1 1 (List.set (List.set data527 (Nat.add 0 (τ a528)) [vu n533]) (Nat.add 0 (τ pivot530)) [vu n537])) p552.fst) fun _↦Ω (chk p552.fst.ver 1) fun _↦Ω (nil? p552.snd) fun _↦Ω (E cx (Key.loop 205 [true,true,true,true,false,false]) [vi (ω ı (Int.sub b529 1)),AV.arr 0 1 0 n526,vi a528,vi n550] [Ob.mk OK.arr 26 1 1 p552.fst.es]) fun r556↦Ω (asJump r556) fun j557↦bif JX.is j557.fst (JX.exit 2) then Ω (uncons? j557.snd.fst) fun p558↦Ω (AV.int? ı p558.fst) fun n559↦Ω (nil? p558.snd) fun _↦Ω (uncons? j557.snd.snd) fun p561↦Ω (obIs (Ob.mk OK.arr 26 1 1 p552.fst.es) p561.fst) fun _↦Ω (chk p561.fst.ver 1) fun _↦Ω (nil? p561.snd) fun _↦bif decide (n550>n559) then if 0≤a528 then if a528<(n526:Int) then Ω (nth p561.fst.es (Nat.add 0 (τ a528))) fun cs565↦Ω (uncons? cs565) fun p566↦Ω (AV.int? υ p566.fst) fun n567↦Ω (nil? p566.snd) fun _↦if 0≤n559 then if n559<(n526:Int) then Ω (nth p561.fst.es (Nat.add 0 (τ n559))) fun cs569↦Ω (uncons? cs569) fun p570↦Ω (AV.int? υ p570.fst) fun n571↦Ω (nil? p570.snd) fun _↦if 0≤n559 then if n559<(n526:Int) then Ω (nth p561.fst.es (Nat.add 0 (τ n559))) fun cs573↦Ω (uncons? cs573) fun p574↦Ω (AV.int? υ p574.fst) fun _↦Ω (nil? p574.snd) fun _↦if 0≤a528 then if a528<(n526:Int) then Ω (nth (List.set p561.fst.es (Nat.add 0 (τ n559)) [vu n567]) (Nat.add 0 (τ a528))) fun cs577↦Ω (uncons? cs577) fun p578↦Ω (AV.int? υ p578.fst) fun _↦Ω (nil? p578.snd) fun _↦some (Out.ret (AV.tuple [vi n559,vbool true]),[Ob.mk OK.arr 26 1 1 (List.set (List.set p561.fst.es (Nat.add 0 (τ n559)) [vu n567]) (Nat.add 0 (τ a528)) [vu n571])]) else none else none else none else none else none else none else none else none else if 0≤n559 then if n559<(n526:Int) then Ω (nth p561.fst.es (Nat.add 0 (τ n559))) fun cs581↦Ω (uncons? cs581) fun p582↦Ω (AV.int? υ p582.fst) fun n583↦Ω (nil? p582.snd) fun _↦if 0≤n550 then if n550<(n526:Int) then Ω (nth p561.fst.es (Nat.add 0 (τ n550))) fun cs585↦Ω (uncons? cs585) fun p586↦Ω (AV.int? υ p586.fst) fun n587↦Ω (nil? p586.snd) fun _↦if 0≤n550 then if n550<(n526:Int) then Ω (nth p561.fst.es (Nat.add 0 (τ n550))) fun cs589↦Ω (uncons? cs589) fun p590↦Ω (AV.int? υ p590.fst) fun _↦Ω (nil? p590.snd) fun _↦if 0≤n559 then if n559<(n526:Int) then Ω (nth (List.set p561.fst.es (Nat.add 0 (τ n550)) [vu n583]) (Nat.add 0 (τ n559))) fun cs593↦Ω (uncons? cs593) fun p594↦Ω (AV.int? υ p594.fst) fun _↦Ω (nil? p594.snd) fun _↦Ω (E cx (Key.loop 205 [true,true,true,true,true,true,true,true,true,false,false]) [vi (ω ı (Int.add n550 1)),vi (ω ı (Int.sub n559 1)),AV.arr 0 1 0 n526,vi a528] [Ob.mk OK.arr 26 1 1 (List.set (List.set p561.fst.es (Nat.add 0 (τ n550)) [vu n583]) (Nat.add 0 (τ n559)) [vu n587])]) fun r597↦Ω (asJump r597) fun j598↦bif JX.is j598.fst (JX.exit 4) then Ω (uncons? j598.snd.fst) fun p599↦Ω (AV.int? ı p599.fst) fun _↦Ω (uncons? p599.snd) fun p601↦Ω (AV.int? ı p601.fst) fun n602↦Ω (nil? p601.snd) fun _↦Ω (uncons? j598.snd.snd) fun p604↦Ω (obIs (Ob.mk OK.arr 26 1 1 (List.set (List.set p561.fst.es (Nat.add 0 (τ n550)) [vu n583]) (Nat.add 0 (τ n559)) [vu n587])) p604.fst) fun _↦Ω (chk p604.fst.ver 1) fun _↦Ω (nil? p604.snd) fun _↦if 0≤a528 then if a528<(n526:Int) then Ω (nth p604.fst.es (Nat.add 0 (τ a528))) fun cs608↦Ω (uncons? cs608) fun p609↦Ω (AV.int? υ p609.fst) fun n610↦Ω (nil? p609.snd) fun _↦if 0≤n602 then if n602<(n526:Int) then Ω (nth p604.fst.es (Nat.add 0 (τ n602))) fun cs612↦Ω (uncons? cs612) fun p613↦Ω (AV.int? υ p613.fst) fun n614↦Ω (nil? p613.snd) fun _↦if 0≤n602 then if n602<(n526:Int) then Ω (nth p604.fst.es (Nat.add 0 (τ n602))) fun cs616↦Ω (uncons? cs616) fun p617↦Ω (AV.int? υ p617.fst) fun _↦Ω (nil? p617.snd) fun _↦if 0≤a528 then if a528<(n526:Int) then Ω (nth (List.set p604.fst.es (Nat.add 0 (τ n602)) [vu n610]) (Nat.add 0 (τ a528))) fun cs620↦Ω (uncons? cs620) fun p621↦Ω (AV.int? υ p621.fst) fun _↦Ω (nil? p621.snd) fun _↦some (Out.ret (AV.tuple [vi n602,vbool false]),[Ob.mk OK.arr 26 1 1 (List.set (List.set p604.fst.es (Nat.add 0 (τ n602)) [vu n610]) (Nat.add 0 (τ a528)) [vu n614])]) else none else none else none else none else none else none else none else none else none else none else none else none else none else none else none else none else none else none else none else none else none else none else none else none else none else none else none:=by
 intros
 exact(E_in [188,142] _ _ _).trans (by kernel_rfl)
theorem f205_l0:∀(x624:Int) (n625:Nat) (x626 x627:Int) (l628:List (List AV)),E cx (Key.loop 205 [true,true,true,false,false]) [vi x624,AV.arr 0 1 0 n625,vi x626,vi x627] [Ob.mk OK.arr 26 1 1 l628]=bif decide (x624≤x627) then if 0≤x624 then if x624<(n625:Int) then Ω (nth l628 (Nat.add 0 (τ x624))) fun cs629↦Ω (uncons? cs629) fun p630↦Ω (AV.int? υ p630.fst) fun n631↦Ω (nil? p630.snd) fun _↦if 0≤x626 then if x626<(n625:Int) then Ω (nth l628 (Nat.add 0 (τ x626))) fun cs633↦Ω (uncons? cs633) fun p634↦Ω (AV.int? υ p634.fst) fun n635↦Ω (nil? p634.snd) fun _↦Ω (E cx (Key.fn 203) [vu n631,vu n635] []) fun r637↦Ω (ret1 r637) fun v638↦Ω (AV.bool? v638) fun b639↦bif b639 then E cx (Key.loop 205 [true,true,true,false,false]) [vi (ω ı (Int.add x624 1)),AV.arr 0 1 0 n625,vi x626,vi x627] [Ob.mk OK.arr 26 1 1 l628] else some (Out.jump (JX.exit 0) [vi x624],[Ob.mk OK.arr 26 1 1 l628]) else none else none else none else none else some (Out.jump (JX.exit 0) [vi x624],[Ob.mk OK.arr 26 1 1 l628]):=by
 intros
 exact(E_in [188,142] _ _ _).trans (by kernel_rfl)
theorem f205_l1:∀(x640:Int) (n641:Nat) (x642 x643:Int) (l644:List (List AV)),E cx (Key.loop 205 [true,true,true,true,false,false]) [vi x640,AV.arr 0 1 0 n641,vi x642,vi x643] [Ob.mk OK.arr 26 1 1 l644]=bif decide (x643≤x640) then if 0≤x640 then if x640<(n641:Int) then Ω (nth l644 (Nat.add 0 (τ x640))) fun cs645↦Ω (uncons? cs645) fun p646↦Ω (AV.int? υ p646.fst) fun n647↦Ω (nil? p646.snd) fun _↦if 0≤x642 then if x642<(n641:Int) then Ω (nth l644 (Nat.add 0 (τ x642))) fun cs649↦Ω (uncons? cs649) fun p650↦Ω (AV.int? υ p650.fst) fun n651↦Ω (nil? p650.snd) fun _↦Ω (E cx (Key.fn 203) [vu n647,vu n651] []) fun r653↦Ω (ret1 r653) fun v654↦Ω (AV.bool? v654) fun b655↦bif b655 then some (Out.jump (JX.exit 2) [vi x640],[Ob.mk OK.arr 26 1 1 l644]) else E cx (Key.loop 205 [true,true,true,true,false,false]) [vi (ω ı (Int.sub x640 1)),AV.arr 0 1 0 n641,vi x642,vi x643] [Ob.mk OK.arr 26 1 1 l644] else none else none else none else none else some (Out.jump (JX.exit 2) [vi x640],[Ob.mk OK.arr 26 1 1 l644]):=by
 intros
 exact(E_in [188,142] _ _ _).trans (by kernel_rfl)
theorem f205_l2:∀(x656 x657:Int) (n658:Nat) (x659:Int) (l660:List (List AV)),E cx (Key.loop 205 [true,true,true,true,true,true,true,true,true,false,false]) [vi x656,vi x657,AV.arr 0 1 0 n658,vi x659] [Ob.mk OK.arr 26 1 1 l660]=Ω (E cx (Key.loop 205 [true,true,true,true,true,true,true,true,true,false,false,false,false,false,false]) [vi x656,AV.arr 0 1 0 n658,vi x659,vi x657] [Ob.mk OK.arr 26 1 1 l660]) fun r661↦Ω (asJump r661) fun j662↦bif JX.is j662.fst (JX.exit 6) then Ω (uncons? j662.snd.fst) fun p663↦Ω (AV.int? ı p663.fst) fun n664↦Ω (nil? p663.snd) fun _↦Ω (uncons? j662.snd.snd) fun p666↦Ω (obIs (Ob.mk OK.arr 26 1 1 l660) p666.fst) fun _↦Ω (chk p666.fst.ver 1) fun _↦Ω (nil? p666.snd) fun _↦Ω (E cx (Key.loop 205 [true,true,true,true,true,true,true,true,true,false,false,false,false,true,false,false]) [vi x657,AV.arr 0 1 0 n658,vi x659,vi n664] [Ob.mk OK.arr 26 1 1 p666.fst.es]) fun r670↦Ω (asJump r670) fun j671↦bif JX.is j671.fst (JX.exit 8) then Ω (uncons? j671.snd.fst) fun p672↦Ω (AV.int? ı p672.fst) fun n673↦Ω (nil? p672.snd) fun _↦Ω (uncons? j671.snd.snd) fun p675↦Ω (obIs (Ob.mk OK.arr 26 1 1 p666.fst.es) p675.fst) fun _↦Ω (chk p675.fst.ver 1) fun _↦Ω (nil? p675.snd) fun _↦bif decide (n664>n673) then some (Out.jump (JX.exit 4) [vi n664,vi n673],[Ob.mk OK.arr 26 1 1 p675.fst.es]) else if 0≤n673 then if n673<(n658:Int) then Ω (nth p675.fst.es (Nat.add 0 (τ n673))) fun cs679↦Ω (uncons? cs679) fun p680↦Ω (AV.int? υ p680.fst) fun n681↦Ω (nil? p680.snd) fun _↦if 0≤n664 then if n664<(n658:Int) then Ω (nth p675.fst.es (Nat.add 0 (τ n664))) fun cs683↦Ω (uncons? cs683) fun p684↦Ω (AV.int? υ p684.fst) fun n685↦Ω (nil? p684.snd) fun _↦if 0≤n664 then if n664<(n658:Int) then Ω (nth p675.fst.es (Nat.add 0 (τ n664))) fun cs687↦Ω (uncons? cs687) fun p688↦Ω (AV.int? υ p688.fst) fun _↦Ω (nil? p688.snd) fun _↦if 0≤n673 then if n673<(n658:Int) then Ω (nth (List.set p675.fst.es (Nat.add 0 (τ n664)) [vu n681]) (Nat.add 0 (τ n673))) fun cs691↦Ω (uncons? cs691) fun p692↦Ω (AV.int? υ p692.fst) fun _↦Ω (nil? p692.snd) fun _↦E cx (Key.loop 205 [true,true,true,true,true,true,true,true,true,false,false]) [vi (ω ı (Int.add n664 1)),vi (ω ı (Int.sub n673 1)),AV.arr 0 1 0 n658,vi x659] [Ob.mk OK.arr 26 1 1 (List.set (List.set p675.fst.es (Nat.add 0 (τ n664)) [vu n681]) (Nat.add 0 (τ n673)) [vu n685])] else none else none else none else none else none else none else none else none else none else none:=by
 intros
 exact(E_in [188,142] _ _ _).trans (by kernel_rfl)
theorem f205_l2_l3:∀(x695:Int) (n696:Nat) (x697 x698:Int) (l699:List (List AV)),E cx (Key.loop 205 [true,true,true,true,true,true,true,true,true,false,false,false,false,false,false]) [vi x695,AV.arr 0 1 0 n696,vi x697,vi x698] [Ob.mk OK.arr 26 1 1 l699]=bif decide (x695≤x698) then if 0≤x695 then if x695<(n696:Int) then Ω (nth l699 (Nat.add 0 (τ x695))) fun cs700↦Ω (uncons? cs700) fun p701↦Ω (AV.int? υ p701.fst) fun n702↦Ω (nil? p701.snd) fun _↦if 0≤x697 then if x697<(n696:Int) then Ω (nth l699 (Nat.add 0 (τ x697))) fun cs704↦Ω (uncons? cs704) fun p705↦Ω (AV.int? υ p705.fst) fun n706↦Ω (nil? p705.snd) fun _↦Ω (E cx (Key.fn 203) [vu n702,vu n706] []) fun r708↦Ω (ret1 r708) fun v709↦Ω (AV.bool? v709) fun b710↦bif b710 then E cx (Key.loop 205 [true,true,true,true,true,true,true,true,true,false,false,false,false,false,false]) [vi (ω ı (Int.add x695 1)),AV.arr 0 1 0 n696,vi x697,vi x698] [Ob.mk OK.arr 26 1 1 l699] else some (Out.jump (JX.exit 6) [vi x695],[Ob.mk OK.arr 26 1 1 l699]) else none else none else none else none else some (Out.jump (JX.exit 6) [vi x695],[Ob.mk OK.arr 26 1 1 l699]):=by
 intros
 exact(E_in [188,142] _ _ _).trans (by kernel_rfl)
theorem f205_l2_l4:∀(x711:Int) (n712:Nat) (x713 x714:Int) (l715:List (List AV)),E cx (Key.loop 205 [true,true,true,true,true,true,true,true,true,false,false,false,false,true,false,false]) [vi x711,AV.arr 0 1 0 n712,vi x713,vi x714] [Ob.mk OK.arr 26 1 1 l715]=bif decide (x714≤x711) then if 0≤x711 then if x711<(n712:Int) then Ω (nth l715 (Nat.add 0 (τ x711))) fun cs716↦Ω (uncons? cs716) fun p717↦Ω (AV.int? υ p717.fst) fun n718↦Ω (nil? p717.snd) fun _↦if 0≤x713 then if x713<(n712:Int) then Ω (nth l715 (Nat.add 0 (τ x713))) fun cs720↦Ω (uncons? cs720) fun p721↦Ω (AV.int? υ p721.fst) fun n722↦Ω (nil? p721.snd) fun _↦Ω (E cx (Key.fn 203) [vu n718,vu n722] []) fun r724↦Ω (ret1 r724) fun v725↦Ω (AV.bool? v725) fun b726↦bif b726 then some (Out.jump (JX.exit 8) [vi x711],[Ob.mk OK.arr 26 1 1 l715]) else E cx (Key.loop 205 [true,true,true,true,true,true,true,true,true,false,false,false,false,true,false,false]) [vi (ω ı (Int.sub x711 1)),AV.arr 0 1 0 n712,vi x713,vi x714] [Ob.mk OK.arr 26 1 1 l715] else none else none else none else none else some (Out.jump (JX.exit 8) [vi x711],[Ob.mk OK.arr 26 1 1 l715]):=by
 intros
 exact(E_in [188,142] _ _ _).trans (by kernel_rfl)
noncomputable def q208_0:JX×List AV×Heap→List (List AV)→Option (Out×Heap) :=
 fun j733 data728 ↦
 Ω (uncons? j733.snd.fst) fun p734 ↦
 Ω (AV.int? ı p734.fst) fun _ ↦
 Ω (nil? p734.snd) fun _ ↦
 Ω (uncons? j733.snd.snd) fun p737 ↦
 Ω (obIs (Ob.mk OK.arr 26 1 1 data728) p737.fst) fun _ ↦
 Ω (chk p737.fst.ver 1) fun _ ↦
 Ω (nil? p737.snd) fun _ ↦
 some (Out.ret (AV.tuple []),[Ob.mk OK.arr 26 1 1 p737.fst.es])
theorem f208:∀(n727:Nat) (data728:List (List AV)) (lo729 hi730 first731:Int),E cx (Key.own 208) [AV.arr 0 1 0 n727,vi lo729,vi hi730,vi first731] [Ob.mk OK.arr 26 1 1 data728]=Ω (E cx (Key.loop 208 [true,false]) [vi lo729,AV.arr 0 1 0 n727,vi hi730,vi first731] [Ob.mk OK.arr 26 1 1 data728]) fun r732↦Ω (asJump r732) fun j733↦bif JX.is j733.fst (JX.exit 0) then q208_0 j733 data728 else bif JX.is j733.fst JX.ret then q208_0 j733 data728 else none:=by
 intros
 exact(E_in [188,142] _ _ _).trans (by kernel_rfl)
noncomputable def q208_l0_0:Int→Int→Nat→List (List AV)→Int→Option (Out×Heap) :=
 fun x751 x748 n749 l752 x750 ↦
 if 0≤ω ı (Int.add x751 x748) then
 if ω ı (Int.add x751 x748)<(n749:Int) then
 Ω (nth l752 (Nat.add 0 (τ (ω ı (Int.add x751 x748))))) fun cs791 ↦
 Ω (uncons? cs791) fun p792 ↦
 Ω (AV.int? υ p792.fst) fun n793 ↦
 Ω (nil? p792.snd) fun _ ↦
 if
 0 ≤
 ω ı
 (Int.add x751 (ω ı (Int.add (ω ı (Int.mul 2 x748)) 1))) then
 if
 ω ı
 (Int.add x751 (ω ı (Int.add (ω ı (Int.mul 2 x748)) 1))) <
 (n749:Int) then
 Ω
 (nth l752
 (Nat.add 0
 (τ
 (ω ı
 (Int.add x751 (ω ı (Int.add (ω ı (Int.mul 2 x748)) 1)))))))
 fun cs795 ↦
 Ω (uncons? cs795) fun p796 ↦
 Ω (AV.int? υ p796.fst) fun n797 ↦
 Ω (nil? p796.snd) fun _ ↦
 Ω (E cx (Key.fn 203) [vu n793,vu n797] []) fun r799 ↦
 Ω (ret1 r799) fun v800 ↦
 Ω (AV.bool? v800) fun b801 ↦
 bif b801 then
 if
 0 ≤
 ω ı
 (Int.add x751 (ω ı (Int.add (ω ı (Int.mul 2 x748)) 1))) then
 if
 ω ı
 (Int.add x751 (ω ı (Int.add (ω ı (Int.mul 2 x748)) 1))) <
 (n749:Int) then
 Ω
 (nth l752
 (Nat.add 0
 (τ
 (ω ı
 (Int.add x751
 (ω ı (Int.add (ω ı (Int.mul 2 x748)) 1)))))))
 fun cs802 ↦
 Ω (uncons? cs802) fun p803 ↦
 Ω (AV.int? υ p803.fst) fun n804 ↦
 Ω (nil? p803.snd) fun _ ↦
 if 0≤ω ı (Int.add x751 x748) then
 if ω ı (Int.add x751 x748)<(n749:Int) then
 Ω
 (nth l752 (Nat.add 0 (τ (ω ı (Int.add x751 x748)))))
 fun cs806 ↦
 Ω (uncons? cs806) fun p807 ↦
 Ω (AV.int? υ p807.fst) fun n808 ↦
 Ω (nil? p807.snd) fun _ ↦
 if 0≤ω ı (Int.add x751 x748) then
 if ω ı (Int.add x751 x748)<(n749:Int) then
 Ω
 (nth l752
 (Nat.add 0 (τ (ω ı (Int.add x751 x748)))))
 fun cs810 ↦
 Ω (uncons? cs810) fun p811 ↦
 Ω (AV.int? υ p811.fst) fun _ ↦
 Ω (nil? p811.snd) fun _ ↦
 if
 0 ≤
 ω ı
 (Int.add x751
 (ω ı
 (Int.add (ω ı (Int.mul 2 x748)) 1))) then
 if
 ω ı
 (Int.add x751
 (ω ı
 (Int.add (ω ı (Int.mul 2 x748)) 1))) <
 (n749:Int) then
 Ω
 (nth
 (List.set l752
 (Nat.add 0 (τ (ω ı (Int.add x751 x748))))
 [vu n804])
 (Nat.add 0
 (τ
 (ω ı
 (Int.add x751
 (ω ı
 (Int.add (ω ı (Int.mul 2 x748)) 1)))))))
 fun cs814 ↦
 Ω (uncons? cs814) fun p815 ↦
 Ω (AV.int? υ p815.fst) fun _ ↦
 Ω (nil? p815.snd) fun _ ↦
 E cx (Key.loop 208 [true,false])
 [vi
 (ω ı
 (Int.add (ω ı (Int.mul 2 x748)) 1)),
 AV.arr 0 1 0 n749,vi x750,
 vi x751]
 [Ob.mk OK.arr 26 1 1
 (List.set
 (List.set l752
 (Nat.add 0
 (τ (ω ı (Int.add x751 x748))))
 [vu n804])
 (Nat.add 0
 (τ
 (ω ı
 (Int.add x751
 (ω ı
 (Int.add (ω ı (Int.mul 2 x748))
 1))))))
 [vu n808])]
 else none
 else none
 else none
 else none
 else none
 else none
 else none
 else none
 else
 some (Out.jump JX.ret [vi x748],[Ob.mk OK.arr 26 1 1 l752])
 else none
 else none
 else none
 else none
theorem f208_l0:∀(x748:Int) (n749:Nat) (x750 x751:Int) (l752:List (List AV)),E cx (Key.loop 208 [true,false]) [vi x748,AV.arr 0 1 0 n749,vi x750,vi x751] [Ob.mk OK.arr 26 1 1 l752]=bif decide (ω ı (Int.add (ω ı (Int.mul 2 x748)) 1)≥x750) then some (Out.jump (JX.exit 0) [vi x748],[Ob.mk OK.arr 26 1 1 l752]) else bif decide (ω ı (Int.add (ω ı (Int.add (ω ı (Int.mul 2 x748)) 1)) 1)<x750) then if 0≤ω ı (Int.add x751 (ω ı (Int.add (ω ı (Int.mul 2 x748)) 1))) then if ω ı (Int.add x751 (ω ı (Int.add (ω ı (Int.mul 2 x748)) 1)))<(n749:Int) then Ω (nth l752 (Nat.add 0 (τ (ω ı (Int.add x751 (ω ı (Int.add (ω ı (Int.mul 2 x748)) 1))))))) fun cs753↦Ω (uncons? cs753) fun p754↦Ω (AV.int? υ p754.fst) fun n755↦Ω (nil? p754.snd) fun _↦if 0≤ω ı (Int.add (ω ı (Int.add x751 (ω ı (Int.add (ω ı (Int.mul 2 x748)) 1)))) 1) then if ω ı (Int.add (ω ı (Int.add x751 (ω ı (Int.add (ω ı (Int.mul 2 x748)) 1)))) 1)<(n749:Int) then Ω (nth l752 (Nat.add 0 (τ (ω ı (Int.add (ω ı (Int.add x751 (ω ı (Int.add (ω ı (Int.mul 2 x748)) 1)))) 1))))) fun cs757↦Ω (uncons? cs757) fun p758↦Ω (AV.int? υ p758.fst) fun n759↦Ω (nil? p758.snd) fun _↦Ω (E cx (Key.fn 203) [vu n755,vu n759] []) fun r761↦Ω (ret1 r761) fun v762↦Ω (AV.bool? v762) fun b763↦bif b763 then if 0≤ω ı (Int.add x751 x748) then if ω ı (Int.add x751 x748)<(n749:Int) then Ω (nth l752 (Nat.add 0 (τ (ω ı (Int.add x751 x748))))) fun cs764↦Ω (uncons? cs764) fun p765↦Ω (AV.int? υ p765.fst) fun n766↦Ω (nil? p765.snd) fun _↦if 0≤ω ı (Int.add x751 (ω ı (Int.add (ω ı (Int.add (ω ı (Int.mul 2 x748)) 1)) 1))) then if ω ı (Int.add x751 (ω ı (Int.add (ω ı (Int.add (ω ı (Int.mul 2 x748)) 1)) 1)))<(n749:Int) then Ω (nth l752 (Nat.add 0 (τ (ω ı (Int.add x751 (ω ı (Int.add (ω ı (Int.add (ω ı (Int.mul 2 x748)) 1)) 1))))))) fun cs768↦Ω (uncons? cs768) fun p769↦Ω (AV.int? υ p769.fst) fun n770↦Ω (nil? p769.snd) fun _↦Ω (E cx (Key.fn 203) [vu n766,vu n770] []) fun r772↦Ω (ret1 r772) fun v773↦Ω (AV.bool? v773) fun b774↦bif b774 then if 0≤ω ı (Int.add x751 (ω ı (Int.add (ω ı (Int.add (ω ı (Int.mul 2 x748)) 1)) 1))) then if ω ı (Int.add x751 (ω ı (Int.add (ω ı (Int.add (ω ı (Int.mul 2 x748)) 1)) 1)))<(n749:Int) then Ω (nth l752 (Nat.add 0 (τ (ω ı (Int.add x751 (ω ı (Int.add (ω ı (Int.add (ω ı (Int.mul 2 x748)) 1)) 1))))))) fun cs775↦Ω (uncons? cs775) fun p776↦Ω (AV.int? υ p776.fst) fun n777↦Ω (nil? p776.snd) fun _↦if 0≤ω ı (Int.add x751 x748) then if ω ı (Int.add x751 x748)<(n749:Int) then Ω (nth l752 (Nat.add 0 (τ (ω ı (Int.add x751 x748))))) fun cs779↦Ω (uncons? cs779) fun p780↦Ω (AV.int? υ p780.fst) fun n781↦Ω (nil? p780.snd) fun _↦if 0≤ω ı (Int.add x751 x748) then if ω ı (Int.add x751 x748)<(n749:Int) then Ω (nth l752 (Nat.add 0 (τ (ω ı (Int.add x751 x748))))) fun cs783↦Ω (uncons? cs783) fun p784↦Ω (AV.int? υ p784.fst) fun _↦Ω (nil? p784.snd) fun _↦if 0≤ω ı (Int.add x751 (ω ı (Int.add (ω ı (Int.add (ω ı (Int.mul 2 x748)) 1)) 1))) then if ω ı (Int.add x751 (ω ı (Int.add (ω ı (Int.add (ω ı (Int.mul 2 x748)) 1)) 1)))<(n749:Int) then Ω (nth (List.set l752 (Nat.add 0 (τ (ω ı (Int.add x751 x748)))) [vu n777]) (Nat.add 0 (τ (ω ı (Int.add x751 (ω ı (Int.add (ω ı (Int.add (ω ı (Int.mul 2 x748)) 1)) 1))))))) fun cs787↦Ω (uncons? cs787) fun p788↦Ω (AV.int? υ p788.fst) fun _↦Ω (nil? p788.snd) fun _↦E cx (Key.loop 208 [true,false]) [vi (ω ı (Int.add (ω ı (Int.add (ω ı (Int.mul 2 x748)) 1)) 1)),AV.arr 0 1 0 n749,vi x750,vi x751] [Ob.mk OK.arr 26 1 1 (List.set (List.set l752 (Nat.add 0 (τ (ω ı (Int.add x751 x748)))) [vu n777]) (Nat.add 0 (τ (ω ı (Int.add x751 (ω ı (Int.add (ω ı (Int.add (ω ı (Int.mul 2 x748)) 1)) 1)))))) [vu n781])] else none else none else none else none else none else none else none else none else some (Out.jump JX.ret [vi x748],[Ob.mk OK.arr 26 1 1 l752]) else none else none else none else none else q208_l0_0 x751 x748 n749 l752 x750 else none else none else none else none else q208_l0_0 x751 x748 n749 l752 x750:=by
 intros
 exact(E_in [188,142] _ _ _).trans (by kernel_rfl)
theorem f210:∀(data860:List (List AV)) (a861 b862 c863 swaps864:Int),E cx (Key.own 210) [AV.list 0 1 data860,vi a861,vi b862,vi c863,AV.ptr 0 0 0 0] [Ob.mk OK.box 3 1 0 [[vi swaps864]]]=Ω (E cx (Key.own 211) [AV.list 0 1 data860,vi a861,vi b862,AV.ptr 0 0 0 0] [Ob.mk OK.box 3 1 0 [[vi swaps864]]]) fun r865↦Ω (asRet r865) fun x866↦Ω (AV.tup? x866.fst) fun vs867↦Ω (uncons? vs867) fun p868↦Ω (AV.int? ı p868.fst) fun n869↦Ω (uncons? p868.snd) fun p870↦Ω (AV.int? ı p870.fst) fun n871↦Ω (nil? p870.snd) fun _↦Ω (uncons? x866.snd) fun p873↦Ω (obIs (Ob.mk OK.box 3 1 0 [[vi swaps864]]) p873.fst) fun _↦Ω (chk p873.fst.ver 0) fun _↦Ω (uncons? p873.fst.es) fun p876↦Ω (nil? p876.snd) fun _↦Ω (uncons? p876.fst) fun p878↦Ω (AV.int? ı p878.fst) fun n879↦Ω (nil? p878.snd) fun _↦Ω (nil? p873.snd) fun _↦Ω (E cx (Key.own 211) [AV.list 0 1 data860,vi n871,vi c863,AV.ptr 0 0 0 0] [Ob.mk OK.box 3 1 0 [[vi n879]]]) fun r882↦Ω (asRet r882) fun x883↦Ω (AV.tup? x883.fst) fun vs884↦Ω (uncons? vs884) fun p885↦Ω (AV.int? ı p885.fst) fun n886↦Ω (uncons? p885.snd) fun p887↦Ω (AV.int? ı p887.fst) fun _↦Ω (nil? p887.snd) fun _↦Ω (uncons? x883.snd) fun p890↦Ω (obIs (Ob.mk OK.box 3 1 0 [[vi n879]]) p890.fst) fun _↦Ω (chk p890.fst.ver 0) fun _↦Ω (uncons? p890.fst.es) fun p893↦Ω (nil? p893.snd) fun _↦Ω (uncons? p893.fst) fun p895↦Ω (AV.int? ı p895.fst) fun n896↦Ω (nil? p895.snd) fun _↦Ω (nil? p890.snd) fun _↦Ω (E cx (Key.own 211) [AV.list 0 1 data860,vi n869,vi n886,AV.ptr 0 0 0 0] [Ob.mk OK.box 3 1 0 [[vi n896]]]) fun r899↦Ω (asRet r899) fun x900↦Ω (AV.tup? x900.fst) fun vs901↦Ω (uncons? vs901) fun p902↦Ω (AV.int? ı p902.fst) fun _↦Ω (uncons? p902.snd) fun p904↦Ω (AV.int? ı p904.fst) fun n905↦Ω (nil? p904.snd) fun _↦Ω (uncons? x900.snd) fun p907↦Ω (obIs (Ob.mk OK.box 3 1 0 [[vi n896]]) p907.fst) fun _↦Ω (chk p907.fst.ver 0) fun _↦Ω (uncons? p907.fst.es) fun p910↦Ω (nil? p910.snd) fun _↦Ω (uncons? p910.fst) fun p912↦Ω (AV.int? ı p912.fst) fun n913↦Ω (nil? p912.snd) fun _↦Ω (nil? p907.snd) fun _↦some (Out.ret (vi n905),[Ob.mk OK.box 3 1 0 [[vi n913]]]):=by
 intros
 exact(E_in [188,142] _ _ _).trans (by kernel_rfl)
theorem f211:∀(data916:List (List AV)) (a917 b918 swaps919:Int),E cx (Key.own 211) [AV.list 0 1 data916,vi a917,vi b918,AV.ptr 0 0 0 0] [Ob.mk OK.box 3 1 0 [[vi swaps919]]]=if 0≤b918 then Ω data916[τ b918]? fun cs920↦Ω (uncons? cs920) fun p921↦Ω (AV.int? υ p921.fst) fun n922↦Ω (nil? p921.snd) fun _↦if 0≤a917 then Ω data916[τ a917]? fun cs924↦Ω (uncons? cs924) fun p925↦Ω (AV.int? υ p925.fst) fun n926↦Ω (nil? p925.snd) fun _↦Ω (E cx (Key.fn 203) [vu n922,vu n926] []) fun r928↦Ω (ret1 r928) fun v929↦Ω (AV.bool? v929) fun b930↦bif b930 then some (Out.ret (AV.tuple [vi b918,vi a917]),[Ob.mk OK.box 3 1 0 [[vi (ω ı (Int.add swaps919 1))]]]) else some (Out.ret (AV.tuple [vi a917,vi b918]),[Ob.mk OK.box 3 1 0 [[vi swaps919]]]) else none else none:=by
 intros
 exact(E_in [188,142] _ _ _).trans (by kernel_rfl)
theorem f191:∀(r931:Int),E cx (Key.own 191) [AV.ptr 0 0 0 0] [Ob.mk OK.box 222 1 0 [[vu r931]]]=some (Out.ret (vu (ixor υ (ixor υ (ixor υ r931 (ishl υ r931 13)) (ishr υ (ixor υ r931 (ishl υ r931 13)) 7)) (ishl υ (ixor υ (ixor υ r931 (ishl υ r931 13)) (ishr υ (ixor υ r931 (ishl υ r931 13)) 7)) 17))),[Ob.mk OK.box 222 1 0 [[vu (ixor υ (ixor υ (ixor υ r931 (ishl υ r931 13)) (ishr υ (ixor υ r931 (ishl υ r931 13)) 7)) (ishl υ (ixor υ (ixor υ r931 (ishl υ r931 13)) (ishr υ (ixor υ r931 (ishl υ r931 13)) 7)) 17))]]]):=by
 intros
 exact(E_in [188,142] _ _ _).trans (by kernel_rfl)
theorem f187:∀(n0:Nat) (data1:List (List AV)) (a2 b3 limit4:Int),E cx (Key.own 187) [AV.arr 0 1 0 n0,vi a2,vi b3,vi limit4] [Ob.mk OK.arr 26 1 1 data1]=Ω (E cx (Key.loop 187 [true,true,false]) [vi a2,vi b3,vi limit4,vbool true,vbool true,AV.arr 0 1 0 n0] [Ob.mk OK.arr 26 1 1 data1]) fun r5↦Ω (asJump r5) fun j6↦bif JX.is j6.fst JX.ret then Ω (uncons? j6.snd.fst) fun p7↦Ω (AV.int? ı p7.fst) fun _↦Ω (uncons? p7.snd) fun p9↦Ω (AV.int? ı p9.fst) fun _↦Ω (uncons? p9.snd) fun p11↦Ω (AV.int? ı p11.fst) fun _↦Ω (uncons? p11.snd) fun p13↦Ω (AV.bool? p13.fst) fun _↦Ω (uncons? p13.snd) fun p15↦Ω (AV.bool? p15.fst) fun _↦Ω (nil? p15.snd) fun _↦Ω (uncons? j6.snd.snd) fun p18↦Ω (obIs (Ob.mk OK.arr 26 1 1 data1) p18.fst) fun _↦Ω (chk p18.fst.ver 1) fun _↦Ω (nil? p18.snd) fun _↦some (Out.ret (AV.tuple []),[Ob.mk OK.arr 26 1 1 p18.fst.es]) else none:=by
 intros
 exact(E_in [188,142] _ _ _).trans (by kernel_rfl)
noncomputable def q187_l0_0:Int→Int→Int→Nat→Int→Ob×List Ob→Bool→Option (Out×Heap) :=
 fun n92 x22 x23 n27 x24 p96 b94 ↦
 bif
 decide
 (ω ı (Int.sub n92 x22)≥ω ı (Int.tdiv (ω ı (Int.sub x23 x22)) 8)) then
 Ω
 (E cx (Key.own 187)
 [AV.arr 0 1 0 n27,vi x22,vi n92,vi (ω ı (Int.sub x24 1))]
 [Ob.mk OK.arr 26 1 1 p96.fst.es])
 fun r100 ↦
 Ω (asRet r100) fun x101 ↦
 Ω (AV.tup? x101.fst) fun vs102 ↦
 Ω (nil? vs102) fun _ ↦
 Ω (uncons? x101.snd) fun p104 ↦
 Ω (obIs (Ob.mk OK.arr 26 1 1 []) p104.fst) fun _ ↦
 Ω (chk p104.fst.ver 1) fun _ ↦
 Ω (nil? p104.snd) fun _ ↦
 E cx (Key.loop 187 [true,true,false])
 [vi (ω ı (Int.add n92 1)),vi x23,
 vi (ω ı (Int.sub x24 1)),vbool true,vbool b94,
 AV.arr 0 1 0 n27]
 [Ob.mk OK.arr 26 1 1 p104.fst.es]
 else
 Ω
 (E cx (Key.own 187)
 [AV.arr 0 1 0 n27,vi x22,vi n92,vi (ω ı (Int.sub x24 1))]
 [Ob.mk OK.arr 26 1 1 p96.fst.es])
 fun r108 ↦
 Ω (asRet r108) fun x109 ↦
 Ω (AV.tup? x109.fst) fun vs110 ↦
 Ω (nil? vs110) fun _ ↦
 Ω (uncons? x109.snd) fun p112 ↦
 Ω (obIs (Ob.mk OK.arr 26 1 1 []) p112.fst) fun _ ↦
 Ω (chk p112.fst.ver 1) fun _ ↦
 Ω (nil? p112.snd) fun _ ↦
 E cx (Key.loop 187 [true,true,false])
 [vi (ω ı (Int.add n92 1)),vi x23,
 vi (ω ı (Int.sub x24 1)),vbool false,vbool b94,
 AV.arr 0 1 0 n27]
 [Ob.mk OK.arr 26 1 1 p112.fst.es]
noncomputable def q187_l0_1:Int→Int→Int→Nat→Int→Ob×List Ob→Bool→Option (Out×Heap) :=
 fun x23 n92 x22 n27 x24 p96 b94 ↦
 bif
 decide
 (ω ı (Int.sub x23 n92)≥ω ı (Int.tdiv (ω ı (Int.sub x23 x22)) 8)) then
 Ω
 (E cx (Key.own 187)
 [AV.arr 0 1 0 n27,vi (ω ı (Int.add n92 1)),vi x23,
 vi (ω ı (Int.sub x24 1))]
 [Ob.mk OK.arr 26 1 1 p96.fst.es])
 fun r116 ↦
 Ω (asRet r116) fun x117 ↦
 Ω (AV.tup? x117.fst) fun vs118 ↦
 Ω (nil? vs118) fun _ ↦
 Ω (uncons? x117.snd) fun p120 ↦
 Ω (obIs (Ob.mk OK.arr 26 1 1 []) p120.fst) fun _ ↦
 Ω (chk p120.fst.ver 1) fun _ ↦
 Ω (nil? p120.snd) fun _ ↦
 E cx (Key.loop 187 [true,true,false])
 [vi x22,vi n92,vi (ω ı (Int.sub x24 1)),vbool true,
 vbool b94,AV.arr 0 1 0 n27]
 [Ob.mk OK.arr 26 1 1 p120.fst.es]
 else
 Ω
 (E cx (Key.own 187)
 [AV.arr 0 1 0 n27,vi (ω ı (Int.add n92 1)),vi x23,
 vi (ω ı (Int.sub x24 1))]
 [Ob.mk OK.arr 26 1 1 p96.fst.es])
 fun r124 ↦
 Ω (asRet r124) fun x125 ↦
 Ω (AV.tup? x125.fst) fun vs126 ↦
 Ω (nil? vs126) fun _ ↦
 Ω (uncons? x125.snd) fun p128 ↦
 Ω (obIs (Ob.mk OK.arr 26 1 1 []) p128.fst) fun _ ↦
 Ω (chk p128.fst.ver 1) fun _ ↦
 Ω (nil? p128.snd) fun _ ↦
 E cx (Key.loop 187 [true,true,false])
 [vi x22,vi n92,vi (ω ı (Int.sub x24 1)),vbool false,
 vbool b94,AV.arr 0 1 0 n27]
 [Ob.mk OK.arr 26 1 1 p128.fst.es]
noncomputable def q187_l0_2:Nat→Int→Int→Int→Ob×List Ob→Int→Option (Out×Heap) :=
 fun n27 x22 x23 n58 p73 x24 ↦
 Ω
 (E cx (Key.own 205)
 [AV.arr 0 1 0 n27,vi x22,vi x23,
 vi
 (ω ı (Int.sub (ω ı (Int.sub x23 1)) (ω ı (Int.sub n58 x22))))]
 [Ob.mk OK.arr 26 1 1 p73.fst.es])
 fun r88 ↦
 Ω (asRet r88) fun x89 ↦
 Ω (AV.tup? x89.fst) fun vs90 ↦
 Ω (uncons? vs90) fun p91 ↦
 Ω (AV.int? ı p91.fst) fun n92 ↦
 Ω (uncons? p91.snd) fun p93 ↦
 Ω (AV.bool? p93.fst) fun b94 ↦
 Ω (nil? p93.snd) fun _ ↦
 Ω (uncons? x89.snd) fun p96 ↦
 Ω (obIs (Ob.mk OK.arr 26 1 1 []) p96.fst) fun _ ↦
 Ω (chk p96.fst.ver 1) fun _ ↦
 Ω (nil? p96.snd) fun _ ↦
 bif decide (ω ı (Int.sub n92 x22)<ω ı (Int.sub x23 n92)) then
 q187_l0_0 n92 x22 x23 n27 x24 p96 b94
 else q187_l0_1 x23 n92 x22 n27 x24 p96 b94
noncomputable def q187_l0_3:Int→Nat→Ob×List Ob→Int→Int→Int→Bool→Bool→Option (Out×Heap) :=
 fun x22 n27 p73 x23 n58 x24 b25 b26 ↦
 bif decide (x22>0) then
 if 0≤ω ı (Int.sub x22 1) then
 if ω ı (Int.sub x22 1)<(n27:Int) then
 Ω (nth p73.fst.es (Nat.add 0 (τ (ω ı (Int.sub x22 1))))) fun cs77 ↦
 Ω (uncons? cs77) fun p78 ↦
 Ω (AV.int? υ p78.fst) fun n79 ↦
 Ω (nil? p78.snd) fun _ ↦
 if
 0 ≤
 ω ı
 (Int.sub (ω ı (Int.sub x23 1)) (ω ı (Int.sub n58 x22))) then
 if
 ω ı
 (Int.sub (ω ı (Int.sub x23 1)) (ω ı (Int.sub n58 x22))) <
 (n27:Int) then
 Ω
 (nth p73.fst.es
 (Nat.add 0
 (τ
 (ω ı
 (Int.sub (ω ı (Int.sub x23 1)) (ω ı (Int.sub n58 x22)))))))
 fun cs81 ↦
 Ω (uncons? cs81) fun p82 ↦
 Ω (AV.int? υ p82.fst) fun n83 ↦
 Ω (nil? p82.snd) fun _ ↦
 Ω (E cx (Key.fn 203) [vu n79,vu n83] []) fun r85 ↦
 Ω (ret1 r85) fun v86 ↦
 Ω (AV.bool? v86) fun b87 ↦
 bif b87 then q187_l0_2 n27 x22 x23 n58 p73 x24
 else
 Ω
 (E cx (Key.own 204)
 [AV.arr 0 1 0 n27,vi x22,vi x23,
 vi
 (ω ı
 (Int.sub (ω ı (Int.sub x23 1)) (ω ı (Int.sub n58 x22))))]
 [Ob.mk OK.arr 26 1 1 p73.fst.es])
 fun r132 ↦
 Ω (asRet r132) fun x133 ↦
 Ω (AV.int? ı x133.fst) fun n134 ↦
 Ω (uncons? x133.snd) fun p135 ↦
 Ω (obIs (Ob.mk OK.arr 26 1 1 []) p135.fst) fun _ ↦
 Ω (chk p135.fst.ver 1) fun _ ↦
 Ω (nil? p135.snd) fun _ ↦
 E cx (Key.loop 187 [true,true,false])
 [vi n134,vi x23,
 vi (ω ı (Int.sub x24 1)),vbool b25,
 vbool b26,AV.arr 0 1 0 n27]
 [Ob.mk OK.arr 26 1 1 p135.fst.es]
 else none
 else none
 else none
 else none
 else q187_l0_2 n27 x22 x23 n58 p73 x24
noncomputable def q187_l0_4:Bool→Int→Nat→Ob×List Ob→Int→Int→Int→Bool→Option (Out×Heap) :=
 fun b26 x22 n27 p66 x23 n58 x24 b25↦bif b26 then none else q187_l0_3 x22 n27 p66 x23 n58 x24 b25 b26
noncomputable def q187_l0_5:Nat→Int→Int→Int→Ob×List Ob→Int→Option (Out×Heap) :=
 fun n27 x22 x23 n58 p716 x24 ↦
 Ω
 (E cx (Key.own 205) [AV.arr 0 1 0 n27,vi x22,vi x23,vi n58]
 [Ob.mk OK.arr 26 1 1 p716.fst.es])
 fun r731 ↦
 Ω (asRet r731) fun x732 ↦
 Ω (AV.tup? x732.fst) fun vs733 ↦
 Ω (uncons? vs733) fun p734 ↦
 Ω (AV.int? ı p734.fst) fun n735 ↦
 Ω (uncons? p734.snd) fun p736 ↦
 Ω (AV.bool? p736.fst) fun b737 ↦
 Ω (nil? p736.snd) fun _ ↦
 Ω (uncons? x732.snd) fun p739 ↦
 Ω (obIs (Ob.mk OK.arr 26 1 1 []) p739.fst) fun _ ↦
 Ω (chk p739.fst.ver 1) fun _ ↦
 Ω (nil? p739.snd) fun _ ↦
 bif decide (ω ı (Int.sub n735 x22)<ω ı (Int.sub x23 n735)) then
 q187_l0_0 n735 x22 x23 n27 x24 p739 b737
 else q187_l0_1 x23 n735 x22 n27 x24 p739 b737
noncomputable def q187_l0_6:Int→Nat→Ob×List Ob→Int→Int→Int→Bool→Bool→Option (Out×Heap) :=
 fun x22 n27 p716 n58 x23 x24 b25 b26 ↦
 bif decide (x22>0) then
 if 0≤ω ı (Int.sub x22 1) then
 if ω ı (Int.sub x22 1)<(n27:Int) then
 Ω (nth p716.fst.es (Nat.add 0 (τ (ω ı (Int.sub x22 1))))) fun cs720 ↦
 Ω (uncons? cs720) fun p721 ↦
 Ω (AV.int? υ p721.fst) fun n722 ↦
 Ω (nil? p721.snd) fun _ ↦
 if 0≤n58 then
 if n58<(n27:Int) then
 Ω (nth p716.fst.es (Nat.add 0 (τ n58))) fun cs724 ↦
 Ω (uncons? cs724) fun p725 ↦
 Ω (AV.int? υ p725.fst) fun n726 ↦
 Ω (nil? p725.snd) fun _ ↦
 Ω (E cx (Key.fn 203) [vu n722,vu n726] []) fun r728 ↦
 Ω (ret1 r728) fun v729 ↦
 Ω (AV.bool? v729) fun b730 ↦
 bif b730 then q187_l0_5 n27 x22 x23 n58 p716 x24
 else
 Ω
 (E cx (Key.own 204)
 [AV.arr 0 1 0 n27,vi x22,vi x23,vi n58]
 [Ob.mk OK.arr 26 1 1 p716.fst.es])
 fun r775 ↦
 Ω (asRet r775) fun x776 ↦
 Ω (AV.int? ı x776.fst) fun n777 ↦
 Ω (uncons? x776.snd) fun p778 ↦
 Ω (obIs (Ob.mk OK.arr 26 1 1 []) p778.fst) fun _ ↦
 Ω (chk p778.fst.ver 1) fun _ ↦
 Ω (nil? p778.snd) fun _ ↦
 E cx (Key.loop 187 [true,true,false])
 [vi n777,vi x23,
 vi (ω ı (Int.sub x24 1)),vbool b25,
 vbool b26,AV.arr 0 1 0 n27]
 [Ob.mk OK.arr 26 1 1 p778.fst.es]
 else none
 else none
 else none
 else none
 else q187_l0_5 n27 x22 x23 n58 p716 x24
noncomputable def q187_l0_7:Bool→Int→Nat→Ob×List Ob→Int→Int→Int→Bool→Option (Out×Heap) :=
 fun b26 x22 n27 p49 n58 x23 x24 b25↦bif b26 then none else q187_l0_6 x22 n27 p49 n58 x23 x24 b25 b26
noncomputable def q187_l0_8:Int→Int→Int→Nat→Int→Ob×List Ob→Bool→Option (Out×Heap) :=
 fun n1607 x22 x23 n27 x24 p1611 b1609 ↦
 bif
 decide
 (ω ı (Int.sub n1607 x22) ≥
 ω ı (Int.tdiv (ω ı (Int.sub x23 x22)) 8)) then
 Ω
 (E cx (Key.own 187)
 [AV.arr 0 1 0 n27,vi x22,vi n1607,vi x24]
 [Ob.mk OK.arr 26 1 1 p1611.fst.es])
 fun r1615 ↦
 Ω (asRet r1615) fun x1616 ↦
 Ω (AV.tup? x1616.fst) fun vs1617 ↦
 Ω (nil? vs1617) fun _ ↦
 Ω (uncons? x1616.snd) fun p1619 ↦
 Ω (obIs (Ob.mk OK.arr 26 1 1 []) p1619.fst) fun _ ↦
 Ω (chk p1619.fst.ver 1) fun _ ↦
 Ω (nil? p1619.snd) fun _ ↦
 E cx (Key.loop 187 [true,true,false])
 [vi (ω ı (Int.add n1607 1)),vi x23,vi x24,vbool true,
 vbool b1609,AV.arr 0 1 0 n27]
 [Ob.mk OK.arr 26 1 1 p1619.fst.es]
 else
 Ω
 (E cx (Key.own 187)
 [AV.arr 0 1 0 n27,vi x22,vi n1607,vi x24]
 [Ob.mk OK.arr 26 1 1 p1611.fst.es])
 fun r1623 ↦
 Ω (asRet r1623) fun x1624 ↦
 Ω (AV.tup? x1624.fst) fun vs1625 ↦
 Ω (nil? vs1625) fun _ ↦
 Ω (uncons? x1624.snd) fun p1627 ↦
 Ω (obIs (Ob.mk OK.arr 26 1 1 []) p1627.fst) fun _ ↦
 Ω (chk p1627.fst.ver 1) fun _ ↦
 Ω (nil? p1627.snd) fun _ ↦
 E cx (Key.loop 187 [true,true,false])
 [vi (ω ı (Int.add n1607 1)),vi x23,vi x24,vbool false,
 vbool b1609,AV.arr 0 1 0 n27]
 [Ob.mk OK.arr 26 1 1 p1627.fst.es]
noncomputable def q187_l0_9:Int→Int→Int→Nat→Int→Ob×List Ob→Bool→Option (Out×Heap) :=
 fun x23 n1607 x22 n27 x24 p1611 b1609 ↦
 bif
 decide
 (ω ı (Int.sub x23 n1607) ≥
 ω ı (Int.tdiv (ω ı (Int.sub x23 x22)) 8)) then
 Ω
 (E cx (Key.own 187)
 [AV.arr 0 1 0 n27,vi (ω ı (Int.add n1607 1)),vi x23,vi x24]
 [Ob.mk OK.arr 26 1 1 p1611.fst.es])
 fun r1631 ↦
 Ω (asRet r1631) fun x1632 ↦
 Ω (AV.tup? x1632.fst) fun vs1633 ↦
 Ω (nil? vs1633) fun _ ↦
 Ω (uncons? x1632.snd) fun p1635 ↦
 Ω (obIs (Ob.mk OK.arr 26 1 1 []) p1635.fst) fun _ ↦
 Ω (chk p1635.fst.ver 1) fun _ ↦
 Ω (nil? p1635.snd) fun _ ↦
 E cx (Key.loop 187 [true,true,false])
 [vi x22,vi n1607,vi x24,vbool true,vbool b1609,
 AV.arr 0 1 0 n27]
 [Ob.mk OK.arr 26 1 1 p1635.fst.es]
 else
 Ω
 (E cx (Key.own 187)
 [AV.arr 0 1 0 n27,vi (ω ı (Int.add n1607 1)),vi x23,vi x24]
 [Ob.mk OK.arr 26 1 1 p1611.fst.es])
 fun r1639 ↦
 Ω (asRet r1639) fun x1640 ↦
 Ω (AV.tup? x1640.fst) fun vs1641 ↦
 Ω (nil? vs1641) fun _ ↦
 Ω (uncons? x1640.snd) fun p1643 ↦
 Ω (obIs (Ob.mk OK.arr 26 1 1 []) p1643.fst) fun _ ↦
 Ω (chk p1643.fst.ver 1) fun _ ↦
 Ω (nil? p1643.snd) fun _ ↦
 E cx (Key.loop 187 [true,true,false])
 [vi x22,vi n1607,vi x24,vbool false,vbool b1609,
 AV.arr 0 1 0 n27]
 [Ob.mk OK.arr 26 1 1 p1643.fst.es]
noncomputable def q187_l0_10:Nat→Int→Int→Int→Ob×List Ob→Int→Option (Out×Heap) :=
 fun n27 x22 x23 n1573 p1588 x24 ↦
 Ω
 (E cx (Key.own 205)
 [AV.arr 0 1 0 n27,vi x22,vi x23,
 vi
 (ω ı (Int.sub (ω ı (Int.sub x23 1)) (ω ı (Int.sub n1573 x22))))]
 [Ob.mk OK.arr 26 1 1 p1588.fst.es])
 fun r1603 ↦
 Ω (asRet r1603) fun x1604 ↦
 Ω (AV.tup? x1604.fst) fun vs1605 ↦
 Ω (uncons? vs1605) fun p1606 ↦
 Ω (AV.int? ı p1606.fst) fun n1607 ↦
 Ω (uncons? p1606.snd) fun p1608 ↦
 Ω (AV.bool? p1608.fst) fun b1609 ↦
 Ω (nil? p1608.snd) fun _ ↦
 Ω (uncons? x1604.snd) fun p1611 ↦
 Ω (obIs (Ob.mk OK.arr 26 1 1 []) p1611.fst) fun _ ↦
 Ω (chk p1611.fst.ver 1) fun _ ↦
 Ω (nil? p1611.snd) fun _ ↦
 bif decide (ω ı (Int.sub n1607 x22)<ω ı (Int.sub x23 n1607)) then
 q187_l0_8 n1607 x22 x23 n27 x24 p1611 b1609
 else q187_l0_9 x23 n1607 x22 n27 x24 p1611 b1609
noncomputable def q187_l0_11:Int→Nat→Ob×List Ob→Int→Int→Int→Bool→Bool→Option (Out×Heap) :=
 fun x22 n27 p1588 x23 n1573 x24 b25 b26 ↦
 bif decide (x22>0) then
 if 0≤ω ı (Int.sub x22 1) then
 if ω ı (Int.sub x22 1)<(n27:Int) then
 Ω (nth p1588.fst.es (Nat.add 0 (τ (ω ı (Int.sub x22 1))))) fun cs1592 ↦
 Ω (uncons? cs1592) fun p1593 ↦
 Ω (AV.int? υ p1593.fst) fun n1594 ↦
 Ω (nil? p1593.snd) fun _ ↦
 if
 0 ≤
 ω ı
 (Int.sub (ω ı (Int.sub x23 1)) (ω ı (Int.sub n1573 x22))) then
 if
 ω ı
 (Int.sub (ω ı (Int.sub x23 1)) (ω ı (Int.sub n1573 x22))) <
 (n27:Int) then
 Ω
 (nth p1588.fst.es
 (Nat.add 0
 (τ
 (ω ı
 (Int.sub (ω ı (Int.sub x23 1)) (ω ı (Int.sub n1573 x22)))))))
 fun cs1596 ↦
 Ω (uncons? cs1596) fun p1597 ↦
 Ω (AV.int? υ p1597.fst) fun n1598 ↦
 Ω (nil? p1597.snd) fun _ ↦
 Ω (E cx (Key.fn 203) [vu n1594,vu n1598] []) fun r1600 ↦
 Ω (ret1 r1600) fun v1601 ↦
 Ω (AV.bool? v1601) fun b1602 ↦
 bif b1602 then q187_l0_10 n27 x22 x23 n1573 p1588 x24
 else
 Ω
 (E cx (Key.own 204)
 [AV.arr 0 1 0 n27,vi x22,vi x23,
 vi
 (ω ı
 (Int.sub (ω ı (Int.sub x23 1)) (ω ı (Int.sub n1573 x22))))]
 [Ob.mk OK.arr 26 1 1 p1588.fst.es])
 fun r1647 ↦
 Ω (asRet r1647) fun x1648 ↦
 Ω (AV.int? ı x1648.fst) fun n1649 ↦
 Ω (uncons? x1648.snd) fun p1650 ↦
 Ω (obIs (Ob.mk OK.arr 26 1 1 []) p1650.fst) fun _ ↦
 Ω (chk p1650.fst.ver 1) fun _ ↦
 Ω (nil? p1650.snd) fun _ ↦
 E cx (Key.loop 187 [true,true,false])
 [vi n1649,vi x23,vi x24,vbool b25,
 vbool b26,AV.arr 0 1 0 n27]
 [Ob.mk OK.arr 26 1 1 p1650.fst.es]
 else none
 else none
 else none
 else none
 else q187_l0_10 n27 x22 x23 n1573 p1588 x24
noncomputable def q187_l0_12:Bool→Int→Nat→Ob×List Ob→Int→Int→Int→Bool→Option (Out×Heap) :=
 fun b26 x22 n27 p1581 x23 n1573 x24 b25↦bif b26 then none else q187_l0_11 x22 n27 p1581 x23 n1573 x24 b25 b26
noncomputable def q187_l0_13:Nat→Int→Int→Int→Ob×List Ob→Int→Option (Out×Heap) :=
 fun n27 x22 x23 n1573 p2231 x24 ↦
 Ω
 (E cx (Key.own 205) [AV.arr 0 1 0 n27,vi x22,vi x23,vi n1573]
 [Ob.mk OK.arr 26 1 1 p2231.fst.es])
 fun r2246 ↦
 Ω (asRet r2246) fun x2247 ↦
 Ω (AV.tup? x2247.fst) fun vs2248 ↦
 Ω (uncons? vs2248) fun p2249 ↦
 Ω (AV.int? ı p2249.fst) fun n2250 ↦
 Ω (uncons? p2249.snd) fun p2251 ↦
 Ω (AV.bool? p2251.fst) fun b2252 ↦
 Ω (nil? p2251.snd) fun _ ↦
 Ω (uncons? x2247.snd) fun p2254 ↦
 Ω (obIs (Ob.mk OK.arr 26 1 1 []) p2254.fst) fun _ ↦
 Ω (chk p2254.fst.ver 1) fun _ ↦
 Ω (nil? p2254.snd) fun _ ↦
 bif decide (ω ı (Int.sub n2250 x22)<ω ı (Int.sub x23 n2250)) then
 q187_l0_8 n2250 x22 x23 n27 x24 p2254 b2252
 else q187_l0_9 x23 n2250 x22 n27 x24 p2254 b2252
noncomputable def q187_l0_14:Nat→Int→Int→Int→List (List AV)→Int→Option (Out×Heap) :=
 fun n27 x22 x23 n1573 l28 x24 ↦
 Ω
 (E cx (Key.own 205) [AV.arr 0 1 0 n27,vi x22,vi x23,vi n1573]
 [Ob.mk OK.arr 26 1 1 l28])
 fun r2352 ↦
 Ω (asRet r2352) fun x2353 ↦
 Ω (AV.tup? x2353.fst) fun vs2354 ↦
 Ω (uncons? vs2354) fun p2355 ↦
 Ω (AV.int? ı p2355.fst) fun n2356 ↦
 Ω (uncons? p2355.snd) fun p2357 ↦
 Ω (AV.bool? p2357.fst) fun b2358 ↦
 Ω (nil? p2357.snd) fun _ ↦
 Ω (uncons? x2353.snd) fun p2360 ↦
 Ω (obIs (Ob.mk OK.arr 26 1 1 []) p2360.fst) fun _ ↦
 Ω (chk p2360.fst.ver 1) fun _ ↦
 Ω (nil? p2360.snd) fun _ ↦
 bif decide (ω ı (Int.sub n2356 x22)<ω ı (Int.sub x23 n2356)) then
 q187_l0_8 n2356 x22 x23 n27 x24 p2360 b2358
 else q187_l0_9 x23 n2356 x22 n27 x24 p2360 b2358
noncomputable def q187_l0_15:Int→Nat→List (List AV)→Int→Int→Int→Bool→Bool→Option (Out×Heap) :=
 fun x22 n27 l28 n1573 x23 x24 b25 b26 ↦
 bif decide (x22>0) then
 if 0≤ω ı (Int.sub x22 1) then
 if ω ı (Int.sub x22 1)<(n27:Int) then
 Ω (nth l28 (Nat.add 0 (τ (ω ı (Int.sub x22 1))))) fun cs2341 ↦
 Ω (uncons? cs2341) fun p2342 ↦
 Ω (AV.int? υ p2342.fst) fun n2343 ↦
 Ω (nil? p2342.snd) fun _ ↦
 if 0≤n1573 then
 if n1573<(n27:Int) then
 Ω (nth l28 (Nat.add 0 (τ n1573))) fun cs2345 ↦
 Ω (uncons? cs2345) fun p2346 ↦
 Ω (AV.int? υ p2346.fst) fun n2347 ↦
 Ω (nil? p2346.snd) fun _ ↦
 Ω (E cx (Key.fn 203) [vu n2343,vu n2347] []) fun r2349 ↦
 Ω (ret1 r2349) fun v2350 ↦
 Ω (AV.bool? v2350) fun b2351 ↦
 bif b2351 then q187_l0_14 n27 x22 x23 n1573 l28 x24
 else
 Ω
 (E cx (Key.own 204)
 [AV.arr 0 1 0 n27,vi x22,vi x23,vi n1573]
 [Ob.mk OK.arr 26 1 1 l28])
 fun r2396 ↦
 Ω (asRet r2396) fun x2397 ↦
 Ω (AV.int? ı x2397.fst) fun n2398 ↦
 Ω (uncons? x2397.snd) fun p2399 ↦
 Ω (obIs (Ob.mk OK.arr 26 1 1 []) p2399.fst) fun _ ↦
 Ω (chk p2399.fst.ver 1) fun _ ↦
 Ω (nil? p2399.snd) fun _ ↦
 E cx (Key.loop 187 [true,true,false])
 [vi n2398,vi x23,vi x24,vbool b25,
 vbool b26,AV.arr 0 1 0 n27]
 [Ob.mk OK.arr 26 1 1 p2399.fst.es]
 else none
 else none
 else none
 else none
 else q187_l0_14 n27 x22 x23 n1573 l28 x24
noncomputable def q187_l0_16:Bool→Int→Nat→List (List AV)→Int→Int→Int→Bool→Option (Out×Heap) :=
 fun b26 x22 n27 l28 n1573 x23 x24 b25↦bif b26 then none else q187_l0_15 x22 n27 l28 n1573 x23 x24 b25 b26
theorem f187_l0:∀(x22 x23 x24:Int) (b25 b26:Bool) (n27:Nat) (l28:List (List AV)),E cx (Key.loop 187 [true,true,false]) [vi x22,vi x23,vi x24,vbool b25,vbool b26,AV.arr 0 1 0 n27] [Ob.mk OK.arr 26 1 1 l28]=bif decide (ω ı (Int.sub x23 x22)≤12) then Ω (E cx (Key.own 197) [AV.arr 0 1 0 n27,vi x22,vi x23] [Ob.mk OK.arr 26 1 1 l28]) fun r29↦Ω (asRet r29) fun x30↦Ω (AV.tup? x30.fst) fun vs31↦Ω (nil? vs31) fun _↦Ω (uncons? x30.snd) fun p33↦Ω (obIs (Ob.mk OK.arr 26 1 1 []) p33.fst) fun _↦Ω (chk p33.fst.ver 1) fun _↦Ω (nil? p33.snd) fun _↦some (Out.jump JX.ret [vi x22,vi x23,vi x24,vbool b25,vbool b26],[Ob.mk OK.arr 26 1 1 p33.fst.es]) else bif decide (x24=0) then Ω (E cx (Key.own 198) [AV.arr 0 1 0 n27,vi x22,vi x23] [Ob.mk OK.arr 26 1 1 l28]) fun r37↦Ω (asRet r37) fun x38↦Ω (AV.tup? x38.fst) fun vs39↦Ω (nil? vs39) fun _↦Ω (uncons? x38.snd) fun p41↦Ω (obIs (Ob.mk OK.arr 26 1 1 []) p41.fst) fun _↦Ω (chk p41.fst.ver 1) fun _↦Ω (nil? p41.snd) fun _↦some (Out.jump JX.ret [vi x22,vi x23,vi x24,vbool b25,vbool b26],[Ob.mk OK.arr 26 1 1 p41.fst.es]) else bif !b25 then Ω (E cx (Key.own 199) [AV.arr 0 1 0 n27,vi x22,vi x23] [Ob.mk OK.arr 26 1 1 l28]) fun r45↦Ω (asRet r45) fun x46↦Ω (AV.tup? x46.fst) fun vs47↦Ω (nil? vs47) fun _↦Ω (uncons? x46.snd) fun p49↦Ω (obIs (Ob.mk OK.arr 26 1 1 []) p49.fst) fun _↦Ω (chk p49.fst.ver 1) fun _↦Ω (nil? p49.snd) fun _↦Ω (chkLe (Nat.add 0 n27) (ℓ p49.fst.es)) fun _↦Ω (E cx (Key.fn 200) [AV.list 0 1 (List.drop 0 (List.take (Nat.add 0 n27) p49.fst.es)),vi x22,vi x23] []) fun r54↦Ω (ret1 r54) fun v55↦Ω (AV.tup? v55) fun vs56↦Ω (uncons? vs56) fun p57↦Ω (AV.int? ı p57.fst) fun n58↦Ω (uncons? p57.snd) fun p59↦Ω (AV.int? ı p59.fst) fun n60↦Ω (nil? p59.snd) fun _↦bif decide (n60=2) then Ω (E cx (Key.own 201) [AV.arr 0 1 0 n27,vi x22,vi x23] [Ob.mk OK.arr 26 1 1 p49.fst.es]) fun r62↦Ω (asRet r62) fun x63↦Ω (AV.tup? x63.fst) fun vs64↦Ω (nil? vs64) fun _↦Ω (uncons? x63.snd) fun p66↦Ω (obIs (Ob.mk OK.arr 26 1 1 []) p66.fst) fun _↦Ω (chk p66.fst.ver 1) fun _↦Ω (nil? p66.snd) fun _↦bif decide (b25=true) then bif b25 then bif decide (b26=true) then bif decide (b26=true) then bif b26 then Ω (E cx (Key.own 202) [AV.arr 0 1 0 n27,vi x22,vi x23] [Ob.mk OK.arr 26 1 1 p66.fst.es]) fun r70↦Ω (asRet r70) fun x71↦Ω (AV.bool? x71.fst) fun b72↦Ω (uncons? x71.snd) fun p73↦Ω (obIs (Ob.mk OK.arr 26 1 1 []) p73.fst) fun _↦Ω (chk p73.fst.ver 1) fun _↦Ω (nil? p73.snd) fun _↦bif b72 then some (Out.jump JX.ret [vi x22,vi x23,vi (ω ı (Int.sub x24 1)),vbool b25,vbool b26],[Ob.mk OK.arr 26 1 1 p73.fst.es]) else q187_l0_3 x22 n27 p73 x23 n58 x24 b25 b26 else q187_l0_3 x22 n27 p66 x23 n58 x24 b25 b26 else q187_l0_4 b26 x22 n27 p66 x23 n58 x24 b25 else bif decide (b26=true) then none else q187_l0_4 b26 x22 n27 p66 x23 n58 x24 b25 else q187_l0_3 x22 n27 p66 x23 n58 x24 b25 b26 else bif b25 then none else q187_l0_3 x22 n27 p66 x23 n58 x24 b25 b26 else bif decide (b25=true) then bif b25 then bif decide (b26=true) then bif decide (b26=true) then bif decide (n60=1) then bif b26 then Ω (E cx (Key.own 202) [AV.arr 0 1 0 n27,vi x22,vi x23] [Ob.mk OK.arr 26 1 1 p49.fst.es]) fun r713↦Ω (asRet r713) fun x714↦Ω (AV.bool? x714.fst) fun b715↦Ω (uncons? x714.snd) fun p716↦Ω (obIs (Ob.mk OK.arr 26 1 1 []) p716.fst) fun _↦Ω (chk p716.fst.ver 1) fun _↦Ω (nil? p716.snd) fun _↦bif b715 then some (Out.jump JX.ret [vi x22,vi x23,vi (ω ı (Int.sub x24 1)),vbool b25,vbool b26],[Ob.mk OK.arr 26 1 1 p716.fst.es]) else q187_l0_6 x22 n27 p716 n58 x23 x24 b25 b26 else q187_l0_6 x22 n27 p49 n58 x23 x24 b25 b26 else bif b26 then q187_l0_6 x22 n27 p49 n58 x23 x24 b25 b26 else q187_l0_6 x22 n27 p49 n58 x23 x24 b25 b26 else q187_l0_7 b26 x22 n27 p49 n58 x23 x24 b25 else bif decide (b26=true) then none else q187_l0_7 b26 x22 n27 p49 n58 x23 x24 b25 else q187_l0_6 x22 n27 p49 n58 x23 x24 b25 b26 else bif b25 then none else q187_l0_6 x22 n27 p49 n58 x23 x24 b25 b26 else Ω (chkLe (Nat.add 0 n27) (ℓ l28)) fun _↦Ω (E cx (Key.fn 200) [AV.list 0 1 (List.drop 0 (List.take (Nat.add 0 n27) l28)),vi x22,vi x23] []) fun r1569↦Ω (ret1 r1569) fun v1570↦Ω (AV.tup? v1570) fun vs1571↦Ω (uncons? vs1571) fun p1572↦Ω (AV.int? ı p1572.fst) fun n1573↦Ω (uncons? p1572.snd) fun p1574↦Ω (AV.int? ı p1574.fst) fun n1575↦Ω (nil? p1574.snd) fun _↦bif decide (n1575=2) then Ω (E cx (Key.own 201) [AV.arr 0 1 0 n27,vi x22,vi x23] [Ob.mk OK.arr 26 1 1 l28]) fun r1577↦Ω (asRet r1577) fun x1578↦Ω (AV.tup? x1578.fst) fun vs1579↦Ω (nil? vs1579) fun _↦Ω (uncons? x1578.snd) fun p1581↦Ω (obIs (Ob.mk OK.arr 26 1 1 []) p1581.fst) fun _↦Ω (chk p1581.fst.ver 1) fun _↦Ω (nil? p1581.snd) fun _↦bif decide (b25=true) then bif b25 then bif decide (b26=true) then bif decide (b26=true) then bif b26 then Ω (E cx (Key.own 202) [AV.arr 0 1 0 n27,vi x22,vi x23] [Ob.mk OK.arr 26 1 1 p1581.fst.es]) fun r1585↦Ω (asRet r1585) fun x1586↦Ω (AV.bool? x1586.fst) fun b1587↦Ω (uncons? x1586.snd) fun p1588↦Ω (obIs (Ob.mk OK.arr 26 1 1 []) p1588.fst) fun _↦Ω (chk p1588.fst.ver 1) fun _↦Ω (nil? p1588.snd) fun _↦bif b1587 then some (Out.jump JX.ret [vi x22,vi x23,vi x24,vbool b25,vbool b26],[Ob.mk OK.arr 26 1 1 p1588.fst.es]) else q187_l0_11 x22 n27 p1588 x23 n1573 x24 b25 b26 else q187_l0_11 x22 n27 p1581 x23 n1573 x24 b25 b26 else q187_l0_12 b26 x22 n27 p1581 x23 n1573 x24 b25 else bif decide (b26=true) then none else q187_l0_12 b26 x22 n27 p1581 x23 n1573 x24 b25 else q187_l0_11 x22 n27 p1581 x23 n1573 x24 b25 b26 else bif b25 then none else q187_l0_11 x22 n27 p1581 x23 n1573 x24 b25 b26 else bif decide (b25=true) then bif b25 then bif decide (b26=true) then bif decide (b26=true) then bif decide (n1575=1) then bif b26 then Ω (E cx (Key.own 202) [AV.arr 0 1 0 n27,vi x22,vi x23] [Ob.mk OK.arr 26 1 1 l28]) fun r2228↦Ω (asRet r2228) fun x2229↦Ω (AV.bool? x2229.fst) fun b2230↦Ω (uncons? x2229.snd) fun p2231↦Ω (obIs (Ob.mk OK.arr 26 1 1 []) p2231.fst) fun _↦Ω (chk p2231.fst.ver 1) fun _↦Ω (nil? p2231.snd) fun _↦bif b2230 then some (Out.jump JX.ret [vi x22,vi x23,vi x24,vbool b25,vbool b26],[Ob.mk OK.arr 26 1 1 p2231.fst.es]) else bif decide (x22>0) then if 0≤ω ı (Int.sub x22 1) then if ω ı (Int.sub x22 1)<(n27:Int) then Ω (nth p2231.fst.es (Nat.add 0 (τ (ω ı (Int.sub x22 1))))) fun cs2235↦Ω (uncons? cs2235) fun p2236↦Ω (AV.int? υ p2236.fst) fun n2237↦Ω (nil? p2236.snd) fun _↦if 0≤n1573 then if n1573<(n27:Int) then Ω (nth p2231.fst.es (Nat.add 0 (τ n1573))) fun cs2239↦Ω (uncons? cs2239) fun p2240↦Ω (AV.int? υ p2240.fst) fun n2241↦Ω (nil? p2240.snd) fun _↦Ω (E cx (Key.fn 203) [vu n2237,vu n2241] []) fun r2243↦Ω (ret1 r2243) fun v2244↦Ω (AV.bool? v2244) fun b2245↦bif b2245 then q187_l0_13 n27 x22 x23 n1573 p2231 x24 else Ω (E cx (Key.own 204) [AV.arr 0 1 0 n27,vi x22,vi x23,vi n1573] [Ob.mk OK.arr 26 1 1 p2231.fst.es]) fun r2290↦Ω (asRet r2290) fun x2291↦Ω (AV.int? ı x2291.fst) fun n2292↦Ω (uncons? x2291.snd) fun p2293↦Ω (obIs (Ob.mk OK.arr 26 1 1 []) p2293.fst) fun _↦Ω (chk p2293.fst.ver 1) fun _↦Ω (nil? p2293.snd) fun _↦E cx (Key.loop 187 [true,true,false]) [vi n2292,vi x23,vi x24,vbool b25,vbool b26,AV.arr 0 1 0 n27] [Ob.mk OK.arr 26 1 1 p2293.fst.es] else none else none else none else none else q187_l0_13 n27 x22 x23 n1573 p2231 x24 else q187_l0_15 x22 n27 l28 n1573 x23 x24 b25 b26 else bif b26 then q187_l0_15 x22 n27 l28 n1573 x23 x24 b25 b26 else q187_l0_15 x22 n27 l28 n1573 x23 x24 b25 b26 else q187_l0_16 b26 x22 n27 l28 n1573 x23 x24 b25 else bif decide (b26=true) then none else q187_l0_16 b26 x22 n27 l28 n1573 x23 x24 b25 else q187_l0_15 x22 n27 l28 n1573 x23 x24 b25 b26 else bif b25 then none else q187_l0_15 x22 n27 l28 n1573 x23 x24 b25 b26:=by
 intros
 exact(E_in [188,142] _ _ _).trans (by kernel_rfl)
theorem f203:∀(x0 y1:Int),E cx (Key.fn 203) [vu x0,vu y1] []=Ω (E cx (Key.fn 165) [vu x0] []) fun r2↦Ω (ret1 r2) fun v3↦Ω (AV.bool? v3) fun b4↦bif b4 then Ω (E cx (Key.fn 165) [vu y1] []) fun r5↦Ω (ret1 r5) fun v6↦Ω (AV.bool? v6) fun b7↦bif b7 then bif decide (x0<y1) then some (Out.ret (vbool true),[]) else some (Out.ret (vbool false),[]) else some (Out.ret (vbool true),[]) else bif decide (x0<y1) then some (Out.ret (vbool true),[]) else some (Out.ret (vbool false),[]):=by
 intros
 exact(E_in [188,142] _ _ _).trans (by kernel_rfl)
theorem f190:∀(length8:Int),E cx (Key.fn 190) [vi length8] []=Ω (E cx (Key.fn 151) [vu (ω υ length8)] []) fun r9↦Ω (ret1 r9) fun v10↦Ω (AV.int? ı v10) fun n11↦if n11<0 then none else some (Out.ret (vu (ishl υ 1 n11)),[]):=by
 intros
 exact(E_in [188,142] _ _ _).trans (by kernel_rfl)
theorem f200:∀(data16:List (List AV)) (a17 b18:Int),E cx (Key.fn 200) [AV.list 0 1 data16,vi a17,vi b18] []=bif decide (ω ı (Int.sub b18 a17)≥8) then bif decide (ω ı (Int.sub b18 a17)≥50) then Ω (E cx (Key.own 209) [AV.list 0 1 data16,vi (ω ı (Int.add a17 (ω ı (Int.mul (ω ı (Int.tdiv (ω ı (Int.sub b18 a17)) 4)) 1)))),AV.ptr 0 0 0 0] [Ob.mk OK.box 3 1 0 [[vi 0]]]) fun r19↦Ω (asRet r19) fun x20↦Ω (AV.int? ı x20.fst) fun n21↦Ω (uncons? x20.snd) fun p22↦Ω (obIs (Ob.mk OK.box 3 1 0 [[vi 0]]) p22.fst) fun _↦Ω (chk p22.fst.ver 0) fun _↦Ω (uncons? p22.fst.es) fun p25↦Ω (nil? p25.snd) fun _↦Ω (uncons? p25.fst) fun p27↦Ω (AV.int? ı p27.fst) fun n28↦Ω (nil? p27.snd) fun _↦Ω (nil? p22.snd) fun _↦Ω (E cx (Key.own 209) [AV.list 0 1 data16,vi (ω ı (Int.add a17 (ω ı (Int.mul (ω ı (Int.tdiv (ω ı (Int.sub b18 a17)) 4)) 2)))),AV.ptr 0 0 0 0] [Ob.mk OK.box 3 1 0 [[vi n28]]]) fun r31↦Ω (asRet r31) fun x32↦Ω (AV.int? ı x32.fst) fun n33↦Ω (uncons? x32.snd) fun p34↦Ω (obIs (Ob.mk OK.box 3 1 0 [[vi n28]]) p34.fst) fun _↦Ω (chk p34.fst.ver 0) fun _↦Ω (uncons? p34.fst.es) fun p37↦Ω (nil? p37.snd) fun _↦Ω (uncons? p37.fst) fun p39↦Ω (AV.int? ı p39.fst) fun n40↦Ω (nil? p39.snd) fun _↦Ω (nil? p34.snd) fun _↦Ω (E cx (Key.own 209) [AV.list 0 1 data16,vi (ω ı (Int.add a17 (ω ı (Int.mul (ω ı (Int.tdiv (ω ı (Int.sub b18 a17)) 4)) 3)))),AV.ptr 0 0 0 0] [Ob.mk OK.box 3 1 0 [[vi n40]]]) fun r43↦Ω (asRet r43) fun x44↦Ω (AV.int? ı x44.fst) fun n45↦Ω (uncons? x44.snd) fun p46↦Ω (obIs (Ob.mk OK.box 3 1 0 [[vi n40]]) p46.fst) fun _↦Ω (chk p46.fst.ver 0) fun _↦Ω (uncons? p46.fst.es) fun p49↦Ω (nil? p49.snd) fun _↦Ω (uncons? p49.fst) fun p51↦Ω (AV.int? ı p51.fst) fun n52↦Ω (nil? p51.snd) fun _↦Ω (nil? p46.snd) fun _↦Ω (E cx (Key.own 210) [AV.list 0 1 data16,vi n21,vi n33,vi n45,AV.ptr 0 0 0 0] [Ob.mk OK.box 3 1 0 [[vi n52]]]) fun r55↦Ω (asRet r55) fun x56↦Ω (AV.int? ı x56.fst) fun n57↦Ω (uncons? x56.snd) fun p58↦Ω (obIs (Ob.mk OK.box 3 1 0 [[vi n52]]) p58.fst) fun _↦Ω (chk p58.fst.ver 0) fun _↦Ω (uncons? p58.fst.es) fun p61↦Ω (nil? p61.snd) fun _↦Ω (uncons? p61.fst) fun p63↦Ω (AV.int? ı p63.fst) fun n64↦Ω (nil? p63.snd) fun _↦Ω (nil? p58.snd) fun _↦bif decide (n64=0) then some (Out.ret (AV.tuple [vi n57,vi 1]),[]) else bif decide (n64=12) then some (Out.ret (AV.tuple [vi n57,vi 2]),[]) else some (Out.ret (AV.tuple [vi n57,vi 0]),[]) else Ω (E cx (Key.own 210) [AV.list 0 1 data16,vi (ω ı (Int.add a17 (ω ı (Int.mul (ω ı (Int.tdiv (ω ı (Int.sub b18 a17)) 4)) 1)))),vi (ω ı (Int.add a17 (ω ı (Int.mul (ω ı (Int.tdiv (ω ı (Int.sub b18 a17)) 4)) 2)))),vi (ω ı (Int.add a17 (ω ı (Int.mul (ω ı (Int.tdiv (ω ı (Int.sub b18 a17)) 4)) 3)))),AV.ptr 0 0 0 0] [Ob.mk OK.box 3 1 0 [[vi 0]]]) fun r67↦Ω (asRet r67) fun x68↦Ω (AV.int? ı x68.fst) fun n69↦Ω (uncons? x68.snd) fun p70↦Ω (obIs (Ob.mk OK.box 3 1 0 [[vi 0]]) p70.fst) fun _↦Ω (chk p70.fst.ver 0) fun _↦Ω (uncons? p70.fst.es) fun p73↦Ω (nil? p73.snd) fun _↦Ω (uncons? p73.fst) fun p75↦Ω (AV.int? ı p75.fst) fun n76↦Ω (nil? p75.snd) fun _↦Ω (nil? p70.snd) fun _↦bif decide (n76=0) then some (Out.ret (AV.tuple [vi n69,vi 1]),[]) else bif decide (n76=12) then some (Out.ret (AV.tuple [vi n69,vi 2]),[]) else some (Out.ret (AV.tuple [vi n69,vi 0]),[]) else some (Out.ret (AV.tuple [vi (ω ı (Int.add a17 (ω ı (Int.mul (ω ı (Int.tdiv (ω ı (Int.sub b18 a17)) 4)) 2)))),vi 1]),[]):=by
 intros
 exact(E_in [188,142] _ _ _).trans (by kernel_rfl)
end
section
section
variable {ρ:Type}{x:Option (Out×Heap)}
def ltN (x y:Nat):Bool:=decide (x<y)
abbrev rw' (d:Array Nat):List (List AV):=d.toList.map fun(k:Nat)=>[vu (k:Int)]
abbrev HA (d:Array Nat):Heap:=[Ob.mk OK.arr 26 1 1 (rw' d)]
theorem rw_get {d:Array Nat}{n:Nat}(h:n<d.size):(rw' d)[n]?=some [vu ((d[n]! :Nat):Int)]:=by
 simp [rw',h]
theorem nth_rw {d:Array Nat}{e:Int}{n:Nat}(he:e=n) (h:n<d.size):nth (rw' d) (Nat.add 0 e.toNat)=some [vu ((d[n]! :Nat):Int)]:=by
 have e2:Nat.add 0 e.toNat=n:=by show 0+e.toNat=n;omega
 rw [e2]
 exact(nth_eq _ _).trans (rw_get h)
theorem ld {e:Int}{n N:Nat}{d:Array Nat}(he:e=n) (hn:n<N) (hd:d.size=N) (k:Int→Option ρ) (j1 j2:Option ρ):(if 0≤e then(if e<(N:Int) then((nth (rw' d) (Nat.add 0 e.toNat)).bind fun cs=>(uncons? cs).bind fun p=>(AV.int? .u64 p.fst).bind fun x=>(nil? p.snd).bind fun _=>k x) else j1) else j2)=k ((d[n]! :Nat):Int):=by
 rw [if_pos (by omega),if_pos (by omega),nth_rw he (by omega)]
 rfl
theorem rw_set {d:Array Nat}{e:Int}{i:Nat}(h:e=i) (v:Nat):List.set (rw' d) (Nat.add 0 e.toNat) [vu (v:Int)]=rw' (d.setIfInBounds i v):=by
 have e2:Nat.add 0 e.toNat=i:=by show 0+e.toNat=i;omega
 rw [e2]
 simp [rw',List.map_set]
theorem goA1 {e:JX}{n:Int}{R Z:List (List AV)}(he:e.is e=true) (h:x=some (Out.jump e [vi n],[Ob.mk OK.arr 26 1 1 R])) (k:Int→Ob×List Ob→Option ρ) (j:Option ρ):(x.bind fun r=>(asJump r).bind fun q=>bif JX.is q.fst e then(uncons? q.snd.fst).bind fun p=>(AV.int? .i64 p.fst).bind fun n=>(nil? p.snd).bind fun _=>(uncons? q.snd.snd).bind fun u=>(obIs (Ob.mk OK.arr 26 1 1 Z) u.fst).bind fun _=>(chk u.fst.ver 1).bind fun _=>(nil? u.snd).bind fun _=>k n u else j)=k n (Ob.mk OK.arr 26 1 1 R,[]):=by
 rw [h]
 show(bif e.is e then _ else _)=_
 rw [he]
 rfl
theorem goA2 {e:JX}{n m:Int}{R Z:List (List AV)}(he:e.is e=true) (h:x=some (Out.jump e [vi n,vi m],[Ob.mk OK.arr 26 1 1 R])) (k:Int→Int→Ob×List Ob→Option ρ) (j:Option ρ):(x.bind fun r=>(asJump r).bind fun q=>bif JX.is q.fst e then(uncons? q.snd.fst).bind fun p=>(AV.int? .i64 p.fst).bind fun n=>(uncons? p.snd).bind fun p2=>(AV.int? .i64 p2.fst).bind fun m=>(nil? p2.snd).bind fun _=>(uncons? q.snd.snd).bind fun u=>(obIs (Ob.mk OK.arr 26 1 1 Z) u.fst).bind fun _=>(chk u.fst.ver 1).bind fun _=>(nil? u.snd).bind fun _=>k n m u else j)=k n m (Ob.mk OK.arr 26 1 1 R,[]):=by
 rw [h]
 show(bif e.is e then _ else _)=_
 rw [he]
 rfl
theorem goO {R Z:List (List AV)}(h:x=some (Out.ret (.tuple []),[Ob.mk OK.arr 26 1 1 R])) (k:Ob×List Ob→Option ρ):(x.bind fun r=>(asRet r).bind fun q=>(AV.tup? q.fst).bind fun vs=>(nil? vs).bind fun _=>(uncons? q.snd).bind fun p=>(obIs (Ob.mk OK.arr 26 1 1 Z) p.fst).bind fun _=>(chk p.fst.ver 1).bind fun _=>(nil? p.snd).bind fun _=>k p)=k (Ob.mk OK.arr 26 1 1 R,[]):=by
 rw [h];rfl
end
abbrev AR (N:Nat):AV := .arr 0 1 0 N
abbrev JR (e:JX) (vs:List AV) (d:Array Nat):Option (Out×Heap):=some (Out.jump e vs,HA d)
abbrev OR (d:Array Nat):Option (Out×Heap):=some (Out.ret (.tuple []),HA d)
theorem c203 (x y:Nat):E cx (.fn 203) [vu x,vu y] []=rb (ltN x y):=by
 refine(f203 _ _).trans ((goF (c165 _) _ _).trans ?_)
 unfold ltN
 by_cases h:x<y
 ·exact(goD (p:=(x:Int)<(y:Int)) (by omega) _ _).trans (by simp [h])
 ·exact(goDn (p:=(x:Int)<(y:Int)) (by omega) _ _).trans (by simp [h])
theorem insLoop {N:Nat}(hN:N≤1000000000000) {a:Nat}(b:Int) (i:Int):∀(j:Nat) (d:Array Nat),d.size=N→(j<N∨j≤a) →
  ∃j',E cx (.loop 197 [true,false,false,true,false,false,true,false]) [vi (j:Int),AR N,vi (a:Int),vi b,vi i] (HA d)=JR (.exit 2) [vi j'] (insInner ltN a j d)
 | 0,d,hd,hj=>⟨((0:Nat):Int),(f197_l0_l1 _ _ _ _ _ _).trans ((goDn (by simp) _ _).trans rfl)⟩
 |j+1,d,hd,hj=>by
  unfold insInner
  by_cases h1:j+1>a
  ·have hw:ω .i64 (Int.sub ((j+1:Nat):Int) 1)=(j:Int):=(wr_sub (b:=1) (by omega) (by omega)).trans (by omega)
   cases h2:ltN d[j+1]! d[j]! with
   |false =>
    refine⟨((j+1:Nat):Int),(f197_l0_l1 _ _ _ _ _ _).trans ((goD (by omega) _ _).trans ?_)⟩
    rw [hw]
    refine(ld rfl (show j+1<N by omega) hd _ _ _).trans ((ld rfl (show j<N by omega) hd _ _ _).trans ((goF ((c203 _ _).trans (by rw [h2])) _ _).trans ?_))
    simp [h1]
   |true =>
    obtain⟨j',ih⟩:=insLoop hN b i j (swp d (j+1) j) (by rw [Go.Sort.size_swp];exact hd) (by omega)
    refine⟨j',(f197_l0_l1 _ _ _ _ _ _).trans ((goD (by omega) _ _).trans ?_)⟩
    rw [hw]
    refine(ld rfl (show j+1<N by omega) hd _ _ _).trans ((ld rfl (show j<N by omega) hd _ _ _).trans ((goT ((c203 _ _).trans (by rw [h2])) _ _).trans ?_))
    refine(ld rfl (show j<N by omega) hd _ _ _).trans ((ld rfl (show j+1<N by omega) hd _ _ _).trans ((ld rfl (show j+1<N by omega) hd _ _ _).trans ?_))
    rw [rw_set rfl]
    refine(ld rfl (show j<N by omega) (by simpa using hd) _ _ _).trans ?_
    rw [rw_set rfl]
    simp only [h1,decide_true,Bool.and_self,if_true]
    exact ih
  ·refine⟨((j+1:Nat):Int),(f197_l0_l1 _ _ _ _ _ _).trans ((goDn (by omega) _ _).trans ?_)⟩
   simp [h1]
theorem sw4 {ρ:Type}{e1 e2:Int}{i j N:Nat}{d:Array Nat}(h1:e1=i) (h2:e2=j) (hi:i<N) (hj:j<N) (hd:d.size=N) (k:Int→Int→Option ρ):(if 0≤e2 then(if e2<(N:Int) then((nth (rw' d) (Nat.add 0 e2.toNat)).bind fun cs=>(uncons? cs).bind fun p=>(AV.int? .u64 p.fst).bind fun n=>(nil? p.snd).bind fun _=>if 0≤e1 then(if e1<(N:Int) then((nth (rw' d) (Nat.add 0 e1.toNat)).bind fun cs=>(uncons? cs).bind fun p=>(AV.int? .u64 p.fst).bind fun m=>(nil? p.snd).bind fun _=>if 0≤e1 then(if e1<(N:Int) then((nth (rw' d) (Nat.add 0 e1.toNat)).bind fun cs=>(uncons? cs).bind fun p=>(AV.int? .u64 p.fst).bind fun _=>(nil? p.snd).bind fun _=>if 0≤e2 then(if e2<(N:Int) then((nth (List.set (rw' d) (Nat.add 0 e1.toNat) [vu n]) (Nat.add 0 e2.toNat)).bind fun cs=>(uncons? cs).bind fun p=>(AV.int? .u64 p.fst).bind fun _=>(nil? p.snd).bind fun _=>k n m) else none) else none) else none) else none) else none) else none) else none) else none)=k ((d[j]! :Nat):Int) ((d[i]! :Nat):Int):=by
 refine(ld h2 hj hd _ _ _).trans ((ld h1 hi hd _ _ _).trans ((ld h1 hi hd _ _ _).trans ?_))
 rw [rw_set h1]
 exact ld h2 hj (by simpa using hd) _ _ _
theorem sw_size (d:Array Nat) (i j:Nat):(Sort.swp d i j).size=d.size:=Sort.size_swp d i j
theorem insInner_size (a:Nat):∀(j:Nat) (d:Array Nat),(insInner ltN a j d).size=d.size
 | 0,d=>rfl
 |j+1,d=>by
  unfold insInner
  split
  ·rw [insInner_size a j,sw_size]
  ·rfl
theorem insOut {N:Nat}(hN:N≤1000000000000) {a b:Nat}(hb:b≤N):∀(k i:Nat) (d:Array Nat),b-i=k→a≤i→i≤N→d.size=N→∃i',E cx (.loop 197 [true,false]) [vi (i:Int),AR N,vi (a:Int),vi (b:Int)] (HA d)=JR (.exit 0) [vi i'] (insOuter ltN a b i d):=by
 intro k
 induction k with
 |zero =>
  intro i d hk ha hi hd
  unfold insOuter
  rw [if_neg (by omega)]
  refine⟨(i:Int),(f197_l0 _ _ _ _ _).trans (goDn ?_ _ _)⟩
  omega
 |succ k ih =>
  intro i d hk ha hi hd
  unfold insOuter
  rw [if_pos (by omega)]
  obtain⟨j',h1⟩:=insLoop hN (a:=a) (b:Int) (i:Int) i d hd (by omega)
  obtain⟨i',h2⟩:=ih (i+1) (insInner ltN a i d) (by omega) (by omega) (by omega) (by rw [insInner_size];exact hd)
  refine⟨i',(f197_l0 _ _ _ _ _).trans ((goD (show(i:Int)<(b:Int) by omega) _ _).trans ((goA1 (e := .exit 2) rfl h1 _ _).trans ?_))⟩
  rw [show ω .i64 (Int.add (i:Int) 1)=((i+1:Nat):Int) from wr_add (b:=1) (by omega) (by omega)]
  exact h2
theorem c197 {N:Nat}(hN:N≤1000000000000) {a b:Nat}{d:Array Nat}(hd:d.size=N) (hab:a≤b) (hb:b≤N):E cx (.own 197) [AR N,vi (a:Int),vi (b:Int)] (HA d)=OR (insertionSort ltN d a b):=by
 refine(f197 _ _ _ _).trans ?_
 rw [show ω .i64 (Int.add (a:Int) 1)=((a+1:Nat):Int) from wr_add (b:=1) (by omega) (by omega)]
 by_cases h:a+1≤N
 ·obtain⟨i',h1⟩:=insOut hN (a:=a) hb _ (a+1) d rfl (by omega) h hd
  exact goA1 (e := .exit 0) rfl h1 _ _
 ·have e1:insertionSort ltN d a b=d:=by
   unfold insertionSort insOuter
   rw [if_neg (by omega)]
  rw [e1]
  exact goA1 (e := .exit 0) rfl ((f197_l0 _ _ _ _ _).trans (goDn (show ¬((a+1:Nat):Int)<(b:Int) by omega) _ _)) _ _
theorem siftLoop {N:Nat}(hN:N≤1000000000000) {hi F:Nat}(hF:F+hi≤N):∀(n root:Nat) (d:Array Nat),hi-root≤n→root≤N→d.size=N→∃e r,(e=JX.exit 0∨e=JX.ret)∧E cx (.loop 208 [true,false]) [vi (root:Int),AR N,vi (hi:Int),vi (F:Int)] (HA d)=JR e [vi r] (siftDown ltN hi F root d):=by
 intro n
 induction n with
 |zero =>
  intro root d hn hr hd
  unfold siftDown
  rw [dif_pos (by omega)]
  refine⟨JX.exit 0,(root:Int),.inl rfl,(f208_l0 _ _ _ _ _).trans (goD ?_ _ _)⟩
  rw [wr_mul (by omega) (by omega),wr_add (by omega) (by omega)]
  omega
 |succ n ih =>
  intro root d hn hr hd
  have w1:ω .i64 (Int.add (ω .i64 (Int.mul 2 (root:Int))) 1)=((2*root+1:Nat):Int):=by
   rw [wr_mul (by omega) (by omega),wr_add (by omega) (by omega)]
   omega
  have w2:ω .i64 (Int.add ((2*root+1:Nat):Int) 1)=((2*root+2:Nat):Int):=(wr_add (b:=1) (by omega) (by omega)).trans (by omega)
  unfold siftDown
  by_cases h1:2*root+1≥hi
  ·rw [dif_pos h1]
   refine⟨JX.exit 0,(root:Int),.inl rfl,(f208_l0 _ _ _ _ _).trans (goD ?_ _ _)⟩
   rw [w1]
   omega
  rw [dif_neg h1]
  have w3:ω .i64 (Int.add (F:Int) ((2*root+1:Nat):Int))=((F+(2*root+1):Nat):Int):=(wr_add (by omega) (by omega)).trans (by omega)
  have w4:ω .i64 (Int.add ((F+(2*root+1):Nat):Int) 1)=((F+(2*root+1)+1:Nat):Int):=(wr_add (b:=1) (by omega) (by omega)).trans (by omega)
  have w5:ω .i64 (Int.add (F:Int) (root:Int))=((F+root:Nat):Int):=(wr_add (by omega) (by omega)).trans (by omega)
  have w6:ω .i64 (Int.add (F:Int) ((2*root+2:Nat):Int))=((F+(2*root+2):Nat):Int):=(wr_add (by omega) (by omega)).trans (by omega)
  have tail:∃e r,(e=JX.exit 0∨e=JX.ret)∧q208_l0_0 (F:Int) (root:Int) N (rw' d) (hi:Int)=JR e [vi r] (if(!ltN d[F+root]! d[F+(2*root+1)]!)=true then d else siftDown ltN hi F (2*root+1) (swp d (F+root) (F+(2*root+1)))):=by
   cases h2:ltN d[F+root]! d[F+(2*root+1)]! with
   |false =>
    refine⟨JX.ret,(root:Int),.inr rfl,?_⟩
    unfold q208_l0_0
    rw [w1,w3,w5]
    refine(ld rfl (show F+root<N by omega) hd _ _ _).trans ((ld rfl (show F+(2*root+1)<N by omega) hd _ _ _).trans ((goF ((c203 _ _).trans (by rw [h2])) _ _).trans ?_))
    rfl
   |true =>
    obtain⟨e,r,h3,h4⟩:=ih (2*root+1) (swp d (F+root) (F+(2*root+1))) (by omega) (by omega) (by rw [sw_size];exact hd)
    refine⟨e,r,h3,?_⟩
    unfold q208_l0_0
    rw [w1,w3,w5]
    refine(ld rfl (show F+root<N by omega) hd _ _ _).trans ((ld rfl (show F+(2*root+1)<N by omega) hd _ _ _).trans ((goT ((c203 _ _).trans (by rw [h2])) _ _).trans ?_))
    refine(sw4 rfl rfl (show F+root<N by omega) (show F+(2*root+1)<N by omega) hd _).trans ?_
    rw [rw_set rfl,rw_set rfl]
    exact h4
  by_cases h5:2*root+1+1<hi
  ·cases h6:ltN d[F+(2*root+1)]! d[F+(2*root+1)+1]! with
   |false =>
    obtain⟨e,r,h3,h4⟩:=tail
    refine⟨e,r,h3,(f208_l0 _ _ _ _ _).trans ?_⟩
    rw [w1,w2,w3,w4,w5,w6]
    refine(goDn (by omega) _ _).trans ((goD (by omega) _ _).trans ((ld rfl (show F+(2*root+1)<N by omega) hd _ _ _).trans ((ld rfl (show F+(2*root+1)+1<N by omega) hd _ _ _).trans ((goF ((c203 _ _).trans (by rw [h6])) _ _).trans ?_))))
    simpa [h5] using h4
   |true =>
    cases h7:ltN d[F+root]! d[F+(2*root+2)]! with
    |false =>
     refine⟨JX.ret,(root:Int),.inr rfl,(f208_l0 _ _ _ _ _).trans ?_⟩
     rw [w1,w2,w3,w4,w5,w6]
     refine(goDn (by omega) _ _).trans ((goD (by omega) _ _).trans ((ld rfl (show F+(2*root+1)<N by omega) hd _ _ _).trans ((ld rfl (show F+(2*root+1)+1<N by omega) hd _ _ _).trans ((goT ((c203 _ _).trans (by rw [h6])) _ _).trans ?_))))
     refine(ld rfl (show F+root<N by omega) hd _ _ _).trans ((ld rfl (show F+(2*root+2)<N by omega) hd _ _ _).trans ((goF ((c203 _ _).trans (by rw [h7])) _ _).trans ?_))
     simp [h5]
    |true =>
     obtain⟨e,r,h3,h4⟩:=ih (2*root+2) (swp d (F+root) (F+(2*root+2))) (by omega) (by omega) (by rw [sw_size];exact hd)
     refine⟨e,r,h3,(f208_l0 _ _ _ _ _).trans ?_⟩
     rw [w1,w2,w3,w4,w5,w6]
     refine(goDn (by omega) _ _).trans ((goD (by omega) _ _).trans ((ld rfl (show F+(2*root+1)<N by omega) hd _ _ _).trans ((ld rfl (show F+(2*root+1)+1<N by omega) hd _ _ _).trans ((goT ((c203 _ _).trans (by rw [h6])) _ _).trans ?_))))
     refine(ld rfl (show F+root<N by omega) hd _ _ _).trans ((ld rfl (show F+(2*root+2)<N by omega) hd _ _ _).trans ((goT ((c203 _ _).trans (by rw [h7])) _ _).trans ?_))
     refine(sw4 rfl rfl (show F+root<N by omega) (show F+(2*root+2)<N by omega) hd _).trans ?_
     rw [rw_set rfl,rw_set rfl]
     have h8:2*root+2<hi:=h5
     simp only [h5,h8,decide_true,Bool.and_self,if_true,Bool.not_true,Bool.false_eq_true,if_false,dif_pos]
     exact h4
  ·obtain⟨e,r,h3,h4⟩:=tail
   refine⟨e,r,h3,(f208_l0 _ _ _ _ _).trans ?_⟩
   rw [w1,w2]
   refine(goDn (by omega) _ _).trans ((goDn (by omega) _ _).trans ?_)
   simpa [h5] using h4
theorem sift_size (hi F:Nat):∀(n root:Nat) (d:Array Nat),hi-root≤n→(siftDown ltN hi F root d).size=d.size:=by
 intro n
 induction n with
 |zero =>
  intro root d hn
  unfold siftDown
  rw [dif_pos (by omega)]
 |succ n ih =>
  intro root d hn
  unfold siftDown
  split
  ·rfl
  ·split
   ·split
    ·rfl
    ·split
     ·rw [ih _ _ (by omega),sw_size]
     ·rfl
   ·split
    ·rfl
    ·rw [ih _ _ (by omega),sw_size]
theorem c208 {N:Nat}(hN:N≤1000000000000) {hi F root:Nat}{d:Array Nat}(hF:F+hi≤N) (hr:root≤N) (hd:d.size=N):E cx (.own 208) [AR N,vi (root:Int),vi (hi:Int),vi (F:Int)] (HA d)=OR (siftDown ltN hi F root d):=by
 obtain⟨e,r,h1,h2⟩:=siftLoop hN hF _ root d (Nat.le_refl _) hr hd
 refine(f208 _ _ _ _ _).trans ?_
 rw [h2]
 rcases h1 with rfl |rfl<;>rfl
theorem build_size (hi F:Nat):∀(k:Nat) (d:Array Nat),(heapBuild ltN hi F k d).size=d.size
 | 0,d=>rfl
 |k+1,d=>by unfold heapBuild;rw [build_size hi F k,sift_size hi F _ _ _ (Nat.le_refl _)]
theorem heapL0 {N:Nat}(hN:N≤1000000000000) {hi F:Nat}(hF:F+hi≤N):∀(k:Nat) (d:Array Nat),k≤N→d.size=N →
  E cx (.loop 198 [true,true,true,false,true,false]) [vi ((k:Int)-1),AR N,vi (F:Int),vi 0,vi (hi:Int)] (HA d)=JR (.exit 0) [vi (-1)] (heapBuild ltN hi F k d)
 | 0,d,hk,hd=>(f198_l0 _ _ _ _ _ _).trans (goDn (show ¬((0:Nat):Int)-1≥0 by omega) _ _)
 |k+1,d,hk,hd=>by
  have h1:=c208 hN (root:=k) hF (by omega) hd
  have h2:=heapL0 hN hF k (siftDown ltN hi F k d) (by omega) (by rw [sift_size hi F _ _ _ (Nat.le_refl _)];exact hd)
  rw [show((k+1:Nat):Int)-1=(k:Int) by omega]
  refine(f198_l0 _ _ _ _ _ _).trans ((goD (show(k:Int)≥0 by omega) _ _).trans ((goO h1 _).trans ?_))
  rw [show ω .i64 (Int.sub (k:Int) 1)=(k:Int)-1 from wr_sub (by omega) (by omega)]
  exact h2
theorem heapL1 {N:Nat}(hN:N≤1000000000000) {F:Nat}:∀(k:Nat) (d:Array Nat),F+k≤N→d.size=N →
  E cx (.loop 198 [true,true,true,true,true,false]) [vi ((k:Int)-1),AR N,vi (F:Int),vi 0] (HA d)=JR (.exit 2) [vi (-1)] (heapPop ltN F k d)
 | 0,d,hk,hd=>(f198_l1 _ _ _ _ _).trans (goDn (show ¬((0:Nat):Int)-1≥0 by omega) _ _)
 |k+1,d,hk,hd=>by
  have h1:=c208 hN (root:=0) (hi:=k) (F:=F) (d:=swp d F (F+k)) (by omega) (by omega) (by rw [sw_size];exact hd)
  have h2:=heapL1 hN (F:=F) k (siftDown ltN k F 0 (swp d F (F+k))) (by omega) (by rw [sift_size k F _ _ _ (Nat.le_refl _),sw_size];exact hd)
  rw [show((k+1:Nat):Int)-1=(k:Int) by omega]
  refine(f198_l1 _ _ _ _ _).trans ((goD (show(k:Int)≥0 by omega) _ _).trans ?_)
  rw [show ω .i64 (Int.add (F:Int) (k:Int))=((F+k:Nat):Int) from(wr_add (by omega) (by omega)).trans (by omega)]
  refine(sw4 rfl rfl (show F<N by omega) (show F+k<N by omega) hd _).trans ?_
  rw [rw_set rfl,rw_set rfl]
  refine(goO h1 _).trans ?_
  rw [show ω .i64 (Int.sub (k:Int) 1)=(k:Int)-1 from wr_sub (by omega) (by omega)]
  exact h2
theorem c198 {N:Nat}(hN:N≤1000000000000) {a b:Nat}{d:Array Nat}(hd:d.size=N) (hab:a<b) (hb:b≤N):E cx (.own 198) [AR N,vi (a:Int),vi (b:Int)] (HA d)=OR (heapSort ltN d a b):=by
 have w1:ω .i64 (Int.sub (b:Int) (a:Int))=((b-a:Nat):Int):=(wr_sub (by omega) (by omega)).trans (by omega)
 have w2:ω .i64 (Int.sub ((b-a:Nat):Int) 1)=((b-a:Nat):Int)-1:=wr_sub (b:=1) (by omega) (by omega)
 have w3:ω .i64 (Int.tdiv (((b-a:Nat):Int)-1) 2)=(((b-a-1)/2+1:Nat):Int)-1:=by
  rw [show((b-a:Nat):Int)-1=((b-a-1:Nat):Int) by omega,show(2:Int)=((2:Nat):Int) from rfl,←Int.ofNat_tdiv,wr_id (by omega) (by omega)]
  omega
 refine(f198 _ _ _ _).trans ?_
 rw [w1,w2,w3]
 refine(goA1 (e := .exit 0) rfl (heapL0 hN (hi:=b-a) (F:=a) (by omega) _ d (by omega) hd) _ _).trans ?_
 exact goA1 (e := .exit 2) rfl (heapL1 hN (F:=a) (b-a) _ (by omega) (by rw [build_size];exact hd)) _ _
theorem rev_size:∀(n i j:Nat) (d:Array Nat),j-i≤n→(reverseLoop i j d).size=d.size:=by
 intro n
 induction n with
 |zero=>intro i j d h;unfold reverseLoop;rw [if_neg (by omega)]
 |succ n ih =>
  intro i j d h
  unfold reverseLoop
  split
  ·rw [ih _ _ _ (by omega),sw_size]
  ·rfl
theorem revL {N:Nat}(hN:N≤1000000000000):∀(n i j:Nat) (d:Array Nat),j-i≤n→i≤N→j<N→d.size=N→∃i' j',E cx (.loop 201 [true,true,false]) [vi (i:Int),vi (j:Int),AR N] (HA d)=JR (.exit 0) [vi i',vi j'] (reverseLoop i j d):=by
 intro n
 induction n with
 |zero =>
  intro i j d h hi hj hd
  unfold reverseLoop
  rw [if_neg (by omega)]
  exact⟨(i:Int),(j:Int),(f201_l0 _ _ _ _).trans (goDn (show ¬(i:Int)<(j:Int) by omega) _ _)⟩
 |succ n ih =>
  intro i j d h hi hj hd
  unfold reverseLoop
  by_cases h1:i<j
  ·rw [if_pos h1]
   obtain⟨i',j',h2⟩:=ih (i+1) (j-1) (swp d i j) (by omega) (by omega) (by omega) (by rw [sw_size];exact hd)
   refine⟨i',j',(f201_l0 _ _ _ _).trans ((goD (show(i:Int)<(j:Int) by omega) _ _).trans ((sw4 rfl rfl (show i<N by omega) (show j<N by omega) hd _).trans ?_))⟩
   rw [rw_set rfl,rw_set rfl,show ω .i64 (Int.add (i:Int) 1)=((i+1:Nat):Int) from wr_add (b:=1) (by omega) (by omega),show ω .i64 (Int.sub (j:Int) 1)=((j-1:Nat):Int) from(wr_sub (b:=1) (by omega) (by omega)).trans (by omega)]
   exact h2
  ·rw [if_neg h1]
   exact⟨(i:Int),(j:Int),(f201_l0 _ _ _ _).trans (goDn (show ¬(i:Int)<(j:Int) by omega) _ _)⟩
theorem c201 {N:Nat}(hN:N≤1000000000000) {a b:Nat}{d:Array Nat}(hd:d.size=N) (hab:a<b) (hb:b≤N):E cx (.own 201) [AR N,vi (a:Int),vi (b:Int)] (HA d)=OR (reverseRange d a b):=by
 obtain⟨i',j',h⟩:=revL hN _ a (b-1) d (Nat.le_refl _) (by omega) (by omega) hd
 refine(f201 _ _ _ _).trans ?_
 rw [show ω .i64 (Int.sub (b:Int) 1)=((b-1:Nat):Int) from(wr_sub (b:=1) (by omega) (by omega)).trans (by omega)]
 exact goA2 (e := .exit 0) rfl h _ _
theorem reverse_size (d:Array Nat) (a b:Nat):(reverseRange d a b).size=d.size:=rev_size _ _ _ _ (Nat.le_refl _)
theorem c211 {N:Nat}{d:Array Nat}{a b s:Nat}(hd:d.size=N) (ha:a<N) (hb:b<N) (hs:s≤1000):E cx (.own 211) [.list 0 1 (rw' d),vi (a:Int),vi (b:Int),.ptr 0 0 0 0] [Ob.mk OK.box 3 1 0 [[vi (s:Int)]]]=some (Out.ret (.tuple [vi ((order2 ltN d a b s).1:Int),vi ((order2 ltN d a b s).2.1:Int)]),[Ob.mk OK.box 3 1 0 [[vi ((order2 ltN d a b s).2.2:Int)]]]):=by
 refine(f211 _ _ _ _).trans ?_
 have g:∀(n:Nat) (h:n<N) (k:Int→Option (Out×Heap)),(if 0≤(n:Int) then((rw' d)[τ (n:Int)]?.bind fun cs=>(uncons? cs).bind fun p=>(AV.int? .u64 p.fst).bind fun x=>(nil? p.snd).bind fun _=>k x) else none)=k ((d[n]! :Nat):Int):=fun n h k=>by
  rw [if_pos (by omega),show τ (n:Int)=n by omega,rw_get (by omega)]
  rfl
 refine(g b hb _).trans ((g a ha _).trans ?_)
 unfold order2
 cases h:ltN d[b]! d[a]! with
 |true =>
  refine(goT ((c203 _ _).trans (by rw [h])) _ _).trans ?_
  rw [show ω .i64 (Int.add (s:Int) 1)=((s+1:Nat):Int) from wr_add (b:=1) (by omega) (by omega)]
  rfl
 |false=>exact goF ((c203 _ _).trans (by rw [h])) _ _
section
variable {ρ:Type}{x:Option (Out×Heap)}
theorem goB1 {n s:Int}{c:List AV}(h:x=some (Out.ret (vi n),[Ob.mk OK.box 3 1 0 [[vi s]]])) (k:Int→Int→Option ρ):(x.bind fun r=>(asRet r).bind fun q=>(AV.int? .i64 q.fst).bind fun n=>(uncons? q.snd).bind fun p=>(obIs (Ob.mk OK.box 3 1 0 [c]) p.fst).bind fun _=>(chk p.fst.ver 0).bind fun _=>(uncons? p.fst.es).bind fun p2=>(nil? p2.snd).bind fun _=>(uncons? p2.fst).bind fun p3=>(AV.int? .i64 p3.fst).bind fun s=>(nil? p3.snd).bind fun _=>(nil? p.snd).bind fun _=>k n s)=k n s:=by rw [h];rfl
theorem goB2 {n m s:Int}{c:List AV}(h:x=some (Out.ret (.tuple [vi n,vi m]),[Ob.mk OK.box 3 1 0 [[vi s]]])) (k:Int→Int→Int→Option ρ):(x.bind fun r=>(asRet r).bind fun q=>(AV.tup? q.fst).bind fun vs=>(uncons? vs).bind fun p4=>(AV.int? .i64 p4.fst).bind fun n=>(uncons? p4.snd).bind fun p5=>(AV.int? .i64 p5.fst).bind fun m=>(nil? p5.snd).bind fun _=>(uncons? q.snd).bind fun p=>(obIs (Ob.mk OK.box 3 1 0 [c]) p.fst).bind fun _=>(chk p.fst.ver 0).bind fun _=>(uncons? p.fst.es).bind fun p2=>(nil? p2.snd).bind fun _=>(uncons? p2.fst).bind fun p3=>(AV.int? .i64 p3.fst).bind fun s=>(nil? p3.snd).bind fun _=>(nil? p.snd).bind fun _=>k n m s)=k n m s:=by rw [h];rfl
end
theorem order2_lt {N:Nat}{d:Array Nat}{a b s:Nat}(ha:a<N) (hb:b<N):(order2 ltN d a b s).1<N∧(order2 ltN d a b s).2.1<N∧(order2 ltN d a b s).2.2≤s+1:=by
 unfold order2
 split<;>simp [ha,hb]
theorem c210 {N:Nat}{d:Array Nat}{a b c s:Nat}(hd:d.size=N) (ha:a<N) (hb:b<N) (hc:c<N) (hs:s≤100):E cx (.own 210) [.list 0 1 (rw' d),vi (a:Int),vi (b:Int),vi (c:Int),.ptr 0 0 0 0] [Ob.mk OK.box 3 1 0 [[vi (s:Int)]]]=some (Out.ret (vi ((median ltN d a b c s).1:Int)),[Ob.mk OK.box 3 1 0 [[vi ((median ltN d a b c s).2:Int)]]]):=by
 obtain⟨g1,g2,g3⟩:=order2_lt (d:=d) (s:=s) ha hb
 obtain⟨g4,g5,g6⟩:=order2_lt (d:=d) (s:=(order2 ltN d a b s).2.2) g2 hc
 refine(f210 _ _ _ _ _).trans ((goB2 (c211 hd ha hb (by omega)) _).trans ((goB2 (c211 hd g2 hc (by omega)) _).trans ((goB2 (c211 hd g1 g4 (by omega)) _).trans ?_)))
 rfl
def hintI:Hint→Int
 | .unknown=>0
 | .increasing=>1
 | .decreasing=>2
theorem c200 {N:Nat}(hN:N≤49) {a b:Nat}{d:Array Nat}(hd:d.size=N) (hab:a<b) (hb:b≤N):E cx (.fn 200) [.list 0 1 (rw' d),vi (a:Int),vi (b:Int)] []=some (Out.ret (.tuple [vi ((choosePivot ltN d a b).1:Int),vi (hintI (choosePivot ltN d a b).2)]),[]):=by
 have w1:ω .i64 (Int.sub (b:Int) (a:Int))=((b-a:Nat):Int):=(wr_sub (by omega) (by omega)).trans (by omega)
 have w2:ω .i64 (Int.tdiv ((b-a:Nat):Int) 4)=(((b-a)/4:Nat):Int):=by
  rw [show(4:Int)=((4:Nat):Int) from rfl,←Int.ofNat_tdiv]
  exact wr_id (by omega) (by omega)
 have w3:∀c:Nat,c≤3→ω .i64 (Int.add (a:Int) (ω .i64 (Int.mul (((b-a)/4:Nat):Int) (c:Int))))=((a+(b-a)/4*c:Nat):Int):=fun c hc=>by
  have h1:(b-a)/4*c≤200:=by
   have:=Nat.mul_le_mul (show(b-a)/4≤50 by omega) hc
   omega
  have e:ω .i64 (Int.mul (((b-a)/4:Nat):Int) (c:Int))=(((b-a)/4*c:Nat):Int):=by
   rw [show Int.mul (((b-a)/4:Nat):Int) (c:Int)=(((b-a)/4*c:Nat):Int) from(Int.natCast_mul _ _).symm]
   exact wr_id (by omega) (by omega)
  rw [e]
  exact(wr_add (by omega) (by omega)).trans (by omega)
 have w31:=w3 1 (by omega)
 have w32:=w3 2 (by omega)
 have w33:=w3 3 (by omega)
 refine(f200 _ _ _).trans ?_
 rw [w1,w2]
 rw [show((1:Nat):Int)=1 from rfl] at w31
 rw [show((2:Nat):Int)=2 from rfl] at w32
 rw [show((3:Nat):Int)=3 from rfl] at w33
 rw [w32]
 unfold choosePivot
 simp only []
 by_cases h8:b-a≥8
 ·rw [w31,w33]
  refine(goD (show((b-a:Nat):Int)≥8 by omega) _ _).trans ((goDn (show ¬((b-a:Nat):Int)≥50 by omega) _ _).trans ((goB1 (c210 (s:=0) hd (show a+(b-a)/4*1<N by omega) (show a+(b-a)/4*2<N by omega) (show a+(b-a)/4*3<N by omega) (by omega)) _).trans ?_))
  rw [if_pos h8,if_neg (show ¬b-a≥50 by omega)]
  generalize median ltN d (a+(b-a)/4*1) (a+(b-a)/4*2) (a+(b-a)/4*3) 0=m
  by_cases h0:m.2=0
  ·rw [if_pos h0]
   exact goD (show(m.2:Int)=0 by omega) _ _
  ·rw [if_neg h0]
   refine(goDn (show ¬(m.2:Int)=0 by omega) _ _).trans ?_
   by_cases h12:m.2=12
   ·rw [if_pos h12]
    exact goD (show(m.2:Int)=12 by omega) _ _
   ·rw [if_neg h12]
    exact goDn (show ¬(m.2:Int)=12 by omega) _ _
 ·rw [if_neg h8]
  exact goDn (show ¬((b-a:Nat):Int)≥8 by omega) _ _
theorem scanSL {N:Nat}(hN:N≤49) {b a:Int}{x:Bool}{y:Int}:∀(n b' i:Nat) (d:Array Nat),b=b'→b'-i≤n→1≤i→i≤N→b'≤N→d.size=N→E cx (.loop 202 [true,true,false,true,false,false,true,false,false,false,false]) [vi (i:Int),AR N,vi a,vi b,vbool x,vi y] (HA d)=JR (.exit 2) [vi (scanSorted ltN d b' i:Int)] d:=by
 intro n
 induction n with
 |zero =>
  intro b' i d hb hn h1 hi hbN hd
  unfold scanSorted
  rw [if_neg (by simp;omega)]
  exact(f202_l0_l1 _ _ _ _ _ _ _).trans (goDn (show ¬(i:Int)<b by omega) _ _)
 |succ n ih =>
  intro b' i d hb hn h1 hi hbN hd
  unfold scanSorted
  by_cases h2:i<b'
  ·have w:ω .i64 (Int.sub (i:Int) 1)=((i-1:Nat):Int):=(wr_sub (b:=1) (by omega) (by omega)).trans (by omega)
   refine(f202_l0_l1 _ _ _ _ _ _ _).trans ((goD (show(i:Int)<b by omega) _ _).trans ?_)
   rw [w]
   refine(ld rfl (show i<N by omega) hd _ _ _).trans ((ld rfl (show i-1<N by omega) hd _ _ _).trans ?_)
   cases h3:ltN d[i]! d[i-1]! with
   |true =>
    refine(goT ((c203 _ _).trans (by rw [h3])) _ _).trans ?_
    rw [if_neg (by simp)]
   |false =>
    refine(goF ((c203 _ _).trans (by rw [h3])) _ _).trans ?_
    rw [if_pos (by simp [h2]),show ω .i64 (Int.add (i:Int) 1)=((i+1:Nat):Int) from wr_add (b:=1) (by omega) (by omega)]
    exact ih b' (i+1) d hb (by omega) (by omega) (by omega) hbN hd
  ·rw [if_neg (by simp [h2])]
   exact(f202_l0_l1 _ _ _ _ _ _ _).trans (goDn (show ¬(i:Int)<b by omega) _ _)
theorem part_ins {a b:Nat}{d:Array Nat}(hb:b-a<50):partialInsertionSort ltN d a b=(d,decide (scanSorted ltN d b (a+1)=b)):=by
 unfold partialInsertionSort partialIns
 simp only []
 split
 ·rename_i h;simp [h]
 ·rename_i h;simp [h]
theorem c202 {N:Nat}(hN:N≤49) {a b:Nat}{d:Array Nat}(hd:d.size=N) (hab:a<b) (hb:b≤N):E cx (.own 202) [AR N,vi (a:Int),vi (b:Int)] (HA d)=some (Out.ret (vbool (partialInsertionSort ltN d a b).2),HA d):=by
 rw [part_ins (by omega)]
 refine(f202 _ _ _ _).trans ?_
 rw [show ω .i64 (Int.add (a:Int) 1)=((a+1:Nat):Int) from wr_add (b:=1) (by omega) (by omega)]
 have h1:=scanSL hN (b:=(b:Int)) (a:=(a:Int)) (x:=false) (y:=0) _ b (a+1) d rfl (Nat.le_refl _) (by omega) (by omega) hb hd
 have h2:=f202_l0 false ((a+1:Nat):Int) 0 N (a:Int) (b:Int) (rw' d)
 have h3:=h2.trans ((goD (show(0:Int)<5 by omega) _ _).trans (goA1 (e := .exit 2) rfl h1 _ _))
 have w:ω .i64 (Int.sub (b:Int) (a:Int))=((b-a:Nat):Int):=(wr_sub (by omega) (by omega)).trans (by omega)
 rw [w] at h3
 by_cases h:scanSorted ltN d b (a+1)=b
 ·have h4:=h3.trans (goD (show((scanSorted ltN d b (a+1):Nat):Int)=(b:Int) by omega) _ _)
  rw [h4,decide_eq_true h]
  rfl
 ·have h4:=h3.trans ((goDn (show ¬((scanSorted ltN d b (a+1):Nat):Int)=(b:Int) by omega) _ _).trans (goD (show((b-a:Nat):Int)<50 by omega) _ _))
  rw [h4,decide_eq_false h]
  rfl
theorem scanUp_le (p:Nat→Bool) (d:Array Nat) (j:Nat):∀(n i N:Nat),j+1-i≤n→i≤N→j<N→scanUp p d j i≤N:=by
 intro n
 induction n with
 |zero=>intro i N h hi hj;unfold scanUp;rw [if_neg (by simp;omega)];exact hi
 |succ n ih =>
  intro i N h hi hj
  unfold scanUp
  split
  ·rename_i h2;simp at h2;exact ih _ _ (by omega) (by omega) hj
  ·exact hi
theorem up_of {N a:Nat}{d:Array Nat}{p:Nat→Bool}{L:Nat→Option (Out×Heap)}{e:JX}{j:Nat}(hj:j<N) (h1:∀i,i≤j→p d[i]! =true→L i=L (i+1)) (h2:∀i,i≤N→(i≤j→p d[i]! =false)→L i=JR e [vi (i:Int)] d):∀(n i:Nat),j+1-i≤n→i≤N→L i=JR e [vi (scanUp p d j i:Int)] d:=by
 intro n
 induction n with
 |zero =>
  intro i h hi
  unfold scanUp
  rw [if_neg (by simp;omega)]
  exact h2 i hi (by omega)
 |succ n ih =>
  intro i h hi
  unfold scanUp
  by_cases hij:i≤j
  ·cases hp:p d[i]! with
   |true =>
    rw [if_pos (by simp [hij])]
    exact(h1 i hij hp).trans (ih (i+1) (by omega) (by omega))
   |false =>
    rw [if_neg (by simp)]
    exact h2 i hi (fun _=>hp)
  ·rw [if_neg (by simp [hij])]
   exact h2 i hi (by omega)
theorem down_of {N a:Nat}{d:Array Nat}{p:Nat→Bool}{L:Nat→Option (Out×Heap)}{e:JX}{i:Nat}(hi:1≤i)
  (h1:∀j,j+1<N→i≤j+1→p d[j+1]! =true→L (j+1)=L j) (h2:∀j,j<N→(i≤j→p d[j]! =false)→L j=JR e [vi (j:Int)] d):∀j,j<N→L j=JR e [vi (scanDown p d i j:Int)] d
 | 0,hj=>h2 0 hj (by omega)
 |j+1,hj=>by
  unfold scanDown
  by_cases hij:i≤j+1
  ·cases hp:p d[j+1]! with
   |true =>
    rw [if_pos (by simp [hij])]
    exact(h1 j hj hij hp).trans (down_of (a:=a) hi h1 h2 j (by omega))
   |false =>
    rw [if_neg (by simp)]
    exact h2 (j+1) hj (fun _=>hp)
  ·rw [if_neg (by simp [hij])]
   exact h2 (j+1) hj (by omega)
theorem wS1 {i:Nat}(h:i≤1000):ω .i64 (Int.add (i:Int) 1)=((i+1:Nat):Int):=wr_add (b:=1) (by omega) (by omega)
theorem wP1 {i:Nat}(h:i≤1000):ω .i64 (Int.sub ((i+1:Nat):Int) 1)=(i:Int):=(wr_sub (b:=1) (by omega) (by omega)).trans (by omega)
theorem up204 {N a j:Nat}(hN:N≤49) {d:Array Nat}(hd:d.size=N) (ha:a<N) (hj:j<N) {i:Nat}(hi:i≤N):E cx (.loop 204 [true,true,true,false,false,false,false,false,false]) [vi (i:Int),AR N,vi (a:Int),vi (j:Int)] (HA d)=JR (.exit 2) [vi (scanUp (fun x=> !ltN d[a]! x) d j i:Int)] d:=by
 refine up_of (a:=a) (p:=fun x=> !ltN d[a]! x) (L:=fun i=>E cx (.loop 204 [true,true,true,false,false,false,false,false,false]) [vi (i:Int),AR N,vi (a:Int),vi (j:Int)] (HA d)) hj (fun i hij hp=> ?_) (fun i hi hp=> ?_) _ i (Nat.le_refl _) hi
 ·refine(f204_l0_l1 _ _ _ _ _).trans ((goD (show(i:Int)≤(j:Int) by omega) _ _).trans ((ld rfl ha hd _ _ _).trans ((ld rfl (show i<N by omega) hd _ _ _).trans ((goF ((c203 _ _).trans (by rw [show ltN d[a]! d[i]! =false by simpa using hp])) _ _).trans ?_))))
  rw [wS1 (by omega)]
 ·by_cases hij:i≤j
  ·exact(f204_l0_l1 _ _ _ _ _).trans ((goD (show(i:Int)≤(j:Int) by omega) _ _).trans ((ld rfl ha hd _ _ _).trans ((ld rfl (show i<N by omega) hd _ _ _).trans (goT ((c203 _ _).trans (by rw [show ltN d[a]! d[i]! =true by simpa using hp hij])) _ _))))
  ·exact(f204_l0_l1 _ _ _ _ _).trans (goDn (show ¬(i:Int)≤(j:Int) by omega) _ _)
theorem down204 {N a i:Nat}(hN:N≤49) {d:Array Nat}(hd:d.size=N) (ha:a<N) (hi:1≤i) {j:Nat}(hj:j<N):E cx (.loop 204 [true,true,true,false,false,false,false,true,false,false]) [vi (j:Int),AR N,vi (a:Int),vi (i:Int)] (HA d)=JR (.exit 4) [vi (scanDown (fun x=>ltN d[a]! x) d i j:Int)] d:=by
 refine down_of (N:=N) (a:=a) (p:=fun x=>ltN d[a]! x) (L:=fun j=>E cx (.loop 204 [true,true,true,false,false,false,false,true,false,false]) [vi (j:Int),AR N,vi (a:Int),vi (i:Int)] (HA d)) hi (fun j hj hij hp=> ?_) (fun j hj hp=> ?_) j hj
 ·refine(f204_l0_l2 _ _ _ _ _).trans ((goD (show(i:Int)≤((j+1:Nat):Int) by omega) _ _).trans ((ld rfl ha hd _ _ _).trans ((ld rfl hj hd _ _ _).trans ((goT ((c203 _ _).trans (by rw [show ltN d[a]! d[j+1]! =true from hp])) _ _).trans ?_))))
  rw [wP1 (by omega)]
 ·by_cases hij:i≤j
  ·exact(f204_l0_l2 _ _ _ _ _).trans ((goD (show(i:Int)≤(j:Int) by omega) _ _).trans ((ld rfl ha hd _ _ _).trans ((ld rfl hj hd _ _ _).trans (goF ((c203 _ _).trans (by rw [show ltN d[a]! d[j]! =false from hp hij])) _ _))))
  ·exact(f204_l0_l2 _ _ _ _ _).trans (goDn (show ¬(i:Int)≤(j:Int) by omega) _ _)
theorem partEq_loop {N a:Nat}(hN:N≤49) (ha:a<N):∀(n i j:Nat) (d:Array Nat),j+1-i≤n→1≤i→i≤N→j<N→d.size=N→∃j',E cx (.loop 204 [true,true,true,false,false]) [vi (i:Int),vi (j:Int),AR N,vi (a:Int)] (HA d)=JR (.exit 0) [vi ((partEqLoop ltN a i j d).1:Int),vi j'] (partEqLoop ltN a i j d).2:=by
 intro n
 induction n with
 |zero =>
  intro i j d hn h1 hi hj hd
  have u:=up204 hN hd ha hj hi
  have e1:scanUp (fun x=> !ltN d[a]! x) d j i=i:=by unfold scanUp;rw [if_neg (by simp;omega)]
  rw [e1] at u
  have v:=down204 hN hd ha h1 hj
  have e2:scanDown (fun x=>ltN d[a]! x) d i j=j:=by
   cases j with
   |zero=>rfl
   |succ j=>unfold scanDown;rw [if_neg (by simp;omega)]
  rw [e2] at v
  rw [partEqLoop_eq,e1,e2,if_pos (by omega)]
  exact⟨(j:Int),(f204_l0 _ _ _ _ _).trans ((goA1 (e := .exit 2) rfl u _ _).trans ((goA1 (e := .exit 4) rfl v _ _).trans (goD (show(i:Int)>(j:Int) by omega) _ _)))⟩
 |succ n ih =>
  intro i j d hn h1 hi hj hd
  have u:=up204 hN hd ha hj hi
  have l1:=scanUp_le (fun x=> !ltN d[a]! x) d j _ i N (Nat.le_refl _) hi hj
  have l2:=scanUp_ge (fun x=> !ltN d[a]! x) d j i
  have v:=down204 hN hd ha (i:=scanUp (fun x=> !ltN d[a]! x) d j i) (by omega) hj
  have l3:=scanDown_le (fun x=>ltN d[a]! x) d (scanUp (fun x=> !ltN d[a]! x) d j i) j
  rw [partEqLoop_eq]
  generalize scanUp (fun x=> !ltN d[a]! x) d j i=i2 at *
  generalize scanDown (fun x=>ltN d[a]! x) d i2 j=j2 at *
  by_cases h:i2>j2
  ·rw [if_pos h]
   exact⟨(j2:Int),(f204_l0 _ _ _ _ _).trans ((goA1 (e := .exit 2) rfl u _ _).trans ((goA1 (e := .exit 4) rfl v _ _).trans (goD (show(i2:Int)>(j2:Int) by omega) _ _)))⟩
  ·rw [if_neg h]
   obtain⟨j',h2⟩:=ih (i2+1) (j2-1) (swp d i2 j2) (by omega) (by omega) (by omega) (by omega) (by rw [sw_size];exact hd)
   refine⟨j',(f204_l0 _ _ _ _ _).trans ((goA1 (e := .exit 2) rfl u _ _).trans ((goA1 (e := .exit 4) rfl v _ _).trans ((goDn (show ¬(i2:Int)>(j2:Int) by omega) _ _).trans ((sw4 rfl rfl (show i2<N by omega) (show j2<N by omega) hd _).trans ?_))))⟩
   dsimp only
   rw [rw_set rfl,rw_set rfl,wS1 (by omega),show ω .i64 (Int.sub (j2:Int) 1)=((j2-1:Nat):Int) from(wr_sub (b:=1) (by omega) (by omega)).trans (by omega)]
   exact h2
theorem c204 {N:Nat}(hN:N≤49) {a b p:Nat}{d:Array Nat}(hd:d.size=N) (ha:a<b) (hb:b≤N) (hp:p<N):E cx (.own 204) [AR N,vi (a:Int),vi (b:Int),vi (p:Int)] (HA d)=some (Out.ret (vi ((partitionEqual ltN d a b p).1:Int)),HA (partitionEqual ltN d a b p).2):=by
 obtain⟨j',h⟩:=partEq_loop hN (a:=a) (by omega) _ (a+1) (b-1) (swp d a p) (Nat.le_refl _) (by omega) (by omega) (by omega) (by rw [sw_size];exact hd)
 refine(f204 _ _ _ _ _).trans ((sw4 rfl rfl (show a<N by omega) hp hd _).trans ?_)
 rw [rw_set rfl,rw_set rfl,wS1 (by omega),show ω .i64 (Int.sub (b:Int) 1)=((b-1:Nat):Int) from(wr_sub (b:=1) (by omega) (by omega)).trans (by omega)]
 exact goA2 (e := .exit 0) rfl h _ _
end
section
theorem up205 {p:List Bool}{e:JX}{N a j:Nat}(hN:N≤49) {d:Array Nat}(hd:d.size=N) (ha:a<N) (hj:j<N) (hf:∀(x:Int) (n:Nat) (a j:Int) (l:List (List AV)),E cx (.loop 205 p) [vi x,AR n,vi a,vi j] [Ob.mk OK.arr 26 1 1 l]=bif decide (x≤j) then(if 0≤x then(if x<(n:Int) then((nth l (Nat.add 0 x.toNat)).bind fun cs=>(uncons? cs).bind fun q=>(AV.int? .u64 q.fst).bind fun u=>(nil? q.snd).bind fun _=>if 0≤a then(if a<(n:Int) then((nth l (Nat.add 0 a.toNat)).bind fun cs=>(uncons? cs).bind fun q=>(AV.int? .u64 q.fst).bind fun v=>(nil? q.snd).bind fun _=>(E cx (.fn 203) [vu u,vu v] []).bind fun r=>(ret1 r).bind fun v=>(AV.bool? v).bind fun b=>bif b then E cx (.loop 205 p) [vi (ω .i64 (Int.add x 1)),AR n,vi a,vi j] [Ob.mk OK.arr 26 1 1 l] else some (Out.jump e [vi x],[Ob.mk OK.arr 26 1 1 l])) else none) else none) else none) else none) else some (Out.jump e [vi x],[Ob.mk OK.arr 26 1 1 l])) {i:Nat}(hi:i≤N):E cx (.loop 205 p) [vi (i:Int),AR N,vi (a:Int),vi (j:Int)] (HA d)=JR e [vi (scanUp (fun x=>ltN x d[a]!) d j i:Int)] d:=by
 refine up_of (a:=a) (p:=fun x=>ltN x d[a]!) (L:=fun i=>E cx (.loop 205 p) [vi (i:Int),AR N,vi (a:Int),vi (j:Int)] (HA d)) hj (fun i hij hp=> ?_) (fun i hi hp=> ?_) _ i (Nat.le_refl _) hi
 ·refine(hf _ _ _ _ _).trans ((goD (show(i:Int)≤(j:Int) by omega) _ _).trans ((ld rfl (show i<N by omega) hd _ _ _).trans ((ld rfl ha hd _ _ _).trans ((goT ((c203 _ _).trans (by rw [show ltN d[i]! d[a]! =true from hp])) _ _).trans ?_))))
  rw [wS1 (by omega)]
 ·by_cases hij:i≤j
  ·exact(hf _ _ _ _ _).trans ((goD (show(i:Int)≤(j:Int) by omega) _ _).trans ((ld rfl (show i<N by omega) hd _ _ _).trans ((ld rfl ha hd _ _ _).trans (goF ((c203 _ _).trans (by rw [show ltN d[i]! d[a]! =false from hp hij])) _ _))))
  ·exact(hf _ _ _ _ _).trans (goDn (show ¬(i:Int)≤(j:Int) by omega) _ _)
theorem down205 {p:List Bool}{e:JX}{N a i:Nat}(hN:N≤49) {d:Array Nat}(hd:d.size=N) (ha:a<N) (hi:1≤i) (hf:∀(x:Int) (n:Nat) (a i:Int) (l:List (List AV)),E cx (.loop 205 p) [vi x,AR n,vi a,vi i] [Ob.mk OK.arr 26 1 1 l]=bif decide (i≤x) then(if 0≤x then(if x<(n:Int) then((nth l (Nat.add 0 x.toNat)).bind fun cs=>(uncons? cs).bind fun q=>(AV.int? .u64 q.fst).bind fun u=>(nil? q.snd).bind fun _=>if 0≤a then(if a<(n:Int) then((nth l (Nat.add 0 a.toNat)).bind fun cs=>(uncons? cs).bind fun q=>(AV.int? .u64 q.fst).bind fun v=>(nil? q.snd).bind fun _=>(E cx (.fn 203) [vu u,vu v] []).bind fun r=>(ret1 r).bind fun v=>(AV.bool? v).bind fun b=>bif b then some (Out.jump e [vi x],[Ob.mk OK.arr 26 1 1 l]) else E cx (.loop 205 p) [vi (ω .i64 (Int.sub x 1)),AR n,vi a,vi i] [Ob.mk OK.arr 26 1 1 l]) else none) else none) else none) else none) else some (Out.jump e [vi x],[Ob.mk OK.arr 26 1 1 l])) {j:Nat}(hj:j<N):E cx (.loop 205 p) [vi (j:Int),AR N,vi (a:Int),vi (i:Int)] (HA d)=JR e [vi (scanDown (fun x=> !ltN x d[a]!) d i j:Int)] d:=by
 refine down_of (N:=N) (a:=a) (p:=fun x=> !ltN x d[a]!) (L:=fun j=>E cx (.loop 205 p) [vi (j:Int),AR N,vi (a:Int),vi (i:Int)] (HA d)) hi (fun j hj hij hp=> ?_) (fun j hj hp=> ?_) j hj
 ·refine(hf _ _ _ _ _).trans ((goD (show(i:Int)≤((j+1:Nat):Int) by omega) _ _).trans ((ld rfl hj hd _ _ _).trans ((ld rfl ha hd _ _ _).trans ((goF ((c203 _ _).trans (by rw [show ltN d[j+1]! d[a]! =false by simpa using hp])) _ _).trans ?_))))
  rw [wP1 (by omega)]
 ·by_cases hij:i≤j
  ·exact(hf _ _ _ _ _).trans ((goD (show(i:Int)≤(j:Int) by omega) _ _).trans ((ld rfl hj hd _ _ _).trans ((ld rfl ha hd _ _ _).trans (goT ((c203 _ _).trans (by rw [show ltN d[j]! d[a]! =true by simpa using hp hij])) _ _))))
  ·exact(hf _ _ _ _ _).trans (goDn (show ¬(i:Int)≤(j:Int) by omega) _ _)
theorem part_loop {N a:Nat}(hN:N≤49) (ha:a<N):∀(n i j:Nat) (d:Array Nat),j+1-i≤n→1≤i→i≤N→j<N→d.size=N→(partLoop ltN a i j d).1<N∧(partLoop ltN a i j d).2.size=N∧∃i',E cx (.loop 205 [true,true,true,true,true,true,true,true,true,false,false]) [vi (i:Int),vi (j:Int),AR N,vi (a:Int)] (HA d)=JR (.exit 4) [vi i',vi ((partLoop ltN a i j d).1:Int)] (partLoop ltN a i j d).2:=by
 intro n
 induction n with
 |zero =>
  intro i j d hn h1 hi hj hd
  have u:=up205 hN hd ha hj f205_l2_l3 hi
  have e1:scanUp (fun x=>ltN x d[a]!) d j i=i:=by unfold scanUp;rw [if_neg (by simp;omega)]
  rw [e1] at u
  have v:=down205 hN hd ha h1 f205_l2_l4 hj
  have e2:scanDown (fun x=> !ltN x d[a]!) d i j=j:=by
   cases j with
   |zero=>rfl
   |succ j=>unfold scanDown;rw [if_neg (by simp;omega)]
  rw [e2] at v
  rw [partLoop_eq,e1,e2,if_pos (by omega)]
  exact⟨hj,hd,(i:Int),(f205_l2 _ _ _ _ _).trans ((goA1 (e := .exit 6) rfl u _ _).trans ((goA1 (e := .exit 8) rfl v _ _).trans (goD (show(i:Int)>(j:Int) by omega) _ _)))⟩
 |succ n ih =>
  intro i j d hn h1 hi hj hd
  have u:=up205 hN hd ha hj f205_l2_l3 hi
  have l1:=scanUp_le (fun x=>ltN x d[a]!) d j _ i N (Nat.le_refl _) hi hj
  have l2:=scanUp_ge (fun x=>ltN x d[a]!) d j i
  have v:=down205 hN hd ha (i:=scanUp (fun x=>ltN x d[a]!) d j i) (by omega) f205_l2_l4 hj
  have l3:=scanDown_le (fun x=> !ltN x d[a]!) d (scanUp (fun x=>ltN x d[a]!) d j i) j
  rw [partLoop_eq]
  generalize scanUp (fun x=>ltN x d[a]!) d j i=i2 at *
  generalize scanDown (fun x=> !ltN x d[a]!) d i2 j=j2 at *
  by_cases h:i2>j2
  ·rw [if_pos h]
   exact⟨by omega,hd,(i2:Int),(f205_l2 _ _ _ _ _).trans ((goA1 (e := .exit 6) rfl u _ _).trans ((goA1 (e := .exit 8) rfl v _ _).trans (goD (show(i2:Int)>(j2:Int) by omega) _ _)))⟩
  ·rw [if_neg h]
   obtain⟨g1,g2,i',h2⟩:=ih (i2+1) (j2-1) (swp d i2 j2) (by omega) (by omega) (by omega) (by omega) (by rw [sw_size];exact hd)
   refine⟨g1,g2,i',(f205_l2 _ _ _ _ _).trans ((goA1 (e := .exit 6) rfl u _ _).trans ((goA1 (e := .exit 8) rfl v _ _).trans ((goDn (show ¬(i2:Int)>(j2:Int) by omega) _ _).trans ((sw4 rfl rfl (show i2<N by omega) (show j2<N by omega) hd _).trans ?_))))⟩
   dsimp only
   rw [rw_set rfl,rw_set rfl,wS1 (by omega),show ω .i64 (Int.sub (j2:Int) 1)=((j2-1:Nat):Int) from(wr_sub (b:=1) (by omega) (by omega)).trans (by omega)]
   exact h2
theorem c205 {N:Nat}(hN:N≤49) {a b p:Nat}{d:Array Nat}(hd:d.size=N) (hab:a<b) (hb:b≤N) (hp:p<N):E cx (.own 205) [AR N,vi (a:Int),vi (b:Int),vi (p:Int)] (HA d)=some (Out.ret (.tuple [vi ((partition ltN d a b p).1:Int),vbool (partition ltN d a b p).2.1]),HA (partition ltN d a b p).2.2)∧(partition ltN d a b p).1<N∧(partition ltN d a b p).2.2.size=N:=by
 have ha:a<N:=by omega
 have hd':(swp d a p).size=N:=by rw [sw_size];exact hd
 have u:=up205 hN hd' ha (j:=b-1) (by omega) f205_l0 (i:=a+1) (by omega)
 have l1:=scanUp_le (fun x=>ltN x (swp d a p)[a]!) (swp d a p) (b-1) _ (a+1) N (Nat.le_refl _) (by omega) (by omega)
 have l2:=scanUp_ge (fun x=>ltN x (swp d a p)[a]!) (swp d a p) (b-1) (a+1)
 have v:=down205 hN hd' ha (i:=scanUp (fun x=>ltN x (swp d a p)[a]!) (swp d a p) (b-1) (a+1)) (by omega) f205_l1 (j:=b-1) (by omega)
 have l3:=scanDown_le (fun x=> !ltN x (swp d a p)[a]!) (swp d a p) (scanUp (fun x=>ltN x (swp d a p)[a]!) (swp d a p) (b-1) (a+1)) (b-1)
 have st:=(f205 N (rw' d) (a:Int) (b:Int) (p:Int)).trans (sw4 rfl rfl ha hp hd _)
 rw [rw_set rfl,rw_set rfl,wS1 (by omega),show ω .i64 (Int.sub (b:Int) 1)=((b-1:Nat):Int) from(wr_sub (b:=1) (by omega) (by omega)).trans (by omega)] at st
 unfold partition
 simp only []
 generalize scanUp (fun x=>ltN x (swp d a p)[a]!) (swp d a p) (b-1) (a+1)=i2 at *
 generalize scanDown (fun x=> !ltN x (swp d a p)[a]!) (swp d a p) i2 (b-1)=j2 at *
 have st2:=st.trans ((goA1 (e := .exit 0) rfl u _ _).trans (goA1 (e := .exit 2) rfl v _ _))
 by_cases h:i2>j2
 ·simp only [h,if_true]
  refine⟨?_,by omega,by rw [sw_size];exact hd'⟩
  refine st2.trans ((goD (show(i2:Int)>(j2:Int) by omega) _ _).trans ((sw4 rfl rfl (show j2<N by omega) ha hd' _).trans ?_))
  dsimp only
  rw [rw_set rfl,rw_set rfl]
  rfl
 ·simp only [h,if_false]
  obtain⟨g1,g2,i',h2⟩:=part_loop hN ha _ (i2+1) (j2-1) (swp (swp d a p) i2 j2) (Nat.le_refl _) (by omega) (by omega) (by omega) (by rw [sw_size];exact hd')
  refine⟨?_,g1,by rw [sw_size];exact g2⟩
  refine st2.trans ((goDn (show ¬(i2:Int)>(j2:Int) by omega) _ _).trans ((sw4 rfl rfl (show i2<N by omega) (show j2<N by omega) hd' _).trans ?_))
  dsimp only
  rw [rw_set rfl,rw_set rfl,wS1 (by omega),show ω .i64 (Int.sub (j2:Int) 1)=((j2-1:Nat):Int) from(wr_sub (b:=1) (by omega) (by omega)).trans (by omega)]
  refine(goA2 (e := .exit 4) rfl h2 _ _).trans ((sw4 rfl rfl g1 ha g2 _).trans ?_)
  dsimp only
  rw [rw_set rfl,rw_set rfl]
  rfl
theorem c151 (n:Nat) (h:n<50):E cx (.fn 151) [vu (n:Int)] []=some (Out.ret (vi (bitsLen n:Int)),[]):=by
 have:n=0∨n=1∨n=2∨n=3∨n=4∨n=5∨n=6∨n=7∨n=8∨n=9∨n=10∨n=11∨n=12∨n=13∨n=14∨n=15∨n=16∨n=17∨n=18∨n=19∨n=20∨n=21∨n=22∨n=23∨n=24∨n=25∨n=26∨n=27∨n=28∨n=29∨n=30∨n=31∨n=32∨n=33∨n=34∨n=35∨n=36∨n=37∨n=38∨n=39∨n=40∨n=41∨n=42∨n=43∨n=44∨n=45∨n=46∨n=47∨n=48∨n=49:=by omega
 rcases this with rfl |rfl |rfl |rfl |rfl |rfl |rfl |rfl |rfl |rfl |rfl |rfl |rfl |rfl |rfl |rfl |rfl |rfl |rfl |rfl |rfl |rfl |rfl |rfl |rfl |rfl |rfl |rfl |rfl |rfl |rfl |rfl |rfl |rfl |rfl |rfl |rfl |rfl |rfl |rfl |rfl |rfl |rfl |rfl |rfl |rfl |rfl |rfl |rfl |rfl<;>exact(E_in [175] _ _ _).trans (by kernel_rfl)
theorem bv_nat {a:Nat}(h:a<18446744073709551616):(BitVec.ofInt υ.bits (a:Int)).toNat=a:=by
 rw [BitVec.ofInt_natCast,BitVec.toNat_ofNat]
 show a%2 ^ 64=a
 exact Nat.mod_eq_of_lt (by omega)
theorem iand_nat {a b:Nat}(ha:a<18446744073709551616) (hb:b<18446744073709551616):iand .u64 (a:Int) (b:Int)=((a &&&b:Nat):Int):=by
 unfold iand
 rw [BitVec.toNat_and,bv_nat ha,bv_nat hb]
 have:a &&&b≤a:=Nat.and_le_left
 exact wu_id (by omega) (by omega)
theorem ixor_nat {a b:Nat}(ha:a<18446744073709551616) (hb:b<18446744073709551616):ixor .u64 (a:Int) (b:Int)=((a ^^^ b:Nat):Int):=by
 unfold ixor
 rw [BitVec.toNat_xor,bv_nat ha,bv_nat hb]
 have:a ^^^ b<2 ^ 64:=Nat.xor_lt_two_pow (by omega) (by omega)
 exact wu_id (by omega) (by omega)
theorem shl_nat (a k:Nat) (hk:k≤64):ishl .u64 (a:Int) (k:Int)=((a*2 ^ k%18446744073709551616:Nat):Int):=by
 unfold ishl
 rw [show(k:Int).toNat=k by omega,show υ.bits=64 from rfl,Nat.min_eq_left hk,show(2:Int) ^ k=((2 ^ k:Nat):Int) by rw [Int.natCast_pow];rfl,←Int.natCast_mul]
 simp only [ω,IntKind.bits,IntKind.signed,Bool.false_and]
 simp
theorem shr_nat (a k:Nat) (hk:k≤64):ishr .u64 (a:Int) (k:Int)=((a/2 ^ k:Nat):Int):=by
 unfold ishr
 rw [show(k:Int).toNat=k by omega,show υ.bits=64 from rfl,Nat.min_eq_left hk,show(2:Int) ^ k=((2 ^ k:Nat):Int) by rw [Int.natCast_pow];rfl,Int.fdiv_eq_ediv_of_nonneg _ (Int.natCast_nonneg _)]
 exact(Int.natCast_ediv _ _).symm
theorem c190 (n:Nat) (h0:0<n) (h:n<50):E cx (.fn 190) [vi (n:Int)] []=some (Out.ret (vu ((1 <<<bitsLen n:Nat):Int)),[]):=by
 have h1:=two_pow_bitsLen_le h0
 have h2:bitsLen n≤6:=(bitsLen_le_iff n 6).2 (by omega)
 refine(f190 _).trans ?_
 rw [wu_id (by omega) (by omega)]
 refine(goI (c151 n h) _).trans ((goN (show ¬((bitsLen n:Nat):Int)<0 by omega) _ _).trans ?_)
 rw [show ishl .u64 1 ((bitsLen n:Nat):Int)=_ from shl_nat 1 (bitsLen n) (by omega),Nat.one_shiftLeft,Nat.one_mul,Nat.mod_eq_of_lt (by omega)]
theorem c191 (r:UInt64):E cx (.own 191) [.ptr 0 0 0 0] [Ob.mk OK.box 222 1 0 [[vu (r.toNat:Int)]]]=some (Out.ret (vu ((xorNext r).toNat:Int)),[Ob.mk OK.box 222 1 0 [[vu ((xorNext r).toNat:Int)]]]):=by
 refine(f191 _).trans ?_
 have h:=r.toNat_lt
 rw [xorNext_toNat]
 generalize r.toNat=x at *
 have ha:x ^^^ (x*8192%18446744073709551616)<2 ^ 64:=Nat.xor_lt_two_pow (by omega) (by omega)
 have hb:(x ^^^ (x*8192%18446744073709551616)) ^^^ ((x ^^^ (x*8192%18446744073709551616))/128)<2 ^ 64:=Nat.xor_lt_two_pow (by omega) (by omega)
 rw [show ishl .u64 (x:Int) 13=((x*8192%18446744073709551616:Nat):Int) from shl_nat x 13 (by omega),ixor_nat (by omega) (by omega)]
 rw [show ishr .u64 ((x ^^^ (x*8192%18446744073709551616):Nat):Int) 7=(((x ^^^ (x*8192%18446744073709551616))/128:Nat):Int) from shr_nat _ 7 (by omega),ixor_nat (by omega) (by omega)]
 rw [show ∀y:Nat,ishl .u64 (y:Int) 17=((y*131072%18446744073709551616:Nat):Int) from fun y=>shl_nat y 17 (by omega),ixor_nat (by omega) (by omega)]
 rfl
theorem goX1 {ρ:Type}{x:Option (Out×Heap)}{n s:Int}{c:List AV}(h:x=some (Out.ret (vu n),[Ob.mk OK.box 222 1 0 [[vu s]]])) (k:Int→Int→Option ρ):(x.bind fun r=>(asRet r).bind fun q=>(AV.int? .u64 q.fst).bind fun n=>(uncons? q.snd).bind fun p=>(obIs (Ob.mk OK.box 222 1 0 [c]) p.fst).bind fun _=>(chk p.fst.ver 0).bind fun _=>(uncons? p.fst.es).bind fun p2=>(nil? p2.snd).bind fun _=>(uncons? p2.fst).bind fun p3=>(AV.int? .u64 p3.fst).bind fun s=>(nil? p3.snd).bind fun _=>(nil? p.snd).bind fun _=>k n s)=k n s:=by rw [h];rfl
abbrev HX (r:UInt64) (d:Array Nat):Heap:=[Ob.mk OK.arr 26 1 1 (rw' d),Ob.mk OK.box 222 1 0 [[vu (r.toNat:Int)]]]
theorem w_idx {a q:Nat}(ha:a≤1000) (hq:q≤1000):ω .i64 (Int.add (a:Int) (ω .i64 (Int.mul (q:Int) 2)))=((a+q*2:Nat):Int):=by
 have e:ω .i64 (Int.mul (q:Int) 2)=((q*2:Nat):Int):=(wr_mul (b:=2) (by omega) (by omega)).trans (by omega)
 rw [e]
 exact(wr_add (by omega) (by omega)).trans (by omega)
theorem brk_len {l:Nat}(hl:0<l) (r:Nat):(if r &&&((1 <<<bitsLen l)-1)≥l then(r &&&((1 <<<bitsLen l)-1))-l else r &&&((1 <<<bitsLen l)-1))<l:=by
 have h1:r &&&((1 <<<bitsLen l)-1)≤(1 <<<bitsLen l)-1:=Nat.and_le_right
 have h2:=two_pow_bitsLen_le hl
 rw [Nat.one_shiftLeft] at *
 have h3:=Nat.two_pow_pos (bitsLen l)
 split<;>omega
theorem brk1 {N a l:Nat}(hN:N≤49) (hl:8≤l) (hal:a+l≤N) {idx:Nat}(hi:idx<N) (ht:idx≤a+l/4*2+1) {r:UInt64}{d:Array Nat}(hd:d.size=N):E cx (.loop 199 [true,true,false,true,true,true,false]) [vi (idx:Int),AR N,vi (a:Int),vi (l:Int),.ptr 1 0 0 0,vu ((1 <<<bitsLen l:Nat):Int)] (HX r d)=E cx (.loop 199 [true,true,false,true,true,true,false]) [vi ((idx+1:Nat):Int),AR N,vi (a:Int),vi (l:Int),.ptr 1 0 0 0,vu ((1 <<<bitsLen l:Nat):Int)] (HX (breakStep a l (1 <<<bitsLen l) (r,d) idx).1 (breakStep a l (1 <<<bitsLen l) (r,d) idx).2):=by
 have h0:=brk_len (show 0<l by omega) (xorNext r).toNat
 have h1:1 <<<bitsLen l≤128:=by
  rw [Nat.one_shiftLeft]
  have:=two_pow_bitsLen_le (show 0<l by omega)
  omega
 have h2:0<1 <<<bitsLen l:=by rw [Nat.one_shiftLeft];exact Nat.two_pow_pos _
 have hx:=(xorNext r).toNat_lt
 have w1:ω .i64 (Int.tdiv (l:Int) 4)=((l/4:Nat):Int):=by
  rw [show(4:Int)=((4:Nat):Int) from rfl,←Int.ofNat_tdiv]
  exact wr_id (by omega) (by omega)
 have w2:ω .i64 (Int.add (ω .i64 (Int.add (a:Int) (ω .i64 (Int.mul ((l/4:Nat):Int) 2)))) 1)=((a+l/4*2+1:Nat):Int):=by
  rw [w_idx (by omega) (by omega)]
  exact(wr_add (b:=1) (by omega) (by omega)).trans (by omega)
 have h3:(xorNext r).toNat &&&((1 <<<bitsLen l)-1)≤(1 <<<bitsLen l)-1:=Nat.and_le_right
 have w3:ω .i64 (iand .u64 ((xorNext r).toNat:Int) (ω .u64 (Int.sub ((1 <<<bitsLen l:Nat):Int) 1)))=(((xorNext r).toNat &&&((1 <<<bitsLen l)-1):Nat):Int):=by
  rw [show Int.sub ((1 <<<bitsLen l:Nat):Int) 1=(((1 <<<bitsLen l)-1:Nat):Int) from by show((1 <<<bitsLen l:Nat):Int)-1=_;omega,wu_id (by omega) (by omega),iand_nat (by omega) (by omega)]
  exact wr_id (by omega) (by omega)
 have st:=f199_l0 (idx:Int) N (a:Int) (l:Int) ((1 <<<bitsLen l:Nat):Int) (rw' d) (r.toNat:Int)
 rw [w1,w2] at st
 refine st.trans ((goD (show(idx:Int)≤((a+l/4*2+1:Nat):Int) by omega) _ _).trans ((goX1 (c191 r) _).trans ?_))
 rw [w3]
 unfold breakStep
 simp only []
 generalize (xorNext r).toNat &&&((1 <<<bitsLen l)-1)=o at *
 by_cases ho:o≥l
 ·rw [if_pos ho] at h0
  simp only [ho,if_true]
  refine(goD (show(o:Int)≥(l:Int) by omega) _ _).trans ?_
  rw [show ω .i64 (Int.add (a:Int) (ω .i64 (Int.sub (o:Int) (l:Int))))=((a+(o-l):Nat):Int) from by rw [wr_sub (by omega) (by omega),wr_add (by omega) (by omega)];omega]
  refine(sw4 rfl rfl hi (show a+(o-l)<N by omega) hd _).trans ?_
  rw [rw_set rfl,rw_set rfl,wS1 (by omega)]
  rfl
 ·rw [if_neg ho] at h0
  simp only [ho,if_false]
  refine(goDn (show ¬(o:Int)≥(l:Int) by omega) _ _).trans ?_
  rw [show ω .i64 (Int.add (a:Int) (o:Int))=((a+o:Nat):Int) from(wr_add (by omega) (by omega)).trans (by omega)]
  refine(sw4 rfl rfl hi (show a+o<N by omega) hd _).trans ?_
  rw [rw_set rfl,rw_set rfl,wS1 (by omega)]
  rfl
theorem step_size (a l m:Nat) (st:UInt64×Array Nat) (idx:Nat):(breakStep a l m st idx).2.size=st.2.size:=by unfold breakStep;simp only [];rw [sw_size]
theorem brk_size (d:Array Nat) (a b:Nat):(breakPatterns d a b).size=d.size:=by
 unfold breakPatterns
 simp only []
 split
 ·rw [step_size,step_size,step_size]
 ·rfl
theorem c199 {N:Nat}(hN:N≤49) {a b:Nat}{d:Array Nat}(hd:d.size=N) (hab:a<b) (hb:b≤N):E cx (.own 199) [AR N,vi (a:Int),vi (b:Int)] (HA d)=OR (breakPatterns d a b):=by
 have w0:ω .i64 (Int.sub (b:Int) (a:Int))=((b-a:Nat):Int):=(wr_sub (by omega) (by omega)).trans (by omega)
 refine(f199 _ _ _ _).trans ?_
 rw [w0]
 unfold breakPatterns
 simp only []
 by_cases h8:b-a≥8
 ·rw [if_pos h8]
  have w1:ω .i64 (Int.tdiv ((b-a:Nat):Int) 4)=(((b-a)/4:Nat):Int):=by
   rw [show(4:Int)=((4:Nat):Int) from rfl,←Int.ofNat_tdiv]
   exact wr_id (by omega) (by omega)
  have w2:ω .i64 (Int.sub (ω .i64 (Int.add (a:Int) (ω .i64 (Int.mul (((b-a)/4:Nat):Int) 2)))) 1)=((a+(b-a)/4*2-1:Nat):Int):=by
   rw [w_idx (by omega) (by omega)]
   exact(wr_sub (b:=1) (by omega) (by omega)).trans (by omega)
  refine(goD (show((b-a:Nat):Int)≥8 by omega) _ _).trans ((goU (c190 (b-a) (by omega) (by omega)) _).trans ?_)
  rw [w1,w2,wu_id (by omega) (by omega)]
  have hr:(UInt64.ofNat (b-a)).toNat=b-a:=by rw [UInt64.toNat_ofNat'];exact Nat.mod_eq_of_lt (by omega)
  have s1:=brk1 hN h8 (show a+(b-a)≤N by omega) (idx:=a+(b-a)/4*2-1) (by omega) (by omega) (r:=UInt64.ofNat (b-a)) hd
  have s2:=brk1 hN h8 (show a+(b-a)≤N by omega) (idx:=a+(b-a)/4*2-1+1) (by omega) (by omega) (r:=(breakStep a (b-a) (1 <<<bitsLen (b-a)) (UInt64.ofNat (b-a),d) (a+(b-a)/4*2-1)).1) (d:=(breakStep a (b-a) (1 <<<bitsLen (b-a)) (UInt64.ofNat (b-a),d) (a+(b-a)/4*2-1)).2) (by rw [step_size];exact hd)
  have s3:=brk1 hN h8 (show a+(b-a)≤N by omega) (idx:=a+(b-a)/4*2-1+2) (by omega) (by omega) (r:=(breakStep a (b-a) (1 <<<bitsLen (b-a)) (breakStep a (b-a) (1 <<<bitsLen (b-a)) (UInt64.ofNat (b-a),d) (a+(b-a)/4*2-1)) (a+(b-a)/4*2-1+1)).1) (d:=(breakStep a (b-a) (1 <<<bitsLen (b-a)) (breakStep a (b-a) (1 <<<bitsLen (b-a)) (UInt64.ofNat (b-a),d) (a+(b-a)/4*2-1)) (a+(b-a)/4*2-1+1)).2) (by rw [step_size,step_size];exact hd)
  have s:=s1.trans (s2.trans s3)
  rw [show HX (UInt64.ofNat (b-a)) d=[Ob.mk OK.arr 26 1 1 (rw' d),Ob.mk OK.box 222 1 0 [[vu ((b-a:Nat):Int)]]] by rw [←hr];rw [hr];simp [HX,hr]] at s
  rw [s]
  generalize breakStep a (b-a) (1 <<<bitsLen (b-a)) (breakStep a (b-a) (1 <<<bitsLen (b-a)) (breakStep a (b-a) (1 <<<bitsLen (b-a)) (UInt64.ofNat (b-a),d) (a+(b-a)/4*2-1)) (a+(b-a)/4*2-1+1)) (a+(b-a)/4*2-1+2)=z
  have e:=f199_l0 ((a+(b-a)/4*2-1+2+1:Nat):Int) N (a:Int) ((b-a:Nat):Int) ((1 <<<bitsLen (b-a):Nat):Int) (rw' z.2) (z.1.toNat:Int)
  have w3:ω .i64 (Int.add (ω .i64 (Int.add (a:Int) (ω .i64 (Int.mul (((b-a)/4:Nat):Int) 2)))) 1)=((a+(b-a)/4*2+1:Nat):Int):=by
   rw [w_idx (by omega) (by omega)]
   exact(wr_add (b:=1) (by omega) (by omega)).trans (by omega)
  rw [w1,w3] at e
  rw [e.trans (goDn (show ¬((a+(b-a)/4*2-1+2+1:Nat):Int)≤((a+(b-a)/4*2+1:Nat):Int) by omega) _ _)]
  rfl
 ·rw [if_neg h8]
  exact goDn (show ¬((b-a:Nat):Int)≥8 by omega) _ _
theorem swoN:SWO ltN where
 irrefl x:=by simp [ltN]
 trans x y z h1 h2:=by simp [ltN] at *;omega
 ntrans x y z h1 h2:=by simp [ltN] at *;omega
section
variable {ρ:Type}{x:Option (Out×Heap)}
theorem goPt {n:Int}{b:Bool}{R Z:List (List AV)}(h:x=some (Out.ret (.tuple [vi n,vbool b]),[Ob.mk OK.arr 26 1 1 R])) (k:Int→Bool→Ob×List Ob→Option ρ):(x.bind fun r=>(asRet r).bind fun q=>(AV.tup? q.fst).bind fun vs=>(uncons? vs).bind fun p4=>(AV.int? .i64 p4.fst).bind fun n=>(uncons? p4.snd).bind fun p5=>(AV.bool? p5.fst).bind fun b=>(nil? p5.snd).bind fun _=>(uncons? q.snd).bind fun p=>(obIs (Ob.mk OK.arr 26 1 1 Z) p.fst).bind fun _=>(chk p.fst.ver 1).bind fun _=>(nil? p.snd).bind fun _=>k n b p)=k n b (Ob.mk OK.arr 26 1 1 R,[]):=by rw [h];rfl
theorem goPe {n:Int}{R Z:List (List AV)}(h:x=some (Out.ret (vi n),[Ob.mk OK.arr 26 1 1 R])) (k:Int→Ob×List Ob→Option ρ):(x.bind fun r=>(asRet r).bind fun q=>(AV.int? .i64 q.fst).bind fun n=>(uncons? q.snd).bind fun p=>(obIs (Ob.mk OK.arr 26 1 1 Z) p.fst).bind fun _=>(chk p.fst.ver 1).bind fun _=>(nil? p.snd).bind fun _=>k n p)=k n (Ob.mk OK.arr 26 1 1 R,[]):=by rw [h];rfl
theorem goPb {b:Bool}{R Z:List (List AV)}(h:x=some (Out.ret (vbool b),[Ob.mk OK.arr 26 1 1 R])) (k:Bool→Ob×List Ob→Option ρ):(x.bind fun r=>(asRet r).bind fun q=>(AV.bool? q.fst).bind fun b=>(uncons? q.snd).bind fun p=>(obIs (Ob.mk OK.arr 26 1 1 Z) p.fst).bind fun _=>(chk p.fst.ver 1).bind fun _=>(nil? p.snd).bind fun _=>k b p)=k b (Ob.mk OK.arr 26 1 1 R,[]):=by rw [h];rfl
theorem goT2 {n m:Int}(h:x=some (Out.ret (.tuple [vi n,vi m]),[])) (k:Int→Int→Option ρ):(x.bind fun r=>(ret1 r).bind fun v=>(AV.tup? v).bind fun vs=>(uncons? vs).bind fun p4=>(AV.int? .i64 p4.fst).bind fun n=>(uncons? p4.snd).bind fun p5=>(AV.int? .i64 p5.fst).bind fun m=>(nil? p5.snd).bind fun _=>k n m)=k n m:=by rw [h];rfl
end
def SpL (a b:Nat) (d:Array Nat) (X:Option (Out×Heap)):Prop:=∃(x1 x2 x3:Int) (b1 b2:Bool) (d':Array Nat),X=JR .ret [vi x1,vi x2,vi x3,vbool b1,vbool b2] d'∧PermIn a b d d'∧SortedIn ltN a b d'
def SpO (a b:Nat) (d:Array Nat) (X:Option (Out×Heap)):Prop:=∃d',X=OR d'∧PermIn a b d d'∧SortedIn ltN a b d'
noncomputable abbrev LP (N a b lim:Nat) (wb wp:Bool) (d:Array Nat):Option (Out×Heap):=E cx (.loop 187 [true,true,false]) [vi (a:Int),vi (b:Int),vi (lim:Int),vbool wb,vbool wp,AR N] (HA d)
noncomputable abbrev OP7 (N a b lim:Nat) (d:Array Nat):Option (Out×Heap):=E cx (.own 187) [AR N,vi (a:Int),vi (b:Int),vi (lim:Int)] (HA d)
theorem own_of {N a b lim:Nat}{d:Array Nat}(h:SpL a b d (LP N a b lim true true d)):SpO a b d (OP7 N a b lim d):=by
 obtain⟨x1,x2,x3,b1,b2,d',h1,h2,h3⟩:=h
 refine⟨d',(f187 _ _ _ _ _).trans ?_,h2,h3⟩
 rw [show E cx (.loop 187 [true,true,false]) [vi (a:Int),vi (b:Int),vi (lim:Int),vbool true,vbool true,AR N] (HA d)=_ from h1]
 rfl
theorem SpL.congr {a b:Nat}{d:Array Nat}{X Y:Option (Out×Heap)}(h:X=Y) (hY:SpL a b d Y):SpL a b d X:=by rw [h];exact hY
abbrev IH (N n:Nat):Prop:=∀(a b lim:Nat) (wb wp:Bool) (d:Array Nat),b-a≤n→a≤b→b≤N→lim≤64→d.size=N→Sort.Below ltN a b d→SpL a b d (LP N a b lim wb wp d)
theorem tail8 {N n:Nat}(hN:N≤49) (ih:IH N n) {a b m lim:Nat}{ap:Bool}{d3 d4:Array Nat}(hn:b-a≤n+1) (h1:a≤m) (h2:m<b) (hb:b≤N) (hl:lim≤64) (hd:d4.size=N) (hBa:Sort.Below ltN a m d4) (hleft:∀L,PermIn a m d4 L→SortedIn ltN a m L→Sort.Below ltN (m+1) b L∧∀R,PermIn (m+1) b L R→SortedIn ltN (m+1) b R→PermIn a b d3 R∧SortedIn ltN a b R):SpL a b d3 (q187_l0_8 (m:Int) (a:Int) (b:Int) N (lim:Int) (Ob.mk OK.arr 26 1 1 (rw' d4),[]) ap):=by
 obtain⟨L,l1,l2,l3⟩:=own_of (ih a m lim true true d4 (by omega) h1 (by omega) hl hd hBa)
 obtain⟨hBL,hfin⟩:=hleft L l2 l3
 have go:∀wb,SpL a b d3 (LP N (m+1) b lim wb ap L):=fun wb=>by
  obtain⟨x1,x2,x3,b1,b2,d',r1,r2,r3⟩:=ih (m+1) b lim wb ap L (by omega) (by omega) hb hl (by rw [l2.1];exact hd) hBL
  exact⟨x1,x2,x3,b1,b2,d',r1,hfin d' r2 r3⟩
 unfold q187_l0_8
 dsimp only
 rw [wS1 (by omega)]
 cases hc:decide (ω .i64 (Int.sub (m:Int) (a:Int))≥ω .i64 (Int.tdiv (ω .i64 (Int.sub (b:Int) (a:Int))) 8)) with
 |true=>exact SpL.congr (goO l1 _) (go true)
 |false=>exact SpL.congr (goO l1 _) (go false)
theorem tail9 {N n:Nat}(hN:N≤49) (ih:IH N n) {a b m lim:Nat}{ap:Bool}{d3 d4:Array Nat}(hn:b-a≤n+1) (h1:a≤m) (h2:m<b) (hb:b≤N) (hl:lim≤64) (hd:d4.size=N) (hBr:Sort.Below ltN (m+1) b d4) (hright:∀L,PermIn (m+1) b d4 L→SortedIn ltN (m+1) b L→Sort.Below ltN a m L∧∀R,PermIn a m L R→SortedIn ltN a m R→PermIn a b d3 R∧SortedIn ltN a b R):SpL a b d3 (q187_l0_9 (b:Int) (m:Int) (a:Int) N (lim:Int) (Ob.mk OK.arr 26 1 1 (rw' d4),[]) ap):=by
 obtain⟨L,l1,l2,l3⟩:=own_of (ih (m+1) b lim true true d4 (by omega) (by omega) hb hl hd hBr)
 obtain⟨hBL,hfin⟩:=hright L l2 l3
 have go:∀wb,SpL a b d3 (LP N a m lim wb ap L):=fun wb=>by
  obtain⟨x1,x2,x3,b1,b2,d',r1,r2,r3⟩:=ih a m lim wb ap L (by omega) h1 (by omega) hl (by rw [l2.1];exact hd) hBL
  exact⟨x1,x2,x3,b1,b2,d',r1,hfin d' r2 r3⟩
 unfold q187_l0_9
 dsimp only
 rw [wS1 (by omega)]
 cases hc:decide (ω .i64 (Int.sub (b:Int) (m:Int))≥ω .i64 (Int.tdiv (ω .i64 (Int.sub (b:Int) (a:Int))) 8)) with
 |true=>exact SpL.congr (goO l1 _) (go true)
 |false=>exact SpL.congr (goO l1 _) (go false)
theorem tail14 {N n:Nat}(hN:N≤49) (ih:IH N n) {a b P lim:Nat}{d3:Array Nat}(hn:b-a≤n+1) (h1:a≤P) (h2:P<b) (hb:b≤N) (hl:lim≤64) (hd:d3.size=N) (hB:Sort.Below ltN a b d3):SpL a b d3 (q187_l0_14 N (a:Int) (b:Int) (P:Int) (rw' d3) (lim:Int)):=by
 obtain⟨c1,c2,c3⟩:=c205 hN hd (show a<b by omega) hb (show P<N by omega)
 obtain⟨g1,g2,hs4,hBa,hBr,hleft,hright⟩:=round_part swoN (partition_holds ltN) h1 h2 (by omega) hB (show partition ltN d3 a b P=((partition ltN d3 a b P).1,(partition ltN d3 a b P).2.1,(partition ltN d3 a b P).2.2) from rfl)
 generalize partition ltN d3 a b P=z at *
 unfold q187_l0_14
 refine SpL.congr (goPt c1 _) ?_
 cases hc:decide (ω .i64 (Int.sub (z.1:Int) (a:Int))<ω .i64 (Int.sub (b:Int) (z.1:Int))) with
 |true=>exact tail8 hN ih hn g1 g2 hb hl c3 hBa hleft
 |false=>exact tail9 hN ih hn g1 g2 hb hl c3 hBr hright
theorem tail15 {N n:Nat}(hN:N≤49) (ih:IH N n) {a b P lim:Nat}{wb wp:Bool}{d3:Array Nat}(hn:b-a≤n+1) (h1:a≤P) (h2:P<b) (hb:b≤N) (hl:lim≤64) (hd:d3.size=N) (hB:Sort.Below ltN a b d3):SpL a b d3 (q187_l0_15 (a:Int) N (rw' d3) (P:Int) (b:Int) (lim:Int) wb wp):=by
 have t14:=tail14 hN ih (lim:=lim) hn h1 h2 hb hl hd hB
 unfold q187_l0_15
 by_cases ha:a>0
 ·have w:ω .i64 (Int.sub (a:Int) 1)=((a-1:Nat):Int):=(wr_sub (b:=1) (by omega) (by omega)).trans (by omega)
  rw [w]
  cases h3:ltN d3[a-1]! d3[P]! with
  |true=>exact SpL.congr ((goD (show(a:Int)>0 by omega) _ _).trans ((ld rfl (show a-1<N by omega) hd _ _ _).trans ((ld rfl (show P<N by omega) hd _ _ _).trans (goT ((c203 _ _).trans (by rw [h3])) _ _)))) t14
  |false =>
   obtain⟨g1,g2,hs4,hB4,hfin⟩:=round_eq swoN (partitionEqual_holds ltN) ha h1 h2 (by omega) hB h3 (show partitionEqual ltN d3 a b P=((partitionEqual ltN d3 a b P).1,(partitionEqual ltN d3 a b P).2) from rfl)
   refine SpL.congr ((goD (show(a:Int)>0 by omega) _ _).trans ((ld rfl (show a-1<N by omega) hd _ _ _).trans ((ld rfl (show P<N by omega) hd _ _ _).trans ((goF ((c203 _ _).trans (by rw [h3])) _ _).trans (goPe (c204 hN hd (show a<b by omega) hb (show P<N by omega)) _))))) ?_
   obtain⟨x1,x2,x3,b1,b2,d',r1,r2,r3⟩:=ih (partitionEqual ltN d3 a b P).1 b lim wb wp (partitionEqual ltN d3 a b P).2 (by omega) g2 hb hl (by omega) hB4
   exact⟨x1,x2,x3,b1,b2,d',r1,hfin d' r2 r3⟩
 ·exact SpL.congr (goDn (show ¬(a:Int)>0 by omega) _ _) t14
theorem SpL.perm {a b:Nat}{d d2:Array Nat}{X:Option (Out×Heap)}(hp:PermIn a b d d2) (h:SpL a b d2 X):SpL a b d X:=by
 obtain⟨x1,x2,x3,b1,b2,d',r1,r2,r3⟩:=h
 exact⟨x1,x2,x3,b1,b2,d',r1,permIn_trans _ _ _ a b hp r2,r3⟩
theorem mid1 {N n:Nat}(hN:N≤49) (ih:IH N n) {a b P lim:Nat}{d2:Array Nat}{x1 x2 x3:Int}{b1 b2:Bool}{Z:List (List AV)}(hn:b-a≤n+1) (h1:a≤P) (h2:P<b) (hb:b≤N) (hl:lim≤64) (hd:d2.size=N) (hB:Sort.Below ltN a b d2) {K:Ob×List Ob→Option (Out×Heap)}(hK:K (Ob.mk OK.arr 26 1 1 (rw' d2),[])=q187_l0_15 (a:Int) N (rw' d2) (P:Int) (b:Int) (lim:Int) true true):SpL a b d2 ((E cx (.own 202) [AR N,vi (a:Int),vi (b:Int)] (HA d2)).bind fun r=>(asRet r).bind fun q=>(AV.bool? q.fst).bind fun c=>(uncons? q.snd).bind fun p=>(obIs (Ob.mk OK.arr 26 1 1 Z) p.fst).bind fun _=>(chk p.fst.ver 1).bind fun _=>(nil? p.snd).bind fun _=>bif c then some (Out.jump JX.ret [vi x1,vi x2,vi x3,vbool b1,vbool b2],[Ob.mk OK.arr 26 1 1 p.fst.es]) else K p):=by
 have hp:=partialInsertionSort_holds swoN d2 a b (by omega) (by omega) hB
 refine SpL.congr (goPb (c202 hN hd (show a<b by omega) hb) _) ?_
 cases hc:(partialInsertionSort ltN d2 a b).2 with
 |true =>
  have e:=part_ins (a:=a) (b:=b) (d:=d2) (by omega)
  have h3:=hp.2 hc
  rw [e] at h3
  exact⟨x1,x2,x3,b1,b2,d2,rfl,permIn_refl _ _ _,h3⟩
 |false =>
  show SpL a b d2 (K (Ob.mk OK.arr 26 1 1 (rw' d2),[]))
  rw [hK]
  exact tail15 hN ih hn h1 h2 hb hl hd hB
theorem view_rw {N:Nat}{d:Array Nat}(hd:d.size=N):List.drop 0 (List.take (Nat.add 0 N) (rw' d))=rw' d:=by
 show List.drop 0 (List.take (0+N) (rw' d))=rw' d
 rw [Nat.zero_add,List.take_of_length_le (by simp [rw',hd])]
 rfl
theorem len_rw (d:Array Nat):ℓ (rw' d)=d.size:=by simp [rw']
end
section
theorem pdq_loop {N:Nat}(hN:N≤49):∀n,IH N n:=by
 intro n
 induction n with
 |zero =>
  intro a b lim wb wp d hn hab hb hl hd hB
  obtain⟨p1,p2⟩:=insertionSort_holds (lt:=ltN) swoN d a b hab (by omega)
  have w:ω .i64 (Int.sub (b:Int) (a:Int))=((b-a:Nat):Int):=(wr_sub (by omega) (by omega)).trans (by omega)
  have st:=f187_l0 (a:Int) (b:Int) (lim:Int) wb wp N (rw' d)
  rw [w] at st
  exact⟨_,_,_,_,_,_,st.trans ((goD (show((b-a:Nat):Int)≤12 by omega) _ _).trans (goO (c197 (by omega) hd hab hb) _)),p1,p2⟩
 |succ n ih =>
  intro a b lim wb wp d hn hab hb hl hd hB
  have w:ω .i64 (Int.sub (b:Int) (a:Int))=((b-a:Nat):Int):=(wr_sub (by omega) (by omega)).trans (by omega)
  have st:=f187_l0 (a:Int) (b:Int) (lim:Int) wb wp N (rw' d)
  rw [w] at st
  by_cases h12:b-a≤12
  ·obtain⟨p1,p2⟩:=insertionSort_holds (lt:=ltN) swoN d a b hab (by omega)
   exact⟨_,_,_,_,_,_,st.trans ((goD (show((b-a:Nat):Int)≤12 by omega) _ _).trans (goO (c197 (by omega) hd hab hb) _)),p1,p2⟩
  have st:=st.trans (goDn (show ¬((b-a:Nat):Int)≤12 by omega) _ _)
  by_cases h0:lim=0
  ·obtain⟨p1,p2⟩:=heapSort_holds (lt:=ltN) swoN d a b hab (by omega)
   exact⟨_,_,_,_,_,_,st.trans ((goD (show(lim:Int)=0 by omega) _ _).trans (goO (c198 (by omega) hd (by omega) hb) _)),p1,p2⟩
  have st:=st.trans (goDn (show ¬(lim:Int)=0 by omega) _ _)
  have wl:ω .i64 (Int.sub (lim:Int) 1)=((lim-1:Nat):Int):=(wr_sub (b:=1) (by omega) (by omega)).trans (by omega)
  have wp1:∀P:Nat,a≤P→P<b→ω .i64 (Int.sub (ω .i64 (Int.sub (b:Int) 1)) (ω .i64 (Int.sub (P:Int) (a:Int))))=((b-1-(P-a):Nat):Int):=fun P h1 h2=>by
   have e1:ω .i64 (Int.sub (b:Int) 1)=((b-1:Nat):Int):=(wr_sub (b:=1) (by omega) (by omega)).trans (by omega)
   have e2:ω .i64 (Int.sub (P:Int) (a:Int))=((P-a:Nat):Int):=(wr_sub (by omega) (by omega)).trans (by omega)
   rw [e1,e2]
   exact(wr_sub (by omega) (by omega)).trans (by omega)
  cases wb with
  |false =>
   have hd1:(breakPatterns d a b).size=N:=by rw [brk_size];exact hd
   have s1:PermIn a b d (breakPatterns d a b):=breakPatterns_holds d a b hab (by omega)
   have hB1:=Sort.Below.perm hB (by omega) s1
   have hc0:=choosePivot_holds ltN (breakPatterns d a b) a b (by omega)
   have hcp:=c200 hN (d:=breakPatterns d a b) hd1 (show a<b by omega) hb
   have st:=st.trans ((goO (c199 hN hd (show a<b by omega) hb) _).trans (goLe (show Nat.add 0 N≤ℓ (rw' (breakPatterns d a b)) by rw [len_rw,hd1];exact Nat.le_of_eq (Nat.zero_add N)) _))
   dsimp only at st
   rw [view_rw hd1] at st
   have st:=st.trans (goT2 hcp _)
   refine SpL.perm s1 (SpL.congr st ?_)
   clear st hcp
   generalize choosePivot ltN (breakPatterns d a b) a b=c at *
   obtain⟨P,H⟩:=c
   have s2:=reverseRange_holds (breakPatterns d a b) a b hab (by omega)
   have hd2:(reverseRange (breakPatterns d a b) a b).size=N:=by rw [reverse_size];exact hd1
   have hB2:=Sort.Below.perm hB1 (by omega) s2
   have t1:=tail15 hN ih (lim:=lim-1) (wb:=false) (wp:=wp) hn hc0.1 hc0.2 hb (by omega) hd1 hB1
   have t2:=tail15 hN ih (P:=b-1-(P-a)) (lim:=lim-1) (wb:=false) (wp:=wp) hn (by have:=hc0.1;have:=hc0.2;simp only at *;omega) (by have:=hc0.1;have:=hc0.2;simp only at *;omega) hb (by omega) hd2 hB2
   rw [←wl] at t1 t2
   rw [←wp1 P hc0.1 hc0.2] at t2
   cases H with
   |decreasing =>
    exact SpL.perm s2 (SpL.congr ((goD (show hintI .decreasing=2 from rfl) _ _).trans (goO (c201 (by omega) hd1 (show a<b by omega) hb) _)) t2)
   |increasing=>exact SpL.congr (goDn (show ¬hintI .increasing=2 by decide) _ _) t1
   |unknown=>exact SpL.congr (goDn (show ¬hintI .unknown=2 by decide) _ _) t1
  |true =>
   have hc0:=choosePivot_holds ltN d a b (by omega)
   have hcp:=c200 hN (d:=d) hd (show a<b by omega) hb
   have st:=st.trans (goLe (show Nat.add 0 N≤ℓ (rw' d) by rw [len_rw,hd];exact Nat.le_of_eq (Nat.zero_add N)) _)
   rw [view_rw hd] at st
   have st:=st.trans (goT2 hcp _)
   refine SpL.congr st ?_
   clear st hcp
   generalize choosePivot ltN d a b=c at *
   obtain⟨P,H⟩:=c
   have s2:=reverseRange_holds d a b hab (by omega)
   have hd2:(reverseRange d a b).size=N:=by rw [reverse_size];exact hd
   have hB2:=Sort.Below.perm hB (by omega) s2
   have g1:a≤b-1-(P-a):=by have:=hc0.1;have:=hc0.2;simp only at *;omega
   have g2:b-1-(P-a)<b:=by have:=hc0.1;have:=hc0.2;simp only at *;omega
   have t1:=tail15 hN ih (lim:=lim) (wb:=true) (wp:=wp) hn hc0.1 hc0.2 hb hl hd hB
   have t2:=tail15 hN ih (P:=b-1-(P-a)) (lim:=lim) (wb:=true) (wp:=wp) hn g1 g2 hb hl hd2 hB2
   rw [←wp1 P hc0.1 hc0.2] at t2
   cases H with
   |decreasing =>
    refine SpL.perm s2 (SpL.congr ((goD (show hintI .decreasing=2 from rfl) _ _).trans (goO (c201 (by omega) hd (show a<b by omega) hb) _)) ?_)
    cases wp with
    |false=>exact t2
    |true=>exact mid1 hN ih hn g1 g2 hb hl hd2 hB2 (by rw [←wp1 P hc0.1 hc0.2];rfl)
   |increasing =>
    refine SpL.congr (goDn (show ¬hintI .increasing=2 by decide) _ _) ?_
    cases wp with
    |false=>exact t1
    |true=>exact mid1 hN ih hn hc0.1 hc0.2 hb hl hd hB rfl
   |unknown =>
    refine SpL.congr (goDn (show ¬hintI .unknown=2 by decide) _ _) ?_
    cases wp<;>exact t1
theorem c161 {d:Array Nat}(hd:d.size≤49):∃d',E cx (.own 161) [AR d.size] (HA d)=OR d'∧d'.toList=d.toList.mergeSort (fun x y=>decide (x≤y)):=by
 obtain⟨d',h1,h2,h3⟩:=own_of (pdq_loop hd d.size 0 d.size (bitsLen d.size) true true d (by omega) (by omega) (Nat.le_refl _) (by have:=(bitsLen_le_iff d.size 6).2 (by omega);omega) rfl (Or.inl rfl))
 refine⟨d',(f161 _ _).trans ?_,?_⟩
 ·rw [wu_id (by omega) (by omega)]
  exact(goI (c151 d.size (by omega)) _).trans (goO h1 _)
 ·have e:=sorted_unique_holds (lt:=ltN) swoN (fun x y h1 h2=>by simp [ltN] at h1 h2;omega) d d' h2 h3
  rw [e]
  congr 1
  funext x y
  by_cases h:x≤y<;>simp [ltN,h]<;>omega
end
end Go.Proofs.Av
