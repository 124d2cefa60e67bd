/- Closed forms, as far as law 19 needs them. -/
import Derived.Test.YtoepfmodbhfckaaAiK19p0
import Derived.Test.YtoepfmodbhfckaaAiX
import Derived.Sort.AssemblyPlain
import Derived.Sort.LotD5
set_option maxRecDepth 100000
namespace Go.Proofs.Av
open Go Go.Sort
open Option renaming bind→Ω
open Go.IntKind renaming i64→ı
open Go.IntKind renaming u64→υ
open Go.IntKind renaming wrap→ω
open UInt8 renaming ofNat→β
open List renaming getElem?_eq_getElem→η
open List renaming length→ℓ
open Option renaming bind_some→χ
open Int renaming toNat→τ
section
theorem f79:∀(raw0:List (List AV)),E cx (Key.fn 79) [AV.list 0 1 raw0] []=Ω (E cx (Key.loop 79 [true,true,false,true,false]) [AV.list 0 2 [],vi 0,AV.list 0 1 raw0] []) fun r1↦Ω (asJump r1) fun j2↦bif JX.is j2.fst (JX.exit 0) then Ω (uncons? j2.snd.fst) fun p3↦Ω (AV.list? 2 p3.fst) fun es4↦Ω (uncons? p3.snd) fun p5↦Ω (AV.int? ı p5.fst) fun _↦Ω (nil? p5.snd) fun _↦Ω (nil? j2.snd.snd) fun _↦some (Out.ret (AV.list 0 2 es4),[]) else none:=by
 intros
 exact(E_in [188,142] _ _ _).trans (by kernel_rfl)
theorem f79_l0:∀(l9:List (List AV)) (x10:Int) (l11:List (List AV)),E cx (Key.loop 79 [true,true,false,true,false]) [AV.list 0 2 l9,vi x10,AV.list 0 1 l11] []=bif decide (x10<((ℓ l11):Int)) then bif decide (x10<60) then if 0≤x10 then Ω l11[τ x10]? fun cs12↦Ω (uncons? cs12) fun p13↦Ω (AV.int? ı p13.fst) fun n14↦Ω (nil? p13.snd) fun _↦Ω (E cx (Key.fn 94) [vi n14,vi 12] []) fun r16↦Ω (ret1 r16) fun v17↦Ω (AV.int? ı v17) fun n18↦if 0≤x10 then Ω l11[τ x10]? fun cs19↦Ω (uncons? cs19) fun p20↦Ω (AV.int? ı p20.fst) fun n21↦Ω (nil? p20.snd) fun _↦Ω (E cx (Key.fn 94) [vi (ω ı (Int.tdiv n21 16)),vi 3] []) fun r23↦Ω (ret1 r23) fun v24↦Ω (AV.int? ı v24) fun n25↦Ω (E cx (Key.fn 82) [AV.list 0 2 l9,AV.list 0 2 [[vu (ω υ n18),vu (ω υ n25)]]] []) fun r26↦Ω (ret1 r26) fun v27↦Ω (AV.tup? v27) fun vs28↦Ω (uncons? vs28) fun p29↦Ω (AV.list? 2 p29.fst) fun es30↦Ω (uncons? p29.snd) fun p31↦Ω (AV.int? ı p31.fst) fun _↦Ω (nil? p31.snd) fun _↦E cx (Key.loop 79 [true,true,false,true,false]) [AV.list 0 2 es30,vi (ω ı (Int.add x10 1)),AV.list 0 1 l11] [] else none else none else some (Out.jump (JX.exit 0) [AV.list 0 2 l9,vi x10],[]) else some (Out.jump (JX.exit 0) [AV.list 0 2 l9,vi x10],[]):=by
 intros
 exact(E_in [188,142] _ _ _).trans (by kernel_rfl)
theorem f80:∀(raw34:List (List AV)),E cx (Key.fn 80) [AV.list 0 1 raw34] []=Ω (E cx (Key.loop 80 [true,true,true,false,true,false]) [AV.arr 1 1 0 0,vi 0,AV.list 0 1 raw34,AV.ptr 0 1 0 0] [Ob.mk OK.arr 161 1 1 [[vbool false],[vbool false],[vbool false],[vbool false],[vbool false],[vbool false],[vbool false],[vbool false],[vbool false],[vbool false],[vbool false],[vbool false]],Ob.mk OK.arr 26 1 1 []]) fun r35↦Ω (asJump r35) fun j36↦bif JX.is j36.fst (JX.exit 0) then Ω (uncons? j36.snd.fst) fun p37↦Ω (AV.arr? 1 p37.fst) fun x38↦Ω (chk x38.fst 1) fun _↦Ω (uncons? p37.snd) fun p40↦Ω (AV.int? ı p40.fst) fun _↦Ω (nil? p40.snd) fun _↦Ω (uncons? j36.snd.snd) fun p43↦Ω (obIs (Ob.mk OK.arr 161 1 1 [[vbool false],[vbool false],[vbool false],[vbool false],[vbool false],[vbool false],[vbool false],[vbool false],[vbool false],[vbool false],[vbool false],[vbool false]]) p43.fst) fun _↦Ω (chk p43.fst.ver 1) fun _↦Ω (uncons? p43.snd) fun p46↦Ω (obIs (Ob.mk OK.arr 26 1 1 []) p46.fst) fun _↦Ω (chk p46.fst.ver 1) fun _↦Ω (nil? p46.snd) fun _↦Ω (chkLe (Nat.add x38.snd.fst x38.snd.snd) (ℓ p46.fst.es)) fun _↦some (Out.ret (AV.list 0 1 (List.drop x38.snd.fst (List.take (Nat.add x38.snd.fst x38.snd.snd) p46.fst.es))),[]) else none:=by
 intros
 exact(E_in [188,142] _ _ _).trans (by kernel_rfl)
theorem f80_l0:∀(n51:Nat) (x52:Int) (l53 l54 l55:List (List AV)),E cx (Key.loop 80 [true,true,true,false,true,false]) [AV.arr 1 1 0 n51,vi x52,AV.list 0 1 l53,AV.ptr 0 1 0 0] [Ob.mk OK.arr 161 1 1 l54,Ob.mk OK.arr 26 1 1 l55]=bif decide (x52<((ℓ l53):Int)) then bif decide (x52<12) then if 0≤x52 then Ω l53[τ x52]? fun cs56↦Ω (uncons? cs56) fun p57↦Ω (AV.int? ı p57.fst) fun n58↦Ω (nil? p57.snd) fun _↦Ω (E cx (Key.fn 94) [vi n58,vi 12] []) fun r60↦Ω (ret1 r60) fun v61↦Ω (AV.int? ı v61) fun n62↦if 0≤n62 then if n62<12 then Ω (nth l54 (Nat.add 0 (τ n62))) fun cs63↦Ω (uncons? cs63) fun p64↦Ω (AV.bool? p64.fst) fun b65↦Ω (nil? p64.snd) fun _↦bif !b65 then if 0≤n62 then if n62<12 then Ω (nth l54 (Nat.add 0 (τ n62))) fun cs67↦Ω (uncons? cs67) fun p68↦Ω (AV.bool? p68.fst) fun _↦Ω (nil? p68.snd) fun _↦Ω (chk n51 (ℓ (Ob.mk OK.arr 26 1 1 l55).es)) fun _↦if Nat.mul (Nat.add (ℓ (Ob.mk OK.arr 26 1 1 l55).es) 1) 8≤140737488355328 then E cx (Key.loop 80 [true,true,true,false,true,false]) [AV.arr 1 1 0 (Nat.add (ℓ (Ob.mk OK.arr 26 1 1 l55).es) 1),vi (ω ı (Int.add x52 1)),AV.list 0 1 l53,AV.ptr 0 1 0 0] [Ob.mk OK.arr 161 1 1 (List.set l54 (Nat.add 0 (τ n62)) [vbool true]),Ob.mk OK.arr 26 1 1 ((Ob.mk OK.arr 26 1 1 l55).es++[[vu (ω υ n62)]])] else none else none else none else E cx (Key.loop 80 [true,true,true,false,true,false]) [AV.arr 1 1 0 n51,vi (ω ı (Int.add x52 1)),AV.list 0 1 l53,AV.ptr 0 1 0 0] [Ob.mk OK.arr 161 1 1 l54,Ob.mk OK.arr 26 1 1 l55] else none else none else none else some (Out.jump (JX.exit 0) [AV.arr 1 1 0 n51,vi x52],[Ob.mk OK.arr 161 1 1 l54,Ob.mk OK.arr 26 1 1 l55]) else some (Out.jump (JX.exit 0) [AV.arr 1 1 0 n51,vi x52],[Ob.mk OK.arr 161 1 1 l54,Ob.mk OK.arr 26 1 1 l55]):=by
 intros
 exact(E_in [188,142] _ _ _).trans (by kernel_rfl)
theorem f81:∀(table72 l73:List (List AV)),E cx (Key.fn 81) [AV.list 0 2 table72,AV.list 0 2 l73] []=Ω (E cx (Key.fn 83) [AV.list 0 2 table72] []) fun r74↦Ω (ret1 r74) fun v75↦Ω (AV.bool? v75) fun b76↦bif b76 then Ω (E cx (Key.own 133) [AV.list 0 1 [[AV.list 0 2 table72],[AV.list 0 2 l73]]] []) fun r77↦Ω (asRet r77) fun x78↦Ω (AV.arr? 0 x78.fst) fun x79↦Ω (chk x79.fst 2) fun _↦Ω (uncons? x78.snd) fun p81↦Ω (obIs (Ob.mk OK.arr 80 2 2 []) p81.fst) fun _↦Ω (chk p81.fst.ver 2) fun _↦Ω (nil? p81.snd) fun _↦Ω (chkLe (Nat.add x79.snd.fst x79.snd.snd) (ℓ (Ob.mk OK.arr 80 2 2 p81.fst.es).es)) fun _↦if x79.snd.snd≤4611686018427387903 then Ω (sortPP [AV.func (Fn.func 134) [] []] (List.drop x79.snd.fst (List.take (Nat.add x79.snd.fst x79.snd.snd) (Ob.mk OK.arr 80 2 2 p81.fst.es).es))) fun zs86↦Ω (E cx (Key.own 135) [AV.arr 0 2 x79.snd.fst x79.snd.snd] [Ob.mk OK.arr 80 2 2 (List.take x79.snd.fst (Ob.mk OK.arr 80 2 2 p81.fst.es).es++zs86++List.drop (Nat.add x79.snd.fst x79.snd.snd) (Ob.mk OK.arr 80 2 2 p81.fst.es).es)]) fun r87↦Ω (asRet r87) fun x88↦Ω (AV.arr? 0 x88.fst) fun x89↦Ω (chk x89.fst 2) fun _↦Ω (uncons? x88.snd) fun p91↦Ω (obIs (Ob.mk OK.arr 80 2 2 []) p91.fst) fun _↦Ω (chk p91.fst.ver 2) fun _↦Ω (nil? p91.snd) fun _↦bif decide ((x89.snd.snd:Int)>4096) then some (Out.ret (AV.tuple [AV.val (Value.slice none 0 0),vi 4]),[]) else Ω (chkLe (Nat.add x89.snd.fst x89.snd.snd) (ℓ p91.fst.es)) fun _↦some (Out.ret (AV.tuple [AV.list 0 2 (List.drop x89.snd.fst (List.take (Nat.add x89.snd.fst x89.snd.snd) p91.fst.es)),vi 0]),[]) else none else some (Out.ret (AV.tuple [AV.val (Value.slice none 0 0),vi 1]),[]):=by
 intros
 exact(E_in [188,142] _ _ _).trans (by kernel_rfl)
theorem f81_c0:∀(l96:List (List AV)),E cx (Key.own 133) [AV.list 0 1 l96] []=Ω (E cx (Key.loop 133 [true,true,false,true,false]) [vi 0,vi 0,AV.list 0 1 l96,AV.list 0 1 l96,vi ((ℓ l96):Int)] []) fun r97↦Ω (asJump r97) fun j98↦bif JX.is j98.fst (JX.exit 0) then Ω (uncons? j98.snd.fst) fun p99↦Ω (AV.int? ı p99.fst) fun n100↦Ω (uncons? p99.snd) fun p101↦Ω (AV.int? ı p101.fst) fun _↦Ω (nil? p101.snd) fun _↦Ω (nil? j98.snd.snd) fun _↦Ω (growP [AV.val (Value.slice none 0 0),vi n100]) fun ys105↦bif ysOk ys105 then if Nat.mul (Nat.add 0 (ℓ ys105)) 16≤140737488355328 then Ω (E cx (Key.loop 133 [true,true,true,true,false,true,false]) [AV.arr 0 2 0 (Nat.add 0 (ℓ ys105)),vi 0,AV.list 0 1 l96,vi ((ℓ l96):Int)] [Ob.mk OK.arr 80 2 2 ([]++ys105)]) fun r106↦Ω (asJump r106) fun j107↦bif JX.is j107.fst (JX.exit 2) then Ω (uncons? j107.snd.fst) fun p108↦Ω (AV.arr? 0 p108.fst) fun x109↦Ω (chk x109.fst 2) fun _↦Ω (uncons? p108.snd) fun p111↦Ω (AV.int? ı p111.fst) fun _↦Ω (nil? p111.snd) fun _↦Ω (uncons? j107.snd.snd) fun p114↦Ω (obIs (Ob.mk OK.arr 80 2 2 ([]++ys105)) p114.fst) fun _↦Ω (chk p114.fst.ver 2) fun _↦Ω (nil? p114.snd) fun _↦some (Out.ret (AV.arr 0 2 x109.snd.fst x109.snd.snd),[Ob.mk OK.arr 80 2 2 p114.fst.es]) else none else none else none else none:=by
 intros
 exact(E_in [188,142] _ _ _).trans (by kernel_rfl)
theorem f81_c0_l1:∀(x118 x119:Int) (l120 l121:List (List AV)) (x122:Int),E cx (Key.loop 133 [true,true,false,true,false]) [vi x118,vi x119,AV.list 0 1 l120,AV.list 0 1 l121,vi x122] []=bif decide (x119<x122) then if 0≤x119 then Ω l121[τ x119]? fun cs123↦Ω (uncons? cs123) fun p124↦Ω (AV.list? 2 p124.fst) fun es125↦Ω (nil? p124.snd) fun _↦bif decide (ω ı (Int.add x118 ((ℓ es125):Int))<0) then some (Out.jump (JX.pan (AV.iface 9 (vs (ByteArray.mk (Array.mk [β 108,β 101,β 110,β 32,β 111,β 117,β 116,β 32,β 111,β 102,β 32,β 114,β 97,β 110,β 103,β 101]))))) [vi (ω ı (Int.add x118 ((ℓ es125):Int))),vi x119],[]) else E cx (Key.loop 133 [true,true,false,true,false]) [vi (ω ı (Int.add x118 ((ℓ es125):Int))),vi (ω ı (Int.add x119 1)),AV.list 0 1 l120,AV.list 0 1 l121,vi x122] [] else none else some (Out.jump (JX.exit 0) [vi x118,vi x119],[]):=by
 intros
 exact(E_in [188,142] _ _ _).trans (by kernel_rfl)
theorem f81_c0_l2:∀(n127:Nat) (x128:Int) (l129:List (List AV)) (x130:Int) (l131:List (List AV)),E cx (Key.loop 133 [true,true,true,true,false,true,false]) [AV.arr 0 2 0 n127,vi x128,AV.list 0 1 l129,vi x130] [Ob.mk OK.arr 80 2 2 l131]=bif decide (x128<x130) then if 0≤x128 then Ω l129[τ x128]? fun cs132↦Ω (uncons? cs132) fun p133↦Ω (AV.list? 2 p133.fst) fun es134↦Ω (nil? p133.snd) fun _↦bif ysOk es134 then Ω (chk n127 (ℓ (Ob.mk OK.arr 80 2 2 l131).es)) fun _↦if Nat.mul (Nat.add (ℓ (Ob.mk OK.arr 80 2 2 l131).es) (ℓ es134)) 16≤140737488355328 then E cx (Key.loop 133 [true,true,true,true,false,true,false]) [AV.arr 0 2 0 (Nat.add (ℓ (Ob.mk OK.arr 80 2 2 l131).es) (ℓ es134)),vi (ω ı (Int.add x128 1)),AV.list 0 1 l129,vi x130] [Ob.mk OK.arr 80 2 2 ((Ob.mk OK.arr 80 2 2 l131).es++es134)] else none else none else none else some (Out.jump (JX.exit 2) [AV.arr 0 2 0 n127,vi x128],[Ob.mk OK.arr 80 2 2 l131]):=by
 intros
 exact(E_in [188,142] _ _ _).trans (by kernel_rfl)
theorem f82:∀(table137 l138:List (List AV)),E cx (Key.fn 82) [AV.list 0 2 table137,AV.list 0 2 l138] []=Ω (E cx (Key.fn 84) [AV.list 0 2 table137] []) fun r139↦Ω (ret1 r139) fun v140↦Ω (AV.bool? v140) fun b141↦bif b141 then bif ysOk table137 then if Nat.mul (Nat.add 0 (ℓ table137)) 16≤140737488355328 then Ω (chkLe (Nat.add 0 (Nat.add 0 (ℓ table137))) (ℓ ([]++table137))) fun _↦Ω (E cx (Key.loop 82 [true,true,true,true,false,true,false]) [AV.list 0 2 (List.drop 0 (List.take (Nat.add 0 (Nat.add 0 (ℓ table137))) ([]++table137))),vi 0,AV.list 0 2 l138] [Ob.mk OK.dead 80 2 2 []]) fun r143↦Ω (asJump r143) fun j144↦bif JX.is j144.fst (JX.exit 0) then Ω (uncons? j144.snd.fst) fun p145↦Ω (AV.list? 2 p145.fst) fun es146↦Ω (uncons? p145.snd) fun p147↦Ω (AV.int? ı p147.fst) fun _↦Ω (nil? p147.snd) fun _↦Ω (uncons? j144.snd.snd) fun p150↦Ω (obIs (Ob.mk OK.dead 80 2 2 []) p150.fst) fun _↦Ω (chk p150.fst.ver 2) fun _↦Ω (nil? p150.snd) fun _↦bif decide (((ℓ es146):Int)>4096) then some (Out.ret (AV.tuple [AV.val (Value.slice none 0 0),vi 4]),[]) else some (Out.ret (AV.tuple [AV.list 0 2 es146,vi 0]),[]) else none else none else none else some (Out.ret (AV.tuple [AV.val (Value.slice none 0 0),vi 1]),[]):=by
 intros
 exact(E_in [188,142] _ _ _).trans (by kernel_rfl)
theorem f82_l0:∀(l154:List (List AV)) (x155:Int) (l156:List (List AV)),E cx (Key.loop 82 [true,true,true,true,false,true,false]) [AV.list 0 2 l154,vi x155,AV.list 0 2 l156] [Ob.mk OK.dead 80 2 2 []]=bif decide (x155<((ℓ l156):Int)) then if 0≤x155 then Ω l156[τ x155]? fun cs157↦Ω (uncons? cs157) fun p158↦Ω (AV.int? υ p158.fst) fun n159↦Ω (uncons? p158.snd) fun p160↦Ω (AV.int? υ p160.fst) fun n161↦Ω (nil? p160.snd) fun _↦Ω (E cx (Key.fn 136) [AV.list 0 2 l154,AV.agg [vu n159,vu n161]] []) fun r163↦Ω (ret1 r163) fun v164↦Ω (AV.bool? v164) fun b165↦bif b165 then E cx (Key.loop 82 [true,true,true,true,false,true,false]) [AV.list 0 2 l154,vi (ω ı (Int.add x155 1)),AV.list 0 2 l156] [Ob.mk OK.dead 80 2 2 []] else if 0≤x155 then Ω l156[τ x155]? fun cs166↦Ω (uncons? cs166) fun p167↦Ω (AV.int? υ p167.fst) fun n168↦Ω (uncons? p167.snd) fun p169↦Ω (AV.int? υ p169.fst) fun n170↦Ω (nil? p169.snd) fun _↦Ω (E cx (Key.fn 137) [AV.list 0 2 l154,AV.agg [vu n168,vu n170]] []) fun r172↦Ω (ret1 r172) fun v173↦Ω (AV.list? 2 v173) fun es174↦E cx (Key.loop 82 [true,true,true,true,false,true,false]) [AV.list 0 2 es174,vi (ω ı (Int.add x155 1)),AV.list 0 2 l156] [Ob.mk OK.dead 80 2 2 []] else none else none else some (Out.jump (JX.exit 0) [AV.list 0 2 l154,vi x155],[Ob.mk OK.dead 80 2 2 []]):=by
 intros
 exact(E_in [188,142] _ _ _).trans (by kernel_rfl)
theorem f83:∀(table175:List (List AV)),E cx (Key.fn 83) [AV.list 0 2 table175] []=Ω (E cx (Key.loop 83 [true,false,true,false]) [vbool false,vi 0,AV.list 0 2 table175,vi ((ℓ table175):Int)] []) fun r176↦Ω (asJump r176) fun j177↦bif JX.is j177.fst (JX.exit 0) then Ω (uncons? j177.snd.fst) fun p178↦Ω (AV.bool? p178.fst) fun _↦Ω (uncons? p178.snd) fun p180↦Ω (AV.int? ı p180.fst) fun _↦Ω (nil? p180.snd) fun _↦Ω (nil? j177.snd.snd) fun _↦bif decide (((ℓ table175):Int)≤4096) then some (Out.ret (vbool true),[]) else some (Out.ret (vbool false),[]) else bif JX.is j177.fst JX.ret then Ω (uncons? j177.snd.fst) fun p184↦Ω (AV.bool? p184.fst) fun b185↦Ω (uncons? p184.snd) fun p186↦Ω (AV.int? ı p186.fst) fun _↦Ω (nil? p186.snd) fun _↦Ω (nil? j177.snd.snd) fun _↦some (Out.ret (vbool b185),[]) else none:=by
 intros
 exact(E_in [188,142] _ _ _).trans (by kernel_rfl)
theorem f83_l0:∀(b190:Bool) (x191:Int) (l192:List (List AV)) (x193:Int),E cx (Key.loop 83 [true,false,true,false]) [vbool b190,vi x191,AV.list 0 2 l192,vi x193] []=bif decide (x191<x193) then bif decide (x191>0) then if 0≤ω ı (Int.sub x191 1) then Ω l192[τ (ω ı (Int.sub x191 1))]? fun cs194↦Ω (uncons? cs194) fun p195↦Ω (AV.int? υ p195.fst) fun n196↦Ω (uncons? p195.snd) fun p197↦Ω (AV.int? υ p197.fst) fun n198↦Ω (nil? p197.snd) fun _↦if 0≤x191 then Ω l192[τ x191]? fun cs200↦Ω (uncons? cs200) fun p201↦Ω (AV.int? υ p201.fst) fun n202↦Ω (uncons? p201.snd) fun p203↦Ω (AV.int? υ p203.fst) fun n204↦Ω (nil? p203.snd) fun _↦Ω (E cx (Key.fn 134) [AV.agg [vu n196,vu n198],AV.agg [vu n202,vu n204]] []) fun r206↦Ω (ret1 r206) fun v207↦Ω (AV.int? ı v207) fun n208↦bif decide (n208≥0) then some (Out.jump JX.ret [vbool false,vi x191],[]) else E cx (Key.loop 83 [true,false,true,false]) [vbool b190,vi (ω ı (Int.add x191 1)),AV.list 0 2 l192,vi x193] [] else none else none else E cx (Key.loop 83 [true,false,true,false]) [vbool b190,vi (ω ı (Int.add x191 1)),AV.list 0 2 l192,vi x193] [] else some (Out.jump (JX.exit 0) [vbool b190,vi x191],[]):=by
 intros
 exact(E_in [188,142] _ _ _).trans (by kernel_rfl)
theorem f84:∀(table209:List (List AV)),E cx (Key.fn 84) [AV.list 0 2 table209] []=Ω (E cx (Key.loop 84 [true,false,true,false]) [vbool false,vi 1,AV.list 0 2 table209] []) fun r210↦Ω (asJump r210) fun j211↦bif JX.is j211.fst (JX.exit 0) then Ω (uncons? j211.snd.fst) fun p212↦Ω (AV.bool? p212.fst) fun _↦Ω (uncons? p212.snd) fun p214↦Ω (AV.int? ı p214.fst) fun _↦Ω (nil? p214.snd) fun _↦Ω (nil? j211.snd.snd) fun _↦bif decide (((ℓ table209):Int)≤4096) then some (Out.ret (vbool true),[]) else some (Out.ret (vbool false),[]) else bif JX.is j211.fst JX.ret then Ω (uncons? j211.snd.fst) fun p218↦Ω (AV.bool? p218.fst) fun b219↦Ω (uncons? p218.snd) fun p220↦Ω (AV.int? ı p220.fst) fun _↦Ω (nil? p220.snd) fun _↦Ω (nil? j211.snd.snd) fun _↦some (Out.ret (vbool b219),[]) else none:=by
 intros
 exact(E_in [188,142] _ _ _).trans (by kernel_rfl)
theorem f84_l0:∀(b224:Bool) (x225:Int) (l226:List (List AV)),E cx (Key.loop 84 [true,false,true,false]) [vbool b224,vi x225,AV.list 0 2 l226] []=bif decide (x225<((ℓ l226):Int)) then if 0≤ω ı (Int.sub x225 1) then Ω l226[τ (ω ı (Int.sub x225 1))]? fun cs227↦Ω (uncons? cs227) fun p228↦Ω (AV.int? υ p228.fst) fun n229↦Ω (uncons? p228.snd) fun p230↦Ω (AV.int? υ p230.fst) fun n231↦Ω (nil? p230.snd) fun _↦if 0≤x225 then Ω l226[τ x225]? fun cs233↦Ω (uncons? cs233) fun p234↦Ω (AV.int? υ p234.fst) fun n235↦Ω (uncons? p234.snd) fun p236↦Ω (AV.int? υ p236.fst) fun n237↦Ω (nil? p236.snd) fun _↦Ω (E cx (Key.fn 105) [AV.agg [vu n229,vu n231],AV.agg [vu n235,vu n237]] []) fun r239↦Ω (ret1 r239) fun v240↦Ω (AV.bool? v240) fun b241↦bif b241 then E cx (Key.loop 84 [true,false,true,false]) [vbool b224,vi (ω ı (Int.add x225 1)),AV.list 0 2 l226] [] else some (Out.jump JX.ret [vbool false,vi x225],[]) else none else none else some (Out.jump (JX.exit 0) [vbool b224,vi x225],[]):=by
 intros
 exact(E_in [188,142] _ _ _).trans (by kernel_rfl)
theorem f85:∀(table242:List (List AV)) (p243 p244:Int),E cx (Key.fn 85) [AV.list 0 2 table242,AV.agg [vu p243,vu p244]] []=Ω (E cx (Key.fn 83) [AV.list 0 2 table242] []) fun r245↦Ω (ret1 r245) fun v246↦Ω (AV.bool? v246) fun b247↦bif b247 then Ω (E cx (Key.fn 138) [AV.list 0 2 table242,AV.agg [vu p243,vu p244]] []) fun r248↦Ω (ret1 r248) fun v249↦Ω (AV.bool? v249) fun b250↦bif b250 then some (Out.ret (vbool true),[]) else some (Out.ret (vbool false),[]) else some (Out.ret (vbool false),[]):=by
 intros
 exact(E_in [188,142] _ _ _).trans (by kernel_rfl)
theorem f87:∀(a260 b261:List (List AV)),E cx (Key.fn 87) [AV.list 0 2 a260,AV.list 0 2 b261] []=Ω (E cx (Key.fn 47) [AV.agg [vbool false,AV.list 0 2 a260],AV.agg [vbool false,AV.list 0 2 b261]] []) fun r262↦Ω (ret1 r262) fun v263↦Ω (AV.bool? v263) fun b264↦bif b264 then some (Out.ret (vbool true),[]) else some (Out.ret (vbool false),[]):=by
 intros
 exact(E_in [188,142] _ _ _).trans (by kernel_rfl)
theorem f91:∀(table514 l515:List (List AV)),E cx (Key.fn 91) [AV.list 0 2 table514,AV.list 0 4 l515] []=Ω (E cx (Key.fn 139) [AV.list 0 4 l515,AV.func (Fn.func 140) [] [AV.rop [AV.list 0 2 table514]]] []) fun r516↦Ω (ret1 r516) fun v517↦Ω (AV.bool? v517) fun b518↦bif b518 then some (Out.ret (vbool false),[]) else some (Out.ret (vbool true),[]):=by
 intros
 exact(E_in [188,142] _ _ _).trans (by kernel_rfl)
theorem f91_c0:∀(l519 l520:List (List AV)),E cx (Key.fn 139) [AV.list 0 4 l519,AV.func (Fn.func 140) [] [AV.rop [AV.list 0 2 l520]]] []=Ω (E cx (Key.fn 159) [AV.list 0 4 l519,AV.func (Fn.func 140) [] [AV.rop [AV.list 0 2 l520]]] []) fun r521↦Ω (ret1 r521) fun v522↦Ω (AV.int? ı v522) fun n523↦bif decide (n523≥0) then some (Out.ret (vbool true),[]) else some (Out.ret (vbool false),[]):=by
 intros
 exact(E_in [188,142] _ _ _).trans (by kernel_rfl)
theorem f91_c0_c1:∀(l524 l525:List (List AV)),E cx (Key.fn 159) [AV.list 0 4 l524,AV.func (Fn.func 140) [] [AV.rop [AV.list 0 2 l525]]] []=Ω (E cx (Key.loop 159 [true,false,true,false]) [vi 0,vi 0,AV.list 0 4 l524,AV.func (Fn.func 140) [] [AV.rop [AV.list 0 2 l525]],vi ((ℓ l524):Int)] []) fun r526↦Ω (asJump r526) fun j527↦bif JX.is j527.fst (JX.exit 0) then Ω (uncons? j527.snd.fst) fun p528↦Ω (AV.int? ı p528.fst) fun _↦Ω (uncons? p528.snd) fun p530↦Ω (AV.int? ı p530.fst) fun _↦Ω (nil? p530.snd) fun _↦Ω (nil? j527.snd.snd) fun _↦some (Out.ret (vi (-1)),[]) else bif JX.is j527.fst JX.ret then Ω (uncons? j527.snd.fst) fun p534↦Ω (AV.int? ı p534.fst) fun n535↦Ω (uncons? p534.snd) fun p536↦Ω (AV.int? ı p536.fst) fun _↦Ω (nil? p536.snd) fun _↦Ω (nil? j527.snd.snd) fun _↦some (Out.ret (vi n535),[]) else none:=by
 intros
 exact(E_in [188,142] _ _ _).trans (by kernel_rfl)
theorem f91_c0_c1_l2:∀(x540 x541:Int) (l542 l543:List (List AV)) (x544:Int),E cx (Key.loop 159 [true,false,true,false]) [vi x540,vi x541,AV.list 0 4 l542,AV.func (Fn.func 140) [] [AV.rop [AV.list 0 2 l543]],vi x544] []=bif decide (x541<x544) then if 0≤x541 then Ω l542[τ x541]? fun cs545↦Ω (uncons? cs545) fun p546↦Ω (AV.list? 1 p546.fst) fun es547↦Ω (uncons? p546.snd) fun p548↦Ω (AV.int? υ p548.fst) fun n549↦Ω (uncons? p548.snd) fun p550↦Ω (AV.bool? p550.fst) fun b551↦Ω (uncons? p550.snd) fun p552↦Ω (AV.list? 2 p552.fst) fun es553↦Ω (nil? p552.snd) fun _↦Ω (E cx (Key.fn 140) [AV.agg [AV.list 0 1 es547,vu n549,vbool b551,AV.list 0 2 es553],AV.rop [AV.list 0 2 l543]] []) fun r555↦Ω (ret1 r555) fun v556↦Ω (AV.bool? v556) fun b557↦bif b557 then some (Out.jump JX.ret [vi x541,vi x541],[]) else E cx (Key.loop 159 [true,false,true,false]) [vi x540,vi (ω ı (Int.add x541 1)),AV.list 0 4 l542,AV.func (Fn.func 140) [] [AV.rop [AV.list 0 2 l543]],vi x544] [] else none else some (Out.jump (JX.exit 0) [vi x540,vi x541],[]):=by
 intros
 exact(E_in [188,142] _ _ _).trans (by kernel_rfl)
theorem f93:∀(root591:Int) (keys592:List (List AV)),E cx (Key.fn 93) [vu root591,AV.list 0 1 keys592] []=bif decide (((ℓ keys592):Int)>2048) then some (Out.ret (AV.tuple [AV.agg [vbool false,AV.val (Value.slice none 0 0)],vi 4]),[]) else Ω (E cx (Key.fn 141) [AV.func (Fn.func 162) [] [AV.rop [AV.list 0 1 keys592]]] []) fun r593↦Ω (ret1 r593) fun v594↦Ω (AV.list? 1 v594) fun es595↦Ω (E cx (Key.loop 93 [true,true,false,true,false]) [vi 0,vu root591,AV.ptr 0 0 0 0,AV.list 0 1 es595,vi ((ℓ es595):Int)] [Ob.mk OK.box 36 2 0 [[vbool false,AV.arr 1 2 0 0]],Ob.mk OK.arr 80 2 2 []]) fun r596↦Ω (asJump r596) fun j597↦bif JX.is j597.fst (JX.exit 0) then Ω (uncons? j597.snd.fst) fun p598↦Ω (AV.int? ı p598.fst) fun _↦Ω (nil? p598.snd) fun _↦Ω (uncons? j597.snd.snd) fun p601↦Ω (obIs (Ob.mk OK.box 36 2 0 [[vbool false,AV.arr 1 2 0 0]]) p601.fst) fun _↦Ω (chk p601.fst.ver 0) fun _↦Ω (uncons? p601.fst.es) fun p604↦Ω (nil? p604.snd) fun _↦Ω (uncons? p604.fst) fun p606↦Ω (AV.bool? p606.fst) fun b607↦Ω (uncons? p606.snd) fun p608↦Ω (AV.arr? 1 p608.fst) fun x609↦Ω (chk x609.fst 2) fun _↦Ω (nil? p608.snd) fun _↦Ω (uncons? p601.snd) fun p612↦Ω (obIs (Ob.mk OK.arr 80 2 2 []) p612.fst) fun _↦Ω (chk p612.fst.ver 2) fun _↦Ω (nil? p612.snd) fun _↦Ω (chkLe (Nat.add x609.snd.fst x609.snd.snd) (ℓ p612.fst.es)) fun _↦some (Out.ret (AV.tuple [AV.agg [vbool b607,AV.list 0 2 (List.drop x609.snd.fst (List.take (Nat.add x609.snd.fst x609.snd.snd) p612.fst.es))],vi 0]),[]) else none:=by
 intros
 exact(E_in [188,142] _ _ _).trans (by kernel_rfl)
theorem f93_c0:∀(l617:List (List AV)),E cx (Key.fn 141) [AV.func (Fn.func 162) [] [AV.rop [AV.list 0 1 l617]]] []=Ω (collP 162 [AV.func (Fn.func 162) [] [AV.rop [AV.list 0 1 l617]]]) fun ys618↦bif ysOk ys618 then if Nat.mul (Nat.add 0 (ℓ ys618)) 8≤140737488355328 then Ω (E cx (Key.own 161) [AV.arr 0 1 0 (Nat.add 0 (ℓ ys618))] [Ob.mk OK.arr 26 1 1 ([]++ys618)]) fun r619↦Ω (asRet r619) fun x620↦Ω (AV.tup? x620.fst) fun vs621↦Ω (nil? vs621) fun _↦Ω (uncons? x620.snd) fun p623↦Ω (obIs (Ob.mk OK.arr 26 1 1 []) p623.fst) fun _↦Ω (chk p623.fst.ver 1) fun _↦Ω (nil? p623.snd) fun _↦Ω (chkLe (Nat.add 0 (Nat.add 0 (ℓ ys618))) (ℓ p623.fst.es)) fun _↦some (Out.ret (AV.list 0 1 (List.drop 0 (List.take (Nat.add 0 (Nat.add 0 (ℓ ys618))) p623.fst.es))),[]) else none else none:=by
 intros
 exact(E_in [188,142] _ _ _).trans (by kernel_rfl)
theorem f93_l1:∀(x628 x629:Int) (l630:List (List AV)) (x631:Int) (b632:Bool) (n633:Nat) (l634:List (List AV)),E cx (Key.loop 93 [true,true,false,true,false]) [vi x628,vu x629,AV.ptr 0 0 0 0,AV.list 0 1 l630,vi x631] [Ob.mk OK.box 36 2 0 [[vbool b632,AV.arr 1 2 0 n633]],Ob.mk OK.arr 80 2 2 l634]=bif decide (x628<x631) then if 0≤x628 then Ω l630[τ x628]? fun cs635↦Ω (uncons? cs635) fun p636↦Ω (AV.int? υ p636.fst) fun n637↦Ω (nil? p636.snd) fun _↦Ω (chk n633 (ℓ (Ob.mk OK.arr 80 2 2 l634).es)) fun _↦if Nat.mul (Nat.add (ℓ (Ob.mk OK.arr 80 2 2 l634).es) 1) 16≤140737488355328 then E cx (Key.loop 93 [true,true,false,true,false]) [vi (ω ı (Int.add x628 1)),vu x629,AV.ptr 0 0 0 0,AV.list 0 1 l630,vi x631] [Ob.mk OK.box 36 2 0 [[vbool b632,AV.arr 1 2 0 (Nat.add (ℓ (Ob.mk OK.arr 80 2 2 l634).es) 1)]],Ob.mk OK.arr 80 2 2 ((Ob.mk OK.arr 80 2 2 l634).es++[[vu n637,vu x629]])] else none else none else some (Out.jump (JX.exit 0) [vi x628],[Ob.mk OK.box 36 2 0 [[vbool b632,AV.arr 1 2 0 n633]],Ob.mk OK.arr 80 2 2 l634]):=by
 intros
 exact(E_in [188,142] _ _ _).trans (by kernel_rfl)
theorem f94:∀(c640 n641:Int),E cx (Key.fn 94) [vi c640,vi n641] []=bif decide (c640<0) then if n641=0 then none else some (Out.ret (vi (Int.tmod (ω ı (Int.sub 0 (ω ı (Int.add c640 1)))) n641)),[]) else if n641=0 then none else some (Out.ret (vi (Int.tmod c640 n641)),[]):=by
 intros
 exact(E_in [188,142] _ _ _).trans (by kernel_rfl)
theorem f134:∀(a642 a643 b644 b645:Int),E cx (Key.fn 134) [AV.agg [vu a642,vu a643],AV.agg [vu b644,vu b645]] []=Ω (E cx (Key.fn 148) [vu a642,vu b644] []) fun r646↦Ω (ret1 r646) fun v647↦Ω (AV.int? ı v647) fun n648↦Ω (E cx (Key.fn 148) [vu a643,vu b645] []) fun r649↦Ω (ret1 r649) fun v650↦Ω (AV.int? ı v650) fun n651↦Ω (E cx (Key.fn 147) [AV.list 0 1 [[vi n648],[vi n651]]] []) fun r652↦Ω (ret1 r652) fun v653↦Ω (AV.int? ı v653) fun n654↦some (Out.ret (vi n654),[]):=by
 intros
 exact(E_in [188,142] _ _ _).trans (by kernel_rfl)
theorem f136:∀(l655:List (List AV)) (p656 p657:Int),E cx (Key.fn 136) [AV.list 0 2 l655,AV.agg [vu p656,vu p657]] []=Ω (E cx (Key.loop 136 [true,false,true,false]) [vbool false,vi 0,AV.list 0 2 l655,AV.ptr 0 0 0 0] [Ob.mk OK.box 80 2 0 [[vu p656,vu p657]]]) fun r658↦Ω (asJump r658) fun j659↦bif JX.is j659.fst (JX.exit 0) then Ω (uncons? j659.snd.fst) fun p660↦Ω (AV.bool? p660.fst) fun _↦Ω (uncons? p660.snd) fun p662↦Ω (AV.int? ı p662.fst) fun _↦Ω (nil? p662.snd) fun _↦Ω (uncons? j659.snd.snd) fun p665↦Ω (obIs (Ob.mk OK.box 80 2 0 [[vu p656,vu p657]]) p665.fst) fun _↦Ω (chk p665.fst.ver 0) fun _↦Ω (uncons? p665.fst.es) fun p668↦Ω (nil? p668.snd) fun _↦Ω (uncons? p668.fst) fun p670↦Ω (AV.int? υ p670.fst) fun _↦Ω (uncons? p670.snd) fun p672↦Ω (AV.int? υ p672.fst) fun _↦Ω (nil? p672.snd) fun _↦Ω (nil? p665.snd) fun _↦some (Out.ret (vbool false),[]) else bif JX.is j659.fst JX.ret then Ω (uncons? j659.snd.fst) fun p676↦Ω (AV.bool? p676.fst) fun b677↦Ω (uncons? p676.snd) fun p678↦Ω (AV.int? ı p678.fst) fun _↦Ω (nil? p678.snd) fun _↦Ω (uncons? j659.snd.snd) fun p681↦Ω (obIs (Ob.mk OK.box 80 2 0 [[vu p656,vu p657]]) p681.fst) fun _↦Ω (chk p681.fst.ver 0) fun _↦Ω (uncons? p681.fst.es) fun p684↦Ω (nil? p684.snd) fun _↦Ω (uncons? p684.fst) fun p686↦Ω (AV.int? υ p686.fst) fun _↦Ω (uncons? p686.snd) fun p688↦Ω (AV.int? υ p688.fst) fun _↦Ω (nil? p688.snd) fun _↦Ω (nil? p681.snd) fun _↦some (Out.ret (vbool b677),[]) else none:=by
 intros
 exact(E_in [188,142] _ _ _).trans (by kernel_rfl)
theorem f136_l0:∀(b692:Bool) (x693:Int) (l694:List (List AV)) (x695 x696:Int),E cx (Key.loop 136 [true,false,true,false]) [vbool b692,vi x693,AV.list 0 2 l694,AV.ptr 0 0 0 0] [Ob.mk OK.box 80 2 0 [[vu x695,vu x696]]]=bif decide (x693<((ℓ l694):Int)) then if 0≤x693 then Ω l694[τ x693]? fun cs697↦Ω (uncons? cs697) fun p698↦Ω (AV.int? υ p698.fst) fun n699↦Ω (uncons? p698.snd) fun p700↦Ω (AV.int? υ p700.fst) fun n701↦Ω (nil? p700.snd) fun _↦bif decide (n699=x695)&&(decide (n701=x696)&&true) then some (Out.jump JX.ret [vbool true,vi x693],[Ob.mk OK.box 80 2 0 [[vu x695,vu x696]]]) else E cx (Key.loop 136 [true,false,true,false]) [vbool b692,vi (ω ı (Int.add x693 1)),AV.list 0 2 l694,AV.ptr 0 0 0 0] [Ob.mk OK.box 80 2 0 [[vu x695,vu x696]]] else none else some (Out.jump (JX.exit 0) [vbool b692,vi x693],[Ob.mk OK.box 80 2 0 [[vu x695,vu x696]]]):=by
 intros
 exact(E_in [188,142] _ _ _).trans (by kernel_rfl)
theorem f137:∀(l703:List (List AV)) (p704 p705:Int),E cx (Key.fn 137) [AV.list 0 2 l703,AV.agg [vu p704,vu p705]] []=Ω (E cx (Key.loop 137 [true,true,false,false]) [vi ((ℓ l703):Int),AV.list 0 2 l703,AV.ptr 0 0 0 0] [Ob.mk OK.box 80 2 0 [[vu p704,vu p705]]]) fun r706↦Ω (asJump r706) fun j707↦bif JX.is j707.fst (JX.exit 0) then Ω (uncons? j707.snd.fst) fun p708↦Ω (AV.int? ı p708.fst) fun n709↦Ω (nil? p708.snd) fun _↦Ω (uncons? j707.snd.snd) fun p711↦Ω (obIs (Ob.mk OK.box 80 2 0 [[vu p704,vu p705]]) p711.fst) fun _↦Ω (chk p711.fst.ver 0) fun _↦Ω (uncons? p711.fst.es) fun p714↦Ω (nil? p714.snd) fun _↦Ω (uncons? p714.fst) fun p716↦Ω (AV.int? υ p716.fst) fun n717↦Ω (uncons? p716.snd) fun p718↦Ω (AV.int? υ p718.fst) fun n719↦Ω (nil? p718.snd) fun _↦Ω (nil? p711.snd) fun _↦if 0≤n709 then if n709≤((ℓ l703):Int) then bif ysOk (List.drop 0 (List.take (τ n709) l703)) then if Nat.mul (Nat.add 0 (ℓ (List.drop 0 (List.take (τ n709) l703)))) 16≤140737488355328 then Ω (chk (Nat.add 0 (ℓ (List.drop 0 (List.take (τ n709) l703)))) (ℓ (Ob.mk OK.arr 80 2 2 ([]++List.drop 0 (List.take (τ n709) l703))).es)) fun _↦if Nat.mul (Nat.add (ℓ (Ob.mk OK.arr 80 2 2 ([]++List.drop 0 (List.take (τ n709) l703))).es) 1) 16≤140737488355328 then if 0≤n709 then if n709≤((ℓ l703):Int) then bif ysOk (List.drop (τ n709) (List.take (ℓ l703) l703)) then Ω (chk (Nat.add (ℓ (Ob.mk OK.arr 80 2 2 ([]++List.drop 0 (List.take (τ n709) l703))).es) 1) (ℓ (Ob.mk OK.arr 80 2 2 ((Ob.mk OK.arr 80 2 2 ([]++List.drop 0 (List.take (τ n709) l703))).es++[[vu n717,vu n719]])).es)) fun _↦if Nat.mul (Nat.add (ℓ (Ob.mk OK.arr 80 2 2 ((Ob.mk OK.arr 80 2 2 ([]++List.drop 0 (List.take (τ n709) l703))).es++[[vu n717,vu n719]])).es) (ℓ (List.drop (τ n709) (List.take (ℓ l703) l703)))) 16≤140737488355328 then Ω (chkLe (Nat.add 0 (Nat.add (ℓ (Ob.mk OK.arr 80 2 2 ((Ob.mk OK.arr 80 2 2 ([]++List.drop 0 (List.take (τ n709) l703))).es++[[vu n717,vu n719]])).es) (ℓ (List.drop (τ n709) (List.take (ℓ l703) l703))))) (ℓ ((Ob.mk OK.arr 80 2 2 ((Ob.mk OK.arr 80 2 2 ([]++List.drop 0 (List.take (τ n709) l703))).es++[[vu n717,vu n719]])).es++List.drop (τ n709) (List.take (ℓ l703) l703)))) fun _↦some (Out.ret (AV.list 0 2 (List.drop 0 (List.take (Nat.add 0 (Nat.add (ℓ (Ob.mk OK.arr 80 2 2 ((Ob.mk OK.arr 80 2 2 ([]++List.drop 0 (List.take (τ n709) l703))).es++[[vu n717,vu n719]])).es) (ℓ (List.drop (τ n709) (List.take (ℓ l703) l703))))) ((Ob.mk OK.arr 80 2 2 ((Ob.mk OK.arr 80 2 2 ([]++List.drop 0 (List.take (τ n709) l703))).es++[[vu n717,vu n719]])).es++List.drop (τ n709) (List.take (ℓ l703) l703))))),[]) else none else none else none else none else none else none else none else none else none else none:=by
 intros
 exact(E_in [188,142] _ _ _).trans (by kernel_rfl)
theorem f137_l0:∀(x725:Int) (l726:List (List AV)) (x727 x728:Int),E cx (Key.loop 137 [true,true,false,false]) [vi x725,AV.list 0 2 l726,AV.ptr 0 0 0 0] [Ob.mk OK.box 80 2 0 [[vu x727,vu x728]]]=bif decide (x725>0) then if 0≤ω ı (Int.sub x725 1) then Ω l726[τ (ω ı (Int.sub x725 1))]? fun cs729↦Ω (uncons? cs729) fun p730↦Ω (AV.int? υ p730.fst) fun n731↦Ω (uncons? p730.snd) fun p732↦Ω (AV.int? υ p732.fst) fun n733↦Ω (nil? p732.snd) fun _↦Ω (E cx (Key.fn 105) [AV.agg [vu n731,vu n733],AV.agg [vu x727,vu x728]] []) fun r735↦Ω (ret1 r735) fun v736↦Ω (AV.bool? v736) fun b737↦bif b737 then some (Out.jump (JX.exit 0) [vi x725],[Ob.mk OK.box 80 2 0 [[vu x727,vu x728]]]) else E cx (Key.loop 137 [true,true,false,false]) [vi (ω ı (Int.sub x725 1)),AV.list 0 2 l726,AV.ptr 0 0 0 0] [Ob.mk OK.box 80 2 0 [[vu x727,vu x728]]] else none else some (Out.jump (JX.exit 0) [vi x725],[Ob.mk OK.box 80 2 0 [[vu x727,vu x728]]]):=by
 intros
 exact(E_in [188,142] _ _ _).trans (by kernel_rfl)
theorem f135:∀(n41:Nat) (s42:List (List AV)),E cx (Key.own 135) [AV.arr 0 2 0 n41] [Ob.mk OK.arr 80 2 2 s42]=bif decide ((n41:Int)<2) then some (Out.ret (AV.arr 0 2 0 n41),[Ob.mk OK.arr 80 2 2 s42]) else Ω (E cx (Key.loop 135 [true,true,false,true,false]) [AV.val (Value.slice none 0 0),vi 1,AV.arr 0 2 0 n41] [Ob.mk OK.arr 80 2 2 s42]) fun r43↦Ω (asJump r43) fun j44↦bif JX.is j44.fst (JX.exit 0) then Ω (uncons? j44.snd.fst) fun p45↦Ω (uncons? p45.snd) fun p46↦Ω (AV.int? ı p46.fst) fun _↦Ω (nil? p46.snd) fun _↦Ω (uncons? j44.snd.snd) fun p49↦Ω (obIs (Ob.mk OK.arr 80 2 2 s42) p49.fst) fun _↦Ω (chk p49.fst.ver 2) fun _↦Ω (nil? p49.snd) fun _↦some (Out.ret (AV.arr 0 2 0 n41),[Ob.mk OK.arr 80 2 2 p49.fst.es]) else bif JX.is j44.fst JX.ret then Ω (uncons? j44.snd.fst) fun p53↦Ω (AV.arr? 0 p53.fst) fun x54↦Ω (chk x54.fst 2) fun _↦Ω (uncons? p53.snd) fun p56↦Ω (AV.int? ı p56.fst) fun _↦Ω (nil? p56.snd) fun _↦Ω (uncons? j44.snd.snd) fun p59↦Ω (obIs (Ob.mk OK.arr 80 2 2 s42) p59.fst) fun _↦Ω (chk p59.fst.ver 2) fun _↦Ω (nil? p59.snd) fun _↦some (Out.ret (AV.arr 0 2 x54.snd.fst x54.snd.snd),[Ob.mk OK.arr 80 2 2 p59.fst.es]) else none:=by
 intros
 exact(E_in [188,142] _ _ _).trans (by kernel_rfl)
theorem f135_l0:∀(x63:Int) (n64:Nat) (l65:List (List AV)),E cx (Key.loop 135 [true,true,false,true,false]) [AV.val (Value.slice none 0 0),vi x63,AV.arr 0 2 0 n64] [Ob.mk OK.arr 80 2 2 l65]=bif decide (x63<(n64:Int)) then if 0≤x63 then if x63<(n64:Int) then Ω (nth l65 (Nat.add 0 (τ x63))) fun cs66↦Ω (uncons? cs66) fun p67↦Ω (AV.int? υ p67.fst) fun n68↦Ω (uncons? p67.snd) fun p69↦Ω (AV.int? υ p69.fst) fun n70↦Ω (nil? p69.snd) fun _↦if 0≤ω ı (Int.sub x63 1) then if ω ı (Int.sub x63 1)<(n64:Int) then Ω (nth l65 (Nat.add 0 (τ (ω ı (Int.sub x63 1))))) fun cs72↦Ω (uncons? cs72) fun p73↦Ω (AV.int? υ p73.fst) fun n74↦Ω (uncons? p73.snd) fun p75↦Ω (AV.int? υ p75.fst) fun n76↦Ω (nil? p75.snd) fun _↦bif decide (n68=n74)&&(decide (n70=n76)&&true) then if 0≤x63 then if x63≤(n64:Int) then Ω (E cx (Key.loop 135 [true,true,false,true,false,false,true,false,false,true,false,true,false,true,false]) [vi x63,vi 1,AV.arr 0 2 0 n64,AV.arr 0 2 (Nat.add 0 (τ x63)) (Nat.sub n64 (τ x63))] [Ob.mk OK.arr 80 2 2 l65]) fun r78↦Ω (asJump r78) fun j79↦bif JX.is j79.fst (JX.exit 2) then Ω (uncons? j79.snd.fst) fun p80↦Ω (AV.int? ı p80.fst) fun n81↦Ω (uncons? p80.snd) fun p82↦Ω (AV.int? ı p82.fst) fun _↦Ω (nil? p82.snd) fun _↦Ω (uncons? j79.snd.snd) fun p85↦Ω (obIs (Ob.mk OK.arr 80 2 2 l65) p85.fst) fun _↦Ω (chk p85.fst.ver 2) fun _↦Ω (nil? p85.snd) fun _↦if 0≤n81 then if n81≤(n64:Int) then Ω (chkLe (Nat.add (Nat.add 0 (τ n81)) (Nat.sub n64 (τ n81))) (ℓ (Ob.mk OK.arr 80 2 2 p85.fst.es).es)) fun _↦if 0≤n81 then if n81≤(n64:Int) then some (Out.jump JX.ret [AV.arr 0 2 0 (Nat.sub (τ n81) 0),vi n81],[Ob.mk OK.arr 80 2 2 (List.take (Nat.add 0 (τ n81)) (Ob.mk OK.arr 80 2 2 p85.fst.es).es++List.replicate (Nat.sub n64 (τ n81)) [vu 0,vu 0]++List.drop (Nat.add (Nat.add 0 (τ n81)) (Nat.sub n64 (τ n81))) (Ob.mk OK.arr 80 2 2 p85.fst.es).es)]) else none else none else none else none else none else none else none else E cx (Key.loop 135 [true,true,false,true,false]) [AV.val (Value.slice none 0 0),vi (ω ı (Int.add x63 1)),AV.arr 0 2 0 n64] [Ob.mk OK.arr 80 2 2 l65] else none else none else none else none else some (Out.jump (JX.exit 0) [AV.val (Value.slice none 0 0),vi x63],[Ob.mk OK.arr 80 2 2 l65]):=by
 intros
 exact(E_in [188,142] _ _ _).trans (by kernel_rfl)
theorem f135_l0_l1:∀(x90 x91:Int) (n92 o93 n94:Nat) (l95:List (List AV)),E cx (Key.loop 135 [true,true,false,true,false,false,true,false,false,true,false,true,false,true,false]) [vi x90,vi x91,AV.arr 0 2 0 n92,AV.arr 0 2 o93 n94] [Ob.mk OK.arr 80 2 2 l95]=bif decide (x91<(n94:Int)) then if 0≤x91 then if x91<(n94:Int) then Ω (nth l95 (Nat.add o93 (τ x91))) fun cs96↦Ω (uncons? cs96) fun p97↦Ω (AV.int? υ p97.fst) fun n98↦Ω (uncons? p97.snd) fun p99↦Ω (AV.int? υ p99.fst) fun n100↦Ω (nil? p99.snd) fun _↦if 0≤ω ı (Int.sub x91 1) then if ω ı (Int.sub x91 1)<(n94:Int) then Ω (nth l95 (Nat.add o93 (τ (ω ı (Int.sub x91 1))))) fun cs102↦Ω (uncons? cs102) fun p103↦Ω (AV.int? υ p103.fst) fun n104↦Ω (uncons? p103.snd) fun p105↦Ω (AV.int? υ p105.fst) fun n106↦Ω (nil? p105.snd) fun _↦bif !(decide (n98=n104)&&(decide (n100=n106)&&true)) then if 0≤x91 then if x91<(n94:Int) then Ω (nth l95 (Nat.add o93 (τ x91))) fun cs108↦Ω (uncons? cs108) fun p109↦Ω (AV.int? υ p109.fst) fun n110↦Ω (uncons? p109.snd) fun p111↦Ω (AV.int? υ p111.fst) fun n112↦Ω (nil? p111.snd) fun _↦if 0≤x90 then if x90<(n92:Int) then Ω (nth l95 (Nat.add 0 (τ x90))) fun cs114↦Ω (uncons? cs114) fun p115↦Ω (AV.int? υ p115.fst) fun _↦Ω (uncons? p115.snd) fun p117↦Ω (AV.int? υ p117.fst) fun _↦Ω (nil? p117.snd) fun _↦E cx (Key.loop 135 [true,true,false,true,false,false,true,false,false,true,false,true,false,true,false]) [vi (ω ı (Int.add x90 1)),vi (ω ı (Int.add x91 1)),AV.arr 0 2 0 n92,AV.arr 0 2 o93 n94] [Ob.mk OK.arr 80 2 2 (List.set l95 (Nat.add 0 (τ x90)) [vu n110,vu n112])] else none else none else none else none else E cx (Key.loop 135 [true,true,false,true,false,false,true,false,false,true,false,true,false,true,false]) [vi x90,vi (ω ı (Int.add x91 1)),AV.arr 0 2 0 n92,AV.arr 0 2 o93 n94] [Ob.mk OK.arr 80 2 2 l95] else none else none else none else none else some (Out.jump (JX.exit 2) [vi x90,vi x91],[Ob.mk OK.arr 80 2 2 l95]):=by
 intros
 exact(E_in [188,142] _ _ _).trans (by kernel_rfl)
end
section
theorem c94 {c n:Int}(hc:RI c) (hn:0<n):E cx (Key.fn 94) [vi c,vi n] []=some (Out.ret (vi (pickI c n)),[]):=by
 refine(f94 _ _).trans ?_
 unfold pickI
 by_cases h:c<0
 ·rw [if_pos h]
  refine(goD h _ _).trans ((goN (show ¬n=0 by omega) _ _).trans ?_)
  have e:ω .i64 (Int.sub 0 (ω .i64 (Int.add c 1))) = -(c+1):=by
   rw [wr_add (a:=c) (b:=1) (by omega) (by omega)]
   exact(wr_sub (a:=0) (by omega) (by omega)).trans (by omega)
  rw [e]
 ·rw [if_neg h]
  exact(goDn h _ _).trans (goN (show ¬n=0 by omega) _ _)
theorem c134 (p q:P2):E cx (Key.fn 134) [.agg [vu p.1,vu p.2],.agg [vu q.1,vu q.2]] []=some (Out.ret (vi (ordI p q)),[]):=by
 refine(f134 _ _ _ _).trans ((goI (c148 _ _) _).trans ((goI (c148 _ _) _).trans ((goI (c147 _ _) _).trans ?_)))
 obtain⟨a,b⟩:=p
 obtain⟨c,d⟩:=q
 have h2:(if cmpI (a:Int) (c:Int)=0 then cmpI (b:Int) (d:Int) else cmpI (a:Int) (c:Int))=ordI (a,b) (c,d):=by
  have e:∀x y:Nat,cmpI (x:Int) (y:Int)=if x<y then -1 else if y<x then 1 else 0:=fun x y=>by
   unfold cmpI
   simp only [Int.ofNat_lt,gt_iff_lt]
  rw [e,e]
  unfold ordI ltP
  rcases Nat.lt_trichotomy a c with h1 |h1 |h1<;>rcases Nat.lt_trichotomy b d with h3 |h3 |h3 <;>
   simp [h1,h3,Nat.lt_asymm,Nat.ne_of_lt,Nat.ne_of_gt]<;>omega
 rw [h2]
def stAt (l:List P2) (j:Nat):Prop:=∀p q,l[j]?=some p→l[j+1]?=some q→ltP p q=true
def stI (l:List P2):Prop:=∀j,stAt l j
abbrev SW (l:List P2):Prop:=l.Pairwise fun a b=>ltP a b=true
open Classical in
noncomputable def stB (l:List P2):Bool:=decide (stI l)
open Classical in
theorem stB_t {l:List P2}(h:stI l):stB l=true:=by unfold stB;exact decide_eq_true h
open Classical in
theorem stB_f {l:List P2}(h:¬stI l):stB l=false:=by unfold stB;exact decide_eq_false h
noncomputable def tabR (l:List P2):Bool:=stB l&&decide (l.length≤4096)
theorem ltP_def (x y:P2):ltP x y=true↔x.1<y.1∨x.1=y.1∧x.2<y.2:=by
 unfold ltP
 simp
theorem ltP_trans {x y z:P2}(h1:ltP x y=true) (h2:ltP y z=true):ltP x z=true:=by
 rw [ltP_def] at *
 omega
theorem ltP_irr (x:P2):ltP x x=false:=by
 cases h:ltP x x with
 |false=>rfl
 |true=>have:=(ltP_def x x).1 h;omega
theorem ltP_tri {x y:P2}(h1:ltP x y=false) (h2:x≠y):ltP y x=true:=by
 rw [ltP_def]
 have:¬(x.1<y.1∨x.1=y.1∧x.2<y.2):=fun h=>by rw [(ltP_def x y).2 h] at h1;cases h1
 have h3:¬(x.1=y.1∧x.2=y.2):=fun h=>h2 (Prod.ext h.1 h.2)
 omega
theorem sw_iff (l:List P2):stI l↔SW l:=by
 constructor
 ·intro h
  refine List.pairwise_iff_getElem.2 fun i j hi hj hij=> ?_
  obtain⟨d,rfl⟩:=Nat.exists_eq_add_of_le (show i+1≤j by omega)
  clear hij
  induction d with
  |zero=>exact h i _ _ (η hi) (η hj)
  |succ d ih =>
   have h1:=ih (by omega)
   have h2:=h (i+1+d) _ _ (η (by omega)) (η hj)
   exact ltP_trans h1 h2
 ·intro h j p q hp hq
  obtain⟨h1,e1⟩:=List.getElem?_eq_some_iff.1 hp
  obtain⟨h2,e2⟩:=List.getElem?_eq_some_iff.1 hq
  subst e1 e2
  exact List.pairwise_iff_getElem.1 h j (j+1) h1 h2 (by omega)
theorem tabR_iff (l:List P2):tabR l=true↔SW l∧l.length≤4096:=by
 unfold tabR
 rw [Bool.and_eq_true,decide_eq_true_eq,←sw_iff]
 by_cases h:stI l
 ·simp [stB_t h,h]
 ·simp [stB_f h,h]
theorem ordI_ge (p q:P2):ordI p q≥0↔ltP p q=false:=by
 have:=ordI_neg p q
 cases h:ltP p q with
 |true=>simp [h] at this;constructor<;>intro h2<;>first |omega |cases h2
 |false =>
  simp [h] at this
  exact⟨fun _=>rfl,fun _=>by omega⟩
theorem loop83 (l:List P2) (b:Bool) (hl:l.length≤4000000):∀(d i:Nat),i+d=l.length→(∀j,j+1<i→stAt l j)→(stI l∧∃x y,E cx (.loop 83 [true,false,true,false]) [vbool b,vi i,.list 0 2 (prs l),vi l.length] []=some (Out.jump (.exit 0) [vbool x,vi y],[]))∨(¬stI l∧∃y,E cx (.loop 83 [true,false,true,false]) [vbool b,vi i,.list 0 2 (prs l),vi l.length] []=some (Out.jump .ret [vbool false,vi y],[])):=by
 intro d
 induction d with
 |zero =>
  intro i hi h
  refine .inl ⟨fun j=> ?_,b,i,(f83_l0 _ _ _ _).trans (goDn (by omega) _ _)⟩
  by_cases hj:j+1<i
  ·exact h j hj
  ·intro p q hp hq
   have:=(List.getElem?_eq_some_iff.1 hq).1
   omega
 |succ d ih =>
  intro i hi h
  have hm:i<l.length:=by omega
  have st:=(f83_l0 b (i:Int) (prs l) (l.length:Int)).trans (goD (show(i:Int)<(l.length:Int) by omega) _ _)
  rw [wS (by omega)] at st
  by_cases h0:i=0
  ·subst h0
   rw [st.trans (goDn (show ¬((0:Nat):Int)>0 by omega) _ _)]
   exact ih 1 (by omega) (fun j hj=>by omega)
  ·have st:=st.trans (goD (show(i:Int)>0 by omega) _ _)
   rw [show ω .i64 (Int.sub (i:Int) 1)=((i-1:Nat):Int) from(wr_sub (b:=1) (by omega) (by omega)).trans (by omega)] at st
   have g1:l[i-1]?=some l[i-1]:=η (by omega)
   have g2:l[i]?=some l[i]:=η hm
   have st:=st.trans ((goY (show(0:Int)≤((i-1:Nat):Int) by omega) _ _).trans ((goPr (n:=i-1) rfl g1 _).trans ((goY (show(0:Int)≤(i:Int) by omega) _ _).trans ((goPr (n:=i) rfl g2 _).trans (goI (c134 _ _) _)))))
   cases hlt:ltP l[i-1] l[i] with
   |true =>
    have h2:=(ordI_neg _ _).2 hlt
    rw [st.trans (goDn (show ¬ordI l[i-1] l[i]≥0 by omega) _ _)]
    refine ih (i+1) (by omega) (fun j hj=> ?_)
    by_cases hj2:j+1<i
    ·exact h j hj2
    ·intro p q hp hq
     rw [show j=i-1 by omega,g1] at hp
     rw [show j+1=i by omega,g2] at hq
     cases hp;cases hq
     exact hlt
   |false =>
    refine .inr ⟨fun hs=> ?_,(i:Int),st.trans (goD ((ordI_ge _ _).2 hlt) _ _)⟩
    have:=hs (i-1) _ _ g1 (by rw [show i-1+1=i by omega];exact g2)
    rw [hlt] at this
    cases this
theorem c83 (l:List P2) (hl:l.length≤4000000):E cx (Key.fn 83) [.list 0 2 (prs l)] []=rb (tabR l):=by
 refine(f83 _).trans ?_
 rw [prs_len]
 unfold tabR
 rcases loop83 l false hl l.length 0 (by omega) (fun j hj=>by omega) with⟨h1,x,y,h2⟩ |⟨h1,y,h2⟩
 ·rw [show(0:Int)=((0:Nat):Int) from rfl,h2,stB_t h1]
  by_cases h:l.length≤4096
  ·rw [decide_eq_true h]
   exact goD (show(l.length:Int)≤4096 by omega) _ _
  ·rw [decide_eq_false h]
   exact goDn (show ¬(l.length:Int)≤4096 by omega) _ _
 ·rw [show(0:Int)=((0:Nat):Int) from rfl,h2,stB_f h1]
  rfl
theorem loop84 (l:List P2) (b:Bool) (hl:l.length≤4000000):∀(d i:Nat),(i+d=l.length∨l.length≤i∧d=0)→0<i→(∀j,j+1<i→stAt l j)→(stI l∧∃x y,E cx (.loop 84 [true,false,true,false]) [vbool b,vi i,.list 0 2 (prs l)] []=some (Out.jump (.exit 0) [vbool x,vi y],[]))∨(¬stI l∧∃y,E cx (.loop 84 [true,false,true,false]) [vbool b,vi i,.list 0 2 (prs l)] []=some (Out.jump .ret [vbool false,vi y],[])):=by
 intro d
 induction d with
 |zero =>
  intro i hi h0 h
  refine .inl ⟨fun j=> ?_,b,i,(f84_l0 _ _ _).trans (goDn (by rw [prs_len];omega) _ _)⟩
  by_cases hj:j+1<i
  ·exact h j hj
  ·intro p q hp hq
   have:=(List.getElem?_eq_some_iff.1 hq).1
   omega
 |succ d ih =>
  intro i hi h0 h
  have hm:i<l.length:=by omega
  have st:=(f84_l0 b (i:Int) (prs l)).trans (goD (show(i:Int)<((prs l).length:Int) by rw [prs_len];omega) _ _)
  rw [wS (by omega),show ω .i64 (Int.sub (i:Int) 1)=((i-1:Nat):Int) from(wr_sub (b:=1) (by omega) (by omega)).trans (by omega)] at st
  have g1:l[i-1]?=some l[i-1]:=η (by omega)
  have g2:l[i]?=some l[i]:=η hm
  have st:=st.trans ((goY (show(0:Int)≤((i-1:Nat):Int) by omega) _ _).trans ((goPr (n:=i-1) rfl g1 _).trans ((goY (show(0:Int)≤(i:Int) by omega) _ _).trans (goPr (n:=i) rfl g2 _))))
  cases hlt:ltP l[i-1] l[i] with
  |true =>
   rw [st.trans (goT ((c105 _ _).trans (by rw [hlt])) _ _)]
   refine ih (i+1) (by omega) (by omega) (fun j hj=> ?_)
   by_cases hj2:j+1<i
   ·exact h j hj2
   ·intro p q hp hq
    rw [show j=i-1 by omega,g1] at hp
    rw [show j+1=i by omega,g2] at hq
    cases hp;cases hq
    exact hlt
  |false =>
   refine .inr ⟨fun hs=> ?_,(i:Int),st.trans (goF ((c105 _ _).trans (by rw [hlt])) _ _)⟩
   have:=hs (i-1) _ _ g1 (by rw [show i-1+1=i by omega];exact g2)
   rw [hlt] at this
   cases this
theorem c84 (l:List P2) (hl:l.length≤4000000):E cx (Key.fn 84) [.list 0 2 (prs l)] []=rb (tabR l):=by
 refine(f84 _).trans ?_
 rw [prs_len]
 unfold tabR
 rcases loop84 l false hl (l.length-1) 1 (by omega) (by omega) (fun j hj=>by omega) with⟨h1,x,y,h2⟩ |⟨h1,y,h2⟩
 ·rw [show(1:Int)=((1:Nat):Int) from rfl,h2,stB_t h1]
  by_cases h:l.length≤4096
  ·rw [decide_eq_true h]
   exact goD (show(l.length:Int)≤4096 by omega) _ _
  ·rw [decide_eq_false h]
   exact goDn (show ¬(l.length:Int)≤4096 by omega) _ _
 ·rw [show(1:Int)=((1:Nat):Int) from rfl,h2,stB_f h1]
  rfl
theorem loop136 (l:List P2) (p:P2) (b:Bool) (hl:l.length≤4000000):∀(rest:List P2) (i:Nat),l.drop i=rest→i+rest.length=l.length→(p ∉ rest∧∃x y,E cx (.loop 136 [true,false,true,false]) [vbool b,vi i,.list 0 2 (prs l),.ptr 0 0 0 0] [⟨.box,80,2,0,[[vu p.1,vu p.2]]⟩]=some (Out.jump (.exit 0) [vbool x,vi y],[⟨.box,80,2,0,[[vu p.1,vu p.2]]⟩]))∨(p∈rest∧∃y,E cx (.loop 136 [true,false,true,false]) [vbool b,vi i,.list 0 2 (prs l),.ptr 0 0 0 0] [⟨.box,80,2,0,[[vu p.1,vu p.2]]⟩]=some (Out.jump .ret [vbool true,vi y],[⟨.box,80,2,0,[[vu p.1,vu p.2]]⟩])):=by
 intro rest
 induction rest with
 |nil =>
  intro i hd hi
  exact .inl ⟨by simp,b,i,(f136_l0 _ _ _ _ _).trans (goDn (by rw [prs_len];simp at hi;omega) _ _)⟩
 |cons q r ih =>
  intro i hd hi
  obtain⟨g,hd2,hlt⟩:=drop_cons' hd
  have st:=(f136_l0 b (i:Int) (prs l) (p.1:Int) (p.2:Int)).trans ((goD (show(i:Int)<((prs l).length:Int) by rw [prs_len];omega) _ _).trans ((goY (show(0:Int)≤(i:Int) by omega) _ _).trans (goPr (n:=i) rfl g _)))
  rw [pairEq,wS (by omega)] at st
  by_cases hq:q=p
  ·rw [decide_eq_true hq] at st
   exact .inr ⟨by simp [hq],i,st⟩
  ·rw [decide_eq_false hq] at st
   rw [st]
   rcases ih (i+1) hd2 (by simp at hi;omega) with⟨h1,h2⟩ |⟨h1,h2⟩
   ·exact .inl ⟨fun h=>(List.mem_cons.1 h).elim (fun h=>hq h.symm) h1,h2⟩
   ·exact .inr ⟨by simp [h1],h2⟩
theorem c136 (l:List P2) (p:P2) (hl:l.length≤4000000):E cx (Key.fn 136) [.list 0 2 (prs l),.agg [vu p.1,vu p.2]] []=rb (decide (p∈l)):=by
 refine(f136 _ _ _).trans ?_
 rcases loop136 l p false hl l 0 rfl (by omega) with⟨h1,x,y,h2⟩ |⟨h1,y,h2⟩
 ·rw [show(0:Int)=((0:Nat):Int) from rfl,h2,decide_eq_false h1];rfl
 ·rw [show(0:Int)=((0:Nat):Int) from rfl,h2,decide_eq_true h1];rfl
def atW (p:P2) (l:List P2):Nat→Nat
 | 0=>0
 |n+1=>match l[n]? with
  |some q=>if ltP q p then n+1 else atW p l n
  |none=>0
def insW (p:P2) (l:List P2):List P2:=l.take (atW p l l.length)++p::l.drop (atW p l l.length)
theorem atW_le (p:P2) (l:List P2):∀n,atW p l n≤n
 | 0=>Nat.le_refl _
 |n+1=>by
  unfold atW
  split
  ·split
   ·exact Nat.le_refl _
   ·exact Nat.le_succ_of_le (atW_le p l n)
  ·omega
theorem insW_len (p:P2) (l:List P2):(insW p l).length=l.length+1:=by
 have:=atW_le p l l.length
 unfold insW
 simp
 omega
theorem loop137 (l:List P2) (p:P2) (hl:l.length≤4000000):∀n,n≤l.length →
  E cx (.loop 137 [true,true,false,false]) [vi n,.list 0 2 (prs l),.ptr 0 0 0 0] [⟨.box,80,2,0,[[vu p.1,vu p.2]]⟩]=some (Out.jump (.exit 0) [vi (atW p l n)],[⟨.box,80,2,0,[[vu p.1,vu p.2]]⟩])
 | 0,_=>(f137_l0 _ _ _ _).trans (goDn (by omega) _ _)
 |n+1,hn=>by
  have g:l[n]?=some l[n]:=η (by omega)
  have st:=(f137_l0 ((n+1:Nat):Int) (prs l) (p.1:Int) (p.2:Int)).trans (goD (show((n+1:Nat):Int)>0 by omega) _ _)
  rw [wP (by omega)] at st
  have st:=st.trans ((goY (show(0:Int)≤(n:Int) by omega) _ _).trans (goPr (n:=n) rfl g _))
  unfold atW
  rw [g]
  simp only
  cases h:ltP l[n] p with
  |true=>exact st.trans (goT ((c105 _ _).trans (by rw [h])) _ _)
  |false=>exact(st.trans (goF ((c105 _ _).trans (by rw [h])) _ _)).trans (loop137 l p hl n (by omega))
theorem goJp {ρ:Type}{x:Option (Out×Heap)}{e:JX}{n a b:Int}{c:List AV}(he:e.is e=true) (h:x=some (Out.jump e [vi n],[⟨.box,80,2,0,[[vu a,vu b]]⟩])) (k:Int→Int→Int→Option ρ) (j:Option ρ):(x.bind fun r=>(asJump r).bind fun q=>bif JX.is q.fst e then(uncons? q.snd.fst).bind fun p=>(AV.int? .i64 p.fst).bind fun n=>(nil? p.snd).bind fun _=>(uncons? q.snd.snd).bind fun u=>(obIs (Ob.mk OK.box 80 2 0 [c]) u.fst).bind fun _=>(chk u.fst.ver 0).bind fun _=>(uncons? u.fst.es).bind fun p2=>(nil? p2.snd).bind fun _=>(uncons? p2.fst).bind fun p3=>(AV.int? .u64 p3.fst).bind fun a=>(uncons? p3.snd).bind fun p4=>(AV.int? .u64 p4.fst).bind fun b=>(nil? p4.snd).bind fun _=>(nil? u.snd).bind fun _=>k n a b else j)=k n a b:=by
 rw [h]
 show(bif e.is e then _ else _)=_
 rw [he]
 rfl
theorem prs_app' (a b:List P2):prs a++prs b=prs (a++b):=by simp [prs]
theorem c137 (l:List P2) (p:P2) (hl:l.length≤1000000):E cx (Key.fn 137) [.list 0 2 (prs l),.agg [vu p.1,vu p.2]] []=some (Out.ret (.list 0 2 (prs (insW p l))),[]):=by
 refine(f137 _ _ _).trans ?_
 rw [prs_len]
 refine(goJp (e := .exit 0) rfl (loop137 l p (by omega) l.length (Nat.le_refl _)) _ _).trans ?_
 have hle:=atW_le p l l.length
 have hil:=insW_len p l
 unfold insW at hil ⊢
 generalize atW p l l.length=k at *
 have hk:τ ((k:Nat):Int)=k:=Int.toNat_natCast k
 have e1:List.drop 0 (List.take k (prs l))=prs (l.take k):=by simp [prs]
 have e2:List.drop k (List.take l.length (prs l))=prs (l.drop k):=by
  rw [List.take_of_length_le (by rw [prs_len];exact Nat.le_refl _)]
  simp [prs]
 rw [hk,e1,e2]
 have l1:(prs (l.take k)).length=k:=by rw [prs_len,List.length_take];omega
 have l2:(prs (l.drop k)).length=l.length-k:=by rw [prs_len,List.length_drop]
 simp only [List.nil_append]
 refine(goY (show(0:Int)≤(k:Int) by omega) _ _).trans ((goY (show(k:Int)≤(l.length:Int) by omega) _ _).trans ?_)
 rw [ysOk_prs,ysOk_prs,l1,l2]
 simp only [cond_true]
 have l3:(prs (l.take k)++[[vu (p.1:Int),vu (p.2:Int)]]).length=k+1:=by rw [List.length_append,l1];rfl
 rw [l3]
 refine(goY (show Nat.mul (Nat.add 0 k) 16≤140737488355328 by show(0+k)*16≤_;omega) _ _).trans ((goCk (show Nat.add 0 k=k from Nat.zero_add k) _).trans ((goY (show Nat.mul (Nat.add k 1) 16≤140737488355328 by show(k+1)*16≤_;omega) _ _).trans ((goY (show(0:Int)≤(k:Int) by omega) _ _).trans ((goY (show(k:Int)≤(l.length:Int) by omega) _ _).trans ((goCk (show Nat.add k 1=k+1 from rfl) _).trans ((goY (show Nat.mul (Nat.add (k+1) (l.length-k)) 16≤140737488355328 by show(k+1+(l.length-k))*16≤_;omega) _ _).trans ?_))))))
 have e3:prs (l.take k)++[[vu (p.1:Int),vu (p.2:Int)]]++prs (l.drop k)=prs (l.take k++p::l.drop k):=by simp [prs,encP]
 rw [e3]
 have l4:(prs (l.take k++p::l.drop k)).length=l.length+1:=by rw [prs_len,hil]
 refine(goLe (show Nat.add 0 (Nat.add (k+1) (l.length-k))≤(prs (l.take k++p::l.drop k)).length by rw [l4];show 0+(k+1+(l.length-k))≤_;omega) _).trans ?_
 rw [List.take_of_length_le (by rw [l4];show _≤0+(k+1+(l.length-k));omega)]
 rfl
end
section
def cmpP:List P2→List P2
 | []=>[]
 | [x]=>[x]
 |x::y::r=>if x=y then cmpP (y::r) else x::cmpP (y::r)
theorem cmpP_mem:∀ {l:List P2}{x:P2},x∈cmpP l↔x∈l
 | [],x=>Iff.rfl
 | [y],x=>Iff.rfl
 |a::b::r,x=>by
  unfold cmpP
  have ih:=cmpP_mem (l:=b::r) (x:=x)
  split
  ·rename_i h
   subst h
   rw [ih]
   simp
  ·simp only [List.mem_cons] at ih ⊢
   rw [ih]
theorem cmpP_snoc:∀(xs:List P2) (x y:P2),cmpP (xs++[x,y])=if x=y then cmpP (xs++[x]) else cmpP (xs++[x])++[y]
 | [],x,y=>by
  show cmpP [x,y]=_
  unfold cmpP
  by_cases h:x=y
  ·rw [if_pos h,if_pos h,h];rfl
  ·rw [if_neg h,if_neg h];rfl
 | [a],x,y=>by
  show cmpP (a::x::[y])=if x=y then cmpP (a::x::[]) else cmpP (a::x::[])++[y]
  simp only [cmpP]
  by_cases h1:a=x<;>by_cases h2:x=y<;>simp [h1,h2]
 |a::b::r,x,y=>by
  have ih:=cmpP_snoc (b::r) x y
  simp only [List.cons_append] at ih
  show cmpP (a::b::(r++[x,y]))=if x=y then cmpP (a::b::(r++[x])) else cmpP (a::b::(r++[x]))++[y]
  rw [cmpP,cmpP,ih]
  by_cases h1:a=b<;>by_cases h2:x=y<;>simp [h1,h2]
theorem cmpP_take {l:List P2}{m:Nat}(h0:0<m) (hm:m<l.length):cmpP (l.take (m+1))=if l[m-1]=l[m] then cmpP (l.take m) else cmpP (l.take m)++[l[m]]:=by
 obtain⟨k,rfl⟩:∃k,m=k+1:=⟨m-1,by omega⟩
 have e1:l.take (k+1)=l.take k++[l[k]]:=by rw [List.take_add_one,η (by omega)];rfl
 have e2:l.take (k+1+1)=l.take k++[l[k],l[k+1]]:=by rw [List.take_add_one,e1,η hm];exact List.append_assoc _ _ _
 rw [e2,e1,cmpP_snoc]
 rfl
theorem cmpP_le:∀l:List P2,(cmpP l).length≤l.length
 | []=>Nat.le_refl _
 | [x]=>Nat.le_refl _
 |x::y::r=>by
  have:=cmpP_le (y::r)
  unfold cmpP
  split
  ·simp only [List.length_cons] at this ⊢;omega
  ·simp only [List.length_cons] at this ⊢;omega
theorem go1P {ρ:Type}{l:List P2}{i:Int}{n o:Nat}{r:P2}(hn:i=n) (h:l[o+n]?=some r) (k:Int→Int→Option ρ):((nth (prs l) (Nat.add o (τ i))).bind fun cs=>(uncons? cs).bind fun p=>(AV.int? .u64 p.fst).bind fun s=>(uncons? p.snd).bind fun p2=>(AV.int? .u64 p2.fst).bind fun t=>(nil? p2.snd).bind fun _=>k s t)=k r.1 r.2:=by
 subst hn
 have:nth (prs l) (Nat.add o (τ (n:Int)))=some [vu (r.1:Int),vu (r.2:Int)]:=by
  rw [nth_eq,Int.toNat_natCast]
  show(prs l)[o+n]?=_
  simp [prs,encP,h]
 rw [this]
 rfl
theorem goPd {ρ:Type}{p q:P2}(h:p=q) (k j:Option ρ):(bif (decide ((p.1:Int)=(q.1:Int))&&(decide ((p.2:Int)=(q.2:Int))&&true)) then k else j)=k:=by rw [pairEq,decide_eq_true h];rfl
theorem goPdn {ρ:Type}{p q:P2}(h:¬p=q) (k j:Option ρ):(bif (decide ((p.1:Int)=(q.1:Int))&&(decide ((p.2:Int)=(q.2:Int))&&true)) then k else j)=j:=by rw [pairEq,decide_eq_false h];rfl
theorem goPe2 {ρ:Type}{p q:P2}(h:p=q) (k j:Option ρ):(bif !(decide ((p.1:Int)=(q.1:Int))&&(decide ((p.2:Int)=(q.2:Int))&&true)) then k else j)=j:=by rw [pairEq,decide_eq_true h];rfl
theorem goPe2n {ρ:Type}{p q:P2}(h:¬p=q) (k j:Option ρ):(bif !(decide ((p.1:Int)=(q.1:Int))&&(decide ((p.2:Int)=(q.2:Int))&&true)) then k else j)=k:=by rw [pairEq,decide_eq_false h];rfl
theorem loop135i (l:List P2) (hl:l.length≤4000000) (k0:Nat) (hk0:0<k0):∀(d k2 k:Nat) (A:List P2),k0+k2+d=l.length→0<k2→k<k0+k2→A.length=l.length→A.take k=cmpP (l.take (k0+k2))→k=(cmpP (l.take (k0+k2))).length →
  (∀j,k0+k2-1≤j→A[j]?=l[j]?) →
  ∃A':List P2,E cx (Key.loop 135 [true,true,false,true,false,false,true,false,false,true,false,true,false,true,false]) [vi k,vi k2,.arr 0 2 0 l.length,.arr 0 2 k0 (l.length-k0)] [⟨.arr,80,2,2,prs A⟩] =
   some (Out.jump (.exit 2) [vi (cmpP l).length,vi (l.length-k0:Nat)],[⟨.arr,80,2,2,prs A'⟩])∧A'.length=l.length∧A'.take (cmpP l).length=cmpP l
 | 0,k2,k,A,hd,h2,hk,hA,ht,hkl,hj=>by
  have hfull:l.take (k0+k2)=l:=List.take_of_length_le (by omega)
  rw [hfull] at ht hkl
  refine⟨A,(f135_l0_l1 _ _ _ _ _ _).trans ((goDn (by omega) _ _).trans ?_),hA,by rw [←hkl];exact ht⟩
  rw [hkl,show k2=l.length-k0 by omega]
 |d+1,k2,k,A,hd,h2,hk,hA,ht,hkl,hj=>by
  have hm:k0+k2<l.length:=by omega
  have g1:A[k0+k2]?=some l[k0+k2]:=by rw [hj _ (by omega)];exact η hm
  have g2:A[k0+(k2-1)]?=some l[k0+k2-1]:=by rw [hj _ (by omega),show k0+(k2-1)=k0+k2-1 by omega];exact η (by omega)
  have wp:ω .i64 (Int.sub (k2:Int) 1)=((k2-1:Nat):Int):=(wr_sub (b:=1) (by omega) (by omega)).trans (by omega)
  have hct:=cmpP_take (l:=l) (m:=k0+k2) (by omega) hm
  refine ?_
  have start:∀ {R},(bif decide (l[k0+k2]≠l[k0+k2-1]) then E cx (Key.loop 135 [true,true,false,true,false,false,true,false,false,true,false,true,false,true,false]) [vi (k+1:Nat),vi (k2+1:Nat),.arr 0 2 0 l.length,.arr 0 2 k0 (l.length-k0)] [⟨.arr,80,2,2,prs (A.set k l[k0+k2])⟩] else
    E cx (Key.loop 135 [true,true,false,true,false,false,true,false,false,true,false,true,false,true,false]) [vi k,vi (k2+1:Nat),.arr 0 2 0 l.length,.arr 0 2 k0 (l.length-k0)] [⟨.arr,80,2,2,prs A⟩])=R →
    E cx (Key.loop 135 [true,true,false,true,false,false,true,false,false,true,false,true,false,true,false]) [vi k,vi k2,.arr 0 2 0 l.length,.arr 0 2 k0 (l.length-k0)] [⟨.arr,80,2,2,prs A⟩]=R:=fun {R} h=>by
   refine(f135_l0_l1 _ _ _ _ _ _).trans ((goD (by omega) _ _).trans ((goY (by omega) _ _).trans ((goY (by omega) _ _).trans ((go1P (n:=k2) (o:=k0) rfl g1 _).trans ?_))))
   rw [wp]
   refine(goY (by omega) _ _).trans ((goY (by omega) _ _).trans ((go1P (n:=k2-1) (o:=k0) rfl g2 _).trans ?_))
   by_cases hne:l[k0+k2]=l[k0+k2-1]
   ·refine(goPe2 hne _ _).trans ?_
    rw [wS (by omega)]
    exact(goDn (p:=l[k0+k2]≠l[k0+k2-1]) (fun h=>h hne) _ _).symm.trans h
   ·refine(goPe2n hne _ _).trans ((goY (by omega) _ _).trans ((goY (by omega) _ _).trans ((go1P (n:=k2) (o:=k0) rfl g1 _).trans ((goY (by omega) _ _).trans ((goY (by omega) _ _).trans ?_)))))
    have hkA:A[0+k]?=some A[k]:=by rw [Nat.zero_add];exact η (by omega)
    refine(go1P (n:=k) (o:=0) rfl hkA _).trans ?_
    rw [wS (by omega),wS (by omega)]
    have hset:List.set (prs A) (Nat.add 0 (τ (k:Int))) [vu (l[k0+k2].1:Int),vu (l[k0+k2].2:Int)]=prs (A.set k l[k0+k2]):=by
     rw [Int.toNat_natCast,show Nat.add 0 k=k from Nat.zero_add k]
     simp [prs,encP,List.map_set]
    rw [hset]
    exact(goD (p:=l[k0+k2]≠l[k0+k2-1]) hne _ _).symm.trans h
  by_cases hne:l[k0+k2]=l[k0+k2-1]
  ·have hct':cmpP (l.take (k0+(k2+1)))=cmpP (l.take (k0+k2)):=by
    rw [show k0+(k2+1)=k0+k2+1 by omega,hct,if_pos hne.symm]
   obtain⟨A',q1,q2,q3⟩:=loop135i l hl k0 hk0 d (k2+1) k A (by omega) (by omega) (by omega) hA (by rw [hct'];exact ht) (by rw [hct'];exact hkl) (fun j hjj=>hj j (by omega))
   exact⟨A',start ((goDn (p:=l[k0+k2]≠l[k0+k2-1]) (fun h=>h hne) _ _).trans q1),q2,q3⟩
  ·have hct':cmpP (l.take (k0+(k2+1)))=cmpP (l.take (k0+k2))++[l[k0+k2]]:=by
    rw [show k0+(k2+1)=k0+k2+1 by omega,hct,if_neg (fun h=>hne h.symm)]
   obtain⟨A',q1,q2,q3⟩:=loop135i l hl k0 hk0 d (k2+1) (k+1) (A.set k l[k0+k2]) (by omega) (by omega) (by omega) (by simp;exact hA) (by
    rw [hct',←ht,List.take_add_one,List.getElem?_set_self (by omega)]
    rw [List.take_set_of_le (Nat.le_refl _)]
    rfl) (by rw [hct',List.length_append,←hkl];rfl) (fun j hjj=>by rw [List.getElem?_set_ne (by omega)];exact hj j (by omega))
   exact⟨A',start ((goD (p:=l[k0+k2]≠l[k0+k2-1]) hne _ _).trans q1),q2,q3⟩
theorem loop135 (l:List P2) (hl:l.length≤4000000):∀(d i:Nat),i+d=l.length→0<i→cmpP (l.take i)=l.take i →
  (cmpP l=l∧E cx (Key.loop 135 [true,true,false,true,false]) [.val (.slice none 0 0),vi i,.arr 0 2 0 l.length] [⟨.arr,80,2,2,prs l⟩]=some (Out.jump (.exit 0) [.val (.slice none 0 0),vi l.length],[⟨.arr,80,2,2,prs l⟩])) ∨
  (∃(k:Int) (es:List (List AV)),es.take (cmpP l).length=prs (cmpP l)∧es.length=l.length∧E cx (Key.loop 135 [true,true,false,true,false]) [.val (.slice none 0 0),vi i,.arr 0 2 0 l.length] [⟨.arr,80,2,2,prs l⟩]=some (Out.jump .ret [.arr 0 2 0 (cmpP l).length,vi k],[⟨.arr,80,2,2,es⟩]))
 | 0,i,hd,h0,ht=>by
  have hfull:l.take i=l:=List.take_of_length_le (by omega)
  rw [hfull] at ht
  exact .inl ⟨ht,(f135_l0 _ _ _).trans ((goDn (by omega) _ _).trans (by rw [show i=l.length by omega]))⟩
 |d+1,i,hd,h0,ht=>by
  have hm:i<l.length:=by omega
  have g1:l[i]?=some l[i]:=η hm
  have g2:l[i-1]?=some l[i-1]:=η (by omega)
  have wp:ω .i64 (Int.sub (i:Int) 1)=((i-1:Nat):Int):=(wr_sub (b:=1) (by omega) (by omega)).trans (by omega)
  have hct:=cmpP_take (l:=l) (m:=i) h0 hm
  have hcl:=cmpP_le l
  by_cases he:l[i]=l[i-1]
  ·right
   have htk:(l.take i).length=i:=by rw [List.length_take];omega
   have hct':cmpP (l.take (i+1))=l.take i:=by rw [hct,if_pos he.symm,ht]
   obtain⟨A',q1,q2,q3⟩:=loop135i l hl i h0 d 1 i l (by omega) (by omega) (by omega) rfl hct'.symm (by rw [hct',htk]) (fun j hj=>rfl)
   have hlA:(prs A').length=l.length:=by rw [prs_len,q2]
   refine⟨((cmpP l).length:Int),(prs A').take (Nat.add 0 (cmpP l).length)++List.replicate (Nat.sub l.length (cmpP l).length) [vu 0,vu 0]++(prs A').drop (Nat.add (Nat.add 0 (cmpP l).length) (Nat.sub l.length (cmpP l).length)),?_,?_,?_⟩
   ·rw [show Nat.add 0 (cmpP l).length=(cmpP l).length from Nat.zero_add _,List.append_assoc,List.take_append_of_le_length (by rw [List.length_take];omega),List.take_take,Nat.min_self,prs_take,q3]
   ·simp only [List.length_append,List.length_take,List.length_replicate,List.length_drop]
    rw [hlA]
    show min (0+(cmpP l).length) l.length+(l.length-(cmpP l).length)+(l.length-(0+(cmpP l).length+(l.length-(cmpP l).length)))=l.length
    omega
   ·refine(f135_l0 _ _ _).trans ((goD (by omega) _ _).trans ((goY (by omega) _ _).trans ((goY (by omega) _ _).trans ((go1P (n:=i) (o:=0) rfl (by rw [Nat.zero_add];exact g1) _).trans ?_))))
    rw [wp]
    refine(goY (by omega) _ _).trans ((goY (by omega) _ _).trans ((go1P (n:=i-1) (o:=0) rfl (by rw [Nat.zero_add];exact g2) _).trans ?_))
    refine(goPd he _ _).trans ((goY (by omega) _ _).trans ((goY (by omega) _ _).trans ?_))
    rw [Int.toNat_natCast]
    show(Ω (E cx (Key.loop 135 [true,true,false,true,false,false,true,false,false,true,false,true,false,true,false]) [vi i,vi ((1:Nat):Int),.arr 0 2 0 l.length,.arr 0 2 (0+i) (l.length-i)] [⟨.arr,80,2,2,prs l⟩]) _)=_
    rw [Nat.zero_add,q1]
    simp only [χ,asJump,JX.is,Nat.beq_refl,cond_true,uncons?,nil?,AV.int?,chk,obIs,if_true,and_self]
    rw [Int.toNat_natCast]
    refine(goY (by omega) _ _).trans ((goY (by omega) _ _).trans ?_)
    refine(goLe (by rw [hlA];show 0+(cmpP l).length+(l.length-(cmpP l).length)≤_;omega) _).trans ?_
    refine(goY (by omega) _ _).trans ((goY (by omega) _ _).trans ?_)
    rfl
  ·have hct':cmpP (l.take (i+1))=l.take (i+1):=by
    rw [hct,if_neg (fun h=>he h.symm),ht,List.take_add_one,g1]
    rfl
   have nx:∀ {R},E cx (Key.loop 135 [true,true,false,true,false]) [.val (.slice none 0 0),vi (i+1:Nat),.arr 0 2 0 l.length] [⟨.arr,80,2,2,prs l⟩]=R→E cx (Key.loop 135 [true,true,false,true,false]) [.val (.slice none 0 0),vi i,.arr 0 2 0 l.length] [⟨.arr,80,2,2,prs l⟩]=R:=fun {R} h=>by
    refine(f135_l0 _ _ _).trans ((goD (by omega) _ _).trans ((goY (by omega) _ _).trans ((goY (by omega) _ _).trans ((go1P (n:=i) (o:=0) rfl (by rw [Nat.zero_add];exact g1) _).trans ?_))))
    rw [wp]
    refine(goY (by omega) _ _).trans ((goY (by omega) _ _).trans ((go1P (n:=i-1) (o:=0) rfl (by rw [Nat.zero_add];exact g2) _).trans ?_))
    refine(goPdn he _ _).trans ?_
    rw [wS (by omega)]
    exact h
   rcases loop135 l hl d (i+1) (by omega) (by omega) hct' with⟨q1,q2⟩ |⟨k,es,q1,q2,q3⟩
   ·exact .inl ⟨q1,nx q2⟩
   ·exact .inr ⟨k,es,q1,q2,nx q3⟩
theorem c135 (l:List P2) (hl:l.length≤4000000):∃es:List (List AV),es.take (cmpP l).length=prs (cmpP l)∧es.length=l.length∧E cx (Key.own 135) [.arr 0 2 0 l.length] [⟨.arr,80,2,2,prs l⟩]=some (Out.ret (.arr 0 2 0 (cmpP l).length),[⟨.arr,80,2,2,es⟩]):=by
 by_cases h2:l.length<2
 ·have hc:cmpP l=l:=by
   match l,h2 with
   | [],_=>rfl
   | [x],_=>rfl
   |x::y::r,h=>simp at h;omega
  refine⟨prs l,?_,prs_len l,(f135 _ _).trans ((goD (by omega) _ _).trans (by rw [hc]))⟩
  rw [hc,List.take_of_length_le (by rw [prs_len];exact Nat.le_refl _)]
 ·have h1:cmpP (l.take 1)=l.take 1:=by
   match l with
   | []=>rfl
   | [x]=>rfl
   |x::y::r=>rfl
  have key:=loop135 l hl (l.length-1) 1 (by omega) (by omega) h1
  have start:∀ {R},_=R→E cx (Key.own 135) [.arr 0 2 0 l.length] [⟨.arr,80,2,2,prs l⟩]=R:=fun {R} h=>(f135 _ _).trans ((goDn (by omega) _ _).trans h)
  rcases key with⟨q1,q2⟩ |⟨k,es,q1,q2,q3⟩
  ·refine⟨prs l,?_,prs_len l,start ?_⟩
   ·rw [q1,List.take_of_length_le (by rw [prs_len];exact Nat.le_refl _)]
   ·show(Ω (E cx (Key.loop 135 [true,true,false,true,false]) [.val (.slice none 0 0),vi ((1:Nat):Int),.arr 0 2 0 l.length] [⟨.arr,80,2,2,prs l⟩]) _)=_
    rw [q2,q1]
    rfl
  ·refine⟨es,q1,q2,start ?_⟩
   show(Ω (E cx (Key.loop 135 [true,true,false,true,false]) [.val (.slice none 0 0),vi ((1:Nat):Int),.arr 0 2 0 l.length] [⟨.arr,80,2,2,prs l⟩]) _)=_
   rw [q3]
   rfl
end
section
theorem atW_spec (p:P2) (l:List P2) (hl:PW l):∀n,n≤l.length→(∀i (h:i<l.length),i<atW p l n→leP l[i] p=true)∧∀i (h:i<l.length),atW p l n≤i→i<n→leP p l[i]=true
 | 0,_=>⟨fun i h hi=>by simp [atW] at hi,fun i h _ hi=>by omega⟩
 |n+1,hn=>by
  have g:l[n]?=some l[n]:=η (by omega)
  unfold atW
  rw [g]
  simp only
  cases h:ltP l[n] p with
  |true =>
   simp only [if_true]
   refine⟨fun i hi hin=> ?_,fun i hi h1 h2=>by omega⟩
   have h1:leP l[n] p=true:=(leP_iff _ _).2 (by have:=(ltP_def _ _).1 h;omega)
   by_cases e:i=n
   ·subst e;exact h1
   ·exact leP_trans _ _ _ (List.pairwise_iff_getElem.1 hl i n hi (by omega) (by omega)) h1
  |false =>
   simp only [Bool.false_eq_true,if_false]
   obtain⟨g1,g2⟩:=atW_spec p l hl n (by omega)
   refine⟨g1,fun i hi h1 h2=> ?_⟩
   by_cases e:i=n
   ·subst e
    have:leP l[i] p=true→p=l[i]:=fun h3=>by
     rcases(leP_iff _ _).1 h3 with h4 |h4
     ·exact absurd ((ltP_def _ _).2 (.inl h4)) (by rw [h];simp)
     ·rcases Nat.lt_or_ge l[i].2 p.2 with h5 |h5
      ·exact absurd ((ltP_def _ _).2 (.inr ⟨h4.1,h5⟩)) (by rw [h];simp)
      ·exact Prod.ext h4.1.symm (by omega)
    cases h6:leP l[i] p with
    |false=>exact leP_not h6
    |true =>
     rw [←this h6]
     exact(leP_iff _ _).2 (.inr ⟨rfl,Nat.le_refl _⟩)
   ·exact g2 i hi h1 (by omega)
theorem insW_perm (p:P2) (l:List P2):(insW p l).Perm (p::l):=by
 unfold insW
 refine List.perm_middle.trans ?_
 rw [List.take_append_drop]
theorem insW_pw (p:P2) (l:List P2) (hl:PW l):PW (insW p l):=by
 obtain⟨g1,g2⟩:=atW_spec p l hl l.length (Nat.le_refl _)
 have hk:=atW_le p l l.length
 unfold insW
 refine List.pairwise_append.2 ⟨hl.sublist (List.take_sublist _ _),List.pairwise_cons.2 ⟨fun q hq=> ?_,hl.sublist (List.drop_sublist _ _)⟩,fun a ha b hb=> ?_⟩
 ·obtain⟨i,hi,rfl⟩:=List.mem_iff_getElem.1 hq
  rw [List.length_drop] at hi
  rw [List.getElem_drop]
  exact g2 _ (by omega) (by omega) (by omega)
 ·obtain⟨i,hi,rfl⟩:=List.mem_iff_getElem.1 ha
  rw [List.length_take] at hi
  rw [List.getElem_take]
  have h1:=g1 i (by omega) (by omega)
  rcases List.mem_cons.1 hb with rfl |hb
  ·exact h1
  ·obtain⟨j,hj,rfl⟩:=List.mem_iff_getElem.1 hb
   rw [List.length_drop] at hj
   rw [List.getElem_drop]
   exact leP_trans _ _ _ h1 (g2 _ (by omega) (by omega) (by omega))
theorem sw_pw {l:List P2}(h:SW l):PW l:=h.imp fun {a b} h=>(leP_iff _ _).2 (by have:=(ltP_def _ _).1 h;omega)
theorem sw_nodup {l:List P2}(h:SW l):l.Nodup:=h.imp fun {a b} h e=>by rw [e,ltP_irr] at h;cases h
theorem pw_sw {l:List P2}(h:PW l) (hn:l.Nodup):SW l:=by
 refine List.Pairwise.imp₂ ?_ h hn
 intro a b h1 h2
 cases h3:ltP a b with
 |true=>rfl
 |false=>exact absurd (leP_anti _ _ h1 ((leP_iff _ _).2 (by have:=(ltP_def _ _).1 (ltP_tri h3 h2);omega))) h2
theorem sw_ext:∀ {a b:List P2},SW a→SW b→(∀x,x∈a↔x∈b)→a=b
 | [],[],_,_,_=>rfl
 | [],y::b,_,_,h=>absurd ((h y).2 (List.mem_cons_self ..)) (by simp)
 |x::a,[],_,_,h=>absurd ((h x).1 (List.mem_cons_self ..)) (by simp)
 |x::a,y::b,ha,hb,h=>by
  obtain⟨h1,h2⟩:=List.pairwise_cons.1 ha
  obtain⟨h3,h4⟩:=List.pairwise_cons.1 hb
  have e:x=y:=by
   rcases List.mem_cons.1 ((h x).1 (List.mem_cons_self ..)) with e |e
   ·exact e
   ·rcases List.mem_cons.1 ((h y).2 (List.mem_cons_self ..)) with e2 |e2
    ·exact e2.symm
    ·have:=ltP_trans (h3 x e) (h1 y e2)
     rw [ltP_irr] at this
     cases this
  subst e
  congr 1
  refine sw_ext h2 h4 fun z=>⟨fun hz=> ?_,fun hz=> ?_⟩
  ·rcases List.mem_cons.1 ((h z).1 (List.mem_cons_of_mem _ hz)) with e |e
   ·subst e
    have:=h1 z hz
    rw [ltP_irr] at this
    cases this
   ·exact e
  ·rcases List.mem_cons.1 ((h z).2 (List.mem_cons_of_mem _ hz)) with e |e
   ·subst e
    have:=h3 z hz
    rw [ltP_irr] at this
    cases this
   ·exact e
def uni (t:List P2):List P2→List P2
 | []=>t
 |p::r=>if p∈t then uni t r else uni (insW p t) r
theorem uni_mem:∀ {l t:List P2}{x:P2},x∈uni t l↔x∈t∨x∈l
 | [],t,x=>by simp [uni]
 |p::r,t,x=>by
  unfold uni
  by_cases h:p∈t
  ·rw [if_pos h,uni_mem,List.mem_cons]
   constructor
   ·rintro(h1 |h1)<;>simp [h1]
   ·rintro(h1 |rfl |h1)<;>simp [*]
  ·rw [if_neg h,uni_mem,(insW_perm p t).mem_iff,List.mem_cons,List.mem_cons]
   constructor
   ·rintro((h1 |h1) |h1)<;>simp [h1]
   ·rintro(h1 |h1 |h1)<;>simp [h1]
theorem insW_sw {p:P2}{t:List P2}(h:SW t) (hp:p ∉ t):SW (insW p t) :=
 pw_sw (insW_pw p t (sw_pw h)) ((insW_perm p t).nodup_iff.2 (List.nodup_cons.2 ⟨hp,sw_nodup h⟩))
theorem uni_sw:∀ {l t:List P2},SW t→SW (uni t l)
 | [],t,h=>h
 |p::r,t,h=>by
  unfold uni
  by_cases hp:p∈t
  ·rw [if_pos hp];exact uni_sw h
  ·rw [if_neg hp];exact uni_sw (insW_sw h hp)
theorem uni_len:∀(l t:List P2),(uni t l).length≤t.length+l.length
 | [],t=>Nat.le_refl _
 |p::r,t=>by
  unfold uni
  split
  ·have:=uni_len r t;simp;omega
  ·have:=uni_len r (insW p t);rw [insW_len] at this;simp;omega
theorem cmpP_sw:∀ {l:List P2},PW l→SW (cmpP l)
 | [],_ => .nil
 | [x],_ => .cons (fun _ h=>by cases h) .nil
 |x::y::r,h=>by
  obtain⟨h1,h2⟩:=List.pairwise_cons.1 h
  unfold cmpP
  split
  ·exact cmpP_sw h2
  ·rename_i hne
   refine List.pairwise_cons.2 ⟨fun z hz=> ?_,cmpP_sw h2⟩
   have hz':=cmpP_mem.1 hz
   have hxy:=h1 y (List.mem_cons_self ..)
   have hyz:leP y z=true:=by
    rcases List.mem_cons.1 hz' with rfl |hz'
    ·exact(leP_iff _ _).2 (.inr ⟨rfl,Nat.le_refl _⟩)
    ·exact(List.pairwise_cons.1 h2).1 z hz'
   cases hc:ltP x z with
   |true=>rfl
   |false =>
    exfalso
    by_cases e:x=z
    ·subst e
     exact hne (leP_anti _ _ hxy hyz)
    ·have h5:=(ltP_def _ _).1 (ltP_tri hc e)
     have h6:=(leP_iff _ _).1 (leP_trans _ _ _ hxy hyz)
     omega
theorem uni_eq {t l:List P2}(h:SW t):cmpP (sorted (t++l))=uni t l:=by
 refine sw_ext (cmpP_sw (sorted_pw _)) (uni_sw h) fun x=> ?_
 rw [cmpP_mem,(sorted_perm _).mem_iff,List.mem_append,uni_mem]
def RP (x:Option (Out×Heap)) (r:List P2×Int):Prop:=∃a,x=some (Out.ret (.tuple [a,vi r.2]),[])∧a.list? 2=some (prs r.1)
noncomputable def addR (t l:List P2):List P2×Int:=if tabR t then(if(uni t l).length≤4096 then(uni t l,0) else([],4)) else([],1)
theorem view_prs {l:List P2}:List.drop 0 (List.take (Nat.add 0 (Nat.add 0 l.length)) ([]++prs l))=prs l:=by
 rw [List.nil_append,show Nat.add 0 (Nat.add 0 l.length)=l.length by show 0+(0+l.length)=_;omega,List.take_of_length_le (by rw [prs_len];exact Nat.le_refl _)]
 rfl
theorem goL {ρ:Type}{x:Option (Out×Heap)}{es:List (List AV)}(h:x=some (Out.ret (.list 0 2 es),[])) (k:List (List AV)→Option ρ):(x.bind fun r=>(ret1 r).bind fun v=>(AV.list? 2 v).bind fun es=>k es)=k es:=by rw [h];rfl
theorem loop82 (l:List P2) (hl:l.length≤100000):∀(rest:List P2) (i:Nat) (o:List P2),l.drop i=rest→i+rest.length=l.length→o.length+rest.length≤200000→∃y,E cx (.loop 82 [true,true,true,true,false,true,false]) [.list 0 2 (prs o),vi i,.list 0 2 (prs l)] [⟨.dead,80,2,2,[]⟩]=some (Out.jump (.exit 0) [.list 0 2 (prs (uni o rest)),vi y],[⟨.dead,80,2,2,[]⟩]):=by
 intro rest
 induction rest with
 |nil =>
  intro i o hd hi ho
  exact⟨i,(f82_l0 _ _ _).trans (goDn (by rw [prs_len];simp at hi;omega) _ _)⟩
 |cons p r ih =>
  intro i o hd hi ho
  obtain⟨g,hd2,hlt⟩:=drop_cons' hd
  simp only [List.length_cons] at hi ho
  have st:=(f82_l0 (prs o) (i:Int) (prs l)).trans ((goD (show(i:Int)<((prs l).length:Int) by rw [prs_len];omega) _ _).trans ((goY (show(0:Int)≤(i:Int) by omega) _ _).trans ((goPr (n:=i) rfl g _).trans (goB (c136 o p (by omega)) _))))
  rw [wS (by omega)] at st
  unfold uni
  by_cases hp:p∈o
  ·rw [decide_eq_true hp] at st
   rw [if_pos hp,st]
   exact ih (i+1) o hd2 (by omega) (by omega)
  ·rw [decide_eq_false hp,cond_false] at st
   rw [if_neg hp,st]
   obtain⟨y,hy⟩:=ih (i+1) (insW p o) hd2 (by omega) (by rw [insW_len];omega)
   refine⟨y,?_⟩
   exact(goY (show(0:Int)≤(i:Int) by omega) _ _).trans ((goPr (n:=i) rfl g _).trans ((goL (c137 o p (by omega)) _).trans hy))
theorem c82 (t l:List P2) (ht:t.length≤100000) (hl:l.length≤100000):RP (E cx (Key.fn 82) [.list 0 2 (prs t),.list 0 2 (prs l)] []) (addR t l):=by
 have st:=f82 (prs t) (prs l)
 unfold addR
 cases h:tabR t with
 |false=>exact⟨_,st.trans (goF ((c84 t (by omega)).trans (by rw [h])) _ _),rfl⟩
 |true =>
  have st:=st.trans (goT ((c84 t (by omega)).trans (by rw [h])) _ _)
  rw [ysOk_prs] at st
  simp only [prs_len] at st
  rw [view_prs] at st
  obtain⟨y,hy⟩:=loop82 l hl l 0 t rfl (by omega) (by omega)
  have hll:=uni_len l t
  have st:=st.trans ((goY (show Nat.mul (Nat.add 0 t.length) 16≤140737488355328 by show(0+t.length)*16≤_;omega) _ _).trans ((goLe (show Nat.add 0 (Nat.add 0 t.length)≤([]++prs t).length by simp [prs]) _)))
  rw [show(0:Int)=((0:Nat):Int) from rfl,hy] at st
  simp only [if_true]
  have fin:∀(Y:Option (Out×Heap)),(E cx (Key.fn 82) [.list 0 2 (prs t),.list 0 2 (prs l)] []=bif decide (((prs (uni t l)).length:Int)>4096) then some (Out.ret (.tuple [.val (.slice none 0 0),vi 4]),[]) else some (Out.ret (.tuple [.list 0 2 (prs (uni t l)),vi 0]),[])):=fun _=>st
  have fin:=fin none
  rw [prs_len] at fin
  by_cases h5:(uni t l).length≤4096
  ·rw [if_pos h5]
   exact⟨_,fin.trans (goDn (show ¬((uni t l).length:Int)>4096 by omega) _ _),rfl⟩
  ·rw [if_neg h5]
   exact⟨_,fin.trans (goD (show((uni t l).length:Int)>4096 by omega) _ _),rfl⟩
end
section
theorem goLi {ρ:Type}{W:List (List AV)}{i:Int}{es:List (List AV)}(h:W[i.toNat]?=some [AV.list 0 2 es]) (k:List (List AV)→Option ρ):(W[i.toNat]?.bind fun cs=>(uncons? cs).bind fun p=>(AV.list? 2 p.fst).bind fun es=>(nil? p.snd).bind fun _=>k es)=k es:=by rw [h];rfl
theorem c133 (a b:List P2) (ha:a.length≤200000) (hb:b.length≤200000):E cx (Key.own 133) [.list 0 1 [[.list 0 2 (prs a)],[.list 0 2 (prs b)]]] []=some (Out.ret (.arr 0 2 0 (a.length+b.length)),[⟨.arr,80,2,2,prs (a++b)⟩]):=by
 have s1:∀n:Nat,n≤1000000→∀l:List P2,l.length≤1000000→ω .i64 (Int.add (n:Int) ((prs l).length:Int))=((n+l.length:Nat):Int):=fun n hn l hl=>by
  rw [prs_len]
  exact(wr_add (by omega) (by omega)).trans (by omega)
 have e2:E cx (Key.loop 133 [true,true,false,true,false]) [vi ((a.length+b.length:Nat):Int),vi ((2:Nat):Int),.list 0 1 [[.list 0 2 (prs a)],[.list 0 2 (prs b)]],.list 0 1 [[.list 0 2 (prs a)],[.list 0 2 (prs b)]],vi 2] []=some (Out.jump (.exit 0) [vi ((a.length+b.length:Nat):Int),vi 2],[]) :=
  (f81_c0_l1 _ _ _ _ _).trans (goDn (by decide) _ _)
 have e1:E cx (Key.loop 133 [true,true,false,true,false]) [vi ((a.length:Nat):Int),vi ((1:Nat):Int),.list 0 1 [[.list 0 2 (prs a)],[.list 0 2 (prs b)]],.list 0 1 [[.list 0 2 (prs a)],[.list 0 2 (prs b)]],vi 2] []=some (Out.jump (.exit 0) [vi ((a.length+b.length:Nat):Int),vi 2],[]):=by
  refine(f81_c0_l1 _ _ _ _ _).trans ((goD (by decide) _ _).trans ((goY (by decide) _ _).trans ?_))
  refine(goLi (es:=prs b) rfl _).trans ?_
  rw [s1 _ (by omega) _ (by omega),wS (by omega)]
  exact(goDn (by omega) _ _).trans e2
 have e0:E cx (Key.loop 133 [true,true,false,true,false]) [vi 0,vi ((0:Nat):Int),.list 0 1 [[.list 0 2 (prs a)],[.list 0 2 (prs b)]],.list 0 1 [[.list 0 2 (prs a)],[.list 0 2 (prs b)]],vi 2] []=some (Out.jump (.exit 0) [vi ((a.length+b.length:Nat):Int),vi 2],[]):=by
  refine(f81_c0_l1 _ _ _ _ _).trans ((goD (by decide) _ _).trans ((goY (by decide) _ _).trans ?_))
  refine(goLi (es:=prs a) rfl _).trans ?_
  rw [show(0:Int)=((0:Nat):Int) from rfl,s1 _ (by omega) _ (by omega),wS (by omega),Nat.zero_add]
  exact(goDn (by omega) _ _).trans e1
 have z2:E cx (Key.loop 133 [true,true,true,true,false,true,false]) [.arr 0 2 0 (a.length+b.length),vi ((2:Nat):Int),.list 0 1 [[.list 0 2 (prs a)],[.list 0 2 (prs b)]],vi 2] [⟨.arr,80,2,2,prs (a++b)⟩]=some (Out.jump (.exit 2) [.arr 0 2 0 (a.length+b.length),vi 2],[⟨.arr,80,2,2,prs (a++b)⟩]) :=
  (f81_c0_l2 _ _ _ _ _).trans (goDn (by decide) _ _)
 have z1:E cx (Key.loop 133 [true,true,true,true,false,true,false]) [.arr 0 2 0 a.length,vi ((1:Nat):Int),.list 0 1 [[.list 0 2 (prs a)],[.list 0 2 (prs b)]],vi 2] [⟨.arr,80,2,2,prs a⟩]=some (Out.jump (.exit 2) [.arr 0 2 0 (a.length+b.length),vi 2],[⟨.arr,80,2,2,prs (a++b)⟩]):=by
  refine(f81_c0_l2 _ _ _ _ _).trans ((goD (by decide) _ _).trans ((goY (by decide) _ _).trans ?_))
  refine(goLi (es:=prs b) rfl _).trans ?_
  rw [ysOk_prs]
  refine(goCk (show a.length=(prs a).length from(prs_len a).symm) _).trans ((goY (show Nat.mul (Nat.add (prs a).length (prs b).length) 16≤140737488355328 by rw [prs_len,prs_len];show(a.length+b.length)*16≤_;omega) _ _).trans ?_)
  rw [wS (by omega)]
  show E cx (Key.loop 133 [true,true,true,true,false,true,false]) [.arr 0 2 0 ((prs a).length+(prs b).length),vi ((2:Nat):Int),.list 0 1 [[.list 0 2 (prs a)],[.list 0 2 (prs b)]],vi 2] [⟨.arr,80,2,2,prs a++prs b⟩]=_
  rw [prs_len,prs_len,prs_app']
  exact z2
 have z0:E cx (Key.loop 133 [true,true,true,true,false,true,false]) [.arr 0 2 0 0,vi ((0:Nat):Int),.list 0 1 [[.list 0 2 (prs a)],[.list 0 2 (prs b)]],vi 2] [⟨.arr,80,2,2,[]⟩]=some (Out.jump (.exit 2) [.arr 0 2 0 (a.length+b.length),vi 2],[⟨.arr,80,2,2,prs (a++b)⟩]):=by
  refine(f81_c0_l2 _ _ _ _ _).trans ((goD (by decide) _ _).trans ((goY (by decide) _ _).trans ?_))
  refine(goLi (es:=prs a) rfl _).trans ?_
  rw [ysOk_prs]
  refine(goCk (show 0=([]:List (List AV)).length from rfl) _).trans ((goY (show Nat.mul (Nat.add ([]:List (List AV)).length (prs a).length) 16≤140737488355328 by rw [prs_len];show(0+a.length)*16≤_;omega) _ _).trans ?_)
  rw [wS (by omega)]
  show E cx (Key.loop 133 [true,true,true,true,false,true,false]) [.arr 0 2 0 (0+(prs a).length),vi ((1:Nat):Int),.list 0 1 [[.list 0 2 (prs a)],[.list 0 2 (prs b)]],vi 2] [⟨.arr,80,2,2,prs a⟩]=_
  rw [prs_len,Nat.zero_add]
  exact z1
 refine(f81_c0 _).trans ?_
 show(Ω (E cx (Key.loop 133 [true,true,false,true,false]) [vi 0,vi ((0:Nat):Int),.list 0 1 [[.list 0 2 (prs a)],[.list 0 2 (prs b)]],.list 0 1 [[.list 0 2 (prs a)],[.list 0 2 (prs b)]],vi 2] []) _)=_
 rw [e0]
 show(Ω (growP [.val (.slice none 0 0),vi ((a.length+b.length:Nat):Int)]) _)=_
 have hg:growP [.val (.slice none 0 0),vi ((a.length+b.length:Nat):Int)]=some []:=by
  show(if(0:Int)≤((a.length+b.length:Nat):Int) then(if((a.length+b.length:Nat):Int)≤1000000000000 then some [] else none) else none)=_
  rw [if_pos (by omega),if_pos (by omega)]
 rw [hg]
 show(Ω (E cx (Key.loop 133 [true,true,true,true,false,true,false]) [.arr 0 2 0 0,vi ((0:Nat):Int),.list 0 1 [[.list 0 2 (prs a)],[.list 0 2 (prs b)]],vi 2] [⟨.arr,80,2,2,[]⟩]) _)=_
 rw [z0]
 rfl
theorem sortPo_prs (l:List P2):sortPP [.func (Fn.func 134) [] []] (prs l)=some (prs (sorted l)):=by
 have h1:sortP [.func (Fn.func 134) [] []] (prs l)=none:=by rfl
 unfold sortPP
 rw [h1]
 have h:=sortP_prs l
 unfold sortP sortZ at h
 unfold sortPo sortZ
 exact h
theorem goA2p {ρ:Type}{x:Option (Out×Heap)}{n:Nat}{R:List (List AV)}(h:x=some (Out.ret (.arr 0 2 0 n),[⟨.arr,80,2,2,R⟩])) (k:Nat×Nat×Nat→Ob×List Ob→Option ρ):(x.bind fun r=>(asRet r).bind fun q=>(AV.arr? 0 q.fst).bind fun z=>(chk z.fst 2).bind fun _=>(uncons? q.snd).bind fun p=>(obIs (Ob.mk OK.arr 80 2 2 []) p.fst).bind fun _=>(chk p.fst.ver 2).bind fun _=>(nil? p.snd).bind fun _=>k z p)=k (2,0,n) (⟨.arr,80,2,2,R⟩,[]):=by rw [h];rfl
theorem c81 (t l:List P2) (ht:t.length≤100000) (hl:l.length≤100000):RP (E cx (Key.fn 81) [.list 0 2 (prs t),.list 0 2 (prs l)] []) (addR t l):=by
 have st:=f81 (prs t) (prs l)
 unfold addR
 cases h:tabR t with
 |false=>exact⟨_,st.trans (goF ((c83 t (by omega)).trans (by rw [h])) _ _),rfl⟩
 |true =>
  have hsw:=((tabR_iff t).1 h).1
  have hu:=uni_eq (l:=l) hsw
  have st:=st.trans ((goT ((c83 t (by omega)).trans (by rw [h])) _ _).trans (goA2p (c133 t l (by omega) (by omega)) _))
  dsimp only at st
  have hln:(prs (t++l)).length=t.length+l.length:=by rw [prs_len,List.length_append]
  have e0:Nat.add 0 (t.length+l.length)=t.length+l.length:=Nat.zero_add _
  rw [e0,List.take_of_length_le (by omega),List.drop_zero] at st
  have st:=st.trans ((goLe (show t.length+l.length≤(prs (t++l)).length by omega) _).trans ((goY (show t.length+l.length≤4611686018427387903 by omega) _ _).trans (show Ω (sortPP [.func (Fn.func 134) [] []] (prs (t++l))) _=_ by rw [sortPo_prs])))
  have e1:List.take 0 (prs (t++l))++prs (sorted (t++l))++List.drop (t.length+l.length) (prs (t++l))=prs (sorted (t++l)):=by
   rw [List.drop_of_length_le (by omega)]
   simp
  rw [χ,e1] at st
  have hsl:(sorted (t++l)).length=t.length+l.length:=by rw [(sorted_perm _).length_eq,List.length_append]
  obtain⟨es,q1,q2,q3⟩:=c135 (sorted (t++l)) (by omega)
  rw [hsl,hu] at q3
  rw [hu] at q1
  have st:=st.trans (goA2p q3 _)
  dsimp only at st
  have hcl:=cmpP_le (sorted (t++l))
  rw [hu] at hcl
  simp only [if_true]
  by_cases h5:(uni t l).length≤4096
  ·rw [if_pos h5]
   have e2:Nat.add 0 (uni t l).length=(uni t l).length:=Nat.zero_add _
   have st:=st.trans ((goDn (show ¬((uni t l).length:Int)>4096 by omega) _ _).trans (goLe (show Nat.add 0 (uni t l).length≤es.length by rw [e2];omega) _))
   rw [e2,q1] at st
   exact⟨_,st,rfl⟩
  ·rw [if_neg h5]
   exact⟨_,st.trans (goD (show((uni t l).length:Int)>4096 by omega) _ _),rfl⟩
end
section
theorem addR_ok {t l:List P2}(h:SW t) (hl:t.length+l.length≤4096):addR t l=(uni t l,0):=by
 have h1:=uni_len l t
 unfold addR
 rw [if_pos ((tabR_iff t).2 ⟨h,by omega⟩),if_pos (by omega)]
def tabL:List Int→List P2→List P2
 | [],o=>o
 |a::r,o=>tabL r (uni o [pairOf a])
def tabP (raw:List Int):List P2:=tabL (raw.take 60) []
theorem tabL_sw:∀(l:List Int) (o:List P2),SW o→SW (tabL l o)
 | [],o,h=>h
 |a::r,o,h=>tabL_sw r _ (uni_sw h)
theorem tabL_len:∀(l:List Int) (o:List P2),(tabL l o).length≤o.length+l.length
 | [],o=>Nat.le_refl _
 |a::r,o=>by
  have h1:=tabL_len r (uni o [pairOf a])
  have h2:=uni_len [pairOf a] o
  simp only [tabL,List.length_cons,List.length_nil] at *
  omega
theorem tabP_sw (raw:List Int):SW (tabP raw):=tabL_sw _ _ .nil
theorem tabP_len (raw:List Int):(tabP raw).length≤60:=by
 have h:=tabL_len (raw.take 60) []
 rw [List.length_take] at h
 simp only [List.length_nil] at h
 unfold tabP
 omega
theorem tabP_right (raw:List Int):tabR (tabP raw)=true:=(tabR_iff _).2 ⟨tabP_sw raw,by have:=tabP_len raw;omega⟩
theorem goRP {ρ:Type}{x:Option (Out×Heap)}{r:List P2×Int}(h:RP x r) (k:List (List AV)→Int→Option ρ):(x.bind fun r=>(ret1 r).bind fun v=>(AV.tup? v).bind fun vs=>(uncons? vs).bind fun p=>(AV.list? 2 p.fst).bind fun es=>(uncons? p.snd).bind fun q=>(AV.int? .i64 q.fst).bind fun n=>(nil? q.snd).bind fun _=>k es n)=k (prs r.1) r.2:=by
 obtain⟨a,h1,h2⟩:=h
 rw [h1]
 show(Ω (AV.list? 2 a) _)=_
 rw [h2]
 rfl
theorem get_int {raw:List Int}(hr:∀a∈raw,RI a) {i:Nat}{a:Int}(h:raw[i]?=some a):RI a:=hr a (List.mem_of_getElem? h)
theorem ri_div {a:Int}(h:RI a):RI (a.tdiv 16):=by
 have h1:(a.tdiv 16).natAbs=a.natAbs/16:=Int.natAbs_tdiv a 16
 unfold RI at *
 omega
theorem loop79 (raw:List Int) (hr:∀a∈raw,RI a):∀(rest:List Int) (i:Nat) (o:List P2),(raw.take 60).drop i=rest→i+rest.length=(raw.take 60).length→SW o→o.length≤i→∃y,E cx (.loop 79 [true,true,false,true,false]) [.list 0 2 (prs o),vi i,.list 0 1 (ints raw)] []=some (Out.jump (.exit 0) [.list 0 2 (prs (tabL rest o)),vi y],[]):=by
 intro rest
 induction rest with
 |nil =>
  intro i o hd hi hsw ho
  refine⟨i,(f79_l0 _ _ _).trans ?_⟩
  rw [List.length_take] at hi
  simp only [List.length_nil,List.length_map] at hi ⊢
  by_cases h1:i<raw.length
  ·exact(goD (show(i:Int)<(raw.length:Int) by omega) _ _).trans (goDn (show ¬(i:Int)<60 by omega) _ _)
  ·exact goDn (show ¬(i:Int)<(raw.length:Int) by omega) _ _
 |cons a r ih =>
  intro i o hd hi hsw ho
  obtain⟨g,hd2,hlt⟩:=drop_cons' hd
  rw [List.length_take] at hlt
  have g':raw[i]?=some a:=by rw [List.getElem?_take,if_pos (by omega)] at g;exact g
  have hra:=get_int hr g'
  have hlen:=uni_len [pairOf a] o
  simp only [List.length_cons,List.length_nil] at hi hlen
  have hil:i+1≤60:=by omega
  obtain⟨y,hy⟩:=ih (i+1) (uni o [pairOf a]) hd2 (by omega) (uni_sw hsw) (by omega)
  have c:=c82 o [pairOf a] (by omega) (by simp)
  rw [addR_ok hsw (by simp;omega)] at c
  refine⟨y,(f79_l0 _ _ _).trans ((goD (show(i:Int)<((ints raw).length:Int) by simp;omega) _ _).trans ((goD (show(i:Int)<60 by omega) _ _).trans ((goY (show(0:Int)≤(i:Int) by omega) _ _).trans ((go1 (n:=i) rfl g' _).trans ((goI (c94 hra (by omega)) _).trans ((goY (show(0:Int)≤(i:Int) by omega) _ _).trans ((go1 (n:=i) rfl g' _).trans ?_)))))))⟩
  have hdv:=ri_div hra
  rw [show ω .i64 (Int.tdiv a 16)=a.tdiv 16 from wr_id hdv.1 hdv.2]
  refine(goI (c94 hdv (by omega)) _).trans ?_
  rw [wu_pick (c:=a) (n:=12) (by omega) (by omega),wu_pick (c:=Int.tdiv a 16) (n:=3) (by omega) (by omega)]
  refine(goRP (show RP (E cx (.fn 82) [.list 0 2 (prs o),.list 0 2 [[vu ((pickI a 12).toNat:Int),vu ((pickI (Int.tdiv a 16) 3).toNat:Int)]]] []) (uni o [pairOf a],0) from c) _).trans ?_
  rw [wS (by omega)]
  exact hy
theorem c79 (raw:List Int) (hr:∀a∈raw,RI a):E cx (Key.fn 79) [.list 0 1 (ints raw)] []=some (Out.ret (.list 0 2 (prs (tabP raw))),[]):=by
 obtain⟨y,h⟩:=loop79 raw hr (raw.take 60) 0 [] rfl (by omega) .nil (Nat.le_refl _)
 refine(f79 _).trans ?_
 show(Ω (E cx (.loop 79 [true,true,false,true,false]) [.list 0 2 (prs []),vi ((0:Nat):Int),.list 0 1 (ints raw)] []) _)=_
 rw [h]
 rfl
def kyL:List Int→List Nat→List Nat
 | [],o=>o
 |a::r,o=>if(pickI a 12).toNat∈o then kyL r o else kyL r (o++[(pickI a 12).toNat])
def keyP (raw:List Int):List Nat:=kyL (raw.take 12) []
theorem kyL_spec:∀(l:List Int) (o:List Nat),o.Nodup→(∀k∈o,k<12)→(kyL l o).Nodup∧(∀k∈kyL l o,k<12)∧(kyL l o).length≤o.length+l.length
 | [],o,h1,h2=>⟨h1,h2,Nat.le_refl _⟩
 |a::r,o,h1,h2=>by
  have hp:=pickI_lt (c:=a) (n:=12) (by omega)
  unfold kyL
  split
  ·obtain⟨q1,q2,q3⟩:=kyL_spec r o h1 h2
   exact⟨q1,q2,by simp;omega⟩
  ·rename_i hn
   obtain⟨q1,q2,q3⟩:=kyL_spec r (o++[(pickI a 12).toNat]) (List.nodup_append.2 ⟨h1,by simp,by simp;exact fun x hx e=>hn (e▸hx)⟩) (fun k hk=>by
    rcases List.mem_append.1 hk with h |h
    ·exact h2 k h
    ·rw [List.mem_singleton] at h;omega)
   exact⟨q1,q2,by simp at q3 ⊢;omega⟩
theorem keyP_spec (raw:List Int):(keyP raw).Nodup∧(∀k∈keyP raw,k<12)∧(keyP raw).length≤12:=by
 obtain⟨h1,h2,h3⟩:=kyL_spec (raw.take 12) [] List.nodup_nil (fun k h=>by cases h)
 refine⟨h1,h2,?_⟩
 rw [List.length_take] at h3
 simp at h3
 unfold keyP
 omega
abbrev rowsT (l:List Bool):List (List AV):=l.map fun b=>[vbool b]
theorem goTt {ρ:Type}{l:List Bool}{i:Int}{n:Nat}{b:Bool}(hn:i=n) (h:l[n]?=some b) (k:Bool→Option ρ):((nth (rowsT l) (Nat.add 0 (τ i))).bind fun cs=>(uncons? cs).bind fun p=>(AV.bool? p.fst).bind fun s=>(nil? p.snd).bind fun _=>k s)=k b:=by
 subst hn
 have:nth (rowsT l) (Nat.add 0 (τ (n:Int)))=some [vbool b]:=by
  rw [nth_eq,Int.toNat_natCast,show Nat.add 0 n=n from Nat.zero_add n]
  simp [rowsT,h]
 rw [this]
 rfl
theorem loop80 (raw:List Int) (hr:∀a∈raw,RI a):∀(rest:List Int) (i:Nat) (o:List Nat) (hb:List Bool),(raw.take 12).drop i=rest→i+rest.length=(raw.take 12).length→hb.length=12→(∀k,k<12→hb[k]?=some (decide (k∈o)))→o.length≤i→∃y hb',E cx (.loop 80 [true,true,true,false,true,false]) [.arr 1 1 0 o.length,vi i,.list 0 1 (ints raw),.ptr 0 1 0 0] [⟨.arr,161,1,1,rowsT hb⟩,⟨.arr,26,1,1,rowsN o⟩]=some (Out.jump (.exit 0) [.arr 1 1 0 (kyL rest o).length,vi y],[⟨.arr,161,1,1,rowsT hb'⟩,⟨.arr,26,1,1,rowsN (kyL rest o)⟩]):=by
 intro rest
 induction rest with
 |nil =>
  intro i o hb hd hi hl hk ho
  refine⟨i,hb,(f80_l0 _ _ _ _ _).trans ?_⟩
  rw [List.length_take] at hi
  simp only [List.length_nil,List.length_map] at hi ⊢
  by_cases h1:i<raw.length
  ·exact(goD (show(i:Int)<(raw.length:Int) by omega) _ _).trans (goDn (show ¬(i:Int)<12 by omega) _ _)
  ·exact goDn (show ¬(i:Int)<(raw.length:Int) by omega) _ _
 |cons a r ih =>
  intro i o hb hd hi hl hk ho
  obtain⟨g,hd2,hlt⟩:=drop_cons' hd
  rw [List.length_take] at hlt
  have g':raw[i]?=some a:=by rw [List.getElem?_take,if_pos (by omega)] at g;exact g
  have hra:=get_int hr g'
  have hp:=pickI_lt (c:=a) (n:=12) (by omega)
  simp only [List.length_cons] at hi
  have e0:pickI a 12=(((pickI a 12).toNat:Nat):Int):=by omega
  have hbk:=hk (pickI a 12).toNat (by omega)
  have st:=(f80_l0 o.length (i:Int) (ints raw) (rowsT hb) (rowsN o)).trans ((goD (show(i:Int)<((ints raw).length:Int) by simp;omega) _ _).trans ((goD (show(i:Int)<12 by omega) _ _).trans ((goY (show(0:Int)≤(i:Int) by omega) _ _).trans ((go1 (n:=i) rfl g' _).trans ((goI (c94 hra (by omega)) _).trans ((goY hp.1 _ _).trans ((goY hp.2 _ _).trans (goTt e0 hbk _))))))))
  rw [wS (by omega)] at st
  unfold kyL
  by_cases hm:(pickI a 12).toNat∈o
  ·rw [decide_eq_true hm,Bool.not_true,cond_false] at st
   rw [if_pos hm,st]
   exact ih (i+1) o hb hd2 (by omega) hl hk (by omega)
  ·rw [decide_eq_false hm,Bool.not_false,cond_true] at st
   rw [if_neg hm,st]
   obtain⟨y,hb',hy⟩:=ih (i+1) (o++[(pickI a 12).toNat]) (hb.set (pickI a 12).toNat true) hd2 (by omega) (by simp;exact hl) (fun k hk12=>by
    by_cases e:k=(pickI a 12).toNat
    ·subst e
     rw [List.getElem?_set_self (by omega)]
     simp
    ·rw [List.getElem?_set_ne (fun h=>e h.symm),hk k hk12]
     simp [e]) (by simp;omega)
   refine⟨y,hb',(goY hp.1 _ _).trans ((goY hp.2 _ _).trans ((goTt e0 hbk _).trans ((goCk (show o.length=(rowsN o).length from(rowsN_len o).symm) _).trans ((goY (show Nat.mul (Nat.add (rowsN o).length 1) 8≤140737488355328 by rw [rowsN_len];show(o.length+1)*8≤_;omega) _ _).trans ?_))))⟩
   have e1:List.set (rowsT hb) (Nat.add 0 (τ (pickI a 12))) [vbool true]=rowsT (hb.set (pickI a 12).toNat true):=by
    rw [show Nat.add 0 (τ (pickI a 12))=(pickI a 12).toNat from Nat.zero_add _]
    simp [rowsT,List.map_set]
   rw [wu_pick (c:=a) (n:=12) (by omega) (by omega),e1]
   have e2:rowsN o++[[vu ((pickI a 12).toNat:Int)]]=rowsN (o++[(pickI a 12).toNat]):=by simp [rowsN]
   show E cx (.loop 80 [true,true,true,false,true,false]) [.arr 1 1 0 ((rowsN o).length+1),vi ((i+1:Nat):Int),.list 0 1 (ints raw),.ptr 0 1 0 0] [⟨.arr,161,1,1,rowsT (hb.set (pickI a 12).toNat true)⟩,⟨.arr,26,1,1,rowsN o++[[vu ((pickI a 12).toNat:Int)]]⟩]=_
   rw [e2,rowsN_len,show o.length+1=(o++[(pickI a 12).toNat]).length by simp]
   exact hy
theorem c80 (raw:List Int) (hr:∀a∈raw,RI a):E cx (Key.fn 80) [.list 0 1 (ints raw)] []=some (Out.ret (.list 0 1 (rowsN (keyP raw))),[]):=by
 obtain⟨y,hb',h⟩:=loop80 raw hr (raw.take 12) 0 [] (List.replicate 12 false) rfl (by omega) rfl (fun k hk=>by rw [List.getElem?_replicate,if_pos hk];rfl) (Nat.le_refl _)
 refine(f80 _).trans ?_
 show(Ω (E cx (.loop 80 [true,true,true,false,true,false]) [.arr 1 1 0 ([]:List Nat).length,vi ((0:Nat):Int),.list 0 1 (ints raw),.ptr 0 1 0 0] [⟨.arr,161,1,1,rowsT (List.replicate 12 false)⟩,⟨.arr,26,1,1,rowsN []⟩]) _)=_
 rw [h]
 show(Ω (chkLe (Nat.add 0 (kyL (raw.take 12) []).length) (rowsN (kyL (raw.take 12) [])).length) _)=_
 refine(goLe (show Nat.add 0 (kyL (raw.take 12) []).length≤_ by rw [rowsN_len];exact Nat.le_of_eq (Nat.zero_add _)) _).trans ?_
 rw [viewN]
 rfl
def sgL (r:Nat):List Nat→List P2→List P2
 | [],o=>o
 |k::ks,o=>sgL r ks (insW (k,r) o)
def sgn (r:Nat) (ks:List Nat):List P2:=sorted (ks.map fun k=>(k,r))
theorem sgL_spec (r:Nat):∀(ks:List Nat) (o:List P2),PW o→PW (sgL r ks o)∧(sgL r ks o).Perm (o++ks.map fun k=>(k,r))
 | [],o,h=>⟨h,by simp [sgL]⟩
 |k::ks,o,h=>by
  obtain⟨h1,h2⟩:=sgL_spec r ks (insW (k,r) o) (insW_pw _ _ h)
  refine⟨h1,h2.trans ?_⟩
  refine((insW_perm (k,r) o).append_right _).trans ?_
  simp only [List.map_cons,List.cons_append]
  exact List.perm_middle.symm
theorem sgL_eq (r:Nat) (ks:List Nat):sgL r ks []=sgn r ks:=by
 obtain⟨h1,h2⟩:=sgL_spec r ks [] .nil
 exact pw_uniq h1 (sorted_pw _) (h2.trans (sorted_perm _).symm)
theorem sgn_len (r:Nat) (ks:List Nat):(sgn r ks).length=ks.length:=by unfold sgn;rw [(sorted_perm _).length_eq,List.length_map]
noncomputable def sigR (r:Nat) (ks:List Nat):Bool×List P2×Int:=if ks.length≤2048 then(false,sgn r ks,0) else(false,[],4)
theorem goRn' {ρ:Type}{l:List Nat}{i:Int}{n:Nat}{w:Nat}(hn:i=n) (h:l[n]?=some w) (k:Int→Option ρ):((rowsN l)[τ i]?.bind fun cs=>(uncons? cs).bind fun p1=>(AV.int? .u64 p1.fst).bind fun a=>(nil? p1.snd).bind fun _=>k a)=k w:=by
 subst hn
 have:(rowsN l)[n]?=some [vu w]:=by simp [rowsN,h]
 rw [Int.toNat_natCast,this]
 rfl
end
section
theorem ysOk_rowsN (l:List Nat):ysOk (rowsN l)=true:=by
 unfold ysOk
 rw [List.all_eq_true]
 intro e he
 obtain⟨p,_,rfl⟩:=List.mem_map.1 he
 rfl
def srtN (l:List Nat):List Nat:=l.mergeSort fun x y=>decide (x≤y)
theorem c141 (ks:List Nat) (hl:ks.length≤49):E cx (Key.fn 141) [.func (Fn.func 162) [] [.rop [.list 0 1 (rowsN ks)]]] []=some (Out.ret (.list 0 1 (rowsN (srtN ks))),[]):=by
 have st:=f93_c0 (rowsN ks)
 have hc:collP 162 [.func (Fn.func 162) [] [.rop [.list 0 1 (rowsN ks)]]]=some (rowsN ks):=by
  show(if(rowsN ks).length≤1000000000000 then cond ((rowsN ks).all isU1) (some (rowsN ks)) none else none)=_
  rw [if_pos (by rw [rowsN_len];omega),show(rowsN ks).all isU1=true from List.all_eq_true.2 fun e he=>by
   obtain⟨k,_,rfl⟩:=List.mem_map.1 he
   rfl]
  rfl
 rw [hc,χ,ysOk_rowsN,cond_true,rowsN_len] at st
 have st:=st.trans (goY (show Nat.mul (Nat.add 0 ks.length) 8≤140737488355328 by show(0+ks.length)*8≤_;omega) _ _)
 obtain⟨d',h1,h2⟩:=c161 (d:=ks.toArray) (by simpa using hl)
 have e1:E cx (Key.own 161) [.arr 0 1 0 (Nat.add 0 ks.length)] [⟨.arr,26,1,1,[]++rowsN ks⟩]=OR d':=by
  rw [show Nat.add 0 ks.length=ks.length from Nat.zero_add _]
  have:E cx (.own 161) [AR ks.toArray.size] (HA ks.toArray)=_:=h1
  simpa using this
 have st:=st.trans (goO e1 _)
 have hd:d'.toList=srtN ks:=by rw [h2];rfl
 have hdl:(rw' d').length=ks.length:=by
  show(d'.toList.map _).length=_
  rw [List.length_map,hd]
  exact(List.mergeSort_perm _ _).length_eq
 dsimp only at st
 rw [show Nat.add 0 (Nat.add 0 ks.length)=ks.length by show 0+(0+ks.length)=_;omega] at st
 have st:=st.trans (goLe (show ks.length≤(rw' d').length by omega) _)
 rw [List.take_of_length_le (by omega),List.drop_zero] at st
 rw [st]
 show some (Out.ret (.list 0 1 (d'.toList.map _)),[])=_
 rw [hd]
theorem loop93 (r:Nat) (ks:List Nat) (b:Bool) (hl:ks.length≤2048):∀(rest:List Nat) (i:Nat) (o:List P2),ks.drop i=rest→i+rest.length=ks.length→o.length=i→∃y,E cx (.loop 93 [true,true,false,true,false]) [vi i,vu r,.ptr 0 0 0 0,.list 0 1 (rowsN ks),vi ks.length] [⟨.box,36,2,0,[[vbool b,.arr 1 2 0 o.length]]⟩,⟨.arr,80,2,2,prs o⟩]=some (Out.jump (.exit 0) [vi y],[⟨.box,36,2,0,[[vbool b,.arr 1 2 0 (o++rest.map fun k=>(k,r)).length]]⟩,⟨.arr,80,2,2,prs (o++rest.map fun k=>(k,r))⟩]):=by
 intro rest
 induction rest with
 |nil =>
  intro i o hd hi ho
  refine⟨i,(f93_l1 _ _ _ _ _ _ _).trans ((goDn (by simp at hi;omega) _ _).trans ?_)⟩
  simp
 |cons k r' ih =>
  intro i o hd hi ho
  obtain⟨g,hd2,hlt⟩:=drop_cons' hd
  simp only [List.length_cons] at hi
  obtain⟨y,hy⟩:=ih (i+1) (o++[(k,r)]) hd2 (by omega) (by simp;omega)
  refine⟨y,(f93_l1 _ _ _ _ _ _ _).trans ((goD (show(i:Int)<(ks.length:Int) by omega) _ _).trans ((goY (show(0:Int)≤(i:Int) by omega) _ _).trans ((goRn' (n:=i) rfl g _).trans ((goCk (show o.length=(prs o).length from(prs_len o).symm) _).trans ((goY (show Nat.mul (Nat.add (prs o).length 1) 16≤140737488355328 by rw [prs_len];show(o.length+1)*16≤_;omega) _ _).trans ?_)))))⟩
  rw [wS (by omega)]
  show E cx (.loop 93 [true,true,false,true,false]) [vi ((i+1:Nat):Int),vu r,.ptr 0 0 0 0,.list 0 1 (rowsN ks),vi ks.length] [⟨.box,36,2,0,[[vbool b,.arr 1 2 0 ((prs o).length+1)]]⟩,⟨.arr,80,2,2,prs o++prs [(k,r)]⟩]=_
  rw [prs_app',prs_len,show o.length+1=(o++[(k,r)]).length by simp,hy]
  simp
theorem srtN_map (r:Nat) (ks:List Nat):(srtN ks).map (fun k=>(k,r))=sgn r ks:=by
 refine pw_uniq ?_ (sorted_pw _) (((List.mergeSort_perm _ _).map _).trans (sorted_perm _).symm)
 have h:=List.pairwise_mergeSort (le:=fun x y:Nat=>decide (x≤y)) (fun a b c h1 h2=>by simp at *;omega) (fun a b=>by simp;omega) ks
 refine List.pairwise_map.2 (h.imp fun {a b} h=>(leP_iff _ _).2 ?_)
 simp at h ⊢
 omega
theorem c93 (r:Nat) (ks:List Nat) (hl:ks.length≤49):RTok' (E cx (Key.fn 93) [vu r,.list 0 1 (rowsN ks)] []) (sigR r ks):=by
 have st:=f93 (r:Int) (rowsN ks)
 rw [rowsN_len] at st
 have hsl:(srtN ks).length=ks.length:=(List.mergeSort_perm _ _).length_eq
 obtain⟨y,hy⟩:=loop93 r (srtN ks) false (by omega) (srtN ks) 0 [] rfl (by omega) rfl
 have goN1:∀ {ρ:Type}{x:Option (Out×Heap)}{es:List (List AV)}(h:x=some (Out.ret (.list 0 1 es),[])) (k:List (List AV)→Option ρ),(x.bind fun r=>(ret1 r).bind fun v=>(AV.list? 1 v).bind fun es=>k es)=k es:=fun h k=>by rw [h];rfl
 have st:=st.trans ((goDn (show ¬(ks.length:Int)>2048 by omega) _ _).trans (goN1 (c141 ks hl) _))
 rw [rowsN_len] at st
 have hy':E cx (.loop 93 [true,true,false,true,false]) [vi 0,vu r,.ptr 0 0 0 0,.list 0 1 (rowsN (srtN ks)),vi (srtN ks).length] [⟨.box,36,2,0,[[vbool false,.arr 1 2 0 0]]⟩,⟨.arr,80,2,2,[]⟩]=_:=hy
 rw [hy'] at st
 unfold sigR
 rw [if_pos (by omega)]
 rw [List.nil_append,srtN_map] at st
 have st:=st.trans (goLe (show Nat.add 0 (sgn r ks).length≤(prs (sgn r ks)).length by rw [prs_len];exact Nat.le_of_eq (Nat.zero_add _)) _)
 refine⟨_,st,?_⟩
 show some (List.drop 0 (List.take (Nat.add 0 (sgn r ks).length) (prs (sgn r ks))))=_
 rw [view0]
theorem callI_of {f:Nat}{args:List AV}{n:Int}(h:E cx (.fn f) args []=some (Out.ret (vi n),[])):callI (E cx) f args=some n:=by unfold callI;rw [h];rfl
theorem callB_of {f:Nat}{args:List AV}{b:Bool}(h:E cx (.fn f) args []=rb b):callB (E cx) f args=some b:=by unfold callB;rw [h];rfl
theorem hasL_of (t:List P2) (p:P2) (hs:SW t):∀(n i j:Nat),j-i<n→i≤j→j≤t.length→(∀k (h:k<t.length),t[k]=p→i≤k∧k<j)→hasL 134 (prs t) (.agg [vu p.1,vu p.2]) n i j (E cx)=some (vbool (decide (p∈t))):=by
 intro n
 induction n with
 |zero=>intro i j h;omega
 |succ n ih =>
  intro i j hn hij hj hp
  unfold hasL
  by_cases h0:i=j
  ·rw [if_pos h0,decide_eq_false fun hm=>by
    obtain⟨k,hk,e⟩:=List.mem_iff_getElem.1 hm
    have:=hp k hk e
    omega]
  ·rw [if_neg h0]
   have hm:(i+j)/2<t.length:=by omega
   rw [prs_get (η hm),χ,show encP t[(i+j)/2]=[vu (t[(i+j)/2].1:Int),vu (t[(i+j)/2].2:Int)] from rfl,show asU2 [vu (t[(i+j)/2].1:Int),vu (t[(i+j)/2].2:Int)]=some () from rfl,χ,callI_of (c134 _ _),χ]
   cases hlt:ltP t[(i+j)/2] p with
   |true =>
    rw [if_pos ((ordI_neg _ _).2 hlt)]
    refine ih _ _ (by omega) (by omega) hj fun k hk e=>⟨?_,(hp k hk e).2⟩
    by_cases hk2:(i+j)/2<k
    ·omega
    ·exfalso
     by_cases e2:k=(i+j)/2
     ·subst e2;rw [e,ltP_irr] at hlt;cases hlt
     ·have:=List.pairwise_iff_getElem.1 hs k ((i+j)/2) hk hm (by omega)
      rw [e] at this
      have:=ltP_trans this hlt
      rw [ltP_irr] at this;cases this
   |false =>
    have hge:=(ordI_ge _ _).2 hlt
    rw [if_neg (by omega)]
    by_cases e:t[(i+j)/2]=p
    ·rw [if_neg (by unfold ordI;rw [if_pos e];omega),decide_eq_true (e▸List.getElem_mem hm)]
    ·have hgt:=ltP_tri hlt e
     rw [if_pos (by unfold ordI;rw [if_neg e,if_neg (by rw [hlt];simp)];omega)]
     refine ih _ _ (by omega) (by omega) (by omega) fun k hk e3=>⟨(hp k hk e3).1,?_⟩
     by_cases hk2:k<(i+j)/2
     ·exact hk2
     ·exfalso
      by_cases e2:k=(i+j)/2
      ·subst e2;exact e e3
      ·have:=List.pairwise_iff_getElem.1 hs ((i+j)/2) k hm hk (by omega)
       rw [e3] at this
       rw [hlt] at this;cases this
theorem c138 (t:List P2) (p:P2) (hs:SW t) (ht:t.length≤4000000):E cx (Key.fn 138) [.list 0 2 (prs t),.agg [vu p.1,vu p.2]] []=rb (decide (p∈t)):=by
 rw [E_unfold]
 have h:hasG 134 (E cx) [.list 0 2 (prs t),.agg [vu p.1,vu p.2]]=some (vbool (decide (p∈t))):=by
  show(if(prs t).length≤4000000 then _ else none)=_
  rw [if_pos (by rw [prs_len];exact ht),prs_len]
  exact hasL_of t p hs _ 0 t.length (by omega) (by omega) (Nat.le_refl _) fun k hk _=>⟨Nat.zero_le _,hk⟩
 show((hasG 134 (E cx) [.list 0 2 (prs t),.agg [vu p.1,vu p.2]]).bind fun v=>some (Out.ret v,([]:Heap)))=_
 rw [h]
 rfl
theorem c85 (t:List P2) (p:P2) (ht:t.length≤4000000):E cx (Key.fn 85) [.list 0 2 (prs t),.agg [vu p.1,vu p.2]] []=rb (tabR t&&decide (p∈t)):=by
 refine(f85 _ _ _).trans ?_
 cases h:tabR t with
 |false=>exact goF ((c83 t ht).trans (by rw [h])) _ _
 |true =>
  refine(goT ((c83 t ht).trans (by rw [h])) _ _).trans ?_
  have c:=c138 t p ((tabR_iff t).1 h).1 ht
  rw [c]
  cases decide (p∈t)<;>rfl
theorem c87 (a b:List P2) (ha:a.length≤4000000):E cx (Key.fn 87) [.list 0 2 (prs a),.list 0 2 (prs b)] []=rb (decide (a=b)):=by
 refine(f87 _ _).trans ?_
 rw [c47 false false a b ha]
 cases h:decide (a=b)<;>simp at h<;>simp [h,ret1,AV.bool?]
end
section
theorem goTok {ρ:Type}{x:Option (Out×Heap)}{f:Bool}{l:List P2}{e:Int}(h:RTok x f l e) (k:Bool→List (List AV)→Int→Option ρ):(x.bind fun r=>(ret1 r).bind fun v=>v.tup?.bind fun vs=>(uncons? vs).bind fun p1=>(AV.cells? p1.fst).bind fun cs=>(uncons? cs).bind fun p2=>(AV.bool? p2.fst).bind fun b=>(uncons? p2.snd).bind fun p3=>(AV.list? 2 p3.fst).bind fun l=>(nil? p3.snd).bind fun _=>(uncons? p1.snd).bind fun p4=>(AV.int? .i64 p4.fst).bind fun e=>(nil? p4.snd).bind fun _=>k b l e)=k f (prs l) e:=by
 obtain⟨a,rfl,ha⟩:=h
 show(Ω (AV.list? 2 a) fun l=>k f l e)=_
 rw [ha]
 rfl
noncomputable def ckR (t:List P2) (ks:List Nat) (r:Nat) (f:Bool) (l:List P2):Bool:=tabR t&&decide (f=false∧ks≠[]∧ks.Nodup∧ks.length≤2048∧l=sgn r ks∧∀p∈l,p∈t)
theorem ckR_iff {t:List P2}{ks:List Nat}{r:Nat}{f:Bool}{l:List P2}:ckR t ks r f l=true↔tabR t=true∧f=false∧ks≠[]∧ks.Nodup∧ks.length≤2048∧l=sgn r ks∧∀p∈l,p∈t:=by
 unfold ckR
 rw [Bool.and_eq_true,decide_eq_true_eq]
abbrev itC (ks:List Nat) (r:Nat) (f:Bool) (l:List P2):List AV:=[.list 0 1 (rowsN ks),vu r,vbool f,.list 0 2 (prs l)]
end
section
abbrev U8 (n:Nat):Prop:=n<18446744073709551616
theorem keysU_rows:∀(ks:List Nat),(∀k∈ks,U8 k)→keysU (rowsN ks)=some (ks.map fun(k:Nat)=>(k:Int))
 | [],_=>rfl
 |k::r,h=>by
  have ih:=keysU_rows r fun x hx=>h x (List.mem_cons_of_mem _ hx)
  have hk:U8 k:=h k (List.mem_cons_self ..)
  unfold U8 at hk
  show(if(0:Int)≤(k:Int)∧(k:Int)<18446744073709551616 then(keysU (rowsN r)).bind fun l=>some ((k:Int)::l) else none)=_
  rw [if_pos (by omega),ih]
  rfl
theorem many_le:∀l:List Int,many l≤l.length
 | []=>Nat.le_refl _
 |k::r=>by
  have:=many_le r
  unfold many
  split<;>simp<;>omega
theorem many_nodup:∀l:List Int,many l=l.length↔l.Nodup
 | []=>by simp [many]
 |k::r=>by
  have h1:=many_le r
  have ih:=many_nodup r
  unfold many
  rw [List.nodup_cons]
  by_cases h:k∈r
  ·rw [if_pos (by simpa using h)]
   simp [h]
   omega
  ·rw [if_neg (by simpa using h)]
   simp [h,ih]
theorem nodup_cast (ks:List Nat):(ks.map fun(k:Nat)=>(k:Int)).Nodup↔ks.Nodup:=by
 show List.Pairwise _ _↔List.Pairwise _ _
 rw [List.pairwise_map]
 constructor<;>intro h<;>exact h.imp fun {a b} h=>by omega
theorem allL_of (t:List P2) (ks:List Nat) (ht:t.length≤4000000) (hs:SW t):∀(l:List P2),(∀p∈l,U8 p.1) →
  allL 138 (prs t) (ks.map fun(k:Nat)=>(k:Int)) (prs l) (E cx)=some (vbool (decide (∀p∈l,p.1∈ks∧p∈t)))
 | [],_=>by simp [allL]
 |p::r,h=>by
  have ih:=allL_of t ks ht hs r fun x hx=>h x (List.mem_cons_of_mem _ hx)
  have hk:U8 p.1:=h p (List.mem_cons_self ..)
  unfold U8 at hk
  show(if(0:Int)≤(p.1:Int)∧(p.1:Int)<18446744073709551616 then cond ((ks.map fun(k:Nat)=>(k:Int)).contains (p.1:Int)) ((callB (E cx) 138 [.list 0 2 (prs t),.agg [vu p.1,vu p.2]]).bind fun h=>cond h (allL 138 (prs t) (ks.map fun(k:Nat)=>(k:Int)) (prs r) (E cx)) (some (vbool false))) (some (vbool false)) else none)=_
  rw [if_pos (by omega),callB_of (c138 t p hs ht),χ]
  have hc:(ks.map fun(k:Nat)=>(k:Int)).contains (p.1:Int)=decide (p.1∈ks):=by
   rw [List.contains_eq_mem]
   congr 1
   rw [List.mem_map]
   apply propext
   constructor
   ·rintro⟨a,h1,h2⟩
    rw [show p.1=a by omega]
    exact h1
   ·exact fun h=>⟨_,h,rfl⟩
  rw [hc,ih]
  by_cases h1:p.1∈ks
  ·by_cases h2:p∈t
   ·simp [h1,h2]
   ·simp [h1,h2]
  ·simp [h1]
theorem keysGo_sw (r:Nat):∀(l:List P2) (pv:Option P2),keysGo r pv l=true→PW l→(∀p∈l,p.2=r)∧SW l∧∀q p s,pv=some q→l=p::s→q≠p
 | [],pv,_,_=>⟨by simp,.nil,fun _ _ _ _ h=>by cases h⟩
 |p::s,pv,h,hp=>by
  unfold keysGo at h
  simp only [Bool.and_eq_true,decide_eq_true_eq,Bool.not_eq_true',decide_eq_false_iff_not] at h
  obtain⟨h1,h2,h3⟩:=h
  obtain⟨p1,p2⟩:=List.pairwise_cons.1 hp
  obtain⟨g1,g2,g3⟩:=keysGo_sw r s (some p) h3 p2
  refine⟨fun q hq=>(List.mem_cons.1 hq).elim (fun e=>e▸h1) (g1 q),List.pairwise_cons.2 ⟨fun q hq=> ?_,g2⟩,fun q p' s' hpv he=>by cases he;exact fun e=>h2 (e▸hpv)⟩
  match s,hq,g2,g3,p1 with
  |a::s',hq,g2,g3,p1 =>
   have hpa:ltP p a=true:=by
    cases hc:ltP p a with
    |true=>rfl
    |false =>
     have h5:=(ltP_def _ _).1 (ltP_tri hc (g3 p a s' rfl rfl))
     have h6:=(leP_iff _ _).1 (p1 a (List.mem_cons_self ..))
     omega
   rcases List.mem_cons.1 hq with rfl |hq
   ·exact hpa
   ·exact ltP_trans hpa ((List.pairwise_cons.1 g2).1 q hq)
theorem sw_keysGo (r:Nat):∀(l:List P2) (pv:Option P2),SW l→(∀p∈l,p.2=r)→(∀q p s,pv=some q→l=p::s→q≠p)→keysGo r pv l=true
 | [],pv,_,_,_=>rfl
 |p::s,pv,hs,h1,h2=>by
  obtain⟨p1,p2⟩:=List.pairwise_cons.1 hs
  have ih:=sw_keysGo r s (some p) p2 (fun q hq=>h1 q (List.mem_cons_of_mem _ hq)) fun q a s' e1 e2=>by
   cases e1
   subst e2
   intro e
   have:=p1 a (List.mem_cons_self ..)
   rw [e,ltP_irr] at this
   cases this
  unfold keysGo
  simp only [Bool.and_eq_true,decide_eq_true_eq,Bool.not_eq_true',decide_eq_false_iff_not]
  exact⟨h1 p (List.mem_cons_self ..),fun e=>h2 p p s e rfl rfl,ih⟩
theorem keysR_iff (l:List P2) (r:Nat):(rightT l&&keysGo r none l)=true↔SW l∧l.length≤2048∧∀p∈l,p.2=r:=by
 rw [Bool.and_eq_true]
 constructor
 ·rintro⟨h1,h2⟩
  obtain⟨g1,g2,_⟩:=keysGo_sw r l none h2 (rightT_pw h1)
  exact⟨g2,rightT_len h1,g1⟩
 ·rintro⟨h1,h2,h3⟩
  exact⟨rightT_of h2 (sw_pw h1),sw_keysGo r l none h1 h3 fun _ _ _ h=>by cases h⟩
theorem keysL_nodup {l:List P2}{r:Nat}(h1:SW l) (h3:∀p∈l,p.2=r):(keysL l).Nodup:=by
 show List.Pairwise _ _
 unfold keysL
 rw [List.pairwise_map]
 refine List.Pairwise.imp_of_mem (fun {a b} ha hb h=> ?_) h1
 have:=(ltP_def _ _).1 h
 have e1:=h3 a ha
 have e2:=h3 b hb
 omega
theorem keysL_back {l:List P2}{r:Nat}(h3:∀p∈l,p.2=r):(keysL l).map (fun k=>(k,r))=l:=by
 unfold keysL
 rw [List.map_map]
 conv=>rhs;rw [←List.map_id l]
 exact List.map_congr_left fun p hp=>Prod.ext rfl (h3 p hp).symm
theorem perm_of_sub:∀ {a b:List Nat},a.Nodup→(∀x∈a,x∈b)→b.length≤a.length→a.Perm b
 | [],b,_,_,hl=>by
  have:b=[]:=List.length_eq_zero_iff.1 (by simpa using hl)
  rw [this]
 |x::a,b,hn,hs,hl=>by
  obtain⟨n1,n2⟩:=List.nodup_cons.1 hn
  have hx:=hs x (List.mem_cons_self ..)
  have ih:=perm_of_sub (a:=a) (b:=b.erase x) n2 (fun y hy=>(List.mem_erase_of_ne (fun(e:y=x)=>n1 (by rw [←e];exact hy))).2 (hs y (List.mem_cons_of_mem _ hy))) (by
   rw [List.length_erase_of_mem hx]
   simp at hl
   omega)
  exact(ih.cons x).trans (List.perm_cons_erase hx).symm
theorem sgn_congr {r:Nat}{a b:List Nat}(h:a.Perm b):sgn r a=sgn r b:=sorted_congr (h.map _)
theorem sgn_mem {r:Nat}{ks:List Nat}{p:P2}:p∈sgn r ks↔p.1∈ks∧p.2=r:=by
 unfold sgn
 rw [(sorted_perm _).mem_iff,List.mem_map]
 constructor
 ·rintro⟨k,h,rfl⟩;exact⟨h,rfl⟩
 ·rintro⟨h,rfl⟩;exact⟨_,h,rfl⟩
theorem sgn_sw {r:Nat}{ks:List Nat}(h:ks.Nodup):SW (sgn r ks):=by
 refine pw_sw (sorted_pw _) ((sorted_perm _).nodup_iff.2 ?_)
 show List.Pairwise _ _
 rw [List.pairwise_map]
 exact h.imp fun {a b} h e=>h (congrArg Prod.fst e)
theorem sgn_self {l:List P2}{r:Nat}(h1:SW l) (h3:∀p∈l,p.2=r):sgn r (keysL l)=l:=by
 unfold sgn
 rw [keysL_back h3]
 exact sorted_of (sw_pw h1)
theorem c89 (t:List P2) (ks:List Nat) (r:Nat) (f:Bool) (l:List P2) (ht:t.length≤4000000) (hk:ks.length≤1000000) (hl:l.length≤4000000) (hu:∀k∈ks,U8 k) (hlu:∀p∈l,U8 p.1):E cx (Key.fn 89) [.list 0 2 (prs t),.agg (itC ks r f l)] []=rb (ckR t ks r f l):=by
 rw [E_unfold]
 obtain⟨a,k1,k2⟩:=c42 f l r hl
 have hkc:keysC (E cx) 42 [.agg [vbool f,.list 0 2 (prs l)],vu r]=some (rowsN (keysR l r).1,(keysR l r).2):=by
  unfold keysC
  rw [k1]
  show(match AV.tuple [a,.val (.bool (keysR l r).2)] with
   | .tuple [a,.val (.bool b)]=>(a.list? 1).bind fun es=>some (es,b)
   | _=>none)=_
  show((a.list? 1).bind fun es=>some (es,(keysR l r).2))=_
  rw [k2]
  rfl
 have h:checkG 42 83 138 (E cx) [.list 0 2 (prs t),.agg (itC ks r f l)]=some (vbool (ckR t ks r f l)):=by
  show((keysC (E cx) 42 [.agg [vbool f,.list 0 2 (prs l)],vu r]).bind fun q=>(keysU (rowsN ks)).bind fun kl=>if(rowsN ks).length≤1000000∧(prs t).length≤4000000∧(prs l).length≤4000000 then
   (cond (!q.2||(f||(decide ((rowsN ks).length=0)||decide (q.1.length≠(rowsN ks).length)))) (some (vbool false)) ((callB (E cx) 83 [.list 0 2 (prs t)]).bind fun rt =>
    cond (!rt||decide (many kl≠q.1.length)) (some (vbool false)) (allL 138 (prs t) kl (prs l) (E cx)))) else none)=_
  rw [hkc,χ,keysU_rows ks hu,χ,if_pos (by rw [rowsN_len,prs_len,prs_len];omega),callB_of (c83 t ht),χ]
  simp only [rowsN_len]
  unfold keysR
  cases hkr:(rightT l&&keysGo r none l) with
  |false =>
   have hck:ckR t ks r f l=false:=by
    rw [←Bool.not_eq_true,ckR_iff]
    rintro⟨g1,g2,g3,g4,g5,g6,g7⟩
    have:=(keysR_iff l r).2 ⟨g6▸sgn_sw g4,by rw [g6,sgn_len];exact g5,fun p hp=>(sgn_mem.1 (g6▸hp)).2⟩
    rw [hkr] at this
    cases this
   rw [hck]
   rfl
  |true =>
   obtain⟨w1,w2,w3⟩:=(keysR_iff l r).1 hkr
   simp only [if_true]
   have hkl:(keysL l).length=l.length:=List.length_map ..
   rw [hkl]
   by_cases c1:f=false∧ks≠[]∧l.length=ks.length
   ·obtain⟨c1,c2,c3⟩:=c1
    have hpos:0<ks.length:=List.length_pos_iff.2 c2
    rw [c1,decide_eq_false (show ¬ks.length=0 by omega),decide_eq_false (show ¬l.length≠ks.length from fun h=>h c3)]
    simp only [Bool.not_true,Bool.false_or,cond_false]
    by_cases c4:tabR t=true∧ks.Nodup
    ·rw [c4.1,decide_eq_false (fun h:many (ks.map fun(k:Nat)=>(k:Int))≠l.length=>h (by rw [(many_nodup _).2 ((nodup_cast ks).2 c4.2),List.length_map];omega))]
     simp only [Bool.not_true,Bool.false_or,cond_false]
     rw [allL_of t ks ht ((tabR_iff t).1 c4.1).1 l hlu]
     congr 2
     rw [←c1]
     by_cases c5:∀p∈l,p.1∈ks∧p∈t
     ·rw [decide_eq_true c5]
      symm
      rw [c1,ckR_iff]
      refine⟨c4.1,rfl,c2,c4.2,by omega,?_,fun p hp=>(c5 p hp).2⟩
      have hp:(keysL l).Perm ks:=perm_of_sub (keysL_nodup w1 w3) (fun x hx=>by
       obtain⟨p,hp,rfl⟩:=List.mem_map.1 hx
       exact(c5 p hp).1) (by omega)
      rw [←sgn_congr hp,sgn_self w1 w3]
     ·rw [decide_eq_false c5]
      symm
      rw [←Bool.not_eq_true,ckR_iff]
      exact fun h=>c5 fun p hp=>⟨(sgn_mem.1 (h.2.2.2.2.2.1▸hp)).1,h.2.2.2.2.2.2 p hp⟩
    ·have e:(!tabR t||decide (many (ks.map fun(k:Nat)=>(k:Int))≠l.length))=true:=by
      rw [Bool.or_eq_true,decide_eq_true_eq]
      by_cases h1:tabR t=true
      ·right
       intro h2
       refine c4 ⟨h1,(nodup_cast ks).1 ((many_nodup _).1 (by rw [h2,List.length_map];omega))⟩
      ·left
       simpa using h1
     rw [e,cond_true]
     have hck:ckR t ks r false l=false:=by
      rw [←Bool.not_eq_true,ckR_iff]
      exact fun h=>c4 ⟨h.1,h.2.2.2.1⟩
     rw [hck]
   ·have e:(!true||(f||(decide (ks.length=0)||decide (l.length≠ks.length))))=true:=by
     rw [Bool.not_true,Bool.false_or,Bool.or_eq_true,Bool.or_eq_true,decide_eq_true_eq,decide_eq_true_eq]
     by_cases h1:f=false
     ·by_cases h2:ks=[]
      ·right;left;rw [h2];rfl
      ·right;right;exact fun h3=>c1 ⟨h1,h2,h3⟩
     ·left;simpa using h1
    rw [e,cond_true]
    have hck:ckR t ks r f l=false:=by
     rw [←Bool.not_eq_true,ckR_iff]
     exact fun h=>c1 ⟨h.2.1,h.2.2.1,by rw [h.2.2.2.2.2.1,sgn_len]⟩
    rw [hck]
 show((checkG 42 83 138 (E cx) [.list 0 2 (prs t),.agg (itC ks r f l)]).bind fun v=>some (Out.ret v,([]:Heap)))=_
 rw [h]
 rfl
end
section
theorem f140:∀(it0:List (List AV)) (it1:Int) (it2:Bool) (it3 x4:List (List AV)),E cx (Key.fn 140) [AV.agg [AV.list 0 1 it0,vu it1,vbool it2,AV.list 0 2 it3],AV.rop [AV.list 0 2 x4]] []=Ω (E cx (Key.fn 89) [AV.list 0 2 x4,AV.agg [AV.list 0 1 it0,vu it1,vbool it2,AV.list 0 2 it3]] []) fun r5↦Ω (ret1 r5) fun v6↦Ω (AV.bool? v6) fun b7↦bif b7 then some (Out.ret (vbool false),[]) else some (Out.ret (vbool true),[]):=by
 intros
 exact(E_in [188,142] _ _ _).trans (by kernel_rfl)
theorem f78:E cx (Key.fn 78) [] []=Ω (E cx (Key.fn 81) [AV.val (Value.slice none 0 0),AV.list 0 2 [[vu 2,vu 7],[vu 1,vu 7],[vu 2,vu 7]]] []) fun r0↦Ω (ret1 r0) fun v1↦Ω (AV.tup? v1) fun vs2↦Ω (uncons? vs2) fun p3↦Ω (AV.list? 2 p3.fst) fun es4↦Ω (uncons? p3.snd) fun p5↦Ω (AV.int? ı p5.fst) fun n6↦Ω (nil? p5.snd) fun _↦Ω (E cx (Key.fn 93) [vu 7,AV.list 0 1 [[vu 2],[vu 1]]] []) fun r8↦Ω (ret1 r8) fun v9↦Ω (AV.tup? v9) fun vs10↦Ω (uncons? vs10) fun p11↦Ω (AV.cells? p11.fst) fun cs12↦Ω (uncons? cs12) fun p13↦Ω (AV.bool? p13.fst) fun b14↦Ω (uncons? p13.snd) fun p15↦Ω (AV.list? 2 p15.fst) fun es16↦Ω (nil? p15.snd) fun _↦Ω (uncons? p11.snd) fun p18↦Ω (AV.int? ı p18.fst) fun n19↦Ω (nil? p18.snd) fun _↦Ω (E cx (Key.fn 81) [AV.list 0 2 [[vu 2,vu 0],[vu 1,vu 0]],AV.val (Value.slice none 0 0)] []) fun r21↦Ω (ret1 r21) fun v22↦Ω (AV.tup? v22) fun vs23↦Ω (uncons? vs23) fun p24↦Ω (AV.list? 2 p24.fst) fun _↦Ω (uncons? p24.snd) fun p26↦Ω (AV.int? ı p26.fst) fun n27↦Ω (nil? p26.snd) fun _↦bif decide (n6=0) then Ω (E cx (Key.fn 87) [AV.list 0 2 es4,AV.list 0 2 [[vu 1,vu 7],[vu 2,vu 7]]] []) fun r29↦Ω (ret1 r29) fun v30↦Ω (AV.bool? v30) fun b31↦bif b31 then bif decide (n19=0) then bif decide (((ℓ es16):Int)=2) then bif decide (n27=1) then Ω (E cx (Key.fn 89) [AV.list 0 2 es4,AV.agg [AV.list 0 1 [[vu 2],[vu 1]],vu 7,vbool b14,AV.list 0 2 es16]] []) fun r32↦Ω (ret1 r32) fun v33↦Ω (AV.bool? v33) fun b34↦bif b34 then Ω (E cx (Key.fn 89) [AV.list 0 2 es4,AV.agg [AV.list 0 1 [[vu 2],[vu 1]],vu 8,vbool b14,AV.list 0 2 es16]] []) fun r35↦Ω (ret1 r35) fun v36↦Ω (AV.bool? v36) fun b37↦bif b37 then some (Out.ret (vbool false),[]) else Ω (E cx (Key.fn 89) [AV.list 0 2 es4,AV.agg [AV.list 0 1 [[vu 1]],vu 7,vbool b14,AV.list 0 2 es16]] []) fun r38↦Ω (ret1 r38) fun v39↦Ω (AV.bool? v39) fun b40↦bif b40 then some (Out.ret (vbool false),[]) else Ω (E cx (Key.fn 91) [AV.list 0 2 es4,AV.val (Value.slice none 0 0)] []) fun r41↦Ω (ret1 r41) fun v42↦Ω (AV.bool? v42) fun b43↦bif b43 then Ω (E cx (Key.fn 91) [AV.list 0 2 es4,AV.list 0 4 [[AV.list 1 1 [[vu 2],[vu 1]],vu 7,vbool b14,AV.list 0 2 es16],[AV.list 1 1 [[vu 2],[vu 1]],vu 7,vbool b14,AV.list 0 2 es16]]] []) fun r44↦Ω (ret1 r44) fun v45↦Ω (AV.bool? v45) fun b46↦bif b46 then Ω (E cx (Key.fn 91) [AV.list 0 2 es4,AV.list 0 4 [[AV.list 1 1 [[vu 2],[vu 1]],vu 7,vbool b14,AV.list 0 2 es16],[AV.list 1 1 [[vu 1]],vu 7,vbool b14,AV.list 0 2 es16]]] []) fun r47↦Ω (ret1 r47) fun v48↦Ω (AV.bool? v48) fun b49↦bif b49 then some (Out.ret (vbool false),[]) else Ω (E cx (Key.fn 83) [AV.list 0 2 es4] []) fun r50↦Ω (ret1 r50) fun v51↦Ω (AV.bool? v51) fun b52↦bif b52 then Ω (E cx (Key.fn 85) [AV.list 0 2 es4,AV.agg [vu 1,vu 7]] []) fun r53↦Ω (ret1 r53) fun v54↦Ω (AV.bool? v54) fun b55↦bif b55 then Ω (E cx (Key.fn 85) [AV.list 0 2 es4,AV.agg [vu 1,vu 6]] []) fun r56↦Ω (ret1 r56) fun v57↦Ω (AV.bool? v57) fun b58↦bif b58 then some (Out.ret (vbool false),[]) else some (Out.ret (vbool true),[]) else some (Out.ret (vbool false),[]) else some (Out.ret (vbool false),[]) else some (Out.ret (vbool false),[]) else some (Out.ret (vbool false),[]) else some (Out.ret (vbool false),[]) else some (Out.ret (vbool false),[]) else some (Out.ret (vbool false),[]) else some (Out.ret (vbool false),[]) else some (Out.ret (vbool false),[]) else some (Out.ret (vbool false),[]):=by
 intros
 exact(E_in [188,142] _ _ _).trans (by kernel_rfl)
end
section
abbrev It:=List Nat×Nat×Bool×List P2
noncomputable abbrev ckI (t:List P2) (x:It):Bool:=ckR t x.1 x.2.1 x.2.2.1 x.2.2.2
def ItOk (x:It):Prop:=x.1.length≤1000000∧x.2.2.2.length≤4000000∧(∀k∈x.1,U8 k)∧∀p∈x.2.2.2,U8 p.1
def RwI (W0:List (List AV)) (L:List It):Prop:=W0.length=L.length∧∀(i:Nat) (x:It),L[i]?=some x→∃a c,W0[i]?=some [a,vu x.2.1,vbool x.2.2.1,c]∧a.list? 1=some (rowsN x.1)∧c.list? 2=some (prs x.2.2.2)
theorem goIt {ρ:Type}{W0:List (List AV)}{i:Int}{n:Nat}{x:It}(hn:i=n) (h:∃a c,W0[n]?=some [a,vu x.2.1,vbool x.2.2.1,c]∧a.list? 1=some (rowsN x.1)∧c.list? 2=some (prs x.2.2.2)) (k:List (List AV)→Int→Bool→List (List AV)→Option ρ):(W0[τ i]?.bind fun cs=>(uncons? cs).bind fun p=>(AV.list? 1 p.fst).bind fun es=>(uncons? p.snd).bind fun q=>(AV.int? .u64 q.fst).bind fun r=>(uncons? q.snd).bind fun u=>(AV.bool? u.fst).bind fun f=>(uncons? u.snd).bind fun v=>(AV.list? 2 v.fst).bind fun l=>(nil? v.snd).bind fun _=>k es r f l)=k (rowsN x.1) x.2.1 x.2.2.1 (prs x.2.2.2):=by
 subst hn
 obtain⟨a,c,h1,h2,h3⟩:=h
 rw [Int.toNat_natCast,h1]
 show(Ω (AV.list? 1 a) fun es=>Ω (AV.list? 2 c) fun l=>k es x.2.1 x.2.2.1 l)=_
 rw [h2,h3]
 rfl
theorem c140 (t:List P2) (x:It) (ht:t.length≤4000000) (hx:ItOk x):E cx (Key.fn 140) [.agg (itC x.1 x.2.1 x.2.2.1 x.2.2.2),.rop [.list 0 2 (prs t)]] []=rb (!ckI t x):=by
 refine(f140 _ _ _ _ _).trans ?_
 rw [c89 t x.1 x.2.1 x.2.2.1 x.2.2.2 ht hx.1 hx.2.1 hx.2.2.1 hx.2.2.2]
 show(bif ckI t x then _ else _)=_
 cases ckI t x<;>rfl
theorem loop159 (t:List P2) (W0:List (List AV)) (L:List It) (x0:Int) (hW:RwI W0 L) (ht:t.length≤4000000) (hL:L.length≤4000000) (hok:∀x∈L,ItOk x):∀(rest:List It) (i:Nat),L.drop i=rest→i+rest.length=L.length→((rest.all (ckI t))=true∧∃y z,E cx (.loop 159 [true,false,true,false]) [vi x0,vi i,.list 0 4 W0,.func (Fn.func 140) [] [.rop [.list 0 2 (prs t)]],vi W0.length] []=some (Out.jump (.exit 0) [vi y,vi z],[]))∨((rest.all (ckI t))=false∧∃(y:Nat) (z:Int),E cx (.loop 159 [true,false,true,false]) [vi x0,vi i,.list 0 4 W0,.func (Fn.func 140) [] [.rop [.list 0 2 (prs t)]],vi W0.length] []=some (Out.jump .ret [vi y,vi z],[])):=by
 intro rest
 induction rest with
 |nil =>
  intro i hd hi
  exact .inl ⟨rfl,x0,i,(f91_c0_c1_l2 _ _ _ _ _).trans (goDn (by rw [hW.1];simp at hi;omega) _ _)⟩
 |cons x r ih =>
  intro i hd hi
  obtain⟨g,hd2,hlt⟩:=drop_cons' hd
  simp only [List.length_cons] at hi
  have st:=(f91_c0_c1_l2 x0 (i:Int) W0 (prs t) (W0.length:Int)).trans ((goD (show(i:Int)<(W0.length:Int) by rw [hW.1];omega) _ _).trans ((goY (show(0:Int)≤(i:Int) by omega) _ _).trans ((goIt (n:=i) rfl (hW.2 i x g) _).trans (goB (c140 t x ht (hok x (List.mem_of_getElem? g))) _))))
  rw [wS (by omega)] at st
  rw [List.all_cons]
  cases hc:ckI t x with
  |true =>
   rw [hc,Bool.not_true,cond_false] at st
   rw [Bool.true_and]
   rcases ih (i+1) hd2 (by omega) with⟨h1,y,z,h2⟩ |⟨h1,y,z,h2⟩
   ·exact .inl ⟨h1,y,z,st.trans h2⟩
   ·exact .inr ⟨h1,y,z,st.trans h2⟩
  |false =>
   rw [hc,Bool.not_false,cond_true] at st
   exact .inr ⟨rfl,i,i,st⟩
theorem c91 (t:List P2) (W0:List (List AV)) (L:List It) (hW:RwI W0 L) (ht:t.length≤4000000) (hL:L.length≤4000000) (hok:∀x∈L,ItOk x):E cx (Key.fn 91) [.list 0 2 (prs t),.list 0 4 W0] []=rb (L.all (ckI t)):=by
 have s1:=f91_c0_c1 W0 (prs t)
 have s2:=f91_c0 W0 (prs t)
 refine(f91 _ _).trans ?_
 rcases loop159 t W0 L 0 hW ht hL hok L 0 rfl (by omega) with⟨h1,y,z,h2⟩ |⟨h1,y,z,h2⟩
 ·have h2':E cx (.loop 159 [true,false,true,false]) [vi 0,vi 0,.list 0 4 W0,.func (Fn.func 140) [] [.rop [.list 0 2 (prs t)]],vi W0.length] []=_:=h2
  rw [h2'] at s1
  rw [s1] at s2
  rw [s2,h1]
  rfl
 ·have h2':E cx (.loop 159 [true,false,true,false]) [vi 0,vi 0,.list 0 4 W0,.func (Fn.func 140) [] [.rop [.list 0 2 (prs t)]],vi W0.length] []=_:=h2
  rw [h2'] at s1
  rw [s1] at s2
  have s3:=s2.trans (show _=rb true from(goD (p:=(y:Int)≥0) (by omega) (rb true) (rb false)))
  rw [s3,h1]
  rfl
abbrev tab0:List P2:=[(1,7),(2,7)]
theorem tab0_right:tabR tab0=true:=(tabR_iff _).2 ⟨by decide,by decide⟩
theorem sgn0:sgn 7 [2,1]=tab0:=by rw [←sgL_eq];rfl
theorem ck_yes:ckR tab0 [2,1] 7 false tab0=true:=ckR_iff.2 ⟨tab0_right,rfl,by decide,by decide,by decide,sgn0.symm,by decide⟩
theorem ck_other:ckR tab0 [2,1] 8 false tab0=false:=by
 rw [←Bool.not_eq_true,ckR_iff]
 rintro⟨_,_,_,_,_,h,_⟩
 have:(1,7)∈sgn 8 [2,1]:=h▸(by decide:((1,7):P2)∈tab0)
 have:=(sgn_mem.1 this).2
 simp at this
theorem ck_less:ckR tab0 [1] 7 false tab0=false:=by
 rw [←Bool.not_eq_true,ckR_iff]
 rintro⟨_,_,_,_,_,h,_⟩
 have:=congrArg ℓ h
 rw [sgn_len] at this
 simp at this
theorem it_ok (ks:List Nat) (r:Nat) (f:Bool) (l:List P2) (h1:ks.length≤1000) (h2:l.length≤1000) (h3:∀k∈ks,k<1000) (h4:∀p∈l,p.1<1000):ItOk (ks,r,f,l) :=
 ⟨by show ks.length≤_;omega,by show l.length≤_;omega,fun k hk=>by have:=h3 k hk;unfold U8;omega,fun p hp=>by have:=h4 p hp;unfold U8;omega⟩
theorem rw_two {x y:It}{a c a' c':AV}(h1:a.list? 1=some (rowsN x.1)) (h2:c.list? 2=some (prs x.2.2.2)) (h3:a'.list? 1=some (rowsN y.1)) (h4:c'.list? 2=some (prs y.2.2.2)):RwI [[a,vu x.2.1,vbool x.2.2.1,c],[a',vu y.2.1,vbool y.2.2.1,c']] [x,y]:=by
 refine⟨rfl,fun i z h=> ?_⟩
 match i,h with
 | 0,h=>cases h;exact⟨a,c,rfl,h1,h2⟩
 | 1,h=>cases h;exact⟨a',c',rfl,h3,h4⟩
theorem f78_true:E cx (Key.fn 78) [] []=rb true:=by
 refine f78.trans ?_
 have e1:E cx (.fn 81) [.val (.slice none 0 0),.list 0 2 [[vu 2,vu 7],[vu 1,vu 7],[vu 2,vu 7]]] []=E cx (.fn 81) [.list 0 2 (prs []),.list 0 2 (prs [(2,7),(1,7),(2,7)])] []:=E_norm (by rfl) (by kernel_rfl) (by kernel_rfl)
 have e2:E cx (.fn 81) [.list 0 2 [[vu 2,vu 0],[vu 1,vu 0]],.val (.slice none 0 0)] []=E cx (.fn 81) [.list 0 2 (prs [(2,0),(1,0)]),.list 0 2 (prs [])] []:=E_norm (by rfl) (by kernel_rfl) (by kernel_rfl)
 have e3:∀es:List (List AV),E cx (.fn 91) [.list 0 2 es,.val (.slice none 0 0)] []=E cx (.fn 91) [.list 0 2 es,.list 0 4 []] []:=fun es=>E_norm (by rfl) (by kernel_rfl) (by kernel_rfl)
 have a1:=c81 [] [(2,7),(1,7),(2,7)] (by decide) (by decide)
 rw [addR_ok .nil (by decide),show uni [] [(2,7),(1,7),(2,7)]=tab0 from by decide] at a1
 rw [e1]
 refine(goRP a1 _).trans ?_
 have a2:=c93 7 [2,1] (by decide)
 have e4:sigR 7 [2,1]=(false,tab0,0):=by unfold sigR;rw [if_pos (by decide),sgn0]
 rw [e4] at a2
 refine(goTok a2 _).trans ?_
 have a3:=c81 [(2,0),(1,0)] [] (by decide) (by decide)
 have e5:addR [(2,0),(1,0)] []=([],1):=by
  unfold addR
  rw [if_neg (by rw [tabR_iff];rintro⟨h,_⟩;revert h;decide)]
 rw [e5] at a3
 rw [e2]
 refine(goRP a3 _).trans ?_
 rw [e3]
 have it:=it_ok [2,1] 7 false tab0 (by decide) (by decide) (by decide) (by decide)
 have it2:=it_ok [1] 7 false tab0 (by decide) (by decide) (by decide) (by decide)
 have k1:E cx (.fn 89) [.list 0 2 (prs tab0),.agg [.list 0 1 [[vu 2],[vu 1]],vu 7,vbool false,.list 0 2 (prs tab0)]] []=rb true:=(c89 tab0 [2,1] 7 false tab0 (by decide) it.1 it.2.1 it.2.2.1 it.2.2.2).trans (by rw [ck_yes])
 have k2:E cx (.fn 89) [.list 0 2 (prs tab0),.agg [.list 0 1 [[vu 2],[vu 1]],vu 8,vbool false,.list 0 2 (prs tab0)]] []=rb false:=(c89 tab0 [2,1] 8 false tab0 (by decide) it.1 it.2.1 it.2.2.1 it.2.2.2).trans (by rw [ck_other])
 have k3:E cx (.fn 89) [.list 0 2 (prs tab0),.agg [.list 0 1 [[vu 1]],vu 7,vbool false,.list 0 2 (prs tab0)]] []=rb false:=(c89 tab0 [1] 7 false tab0 (by decide) it2.1 it2.2.1 it2.2.2.1 it2.2.2.2).trans (by rw [ck_less])
 have l0:E cx (.fn 91) [.list 0 2 (prs tab0),.list 0 4 []] []=rb true:=c91 tab0 [] [] ⟨rfl,fun i x h=>by cases h⟩ (by decide) (by decide) (by simp)
 have l1:E cx (.fn 91) [.list 0 2 (prs tab0),.list 0 4 [[.list 1 1 [[vu 2],[vu 1]],vu 7,vbool false,.list 0 2 (prs tab0)],[.list 1 1 [[vu 2],[vu 1]],vu 7,vbool false,.list 0 2 (prs tab0)]]] []=rb true :=
  (c91 tab0 _ [([2,1],7,false,tab0),([2,1],7,false,tab0)] (rw_two rfl rfl rfl rfl) (by decide) (by decide) (fun x hx=>by simp at hx;rw [hx];exact it)).trans (by simp [ckI,ck_yes])
 have l2:E cx (.fn 91) [.list 0 2 (prs tab0),.list 0 4 [[.list 1 1 [[vu 2],[vu 1]],vu 7,vbool false,.list 0 2 (prs tab0)],[.list 1 1 [[vu 1]],vu 7,vbool false,.list 0 2 (prs tab0)]]] []=rb false :=
  (c91 tab0 _ [([2,1],7,false,tab0),([1],7,false,tab0)] (rw_two rfl rfl rfl rfl) (by decide) (by decide) (fun x hx=>by simp at hx;rcases hx with rfl |rfl;exact it;exact it2)).trans (by simp [ckI,ck_yes,ck_less])
 have v1:=c85 tab0 (1,7) (by decide)
 rw [tab0_right,decide_eq_true (by decide)] at v1
 have v2:=c85 tab0 (1,6) (by decide)
 rw [tab0_right,decide_eq_false (by decide)] at v2
 have r1:=c83 tab0 (by decide)
 rw [tab0_right] at r1
 have p1:=c87 tab0 tab0 (by decide)
 rw [decide_eq_true rfl] at p1
 refine(goD (by decide) _ _).trans ((goT p1 _ _).trans ((goD (by decide) _ _).trans ((goD (show((prs tab0).length:Int)=2 by decide) _ _).trans ((goD (by decide) _ _).trans ((goT k1 _ _).trans ((goF k2 _ _).trans ((goF k3 _ _).trans ((goT l0 _ _).trans ((goT l1 _ _).trans ((goF l2 _ _).trans ((goT r1 _ _).trans ((goT v1 _ _).trans (goF v2 _ _)))))))))))))
end
section
theorem goTb {ρ:Type}(k j:Option ρ):(bif true then k else j)=k:=rfl
theorem goR1 {ρ:Type}{x:Option (Out×Heap)}{es:List (List AV)}(h:x=some (Out.ret (.list 0 1 es),[])) (k:List (List AV)→Option ρ):(x.bind fun r=>(ret1 r).bind fun v=>(AV.list? 1 v).bind fun es=>k es)=k es:=by rw [h];rfl
theorem sigR_ok (r:Nat) (ks:List Nat) (h:ks.length≤49):sigR r ks=(false,sgn r ks,0):=by unfold sigR;rw [if_pos (by omega)]
theorem t93 (r:Nat) (ks:List Nat) (h:ks.length≤49):RTok (E cx (Key.fn 93) [vu r,.list 0 1 (rowsN ks)] []) false (sgn r ks) 0:=by
 have:=c93 r ks h
 rwa [sigR_ok r ks h] at this
theorem sgn_U8 {r:Nat}{ks:List Nat}(hk:∀k∈ks,U8 k):∀p∈sgn r ks,U8 p.1:=fun p hp=>hk _ (sgn_mem.1 hp).1
end
section
noncomputable def q19_0:List (List AV)→List (List AV)→Int→Bool→List (List AV)→Option (Out×Heap) :=
 fun es11 es8 n17 b79 es81 ↦
 bif ysOk es11 then
 if Nat.mul (Nat.add 0 (ℓ es11)) 8≤140737488355328 then
 bif ysOk es11 then
 Ω (chk (Nat.add 0 (ℓ es11)) (ℓ (Ob.mk OK.arr 26 1 1 ([]++es11)).es)) fun _ ↦
 if Nat.mul (Nat.add (ℓ (Ob.mk OK.arr 26 1 1 ([]++es11)).es) (ℓ es11)) 8≤140737488355328 then
 Ω
 (chkLe (Nat.add 0 (Nat.add (ℓ (Ob.mk OK.arr 26 1 1 ([]++es11)).es) (ℓ es11)))
 (ℓ ((Ob.mk OK.arr 26 1 1 ([]++es11)).es++es11)))
 fun _ ↦
 Ω
 (E cx (Key.fn 89)
 [AV.list 0 2 es8,
 AV.agg
 [AV.list 0 1
 (List.drop 0
 (List.take (Nat.add 0 (Nat.add (ℓ (Ob.mk OK.arr 26 1 1 ([]++es11)).es) (ℓ es11)))
 ((Ob.mk OK.arr 26 1 1 ([]++es11)).es++es11))),
 vu (ω υ n17),vbool b79,AV.list 0 2 es81]]
 [])
 fun r98 ↦
 Ω (ret1 r98) fun v99 ↦
 Ω (AV.bool? v99) fun b100 ↦
 bif b100 then some (Out.ret (vbool false),[]) else some (Out.ret (vbool true),[])
 else none
 else none
 else none
 else none
noncomputable def q19_1:Bool→List (List AV)→List (List AV)→Int→Bool→List (List AV)→Option (Out×Heap) :=
 fun b69 es11 es8 n17 b79 es81↦bif b69 then none else q19_0 es11 es8 n17 b79 es81
noncomputable def q19_2:Bool→List (List AV)→List (List AV)→Int→Bool→List (List AV)→Option (Out×Heap) :=
 fun b69 es11 es8 n17 b79 es81↦bif decide (b69=true) then none else q19_1 b69 es11 es8 n17 b79 es81
noncomputable def q19_3:JX×List AV×Heap →
 Bool →
 List (List AV) →
 Ob×List Ob →
 Int→List (List AV)→List (List AV)→Int→List (List AV)→Option (Out×Heap) :=
 fun j67 b51 es53 p58 another5 es8 es14 n17 es11 ↦
 Ω (uncons? j67.snd.fst) fun p68 ↦
 Ω (AV.bool? p68.fst) fun b69 ↦
 Ω (uncons? p68.snd) fun p70 ↦
 Ω (AV.int? ı p70.fst) fun _ ↦
 Ω (nil? p70.snd) fun _ ↦
 Ω (uncons? j67.snd.snd) fun p73 ↦
 Ω (obIs (Ob.mk OK.box 36 2 0 [[vbool b51,AV.list 0 2 es53]]) p73.fst)
 fun _ ↦
 Ω (chk p73.fst.ver 0) fun _ ↦
 Ω (uncons? p73.fst.es) fun p76 ↦
 Ω (nil? p76.snd) fun _ ↦
 Ω (uncons? p76.fst) fun p78 ↦
 Ω (AV.bool? p78.fst) fun b79 ↦
 Ω (uncons? p78.snd) fun p80 ↦
 Ω (AV.list? 2 p80.fst) fun es81 ↦
 Ω (nil? p80.snd) fun _ ↦
 Ω (uncons? p73.snd) fun p83 ↦
 Ω (obIs (Ob.mk OK.dead 26 1 1 []) p83.fst) fun _ ↦
 Ω (chk p83.fst.ver 1) fun _ ↦
 Ω (uncons? p83.snd) fun p86 ↦
 Ω (obIs (Ob.mk OK.arr 26 1 1 p58.fst.es) p86.fst) fun _ ↦
 Ω (chk p86.fst.ver 1) fun _ ↦
 Ω (nil? p86.snd) fun _ ↦
 Ω
 (E cx (Key.fn 94) [vi another5,vi 3] [])
 fun r90 ↦
 Ω (ret1 r90) fun v91 ↦
 Ω (AV.int? ı v91) fun n92 ↦
 Ω
 (E cx (Key.fn 89)
 [AV.list 0 2 es8,
 AV.agg
 [AV.list 0 1 es14,vu (ω υ n92),
 vbool b79,AV.list 0 2 es81]]
 [])
 fun r93 ↦
 Ω (ret1 r93) fun v94 ↦
 Ω (AV.bool? v94) fun b95 ↦
 bif b95 then
 bif decide (b69=true) then
 bif decide (b69=true) then
 bif decide (b69=true) then
 bif decide (ω υ n92=ω υ n17) then
 bif b69 then q19_0 es11 es8 n17 b79 es81 else none
 else bif b69 then none else none
 else bif b69 then none else none
 else bif decide (b69=true) then none else bif b69 then none else none
 else
 bif decide (b69=true) then bif decide (b69=true) then none else bif b69 then none else none
 else bif decide (b69=true) then none else bif b69 then none else none
 else
 bif decide (b69=true) then
 bif decide (b69=true) then
 bif decide (b69=true) then
 bif decide (ω υ n92=ω υ n17) then
 q19_1 b69 es11 es8 n17 b79 es81
 else
 bif b69 then q19_0 es11 es8 n17 b79 es81
 else q19_0 es11 es8 n17 b79 es81
 else q19_1 b69 es11 es8 n17 b79 es81
 else q19_2 b69 es11 es8 n17 b79 es81
 else
 bif decide (b69=true) then q19_2 b69 es11 es8 n17 b79 es81
 else q19_2 b69 es11 es8 n17 b79 es81
noncomputable def q19_4:JX×List AV×Heap →
 Bool →
 List (List AV) →
 Int →
 List (List AV) →
 Int→List (List AV)→Int→List (List AV)→Int→Option (Out×Heap) :=
 fun j39 b24 es26 n33 es11 n29 es8 n17 es14 another5 ↦
 Ω (uncons? j39.snd.fst) fun p40 ↦
 Ω (AV.bool? p40.fst) fun b41 ↦
 Ω (uncons? p40.snd) fun p42 ↦
 Ω (AV.int? ı p42.fst) fun _ ↦
 Ω (nil? p42.snd) fun _ ↦
 Ω (uncons? j39.snd.snd) fun p45 ↦
 Ω (obIs (Ob.mk OK.box 36 2 0 [[vbool b24,AV.list 0 2 es26]]) p45.fst)
 fun _ ↦
 Ω (chk p45.fst.ver 0) fun _ ↦
 Ω (uncons? p45.fst.es) fun p48 ↦
 Ω (nil? p48.snd) fun _ ↦
 Ω (uncons? p48.fst) fun p50 ↦
 Ω (AV.bool? p50.fst) fun b51 ↦
 Ω (uncons? p50.snd) fun p52 ↦
 Ω (AV.list? 2 p52.fst) fun es53 ↦
 Ω (nil? p52.snd) fun _ ↦
 Ω (uncons? p45.snd) fun p55 ↦
 Ω (obIs (Ob.mk OK.dead 26 1 1 []) p55.fst) fun _ ↦
 Ω (chk p55.fst.ver 1) fun _ ↦
 Ω (uncons? p55.snd) fun p58 ↦
 Ω
 (obIs
 (Ob.mk OK.arr 26 1 1
 ((Ob.mk OK.arr 26 1 1
 ([]++List.drop (τ n33) (List.take (ℓ es11) es11))).es ++
 List.drop 0 (List.take (τ n33) es11)))
 p58.fst)
 fun _ ↦
 Ω (chk p58.fst.ver 1) fun _ ↦
 Ω (nil? p58.snd) fun _ ↦
 bif n29 !=0 then some (Out.ret (vbool false),[])
 else
 bif !decide (true=b41) then some (Out.ret (vbool false),[])
 else
 Ω
 (chkLe
 (Nat.add 0
 (Nat.add
 (ℓ
 (Ob.mk OK.arr 26 1 1
 ([]++List.drop (τ n33) (List.take (ℓ es11) es11))).es)
 (ℓ (List.drop 0 (List.take (τ n33) es11)))))
 (ℓ p58.fst.es))
 fun _ ↦
 Ω
 (E cx (Key.fn 89)
 [AV.list 0 2 es8,
 AV.agg
 [AV.list 0 1
 (List.drop 0
 (List.take
 (Nat.add 0
 (Nat.add
 (ℓ
 (Ob.mk OK.arr 26 1 1
 ([]++List.drop (τ n33) (List.take (ℓ es11) es11))).es)
 (ℓ (List.drop 0 (List.take (τ n33) es11)))))
 p58.fst.es)),
 vu (ω υ n17),vbool b51,
 AV.list 0 2 es53]]
 [])
 fun r63 ↦
 Ω (ret1 r63) fun v64 ↦
 Ω (AV.bool? v64) fun b65 ↦
 bif b65 then
 bif decide (((ℓ es14):Int)=((ℓ es11):Int)) then
 Ω
 (E cx
 (Key.loop 19
 [true,true,true,true,true,true,true,true,true,true,true,true,true,true,false,
 true,false])
 [vbool true,vi 0,vi another5,
 vbool true,AV.list 0 2 es8,AV.list 0 1 es11,
 AV.list 0 1 es14,vu (ω υ n17),
 AV.ptr 0 0 0 0,vbool true]
 [Ob.mk OK.box 36 2 0
 [[vbool b51,AV.list 0 2 es53]],
 Ob.mk OK.dead 26 1 1 [],
 Ob.mk OK.arr 26 1 1 p58.fst.es])
 fun r66 ↦
 Ω (asJump r66) fun j67 ↦
 bif JX.is j67.fst (JX.exit 2) then
 q19_3 j67 b51 es53 p58 another5 es8 es14 n17 es11
 else none
 else
 Ω
 (E cx
 (Key.loop 19
 [true,true,true,true,true,true,true,true,true,true,true,true,true,true,false,
 true,false])
 [vbool false,vi 0,vi another5,
 vbool true,AV.list 0 2 es8,AV.list 0 1 es11,
 AV.list 0 1 es14,vu (ω υ n17),
 AV.ptr 0 0 0 0,vbool true]
 [Ob.mk OK.box 36 2 0
 [[vbool b51,AV.list 0 2 es53]],
 Ob.mk OK.dead 26 1 1 [],
 Ob.mk OK.arr 26 1 1 p58.fst.es])
 fun r136 ↦
 Ω (asJump r136) fun j137 ↦
 bif JX.is j137.fst (JX.exit 2) then
 q19_3 j137 b51 es53 p58 another5 es8 es14 n17 es11
 else none
 else some (Out.ret (vbool false),[])
noncomputable def q19_5:JX×List AV×Heap →
 Bool →
 List (List AV) →
 Ob×List Ob →
 Int→List (List AV)→List (List AV)→List (List AV)→Int→Option (Out×Heap) :=
 fun j403 b387 es389 p394 another5 es8 es14 es11 n17 ↦
 Ω (uncons? j403.snd.fst) fun p404 ↦
 Ω (AV.bool? p404.fst) fun _ ↦
 Ω (uncons? p404.snd) fun p406 ↦
 Ω (AV.int? ı p406.fst) fun _ ↦
 Ω (nil? p406.snd) fun _ ↦
 Ω (uncons? j403.snd.snd) fun p409 ↦
 Ω
 (obIs (Ob.mk OK.box 36 2 0 [[vbool b387,AV.list 0 2 es389]]) p409.fst)
 fun _ ↦
 Ω (chk p409.fst.ver 0) fun _ ↦
 Ω (uncons? p409.fst.es) fun p412 ↦
 Ω (nil? p412.snd) fun _ ↦
 Ω (uncons? p412.fst) fun p414 ↦
 Ω (AV.bool? p414.fst) fun b415 ↦
 Ω (uncons? p414.snd) fun p416 ↦
 Ω (AV.list? 2 p416.fst) fun es417 ↦
 Ω (nil? p416.snd) fun _ ↦
 Ω (uncons? p409.snd) fun p419 ↦
 Ω (obIs (Ob.mk OK.dead 26 1 1 []) p419.fst) fun _ ↦
 Ω (chk p419.fst.ver 1) fun _ ↦
 Ω (uncons? p419.snd) fun p422 ↦
 Ω (obIs (Ob.mk OK.arr 26 1 1 p394.fst.es) p422.fst) fun _ ↦
 Ω (chk p422.fst.ver 1) fun _ ↦
 Ω (nil? p422.snd) fun _ ↦
 Ω
 (E cx (Key.fn 94) [vi another5,vi 3] [])
 fun r426 ↦
 Ω (ret1 r426) fun v427 ↦
 Ω (AV.int? ı v427) fun n428 ↦
 Ω
 (E cx (Key.fn 89)
 [AV.list 0 2 es8,
 AV.agg
 [AV.list 0 1 es14,vu (ω υ n428),
 vbool b415,AV.list 0 2 es417]]
 [])
 fun r429 ↦
 Ω (ret1 r429) fun v430 ↦
 Ω (AV.bool? v430) fun b431 ↦
 bif b431 then none else q19_0 es11 es8 n17 b415 es417
noncomputable def q19_6:JX×List AV×Heap →
 Bool →
 List (List AV) →
 Int →
 List (List AV) →
 Int→List (List AV)→Int→List (List AV)→Int→Option (Out×Heap) :=
 fun j375 b24 es26 n33 es11 n29 es8 n17 es14 another5 ↦
 Ω (uncons? j375.snd.fst) fun p376 ↦
 Ω (AV.bool? p376.fst) fun b377 ↦
 Ω (uncons? p376.snd) fun p378 ↦
 Ω (AV.int? ı p378.fst) fun _ ↦
 Ω (nil? p378.snd) fun _ ↦
 Ω (uncons? j375.snd.snd) fun p381 ↦
 Ω (obIs (Ob.mk OK.box 36 2 0 [[vbool b24,AV.list 0 2 es26]]) p381.fst)
 fun _ ↦
 Ω (chk p381.fst.ver 0) fun _ ↦
 Ω (uncons? p381.fst.es) fun p384 ↦
 Ω (nil? p384.snd) fun _ ↦
 Ω (uncons? p384.fst) fun p386 ↦
 Ω (AV.bool? p386.fst) fun b387 ↦
 Ω (uncons? p386.snd) fun p388 ↦
 Ω (AV.list? 2 p388.fst) fun es389 ↦
 Ω (nil? p388.snd) fun _ ↦
 Ω (uncons? p381.snd) fun p391 ↦
 Ω (obIs (Ob.mk OK.dead 26 1 1 []) p391.fst) fun _ ↦
 Ω (chk p391.fst.ver 1) fun _ ↦
 Ω (uncons? p391.snd) fun p394 ↦
 Ω
 (obIs
 (Ob.mk OK.arr 26 1 1
 ((Ob.mk OK.arr 26 1 1
 ([]++List.drop (τ n33) (List.take (ℓ es11) es11))).es ++
 List.drop 0 (List.take (τ n33) es11)))
 p394.fst)
 fun _ ↦
 Ω (chk p394.fst.ver 1) fun _ ↦
 Ω (nil? p394.snd) fun _ ↦
 bif n29 !=0 then some (Out.ret (vbool false),[])
 else
 bif !decide (false=b377) then some (Out.ret (vbool false),[])
 else
 Ω
 (chkLe
 (Nat.add 0
 (Nat.add
 (ℓ
 (Ob.mk OK.arr 26 1 1
 ([]++List.drop (τ n33) (List.take (ℓ es11) es11))).es)
 (ℓ (List.drop 0 (List.take (τ n33) es11)))))
 (ℓ p394.fst.es))
 fun _ ↦
 Ω
 (E cx (Key.fn 89)
 [AV.list 0 2 es8,
 AV.agg
 [AV.list 0 1
 (List.drop 0
 (List.take
 (Nat.add 0
 (Nat.add
 (ℓ
 (Ob.mk OK.arr 26 1 1
 ([]++List.drop (τ n33) (List.take (ℓ es11) es11))).es)
 (ℓ (List.drop 0 (List.take (τ n33) es11)))))
 p394.fst.es)),
 vu (ω υ n17),vbool b387,
 AV.list 0 2 es389]]
 [])
 fun r399 ↦
 Ω (ret1 r399) fun v400 ↦
 Ω (AV.bool? v400) fun b401 ↦
 bif b401 then some (Out.ret (vbool false),[])
 else
 bif decide (((ℓ es14):Int)=((ℓ es11):Int)) then
 Ω
 (E cx
 (Key.loop 19
 [true,true,true,true,true,true,true,true,true,true,true,true,true,true,false,
 true,false])
 [vbool true,vi 0,vi another5,
 vbool true,AV.list 0 2 es8,AV.list 0 1 es11,
 AV.list 0 1 es14,vu (ω υ n17),
 AV.ptr 0 0 0 0,vbool false]
 [Ob.mk OK.box 36 2 0
 [[vbool b387,AV.list 0 2 es389]],
 Ob.mk OK.dead 26 1 1 [],
 Ob.mk OK.arr 26 1 1 p394.fst.es])
 fun r402 ↦
 Ω (asJump r402) fun j403 ↦
 bif JX.is j403.fst (JX.exit 2) then
 q19_5 j403 b387 es389 p394 another5 es8 es14 es11 n17
 else none
 else
 Ω
 (E cx
 (Key.loop 19
 [true,true,true,true,true,true,true,true,true,true,true,true,true,true,false,
 true,false])
 [vbool false,vi 0,vi another5,
 vbool true,AV.list 0 2 es8,AV.list 0 1 es11,
 AV.list 0 1 es14,vu (ω υ n17),
 AV.ptr 0 0 0 0,vbool false]
 [Ob.mk OK.box 36 2 0
 [[vbool b387,AV.list 0 2 es389]],
 Ob.mk OK.dead 26 1 1 [],
 Ob.mk OK.arr 26 1 1 p394.fst.es])
 fun r437 ↦
 Ω (asJump r437) fun j438 ↦
 bif JX.is j438.fst (JX.exit 2) then
 q19_5 j438 b387 es389 p394 another5 es8 es14 es11 n17
 else none
theorem f19:∀(raw0 few1:List (List AV)) (root2 turn3:Int) (other4:List (List AV)) (another5:Int),E cx (Key.fn 19) [AV.list 0 1 raw0,AV.list 0 1 few1,vi root2,vi turn3,AV.list 0 1 other4,vi another5] []=Ω (E cx (Key.fn 79) [AV.list 0 1 raw0] []) fun r6↦Ω (ret1 r6) fun v7↦Ω (AV.list? 2 v7) fun es8↦Ω (E cx (Key.fn 80) [AV.list 0 1 few1] []) fun r9↦Ω (ret1 r9) fun v10↦Ω (AV.list? 1 v10) fun es11↦Ω (E cx (Key.fn 80) [AV.list 0 1 other4] []) fun r12↦Ω (ret1 r12) fun v13↦Ω (AV.list? 1 v13) fun es14↦Ω (E cx (Key.fn 94) [vi root2,vi 3] []) fun r15↦Ω (ret1 r15) fun v16↦Ω (AV.int? ı v16) fun n17↦Ω (E cx (Key.fn 93) [vu (ω υ n17),AV.list 0 1 es11] []) fun r18↦Ω (ret1 r18) fun v19↦Ω (AV.tup? v19) fun vs20↦Ω (uncons? vs20) fun p21↦Ω (AV.cells? p21.fst) fun cs22↦Ω (uncons? cs22) fun p23↦Ω (AV.bool? p23.fst) fun b24↦Ω (uncons? p23.snd) fun p25↦Ω (AV.list? 2 p25.fst) fun es26↦Ω (nil? p25.snd) fun _↦Ω (uncons? p21.snd) fun p28↦Ω (AV.int? ı p28.fst) fun n29↦Ω (nil? p28.snd) fun _↦Ω (E cx (Key.fn 94) [vi turn3,vi (ω ı (Int.add (((ℓ es11):Int)) 1))] []) fun r31↦Ω (ret1 r31) fun v32↦Ω (AV.int? ı v32) fun n33↦if 0≤n33 then if n33≤((ℓ es11):Int) then bif ysOk (List.drop (τ n33) (List.take (ℓ es11) es11)) then if Nat.mul (Nat.add 0 (ℓ (List.drop (τ n33) (List.take (ℓ es11) es11)))) 8≤140737488355328 then if 0≤n33 then if n33≤((ℓ es11):Int) then bif ysOk (List.drop 0 (List.take (τ n33) es11)) then Ω (chk (Nat.add 0 (ℓ (List.drop (τ n33) (List.take (ℓ es11) es11)))) (ℓ (Ob.mk OK.arr 26 1 1 ([]++List.drop (τ n33) (List.take (ℓ es11) es11))).es)) fun _↦if Nat.mul (Nat.add (ℓ (Ob.mk OK.arr 26 1 1 ([]++List.drop (τ n33) (List.take (ℓ es11) es11))).es) (ℓ (List.drop 0 (List.take (τ n33) es11)))) 8≤140737488355328 then Ω (E cx (Key.fn 89) [AV.list 0 2 es8,AV.agg [AV.list 0 1 es11,vu (ω υ n17),vbool b24,AV.list 0 2 es26]] []) fun r35↦Ω (ret1 r35) fun v36↦Ω (AV.bool? v36) fun b37↦bif b37 then bif decide (((ℓ es11):Int)>0) then Ω (E cx (Key.loop 19 [true,true,true,true,true,true,true,true,true,true,true,false,true,false]) [vbool true,vi 0,vi another5,vbool true,AV.list 0 2 es8,AV.list 0 1 es11,AV.list 0 1 es14,vu (ω υ n17),AV.ptr 0 0 0 0,vi n29,AV.arr 2 1 0 (Nat.add (ℓ (Ob.mk OK.arr 26 1 1 ([]++List.drop (τ n33) (List.take (ℓ es11) es11))).es) (ℓ (List.drop 0 (List.take (τ n33) es11)))),vbool true] [Ob.mk OK.box 36 2 0 [[vbool b24,AV.list 0 2 es26]],Ob.mk OK.dead 26 1 1 [],Ob.mk OK.arr 26 1 1 ((Ob.mk OK.arr 26 1 1 ([]++List.drop (τ n33) (List.take (ℓ es11) es11))).es++List.drop 0 (List.take (τ n33) es11))]) fun r38↦Ω (asJump r38) fun j39↦bif JX.is j39.fst (JX.exit 0) then q19_4 j39 b24 es26 n33 es11 n29 es8 n17 es14 another5 else none else Ω (E cx (Key.loop 19 [true,true,true,true,true,true,true,true,true,true,true,false,true,false]) [vbool false,vi 0,vi another5,vbool true,AV.list 0 2 es8,AV.list 0 1 es11,AV.list 0 1 es14,vu (ω υ n17),AV.ptr 0 0 0 0,vi n29,AV.arr 2 1 0 (Nat.add (ℓ (Ob.mk OK.arr 26 1 1 ([]++List.drop (τ n33) (List.take (ℓ es11) es11))).es) (ℓ (List.drop 0 (List.take (τ n33) es11)))),vbool true] [Ob.mk OK.box 36 2 0 [[vbool b24,AV.list 0 2 es26]],Ob.mk OK.dead 26 1 1 [],Ob.mk OK.arr 26 1 1 ((Ob.mk OK.arr 26 1 1 ([]++List.drop (τ n33) (List.take (ℓ es11) es11))).es++List.drop 0 (List.take (τ n33) es11))]) fun r206↦Ω (asJump r206) fun j207↦bif JX.is j207.fst (JX.exit 0) then q19_4 j207 b24 es26 n33 es11 n29 es8 n17 es14 another5 else none else bif decide (((ℓ es11):Int)>0) then Ω (E cx (Key.loop 19 [true,true,true,true,true,true,true,true,true,true,true,false,true,false]) [vbool true,vi 0,vi another5,vbool true,AV.list 0 2 es8,AV.list 0 1 es11,AV.list 0 1 es14,vu (ω υ n17),AV.ptr 0 0 0 0,vi n29,AV.arr 2 1 0 (Nat.add (ℓ (Ob.mk OK.arr 26 1 1 ([]++List.drop (τ n33) (List.take (ℓ es11) es11))).es) (ℓ (List.drop 0 (List.take (τ n33) es11)))),vbool false] [Ob.mk OK.box 36 2 0 [[vbool b24,AV.list 0 2 es26]],Ob.mk OK.dead 26 1 1 [],Ob.mk OK.arr 26 1 1 ((Ob.mk OK.arr 26 1 1 ([]++List.drop (τ n33) (List.take (ℓ es11) es11))).es++List.drop 0 (List.take (τ n33) es11))]) fun r374↦Ω (asJump r374) fun j375↦bif JX.is j375.fst (JX.exit 0) then q19_6 j375 b24 es26 n33 es11 n29 es8 n17 es14 another5 else none else Ω (E cx (Key.loop 19 [true,true,true,true,true,true,true,true,true,true,true,false,true,false]) [vbool false,vi 0,vi another5,vbool true,AV.list 0 2 es8,AV.list 0 1 es11,AV.list 0 1 es14,vu (ω υ n17),AV.ptr 0 0 0 0,vi n29,AV.arr 2 1 0 (Nat.add (ℓ (Ob.mk OK.arr 26 1 1 ([]++List.drop (τ n33) (List.take (ℓ es11) es11))).es) (ℓ (List.drop 0 (List.take (τ n33) es11)))),vbool false] [Ob.mk OK.box 36 2 0 [[vbool b24,AV.list 0 2 es26]],Ob.mk OK.dead 26 1 1 [],Ob.mk OK.arr 26 1 1 ((Ob.mk OK.arr 26 1 1 ([]++List.drop (τ n33) (List.take (ℓ es11) es11))).es++List.drop 0 (List.take (τ n33) es11))]) fun r472↦Ω (asJump r472) fun j473↦bif JX.is j473.fst (JX.exit 0) then q19_6 j473 b24 es26 n33 es11 n29 es8 n17 es14 another5 else none else none else none else none else none else none else none else none else none:=by
 intros
 exact(E_ov f78_true [188,142] _ _ _).trans (by kernel_rfl)
noncomputable def q19_l0_0:Int →
 Int →
 Bool →
 List (List AV) →
 List (List AV) →
 List (List AV) →
 Int→Int→Nat→Bool→Bool→List (List AV)→List (List AV)→Option (Out×Heap) :=
 fun x571 x572 b573 l574 l575 l576 x577 x578 n579 b580 b581 l582 l583 ↦
 E cx (Key.loop 19 [true,true,true,true,true,true,true,true,true,true,true,false,true,false])
 [vbool false,vi (ω ı (Int.add x571 1)),vi x572,vbool b573,
 AV.list 0 2 l574,AV.list 0 1 l575,AV.list 0 1 l576,vu x577,AV.ptr 0 0 0 0,
 vi x578,AV.arr 2 1 0 n579,vbool b580]
 [Ob.mk OK.box 36 2 0 [[vbool b581,AV.list 0 2 l582]],
 Ob.mk OK.dead 26 1 1 [],Ob.mk OK.arr 26 1 1 l583]
noncomputable def q19_l0_1:Bool →
 Int →
 Int →
 Bool →
 List (List AV) →
 List (List AV) →
 List (List AV) →
 Int→Int→Nat→Bool→Bool→List (List AV)→List (List AV)→Option (Out×Heap) :=
 fun b570 x571 x572 b573 l574 l575 l576 x577 x578 n579 b580 b581 l582 l583 ↦
 bif b570 then
 E cx (Key.loop 19 [true,true,true,true,true,true,true,true,true,true,true,false,true,false])
 [vbool true,vi (ω ı (Int.add x571 1)),vi x572,vbool b573,
 AV.list 0 2 l574,AV.list 0 1 l575,AV.list 0 1 l576,vu x577,AV.ptr 0 0 0 0,
 vi x578,AV.arr 2 1 0 n579,vbool b580]
 [Ob.mk OK.box 36 2 0 [[vbool b581,AV.list 0 2 l582]],
 Ob.mk OK.dead 26 1 1 [],Ob.mk OK.arr 26 1 1 l583]
 else q19_l0_0 x571 x572 b573 l574 l575 l576 x577 x578 n579 b580 b581 l582 l583
noncomputable def q19_l0_2:Bool →
 Int →
 Int →
 Bool →
 List (List AV) →
 List (List AV) →
 List (List AV) →
 Int→Int→Nat→Bool→Bool→List (List AV)→List (List AV)→Option (Out×Heap) :=
 fun b570 x571 x572 b573 l574 l575 l576 x577 x578 n579 b580 b581 l582 l583 ↦
 bif b570 then q19_l0_0 x571 x572 b573 l574 l575 l576 x577 x578 n579 b580 b581 l582 l583
 else q19_l0_0 x571 x572 b573 l574 l575 l576 x577 x578 n579 b580 b581 l582 l583
noncomputable def q19_l0_3:Bool →
 Int →
 Int →
 Bool →
 List (List AV) →
 List (List AV) →
 List (List AV) →
 Int→Int→Nat→Bool→Bool→List (List AV)→List (List AV)→Option (Out×Heap) :=
 fun b570 x571 x572 b573 l574 l575 l576 x577 x578 n579 b580 b581 l582 l583 ↦
 bif b570 then
 E cx (Key.loop 19 [true,true,true,true,true,true,true,true,true,true,true,false,true,false])
 [AV.val (Value.tuple (Array.mk [])),vi (ω ı (Int.add x571 1)),vi x572,
 vbool b573,AV.list 0 2 l574,AV.list 0 1 l575,AV.list 0 1 l576,vu x577,
 AV.ptr 0 0 0 0,vi x578,AV.arr 2 1 0 n579,vbool b580]
 [Ob.mk OK.box 36 2 0 [[vbool b581,AV.list 0 2 l582]],
 Ob.mk OK.dead 26 1 1 [],Ob.mk OK.arr 26 1 1 l583]
 else q19_l0_0 x571 x572 b573 l574 l575 l576 x577 x578 n579 b580 b581 l582 l583
noncomputable def q19_l0_4:Bool →
 List (List AV) →
 Int →
 Int →
 Bool →
 List (List AV) →
 List (List AV) →
 Int→Int→Nat→Bool→Bool→List (List AV)→List (List AV)→Option (Out×Heap) :=
 fun b570 l574 x571 x572 b573 l575 l576 x577 x578 n579 b580 b581 l582 l583 ↦
 bif decide (b570=true) then
 Ω (E cx (Key.fn 85) [AV.list 0 2 l574,AV.val (Value.tuple (Array.mk []))] [])
 fun r591 ↦
 Ω (ret1 r591) fun v592 ↦
 Ω (AV.bool? v592) fun b593 ↦
 bif b593 then q19_l0_1 b570 x571 x572 b573 l574 l575 l576 x577 x578 n579 b580 b581 l582 l583
 else q19_l0_2 b570 x571 x572 b573 l574 l575 l576 x577 x578 n579 b580 b581 l582 l583
 else q19_l0_3 b570 x571 x572 b573 l574 l575 l576 x577 x578 n579 b580 b581 l582 l583
noncomputable def q19_l0_5:Bool →
 List (List AV) →
 Int →
 Int →
 Int →
 Bool →
 List (List AV) →
 List (List AV) →
 Int→Nat→Bool→Bool→List (List AV)→List (List AV)→Option (Out×Heap) :=
 fun b570 l574 x577 x571 x572 b573 l575 l576 x578 n579 b580 b581 l582 l583 ↦
 bif decide (b570=true) then
 bif decide (b570=true) then
 bif decide (b570=true) then
 Ω
 (E cx (Key.fn 85)
 [AV.list 0 2 l574,AV.agg [AV.val (Value.tuple (Array.mk [])),vu x577]] [])
 fun r600 ↦
 Ω (ret1 r600) fun v601 ↦
 Ω (AV.bool? v601) fun b602 ↦
 bif b602 then q19_l0_1 b570 x571 x572 b573 l574 l575 l576 x577 x578 n579 b580 b581 l582 l583
 else q19_l0_2 b570 x571 x572 b573 l574 l575 l576 x577 x578 n579 b580 b581 l582 l583
 else q19_l0_3 b570 x571 x572 b573 l574 l575 l576 x577 x578 n579 b580 b581 l582 l583
 else q19_l0_4 b570 l574 x571 x572 b573 l575 l576 x577 x578 n579 b580 b581 l582 l583
 else
 bif decide (b570=true) then
 bif decide (b570=true) then
 Ω
 (E cx (Key.fn 85)
 [AV.list 0 2 l574,
 AV.agg [AV.val (Value.tuple (Array.mk [])),AV.val (Value.tuple (Array.mk []))]]
 [])
 fun r606 ↦
 Ω (ret1 r606) fun v607 ↦
 Ω (AV.bool? v607) fun b608 ↦
 bif b608 then q19_l0_1 b570 x571 x572 b573 l574 l575 l576 x577 x578 n579 b580 b581 l582 l583
 else q19_l0_2 b570 x571 x572 b573 l574 l575 l576 x577 x578 n579 b580 b581 l582 l583
 else q19_l0_3 b570 x571 x572 b573 l574 l575 l576 x577 x578 n579 b580 b581 l582 l583
 else q19_l0_4 b570 l574 x571 x572 b573 l575 l576 x577 x578 n579 b580 b581 l582 l583
noncomputable def q19_l0_6:Bool →
 List (List AV) →
 Int →
 Int →
 Int →
 Bool →
 List (List AV) →
 List (List AV) →
 Int→Nat→Bool→Bool→List (List AV)→List (List AV)→Option (Out×Heap) :=
 fun b570 l574 x577 x571 x572 b573 l575 l576 x578 n579 b580 b581 l582 l583 ↦
 bif decide (b570=true) then none else q19_l0_5 b570 l574 x577 x571 x572 b573 l575 l576 x578 n579 b580 b581 l582 l583
noncomputable def q19_l0_7:Bool →
 List (List AV) →
 Int →
 Int →
 Int →
 Bool →
 List (List AV) →
 List (List AV) →
 Int→Nat→Bool→Bool→List (List AV)→List (List AV)→Option (Out×Heap) :=
 fun b570 l574 x577 x571 x572 b573 l575 l576 x578 n579 b580 b581 l582 l583 ↦
 bif decide (b570=true) then none else q19_l0_6 b570 l574 x577 x571 x572 b573 l575 l576 x578 n579 b580 b581 l582 l583
noncomputable def q19_l0_8:Bool →
 Int →
 Int →
 Bool →
 List (List AV) →
 List (List AV) →
 List (List AV) →
 Int→Int→Nat→Bool→Bool→List (List AV)→List (List AV)→Option (Out×Heap) :=
 fun b570 x571 x572 b573 l574 l575 l576 x577 x578 n579 b580 b581 l582 l583 ↦
 bif decide (b570=true) then
 Ω
 (E cx (Key.fn 85)
 [AV.val (Value.tuple (Array.mk [])),AV.val (Value.tuple (Array.mk []))] [])
 fun r667 ↦
 Ω (ret1 r667) fun v668 ↦
 Ω (AV.bool? v668) fun b669 ↦
 bif b669 then q19_l0_1 b570 x571 x572 b573 l574 l575 l576 x577 x578 n579 b580 b581 l582 l583
 else q19_l0_2 b570 x571 x572 b573 l574 l575 l576 x577 x578 n579 b580 b581 l582 l583
 else q19_l0_3 b570 x571 x572 b573 l574 l575 l576 x577 x578 n579 b580 b581 l582 l583
noncomputable def q19_l0_9:Bool →
 Int →
 Int →
 Int →
 Bool →
 List (List AV) →
 List (List AV) →
 List (List AV) →
 Int→Nat→Bool→Bool→List (List AV)→List (List AV)→Option (Out×Heap) :=
 fun b570 x577 x571 x572 b573 l574 l575 l576 x578 n579 b580 b581 l582 l583 ↦
 bif decide (b570=true) then
 bif decide (b570=true) then
 bif decide (b570=true) then
 Ω
 (E cx (Key.fn 85)
 [AV.val (Value.tuple (Array.mk [])),AV.agg [AV.val (Value.tuple (Array.mk [])),vu x577]]
 [])
 fun r676 ↦
 Ω (ret1 r676) fun v677 ↦
 Ω (AV.bool? v677) fun b678 ↦
 bif b678 then q19_l0_1 b570 x571 x572 b573 l574 l575 l576 x577 x578 n579 b580 b581 l582 l583
 else q19_l0_2 b570 x571 x572 b573 l574 l575 l576 x577 x578 n579 b580 b581 l582 l583
 else q19_l0_3 b570 x571 x572 b573 l574 l575 l576 x577 x578 n579 b580 b581 l582 l583
 else q19_l0_8 b570 x571 x572 b573 l574 l575 l576 x577 x578 n579 b580 b581 l582 l583
 else
 bif decide (b570=true) then
 bif decide (b570=true) then
 Ω
 (E cx (Key.fn 85)
 [AV.val (Value.tuple (Array.mk [])),
 AV.agg [AV.val (Value.tuple (Array.mk [])),AV.val (Value.tuple (Array.mk []))]]
 [])
 fun r682 ↦
 Ω (ret1 r682) fun v683 ↦
 Ω (AV.bool? v683) fun b684 ↦
 bif b684 then q19_l0_1 b570 x571 x572 b573 l574 l575 l576 x577 x578 n579 b580 b581 l582 l583
 else q19_l0_2 b570 x571 x572 b573 l574 l575 l576 x577 x578 n579 b580 b581 l582 l583
 else q19_l0_3 b570 x571 x572 b573 l574 l575 l576 x577 x578 n579 b580 b581 l582 l583
 else q19_l0_8 b570 x571 x572 b573 l574 l575 l576 x577 x578 n579 b580 b581 l582 l583
noncomputable def q19_l0_10:Bool →
 Int →
 Int →
 Int →
 Bool →
 List (List AV) →
 List (List AV) →
 List (List AV) →
 Int→Nat→Bool→Bool→List (List AV)→List (List AV)→Option (Out×Heap) :=
 fun b570 x577 x571 x572 b573 l574 l575 l576 x578 n579 b580 b581 l582 l583 ↦
 bif decide (b570=true) then none else q19_l0_9 b570 x577 x571 x572 b573 l574 l575 l576 x578 n579 b580 b581 l582 l583
noncomputable def q19_l0_11:Bool →
 Int →
 Int →
 Int →
 Bool →
 List (List AV) →
 List (List AV) →
 List (List AV) →
 Int→Nat→Bool→Bool→List (List AV)→List (List AV)→Option (Out×Heap) :=
 fun b570 x577 x571 x572 b573 l574 l575 l576 x578 n579 b580 b581 l582 l583 ↦
 bif decide (b570=true) then none else q19_l0_10 b570 x577 x571 x572 b573 l574 l575 l576 x578 n579 b580 b581 l582 l583
theorem f19_l0:∀(b570:Bool) (x571 x572:Int) (b573:Bool) (l574 l575 l576:List (List AV)) (x577 x578:Int) (n579:Nat) (b580 b581:Bool) (l582 l583:List (List AV)),E cx (Key.loop 19 [true,true,true,true,true,true,true,true,true,true,true,false,true,false]) [vbool b570,vi x571,vi x572,vbool b573,AV.list 0 2 l574,AV.list 0 1 l575,AV.list 0 1 l576,vu x577,AV.ptr 0 0 0 0,vi x578,AV.arr 2 1 0 n579,vbool b580] [Ob.mk OK.box 36 2 0 [[vbool b581,AV.list 0 2 l582]],Ob.mk OK.dead 26 1 1 [],Ob.mk OK.arr 26 1 1 l583]=bif decide (x571<((ℓ l575):Int)) then bif decide (b570=true) then bif decide (b570=true) then bif decide (b570=true) then bif decide (b570=true) then if 0≤x571 then Ω l575[τ x571]? fun cs584↦Ω (uncons? cs584) fun p585↦Ω (AV.int? υ p585.fst) fun n586↦Ω (nil? p585.snd) fun _↦bif decide (b570=true) then bif decide (b570=true) then bif decide (b570=true) then bif decide (b570=true) then Ω (E cx (Key.fn 85) [AV.list 0 2 l574,AV.agg [vu n586,vu x577]] []) fun r588↦Ω (ret1 r588) fun v589↦Ω (AV.bool? v589) fun b590↦bif b590 then q19_l0_1 b570 x571 x572 b573 l574 l575 l576 x577 x578 n579 b580 b581 l582 l583 else q19_l0_2 b570 x571 x572 b573 l574 l575 l576 x577 x578 n579 b580 b581 l582 l583 else q19_l0_3 b570 x571 x572 b573 l574 l575 l576 x577 x578 n579 b580 b581 l582 l583 else q19_l0_4 b570 l574 x571 x572 b573 l575 l576 x577 x578 n579 b580 b581 l582 l583 else bif decide (b570=true) then bif decide (b570=true) then Ω (E cx (Key.fn 85) [AV.list 0 2 l574,AV.agg [vu n586,AV.val (Value.tuple (Array.mk []))]] []) fun r594↦Ω (ret1 r594) fun v595↦Ω (AV.bool? v595) fun b596↦bif b596 then q19_l0_1 b570 x571 x572 b573 l574 l575 l576 x577 x578 n579 b580 b581 l582 l583 else q19_l0_2 b570 x571 x572 b573 l574 l575 l576 x577 x578 n579 b580 b581 l582 l583 else q19_l0_3 b570 x571 x572 b573 l574 l575 l576 x577 x578 n579 b580 b581 l582 l583 else q19_l0_4 b570 l574 x571 x572 b573 l575 l576 x577 x578 n579 b580 b581 l582 l583 else q19_l0_5 b570 l574 x577 x571 x572 b573 l575 l576 x578 n579 b580 b581 l582 l583 else none else q19_l0_6 b570 l574 x577 x571 x572 b573 l575 l576 x578 n579 b580 b581 l582 l583 else q19_l0_7 b570 l574 x577 x571 x572 b573 l575 l576 x578 n579 b580 b581 l582 l583 else bif decide (b570=true) then q19_l0_7 b570 l574 x577 x571 x572 b573 l575 l576 x578 n579 b580 b581 l582 l583 else q19_l0_7 b570 l574 x577 x571 x572 b573 l575 l576 x578 n579 b580 b581 l582 l583 else bif decide (b570=true) then bif decide (b570=true) then bif decide (b570=true) then if 0≤x571 then Ω l575[τ x571]? fun cs660↦Ω (uncons? cs660) fun p661↦Ω (AV.int? υ p661.fst) fun n662↦Ω (nil? p661.snd) fun _↦bif decide (b570=true) then bif decide (b570=true) then bif decide (b570=true) then bif decide (b570=true) then Ω (E cx (Key.fn 85) [AV.val (Value.tuple (Array.mk [])),AV.agg [vu n662,vu x577]] []) fun r664↦Ω (ret1 r664) fun v665↦Ω (AV.bool? v665) fun b666↦bif b666 then q19_l0_1 b570 x571 x572 b573 l574 l575 l576 x577 x578 n579 b580 b581 l582 l583 else q19_l0_2 b570 x571 x572 b573 l574 l575 l576 x577 x578 n579 b580 b581 l582 l583 else q19_l0_3 b570 x571 x572 b573 l574 l575 l576 x577 x578 n579 b580 b581 l582 l583 else q19_l0_8 b570 x571 x572 b573 l574 l575 l576 x577 x578 n579 b580 b581 l582 l583 else bif decide (b570=true) then bif decide (b570=true) then Ω (E cx (Key.fn 85) [AV.val (Value.tuple (Array.mk [])),AV.agg [vu n662,AV.val (Value.tuple (Array.mk []))]] []) fun r670↦Ω (ret1 r670) fun v671↦Ω (AV.bool? v671) fun b672↦bif b672 then q19_l0_1 b570 x571 x572 b573 l574 l575 l576 x577 x578 n579 b580 b581 l582 l583 else q19_l0_2 b570 x571 x572 b573 l574 l575 l576 x577 x578 n579 b580 b581 l582 l583 else q19_l0_3 b570 x571 x572 b573 l574 l575 l576 x577 x578 n579 b580 b581 l582 l583 else q19_l0_8 b570 x571 x572 b573 l574 l575 l576 x577 x578 n579 b580 b581 l582 l583 else q19_l0_9 b570 x577 x571 x572 b573 l574 l575 l576 x578 n579 b580 b581 l582 l583 else none else q19_l0_10 b570 x577 x571 x572 b573 l574 l575 l576 x578 n579 b580 b581 l582 l583 else q19_l0_11 b570 x577 x571 x572 b573 l574 l575 l576 x578 n579 b580 b581 l582 l583 else bif decide (b570=true) then q19_l0_11 b570 x577 x571 x572 b573 l574 l575 l576 x578 n579 b580 b581 l582 l583 else q19_l0_11 b570 x577 x571 x572 b573 l574 l575 l576 x578 n579 b580 b581 l582 l583 else some (Out.jump (JX.exit 0) [vbool b570,vi x571],[Ob.mk OK.box 36 2 0 [[vbool b581,AV.list 0 2 l582]],Ob.mk OK.dead 26 1 1 [],Ob.mk OK.arr 26 1 1 l583]):=by
 intros
 exact(E_ov f78_true [188,142] _ _ _).trans (by kernel_rfl)
theorem f19_l1:∀(b736:Bool) (x737 x738:Int) (b739:Bool) (l740 l741 l742:List (List AV)) (x743:Int) (b744 b745:Bool) (l746 l747:List (List AV)),E cx (Key.loop 19 [true,true,true,true,true,true,true,true,true,true,true,true,true,true,false,true,false]) [vbool b736,vi x737,vi x738,vbool b739,AV.list 0 2 l740,AV.list 0 1 l741,AV.list 0 1 l742,vu x743,AV.ptr 0 0 0 0,vbool b744] [Ob.mk OK.box 36 2 0 [[vbool b745,AV.list 0 2 l746]],Ob.mk OK.dead 26 1 1 [],Ob.mk OK.arr 26 1 1 l747]=bif decide (x737<((ℓ l742):Int)) then bif b736 then Ω (E cx (Key.loop 19 [true,true,true,true,true,true,true,true,true,true,true,true,true,true,false,true,false,false,true,false,false,true,false,true,false]) [vbool false,vi 0,vi x738,vbool b739,AV.list 0 2 l740,AV.list 0 1 l741,AV.list 0 1 l742,vu x743,AV.ptr 0 0 0 0,vbool b744,vi x737] [Ob.mk OK.box 36 2 0 [[vbool b745,AV.list 0 2 l746]],Ob.mk OK.dead 26 1 1 [],Ob.mk OK.arr 26 1 1 l747]) fun r748↦Ω (asJump r748) fun j749↦bif JX.is j749.fst (JX.exit 4) then Ω (uncons? j749.snd.fst) fun p750↦Ω (AV.bool? p750.fst) fun b751↦Ω (uncons? p750.snd) fun p752↦Ω (AV.int? ı p752.fst) fun _↦Ω (nil? p752.snd) fun _↦Ω (uncons? j749.snd.snd) fun p755↦Ω (obIs (Ob.mk OK.box 36 2 0 [[vbool b745,AV.list 0 2 l746]]) p755.fst) fun _↦Ω (chk p755.fst.ver 0) fun _↦Ω (uncons? p755.fst.es) fun p758↦Ω (nil? p758.snd) fun _↦Ω (uncons? p758.fst) fun p760↦Ω (AV.bool? p760.fst) fun b761↦Ω (uncons? p760.snd) fun p762↦Ω (AV.list? 2 p762.fst) fun es763↦Ω (nil? p762.snd) fun _↦Ω (uncons? p755.snd) fun p765↦Ω (obIs (Ob.mk OK.dead 26 1 1 []) p765.fst) fun _↦Ω (chk p765.fst.ver 1) fun _↦Ω (uncons? p765.snd) fun p768↦Ω (obIs (Ob.mk OK.arr 26 1 1 l747) p768.fst) fun _↦Ω (chk p768.fst.ver 1) fun _↦Ω (nil? p768.snd) fun _↦E cx (Key.loop 19 [true,true,true,true,true,true,true,true,true,true,true,true,true,true,false,true,false]) [vbool b751,vi (ω ı (Int.add x737 1)),vi x738,vbool b739,AV.list 0 2 l740,AV.list 0 1 l741,AV.list 0 1 l742,vu x743,AV.ptr 0 0 0 0,vbool b744] [Ob.mk OK.box 36 2 0 [[vbool b761,AV.list 0 2 es763]],Ob.mk OK.dead 26 1 1 [],Ob.mk OK.arr 26 1 1 p768.fst.es] else none else some (Out.jump (JX.exit 2) [vbool b736,vi x737],[Ob.mk OK.box 36 2 0 [[vbool b745,AV.list 0 2 l746]],Ob.mk OK.dead 26 1 1 [],Ob.mk OK.arr 26 1 1 l747]) else some (Out.jump (JX.exit 2) [vbool b736,vi x737],[Ob.mk OK.box 36 2 0 [[vbool b745,AV.list 0 2 l746]],Ob.mk OK.dead 26 1 1 [],Ob.mk OK.arr 26 1 1 l747]):=by
 intros
 exact(E_ov f78_true [188,142] _ _ _).trans (by kernel_rfl)
noncomputable def q19_l1_l2_0:Int →
 Int →
 Bool →
 List (List AV) →
 List (List AV) →
 List (List AV) →
 Int→Bool→Int→Bool→List (List AV)→List (List AV)→Option (Out×Heap) :=
 fun x773 x774 b775 l776 l777 l778 x779 b780 x781 b782 l783 l784 ↦
 E cx
 (Key.loop 19
 [true,true,true,true,true,true,true,true,true,true,true,true,true,true,false,true,false,false,true,false,false,true,false,true,
 false])
 [vbool true,vi (ω ı (Int.add x773 1)),vi x774,vbool b775,
 AV.list 0 2 l776,AV.list 0 1 l777,AV.list 0 1 l778,vu x779,AV.ptr 0 0 0 0,
 vbool b780,vi x781]
 [Ob.mk OK.box 36 2 0 [[vbool b782,AV.list 0 2 l783]],
 Ob.mk OK.dead 26 1 1 [],Ob.mk OK.arr 26 1 1 l784]
noncomputable def q19_l1_l2_1:Bool →
 Int →
 Int →
 Bool →
 List (List AV) →
 List (List AV) →
 List (List AV) →
 Int→Bool→Int→Bool→List (List AV)→List (List AV)→Option (Out×Heap) :=
 fun b772 x773 x774 b775 l776 l777 l778 x779 b780 x781 b782 l783 l784 ↦
 bif b772 then q19_l1_l2_0 x773 x774 b775 l776 l777 l778 x779 b780 x781 b782 l783 l784
 else
 E cx
 (Key.loop 19
 [true,true,true,true,true,true,true,true,true,true,true,true,true,true,false,true,false,false,true,false,false,true,false,true,
 false])
 [AV.val (Value.tuple (Array.mk [])),vi (ω ı (Int.add x773 1)),vi x774,
 vbool b775,AV.list 0 2 l776,AV.list 0 1 l777,AV.list 0 1 l778,vu x779,
 AV.ptr 0 0 0 0,vbool b780,vi x781]
 [Ob.mk OK.box 36 2 0 [[vbool b782,AV.list 0 2 l783]],
 Ob.mk OK.dead 26 1 1 [],Ob.mk OK.arr 26 1 1 l784]
noncomputable def q19_l1_l2_2:Bool →
 Int →
 Int →
 Bool →
 List (List AV) →
 List (List AV) →
 List (List AV) →
 Int→Bool→Int→Bool→List (List AV)→List (List AV)→Option (Out×Heap) :=
 fun b772 x773 x774 b775 l776 l777 l778 x779 b780 x781 b782 l783 l784 ↦
 bif decide (b772=false) then none else q19_l1_l2_1 b772 x773 x774 b775 l776 l777 l778 x779 b780 x781 b782 l783 l784
noncomputable def q19_l1_l2_3:Bool →
 Int →
 Int →
 Bool →
 List (List AV) →
 List (List AV) →
 List (List AV) →
 Int→Bool→Int→Bool→List (List AV)→List (List AV)→Option (Out×Heap) :=
 fun b772 x773 x774 b775 l776 l777 l778 x779 b780 x781 b782 l783 l784 ↦
 bif decide (b772=false) then none else q19_l1_l2_2 b772 x773 x774 b775 l776 l777 l778 x779 b780 x781 b782 l783 l784
noncomputable def q19_l1_l2_4:Bool →
 Int →
 Int →
 Bool →
 List (List AV) →
 List (List AV) →
 List (List AV) →
 Int→Bool→Int→Bool→List (List AV)→List (List AV)→Option (Out×Heap) :=
 fun b772 x773 x774 b775 l776 l777 l778 x779 b780 x781 b782 l783 l784 ↦
 bif decide (b772=false) then none else q19_l1_l2_3 b772 x773 x774 b775 l776 l777 l778 x779 b780 x781 b782 l783 l784
noncomputable def q19_l1_l2_5:Bool →
 Int →
 Int →
 Bool →
 List (List AV) →
 List (List AV) →
 List (List AV) →
 Int→Bool→Int→Bool→List (List AV)→List (List AV)→Option (Out×Heap) :=
 fun b772 x773 x774 b775 l776 l777 l778 x779 b780 x781 b782 l783 l784 ↦
 bif decide (b772=false) then q19_l1_l2_4 b772 x773 x774 b775 l776 l777 l778 x779 b780 x781 b782 l783 l784
 else q19_l1_l2_4 b772 x773 x774 b775 l776 l777 l778 x779 b780 x781 b782 l783 l784
noncomputable def q19_l1_l2_6:Bool →
 Int →
 List (List AV) →
 Int →
 Int →
 Bool →
 List (List AV) →
 List (List AV) →
 Int→Bool→Bool→List (List AV)→List (List AV)→Option (Out×Heap) :=
 fun b772 x781 l778 x773 x774 b775 l776 l777 x779 b780 b782 l783 l784 ↦
 bif decide (b772=false) then
 bif decide (b772=false) then
 bif decide (b772=false) then
 if 0≤x781 then
 Ω l778[τ x781]? fun cs793 ↦
 Ω (uncons? cs793) fun p794 ↦
 Ω (AV.int? υ p794.fst) fun _ ↦
 Ω (nil? p794.snd) fun _ ↦
 bif decide (b772=false) then q19_l1_l2_2 b772 x773 x774 b775 l776 l777 l778 x779 b780 x781 b782 l783 l784
 else q19_l1_l2_2 b772 x773 x774 b775 l776 l777 l778 x779 b780 x781 b782 l783 l784
 else none
 else q19_l1_l2_3 b772 x773 x774 b775 l776 l777 l778 x779 b780 x781 b782 l783 l784
 else q19_l1_l2_4 b772 x773 x774 b775 l776 l777 l778 x779 b780 x781 b782 l783 l784
 else q19_l1_l2_5 b772 x773 x774 b775 l776 l777 l778 x779 b780 x781 b782 l783 l784
noncomputable def q19_l1_l2_7:Bool →
 Int →
 List (List AV) →
 Int →
 Int →
 Bool →
 List (List AV) →
 List (List AV) →
 Int→Bool→Bool→List (List AV)→List (List AV)→Option (Out×Heap) :=
 fun b772 x781 l778 x773 x774 b775 l776 l777 x779 b780 b782 l783 l784 ↦
 bif decide (b772=false) then none else q19_l1_l2_6 b772 x781 l778 x773 x774 b775 l776 l777 x779 b780 b782 l783 l784
noncomputable def q19_l1_l2_8:Bool →
 Int →
 List (List AV) →
 Int →
 Int →
 Bool →
 List (List AV) →
 List (List AV) →
 Int→Bool→Bool→List (List AV)→List (List AV)→Option (Out×Heap) :=
 fun b772 x781 l778 x773 x774 b775 l776 l777 x779 b780 b782 l783 l784 ↦
 bif decide (b772=false) then none else q19_l1_l2_7 b772 x781 l778 x773 x774 b775 l776 l777 x779 b780 b782 l783 l784
theorem f19_l1_l2:∀(b772:Bool) (x773 x774:Int) (b775:Bool) (l776 l777 l778:List (List AV)) (x779:Int) (b780:Bool) (x781:Int) (b782:Bool) (l783 l784:List (List AV)),E cx (Key.loop 19 [true,true,true,true,true,true,true,true,true,true,true,true,true,true,false,true,false,false,true,false,false,true,false,true,false]) [vbool b772,vi x773,vi x774,vbool b775,AV.list 0 2 l776,AV.list 0 1 l777,AV.list 0 1 l778,vu x779,AV.ptr 0 0 0 0,vbool b780,vi x781] [Ob.mk OK.box 36 2 0 [[vbool b782,AV.list 0 2 l783]],Ob.mk OK.dead 26 1 1 [],Ob.mk OK.arr 26 1 1 l784]=bif decide (x773<((ℓ l777):Int)) then bif decide (b772=false) then bif decide (b772=false) then bif decide (b772=false) then if 0≤x773 then Ω l777[τ x773]? fun cs785↦Ω (uncons? cs785) fun p786↦Ω (AV.int? υ p786.fst) fun n787↦Ω (nil? p786.snd) fun _↦bif decide (b772=false) then bif decide (b772=false) then bif decide (b772=false) then bif decide (b772=false) then if 0≤x781 then Ω l778[τ x781]? fun cs789↦Ω (uncons? cs789) fun p790↦Ω (AV.int? υ p790.fst) fun n791↦Ω (nil? p790.snd) fun _↦bif decide (b772=false) then bif decide (b772=false) then bif decide (n787=n791) then bif b772 then q19_l1_l2_0 x773 x774 b775 l776 l777 l778 x779 b780 x781 b782 l783 l784 else q19_l1_l2_0 x773 x774 b775 l776 l777 l778 x779 b780 x781 b782 l783 l784 else bif b772 then q19_l1_l2_0 x773 x774 b775 l776 l777 l778 x779 b780 x781 b782 l783 l784 else E cx (Key.loop 19 [true,true,true,true,true,true,true,true,true,true,true,true,true,true,false,true,false,false,true,false,false,true,false,true,false]) [vbool false,vi (ω ı (Int.add x773 1)),vi x774,vbool b775,AV.list 0 2 l776,AV.list 0 1 l777,AV.list 0 1 l778,vu x779,AV.ptr 0 0 0 0,vbool b780,vi x781] [Ob.mk OK.box 36 2 0 [[vbool b782,AV.list 0 2 l783]],Ob.mk OK.dead 26 1 1 [],Ob.mk OK.arr 26 1 1 l784] else q19_l1_l2_1 b772 x773 x774 b775 l776 l777 l778 x779 b780 x781 b782 l783 l784 else q19_l1_l2_2 b772 x773 x774 b775 l776 l777 l778 x779 b780 x781 b782 l783 l784 else none else q19_l1_l2_3 b772 x773 x774 b775 l776 l777 l778 x779 b780 x781 b782 l783 l784 else q19_l1_l2_4 b772 x773 x774 b775 l776 l777 l778 x779 b780 x781 b782 l783 l784 else q19_l1_l2_5 b772 x773 x774 b775 l776 l777 l778 x779 b780 x781 b782 l783 l784 else q19_l1_l2_6 b772 x781 l778 x773 x774 b775 l776 l777 x779 b780 b782 l783 l784 else none else q19_l1_l2_7 b772 x781 l778 x773 x774 b775 l776 l777 x779 b780 b782 l783 l784 else q19_l1_l2_8 b772 x781 l778 x773 x774 b775 l776 l777 x779 b780 b782 l783 l784 else bif decide (b772=false) then q19_l1_l2_8 b772 x781 l778 x773 x774 b775 l776 l777 x779 b780 b782 l783 l784 else q19_l1_l2_8 b772 x781 l778 x773 x774 b775 l776 l777 x779 b780 b782 l783 l784 else some (Out.jump (JX.exit 4) [vbool b772,vi x773],[Ob.mk OK.box 36 2 0 [[vbool b782,AV.list 0 2 l783]],Ob.mk OK.dead 26 1 1 [],Ob.mk OK.arr 26 1 1 l784]):=by
 intros
 exact(E_ov f78_true [188,142] _ _ _).trans (by kernel_rfl)
end
section
theorem goT' {ρ:Type}{x:Option (Out×Heap)}{b:Bool}(h:x=rb b) (hb:b=true) (k j:Option ρ):(x.bind fun r=>(ret1 r).bind fun v=>v.bool?.bind fun b=>bif b then k else j)=k:=by rw [h,hb];rfl
theorem goF' {ρ:Type}{x:Option (Out×Heap)}{b:Bool}(h:x=rb b) (hb:b=false) (k j:Option ρ):(x.bind fun r=>(ret1 r).bind fun v=>v.bool?.bind fun b=>bif b then k else j)=j:=by rw [h,hb];rfl
theorem wrS {i:Nat}(h:i≤4000000):ω .i64 (Int.add (i:Int) 1)=((i+1:Nat):Int):=(wr_add (b:=1) (by omega) (by omega)).trans (by omega)
theorem goNm {ρ:Type}{a b:Nat}(h:a*8≤b) (k j:Option ρ):(if Nat.mul a 8≤b then k else j)=k:=if_pos h
theorem take0 (k:List Nat) (n:Nat):List.drop 0 (List.take (τ (n:Int)) (rowsN k))=rowsN (k.take n):=by
 rw [List.drop_zero,Int.toNat_natCast]
 exact List.map_take.symm
theorem drop1 (k:List Nat) (n:Nat):List.drop (τ (n:Int)) (List.take k.length (rowsN k))=rowsN (k.drop n):=by
 rw [←rowsN_len k,List.take_length,Int.toNat_natCast]
 exact List.map_drop.symm
theorem twoRows (a b:List Nat):List.drop 0 (List.take (Nat.add 0 (Nat.add ([]++rowsN a).length (rowsN b).length)) (([]++rowsN a)++rowsN b))=rowsN (a++b):=by
 rw [List.drop_zero,List.nil_append,show Nat.add 0 (Nat.add (rowsN a).length (rowsN b).length)=(rowsN a++rowsN b).length by rw [List.length_append];exact Nat.zero_add _,List.take_length]
 exact List.map_append.symm
abbrev pA:List Bool:=[true,true,true,true,true,true,true,true,true,true,true,false,true,false]
abbrev pB:List Bool:=[true,true,true,true,true,true,true,true,true,true,true,true,true,true,false,true,false]
abbrev pC:List Bool:=[true,true,true,true,true,true,true,true,true,true,true,true,true,true,false,true,false,false,true,false,false,true,false,true,false]
abbrev H19 (s:List P2) (T:List (List AV)):Heap:=[⟨.box,36,2,0,[[vbool false,.list 0 2 (prs s)]]⟩,⟨.dead,26,1,1,[]⟩,⟨.arr,26,1,1,T⟩]
def allK (t:List P2) (r:Nat) (l:List Nat):Bool:=l.all fun x=>decide ((x,r)∈t)
theorem allK_iff {t:List P2}{r:Nat}{l:List Nat}:allK t r l=true↔∀x∈l,(x,r)∈t:=by
 unfold allK
 simp only [List.all_eq_true,decide_eq_true_eq]
theorem ckR_perm {t:List P2}{a b:List Nat}{r:Nat}{l:List P2}(h:a.Perm b):ckR t a r false l=ckR t b r false l:=by
 rw [Bool.eq_iff_iff,ckR_iff,ckR_iff,sgn_congr h,h.length_eq,h.nodup_iff]
 have:a≠[]↔b≠[]:=by rw [←List.length_pos_iff,←List.length_pos_iff,h.length_eq]
 rw [this]
theorem ckS {t:List P2}{ks:List Nat}{r:Nat}(ht:tabR t=true) (hn:ks.Nodup) (hl:ks.length≤2048):ckR t ks r false (sgn r ks)=(decide (ks≠[])&&allK t r ks):=by
 rw [Bool.eq_iff_iff,ckR_iff,Bool.and_eq_true,decide_eq_true_eq,allK_iff]
 constructor
 ·rintro⟨_,_,h1,_,_,_,h2⟩
  exact⟨h1,fun k hk=>h2 (k,r) (sgn_mem.2 ⟨hk,rfl⟩)⟩
 ·rintro⟨h1,h2⟩
  refine⟨ht,rfl,h1,hn,hl,rfl,fun p hp=> ?_⟩
  obtain⟨g1,g2⟩:=sgn_mem.1 hp
  have:=h2 p.1 g1
  rw [←g2] at this
  exact this
theorem ckO {t:List P2}{k o:List Nat}{r z:Nat}(ht:tabR t=true) (hk:k.Nodup) (ho:o.Nodup) (hl:o.length≤2048):ckR t o z false (sgn r k)=((decide (k≠[])&&allK t r k)&&((decide (o.length=k.length)&&o.all k.contains)&&decide (z=r))):=by
 rw [Bool.eq_iff_iff,ckR_iff]
 simp only [Bool.and_eq_true,decide_eq_true_eq,List.all_eq_true,List.contains_iff_mem,allK_iff]
 constructor
 ·rintro⟨_,_,h1,_,_,h5,h6⟩
  have hlen:o.length=k.length:=by rw [←sgn_len z o,←h5,sgn_len]
  obtain⟨x,hx⟩:=List.exists_mem_of_ne_nil o h1
  have hzr:z=r:=by
   have:(x,z)∈sgn r k:=by rw [h5];exact sgn_mem.2 ⟨hx,rfl⟩
   exact(sgn_mem.1 this).2
  refine⟨⟨fun e=> ?_,fun y hy=>h6 (y,r) (sgn_mem.2 ⟨hy,rfl⟩)⟩,⟨hlen,fun y hy=> ?_⟩,hzr⟩
  ·rw [e] at hlen
   exact h1 (List.eq_nil_of_length_eq_zero hlen)
  ·have:(y,z)∈sgn r k:=by rw [h5];exact sgn_mem.2 ⟨hy,rfl⟩
   exact(sgn_mem.1 this).1
 ·rintro⟨⟨h1,h2⟩,⟨h3,h4⟩,rfl⟩
  have hp:o.Perm k:=perm_of_sub ho h4 (by omega)
  refine⟨ht,by trivial,fun e=>h1 ?_,ho,hl,sgn_congr hp.symm,fun p hp=> ?_⟩
  ·rw [e] at h3
   exact List.eq_nil_of_length_eq_zero h3.symm
  ·obtain⟨g1,g2⟩:=sgn_mem.1 hp
   have:=h2 p.1 g1
   rw [←g2] at this
   exact this
theorem all_take (k:List Nat) (t:List P2) (r:Nat) {i:Nat}(hi:i<k.length):((decide (k≠[])&&allK t r (k.take i))&&decide ((k[i],r)∈t))=(decide (k≠[])&&allK t r (k.take (i+1))):=by
 unfold allK
 rw [List.take_add_one,η hi,Option.toList_some,List.all_append,Bool.and_assoc]
 simp
theorem loopA19 (k o:List Nat) (t:List P2) (r:Nat) (y e:Int) (c d:Bool) (n0:Nat) (s:List P2) (T:List (List AV)) (htr:tabR t=true) (ht:t.length≤4000000) (hl:k.length≤1000):∀(n i:Nat),i+n=k.length→E cx (Key.loop 19 pA) [vbool ((decide (k≠[])&&allK t r (k.take i))),vi i,vi y,vbool c,.list 0 2 (prs t),.list 0 1 (rowsN k),.list 0 1 (rowsN o),vu r,.ptr 0 0 0 0,vi e,.arr 2 1 0 n0,vbool d] (H19 s T)=some (Out.jump (.exit 0) [vbool ((decide (k≠[])&&allK t r k)),vi k.length],H19 s T):=by
 intro n
 induction n with
 |zero =>
  intro i hi
  have:i=k.length:=by omega
  subst this
  rw [List.take_length]
  refine(f19_l0 _ _ _ _ _ _ _ _ _ _ _ _ _ _).trans ?_
  rw [rowsN_len]
  exact goDn (by omega) _ _
 |succ n ih =>
  intro i hi
  have hlt:i<k.length:=by omega
  have ih':=ih (i+1) (by omega)
  rw [←all_take k t r hlt] at ih'
  have f0:∀q:Bool,q=false→((decide (k≠[])&&allK t r (k.take i))&&decide ((k[i],r)∈t))=q→q19_l0_0 i y c (prs t) (rowsN k) (rowsN o) r e n0 d false (prs s) T=some (Out.jump (.exit 0) [vbool ((decide (k≠[])&&allK t r k)),vi k.length],H19 s T):=by
   intro q hq1 hq
   rw [hq,hq1] at ih'
   unfold q19_l0_0
   rw [wrS (by omega)]
   exact ih'
  generalize hb:(decide (k≠[])&&allK t r (k.take i))=b at *
  have st:=f19_l0 b (i:Int) y c (prs t) (rowsN k) (rowsN o) r e n0 d false (prs s) T
  rw [rowsN_len] at st
  have st:=st.trans (goD (by omega) _ _)
  cases b with
  |false=>exact st.trans (Eq.trans (b:=q19_l0_0 i y c (prs t) (rowsN k) (rowsN o) r e n0 d false (prs s) T) rfl (f0 false rfl rfl))
  |true =>
   refine st.trans ((goD rfl _ _).trans ((goD rfl _ _).trans ((goD rfl _ _).trans ((goD rfl _ _).trans ((goY (by omega) _ _).trans ((goRn' (n:=i) rfl (η hlt) _).trans
    ((goD rfl _ _).trans ((goD rfl _ _).trans ((goD rfl _ _).trans ((goD rfl _ _).trans ?_))))))))))
   have h85:=c85 t (k[i],r) ht
   by_cases hm:(k[i],r)∈t
   ·refine(goT' h85 (by rw [htr,decide_eq_true hm];rfl) _ _).trans ?_
    show E cx (Key.loop 19 pA) [vbool true,vi (ω .i64 (Int.add (i:Int) 1)),vi y,vbool c,.list 0 2 (prs t),.list 0 1 (rowsN k),.list 0 1 (rowsN o),vu r,.ptr 0 0 0 0,vi e,.arr 2 1 0 n0,vbool d] (H19 s T)=_
    rw [wrS (by omega)]
    rw [decide_eq_true hm] at ih'
    exact ih'
   ·refine(goF' h85 (by rw [decide_eq_false hm];simp) _ _).trans ?_
    exact Eq.trans (b:=q19_l0_0 i y c (prs t) (rowsN k) (rowsN o) r e n0 d false (prs s) T) rfl (f0 false rfl (by rw [decide_eq_false hm];rfl))
theorem inC19 (k o:List Nat) (y:Int) (c d:Bool) (t:List P2) (r:Nat) (s:List P2) (T:List (List AV)) {i:Nat}(hi:i<o.length) (hl:k.length≤1000) (hl2:o.length≤1000):∀(n j:Nat) (b:Bool),j+n=k.length→E cx (Key.loop 19 pC) [vbool b,vi j,vi y,vbool c,.list 0 2 (prs t),.list 0 1 (rowsN k),.list 0 1 (rowsN o),vu r,.ptr 0 0 0 0,vbool d,vi i] (H19 s T)=some (Out.jump (.exit 4) [vbool (b||(k.drop j).contains o[i]),vi k.length],H19 s T):=by
 intro n
 induction n with
 |zero =>
  intro j b hj
  have:j=k.length:=by omega
  subst this
  rw [List.drop_length]
  refine(f19_l1_l2 _ _ _ _ _ _ _ _ _ _ _ _ _).trans ?_
  rw [rowsN_len]
  refine(goDn (by omega) _ _).trans ?_
  simp
 |succ n ih =>
  intro j b hj
  have hj2:j<k.length:=by omega
  rw [List.drop_eq_getElem_cons hj2,List.contains_cons]
  have st:=f19_l1_l2 b (j:Int) y c (prs t) (rowsN k) (rowsN o) r d (i:Int) false (prs s) T
  rw [rowsN_len] at st
  have st:=st.trans (goD (by omega) _ _)
  cases b with
  |true =>
   refine st.trans (Eq.trans (b:=q19_l1_l2_0 j y c (prs t) (rowsN k) (rowsN o) r d i false (prs s) T) rfl ?_)
   unfold q19_l1_l2_0
   rw [wrS (by omega)]
   exact ih (j+1) true (by omega)
  |false =>
   refine st.trans ((goD rfl _ _).trans ((goD rfl _ _).trans ((goD rfl _ _).trans ((goY (by omega) _ _).trans ((goRn' (n:=j) rfl (η hj2) _).trans
    ((goD rfl _ _).trans ((goD rfl _ _).trans ((goD rfl _ _).trans ((goD rfl _ _).trans ((goY (by omega) _ _).trans ((goRn' (n:=i) rfl (η hi) _).trans ((goD rfl _ _).trans ((goD rfl _ _).trans ?_)))))))))))))
   by_cases he:k[j]=o[i]
   ·refine(goD (by rw [he]) _ _).trans (Eq.trans (b:=q19_l1_l2_0 j y c (prs t) (rowsN k) (rowsN o) r d i false (prs s) T) rfl ?_)
    unfold q19_l1_l2_0
    rw [wrS (by omega),he]
    refine(ih (j+1) true (by omega)).trans ?_
    simp
   ·refine(goDn (by omega) _ _).trans ?_
    show E cx (Key.loop 19 pC) [vbool false,vi (ω .i64 (Int.add (j:Int) 1)),vi y,vbool c,.list 0 2 (prs t),.list 0 1 (rowsN k),.list 0 1 (rowsN o),vu r,.ptr 0 0 0 0,vbool d,vi i] (H19 s T)=_
    rw [wrS (by omega)]
    refine(ih (j+1) false (by omega)).trans ?_
    rw [show(o[i]==k[j])=false by simp;exact fun h=>he h.symm]
    rfl
theorem loopB19 (k o:List Nat) (y:Int) (c d:Bool) (t:List P2) (r:Nat) (s:List P2) (T:List (List AV)) (hl:k.length≤1000) (hl2:o.length≤1000):∀(n i:Nat) (b:Bool),i+n=o.length→∃w:Nat,E cx (Key.loop 19 pB) [vbool b,vi i,vi y,vbool c,.list 0 2 (prs t),.list 0 1 (rowsN k),.list 0 1 (rowsN o),vu r,.ptr 0 0 0 0,vbool d] (H19 s T)=some (Out.jump (.exit 2) [vbool (b&&(o.drop i).all k.contains),vi w],H19 s T):=by
 intro n
 induction n with
 |zero =>
  intro i b hi
  have:i=o.length:=by omega
  subst this
  refine⟨o.length,(f19_l1 _ _ _ _ _ _ _ _ _ _ _ _).trans ?_⟩
  rw [rowsN_len,List.drop_length]
  refine(goDn (by omega) _ _).trans ?_
  simp
 |succ n ih =>
  intro i b hi
  have hlt:i<o.length:=by omega
  have st:=f19_l1 b (i:Int) y c (prs t) (rowsN k) (rowsN o) r d false (prs s) T
  rw [rowsN_len] at st
  have st:=st.trans (goD (by omega) _ _)
  cases b with
  |false=>exact⟨i,st.trans rfl⟩
  |true =>
   obtain⟨w,hw⟩:=ih (i+1) (k.contains o[i]) (by omega)
   refine⟨w,st.trans ?_⟩
   have hin:=inC19 k o y c d t r s T hlt hl hl2 k.length 0 false (by omega)
   rw [List.drop_zero,Bool.false_or] at hin
   have hin':E cx (Key.loop 19 pC) [vbool false,vi 0,vi y,vbool c,.list 0 2 (prs t),.list 0 1 (rowsN k),.list 0 1 (rowsN o),vu r,.ptr 0 0 0 0,vbool d,vi i] (H19 s T)=_:=hin
   show(Ω (E cx (Key.loop 19 pC) [vbool false,vi 0,vi y,vbool c,.list 0 2 (prs t),.list 0 1 (rowsN k),.list 0 1 (rowsN o),vu r,.ptr 0 0 0 0,vbool d,vi i] (H19 s T)) _)=_
   rw [hin']
   show E cx (Key.loop 19 pB) [vbool (k.contains o[i]),vi (ω .i64 (Int.add (i:Int) 1)),vi y,vbool c,.list 0 2 (prs t),.list 0 1 (rowsN k),.list 0 1 (rowsN o),vu r,.ptr 0 0 0 0,vbool d] (H19 s T)=_
   rw [wrS (by omega),List.drop_eq_getElem_cons hlt,List.all_cons]
   exact hw
theorem q0_19 {k:List Nat}{r:Nat}{t:List P2}{n17:Int}(hw:ω .u64 n17=(r:Int)) (hl:k.length≤12) (kU:∀x∈k,U8 x) (ht:t.length≤4000000):q19_0 (rowsN k) (prs t) n17 false (prs (sgn r k))=rb true:=by
 unfold q19_0
 rw [ysOk_rowsN,hw]
 have h:=c89 t (k++k) r false (sgn r k) ht (by rw [List.length_append];omega) (by rw [sgn_len];omega) (fun x hx=>kU x (by simpa using hx)) (sgn_U8 kU)
 have h':E cx (Key.fn 89) [.list 0 2 (prs t),.agg [.list 0 1 (List.drop 0 (List.take (Nat.add 0 (Nat.add ([]++rowsN k).length (rowsN k).length)) (([]++rowsN k)++rowsN k))),vu r,vbool false,.list 0 2 (prs (sgn r k))]] []=rb (ckR t (k++k) r false (sgn r k)):=by
  rw [twoRows]
  exact h
 have hc:ckR t (k++k) r false (sgn r k)=false:=by
  rw [←Bool.not_eq_true,ckR_iff]
  rintro⟨_,_,h1,h2,_⟩
  have:k≠[]:=fun e=>h1 (by rw [e];rfl)
  obtain⟨x,hx⟩:=List.exists_mem_of_ne_nil k this
  exact(List.nodup_append.1 h2).2.2 x hx x hx rfl
 refine(goTb _ _).trans ((goNm (by rw [rowsN_len];show(0+k.length)*8≤_;omega) _ _).trans ((goTb _ _).trans ((goCk (by show 0+_=_;simp) _).trans
  ((goNm (by show(([]++rowsN k).length+(rowsN k).length)*8≤_;rw [List.nil_append,rowsN_len];omega) _ _).trans ((goLe (by show 0+(([]++rowsN k).length+(rowsN k).length)≤_;simp) _).trans (goF' h' hc _ _))))))
theorem q3_19 {k o:List Nat}{r:Nat}{t:List P2}{n17 another:Int}{T:List (List AV)}{w:Nat}{same:Bool}{p58:Ob×List Ob}(hp58:p58.1.es=T) (hw:ω .u64 n17=(r:Int)) (hl:k.length≤12) (hlo:o.length≤12) (kU:∀x∈k,U8 x) (oU:∀x∈o,U8 x) (ht:t.length≤4000000) (htr:tabR t=true) (hk:k.Nodup) (ho:o.Nodup) (ha:RI another) (hall:(decide (k≠[])&&allK t r k)=true) (hs:same=(decide (o.length=k.length)&&o.all k.contains)):q19_3 (.exit 2,[vbool same,vi w],H19 (sgn r k) T) false (prs (sgn r k)) p58 another (prs t) (rowsN o) n17 (rowsN k)=rb true:=by
 unfold q19_3
 rw [hp58]
 have hz:=wu_pick (c:=another) (n:=3) (by omega) (by omega)
 have h89:=c89 t o (pickI another 3).toNat false (sgn r k) ht (by omega) (by rw [sgn_len];omega) oU (sgn_U8 kU)
 rw [ckO htr hk ho (by omega),hall,Bool.true_and,←hs] at h89
 have hq:=q0_19 hw hl kU ht
 show(Ω (E cx (Key.fn 94) [vi another,vi 3] []) _)=_
 refine(goI (c94 ha (by omega)) _).trans ?_
 rw [hz,hw]
 generalize (pickI another 3).toNat=z at *
 cases same with
 |false =>
  refine(goF' h89 (by rfl) _ _).trans ?_
  exact Eq.trans (b:=q19_0 (rowsN k) (prs t) n17 false (prs (sgn r k))) rfl hq
 |true =>
  by_cases e:z=r
  ·refine(goT' h89 (by rw [decide_eq_true e];rfl) _ _).trans ((goD rfl _ _).trans ((goD rfl _ _).trans ((goD rfl _ _).trans ((goD (by omega) _ _).trans ?_))))
   exact hq
  ·refine(goF' h89 (by rw [decide_eq_false e];rfl) _ _).trans ((goD rfl _ _).trans ((goD rfl _ _).trans ((goD rfl _ _).trans ((goDn (by omega) _ _).trans ?_))))
   exact hq
theorem q5_19 {k o:List Nat}{r:Nat}{t:List P2}{n17 another:Int}{T:List (List AV)}{w:Nat}{same:Bool}{p58:Ob×List Ob}(hp58:p58.1.es=T) (hw:ω .u64 n17=(r:Int)) (hl:k.length≤12) (hlo:o.length≤12) (kU:∀x∈k,U8 x) (oU:∀x∈o,U8 x) (ht:t.length≤4000000) (htr:tabR t=true) (hk:k.Nodup) (ho:o.Nodup) (ha:RI another) (hall:(decide (k≠[])&&allK t r k)=false):q19_5 (.exit 2,[vbool same,vi w],H19 (sgn r k) T) false (prs (sgn r k)) p58 another (prs t) (rowsN o) (rowsN k) n17=rb true:=by
 unfold q19_5
 rw [hp58]
 have hz:=wu_pick (c:=another) (n:=3) (by omega) (by omega)
 have h89:=c89 t o (pickI another 3).toNat false (sgn r k) ht (by omega) (by rw [sgn_len];omega) oU (sgn_U8 kU)
 rw [ckO htr hk ho (by omega),hall,Bool.false_and] at h89
 have hq:=q0_19 hw hl kU ht
 show(Ω (E cx (Key.fn 94) [vi another,vi 3] []) _)=_
 refine(goI (c94 ha (by omega)) _).trans ?_
 rw [hz]
 exact(goF' h89 rfl _ _).trans hq
theorem goNd {ρ:Type}{p:Prop} [Decidable p] (h:p) (k j:Option ρ):(bif !decide p then k else j)=j:=by rw [decide_eq_true h];rfl
theorem turned19 {k:List Nat}{r:Nat}{t:List P2}{n:Nat}(hl:k.length≤12) (kU:∀x∈k,U8 x) (ht:t.length≤4000000) (htr:tabR t=true) (hk:k.Nodup):E cx (Key.fn 89) [.list 0 2 (prs t),.agg [.list 0 1 (List.drop 0 (List.take (Nat.add 0 (Nat.add ([]++rowsN (k.drop n)).length (rowsN (k.take n)).length)) (([]++rowsN (k.drop n))++rowsN (k.take n)))),vu r,vbool false,.list 0 2 (prs (sgn r k))]] []=rb (decide (k≠[])&&allK t r k):=by
 have hperm:(k.drop n++k.take n).Perm k:=List.perm_append_comm.trans (by rw [List.take_append_drop])
 have hturn:=c89 t (k.drop n++k.take n) r false (sgn r k) ht (by rw [hperm.length_eq];omega) (by rw [sgn_len];omega) (fun x hx=>kU x (hperm.mem_iff.1 hx)) (sgn_U8 kU)
 rw [ckR_perm hperm,ckS htr hk (by omega)] at hturn
 rw [twoRows]
 exact hturn
section
variable {k o:List Nat}{r:Nat}{t:List P2}{n17 another:Int}{n:Nat}(hw:ω .u64 n17=(r:Int)) (hl:k.length≤12) (hlo:o.length≤12) (kU:∀x∈k,U8 x) (oU:∀x∈o,U8 x) (ht:t.length≤4000000) (htr:tabR t=true)
 (hk:k.Nodup) (ho:o.Nodup) (ha:RI another)
include hw hl hlo kU oU ht htr hk ho ha
theorem q4_19 (hall:(decide (k≠[])&&allK t r k)=true):q19_4 (.exit 0,[vbool true,vi k.length],H19 (sgn r k) (([]++rowsN (k.drop n))++rowsN (k.take n))) false (prs (sgn r k)) n (rowsN k) 0 (prs t) n17 (rowsN o) another=rb true:=by
 unfold q19_4
 rw [rowsN_len k,take0,drop1,hw]
 have h89:=turned19 (n:=n) (r:=r) hl kU ht htr hk
 rw [hall] at h89
 show(bif (0:Int) !=0 then rb false else bif !decide (true=true) then rb false else Ω (chkLe (Nat.add 0 (Nat.add ([]++rowsN (k.drop n)).length (rowsN (k.take n)).length)) (([]++rowsN (k.drop n))++rowsN (k.take n)).length) fun _ =>
  Ω (E cx (Key.fn 89) [.list 0 2 (prs t),.agg [.list 0 1 (List.drop 0 (List.take (Nat.add 0 (Nat.add ([]++rowsN (k.drop n)).length (rowsN (k.take n)).length)) (([]++rowsN (k.drop n))++rowsN (k.take n)))),vu r,vbool false,.list 0 2 (prs (sgn r k))]] []) _)=_
 refine(goE rfl _ _).trans ((goNd rfl _ _).trans ((goLe (by show 0+(([]++rowsN (k.drop n)).length+(rowsN (k.take n)).length)≤_;simp) _).trans ((goT' h89 rfl _ _).trans ?_)))
 by_cases e:o.length=k.length
 ·obtain⟨w,hB⟩:=loopB19 k o another true true t r (sgn r k) (([]++rowsN (k.drop n))++rowsN (k.take n)) (by omega) (by omega) o.length 0 true (by omega)
  rw [List.drop_zero] at hB
  have hB':E cx (Key.loop 19 pB) [vbool true,vi 0,vi another,vbool true,.list 0 2 (prs t),.list 0 1 (rowsN k),.list 0 1 (rowsN o),vu r,.ptr 0 0 0 0,vbool true] (H19 (sgn r k) (([]++rowsN (k.drop n))++rowsN (k.take n)))=_:=hB
  refine(goD (by rw [rowsN_len,e]) _ _).trans ?_
  show(Ω (E cx (Key.loop 19 pB) [vbool true,vi 0,vi another,vbool true,.list 0 2 (prs t),.list 0 1 (rowsN k),.list 0 1 (rowsN o),vu r,.ptr 0 0 0 0,vbool true] (H19 (sgn r k) (([]++rowsN (k.drop n))++rowsN (k.take n)))) _)=_
  rw [hB']
  exact q3_19 (w:=w) (p58:=(⟨.arr,26,1,1,([]++rowsN (k.drop n))++rowsN (k.take n)⟩,[])) rfl hw hl hlo kU oU ht htr hk ho ha hall (by rw [decide_eq_true e])
 ·obtain⟨w,hB⟩:=loopB19 k o another true true t r (sgn r k) (([]++rowsN (k.drop n))++rowsN (k.take n)) (by omega) (by omega) o.length 0 false (by omega)
  have hB':E cx (Key.loop 19 pB) [vbool false,vi 0,vi another,vbool true,.list 0 2 (prs t),.list 0 1 (rowsN k),.list 0 1 (rowsN o),vu r,.ptr 0 0 0 0,vbool true] (H19 (sgn r k) (([]++rowsN (k.drop n))++rowsN (k.take n)))=_:=hB
  refine(goDn (by rw [rowsN_len];omega) _ _).trans ?_
  show(Ω (E cx (Key.loop 19 pB) [vbool false,vi 0,vi another,vbool true,.list 0 2 (prs t),.list 0 1 (rowsN k),.list 0 1 (rowsN o),vu r,.ptr 0 0 0 0,vbool true] (H19 (sgn r k) (([]++rowsN (k.drop n))++rowsN (k.take n)))) _)=_
  rw [hB',Bool.false_and]
  exact q3_19 (w:=w) (p58:=(⟨.arr,26,1,1,([]++rowsN (k.drop n))++rowsN (k.take n)⟩,[])) rfl hw hl hlo kU oU ht htr hk ho ha hall (by rw [decide_eq_false e];rfl)
theorem q6_19 (hall:(decide (k≠[])&&allK t r k)=false):q19_6 (.exit 0,[vbool false,vi k.length],H19 (sgn r k) (([]++rowsN (k.drop n))++rowsN (k.take n))) false (prs (sgn r k)) n (rowsN k) 0 (prs t) n17 (rowsN o) another=rb true:=by
 unfold q19_6
 rw [rowsN_len k,take0,drop1,hw]
 have h89:=turned19 (n:=n) (r:=r) hl kU ht htr hk
 rw [hall] at h89
 show(bif (0:Int) !=0 then rb false else bif !decide (false=false) then rb false else Ω (chkLe (Nat.add 0 (Nat.add ([]++rowsN (k.drop n)).length (rowsN (k.take n)).length)) (([]++rowsN (k.drop n))++rowsN (k.take n)).length) fun _ =>
  Ω (E cx (Key.fn 89) [.list 0 2 (prs t),.agg [.list 0 1 (List.drop 0 (List.take (Nat.add 0 (Nat.add ([]++rowsN (k.drop n)).length (rowsN (k.take n)).length)) (([]++rowsN (k.drop n))++rowsN (k.take n)))),vu r,vbool false,.list 0 2 (prs (sgn r k))]] []) _)=_
 refine(goE rfl _ _).trans ((goNd rfl _ _).trans ((goLe (by show 0+(([]++rowsN (k.drop n)).length+(rowsN (k.take n)).length)≤_;simp) _).trans ((goF' h89 rfl _ _).trans ?_)))
 by_cases e:o.length=k.length
 ·obtain⟨w,hB⟩:=loopB19 k o another true false t r (sgn r k) (([]++rowsN (k.drop n))++rowsN (k.take n)) (by omega) (by omega) o.length 0 true (by omega)
  have hB':E cx (Key.loop 19 pB) [vbool true,vi 0,vi another,vbool true,.list 0 2 (prs t),.list 0 1 (rowsN k),.list 0 1 (rowsN o),vu r,.ptr 0 0 0 0,vbool false] (H19 (sgn r k) (([]++rowsN (k.drop n))++rowsN (k.take n)))=_:=hB
  refine(goD (by rw [rowsN_len,e]) _ _).trans ?_
  show(Ω (E cx (Key.loop 19 pB) [vbool true,vi 0,vi another,vbool true,.list 0 2 (prs t),.list 0 1 (rowsN k),.list 0 1 (rowsN o),vu r,.ptr 0 0 0 0,vbool false] (H19 (sgn r k) (([]++rowsN (k.drop n))++rowsN (k.take n)))) _)=_
  rw [hB']
  exact q5_19 (w:=w) (same:=true&&(o.drop 0).all k.contains) (p58:=(⟨.arr,26,1,1,([]++rowsN (k.drop n))++rowsN (k.take n)⟩,[])) rfl hw hl hlo kU oU ht htr hk ho ha hall
 ·obtain⟨w,hB⟩:=loopB19 k o another true false t r (sgn r k) (([]++rowsN (k.drop n))++rowsN (k.take n)) (by omega) (by omega) o.length 0 false (by omega)
  have hB':E cx (Key.loop 19 pB) [vbool false,vi 0,vi another,vbool true,.list 0 2 (prs t),.list 0 1 (rowsN k),.list 0 1 (rowsN o),vu r,.ptr 0 0 0 0,vbool false] (H19 (sgn r k) (([]++rowsN (k.drop n))++rowsN (k.take n)))=_:=hB
  refine(goDn (by rw [rowsN_len];omega) _ _).trans ?_
  show(Ω (E cx (Key.loop 19 pB) [vbool false,vi 0,vi another,vbool true,.list 0 2 (prs t),.list 0 1 (rowsN k),.list 0 1 (rowsN o),vu r,.ptr 0 0 0 0,vbool false] (H19 (sgn r k) (([]++rowsN (k.drop n))++rowsN (k.take n)))) _)=_
  rw [hB']
  exact q5_19 (w:=w) (same:=false&&(o.drop 0).all k.contains) (p58:=(⟨.arr,26,1,1,([]++rowsN (k.drop n))++rowsN (k.take n)⟩,[])) rfl hw hl hlo kU oU ht htr hk ho ha hall
end
theorem law19 (raw few:List Int) (root turn:Int) (other:List Int) (another:Int) (h1:∀a∈raw,RI a) (h2:∀a∈few,RI a) (h3:RI root) (h4:RI turn) (h5:∀a∈other,RI a) (h6:RI another):E cx (Key.fn 19) [.list 0 1 (ints raw),.list 0 1 (ints few),vi root,vi turn,.list 0 1 (ints other),vi another] []=rb true:=by
 refine(f19 _ _ _ _ _ _).trans ((goL (c79 raw h1) _).trans ((goR1 (c80 few h2) _).trans ((goR1 (c80 other h5) _).trans ((goI (c94 h3 (by omega)) _).trans ?_))))
 generalize ht:tabP raw=t
 have tl:t.length≤60:=ht▸tabP_len raw
 have tr:tabR t=true:=ht▸tabP_right raw
 obtain⟨k1,k2,k3⟩:=keyP_spec few
 generalize hk:keyP few=k at *
 obtain⟨o1,o2,o3⟩:=keyP_spec other
 generalize ho:keyP other=o at *
 have kU:∀x∈k,U8 x:=fun x hx=>by have:=k2 x hx;show x<_;omega
 have oU:∀x∈o,U8 x:=fun x hx=>by have:=o2 x hx;show x<_;omega
 have hw:=wu_pick (c:=root) (n:=3) (by omega) (by omega)
 generalize (pickI root 3).toNat=r at hw
 generalize pickI root 3=n17 at hw
 rw [rowsN_len k,show ω ı (Int.add (k.length:Int) 1)=(k.length:Int)+1 from wr_add (by omega) (by omega)]
 have h93:RTok (E cx (Key.fn 93) [vu (ω .u64 n17),.list 0 1 (rowsN k)] []) false (sgn r k) 0:=by
  rw [hw]
  exact t93 r k (by omega)
 refine(goTok h93 _).trans ((goI (c94 h4 (by omega)) _).trans ?_)
 have hp:=pickI_lt (c:=turn) (n:=(k.length:Int)+1) (by omega)
 obtain⟨n,hn⟩:∃n:Nat,pickI turn ((k.length:Int)+1)=(n:Int):=⟨(pickI turn ((k.length:Int)+1)).toNat,by omega⟩
 rw [hn] at hp ⊢
 rw [take0,drop1]
 have hX:(k.drop n).length≤12:=by simp;omega
 have hY:(k.take n).length≤12:=by simp;omega
 have sl:(sgn r k).length≤4000000:=by rw [sgn_len];omega
 have his:=c89 t k r false (sgn r k) (by omega) (by omega) sl kU (sgn_U8 kU)
 rw [ckS tr k1 (by omega)] at his
 refine(goY (by omega) _ _).trans ((goY (by omega) _ _).trans ?_)
 rw [ysOk_rowsN,ysOk_rowsN]
 refine(goTb _ _).trans ((goNm (by rw [rowsN_len];show(0+(k.drop n).length)*8≤_;omega) _ _).trans ((goY (by omega) _ _).trans ((goY (by omega) _ _).trans ((goTb _ _).trans ((goCk (by show 0+_=_;simp) _).trans
  ((goNm (by show((([]++rowsN (k.drop n)).length)+(rowsN (k.take n)).length)*8≤_;rw [List.nil_append,rowsN_len,rowsN_len];omega) _ _).trans ?_))))))
 have his':E cx (Key.fn 89) [.list 0 2 (prs t),.agg [.list 0 1 (rowsN k),vu (ω .u64 n17),vbool false,.list 0 2 (prs (sgn r k))]] []=rb (decide (k≠[])&&allK t r k):=by
  rw [hw]
  exact his
 have hlA:=fun(d:Bool)=>loopA19 k o t r another 0 true d (Nat.add ([]++rowsN (k.drop n)).length (rowsN (k.take n)).length) (sgn r k) (([]++rowsN (k.drop n))++rowsN (k.take n)) tr (by omega) (by omega) k.length 0 (by omega)
 have e0:(decide (k≠[])&&allK t r (k.take 0))=decide (k≠[]):=by simp [allK]
 rw [e0] at hlA
 cases hall:(decide (k≠[])&&allK t r k) with
 |true =>
  have hne:k≠[]:=by
   rw [Bool.and_eq_true,decide_eq_true_eq] at hall
   exact hall.1
  have hpos:0<k.length:=List.length_pos_iff.2 hne
  have hA:=hlA true
  rw [hall,decide_eq_true hne] at hA
  have hA':E cx (Key.loop 19 pA) [vbool true,vi 0,vi another,vbool true,.list 0 2 (prs t),.list 0 1 (rowsN k),.list 0 1 (rowsN o),vu (ω .u64 n17),.ptr 0 0 0 0,vi 0,.arr 2 1 0 (Nat.add ([]++rowsN (k.drop n)).length (rowsN (k.take n)).length),vbool true] (H19 (sgn r k) (([]++rowsN (k.drop n))++rowsN (k.take n)))=some (Out.jump (.exit 0) [vbool true,vi k.length],H19 (sgn r k) (([]++rowsN (k.drop n))++rowsN (k.take n))):=by
   rw [hw]
   exact hA
  refine(goT' his' hall _ _).trans ((goD (by omega) _ _).trans ?_)
  show(Ω (E cx (Key.loop 19 pA) [vbool true,vi 0,vi another,vbool true,.list 0 2 (prs t),.list 0 1 (rowsN k),.list 0 1 (rowsN o),vu (ω .u64 n17),.ptr 0 0 0 0,vi 0,.arr 2 1 0 (Nat.add ([]++rowsN (k.drop n)).length (rowsN (k.take n)).length),vbool true] (H19 (sgn r k) (([]++rowsN (k.drop n))++rowsN (k.take n)))) _)=_
  rw [hA']
  exact q4_19 hw k3 o3 kU oU (by omega) tr k1 o1 h6 hall
 |false =>
  have hA:=hlA false
  rw [hall] at hA
  refine(goF' his' hall _ _).trans ?_
  by_cases hne:k=[]
  ·rw [decide_eq_false (by simp [hne])] at hA
   have hA':E cx (Key.loop 19 pA) [vbool false,vi 0,vi another,vbool true,.list 0 2 (prs t),.list 0 1 (rowsN k),.list 0 1 (rowsN o),vu (ω .u64 n17),.ptr 0 0 0 0,vi 0,.arr 2 1 0 (Nat.add ([]++rowsN (k.drop n)).length (rowsN (k.take n)).length),vbool false] (H19 (sgn r k) (([]++rowsN (k.drop n))++rowsN (k.take n)))=some (Out.jump (.exit 0) [vbool false,vi k.length],H19 (sgn r k) (([]++rowsN (k.drop n))++rowsN (k.take n))):=by
    rw [hw]
    exact hA
   have h0:k.length=0:=by rw [hne];rfl
   refine(goDn (by omega) _ _).trans ?_
   show(Ω (E cx (Key.loop 19 pA) [vbool false,vi 0,vi another,vbool true,.list 0 2 (prs t),.list 0 1 (rowsN k),.list 0 1 (rowsN o),vu (ω .u64 n17),.ptr 0 0 0 0,vi 0,.arr 2 1 0 (Nat.add ([]++rowsN (k.drop n)).length (rowsN (k.take n)).length),vbool false] (H19 (sgn r k) (([]++rowsN (k.drop n))++rowsN (k.take n)))) _)=_
   rw [hA']
   exact q6_19 hw k3 o3 kU oU (by omega) tr k1 o1 h6 hall
  ·have hpos:0<k.length:=List.length_pos_iff.2 hne
   rw [decide_eq_true hne] at hA
   have hA':E cx (Key.loop 19 pA) [vbool true,vi 0,vi another,vbool true,.list 0 2 (prs t),.list 0 1 (rowsN k),.list 0 1 (rowsN o),vu (ω .u64 n17),.ptr 0 0 0 0,vi 0,.arr 2 1 0 (Nat.add ([]++rowsN (k.drop n)).length (rowsN (k.take n)).length),vbool false] (H19 (sgn r k) (([]++rowsN (k.drop n))++rowsN (k.take n)))=some (Out.jump (.exit 0) [vbool false,vi k.length],H19 (sgn r k) (([]++rowsN (k.drop n))++rowsN (k.take n))):=by
    rw [hw]
    exact hA
   refine(goD (by omega) _ _).trans ?_
   show(Ω (E cx (Key.loop 19 pA) [vbool true,vi 0,vi another,vbool true,.list 0 2 (prs t),.list 0 1 (rowsN k),.list 0 1 (rowsN o),vu (ω .u64 n17),.ptr 0 0 0 0,vi 0,.arr 2 1 0 (Nat.add ([]++rowsN (k.drop n)).length (rowsN (k.take n)).length),vbool false] (H19 (sgn r k) (([]++rowsN (k.drop n))++rowsN (k.take n)))) _)=_
   rw [hA']
   exact q6_19 hw k3 o3 kU oU (by omega) tr k1 o1 h6 hall
end
end Go.Proofs.Av
