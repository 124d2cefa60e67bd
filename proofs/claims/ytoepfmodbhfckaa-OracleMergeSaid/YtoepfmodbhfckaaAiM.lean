/- Closed forms of tokens, as far as Oracle needs them. -/
import Derived.Test.YtoepfmodbhfckaaAiX
set_option maxRecDepth 100000
namespace Go.Proofs.Av
open Go
open Option renaming bind→Ω
open Go.IntKind renaming i64→ı
open Go.IntKind renaming u64→υ
open Go.IntKind renaming wrap→ω
open List renaming getElem?_eq_getElem→η
open List renaming length→ℓ
open Int renaming toNat→τ
section
theorem f37:∀(raw0:List (List AV)) (forged1:Bool),E cx (Key.fn 37) [AV.list 0 1 raw0,vbool forged1] []=Ω (E cx (Key.loop 37 [true,true,false,true,false]) [vi 0,AV.list 0 1 raw0,AV.ptr 0 0 0 0,AV.ptr 1 0 0 0] [Ob.mk OK.box 36 2 0 [[vbool false,AV.val (Value.slice none 0 0)]],Ob.mk OK.box 36 2 0 [[vbool forged1,AV.arr 2 2 0 0]],Ob.mk OK.arr 80 2 2 []]) fun r2↦Ω (asJump r2) fun j3↦bif JX.is j3.fst (JX.exit 0) then Ω (uncons? j3.snd.fst) fun p4↦Ω (AV.int? ı p4.fst) fun _↦Ω (nil? p4.snd) fun _↦Ω (uncons? j3.snd.snd) fun p7↦Ω (obIs (Ob.mk OK.box 36 2 0 [[vbool false,AV.val (Value.slice none 0 0)]]) p7.fst) fun _↦Ω (chk p7.fst.ver 0) fun _↦Ω (uncons? p7.fst.es) fun p10↦Ω (nil? p10.snd) fun _↦Ω (uncons? p10.fst) fun p12↦Ω (AV.bool? p12.fst) fun _↦Ω (uncons? p12.snd) fun p14↦Ω (AV.nilS? p14.fst) fun _↦Ω (nil? p14.snd) fun _↦Ω (uncons? p7.snd) fun p17↦Ω (obIs (Ob.mk OK.box 36 2 0 [[vbool forged1,AV.arr 2 2 0 0]]) p17.fst) fun _↦Ω (chk p17.fst.ver 0) fun _↦Ω (uncons? p17.fst.es) fun p20↦Ω (nil? p20.snd) fun _↦Ω (uncons? p20.fst) fun p22↦Ω (AV.bool? p22.fst) fun b23↦Ω (uncons? p22.snd) fun p24↦Ω (AV.arr? 2 p24.fst) fun x25↦Ω (chk x25.fst 2) fun _↦Ω (nil? p24.snd) fun _↦Ω (uncons? p17.snd) fun p28↦Ω (obIs (Ob.mk OK.arr 80 2 2 []) p28.fst) fun _↦Ω (chk p28.fst.ver 2) fun _↦Ω (nil? p28.snd) fun _↦Ω (chkLe (Nat.add x25.snd.fst x25.snd.snd) (ℓ p28.fst.es)) fun _↦some (Out.ret (AV.agg [vbool b23,AV.list 0 2 (List.drop x25.snd.fst (List.take (Nat.add x25.snd.fst x25.snd.snd) p28.fst.es))]),[]) else none:=by
 intros
 exact(E_in [188] _ _ _).trans (by kernel_rfl)
theorem f37_l0:∀(x33:Int) (l34:List (List AV)) (b35 b36:Bool) (n37:Nat) (l38:List (List AV)),E cx (Key.loop 37 [true,true,false,true,false]) [vi x33,AV.list 0 1 l34,AV.ptr 0 0 0 0,AV.ptr 1 0 0 0] [Ob.mk OK.box 36 2 0 [[vbool b35,AV.val (Value.slice none 0 0)]],Ob.mk OK.box 36 2 0 [[vbool b36,AV.arr 2 2 0 n37]],Ob.mk OK.arr 80 2 2 l38]=bif decide (x33<((ℓ l34):Int)) then bif decide (x33<30) then if 0≤x33 then Ω l34[τ x33]? fun cs39↦Ω (uncons? cs39) fun p40↦Ω (AV.int? ı p40.fst) fun n41↦Ω (nil? p40.snd) fun _↦Ω (E cx (Key.fn 48) [vi n41,vi 12] []) fun r43↦Ω (ret1 r43) fun v44↦Ω (AV.int? ı v44) fun n45↦if 0≤x33 then Ω l34[τ x33]? fun cs46↦Ω (uncons? cs46) fun p47↦Ω (AV.int? ı p47.fst) fun n48↦Ω (nil? p47.snd) fun _↦Ω (E cx (Key.fn 48) [vi (ω ı (Int.tdiv n48 16)),vi 3] []) fun r50↦Ω (ret1 r50) fun v51↦Ω (AV.int? ı v51) fun n52↦Ω (E cx (Key.loop 37 [true,true,false,true,false,false,true,false,false,true,true,false,false]) [vi (n37:Int),AV.list 0 1 l34,AV.ptr 0 0 0 0,AV.ptr 1 0 0 0,vi x33,AV.ptr 3 0 0 0] [Ob.mk OK.box 36 2 0 [[vbool b35,AV.val (Value.slice none 0 0)]],Ob.mk OK.box 36 2 0 [[vbool b36,AV.arr 2 2 0 n37]],Ob.mk OK.arr 80 2 2 l38,Ob.mk OK.box 80 2 0 [[vu (ω υ n45),vu (ω υ n52)]]]) fun r53↦Ω (asJump r53) fun j54↦bif JX.is j54.fst (JX.exit 2) then Ω (uncons? j54.snd.fst) fun p55↦Ω (AV.int? ı p55.fst) fun n56↦Ω (nil? p55.snd) fun _↦Ω (uncons? j54.snd.snd) fun p58↦Ω (obIs (Ob.mk OK.box 36 2 0 [[vbool b35,AV.val (Value.slice none 0 0)]]) p58.fst) fun _↦Ω (chk p58.fst.ver 0) fun _↦Ω (uncons? p58.fst.es) fun p61↦Ω (nil? p61.snd) fun _↦Ω (uncons? p61.fst) fun p63↦Ω (AV.bool? p63.fst) fun b64↦Ω (uncons? p63.snd) fun p65↦Ω (AV.nilS? p65.fst) fun _↦Ω (nil? p65.snd) fun _↦Ω (uncons? p58.snd) fun p68↦Ω (obIs (Ob.mk OK.box 36 2 0 [[vbool b36,AV.arr 2 2 0 n37]]) p68.fst) fun _↦Ω (chk p68.fst.ver 0) fun _↦Ω (uncons? p68.fst.es) fun p71↦Ω (nil? p71.snd) fun _↦Ω (uncons? p71.fst) fun p73↦Ω (AV.bool? p73.fst) fun b74↦Ω (uncons? p73.snd) fun p75↦Ω (AV.arr? 2 p75.fst) fun x76↦Ω (chk x76.fst 2) fun _↦Ω (nil? p75.snd) fun _↦Ω (uncons? p68.snd) fun p79↦Ω (obIs (Ob.mk OK.arr 80 2 2 l38) p79.fst) fun _↦Ω (chk p79.fst.ver 2) fun _↦Ω (uncons? p79.snd) fun p82↦Ω (obIs (Ob.mk OK.box 80 2 0 [[vu (ω υ n45),vu (ω υ n52)]]) p82.fst) fun _↦Ω (chk p82.fst.ver 0) fun _↦Ω (uncons? p82.fst.es) fun p85↦Ω (nil? p85.snd) fun _↦Ω (uncons? p85.fst) fun p87↦Ω (AV.int? υ p87.fst) fun n88↦Ω (uncons? p87.snd) fun p89↦Ω (AV.int? υ p89.fst) fun n90↦Ω (nil? p89.snd) fun _↦Ω (nil? p82.snd) fun _↦if 0≤n56 then if n56≤(x76.snd.snd:Int) then Ω (chkLe (Nat.add (Nat.add x76.snd.fst 0) (Nat.sub (τ n56) 0)) (ℓ (Ob.mk OK.arr 80 2 2 p79.fst.es).es)) fun _↦bif ysOk (List.drop (Nat.add x76.snd.fst 0) (List.take (Nat.add (Nat.add x76.snd.fst 0) (Nat.sub (τ n56) 0)) (Ob.mk OK.arr 80 2 2 p79.fst.es).es)) then if Nat.mul (Nat.add 0 (ℓ (List.drop (Nat.add x76.snd.fst 0) (List.take (Nat.add (Nat.add x76.snd.fst 0) (Nat.sub (τ n56) 0)) (Ob.mk OK.arr 80 2 2 p79.fst.es).es)))) 16≤140737488355328 then Ω (chk (Nat.add 0 (ℓ (List.drop (Nat.add x76.snd.fst 0) (List.take (Nat.add (Nat.add x76.snd.fst 0) (Nat.sub (τ n56) 0)) (Ob.mk OK.arr 80 2 2 p79.fst.es).es)))) (ℓ (Ob.mk OK.arr 80 2 2 ([]++List.drop (Nat.add x76.snd.fst 0) (List.take (Nat.add (Nat.add x76.snd.fst 0) (Nat.sub (τ n56) 0)) (Ob.mk OK.arr 80 2 2 p79.fst.es).es))).es)) fun _↦if Nat.mul (Nat.add (ℓ (Ob.mk OK.arr 80 2 2 ([]++List.drop (Nat.add x76.snd.fst 0) (List.take (Nat.add (Nat.add x76.snd.fst 0) (Nat.sub (τ n56) 0)) (Ob.mk OK.arr 80 2 2 p79.fst.es).es))).es) 1) 16≤140737488355328 then if 0≤n56 then if n56≤(x76.snd.snd:Int) then Ω (chkLe (Nat.add (Nat.add x76.snd.fst (τ n56)) (Nat.sub x76.snd.snd (τ n56))) (ℓ (Ob.mk OK.arr 80 2 2 p79.fst.es).es)) fun _↦bif ysOk (List.drop (Nat.add x76.snd.fst (τ n56)) (List.take (Nat.add (Nat.add x76.snd.fst (τ n56)) (Nat.sub x76.snd.snd (τ n56))) (Ob.mk OK.arr 80 2 2 p79.fst.es).es)) then Ω (chk (Nat.add (ℓ (Ob.mk OK.arr 80 2 2 ([]++List.drop (Nat.add x76.snd.fst 0) (List.take (Nat.add (Nat.add x76.snd.fst 0) (Nat.sub (τ n56) 0)) (Ob.mk OK.arr 80 2 2 p79.fst.es).es))).es) 1) (ℓ (Ob.mk OK.arr 80 2 2 ((Ob.mk OK.arr 80 2 2 ([]++List.drop (Nat.add x76.snd.fst 0) (List.take (Nat.add (Nat.add x76.snd.fst 0) (Nat.sub (τ n56) 0)) (Ob.mk OK.arr 80 2 2 p79.fst.es).es))).es++[[vu n88,vu n90]])).es)) fun _↦if Nat.mul (Nat.add (ℓ (Ob.mk OK.arr 80 2 2 ((Ob.mk OK.arr 80 2 2 ([]++List.drop (Nat.add x76.snd.fst 0) (List.take (Nat.add (Nat.add x76.snd.fst 0) (Nat.sub (τ n56) 0)) (Ob.mk OK.arr 80 2 2 p79.fst.es).es))).es++[[vu n88,vu n90]])).es) (ℓ (List.drop (Nat.add x76.snd.fst (τ n56)) (List.take (Nat.add (Nat.add x76.snd.fst (τ n56)) (Nat.sub x76.snd.snd (τ n56))) (Ob.mk OK.arr 80 2 2 p79.fst.es).es)))) 16≤140737488355328 then E cx (Key.loop 37 [true,true,false,true,false]) [vi (ω ı (Int.add x33 1)),AV.list 0 1 l34,AV.ptr 0 0 0 0,AV.ptr 1 0 0 0] [Ob.mk OK.box 36 2 0 [[vbool b64,AV.val (Value.slice none 0 0)]],Ob.mk OK.box 36 2 0 [[vbool b74,AV.arr 2 2 0 (Nat.add (ℓ (Ob.mk OK.arr 80 2 2 ((Ob.mk OK.arr 80 2 2 ([]++List.drop (Nat.add x76.snd.fst 0) (List.take (Nat.add (Nat.add x76.snd.fst 0) (Nat.sub (τ n56) 0)) (Ob.mk OK.arr 80 2 2 p79.fst.es).es))).es++[[vu n88,vu n90]])).es) (ℓ (List.drop (Nat.add x76.snd.fst (τ n56)) (List.take (Nat.add (Nat.add x76.snd.fst (τ n56)) (Nat.sub x76.snd.snd (τ n56))) (Ob.mk OK.arr 80 2 2 p79.fst.es).es))))]],Ob.mk OK.arr 80 2 2 ((Ob.mk OK.arr 80 2 2 ((Ob.mk OK.arr 80 2 2 ([]++List.drop (Nat.add x76.snd.fst 0) (List.take (Nat.add (Nat.add x76.snd.fst 0) (Nat.sub (τ n56) 0)) (Ob.mk OK.arr 80 2 2 p79.fst.es).es))).es++[[vu n88,vu n90]])).es++List.drop (Nat.add x76.snd.fst (τ n56)) (List.take (Nat.add (Nat.add x76.snd.fst (τ n56)) (Nat.sub x76.snd.snd (τ n56))) (Ob.mk OK.arr 80 2 2 p79.fst.es).es))] else none else none else none else none else none else none else none else none else none else none else none else none else some (Out.jump (JX.exit 0) [vi x33],[Ob.mk OK.box 36 2 0 [[vbool b35,AV.val (Value.slice none 0 0)]],Ob.mk OK.box 36 2 0 [[vbool b36,AV.arr 2 2 0 n37]],Ob.mk OK.arr 80 2 2 l38]) else some (Out.jump (JX.exit 0) [vi x33],[Ob.mk OK.box 36 2 0 [[vbool b35,AV.val (Value.slice none 0 0)]],Ob.mk OK.box 36 2 0 [[vbool b36,AV.arr 2 2 0 n37]],Ob.mk OK.arr 80 2 2 l38]):=by
 intros
 exact(E_in [188] _ _ _).trans (by kernel_rfl)
theorem f37_l0_l1:∀(x97:Int) (l98:List (List AV)) (x99:Int) (b100 b101:Bool) (n102:Nat) (l103:List (List AV)) (x104 x105:Int),E cx (Key.loop 37 [true,true,false,true,false,false,true,false,false,true,true,false,false]) [vi x97,AV.list 0 1 l98,AV.ptr 0 0 0 0,AV.ptr 1 0 0 0,vi x99,AV.ptr 3 0 0 0] [Ob.mk OK.box 36 2 0 [[vbool b100,AV.val (Value.slice none 0 0)]],Ob.mk OK.box 36 2 0 [[vbool b101,AV.arr 2 2 0 n102]],Ob.mk OK.arr 80 2 2 l103,Ob.mk OK.box 80 2 0 [[vu x104,vu x105]]]=bif decide (x97>0) then if 0≤ω ı (Int.sub x97 1) then if ω ı (Int.sub x97 1)<(n102:Int) then Ω (nth l103 (Nat.add 0 (τ (ω ı (Int.sub x97 1))))) fun cs106↦Ω (uncons? cs106) fun p107↦Ω (AV.int? υ p107.fst) fun n108↦Ω (uncons? p107.snd) fun p109↦Ω (AV.int? υ p109.fst) fun n110↦Ω (nil? p109.snd) fun _↦Ω (E cx (Key.fn 105) [AV.agg [vu x104,vu x105],AV.agg [vu n108,vu n110]] []) fun r112↦Ω (ret1 r112) fun v113↦Ω (AV.bool? v113) fun b114↦bif b114 then E cx (Key.loop 37 [true,true,false,true,false,false,true,false,false,true,true,false,false]) [vi (ω ı (Int.sub x97 1)),AV.list 0 1 l98,AV.ptr 0 0 0 0,AV.ptr 1 0 0 0,vi x99,AV.ptr 3 0 0 0] [Ob.mk OK.box 36 2 0 [[vbool b100,AV.val (Value.slice none 0 0)]],Ob.mk OK.box 36 2 0 [[vbool b101,AV.arr 2 2 0 n102]],Ob.mk OK.arr 80 2 2 l103,Ob.mk OK.box 80 2 0 [[vu x104,vu x105]]] else some (Out.jump (JX.exit 2) [vi x97],[Ob.mk OK.box 36 2 0 [[vbool b100,AV.val (Value.slice none 0 0)]],Ob.mk OK.box 36 2 0 [[vbool b101,AV.arr 2 2 0 n102]],Ob.mk OK.arr 80 2 2 l103,Ob.mk OK.box 80 2 0 [[vu x104,vu x105]]]) else none else none else some (Out.jump (JX.exit 2) [vi x97],[Ob.mk OK.box 36 2 0 [[vbool b100,AV.val (Value.slice none 0 0)]],Ob.mk OK.box 36 2 0 [[vbool b101,AV.arr 2 2 0 n102]],Ob.mk OK.arr 80 2 2 l103,Ob.mk OK.box 80 2 0 [[vu x104,vu x105]]]):=by
 intros
 exact(E_in [188] _ _ _).trans (by kernel_rfl)
theorem f40:∀(t252:Bool) (t253:List (List AV)),E cx (Key.fn 40) [AV.agg [vbool t252,AV.list 0 2 t253]] []=bif decide (((ℓ t253):Int)≤2048) then Ω (E cx (Key.fn 108) [AV.list 0 2 t253,AV.func (Fn.func 109) [] []] []) fun r254↦Ω (ret1 r254) fun v255↦Ω (AV.bool? v255) fun b256↦bif b256 then some (Out.ret (vbool true),[]) else some (Out.ret (vbool false),[]) else some (Out.ret (vbool false),[]):=by
 intros
 exact(E_in [188] _ _ _).trans (by kernel_rfl)
theorem f40_c0:∀(l257:List (List AV)),E cx (Key.fn 108) [AV.list 0 2 l257,AV.func (Fn.func 109) [] []] []=Ω (E cx (Key.loop 108 [true,false,true,false]) [vbool false,vi (ω ı (Int.sub (((ℓ l257):Int)) 1)),AV.list 0 2 l257,AV.func (Fn.func 109) [] []] []) fun r258↦Ω (asJump r258) fun j259↦bif JX.is j259.fst (JX.exit 0) then Ω (uncons? j259.snd.fst) fun p260↦Ω (AV.bool? p260.fst) fun _↦Ω (uncons? p260.snd) fun p262↦Ω (AV.int? ı p262.fst) fun _↦Ω (nil? p262.snd) fun _↦Ω (nil? j259.snd.snd) fun _↦some (Out.ret (vbool true),[]) else bif JX.is j259.fst JX.ret then Ω (uncons? j259.snd.fst) fun p266↦Ω (AV.bool? p266.fst) fun b267↦Ω (uncons? p266.snd) fun p268↦Ω (AV.int? ı p268.fst) fun _↦Ω (nil? p268.snd) fun _↦Ω (nil? j259.snd.snd) fun _↦some (Out.ret (vbool b267),[]) else none:=by
 intros
 exact(E_in [188] _ _ _).trans (by kernel_rfl)
theorem f40_c0_l1:∀(b272:Bool) (x273:Int) (l274:List (List AV)),E cx (Key.loop 108 [true,false,true,false]) [vbool b272,vi x273,AV.list 0 2 l274,AV.func (Fn.func 109) [] []] []=bif decide (x273>0) then if 0≤x273 then Ω l274[τ x273]? fun cs275↦Ω (uncons? cs275) fun p276↦Ω (AV.int? υ p276.fst) fun n277↦Ω (uncons? p276.snd) fun p278↦Ω (AV.int? υ p278.fst) fun n279↦Ω (nil? p278.snd) fun _↦if 0≤ω ı (Int.sub x273 1) then Ω l274[τ (ω ı (Int.sub x273 1))]? fun cs281↦Ω (uncons? cs281) fun p282↦Ω (AV.int? υ p282.fst) fun n283↦Ω (uncons? p282.snd) fun p284↦Ω (AV.int? υ p284.fst) fun n285↦Ω (nil? p284.snd) fun _↦Ω (E cx (Key.fn 109) [AV.agg [vu n277,vu n279],AV.agg [vu n283,vu n285]] []) fun r287↦Ω (ret1 r287) fun v288↦Ω (AV.int? ı v288) fun n289↦bif decide (n289<0) then some (Out.jump JX.ret [vbool false,vi x273],[]) else E cx (Key.loop 108 [true,false,true,false]) [vbool b272,vi (ω ı (Int.sub x273 1)),AV.list 0 2 l274,AV.func (Fn.func 109) [] []] [] else none else none else some (Out.jump (JX.exit 0) [vbool b272,vi x273],[]):=by
 intros
 exact(E_in [188] _ _ _).trans (by kernel_rfl)
theorem f42:∀(t295:Bool) (t296:List (List AV)) (root297:Int),E cx (Key.fn 42) [AV.agg [vbool t295,AV.list 0 2 t296],vu root297] []=Ω (E cx (Key.fn 40) [AV.agg [vbool t295,AV.list 0 2 t296]] []) fun r298↦Ω (ret1 r298) fun v299↦Ω (AV.bool? v299) fun b300↦bif b300 then Ω (E cx (Key.loop 42 [true,true,false,true,false]) [AV.arr 1 1 0 0,vbool false,vi 0,vu root297,AV.ptr 0 0 0 0,AV.list 0 2 t296,vi ((ℓ t296):Int)] [Ob.mk OK.box 36 2 0 [[vbool t295,AV.list 0 2 t296]],Ob.mk OK.arr 26 1 1 []]) fun r301↦Ω (asJump r301) fun j302↦bif JX.is j302.fst (JX.exit 0) then Ω (uncons? j302.snd.fst) fun p303↦Ω (AV.arr? 1 p303.fst) fun x304↦Ω (chk x304.fst 1) fun _↦Ω (uncons? p303.snd) fun p306↦Ω (AV.bool? p306.fst) fun _↦Ω (uncons? p306.snd) fun p308↦Ω (AV.int? ı p308.fst) fun _↦Ω (nil? p308.snd) fun _↦Ω (uncons? j302.snd.snd) fun p311↦Ω (obIs (Ob.mk OK.box 36 2 0 [[vbool t295,AV.list 0 2 t296]]) p311.fst) fun _↦Ω (chk p311.fst.ver 0) fun _↦Ω (uncons? p311.fst.es) fun p314↦Ω (nil? p314.snd) fun _↦Ω (uncons? p314.fst) fun p316↦Ω (AV.bool? p316.fst) fun _↦Ω (uncons? p316.snd) fun p318↦Ω (AV.list? 2 p318.fst) fun _↦Ω (nil? p318.snd) fun _↦Ω (uncons? p311.snd) fun p321↦Ω (obIs (Ob.mk OK.arr 26 1 1 []) p321.fst) fun _↦Ω (chk p321.fst.ver 1) fun _↦Ω (nil? p321.snd) fun _↦Ω (chkLe (Nat.add x304.snd.fst x304.snd.snd) (ℓ p321.fst.es)) fun _↦some (Out.ret (AV.tuple [AV.list 0 1 (List.drop x304.snd.fst (List.take (Nat.add x304.snd.fst x304.snd.snd) p321.fst.es)),vbool true]),[]) else bif JX.is j302.fst JX.ret then Ω (uncons? j302.snd.fst) fun p326↦Ω (AV.list? 1 p326.fst) fun es327↦Ω (uncons? p326.snd) fun p328↦Ω (AV.bool? p328.fst) fun b329↦Ω (uncons? p328.snd) fun p330↦Ω (AV.int? ı p330.fst) fun _↦Ω (nil? p330.snd) fun _↦Ω (uncons? j302.snd.snd) fun p333↦Ω (obIs (Ob.mk OK.box 36 2 0 [[vbool t295,AV.list 0 2 t296]]) p333.fst) fun _↦Ω (chk p333.fst.ver 0) fun _↦Ω (uncons? p333.fst.es) fun p336↦Ω (nil? p336.snd) fun _↦Ω (uncons? p336.fst) fun p338↦Ω (AV.bool? p338.fst) fun _↦Ω (uncons? p338.snd) fun p340↦Ω (AV.list? 2 p340.fst) fun _↦Ω (nil? p340.snd) fun _↦Ω (uncons? p333.snd) fun p343↦Ω (obIs (Ob.mk OK.arr 26 1 1 []) p343.fst) fun _↦Ω (chk p343.fst.ver 1) fun _↦Ω (nil? p343.snd) fun _↦some (Out.ret (AV.tuple [AV.list 0 1 es327,vbool b329]),[]) else none else some (Out.ret (AV.tuple [AV.val (Value.slice none 0 0),vbool false]),[]):=by
 intros
 exact(E_in [188] _ _ _).trans (by kernel_rfl)
theorem f42_l0:∀(n347:Nat) (b348:Bool) (x349 x350:Int) (l351:List (List AV)) (x352:Int) (b353:Bool) (l354 l355:List (List AV)),E cx (Key.loop 42 [true,true,false,true,false]) [AV.arr 1 1 0 n347,vbool b348,vi x349,vu x350,AV.ptr 0 0 0 0,AV.list 0 2 l351,vi x352] [Ob.mk OK.box 36 2 0 [[vbool b353,AV.list 0 2 l354]],Ob.mk OK.arr 26 1 1 l355]=bif decide (x349<x352) then if 0≤x349 then Ω l351[τ x349]? fun cs356↦Ω (uncons? cs356) fun p357↦Ω (AV.int? υ p357.fst) fun n358↦Ω (uncons? p357.snd) fun p359↦Ω (AV.int? υ p359.fst) fun n360↦Ω (nil? p359.snd) fun _↦bif n360 !=x350 then some (Out.jump JX.ret [AV.val (Value.slice none 0 0),vbool false,vi x349],[Ob.mk OK.box 36 2 0 [[vbool b353,AV.list 0 2 l354]],Ob.mk OK.arr 26 1 1 l355]) else bif decide (x349>0) then if 0≤ω ı (Int.sub x349 1) then Ω l354[τ (ω ı (Int.sub x349 1))]? fun cs362↦Ω (uncons? cs362) fun p363↦Ω (AV.int? υ p363.fst) fun n364↦Ω (uncons? p363.snd) fun p365↦Ω (AV.int? υ p365.fst) fun n366↦Ω (nil? p365.snd) fun _↦bif decide (n364=n358)&&(decide (n366=n360)&&true) then some (Out.jump JX.ret [AV.val (Value.slice none 0 0),vbool false,vi x349],[Ob.mk OK.box 36 2 0 [[vbool b353,AV.list 0 2 l354]],Ob.mk OK.arr 26 1 1 l355]) else Ω (chk n347 (ℓ (Ob.mk OK.arr 26 1 1 l355).es)) fun _↦if Nat.mul (Nat.add (ℓ (Ob.mk OK.arr 26 1 1 l355).es) 1) 8≤140737488355328 then E cx (Key.loop 42 [true,true,false,true,false]) [AV.arr 1 1 0 (Nat.add (ℓ (Ob.mk OK.arr 26 1 1 l355).es) 1),vbool b348,vi (ω ı (Int.add x349 1)),vu x350,AV.ptr 0 0 0 0,AV.list 0 2 l351,vi x352] [Ob.mk OK.box 36 2 0 [[vbool b353,AV.list 0 2 l354]],Ob.mk OK.arr 26 1 1 ((Ob.mk OK.arr 26 1 1 l355).es++[[vu n358]])] else none else none else Ω (chk n347 (ℓ (Ob.mk OK.arr 26 1 1 l355).es)) fun _↦if Nat.mul (Nat.add (ℓ (Ob.mk OK.arr 26 1 1 l355).es) 1) 8≤140737488355328 then E cx (Key.loop 42 [true,true,false,true,false]) [AV.arr 1 1 0 (Nat.add (ℓ (Ob.mk OK.arr 26 1 1 l355).es) 1),vbool b348,vi (ω ı (Int.add x349 1)),vu x350,AV.ptr 0 0 0 0,AV.list 0 2 l351,vi x352] [Ob.mk OK.box 36 2 0 [[vbool b353,AV.list 0 2 l354]],Ob.mk OK.arr 26 1 1 ((Ob.mk OK.arr 26 1 1 l355).es++[[vu n358]])] else none else none else some (Out.jump (JX.exit 0) [AV.arr 1 1 0 n347,vbool b348,vi x349],[Ob.mk OK.box 36 2 0 [[vbool b353,AV.list 0 2 l354]],Ob.mk OK.arr 26 1 1 l355]):=by
 intros
 exact(E_in [188] _ _ _).trans (by kernel_rfl)
theorem f47:∀(a828:Bool) (a829:List (List AV)) (b830:Bool) (b831:List (List AV)),E cx (Key.fn 47) [AV.agg [vbool a828,AV.list 0 2 a829],AV.agg [vbool b830,AV.list 0 2 b831]] []=bif !decide (a828=b830) then some (Out.ret (vbool false),[]) else bif ((ℓ a829):Int) !=((ℓ b831):Int) then some (Out.ret (vbool false),[]) else Ω (E cx (Key.loop 47 [true,true,false,true,false]) [vbool false,vi 0,AV.ptr 0 0 0 0,AV.ptr 1 0 0 0] [Ob.mk OK.box 36 2 0 [[vbool a828,AV.list 0 2 a829]],Ob.mk OK.box 36 2 0 [[vbool b830,AV.list 0 2 b831]]]) fun r832↦Ω (asJump r832) fun j833↦bif JX.is j833.fst (JX.exit 0) then Ω (uncons? j833.snd.fst) fun p834↦Ω (AV.bool? p834.fst) fun _↦Ω (uncons? p834.snd) fun p836↦Ω (AV.int? ı p836.fst) fun _↦Ω (nil? p836.snd) fun _↦Ω (uncons? j833.snd.snd) fun p839↦Ω (obIs (Ob.mk OK.box 36 2 0 [[vbool a828,AV.list 0 2 a829]]) p839.fst) fun _↦Ω (chk p839.fst.ver 0) fun _↦Ω (uncons? p839.fst.es) fun p842↦Ω (nil? p842.snd) fun _↦Ω (uncons? p842.fst) fun p844↦Ω (AV.bool? p844.fst) fun _↦Ω (uncons? p844.snd) fun p846↦Ω (AV.list? 2 p846.fst) fun _↦Ω (nil? p846.snd) fun _↦Ω (uncons? p839.snd) fun p849↦Ω (obIs (Ob.mk OK.box 36 2 0 [[vbool b830,AV.list 0 2 b831]]) p849.fst) fun _↦Ω (chk p849.fst.ver 0) fun _↦Ω (uncons? p849.fst.es) fun p852↦Ω (nil? p852.snd) fun _↦Ω (uncons? p852.fst) fun p854↦Ω (AV.bool? p854.fst) fun _↦Ω (uncons? p854.snd) fun p856↦Ω (AV.list? 2 p856.fst) fun _↦Ω (nil? p856.snd) fun _↦Ω (nil? p849.snd) fun _↦some (Out.ret (vbool true),[]) else bif JX.is j833.fst JX.ret then Ω (uncons? j833.snd.fst) fun p860↦Ω (AV.bool? p860.fst) fun b861↦Ω (uncons? p860.snd) fun p862↦Ω (AV.int? ı p862.fst) fun _↦Ω (nil? p862.snd) fun _↦Ω (uncons? j833.snd.snd) fun p865↦Ω (obIs (Ob.mk OK.box 36 2 0 [[vbool a828,AV.list 0 2 a829]]) p865.fst) fun _↦Ω (chk p865.fst.ver 0) fun _↦Ω (uncons? p865.fst.es) fun p868↦Ω (nil? p868.snd) fun _↦Ω (uncons? p868.fst) fun p870↦Ω (AV.bool? p870.fst) fun _↦Ω (uncons? p870.snd) fun p872↦Ω (AV.list? 2 p872.fst) fun _↦Ω (nil? p872.snd) fun _↦Ω (uncons? p865.snd) fun p875↦Ω (obIs (Ob.mk OK.box 36 2 0 [[vbool b830,AV.list 0 2 b831]]) p875.fst) fun _↦Ω (chk p875.fst.ver 0) fun _↦Ω (uncons? p875.fst.es) fun p878↦Ω (nil? p878.snd) fun _↦Ω (uncons? p878.fst) fun p880↦Ω (AV.bool? p880.fst) fun _↦Ω (uncons? p880.snd) fun p882↦Ω (AV.list? 2 p882.fst) fun _↦Ω (nil? p882.snd) fun _↦Ω (nil? p875.snd) fun _↦some (Out.ret (vbool b861),[]) else none:=by
 intros
 exact(E_in [188] _ _ _).trans (by kernel_rfl)
theorem f47_l0:∀(b886:Bool) (x887:Int) (b888:Bool) (l889:List (List AV)) (b890:Bool) (l891:List (List AV)),E cx (Key.loop 47 [true,true,false,true,false]) [vbool b886,vi x887,AV.ptr 0 0 0 0,AV.ptr 1 0 0 0] [Ob.mk OK.box 36 2 0 [[vbool b888,AV.list 0 2 l889]],Ob.mk OK.box 36 2 0 [[vbool b890,AV.list 0 2 l891]]]=bif decide (x887<((ℓ l889):Int)) then if 0≤x887 then Ω l889[τ x887]? fun cs892↦Ω (uncons? cs892) fun p893↦Ω (AV.int? υ p893.fst) fun n894↦Ω (uncons? p893.snd) fun p895↦Ω (AV.int? υ p895.fst) fun n896↦Ω (nil? p895.snd) fun _↦if 0≤x887 then Ω l891[τ x887]? fun cs898↦Ω (uncons? cs898) fun p899↦Ω (AV.int? υ p899.fst) fun n900↦Ω (uncons? p899.snd) fun p901↦Ω (AV.int? υ p901.fst) fun n902↦Ω (nil? p901.snd) fun _↦bif !(decide (n894=n900)&&(decide (n896=n902)&&true)) then some (Out.jump JX.ret [vbool false,vi x887],[Ob.mk OK.box 36 2 0 [[vbool b888,AV.list 0 2 l889]],Ob.mk OK.box 36 2 0 [[vbool b890,AV.list 0 2 l891]]]) else E cx (Key.loop 47 [true,true,false,true,false]) [vbool b886,vi (ω ı (Int.add x887 1)),AV.ptr 0 0 0 0,AV.ptr 1 0 0 0] [Ob.mk OK.box 36 2 0 [[vbool b888,AV.list 0 2 l889]],Ob.mk OK.box 36 2 0 [[vbool b890,AV.list 0 2 l891]]] else none else none else some (Out.jump (JX.exit 0) [vbool b886,vi x887],[Ob.mk OK.box 36 2 0 [[vbool b888,AV.list 0 2 l889]],Ob.mk OK.box 36 2 0 [[vbool b890,AV.list 0 2 l891]]]):=by
 intros
 exact(E_in [188] _ _ _).trans (by kernel_rfl)
theorem f48:∀(c904 n905:Int),E cx (Key.fn 48) [vi c904,vi n905] []=bif decide (c904<0) then if n905=0 then none else some (Out.ret (vi (Int.tmod (ω ı (Int.sub 0 (ω ı (Int.add c904 1)))) n905)),[]) else if n905=0 then none else some (Out.ret (vi (Int.tmod c904 n905)),[]):=by
 intros
 exact(E_in [188] _ _ _).trans (by kernel_rfl)
theorem f105:∀(a1192 a1193 b1194 b1195:Int),E cx (Key.fn 105) [AV.agg [vu a1192,vu a1193],AV.agg [vu b1194,vu b1195]] []=bif decide (a1192<b1194) then some (Out.ret (vbool true),[]) else bif decide (a1192=b1194) then bif decide (a1193<b1195) then some (Out.ret (vbool true),[]) else some (Out.ret (vbool false),[]) else some (Out.ret (vbool false),[]):=by
 intros
 exact(E_in [188] _ _ _).trans (by kernel_rfl)
theorem f109:∀(a1240 a1241 b1242 b1243:Int),E cx (Key.fn 109) [AV.agg [vu a1240,vu a1241],AV.agg [vu b1242,vu b1243]] []=bif decide (a1240=b1242)&&(decide (a1241=b1243)&&true) then some (Out.ret (vi 0),[]) else Ω (E cx (Key.fn 148) [vu a1240,vu b1242] []) fun r1244↦Ω (ret1 r1244) fun v1245↦Ω (AV.int? ı v1245) fun n1246↦Ω (E cx (Key.fn 148) [vu a1241,vu b1243] []) fun r1247↦Ω (ret1 r1247) fun v1248↦Ω (AV.int? ı v1248) fun n1249↦Ω (E cx (Key.fn 147) [AV.list 0 1 [[vi n1246],[vi n1249]]] []) fun r1250↦Ω (ret1 r1250) fun v1251↦Ω (AV.int? ı v1251) fun n1252↦some (Out.ret (vi n1252),[]):=by
 intros
 exact(E_in [188] _ _ _).trans (by kernel_rfl)
theorem f112:∀(t1286:Bool) (t1287:List (List AV)),E cx (Key.fn 112) [AV.agg [vbool t1286,AV.list 0 2 t1287]] []=Ω (E cx (Key.fn 40) [AV.agg [vbool t1286,AV.list 0 2 t1287]] []) fun r1288↦Ω (ret1 r1288) fun v1289↦Ω (AV.bool? v1289) fun b1290↦bif b1290 then some (Out.ret (vbool false),[]) else some (Out.ret (vbool true),[]):=by
 intros
 exact(E_in [188] _ _ _).trans (by kernel_rfl)
theorem f147:∀(vals1395:List (List AV)),E cx (Key.fn 147) [AV.list 0 1 vals1395] []=Ω (E cx (Key.loop 147 [true,true,false,true,false]) [vi 0,vi 0,vi 0,AV.list 0 1 vals1395,vi ((ℓ vals1395):Int)] []) fun r1396↦Ω (asJump r1396) fun j1397↦bif JX.is j1397.fst (JX.exit 0) then Ω (uncons? j1397.snd.fst) fun p1398↦Ω (AV.int? ı p1398.fst) fun _↦Ω (uncons? p1398.snd) fun p1400↦Ω (AV.int? ı p1400.fst) fun _↦Ω (nil? p1400.snd) fun _↦Ω (nil? j1397.snd.snd) fun _↦some (Out.ret (vi 0),[]) else bif JX.is j1397.fst JX.ret then Ω (uncons? j1397.snd.fst) fun p1404↦Ω (AV.int? ı p1404.fst) fun n1405↦Ω (uncons? p1404.snd) fun p1406↦Ω (AV.int? ı p1406.fst) fun _↦Ω (nil? p1406.snd) fun _↦Ω (nil? j1397.snd.snd) fun _↦some (Out.ret (vi n1405),[]) else none:=by
 intros
 exact(E_in [188] _ _ _).trans (by kernel_rfl)
theorem f147_l0:∀(x1410 x1411 x1412:Int) (l1413:List (List AV)) (x1414:Int),E cx (Key.loop 147 [true,true,false,true,false]) [vi x1410,vi x1411,vi x1412,AV.list 0 1 l1413,vi x1414] []=bif decide (x1411<x1414) then if 0≤x1411 then Ω l1413[τ x1411]? fun cs1415↦Ω (uncons? cs1415) fun p1416↦Ω (AV.int? ı p1416.fst) fun n1417↦Ω (nil? p1416.snd) fun _↦bif n1417 !=x1412 then some (Out.jump JX.ret [vi n1417,vi x1411],[]) else E cx (Key.loop 147 [true,true,false,true,false]) [vi x1410,vi (ω ı (Int.add x1411 1)),vi x1412,AV.list 0 1 l1413,vi x1414] [] else none else some (Out.jump (JX.exit 0) [vi x1410,vi x1411],[]):=by
 intros
 exact(E_in [188] _ _ _).trans (by kernel_rfl)
theorem f148:∀(x1419 y1420:Int),E cx (Key.fn 148) [vu x1419,vu y1420] []=Ω (E cx (Key.fn 165) [vu x1419] []) fun r1421↦Ω (ret1 r1421) fun v1422↦Ω (AV.bool? v1422) fun b1423↦bif b1423 then Ω (E cx (Key.fn 165) [vu y1420] []) fun r1424↦Ω (ret1 r1424) fun v1425↦Ω (AV.bool? v1425) fun b1426↦bif b1426 then some (Out.ret (vi 0),[]) else some (Out.ret (vi (-1)),[]) else Ω (E cx (Key.fn 165) [vu y1420] []) fun r1427↦Ω (ret1 r1427) fun v1428↦Ω (AV.bool? v1428) fun b1429↦bif b1429 then some (Out.ret (vi 1),[]) else bif decide (x1419<y1420) then some (Out.ret (vi (-1)),[]) else bif decide (x1419>y1420) then some (Out.ret (vi 1),[]) else some (Out.ret (vi 0),[]):=by
 intros
 exact(E_in [188] _ _ _).trans (by kernel_rfl)
theorem f165:∀(x1443:Int),E cx (Key.fn 165) [vu x1443] []=bif x1443 !=x1443 then some (Out.ret (vbool true),[]) else some (Out.ret (vbool false),[]):=by
 intros
 exact(E_in [188] _ _ _).trans (by kernel_rfl)
end
section
theorem f45:∀(l0:List (List AV)),E cx (Key.fn 45) [AV.list 0 2 l0] []=Ω (E cx (Key.fn 111) [AV.list 0 2 l0,AV.func (Fn.func 112) [] []] []) fun r1↦Ω (ret1 r1) fun v2↦Ω (AV.bool? v2) fun b3↦bif b3 then some (Out.ret (AV.tuple [AV.agg [vbool false,AV.val (Value.slice none 0 0)],vi 1]),[]) else Ω (E cx (Key.loop 45 [true,true,false,true,false]) [vi 0,vi 0,AV.ptr 0 0 0 0,AV.list 0 2 l0,vi ((ℓ l0):Int)] [Ob.mk OK.box 36 2 0 [[vbool false,AV.arr 1 2 0 0]],Ob.mk OK.arr 80 2 2 []]) fun r4↦Ω (asJump r4) fun j5↦bif JX.is j5.fst (JX.exit 0) then Ω (uncons? j5.snd.fst) fun p6↦Ω (AV.int? ı p6.fst) fun _↦Ω (uncons? p6.snd) fun p8↦Ω (AV.int? ı p8.fst) fun _↦Ω (nil? p8.snd) fun _↦Ω (uncons? j5.snd.snd) fun p11↦Ω (obIs (Ob.mk OK.box 36 2 0 [[vbool false,AV.arr 1 2 0 0]]) p11.fst) fun _↦Ω (chk p11.fst.ver 0) fun _↦Ω (uncons? p11.fst.es) fun p14↦Ω (nil? p14.snd) fun _↦Ω (uncons? p14.fst) fun p16↦Ω (AV.bool? p16.fst) fun b17↦Ω (uncons? p16.snd) fun p18↦Ω (AV.arr? 1 p18.fst) fun x19↦Ω (chk x19.fst 2) fun _↦Ω (nil? p18.snd) fun _↦Ω (uncons? p11.snd) fun p22↦Ω (obIs (Ob.mk OK.arr 80 2 2 []) p22.fst) fun _↦Ω (chk p22.fst.ver 2) fun _↦Ω (nil? p22.snd) fun _↦Ω (chkLe (Nat.add x19.snd.fst x19.snd.snd) (ℓ (Ob.mk OK.arr 80 2 2 p22.fst.es).es)) fun _↦if x19.snd.snd≤4611686018427387903 then Ω (sortPP [AV.func (Fn.func 109) [] []] (List.drop x19.snd.fst (List.take (Nat.add x19.snd.fst x19.snd.snd) (Ob.mk OK.arr 80 2 2 p22.fst.es).es))) fun zs27↦Ω (chkLe (Nat.add x19.snd.fst x19.snd.snd) (ℓ (List.take x19.snd.fst (Ob.mk OK.arr 80 2 2 p22.fst.es).es++zs27++List.drop (Nat.add x19.snd.fst x19.snd.snd) (Ob.mk OK.arr 80 2 2 p22.fst.es).es))) fun _↦some (Out.ret (AV.tuple [AV.agg [vbool b17,AV.list 0 2 (List.drop x19.snd.fst (List.take (Nat.add x19.snd.fst x19.snd.snd) (List.take x19.snd.fst (Ob.mk OK.arr 80 2 2 p22.fst.es).es++zs27++List.drop (Nat.add x19.snd.fst x19.snd.snd) (Ob.mk OK.arr 80 2 2 p22.fst.es).es)))],vi 0]),[]) else none else bif JX.is j5.fst JX.ret then Ω (uncons? j5.snd.fst) fun p29↦Ω (AV.int? ı p29.fst) fun n30↦Ω (uncons? p29.snd) fun p31↦Ω (AV.int? ı p31.fst) fun _↦Ω (nil? p31.snd) fun _↦Ω (uncons? j5.snd.snd) fun p34↦Ω (obIs (Ob.mk OK.box 36 2 0 [[vbool false,AV.val (Value.slice none 0 0)]]) p34.fst) fun _↦Ω (chk p34.fst.ver 0) fun _↦Ω (uncons? p34.fst.es) fun p37↦Ω (nil? p37.snd) fun _↦Ω (uncons? p37.fst) fun p39↦Ω (AV.bool? p39.fst) fun b40↦Ω (uncons? p39.snd) fun p41↦Ω (AV.nilS? p41.fst) fun _↦Ω (nil? p41.snd) fun _↦Ω (uncons? p34.snd) fun p44↦Ω (obIs (Ob.mk OK.dead 80 2 2 []) p44.fst) fun _↦Ω (chk p44.fst.ver 2) fun _↦Ω (nil? p44.snd) fun _↦some (Out.ret (AV.tuple [AV.agg [vbool b40,AV.val (Value.slice none 0 0)],vi n30]),[]) else none:=by
 intros
 exact(E_in [188,142] _ _ _).trans (by kernel_rfl)
theorem f45_c0:∀(l48:List (List AV)),E cx (Key.fn 111) [AV.list 0 2 l48,AV.func (Fn.func 112) [] []] []=Ω (E cx (Key.fn 149) [AV.list 0 2 l48,AV.func (Fn.func 112) [] []] []) fun r49↦Ω (ret1 r49) fun v50↦Ω (AV.int? ı v50) fun n51↦bif decide (n51≥0) then some (Out.ret (vbool true),[]) else some (Out.ret (vbool false),[]):=by
 intros
 exact(E_in [188,142] _ _ _).trans (by kernel_rfl)
theorem f45_c0_c1:∀(l52:List (List AV)),E cx (Key.fn 149) [AV.list 0 2 l52,AV.func (Fn.func 112) [] []] []=Ω (E cx (Key.loop 149 [true,false,true,false]) [vi 0,vi 0,AV.list 0 2 l52,AV.func (Fn.func 112) [] [],vi ((ℓ l52):Int)] []) fun r53↦Ω (asJump r53) fun j54↦bif JX.is j54.fst (JX.exit 0) then Ω (uncons? j54.snd.fst) fun p55↦Ω (AV.int? ı p55.fst) fun _↦Ω (uncons? p55.snd) fun p57↦Ω (AV.int? ı p57.fst) fun _↦Ω (nil? p57.snd) fun _↦Ω (nil? j54.snd.snd) fun _↦some (Out.ret (vi (-1)),[]) else bif JX.is j54.fst JX.ret then Ω (uncons? j54.snd.fst) fun p61↦Ω (AV.int? ı p61.fst) fun n62↦Ω (uncons? p61.snd) fun p63↦Ω (AV.int? ı p63.fst) fun _↦Ω (nil? p63.snd) fun _↦Ω (nil? j54.snd.snd) fun _↦some (Out.ret (vi n62),[]) else none:=by
 intros
 exact(E_in [188,142] _ _ _).trans (by kernel_rfl)
theorem f45_c0_c1_l2:∀(x67 x68:Int) (l69:List (List AV)) (x70:Int),E cx (Key.loop 149 [true,false,true,false]) [vi x67,vi x68,AV.list 0 2 l69,AV.func (Fn.func 112) [] [],vi x70] []=bif decide (x68<x70) then if 0≤x68 then Ω l69[τ x68]? fun cs71↦Ω (uncons? cs71) fun p72↦Ω (AV.bool? p72.fst) fun b73↦Ω (uncons? p72.snd) fun p74↦Ω (AV.list? 2 p74.fst) fun es75↦Ω (nil? p74.snd) fun _↦Ω (E cx (Key.fn 112) [AV.agg [vbool b73,AV.list 0 2 es75]] []) fun r77↦Ω (ret1 r77) fun v78↦Ω (AV.bool? v78) fun b79↦bif b79 then some (Out.jump JX.ret [vi x68,vi x68],[]) else E cx (Key.loop 149 [true,false,true,false]) [vi x67,vi (ω ı (Int.add x68 1)),AV.list 0 2 l69,AV.func (Fn.func 112) [] [],vi x70] [] else none else some (Out.jump (JX.exit 0) [vi x67,vi x68],[]):=by
 intros
 exact(E_in [188,142] _ _ _).trans (by kernel_rfl)
theorem f45_l3:∀(x80 x81:Int) (l82:List (List AV)) (x83:Int) (b84:Bool) (n85:Nat) (l86:List (List AV)),E cx (Key.loop 45 [true,true,false,true,false]) [vi x80,vi x81,AV.ptr 0 0 0 0,AV.list 0 2 l82,vi x83] [Ob.mk OK.box 36 2 0 [[vbool b84,AV.arr 1 2 0 n85]],Ob.mk OK.arr 80 2 2 l86]=bif decide (x81<x83) then if 0≤x81 then Ω l82[τ x81]? fun cs87↦Ω (uncons? cs87) fun p88↦Ω (AV.bool? p88.fst) fun b89↦Ω (uncons? p88.snd) fun p90↦Ω (AV.list? 2 p90.fst) fun es91↦Ω (nil? p90.snd) fun _↦bif decide (b84=false) then bif decide (b84=false) then bif b84 then bif ysOk es91 then Ω (chk n85 (ℓ (Ob.mk OK.arr 80 2 2 l86).es)) fun _↦if Nat.mul (Nat.add (ℓ (Ob.mk OK.arr 80 2 2 l86).es) (ℓ es91)) 16≤140737488355328 then bif decide (((Nat.add (ℓ (Ob.mk OK.arr 80 2 2 l86).es) (ℓ es91)):Int)>2048) then some (Out.jump JX.ret [vi 4,vi x81],[Ob.mk OK.box 36 2 0 [[vbool false,AV.val (Value.slice none 0 0)]],Ob.mk OK.dead 80 2 2 []]) else E cx (Key.loop 45 [true,true,false,true,false]) [vi x80,vi (ω ı (Int.add x81 1)),AV.ptr 0 0 0 0,AV.list 0 2 l82,vi x83] [Ob.mk OK.box 36 2 0 [[vbool true,AV.arr 1 2 0 (Nat.add (ℓ (Ob.mk OK.arr 80 2 2 l86).es) (ℓ es91))]],Ob.mk OK.arr 80 2 2 ((Ob.mk OK.arr 80 2 2 l86).es++es91)] else none else none else bif ysOk es91 then Ω (chk n85 (ℓ (Ob.mk OK.arr 80 2 2 l86).es)) fun _↦if Nat.mul (Nat.add (ℓ (Ob.mk OK.arr 80 2 2 l86).es) (ℓ es91)) 16≤140737488355328 then bif decide (((Nat.add (ℓ (Ob.mk OK.arr 80 2 2 l86).es) (ℓ es91)):Int)>2048) then some (Out.jump JX.ret [vi 4,vi x81],[Ob.mk OK.box 36 2 0 [[vbool false,AV.val (Value.slice none 0 0)]],Ob.mk OK.dead 80 2 2 []]) else E cx (Key.loop 45 [true,true,false,true,false]) [vi x80,vi (ω ı (Int.add x81 1)),AV.ptr 0 0 0 0,AV.list 0 2 l82,vi x83] [Ob.mk OK.box 36 2 0 [[vbool b89,AV.arr 1 2 0 (Nat.add (ℓ (Ob.mk OK.arr 80 2 2 l86).es) (ℓ es91))]],Ob.mk OK.arr 80 2 2 ((Ob.mk OK.arr 80 2 2 l86).es++es91)] else none else none else bif b84 then bif ysOk es91 then Ω (chk n85 (ℓ (Ob.mk OK.arr 80 2 2 l86).es)) fun _↦if Nat.mul (Nat.add (ℓ (Ob.mk OK.arr 80 2 2 l86).es) (ℓ es91)) 16≤140737488355328 then bif decide (((Nat.add (ℓ (Ob.mk OK.arr 80 2 2 l86).es) (ℓ es91)):Int)>2048) then some (Out.jump JX.ret [vi 4,vi x81],[Ob.mk OK.box 36 2 0 [[vbool false,AV.val (Value.slice none 0 0)]],Ob.mk OK.dead 80 2 2 []]) else E cx (Key.loop 45 [true,true,false,true,false]) [vi x80,vi (ω ı (Int.add x81 1)),AV.ptr 0 0 0 0,AV.list 0 2 l82,vi x83] [Ob.mk OK.box 36 2 0 [[vbool true,AV.arr 1 2 0 (Nat.add (ℓ (Ob.mk OK.arr 80 2 2 l86).es) (ℓ es91))]],Ob.mk OK.arr 80 2 2 ((Ob.mk OK.arr 80 2 2 l86).es++es91)] else none else none else none else bif decide (b84=false) then none else bif b84 then bif ysOk es91 then Ω (chk n85 (ℓ (Ob.mk OK.arr 80 2 2 l86).es)) fun _↦if Nat.mul (Nat.add (ℓ (Ob.mk OK.arr 80 2 2 l86).es) (ℓ es91)) 16≤140737488355328 then bif decide (((Nat.add (ℓ (Ob.mk OK.arr 80 2 2 l86).es) (ℓ es91)):Int)>2048) then some (Out.jump JX.ret [vi 4,vi x81],[Ob.mk OK.box 36 2 0 [[vbool false,AV.val (Value.slice none 0 0)]],Ob.mk OK.dead 80 2 2 []]) else E cx (Key.loop 45 [true,true,false,true,false]) [vi x80,vi (ω ı (Int.add x81 1)),AV.ptr 0 0 0 0,AV.list 0 2 l82,vi x83] [Ob.mk OK.box 36 2 0 [[vbool true,AV.arr 1 2 0 (Nat.add (ℓ (Ob.mk OK.arr 80 2 2 l86).es) (ℓ es91))]],Ob.mk OK.arr 80 2 2 ((Ob.mk OK.arr 80 2 2 l86).es++es91)] else none else none else none else none else some (Out.jump (JX.exit 0) [vi x80,vi x81],[Ob.mk OK.box 36 2 0 [[vbool b84,AV.arr 1 2 0 n85]],Ob.mk OK.arr 80 2 2 l86]):=by
 intros
 exact(E_in [188,142] _ _ _).trans (by kernel_rfl)
end
section
section
variable {ρ:Type}{x:Option (Out×Heap)}
theorem wr_id {n:Int}(h1 : -9223372036854775808≤n) (h2:n≤9223372036854775807):ω .i64 n=n:=by
 simp only [ω,IntKind.bits,IntKind.signed,Bool.true_and]
 split<;>simp_all<;>omega
theorem wr_add {a b:Int}(h1 : -9223372036854775808≤a+b) (h2:a+b≤9223372036854775807):ω .i64 (Int.add a b)=a+b:=wr_id (n:=a+b) h1 h2
theorem wr_sub {a b:Int}(h1 : -9223372036854775808≤a-b) (h2:a-b≤9223372036854775807):ω .i64 (Int.sub a b)=a-b:=wr_id (n:=a-b) h1 h2
theorem wr_mul {a b:Int}(h1 : -9223372036854775808≤a*b) (h2:a*b≤9223372036854775807):ω .i64 (Int.mul a b)=a*b:=wr_id (n:=a*b) h1 h2
theorem wu_id {n:Int}(h1:0≤n) (h2:n<18446744073709551616):ω .u64 n=n:=by
 simp only [ω,IntKind.bits,IntKind.signed,Bool.false_and]
 simp
 omega
abbrev rb (b:Bool):Option (Out×Heap):=some (Out.ret (vbool b),[])
abbrev RI (n:Int):Prop := -9223372036854775808≤n∧n≤9223372036854775807
theorem goB {b:Bool}(h:x=rb b) (k:Bool→Option ρ):(x.bind fun r=>(ret1 r).bind fun v=>v.bool?.bind fun b=>k b)=k b:=by rw [h];rfl
theorem goT (h:x=rb true) (k j:Option ρ):(x.bind fun r=>(ret1 r).bind fun v=>v.bool?.bind fun b=>bif b then k else j)=k:=by rw [h];rfl
theorem goF (h:x=rb false) (k j:Option ρ):(x.bind fun r=>(ret1 r).bind fun v=>v.bool?.bind fun b=>bif b then k else j)=j:=by rw [h];rfl
theorem goI {n:Int}(h:x=some (Out.ret (vi n),[])) (k:Int→Option ρ):(x.bind fun r=>(ret1 r).bind fun v=>(v.int? .i64).bind fun n=>k n)=k n:=by rw [h];rfl
theorem goU {n:Int}(h:x=some (Out.ret (vu n),[])) (k:Int→Option ρ):(x.bind fun r=>(ret1 r).bind fun v=>(v.int? .u64).bind fun n=>k n)=k n:=by rw [h];rfl
theorem goN {p:Prop} [Decidable p] (h:¬p) (k j:Option ρ):(if p then k else j)=j:=if_neg h
theorem goY {p:Prop} [Decidable p] (h:p) (k j:Option ρ):(if p then k else j)=k:=if_pos h
theorem goD {p:Prop} [Decidable p] (h:p) (k j:Option ρ):(bif decide p then k else j)=k:=by rw [decide_eq_true h];rfl
theorem goDn {p:Prop} [Decidable p] (h:¬p) (k j:Option ρ):(bif decide p then k else j)=j:=by rw [decide_eq_false h];rfl
theorem goE {a b:Int}(h:a=b) (k j:Option ρ):(bif a !=b then k else j)=j:=by rw [h,show(b !=b)=false by simp];rfl
theorem goEn {a b:Int}(h:a≠b) (k j:Option ρ):(bif a !=b then k else j)=k:=by rw [show(a !=b)=true by simp [h]];rfl
theorem goLe {a b:Nat}(h:a≤b) (k:Option ρ):((chkLe a b).bind fun _=>k)=k:=by rw [show chkLe a b=some () from if_pos h];rfl
theorem goCk {a b:Nat}(h:a=b) (k:Option ρ):((chk a b).bind fun _=>k)=k:=by rw [show chk a b=some () from if_pos h];rfl
abbrev B:=List UInt8
abbrev mk (l:B):ByteArray:=ByteArray.mk (Array.mk l)
abbrev ints (l:List Int):List (List AV):=l.map fun n=>[vi n]
theorem go1 {l:List Int}{i:Int}{n:Nat}{r:Int}(hn:i=n) (h:l[n]?=some r) (k:Int→Option ρ):((ints l)[τ i]?.bind fun cs=>(uncons? cs).bind fun p=>(AV.int? .i64 p.fst).bind fun s=>(nil? p.snd).bind fun _=>k s)=k r:=by
 subst hn
 have:(ints l)[τ (n:Int)]?=some [vi r]:=by simp [ints,h]
 rw [this]
 rfl
def val:B→Nat
 | []=>0
 |b::r=>b.toNat+256*val r
end
section
def pickI (c n:Int):Int:=if c<0 then(-(c+1)).tmod n else c.tmod n
theorem c48 {c n:Int}(hc:RI c) (hn:0<n):E cx (Key.fn 48) [vi c,vi n] []=some (Out.ret (vi (pickI c n)),[]):=by
 refine(f48 c n).trans ?_
 unfold pickI
 by_cases h:c<0
 ·refine(goD h _ _).trans ((goN (by omega) _ _).trans ?_)
  rw [wr_add (by omega) (by omega),show Int.sub 0 (c+1)=0-(c+1) from rfl,show(0:Int)-(c+1) = -(c+1) by omega,wr_id (by omega) (by omega),if_pos h]
 ·refine(goDn h _ _).trans ((goN (by omega) _ _).trans ?_)
  rw [if_neg h]
theorem pickI_lt {c n:Int}(hn:0<n):0≤pickI c n∧pickI c n<n:=by
 unfold pickI
 split
 ·rw [Int.tmod_eq_emod_of_nonneg (by omega)]
  exact⟨Int.emod_nonneg _ (by omega),Int.emod_lt_of_pos _ hn⟩
 ·rw [Int.tmod_eq_emod_of_nonneg (by omega)]
  exact⟨Int.emod_nonneg _ (by omega),Int.emod_lt_of_pos _ hn⟩
end
section
section
variable {ρ:Type}{x:Option (Out×Heap)}
abbrev P2:=Nat×Nat
abbrev prs (l:List P2):List (List AV):=l.map encP
theorem prs_len (l:List P2):(prs l).length=l.length:=by simp [prs]
theorem prs_get {l:List P2}{n:Nat}{p:P2}(h:l[n]?=some p):(prs l)[n]?=some (encP p):=by simp [prs,h]
theorem goPr {l:List P2}{i:Int}{n:Nat}{p:P2}(hn:i=n) (h:l[n]?=some p) (k:Int→Int→Option ρ):((prs l)[τ i]?.bind fun cs=>(uncons? cs).bind fun p1=>(AV.int? .u64 p1.fst).bind fun a=>(uncons? p1.snd).bind fun p2=>(AV.int? .u64 p2.fst).bind fun b=>(nil? p2.snd).bind fun _=>k a b)=k p.1 p.2:=by
 subst hn
 rw [Int.toNat_natCast,prs_get h]
 rfl
theorem goPn {l:List P2}{i:Int}{n:Nat}{p:P2}(hn:i=n) (h:l[n]?=some p) (k:Int→Int→Option ρ):((nth (prs l) (Nat.add 0 (τ i))).bind fun cs=>(uncons? cs).bind fun p1=>(AV.int? .u64 p1.fst).bind fun a=>(uncons? p1.snd).bind fun p2=>(AV.int? .u64 p2.fst).bind fun b=>(nil? p2.snd).bind fun _=>k a b)=k p.1 p.2:=by
 subst hn
 rw [Int.toNat_natCast,nth_eq,show Nat.add 0 n=n from Nat.zero_add n,prs_get h]
 rfl
theorem wS {i:Nat}(h:i<9223372036854775807):ω .i64 (Int.add (i:Int) 1)=((i+1:Nat):Int):=wr_add (b:=1) (by omega) (by omega)
theorem wP {i:Nat}(h:i<9223372036854775807):ω .i64 (Int.sub ((i+1:Nat):Int) 1)=(i:Int):=(wr_sub (b:=1) (by omega) (by omega)).trans (by omega)
end
theorem c165 (x:Int):E cx (Key.fn 165) [vu x] []=rb false:=(f165 x).trans (goE rfl _ _)
def cmpI (x y:Int):Int:=if x<y then -1 else if x>y then 1 else 0
theorem c148 (x y:Int):E cx (Key.fn 148) [vu x,vu y] []=some (Out.ret (vi (cmpI x y)),[]):=by
 refine(f148 x y).trans ((goF (c165 x) _ _).trans ((goF (c165 y) _ _).trans ?_))
 unfold cmpI
 by_cases h1:x<y
 ·rw [if_pos h1];exact goD h1 _ _
 ·rw [if_neg h1]
  refine(goDn h1 _ _).trans ?_
  by_cases h2:x>y
  ·rw [if_pos h2];exact goD h2 _ _
  ·rw [if_neg h2];exact goDn h2 _ _
theorem c147 (a b:Int):E cx (Key.fn 147) [.list 0 1 [[vi a],[vi b]]] []=some (Out.ret (vi (if a=0 then b else a)),[]):=by
 refine(f147 _).trans ?_
 have e2:E cx (Key.loop 147 [true,true,false,true,false]) [vi 0,vi (ω .i64 (Int.add (ω .i64 (Int.add 0 1)) 1)),vi 0,.list 0 1 [[vi a],[vi b]],vi 2] []=some (Out.jump (.exit 0) [vi 0,vi 2],[]) :=
  (f147_l0 _ _ _ _ _).trans (goDn (by decide) _ _)
 have e1:E cx (Key.loop 147 [true,true,false,true,false]) [vi 0,vi (ω .i64 (Int.add 0 1)),vi 0,.list 0 1 [[vi a],[vi b]],vi 2] []=if b=0 then some (Out.jump (.exit 0) [vi 0,vi 2],[]) else some (Out.jump .ret [vi b,vi 1],[]):=by
  refine(f147_l0 _ _ _ _ _).trans ((goD (by decide) _ _).trans ((goY (by decide) _ _).trans ?_))
  by_cases hb:b=0
  ·subst hb
   rw [if_pos rfl]
   exact e2
  ·rw [if_neg hb]
   exact goEn (a:=b) (b:=0) hb _ _
 have e0:E cx (Key.loop 147 [true,true,false,true,false]) [vi 0,vi 0,vi 0,.list 0 1 [[vi a],[vi b]],vi 2] []=if a=0 then(if b=0 then some (Out.jump (.exit 0) [vi 0,vi 2],[]) else some (Out.jump .ret [vi b,vi 1],[])) else some (Out.jump .ret [vi a,vi 0],[]):=by
  refine(f147_l0 _ _ _ _ _).trans ((goD (by decide) _ _).trans ((goY (by decide) _ _).trans ?_))
  by_cases ha:a=0
  ·subst ha
   rw [if_pos rfl]
   exact e1
  ·rw [if_neg ha]
   exact goEn (a:=a) (b:=0) ha _ _
 show(Ω (E cx (Key.loop 147 [true,true,false,true,false]) [vi 0,vi 0,vi 0,.list 0 1 [[vi a],[vi b]],vi 2] []) _)=_
 rw [e0]
 by_cases ha:a=0
 ·rw [if_pos ha,if_pos ha]
  by_cases hb:b=0
  ·rw [if_pos hb,hb];rfl
  ·rw [if_neg hb];rfl
 ·rw [if_neg ha,if_neg ha];rfl
def ordI (p q:P2):Int:=if p=q then 0 else if ltP p q then -1 else 1
theorem c109 (p q:P2):E cx (Key.fn 109) [.agg [vu p.1,vu p.2],.agg [vu q.1,vu q.2]] []=some (Out.ret (vi (ordI p q)),[]):=by
 refine(f109 _ _ _ _).trans ?_
 obtain⟨a,b⟩:=p
 obtain⟨c,d⟩:=q
 simp only
 by_cases h:a=c∧b=d
 ·obtain⟨rfl,rfl⟩:=h
  simp [ordI]
 ·have h1:(decide ((a:Int)=(c:Int))&&(decide ((b:Int)=(d:Int))&&true))=false:=by
   simp
   omega
  rw [h1]
  refine(goI (c148 _ _) _).trans ((goI (c148 _ _) _).trans ((goI (c147 _ _) _).trans ?_))
  have h2:(if cmpI (a:Int) (c:Int)=0 then cmpI (b:Int) (d:Int) else cmpI (a:Int) (c:Int))=ordI (a,b) (c,d):=by
   have e:∀x y:Nat,cmpI (x:Int) (y:Int)=if x<y then -1 else if y<x then 1 else 0:=fun x y=>by
    unfold cmpI
    simp only [Int.ofNat_lt,gt_iff_lt]
   rw [e,e]
   unfold ordI ltP
   rcases Nat.lt_trichotomy a c with h1 |h1 |h1<;>rcases Nat.lt_trichotomy b d with h3 |h3 |h3 <;>
    simp [h1,h3,Nat.lt_asymm,Nat.ne_of_lt,Nat.ne_of_gt]<;>omega
  rw [h2]
theorem c105 (p q:P2):E cx (Key.fn 105) [.agg [vu p.1,vu p.2],.agg [vu q.1,vu q.2]] []=rb (ltP p q):=by
 refine(f105 _ _ _ _).trans ?_
 obtain⟨a,b⟩:=p
 obtain⟨c,d⟩:=q
 simp only [ltP]
 by_cases h1:a<c
 ·refine(goD (by omega) _ _).trans ?_
  simp [h1]
 ·refine(goDn (by omega) _ _).trans ?_
  by_cases h2:a=c
  ·refine(goD (by omega) _ _).trans ?_
   by_cases h3:b<d
   ·refine(goD (by omega) _ _).trans ?_
    simp [h2,h3]
   ·refine(goDn (by omega) _ _).trans ?_
    simp [h2,h3]
  ·refine(goDn (by omega) _ _).trans ?_
   simp [h1,h2]
theorem ordI_neg (p q:P2):ordI p q<0↔ltP p q=true:=by
 unfold ordI
 by_cases h:p=q
 ·subst h
  simp [ltP]
 ·rw [if_neg h]
  cases ltP p q<;>simp
end
section
def okAt (l:List P2) (j:Nat):Prop:=∀p q,l[j]?=some p→l[j+1]?=some q→ltP q p=false
def srtI (l:List P2):Prop:=∀j,okAt l j
open Classical in
noncomputable def srtB (l:List P2):Bool:=decide (srtI l)
open Classical in
theorem srtB_t {l:List P2}(h:srtI l):srtB l=true:=by unfold srtB;exact decide_eq_true h
open Classical in
theorem srtB_f {l:List P2}(h:¬srtI l):srtB l=false:=by unfold srtB;exact decide_eq_false h
theorem okAt_ge {l:List P2}{j:Nat}(h:l.length≤j+1):okAt l j:=fun p q hp hq=>by
 rw [List.getElem?_eq_none h] at hq
 cases hq
theorem loop108 (l:List P2) (b:Bool) (hl:l.length≤4000000):∀i,i<l.length →
  ((∀j,j<i→okAt l j)∧E cx (Key.loop 108 [true,false,true,false]) [vbool b,vi i,.list 0 2 (prs l),.func (Fn.func 109) [] []] []=some (Out.jump (.exit 0) [vbool b,vi 0],[])) ∨
  ((∃j,j<i∧¬okAt l j)∧∃k:Nat,E cx (Key.loop 108 [true,false,true,false]) [vbool b,vi i,.list 0 2 (prs l),.func (Fn.func 109) [] []] []=some (Out.jump .ret [vbool false,vi k],[]))
 | 0,hi => .inl ⟨fun j hj=>by omega,(f40_c0_l1 _ _ _).trans (goDn (by omega) _ _)⟩
 |i+1,hi=>by
  have hp:l[i]?=some l[i]:=η (by omega)
  have hq:l[i+1]?=some l[i+1]:=η hi
  have go:∀ {R},(bif decide (ordI l[i+1] l[i]<0) then some (Out.jump JX.ret [vbool false,vi ((i+1:Nat):Int)],[]) else
    E cx (Key.loop 108 [true,false,true,false]) [vbool b,vi (ω .i64 (Int.sub ((i+1:Nat):Int) 1)),.list 0 2 (prs l),.func (Fn.func 109) [] []] [])=R →
    E cx (Key.loop 108 [true,false,true,false]) [vbool b,vi (i+1:Nat),.list 0 2 (prs l),.func (Fn.func 109) [] []] []=R:=fun {R} h=>by
   refine(f40_c0_l1 _ _ _).trans ((goD (by omega) _ _).trans ((goY (by omega) _ _).trans ((goPr (n:=i+1) rfl hq _).trans ?_)))
   rw [wP (by omega)]
   refine(goY (by omega) _ _).trans ((goPr (n:=i) rfl hp _).trans ((goI (c109 _ _) _).trans ?_))
   rw [wP (by omega)] at h
   exact h
  cases hb:ltP l[i+1] l[i] with
  |true =>
   exact .inr ⟨⟨i,by omega,fun h=>by rw [h _ _ hp hq] at hb;cases hb⟩,i+1,go (goD ((ordI_neg _ _).2 hb) _ _)⟩
  |false =>
   have hn:¬ordI l[i+1] l[i]<0:=fun h=>by rw [(ordI_neg _ _).1 h] at hb;cases hb
   have hok:okAt l i:=fun p q h1 h2=>by
    rw [hp] at h1;rw [hq] at h2
    cases h1;cases h2
    exact hb
   rcases loop108 l b hl i (by omega) with⟨g1,g2⟩ |⟨⟨j,g1,g2⟩,k,g3⟩
   ·refine .inl ⟨fun j hj=> ?_,go ((goDn hn _ _).trans ?_)⟩
    ·by_cases hji:j=i
     ·subst hji;exact hok
     ·exact g1 j (by omega)
    ·rw [wP (by omega)];exact g2
   ·refine .inr ⟨⟨j,by omega,g2⟩,k,go ((goDn hn _ _).trans ?_)⟩
    rw [wP (by omega)];exact g3
theorem c108 (l:List P2) (hl:l.length≤4000000):E cx (Key.fn 108) [.list 0 2 (prs l),.func (Fn.func 109) [] []] []=rb (srtB l):=by
 refine(f40_c0 _).trans ?_
 rw [prs_len]
 cases hll:l.length with
 |zero =>
  have e:E cx (Key.loop 108 [true,false,true,false]) [vbool false,vi (ω .i64 (Int.sub ((0:Nat):Int) 1)),.list 0 2 (prs l),.func (Fn.func 109) [] []] []=some (Out.jump (.exit 0) [vbool false,vi (-1)],[]) :=
   (f40_c0_l1 _ _ _).trans (goDn (by decide) _ _)
  rw [e,srtB_t fun j=>okAt_ge (by omega)]
  rfl
 |succ n =>
  rw [wP (by omega)]
  rcases loop108 l false hl n (by omega) with⟨g1,g2⟩ |⟨⟨j,g1,g2⟩,k,g3⟩
  ·rw [g2,srtB_t fun j=>by
    by_cases hj:j<n
    ·exact g1 j hj
    ·exact okAt_ge (by omega)]
   rfl
  ·rw [g3,srtB_f fun h=>g2 (h j)]
   rfl
noncomputable def rightT (l:List P2):Bool:=decide (l.length≤2048)&&srtB l
theorem c40 (f:Bool) (l:List P2) (hl:l.length≤4000000):E cx (Key.fn 40) [.agg [vbool f,.list 0 2 (prs l)]] []=rb (rightT l):=by
 refine(f40 _ _).trans ?_
 unfold rightT
 by_cases h:l.length≤2048
 ·refine(goD (by rw [prs_len];omega) _ _).trans ((goB (c108 l hl) _).trans ?_)
  rw [decide_eq_true h]
  cases srtB l<;>rfl
 ·refine(goDn (by rw [prs_len];omega) _ _).trans ?_
  rw [decide_eq_false h]
  rfl
theorem c112 (f:Bool) (l:List P2) (hl:l.length≤4000000):E cx (Key.fn 112) [.agg [vbool f,.list 0 2 (prs l)]] []=rb (!rightT l):=by
 refine(f112 _ _).trans ((goB (c40 f l hl) _).trans ?_)
 cases rightT l<;>rfl
end
section
abbrev T2:=Bool×List P2
abbrev trow (t:T2):List AV:=[vbool t.1,.list 0 2 (prs t.2)]
abbrev trs (L:List T2):List (List AV):=L.map trow
theorem trs_len (L:List T2):(trs L).length=L.length:=by simp [trs]
section
variable {ρ:Type}
theorem goTr {L:List T2}{i:Int}{n:Nat}{t:T2}(hn:i=n) (h:L[n]?=some t) (k:Bool→List (List AV)→Option ρ):((trs L)[τ i]?.bind fun cs=>(uncons? cs).bind fun p1=>(AV.bool? p1.fst).bind fun a=>(uncons? p1.snd).bind fun p2=>(AV.list? 2 p2.fst).bind fun b=>(nil? p2.snd).bind fun _=>k a b)=k t.1 (prs t.2):=by
 subst hn
 have:(trs L)[n]?=some (trow t):=by simp [trs,h]
 rw [Int.toNat_natCast,this]
 rfl
end
theorem loop149 (L:List T2) (x0:Int) (hL:L.length≤4000000) (hb:∀t∈L,t.2.length≤4000000):∀(d i:Nat),i+d=L.length →
  ((∀t,t∈L.drop i→rightT t.2=true)∧E cx (Key.loop 149 [true,false,true,false]) [vi x0,vi i,.list 0 2 (trs L),.func (Fn.func 112) [] [],vi L.length] []=some (Out.jump (.exit 0) [vi x0,vi L.length],[])) ∨
  ((∃t,t∈L.drop i∧rightT t.2=false)∧∃k:Nat,E cx (Key.loop 149 [true,false,true,false]) [vi x0,vi i,.list 0 2 (trs L),.func (Fn.func 112) [] [],vi L.length] []=some (Out.jump .ret [vi k,vi k],[]))
 | 0,i,hd=>by
  refine .inl ⟨fun t ht=>(by rw [List.drop_eq_nil_of_le (by omega)] at ht;cases ht),(f45_c0_c1_l2 _ _ _ _).trans ((goDn (by omega) _ _).trans (by rw [show i=L.length by omega]))⟩
 |d+1,i,hd=>by
  have hp:L[i]?=some L[i]:=η (by omega)
  have hdr:L.drop i=L[i]::L.drop (i+1):=List.drop_eq_getElem_cons (by omega)
  have hm:L[i].2.length≤4000000:=hb _ (List.getElem_mem _)
  have go:∀ {R},(bif !rightT L[i].2 then some (Out.jump JX.ret [vi (i:Int),vi (i:Int)],[]) else
    E cx (Key.loop 149 [true,false,true,false]) [vi x0,vi (i+1:Nat),.list 0 2 (trs L),.func (Fn.func 112) [] [],vi L.length] [])=R →
    E cx (Key.loop 149 [true,false,true,false]) [vi x0,vi i,.list 0 2 (trs L),.func (Fn.func 112) [] [],vi L.length] []=R:=fun {R} h=>by
   refine(f45_c0_c1_l2 _ _ _ _).trans ((goD (by omega) _ _).trans ((goY (by omega) _ _).trans ((goTr (n:=i) rfl hp _).trans ((goB (c112 _ _ hm) _).trans ?_))))
   rw [wS (by omega)]
   exact h
  cases hr:rightT L[i].2 with
  |false =>
   rw [hr] at go
   exact .inr ⟨⟨L[i],by rw [hdr];exact List.mem_cons_self ..,hr⟩,i,go rfl⟩
  |true =>
   rw [hr] at go
   rcases loop149 L x0 hL hb d (i+1) (by omega) with⟨g1,g2⟩ |⟨⟨t,g1,g2⟩,k,g3⟩
   ·refine .inl ⟨fun t ht=> ?_,go g2⟩
    rw [hdr] at ht
    rcases List.mem_cons.1 ht with rfl |ht
    ·exact hr
    ·exact g1 t ht
   ·exact .inr ⟨⟨t,by rw [hdr];exact List.mem_cons_of_mem _ g1,g2⟩,k,go g3⟩
noncomputable def allR (L:List T2):Bool:=L.all fun t=>rightT t.2
theorem c111 (L:List T2) (hL:L.length≤4000000) (hb:∀t∈L,t.2.length≤4000000):E cx (Key.fn 111) [.list 0 2 (trs L),.func (Fn.func 112) [] []] []=rb (!allR L):=by
 refine(f45_c0 _).trans ?_
 have key:∃n:Int,E cx (Key.fn 149) [.list 0 2 (trs L),.func (Fn.func 112) [] []] []=some (Out.ret (vi n),[])∧decide (n≥0)= !allR L:=by
  rcases loop149 L 0 hL hb L.length 0 (by omega) with⟨g1,g2⟩ |⟨⟨t,g1,g2⟩,k,g3⟩
  ·refine⟨-1,(f45_c0_c1 _).trans ?_,?_⟩
   ·rw [trs_len]
    show(Ω (E cx (Key.loop 149 [true,false,true,false]) [vi 0,vi ((0:Nat):Int),.list 0 2 (trs L),.func (Fn.func 112) [] [],vi L.length] []) _)=_
    rw [g2]
    rfl
   ·have:allR L=true:=List.all_eq_true.2 fun t ht=>g1 t ht
    rw [this]
    rfl
  ·refine⟨k,(f45_c0_c1 _).trans ?_,?_⟩
   ·rw [trs_len]
    show(Ω (E cx (Key.loop 149 [true,false,true,false]) [vi 0,vi ((0:Nat):Int),.list 0 2 (trs L),.func (Fn.func 112) [] [],vi L.length] []) _)=_
    rw [g3]
    rfl
   ·have:allR L=false:=by
     cases h:allR L with
     |false=>rfl
     |true=>rw [List.all_eq_true.1 h t g1] at g2;cases g2
    rw [this]
    exact decide_eq_true (by omega)
 obtain⟨n,g1,g2⟩:=key
 refine(goI g1 _).trans ?_
 rw [g2]
 cases allR L<;>rfl
def RTok (x:Option (Out×Heap)) (f:Bool) (l:List P2) (e:Int):Prop:=∃a,x=some (Out.ret (.tuple [.agg [vbool f,a],vi e]),[])∧a.list? 2=some (prs l)
theorem ysOk_prs (l:List P2):ysOk (prs l)=true:=by
 unfold ysOk
 rw [List.all_eq_true]
 intro e he
 obtain⟨p,_,rfl⟩:=List.mem_map.1 he
 rfl
abbrev cat (L:List T2):List P2:=L.flatMap (·.2)
def anyF' (L:List T2):Bool:=L.any (·.1)
theorem loop45 (L:List T2) (x0:Int) (hL:L.length≤4000000) (hb:∀t∈L,t.2.length≤4000000):∀(rest:List T2) (i:Nat) (f:Bool) (o:List P2),L.drop i=rest→i+rest.length=L.length→o.length≤2048 →
  (o.length+(cat rest).length≤2048∧E cx (Key.loop 45 [true,true,false,true,false]) [vi x0,vi i,.ptr 0 0 0 0,.list 0 2 (trs L),vi L.length] [⟨.box,36,2,0,[[vbool f,.arr 1 2 0 o.length]]⟩,⟨.arr,80,2,2,prs o⟩] =
   some (Out.jump (.exit 0) [vi x0,vi L.length],[⟨.box,36,2,0,[[vbool (f||anyF' rest),.arr 1 2 0 (o++cat rest).length]]⟩,⟨.arr,80,2,2,prs (o++cat rest)⟩])) ∨
  (¬o.length+(cat rest).length≤2048∧∃k:Nat,E cx (Key.loop 45 [true,true,false,true,false]) [vi x0,vi i,.ptr 0 0 0 0,.list 0 2 (trs L),vi L.length] [⟨.box,36,2,0,[[vbool f,.arr 1 2 0 o.length]]⟩,⟨.arr,80,2,2,prs o⟩] =
   some (Out.jump .ret [vi 4,vi k],[⟨.box,36,2,0,[[vbool false,.val (.slice none 0 0)]]⟩,⟨.dead,80,2,2,[]⟩]))
 | [],i,f,o,hd,hi,ho=>by
  refine .inl ⟨by simp [cat];omega,(f45_l3 _ _ _ _ _ _ _).trans ((goDn (by simp at hi;omega) _ _).trans ?_)⟩
  simp only [List.length_nil,Nat.add_zero] at hi
  simp [cat,anyF',hi]
 |t::rest,i,f,o,hd,hi,ho=>by
  obtain⟨hp,hd',hlt⟩:L[i]?=some t∧L.drop (i+1)=rest∧i<L.length:=by
   refine⟨?_,?_,?_⟩
   ·have:=congrArg (fun l=>l[0]?) hd;simpa using this
   ·rw [←List.drop_drop,hd];rfl
   ·simp at hi;omega
  simp only [List.length_cons] at hi
  have htl:=hb t (List.mem_of_getElem? hp)
  have hol:(o++t.2).length=o.length+t.2.length:=List.length_append
  have happ:prs o++prs t.2=prs (o++t.2):=by simp [prs]
  have go:∀ {R},(bif decide (((o.length+t.2.length:Nat):Int)>2048) then some (Out.jump .ret [vi 4,vi i],[⟨.box,36,2,0,[[vbool false,.val (.slice none 0 0)]]⟩,⟨.dead,80,2,2,[]⟩]) else
    E cx (Key.loop 45 [true,true,false,true,false]) [vi x0,vi (i+1:Nat),.ptr 0 0 0 0,.list 0 2 (trs L),vi L.length] [⟨.box,36,2,0,[[vbool (f||t.1),.arr 1 2 0 (o++t.2).length]]⟩,⟨.arr,80,2,2,prs (o++t.2)⟩])=R →
    E cx (Key.loop 45 [true,true,false,true,false]) [vi x0,vi i,.ptr 0 0 0 0,.list 0 2 (trs L),vi L.length] [⟨.box,36,2,0,[[vbool f,.arr 1 2 0 o.length]]⟩,⟨.arr,80,2,2,prs o⟩]=R:=fun {R} h=>by
   refine(f45_l3 _ _ _ _ _ _ _).trans ((goD (by omega) _ _).trans ((goY (by omega) _ _).trans ((goTr (n:=i) rfl hp _).trans ?_)))
   rw [ysOk_prs,wS (by omega)]
   have hl1:(prs o).length=o.length:=prs_len o
   have hl2:(prs t.2).length=t.2.length:=prs_len t.2
   have ha:Nat.add (ℓ (prs o)) (ℓ (prs t.2))=o.length+t.2.length:=by rw [hl1,hl2];rfl
   rw [show(Ob.mk OK.arr 80 2 2 (prs o)).es=prs o from rfl,ha,happ]
   rw [hol] at h
   have hbig:Nat.mul (o.length+t.2.length) 16≤140737488355328:=by show(o.length+t.2.length)*16≤_;omega
   cases f with
   |true=>exact(goCk hl1.symm _).trans ((goY hbig _ _).trans h)
   |false=>cases hf:t.1 with
    |true=>rw [hf] at h;exact(goCk hl1.symm _).trans ((goY hbig _ _).trans h)
    |false=>rw [hf] at h;exact(goCk hl1.symm _).trans ((goY hbig _ _).trans h)
  have hcat:(cat (t::rest)).length=t.2.length+(cat rest).length:=by simp [cat]
  by_cases hbig:o.length+t.2.length≤2048
  ·rcases loop45 L x0 hL hb rest (i+1) (f||t.1) (o++t.2) hd' (by omega) (by omega) with⟨g1,g2⟩ |⟨g1,k,g2⟩
   ·refine .inl ⟨by omega,go ((goDn (by omega) _ _).trans (g2.trans ?_))⟩
    simp [cat,anyF',Bool.or_assoc]
   ·exact .inr ⟨by omega,k,go ((goDn (by omega) _ _).trans g2)⟩
  ·exact .inr ⟨by omega,i,go (goD (by omega) _ _)⟩
def sorted (l:List P2):List P2:=l.mergeSort leP
theorem decP_enc (p:P2):decP (encP p)=some p:=rfl
theorem sortP_prs (l:List P2):sortP [.func (Fn.func 109) [] []] (prs l)=some (prs (sorted l)):=by
 unfold sortP sortZ
 show cond true (sortBy decP encP leP (prs l)) none=_
 unfold sortBy
 have:(prs l).mapM decP=some l:=by
  induction l with
  |nil=>rfl
  |cons p l ih =>
   show((p::l).map encP).mapM decP=_
   rw [List.map_cons,List.mapM_cons,decP_enc]
   have ih':(l.map encP).mapM decP=some l:=ih
   rw [ih']
   rfl
 simp only [cond_true,this]
 rfl
theorem sortPP_prs (l:List P2):sortPP [.func (Fn.func 109) [] []] (prs l)=some (prs (sorted l)):=by
 unfold sortPP
 rw [sortP_prs]
noncomputable def mergeR (L:List T2):Bool×List P2×Int:=if allR L then(if(cat L).length≤2048 then(anyF' L,sorted (cat L),0) else(false,[],4)) else(false,[],1)
abbrev RTok' (x:Option (Out×Heap)) (r:Bool×List P2×Int):Prop:=RTok x r.1 r.2.1 r.2.2
theorem c45 (L:List T2) (hL:L.length≤4000000) (hb:∀t∈L,t.2.length≤4000000):RTok' (E cx (Key.fn 45) [.list 0 2 (trs L)] []) (mergeR L):=by
 unfold mergeR
 cases hr:allR L with
 |false =>
  refine⟨.val (.slice none 0 0),(f45 _).trans ((goB (c111 L hL hb) _).trans ?_),rfl⟩
  rw [hr]
  rfl
 |true =>
  rw [if_pos rfl]
  have h0:∀ {R},_=R→E cx (Key.fn 45) [.list 0 2 (trs L)] []=R:=fun {R} h=>(f45 _).trans ((goB (c111 L hL hb) _).trans h)
  rw [hr] at h0
  rcases loop45 L 0 hL hb L 0 false [] rfl (by omega) (by simp) with⟨g1,g2⟩ |⟨g1,k,g2⟩
  ·have hc:(cat L).length≤2048:=by simpa using g1
   rw [if_pos hc]
   refine⟨.list 0 2 (prs (sorted (cat L))),h0 ?_,rfl⟩
   rw [trs_len]
   show(Ω (E cx (Key.loop 45 [true,true,false,true,false]) [vi 0,vi ((0:Nat):Int),.ptr 0 0 0 0,.list 0 2 (trs L),vi L.length] [⟨.box,36,2,0,[[vbool false,.arr 1 2 0 ([]:List P2).length]]⟩,⟨.arr,80,2,2,prs []⟩]) _)=_
   rw [g2]
   simp only [List.nil_append,Bool.false_or]
   have hl:(prs (cat L)).length=(cat L).length:=prs_len _
   have e1:List.drop 0 (List.take (Nat.add 0 (cat L).length) (prs (cat L)))=prs (cat L):=by
    rw [List.drop_zero,show Nat.add 0 (cat L).length=(cat L).length from Nat.zero_add _,List.take_of_length_le (by omega)]
   have e2:List.take 0 (prs (cat L))++prs (sorted (cat L))++List.drop (Nat.add 0 (cat L).length) (prs (cat L))=prs (sorted (cat L)):=by
    rw [show Nat.add 0 (cat L).length=(cat L).length from Nat.zero_add _,List.drop_eq_nil_of_le (by omega)]
    simp
   have hls:(prs (sorted (cat L))).length=(cat L).length:=by simp [sorted,prs]
   have e3:List.drop 0 (List.take (Nat.add 0 (cat L).length) (prs (sorted (cat L))))=prs (sorted (cat L)):=by
    rw [List.drop_zero,show Nat.add 0 (cat L).length=(cat L).length from Nat.zero_add _,List.take_of_length_le (by omega)]
   refine(goLe (a:=Nat.add 0 (cat L).length) (b:=(prs (cat L)).length) (by show 0+_≤_;omega) _).trans ((goY (by show(cat L).length≤_;omega) _ _).trans ?_)
   show(Ω (sortPP [.func (Fn.func 109) [] []] (List.drop 0 (List.take (Nat.add 0 (cat L).length) (prs (cat L))))) fun zs=>_)=_
   rw [e1,sortPP_prs]
   show(Ω (chkLe (Nat.add 0 (cat L).length) (ℓ (List.take 0 (prs (cat L))++prs (sorted (cat L))++List.drop (Nat.add 0 (cat L).length) (prs (cat L))))) fun _ =>
    some (Out.ret (.tuple [.agg [vbool (anyF' L),.list 0 2 (List.drop 0 (List.take (Nat.add 0 (cat L).length) (List.take 0 (prs (cat L))++prs (sorted (cat L))++List.drop (Nat.add 0 (cat L).length) (prs (cat L)))))],vi 0]),[]))=_
   rw [e2,e3]
   exact goLe (by show 0+_≤_;omega) _
  ·have hc:¬(cat L).length≤2048:=by simpa using g1
   rw [if_neg hc]
   refine⟨.val (.slice none 0 0),h0 ?_,rfl⟩
   rw [trs_len]
   show(Ω (E cx (Key.loop 45 [true,true,false,true,false]) [vi 0,vi ((0:Nat):Int),.ptr 0 0 0 0,.list 0 2 (trs L),vi L.length] [⟨.box,36,2,0,[[vbool false,.arr 1 2 0 ([]:List P2).length]]⟩,⟨.arr,80,2,2,prs []⟩]) _)=_
   rw [g2]
   rfl
end
section
theorem leP_iff (x y:P2):leP x y=true↔x.1<y.1∨x.1=y.1∧x.2≤y.2:=by
 simp only [leP,ltP,Bool.not_eq_true',Bool.or_eq_false_iff,Bool.and_eq_false_iff,decide_eq_false_iff_not]
 omega
theorem leP_trans (a b c:P2) (h1:leP a b=true) (h2:leP b c=true):leP a c=true:=by
 rw [leP_iff] at *
 omega
theorem leP_total (a b:P2):(leP a b||leP b a)=true:=by
 rw [Bool.or_eq_true,leP_iff,leP_iff]
 omega
theorem leP_anti (a b:P2) (h1:leP a b=true) (h2:leP b a=true):a=b:=by
 rw [leP_iff] at *
 exact Prod.ext (by omega) (by omega)
theorem leP_not {a b:P2}(h:leP a b=false):leP b a=true:=by
 have:=leP_total a b
 rw [h] at this
 simpa using this
abbrev PW (l:List P2):Prop:=l.Pairwise fun a b=>leP a b=true
theorem srt_pw (l:List P2):srtI l↔PW l:=by
 constructor
 ·intro h
  induction l with
  |nil=>exact .nil
  |cons a l ih =>
   have ih':=ih fun j p q hp hq=>h (j+1) p q (by simpa using hp) (by simpa using hq)
   refine List.Pairwise.cons (fun b hb=> ?_) ih'
   cases l with
   |nil=>cases hb
   |cons c l =>
    have hac:leP a c=true:=by
     have:=h 0 a c rfl rfl
     simp [leP,this]
    rcases List.mem_cons.1 hb with rfl |hb
    ·exact hac
    ·exact leP_trans _ _ _ hac ((List.pairwise_cons.1 ih').1 b hb)
 ·intro h j p q hp hq
  have hj:=(List.getElem?_eq_some_iff.1 hq).1
  have:=List.pairwise_iff_getElem.1 h j (j+1) (by omega) hj (by omega)
  rw [(List.getElem?_eq_some_iff.1 hp).2,(List.getElem?_eq_some_iff.1 hq).2] at this
  simpa [leP] using this
theorem sorted_pw (l:List P2):PW (sorted l):=List.pairwise_mergeSort leP_trans leP_total l
theorem sorted_perm (l:List P2):(sorted l).Perm l:=List.mergeSort_perm l leP
theorem sorted_of {l:List P2}(h:PW l):sorted l=l:=List.mergeSort_of_pairwise h
theorem pw_uniq {a b:List P2}(ha:PW a) (hb:PW b) (h:a.Perm b):a=b:=List.Perm.eq_of_pairwise (fun x y _ _ h1 h2=>leP_anti x y h1 h2) ha hb h
theorem sorted_congr {a b:List P2}(h:a.Perm b):sorted a=sorted b:=pw_uniq (sorted_pw a) (sorted_pw b) ((sorted_perm a).trans (h.trans (sorted_perm b).symm))
end
section
theorem drop_cons' {α:Type}{l r:List α}{i:Nat}{p:α}(h:l.drop i=p::r):l[i]?=some p∧l.drop (i+1)=r∧i<l.length:=by
 refine⟨?_,?_,?_⟩
 ·have:=congrArg (fun l=>l[0]?) h;simpa using this
 ·rw [←List.drop_drop,h];rfl
 ·have:=congrArg ℓ h;simp at this;omega
theorem rightT_len {l:List P2}(h:rightT l=true):l.length≤2048:=by
 unfold rightT at h
 simp only [Bool.and_eq_true,decide_eq_true_eq] at h
 exact h.1
theorem rightT_pw {l:List P2}(h:rightT l=true):PW l:=by
 unfold rightT at h
 simp only [Bool.and_eq_true,decide_eq_true_eq] at h
 refine(srt_pw l).1 ?_
 by_cases hs:srtI l
 ·exact hs
 ·have:=h.2
  rw [srtB_f hs] at this
  cases this
theorem rightT_of {l:List P2}(h1:l.length≤2048) (h2:PW l):rightT l=true:=by
 unfold rightT
 rw [decide_eq_true h1,srtB_t ((srt_pw l).2 h2)]
 rfl
theorem pairEq (p q:P2):(decide ((p.1:Int)=(q.1:Int))&&(decide ((p.2:Int)=(q.2:Int))&&true))=decide (p=q):=by
 obtain⟨a,b⟩:=p
 obtain⟨c,d⟩:=q
 by_cases h1:a=c<;>by_cases h2:b=d<;>simp [h1,h2,Int.ofNat_inj]
theorem loop47 (b0 f1 f2:Bool) (a b:List P2) (hab:a.length=b.length) (hl:a.length≤4000000):∀(d i:Nat),i+d=a.length →
  (a.drop i=b.drop i∧E cx (Key.loop 47 [true,true,false,true,false]) [vbool b0,vi i,.ptr 0 0 0 0,.ptr 1 0 0 0] [⟨.box,36,2,0,[[vbool f1,.list 0 2 (prs a)]]⟩,⟨.box,36,2,0,[[vbool f2,.list 0 2 (prs b)]]⟩] =
   some (Out.jump (.exit 0) [vbool b0,vi a.length],[⟨.box,36,2,0,[[vbool f1,.list 0 2 (prs a)]]⟩,⟨.box,36,2,0,[[vbool f2,.list 0 2 (prs b)]]⟩])) ∨
  (a.drop i≠b.drop i∧∃k:Nat,E cx (Key.loop 47 [true,true,false,true,false]) [vbool b0,vi i,.ptr 0 0 0 0,.ptr 1 0 0 0] [⟨.box,36,2,0,[[vbool f1,.list 0 2 (prs a)]]⟩,⟨.box,36,2,0,[[vbool f2,.list 0 2 (prs b)]]⟩] =
   some (Out.jump .ret [vbool false,vi k],[⟨.box,36,2,0,[[vbool f1,.list 0 2 (prs a)]]⟩,⟨.box,36,2,0,[[vbool f2,.list 0 2 (prs b)]]⟩]))
 | 0,i,hd=>by
  refine .inl ⟨by rw [List.drop_eq_nil_of_le (by omega),List.drop_eq_nil_of_le (by omega)],(f47_l0 _ _ _ _ _ _).trans ((goDn (by rw [prs_len];omega) _ _).trans (by rw [show i=a.length by omega]))⟩
 |d+1,i,hd=>by
  have hp:a[i]?=some a[i]:=η (by omega)
  have hq:b[i]?=some b[i]:=η (by omega)
  have ha:a.drop i=a[i]::a.drop (i+1):=List.drop_eq_getElem_cons (by omega)
  have hb:b.drop i=b[i]::b.drop (i+1):=List.drop_eq_getElem_cons (by omega)
  have go:∀ {R},(bif !decide (a[i]=b[i]) then some (Out.jump .ret [vbool false,vi i],[⟨.box,36,2,0,[[vbool f1,.list 0 2 (prs a)]]⟩,⟨.box,36,2,0,[[vbool f2,.list 0 2 (prs b)]]⟩]) else
    E cx (Key.loop 47 [true,true,false,true,false]) [vbool b0,vi (i+1:Nat),.ptr 0 0 0 0,.ptr 1 0 0 0] [⟨.box,36,2,0,[[vbool f1,.list 0 2 (prs a)]]⟩,⟨.box,36,2,0,[[vbool f2,.list 0 2 (prs b)]]⟩])=R →
    E cx (Key.loop 47 [true,true,false,true,false]) [vbool b0,vi i,.ptr 0 0 0 0,.ptr 1 0 0 0] [⟨.box,36,2,0,[[vbool f1,.list 0 2 (prs a)]]⟩,⟨.box,36,2,0,[[vbool f2,.list 0 2 (prs b)]]⟩]=R:=fun {R} h=>by
   refine(f47_l0 _ _ _ _ _ _).trans ((goD (by rw [prs_len];omega) _ _).trans ((goY (by omega) _ _).trans ((goPr (n:=i) rfl hp _).trans ((goY (by omega) _ _).trans ((goPr (n:=i) rfl hq _).trans ?_)))))
   rw [pairEq,wS (by omega)]
   exact h
  rw [ha,hb]
  by_cases he:a[i]=b[i]
  ·rw [decide_eq_true he] at go
   rcases loop47 b0 f1 f2 a b hab hl d (i+1) (by omega) with⟨g1,g2⟩ |⟨g1,k,g2⟩
   ·exact .inl ⟨by rw [he,g1],go g2⟩
   ·exact .inr ⟨fun h=>g1 (List.cons.inj h).2,k,go g2⟩
  ·rw [decide_eq_false he] at go
   exact .inr ⟨fun h=>he (List.cons.inj h).1,i,go rfl⟩
theorem c47 (f1 f2:Bool) (a b:List P2) (hl:a.length≤4000000):E cx (Key.fn 47) [.agg [vbool f1,.list 0 2 (prs a)],.agg [vbool f2,.list 0 2 (prs b)]] []=rb (decide (f1=f2∧a=b)):=by
 refine(f47 _ _ _ _).trans ?_
 rw [prs_len,prs_len]
 by_cases hf:f1=f2
 ·rw [decide_eq_true hf]
  by_cases hab:a.length=b.length
  ·refine(goE (a:=(a.length:Int)) (b:=(b.length:Int)) (by omega) _ _).trans ?_
   show(Ω (E cx (Key.loop 47 [true,true,false,true,false]) [vbool false,vi ((0:Nat):Int),.ptr 0 0 0 0,.ptr 1 0 0 0] [⟨.box,36,2,0,[[vbool f1,.list 0 2 (prs a)]]⟩,⟨.box,36,2,0,[[vbool f2,.list 0 2 (prs b)]]⟩]) _)=_
   rcases loop47 false f1 f2 a b hab hl a.length 0 (by omega) with⟨g1,g2⟩ |⟨g1,k,g2⟩
   ·rw [g2,decide_eq_true ⟨hf,g1⟩]
    rfl
   ·rw [g2,decide_eq_false fun h=>g1 h.2]
    rfl
  ·rw [decide_eq_false fun h=>hab (by rw [h.2])]
   exact goEn (a:=(a.length:Int)) (b:=(b.length:Int)) (by omega) _ _
 ·rw [decide_eq_false hf,decide_eq_false fun h=>hf h.1]
  rfl
end
section
theorem view0 {q:List P2}:List.drop 0 (List.take (Nat.add 0 q.length) (prs q))=prs q:=by
 rw [List.drop_zero,show Nat.add 0 q.length=q.length from Nat.zero_add _,←prs_len q,List.take_length]
end
section
def pvAt (l:List P2) (i:Nat):Option P2:=if i=0 then none else l[i-1]?
def keysGo (r:Nat):Option P2→List P2→Bool
 | _,[]=>true
 |pv,p::rest=>decide (p.2=r)&&(!decide (pv=some p)&&keysGo r (some p) rest)
def keysL (l:List P2):List Nat:=l.map (·.1)
noncomputable def keysR (l:List P2) (r:Nat):List Nat×Bool:=if rightT l&&keysGo r none l then(keysL l,true) else([],false)
abbrev rowsN (l:List Nat):List (List AV):=l.map fun(k:Nat)=>[vu (k:Int)]
theorem rowsN_len (l:List Nat):(rowsN l).length=l.length:=by simp [rowsN]
theorem rowsN_app (a b:List Nat):rowsN a++rowsN b=rowsN (a++b):=by simp [rowsN]
def RK (x:Option (Out×Heap)) (r:List Nat×Bool):Prop:=∃a,x=some (Out.ret (.tuple [a,vbool r.2]),[])∧a.list? 1=some (rowsN r.1)
theorem pv_succ {l:List P2}{i:Nat}:pvAt l (i+1)=l[i]?:=by simp [pvAt]
theorem loop42 (b0 b:Bool) (r:Nat) (l:List P2) (hl:l.length≤2048):∀(rest:List P2) (i:Nat) (o:List Nat),l.drop i=rest→i+rest.length=l.length→o.length=i →
  (keysGo r (pvAt l i) rest=true∧E cx (Key.loop 42 [true,true,false,true,false]) [.arr 1 1 0 o.length,vbool b0,vi i,vu r,.ptr 0 0 0 0,.list 0 2 (prs l),vi l.length] [⟨.box,36,2,0,[[vbool b,.list 0 2 (prs l)]]⟩,⟨.arr,26,1,1,rowsN o⟩] =
   some (Out.jump (.exit 0) [.arr 1 1 0 (o++keysL rest).length,vbool b0,vi l.length],[⟨.box,36,2,0,[[vbool b,.list 0 2 (prs l)]]⟩,⟨.arr,26,1,1,rowsN (o++keysL rest)⟩])) ∨
  (keysGo r (pvAt l i) rest=false∧∃(k:Nat) (rs:List (List AV)),E cx (Key.loop 42 [true,true,false,true,false]) [.arr 1 1 0 o.length,vbool b0,vi i,vu r,.ptr 0 0 0 0,.list 0 2 (prs l),vi l.length] [⟨.box,36,2,0,[[vbool b,.list 0 2 (prs l)]]⟩,⟨.arr,26,1,1,rowsN o⟩] =
   some (Out.jump .ret [.val (.slice none 0 0),vbool false,vi k],[⟨.box,36,2,0,[[vbool b,.list 0 2 (prs l)]]⟩,⟨.arr,26,1,1,rs⟩]))
 | [],i,o,hd,hi,ho=>by
  simp only [List.length_nil,Nat.add_zero] at hi
  refine .inl ⟨rfl,(f42_l0 _ _ _ _ _ _ _ _ _).trans ((goDn (by omega) _ _).trans ?_)⟩
  simp [keysL,hi]
 |p::rest,i,o,hd,hi,ho=>by
  obtain⟨hp,hd',hlt⟩:=drop_cons' hd
  simp only [List.length_cons] at hi
  have hgo:keysGo r (pvAt l i) (p::rest)=(decide (p.2=r)&&(!decide (pvAt l i=some p)&&keysGo r (some p) rest)):=rfl
  have tl:∀ {R},E cx (Key.loop 42 [true,true,false,true,false]) [.arr 1 1 0 (o++[p.1]).length,vbool b0,vi (i+1:Nat),vu r,.ptr 0 0 0 0,.list 0 2 (prs l),vi l.length] [⟨.box,36,2,0,[[vbool b,.list 0 2 (prs l)]]⟩,⟨.arr,26,1,1,rowsN (o++[p.1])⟩]=R →
    (Ω (chk o.length (ℓ (rowsN o))) fun _=>if Nat.mul (Nat.add (ℓ (rowsN o)) 1) 8≤140737488355328 then
     E cx (Key.loop 42 [true,true,false,true,false]) [.arr 1 1 0 (Nat.add (ℓ (rowsN o)) 1),vbool b0,vi (ω .i64 (Int.add (i:Int) 1)),vu r,.ptr 0 0 0 0,.list 0 2 (prs l),vi l.length] [⟨.box,36,2,0,[[vbool b,.list 0 2 (prs l)]]⟩,⟨.arr,26,1,1,rowsN o++rowsN [p.1]⟩] else none)=R:=fun {R} h=>by
   rw [rowsN_len,rowsN_app,wS (by omega)]
   refine(goCk rfl _).trans ((goY (by show(o.length+1)*8≤_;omega) _ _).trans ?_)
   have e:Nat.add o.length 1=(o++[p.1]).length:=by simp
   rw [e]
   exact h
  have go:∀ {R},(bif !(decide (p.2=r)&& !decide (pvAt l i=some p)) then some (Out.jump .ret [.val (.slice none 0 0),vbool false,vi i],[⟨.box,36,2,0,[[vbool b,.list 0 2 (prs l)]]⟩,⟨.arr,26,1,1,rowsN o⟩]) else
    E cx (Key.loop 42 [true,true,false,true,false]) [.arr 1 1 0 (o++[p.1]).length,vbool b0,vi (i+1:Nat),vu r,.ptr 0 0 0 0,.list 0 2 (prs l),vi l.length] [⟨.box,36,2,0,[[vbool b,.list 0 2 (prs l)]]⟩,⟨.arr,26,1,1,rowsN (o++[p.1])⟩])=R →
    E cx (Key.loop 42 [true,true,false,true,false]) [.arr 1 1 0 o.length,vbool b0,vi i,vu r,.ptr 0 0 0 0,.list 0 2 (prs l),vi l.length] [⟨.box,36,2,0,[[vbool b,.list 0 2 (prs l)]]⟩,⟨.arr,26,1,1,rowsN o⟩]=R:=fun {R} h=>by
   refine(f42_l0 _ _ _ _ _ _ _ _ _).trans ((goD (by omega) _ _).trans ((goY (by omega) _ _).trans ((goPr (n:=i) rfl hp _).trans ?_)))
   by_cases h1:p.2=r
   ·refine(goE (by omega) _ _).trans ?_
    rw [decide_eq_true h1] at h
    cases i with
    |zero =>
     refine(goDn (by omega) _ _).trans ?_
     exact tl h
    |succ j =>
     have hq:l[j]?=some l[j]:=η (by omega)
     refine(goD (by omega) _ _).trans ?_
     rw [wP (by omega)]
     refine(goY (by omega) _ _).trans ((goPr (n:=j) rfl hq _).trans ?_)
     rw [pairEq]
     rw [pv_succ,hq] at h
     by_cases h2:l[j]=p
     ·rw [decide_eq_true h2]
      rw [decide_eq_true (show some l[j]=some p by rw [h2])] at h
      exact h
     ·rw [decide_eq_false h2]
      rw [decide_eq_false (fun h3:some l[j]=some p=>h2 (Option.some.inj h3))] at h
      exact tl h
   ·refine(goEn (by omega) _ _).trans ?_
    rw [decide_eq_false h1] at h
    exact h
  cases hc:(decide (p.2=r)&& !decide (pvAt l i=some p)) with
  |false =>
   rw [hc] at go
   refine .inr ⟨?_,i,_,go rfl⟩
   rw [hgo,←Bool.and_assoc,hc]
   rfl
  |true =>
   rw [hc] at go
   rw [hgo,←Bool.and_assoc,hc,Bool.true_and]
   rcases loop42 b0 b r l hl rest (i+1) (o++[p.1]) hd' (by omega) (by simp;omega) with⟨g1,g2⟩ |⟨g1,k,rs,g2⟩
   ·rw [pv_succ,hp] at g1
    refine .inl ⟨g1,go (g2.trans ?_)⟩
    have e:o++[p.1]++keysL rest=o++keysL (p::rest):=by simp [keysL]
    rw [e]
   ·rw [pv_succ,hp] at g1
    exact .inr ⟨g1,k,rs,go g2⟩
theorem RK_of {x y:Option (Out×Heap)}{r:List Nat×Bool}(h:x=y) (k:RK y r):RK x r:=by rw [h];exact k
theorem viewN {q:List Nat}:List.drop 0 (List.take (Nat.add 0 q.length) (rowsN q))=rowsN q:=by
 rw [List.drop_zero,show Nat.add 0 q.length=q.length from Nat.zero_add _,←rowsN_len q,List.take_length]
theorem c42 (f:Bool) (l:List P2) (r:Nat) (hl:l.length≤4000000):RK (E cx (Key.fn 42) [.agg [vbool f,.list 0 2 (prs l)],vu r] []) (keysR l r):=by
 refine RK_of ((f42 _ _ _).trans (goB (c40 f l hl) _)) ?_
 unfold keysR
 cases hr:rightT l with
 |false=>exact⟨_,rfl,rfl⟩
 |true =>
  have hll:=rightT_len hr
  rw [prs_len]
  show RK (Ω (E cx (Key.loop 42 [true,true,false,true,false]) [.arr 1 1 0 ([]:List Nat).length,vbool false,vi ((0:Nat):Int),vu r,.ptr 0 0 0 0,.list 0 2 (prs l),vi l.length] [⟨.box,36,2,0,[[vbool f,.list 0 2 (prs l)]]⟩,⟨.arr,26,1,1,rowsN []⟩]) _) _
  rcases loop42 false f r l hll l 0 [] rfl (by omega) rfl with⟨g1,g2⟩ |⟨g1,k,rs,g2⟩
  ·have g1':keysGo r none l=true:=g1
   rw [g2,g1']
   refine⟨.list 0 1 (rowsN (keysL l)),?_,rfl⟩
   simp only [List.nil_append]
   show(Ω (chkLe (Nat.add 0 (keysL l).length) (ℓ (rowsN (keysL l)))) fun _=>some (Out.ret (.tuple [.list 0 1 (List.drop 0 (List.take (Nat.add 0 (keysL l).length) (rowsN (keysL l)))),vbool true]),([]:Heap)))=_
   rw [goLe (by rw [rowsN_len];exact Nat.le_of_eq (Nat.zero_add _)),viewN]
   rfl
  ·have g1':keysGo r none l=false:=g1
   rw [g2,g1']
   exact⟨_,rfl,rfl⟩
end
section
def atR (p:P2) (l:List P2):Nat→Nat
 | 0=>0
 |n+1=>match l[n]? with
  |some q=>if ltP p q then atR p l n else n+1
  |none=>n+1
def insR (p:P2) (l:List P2):List P2:=l.take (atR p l l.length)++p::l.drop (atR p l l.length)
def pairOf (a:Int):P2:=((pickI a 12).toNat,(pickI (a.tdiv 16) 3).toNat)
def tokL:List Int→List P2→List P2
 | [],o=>o
 |a::rest,o=>tokL rest (insR (pairOf a) o)
theorem atR_le (p:P2) (l:List P2):∀n,atR p l n≤n
 | 0=>Nat.le_refl _
 |n+1=>by
  unfold atR
  split
  ·split
   ·exact Nat.le_succ_of_le (atR_le p l n)
   ·exact Nat.le_refl _
  ·exact Nat.le_refl _
theorem insR_len (p:P2) (l:List P2):(insR p l).length=l.length+1:=by
 have:=atR_le p l l.length
 unfold insR
 simp
 omega
theorem tokL_len:∀(r:List Int) (o:List P2),(tokL r o).length=o.length+r.length
 | [],o=>rfl
 |a::r,o=>by
  show(tokL r (insR (pairOf a) o)).length=_
  rw [tokL_len r,insR_len]
  simp only [List.length_cons]
  omega
theorem atR_lo (p:P2) (l:List P2) (hl:PW l):∀n,n≤l.length→∀j,j<atR p l n→∀q,l[j]?=some q→leP q p=true
 | 0,_,j,hj,_,_=>absurd hj (Nat.not_lt_zero _)
 |n+1,hn,j,hj,q,hq=>by
  have hg:l[n]?=some l[n]:=η (by omega)
  unfold atR at hj
  rw [hg] at hj
  simp only at hj
  by_cases hlt:ltP p l[n]=true
  ·rw [if_pos hlt] at hj
   exact atR_lo p l hl n (by omega) j hj q hq
  ·rw [if_neg hlt] at hj
   have h1:leP l[n] p=true:=by
    rw [Bool.not_eq_true] at hlt
    unfold leP
    simpa using hlt
   by_cases hjn:j=n
   ·subst hjn
    rw [hg] at hq
    cases hq
    exact h1
   ·have hq':l[j]=q:=by
     have:=η (l:=l) (i:=j) (by omega)
     rw [this] at hq
     exact Option.some.inj hq
    have:=List.pairwise_iff_getElem.1 hl j n (by omega) (by omega) (by omega)
    rw [hq'] at this
    exact leP_trans _ _ _ this h1
theorem atR_hi (p:P2) (l:List P2):∀n,n≤l.length→∀j,atR p l n≤j→j<n→∀q,l[j]?=some q→ltP p q=true
 | 0,_,j,_,hj,_,_=>absurd hj (Nat.not_lt_zero _)
 |n+1,hn,j,h1,hj,q,hq=>by
  have hg:l[n]?=some l[n]:=η (by omega)
  unfold atR at h1
  rw [hg] at h1
  simp only at h1
  by_cases hlt:ltP p l[n]=true
  ·rw [if_pos hlt] at h1
   by_cases hjn:j=n
   ·subst hjn
    rw [hg] at hq
    cases hq
    exact hlt
   ·exact atR_hi p l n (by omega) j h1 (by omega) q hq
  ·rw [if_neg hlt] at h1
   omega
theorem ltP_le {p q:P2}(h:ltP p q=true):leP p q=true:=by
 rw [leP_iff]
 unfold ltP at h
 simp only [Bool.or_eq_true,Bool.and_eq_true,decide_eq_true_eq] at h
 omega
theorem insR_pw (p:P2) (l:List P2) (hl:PW l):PW (insR p l):=by
 unfold insR
 have hle:=atR_le p l l.length
 rw [PW,List.pairwise_append]
 refine⟨hl.sublist (List.take_sublist _ _),?_,?_⟩
 ·rw [List.pairwise_cons]
  refine⟨fun q hq=> ?_,hl.sublist (List.drop_sublist _ _)⟩
  obtain⟨j,hj⟩:=List.mem_iff_getElem?.1 hq
  rw [List.getElem?_drop] at hj
  have hlt:=(List.getElem?_eq_some_iff.1 hj).1
  exact ltP_le (atR_hi p l l.length (Nat.le_refl _) _ (Nat.le_add_right _ _) hlt q hj)
 ·intro a ha b hb
  obtain⟨j,hj⟩:=List.mem_iff_getElem?.1 ha
  rw [List.getElem?_take] at hj
  have hjl:j<atR p l l.length:=by
   by_cases h:j<atR p l l.length
   ·exact h
   ·rw [if_neg h] at hj;cases hj
  rw [if_pos hjl] at hj
  have h1:=atR_lo p l hl l.length (Nat.le_refl _) j hjl a hj
  rcases List.mem_cons.1 hb with rfl |hb
  ·exact h1
  ·obtain⟨k,hk⟩:=List.mem_iff_getElem?.1 hb
   rw [List.getElem?_drop] at hk
   have hlt:=(List.getElem?_eq_some_iff.1 hk).1
   exact leP_trans _ _ _ h1 (ltP_le (atR_hi p l l.length (Nat.le_refl _) _ (Nat.le_add_right _ _) hlt b hk))
theorem tokL_pw:∀(r:List Int) (o:List P2),PW o→PW (tokL r o)
 | [],_o,h=>h
 | _a::r,_o,h=>tokL_pw r _ (insR_pw _ _ h)
def tokP (raw:List Int):List P2:=tokL (raw.take 30) []
theorem tokP_len (raw:List Int):(tokP raw).length≤30:=by
 unfold tokP
 rw [tokL_len]
 simp
 omega
theorem tokP_pw (raw:List Int):PW (tokP raw):=tokL_pw _ _ .nil
theorem tokP_right (raw:List Int):rightT (tokP raw)=true:=rightT_of (by have:=tokP_len raw;omega) (tokP_pw raw)
theorem loop37i (b1 b2:Bool) (raw:List Int) (x:Int) (p:P2) (o:List P2) (ho:o.length≤1000):∀i,i≤o.length →
  E cx (Key.loop 37 [true,true,false,true,false,false,true,false,false,true,true,false,false]) [vi i,.list 0 1 (ints raw),.ptr 0 0 0 0,.ptr 1 0 0 0,vi x,.ptr 3 0 0 0] [⟨.box,36,2,0,[[vbool b1,.val (.slice none 0 0)]]⟩,⟨.box,36,2,0,[[vbool b2,.arr 2 2 0 o.length]]⟩,⟨.arr,80,2,2,prs o⟩,⟨.box,80,2,0,[[vu p.1,vu p.2]]⟩] =
   some (Out.jump (.exit 2) [vi (atR p o i:Nat)],[⟨.box,36,2,0,[[vbool b1,.val (.slice none 0 0)]]⟩,⟨.box,36,2,0,[[vbool b2,.arr 2 2 0 o.length]]⟩,⟨.arr,80,2,2,prs o⟩,⟨.box,80,2,0,[[vu p.1,vu p.2]]⟩])
 | 0,_=>(f37_l0_l1 _ _ _ _ _ _ _ _ _).trans (goDn (by omega) _ _)
 |i+1,hi=>by
  have hq:o[i]?=some o[i]:=η (by omega)
  refine(f37_l0_l1 _ _ _ _ _ _ _ _ _).trans ((goD (by omega) _ _).trans ?_)
  rw [wP (by omega)]
  refine(goY (by omega) _ _).trans ((goY (by omega) _ _).trans ((goPn (n:=i) rfl hq _).trans ((goB (c105 p o[i]) _).trans ?_)))
  have ha:atR p o (i+1)=if ltP p o[i] then atR p o i else i+1:=by
   show(match o[i]? with |some q=>if ltP p q then atR p o i else i+1 |none=>i+1)=_
   rw [hq]
  rw [ha]
  cases h:ltP p o[i] with
  |true=>exact loop37i b1 b2 raw x p o ho i (by omega)
  |false=>rfl
theorem wu_pick {c n:Int}(hn:0<n) (h2:n<1000):ω .u64 (pickI c n)=(((pickI c n).toNat:Nat):Int):=by
 have:=pickI_lt (c:=c) hn
 rw [wu_id (by omega) (by omega)]
 omega
theorem prs_take (l:List P2) (n:Nat):(prs l).take n=prs (l.take n):=by simp [prs]
theorem prs_drop (l:List P2) (n:Nat):(prs l).drop n=prs (l.drop n):=by simp [prs]
end
section
theorem loop37_end (b1 b2:Bool) (l:List (List AV)) (x:Int) (n:Nat) (rs:List (List AV)) (h:¬(x<(l.length:Int)∧x<30)):E cx (Key.loop 37 [true,true,false,true,false]) [vi x,.list 0 1 l,.ptr 0 0 0 0,.ptr 1 0 0 0] [⟨.box,36,2,0,[[vbool b1,.val (.slice none 0 0)]]⟩,⟨.box,36,2,0,[[vbool b2,.arr 2 2 0 n]]⟩,⟨.arr,80,2,2,rs⟩]=some (Out.jump (.exit 0) [vi x],[⟨.box,36,2,0,[[vbool b1,.val (.slice none 0 0)]]⟩,⟨.box,36,2,0,[[vbool b2,.arr 2 2 0 n]]⟩,⟨.arr,80,2,2,rs⟩]):=by
 refine(f37_l0 _ _ _ _ _ _).trans ?_
 by_cases h1:x<(l.length:Int)
 ·exact(goD h1 _ _).trans (goDn (fun h2=>h ⟨h1,h2⟩) _ _)
 ·exact goDn h1 _ _
theorem loop37_step (b1 b2:Bool) (raw:List Int) (hr:∀a∈raw,RI a) (i:Nat) (a:Int) (ha:raw[i]?=some a) (h30:i<30) (o:List P2) (ho:o.length≤1000):E cx (Key.loop 37 [true,true,false,true,false]) [vi i,.list 0 1 (ints raw),.ptr 0 0 0 0,.ptr 1 0 0 0] [⟨.box,36,2,0,[[vbool b1,.val (.slice none 0 0)]]⟩,⟨.box,36,2,0,[[vbool b2,.arr 2 2 0 o.length]]⟩,⟨.arr,80,2,2,prs o⟩]=E cx (Key.loop 37 [true,true,false,true,false]) [vi (i+1:Nat),.list 0 1 (ints raw),.ptr 0 0 0 0,.ptr 1 0 0 0] [⟨.box,36,2,0,[[vbool b1,.val (.slice none 0 0)]]⟩,⟨.box,36,2,0,[[vbool b2,.arr 2 2 0 (insR (pairOf a) o).length]]⟩,⟨.arr,80,2,2,prs (insR (pairOf a) o)⟩]:=by
 have hlt:=(List.getElem?_eq_some_iff.1 ha).1
 have hA:=hr a (List.mem_of_getElem? ha)
 have hA16:RI (Int.tdiv a 16):=by
  unfold RI at hA ⊢
  rcases Int.le_total 0 a with h |h
  ·have:=Int.tdiv_nonneg h (show(0:Int)≤16 by omega)
   have h2:=Int.tdiv_eq_ediv_of_nonneg (b:=16) h
   omega
  ·have e:Int.tdiv a 16 = -(Int.tdiv (-a) 16):=by rw [Int.neg_tdiv,Int.neg_neg]
   have h2:=Int.tdiv_eq_ediv_of_nonneg (b:=16) (show(0:Int) ≤ -a by omega)
   omega
 refine(f37_l0 _ _ _ _ _ _).trans ((goD (by simp only [List.length_map];omega) _ _).trans ((goD (by omega) _ _).trans ((goY (by omega) _ _).trans ((go1 (n:=i) rfl ha _).trans ((goI (c48 hA (by omega)) _).trans ((goY (by omega) _ _).trans ((go1 (n:=i) rfl ha _).trans ?_)))))))
 rw [wr_id (n:=Int.tdiv a 16) hA16.1 hA16.2]
 refine(goI (c48 hA16 (by omega)) _).trans ?_
 rw [wu_pick (c:=a) (n:=12) (by omega) (by omega),wu_pick (c:=Int.tdiv a 16) (n:=3) (by omega) (by omega),show(pickI a 12).toNat=(pairOf a).1 from rfl,show(pickI (Int.tdiv a 16) 3).toNat=(pairOf a).2 from rfl]
 rw [loop37i b1 b2 raw i (pairOf a) o ho o.length (Nat.le_refl _)]
 have hle:=atR_le (pairOf a) o o.length
 generalize hk:atR (pairOf a) o o.length=k at hle
 simp only [Option.bind_some,asJump,JX.is,Nat.beq_refl,cond_true,uncons?,nil?,AV.arr?,AV.int?,AV.bool?,AV.nilS?,chk,obIs,if_true,and_self]
 have hkk:τ ((k:Nat):Int)=k:=Int.toNat_natCast k
 rw [hkk]
 have e1:List.drop (Nat.add 0 0) (List.take (Nat.add (Nat.add 0 0) (Nat.sub k 0)) (prs o))=prs (o.take k):=by
  show List.drop 0 (List.take (0+k) (prs o))=_
  rw [List.drop_zero,Nat.zero_add,prs_take]
 have e2:List.drop (Nat.add 0 k) (List.take (Nat.add (Nat.add 0 k) (Nat.sub o.length k)) (prs o))=prs (o.drop k):=by
  show List.drop (0+k) (List.take (0+k+(o.length-k)) (prs o))=_
  rw [Nat.zero_add,List.take_of_length_le (by rw [prs_len];omega),prs_drop]
 have l1:(prs (o.take k)).length=k:=by rw [prs_len];simp;omega
 have l2:(prs (o.drop k)).length=o.length-k:=by rw [prs_len];simp
 refine(goY (by omega) _ _).trans ((goY (by omega) _ _).trans ?_)
 refine(goLe (by show 0+0+(k-0)≤(prs o).length;rw [prs_len];omega) _).trans ?_
 rw [e1,ysOk_prs,l1]
 refine(goY (by show(0+k)*16≤_;omega) _ _).trans ?_
 show(Ω (chk (Nat.add 0 k) (ℓ (prs (o.take k)))) fun _=>if Nat.mul (Nat.add (ℓ (prs (o.take k))) 1) 16≤140737488355328 then
  if(0:Int)≤(k:Int) then if(k:Int)≤(o.length:Int) then
   Ω (chkLe (Nat.add (Nat.add 0 k) (Nat.sub o.length k)) (ℓ (prs o))) fun _ =>
   bif ysOk (List.drop (Nat.add 0 k) (List.take (Nat.add (Nat.add 0 k) (Nat.sub o.length k)) (prs o))) then
   Ω (chk (Nat.add (ℓ (prs (o.take k))) 1) (ℓ (prs (o.take k)++prs [pairOf a]))) fun _ =>
   if Nat.mul (Nat.add (ℓ (prs (o.take k)++prs [pairOf a])) (ℓ (List.drop (Nat.add 0 k) (List.take (Nat.add (Nat.add 0 k) (Nat.sub o.length k)) (prs o))))) 16≤140737488355328 then
   E cx (Key.loop 37 [true,true,false,true,false]) [vi (ω .i64 (Int.add (i:Int) 1)),.list 0 1 (ints raw),.ptr 0 0 0 0,.ptr 1 0 0 0] [⟨.box,36,2,0,[[vbool b1,.val (.slice none 0 0)]]⟩,
    ⟨.box,36,2,0,[[vbool b2,.arr 2 2 0 (Nat.add (ℓ (prs (o.take k)++prs [pairOf a])) (ℓ (List.drop (Nat.add 0 k) (List.take (Nat.add (Nat.add 0 k) (Nat.sub o.length k)) (prs o)))))]]⟩,
    ⟨.arr,80,2,2,prs (o.take k)++prs [pairOf a]++List.drop (Nat.add 0 k) (List.take (Nat.add (Nat.add 0 k) (Nat.sub o.length k)) (prs o))⟩]
   else none else none else none else none else none)=_
 have l3:(prs (o.take k)++prs [pairOf a]).length=k+1:=by rw [List.length_append,l1];rfl
 rw [e2,ysOk_prs,l1,l3,l2]
 refine(goCk (by show 0+k=k;omega) _).trans ((goY (by show(k+1)*16≤_;omega) _ _).trans ((goY (by omega) _ _).trans ((goY (by omega) _ _).trans ?_)))
 refine(goLe (by show 0+k+(o.length-k)≤(prs o).length;rw [prs_len];omega) _).trans ?_
 refine(goCk rfl _).trans ((goY (by show(k+1+(o.length-k))*16≤_;omega) _ _).trans ?_)
 have e3:prs (o.take k)++prs [pairOf a]++prs (o.drop k)=prs (insR (pairOf a) o):=by
  unfold insR
  rw [hk]
  simp [prs]
 have l4:Nat.add (k+1) (o.length-k)=(insR (pairOf a) o).length:=by
  rw [insR_len]
  show k+1+(o.length-k)=_
  omega
 rw [e3,l4,wS (by omega)]
theorem loop37 (b1 b2:Bool) (raw:List Int) (hr:∀a∈raw,RI a):∀(rest:List Int) (i:Nat) (o:List P2),(raw.take 30).drop i=rest→i+rest.length=(raw.take 30).length→o.length=i →
  ∃n:Nat,E cx (Key.loop 37 [true,true,false,true,false]) [vi i,.list 0 1 (ints raw),.ptr 0 0 0 0,.ptr 1 0 0 0] [⟨.box,36,2,0,[[vbool b1,.val (.slice none 0 0)]]⟩,⟨.box,36,2,0,[[vbool b2,.arr 2 2 0 o.length]]⟩,⟨.arr,80,2,2,prs o⟩] =
   some (Out.jump (.exit 0) [vi n],[⟨.box,36,2,0,[[vbool b1,.val (.slice none 0 0)]]⟩,⟨.box,36,2,0,[[vbool b2,.arr 2 2 0 (tokL rest o).length]]⟩,⟨.arr,80,2,2,prs (tokL rest o)⟩])
 | [],i,o,hd,hi,ho=>by
  simp only [List.length_nil,Nat.add_zero,List.length_take] at hi
  exact⟨i,loop37_end _ _ _ _ _ _ (by simp only [List.length_map];omega)⟩
 |a::rest,i,o,hd,hi,ho=>by
  have hp:(raw.take 30)[i]?=some a:=by
   have:=congrArg (fun l=>l[0]?) hd;simpa using this
  have hd':(raw.take 30).drop (i+1)=rest:=by rw [←List.drop_drop,hd];rfl
  have hlt:i<(raw.take 30).length:=(List.getElem?_eq_some_iff.1 hp).1
  simp only [List.length_cons] at hi
  have h30:i<30:=by rw [List.length_take] at hlt;omega
  rw [List.getElem?_take,if_pos h30] at hp
  have hl:=insR_len (pairOf a) o
  obtain⟨n,g⟩:=loop37 b1 b2 raw hr rest (i+1) (insR (pairOf a) o) hd' (by omega) (by omega)
  exact⟨n,(loop37_step b1 b2 raw hr i a hp h30 o (by omega)).trans g⟩
theorem c37 (raw:List Int) (hr:∀a∈raw,RI a) (f:Bool):E cx (Key.fn 37) [.list 0 1 (ints raw),vbool f] []=some (Out.ret (.agg [vbool f,.list 0 2 (prs (tokP raw))]),[]):=by
 refine(f37 _ _).trans ?_
 obtain⟨n,g⟩:=loop37 false f raw hr (raw.take 30) 0 [] rfl (by omega) rfl
 show(Ω (E cx (Key.loop 37 [true,true,false,true,false]) [vi ((0:Nat):Int),.list 0 1 (ints raw),.ptr 0 0 0 0,.ptr 1 0 0 0] [⟨.box,36,2,0,[[vbool false,.val (.slice none 0 0)]]⟩,⟨.box,36,2,0,[[vbool f,.arr 2 2 0 ([]:List P2).length]]⟩,⟨.arr,80,2,2,prs []⟩]) _)=_
 rw [g]
 show(Ω (chkLe (Nat.add 0 (tokP raw).length) (ℓ (prs (tokP raw)))) fun _=>some (Out.ret (.agg [vbool f,.list 0 2 (List.drop 0 (List.take (Nat.add 0 (tokP raw).length) (prs (tokP raw))))]),([]:Heap)))=_
 rw [goLe (by rw [prs_len];exact Nat.le_of_eq (Nat.zero_add _)),view0]
end
end
section
section
def inU (l:List P2):Prop:=∀p∈l,p.1<18446744073709551616∧p.2<18446744073709551616
end
section
theorem pairOf_lt (a:Int):(pairOf a).1<12∧(pairOf a).2<3:=by
 have h1:=pickI_lt (c:=a) (n:=12) (by omega)
 have h2:=pickI_lt (c:=Int.tdiv a 16) (n:=3) (by omega)
 unfold pairOf
 constructor
 ·show(pickI a 12).toNat<12
  omega
 ·show(pickI (Int.tdiv a 16) 3).toNat<3
  omega
theorem insR_mem {p q:P2}{l:List P2}(h:q∈insR p l):q=p∨q∈l:=by
 unfold insR at h
 rcases List.mem_append.1 h with h |h
 ·exact .inr (List.mem_of_mem_take h)
 ·rcases List.mem_cons.1 h with h |h
  ·exact .inl h
  ·exact .inr (List.mem_of_mem_drop h)
theorem tokL_all (P:P2→Prop) (hP:∀a,P (pairOf a)):∀(r:List Int) (o:List P2),(∀q∈o,P q)→∀q∈tokL r o,P q
 | [],o,h=>h
 |a::r,o,h=>tokL_all P hP r _ fun q hq=>by
  rcases insR_mem hq with rfl |hq
  ·exact hP a
  ·exact h q hq
theorem tokP_inU (raw:List Int):inU (tokP raw) :=
 tokL_all (fun q=>q.1<18446744073709551616∧q.2<18446744073709551616) (fun a=>⟨by have:=pairOf_lt a;omega,by have:=pairOf_lt a;omega⟩) _ [] (by simp)
end
end
end Go.Proofs.Av
