/- Closed forms of octets, bits and tokens, as far as Wire needs them. -/
import Derived.Test.YtoepfmodbhfckaaAgY
set_option maxRecDepth 100000
namespace Go.Proofs.Av
open Go
section
theorem f37 : ∀ (raw0 : List (List AV)) (forged1 : Bool),
 E cx (Key.fn 37) [AV.list 0 1 raw0, vbool forged1] [] =
 Option.bind
 (E cx (Key.loop 37 [true, true, false, true, false])
 [vi 0, AV.list 0 1 raw0, AV.ptr 0 0 0 0, AV.ptr 1 0 0 0]
 [Ob.mk OK.box 36 2 0 [[vbool false, AV.val (Value.slice none 0 0)]],
 Ob.mk OK.box 36 2 0 [[vbool forged1, AV.arr 2 2 0 0]],
 Ob.mk OK.arr 80 2 2 []])
 fun r2 ↦
 Option.bind (asJump r2) fun j3 ↦
 bif JX.is j3.fst (JX.exit 0) then
 Option.bind (uncons? j3.snd.fst) fun p4 ↦
 Option.bind (AV.int? IntKind.i64 p4.fst) fun _ ↦
 Option.bind (nil? p4.snd) fun _ ↦
 Option.bind (uncons? j3.snd.snd) fun p7 ↦
 Option.bind
 (obIs
 (Ob.mk OK.box 36 2 0 [[vbool false, AV.val (Value.slice none 0 0)]]) p7.fst)
 fun _ ↦
 Option.bind (chk p7.fst.ver 0) fun _ ↦
 Option.bind (uncons? p7.fst.es) fun p10 ↦
 Option.bind (nil? p10.snd) fun _ ↦
 Option.bind (uncons? p10.fst) fun p12 ↦
 Option.bind (AV.bool? p12.fst) fun _ ↦
 Option.bind (uncons? p12.snd) fun p14 ↦
 Option.bind (AV.nilS? p14.fst) fun _ ↦
 Option.bind (nil? p14.snd) fun _ ↦
 Option.bind (uncons? p7.snd) fun p17 ↦
 Option.bind
 (obIs
 (Ob.mk OK.box 36 2 0 [[vbool forged1, AV.arr 2 2 0 0]]) p17.fst)
 fun _ ↦
 Option.bind (chk p17.fst.ver 0) fun _ ↦
 Option.bind (uncons? p17.fst.es) fun p20 ↦
 Option.bind (nil? p20.snd) fun _ ↦
 Option.bind (uncons? p20.fst) fun p22 ↦
 Option.bind (AV.bool? p22.fst) fun b23 ↦
 Option.bind (uncons? p22.snd) fun p24 ↦
 Option.bind (AV.arr? 2 p24.fst) fun x25 ↦
 Option.bind (chk x25.fst 2) fun _ ↦
 Option.bind (nil? p24.snd) fun _ ↦
 Option.bind (uncons? p17.snd) fun p28 ↦
 Option.bind (obIs (Ob.mk OK.arr 80 2 2 []) p28.fst) fun _ ↦
 Option.bind (chk p28.fst.ver 2) fun _ ↦
 Option.bind (nil? p28.snd) fun _ ↦
 Option.bind (chkLe (Nat.add x25.snd.fst x25.snd.snd) (List.length p28.fst.es))
 fun _ ↦
 some
 (Out.ret
 (AV.agg
 [vbool b23,
 AV.list 0 2
 (List.drop x25.snd.fst
 (List.take (Nat.add x25.snd.fst x25.snd.snd) p28.fst.es))]),
 [])
 else none := by
 intros
 exact (E_in [188] _ _ _).trans (by kernel_rfl)
theorem f37_l0 : ∀ (x33 : Int) (l34 : List (List AV)) (b35 b36 : Bool) (n37 : Nat) (l38 : List (List AV)),
 E cx (Key.loop 37 [true, true, false, true, false])
 [vi x33, AV.list 0 1 l34, AV.ptr 0 0 0 0, AV.ptr 1 0 0 0]
 [Ob.mk OK.box 36 2 0 [[vbool b35, AV.val (Value.slice none 0 0)]],
 Ob.mk OK.box 36 2 0 [[vbool b36, AV.arr 2 2 0 n37]],
 Ob.mk OK.arr 80 2 2 l38] =
 bif decide (x33 < ((List.length l34) : Int)) then
 bif decide (x33 < 30) then
 if 0 ≤ x33 then
 Option.bind l34[Int.toNat x33]? fun cs39 ↦
 Option.bind (uncons? cs39) fun p40 ↦
 Option.bind (AV.int? IntKind.i64 p40.fst) fun n41 ↦
 Option.bind (nil? p40.snd) fun _ ↦
 Option.bind (E cx (Key.fn 48) [vi n41, vi 12] []) fun r43 ↦
 Option.bind (ret1 r43) fun v44 ↦
 Option.bind (AV.int? IntKind.i64 v44) fun n45 ↦
 if 0 ≤ x33 then
 Option.bind l34[Int.toNat x33]? fun cs46 ↦
 Option.bind (uncons? cs46) fun p47 ↦
 Option.bind (AV.int? IntKind.i64 p47.fst) fun n48 ↦
 Option.bind (nil? p47.snd) fun _ ↦
 Option.bind
 (E cx (Key.fn 48)
 [vi (IntKind.wrap IntKind.i64 (Int.tdiv n48 16)), vi 3] [])
 fun r50 ↦
 Option.bind (ret1 r50) fun v51 ↦
 Option.bind (AV.int? IntKind.i64 v51) fun n52 ↦
 Option.bind
 (E cx
 (Key.loop 37 [true, true, false, true, false, false, true, false, false, true, true, false, false])
 [vi (n37 : Int), AV.list 0 1 l34, AV.ptr 0 0 0 0, AV.ptr 1 0 0 0,
 vi x33, AV.ptr 3 0 0 0]
 [Ob.mk OK.box 36 2 0
 [[vbool b35, AV.val (Value.slice none 0 0)]],
 Ob.mk OK.box 36 2 0 [[vbool b36, AV.arr 2 2 0 n37]],
 Ob.mk OK.arr 80 2 2 l38,
 Ob.mk OK.box 80 2 0
 [[vu (IntKind.wrap IntKind.u64 n45), vu (IntKind.wrap IntKind.u64 n52)]]])
 fun r53 ↦
 Option.bind (asJump r53) fun j54 ↦
 bif JX.is j54.fst (JX.exit 2) then
 Option.bind (uncons? j54.snd.fst) fun p55 ↦
 Option.bind (AV.int? IntKind.i64 p55.fst) fun n56 ↦
 Option.bind (nil? p55.snd) fun _ ↦
 Option.bind (uncons? j54.snd.snd) fun p58 ↦
 Option.bind
 (obIs
 (Ob.mk OK.box 36 2 0
 [[vbool b35, AV.val (Value.slice none 0 0)]])
 p58.fst)
 fun _ ↦
 Option.bind (chk p58.fst.ver 0) fun _ ↦
 Option.bind (uncons? p58.fst.es) fun p61 ↦
 Option.bind (nil? p61.snd) fun _ ↦
 Option.bind (uncons? p61.fst) fun p63 ↦
 Option.bind (AV.bool? p63.fst) fun b64 ↦
 Option.bind (uncons? p63.snd) fun p65 ↦
 Option.bind (AV.nilS? p65.fst) fun _ ↦
 Option.bind (nil? p65.snd) fun _ ↦
 Option.bind (uncons? p58.snd) fun p68 ↦
 Option.bind
 (obIs
 (Ob.mk OK.box 36 2 0
 [[vbool b36, AV.arr 2 2 0 n37]])
 p68.fst)
 fun _ ↦
 Option.bind (chk p68.fst.ver 0) fun _ ↦
 Option.bind (uncons? p68.fst.es) fun p71 ↦
 Option.bind (nil? p71.snd) fun _ ↦
 Option.bind (uncons? p71.fst) fun p73 ↦
 Option.bind (AV.bool? p73.fst) fun b74 ↦
 Option.bind (uncons? p73.snd) fun p75 ↦
 Option.bind (AV.arr? 2 p75.fst) fun x76 ↦
 Option.bind (chk x76.fst 2) fun _ ↦
 Option.bind (nil? p75.snd) fun _ ↦
 Option.bind (uncons? p68.snd) fun p79 ↦
 Option.bind
 (obIs
 (Ob.mk OK.arr 80 2 2 l38) p79.fst)
 fun _ ↦
 Option.bind (chk p79.fst.ver 2) fun _ ↦
 Option.bind (uncons? p79.snd) fun p82 ↦
 Option.bind
 (obIs
 (Ob.mk OK.box 80 2 0
 [[vu
 (IntKind.wrap IntKind.u64 n45),
 vu
 (IntKind.wrap IntKind.u64 n52)]])
 p82.fst)
 fun _ ↦
 Option.bind (chk p82.fst.ver 0) fun _ ↦
 Option.bind (uncons? p82.fst.es)
 fun p85 ↦
 Option.bind (nil? p85.snd) fun _ ↦
 Option.bind (uncons? p85.fst)
 fun p87 ↦
 Option.bind
 (AV.int? IntKind.u64 p87.fst)
 fun n88 ↦
 Option.bind (uncons? p87.snd)
 fun p89 ↦
 Option.bind
 (AV.int? IntKind.u64
 p89.fst)
 fun n90 ↦
 Option.bind (nil? p89.snd)
 fun _ ↦
 Option.bind (nil? p82.snd)
 fun _ ↦
 if 0 ≤ n56 then
 if n56 ≤ (x76.snd.snd : Int) then
 Option.bind
 (chkLe
 (Nat.add
 (Nat.add x76.snd.fst 0)
 (Nat.sub (Int.toNat n56) 0))
 (List.length
 (Ob.mk
 OK.arr 80 2
 2 p79.fst.es).es))
 fun _ ↦
 bif
 ysOk
 (List.drop
 (Nat.add x76.snd.fst 0)
 (List.take
 (Nat.add
 (Nat.add x76.snd.fst
 0)
 (Nat.sub
 (Int.toNat n56)
 0))
 (Ob.mk
 OK.arr
 80 2 2
 p79.fst.es).es)) then
 if
 Nat.mul
 (Nat.add 0
 (List.length
 (List.drop
 (Nat.add
 x76.snd.fst 0)
 (List.take
 (Nat.add
 (Nat.add
 x76.snd.fst
 0)
 (Nat.sub
 (Int.toNat
 n56)
 0))
 (Ob.mk
 OK.arr
 80 2 2
 p79.fst.es).es))))
 16 ≤
 140737488355328 then
 Option.bind
 (chk
 (Nat.add 0
 (List.length
 (List.drop
 (Nat.add
 x76.snd.fst 0)
 (List.take
 (Nat.add
 (Nat.add
 x76.snd.fst
 0)
 (Nat.sub
 (Int.toNat
 n56)
 0))
 (Ob.mk
 OK.arr
 80 2 2
 p79.fst.es).es))))
 (List.length
 (Ob.mk
 OK.arr
 80 2 2
 ([] ++
 List.drop
 (Nat.add
 x76.snd.fst
 0)
 (List.take
 (Nat.add
 (Nat.add
 x76.snd.fst
 0)
 (Nat.sub
 (Int.toNat
 n56)
 0))
 (Ob.mk
 OK.arr
 80 2 2
 p79.fst.es).es))).es))
 fun _ ↦
 if
 Nat.mul
 (Nat.add
 (List.length
 (Ob.mk
 OK.arr
 80 2 2
 ([] ++
 List.drop
 (Nat.add
 x76.snd.fst
 0)
 (List.take
 (Nat.add
 (Nat.add
 x76.snd.fst
 0)
 (Nat.sub
 (Int.toNat
 n56)
 0))
 (Ob.mk
 OK.arr
 80
 2
 2
 p79.fst.es).es))).es)
 1)
 16 ≤
 140737488355328 then
 if 0 ≤ n56 then
 if
 n56 ≤
 (x76.snd.snd : Int) then
 Option.bind
 (chkLe
 (Nat.add
 (Nat.add
 x76.snd.fst
 (Int.toNat
 n56))
 (Nat.sub
 x76.snd.snd
 (Int.toNat
 n56)))
 (List.length
 (Ob.mk
 OK.arr
 80 2 2
 p79.fst.es).es))
 fun _ ↦
 bif
 ysOk
 (List.drop
 (Nat.add
 x76.snd.fst
 (Int.toNat
 n56))
 (List.take
 (Nat.add
 (Nat.add
 x76.snd.fst
 (Int.toNat
 n56))
 (Nat.sub
 x76.snd.snd
 (Int.toNat
 n56)))
 (Ob.mk
 OK.arr
 80 2
 2
 p79.fst.es).es)) then
 Option.bind
 (chk
 (Nat.add
 (List.length
 (Ob.mk
 OK.arr
 80 2
 2
 ([] ++
 List.drop
 (Nat.add
 x76.snd.fst
 0)
 (List.take
 (Nat.add
 (Nat.add
 x76.snd.fst
 0)
 (Nat.sub
 (Int.toNat
 n56)
 0))
 (Ob.mk
 OK.arr
 80
 2
 2
 p79.fst.es).es))).es)
 1)
 (List.length
 (Ob.mk
 OK.arr
 80 2 2
 ((Ob.mk
 OK.arr
 80
 2
 2
 ([] ++
 List.drop
 (Nat.add
 x76.snd.fst
 0)
 (List.take
 (Nat.add
 (Nat.add
 x76.snd.fst
 0)
 (Nat.sub
 (Int.toNat
 n56)
 0))
 (Ob.mk
 OK.arr
 80
 2
 2
 p79.fst.es).es))).es ++
 [[vu
 n88,
 vu
 n90]])).es))
 fun _ ↦
 if
 Nat.mul
 (Nat.add
 (List.length
 (Ob.mk
 OK.arr
 80
 2
 2
 ((Ob.mk
 OK.arr
 80
 2
 2
 ([] ++
 List.drop
 (Nat.add
 x76.snd.fst
 0)
 (List.take
 (Nat.add
 (Nat.add
 x76.snd.fst
 0)
 (Nat.sub
 (Int.toNat
 n56)
 0))
 (Ob.mk
 OK.arr
 80
 2
 2
 p79.fst.es).es))).es ++
 [[vu
 n88,
 vu
 n90]])).es)
 (List.length
 (List.drop
 (Nat.add
 x76.snd.fst
 (Int.toNat
 n56))
 (List.take
 (Nat.add
 (Nat.add
 x76.snd.fst
 (Int.toNat
 n56))
 (Nat.sub
 x76.snd.snd
 (Int.toNat
 n56)))
 (Ob.mk
 OK.arr
 80
 2
 2
 p79.fst.es).es))))
 16 ≤
 140737488355328 then
 E
 cx
 (Key.loop
 37
 [true,
 true,
 false,
 true,
 false])
 [vi
 (IntKind.wrap
 IntKind.i64
 (Int.add
 x33
 1)),
 AV.list
 0 1
 l34,
 AV.ptr
 0 0 0
 0,
 AV.ptr
 1 0 0
 0]
 [Ob.mk
 OK.box
 36 2 0
 [[vbool
 b64,
 AV.val
 (Value.slice
 none
 0
 0)]],
 Ob.mk
 OK.box
 36 2 0
 [[vbool
 b74,
 AV.arr
 2
 2
 0
 (Nat.add
 (List.length
 (Ob.mk
 OK.arr
 80
 2
 2
 ((Ob.mk
 OK.arr
 80
 2
 2
 ([] ++
 List.drop
 (Nat.add
 x76.snd.fst
 0)
 (List.take
 (Nat.add
 (Nat.add
 x76.snd.fst
 0)
 (Nat.sub
 (Int.toNat
 n56)
 0))
 (Ob.mk
 OK.arr
 80
 2
 2
 p79.fst.es).es))).es ++
 [[vu
 n88,
 vu
 n90]])).es)
 (List.length
 (List.drop
 (Nat.add
 x76.snd.fst
 (Int.toNat
 n56))
 (List.take
 (Nat.add
 (Nat.add
 x76.snd.fst
 (Int.toNat
 n56))
 (Nat.sub
 x76.snd.snd
 (Int.toNat
 n56)))
 (Ob.mk
 OK.arr
 80
 2
 2
 p79.fst.es).es))))]],
 Ob.mk
 OK.arr
 80 2 2
 ((Ob.mk
 OK.arr
 80
 2
 2
 ((Ob.mk
 OK.arr
 80
 2
 2
 ([] ++
 List.drop
 (Nat.add
 x76.snd.fst
 0)
 (List.take
 (Nat.add
 (Nat.add
 x76.snd.fst
 0)
 (Nat.sub
 (Int.toNat
 n56)
 0))
 (Ob.mk
 OK.arr
 80
 2
 2
 p79.fst.es).es))).es ++
 [[vu
 n88,
 vu
 n90]])).es ++
 List.drop
 (Nat.add
 x76.snd.fst
 (Int.toNat
 n56))
 (List.take
 (Nat.add
 (Nat.add
 x76.snd.fst
 (Int.toNat
 n56))
 (Nat.sub
 x76.snd.snd
 (Int.toNat
 n56)))
 (Ob.mk
 OK.arr
 80
 2
 2
 p79.fst.es).es))]
 else none
 else none
 else none
 else none
 else none
 else none
 else none
 else none
 else none
 else none
 else none
 else none
 else
 some
 (Out.jump (JX.exit 0) [vi x33],
 [Ob.mk OK.box 36 2 0 [[vbool b35, AV.val (Value.slice none 0 0)]],
 Ob.mk OK.box 36 2 0 [[vbool b36, AV.arr 2 2 0 n37]],
 Ob.mk OK.arr 80 2 2 l38])
 else
 some
 (Out.jump (JX.exit 0) [vi x33],
 [Ob.mk OK.box 36 2 0 [[vbool b35, AV.val (Value.slice none 0 0)]],
 Ob.mk OK.box 36 2 0 [[vbool b36, AV.arr 2 2 0 n37]],
 Ob.mk OK.arr 80 2 2 l38]) := by
 intros
 exact (E_in [188] _ _ _).trans (by kernel_rfl)
theorem f37_l0_l1 : ∀ (x97 : Int) (l98 : List (List AV)) (x99 : Int) (b100 b101 : Bool) (n102 : Nat) (l103 : List (List AV)) (x104 x105 : Int),
 E cx (Key.loop 37 [true, true, false, true, false, false, true, false, false, true, true, false, false])
 [vi x97, AV.list 0 1 l98, AV.ptr 0 0 0 0, AV.ptr 1 0 0 0, vi x99,
 AV.ptr 3 0 0 0]
 [Ob.mk OK.box 36 2 0 [[vbool b100, AV.val (Value.slice none 0 0)]],
 Ob.mk OK.box 36 2 0 [[vbool b101, AV.arr 2 2 0 n102]],
 Ob.mk OK.arr 80 2 2 l103, Ob.mk OK.box 80 2 0 [[vu x104, vu x105]]] =
 bif decide (x97 > 0) then
 if 0 ≤ IntKind.wrap IntKind.i64 (Int.sub x97 1) then
 if IntKind.wrap IntKind.i64 (Int.sub x97 1) < (n102 : Int) then
 Option.bind (nth l103 (Nat.add 0 (Int.toNat (IntKind.wrap IntKind.i64 (Int.sub x97 1))))) fun cs106 ↦
 Option.bind (uncons? cs106) fun p107 ↦
 Option.bind (AV.int? IntKind.u64 p107.fst) fun n108 ↦
 Option.bind (uncons? p107.snd) fun p109 ↦
 Option.bind (AV.int? IntKind.u64 p109.fst) fun n110 ↦
 Option.bind (nil? p109.snd) fun _ ↦
 Option.bind
 (E cx (Key.fn 105)
 [AV.agg [vu x104, vu x105], AV.agg [vu n108, vu n110]]
 [])
 fun r112 ↦
 Option.bind (ret1 r112) fun v113 ↦
 Option.bind (AV.bool? v113) fun b114 ↦
 bif b114 then
 E cx
 (Key.loop 37 [true, true, false, true, false, false, true, false, false, true, true, false, false])
 [vi (IntKind.wrap IntKind.i64 (Int.sub x97 1)), AV.list 0 1 l98, AV.ptr 0 0 0 0,
 AV.ptr 1 0 0 0, vi x99, AV.ptr 3 0 0 0]
 [Ob.mk OK.box 36 2 0 [[vbool b100, AV.val (Value.slice none 0 0)]],
 Ob.mk OK.box 36 2 0 [[vbool b101, AV.arr 2 2 0 n102]],
 Ob.mk OK.arr 80 2 2 l103,
 Ob.mk OK.box 80 2 0 [[vu x104, vu x105]]]
 else
 some
 (Out.jump (JX.exit 2) [vi x97],
 [Ob.mk OK.box 36 2 0 [[vbool b100, AV.val (Value.slice none 0 0)]],
 Ob.mk OK.box 36 2 0 [[vbool b101, AV.arr 2 2 0 n102]],
 Ob.mk OK.arr 80 2 2 l103,
 Ob.mk OK.box 80 2 0 [[vu x104, vu x105]]])
 else none
 else none
 else
 some
 (Out.jump (JX.exit 2) [vi x97],
 [Ob.mk OK.box 36 2 0 [[vbool b100, AV.val (Value.slice none 0 0)]],
 Ob.mk OK.box 36 2 0 [[vbool b101, AV.arr 2 2 0 n102]],
 Ob.mk OK.arr 80 2 2 l103, Ob.mk OK.box 80 2 0 [[vu x104, vu x105]]]) := by
 intros
 exact (E_in [188] _ _ _).trans (by kernel_rfl)
theorem f38 : ∀ (t115 : Bool) (t116 : List (List AV)),
 E cx (Key.fn 38) [AV.agg [vbool t115, AV.list 0 2 t116]] [] =
 Option.bind (E cx (Key.fn 40) [AV.agg [vbool t115, AV.list 0 2 t116]] [])
 fun r117 ↦
 Option.bind (ret1 r117) fun v118 ↦
 Option.bind (AV.bool? v118) fun b119 ↦
 bif b119 then
 bif t115 then
 Option.bind
 (E cx (Key.loop 38 [true, true, true, true, false, true, false])
 [AV.arr 1 1 0 1, vi 0, AV.list 0 2 t116, vi ((List.length t116) : Int)]
 [Ob.mk OK.box 36 2 0 [[vbool t115, AV.list 0 2 t116]],
 Ob.mk OK.arr 5 1 1 [[vb 1]]])
 fun r120 ↦
 Option.bind (asJump r120) fun j121 ↦
 bif JX.is j121.fst (JX.exit 0) then
 Option.bind (uncons? j121.snd.fst) fun p122 ↦
 Option.bind (AV.arr? 1 p122.fst) fun x123 ↦
 Option.bind (chk x123.fst 1) fun _ ↦
 Option.bind (uncons? p122.snd) fun p125 ↦
 Option.bind (AV.int? IntKind.i64 p125.fst) fun _ ↦
 Option.bind (nil? p125.snd) fun _ ↦
 Option.bind (uncons? j121.snd.snd) fun p128 ↦
 Option.bind
 (obIs
 (Ob.mk OK.box 36 2 0 [[vbool t115, AV.list 0 2 t116]]) p128.fst)
 fun _ ↦
 Option.bind (chk p128.fst.ver 0) fun _ ↦
 Option.bind (uncons? p128.fst.es) fun p131 ↦
 Option.bind (nil? p131.snd) fun _ ↦
 Option.bind (uncons? p131.fst) fun p133 ↦
 Option.bind (AV.bool? p133.fst) fun b134 ↦
 Option.bind (uncons? p133.snd) fun p135 ↦
 Option.bind (AV.list? 2 p135.fst) fun es136 ↦
 Option.bind (nil? p135.snd) fun _ ↦
 Option.bind (uncons? p128.snd) fun p138 ↦
 Option.bind
 (obIs (Ob.mk OK.arr 5 1 1 [[vb 1]]) p138.fst)
 fun _ ↦
 Option.bind (chk p138.fst.ver 1) fun _ ↦
 Option.bind (nil? p138.snd) fun _ ↦
 Option.bind
 (yRows
 [Ob.mk OK.box 36 2 0
 [[vbool b134, AV.list 0 2 es136]],
 Ob.mk OK.arr 5 1 1 p138.fst.es]
 1 (AV.arr 1 1 x123.snd.fst x123.snd.snd))
 fun ys142 ↦
 Option.bind (numsOf ys142) fun ns143 ↦
 some
 (Out.ret
 (AV.tuple [vs (Go.strOfNums ns143), vi 0]),
 [])
 else none
 else
 Option.bind
 (E cx (Key.loop 38 [true, true, true, true, false, true, false])
 [AV.arr 1 1 0 1, vi 0, AV.list 0 2 t116, vi ((List.length t116) : Int)]
 [Ob.mk OK.box 36 2 0 [[vbool t115, AV.list 0 2 t116]],
 Ob.mk OK.arr 5 1 1 [[vb 0]]])
 fun r144 ↦
 Option.bind (asJump r144) fun j145 ↦
 bif JX.is j145.fst (JX.exit 0) then
 Option.bind (uncons? j145.snd.fst) fun p146 ↦
 Option.bind (AV.arr? 1 p146.fst) fun x147 ↦
 Option.bind (chk x147.fst 1) fun _ ↦
 Option.bind (uncons? p146.snd) fun p149 ↦
 Option.bind (AV.int? IntKind.i64 p149.fst) fun _ ↦
 Option.bind (nil? p149.snd) fun _ ↦
 Option.bind (uncons? j145.snd.snd) fun p152 ↦
 Option.bind
 (obIs
 (Ob.mk OK.box 36 2 0 [[vbool t115, AV.list 0 2 t116]]) p152.fst)
 fun _ ↦
 Option.bind (chk p152.fst.ver 0) fun _ ↦
 Option.bind (uncons? p152.fst.es) fun p155 ↦
 Option.bind (nil? p155.snd) fun _ ↦
 Option.bind (uncons? p155.fst) fun p157 ↦
 Option.bind (AV.bool? p157.fst) fun b158 ↦
 Option.bind (uncons? p157.snd) fun p159 ↦
 Option.bind (AV.list? 2 p159.fst) fun es160 ↦
 Option.bind (nil? p159.snd) fun _ ↦
 Option.bind (uncons? p152.snd) fun p162 ↦
 Option.bind
 (obIs (Ob.mk OK.arr 5 1 1 [[vb 0]]) p162.fst)
 fun _ ↦
 Option.bind (chk p162.fst.ver 1) fun _ ↦
 Option.bind (nil? p162.snd) fun _ ↦
 Option.bind
 (yRows
 [Ob.mk OK.box 36 2 0
 [[vbool b158, AV.list 0 2 es160]],
 Ob.mk OK.arr 5 1 1 p162.fst.es]
 1 (AV.arr 1 1 x147.snd.fst x147.snd.snd))
 fun ys166 ↦
 Option.bind (numsOf ys166) fun ns167 ↦
 some
 (Out.ret
 (AV.tuple [vs (Go.strOfNums ns167), vi 0]),
 [])
 else none
 else some (Out.ret (AV.tuple [vs (ByteArray.mk (Array.mk [])), vi 1]), []) := by
 intros
 exact (E_in [188] _ _ _).trans (by kernel_rfl)
theorem f38_l0 : ∀ (n168 : Nat) (x169 : Int) (l170 : List (List AV)) (x171 : Int) (b172 : Bool) (l173 l174 : List (List AV)),
 E cx (Key.loop 38 [true, true, true, true, false, true, false])
 [AV.arr 1 1 0 n168, vi x169, AV.list 0 2 l170, vi x171]
 [Ob.mk OK.box 36 2 0 [[vbool b172, AV.list 0 2 l173]],
 Ob.mk OK.arr 5 1 1 l174] =
 bif decide (x169 < x171) then
 if 0 ≤ x169 then
 Option.bind l170[Int.toNat x169]? fun cs175 ↦
 Option.bind (uncons? cs175) fun p176 ↦
 Option.bind (AV.int? IntKind.u64 p176.fst) fun n177 ↦
 Option.bind (uncons? p176.snd) fun p178 ↦
 Option.bind (AV.int? IntKind.u64 p178.fst) fun n179 ↦
 Option.bind (nil? p178.snd) fun _ ↦
 Option.bind (E cx (Key.fn 106) [vu n177, vi 8] []) fun r181 ↦
 Option.bind (ret1 r181) fun v182 ↦
 Option.bind (AV.str? v182) fun s183 ↦
 bif ysOk (strRows s183) then
 Option.bind (chk n168 (List.length (Ob.mk OK.arr 5 1 1 l174).es)) fun _ ↦
 if
 Nat.mul
 (Nat.add (List.length (Ob.mk OK.arr 5 1 1 l174).es) (List.length (strRows s183)))
 1 ≤
 140737488355328 then
 Option.bind (E cx (Key.fn 106) [vu n179, vi 8] []) fun r185 ↦
 Option.bind (ret1 r185) fun v186 ↦
 Option.bind (AV.str? v186) fun s187 ↦
 bif ysOk (strRows s187) then
 Option.bind
 (chk
 (Nat.add (List.length (Ob.mk OK.arr 5 1 1 l174).es)
 (List.length (strRows s183)))
 (List.length
 (Ob.mk OK.arr 5 1 1
 ((Ob.mk OK.arr 5 1 1 l174).es ++ strRows s183)).es))
 fun _ ↦
 if
 Nat.mul
 (Nat.add
 (List.length
 (Ob.mk OK.arr 5 1 1
 ((Ob.mk OK.arr 5 1 1 l174).es ++ strRows s183)).es)
 (List.length (strRows s187)))
 1 ≤
 140737488355328 then
 E cx (Key.loop 38 [true, true, true, true, false, true, false])
 [AV.arr 1 1 0
 (Nat.add
 (List.length
 (Ob.mk OK.arr 5 1 1
 ((Ob.mk OK.arr 5 1 1 l174).es ++ strRows s183)).es)
 (List.length (strRows s187))),
 vi (IntKind.wrap IntKind.i64 (Int.add x169 1)), AV.list 0 2 l170,
 vi x171]
 [Ob.mk OK.box 36 2 0 [[vbool b172, AV.list 0 2 l173]],
 Ob.mk OK.arr 5 1 1
 ((Ob.mk OK.arr 5 1 1
 ((Ob.mk OK.arr 5 1 1 l174).es ++ strRows s183)).es ++
 strRows s187)]
 else none
 else none
 else none
 else none
 else none
 else
 some
 (Out.jump (JX.exit 0) [AV.arr 1 1 0 n168, vi x169],
 [Ob.mk OK.box 36 2 0 [[vbool b172, AV.list 0 2 l173]],
 Ob.mk OK.arr 5 1 1 l174]) := by
 intros
 exact (E_in [188] _ _ _).trans (by kernel_rfl)
theorem f40 : ∀ (t252 : Bool) (t253 : List (List AV)),
 E cx (Key.fn 40) [AV.agg [vbool t252, AV.list 0 2 t253]] [] =
 bif decide (((List.length t253) : Int) ≤ 2048) then
 Option.bind (E cx (Key.fn 108) [AV.list 0 2 t253, AV.func (Fn.func 109) [] []] [])
 fun r254 ↦
 Option.bind (ret1 r254) fun v255 ↦
 Option.bind (AV.bool? v255) fun b256 ↦
 bif b256 then some (Out.ret (vbool true), []) else some (Out.ret (vbool false), [])
 else some (Out.ret (vbool false), []) := by
 intros
 exact (E_in [188] _ _ _).trans (by kernel_rfl)
theorem f40_c0 : ∀ (l257 : List (List AV)),
 E cx (Key.fn 108) [AV.list 0 2 l257, AV.func (Fn.func 109) [] []] [] =
 Option.bind
 (E cx (Key.loop 108 [true, false, true, false])
 [vbool false, vi (IntKind.wrap IntKind.i64 (Int.sub (((List.length l257) : Int)) 1)), AV.list 0 2 l257,
 AV.func (Fn.func 109) [] []]
 [])
 fun r258 ↦
 Option.bind (asJump r258) fun j259 ↦
 bif JX.is j259.fst (JX.exit 0) then
 Option.bind (uncons? j259.snd.fst) fun p260 ↦
 Option.bind (AV.bool? p260.fst) fun _ ↦
 Option.bind (uncons? p260.snd) fun p262 ↦
 Option.bind (AV.int? IntKind.i64 p262.fst) fun _ ↦
 Option.bind (nil? p262.snd) fun _ ↦
 Option.bind (nil? j259.snd.snd) fun _ ↦ some (Out.ret (vbool true), [])
 else
 bif JX.is j259.fst JX.ret then
 Option.bind (uncons? j259.snd.fst) fun p266 ↦
 Option.bind (AV.bool? p266.fst) fun b267 ↦
 Option.bind (uncons? p266.snd) fun p268 ↦
 Option.bind (AV.int? IntKind.i64 p268.fst) fun _ ↦
 Option.bind (nil? p268.snd) fun _ ↦
 Option.bind (nil? j259.snd.snd) fun _ ↦ some (Out.ret (vbool b267), [])
 else none := by
 intros
 exact (E_in [188] _ _ _).trans (by kernel_rfl)
theorem f40_c0_l1 : ∀ (b272 : Bool) (x273 : Int) (l274 : List (List AV)),
 E cx (Key.loop 108 [true, false, true, false])
 [vbool b272, vi x273, AV.list 0 2 l274, AV.func (Fn.func 109) [] []] [] =
 bif decide (x273 > 0) then
 if 0 ≤ x273 then
 Option.bind l274[Int.toNat x273]? fun cs275 ↦
 Option.bind (uncons? cs275) fun p276 ↦
 Option.bind (AV.int? IntKind.u64 p276.fst) fun n277 ↦
 Option.bind (uncons? p276.snd) fun p278 ↦
 Option.bind (AV.int? IntKind.u64 p278.fst) fun n279 ↦
 Option.bind (nil? p278.snd) fun _ ↦
 if 0 ≤ IntKind.wrap IntKind.i64 (Int.sub x273 1) then
 Option.bind l274[Int.toNat (IntKind.wrap IntKind.i64 (Int.sub x273 1))]? fun cs281 ↦
 Option.bind (uncons? cs281) fun p282 ↦
 Option.bind (AV.int? IntKind.u64 p282.fst) fun n283 ↦
 Option.bind (uncons? p282.snd) fun p284 ↦
 Option.bind (AV.int? IntKind.u64 p284.fst) fun n285 ↦
 Option.bind (nil? p284.snd) fun _ ↦
 Option.bind
 (E cx (Key.fn 109)
 [AV.agg [vu n277, vu n279],
 AV.agg [vu n283, vu n285]]
 [])
 fun r287 ↦
 Option.bind (ret1 r287) fun v288 ↦
 Option.bind (AV.int? IntKind.i64 v288) fun n289 ↦
 bif decide (n289 < 0) then
 some (Out.jump JX.ret [vbool false, vi x273], [])
 else
 E cx (Key.loop 108 [true, false, true, false])
 [vbool b272, vi (IntKind.wrap IntKind.i64 (Int.sub x273 1)),
 AV.list 0 2 l274, AV.func (Fn.func 109) [] []]
 []
 else none
 else none
 else some (Out.jump (JX.exit 0) [vbool b272, vi x273], []) := by
 intros
 exact (E_in [188] _ _ _).trans (by kernel_rfl)
theorem f47 : ∀ (a828 : Bool) (a829 : List (List AV)) (b830 : Bool) (b831 : List (List AV)),
 E cx (Key.fn 47)
 [AV.agg [vbool a828, AV.list 0 2 a829],
 AV.agg [vbool b830, AV.list 0 2 b831]]
 [] =
 bif !decide (a828 = b830) then some (Out.ret (vbool false), [])
 else
 bif ((List.length a829) : Int) != ((List.length b831) : Int) then some (Out.ret (vbool false), [])
 else
 Option.bind
 (E cx (Key.loop 47 [true, true, false, true, false])
 [vbool false, vi 0, AV.ptr 0 0 0 0, AV.ptr 1 0 0 0]
 [Ob.mk OK.box 36 2 0 [[vbool a828, AV.list 0 2 a829]],
 Ob.mk OK.box 36 2 0 [[vbool b830, AV.list 0 2 b831]]])
 fun r832 ↦
 Option.bind (asJump r832) fun j833 ↦
 bif JX.is j833.fst (JX.exit 0) then
 Option.bind (uncons? j833.snd.fst) fun p834 ↦
 Option.bind (AV.bool? p834.fst) fun _ ↦
 Option.bind (uncons? p834.snd) fun p836 ↦
 Option.bind (AV.int? IntKind.i64 p836.fst) fun _ ↦
 Option.bind (nil? p836.snd) fun _ ↦
 Option.bind (uncons? j833.snd.snd) fun p839 ↦
 Option.bind
 (obIs (Ob.mk OK.box 36 2 0 [[vbool a828, AV.list 0 2 a829]])
 p839.fst)
 fun _ ↦
 Option.bind (chk p839.fst.ver 0) fun _ ↦
 Option.bind (uncons? p839.fst.es) fun p842 ↦
 Option.bind (nil? p842.snd) fun _ ↦
 Option.bind (uncons? p842.fst) fun p844 ↦
 Option.bind (AV.bool? p844.fst) fun _ ↦
 Option.bind (uncons? p844.snd) fun p846 ↦
 Option.bind (AV.list? 2 p846.fst) fun _ ↦
 Option.bind (nil? p846.snd) fun _ ↦
 Option.bind (uncons? p839.snd) fun p849 ↦
 Option.bind
 (obIs
 (Ob.mk OK.box 36 2 0 [[vbool b830, AV.list 0 2 b831]])
 p849.fst)
 fun _ ↦
 Option.bind (chk p849.fst.ver 0) fun _ ↦
 Option.bind (uncons? p849.fst.es) fun p852 ↦
 Option.bind (nil? p852.snd) fun _ ↦
 Option.bind (uncons? p852.fst) fun p854 ↦
 Option.bind (AV.bool? p854.fst) fun _ ↦
 Option.bind (uncons? p854.snd) fun p856 ↦
 Option.bind (AV.list? 2 p856.fst) fun _ ↦
 Option.bind (nil? p856.snd) fun _ ↦
 Option.bind (nil? p849.snd) fun _ ↦
 some (Out.ret (vbool true), [])
 else
 bif JX.is j833.fst JX.ret then
 Option.bind (uncons? j833.snd.fst) fun p860 ↦
 Option.bind (AV.bool? p860.fst) fun b861 ↦
 Option.bind (uncons? p860.snd) fun p862 ↦
 Option.bind (AV.int? IntKind.i64 p862.fst) fun _ ↦
 Option.bind (nil? p862.snd) fun _ ↦
 Option.bind (uncons? j833.snd.snd) fun p865 ↦
 Option.bind
 (obIs (Ob.mk OK.box 36 2 0 [[vbool a828, AV.list 0 2 a829]])
 p865.fst)
 fun _ ↦
 Option.bind (chk p865.fst.ver 0) fun _ ↦
 Option.bind (uncons? p865.fst.es) fun p868 ↦
 Option.bind (nil? p868.snd) fun _ ↦
 Option.bind (uncons? p868.fst) fun p870 ↦
 Option.bind (AV.bool? p870.fst) fun _ ↦
 Option.bind (uncons? p870.snd) fun p872 ↦
 Option.bind (AV.list? 2 p872.fst) fun _ ↦
 Option.bind (nil? p872.snd) fun _ ↦
 Option.bind (uncons? p865.snd) fun p875 ↦
 Option.bind
 (obIs
 (Ob.mk OK.box 36 2 0 [[vbool b830, AV.list 0 2 b831]])
 p875.fst)
 fun _ ↦
 Option.bind (chk p875.fst.ver 0) fun _ ↦
 Option.bind (uncons? p875.fst.es) fun p878 ↦
 Option.bind (nil? p878.snd) fun _ ↦
 Option.bind (uncons? p878.fst) fun p880 ↦
 Option.bind (AV.bool? p880.fst) fun _ ↦
 Option.bind (uncons? p880.snd) fun p882 ↦
 Option.bind (AV.list? 2 p882.fst) fun _ ↦
 Option.bind (nil? p882.snd) fun _ ↦
 Option.bind (nil? p875.snd) fun _ ↦
 some (Out.ret (vbool b861), [])
 else none := by
 intros
 exact (E_in [188] _ _ _).trans (by kernel_rfl)
theorem f47_l0 : ∀ (b886 : Bool) (x887 : Int) (b888 : Bool) (l889 : List (List AV)) (b890 : Bool) (l891 : List (List AV)),
 E cx (Key.loop 47 [true, true, false, true, false])
 [vbool b886, vi x887, AV.ptr 0 0 0 0, AV.ptr 1 0 0 0]
 [Ob.mk OK.box 36 2 0 [[vbool b888, AV.list 0 2 l889]],
 Ob.mk OK.box 36 2 0 [[vbool b890, AV.list 0 2 l891]]] =
 bif decide (x887 < ((List.length l889) : Int)) then
 if 0 ≤ x887 then
 Option.bind l889[Int.toNat x887]? fun cs892 ↦
 Option.bind (uncons? cs892) fun p893 ↦
 Option.bind (AV.int? IntKind.u64 p893.fst) fun n894 ↦
 Option.bind (uncons? p893.snd) fun p895 ↦
 Option.bind (AV.int? IntKind.u64 p895.fst) fun n896 ↦
 Option.bind (nil? p895.snd) fun _ ↦
 if 0 ≤ x887 then
 Option.bind l891[Int.toNat x887]? fun cs898 ↦
 Option.bind (uncons? cs898) fun p899 ↦
 Option.bind (AV.int? IntKind.u64 p899.fst) fun n900 ↦
 Option.bind (uncons? p899.snd) fun p901 ↦
 Option.bind (AV.int? IntKind.u64 p901.fst) fun n902 ↦
 Option.bind (nil? p901.snd) fun _ ↦
 bif !(decide (n894 = n900) && (decide (n896 = n902) && true)) then
 some
 (Out.jump JX.ret [vbool false, vi x887],
 [Ob.mk OK.box 36 2 0 [[vbool b888, AV.list 0 2 l889]],
 Ob.mk OK.box 36 2 0 [[vbool b890, AV.list 0 2 l891]]])
 else
 E cx (Key.loop 47 [true, true, false, true, false])
 [vbool b886, vi (IntKind.wrap IntKind.i64 (Int.add x887 1)), AV.ptr 0 0 0 0,
 AV.ptr 1 0 0 0]
 [Ob.mk OK.box 36 2 0 [[vbool b888, AV.list 0 2 l889]],
 Ob.mk OK.box 36 2 0 [[vbool b890, AV.list 0 2 l891]]]
 else none
 else none
 else
 some
 (Out.jump (JX.exit 0) [vbool b886, vi x887],
 [Ob.mk OK.box 36 2 0 [[vbool b888, AV.list 0 2 l889]],
 Ob.mk OK.box 36 2 0 [[vbool b890, AV.list 0 2 l891]]]) := by
 intros
 exact (E_in [188] _ _ _).trans (by kernel_rfl)
theorem f48 : ∀ (c904 n905 : Int),
 E cx (Key.fn 48) [vi c904, vi n905] [] =
 bif decide (c904 < 0) then
 if n905 = 0 then none
 else
 some
 (Out.ret
 (vi (Int.tmod (IntKind.wrap IntKind.i64 (Int.sub 0 (IntKind.wrap IntKind.i64 (Int.add c904 1)))) n905)),
 [])
 else if n905 = 0 then none else some (Out.ret (vi (Int.tmod c904 n905)), []) := by
 intros
 exact (E_in [188] _ _ _).trans (by kernel_rfl)
theorem f49 : ∀ (s906 : ByteArray),
 E cx (Key.fn 49) [vs s906] [] =
 bif Int.tmod (((ByteArray.size s906) : Int)) 16 != 1 then
 some
 (Out.ret
 (AV.tuple [AV.agg [vbool false, AV.val (Value.slice none 0 0)], vi 2]),
 [])
 else
 Option.bind s906[0]? fun b907 ↦
 bif decide (((UInt8.toNat b907) : Int) > 1) then
 some
 (Out.ret
 (AV.tuple [AV.agg [vbool false, AV.val (Value.slice none 0 0)], vi 2]),
 [])
 else
 Option.bind s906[0]? fun b908 ↦
 bif decide (((UInt8.toNat b908) : Int) = 1) then
 if 1 ≤ ((ByteArray.size s906) : Int) then
 Option.bind
 (E cx (Key.loop 49 [true, true, true, true, true, false, false])
 [AV.ptr 0 0 0 0, AV.ptr 1 0 0 0, AV.func (Fn.func 115) [] [AV.ptr 1 0 0 0]]
 [Ob.mk OK.box 36 2 0 [[vbool true, AV.arr 2 2 0 0]],
 Ob.mk OK.box 9 1 0 [[vs (ByteArray.extract s906 1 (ByteArray.size s906))]],
 Ob.mk OK.arr 80 2 2 []])
 fun r909 ↦
 Option.bind (asJump r909) fun j910 ↦
 bif JX.is j910.fst (JX.exit 0) then
 Option.bind (nil? j910.snd.fst) fun _ ↦
 Option.bind (uncons? j910.snd.snd) fun p912 ↦
 Option.bind
 (obIs (Ob.mk OK.box 36 2 0 [[vbool true, AV.arr 2 2 0 0]])
 p912.fst)
 fun _ ↦
 Option.bind (chk p912.fst.ver 0) fun _ ↦
 Option.bind (uncons? p912.fst.es) fun p915 ↦
 Option.bind (nil? p915.snd) fun _ ↦
 Option.bind (uncons? p915.fst) fun p917 ↦
 Option.bind (AV.bool? p917.fst) fun b918 ↦
 Option.bind (uncons? p917.snd) fun p919 ↦
 Option.bind (AV.arr? 2 p919.fst) fun x920 ↦
 Option.bind (chk x920.fst 2) fun _ ↦
 Option.bind (nil? p919.snd) fun _ ↦
 Option.bind (uncons? p912.snd) fun p923 ↦
 Option.bind
 (obIs
 (Ob.mk OK.box 9 1 0
 [[vs (ByteArray.extract s906 1 (ByteArray.size s906))]])
 p923.fst)
 fun _ ↦
 Option.bind (chk p923.fst.ver 0) fun _ ↦
 Option.bind (uncons? p923.fst.es) fun p926 ↦
 Option.bind (nil? p926.snd) fun _ ↦
 Option.bind (uncons? p926.fst) fun p928 ↦
 Option.bind (AV.str? p928.fst) fun _ ↦
 Option.bind (nil? p928.snd) fun _ ↦
 Option.bind (uncons? p923.snd) fun p931 ↦
 Option.bind (obIs (Ob.mk OK.arr 80 2 2 []) p931.fst)
 fun _ ↦
 Option.bind (chk p931.fst.ver 2) fun _ ↦
 Option.bind (nil? p931.snd) fun _ ↦
 Option.bind
 (chkLe (Nat.add x920.snd.fst x920.snd.snd) (List.length p931.fst.es))
 fun _ ↦
 Option.bind
 (E cx (Key.fn 108)
 [AV.list 0 2
 (List.drop x920.snd.fst
 (List.take (Nat.add x920.snd.fst x920.snd.snd) p931.fst.es)),
 AV.func (Fn.func 109) [] []]
 [])
 fun r936 ↦
 Option.bind (ret1 r936) fun v937 ↦
 Option.bind (AV.bool? v937) fun b938 ↦
 bif b938 then
 bif decide ((x920.snd.snd : Int) > 2048) then
 some
 (Out.ret
 (AV.tuple
 [AV.agg
 [vbool false,
 AV.val (Value.slice none 0 0)],
 vi 4]),
 [])
 else
 Option.bind
 (chkLe (Nat.add x920.snd.fst x920.snd.snd)
 (List.length p931.fst.es))
 fun _ ↦
 some
 (Out.ret
 (AV.tuple
 [AV.agg
 [vbool b918,
 AV.list 0 2
 (List.drop x920.snd.fst
 (List.take (Nat.add x920.snd.fst x920.snd.snd)
 p931.fst.es))],
 vi 0]),
 [])
 else
 some
 (Out.ret
 (AV.tuple
 [AV.agg
 [vbool false,
 AV.val (Value.slice none 0 0)],
 vi 2]),
 [])
 else none
 else none
 else
 if 1 ≤ ((ByteArray.size s906) : Int) then
 Option.bind
 (E cx (Key.loop 49 [true, true, true, true, true, false, false])
 [AV.ptr 0 0 0 0, AV.ptr 1 0 0 0, AV.func (Fn.func 115) [] [AV.ptr 1 0 0 0]]
 [Ob.mk OK.box 36 2 0 [[vbool false, AV.arr 2 2 0 0]],
 Ob.mk OK.box 9 1 0 [[vs (ByteArray.extract s906 1 (ByteArray.size s906))]],
 Ob.mk OK.arr 80 2 2 []])
 fun r940 ↦
 Option.bind (asJump r940) fun j941 ↦
 bif JX.is j941.fst (JX.exit 0) then
 Option.bind (nil? j941.snd.fst) fun _ ↦
 Option.bind (uncons? j941.snd.snd) fun p943 ↦
 Option.bind
 (obIs (Ob.mk OK.box 36 2 0 [[vbool false, AV.arr 2 2 0 0]])
 p943.fst)
 fun _ ↦
 Option.bind (chk p943.fst.ver 0) fun _ ↦
 Option.bind (uncons? p943.fst.es) fun p946 ↦
 Option.bind (nil? p946.snd) fun _ ↦
 Option.bind (uncons? p946.fst) fun p948 ↦
 Option.bind (AV.bool? p948.fst) fun b949 ↦
 Option.bind (uncons? p948.snd) fun p950 ↦
 Option.bind (AV.arr? 2 p950.fst) fun x951 ↦
 Option.bind (chk x951.fst 2) fun _ ↦
 Option.bind (nil? p950.snd) fun _ ↦
 Option.bind (uncons? p943.snd) fun p954 ↦
 Option.bind
 (obIs
 (Ob.mk OK.box 9 1 0
 [[vs (ByteArray.extract s906 1 (ByteArray.size s906))]])
 p954.fst)
 fun _ ↦
 Option.bind (chk p954.fst.ver 0) fun _ ↦
 Option.bind (uncons? p954.fst.es) fun p957 ↦
 Option.bind (nil? p957.snd) fun _ ↦
 Option.bind (uncons? p957.fst) fun p959 ↦
 Option.bind (AV.str? p959.fst) fun _ ↦
 Option.bind (nil? p959.snd) fun _ ↦
 Option.bind (uncons? p954.snd) fun p962 ↦
 Option.bind (obIs (Ob.mk OK.arr 80 2 2 []) p962.fst)
 fun _ ↦
 Option.bind (chk p962.fst.ver 2) fun _ ↦
 Option.bind (nil? p962.snd) fun _ ↦
 Option.bind
 (chkLe (Nat.add x951.snd.fst x951.snd.snd) (List.length p962.fst.es))
 fun _ ↦
 Option.bind
 (E cx (Key.fn 108)
 [AV.list 0 2
 (List.drop x951.snd.fst
 (List.take (Nat.add x951.snd.fst x951.snd.snd) p962.fst.es)),
 AV.func (Fn.func 109) [] []]
 [])
 fun r967 ↦
 Option.bind (ret1 r967) fun v968 ↦
 Option.bind (AV.bool? v968) fun b969 ↦
 bif b969 then
 bif decide ((x951.snd.snd : Int) > 2048) then
 some
 (Out.ret
 (AV.tuple
 [AV.agg
 [vbool false,
 AV.val (Value.slice none 0 0)],
 vi 4]),
 [])
 else
 Option.bind
 (chkLe (Nat.add x951.snd.fst x951.snd.snd)
 (List.length p962.fst.es))
 fun _ ↦
 some
 (Out.ret
 (AV.tuple
 [AV.agg
 [vbool b949,
 AV.list 0 2
 (List.drop x951.snd.fst
 (List.take (Nat.add x951.snd.fst x951.snd.snd)
 p962.fst.es))],
 vi 0]),
 [])
 else
 some
 (Out.ret
 (AV.tuple
 [AV.agg
 [vbool false,
 AV.val (Value.slice none 0 0)],
 vi 2]),
 [])
 else none
 else none := by
 intros
 exact (E_in [188] _ _ _).trans (by kernel_rfl)
theorem f49_l0 : ∀ (b971 : Bool) (n972 : Nat) (s973 : ByteArray) (l974 : List (List AV)),
 E cx (Key.loop 49 [true, true, true, true, true, false, false])
 [AV.ptr 0 0 0 0, AV.ptr 1 0 0 0, AV.func (Fn.func 115) [] [AV.ptr 1 0 0 0]]
 [Ob.mk OK.box 36 2 0 [[vbool b971, AV.arr 2 2 0 n972]],
 Ob.mk OK.box 9 1 0 [[vs s973]], Ob.mk OK.arr 80 2 2 l974] =
 bif !List.beq (ByteArray.toList s973) (ByteArray.toList (ByteArray.mk (Array.mk []))) then
 Option.bind
 (E cx (Key.own 115) [AV.ptr 0 0 0 0]
 [Ob.mk OK.box 9 1 0 [[vs s973]]])
 fun r975 ↦
 Option.bind (asRet r975) fun x976 ↦
 Option.bind (AV.int? IntKind.u64 x976.fst) fun n977 ↦
 Option.bind (uncons? x976.snd) fun p978 ↦
 Option.bind (obIs (Ob.mk OK.box 9 1 0 [[vs (ByteArray.mk (Array.mk []))]]) p978.fst)
 fun _ ↦
 Option.bind (chk p978.fst.ver 0) fun _ ↦
 Option.bind (uncons? p978.fst.es) fun p981 ↦
 Option.bind (nil? p981.snd) fun _ ↦
 Option.bind (uncons? p981.fst) fun p983 ↦
 Option.bind (AV.str? p983.fst) fun s984 ↦
 Option.bind (nil? p983.snd) fun _ ↦
 Option.bind (nil? p978.snd) fun _ ↦
 Option.bind
 (E cx (Key.own 115) [AV.ptr 0 0 0 0]
 [Ob.mk OK.box 9 1 0 [[vs s984]]])
 fun r987 ↦
 Option.bind (asRet r987) fun x988 ↦
 Option.bind (AV.int? IntKind.u64 x988.fst) fun n989 ↦
 Option.bind (uncons? x988.snd) fun p990 ↦
 Option.bind
 (obIs (Ob.mk OK.box 9 1 0 [[vs (ByteArray.mk (Array.mk []))]])
 p990.fst)
 fun _ ↦
 Option.bind (chk p990.fst.ver 0) fun _ ↦
 Option.bind (uncons? p990.fst.es) fun p993 ↦
 Option.bind (nil? p993.snd) fun _ ↦
 Option.bind (uncons? p993.fst) fun p995 ↦
 Option.bind (AV.str? p995.fst) fun s996 ↦
 Option.bind (nil? p995.snd) fun _ ↦
 Option.bind (nil? p990.snd) fun _ ↦
 Option.bind (chk n972 (List.length (Ob.mk OK.arr 80 2 2 l974).es))
 fun _ ↦
 if
 Nat.mul (Nat.add (List.length (Ob.mk OK.arr 80 2 2 l974).es) 1) 16 ≤
 140737488355328 then
 E cx (Key.loop 49 [true, true, true, true, true, false, false])
 [AV.ptr 0 0 0 0, AV.ptr 1 0 0 0,
 AV.func (Fn.func 115) [] [AV.ptr 1 0 0 0]]
 [Ob.mk OK.box 36 2 0
 [[vbool b971,
 AV.arr 2 2 0
 (Nat.add (List.length (Ob.mk OK.arr 80 2 2 l974).es) 1)]],
 Ob.mk OK.box 9 1 0 [[vs s996]],
 Ob.mk OK.arr 80 2 2
 ((Ob.mk OK.arr 80 2 2 l974).es ++
 [[vu n977, vu n989]])]
 else none
 else
 some
 (Out.jump (JX.exit 0) [],
 [Ob.mk OK.box 36 2 0 [[vbool b971, AV.arr 2 2 0 n972]],
 Ob.mk OK.box 9 1 0 [[vs s973]], Ob.mk OK.arr 80 2 2 l974]) := by
 intros
 exact (E_in [188] _ _ _).trans (by kernel_rfl)
theorem f49_l0_c1 : ∀ (s1000 : ByteArray),
 E cx (Key.own 115) [AV.ptr 0 0 0 0]
 [Ob.mk OK.box 9 1 0 [[vs s1000]]] =
 Option.bind (E cx (Key.fn 116) [vs s1000, vi 8] []) fun r1001 ↦
 Option.bind (ret1 r1001) fun v1002 ↦
 Option.bind (AV.tup? v1002) fun vs1003 ↦
 Option.bind (uncons? vs1003) fun p1004 ↦
 Option.bind (AV.int? IntKind.u64 p1004.fst) fun n1005 ↦
 Option.bind (uncons? p1004.snd) fun p1006 ↦
 Option.bind (AV.str? p1006.fst) fun s1007 ↦
 Option.bind (uncons? p1006.snd) fun p1008 ↦
 Option.bind (AV.int? IntKind.i64 p1008.fst) fun _ ↦
 Option.bind (nil? p1008.snd) fun _ ↦
 some (Out.ret (vu n1005), [Ob.mk OK.box 9 1 0 [[vs s1007]]]) := by
 intros
 exact (E_in [188] _ _ _).trans (by kernel_rfl)
theorem f105 : ∀ (a1192 a1193 b1194 b1195 : Int),
 E cx (Key.fn 105)
 [AV.agg [vu a1192, vu a1193], AV.agg [vu b1194, vu b1195]] [] =
 bif decide (a1192 < b1194) then some (Out.ret (vbool true), [])
 else
 bif decide (a1192 = b1194) then
 bif decide (a1193 < b1195) then some (Out.ret (vbool true), [])
 else some (Out.ret (vbool false), [])
 else some (Out.ret (vbool false), []) := by
 intros
 exact (E_in [188] _ _ _).trans (by kernel_rfl)
theorem f106 : ∀ (w1196 n1197 : Int),
 E cx (Key.fn 106) [vu w1196, vi n1197] [] =
 bif decide (n1197 < 1) then some (Out.ret (vs (ByteArray.mk (Array.mk []))), [])
 else
 bif decide (n1197 > 8) then some (Out.ret (vs (ByteArray.mk (Array.mk []))), [])
 else
 if 0 ≤ n1197 then
 if n1197 ≤ n1197 then
 if Int.mul 1 n1197 ≤ 281474976710656 then
 Option.bind
 (E cx (Key.loop 106 [true, true, true, false, true, false])
 [vi 0, vu w1196, AV.arr 0 1 0 (Int.toNat n1197), vi ((Int.toNat n1197) : Int)]
 [Ob.mk OK.arr 5 1 1 (List.replicate (Int.toNat n1197) [vb 0])])
 fun r1198 ↦
 Option.bind (asJump r1198) fun j1199 ↦
 bif JX.is j1199.fst (JX.exit 0) then
 Option.bind (uncons? j1199.snd.fst) fun p1200 ↦
 Option.bind (AV.int? IntKind.i64 p1200.fst) fun _ ↦
 Option.bind (nil? p1200.snd) fun _ ↦
 Option.bind (uncons? j1199.snd.snd) fun p1203 ↦
 Option.bind
 (obIs (Ob.mk OK.arr 5 1 1 (List.replicate (Int.toNat n1197) [vb 0]))
 p1203.fst)
 fun _ ↦
 Option.bind (chk p1203.fst.ver 1) fun _ ↦
 Option.bind (nil? p1203.snd) fun _ ↦
 Option.bind
 (yRows [Ob.mk OK.arr 5 1 1 p1203.fst.es] 1
 (AV.arr 0 1 0 (Int.toNat n1197)))
 fun ys1207 ↦
 Option.bind (numsOf ys1207) fun ns1208 ↦
 some (Out.ret (vs (Go.strOfNums ns1208)), [])
 else none
 else none
 else none
 else none := by
 intros
 exact (E_in [188] _ _ _).trans (by kernel_rfl)
theorem f106_l0 : ∀ (x1209 x1210 : Int) (n1211 : Nat) (x1212 : Int) (l1213 : List (List AV)),
 E cx (Key.loop 106 [true, true, true, false, true, false])
 [vi x1209, vu x1210, AV.arr 0 1 0 n1211, vi x1212]
 [Ob.mk OK.arr 5 1 1 l1213] =
 bif decide (x1209 < x1212) then
 if IntKind.wrap IntKind.i64 (Int.mul 8 x1209) < 0 then none
 else
 if 0 ≤ x1209 then
 if x1209 < (n1211 : Int) then
 Option.bind (nth l1213 (Nat.add 0 (Int.toNat x1209))) fun cs1214 ↦
 Option.bind (uncons? cs1214) fun p1215 ↦
 Option.bind (AV.int? IntKind.u8 p1215.fst) fun _ ↦
 Option.bind (nil? p1215.snd) fun _ ↦
 E cx (Key.loop 106 [true, true, true, false, true, false])
 [vi (IntKind.wrap IntKind.i64 (Int.add x1209 1)), vu x1210, AV.arr 0 1 0 n1211,
 vi x1212]
 [Ob.mk OK.arr 5 1 1
 (List.set l1213 (Nat.add 0 (Int.toNat x1209))
 [vb
 (IntKind.wrap IntKind.u8 (ishr IntKind.u64 x1210 (IntKind.wrap IntKind.i64 (Int.mul 8 x1209))))])]
 else none
 else none
 else some (Out.jump (JX.exit 0) [vi x1209], [Ob.mk OK.arr 5 1 1 l1213]) := by
 intros
 exact (E_in [188] _ _ _).trans (by kernel_rfl)
theorem f109 : ∀ (a1240 a1241 b1242 b1243 : Int),
 E cx (Key.fn 109)
 [AV.agg [vu a1240, vu a1241], AV.agg [vu b1242, vu b1243]] [] =
 bif decide (a1240 = b1242) && (decide (a1241 = b1243) && true) then some (Out.ret (vi 0), [])
 else
 Option.bind (E cx (Key.fn 148) [vu a1240, vu b1242] []) fun r1244 ↦
 Option.bind (ret1 r1244) fun v1245 ↦
 Option.bind (AV.int? IntKind.i64 v1245) fun n1246 ↦
 Option.bind (E cx (Key.fn 148) [vu a1241, vu b1243] []) fun r1247 ↦
 Option.bind (ret1 r1247) fun v1248 ↦
 Option.bind (AV.int? IntKind.i64 v1248) fun n1249 ↦
 Option.bind
 (E cx (Key.fn 147) [AV.list 0 1 [[vi n1246], [vi n1249]]] [])
 fun r1250 ↦
 Option.bind (ret1 r1250) fun v1251 ↦
 Option.bind (AV.int? IntKind.i64 v1251) fun n1252 ↦ some (Out.ret (vi n1252), []) := by
 intros
 exact (E_in [188] _ _ _).trans (by kernel_rfl)
theorem f116 : ∀ (s1375 : ByteArray) (n1376 : Int),
 E cx (Key.fn 116) [vs s1375, vi n1376] [] =
 bif decide (n1376 < 1) then
 some (Out.ret (AV.tuple [vu 0, vs (ByteArray.mk (Array.mk [])), vi 1]), [])
 else
 bif decide (n1376 > 8) then
 some (Out.ret (AV.tuple [vu 0, vs (ByteArray.mk (Array.mk [])), vi 1]), [])
 else
 bif decide (((ByteArray.size s1375) : Int) < n1376) then
 some (Out.ret (AV.tuple [vu 0, vs (ByteArray.mk (Array.mk [])), vi 3]), [])
 else
 Option.bind
 (E cx (Key.loop 116 [true, true, false, true, false])
 [vu 0, vi (IntKind.wrap IntKind.i64 (Int.sub n1376 1)), vs s1375, vi n1376] [])
 fun r1377 ↦
 Option.bind (asJump r1377) fun j1378 ↦
 bif JX.is j1378.fst (JX.exit 1) then
 Option.bind (uncons? j1378.snd.fst) fun p1379 ↦
 Option.bind (AV.int? IntKind.u64 p1379.fst) fun n1380 ↦
 Option.bind (uncons? p1379.snd) fun p1381 ↦
 Option.bind (AV.int? IntKind.i64 p1381.fst) fun _ ↦
 Option.bind (nil? p1381.snd) fun _ ↦
 Option.bind (nil? j1378.snd.snd) fun _ ↦
 if 0 ≤ n1376 then
 if n1376 ≤ ((ByteArray.size s1375) : Int) then
 some
 (Out.ret
 (AV.tuple
 [vu n1380, vs (ByteArray.extract s1375 (Int.toNat n1376) (ByteArray.size s1375)),
 vi 0]),
 [])
 else none
 else none
 else none := by
 intros
 exact (E_in [188] _ _ _).trans (by kernel_rfl)
theorem f116_l0 : ∀ (x1385 x1386 : Int) (s1387 : ByteArray) (x1388 : Int),
 E cx (Key.loop 116 [true, true, false, true, false])
 [vu x1385, vi x1386, vs s1387, vi x1388] [] =
 bif decide (x1386 ≥ 0) then
 if 0 ≤ x1386 then
 Option.bind s1387[Int.toNat x1386]? fun b1389 ↦
 E cx (Key.loop 116 [true, true, false, true, false])
 [vu (ior IntKind.u64 (ishl IntKind.u64 x1385 8) (IntKind.wrap IntKind.u64 ((UInt8.toNat b1389) : Int))),
 vi (IntKind.wrap IntKind.i64 (Int.sub x1386 1)), vs s1387, vi x1388]
 []
 else none
 else some (Out.jump (JX.exit 1) [vu x1385, vi x1386], []) := by
 intros
 exact (E_in [188] _ _ _).trans (by kernel_rfl)
theorem f147 : ∀ (vals1395 : List (List AV)),
 E cx (Key.fn 147) [AV.list 0 1 vals1395] [] =
 Option.bind
 (E cx (Key.loop 147 [true, true, false, true, false])
 [vi 0, vi 0, vi 0, AV.list 0 1 vals1395, vi ((List.length vals1395) : Int)] [])
 fun r1396 ↦
 Option.bind (asJump r1396) fun j1397 ↦
 bif JX.is j1397.fst (JX.exit 0) then
 Option.bind (uncons? j1397.snd.fst) fun p1398 ↦
 Option.bind (AV.int? IntKind.i64 p1398.fst) fun _ ↦
 Option.bind (uncons? p1398.snd) fun p1400 ↦
 Option.bind (AV.int? IntKind.i64 p1400.fst) fun _ ↦
 Option.bind (nil? p1400.snd) fun _ ↦
 Option.bind (nil? j1397.snd.snd) fun _ ↦ some (Out.ret (vi 0), [])
 else
 bif JX.is j1397.fst JX.ret then
 Option.bind (uncons? j1397.snd.fst) fun p1404 ↦
 Option.bind (AV.int? IntKind.i64 p1404.fst) fun n1405 ↦
 Option.bind (uncons? p1404.snd) fun p1406 ↦
 Option.bind (AV.int? IntKind.i64 p1406.fst) fun _ ↦
 Option.bind (nil? p1406.snd) fun _ ↦
 Option.bind (nil? j1397.snd.snd) fun _ ↦ some (Out.ret (vi n1405), [])
 else none := by
 intros
 exact (E_in [188] _ _ _).trans (by kernel_rfl)
theorem f147_l0 : ∀ (x1410 x1411 x1412 : Int) (l1413 : List (List AV)) (x1414 : Int),
 E cx (Key.loop 147 [true, true, false, true, false])
 [vi x1410, vi x1411, vi x1412, AV.list 0 1 l1413, vi x1414] [] =
 bif decide (x1411 < x1414) then
 if 0 ≤ x1411 then
 Option.bind l1413[Int.toNat x1411]? fun cs1415 ↦
 Option.bind (uncons? cs1415) fun p1416 ↦
 Option.bind (AV.int? IntKind.i64 p1416.fst) fun n1417 ↦
 Option.bind (nil? p1416.snd) fun _ ↦
 bif n1417 != x1412 then some (Out.jump JX.ret [vi n1417, vi x1411], [])
 else
 E cx (Key.loop 147 [true, true, false, true, false])
 [vi x1410, vi (IntKind.wrap IntKind.i64 (Int.add x1411 1)), vi x1412,
 AV.list 0 1 l1413, vi x1414]
 []
 else none
 else some (Out.jump (JX.exit 0) [vi x1410, vi x1411], []) := by
 intros
 exact (E_in [188] _ _ _).trans (by kernel_rfl)
theorem f148 : ∀ (x1419 y1420 : Int),
 E cx (Key.fn 148) [vu x1419, vu y1420] [] =
 Option.bind (E cx (Key.fn 165) [vu x1419] []) fun r1421 ↦
 Option.bind (ret1 r1421) fun v1422 ↦
 Option.bind (AV.bool? v1422) fun b1423 ↦
 bif b1423 then
 Option.bind (E cx (Key.fn 165) [vu y1420] []) fun r1424 ↦
 Option.bind (ret1 r1424) fun v1425 ↦
 Option.bind (AV.bool? v1425) fun b1426 ↦
 bif b1426 then some (Out.ret (vi 0), []) else some (Out.ret (vi (-1)), [])
 else
 Option.bind (E cx (Key.fn 165) [vu y1420] []) fun r1427 ↦
 Option.bind (ret1 r1427) fun v1428 ↦
 Option.bind (AV.bool? v1428) fun b1429 ↦
 bif b1429 then some (Out.ret (vi 1), [])
 else
 bif decide (x1419 < y1420) then some (Out.ret (vi (-1)), [])
 else
 bif decide (x1419 > y1420) then some (Out.ret (vi 1), [])
 else some (Out.ret (vi 0), []) := by
 intros
 exact (E_in [188] _ _ _).trans (by kernel_rfl)
theorem f165 : ∀ (x1443 : Int),
 E cx (Key.fn 165) [vu x1443] [] =
 bif x1443 != x1443 then some (Out.ret (vbool true), []) else some (Out.ret (vbool false), []) := by
 intros
 exact (E_in [188] _ _ _).trans (by kernel_rfl)
end
section
theorem f55 : ∀ (n0 below1 : Int) (raw2 : List (List AV)),
 E cx (Key.fn 55) [vi n0, vi below1, AV.list 0 1 raw2] [] =
 Option.bind (E cx (Key.fn 64) [vi n0, vi below1] []) fun r3 ↦
 Option.bind (ret1 r3) fun v4 ↦
 Option.bind (AV.int? IntKind.i64 v4) fun n5 ↦
 Option.bind
 (E cx (Key.loop 55 [true, true, false, true, false])
 [vi 0, AV.list 0 1 raw2, AV.ptr 0 0 0 0, AV.ptr 1 0 0 0]
 [Ob.mk OK.box 33 2 0 [[vi 0, AV.val (Value.slice none 0 0)]],
 Ob.mk OK.box 33 2 0 [[vi n5, AV.arr 2 1 0 0]],
 Ob.mk OK.arr 3 1 1 []])
 fun r6 ↦
 Option.bind (asJump r6) fun j7 ↦
 bif JX.is j7.fst (JX.exit 0) then
 Option.bind (uncons? j7.snd.fst) fun p8 ↦
 Option.bind (AV.int? IntKind.i64 p8.fst) fun _ ↦
 Option.bind (nil? p8.snd) fun _ ↦
 Option.bind (uncons? j7.snd.snd) fun p11 ↦
 Option.bind
 (obIs
 (Ob.mk OK.box 33 2 0 [[vi 0, AV.val (Value.slice none 0 0)]]) p11.fst)
 fun _ ↦
 Option.bind (chk p11.fst.ver 0) fun _ ↦
 Option.bind (uncons? p11.fst.es) fun p14 ↦
 Option.bind (nil? p14.snd) fun _ ↦
 Option.bind (uncons? p14.fst) fun p16 ↦
 Option.bind (AV.int? IntKind.i64 p16.fst) fun _ ↦
 Option.bind (uncons? p16.snd) fun p18 ↦
 Option.bind (AV.nilS? p18.fst) fun _ ↦
 Option.bind (nil? p18.snd) fun _ ↦
 Option.bind (uncons? p11.snd) fun p21 ↦
 Option.bind
 (obIs
 (Ob.mk OK.box 33 2 0 [[vi n5, AV.arr 2 1 0 0]]) p21.fst)
 fun _ ↦
 Option.bind (chk p21.fst.ver 0) fun _ ↦
 Option.bind (uncons? p21.fst.es) fun p24 ↦
 Option.bind (nil? p24.snd) fun _ ↦
 Option.bind (uncons? p24.fst) fun p26 ↦
 Option.bind (AV.int? IntKind.i64 p26.fst) fun n27 ↦
 Option.bind (uncons? p26.snd) fun p28 ↦
 Option.bind (AV.arr? 2 p28.fst) fun x29 ↦
 Option.bind (chk x29.fst 1) fun _ ↦
 Option.bind (nil? p28.snd) fun _ ↦
 Option.bind (uncons? p21.snd) fun p32 ↦
 Option.bind (obIs (Ob.mk OK.arr 3 1 1 []) p32.fst)
 fun _ ↦
 Option.bind (chk p32.fst.ver 1) fun _ ↦
 Option.bind (nil? p32.snd) fun _ ↦
 Option.bind
 (chkLe (Nat.add x29.snd.fst x29.snd.snd) (List.length p32.fst.es))
 fun _ ↦
 some
 (Out.ret
 (AV.agg
 [vi n27,
 AV.list 0 1
 (List.drop x29.snd.fst
 (List.take (Nat.add x29.snd.fst x29.snd.snd) p32.fst.es))]),
 [])
 else none := by
 intros
 exact (E_in [188] _ _ _).trans (by kernel_rfl)
noncomputable def q55_l0_0 : Int → Int → Int → Nat → List (List AV) → Option (Out × Heap) :=
 fun x37 x39 x40 n41 l42 ↦
 some
 (Out.jump (JX.exit 0) [vi x37],
 [Ob.mk OK.box 33 2 0 [[vi x39, AV.val (Value.slice none 0 0)]],
 Ob.mk OK.box 33 2 0 [[vi x40, AV.arr 2 1 0 n41]], Ob.mk OK.arr 3 1 1 l42])
theorem f55_l0 : ∀ (x37 : Int) (l38 : List (List AV)) (x39 x40 : Int) (n41 : Nat) (l42 : List (List AV)),
 E cx (Key.loop 55 [true, true, false, true, false])
 [vi x37, AV.list 0 1 l38, AV.ptr 0 0 0 0, AV.ptr 1 0 0 0]
 [Ob.mk OK.box 33 2 0 [[vi x39, AV.val (Value.slice none 0 0)]],
 Ob.mk OK.box 33 2 0 [[vi x40, AV.arr 2 1 0 n41]],
 Ob.mk OK.arr 3 1 1 l42] =
 bif decide (x37 < x40) then
 bif decide (x37 < 2048) then
 Option.bind
 (E cx (Key.loop 55 [true, true, false, true, false, false, true, false, false, true, false, true, false])
 [vbool false, vi 0, AV.list 0 1 l38, AV.ptr 0 0 0 0, AV.ptr 1 0 0 0,
 vi x37]
 [Ob.mk OK.box 33 2 0 [[vi x39, AV.val (Value.slice none 0 0)]],
 Ob.mk OK.box 33 2 0 [[vi x40, AV.arr 2 1 0 n41]],
 Ob.mk OK.arr 3 1 1 l42])
 fun r43 ↦
 Option.bind (asJump r43) fun j44 ↦
 bif JX.is j44.fst (JX.exit 2) then
 Option.bind (uncons? j44.snd.fst) fun p45 ↦
 Option.bind (AV.bool? p45.fst) fun b46 ↦
 Option.bind (uncons? p45.snd) fun p47 ↦
 Option.bind (AV.int? IntKind.i64 p47.fst) fun _ ↦
 Option.bind (nil? p47.snd) fun _ ↦
 Option.bind (uncons? j44.snd.snd) fun p50 ↦
 Option.bind
 (obIs
 (Ob.mk OK.box 33 2 0 [[vi x39, AV.val (Value.slice none 0 0)]]) p50.fst)
 fun _ ↦
 Option.bind (chk p50.fst.ver 0) fun _ ↦
 Option.bind (uncons? p50.fst.es) fun p53 ↦
 Option.bind (nil? p53.snd) fun _ ↦
 Option.bind (uncons? p53.fst) fun p55 ↦
 Option.bind (AV.int? IntKind.i64 p55.fst) fun n56 ↦
 Option.bind (uncons? p55.snd) fun p57 ↦
 Option.bind (AV.nilS? p57.fst) fun _ ↦
 Option.bind (nil? p57.snd) fun _ ↦
 Option.bind (uncons? p50.snd) fun p60 ↦
 Option.bind
 (obIs
 (Ob.mk OK.box 33 2 0 [[vi x40, AV.arr 2 1 0 n41]])
 p60.fst)
 fun _ ↦
 Option.bind (chk p60.fst.ver 0) fun _ ↦
 Option.bind (uncons? p60.fst.es) fun p63 ↦
 Option.bind (nil? p63.snd) fun _ ↦
 Option.bind (uncons? p63.fst) fun p65 ↦
 Option.bind (AV.int? IntKind.i64 p65.fst) fun n66 ↦
 Option.bind (uncons? p65.snd) fun p67 ↦
 Option.bind (AV.arr? 2 p67.fst) fun x68 ↦
 Option.bind (chk x68.fst 1) fun _ ↦
 Option.bind (nil? p67.snd) fun _ ↦
 Option.bind (uncons? p60.snd) fun p71 ↦
 Option.bind (obIs (Ob.mk OK.arr 3 1 1 l42) p71.fst)
 fun _ ↦
 Option.bind (chk p71.fst.ver 1) fun _ ↦
 Option.bind (nil? p71.snd) fun _ ↦
 bif b46 then
 Option.bind (chk x68.snd.fst 0) fun _ ↦
 Option.bind
 (chk x68.snd.snd
 (List.length (Ob.mk OK.arr 3 1 1 p71.fst.es).es))
 fun _ ↦
 if
 Nat.mul
 (Nat.add
 (List.length
 (Ob.mk OK.arr 3 1 1 p71.fst.es).es)
 1)
 8 ≤
 140737488355328 then
 E cx
 (Key.loop 55 [true, true, false, true, false])
 [vi (IntKind.wrap IntKind.i64 (Int.add x37 1)),
 AV.list 0 1 l38, AV.ptr 0 0 0 0,
 AV.ptr 1 0 0 0]
 [Ob.mk OK.box 33 2 0
 [[vi n56, AV.val (Value.slice none 0 0)]],
 Ob.mk OK.box 33 2 0
 [[vi n66,
 AV.arr 2 1 0
 (Nat.add
 (List.length
 (Ob.mk OK.arr 3 1 1 p71.fst.es).es)
 1)]],
 Ob.mk OK.arr 3 1 1
 ((Ob.mk OK.arr 3 1 1 p71.fst.es).es ++
 [[vi x37]])]
 else none
 else
 E cx
 (Key.loop 55 [true, true, false, true, false])
 [vi (IntKind.wrap IntKind.i64 (Int.add x37 1)),
 AV.list 0 1 l38, AV.ptr 0 0 0 0,
 AV.ptr 1 0 0 0]
 [Ob.mk OK.box 33 2 0
 [[vi n56, AV.val (Value.slice none 0 0)]],
 Ob.mk OK.box 33 2 0
 [[vi n66, AV.arr 2 1 x68.snd.fst x68.snd.snd]],
 Ob.mk OK.arr 3 1 1 p71.fst.es]
 else none
 else q55_l0_0 x37 x39 x40 n41 l42
 else q55_l0_0 x37 x39 x40 n41 l42 := by
 intros
 exact (E_in [188] _ _ _).trans (by kernel_rfl)
noncomputable def q55_l0_l1_0 : Int → List (List AV) → Int → Int → Int → Nat → List (List AV) → Option (Out × Heap) :=
 fun x78 l79 x80 x81 x82 n83 l84 ↦
 E cx (Key.loop 55 [true, true, false, true, false, false, true, false, false, true, false, true, false])
 [vbool true, vi (IntKind.wrap IntKind.i64 (Int.add x78 1)), AV.list 0 1 l79, AV.ptr 0 0 0 0,
 AV.ptr 1 0 0 0, vi x80]
 [Ob.mk OK.box 33 2 0 [[vi x81, AV.val (Value.slice none 0 0)]],
 Ob.mk OK.box 33 2 0 [[vi x82, AV.arr 2 1 0 n83]], Ob.mk OK.arr 3 1 1 l84]
noncomputable def q55_l0_l1_1 : Bool → Int → List (List AV) → Int → Int → Int → Nat → List (List AV) → Option (Out × Heap) :=
 fun b77 x78 l79 x80 x81 x82 n83 l84 ↦
 bif b77 then q55_l0_l1_0 x78 l79 x80 x81 x82 n83 l84
 else
 E cx (Key.loop 55 [true, true, false, true, false, false, true, false, false, true, false, true, false])
 [AV.val (Value.tuple (Array.mk [])), vi (IntKind.wrap IntKind.i64 (Int.add x78 1)), AV.list 0 1 l79,
 AV.ptr 0 0 0 0, AV.ptr 1 0 0 0, vi x80]
 [Ob.mk OK.box 33 2 0 [[vi x81, AV.val (Value.slice none 0 0)]],
 Ob.mk OK.box 33 2 0 [[vi x82, AV.arr 2 1 0 n83]], Ob.mk OK.arr 3 1 1 l84]
noncomputable def q55_l0_l1_2 : Bool → Int → Int → Int → List (List AV) → Int → Int → Nat → List (List AV) → Option (Out × Heap) :=
 fun b77 n91 x80 x78 l79 x81 x82 n83 l84 ↦
 bif decide (b77 = false) then
 bif decide (n91 = x80) then bif b77 then q55_l0_l1_0 x78 l79 x80 x81 x82 n83 l84 else q55_l0_l1_0 x78 l79 x80 x81 x82 n83 l84
 else
 bif b77 then q55_l0_l1_0 x78 l79 x80 x81 x82 n83 l84
 else
 E cx (Key.loop 55 [true, true, false, true, false, false, true, false, false, true, false, true, false])
 [vbool false, vi (IntKind.wrap IntKind.i64 (Int.add x78 1)), AV.list 0 1 l79,
 AV.ptr 0 0 0 0, AV.ptr 1 0 0 0, vi x80]
 [Ob.mk OK.box 33 2 0 [[vi x81, AV.val (Value.slice none 0 0)]],
 Ob.mk OK.box 33 2 0 [[vi x82, AV.arr 2 1 0 n83]],
 Ob.mk OK.arr 3 1 1 l84]
 else q55_l0_l1_1 b77 x78 l79 x80 x81 x82 n83 l84
noncomputable def q55_l0_l1_3 : Bool → Int → List (List AV) → Int → Int → Int → Nat → List (List AV) → Option (Out × Heap) :=
 fun b77 x78 l79 x80 x81 x82 n83 l84 ↦ bif decide (b77 = false) then none else q55_l0_l1_1 b77 x78 l79 x80 x81 x82 n83 l84
noncomputable def q55_l0_l1_4 : Bool → Int → List (List AV) → Int → Int → Int → Nat → List (List AV) → Option (Out × Heap) :=
 fun b77 x78 l79 x80 x81 x82 n83 l84 ↦
 bif decide (b77 = false) then q55_l0_l1_3 b77 x78 l79 x80 x81 x82 n83 l84 else q55_l0_l1_3 b77 x78 l79 x80 x81 x82 n83 l84
noncomputable def q55_l0_l1_5 : Bool → Int → Int → Int → List (List AV) → Int → Int → Nat → List (List AV) → Option (Out × Heap) :=
 fun b77 n87 x80 x78 l79 x81 x82 n83 l84 ↦
 bif decide (b77 = false) then
 Option.bind (E cx (Key.fn 64) [vi n87, AV.val (Value.tuple (Array.mk []))] []) fun r92 ↦
 Option.bind (ret1 r92) fun v93 ↦
 Option.bind (AV.int? IntKind.i64 v93) fun n94 ↦
 bif decide (b77 = false) then q55_l0_l1_2 b77 n94 x80 x78 l79 x81 x82 n83 l84
 else q55_l0_l1_3 b77 x78 l79 x80 x81 x82 n83 l84
 else q55_l0_l1_4 b77 x78 l79 x80 x81 x82 n83 l84
noncomputable def q55_l0_l1_6 : Bool → Int → Int → List (List AV) → Int → Int → Nat → List (List AV) → Option (Out × Heap) :=
 fun b77 x80 x78 l79 x81 x82 n83 l84 ↦
 bif decide (b77 = false) then
 Option.bind
 (E cx (Key.fn 64)
 [AV.val (Value.tuple (Array.mk [])), AV.val (Value.tuple (Array.mk []))] [])
 fun r101 ↦
 Option.bind (ret1 r101) fun v102 ↦
 Option.bind (AV.int? IntKind.i64 v102) fun n103 ↦
 bif decide (b77 = false) then q55_l0_l1_2 b77 n103 x80 x78 l79 x81 x82 n83 l84
 else q55_l0_l1_3 b77 x78 l79 x80 x81 x82 n83 l84
 else q55_l0_l1_4 b77 x78 l79 x80 x81 x82 n83 l84
noncomputable def q55_l0_l1_7 : Bool → Int → Int → Int → List (List AV) → Int → Nat → List (List AV) → Option (Out × Heap) :=
 fun b77 x82 x80 x78 l79 x81 n83 l84 ↦
 bif decide (b77 = false) then
 bif decide (b77 = false) then
 bif decide (b77 = false) then
 Option.bind (E cx (Key.fn 64) [AV.val (Value.tuple (Array.mk [])), vi x82] [])
 fun r98 ↦
 Option.bind (ret1 r98) fun v99 ↦
 Option.bind (AV.int? IntKind.i64 v99) fun n100 ↦
 bif decide (b77 = false) then q55_l0_l1_2 b77 n100 x80 x78 l79 x81 x82 n83 l84
 else q55_l0_l1_3 b77 x78 l79 x80 x81 x82 n83 l84
 else q55_l0_l1_4 b77 x78 l79 x80 x81 x82 n83 l84
 else q55_l0_l1_6 b77 x80 x78 l79 x81 x82 n83 l84
 else bif decide (b77 = false) then none else q55_l0_l1_6 b77 x80 x78 l79 x81 x82 n83 l84
noncomputable def q55_l0_l1_8 : Bool → Int → Int → Int → List (List AV) → Int → Nat → List (List AV) → Option (Out × Heap) :=
 fun b77 x82 x80 x78 l79 x81 n83 l84 ↦ bif decide (b77 = false) then none else q55_l0_l1_7 b77 x82 x80 x78 l79 x81 n83 l84
noncomputable def q55_l0_l1_9 : Bool → Int → Int → Int → List (List AV) → Int → Nat → List (List AV) → Option (Out × Heap) :=
 fun b77 x82 x80 x78 l79 x81 n83 l84 ↦ bif decide (b77 = false) then none else q55_l0_l1_8 b77 x82 x80 x78 l79 x81 n83 l84
noncomputable def q55_l0_l1_10 : Bool → Int → Int → Int → Nat → List (List AV) → Option (Out × Heap) :=
 fun b77 x78 x81 x82 n83 l84 ↦
 some
 (Out.jump (JX.exit 2) [vbool b77, vi x78],
 [Ob.mk OK.box 33 2 0 [[vi x81, AV.val (Value.slice none 0 0)]],
 Ob.mk OK.box 33 2 0 [[vi x82, AV.arr 2 1 0 n83]], Ob.mk OK.arr 3 1 1 l84])
theorem f55_l0_l1 : ∀ (b77 : Bool) (x78 : Int) (l79 : List (List AV)) (x80 x81 x82 : Int) (n83 : Nat) (l84 : List (List AV)),
 E cx (Key.loop 55 [true, true, false, true, false, false, true, false, false, true, false, true, false])
 [vbool b77, vi x78, AV.list 0 1 l79, AV.ptr 0 0 0 0, AV.ptr 1 0 0 0, vi x80]
 [Ob.mk OK.box 33 2 0 [[vi x81, AV.val (Value.slice none 0 0)]],
 Ob.mk OK.box 33 2 0 [[vi x82, AV.arr 2 1 0 n83]],
 Ob.mk OK.arr 3 1 1 l84] =
 bif decide (x78 < ((List.length l79) : Int)) then
 bif decide (x78 < 40) then
 bif decide (b77 = false) then
 bif decide (b77 = false) then
 bif decide (b77 = false) then
 if 0 ≤ x78 then
 Option.bind l79[Int.toNat x78]? fun cs85 ↦
 Option.bind (uncons? cs85) fun p86 ↦
 Option.bind (AV.int? IntKind.i64 p86.fst) fun n87 ↦
 Option.bind (nil? p86.snd) fun _ ↦
 bif decide (b77 = false) then
 bif decide (b77 = false) then
 bif decide (b77 = false) then
 bif decide (b77 = false) then
 Option.bind (E cx (Key.fn 64) [vi n87, vi x82] []) fun r89 ↦
 Option.bind (ret1 r89) fun v90 ↦
 Option.bind (AV.int? IntKind.i64 v90) fun n91 ↦
 bif decide (b77 = false) then q55_l0_l1_2 b77 n91 x80 x78 l79 x81 x82 n83 l84
 else q55_l0_l1_3 b77 x78 l79 x80 x81 x82 n83 l84
 else q55_l0_l1_4 b77 x78 l79 x80 x81 x82 n83 l84
 else q55_l0_l1_5 b77 n87 x80 x78 l79 x81 x82 n83 l84
 else bif decide (b77 = false) then none else q55_l0_l1_5 b77 n87 x80 x78 l79 x81 x82 n83 l84
 else q55_l0_l1_7 b77 x82 x80 x78 l79 x81 n83 l84
 else none
 else q55_l0_l1_8 b77 x82 x80 x78 l79 x81 n83 l84
 else q55_l0_l1_9 b77 x82 x80 x78 l79 x81 n83 l84
 else
 bif decide (b77 = false) then q55_l0_l1_9 b77 x82 x80 x78 l79 x81 n83 l84 else q55_l0_l1_9 b77 x82 x80 x78 l79 x81 n83 l84
 else q55_l0_l1_10 b77 x78 x81 x82 n83 l84
 else q55_l0_l1_10 b77 x78 x81 x82 n83 l84 := by
 intros
 exact (E_in [188] _ _ _).trans (by kernel_rfl)
theorem f56 : ∀ (b143 : Int) (b144 : List (List AV)),
 E cx (Key.fn 56) [AV.agg [vi b143, AV.list 0 1 b144]] [] =
 Option.bind (E cx (Key.fn 60) [AV.agg [vi b143, AV.list 0 1 b144]] [])
 fun r145 ↦
 Option.bind (ret1 r145) fun v146 ↦
 Option.bind (AV.bool? v146) fun b147 ↦
 bif b147 then
 bif ysOk b144 then
 if Nat.mul (Nat.add 0 (List.length b144)) 8 ≤ 140737488355328 then
 Option.bind (chk (Nat.add 0 (List.length b144)) (List.length (Ob.mk OK.arr 3 1 1 ([] ++ b144)).es))
 fun _ ↦
 if Nat.mul (Nat.add (List.length (Ob.mk OK.arr 3 1 1 ([] ++ b144)).es) 1) 8 ≤ 140737488355328 then
 Option.bind
 (chkLe (Nat.add 0 (Nat.add (List.length (Ob.mk OK.arr 3 1 1 ([] ++ b144)).es) 1))
 (List.length ((Ob.mk OK.arr 3 1 1 ([] ++ b144)).es ++ [[vi b143]])))
 fun _ ↦
 Option.bind
 (E cx (Key.fn 118)
 [vi (IntKind.wrap IntKind.i64 (Int.add (IntKind.wrap IntKind.i64 (Int.tdiv b143 8)) 1)),
 AV.list 0 1
 (List.drop 0
 (List.take (Nat.add 0 (Nat.add (List.length (Ob.mk OK.arr 3 1 1 ([] ++ b144)).es) 1))
 ((Ob.mk OK.arr 3 1 1 ([] ++ b144)).es ++ [[vi b143]])))]
 [])
 fun r150 ↦ Option.bind (ret1 r150) fun v151 ↦ Option.bind (AV.list? 1 v151) fun es ↦
 Option.bind (numsOf es) fun ns ↦ some (Out.ret (AV.tuple [vs (Go.strOfNums ns), vi 0]), [])
 else none
 else none
 else none
 else some (Out.ret (AV.tuple [vs (ByteArray.mk (Array.mk [])), vi 1]), []) := by
 intros
 exact (E_in [188] _ _ _).trans (by kernel_rfl)
theorem f60 : ∀ (b178 : Int) (b179 : List (List AV)),
 E cx (Key.fn 60) [AV.agg [vi b178, AV.list 0 1 b179]] [] =
 bif decide (b178 < 0) then some (Out.ret (vbool false), [])
 else
 bif decide (b178 > 2048) then some (Out.ret (vbool false), [])
 else
 Option.bind
 (E cx (Key.loop 60 [true, true, true, false, true, false])
 [vbool false, vi (-1), vi 0, AV.ptr 0 0 0 0, AV.list 0 1 b179,
 vi ((List.length b179) : Int)]
 [Ob.mk OK.box 33 2 0 [[vi b178, AV.list 0 1 b179]]])
 fun r180 ↦
 Option.bind (asJump r180) fun j181 ↦
 bif JX.is j181.fst (JX.exit 0) then
 Option.bind (uncons? j181.snd.fst) fun p182 ↦
 Option.bind (AV.bool? p182.fst) fun _ ↦
 Option.bind (uncons? p182.snd) fun p184 ↦
 Option.bind (AV.int? IntKind.i64 p184.fst) fun _ ↦
 Option.bind (uncons? p184.snd) fun p186 ↦
 Option.bind (AV.int? IntKind.i64 p186.fst) fun _ ↦
 Option.bind (nil? p186.snd) fun _ ↦
 Option.bind (uncons? j181.snd.snd) fun p189 ↦
 Option.bind
 (obIs (Ob.mk OK.box 33 2 0 [[vi b178, AV.list 0 1 b179]])
 p189.fst)
 fun _ ↦
 Option.bind (chk p189.fst.ver 0) fun _ ↦
 Option.bind (uncons? p189.fst.es) fun p192 ↦
 Option.bind (nil? p192.snd) fun _ ↦
 Option.bind (uncons? p192.fst) fun p194 ↦
 Option.bind (AV.int? IntKind.i64 p194.fst) fun _ ↦
 Option.bind (uncons? p194.snd) fun p196 ↦
 Option.bind (AV.list? 1 p196.fst) fun _ ↦
 Option.bind (nil? p196.snd) fun _ ↦
 Option.bind (nil? p189.snd) fun _ ↦ some (Out.ret (vbool true), [])
 else
 bif JX.is j181.fst JX.ret then
 Option.bind (uncons? j181.snd.fst) fun p200 ↦
 Option.bind (AV.bool? p200.fst) fun b201 ↦
 Option.bind (uncons? p200.snd) fun p202 ↦
 Option.bind (AV.int? IntKind.i64 p202.fst) fun _ ↦
 Option.bind (uncons? p202.snd) fun p204 ↦
 Option.bind (AV.int? IntKind.i64 p204.fst) fun _ ↦
 Option.bind (nil? p204.snd) fun _ ↦
 Option.bind (uncons? j181.snd.snd) fun p207 ↦
 Option.bind
 (obIs (Ob.mk OK.box 33 2 0 [[vi b178, AV.list 0 1 b179]])
 p207.fst)
 fun _ ↦
 Option.bind (chk p207.fst.ver 0) fun _ ↦
 Option.bind (uncons? p207.fst.es) fun p210 ↦
 Option.bind (nil? p210.snd) fun _ ↦
 Option.bind (uncons? p210.fst) fun p212 ↦
 Option.bind (AV.int? IntKind.i64 p212.fst) fun _ ↦
 Option.bind (uncons? p212.snd) fun p214 ↦
 Option.bind (AV.list? 1 p214.fst) fun _ ↦
 Option.bind (nil? p214.snd) fun _ ↦
 Option.bind (nil? p207.snd) fun _ ↦ some (Out.ret (vbool b201), [])
 else none := by
 intros
 exact (E_in [188] _ _ _).trans (by kernel_rfl)
noncomputable def q60_l0_0 : Int → Int → Int → List (List AV) → Option (Out × Heap) :=
 fun x219 x220 x223 l224 ↦
 some
 (Out.jump JX.ret [vbool false, vi x219, vi x220],
 [Ob.mk OK.box 33 2 0 [[vi x223, AV.list 0 1 l224]]])
theorem f60_l0 : ∀ (b218 : Bool) (x219 x220 : Int) (l221 : List (List AV)) (x222 x223 : Int) (l224 : List (List AV)),
 E cx (Key.loop 60 [true, true, true, false, true, false])
 [vbool b218, vi x219, vi x220, AV.ptr 0 0 0 0, AV.list 0 1 l221, vi x222]
 [Ob.mk OK.box 33 2 0 [[vi x223, AV.list 0 1 l224]]] =
 bif decide (x220 < x222) then
 if 0 ≤ x220 then
 Option.bind l221[Int.toNat x220]? fun cs225 ↦
 Option.bind (uncons? cs225) fun p226 ↦
 Option.bind (AV.int? IntKind.i64 p226.fst) fun n227 ↦
 Option.bind (nil? p226.snd) fun _ ↦
 bif decide (n227 ≤ x219) then q60_l0_0 x219 x220 x223 l224
 else
 bif decide (n227 ≥ x223) then q60_l0_0 x219 x220 x223 l224
 else
 E cx (Key.loop 60 [true, true, true, false, true, false])
 [vbool b218, vi n227, vi (IntKind.wrap IntKind.i64 (Int.add x220 1)),
 AV.ptr 0 0 0 0, AV.list 0 1 l221, vi x222]
 [Ob.mk OK.box 33 2 0 [[vi x223, AV.list 0 1 l224]]]
 else none
 else
 some
 (Out.jump (JX.exit 0) [vbool b218, vi x219, vi x220],
 [Ob.mk OK.box 33 2 0 [[vi x223, AV.list 0 1 l224]]]) := by
 intros
 exact (E_in [188] _ _ _).trans (by kernel_rfl)
theorem f64 : ∀ (c312 n313 : Int),
 E cx (Key.fn 64) [vi c312, vi n313] [] =
 bif decide (c312 < 0) then
 if n313 = 0 then none
 else
 some
 (Out.ret
 (vi (Int.tmod (IntKind.wrap IntKind.i64 (Int.sub 0 (IntKind.wrap IntKind.i64 (Int.add c312 1)))) n313)),
 [])
 else if n313 = 0 then none else some (Out.ret (vi (Int.tmod c312 n313)), []) := by
 intros
 exact (E_in [188] _ _ _).trans (by kernel_rfl)
theorem f67 : ∀ (a564 : Int) (a565 : List (List AV)) (b566 : Int) (b567 : List (List AV)),
 E cx (Key.fn 67)
 [AV.agg [vi a564, AV.list 0 1 a565], AV.agg [vi b566, AV.list 0 1 b567]]
 [] =
 bif a564 != b566 then some (Out.ret (vbool false), [])
 else
 bif ((List.length a565) : Int) != ((List.length b567) : Int) then some (Out.ret (vbool false), [])
 else
 Option.bind
 (E cx (Key.loop 67 [true, true, false, true, false])
 [vbool false, vi 0, AV.ptr 0 0 0 0, AV.ptr 1 0 0 0]
 [Ob.mk OK.box 33 2 0 [[vi a564, AV.list 0 1 a565]],
 Ob.mk OK.box 33 2 0 [[vi b566, AV.list 0 1 b567]]])
 fun r568 ↦
 Option.bind (asJump r568) fun j569 ↦
 bif JX.is j569.fst (JX.exit 0) then
 Option.bind (uncons? j569.snd.fst) fun p570 ↦
 Option.bind (AV.bool? p570.fst) fun _ ↦
 Option.bind (uncons? p570.snd) fun p572 ↦
 Option.bind (AV.int? IntKind.i64 p572.fst) fun _ ↦
 Option.bind (nil? p572.snd) fun _ ↦
 Option.bind (uncons? j569.snd.snd) fun p575 ↦
 Option.bind
 (obIs (Ob.mk OK.box 33 2 0 [[vi a564, AV.list 0 1 a565]]) p575.fst)
 fun _ ↦
 Option.bind (chk p575.fst.ver 0) fun _ ↦
 Option.bind (uncons? p575.fst.es) fun p578 ↦
 Option.bind (nil? p578.snd) fun _ ↦
 Option.bind (uncons? p578.fst) fun p580 ↦
 Option.bind (AV.int? IntKind.i64 p580.fst) fun _ ↦
 Option.bind (uncons? p580.snd) fun p582 ↦
 Option.bind (AV.list? 1 p582.fst) fun _ ↦
 Option.bind (nil? p582.snd) fun _ ↦
 Option.bind (uncons? p575.snd) fun p585 ↦
 Option.bind
 (obIs
 (Ob.mk OK.box 33 2 0 [[vi b566, AV.list 0 1 b567]])
 p585.fst)
 fun _ ↦
 Option.bind (chk p585.fst.ver 0) fun _ ↦
 Option.bind (uncons? p585.fst.es) fun p588 ↦
 Option.bind (nil? p588.snd) fun _ ↦
 Option.bind (uncons? p588.fst) fun p590 ↦
 Option.bind (AV.int? IntKind.i64 p590.fst) fun _ ↦
 Option.bind (uncons? p590.snd) fun p592 ↦
 Option.bind (AV.list? 1 p592.fst) fun _ ↦
 Option.bind (nil? p592.snd) fun _ ↦
 Option.bind (nil? p585.snd) fun _ ↦
 some (Out.ret (vbool true), [])
 else
 bif JX.is j569.fst JX.ret then
 Option.bind (uncons? j569.snd.fst) fun p596 ↦
 Option.bind (AV.bool? p596.fst) fun b597 ↦
 Option.bind (uncons? p596.snd) fun p598 ↦
 Option.bind (AV.int? IntKind.i64 p598.fst) fun _ ↦
 Option.bind (nil? p598.snd) fun _ ↦
 Option.bind (uncons? j569.snd.snd) fun p601 ↦
 Option.bind
 (obIs (Ob.mk OK.box 33 2 0 [[vi a564, AV.list 0 1 a565]])
 p601.fst)
 fun _ ↦
 Option.bind (chk p601.fst.ver 0) fun _ ↦
 Option.bind (uncons? p601.fst.es) fun p604 ↦
 Option.bind (nil? p604.snd) fun _ ↦
 Option.bind (uncons? p604.fst) fun p606 ↦
 Option.bind (AV.int? IntKind.i64 p606.fst) fun _ ↦
 Option.bind (uncons? p606.snd) fun p608 ↦
 Option.bind (AV.list? 1 p608.fst) fun _ ↦
 Option.bind (nil? p608.snd) fun _ ↦
 Option.bind (uncons? p601.snd) fun p611 ↦
 Option.bind
 (obIs
 (Ob.mk OK.box 33 2 0 [[vi b566, AV.list 0 1 b567]])
 p611.fst)
 fun _ ↦
 Option.bind (chk p611.fst.ver 0) fun _ ↦
 Option.bind (uncons? p611.fst.es) fun p614 ↦
 Option.bind (nil? p614.snd) fun _ ↦
 Option.bind (uncons? p614.fst) fun p616 ↦
 Option.bind (AV.int? IntKind.i64 p616.fst) fun _ ↦
 Option.bind (uncons? p616.snd) fun p618 ↦
 Option.bind (AV.list? 1 p618.fst) fun _ ↦
 Option.bind (nil? p618.snd) fun _ ↦
 Option.bind (nil? p611.snd) fun _ ↦
 some (Out.ret (vbool b597), [])
 else none := by
 intros
 exact (E_in [188] _ _ _).trans (by kernel_rfl)
theorem f67_l0 : ∀ (b622 : Bool) (x623 x624 : Int) (l625 : List (List AV)) (x626 : Int) (l627 : List (List AV)),
 E cx (Key.loop 67 [true, true, false, true, false])
 [vbool b622, vi x623, AV.ptr 0 0 0 0, AV.ptr 1 0 0 0]
 [Ob.mk OK.box 33 2 0 [[vi x624, AV.list 0 1 l625]],
 Ob.mk OK.box 33 2 0 [[vi x626, AV.list 0 1 l627]]] =
 bif decide (x623 < ((List.length l625) : Int)) then
 if 0 ≤ x623 then
 Option.bind l625[Int.toNat x623]? fun cs628 ↦
 Option.bind (uncons? cs628) fun p629 ↦
 Option.bind (AV.int? IntKind.i64 p629.fst) fun n630 ↦
 Option.bind (nil? p629.snd) fun _ ↦
 if 0 ≤ x623 then
 Option.bind l627[Int.toNat x623]? fun cs632 ↦
 Option.bind (uncons? cs632) fun p633 ↦
 Option.bind (AV.int? IntKind.i64 p633.fst) fun n634 ↦
 Option.bind (nil? p633.snd) fun _ ↦
 bif n630 != n634 then
 some
 (Out.jump JX.ret [vbool false, vi x623],
 [Ob.mk OK.box 33 2 0 [[vi x624, AV.list 0 1 l625]],
 Ob.mk OK.box 33 2 0 [[vi x626, AV.list 0 1 l627]]])
 else
 E cx (Key.loop 67 [true, true, false, true, false])
 [vbool b622, vi (IntKind.wrap IntKind.i64 (Int.add x623 1)), AV.ptr 0 0 0 0,
 AV.ptr 1 0 0 0]
 [Ob.mk OK.box 33 2 0 [[vi x624, AV.list 0 1 l625]],
 Ob.mk OK.box 33 2 0 [[vi x626, AV.list 0 1 l627]]]
 else none
 else none
 else
 some
 (Out.jump (JX.exit 0) [vbool b622, vi x623],
 [Ob.mk OK.box 33 2 0 [[vi x624, AV.list 0 1 l625]],
 Ob.mk OK.box 33 2 0 [[vi x626, AV.list 0 1 l627]]]) := by
 intros
 exact (E_in [188] _ _ _).trans (by kernel_rfl)
noncomputable def q73_0 : Option (Out × Heap) :=
 some
 (Out.ret (AV.tuple [AV.agg [vi 0, AV.val (Value.slice none 0 0)], vi 2]), [])
noncomputable def q73_1 : Option (Out × Heap) :=
 some
 (Out.ret (AV.tuple [AV.agg [vi 0, AV.val (Value.slice none 0 0)], vi 4]), [])
theorem f73 : ∀ (s886 : ByteArray) (most887 : Int),
 E cx (Key.fn 73) [vs s886, vi most887] [] =
 bif decide (IntKind.wrap IntKind.i64 (Int.sub (((ByteArray.size s886) : Int)) 1) < 0) then q73_0
 else
 if 0 ≤ IntKind.wrap IntKind.i64 (Int.sub (((ByteArray.size s886) : Int)) 1) then
 Option.bind s886[Int.toNat (IntKind.wrap IntKind.i64 (Int.sub (((ByteArray.size s886) : Int)) 1))]? fun b888 ↦
 bif decide (((UInt8.toNat b888) : Int) = 0) then q73_0
 else
 if 0 ≤ IntKind.wrap IntKind.i64 (Int.sub (((ByteArray.size s886) : Int)) 1) then
 Option.bind s886[Int.toNat (IntKind.wrap IntKind.i64 (Int.sub (((ByteArray.size s886) : Int)) 1))]? fun b889 ↦
 Option.bind (E cx (Key.fn 130) [vb ((UInt8.toNat b889) : Int)] []) fun r890 ↦
 Option.bind (ret1 r890) fun v891 ↦
 Option.bind (AV.int? IntKind.i64 v891) fun n892 ↦
 bif
 decide
 (IntKind.wrap IntKind.i64
 (Int.sub
 (IntKind.wrap IntKind.i64
 (Int.add (IntKind.wrap IntKind.i64 (Int.mul (IntKind.wrap IntKind.i64 (Int.sub (((ByteArray.size s886) : Int)) 1)) 8))
 n892))
 1) >
 most887) then
 q73_1
 else
 bif
 decide
 (IntKind.wrap IntKind.i64
 (Int.sub
 (IntKind.wrap IntKind.i64
 (Int.add
 (IntKind.wrap IntKind.i64 (Int.mul (IntKind.wrap IntKind.i64 (Int.sub (((ByteArray.size s886) : Int)) 1)) 8))
 n892))
 1) >
 2048) then
 q73_1
 else
 Option.bind
 (E cx (Key.fn 131)
 [vs s886,
 vi
 (IntKind.wrap IntKind.i64
 (Int.sub
 (IntKind.wrap IntKind.i64
 (Int.add
 (IntKind.wrap IntKind.i64 (Int.mul (IntKind.wrap IntKind.i64 (Int.sub (((ByteArray.size s886) : Int)) 1)) 8))
 n892))
 1))]
 [])
 fun r893 ↦
 Option.bind (ret1 r893) fun v894 ↦
 Option.bind (AV.cells? v894) fun cs895 ↦
 Option.bind (uncons? cs895) fun p896 ↦
 Option.bind (AV.int? IntKind.i64 p896.fst) fun n897 ↦
 Option.bind (uncons? p896.snd) fun p898 ↦
 Option.bind (AV.list? 1 p898.fst) fun es899 ↦
 Option.bind (nil? p898.snd) fun _ ↦
 some
 (Out.ret
 (AV.tuple
 [AV.agg [vi n897, AV.list 0 1 es899], vi 0]),
 [])
 else none
 else none := by
 intros
 exact (E_in [188] _ _ _).trans (by kernel_rfl)
theorem f118 : ∀ (n995 : Int) (on996 : List (List AV)),
 E cx (Key.fn 118) [vi n995, AV.list 0 1 on996] [] =
 if 0 ≤ n995 then
 if n995 ≤ n995 then
 if Int.mul 1 n995 ≤ 281474976710656 then
 Option.bind
 (E cx (Key.loop 118 [true, true, false, true, false])
 [vi 0, AV.arr 0 1 0 (Int.toNat n995), AV.list 0 1 on996, vi ((List.length on996) : Int)]
 [Ob.mk OK.arr 5 1 1 (List.replicate (Int.toNat n995) [vb 0])])
 fun r997 ↦
 Option.bind (asJump r997) fun j998 ↦
 bif JX.is j998.fst (JX.exit 0) then
 Option.bind (uncons? j998.snd.fst) fun p999 ↦
 Option.bind (AV.int? IntKind.i64 p999.fst) fun _ ↦
 Option.bind (nil? p999.snd) fun _ ↦
 Option.bind (uncons? j998.snd.snd) fun p1002 ↦
 Option.bind
 (obIs (Ob.mk OK.arr 5 1 1 (List.replicate (Int.toNat n995) [vb 0])) p1002.fst)
 fun _ ↦
 Option.bind (chk p1002.fst.ver 1) fun _ ↦
 Option.bind (nil? p1002.snd) fun _ ↦
 Option.bind (chkLe (Nat.add 0 (Int.toNat n995)) (List.length p1002.fst.es)) fun _ ↦
 some (Out.ret (AV.list 0 1 (List.drop 0 (List.take (Nat.add 0 (Int.toNat n995)) p1002.fst.es))), [])
 else none
 else none
 else none
 else none := by
 intros
 exact (E_in [188] _ _ _).trans (by kernel_rfl)
theorem f118_l0 : ∀ (x1007 : Int) (n1008 : Nat) (l1009 : List (List AV)) (x1010 : Int) (l1011 : List (List AV)),
 E cx (Key.loop 118 [true, true, false, true, false])
 [vi x1007, AV.arr 0 1 0 n1008, AV.list 0 1 l1009, vi x1010]
 [Ob.mk OK.arr 5 1 1 l1011] =
 bif decide (x1007 < x1010) then
 if 0 ≤ x1007 then
 Option.bind l1009[Int.toNat x1007]? fun cs1012 ↦
 Option.bind (uncons? cs1012) fun p1013 ↦
 Option.bind (AV.int? IntKind.i64 p1013.fst) fun n1014 ↦
 Option.bind (nil? p1013.snd) fun _ ↦
 if 0 ≤ IntKind.wrap IntKind.i64 (Int.tdiv n1014 8) then
 if IntKind.wrap IntKind.i64 (Int.tdiv n1014 8) < (n1008 : Int) then
 Option.bind (nth l1011 (Nat.add 0 (Int.toNat (IntKind.wrap IntKind.i64 (Int.tdiv n1014 8))))) fun cs1016 ↦
 Option.bind (uncons? cs1016) fun p1017 ↦
 Option.bind (AV.int? IntKind.u8 p1017.fst) fun n1018 ↦
 Option.bind (nil? p1017.snd) fun _ ↦
 if Int.tmod n1014 8 < 0 then none
 else
 if 0 ≤ IntKind.wrap IntKind.i64 (Int.tdiv n1014 8) then
 if IntKind.wrap IntKind.i64 (Int.tdiv n1014 8) < (n1008 : Int) then
 Option.bind (nth l1011 (Nat.add 0 (Int.toNat (IntKind.wrap IntKind.i64 (Int.tdiv n1014 8))))) fun cs1020 ↦
 Option.bind (uncons? cs1020) fun p1021 ↦
 Option.bind (AV.int? IntKind.u8 p1021.fst) fun _ ↦
 Option.bind (nil? p1021.snd) fun _ ↦
 E cx (Key.loop 118 [true, true, false, true, false])
 [vi (IntKind.wrap IntKind.i64 (Int.add x1007 1)), AV.arr 0 1 0 n1008,
 AV.list 0 1 l1009, vi x1010]
 [Ob.mk OK.arr 5 1 1
 (List.set l1011 (Nat.add 0 (Int.toNat (IntKind.wrap IntKind.i64 (Int.tdiv n1014 8))))
 [vb
 (ior IntKind.u8 n1018 (ishl IntKind.u8 1 (Int.tmod n1014 8)))])]
 else none
 else none
 else none
 else none
 else none
 else some (Out.jump (JX.exit 0) [vi x1007], [Ob.mk OK.arr 5 1 1 l1011]) := by
 intros
 exact (E_in [188] _ _ _).trans (by kernel_rfl)
theorem f130 : ∀ (x1198 : Int),
 E cx (Key.fn 130) [vb x1198] [] =
 if 0 ≤ x1198 then
 Option.bind
 (ByteArray.mk
 (Array.mk
 [UInt8.ofNat 0, UInt8.ofNat 1, UInt8.ofNat 2, UInt8.ofNat 2, UInt8.ofNat 3, UInt8.ofNat 3, UInt8.ofNat 3, UInt8.ofNat 3, UInt8.ofNat 4,
 UInt8.ofNat 4, UInt8.ofNat 4, UInt8.ofNat 4, UInt8.ofNat 4, UInt8.ofNat 4, UInt8.ofNat 4, UInt8.ofNat 4, UInt8.ofNat 5, UInt8.ofNat 5,
 UInt8.ofNat 5, UInt8.ofNat 5, UInt8.ofNat 5, UInt8.ofNat 5, UInt8.ofNat 5, UInt8.ofNat 5, UInt8.ofNat 5, UInt8.ofNat 5, UInt8.ofNat 5,
 UInt8.ofNat 5, UInt8.ofNat 5, UInt8.ofNat 5, UInt8.ofNat 5, UInt8.ofNat 5, UInt8.ofNat 6, UInt8.ofNat 6, UInt8.ofNat 6, UInt8.ofNat 6,
 UInt8.ofNat 6, UInt8.ofNat 6, UInt8.ofNat 6, UInt8.ofNat 6, UInt8.ofNat 6, UInt8.ofNat 6, UInt8.ofNat 6, UInt8.ofNat 6, UInt8.ofNat 6,
 UInt8.ofNat 6, UInt8.ofNat 6, UInt8.ofNat 6, UInt8.ofNat 6, UInt8.ofNat 6, UInt8.ofNat 6, UInt8.ofNat 6, UInt8.ofNat 6, UInt8.ofNat 6,
 UInt8.ofNat 6, UInt8.ofNat 6, UInt8.ofNat 6, UInt8.ofNat 6, UInt8.ofNat 6, UInt8.ofNat 6, UInt8.ofNat 6, UInt8.ofNat 6, UInt8.ofNat 6,
 UInt8.ofNat 6, UInt8.ofNat 7, UInt8.ofNat 7, UInt8.ofNat 7, UInt8.ofNat 7, UInt8.ofNat 7, UInt8.ofNat 7, UInt8.ofNat 7, UInt8.ofNat 7,
 UInt8.ofNat 7, UInt8.ofNat 7, UInt8.ofNat 7, UInt8.ofNat 7, UInt8.ofNat 7, UInt8.ofNat 7, UInt8.ofNat 7, UInt8.ofNat 7, UInt8.ofNat 7,
 UInt8.ofNat 7, UInt8.ofNat 7, UInt8.ofNat 7, UInt8.ofNat 7, UInt8.ofNat 7, UInt8.ofNat 7, UInt8.ofNat 7, UInt8.ofNat 7, UInt8.ofNat 7,
 UInt8.ofNat 7, UInt8.ofNat 7, UInt8.ofNat 7, UInt8.ofNat 7, UInt8.ofNat 7, UInt8.ofNat 7, UInt8.ofNat 7, UInt8.ofNat 7, UInt8.ofNat 7,
 UInt8.ofNat 7, UInt8.ofNat 7, UInt8.ofNat 7, UInt8.ofNat 7, UInt8.ofNat 7, UInt8.ofNat 7, UInt8.ofNat 7, UInt8.ofNat 7, UInt8.ofNat 7,
 UInt8.ofNat 7, UInt8.ofNat 7, UInt8.ofNat 7, UInt8.ofNat 7, UInt8.ofNat 7, UInt8.ofNat 7, UInt8.ofNat 7, UInt8.ofNat 7, UInt8.ofNat 7,
 UInt8.ofNat 7, UInt8.ofNat 7, UInt8.ofNat 7, UInt8.ofNat 7, UInt8.ofNat 7, UInt8.ofNat 7, UInt8.ofNat 7, UInt8.ofNat 7, UInt8.ofNat 7,
 UInt8.ofNat 7, UInt8.ofNat 7, UInt8.ofNat 8, UInt8.ofNat 8, UInt8.ofNat 8, UInt8.ofNat 8, UInt8.ofNat 8, UInt8.ofNat 8, UInt8.ofNat 8,
 UInt8.ofNat 8, UInt8.ofNat 8, UInt8.ofNat 8, UInt8.ofNat 8, UInt8.ofNat 8, UInt8.ofNat 8, UInt8.ofNat 8, UInt8.ofNat 8, UInt8.ofNat 8,
 UInt8.ofNat 8, UInt8.ofNat 8, UInt8.ofNat 8, UInt8.ofNat 8, UInt8.ofNat 8, UInt8.ofNat 8, UInt8.ofNat 8, UInt8.ofNat 8, UInt8.ofNat 8,
 UInt8.ofNat 8, UInt8.ofNat 8, UInt8.ofNat 8, UInt8.ofNat 8, UInt8.ofNat 8, UInt8.ofNat 8, UInt8.ofNat 8, UInt8.ofNat 8, UInt8.ofNat 8,
 UInt8.ofNat 8, UInt8.ofNat 8, UInt8.ofNat 8, UInt8.ofNat 8, UInt8.ofNat 8, UInt8.ofNat 8, UInt8.ofNat 8, UInt8.ofNat 8, UInt8.ofNat 8,
 UInt8.ofNat 8, UInt8.ofNat 8, UInt8.ofNat 8, UInt8.ofNat 8, UInt8.ofNat 8, UInt8.ofNat 8, UInt8.ofNat 8, UInt8.ofNat 8, UInt8.ofNat 8,
 UInt8.ofNat 8, UInt8.ofNat 8, UInt8.ofNat 8, UInt8.ofNat 8, UInt8.ofNat 8, UInt8.ofNat 8, UInt8.ofNat 8, UInt8.ofNat 8, UInt8.ofNat 8,
 UInt8.ofNat 8, UInt8.ofNat 8, UInt8.ofNat 8, UInt8.ofNat 8, UInt8.ofNat 8, UInt8.ofNat 8, UInt8.ofNat 8, UInt8.ofNat 8, UInt8.ofNat 8,
 UInt8.ofNat 8, UInt8.ofNat 8, UInt8.ofNat 8, UInt8.ofNat 8, UInt8.ofNat 8, UInt8.ofNat 8, UInt8.ofNat 8, UInt8.ofNat 8, UInt8.ofNat 8,
 UInt8.ofNat 8, UInt8.ofNat 8, UInt8.ofNat 8, UInt8.ofNat 8, UInt8.ofNat 8, UInt8.ofNat 8, UInt8.ofNat 8, UInt8.ofNat 8, UInt8.ofNat 8,
 UInt8.ofNat 8, UInt8.ofNat 8, UInt8.ofNat 8, UInt8.ofNat 8, UInt8.ofNat 8, UInt8.ofNat 8, UInt8.ofNat 8, UInt8.ofNat 8, UInt8.ofNat 8,
 UInt8.ofNat 8, UInt8.ofNat 8, UInt8.ofNat 8, UInt8.ofNat 8, UInt8.ofNat 8, UInt8.ofNat 8, UInt8.ofNat 8, UInt8.ofNat 8, UInt8.ofNat 8,
 UInt8.ofNat 8, UInt8.ofNat 8, UInt8.ofNat 8, UInt8.ofNat 8, UInt8.ofNat 8, UInt8.ofNat 8, UInt8.ofNat 8, UInt8.ofNat 8, UInt8.ofNat 8,
 UInt8.ofNat 8, UInt8.ofNat 8, UInt8.ofNat 8, UInt8.ofNat 8, UInt8.ofNat 8, UInt8.ofNat 8, UInt8.ofNat 8, UInt8.ofNat 8, UInt8.ofNat 8,
 UInt8.ofNat 8, UInt8.ofNat 8, UInt8.ofNat 8, UInt8.ofNat 8]))[Int.toNat x1198]?
 fun b1199 ↦ some (Out.ret (vi (IntKind.wrap IntKind.i64 ((UInt8.toNat b1199) : Int))), [])
 else none := by
 intros
 exact (E_in [188] _ _ _).trans (by kernel_rfl)
end
section
section
variable {ρ : Type} {x : Option (Out × Heap)}
theorem wr_id {n : Int} (h1 : -9223372036854775808 ≤ n) (h2 : n ≤ 9223372036854775807) : IntKind.wrap .i64 n = n := by
 simp only [IntKind.wrap, IntKind.bits, IntKind.signed, Bool.true_and]
 split <;> simp_all <;> omega
theorem wr_add {a b : Int} (h1 : -9223372036854775808 ≤ a + b) (h2 : a + b ≤ 9223372036854775807) : IntKind.wrap .i64 (Int.add a b) = a + b := wr_id (n := a + b) h1 h2
theorem wr_sub {a b : Int} (h1 : -9223372036854775808 ≤ a - b) (h2 : a - b ≤ 9223372036854775807) : IntKind.wrap .i64 (Int.sub a b) = a - b := wr_id (n := a - b) h1 h2
theorem wr_mul {a b : Int} (h1 : -9223372036854775808 ≤ a * b) (h2 : a * b ≤ 9223372036854775807) : IntKind.wrap .i64 (Int.mul a b) = a * b := wr_id (n := a * b) h1 h2
theorem wu_id {n : Int} (h1 : 0 ≤ n) (h2 : n < 18446744073709551616) : IntKind.wrap .u64 n = n := by
 simp only [IntKind.wrap, IntKind.bits, IntKind.signed, Bool.false_and]
 simp
 omega
theorem w8 {n : Int} : IntKind.wrap .u8 n = n % 256 := by
 simp only [IntKind.wrap, IntKind.bits, IntKind.signed, Bool.false_and]
 simp
abbrev rb (b : Bool) : Option (Out × Heap) := some (Out.ret (vbool b), [])
abbrev RI (n : Int) : Prop := -9223372036854775808 ≤ n ∧ n ≤ 9223372036854775807
theorem goB {b : Bool} (h : x = rb b) (k : Bool → Option ρ) : (x.bind fun r => (ret1 r).bind fun v => v.bool?.bind fun b => k b) = k b := by rw [h]; rfl
theorem goT (h : x = rb true) (k j : Option ρ) : (x.bind fun r => (ret1 r).bind fun v => v.bool?.bind fun b => bif b then k else j) = k := by rw [h]; rfl
theorem goF (h : x = rb false) (k j : Option ρ) : (x.bind fun r => (ret1 r).bind fun v => v.bool?.bind fun b => bif b then k else j) = j := by rw [h]; rfl
theorem goI {n : Int} (h : x = some (Out.ret (vi n), [])) (k : Int → Option ρ) : (x.bind fun r => (ret1 r).bind fun v => (v.int? .i64).bind fun n => k n) = k n := by rw [h]; rfl
theorem goN {p : Prop} [Decidable p] (h : ¬ p) (k j : Option ρ) : (if p then k else j) = j := if_neg h
theorem goY {p : Prop} [Decidable p] (h : p) (k j : Option ρ) : (if p then k else j) = k := if_pos h
theorem goD {p : Prop} [Decidable p] (h : p) (k j : Option ρ) : (bif decide p then k else j) = k := by rw [decide_eq_true h]; rfl
theorem goDn {p : Prop} [Decidable p] (h : ¬ p) (k j : Option ρ) : (bif decide p then k else j) = j := by rw [decide_eq_false h]; rfl
theorem goE {a b : Int} (h : a = b) (k j : Option ρ) : (bif a != b then k else j) = j := by rw [h, show (b != b) = false by simp]; rfl
theorem goEn {a b : Int} (h : a ≠ b) (k j : Option ρ) : (bif a != b then k else j) = k := by rw [show (a != b) = true by simp [h]]; rfl
theorem goLe {a b : Nat} (h : a ≤ b) (k : Option ρ) : ((chkLe a b).bind fun _ => k) = k := by rw [show chkLe a b = some () from if_pos h]; rfl
theorem goCk {a b : Nat} (h : a = b) (k : Option ρ) : ((chk a b).bind fun _ => k) = k := by rw [show chk a b = some () from if_pos h]; rfl
abbrev B := List UInt8
abbrev mk (l : B) : ByteArray := ByteArray.mk (Array.mk l)
theorem str_eta (s : ByteArray) : ∃ l, s = mk l := ⟨s.data.toList, rfl⟩
theorem toList_mk (l : B) : ByteArray.toList (mk l) = l := by rw [ByteArray.toList_eq]
theorem ext_mk (l : B) (a b : Nat) : ByteArray.extract (mk l) a b = mk ((l.take b).drop a) := by
 have h : (ByteArray.extract (mk l) a b).data.toList = (l.take b).drop a := by
  rw [ByteArray.data_extract, Array.toList_extract, List.extract_eq_take_drop, ← List.drop_take]
 exact show ByteArray.mk (Array.mk (ByteArray.extract (mk l) a b).data.toList) = _ by rw [h]
theorem app_mk (a b : B) : ByteArray.append (mk a) (mk b) = mk (a ++ b) := by
 have h : (ByteArray.append (mk a) (mk b)).data.toList = a ++ b := by
  show (mk a ++ mk b).data.toList = _
  rw [ByteArray.data_append]
  simp
 exact show ByteArray.mk (Array.mk (ByteArray.append (mk a) (mk b)).data.toList) = _ by rw [h]
theorem get_mk (l : B) (i : Nat) : (mk l)[i]? = l[i]? := by
 by_cases h : i < l.length
 ·rw [getElem?_pos (mk l) i h, List.getElem?_eq_getElem h]
  rfl
 ·rw [getElem?_neg (mk l) i h, List.getElem?_eq_none (by omega)]
theorem beq_mk (a b : B) : List.beq (ByteArray.toList (mk a)) (ByteArray.toList (mk b)) = decide (a = b) := by
 rw [toList_mk, toList_mk]
 show (a == b) = _
 by_cases h : a = b <;> simp [h]
theorem goQ {a b : B} (h : a = b) (k j : Option ρ) : (bif List.beq (ByteArray.toList (mk a)) (ByteArray.toList (mk b)) then k else j) = k := by rw [beq_mk, decide_eq_true h]; rfl
theorem goQf {a b : B} (h : ¬ a = b) (k j : Option ρ) : (bif List.beq (ByteArray.toList (mk a)) (ByteArray.toList (mk b)) then k else j) = j := by rw [beq_mk, decide_eq_false h]; rfl
theorem goQn {a b : B} (h : a = b) (k j : Option ρ) : (bif !List.beq (ByteArray.toList (mk a)) (ByteArray.toList (mk b)) then k else j) = j := by rw [beq_mk, decide_eq_true h]; rfl
theorem goQt {a b : B} (h : ¬ a = b) (k j : Option ρ) : (bif !List.beq (ByteArray.toList (mk a)) (ByteArray.toList (mk b)) then k else j) = k := by rw [beq_mk, decide_eq_false h]; rfl
theorem goS {l : B} (h : x = some (Out.ret (vs (mk l)), [])) (k : ByteArray → Option ρ) : (x.bind fun r => (ret1 r).bind fun v => v.str?.bind fun s => k s) = k (mk l) := by rw [h]; rfl
theorem goG {l : B} {i : Int} {n : Nat} {b : UInt8} (hn : i = n) (h : l[n]? = some b) (k : UInt8 → Option ρ) : ((mk l)[Int.toNat i]?.bind fun b => k b) = k b := by
 subst hn
 rw [get_mk, Int.toNat_natCast, h]
 rfl
abbrev RT (w : Int) (l : B) (e : Int) : Option (Out × Heap) := some (Out.ret (.tuple [vu w, vs (mk l), vi e]), [])
abbrev RJ (l : B) (e : Int) : Option (Out × Heap) := some (Out.ret (.tuple [vs (mk l), vi e]), [])
abbrev row (p : B) : List AV := [vs (mk p)]
abbrev rowsB (l : List B) : List (List AV) := l.map row
def RS (x : Option (Out × Heap)) (l : B) (ps : List B) (e : Int) : Prop := ∃ a, x = some (Out.ret (.tuple [vs (mk l), a, vi e]), []) ∧ a.list? 1 = some (rowsB ps)
theorem goTk {w : Int} {l : B} {e : Int} (h : x = RT w l e) (k : Int → ByteArray → Int → Option ρ) : (x.bind fun r => (ret1 r).bind fun v => v.tup?.bind fun vs => (uncons? vs).bind fun p1 => (AV.int? .u64 p1.fst).bind fun n =>
  (uncons? p1.snd).bind fun p2 => (AV.str? p2.fst).bind fun s => (uncons? p2.snd).bind fun p3 => (AV.int? .i64 p3.fst).bind fun e => (nil? p3.snd).bind fun _ => k n s e) = k w (mk l) e := by rw [h]; rfl
theorem goJn {l : B} {e : Int} (h : x = RJ l e) (k : ByteArray → Int → Option ρ) : (x.bind fun r => (ret1 r).bind fun v => v.tup?.bind fun vs => (uncons? vs).bind fun p2 => (AV.str? p2.fst).bind fun s =>
  (uncons? p2.snd).bind fun p3 => (AV.int? .i64 p3.fst).bind fun e => (nil? p3.snd).bind fun _ => k s e) = k (mk l) e := by rw [h]; rfl
theorem goSp {l : B} {ps : List B} {e : Int} (h : RS x l ps e) (k : ByteArray → List (List AV) → Int → Option ρ) : (x.bind fun r => (ret1 r).bind fun v => v.tup?.bind fun vs => (uncons? vs).bind fun p1 => (AV.str? p1.fst).bind fun s =>
  (uncons? p1.snd).bind fun p2 => (AV.list? 1 p2.fst).bind fun l => (uncons? p2.snd).bind fun p3 => (AV.int? .i64 p3.fst).bind fun e => (nil? p3.snd).bind fun _ => k s l e) = k (mk l) (rowsB ps) e := by
 obtain ⟨a, rfl, h⟩ := h
 simp only [Option.bind_some, ret1, AV.tup?, uncons?, h, AV.str?, AV.int?, if_true, nil?]
theorem goP {ps : List B} {i : Int} {n : Nat} {p : B} (hn : i = n) (h : ps[n]? = some p) (k : ByteArray → Option ρ) : ((rowsB ps)[Int.toNat i]?.bind fun cs => (uncons? cs).bind fun p => (AV.str? p.fst).bind fun s => (nil? p.snd).bind fun _ => k s) = k (mk p) := by
 subst hn
 have : (rowsB ps)[Int.toNat (n : Int)]? = some (row p) := by simp [rowsB, h]
 rw [this]
 rfl
abbrev ints (l : List Int) : List (List AV) := l.map fun n => [vi n]
theorem go1 {l : List Int} {i : Int} {n : Nat} {r : Int} (hn : i = n) (h : l[n]? = some r) (k : Int → Option ρ) : ((ints l)[Int.toNat i]?.bind fun cs => (uncons? cs).bind fun p => (AV.int? .i64 p.fst).bind fun s => (nil? p.snd).bind fun _ => k s) = k r := by
 subst hn
 have : (ints l)[Int.toNat (n : Int)]? = some [vi r] := by simp [ints, h]
 rw [this]
 rfl
theorem go1n {l : List Int} {i : Int} {n : Nat} {r : Int} (hn : i = n) (h : l[n]? = some r) (k : Int → Option ρ) : ((nth (ints l) (Nat.add 0 (Int.toNat i))).bind fun cs => (uncons? cs).bind fun p => (AV.int? .i64 p.fst).bind fun s => (nil? p.snd).bind fun _ => k s) = k r := by
 subst hn
 have : nth (ints l) (Nat.add 0 (Int.toNat (n : Int))) = some [vi r] := by
  rw [nth_eq]
  show (ints l)[0 + n]? = _
  rw [Nat.zero_add]
  simp [ints, h]
 rw [this]
 rfl
def val : B → Nat
 | [] => 0
 | b :: r => b.toNat + 256 * val r
def put (w : Nat) : Nat → B
 | 0 => []
 | n + 1 => UInt8.ofNat (w % 256) :: put (w / 256) n
theorem put_len (w n : Nat) : (put w n).length = n := by
 induction n generalizing w with
 | zero => rfl
 | succ n ih => simp [put, ih]
theorem val_put (w n : Nat) : val (put w n) = w % 256 ^ n := by
 induction n generalizing w with
 | zero => simp [put, val, Nat.mod_one]
 | succ n ih =>
  simp only [put, val, ih]
  rw [Nat.pow_succ, Nat.mul_comm (256 ^ n) 256, Nat.mod_mul]
  simp
theorem put_val (l : B) : put (val l) l.length = l := by
 induction l with
 | nil => rfl
 | cons b l ih =>
  simp only [List.length_cons, put, val]
  have hb := b.toNat_lt
  rw [show (b.toNat + 256 * val l) % 256 = b.toNat by omega, show (b.toNat + 256 * val l) / 256 = val l by omega, ih]
  simp
theorem val_lt (l : B) : val l < 256 ^ l.length := by
 induction l with
 | nil => simp [val]
 | cons b l ih =>
  simp only [List.length_cons, val, Nat.pow_succ]
  have hb := b.toNat_lt
  omega
theorem put_get (w n i : Nat) (hi : i < n) : (put w n)[i]? = some (UInt8.ofNat (w / 256 ^ i % 256)) := by
 induction n generalizing w i with
 | zero => omega
 | succ n ih =>
  cases i with
  | zero => simp [put]
  | succ i =>
   simp only [put, List.getElem?_cons_succ]
   rw [ih (w / 256) i (by omega), Nat.div_div_eq_div_mul, Nat.pow_succ, Nat.mul_comm (256 ^ i)]
theorem val_snoc (l : B) (b : UInt8) : val (l ++ [b]) = val l + b.toNat * 256 ^ l.length := by
 induction l with
 | nil => simp [val]
 | cons a l ih =>
  simp only [List.cons_append, val, ih, List.length_cons, Nat.pow_succ, Nat.mul_add]
  rw [Nat.mul_comm (256 ^ l.length) 256, Nat.mul_left_comm]
  omega
theorem val_take_succ {l : B} {k : Nat} {b : UInt8} (h : l[k]? = some b) : val (l.take (k + 1)) = val (l.take k) + b.toNat * 256 ^ k := by
 have hk := (List.getElem?_eq_some_iff.1 h).1
 rw [List.take_add_one, h]
 simp only [Option.toList_some]
 rw [val_snoc, List.length_take, Nat.min_eq_left (by omega)]
end
section
abbrev bytesI (l : List Int) : List (List AV) := l.map fun n => [vb n]
theorem numsOf_bytes : ∀ (l : List Int), numsOf (bytesI l) = some l
 | [] => rfl
 | a :: l => by
  show ((uncons? [vb a]).bind fun p => (nil? p.2).bind fun _ => (p.1.int? .u8).bind fun n => (numsOf (bytesI l)).bind fun ns => some (n :: ns)) = _
  rw [numsOf_bytes l]
  rfl
theorem strOf (l : List Int) : Go.strOfNums l = mk (l.map fun n => UInt8.ofNat n.toNat) := rfl
theorem yRows_arr {es : List (List AV)} {n : Nat} (h : es.length = n) : yRows [⟨.arr, 5, 1, 1, es⟩] 1 (.arr 0 1 0 n) = some es := by
 show ((chkLe (0 + n) es.length).bind fun _ => some ((es.take (0 + n)).drop 0)) = _
 rw [goLe (by omega), Nat.zero_add, List.drop_zero, List.take_of_length_le (by omega)]
theorem shr8 (w : Nat) {i : Nat} (hi : i ≤ 8) : ishr .u64 (w : Int) (IntKind.wrap .i64 (Int.mul 8 i)) = ((w / 256 ^ i : Nat) : Int) := by
 rw [wr_mul (by omega) (by omega)]
 unfold ishr
 have h1 : (8 * (i : Int)).toNat = 8 * i := by omega
 rw [h1, show IntKind.u64.bits = 64 from rfl, Nat.min_eq_left (by omega)]
 rw [show (2 : Int) ^ (8 * i) = ((256 ^ i : Nat) : Int) by rw [Int.natCast_pow]; rw [Int.pow_mul]; rfl]
 rw [Int.fdiv_eq_ediv_of_nonneg _ (Int.natCast_nonneg _)]
 exact (Int.natCast_ediv _ _).symm
theorem put_loop (w : Nat) (n : Nat) (hn : n ≤ 8) : ∀ (d i : Nat) (l : List Int), d + i = n → l.length = n →
  ∃ l', E cx (Key.loop 106 [true, true, true, false, true, false]) [vi i, vu w, .arr 0 1 0 n, vi n] [⟨.arr, 5, 1, 1, bytesI l⟩] = some (Out.jump (.exit 0) [vi n], [⟨.arr, 5, 1, 1, bytesI l'⟩]) ∧ l'.length = n ∧
   (∀ j, j < i → l'[j]? = l[j]?) ∧ ∀ j, i ≤ j → j < n → l'[j]? = some ((w / 256 ^ j % 256 : Nat) : Int)
 | 0, i, l, hd, hl => by
  have : i = n := by omega
  subst this
  exact ⟨l, (f106_l0 i w i i (bytesI l)).trans (goDn (by omega) _ _), hl, fun j _ => rfl, fun j h1 h2 => by omega⟩
 | d + 1, i, l, hd, hl => by
  have hi : i < l.length := by omega
  have hm : IntKind.wrap .i64 (Int.mul 8 i) = 8 * i := wr_mul (by omega) (by omega)
  obtain ⟨l', h1, h2, h3, h4⟩ := put_loop w n hn d (i + 1) (l.set i ((w / 256 ^ i % 256 : Nat) : Int)) (by omega) (by simp [hl])
  refine ⟨l', (f106_l0 i w n n (bytesI l)).trans ?_, h2, fun j hj => ?_, fun j hj1 hj2 => ?_⟩
  ·refine (goD (by omega) _ _).trans ?_
   refine (goN (by rw [hm]; omega) _ _).trans ?_
   refine (goY (by omega) _ _).trans ?_
   refine (goY (by omega) _ _).trans ?_
   have e0 : nth (bytesI l) (Nat.add 0 (Int.toNat (i : Int))) = some [vb l[i]] := by
    rw [nth_eq]
    show (bytesI l)[0 + i]? = _
    rw [Nat.zero_add]
    simp [bytesI, hi]
   rw [e0]
   have e1 : IntKind.wrap .i64 (Int.add i 1) = ((i + 1 : Nat) : Int) := wr_add (by omega) (by omega)
   have e2 : List.set (bytesI l) (Nat.add 0 (Int.toNat (i : Int))) [vb (IntKind.wrap .u8 (ishr .u64 (w : Int) (IntKind.wrap .i64 (Int.mul 8 i))))] = bytesI (l.set i ((w / 256 ^ i % 256 : Nat) : Int)) := by
    rw [shr8 w (by omega), w8]
    show List.set (bytesI l) (0 + i) _ = _
    rw [Nat.zero_add]
    simp only [bytesI, List.map_set]
    rfl
   show E cx _ [vi (IntKind.wrap .i64 (Int.add i 1)), vu w, .arr 0 1 0 n, vi n] [⟨.arr, 5, 1, 1, List.set (bytesI l) (Nat.add 0 (Int.toNat (i : Int))) [vb (IntKind.wrap .u8 (ishr .u64 (w : Int) (IntKind.wrap .i64 (Int.mul 8 i))))]⟩] = _
   rw [e1, e2]
   exact h1
  ·rw [h3 j (by omega), List.getElem?_set_ne (by omega)]
  ·by_cases hij : j = i
   ·subst hij
    rw [h3 j (by omega), List.getElem?_set_self hi]
   ·exact h4 j (by omega) hj2
def putI (w : Nat) (n : Int) : B := if n < 1 ∨ n > 8 then [] else put w n.toNat
theorem putI_lo {w : Nat} {n : Int} (h : n < 1 ∨ n > 8) : putI w n = [] := if_pos h
theorem putI_ok {w : Nat} {n : Int} (h1 : ¬ n < 1) (h2 : ¬ n > 8) : putI w n = put w n.toNat := if_neg (by omega)
theorem map_put {l' : List Int} {w n : Nat} (hl : l'.length = n) (h : ∀ j, j < n → l'[j]? = some ((w / 256 ^ j % 256 : Nat) : Int)) : (l'.map fun n => UInt8.ofNat n.toNat) = put w n := by
 apply List.ext_getElem?
 intro j
 by_cases hj : j < n
 ·rw [put_get w n j hj, List.getElem?_map, h j hj]
  rfl
 ·rw [List.getElem?_eq_none (by simp; omega), List.getElem?_eq_none (by rw [put_len]; omega)]
theorem c106 (w : Nat) (n : Int) : E cx (Key.fn 106) [vu w, vi n] [] = some (Out.ret (vs (mk (putI w n))), []) := by
 refine (f106 w n).trans ?_
 by_cases h1 : n < 1
 ·rw [putI_lo (.inl h1)]
  exact goD h1 _ _
 ·refine (goDn h1 _ _).trans ?_
  by_cases h2 : n > 8
  ·rw [putI_lo (.inr h2)]
   exact goD h2 _ _
  ·rw [putI_ok h1 h2]
   refine (goDn h2 _ _).trans ?_
   refine (goY (by omega) _ _).trans ?_
   refine (goY (Int.le_refl _) _ _).trans ?_
   refine (goY (by show 1 * n ≤ _; omega) _ _).trans ?_
   obtain ⟨m, rfl⟩ : ∃ m : Nat, n = m := ⟨n.toNat, by omega⟩
   obtain ⟨l', g1, g2, _, g4⟩ := put_loop w m (by omega) m 0 (List.replicate m 0) rfl (by simp)
   have e : (List.replicate (Int.toNat (m : Int)) [vb 0] : List (List AV)) = bytesI (List.replicate m 0) := by simp [bytesI]
   rw [e]
   show (Option.bind (E cx _ [vi ((0 : Nat) : Int), vu w, .arr 0 1 0 m, vi m] _) _) = _
   rw [g1]
   show ((yRows [⟨.arr, 5, 1, 1, bytesI l'⟩] 1 (.arr 0 1 0 m)).bind fun ys => (numsOf ys).bind fun ns => some (Out.ret (vs (Go.strOfNums ns)), [])) = _
   rw [yRows_arr (by simp [bytesI, g2])]
   show ((numsOf (bytesI l')).bind fun ns => some (Out.ret (vs (Go.strOfNums ns)), [])) = _
   rw [numsOf_bytes]
   show some (Out.ret (vs (Go.strOfNums l')), []) = _
   rw [strOf, map_put g2 fun j hj => g4 j (by omega) hj]
   rfl
end
section
theorem shl8 {w : Nat} (hw : w * 256 < 18446744073709551616) : ishl .u64 (w : Int) 8 = ((w * 256 : Nat) : Int) := by
 unfold ishl
 show IntKind.wrap .u64 ((w : Int) * 256) = _
 rw [show (w : Int) * 256 = ((w * 256 : Nat) : Int) by omega]
 exact wu_id (by omega) (by omega)
theorem ior8 {w : Nat} (hw : w * 256 < 18446744073709551616) (b : UInt8) : ior .u64 (ishl .u64 (w : Int) 8) (IntKind.wrap .u64 ((b.toNat : Nat) : Int)) = ((w * 256 + b.toNat : Nat) : Int) := by
 have hb := b.toNat_lt
 have h2 : w * 256 + b.toNat = (w * 256 ||| b.toNat) := by
  have := Nat.two_pow_add_eq_or_of_lt (i := 8) (b := b.toNat) (by omega) w
  rw [show (2 : Nat) ^ 8 = 256 by decide] at this
  rw [Nat.mul_comm]
  exact this
 rw [shl8 hw, wu_id (by omega) (by omega)]
 unfold ior
 rw [h2]
 have h3 : (BitVec.ofInt IntKind.u64.bits ((w * 256 : Nat) : Int) ||| BitVec.ofInt IntKind.u64.bits ((b.toNat : Nat) : Int)).toNat = (w * 256 ||| b.toNat) := by
  rw [BitVec.toNat_or, BitVec.ofInt_natCast, BitVec.ofInt_natCast, BitVec.toNat_ofNat, BitVec.toNat_ofNat]
  show (w * 256 % 2 ^ 64 ||| b.toNat % 2 ^ 64) = _
  rw [Nat.mod_eq_of_lt (by omega), Nat.mod_eq_of_lt (by omega)]
 rw [h3]
 exact wu_id (by omega) (by omega)
theorem take_loop (l : B) (n : Int) : ∀ (k w : Nat), k ≤ l.length → w * 256 ^ k + 256 ^ k ≤ 18446744073709551616 → k ≤ 8 →
  E cx (Key.loop 116 [true, true, false, true, false]) [vu w, vi ((k : Int) - 1), vs (mk l), vi n] [] = some (Out.jump (.exit 1) [vu ((w * 256 ^ k + val (l.take k) : Nat) : Int), vi (-1)], [])
 | 0, w, hk, hw, h8 => by
  refine (f116_l0 _ _ _ _).trans ((goDn (by omega) _ _).trans ?_)
  simp [val]
 | k + 1, w, hk, hw, h8 => by
  have hb : l[k]? = some l[k] := List.getElem?_eq_getElem (by omega)
  have hpos : 1 ≤ 256 ^ k := Nat.one_le_pow _ _ (by omega)
  have hp : 256 ^ (k + 1) = 256 ^ k * 256 := Nat.pow_succ ..
  rw [hp, ← Nat.mul_assoc] at hw
  have hw1 : w * 256 ≤ w * 256 * 256 ^ k := Nat.le_mul_of_pos_right _ (by omega)
  have e3 : w * 256 ^ k * 256 = w * 256 * 256 ^ k := by rw [Nat.mul_assoc, Nat.mul_comm (256 ^ k) 256, ← Nat.mul_assoc]
  rw [e3] at hw
  have hlt : w * 256 < 18446744073709551616 := by omega
  have hbt := l[k].toNat_lt
  refine (f116_l0 _ _ _ _).trans ((goD (by omega) _ _).trans ?_)
  refine (goY (by omega) _ _).trans ?_
  refine (goG (n := k) (by omega) hb _).trans ?_
  rw [ior8 hlt, wr_sub (by omega) (by omega)]
  have ih := take_loop l n k (w * 256 + l[k].toNat) (by omega) (by
   rw [Nat.add_mul]
   have : l[k].toNat * 256 ^ k + 256 ^ k ≤ 256 * 256 ^ k := by
    rw [show l[k].toNat * 256 ^ k + 256 ^ k = (l[k].toNat + 1) * 256 ^ k by rw [Nat.add_mul, Nat.one_mul]]
    exact Nat.mul_le_mul_right _ (by omega)
   omega) (by omega)
  rw [show ((k + 1 : Nat) : Int) - 1 - 1 = (k : Int) - 1 by omega, ih]
  congr 5
  rw [val_take_succ hb, Nat.add_mul, hp, ← Nat.mul_assoc, e3]
  omega
def takeR (l : B) (n : Int) : Nat × B × Int := if n < 1 ∨ n > 8 then (0, [], 1) else if (l.length : Int) < n then (0, [], 3) else (val (l.take n.toNat), l.drop n.toNat, 0)
theorem takeR_1 {l : B} {n : Int} (h : n < 1 ∨ n > 8) : takeR l n = (0, [], 1) := if_pos h
theorem takeR_2 {l : B} {n : Int} (h : ¬ (n < 1 ∨ n > 8)) (h2 : (l.length : Int) < n) : takeR l n = (0, [], 3) := (if_neg h).trans (if_pos h2)
theorem takeR_3 {l : B} {n : Int} (h : ¬ (n < 1 ∨ n > 8)) (h2 : ¬ (l.length : Int) < n) : takeR l n = (val (l.take n.toNat), l.drop n.toNat, 0) := (if_neg h).trans (if_neg h2)
abbrev RT' (r : Nat × B × Int) : Option (Out × Heap) := RT r.1 r.2.1 r.2.2
theorem c116 (l : B) (n : Int) : E cx (Key.fn 116) [vs (mk l), vi n] [] = RT' (takeR l n) := by
 refine (f116 (mk l) n).trans ?_
 by_cases h1 : n < 1
 ·rw [takeR_1 (.inl h1)]; exact goD h1 _ _
 refine (goDn h1 _ _).trans ?_
 by_cases h2 : n > 8
 ·rw [takeR_1 (.inr h2)]; exact goD h2 _ _
 refine (goDn h2 _ _).trans ?_
 by_cases h3 : (l.length : Int) < n
 ·rw [takeR_2 (by omega) h3]; exact goD h3 _ _
 refine (goDn h3 _ _).trans ?_
 rw [takeR_3 (by omega) h3]
 obtain ⟨m, rfl⟩ : ∃ m : Nat, n = m := ⟨n.toNat, by omega⟩
 have h := take_loop l m m 0 (by omega) (by
  have : 256 ^ m ≤ 256 ^ 8 := Nat.pow_le_pow_right (by decide) (by omega)
  have e : (256 : Nat) ^ 8 = 18446744073709551616 := by decide
  omega) (by omega)
 rw [Nat.zero_mul, Nat.zero_add] at h
 rw [wr_sub (by omega) (by omega)]
 show (Option.bind (E cx _ [vu ((0 : Nat) : Int), vi ((m : Int) - 1), vs (mk l), vi m] []) _) = _
 rw [h]
 show (if (0 : Int) ≤ (m : Int) then if (m : Int) ≤ ((ByteArray.size (mk l) : Nat) : Int) then some (Out.ret (AV.tuple [vu (val (l.take m)), vs (ByteArray.extract (mk l) (Int.toNat (m : Int)) (ByteArray.size (mk l))), vi 0]), []) else none else none) = _
 rw [goY (by omega), goY (by show (m : Int) ≤ (l.length : Int); omega), ext_mk]
 show some (Out.ret (AV.tuple [vu (val (l.take m)), vs (mk ((l.take l.length).drop m)), vi 0]), []) = _
 rw [List.take_length]
 rfl
def pickI (c n : Int) : Int := if c < 0 then (-(c + 1)).tmod n else c.tmod n
theorem c48 {c n : Int} (hc : RI c) (hn : 0 < n) : E cx (Key.fn 48) [vi c, vi n] [] = some (Out.ret (vi (pickI c n)), []) := by
 refine (f48 c n).trans ?_
 unfold pickI
 by_cases h : c < 0
 ·refine (goD h _ _).trans ((goN (by omega) _ _).trans ?_)
  rw [wr_add (by omega) (by omega), show Int.sub 0 (c + 1) = 0 - (c + 1) from rfl, show (0 : Int) - (c + 1) = -(c + 1) by omega, wr_id (by omega) (by omega), if_pos h]
 ·refine (goDn h _ _).trans ((goN (by omega) _ _).trans ?_)
  rw [if_neg h]
theorem pickI_lt {c n : Int} (hn : 0 < n) : 0 ≤ pickI c n ∧ pickI c n < n := by
 unfold pickI
 split
 ·rw [Int.tmod_eq_emod_of_nonneg (by omega)]
  exact ⟨Int.emod_nonneg _ (by omega), Int.emod_lt_of_pos _ hn⟩
 ·rw [Int.tmod_eq_emod_of_nonneg (by omega)]
  exact ⟨Int.emod_nonneg _ (by omega), Int.emod_lt_of_pos _ hn⟩
end
section
def hs : Nat → List B → B
 | _, [] => []
 | t, p :: r => put t 4 ++ hs (t + p.length) r
theorem put4 (t : Nat) : putI t 4 = put t 4 := putI_ok (by omega) (by omega)
theorem drop_cons {α : Type} {l r : List α} {i : Nat} {p : α} (h : l.drop i = p :: r) : l[i]? = some p ∧ l.drop (i + 1) = r ∧ i < l.length := by
 have h1 : l[i]? = some p := by
  have : l[i]? = (l.drop i)[0]? := by rw [List.getElem?_drop]; rfl
  rw [this, h]; rfl
 refine ⟨h1, ?_, (List.getElem?_eq_some_iff.1 h1).1⟩
 rw [← List.drop_drop (i := 1) (j := i), h] <;> rfl
theorem nobig {a b : Nat} (h : a + b ≤ 4000000) : ¬ ((Nat.add a b : Nat) : Int) > 9223372036854775807 := by
 show ¬ ((a + b : Nat) : Int) > _
 omega
theorem join_loop (P : List B) (s0 : ByteArray) (x0 : Int) (hP : P.length ≤ 8) : ∀ (rest : List B) (i t : Nat) (head body : B), P.drop i = rest → i + rest.length = P.length → t ≤ 65536 → body.length ≤ t → head.length + 4 * rest.length ≤ 2000000 →
  (t + rest.flatten.length ≤ 65536 → E cx (Key.loop 100 [true, true, true, true, false, true, false]) [vs s0, vi x0, vi t, vs (mk head), vs (mk body), vi i, .list 0 1 (rowsB P), vi P.length] [] =
    some (Out.jump (.exit 0) [vs s0, vi x0, vi (t + rest.flatten.length : Nat), vs (mk (head ++ hs t rest)), vs (mk (body ++ rest.flatten)), vi P.length], [])) ∧
  (¬ t + rest.flatten.length ≤ 65536 → ∃ (a : Int) (h b : ByteArray) (j : Int), E cx (Key.loop 100 [true, true, true, true, false, true, false]) [vs s0, vi x0, vi t, vs (mk head), vs (mk body), vi i, .list 0 1 (rowsB P), vi P.length] [] =
    some (Out.jump .ret [vs (mk []), vi 4, vi a, vs h, vs b, vi j], []))
 | [], i, t, head, body, hd, hil, ht, hb, hh => by
  simp only [List.length_nil] at hil
  refine ⟨fun _ => ?_, fun h => absurd ht (by simpa using h)⟩
  refine (f100_l0 _ _ _ _ _ _ _ _).trans ((goDn (by omega) _ _).trans ?_)
  simp [hs, ← hil]
 | p :: rest, i, t, head, body, hd, hil, ht, hb, hh => by
  simp only [List.length_cons] at hil
  obtain ⟨hp, hd', hi⟩ := drop_cons hd
  have hflat : (p :: rest).flatten.length = p.length + rest.flatten.length := by simp
  simp only [List.length_cons] at hh
  have head0 : E cx (Key.loop 100 [true, true, true, true, false, true, false]) [vs s0, vi x0, vi t, vs (mk head), vs (mk body), vi i, .list 0 1 (rowsB P), vi P.length] [] =
    (bif decide (((ByteArray.size (mk p) : Nat) : Int) > IntKind.wrap .i64 (Int.sub 65536 t)) then some (Out.jump .ret [vs (mk []), vi 4, vi t, vs (mk head), vs (mk body), vi i], [])
     else Option.bind (E cx (Key.fn 106) [vu (IntKind.wrap .u64 t), vi 4] []) fun r => Option.bind (ret1 r) fun v => Option.bind (AV.str? v) fun s =>
      if ((Nat.add (ByteArray.size (mk head)) (ByteArray.size s) : Nat) : Int) > 9223372036854775807 then none else
      if ((Nat.add (ByteArray.size (mk body)) (ByteArray.size (mk p)) : Nat) : Int) > 9223372036854775807 then none else
      E cx (Key.loop 100 [true, true, true, true, false, true, false]) [vs s0, vi x0, vi (IntKind.wrap .i64 (Int.add t ((ByteArray.size (mk p) : Nat) : Int))), vs (ByteArray.append (mk head) s), vs (ByteArray.append (mk body) (mk p)), vi (IntKind.wrap .i64 (Int.add i 1)), .list 0 1 (rowsB P), vi P.length] []) := by
   refine (f100_l0 _ _ _ _ _ _ _ _).trans ((goD (by omega) _ _).trans ((goY (by omega) _ _).trans ?_))
   exact goP (n := i) rfl hp _
  rw [wr_sub (by omega) (by omega)] at head0
  by_cases hf : t + p.length ≤ 65536
  ·have hn : ¬ ((ByteArray.size (mk p) : Nat) : Int) > 65536 - t := by show ¬ (p.length : Int) > 65536 - t; omega
   rw [goDn hn, wu_id (by omega) (by omega)] at head0
   have hput := c106 t 4
   rw [put4] at hput
   rw [goS hput] at head0
   have h4 := put_len t 4
   rw [goN (nobig (by show head.length + (put t 4).length ≤ _; omega)), goN (nobig (by show body.length + p.length ≤ _; omega)), app_mk, app_mk] at head0
   have e1 : IntKind.wrap .i64 (Int.add t ((ByteArray.size (mk p) : Nat) : Int)) = ((t + p.length : Nat) : Int) := wr_add (b := (p.length : Int)) (by omega) (by omega)
   rw [e1, wr_add (a := (i : Int)) (b := 1) (by omega) (by omega)] at head0
   have ih := join_loop P s0 x0 hP rest (i + 1) (t + p.length) (head ++ put t 4) (body ++ p) hd' (by omega) hf (by simp; omega) (by simp [h4]; omega)
   rw [hflat, head0]
   refine ⟨fun h => ?_, fun h => ?_⟩
   ·have := ih.1 (by omega)
    rw [show ((i : Int) + 1) = ((i + 1 : Nat) : Int) by omega, this]
    simp only [hs, List.flatten_cons, List.append_assoc, Nat.add_assoc]
   ·have := ih.2 (by omega)
    rw [show ((i : Int) + 1) = ((i + 1 : Nat) : Int) by omega]
    exact this
  ·have hn : ((ByteArray.size (mk p) : Nat) : Int) > 65536 - t := by show (p.length : Int) > 65536 - t; omega
   rw [goD hn] at head0
   rw [hflat, head0]
   exact ⟨fun h => by omega, fun _ => ⟨_, _, _, _, rfl⟩⟩
def joinR (f : B) (P : List B) : B × Int := if P.length ≤ 8 ∧ f.length + 4 * P.length + P.flatten.length ≤ 65536 then (f ++ hs (f.length + 4 * P.length) P ++ P.flatten, 0) else ([], 4)
theorem joinR_ok {f : B} {P : List B} (h1 : P.length ≤ 8) (h2 : f.length + 4 * P.length + P.flatten.length ≤ 65536) : joinR f P = (f ++ hs (f.length + 4 * P.length) P ++ P.flatten, 0) := if_pos ⟨h1, h2⟩
theorem joinR_no {f : B} {P : List B} (h : ¬ (P.length ≤ 8 ∧ f.length + 4 * P.length + P.flatten.length ≤ 65536)) : joinR f P = ([], 4) := if_neg h
abbrev RJ' (r : B × Int) : Option (Out × Heap) := RJ r.1 r.2
theorem hs_len : ∀ (t : Nat) (P : List B), (hs t P).length = 4 * P.length
 | _, [] => rfl
 | t, p :: r => by
  simp only [hs, List.length_append, put_len, hs_len, List.length_cons]
  omega
theorem rows_len (P : List B) : (rowsB P).length = P.length := by simp [rowsB]
theorem c100 (f : B) (P : List B) (hf : f.length ≤ 1000000) : E cx (Key.fn 100) [vs (mk f), .list 0 1 (rowsB P)] [] = RJ' (joinR f P) := by
 refine (f100 (mk f) (rowsB P)).trans ?_
 rw [rows_len]
 by_cases h1 : (P.length : Int) > 8
 ·rw [joinR_no (by omega)]
  exact goD h1 _ _
 refine (goDn h1 _ _).trans ?_
 have e1 : IntKind.wrap .i64 (Int.add ((ByteArray.size (mk f) : Nat) : Int) (IntKind.wrap .i64 (Int.mul 4 (P.length : Int)))) = ((f.length + 4 * P.length : Nat) : Int) := by
  rw [wr_mul (by omega) (by omega)]
  exact wr_add (a := (f.length : Int)) (by omega) (by omega)
 rw [e1]
 by_cases h2 : ((f.length + 4 * P.length : Nat) : Int) > 65536
 ·rw [joinR_no (by omega)]
  exact goD h2 _ _
 refine (goDn h2 _ _).trans ?_
 have hl := join_loop P (mk []) 0 (by omega) P 0 (f.length + 4 * P.length) f [] rfl (by omega) (by omega) (by simp) (by omega)
 show (Option.bind (E cx _ [vs (mk []), vi 0, vi (f.length + 4 * P.length : Nat), vs (mk f), vs (mk []), vi ((0 : Nat) : Int), .list 0 1 (rowsB P), vi P.length] []) _) = _
 by_cases h3 : f.length + 4 * P.length + P.flatten.length ≤ 65536
 ·rw [hl.1 h3, joinR_ok (by omega) h3]
  show (if ((Nat.add (ByteArray.size (mk (f ++ hs (f.length + 4 * P.length) P))) (ByteArray.size (mk ([] ++ P.flatten))) : Nat) : Int) > 9223372036854775807 then none else
   some (Out.ret (AV.tuple [vs (ByteArray.append (mk (f ++ hs (f.length + 4 * P.length) P)) (mk ([] ++ P.flatten))), vi 0]), [])) = _
  rw [goN (nobig (by
   show (f ++ hs (f.length + 4 * P.length) P).length + ([] ++ P.flatten).length ≤ _
   rw [List.length_append, hs_len, List.nil_append]
   omega)), app_mk, List.nil_append]
 ·obtain ⟨a, h, b, j, he⟩ := hl.2 h3
  rw [he, joinR_no (by omega)]
  rfl
end
section
def off (s : B) (f i : Nat) : Nat := val ((s.drop (f + 4 * i)).take 4)
def edge (s : B) (f m i : Nat) : Nat := if i < m then off s f i else s.length
def okS (s : B) (f m : Nat) : Prop := (m = 0 → f = s.length) ∧ (0 < m → off s f 0 = f + 4 * m) ∧ ∀ k, k < m → edge s f m k ≤ edge s f m (k + 1)
def piece (s : B) (f m k : Nat) : B := (s.take (edge s f m (k + 1))).drop (edge s f m k)
theorem off_lt (s : B) (f i : Nat) : off s f i < 4294967296 := by
 have h := val_lt ((s.drop (f + 4 * i)).take 4)
 have h2 : 256 ^ ((s.drop (f + 4 * i)).take 4).length ≤ 256 ^ 4 := Nat.pow_le_pow_right (by decide) (by rw [List.length_take]; omega)
 have e : (256 : Nat) ^ 4 = 4294967296 := by decide
 unfold off
 omega
abbrev L164a : Key := Key.loop 164 [true, true, true, true, true, true, true, false, true, false]
abbrev L164b : Key := Key.loop 164 [true, true, true, true, true, true, true, true, true, false, true, false]
abbrev Pan2 (e : Int) : JX := .pan (.iface 202 (.agg [vi e]))
abbrev left (s : B) (f m i : Nat) : B := (s.take (f + 4 * m)).drop (f + 4 * i)
theorem take_left {s : B} {f m i : Nat} (hi : i < m) (hs : f + 4 * m ≤ s.length) : takeR (left s f m i) 4 = (off s f i, left s f m (i + 1), 0) := by
 have hl : (left s f m i).length = 4 * m - 4 * i := by
  rw [List.length_drop, List.length_take, Nat.min_eq_left hs]; omega
 rw [takeR_3 (by omega) (by omega)]
 have e1 : (left s f m i).take 4 = (s.drop (f + 4 * i)).take 4 := by
  unfold left
  rw [List.drop_take, List.take_take, Nat.min_eq_left (by omega)]
 have e2 : (left s f m i).drop 4 = left s f m (i + 1) := by
  unfold left
  rw [List.drop_drop]
  congr 1
 show (val ((left s f m i).take 4), (left s f m i).drop 4, (0 : Int)) = _
 rw [e1, e2]
 rfl
theorem head164 {s s1 : B} {f m i n : Nat} {l : List Int} {x71 x72 : Int} (hi : i < m) (hm : m ≤ 8) (hs : f + 4 * m ≤ s.length) :
  E cx L164a [.arr 0 1 0 n, vs (mk (left s f m i)), vi i, vs (mk s1), vi x71, vi x72, vi m] [⟨.arr, 3, 1, 1, ints l⟩] =
   (bif decide ((i : Int) > 0) then (chk n (List.length (ints l))).bind fun _ => if Nat.mul (Nat.add (List.length (ints l)) 1) 8 ≤ 140737488355328 then
     bif decide ((i : Int) > 0) then E cx L164a [.arr 0 1 0 (Nat.add (List.length (ints l)) 1), vs (mk (left s f m (i + 1))), vi (IntKind.wrap .i64 (Int.add i 1)), vs (mk s1), vi x71, vi x72, vi m] [⟨.arr, 3, 1, 1, ints l ++ [[vi (IntKind.wrap .i64 (off s f i))]]⟩]
     else bif decide (IntKind.wrap .i64 (off s f i) = x72) then E cx L164a [.arr 0 1 0 (Nat.add (List.length (ints l)) 1), vs (mk (left s f m (i + 1))), vi (IntKind.wrap .i64 (Int.add i 1)), vs (mk s1), vi x71, vi x72, vi m] [⟨.arr, 3, 1, 1, ints l ++ [[vi (IntKind.wrap .i64 (off s f i))]]⟩]
      else some (Out.jump (Pan2 2) [.arr 0 1 0 (Nat.add (List.length (ints l)) 1), vs (mk (left s f m (i + 1))), vi i], [⟨.arr, 3, 1, 1, ints l ++ [[vi (IntKind.wrap .i64 (off s f i))]]⟩])
     else none
    else bif decide ((i : Int) > 0) then E cx L164a [.arr 0 1 0 n, vs (mk (left s f m (i + 1))), vi (IntKind.wrap .i64 (Int.add i 1)), vs (mk s1), vi x71, vi x72, vi m] [⟨.arr, 3, 1, 1, ints l⟩]
     else bif decide (IntKind.wrap .i64 (off s f i) = x72) then E cx L164a [.arr 0 1 0 n, vs (mk (left s f m (i + 1))), vi (IntKind.wrap .i64 (Int.add i 1)), vs (mk s1), vi x71, vi x72, vi m] [⟨.arr, 3, 1, 1, ints l⟩]
      else some (Out.jump (Pan2 2) [.arr 0 1 0 n, vs (mk (left s f m (i + 1))), vi i], [⟨.arr, 3, 1, 1, ints l⟩])) := by
 refine (f164_l0 _ _ _ _ _ _ _ _).trans ((goD (by omega) _ _).trans ?_)
 have hc := c116 (left s f m i) 4
 rw [take_left hi hs] at hc
 exact goTk hc _
theorem w64 {s : B} {f i : Nat} : IntKind.wrap .i64 (off s f i) = ((off s f i : Nat) : Int) := wr_id (by omega) (by have := off_lt s f i; omega)
theorem ints_len (l : List Int) : (ints l).length = l.length := by simp [ints]
theorem loop164a {s s1 : B} {f m : Nat} {x71 x72 : Int} (hm : m ≤ 8) (hs : f + 4 * m ≤ s.length) : ∀ (d i : Nat) (l : List Int), d + i = m → 1 ≤ i → l.length = i →
  ∃ l' r', E cx L164a [.arr 0 1 0 i, vs (mk (left s f m i)), vi i, vs (mk s1), vi x71, vi x72, vi m] [⟨.arr, 3, 1, 1, ints l⟩] = some (Out.jump (.exit 0) [.arr 0 1 0 m, vs (mk r'), vi m], [⟨.arr, 3, 1, 1, ints l'⟩]) ∧
   l'.length = m ∧ (∀ j, j < i → l'[j]? = l[j]?) ∧ ∀ j, i ≤ j → j < m → l'[j]? = some ((off s f j : Nat) : Int)
 | 0, i, l, hd, hi, hl => by
  have : i = m := by omega
  subst this
  exact ⟨l, _, (f164_l0 _ _ _ _ _ _ _ _).trans (goDn (by omega) _ _), hl, fun _ _ => rfl, fun j h1 h2 => by omega⟩
 | d + 1, i, l, hd, hi, hl => by
  obtain ⟨l', r', h1, h2, h3, h4⟩ := loop164a (s := s) (s1 := s1) (f := f) (m := m) (x71 := x71) (x72 := x72) hm hs d (i + 1) (l ++ [((off s f i : Nat) : Int)]) (by omega) (by omega) (by simp [hl])
  refine ⟨l', r', ?_, h2, fun j hj => ?_, fun j hj1 hj2 => ?_⟩
  ·refine (head164 (by omega) hm hs).trans ((goD (by omega) _ _).trans ?_)
   rw [ints_len, hl]
   refine (goCk rfl _).trans ((goY (by show (i + 1) * 8 ≤ _; omega) _ _).trans ((goD (by omega) _ _).trans ?_))
   rw [w64, wr_add (by omega) (by omega)]
   have e : ints l ++ [[vi ((off s f i : Nat) : Int)]] = ints (l ++ [((off s f i : Nat) : Int)]) := by simp [ints]
   rw [e]
   exact h1
  ·rw [h3 j (by omega), List.getElem?_append_left (by omega)]
  ·by_cases hij : j = i
   ·subst hij
    rw [h3 j (by omega), List.getElem?_append_right (by omega), hl]
    simp
   ·exact h4 j (by omega) hj2
theorem loop164 {s s1 : B} {f m : Nat} {x71 : Int} (hm : m ≤ 8) (hs : f + 4 * m ≤ s.length) :
  ((0 < m → off s f 0 = f + 4 * m) → ∃ l' r', E cx L164a [.arr 0 1 0 1, vs (mk (left s f m 0)), vi 0, vs (mk s1), vi x71, vi (f + 4 * m : Nat), vi m] [⟨.arr, 3, 1, 1, ints [((f + 4 * m : Nat) : Int)]⟩] =
    some (Out.jump (.exit 0) [.arr 0 1 0 (max 1 m), vs (mk r'), vi m], [⟨.arr, 3, 1, 1, ints l'⟩]) ∧ l'.length = max 1 m ∧ l'[0]? = some ((f + 4 * m : Nat) : Int) ∧ ∀ j, 1 ≤ j → j < m → l'[j]? = some ((off s f j : Nat) : Int)) ∧
  (¬ (0 < m → off s f 0 = f + 4 * m) → ∃ l' r', E cx L164a [.arr 0 1 0 1, vs (mk (left s f m 0)), vi 0, vs (mk s1), vi x71, vi (f + 4 * m : Nat), vi m] [⟨.arr, 3, 1, 1, ints [((f + 4 * m : Nat) : Int)]⟩] =
    some (Out.jump (Pan2 2) [.arr 0 1 0 1, vs (mk r'), vi 0], [⟨.arr, 3, 1, 1, ints l'⟩])) := by
 by_cases h0 : m = 0
 ·subst h0
  refine ⟨fun _ => ⟨_, _, (f164_l0 _ _ _ _ _ _ _ _).trans (goDn (by omega) _ _), rfl, rfl, fun j h1 h2 => by omega⟩, fun h => absurd (fun h0 => by omega) h⟩
 ·have hd := head164 (s := s) (s1 := s1) (f := f) (m := m) (i := 0) (n := 1) (l := [((f + 4 * m : Nat) : Int)]) (x71 := x71) (x72 := (f + 4 * m : Nat)) (by omega) hm hs
  rw [goDn (by omega), goDn (by omega), w64] at hd
  by_cases h1 : off s f 0 = f + 4 * m
  ·refine ⟨fun _ => ?_, fun h => absurd (fun _ => h1) h⟩
   rw [goD (by rw [h1]), wr_add (by omega) (by omega)] at hd
   obtain ⟨l', r', g1, g2, g3, g4⟩ := loop164a (s := s) (s1 := s1) (f := f) (m := m) (x71 := x71) (x72 := (f + 4 * m : Nat)) hm hs (m - 1) 1 [((f + 4 * m : Nat) : Int)] (by omega) (Nat.le_refl _) rfl
   refine ⟨l', r', ?_, by rw [g2]; omega, by rw [g3 0 (by omega)]; rfl, g4⟩
   rw [show max 1 m = m by omega]
   exact hd.trans g1
  ·refine ⟨fun h => absurd (h (by omega)) h1, fun _ => ?_⟩
   rw [goDn (by omega)] at hd
   exact ⟨_, _, hd⟩
theorem loop164b {s1 : B} {x88 x89 : Int} {L : List Int} {n : Nat} {g : Nat → Int} (hn : n ≤ 20) (hL : ∀ k, k < n → L[k]? = some (g k)) : ∀ (d i : Nat), d + i = n → 1 ≤ i →
  ((∀ k, i ≤ k → k < n → g (k - 1) ≤ g k) → E cx L164b [vi i, vs (mk s1), vi x88, vi x89, .arr 1 1 0 n] [⟨.dead, 3, 1, 1, []⟩, ⟨.arr, 3, 1, 1, ints L⟩] = some (Out.jump (.exit 2) [vi n], [⟨.dead, 3, 1, 1, []⟩, ⟨.arr, 3, 1, 1, ints L⟩])) ∧
  (¬ (∀ k, i ≤ k → k < n → g (k - 1) ≤ g k) → ∃ j : Int, E cx L164b [vi i, vs (mk s1), vi x88, vi x89, .arr 1 1 0 n] [⟨.dead, 3, 1, 1, []⟩, ⟨.arr, 3, 1, 1, ints L⟩] = some (Out.jump (Pan2 2) [vi j], [⟨.dead, 3, 1, 1, []⟩, ⟨.arr, 3, 1, 1, ints L⟩]))
 | 0, i, hd, hi => by
  refine ⟨fun _ => (f164_l1 _ _ _ _ _ _).trans ((goDn (by omega) _ _).trans ?_), fun h => absurd (fun k h1 h2 => by omega) h⟩
  rw [show i = n by omega]
 | d + 1, i, hd, hi => by
  have head : E cx L164b [vi i, vs (mk s1), vi x88, vi x89, .arr 1 1 0 n] [⟨.dead, 3, 1, 1, []⟩, ⟨.arr, 3, 1, 1, ints L⟩] =
    (bif decide (g (i - 1) ≤ g i) then E cx L164b [vi (i + 1 : Nat), vs (mk s1), vi x88, vi x89, .arr 1 1 0 n] [⟨.dead, 3, 1, 1, []⟩, ⟨.arr, 3, 1, 1, ints L⟩]
     else some (Out.jump (Pan2 2) [vi i], [⟨.dead, 3, 1, 1, []⟩, ⟨.arr, 3, 1, 1, ints L⟩])) := by
   refine (f164_l1 _ _ _ _ _ _).trans ((goD (by omega) _ _).trans ?_)
   rw [wr_sub (by omega) (by omega), wr_add (by omega) (by omega)]
   refine (goY (by omega) _ _).trans ((goY (by omega) _ _).trans ((go1n (n := i - 1) (by omega) (hL (i - 1) (by omega)) _).trans ?_))
   refine (goY (by omega) _ _).trans ((goY (by omega) _ _).trans ((go1n (n := i) rfl (hL i (by omega)) _).trans ?_))
   rfl
  have ih := loop164b (s1 := s1) (x88 := x88) (x89 := x89) hn hL d (i + 1) (by omega) (by omega)
  rw [head]
  by_cases hle : g (i - 1) ≤ g i
  ·rw [goD hle]
   refine ⟨fun h => ih.1 fun k h1 h2 => h k (by omega) h2, fun h => ih.2 fun h' => h fun k h1 h2 => ?_⟩
   by_cases hk : k = i
   ·subst hk; exact hle
   ·exact h' k (by omega) h2
  ·rw [goDn hle]
   exact ⟨fun h => absurd (h i (Nat.le_refl _) (by omega)) hle, fun _ => ⟨_, rfl⟩⟩
end
section
abbrev panR (e : Int) : Option (Out × Heap) := some (Out.jump (Pan2 e) [], [])
def gE (s : B) (f m k : Nat) : Int := if k = 0 then ((f + 4 * m : Nat) : Int) else if k < m then ((off s f k : Nat) : Int) else (s.length : Int)
theorem gE_edge {s : B} {f m : Nat} (h0 : 0 < m → off s f 0 = f + 4 * m) (h1 : m = 0 → f = s.length) {k : Nat} (hk : k ≤ m) : gE s f m k = ((edge s f m k : Nat) : Int) := by
 unfold gE edge
 by_cases hk0 : k = 0
 ·subst hk0
  rw [if_pos rfl]
  by_cases hm : 0 < m
  ·rw [if_pos hm, h0 hm]
  ·rw [if_neg hm, h1 (by omega)]
   omega
 ·rw [if_neg hk0]
  by_cases hm : k < m
  ·rw [if_pos hm, if_pos hm]
  ·rw [if_neg hm, if_neg hm]
theorem left0 (s : B) (f m : Nat) : ByteArray.extract (mk s) f (f + 4 * m) = mk (left s f m 0) := by
 rw [ext_mk]
 unfold left
 rfl
theorem tail164 {s : B} {f m : Nat} (hm : m ≤ 8) (hf : f ≤ 65536) (hs : f + 4 * m ≤ s.length) (hs2 : s.length ≤ 65536) (h0 : 0 < m → off s f 0 = f + 4 * m) {l' : List Int} {r' : B} (g2 : l'.length = max 1 m) (g3 : l'[0]? = some ((f + 4 * m : Nat) : Int)) (g4 : ∀ j, 1 ≤ j → j < m → l'[j]? = some ((off s f j : Nat) : Int)) :
  (okS s f m → ∃ L, (∀ k, k ≤ m → L[k]? = some ((edge s f m k : Nat) : Int)) ∧
   E cx L164b [vi 1, vs (mk s), vi m, vi (f + 4 * m : Nat), .arr 1 1 0 (max 1 m + 1)] [⟨.dead, 3, 1, 1, []⟩, ⟨.arr, 3, 1, 1, ints l' ++ [[vi s.length]]⟩] = some (Out.jump (.exit 2) [vi (max 1 m + 1 : Nat)], [⟨.dead, 3, 1, 1, []⟩, ⟨.arr, 3, 1, 1, ints L⟩]) ∧ L.length = max 1 m + 1) ∧
  (¬ okS s f m → (∃ j : Int, E cx L164b [vi 1, vs (mk s), vi m, vi (f + 4 * m : Nat), .arr 1 1 0 (max 1 m + 1)] [⟨.dead, 3, 1, 1, []⟩, ⟨.arr, 3, 1, 1, ints l' ++ [[vi s.length]]⟩] = some (Out.jump (Pan2 2) [vi j], [⟨.dead, 3, 1, 1, []⟩, ⟨.arr, 3, 1, 1, ints l' ++ [[vi s.length]]⟩])) ∨
   (m = 0 ∧ f ≠ s.length ∧ E cx L164b [vi 1, vs (mk s), vi m, vi (f + 4 * m : Nat), .arr 1 1 0 (max 1 m + 1)] [⟨.dead, 3, 1, 1, []⟩, ⟨.arr, 3, 1, 1, ints l' ++ [[vi s.length]]⟩] = some (Out.jump (.exit 2) [vi (max 1 m + 1 : Nat)], [⟨.dead, 3, 1, 1, []⟩, ⟨.arr, 3, 1, 1, ints l' ++ [[vi s.length]]⟩]))) := by
 have eL : ints l' ++ [[vi (s.length : Int)]] = ints (l' ++ [(s.length : Int)]) := by simp [ints]
 have hL : ∀ k, k < max 1 m + 1 → (l' ++ [(s.length : Int)])[k]? = some (gE s f m k) := fun k hk => by
  unfold gE
  by_cases hk0 : k = 0
  ·subst hk0
   rw [if_pos rfl, List.getElem?_append_left (by omega), g3]
  ·rw [if_neg hk0]
   by_cases hkm : k < m
   ·rw [if_pos hkm, List.getElem?_append_left (by omega), g4 k (by omega) hkm]
   ·rw [if_neg hkm, List.getElem?_append_right (by omega), show k - l'.length = 0 by omega]
    rfl
 have hb := loop164b (s1 := s) (x88 := m) (x89 := (f + 4 * m : Nat)) (by omega) hL (max 1 m) 1 (by omega) (Nat.le_refl _)
 rw [eL]
 have rise : m ≠ 0 → ((∀ k, 1 ≤ k → k < max 1 m + 1 → gE s f m (k - 1) ≤ gE s f m k) ↔ ∀ k, k < m → edge s f m k ≤ edge s f m (k + 1)) := fun hm0 => by
  have e : ∀ k, k ≤ m → gE s f m k = ((edge s f m k : Nat) : Int) := fun k hk => gE_edge h0 (fun h => absurd h hm0) hk
  constructor
  ·intro h k hk
   have := h (k + 1) (by omega) (by omega)
   rw [Nat.add_sub_cancel, e k (by omega), e (k + 1) (by omega)] at this
   omega
  ·intro h k h1 h2
   have := h (k - 1) (by omega)
   rw [show k - 1 + 1 = k by omega] at this
   rw [e (k - 1) (by omega), e k (by omega)]
   omega
 refine ⟨fun hok => ⟨l' ++ [(s.length : Int)], fun k hk => ?_, ?_, by simp [g2]⟩, fun hno => ?_⟩
 ·rw [hL k (by omega), gE_edge h0 hok.1 hk]
 ·refine hb.1 ?_
  by_cases hm0 : m = 0
  ·subst hm0
   intro k h1 h2
   have : k = 1 := by omega
   subst this
   have := hok.1 rfl
   unfold gE
   simp
   omega
  ·exact (rise hm0).2 hok.2.2
 ·by_cases hm0 : m = 0
  ·right
   refine ⟨hm0, fun he => hno ⟨fun _ => he, h0, fun k hk => by omega⟩, hb.1 ?_⟩
   subst hm0
   intro k h1 h2
   have : k = 1 := by omega
   subst this
   unfold gE
   simp
   omega
  ·left
   exact hb.2 fun h => hno ⟨fun h => absurd h hm0, h0, (rise hm0).1 h⟩
theorem c164_bad (s : B) {f m : Int} (hf : RI f) (hm : RI m) (h : f < 0 ∨ f > 65536 ∨ m < 0 ∨ m > 8) : E cx (Key.fn 164) [vs (mk s), vi f, vi m] [] = panR 1 := by
 refine (f164 (mk s) f m).trans ?_
 by_cases h1 : f ≥ 0
 ·refine (goD h1 _ _).trans ?_
  by_cases h2 : f ≤ 65536
  ·refine (goD h2 _ _).trans ?_
   by_cases h3 : m ≥ 0
   ·refine (goD h3 _ _).trans ?_
    exact goDn (by omega) _ _
   ·exact goDn h3 _ _
  ·exact goDn h2 _ _
 ·exact goDn h1 _ _
theorem c164_long (s : B) {f m : Nat} (hf : f ≤ 65536) (hm : m ≤ 8) (h : s.length > 65536) : E cx (Key.fn 164) [vs (mk s), vi f, vi m] [] = panR 4 := by
 refine (f164 (mk s) f m).trans ((goD (by omega) _ _).trans ((goD (by omega) _ _).trans ((goD (by omega) _ _).trans ((goD (by omega) _ _).trans ?_))))
 exact goDn (by show ¬ (s.length : Int) ≤ 65536; omega) _ _
theorem w164 {f m : Nat} (hf : f ≤ 65536) (hm : m ≤ 8) : IntKind.wrap .i64 (Int.add (f : Int) (IntKind.wrap .i64 (Int.mul 4 (m : Int)))) = ((f + 4 * m : Nat) : Int) := by
 rw [wr_mul (by omega) (by omega), wr_add (by omega) (by omega)]
 omega
theorem c164_short (s : B) {f m : Nat} (hf : f ≤ 65536) (hm : m ≤ 8) (h : ¬ s.length > 65536) (h2 : s.length < f + 4 * m) : E cx (Key.fn 164) [vs (mk s), vi f, vi m] [] = panR 3 := by
 refine (f164 (mk s) f m).trans ((goD (by omega) _ _).trans ((goD (by omega) _ _).trans ((goD (by omega) _ _).trans ((goD (by omega) _ _).trans ?_))))
 refine (goD (by show (s.length : Int) ≤ 65536; omega) _ _).trans ?_
 rw [w164 hf hm]
 exact goDn (by show ¬ (s.length : Int) ≥ ((f + 4 * m : Nat) : Int); omega) _ _
theorem c164_rest (s : B) {f m : Nat} (hf : f ≤ 65536) (hm : m ≤ 8) (h : ¬ s.length > 65536) (h2 : ¬ s.length < f + 4 * m) :
  (okS s f m → ∃ L, E cx (Key.fn 164) [vs (mk s), vi f, vi m] [] = some (Out.ret (.list 0 1 (ints L)), []) ∧ ∀ k, k ≤ m → L[k]? = some ((edge s f m k : Nat) : Int)) ∧
  (¬ okS s f m → E cx (Key.fn 164) [vs (mk s), vi f, vi m] [] = panR 2) := by
 have hd := (f164 (mk s) f m).trans ((goD (by omega) _ _).trans ((goD (by omega) _ _).trans ((goD (by omega) _ _).trans ((goD (by omega) _ _).trans (goD (by show (s.length : Int) ≤ 65536; omega) _ _)))))
 rw [w164 hf hm] at hd
 have hd := hd.trans ((goD (by show (s.length : Int) ≥ ((f + 4 * m : Nat) : Int); omega) _ _).trans ((goY (by omega) _ _).trans ((goY (by show ((f + 4 * m : Nat) : Int) ≤ (s.length : Int); omega) _ _).trans ((goY (by omega) _ _).trans (goY (by omega) _ _)))))
 rw [Int.toNat_natCast, Int.toNat_natCast, left0] at hd
 have hl := loop164 (s := s) (s1 := s) (f := f) (m := m) (x71 := m) hm (by omega)
 by_cases h0 : 0 < m → off s f 0 = f + 4 * m
 ·obtain ⟨l', r', g1, g2, g3, g4⟩ := hl.1 h0
  have g1' : E cx (Key.loop 164 [true, true, true, true, true, true, true, false, true, false]) [.arr 0 1 0 1, vs (mk (left s f m 0)), vi 0, vs (mk s), vi m, vi (f + 4 * m : Nat), vi m] [⟨.arr, 3, 1, 1, [[vi (f + 4 * m : Nat)]]⟩] = _ := g1
  rw [g1'] at hd
  have ht := tail164 hm hf (by omega) (by omega) h0 g2 g3 g4 (r' := r')
  have hlen : (ints l').length = max 1 m := by rw [ints_len, g2]
  have hd2 : E cx (Key.fn 164) [vs (mk s), vi f, vi m] [] = ((chk 0 0).bind fun _ => (chk (max 1 m) (ints l').length).bind fun _ => if Nat.mul (Nat.add (ints l').length 1) 8 ≤ 140737488355328 then
    Option.bind (E cx L164b [vi 1, vs (mk s), vi m, vi (f + 4 * m : Nat), .arr 1 1 0 (Nat.add (ints l').length 1)] [⟨.dead, 3, 1, 1, []⟩, ⟨.arr, 3, 1, 1, ints l' ++ [[vi s.length]]⟩]) _ else none) := hd
  rw [goCk rfl, goCk hlen.symm, hlen, goY (by show (max 1 m + 1) * 8 ≤ _; omega)] at hd2
  have fin : ∀ L : List Int, L.length = max 1 m + 1 → E cx L164b [vi 1, vs (mk s), vi m, vi (f + 4 * m : Nat), .arr 1 1 0 (max 1 m + 1)] [⟨.dead, 3, 1, 1, []⟩, ⟨.arr, 3, 1, 1, ints l' ++ [[vi s.length]]⟩] = some (Out.jump (.exit 2) [vi (max 1 m + 1 : Nat)], [⟨.dead, 3, 1, 1, []⟩, ⟨.arr, 3, 1, 1, ints L⟩]) →
    E cx (Key.fn 164) [vs (mk s), vi f, vi m] [] = (bif decide ((m : Int) > 0) then some (Out.ret (.list 0 1 (ints L)), []) else bif decide (((f + 4 * m : Nat) : Int) = (s.length : Int)) then some (Out.ret (.list 0 1 (ints L)), []) else panR 2) := fun L hLl he => by
   have he' : E cx L164b [vi 1, vs (mk s), vi m, vi (f + 4 * m : Nat), .arr 1 1 0 (Nat.add (max 1 m) 1)] [⟨.dead, 3, 1, 1, []⟩, ⟨.arr, 3, 1, 1, ints l' ++ [[vi s.length]]⟩] = _ := he
   rw [he'] at hd2
   have hd3 : E cx (Key.fn 164) [vs (mk s), vi f, vi m] [] = (bif decide ((m : Int) > 0) then (chkLe (0 + (max 1 m + 1)) (ints L).length).bind fun _ => some (Out.ret (.list 0 1 (List.drop 0 (List.take (0 + (max 1 m + 1)) (ints L)))), [])
     else bif decide (((f + 4 * m : Nat) : Int) = (s.length : Int)) then (chkLe (0 + (max 1 m + 1)) (ints L).length).bind fun _ => some (Out.ret (.list 0 1 (List.drop 0 (List.take (0 + (max 1 m + 1)) (ints L)))), []) else panR 2) := by
    rw [← hlen]
    rw [← hlen] at hd2
    exact hd2
   have hi : (ints L).length = max 1 m + 1 := by rw [ints_len, hLl]
   rw [goLe (by omega), List.drop_zero, List.take_of_length_le (by omega)] at hd3
   exact hd3
  refine ⟨fun hok => ?_, fun hno => ?_⟩
  ·obtain ⟨L, k1, k2, k3⟩ := ht.1 hok
   refine ⟨L, (fin L k3 k2).trans ?_, k1⟩
   by_cases hm0 : (m : Int) > 0
   ·exact goD hm0 _ _
   ·refine (goDn hm0 _ _).trans (goD ?_ _ _)
    have := hok.1 (by omega)
    omega
  ·rcases ht.2 hno with ⟨j, he⟩ | ⟨hm0, hne, he⟩
   ·have he' : E cx L164b [vi 1, vs (mk s), vi m, vi (f + 4 * m : Nat), .arr 1 1 0 (Nat.add (max 1 m) 1)] [⟨.dead, 3, 1, 1, []⟩, ⟨.arr, 3, 1, 1, ints l' ++ [[vi s.length]]⟩] = _ := he
    rw [he'] at hd2
    exact hd2
   ·have e : ints l' ++ [[vi (s.length : Int)]] = ints (l' ++ [(s.length : Int)]) := by simp [ints]
    have := fin (l' ++ [(s.length : Int)]) (by simp [g2]) (by rw [← e]; exact he)
    refine this.trans ((goDn (by omega) _ _).trans (goDn (by omega) _ _))
 ·obtain ⟨l', r', g1⟩ := hl.2 h0
  have g1' : E cx (Key.loop 164 [true, true, true, true, true, true, true, false, true, false]) [.arr 0 1 0 1, vs (mk (left s f m 0)), vi 0, vs (mk s), vi m, vi (f + 4 * m : Nat), vi m] [⟨.arr, 3, 1, 1, [[vi (f + 4 * m : Nat)]]⟩] = _ := g1
  rw [g1'] at hd
  exact ⟨fun hok => absurd hok.2.1 h0, fun _ => hd⟩
end
section
noncomputable section
open Classical
def pieces (s : B) (f m n : Nat) : List B := (List.range n).map (piece s f m)
def splitR (s : B) (f m : Int) : B × List B × Int :=
 if f < 0 ∨ f > 65536 ∨ m < 0 ∨ m > 8 then ([], [], 1) else if s.length > 65536 then ([], [], 4) else if s.length < f.toNat + 4 * m.toNat then ([], [], 3) else
 if okS s f.toNat m.toNat then (s.take f.toNat, pieces s f.toNat m.toNat m.toNat, 0) else ([], [], 2)
theorem splitR_1 {s : B} {f m : Int} (h : f < 0 ∨ f > 65536 ∨ m < 0 ∨ m > 8) : splitR s f m = ([], [], 1) := if_pos h
theorem splitR_4 {s : B} {f m : Nat} (hf : f ≤ 65536) (hm : m ≤ 8) (h : s.length > 65536) : splitR s f m = ([], [], 4) := (if_neg (by omega)).trans (if_pos h)
theorem splitR_3 {s : B} {f m : Nat} (hf : f ≤ 65536) (hm : m ≤ 8) (h : ¬ s.length > 65536) (h2 : s.length < f + 4 * m) : splitR s f m = ([], [], 3) :=
 (if_neg (by omega)).trans ((if_neg h).trans (if_pos (by simpa using h2)))
theorem splitR_0 {s : B} {f m : Nat} (hf : f ≤ 65536) (hm : m ≤ 8) (h : ¬ s.length > 65536) (h2 : ¬ s.length < f + 4 * m) (hok : okS s f m) : splitR s f m = (s.take f, pieces s f m m, 0) :=
 (if_neg (by omega)).trans ((if_neg h).trans ((if_neg (by simpa using h2)).trans (if_pos (by simpa using hok))))
theorem splitR_2 {s : B} {f m : Nat} (hf : f ≤ 65536) (hm : m ≤ 8) (h : ¬ s.length > 65536) (h2 : ¬ s.length < f + 4 * m) (hok : ¬ okS s f m) : splitR s f m = ([], [], 2) :=
 (if_neg (by omega)).trans ((if_neg h).trans ((if_neg (by simpa using h2)).trans (if_neg (by simpa using hok))))
end
def RS' (x : Option (Out × Heap)) (r : B × List B × Int) : Prop := RS x r.1 r.2.1 r.2.2
theorem edge_le {s : B} {f m : Nat} (h : ∀ k, k < m → edge s f m k ≤ edge s f m (k + 1)) : ∀ (d k : Nat), k + d = m → edge s f m k ≤ s.length
 | 0, k, hk => by
  unfold edge
  rw [if_neg (by omega)]
  exact Nat.le_refl _
 | d + 1, k, hk => by
  have h1 := h k (by omega)
  have h2 := edge_le h d (k + 1) (by omega)
  omega
theorem pieces_succ (s : B) (f m n : Nat) : pieces s f m (n + 1) = pieces s f m n ++ [piece s f m n] := by
 unfold pieces
 rw [List.range_succ, List.map_append]
 rfl
theorem pieces_len (s : B) (f m n : Nat) : (pieces s f m n).length = n := by simp [pieces]
abbrev L145 : Key := Key.loop 145 [true, true, true, false, true, false]
theorem loop145 {s : B} {f m : Nat} {L : List Int} {x148 : Int} {s151 : ByteArray} (hm : m ≤ 8) (hs2 : s.length ≤ 65536) (hL : ∀ k, k ≤ m → L[k]? = some ((edge s f m k : Nat) : Int)) (hr : ∀ k, k < m → edge s f m k ≤ edge s f m (k + 1)) : ∀ (d i : Nat), d + i = m →
  E cx L145 [vi i, vs (mk s), vi x148, .ptr 0 0 0 0, .ptr 1 0 0 0, .ptr 2 0 0 0, .list 0 1 (ints L), vi m] [⟨.box, 9, 1, 0, [[vs s151]]⟩, ⟨.box, 58, 1, 0, [[.arr 3 1 0 i]]⟩, ⟨.box, 40, 1, 0, [[vi 0]]⟩, ⟨.arr, 9, 1, 1, rowsB (pieces s f m i)⟩] =
   some (Out.jump (.exit 0) [vi m], [⟨.box, 9, 1, 0, [[vs s151]]⟩, ⟨.box, 58, 1, 0, [[.arr 3 1 0 m]]⟩, ⟨.box, 40, 1, 0, [[vi 0]]⟩, ⟨.arr, 9, 1, 1, rowsB (pieces s f m m)⟩])
 | 0, i, hd => by
  have : i = m := by omega
  subst this
  exact (f145_l0 _ _ _ _ _ _ _ _ _).trans (goDn (by omega) _ _)
 | d + 1, i, hd => by
  have e1 := edge_le hr (m - i) i (by omega)
  have e2 := edge_le hr (m - (i + 1)) (i + 1) (by omega)
  have e3 := hr i (by omega)
  have hlen : (rowsB (pieces s f m i)).length = i := by rw [rows_len, pieces_len]
  refine (f145_l0 _ _ _ _ _ _ _ _ _).trans ((goD (by omega) _ _).trans ((goY (by omega) _ _).trans ((go1 (n := i) rfl (hL i (by omega)) _).trans ?_)))
  rw [wr_add (by omega) (by omega)]
  refine (goY (by omega) _ _).trans ((go1 (n := i + 1) (by omega) (hL (i + 1) (by omega)) _).trans ?_)
  refine (goY (by omega) _ _).trans ((goY (by show ((edge s f m (i + 1) : Nat) : Int) ≤ (s.length : Int); omega) _ _).trans ((goY (by omega) _ _).trans ((goY (by omega) _ _).trans ?_)))
  refine (goCk (by show i = (rowsB _).length; rw [hlen]) _).trans ((goY (by show Nat.mul (Nat.add (rowsB _).length 1) 16 ≤ _; rw [hlen]; show (i + 1) * 16 ≤ _; omega) _ _).trans ?_)
  have ep : rowsB (pieces s f m i) ++ [[vs (ByteArray.extract (mk s) (Int.toNat ((edge s f m i : Nat) : Int)) (Int.toNat ((edge s f m (i + 1) : Nat) : Int)))]] = rowsB (pieces s f m (i + 1)) := by
   rw [ext_mk, Int.toNat_natCast, Int.toNat_natCast, pieces_succ]
   simp only [rowsB, List.map_append, List.map_cons, List.map_nil]
   rfl
  show E cx L145 [vi ((i : Int) + 1), vs (mk s), vi x148, .ptr 0 0 0 0, .ptr 1 0 0 0, .ptr 2 0 0 0, .list 0 1 (ints L), vi m] [⟨.box, 9, 1, 0, [[vs s151]]⟩, ⟨.box, 58, 1, 0, [[.arr 3 1 0 (Nat.add (rowsB (pieces s f m i)).length 1)]]⟩, ⟨.box, 40, 1, 0, [[vi 0]]⟩,
   ⟨.arr, 9, 1, 1, rowsB (pieces s f m i) ++ [[vs (ByteArray.extract (mk s) (Int.toNat ((edge s f m i : Nat) : Int)) (Int.toNat ((edge s f m (i + 1) : Nat) : Int)))]]⟩] = _
  rw [ep, hlen]
  exact loop145 hm hs2 hL hr d (i + 1) (by omega)
theorem panRS {s : B} {f m : Int} {e : Int} (h : E cx (Key.fn 164) [vs (mk s), vi f, vi m] [] = panR e) : RS (E cx (Key.fn 145) [vs (mk s), vi f, vi m] []) [] [] e := by
 refine ⟨AV.val (Value.slice none 0 0), ?_, rfl⟩
 refine (f145 (mk s) f m).trans ?_
 rw [h]
 rfl
theorem c145 (s : B) {f m : Int} (hf : RI f) (hm : RI m) : RS' (E cx (Key.fn 145) [vs (mk s), vi f, vi m] []) (splitR s f m) := by
 unfold RS'
 by_cases h1 : f < 0 ∨ f > 65536 ∨ m < 0 ∨ m > 8
 ·rw [splitR_1 h1]
  exact panRS (c164_bad s hf hm h1)
 obtain ⟨f, rfl⟩ : ∃ n : Nat, f = n := ⟨f.toNat, by omega⟩
 obtain ⟨m, rfl⟩ : ∃ n : Nat, m = n := ⟨m.toNat, by omega⟩
 have hf' : f ≤ 65536 := by omega
 have hm' : m ≤ 8 := by omega
 by_cases h2 : s.length > 65536
 ·rw [splitR_4 hf' hm' h2]
  exact panRS (c164_long s hf' hm' h2)
 by_cases h3 : s.length < f + 4 * m
 ·rw [splitR_3 hf' hm' h2 h3]
  exact panRS (c164_short s hf' hm' h2 h3)
 have hr := c164_rest s hf' hm' h2 h3
 by_cases hok : okS s f m
 ·obtain ⟨L, g1, g2⟩ := hr.1 hok
  rw [splitR_0 hf' hm' h2 h3 hok]
  have hl := loop145 (s := s) (f := f) (m := m) (L := L) (x148 := f) (s151 := mk []) hm' (by omega) g2 hok.2.2 m 0 (by omega)
  refine ⟨.list 0 1 (rowsB (pieces s f m m)), ?_, rfl⟩
  refine (f145 (mk s) f m).trans ?_
  rw [g1]
  show (Option.bind (E cx L145 [vi ((0 : Nat) : Int), vs (mk s), vi f, .ptr 0 0 0 0, .ptr 1 0 0 0, .ptr 2 0 0 0, .list 0 1 (ints L), vi m] [⟨.box, 9, 1, 0, [[vs (mk [])]]⟩, ⟨.box, 58, 1, 0, [[.arr 3 1 0 0]]⟩, ⟨.box, 40, 1, 0, [[vi 0]]⟩, ⟨.arr, 9, 1, 1, rowsB (pieces s f m 0)⟩]) _) = _
  rw [hl]
  show (if (0 : Int) ≤ (f : Int) then if (f : Int) ≤ (s.length : Int) then (chkLe (0 + m) (rowsB (pieces s f m m)).length).bind fun _ => some (Out.ret (AV.tuple [vs (ByteArray.extract (mk s) 0 (Int.toNat (f : Int))), .list 0 1 (List.drop 0 (List.take (0 + m) (rowsB (pieces s f m m)))), vi 0]), []) else none else none) = _
  have hlen : (rowsB (pieces s f m m)).length = m := by rw [rows_len, pieces_len]
  rw [goY (by omega), goY (by omega), goLe (by omega), List.drop_zero, List.take_of_length_le (by omega), ext_mk, Int.toNat_natCast, List.drop_zero]
 ·rw [splitR_2 hf' hm' h2 h3 hok]
  exact panRS (hr.2 hok)
end
section
theorem app_drop {l : B} {a b c : Nat} (h1 : a ≤ b) (h2 : b ≤ c) : (l.take b).drop a ++ (l.take c).drop b = (l.take c).drop a := by
 have e : l.take b = (l.take c).take b := by rw [List.take_take, Nat.min_eq_left h2]
 rw [e]
 generalize l.take c = l'
 have : l'.drop a = (l'.take b ++ l'.drop b).drop a := by rw [List.take_append_drop]
 rw [this, List.drop_append]
 by_cases hb : b ≤ l'.length
 ·rw [List.length_take, Nat.min_eq_left hb, Nat.sub_eq_zero_of_le h1, List.drop_zero]
 ·rw [show l'.drop b = [] from List.drop_eq_nil_iff.2 (by omega)]
  simp
theorem flat_pieces {s : B} {f m : Nat} (hr : ∀ k, k < m → edge s f m k ≤ edge s f m (k + 1)) : ∀ (n : Nat), n ≤ m → edge s f m 0 ≤ edge s f m n ∧ (pieces s f m n).flatten = (s.take (edge s f m n)).drop (edge s f m 0)
 | 0, _ => by
  refine ⟨Nat.le_refl _, ?_⟩
  rw [show pieces s f m 0 = [] from rfl, List.flatten_nil]
  exact (List.drop_eq_nil_iff.2 (by rw [List.length_take]; omega)).symm
 | n + 1, hn => by
  obtain ⟨h1, h2⟩ := flat_pieces hr n (by omega)
  have h3 := hr n (by omega)
  refine ⟨Nat.le_trans h1 h3, ?_⟩
  rw [pieces_succ, List.flatten_append, h2]
  simp only [List.flatten_cons, List.flatten_nil, List.append_nil]
  exact app_drop h1 h3
theorem flat_all {s : B} {f m : Nat} (hr : ∀ k, k < m → edge s f m k ≤ edge s f m (k + 1)) : (pieces s f m m).flatten = s.drop (edge s f m 0) := by
 rw [(flat_pieces hr m (Nat.le_refl _)).2]
 rw [show edge s f m m = s.length from if_neg (by omega), List.take_length]
def pl (s : B) (f m j : Nat) : Nat → List B
 | 0 => []
 | d + 1 => piece s f m j :: pl s f m (j + 1) d
theorem pl_pieces (s : B) (f m : Nat) : ∀ (d j : Nat), pieces s f m (j + d) = pieces s f m j ++ pl s f m j d
 | 0, j => by simp [pl]
 | d + 1, j => by
  rw [show j + (d + 1) = (j + 1) + d by omega, pl_pieces s f m d (j + 1), pieces_succ]
  simp [pl]
theorem piece_len {s : B} {f m : Nat} (hr : ∀ k, k < m → edge s f m k ≤ edge s f m (k + 1)) {k : Nat} (hk : k < m) : edge s f m k + (piece s f m k).length = edge s f m (k + 1) := by
 have h1 := hr k hk
 have h2 := edge_le hr (m - (k + 1)) (k + 1) (by omega)
 unfold piece
 rw [List.length_drop, List.length_take]
 omega
theorem hs_left {s : B} {f m : Nat} (hs : f + 4 * m ≤ s.length) (hr : ∀ k, k < m → edge s f m k ≤ edge s f m (k + 1)) : ∀ (d j : Nat), j + d = m → Av.hs (edge s f m j) (pl s f m j d) = left s f m j
 | 0, j, hj => by
  simp only [pl, Av.hs]
  exact (List.drop_eq_nil_iff.2 (by rw [List.length_take]; omega)).symm
 | d + 1, j, hj => by
  simp only [pl, Av.hs]
  rw [piece_len hr (by omega), hs_left hs hr d (j + 1) (by omega)]
  have e1 : edge s f m j = off s f j := if_pos (by omega)
  have hl : ((s.drop (f + 4 * j)).take 4).length = 4 := by rw [List.length_take, List.length_drop]; omega
  have e2 : put (edge s f m j) 4 = (s.drop (f + 4 * j)).take 4 := by
   rw [e1]
   have := put_val ((s.drop (f + 4 * j)).take 4)
   rw [hl] at this
   exact this
  rw [e2]
  unfold left
  have e3 : (s.take (f + 4 * m)).drop (f + 4 * (j + 1)) = ((s.take (f + 4 * m)).drop (f + 4 * j)).drop 4 := by rw [List.drop_drop]; congr 1
  have e4 : (s.drop (f + 4 * j)).take 4 = ((s.take (f + 4 * m)).drop (f + 4 * j)).take 4 := by rw [List.drop_take, List.take_take, Nat.min_eq_left (by omega)]
  rw [e3, e4, List.take_append_drop]
theorem back_join {s : B} {f m : Nat} (hm : m ≤ 8) (hs : f + 4 * m ≤ s.length) (hs2 : s.length ≤ 65536) (hr : ∀ k, k < m → edge s f m k ≤ edge s f m (k + 1)) :
  (okS s f m → joinR (s.take f) (pieces s f m m) = (s, 0)) ∧ (¬ okS s f m → (joinR (s.take f) (pieces s f m m)).2 ≠ 0 ∨ (joinR (s.take f) (pieces s f m m)).1 ≠ s) := by
 have hfl : (s.take f).length = f := by rw [List.length_take]; omega
 have hfa := flat_all hr
 have he0 := edge_le hr m 0 (by omega)
 refine ⟨fun hok => ?_, fun hno => ?_⟩
 ·have he : edge s f m 0 = f + 4 * m := by
   by_cases h0 : 0 < m
   ·rw [show edge s f m 0 = off s f 0 from if_pos h0]; exact hok.2.1 h0
   ·rw [show edge s f m 0 = s.length from if_neg h0, hok.1 (by omega)]; omega
  have hhs := hs_left hs hr m 0 (by omega)
  have hpl := pl_pieces s f m m 0
  rw [Nat.zero_add, show pieces s f m 0 = [] from rfl, List.nil_append] at hpl
  rw [joinR_ok (by rw [pieces_len]; exact hm) (by rw [hfl, pieces_len, hfa, List.length_drop]; omega)]
  rw [hfl, pieces_len, hfa, ← he, hpl, hhs, he]
  congr 1
  have e1 : s.take f ++ left s f m 0 = s.take (f + 4 * m) := by
   have := app_drop (l := s) (a := 0) (b := f) (c := f + 4 * m) (by omega) (by omega)
   show s.take f ++ (s.take (f + 4 * m)).drop (f + 4 * 0) = _
   rw [Nat.mul_zero, Nat.add_zero]
   simpa using this
  rw [e1, List.take_append_drop]
 ·by_cases hj : (s.take f).length + 4 * (pieces s f m m).length + (pieces s f m m).flatten.length ≤ 65536
  ·right
   rw [joinR_ok (by rw [pieces_len]; exact hm) hj]
   intro he
   have hl := congrArg List.length he
   simp only [List.length_append, hs_len, hfl, pieces_len, hfa, List.length_drop] at hl
   refine hno ⟨fun h0 => ?_, fun h0 => ?_, hr⟩
   ·rw [show edge s f m 0 = s.length from if_neg (by omega)] at hl
    omega
   ·rw [← show edge s f m 0 = off s f 0 from if_pos h0]
    omega
  ·left
   rw [joinR_no (fun h => hj h.2)]
   show (4 : Int) ≠ 0
   omega
end
section
theorem hs_get : ∀ (t : Nat) (P : List B) (i : Nat), i < P.length → ((hs t P).drop (4 * i)).take 4 = put (t + ((P.take i).flatten).length) 4
 | t, [], i, hi => by simp at hi
 | t, p :: r, 0, hi => by
  simp only [hs, Nat.mul_zero, List.drop_zero, List.take_zero, List.flatten_nil, List.length_nil, Nat.add_zero]
  rw [List.take_append_of_le_length (by rw [put_len]; omega), List.take_of_length_le (by rw [put_len]; omega)]
 | t, p :: r, i + 1, hi => by
  have ih := hs_get (t + p.length) r i (by simpa using hi)
  simp only [hs, List.take_succ_cons, List.flatten_cons, List.length_append]
  rw [List.drop_append, put_len, List.drop_eq_nil_iff.2 (by rw [put_len]; omega), List.nil_append, show 4 * (i + 1) - 4 = 4 * i by omega, ih, Nat.add_assoc]
theorem flat_split {P : List B} {i : Nat} {p : B} (h : P[i]? = some p) : P.flatten = (P.take i).flatten ++ (p ++ (P.drop (i + 1)).flatten) := by
 have hi := (List.getElem?_eq_some_iff.1 h).1
 have e : P = P.take i ++ (p :: P.drop (i + 1)) := by
  have h2 : P.drop i = p :: P.drop (i + 1) := by
   rw [List.drop_eq_getElem_cons hi]
   rw [(List.getElem?_eq_some_iff.1 h).2]
  rw [← h2, List.take_append_drop]
 have e2 := congrArg List.flatten e
 rw [List.flatten_append, List.flatten_cons] at e2
 exact e2
theorem flat_take_succ {P : List B} {i : Nat} {p : B} (h : P[i]? = some p) : ((P.take (i + 1)).flatten).length = ((P.take i).flatten).length + p.length := by
 rw [List.take_add_one, h, List.flatten_append]
 simp
abbrev joined (x : B) (P : List B) : B := x ++ hs (x.length + 4 * P.length) P ++ P.flatten
theorem joined_len (x : B) (P : List B) : (joined x P).length = x.length + 4 * P.length + P.flatten.length := by
 simp only [joined, List.length_append, hs_len]
theorem join_off {x : B} {P : List B} (h : x.length + 4 * P.length + P.flatten.length ≤ 65536) {i : Nat} (hi : i < P.length) : off (joined x P) x.length i = x.length + 4 * P.length + ((P.take i).flatten).length := by
 have hfl : ((P.take i).flatten).length ≤ P.flatten.length := by
  rw [flat_split (List.getElem?_eq_getElem hi)]
  simp
 unfold off
 have e : ((joined x P).drop (x.length + 4 * i)).take 4 = ((hs (x.length + 4 * P.length) P).drop (4 * i)).take 4 := by
  unfold joined
  rw [List.append_assoc, List.drop_append, List.drop_eq_nil_iff.2 (show x.length ≤ x.length + 4 * i by omega), List.nil_append, show x.length + 4 * i - x.length = 4 * i by omega,
   List.drop_append_of_le_length (by rw [hs_len]; omega), List.take_append_of_le_length (by rw [List.length_drop, hs_len]; omega)]
 rw [e, hs_get _ _ _ hi, val_put]
 have : (256 : Nat) ^ 4 = 4294967296 := by decide
 exact Nat.mod_eq_of_lt (by omega)
theorem join_edge {x : B} {P : List B} (h : x.length + 4 * P.length + P.flatten.length ≤ 65536) {i : Nat} (hi : i ≤ P.length) : edge (joined x P) x.length P.length i = x.length + 4 * P.length + ((P.take i).flatten).length := by
 unfold edge
 by_cases hlt : i < P.length
 ·rw [if_pos hlt, join_off h hlt]
 ·rw [if_neg hlt, joined_len, show i = P.length by omega, List.take_length]
theorem join_ok {x : B} {P : List B} (h : x.length + 4 * P.length + P.flatten.length ≤ 65536) : okS (joined x P) x.length P.length := by
 refine ⟨fun h0 => ?_, fun h0 => ?_, fun k hk => ?_⟩
 ·have : P = [] := List.eq_nil_of_length_eq_zero h0
  subst this
  simp [joined, hs]
 ·rw [join_off h h0]
  simp
 ·rw [join_edge h (by omega), join_edge h (by omega), flat_take_succ (List.getElem?_eq_getElem hk)]
  omega
theorem join_pieces {x : B} {P : List B} (h : x.length + 4 * P.length + P.flatten.length ≤ 65536) : pieces (joined x P) x.length P.length P.length = P := by
 apply List.ext_getElem?
 intro i
 by_cases hi : i < P.length
 ·have hp := List.getElem?_eq_getElem hi
  unfold pieces
  rw [List.getElem?_map, List.getElem?_range hi, hp]
  show some (piece _ _ _ i) = _
  congr 1
  unfold piece
  rw [join_edge h (by omega), join_edge h (by omega), flat_take_succ hp]
  have hl : (x ++ hs (x.length + 4 * P.length) P).length = x.length + 4 * P.length := by rw [List.length_append, hs_len]
  have e : joined x P = (x ++ hs (x.length + 4 * P.length) P) ++ ((P.take i).flatten ++ (P[i] ++ (P.drop (i + 1)).flatten)) := by
   unfold joined
   rw [← flat_split hp]
  rw [e]
  generalize hA : x ++ hs (x.length + 4 * P.length) P = A at hl
  generalize (P.take i).flatten = C
  generalize (P.drop (i + 1)).flatten = D
  rw [← hl]
  have e2 : A ++ (C ++ (P[i] ++ D)) = ((A ++ C) ++ P[i]) ++ D := by simp
  rw [e2, List.take_append_of_le_length (by simp), List.take_of_length_le (by simp), List.drop_append_of_le_length (by simp), List.drop_eq_nil_iff.2 (by simp), List.nil_append]
 ·rw [List.getElem?_eq_none (by rw [pieces_len]; omega), List.getElem?_eq_none (by omega)]
theorem join_take (x : B) (P : List B) : (joined x P).take x.length = x := by
 unfold joined
 rw [List.append_assoc, List.take_append_of_le_length (Nat.le_refl _), List.take_of_length_le (Nat.le_refl _)]
theorem split_joined {x : B} {P : List B} (hP : P.length ≤ 8) (h : x.length + 4 * P.length + P.flatten.length ≤ 65536) : splitR (joined x P) x.length P.length = (x, P, 0) := by
 have hl := joined_len x P
 rw [splitR_0 (by omega) hP (by omega) (by omega) (join_ok h), join_pieces h, join_take]
end
end
section
section
section
variable {ρ : Type} {x : Option (Out × Heap)}
abbrev P2 := Nat × Nat
abbrev prs (l : List P2) : List (List AV) := l.map encP
theorem prs_len (l : List P2) : (prs l).length = l.length := by simp [prs]
theorem prs_get {l : List P2} {n : Nat} {p : P2} (h : l[n]? = some p) : (prs l)[n]? = some (encP p) := by simp [prs, h]
theorem goPr {l : List P2} {i : Int} {n : Nat} {p : P2} (hn : i = n) (h : l[n]? = some p) (k : Int → Int → Option ρ) :
  ((prs l)[Int.toNat i]?.bind fun cs => (uncons? cs).bind fun p1 => (AV.int? .u64 p1.fst).bind fun a => (uncons? p1.snd).bind fun p2 => (AV.int? .u64 p2.fst).bind fun b => (nil? p2.snd).bind fun _ => k a b) = k p.1 p.2 := by
 subst hn
 rw [Int.toNat_natCast, prs_get h]
 rfl
theorem goPn {l : List P2} {i : Int} {n : Nat} {p : P2} (hn : i = n) (h : l[n]? = some p) (k : Int → Int → Option ρ) :
  ((nth (prs l) (Nat.add 0 (Int.toNat i))).bind fun cs => (uncons? cs).bind fun p1 => (AV.int? .u64 p1.fst).bind fun a => (uncons? p1.snd).bind fun p2 => (AV.int? .u64 p2.fst).bind fun b => (nil? p2.snd).bind fun _ => k a b) = k p.1 p.2 := by
 subst hn
 rw [Int.toNat_natCast, nth_eq, show Nat.add 0 n = n from Nat.zero_add n, prs_get h]
 rfl
theorem wS {i : Nat} (h : i < 9223372036854775807) : IntKind.wrap .i64 (Int.add (i : Int) 1) = ((i + 1 : Nat) : Int) := wr_add (b := 1) (by omega) (by omega)
theorem wP {i : Nat} (h : i < 9223372036854775807) : IntKind.wrap .i64 (Int.sub ((i + 1 : Nat) : Int) 1) = (i : Int) := (wr_sub (b := 1) (by omega) (by omega)).trans (by omega)
end
theorem c165 (x : Int) : E cx (Key.fn 165) [vu x] [] = rb false := (f165 x).trans (goE rfl _ _)
def cmpI (x y : Int) : Int := if x < y then -1 else if x > y then 1 else 0
theorem c148 (x y : Int) : E cx (Key.fn 148) [vu x, vu y] [] = some (Out.ret (vi (cmpI x y)), []) := by
 refine (f148 x y).trans ((goF (c165 x) _ _).trans ((goF (c165 y) _ _).trans ?_))
 unfold cmpI
 by_cases h1 : x < y
 ·rw [if_pos h1]; exact goD h1 _ _
 ·rw [if_neg h1]
  refine (goDn h1 _ _).trans ?_
  by_cases h2 : x > y
  ·rw [if_pos h2]; exact goD h2 _ _
  ·rw [if_neg h2]; exact goDn h2 _ _
theorem c147 (a b : Int) : E cx (Key.fn 147) [.list 0 1 [[vi a], [vi b]]] [] = some (Out.ret (vi (if a = 0 then b else a)), []) := by
 refine (f147 _).trans ?_
 have e2 : E cx (Key.loop 147 [true, true, false, true, false]) [vi 0, vi (IntKind.wrap .i64 (Int.add (IntKind.wrap .i64 (Int.add 0 1)) 1)), vi 0, .list 0 1 [[vi a], [vi b]], vi 2] [] = some (Out.jump (.exit 0) [vi 0, vi 2], []) :=
  (f147_l0 _ _ _ _ _).trans (goDn (by decide) _ _)
 have e1 : E cx (Key.loop 147 [true, true, false, true, false]) [vi 0, vi (IntKind.wrap .i64 (Int.add 0 1)), vi 0, .list 0 1 [[vi a], [vi b]], vi 2] [] = if b = 0 then some (Out.jump (.exit 0) [vi 0, vi 2], []) else some (Out.jump .ret [vi b, vi 1], []) := by
  refine (f147_l0 _ _ _ _ _).trans ((goD (by decide) _ _).trans ((goY (by decide) _ _).trans ?_))
  by_cases hb : b = 0
  ·subst hb
   rw [if_pos rfl]
   exact e2
  ·rw [if_neg hb]
   exact goEn (a := b) (b := 0) hb _ _
 have e0 : E cx (Key.loop 147 [true, true, false, true, false]) [vi 0, vi 0, vi 0, .list 0 1 [[vi a], [vi b]], vi 2] [] = if a = 0 then (if b = 0 then some (Out.jump (.exit 0) [vi 0, vi 2], []) else some (Out.jump .ret [vi b, vi 1], [])) else some (Out.jump .ret [vi a, vi 0], []) := by
  refine (f147_l0 _ _ _ _ _).trans ((goD (by decide) _ _).trans ((goY (by decide) _ _).trans ?_))
  by_cases ha : a = 0
  ·subst ha
   rw [if_pos rfl]
   exact e1
  ·rw [if_neg ha]
   exact goEn (a := a) (b := 0) ha _ _
 show (Option.bind (E cx (Key.loop 147 [true, true, false, true, false]) [vi 0, vi 0, vi 0, .list 0 1 [[vi a], [vi b]], vi 2] []) _) = _
 rw [e0]
 by_cases ha : a = 0
 ·rw [if_pos ha, if_pos ha]
  by_cases hb : b = 0
  ·rw [if_pos hb, hb]; rfl
  ·rw [if_neg hb]; rfl
 ·rw [if_neg ha, if_neg ha]; rfl
def ordI (p q : P2) : Int := if p = q then 0 else if ltP p q then -1 else 1
theorem c109 (p q : P2) : E cx (Key.fn 109) [.agg [vu p.1, vu p.2], .agg [vu q.1, vu q.2]] [] = some (Out.ret (vi (ordI p q)), []) := by
 refine (f109 _ _ _ _).trans ?_
 obtain ⟨a, b⟩ := p
 obtain ⟨c, d⟩ := q
 simp only
 by_cases h : a = c ∧ b = d
 ·obtain ⟨rfl, rfl⟩ := h
  simp [ordI]
 ·have h1 : (decide ((a : Int) = (c : Int)) && (decide ((b : Int) = (d : Int)) && true)) = false := by
   simp
   omega
  rw [h1]
  refine (goI (c148 _ _) _).trans ((goI (c148 _ _) _).trans ((goI (c147 _ _) _).trans ?_))
  have h2 : (if cmpI (a : Int) (c : Int) = 0 then cmpI (b : Int) (d : Int) else cmpI (a : Int) (c : Int)) = ordI (a, b) (c, d) := by
   have e : ∀ x y : Nat, cmpI (x : Int) (y : Int) = if x < y then -1 else if y < x then 1 else 0 := fun x y => by
    unfold cmpI
    simp only [Int.ofNat_lt, gt_iff_lt]
   rw [e, e]
   unfold ordI ltP
   rcases Nat.lt_trichotomy a c with h1 | h1 | h1 <;> rcases Nat.lt_trichotomy b d with h3 | h3 | h3 <;>
    simp [h1, h3, Nat.lt_asymm, Nat.ne_of_lt, Nat.ne_of_gt] <;> omega
  rw [h2]
theorem c105 (p q : P2) : E cx (Key.fn 105) [.agg [vu p.1, vu p.2], .agg [vu q.1, vu q.2]] [] = rb (ltP p q) := by
 refine (f105 _ _ _ _).trans ?_
 obtain ⟨a, b⟩ := p
 obtain ⟨c, d⟩ := q
 simp only [ltP]
 by_cases h1 : a < c
 ·refine (goD (by omega) _ _).trans ?_
  simp [h1]
 ·refine (goDn (by omega) _ _).trans ?_
  by_cases h2 : a = c
  ·refine (goD (by omega) _ _).trans ?_
   by_cases h3 : b < d
   ·refine (goD (by omega) _ _).trans ?_
    simp [h2, h3]
   ·refine (goDn (by omega) _ _).trans ?_
    simp [h2, h3]
  ·refine (goDn (by omega) _ _).trans ?_
   simp [h1, h2]
theorem ordI_neg (p q : P2) : ordI p q < 0 ↔ ltP p q = true := by
 unfold ordI
 by_cases h : p = q
 ·subst h
  simp [ltP]
 ·rw [if_neg h]
  cases ltP p q <;> simp
end
section
def okAt (l : List P2) (j : Nat) : Prop := ∀ p q, l[j]? = some p → l[j + 1]? = some q → ltP q p = false
def srtI (l : List P2) : Prop := ∀ j, okAt l j
open Classical in
noncomputable def srtB (l : List P2) : Bool := decide (srtI l)
open Classical in
theorem srtB_t {l : List P2} (h : srtI l) : srtB l = true := by unfold srtB; exact decide_eq_true h
open Classical in
theorem srtB_f {l : List P2} (h : ¬ srtI l) : srtB l = false := by unfold srtB; exact decide_eq_false h
theorem okAt_ge {l : List P2} {j : Nat} (h : l.length ≤ j + 1) : okAt l j := fun p q hp hq => by
 rw [List.getElem?_eq_none h] at hq
 cases hq
theorem loop108 (l : List P2) (b : Bool) (hl : l.length ≤ 4000000) : ∀ i, i < l.length →
  ((∀ j, j < i → okAt l j) ∧ E cx (Key.loop 108 [true, false, true, false]) [vbool b, vi i, .list 0 2 (prs l), .func (Fn.func 109) [] []] [] = some (Out.jump (.exit 0) [vbool b, vi 0], [])) ∨
  ((∃ j, j < i ∧ ¬ okAt l j) ∧ ∃ k : Nat, E cx (Key.loop 108 [true, false, true, false]) [vbool b, vi i, .list 0 2 (prs l), .func (Fn.func 109) [] []] [] = some (Out.jump .ret [vbool false, vi k], []))
 | 0, hi => .inl ⟨fun j hj => by omega, (f40_c0_l1 _ _ _).trans (goDn (by omega) _ _)⟩
 | i + 1, hi => by
  have hp : l[i]? = some l[i] := List.getElem?_eq_getElem (by omega)
  have hq : l[i + 1]? = some l[i + 1] := List.getElem?_eq_getElem hi
  have go : ∀ {R}, (bif decide (ordI l[i + 1] l[i] < 0) then some (Out.jump JX.ret [vbool false, vi ((i + 1 : Nat) : Int)], []) else
    E cx (Key.loop 108 [true, false, true, false]) [vbool b, vi (IntKind.wrap .i64 (Int.sub ((i + 1 : Nat) : Int) 1)), .list 0 2 (prs l), .func (Fn.func 109) [] []] []) = R →
    E cx (Key.loop 108 [true, false, true, false]) [vbool b, vi (i + 1 : Nat), .list 0 2 (prs l), .func (Fn.func 109) [] []] [] = R := fun {R} h => by
   refine (f40_c0_l1 _ _ _).trans ((goD (by omega) _ _).trans ((goY (by omega) _ _).trans ((goPr (n := i + 1) rfl hq _).trans ?_)))
   rw [wP (by omega)]
   refine (goY (by omega) _ _).trans ((goPr (n := i) rfl hp _).trans ((goI (c109 _ _) _).trans ?_))
   rw [wP (by omega)] at h
   exact h
  cases hb : ltP l[i + 1] l[i] with
  | true =>
   exact .inr ⟨⟨i, by omega, fun h => by rw [h _ _ hp hq] at hb; cases hb⟩, i + 1, go (goD ((ordI_neg _ _).2 hb) _ _)⟩
  | false =>
   have hn : ¬ ordI l[i + 1] l[i] < 0 := fun h => by rw [(ordI_neg _ _).1 h] at hb; cases hb
   have hok : okAt l i := fun p q h1 h2 => by
    rw [hp] at h1; rw [hq] at h2
    cases h1; cases h2
    exact hb
   rcases loop108 l b hl i (by omega) with ⟨g1, g2⟩ | ⟨⟨j, g1, g2⟩, k, g3⟩
   ·refine .inl ⟨fun j hj => ?_, go ((goDn hn _ _).trans ?_)⟩
    ·by_cases hji : j = i
     ·subst hji; exact hok
     ·exact g1 j (by omega)
    ·rw [wP (by omega)]; exact g2
   ·refine .inr ⟨⟨j, by omega, g2⟩, k, go ((goDn hn _ _).trans ?_)⟩
    rw [wP (by omega)]; exact g3
theorem c108 (l : List P2) (hl : l.length ≤ 4000000) : E cx (Key.fn 108) [.list 0 2 (prs l), .func (Fn.func 109) [] []] [] = rb (srtB l) := by
 refine (f40_c0 _).trans ?_
 rw [prs_len]
 cases hll : l.length with
 | zero =>
  have e : E cx (Key.loop 108 [true, false, true, false]) [vbool false, vi (IntKind.wrap .i64 (Int.sub ((0 : Nat) : Int) 1)), .list 0 2 (prs l), .func (Fn.func 109) [] []] [] = some (Out.jump (.exit 0) [vbool false, vi (-1)], []) :=
   (f40_c0_l1 _ _ _).trans (goDn (by decide) _ _)
  rw [e, srtB_t fun j => okAt_ge (by omega)]
  rfl
 | succ n =>
  rw [wP (by omega)]
  rcases loop108 l false hl n (by omega) with ⟨g1, g2⟩ | ⟨⟨j, g1, g2⟩, k, g3⟩
  ·rw [g2, srtB_t fun j => by
    by_cases hj : j < n
    ·exact g1 j hj
    ·exact okAt_ge (by omega)]
   rfl
  ·rw [g3, srtB_f fun h => g2 (h j)]
   rfl
noncomputable def rightT (l : List P2) : Bool := decide (l.length ≤ 2048) && srtB l
theorem c40 (f : Bool) (l : List P2) (hl : l.length ≤ 4000000) : E cx (Key.fn 40) [.agg [vbool f, .list 0 2 (prs l)]] [] = rb (rightT l) := by
 refine (f40 _ _).trans ?_
 unfold rightT
 by_cases h : l.length ≤ 2048
 ·refine (goD (by rw [prs_len]; omega) _ _).trans ((goB (c108 l hl) _).trans ?_)
  rw [decide_eq_true h]
  cases srtB l <;> rfl
 ·refine (goDn (by rw [prs_len]; omega) _ _).trans ?_
  rw [decide_eq_false h]
  rfl
end
section
def RTok (x : Option (Out × Heap)) (f : Bool) (l : List P2) (e : Int) : Prop := ∃ a, x = some (Out.ret (.tuple [.agg [vbool f, a], vi e]), []) ∧ a.list? 2 = some (prs l)
theorem goTok {ρ : Type} {x : Option (Out × Heap)} {f : Bool} {l : List P2} {e : Int} (h : RTok x f l e) (k : Bool → List (List AV) → Int → Option ρ) :
  (x.bind fun r => (ret1 r).bind fun v => v.tup?.bind fun vs => (uncons? vs).bind fun p1 => (AV.cells? p1.fst).bind fun cs => (uncons? cs).bind fun p2 => (AV.bool? p2.fst).bind fun b => (uncons? p2.snd).bind fun p3 => (AV.list? 2 p3.fst).bind fun l =>
   (nil? p3.snd).bind fun _ => (uncons? p1.snd).bind fun p4 => (AV.int? .i64 p4.fst).bind fun e => (nil? p4.snd).bind fun _ => k b l e) = k f (prs l) e := by
 obtain ⟨a, rfl, ha⟩ := h
 show (Option.bind (AV.list? 2 a) fun l => k f l e) = _
 rw [ha]
 rfl
theorem ysOk_prs (l : List P2) : ysOk (prs l) = true := by
 unfold ysOk
 rw [List.all_eq_true]
 intro e he
 obtain ⟨p, _, rfl⟩ := List.mem_map.1 he
 rfl
abbrev RTok' (x : Option (Out × Heap)) (r : Bool × List P2 × Int) : Prop := RTok x r.1 r.2.1 r.2.2
end
section
theorem leP_iff (x y : P2) : leP x y = true ↔ x.1 < y.1 ∨ x.1 = y.1 ∧ x.2 ≤ y.2 := by
 simp only [leP, ltP, Bool.not_eq_true', Bool.or_eq_false_iff, Bool.and_eq_false_iff, decide_eq_false_iff_not]
 omega
theorem leP_trans (a b c : P2) (h1 : leP a b = true) (h2 : leP b c = true) : leP a c = true := by
 rw [leP_iff] at *
 omega
abbrev PW (l : List P2) : Prop := l.Pairwise fun a b => leP a b = true
theorem srt_pw (l : List P2) : srtI l ↔ PW l := by
 constructor
 ·intro h
  induction l with
  | nil => exact .nil
  | cons a l ih =>
   have ih' := ih fun j p q hp hq => h (j + 1) p q (by simpa using hp) (by simpa using hq)
   refine List.Pairwise.cons (fun b hb => ?_) ih'
   cases l with
   | nil => cases hb
   | cons c l =>
    have hac : leP a c = true := by
     have := h 0 a c rfl rfl
     simp [leP, this]
    rcases List.mem_cons.1 hb with rfl | hb
    ·exact hac
    ·exact leP_trans _ _ _ hac ((List.pairwise_cons.1 ih').1 b hb)
 ·intro h j p q hp hq
  have hj := (List.getElem?_eq_some_iff.1 hq).1
  have := List.pairwise_iff_getElem.1 h j (j + 1) (by omega) hj (by omega)
  rw [(List.getElem?_eq_some_iff.1 hp).2, (List.getElem?_eq_some_iff.1 hq).2] at this
  simpa [leP] using this
theorem prs_app (a b : List P2) : prs a ++ prs b = prs (a ++ b) := by simp [prs]
end
section
theorem drop_cons' {α : Type} {l r : List α} {i : Nat} {p : α} (h : l.drop i = p :: r) : l[i]? = some p ∧ l.drop (i + 1) = r ∧ i < l.length := by
 refine ⟨?_, ?_, ?_⟩
 ·have := congrArg (fun l => l[0]?) h; simpa using this
 ·rw [← List.drop_drop, h]; rfl
 ·have := congrArg List.length h; simp at this; omega
theorem rightT_len {l : List P2} (h : rightT l = true) : l.length ≤ 2048 := by
 unfold rightT at h
 simp only [Bool.and_eq_true, decide_eq_true_eq] at h
 exact h.1
theorem rightT_of {l : List P2} (h1 : l.length ≤ 2048) (h2 : PW l) : rightT l = true := by
 unfold rightT
 rw [decide_eq_true h1, srtB_t ((srt_pw l).2 h2)]
 rfl
theorem pairEq (p q : P2) : (decide ((p.1 : Int) = (q.1 : Int)) && (decide ((p.2 : Int) = (q.2 : Int)) && true)) = decide (p = q) := by
 obtain ⟨a, b⟩ := p
 obtain ⟨c, d⟩ := q
 by_cases h1 : a = c <;> by_cases h2 : b = d <;> simp [h1, h2, Int.ofNat_inj]
theorem loop47 (b0 f1 f2 : Bool) (a b : List P2) (hab : a.length = b.length) (hl : a.length ≤ 4000000) : ∀ (d i : Nat), i + d = a.length →
  (a.drop i = b.drop i ∧ E cx (Key.loop 47 [true, true, false, true, false]) [vbool b0, vi i, .ptr 0 0 0 0, .ptr 1 0 0 0] [⟨.box, 36, 2, 0, [[vbool f1, .list 0 2 (prs a)]]⟩, ⟨.box, 36, 2, 0, [[vbool f2, .list 0 2 (prs b)]]⟩] =
   some (Out.jump (.exit 0) [vbool b0, vi a.length], [⟨.box, 36, 2, 0, [[vbool f1, .list 0 2 (prs a)]]⟩, ⟨.box, 36, 2, 0, [[vbool f2, .list 0 2 (prs b)]]⟩])) ∨
  (a.drop i ≠ b.drop i ∧ ∃ k : Nat, E cx (Key.loop 47 [true, true, false, true, false]) [vbool b0, vi i, .ptr 0 0 0 0, .ptr 1 0 0 0] [⟨.box, 36, 2, 0, [[vbool f1, .list 0 2 (prs a)]]⟩, ⟨.box, 36, 2, 0, [[vbool f2, .list 0 2 (prs b)]]⟩] =
   some (Out.jump .ret [vbool false, vi k], [⟨.box, 36, 2, 0, [[vbool f1, .list 0 2 (prs a)]]⟩, ⟨.box, 36, 2, 0, [[vbool f2, .list 0 2 (prs b)]]⟩]))
 | 0, i, hd => by
  refine .inl ⟨by rw [List.drop_eq_nil_of_le (by omega), List.drop_eq_nil_of_le (by omega)], (f47_l0 _ _ _ _ _ _).trans ((goDn (by rw [prs_len]; omega) _ _).trans (by rw [show i = a.length by omega]))⟩
 | d + 1, i, hd => by
  have hp : a[i]? = some a[i] := List.getElem?_eq_getElem (by omega)
  have hq : b[i]? = some b[i] := List.getElem?_eq_getElem (by omega)
  have ha : a.drop i = a[i] :: a.drop (i + 1) := List.drop_eq_getElem_cons (by omega)
  have hb : b.drop i = b[i] :: b.drop (i + 1) := List.drop_eq_getElem_cons (by omega)
  have go : ∀ {R}, (bif !decide (a[i] = b[i]) then some (Out.jump .ret [vbool false, vi i], [⟨.box, 36, 2, 0, [[vbool f1, .list 0 2 (prs a)]]⟩, ⟨.box, 36, 2, 0, [[vbool f2, .list 0 2 (prs b)]]⟩]) else
    E cx (Key.loop 47 [true, true, false, true, false]) [vbool b0, vi (i + 1 : Nat), .ptr 0 0 0 0, .ptr 1 0 0 0] [⟨.box, 36, 2, 0, [[vbool f1, .list 0 2 (prs a)]]⟩, ⟨.box, 36, 2, 0, [[vbool f2, .list 0 2 (prs b)]]⟩]) = R →
    E cx (Key.loop 47 [true, true, false, true, false]) [vbool b0, vi i, .ptr 0 0 0 0, .ptr 1 0 0 0] [⟨.box, 36, 2, 0, [[vbool f1, .list 0 2 (prs a)]]⟩, ⟨.box, 36, 2, 0, [[vbool f2, .list 0 2 (prs b)]]⟩] = R := fun {R} h => by
   refine (f47_l0 _ _ _ _ _ _).trans ((goD (by rw [prs_len]; omega) _ _).trans ((goY (by omega) _ _).trans ((goPr (n := i) rfl hp _).trans ((goY (by omega) _ _).trans ((goPr (n := i) rfl hq _).trans ?_)))))
   rw [pairEq, wS (by omega)]
   exact h
  rw [ha, hb]
  by_cases he : a[i] = b[i]
  ·rw [decide_eq_true he] at go
   rcases loop47 b0 f1 f2 a b hab hl d (i + 1) (by omega) with ⟨g1, g2⟩ | ⟨g1, k, g2⟩
   ·exact .inl ⟨by rw [he, g1], go g2⟩
   ·exact .inr ⟨fun h => g1 (List.cons.inj h).2, k, go g2⟩
  ·rw [decide_eq_false he] at go
   exact .inr ⟨fun h => he (List.cons.inj h).1, i, go rfl⟩
theorem c47 (f1 f2 : Bool) (a b : List P2) (hl : a.length ≤ 4000000) : E cx (Key.fn 47) [.agg [vbool f1, .list 0 2 (prs a)], .agg [vbool f2, .list 0 2 (prs b)]] [] = rb (decide (f1 = f2 ∧ a = b)) := by
 refine (f47 _ _ _ _).trans ?_
 rw [prs_len, prs_len]
 by_cases hf : f1 = f2
 ·rw [decide_eq_true hf]
  by_cases hab : a.length = b.length
  ·refine (goE (a := (a.length : Int)) (b := (b.length : Int)) (by omega) _ _).trans ?_
   show (Option.bind (E cx (Key.loop 47 [true, true, false, true, false]) [vbool false, vi ((0 : Nat) : Int), .ptr 0 0 0 0, .ptr 1 0 0 0] [⟨.box, 36, 2, 0, [[vbool f1, .list 0 2 (prs a)]]⟩, ⟨.box, 36, 2, 0, [[vbool f2, .list 0 2 (prs b)]]⟩]) _) = _
   rcases loop47 false f1 f2 a b hab hl a.length 0 (by omega) with ⟨g1, g2⟩ | ⟨g1, k, g2⟩
   ·rw [g2, decide_eq_true ⟨hf, g1⟩]
    rfl
   ·rw [g2, decide_eq_false fun h => g1 h.2]
    rfl
  ·rw [decide_eq_false fun h => hab (by rw [h.2])]
   exact goEn (a := (a.length : Int)) (b := (b.length : Int)) (by omega) _ _
 ·rw [decide_eq_false hf, decide_eq_false fun h => hf h.1]
  rfl
end
section
def eb (p : P2) : B := put p.1 8 ++ put p.2 8
theorem eb_len (p : P2) : (eb p).length = 16 := by simp [eb, put_len]
def ebs (l : List P2) : B := l.flatMap eb
theorem ebs_cons (p : P2) (l : List P2) : ebs (p :: l) = eb p ++ ebs l := by simp [ebs]
theorem ebs_len : ∀ (l : List P2), (ebs l).length = 16 * l.length
 | [] => rfl
 | p :: l => by rw [ebs_cons, List.length_append, eb_len, ebs_len l, List.length_cons]; omega
abbrev fB (f : Bool) : UInt8 := if f then 1 else 0
def encB (f : Bool) (l : List P2) : B := fB f :: ebs l
noncomputable def encR (f : Bool) (l : List P2) : B × Int := if rightT l then (encB f l, 0) else ([], 1)
abbrev RJ2 (r : B × Int) : Option (Out × Heap) := RJ r.1 r.2
abbrev rowsU (l : B) : List (List AV) := l.map fun b => [vb (b.toNat : Int)]
theorem strRows_mk (l : B) : strRows (mk l) = rowsU l := rfl
theorem rowsU_app (a b : B) : rowsU a ++ rowsU b = rowsU (a ++ b) := by simp [rowsU]
theorem rowsU_len (l : B) : (rowsU l).length = l.length := by simp [rowsU]
theorem ysOk_rowsU (l : B) : ysOk (rowsU l) = true := by
 unfold ysOk
 rw [List.all_eq_true]
 intro e he
 obtain ⟨p, _, rfl⟩ := List.mem_map.1 he
 rfl
theorem rowsU_bytes (l : B) : rowsU l = bytesI (l.map fun b => (b.toNat : Int)) := by simp [rowsU, bytesI]
theorem strOf_back (l : B) : Go.strOfNums (l.map fun b => (b.toNat : Int)) = mk l := by
 rw [strOf, List.map_map]
 congr 1
 refine (List.map_congr_left fun b _ => ?_).trans (List.map_id _)
 simp
theorem loop38 (b : Bool) (l : List P2) (l0 : List (List AV)) (hl : l.length ≤ 2048) : ∀ (rest : List P2) (i : Nat) (o : B), l.drop i = rest → o.length = 1 + 16 * i → i + rest.length = l.length →
  E cx (Key.loop 38 [true, true, true, true, false, true, false]) [.arr 1 1 0 o.length, vi i, .list 0 2 (prs l), vi l.length] [⟨.box, 36, 2, 0, [[vbool b, .list 0 2 l0]]⟩, ⟨.arr, 5, 1, 1, rowsU o⟩] =
   some (Out.jump (.exit 0) [.arr 1 1 0 (o ++ ebs rest).length, vi l.length], [⟨.box, 36, 2, 0, [[vbool b, .list 0 2 l0]]⟩, ⟨.arr, 5, 1, 1, rowsU (o ++ ebs rest)⟩])
 | [], i, o, hd, ho, hi => by
  simp only [List.length_nil, Nat.add_zero] at hi
  subst hi
  refine (f38_l0 _ _ _ _ _ _ _).trans ((goDn (by omega) _ _).trans ?_)
  simp [ebs]
 | p :: rest, i, o, hd, ho, hi => by
  obtain ⟨hp, hd', hlt⟩ := drop_cons' hd
  simp only [List.length_cons] at hi
  have h8 : ∀ w, putI w 8 = put w 8 := fun w => putI_ok (by omega) (by omega)
  refine (f38_l0 _ _ _ _ _ _ _).trans ((goD (by omega) _ _).trans ((goY (by omega) _ _).trans ((goPr (n := i) rfl hp _).trans ?_)))
  refine (goS (c106 p.1 8) _).trans ?_
  rw [strRows_mk, h8, ysOk_rowsU]
  refine (goCk (by rw [rowsU_len]) _).trans ?_
  have e1 : Nat.add (List.length (rowsU o)) (List.length (rowsU (put p.1 8))) = (o ++ put p.1 8).length := by rw [rowsU_len, rowsU_len, List.length_append]; rfl
  have l1 : (o ++ put p.1 8).length = o.length + 8 := by rw [List.length_append, put_len]
  refine (goY (by show Nat.mul (Nat.add (List.length (rowsU o)) (List.length (rowsU (put p.1 8)))) 1 ≤ _; rw [e1, l1]; show (o.length + 8) * 1 ≤ _; omega) _ _).trans ?_
  refine (goS (c106 p.2 8) _).trans ?_
  rw [strRows_mk, h8, ysOk_rowsU]
  show (Option.bind (chk (Nat.add (List.length (rowsU o)) (List.length (rowsU (put p.1 8)))) (List.length (rowsU o ++ rowsU (put p.1 8)))) fun _ => if Nat.mul (Nat.add (List.length (rowsU o ++ rowsU (put p.1 8))) (List.length (rowsU (put p.2 8)))) 1 ≤ 140737488355328 then
   E cx (Key.loop 38 [true, true, true, true, false, true, false]) [.arr 1 1 0 (Nat.add (List.length (rowsU o ++ rowsU (put p.1 8))) (List.length (rowsU (put p.2 8)))), vi (IntKind.wrap .i64 (Int.add i 1)), .list 0 2 (prs l), vi l.length] [⟨.box, 36, 2, 0, [[vbool b, .list 0 2 l0]]⟩, ⟨.arr, 5, 1, 1, rowsU o ++ rowsU (put p.1 8) ++ rowsU (put p.2 8)⟩] else none) = _
  rw [e1, rowsU_app, rowsU_app]
  have e2 : Nat.add (List.length (rowsU (o ++ put p.1 8))) (List.length (rowsU (put p.2 8))) = (o ++ eb p).length := by rw [rowsU_len, rowsU_len]; simp [eb, put_len]
  have l2 : (o ++ eb p).length = o.length + 16 := by rw [List.length_append, eb_len]
  rw [e2, wS (by omega), List.append_assoc]
  refine (goCk (by rw [rowsU_len]) _).trans ?_
  refine (goY (by rw [l2]; show (o.length + 16) * 1 ≤ _; omega) _ _).trans ?_
  refine (loop38 b l l0 hl rest (i + 1) (o ++ eb p) hd' (by omega) (by omega)).trans ?_
  rw [ebs_cons, List.append_assoc]
theorem c38 (f : Bool) (l : List P2) (hl : l.length ≤ 4000000) : E cx (Key.fn 38) [.agg [vbool f, .list 0 2 (prs l)]] [] = RJ2 (encR f l) := by
 refine (f38 _ _).trans ((goB (c40 f l hl) _).trans ?_)
 unfold encR
 cases hr : rightT l with
 | false => rfl
 | true =>
  have hll := rightT_len hr
  have g := loop38 f l (prs l) hll l 0 [fB f] rfl rfl (by omega)
  have key : (Option.bind (yRows [⟨.box, 36, 2, 0, [[vbool f, .list 0 2 (prs l)]]⟩, ⟨.arr, 5, 1, 1, rowsU (encB f l)⟩] 1 (.arr 1 1 0 (encB f l).length)) fun ys => Option.bind (numsOf ys) fun ns => some (Out.ret (AV.tuple [vs (Go.strOfNums ns), vi 0]), ([] : Heap))) = RJ (encB f l) 0 := by
   show (Option.bind ((chkLe (0 + (encB f l).length) (rowsU (encB f l)).length).bind fun _ => some (((rowsU (encB f l)).take (0 + (encB f l).length)).drop 0)) fun ys => Option.bind (numsOf ys) fun ns => some (Out.ret (AV.tuple [vs (Go.strOfNums ns), vi 0]), ([] : Heap))) = _
   rw [goLe (by rw [rowsU_len]; omega), Option.bind_some, Nat.zero_add, List.drop_zero, List.take_of_length_le (by rw [rowsU_len]; omega), rowsU_bytes, numsOf_bytes, Option.bind_some, strOf_back]
  rw [prs_len]
  cases f with
  | true =>
   show (Option.bind (E cx (Key.loop 38 [true, true, true, true, false, true, false]) [.arr 1 1 0 [fB true].length, vi ((0 : Nat) : Int), .list 0 2 (prs l), vi l.length] [⟨.box, 36, 2, 0, [[vbool true, .list 0 2 (prs l)]]⟩, ⟨.arr, 5, 1, 1, rowsU [fB true]⟩]) _) = _
   rw [g]
   exact key
  | false =>
   show (Option.bind (E cx (Key.loop 38 [true, true, true, true, false, true, false]) [.arr 1 1 0 [fB false].length, vi ((0 : Nat) : Int), .list 0 2 (prs l), vi l.length] [⟨.box, 36, 2, 0, [[vbool false, .list 0 2 (prs l)]]⟩, ⟨.arr, 5, 1, 1, rowsU [fB false]⟩]) _) = _
   rw [g]
   exact key
end
section
def db : Nat → B → List P2
 | 0, _ => []
 | d + 1, l => (val (l.take 8), val ((l.drop 8).take 8)) :: db d (l.drop 16)
theorem db_len : ∀ (d : Nat) (l : B), (db d l).length = d
 | 0, _ => rfl
 | d + 1, l => by simp [db, db_len d]
abbrev tok0 : Bool × List P2 × Int := (false, [], 2)
noncomputable def decP2 (f : Bool) (q : List P2) : Bool × List P2 × Int := if srtB q then if q.length > 2048 then (false, [], 4) else (f, q, 0) else tok0
noncomputable def decR : B → Bool × List P2 × Int
 | [] => tok0
 | b :: r => if r.length % 16 = 0 then if b.toNat > 1 then tok0 else decP2 (decide (b.toNat = 1)) (db (r.length / 16) r) else tok0
theorem decR_cons (b : UInt8) (r : B) : decR (b :: r) = if r.length % 16 = 0 then if b.toNat > 1 then tok0 else decP2 (decide (b.toNat = 1)) (db (r.length / 16) r) else tok0 := rfl
theorem take8 {l : B} (h : 8 ≤ l.length) : takeR l 8 = (val (l.take 8), l.drop 8, 0) := takeR_3 (by omega) (by omega)
theorem own115 {l : B} (h : 8 ≤ l.length) : E cx (Key.own 115) [.ptr 0 0 0 0] [⟨.box, 9, 1, 0, [[vs (mk l)]]⟩] = some (Out.ret (vu (val (l.take 8))), [⟨.box, 9, 1, 0, [[vs (mk (l.drop 8))]]⟩]) := by
 refine (f49_l0_c1 _).trans ?_
 rw [c116, take8 h]
 rfl
theorem loop49 (b : Bool) : ∀ (d : Nat) (l : B) (o : List P2), l.length = 16 * d → o.length + d ≤ 1000000 →
  E cx (Key.loop 49 [true, true, true, true, true, false, false]) [.ptr 0 0 0 0, .ptr 1 0 0 0, .func (Fn.func 115) [] [.ptr 1 0 0 0]] [⟨.box, 36, 2, 0, [[vbool b, .arr 2 2 0 o.length]]⟩, ⟨.box, 9, 1, 0, [[vs (mk l)]]⟩, ⟨.arr, 80, 2, 2, prs o⟩] =
   some (Out.jump (.exit 0) [], [⟨.box, 36, 2, 0, [[vbool b, .arr 2 2 0 (o ++ db d l).length]]⟩, ⟨.box, 9, 1, 0, [[vs (mk [])]]⟩, ⟨.arr, 80, 2, 2, prs (o ++ db d l)⟩])
 | 0, l, o, hl, ho => by
  obtain rfl : l = [] := List.length_eq_zero_iff.1 (by omega)
  refine (f49_l0 _ _ _ _).trans ((goQn rfl _ _).trans ?_)
  simp [db]
 | d + 1, l, o, hl, ho => by
  have h8 : 8 ≤ l.length := by omega
  have h8' : 8 ≤ (l.drop 8).length := by rw [List.length_drop]; omega
  refine (f49_l0 _ _ _ _).trans ((goQt (b := []) (fun h => by rw [h] at hl; simp at hl) _ _).trans ?_)
  rw [own115 h8]
  show (Option.bind (E cx (Key.own 115) [.ptr 0 0 0 0] [⟨.box, 9, 1, 0, [[vs (mk (l.drop 8))]]⟩]) _) = _
  rw [own115 h8', List.drop_drop]
  show (Option.bind (chk o.length (List.length (prs o))) fun _ => if Nat.mul (Nat.add (List.length (prs o)) 1) 16 ≤ 140737488355328 then
   E cx (Key.loop 49 [true, true, true, true, true, false, false]) [.ptr 0 0 0 0, .ptr 1 0 0 0, .func (Fn.func 115) [] [.ptr 1 0 0 0]] [⟨.box, 36, 2, 0, [[vbool b, .arr 2 2 0 (Nat.add (List.length (prs o)) 1)]]⟩, ⟨.box, 9, 1, 0, [[vs (mk (l.drop (8 + 8)))]]⟩, ⟨.arr, 80, 2, 2, prs o ++ prs [(val (l.take 8), val ((l.drop 8).take 8))]⟩] else none) = _
  rw [prs_len, prs_app]
  refine (goCk rfl _).trans ((goY (by show (o.length + 1) * 16 ≤ _; omega) _ _).trans ?_)
  have e : Nat.add o.length 1 = (o ++ [(val (l.take 8), val ((l.drop 8).take 8))]).length := by simp
  rw [e]
  refine (loop49 b d (l.drop 16) (o ++ [(val (l.take 8), val ((l.drop 8).take 8))]) (by rw [List.length_drop]; omega) (by simp; omega)).trans ?_
  rw [List.append_assoc]
  rfl
theorem view0 {q : List P2} : List.drop 0 (List.take (Nat.add 0 q.length) (prs q)) = prs q := by
 rw [List.drop_zero, show Nat.add 0 q.length = q.length from Nat.zero_add _, ← prs_len q, List.take_length]
theorem dec_tail (f : Bool) (q : List P2) (hq : q.length ≤ 1000000) {x : Option (Out × Heap)} (hx : x = rb (srtB q)) :
  RTok' (Option.bind (chkLe (Nat.add 0 q.length) (List.length (prs q))) fun _ => Option.bind x fun r => (ret1 r).bind fun v => v.bool?.bind fun b =>
   bif b then bif decide ((q.length : Int) > 2048) then some (Out.ret (.tuple [.agg [vbool false, .val (.slice none 0 0)], vi 4]), []) else
    Option.bind (chkLe (Nat.add 0 q.length) (List.length (prs q))) fun _ => some (Out.ret (.tuple [.agg [vbool f, .list 0 2 (List.drop 0 (List.take (Nat.add 0 q.length) (prs q)))], vi 0]), [])
   else some (Out.ret (.tuple [.agg [vbool false, .val (.slice none 0 0)], vi 2]), [])) (decP2 f q) := by
 unfold decP2
 rw [goLe (by rw [prs_len]; exact Nat.le_of_eq (Nat.zero_add _)), goB hx]
 cases hs : srtB q with
 | false => exact ⟨_, rfl, rfl⟩
 | true =>
  simp only [cond_true, if_true]
  by_cases hl : q.length > 2048
  ·rw [if_pos hl]
   exact ⟨_, goD (by omega) _ _, rfl⟩
  ·rw [if_neg hl]
   refine ⟨.list 0 2 (prs q), (goDn (by omega) _ _).trans ?_, rfl⟩
   rw [goLe (by rw [prs_len]; exact Nat.le_of_eq (Nat.zero_add _)), view0]
theorem tmod16 (n : Nat) : Int.tmod ((n : Nat) : Int) 16 = ((n % 16 : Nat) : Int) := by
 rw [Int.tmod_eq_emod_of_nonneg (Int.natCast_nonneg _)]; omega
theorem RTok'_of {x : Option (Out × Heap)} {y : Option (Out × Heap)} {r : Bool × List P2 × Int} (h : x = y) (k : RTok' y r) : RTok' x r := by rw [h]; exact k
theorem c49 (l : B) (hl : l.length ≤ 1000000) : RTok' (E cx (Key.fn 49) [vs (mk l)] []) (decR l) := by
 refine RTok'_of (f49 (mk l)) ?_
 have hm : Int.tmod (((ByteArray.size (mk l) : Nat) : Int)) 16 = ((l.length % 16 : Nat) : Int) := tmod16 l.length
 rw [hm]
 cases l with
 | nil => exact ⟨_, goEn (by decide) _ _, rfl⟩
 | cons b r =>
  have hlen : (b :: r).length = r.length + 1 := rfl
  by_cases h16 : r.length % 16 = 0
  ·refine RTok'_of ((goE (by rw [hlen]; omega) _ _).trans ((goG (i := 0) (n := 0) rfl rfl _))) ?_
   rw [decR_cons]
   rw [if_pos h16]
   by_cases hb : b.toNat > 1
   ·rw [if_pos hb]
    exact ⟨_, goD (by omega) _ _, rfl⟩
   ·rw [if_neg hb]
    refine RTok'_of ((goDn (by omega) _ _).trans ((goG (i := 0) (n := 0) rfl rfl _))) ?_
    have ext : ByteArray.extract (mk (b :: r)) 1 (ByteArray.size (mk (b :: r))) = mk r := by
     rw [ext_mk]
     show mk (((b :: r).take (b :: r).length).drop 1) = _
     rw [List.take_length]
     rfl
    have hdl := db_len (r.length / 16) r
    by_cases h1 : b.toNat = 1
    ·rw [decide_eq_true h1]
     refine RTok'_of (goD (by omega) _ _) ?_
     refine RTok'_of (goY (by show (1 : Int) ≤ ((r.length + 1 : Nat) : Int); omega) _ _) ?_
     rw [ext]
     have g := loop49 true (r.length / 16) r [] (by omega) (by simp; omega)
     show RTok' (Option.bind (E cx (Key.loop 49 [true, true, true, true, true, false, false]) [.ptr 0 0 0 0, .ptr 1 0 0 0, .func (Fn.func 115) [] [.ptr 1 0 0 0]] [⟨.box, 36, 2, 0, [[vbool true, .arr 2 2 0 ([] : List P2).length]]⟩, ⟨.box, 9, 1, 0, [[vs (mk r)]]⟩, ⟨.arr, 80, 2, 2, prs []⟩]) _) _
     rw [g]
     simp only [List.nil_append]
     refine dec_tail true _ (by omega) ?_
     rw [view0]
     exact c108 _ (by omega)
    ·rw [decide_eq_false h1]
     refine RTok'_of (goDn (by omega) _ _) ?_
     refine RTok'_of (goY (by show (1 : Int) ≤ ((r.length + 1 : Nat) : Int); omega) _ _) ?_
     rw [ext]
     have g := loop49 false (r.length / 16) r [] (by omega) (by simp; omega)
     show RTok' (Option.bind (E cx (Key.loop 49 [true, true, true, true, true, false, false]) [.ptr 0 0 0 0, .ptr 1 0 0 0, .func (Fn.func 115) [] [.ptr 1 0 0 0]] [⟨.box, 36, 2, 0, [[vbool false, .arr 2 2 0 ([] : List P2).length]]⟩, ⟨.box, 9, 1, 0, [[vs (mk r)]]⟩, ⟨.arr, 80, 2, 2, prs []⟩]) _) _
     rw [g]
     simp only [List.nil_append]
     refine dec_tail false _ (by omega) ?_
     rw [view0]
     exact c108 _ (by omega)
  ·rw [decR_cons]
   rw [if_neg h16]
   exact ⟨_, goEn (by rw [hlen]; omega) _ _, rfl⟩
end
section
abbrev rowsN (l : List Nat) : List (List AV) := l.map fun (k : Nat) => [vu (k : Int)]
section
variable {ρ : Type} {x : Option (Out × Heap)}
theorem goRn {l : List Nat} {i : Int} {n : Nat} {w : Nat} (hn : i = n) (h : l[n]? = some w) (k : Int → Option ρ) :
  ((rowsN l)[Int.toNat i]?.bind fun cs => (uncons? cs).bind fun p1 => (AV.int? .u64 p1.fst).bind fun a => (nil? p1.snd).bind fun _ => k a) = k w := by
 subst hn
 have : (rowsN l)[n]? = some [vu w] := by simp [rowsN, h]
 rw [Int.toNat_natCast, this]
 rfl
end
end
section
def atR (p : P2) (l : List P2) : Nat → Nat
 | 0 => 0
 | n + 1 => match l[n]? with
  | some q => if ltP p q then atR p l n else n + 1
  | none => n + 1
def insR (p : P2) (l : List P2) : List P2 := l.take (atR p l l.length) ++ p :: l.drop (atR p l l.length)
def pairOf (a : Int) : P2 := ((pickI a 12).toNat, (pickI (a.tdiv 16) 3).toNat)
def tokL : List Int → List P2 → List P2
 | [], o => o
 | a :: rest, o => tokL rest (insR (pairOf a) o)
theorem atR_le (p : P2) (l : List P2) : ∀ n, atR p l n ≤ n
 | 0 => Nat.le_refl _
 | n + 1 => by
  unfold atR
  split
  ·split
   ·exact Nat.le_succ_of_le (atR_le p l n)
   ·exact Nat.le_refl _
  ·exact Nat.le_refl _
theorem insR_len (p : P2) (l : List P2) : (insR p l).length = l.length + 1 := by
 have := atR_le p l l.length
 unfold insR
 simp
 omega
theorem tokL_len : ∀ (r : List Int) (o : List P2), (tokL r o).length = o.length + r.length
 | [], o => rfl
 | a :: r, o => by
  show (tokL r (insR (pairOf a) o)).length = _
  rw [tokL_len r, insR_len]
  simp only [List.length_cons]
  omega
theorem atR_lo (p : P2) (l : List P2) (hl : PW l) : ∀ n, n ≤ l.length → ∀ j, j < atR p l n → ∀ q, l[j]? = some q → leP q p = true
 | 0, _, j, hj, _, _ => absurd hj (Nat.not_lt_zero _)
 | n + 1, hn, j, hj, q, hq => by
  have hg : l[n]? = some l[n] := List.getElem?_eq_getElem (by omega)
  unfold atR at hj
  rw [hg] at hj
  simp only at hj
  by_cases hlt : ltP p l[n] = true
  ·rw [if_pos hlt] at hj
   exact atR_lo p l hl n (by omega) j hj q hq
  ·rw [if_neg hlt] at hj
   have h1 : leP l[n] p = true := by
    rw [Bool.not_eq_true] at hlt
    unfold leP
    simpa using hlt
   by_cases hjn : j = n
   ·subst hjn
    rw [hg] at hq
    cases hq
    exact h1
   ·have hq' : l[j] = q := by
     have := List.getElem?_eq_getElem (l := l) (i := j) (by omega)
     rw [this] at hq
     exact Option.some.inj hq
    have := List.pairwise_iff_getElem.1 hl j n (by omega) (by omega) (by omega)
    rw [hq'] at this
    exact leP_trans _ _ _ this h1
theorem atR_hi (p : P2) (l : List P2) : ∀ n, n ≤ l.length → ∀ j, atR p l n ≤ j → j < n → ∀ q, l[j]? = some q → ltP p q = true
 | 0, _, j, _, hj, _, _ => absurd hj (Nat.not_lt_zero _)
 | n + 1, hn, j, h1, hj, q, hq => by
  have hg : l[n]? = some l[n] := List.getElem?_eq_getElem (by omega)
  unfold atR at h1
  rw [hg] at h1
  simp only at h1
  by_cases hlt : ltP p l[n] = true
  ·rw [if_pos hlt] at h1
   by_cases hjn : j = n
   ·subst hjn
    rw [hg] at hq
    cases hq
    exact hlt
   ·exact atR_hi p l n (by omega) j h1 (by omega) q hq
  ·rw [if_neg hlt] at h1
   omega
theorem ltP_le {p q : P2} (h : ltP p q = true) : leP p q = true := by
 rw [leP_iff]
 unfold ltP at h
 simp only [Bool.or_eq_true, Bool.and_eq_true, decide_eq_true_eq] at h
 omega
theorem insR_pw (p : P2) (l : List P2) (hl : PW l) : PW (insR p l) := by
 unfold insR
 have hle := atR_le p l l.length
 rw [PW, List.pairwise_append]
 refine ⟨hl.sublist (List.take_sublist _ _), ?_, ?_⟩
 ·rw [List.pairwise_cons]
  refine ⟨fun q hq => ?_, hl.sublist (List.drop_sublist _ _)⟩
  obtain ⟨j, hj⟩ := List.mem_iff_getElem?.1 hq
  rw [List.getElem?_drop] at hj
  have hlt := (List.getElem?_eq_some_iff.1 hj).1
  exact ltP_le (atR_hi p l l.length (Nat.le_refl _) _ (Nat.le_add_right _ _) hlt q hj)
 ·intro a ha b hb
  obtain ⟨j, hj⟩ := List.mem_iff_getElem?.1 ha
  rw [List.getElem?_take] at hj
  have hjl : j < atR p l l.length := by
   by_cases h : j < atR p l l.length
   ·exact h
   ·rw [if_neg h] at hj; cases hj
  rw [if_pos hjl] at hj
  have h1 := atR_lo p l hl l.length (Nat.le_refl _) j hjl a hj
  rcases List.mem_cons.1 hb with rfl | hb
  ·exact h1
  ·obtain ⟨k, hk⟩ := List.mem_iff_getElem?.1 hb
   rw [List.getElem?_drop] at hk
   have hlt := (List.getElem?_eq_some_iff.1 hk).1
   exact leP_trans _ _ _ h1 (ltP_le (atR_hi p l l.length (Nat.le_refl _) _ (Nat.le_add_right _ _) hlt b hk))
theorem tokL_pw : ∀ (r : List Int) (o : List P2), PW o → PW (tokL r o)
 | [], _o, h => h
 | _a :: r, _o, h => tokL_pw r _ (insR_pw _ _ h)
def tokP (raw : List Int) : List P2 := tokL (raw.take 30) []
theorem tokP_len (raw : List Int) : (tokP raw).length ≤ 30 := by
 unfold tokP
 rw [tokL_len]
 simp
 omega
theorem tokP_pw (raw : List Int) : PW (tokP raw) := tokL_pw _ _ .nil
theorem tokP_right (raw : List Int) : rightT (tokP raw) = true := rightT_of (by have := tokP_len raw; omega) (tokP_pw raw)
theorem loop37i (b1 b2 : Bool) (raw : List Int) (x : Int) (p : P2) (o : List P2) (ho : o.length ≤ 1000) : ∀ i, i ≤ o.length →
  E cx (Key.loop 37 [true, true, false, true, false, false, true, false, false, true, true, false, false]) [vi i, .list 0 1 (ints raw), .ptr 0 0 0 0, .ptr 1 0 0 0, vi x, .ptr 3 0 0 0] [⟨.box, 36, 2, 0, [[vbool b1, .val (.slice none 0 0)]]⟩, ⟨.box, 36, 2, 0, [[vbool b2, .arr 2 2 0 o.length]]⟩, ⟨.arr, 80, 2, 2, prs o⟩, ⟨.box, 80, 2, 0, [[vu p.1, vu p.2]]⟩] =
   some (Out.jump (.exit 2) [vi (atR p o i : Nat)], [⟨.box, 36, 2, 0, [[vbool b1, .val (.slice none 0 0)]]⟩, ⟨.box, 36, 2, 0, [[vbool b2, .arr 2 2 0 o.length]]⟩, ⟨.arr, 80, 2, 2, prs o⟩, ⟨.box, 80, 2, 0, [[vu p.1, vu p.2]]⟩])
 | 0, _ => (f37_l0_l1 _ _ _ _ _ _ _ _ _).trans (goDn (by omega) _ _)
 | i + 1, hi => by
  have hq : o[i]? = some o[i] := List.getElem?_eq_getElem (by omega)
  refine (f37_l0_l1 _ _ _ _ _ _ _ _ _).trans ((goD (by omega) _ _).trans ?_)
  rw [wP (by omega)]
  refine (goY (by omega) _ _).trans ((goY (by omega) _ _).trans ((goPn (n := i) rfl hq _).trans ((goB (c105 p o[i]) _).trans ?_)))
  have ha : atR p o (i + 1) = if ltP p o[i] then atR p o i else i + 1 := by
   show (match o[i]? with | some q => if ltP p q then atR p o i else i + 1 | none => i + 1) = _
   rw [hq]
  rw [ha]
  cases h : ltP p o[i] with
  | true => exact loop37i b1 b2 raw x p o ho i (by omega)
  | false => rfl
theorem wu_pick {c n : Int} (hn : 0 < n) (h2 : n < 1000) : IntKind.wrap .u64 (pickI c n) = (((pickI c n).toNat : Nat) : Int) := by
 have := pickI_lt (c := c) hn
 rw [wu_id (by omega) (by omega)]
 omega
theorem prs_take (l : List P2) (n : Nat) : (prs l).take n = prs (l.take n) := by simp [prs]
theorem prs_drop (l : List P2) (n : Nat) : (prs l).drop n = prs (l.drop n) := by simp [prs]
end
section
theorem loop37_end (b1 b2 : Bool) (l : List (List AV)) (x : Int) (n : Nat) (rs : List (List AV)) (h : ¬ (x < (l.length : Int) ∧ x < 30)) :
  E cx (Key.loop 37 [true, true, false, true, false]) [vi x, .list 0 1 l, .ptr 0 0 0 0, .ptr 1 0 0 0] [⟨.box, 36, 2, 0, [[vbool b1, .val (.slice none 0 0)]]⟩, ⟨.box, 36, 2, 0, [[vbool b2, .arr 2 2 0 n]]⟩, ⟨.arr, 80, 2, 2, rs⟩] =
   some (Out.jump (.exit 0) [vi x], [⟨.box, 36, 2, 0, [[vbool b1, .val (.slice none 0 0)]]⟩, ⟨.box, 36, 2, 0, [[vbool b2, .arr 2 2 0 n]]⟩, ⟨.arr, 80, 2, 2, rs⟩]) := by
 refine (f37_l0 _ _ _ _ _ _).trans ?_
 by_cases h1 : x < (l.length : Int)
 ·exact (goD h1 _ _).trans (goDn (fun h2 => h ⟨h1, h2⟩) _ _)
 ·exact goDn h1 _ _
theorem loop37_step (b1 b2 : Bool) (raw : List Int) (hr : ∀ a ∈ raw, RI a) (i : Nat) (a : Int) (ha : raw[i]? = some a) (h30 : i < 30) (o : List P2) (ho : o.length ≤ 1000) :
  E cx (Key.loop 37 [true, true, false, true, false]) [vi i, .list 0 1 (ints raw), .ptr 0 0 0 0, .ptr 1 0 0 0] [⟨.box, 36, 2, 0, [[vbool b1, .val (.slice none 0 0)]]⟩, ⟨.box, 36, 2, 0, [[vbool b2, .arr 2 2 0 o.length]]⟩, ⟨.arr, 80, 2, 2, prs o⟩] =
  E cx (Key.loop 37 [true, true, false, true, false]) [vi (i + 1 : Nat), .list 0 1 (ints raw), .ptr 0 0 0 0, .ptr 1 0 0 0] [⟨.box, 36, 2, 0, [[vbool b1, .val (.slice none 0 0)]]⟩, ⟨.box, 36, 2, 0, [[vbool b2, .arr 2 2 0 (insR (pairOf a) o).length]]⟩, ⟨.arr, 80, 2, 2, prs (insR (pairOf a) o)⟩] := by
 have hlt := (List.getElem?_eq_some_iff.1 ha).1
 have hA := hr a (List.mem_of_getElem? ha)
 have hA16 : RI (Int.tdiv a 16) := by
  unfold RI at hA ⊢
  rcases Int.le_total 0 a with h | h
  ·have := Int.tdiv_nonneg h (show (0 : Int) ≤ 16 by omega)
   have h2 := Int.tdiv_eq_ediv_of_nonneg (b := 16) h
   omega
  ·have e : Int.tdiv a 16 = -(Int.tdiv (-a) 16) := by rw [Int.neg_tdiv, Int.neg_neg]
   have h2 := Int.tdiv_eq_ediv_of_nonneg (b := 16) (show (0 : Int) ≤ -a by omega)
   omega
 refine (f37_l0 _ _ _ _ _ _).trans ((goD (by simp only [List.length_map]; omega) _ _).trans ((goD (by omega) _ _).trans ((goY (by omega) _ _).trans ((go1 (n := i) rfl ha _).trans ((goI (c48 hA (by omega)) _).trans ((goY (by omega) _ _).trans ((go1 (n := i) rfl ha _).trans ?_)))))))
 rw [wr_id (n := Int.tdiv a 16) hA16.1 hA16.2]
 refine (goI (c48 hA16 (by omega)) _).trans ?_
 rw [wu_pick (c := a) (n := 12) (by omega) (by omega), wu_pick (c := Int.tdiv a 16) (n := 3) (by omega) (by omega), show (pickI a 12).toNat = (pairOf a).1 from rfl, show (pickI (Int.tdiv a 16) 3).toNat = (pairOf a).2 from rfl]
 rw [loop37i b1 b2 raw i (pairOf a) o ho o.length (Nat.le_refl _)]
 have hle := atR_le (pairOf a) o o.length
 generalize hk : atR (pairOf a) o o.length = k at hle
 simp only [Option.bind_some, asJump, JX.is, Nat.beq_refl, cond_true, uncons?, nil?, AV.arr?, AV.int?, AV.bool?, AV.nilS?, chk, obIs, if_true, and_self]
 have hkk : Int.toNat ((k : Nat) : Int) = k := Int.toNat_natCast k
 rw [hkk]
 have e1 : List.drop (Nat.add 0 0) (List.take (Nat.add (Nat.add 0 0) (Nat.sub k 0)) (prs o)) = prs (o.take k) := by
  show List.drop 0 (List.take (0 + k) (prs o)) = _
  rw [List.drop_zero, Nat.zero_add, prs_take]
 have e2 : List.drop (Nat.add 0 k) (List.take (Nat.add (Nat.add 0 k) (Nat.sub o.length k)) (prs o)) = prs (o.drop k) := by
  show List.drop (0 + k) (List.take (0 + k + (o.length - k)) (prs o)) = _
  rw [Nat.zero_add, List.take_of_length_le (by rw [prs_len]; omega), prs_drop]
 have l1 : (prs (o.take k)).length = k := by rw [prs_len]; simp; omega
 have l2 : (prs (o.drop k)).length = o.length - k := by rw [prs_len]; simp
 refine (goY (by omega) _ _).trans ((goY (by omega) _ _).trans ?_)
 refine (goLe (by show 0 + 0 + (k - 0) ≤ (prs o).length; rw [prs_len]; omega) _).trans ?_
 rw [e1, ysOk_prs, l1]
 refine (goY (by show (0 + k) * 16 ≤ _; omega) _ _).trans ?_
 show (Option.bind (chk (Nat.add 0 k) (List.length (prs (o.take k)))) fun _ => if Nat.mul (Nat.add (List.length (prs (o.take k))) 1) 16 ≤ 140737488355328 then
  if (0 : Int) ≤ (k : Int) then if (k : Int) ≤ (o.length : Int) then
   Option.bind (chkLe (Nat.add (Nat.add 0 k) (Nat.sub o.length k)) (List.length (prs o))) fun _ =>
   bif ysOk (List.drop (Nat.add 0 k) (List.take (Nat.add (Nat.add 0 k) (Nat.sub o.length k)) (prs o))) then
   Option.bind (chk (Nat.add (List.length (prs (o.take k))) 1) (List.length (prs (o.take k) ++ prs [pairOf a]))) fun _ =>
   if Nat.mul (Nat.add (List.length (prs (o.take k) ++ prs [pairOf a])) (List.length (List.drop (Nat.add 0 k) (List.take (Nat.add (Nat.add 0 k) (Nat.sub o.length k)) (prs o))))) 16 ≤ 140737488355328 then
   E cx (Key.loop 37 [true, true, false, true, false]) [vi (IntKind.wrap .i64 (Int.add (i : Int) 1)), .list 0 1 (ints raw), .ptr 0 0 0 0, .ptr 1 0 0 0] [⟨.box, 36, 2, 0, [[vbool b1, .val (.slice none 0 0)]]⟩,
    ⟨.box, 36, 2, 0, [[vbool b2, .arr 2 2 0 (Nat.add (List.length (prs (o.take k) ++ prs [pairOf a])) (List.length (List.drop (Nat.add 0 k) (List.take (Nat.add (Nat.add 0 k) (Nat.sub o.length k)) (prs o)))))]]⟩,
    ⟨.arr, 80, 2, 2, prs (o.take k) ++ prs [pairOf a] ++ List.drop (Nat.add 0 k) (List.take (Nat.add (Nat.add 0 k) (Nat.sub o.length k)) (prs o))⟩]
   else none else none else none else none else none) = _
 have l3 : (prs (o.take k) ++ prs [pairOf a]).length = k + 1 := by rw [List.length_append, l1]; rfl
 rw [e2, ysOk_prs, l1, l3, l2]
 refine (goCk (by show 0 + k = k; omega) _).trans ((goY (by show (k + 1) * 16 ≤ _; omega) _ _).trans ((goY (by omega) _ _).trans ((goY (by omega) _ _).trans ?_)))
 refine (goLe (by show 0 + k + (o.length - k) ≤ (prs o).length; rw [prs_len]; omega) _).trans ?_
 refine (goCk rfl _).trans ((goY (by show (k + 1 + (o.length - k)) * 16 ≤ _; omega) _ _).trans ?_)
 have e3 : prs (o.take k) ++ prs [pairOf a] ++ prs (o.drop k) = prs (insR (pairOf a) o) := by
  unfold insR
  rw [hk]
  simp [prs]
 have l4 : Nat.add (k + 1) (o.length - k) = (insR (pairOf a) o).length := by
  rw [insR_len]
  show k + 1 + (o.length - k) = _
  omega
 rw [e3, l4, wS (by omega)]
theorem loop37 (b1 b2 : Bool) (raw : List Int) (hr : ∀ a ∈ raw, RI a) : ∀ (rest : List Int) (i : Nat) (o : List P2), (raw.take 30).drop i = rest → i + rest.length = (raw.take 30).length → o.length = i →
  ∃ n : Nat, E cx (Key.loop 37 [true, true, false, true, false]) [vi i, .list 0 1 (ints raw), .ptr 0 0 0 0, .ptr 1 0 0 0] [⟨.box, 36, 2, 0, [[vbool b1, .val (.slice none 0 0)]]⟩, ⟨.box, 36, 2, 0, [[vbool b2, .arr 2 2 0 o.length]]⟩, ⟨.arr, 80, 2, 2, prs o⟩] =
   some (Out.jump (.exit 0) [vi n], [⟨.box, 36, 2, 0, [[vbool b1, .val (.slice none 0 0)]]⟩, ⟨.box, 36, 2, 0, [[vbool b2, .arr 2 2 0 (tokL rest o).length]]⟩, ⟨.arr, 80, 2, 2, prs (tokL rest o)⟩])
 | [], i, o, hd, hi, ho => by
  simp only [List.length_nil, Nat.add_zero, List.length_take] at hi
  exact ⟨i, loop37_end _ _ _ _ _ _ (by simp only [List.length_map]; omega)⟩
 | a :: rest, i, o, hd, hi, ho => by
  have hp : (raw.take 30)[i]? = some a := by
   have := congrArg (fun l => l[0]?) hd; simpa using this
  have hd' : (raw.take 30).drop (i + 1) = rest := by rw [← List.drop_drop, hd]; rfl
  have hlt : i < (raw.take 30).length := (List.getElem?_eq_some_iff.1 hp).1
  simp only [List.length_cons] at hi
  have h30 : i < 30 := by rw [List.length_take] at hlt; omega
  rw [List.getElem?_take, if_pos h30] at hp
  have hl := insR_len (pairOf a) o
  obtain ⟨n, g⟩ := loop37 b1 b2 raw hr rest (i + 1) (insR (pairOf a) o) hd' (by omega) (by omega)
  exact ⟨n, (loop37_step b1 b2 raw hr i a hp h30 o (by omega)).trans g⟩
theorem c37 (raw : List Int) (hr : ∀ a ∈ raw, RI a) (f : Bool) : E cx (Key.fn 37) [.list 0 1 (ints raw), vbool f] [] = some (Out.ret (.agg [vbool f, .list 0 2 (prs (tokP raw))]), []) := by
 refine (f37 _ _).trans ?_
 obtain ⟨n, g⟩ := loop37 false f raw hr (raw.take 30) 0 [] rfl (by omega) rfl
 show (Option.bind (E cx (Key.loop 37 [true, true, false, true, false]) [vi ((0 : Nat) : Int), .list 0 1 (ints raw), .ptr 0 0 0 0, .ptr 1 0 0 0] [⟨.box, 36, 2, 0, [[vbool false, .val (.slice none 0 0)]]⟩, ⟨.box, 36, 2, 0, [[vbool f, .arr 2 2 0 ([] : List P2).length]]⟩, ⟨.arr, 80, 2, 2, prs []⟩]) _) = _
 rw [g]
 show (Option.bind (chkLe (Nat.add 0 (tokP raw).length) (List.length (prs (tokP raw)))) fun _ => some (Out.ret (.agg [vbool f, .list 0 2 (List.drop 0 (List.take (Nat.add 0 (tokP raw).length) (prs (tokP raw))))]), ([] : Heap))) = _
 rw [goLe (by rw [prs_len]; exact Nat.le_of_eq (Nat.zero_add _)), view0]
end
end
section
section
theorem c64 {c n : Int} (hc : RI c) (hn : 0 < n) : E cx (Key.fn 64) [vi c, vi n] [] = some (Out.ret (vi (pickI c n)), []) := by
 refine (f64 c n).trans ?_
 unfold pickI
 by_cases h : c < 0
 ·refine (goD h _ _).trans ((goN (by omega) _ _).trans ?_)
  rw [wr_add (by omega) (by omega), show Int.sub 0 (c + 1) = 0 - (c + 1) from rfl, show (0 : Int) - (c + 1) = -(c + 1) by omega, wr_id (by omega) (by omega), if_pos h]
 ·refine (goDn h _ _).trans ((goN (by omega) _ _).trans ?_)
  rw [if_neg h]
abbrev bB (n : Int) (l : List Int) : Ob := ⟨.box, 33, 2, 0, [[vi n, .list 0 1 (ints l)]]⟩
abbrev bA (n : Int) (l : List Int) : AV := .agg [vi n, .list 0 1 (ints l)]
def upB (n : Int) : Int → List Int → Bool
 | _, [] => true
 | p, x :: r => decide (p < x) && (decide (x < n) && upB n x r)
def rightB (n : Int) (l : List Int) : Bool := decide (0 ≤ n) && (decide (n ≤ 2048) && upB n (-1) l)
theorem loop60 (b : Bool) (n : Int) (l : List Int) (hl : l.length ≤ 4000000) : ∀ (rest : List Int) (i : Nat) (p : Int), l.drop i = rest → i + rest.length = l.length →
  (upB n p rest = true ∧ ∃ q : Int, E cx (Key.loop 60 [true, true, true, false, true, false]) [vbool b, vi p, vi i, .ptr 0 0 0 0, .list 0 1 (ints l), vi l.length] [bB n l] = some (Out.jump (.exit 0) [vbool b, vi q, vi l.length], [bB n l])) ∨
  (upB n p rest = false ∧ ∃ q k : Int, E cx (Key.loop 60 [true, true, true, false, true, false]) [vbool b, vi p, vi i, .ptr 0 0 0 0, .list 0 1 (ints l), vi l.length] [bB n l] = some (Out.jump .ret [vbool false, vi q, vi k], [bB n l]))
 | [], i, p, hd, hi => by
  simp only [List.length_nil, Nat.add_zero] at hi
  subst hi
  exact .inl ⟨rfl, p, (f60_l0 _ _ _ _ _ _ _).trans (goDn (by omega) _ _)⟩
 | x :: rest, i, p, hd, hi => by
  obtain ⟨hp, hd', hlt⟩ := drop_cons' hd
  simp only [List.length_cons] at hi
  have go : ∀ {R}, (bif decide (x ≤ p) then q60_l0_0 p i n (ints l) else bif decide (x ≥ n) then q60_l0_0 p i n (ints l) else
    E cx (Key.loop 60 [true, true, true, false, true, false]) [vbool b, vi x, vi (i + 1 : Nat), .ptr 0 0 0 0, .list 0 1 (ints l), vi l.length] [bB n l]) = R →
    E cx (Key.loop 60 [true, true, true, false, true, false]) [vbool b, vi p, vi i, .ptr 0 0 0 0, .list 0 1 (ints l), vi l.length] [bB n l] = R := fun {R} h => by
   refine (f60_l0 _ _ _ _ _ _ _).trans ((goD (by omega) _ _).trans ((goY (by omega) _ _).trans ((go1 (n := i) rfl hp _).trans ?_)))
   rw [wS (by omega)]
   exact h
  have hu : upB n p (x :: rest) = (decide (p < x) && (decide (x < n) && upB n x rest)) := rfl
  by_cases h1 : p < x
  ·by_cases h2 : x < n
   ·rw [hu, decide_eq_true h1, decide_eq_true h2, Bool.true_and, Bool.true_and]
    rcases loop60 b n l hl rest (i + 1) x hd' (by omega) with ⟨g1, q, g2⟩ | ⟨g1, q, k, g2⟩
    ·exact .inl ⟨g1, q, go ((goDn (by omega) _ _).trans ((goDn (by omega) _ _).trans g2))⟩
    ·exact .inr ⟨g1, q, k, go ((goDn (by omega) _ _).trans ((goDn (by omega) _ _).trans g2))⟩
   ·exact .inr ⟨by rw [hu, decide_eq_false h2, Bool.false_and, Bool.and_false], p, i, go ((goDn (by omega) _ _).trans (goD (by omega) _ _))⟩
  ·exact .inr ⟨by rw [hu, decide_eq_false h1, Bool.false_and], p, i, go (goD (by omega) _ _)⟩
theorem c60 (n : Int) (l : List Int) (hl : l.length ≤ 4000000) : E cx (Key.fn 60) [bA n l] [] = rb (rightB n l) := by
 refine (f60 _ _).trans ?_
 unfold rightB
 by_cases h1 : n < 0
 ·rw [decide_eq_false (show ¬ 0 ≤ n by omega)]
  exact goD h1 _ _
 ·rw [decide_eq_true (show 0 ≤ n by omega)]
  refine (goDn h1 _ _).trans ?_
  by_cases h2 : n > 2048
  ·rw [decide_eq_false (show ¬ n ≤ 2048 by omega)]
   exact goD h2 _ _
  ·rw [decide_eq_true (show n ≤ 2048 by omega)]
   refine (goDn h2 _ _).trans ?_
   rw [ints_len]
   show (Option.bind (E cx (Key.loop 60 [true, true, true, false, true, false]) [vbool false, vi (-1), vi ((0 : Nat) : Int), .ptr 0 0 0 0, .list 0 1 (ints l), vi l.length] [bB n l]) _) = _
   rcases loop60 false n l hl l 0 (-1) rfl (by omega) with ⟨g1, q, g2⟩ | ⟨g1, q, k, g2⟩
   ·rw [g2, g1]; rfl
   ·rw [g2, g1]; rfl
end
section
theorem loop67 (b0 : Bool) (n m : Int) (a b : List Int) (hab : a.length = b.length) (hl : a.length ≤ 4000000) : ∀ (d i : Nat), i + d = a.length →
  (a.drop i = b.drop i ∧ E cx (Key.loop 67 [true, true, false, true, false]) [vbool b0, vi i, .ptr 0 0 0 0, .ptr 1 0 0 0] [bB n a, bB m b] = some (Out.jump (.exit 0) [vbool b0, vi a.length], [bB n a, bB m b])) ∨
  (a.drop i ≠ b.drop i ∧ ∃ k : Nat, E cx (Key.loop 67 [true, true, false, true, false]) [vbool b0, vi i, .ptr 0 0 0 0, .ptr 1 0 0 0] [bB n a, bB m b] = some (Out.jump .ret [vbool false, vi k], [bB n a, bB m b]))
 | 0, i, hd => by
  refine .inl ⟨by rw [List.drop_eq_nil_of_le (by omega), List.drop_eq_nil_of_le (by omega)], (f67_l0 _ _ _ _ _ _).trans ((goDn (by rw [ints_len]; omega) _ _).trans (by rw [show i = a.length by omega]))⟩
 | d + 1, i, hd => by
  have hp : a[i]? = some a[i] := List.getElem?_eq_getElem (by omega)
  have hq : b[i]? = some b[i] := List.getElem?_eq_getElem (by omega)
  have ha : a.drop i = a[i] :: a.drop (i + 1) := List.drop_eq_getElem_cons (by omega)
  have hb : b.drop i = b[i] :: b.drop (i + 1) := List.drop_eq_getElem_cons (by omega)
  have go : ∀ {R}, (bif a[i] != b[i] then some (Out.jump .ret [vbool false, vi i], [bB n a, bB m b]) else
    E cx (Key.loop 67 [true, true, false, true, false]) [vbool b0, vi (i + 1 : Nat), .ptr 0 0 0 0, .ptr 1 0 0 0] [bB n a, bB m b]) = R →
    E cx (Key.loop 67 [true, true, false, true, false]) [vbool b0, vi i, .ptr 0 0 0 0, .ptr 1 0 0 0] [bB n a, bB m b] = R := fun {R} h => by
   refine (f67_l0 _ _ _ _ _ _).trans ((goD (by rw [ints_len]; omega) _ _).trans ((goY (by omega) _ _).trans ((go1 (n := i) rfl hp _).trans ((goY (by omega) _ _).trans ((go1 (n := i) rfl hq _).trans ?_)))))
   rw [wS (by omega)]
   exact h
  rw [ha, hb]
  by_cases he : a[i] = b[i]
  ·rcases loop67 b0 n m a b hab hl d (i + 1) (by omega) with ⟨g1, g2⟩ | ⟨g1, k, g2⟩
   ·exact .inl ⟨by rw [he, g1], go ((goE he _ _).trans g2)⟩
   ·exact .inr ⟨fun h => g1 (List.cons.inj h).2, k, go ((goE he _ _).trans g2)⟩
  ·exact .inr ⟨fun h => he (List.cons.inj h).1, i, go (goEn he _ _)⟩
theorem c67 (n m : Int) (a b : List Int) (hl : a.length ≤ 4000000) : E cx (Key.fn 67) [bA n a, bA m b] [] = rb (decide (n = m ∧ a = b)) := by
 refine (f67 _ _ _ _).trans ?_
 rw [ints_len, ints_len]
 by_cases hn : n = m
 ·refine (goE hn _ _).trans ?_
  by_cases hab : a.length = b.length
  ·refine (goE (by omega) _ _).trans ?_
   show (Option.bind (E cx (Key.loop 67 [true, true, false, true, false]) [vbool false, vi ((0 : Nat) : Int), .ptr 0 0 0 0, .ptr 1 0 0 0] [bB n a, bB m b]) _) = _
   rcases loop67 false n m a b hab hl a.length 0 (by omega) with ⟨g1, g2⟩ | ⟨g1, k, g2⟩
   ·rw [g2, decide_eq_true (show n = m ∧ a = b from ⟨hn, g1⟩)]
    rfl
   ·rw [g2, decide_eq_false (show ¬ (n = m ∧ a = b) from fun h => g1 h.2)]
    rfl
  ·rw [decide_eq_false fun h => hab (by rw [h.2])]
   exact goEn (by omega) _ _
 ·rw [decide_eq_false fun h => hn h.1]
  exact goEn hn _ _
end
section
theorem up_pw : ∀ {n p : Int} {l : List Int}, upB n p l = true → l.Pairwise (· < ·) ∧ ∀ x ∈ l, p < x ∧ x < n
 | n, p, [], _ => ⟨.nil, by simp⟩
 | n, p, x :: r, h => by
  have h' : (decide (p < x) && (decide (x < n) && upB n x r)) = true := h
  simp only [Bool.and_eq_true, decide_eq_true_eq] at h'
  obtain ⟨h1, h2, h3⟩ := h'
  obtain ⟨g1, g2⟩ := up_pw h3
  refine ⟨.cons (fun y hy => (g2 y hy).1) g1, fun y hy => ?_⟩
  rcases List.mem_cons.1 hy with rfl | hy
  ·exact ⟨h1, h2⟩
  ·have := g2 y hy
   exact ⟨by omega, this.2⟩
end
section
theorem ysOk_ints (l : List Int) : ysOk (ints l) = true := by
 unfold ysOk
 rw [List.all_eq_true]
 intro e he
 obtain ⟨p, _, rfl⟩ := List.mem_map.1 he
 rfl
end
section
abbrev b0 (m : Int) : Ob := ⟨.box, 33, 2, 0, [[vi m, .val (.slice none 0 0)]]⟩
end
section
abbrev bys (o : List Int) : List (List AV) := o.map fun b => [vb b]
def putB (o : List Int) (p : Nat) : List Int := o.set (p / 8) (ior .u8 (o.getD (p / 8) 0) (ishl .u8 1 ((p % 8 : Nat) : Int)))
theorem putB_len (o : List Int) (p : Nat) : (putB o p).length = o.length := by simp [putB]
theorem nth_bys {o : List Int} {k : Nat} (h : k < o.length) : nth (bys o) k = some [vb (o.getD k 0)] := by
 rw [nth_eq]; simp [bys, h]
theorem goNb {ρ : Type} {o : List Int} {k : Nat} (h : k < o.length) (f : Int → Option ρ) : ((nth (bys o) k).bind fun cs => (uncons? cs).bind fun p => (AV.int? .u8 p.fst).bind fun s => (nil? p.snd).bind fun _ => f s) = f (o.getD k 0) := by rw [nth_bys h]; rfl
theorem loop118 (l : List Nat) (hl : l.length ≤ 4000000) (n : Nat) (hn : n ≤ 1000000) (hp : ∀ p ∈ l, p < 8 * n) : ∀ (rest : List Nat) (i : Nat) (o : List Int), l.drop i = rest → i + rest.length = l.length → o.length = n →
  E cx (Key.loop 118 [true, true, false, true, false]) [vi i, .arr 0 1 0 n, .list 0 1 (ints (l.map Int.ofNat)), vi l.length] [⟨.arr, 5, 1, 1, bys o⟩] = some (Out.jump (.exit 0) [vi l.length], [⟨.arr, 5, 1, 1, bys (rest.foldl putB o)⟩])
 | [], i, o, hd, hi, ho => by
  simp only [List.length_nil, Nat.add_zero] at hi
  subst hi
  exact (f118_l0 _ _ _ _ _).trans (goDn (by omega) _ _)
 | y :: rest, i, o, hd, hi, ho => by
  obtain ⟨hq, hd', hlt⟩ := drop_cons' hd
  simp only [List.length_cons] at hi
  have hy := hp y (List.mem_of_getElem? hq)
  have hq' : (l.map Int.ofNat)[i]? = some (y : Int) := by rw [List.getElem?_map, hq]; rfl
  have ih := loop118 l hl n hn hp rest (i + 1) (putB o y) hd' (by omega) ((putB_len o y).trans ho)
  have hw : IntKind.wrap .i64 (Int.tdiv (y : Int) 8) = ((y / 8 : Nat) : Int) := by
   rw [show Int.tdiv (y : Int) 8 = ((y / 8 : Nat) : Int) from rfl]
   exact wr_id (by omega) (by omega)
  refine (f118_l0 _ _ _ _ _).trans ((goD (by omega) _ _).trans ((goY (by omega) _ _).trans ((go1 (n := i) rfl hq' _).trans ?_)))
  rw [hw, Int.toNat_natCast, show Nat.add 0 (y / 8) = y / 8 from Nat.zero_add _, show Int.tmod (y : Int) 8 = ((y % 8 : Nat) : Int) from rfl, wS (by omega)]
  have hk : y / 8 < o.length := by omega
  refine (goY (by omega) _ _).trans ((goY (by omega) _ _).trans ((goNb hk _).trans ((goN (show ¬ (((y % 8 : Nat) : Int) < 0) by omega) _ _).trans ((goY (by omega) _ _).trans ((goY (by omega) _ _).trans ((goNb hk _).trans ?_))))))
  refine Eq.trans ?_ ih
  simp [putB, bys, List.map_set]
end
section
theorem foldB_len (l : List Nat) : ∀ o : List Int, (l.foldl putB o).length = o.length := by
 induction l with
 | nil => intro o; rfl
 | cons p l ih => intro o; rw [List.foldl_cons, ih, putB_len]
theorem c118 (l : List Nat) (hl : l.length ≤ 4000000) (n : Nat) (hn : n ≤ 1000000) (hp : ∀ p ∈ l, p < 8 * n) :
  E cx (Key.fn 118) [vi n, .list 0 1 (ints (l.map Int.ofNat))] [] = some (Out.ret (.list 0 1 (bys (l.foldl putB (List.replicate n 0)))), []) := by
 have hlen : (l.foldl putB (List.replicate n 0)).length = n := by rw [foldB_len, List.length_replicate]
 have hbl : (bys (l.foldl putB (List.replicate n 0))).length = n := by rw [List.length_map, hlen]
 have g := loop118 l hl n hn hp l 0 (List.replicate n 0) rfl (by omega) (List.length_replicate ..)
 have hb0 : bys (List.replicate n 0) = List.replicate n [vb 0] := by simp [bys]
 rw [hb0] at g
 refine (f118 _ _).trans ((goY (by omega) _ _).trans ((goY (Int.le_refl _) _ _).trans ((goY (show Int.mul 1 n ≤ _ by show (1 : Int) * n ≤ _; omega) _ _).trans ?_)))
 rw [Int.toNat_natCast, ints_len, List.length_map]
 refine (congrArg (fun o => Option.bind o _) g).trans ?_
 show (Option.bind (chkLe (Nat.add 0 n) (bys (l.foldl putB (List.replicate n 0))).length) fun _ => some (Out.ret (.list 0 1 (List.drop 0 (List.take (Nat.add 0 n) (bys (l.foldl putB (List.replicate n 0)))))), [])) = _
 rw [show Nat.add 0 n = n from Nat.zero_add n]
 refine (goLe (Nat.le_of_eq hbl.symm) _).trans ?_
 rw [List.take_of_length_le (Nat.le_of_eq hbl)]
 rfl
end
section
theorem numsOf_bys : ∀ o : List Int, numsOf (bys o) = some o
 | [] => rfl
 | b :: o => by
  show (Option.bind (numsOf (bys o)) fun ns => some (b :: ns)) = _
  rw [numsOf_bys o]; rfl
end
section
theorem c55_q0 (x N m : Int) (c : Nat) (o : List (List AV)) (raw : List Int) (i : Nat) (hi : i < 40) :
  q55_l0_l1_0 i (ints raw) x m N c o = E cx (Key.loop 55 [true, true, false, true, false, false, true, false, false, true, false, true, false]) [vbool true, vi (i + 1 : Nat), .list 0 1 (ints raw), .ptr 0 0 0 0, .ptr 1 0 0 0, vi x] [b0 m, ⟨.box, 33, 2, 0, [[vi N, .arr 2 1 0 c]]⟩, ⟨.arr, 3, 1, 1, o⟩] := by
 unfold q55_l0_l1_0
 rw [wS (by omega)]
theorem loop55b (x N m : Int) (hN : 0 < N) (c : Nat) (o : List (List AV)) (raw : List Int) (hr : ∀ r ∈ raw, RI r) : ∀ (rest : List Int) (i : Nat) (b : Bool), (raw.take 40).drop i = rest → i + rest.length = (raw.take 40).length →
  ∃ i' : Nat, E cx (Key.loop 55 [true, true, false, true, false, false, true, false, false, true, false, true, false]) [vbool b, vi i, .list 0 1 (ints raw), .ptr 0 0 0 0, .ptr 1 0 0 0, vi x] [b0 m, ⟨.box, 33, 2, 0, [[vi N, .arr 2 1 0 c]]⟩, ⟨.arr, 3, 1, 1, o⟩] =
   some (Out.jump (.exit 2) [vbool (b || rest.any fun r => decide (pickI r N = x)), vi i'], [b0 m, ⟨.box, 33, 2, 0, [[vi N, .arr 2 1 0 c]]⟩, ⟨.arr, 3, 1, 1, o⟩])
 | [], i, b, hd, hi => ⟨i, by
   simp only [List.length_nil, Nat.add_zero, List.length_take] at hi
   rw [List.any_nil, Bool.or_false]
   refine (f55_l0_l1 _ _ _ _ _ _ _ _).trans ?_
   by_cases h : (i : Int) < ((ints raw).length : Int)
   ·rw [ints_len] at h
    exact (goD (by rw [ints_len]; exact h) _ _).trans ((goDn (by omega) _ _).trans rfl)
   ·exact (goDn h _ _).trans rfl⟩
 | r :: rest, i, b, hd, hi => by
  obtain ⟨hp, hd', hlt⟩ := drop_cons' hd
  simp only [List.length_cons, List.length_take] at hi
  have h40 : i < 40 := by omega
  have hp' : raw[i]? = some r := by
   rw [List.getElem?_take] at hp
   rwa [if_pos h40] at hp
  have hlr : i < raw.length := (List.getElem?_eq_some_iff.1 hp').1
  obtain ⟨i', h⟩ := loop55b x N m hN c o raw hr rest (i + 1) (b || decide (pickI r N = x)) hd' (by rw [List.length_take]; omega)
  refine ⟨i', (f55_l0_l1 _ _ _ _ _ _ _ _).trans ((goD (by rw [ints_len]; omega) _ _).trans ((goD (by omega) _ _).trans ?_))⟩
  rw [List.any_cons, ← Bool.or_assoc, ← h]
  cases b with
  | true =>
   show q55_l0_l1_0 i (ints raw) x m N c (o) = _
   exact (c55_q0 x N m c o raw i h40).trans rfl
  | false =>
   refine (goD rfl _ _).trans ((goD rfl _ _).trans ((goD rfl _ _).trans ((goY (show 0 ≤ (i : Int) by omega) _ _).trans ((go1 (n := i) rfl hp' _).trans ((goD rfl _ _).trans ((goD rfl _ _).trans ((goD rfl _ _).trans ((goD rfl _ _).trans ((goI (c64 (hr r (List.mem_of_getElem? hp')) hN) _).trans ((goD rfl _ _).trans ?_))))))))))
   unfold q55_l0_l1_2
   refine (goD rfl _ _).trans ?_
   rw [Bool.false_or]
   cases hx : decide (pickI r N = x) with
   | true =>
    rw [cond_true, cond_false]
    exact c55_q0 x N m c o raw i h40
   | false =>
    rw [cond_false, cond_false]
    show E cx (Key.loop 55 [true, true, false, true, false, false, true, false, false, true, false, true, false]) [vbool false, vi (IntKind.wrap .i64 (Int.add i 1)), .list 0 1 (ints raw), .ptr 0 0 0 0, .ptr 1 0 0 0, vi x] [b0 m, ⟨.box, 33, 2, 0, [[vi N, .arr 2 1 0 c]]⟩, ⟨.arr, 3, 1, 1, o⟩] = _
    rw [wS (by omega)]
def rwD (raw : List Int) (N x : Int) : Nat → List Int
 | 0 => []
 | d + 1 => (bif (raw.take 40).any fun r => decide (pickI r N = x) then [x] else []) ++ rwD raw N (x + 1) d
theorem loop55 (N m : Int) (hN : 0 < N) (hN2 : N ≤ 2048) (raw : List Int) (hr : ∀ r ∈ raw, RI r) : ∀ (d : Nat) (x : Int) (o : List Int), x + d = N → 0 ≤ x → (o.length : Int) ≤ x →
  E cx (Key.loop 55 [true, true, false, true, false]) [vi x, .list 0 1 (ints raw), .ptr 0 0 0 0, .ptr 1 0 0 0] [b0 m, ⟨.box, 33, 2, 0, [[vi N, .arr 2 1 0 o.length]]⟩, ⟨.arr, 3, 1, 1, ints o⟩] =
   some (Out.jump (.exit 0) [vi N], [b0 m, ⟨.box, 33, 2, 0, [[vi N, .arr 2 1 0 (o ++ rwD raw N x d).length]]⟩, ⟨.arr, 3, 1, 1, ints (o ++ rwD raw N x d)⟩])
 | 0, x, o, hx, h0, ho => by
  have : x = N := by omega
  subst this
  unfold rwD
  rw [List.append_nil]
  exact (f55_l0 _ _ _ _ _ _).trans (goDn (by omega) _ _)
 | d + 1, x, o, hx, h0, ho => by
  obtain ⟨i', g⟩ := loop55b x N m hN o.length (ints o) raw hr (raw.take 40) 0 false rfl (by omega)
  rw [Bool.false_or] at g
  refine (f55_l0 _ _ _ _ _ _).trans ((goD (by omega) _ _).trans ((goD (by omega) _ _).trans ((congrArg (fun o => Option.bind o _) g).trans ?_)))
  unfold rwD
  cases hc : (raw.take 40).any fun r => decide (pickI r N = x) with
  | true =>
   have e := loop55 N m hN hN2 raw hr d (x + 1) (o ++ [x]) (by omega) (by omega) (by simp; omega)
   have hw : IntKind.wrap .i64 (Int.add x 1) = x + 1 := wr_add (by omega) (by omega)
   show (Option.bind (chk o.length (ints o).length) fun _ => if Nat.mul (Nat.add (ints o).length 1) 8 ≤ 140737488355328 then
    E cx (Key.loop 55 [true, true, false, true, false]) [vi (IntKind.wrap .i64 (Int.add x 1)), .list 0 1 (ints raw), .ptr 0 0 0 0, .ptr 1 0 0 0] [b0 m, ⟨.box, 33, 2, 0, [[vi N, .arr 2 1 0 (Nat.add (ints o).length 1)]]⟩, ⟨.arr, 3, 1, 1, ints o ++ [[vi x]]⟩] else none) = _
   rw [hw]
   have hla : Nat.add (ints o).length 1 = (o ++ [x]).length := by rw [ints_len, List.length_append]; rfl
   have happ : ints o ++ [[vi x]] = ints (o ++ [x]) := by simp [ints]
   rw [hla, happ]
   refine (goCk (ints_len o).symm _).trans ((goY (by rw [List.length_append]; show (o.length + 1) * 8 ≤ _; omega) _ _).trans (e.trans ?_))
   simp [List.append_assoc]
  | false =>
   have e := loop55 N m hN hN2 raw hr d (x + 1) o (by omega) (by omega) (by omega)
   have hw : IntKind.wrap .i64 (Int.add x 1) = x + 1 := wr_add (by omega) (by omega)
   show E cx (Key.loop 55 [true, true, false, true, false]) [vi (IntKind.wrap .i64 (Int.add x 1)), .list 0 1 (ints raw), .ptr 0 0 0 0, .ptr 1 0 0 0] [b0 m, ⟨.box, 33, 2, 0, [[vi N, .arr 2 1 0 o.length]]⟩, ⟨.arr, 3, 1, 1, ints o⟩] = _
   rw [hw]
   exact e.trans (by simp)
def rawL (N : Int) (raw : List Int) : List Int := rwD raw N 0 N.toNat
theorem c55 {n below : Int} {raw : List Int} (hn : RI n) (hb : 0 < below) (hb2 : below ≤ 2048) (hr : ∀ r ∈ raw, RI r) : E cx (Key.fn 55) [vi n, vi below, .list 0 1 (ints raw)] [] = some (Out.ret (bA (pickI n below) (rawL (pickI n below) raw)), []) := by
 have hp := pickI_lt (c := n) hb
 refine (f55 _ _ _).trans ((goI (c64 hn hb) _).trans ?_)
 have key : E cx (Key.loop 55 [true, true, false, true, false]) [vi 0, .list 0 1 (ints raw), .ptr 0 0 0 0, .ptr 1 0 0 0] [b0 0, ⟨.box, 33, 2, 0, [[vi (pickI n below), .arr 2 1 0 0]]⟩, ⟨.arr, 3, 1, 1, []⟩] =
   some (Out.jump (.exit 0) [vi (pickI n below)], [b0 0, ⟨.box, 33, 2, 0, [[vi (pickI n below), .arr 2 1 0 (rawL (pickI n below) raw).length]]⟩, ⟨.arr, 3, 1, 1, ints (rawL (pickI n below) raw)⟩]) := by
  by_cases h0 : pickI n below = 0
  ·rw [h0]
   exact (f55_l0 _ _ _ _ _ _).trans (goDn (by omega) _ _)
  ·exact loop55 (pickI n below) 0 (by omega) (by omega) raw hr (pickI n below).toNat 0 [] (by omega) (by omega) (by simp)
 refine (congrArg (fun o => Option.bind o _) key).trans ?_
 have hz : Nat.add 0 (rawL (pickI n below) raw).length = (ints (rawL (pickI n below) raw)).length := by rw [ints_len]; exact Nat.zero_add _
 show (Option.bind (chkLe (Nat.add 0 (rawL (pickI n below) raw).length) (ints (rawL (pickI n below) raw)).length) fun _ => some (Out.ret (.agg [vi (pickI n below), .list 0 1 (List.drop 0 (List.take (Nat.add 0 (rawL (pickI n below) raw).length) (ints (rawL (pickI n below) raw))))]), [])) = _
 rw [hz]
 refine (goLe (Nat.le_refl _) _).trans ?_
 rw [List.take_length]
 rfl
theorem rwD_mem (raw : List Int) (N : Int) : ∀ (d : Nat) (x y : Int), y ∈ rwD raw N x d ↔ (x ≤ y ∧ y < x + d ∧ ∃ r ∈ raw.take 40, pickI r N = y)
 | 0, x, y => by simp [rwD]; intro _ _; omega
 | d + 1, x, y => by
  simp only [rwD, List.mem_append, rwD_mem raw N d (x + 1) y]
  constructor
  ·rintro (h | ⟨h1, h2, h3⟩)
   ·cases hc : (raw.take 40).any fun r => decide (pickI r N = x) with
    | false => rw [hc] at h; cases h
    | true =>
     rw [hc] at h
     simp at h
     subst h
     obtain ⟨r, hr, he⟩ := List.any_eq_true.1 hc
     exact ⟨by omega, by omega, r, hr, of_decide_eq_true he⟩
   ·exact ⟨by omega, by omega, h3⟩
  ·rintro ⟨h1, h2, r, h3, h4⟩
   by_cases hxy : x = y
   ·subst hxy
    have : ((raw.take 40).any fun r => decide (pickI r N = x)) = true := List.any_eq_true.2 ⟨r, h3, decide_eq_true h4⟩
    rw [this]
    exact .inl (by simp)
   ·exact .inr ⟨by omega, by omega, r, h3, h4⟩
theorem rwD_sorted (raw : List Int) (N : Int) : ∀ (d : Nat) (x : Int), (rwD raw N x d).Pairwise (· < ·)
 | 0, x => .nil
 | d + 1, x => by
  unfold rwD
  refine List.pairwise_append.2 ⟨?_, rwD_sorted raw N d (x + 1), fun a ha b hb => ?_⟩
  ·cases (raw.take 40).any fun r => decide (pickI r N = x) <;> simp
  ·have h2 := (rwD_mem raw N d (x + 1) b).1 hb
   cases hc : (raw.take 40).any fun r => decide (pickI r N = x) with
   | false => rw [hc] at ha; cases ha
   | true => rw [hc] at ha; simp at ha; omega
theorem rawL_mem {N : Int} (hN : 0 < N) {raw : List Int} {y : Int} : y ∈ rawL N raw ↔ ∃ r ∈ raw.take 40, pickI r N = y := by
 unfold rawL
 rw [rwD_mem]
 constructor
 ·exact fun ⟨_, _, h⟩ => h
 ·rintro ⟨r, h1, h2⟩
  have := pickI_lt (c := r) hN
  exact ⟨by omega, by omega, r, h1, h2⟩
theorem rawL_lt {N : Int} {raw : List Int} {y : Int} (hy : y ∈ rawL N raw) : 0 ≤ y ∧ y < N := by
 obtain ⟨h1, h2, _⟩ := (rwD_mem raw N _ _ y).1 hy
 exact ⟨h1, by omega⟩
theorem rawL_sorted (N : Int) (raw : List Int) : (rawL N raw).Pairwise (· < ·) := rwD_sorted _ _ _ _
end
section
def byN (Q : Nat → Bool) : Nat → Nat
 | 0 => 0
 | j + 1 => byN Q j + (bif Q j then 2 ^ j else 0)
theorem byN_lt (Q : Nat → Bool) : ∀ n, byN Q n < 2 ^ n
 | 0 => by simp [byN]
 | n + 1 => by
  have := byN_lt Q n
  unfold byN
  rw [Nat.pow_succ]
  cases Q n <;> simp <;> omega
theorem byN_congr {Q Q' : Nat → Bool} : ∀ {n : Nat}, (∀ j < n, Q j = Q' j) → byN Q n = byN Q' n
 | 0, _ => rfl
 | n + 1, h => by
  unfold byN
  rw [byN_congr (n := n) fun j hj => h j (by omega), h n (by omega)]
theorem byN_test (Q : Nat → Bool) : ∀ (n j : Nat), (byN Q n).testBit j = (decide (j < n) && Q j)
 | 0, j => by simp [byN]
 | n + 1, j => by
  have hlt := byN_lt Q n
  have ih := byN_test Q n
  unfold byN
  cases hq : Q n with
  | false =>
   simp only [cond_false, Nat.add_zero, ih]
   by_cases h : j = n
   ·subst h; simp [hq]
   ·have : (j < n + 1) ↔ (j < n) := by omega
    simp [this]
  | true =>
   simp only [cond_true]
   rw [Nat.add_comm]
   rcases Nat.lt_trichotomy j n with h | h | h
   ·rw [Nat.testBit_two_pow_add_gt h, ih]
    have : j < n + 1 := by omega
    simp [h, this]
   ·subst h
    rw [Nat.testBit_two_pow_add_eq, ih]
    simp [hq]
   ·have : ¬ j < n + 1 := by omega
    rw [Nat.testBit_lt_two_pow]
    ·simp [this]
    ·have : 2 ^ (n + 1) ≤ 2 ^ j := Nat.pow_le_pow_right (by omega) (by omega)
     rw [Nat.pow_succ] at this
     omega
theorem byN_self (a : Nat) : ∀ n, a < 2 ^ n → byN a.testBit n = a := fun n h => Nat.eq_of_testBit_eq fun j => by
 rw [byN_test]
 by_cases hj : j < n
 ·simp [hj]
 ·have : a < 2 ^ j := Nat.lt_of_lt_of_le h (Nat.pow_le_pow_right (by omega) (by omega))
  simp [hj, Nat.testBit_lt_two_pow this]
theorem byN_or (Q : Nat → Bool) (i : Nat) (n : Nat) (hi : i < n) : byN Q n ||| 2 ^ i = byN (fun j => Q j || decide (j = i)) n := Nat.eq_of_testBit_eq fun j => by
 rw [Nat.testBit_or, byN_test, byN_test, Nat.testBit_two_pow]
 by_cases h : j = i
 ·subst h; simp [hi]
 ·have : ¬ i = j := fun e => h e.symm
  simp [h, this]
theorem ofInt_nat (a : Nat) : BitVec.ofInt 8 (a : Int) = BitVec.ofNat 8 a := by
 apply BitVec.eq_of_toNat_eq
 simp []
theorem ior_nat {a b : Nat} (ha : a < 256) (hb : b < 256) : ior .u8 (a : Int) (b : Int) = ((a ||| b : Nat) : Int) := by
 have hab : a ||| b < 2 ^ 8 := Nat.or_lt_two_pow ha hb
 unfold ior
 rw [show IntKind.bits .u8 = 8 from rfl, ofInt_nat, ofInt_nat, BitVec.toNat_or, BitVec.toNat_ofNat, BitVec.toNat_ofNat, w8, Nat.mod_eq_of_lt (a := a) (by omega), Nat.mod_eq_of_lt (a := b) (by omega)]
 omega
theorem ishl_one {i : Nat} (hi : i < 8) : ishl .u8 1 (i : Int) = ((2 ^ i : Nat) : Int) := by
 unfold ishl
 rw [Int.toNat_natCast, show IntKind.bits .u8 = 8 from rfl, Nat.min_eq_left (by omega), w8]
 have : 2 ^ i < 2 ^ 8 := Nat.pow_lt_pow_right (by omega) hi
 have e : (1 : Int) * 2 ^ i = ((2 ^ i : Nat) : Int) := by simp
 rw [e]
 have h2 : 2 ^ i < 256 := this
 generalize 2 ^ i = y at h2 ⊢
 omega
def tabB (n : Nat) (P : Nat → Bool) : List Int := (List.range n).map fun k => ((byN (fun j => P (8 * k + j)) 8 : Nat) : Int)
theorem tabB_len (n : Nat) (P : Nat → Bool) : (tabB n P).length = n := by simp [tabB]
theorem tabB_get {n : Nat} {P : Nat → Bool} {k : Nat} (hk : k < n) : (tabB n P)[k]? = some ((byN (fun j => P (8 * k + j)) 8 : Nat) : Int) := by
 simp [tabB, hk]
theorem tabB_getD {n : Nat} {P : Nat → Bool} {k : Nat} (hk : k < n) : (tabB n P).getD k 0 = ((byN (fun j => P (8 * k + j)) 8 : Nat) : Int) := by
 rw [List.getD_eq_getElem?_getD, tabB_get hk]; rfl
theorem tabB_zero (n : Nat) : List.replicate n (0 : Int) = tabB n fun _ => false := by
 apply List.ext_getElem?
 intro k
 by_cases hk : k < n
 ·rw [tabB_get hk, List.getElem?_replicate, if_pos hk]
  rfl
 ·rw [List.getElem?_eq_none (by simp; omega), List.getElem?_eq_none (by rw [tabB_len]; omega)]
theorem tabB_set {n : Nat} {P : Nat → Bool} {p : Nat} (_hp : p < 8 * n) {x : Int} (hx : x = ((byN (fun j => P (8 * (p / 8) + j) || decide (j = p % 8)) 8 : Nat) : Int)) : (tabB n P).set (p / 8) x = tabB n fun y => P y || decide (y = p) := by
 apply List.ext_getElem?
 intro k
 rw [List.getElem?_set]
 by_cases hk : k < n
 ·rw [tabB_get hk, tabB_get hk, tabB_len]
  by_cases h : p / 8 = k
  ·subst h
   rw [if_pos rfl, if_pos hk, hx]
   congr 2
   apply byN_congr
   intro j hj
   have : (8 * (p / 8) + j = p) ↔ (j = p % 8) := by omega
   simp [this]
  ·rw [if_neg h]
   congr 2
   apply byN_congr
   intro j hj
   have : ¬ (8 * k + j = p) := by omega
   simp [this]
 ·rw [List.getElem?_eq_none (l := tabB n P) (by rw [tabB_len]; omega), List.getElem?_eq_none (l := tabB n _) (by rw [tabB_len]; omega)]
  split
  ·rw [if_neg (by rw [tabB_len]; omega)]
  ·rfl
theorem put_tab {n : Nat} {P : Nat → Bool} {p : Nat} (hp : p < 8 * n) : putB (tabB n P) p = tabB n fun y => P y || decide (y = p) := by
 unfold putB
 refine tabB_set hp ?_
 rw [tabB_getD (by omega), ishl_one (by omega), ior_nat (byN_lt _ 8) (show 2 ^ (p % 8) < 2 ^ 8 from Nat.pow_lt_pow_right (by omega) (by omega)), byN_or _ _ _ (by omega)]
theorem fold_tab (n : Nat) : ∀ (l : List Nat) (P : Nat → Bool), (∀ p ∈ l, p < 8 * n) → l.foldl putB (tabB n P) = tabB n fun y => P y || decide (y ∈ l)
 | [], P, _ => by simp
 | p :: l, P, h => by
  rw [List.foldl_cons, put_tab (h p (List.mem_cons_self ..)), fold_tab n l _ fun q hq => h q (List.mem_cons_of_mem _ hq)]
  congr 1
  funext y
  by_cases h1 : y = p <;> simp [h1]
theorem fold_zero (n : Nat) (l : List Nat) (h : ∀ p ∈ l, p < 8 * n) : l.foldl putB (List.replicate n 0) = tabB n fun y => decide (y ∈ l) := by
 rw [tabB_zero, fold_tab n l _ h]
 simp
def txB (n : Nat) (P : Nat → Bool) : B := (List.range n).map fun k => UInt8.ofNat (byN (fun j => P (8 * k + j)) 8)
theorem txB_len (n : Nat) (P : Nat → Bool) : (txB n P).length = n := by simp [txB]
theorem txB_get {n : Nat} {P : Nat → Bool} {k : Nat} (hk : k < n) : (txB n P)[k]? = some (UInt8.ofNat (byN (fun j => P (8 * k + j)) 8)) := by
 simp [txB, hk]
theorem str_tab (n : Nat) (P : Nat → Bool) : Go.strOfNums (tabB n P) = mk (txB n P) := by
 unfold Go.strOfNums tabB txB
 rw [List.map_map]
 rfl
theorem txB_congr {n : Nat} {P P' : Nat → Bool} (h : ∀ i < 8 * n, P i = P' i) : txB n P = txB n P' := by
 unfold txB
 apply List.map_congr_left
 intro k hk
 rw [List.mem_range] at hk
 rw [byN_congr fun j hj => h (8 * k + j) (by omega)]
def bitT (t : B) (i : Nat) : Bool := (t.getD (i / 8) 0).toNat.testBit (i % 8)
theorem bitT_tx {n : Nat} {P : Nat → Bool} {i : Nat} (hi : i < 8 * n) : bitT (txB n P) i = P i := by
 unfold bitT
 rw [List.getD_eq_getElem?_getD, txB_get (k := i / 8) (by omega), Option.getD_some, UInt8.toNat_ofNat', Nat.mod_eq_of_lt (byN_lt _ 8), byN_test]
 rw [show 8 * (i / 8) + i % 8 = i by omega]
 have : i % 8 < 8 := by omega
 simp [this]
theorem tx_bits (t : B) : txB t.length (bitT t) = t := by
 apply List.ext_getElem?
 intro k
 by_cases hk : k < t.length
 ·rw [txB_get hk, List.getElem?_eq_getElem hk]
  congr 1
  have hb : t[k].toNat < 2 ^ 8 := t[k].toNat_lt
  have e : byN (fun j => bitT t (8 * k + j)) 8 = t[k].toNat := by
   rw [← byN_self t[k].toNat 8 hb]
   apply byN_congr
   intro j hj
   unfold bitT
   rw [show (8 * k + j) / 8 = k by omega, show (8 * k + j) % 8 = j by omega, List.getD_eq_getElem?_getD, List.getElem?_eq_getElem hk]
   rfl
  rw [e]
  exact UInt8.ofNat_toNat
 ·rw [List.getElem?_eq_none (by rw [txB_len]; omega), List.getElem?_eq_none (by omega)]
theorem bitT_ge {t : B} {i : Nat} (h : 8 * t.length ≤ i) : bitT t i = false := by
 unfold bitT
 rw [List.getD_eq_getElem?_getD, List.getElem?_eq_none (by omega)]
 simp
theorem t_eq {t t' : B} (hl : t.length = t'.length) (h : ∀ i < 8 * t.length, bitT t i = bitT t' i) : t = t' := by
 rw [← tx_bits t, ← tx_bits t', ← hl]
 exact txB_congr h
theorem bitS_mk (t : B) (i : Nat) : bitS (mk t) i = bitT t i := by
 unfold bitS bitT
 rw [get_mk, List.getD_eq_getElem?_getD]
 have hb : ((t[i / 8]?).getD 0).toNat < 256 := ((t[i / 8]?).getD 0).toNat_lt
 generalize ((t[i / 8]?).getD 0).toNat = a at hb
 rw [Nat.testBit_eq_decide_div_mod_eq]
 have e1 : ((a : Int) / 2 ^ (i % 8)) = ((a / 2 ^ (i % 8) : Nat) : Int) := by simp
 rw [e1]
 generalize hc : a / 2 ^ (i % 8) = c
 have hc2 : c < 256 := by rw [← hc]; exact Nat.lt_of_le_of_lt (Nat.div_le_self ..) hb
 have e2 : bits .and .u8 (c : Int) 1 = ((c % 2 : Nat) : Int) := by
  unfold bits
  show IntKind.wrap .u8 (((BitVec.ofInt 8 (c : Int) &&& BitVec.ofInt 8 1).toNat : Nat) : Int) = _
  rw [ofInt_nat, show ((1 : Int)) = ((1 : Nat) : Int) from rfl, ofInt_nat, BitVec.toNat_and, BitVec.toNat_ofNat, BitVec.toNat_ofNat, w8, Nat.mod_eq_of_lt (a := c) (by omega), Nat.mod_eq_of_lt (a := 1) (by omega), Nat.and_one_is_mod]
  omega
 rw [e2]
 congr 1
 apply propext
 omega
def onT (t : B) (k : Nat) : List Nat := (List.range k).filter (bitT t)
theorem onS_mk (t : B) (k : Nat) : onS (mk t) k = (onT t k).map Int.ofNat := by
 unfold onS onT
 rw [show bitS (mk t) = bitT t from funext (bitS_mk t)]
 rfl
theorem onT_mem {t : B} {k i : Nat} : i ∈ onT t k ↔ i < k ∧ bitT t i = true := by simp [onT]
theorem onT_sorted (t : B) (k : Nat) : (onT t k).Pairwise (· < ·) := List.Pairwise.filter _ List.pairwise_lt_range
theorem sorted_ext {α : Type} {lt : α → α → Prop} (irr : ∀ a, ¬ lt a a) (tr : ∀ a b c, lt a b → lt b c → lt a c) : ∀ {l l' : List α}, l.Pairwise lt → l'.Pairwise lt → (∀ x, x ∈ l ↔ x ∈ l') → l = l'
 | [], [], _, _, _ => rfl
 | [], b :: l', _, _, h => by have := (h b).2 (List.mem_cons_self ..); cases this
 | a :: l, [], _, _, h => by have := (h a).1 (List.mem_cons_self ..); cases this
 | a :: l, b :: l', h1, h2, h => by
  rw [List.pairwise_cons] at h1 h2
  have hab : a = b := by
   rcases List.mem_cons.1 ((h a).1 (List.mem_cons_self ..)) with e | e
   ·exact e
   ·rcases List.mem_cons.1 ((h b).2 (List.mem_cons_self ..)) with e' | e'
    ·exact e'.symm
    ·exact absurd (tr _ _ _ (h1.1 b e') (h2.1 a e)) (irr a)
  subst hab
  congr 1
  refine sorted_ext irr tr h1.2 h2.2 fun x => ⟨fun hx => ?_, fun hx => ?_⟩
  ·rcases List.mem_cons.1 ((h x).1 (List.mem_cons_of_mem _ hx)) with e | e
   ·subst e; exact absurd (h1.1 x hx) (irr x)
   ·exact e
  ·rcases List.mem_cons.1 ((h x).2 (List.mem_cons_of_mem _ hx)) with e | e
   ·subst e; exact absurd (h2.1 x hx) (irr x)
   ·exact e
theorem nat_ext {l l' : List Nat} (h1 : l.Pairwise (· < ·)) (h2 : l'.Pairwise (· < ·)) (h : ∀ x, x ∈ l ↔ x ∈ l') : l = l' := sorted_ext (fun a => Nat.lt_irrefl a) (fun _ _ _ => Nat.lt_trans) h1 h2 h
end
section
theorem pw_up : ∀ {n p : Int} {l : List Int}, l.Pairwise (· < ·) → (∀ x ∈ l, p < x ∧ x < n) → upB n p l = true
 | n, p, [], _, _ => rfl
 | n, p, x :: l, h1, h2 => by
  rw [List.pairwise_cons] at h1
  have hx := h2 x (List.mem_cons_self ..)
  unfold upB
  rw [decide_eq_true hx.1, decide_eq_true hx.2, pw_up h1.2 fun y hy => ⟨h1.1 y hy, (h2 y (List.mem_cons_of_mem _ hy)).2⟩]
  rfl
theorem right_iff {n : Int} {l : List Int} : rightB n l = true ↔ 0 ≤ n ∧ n ≤ 2048 ∧ l.Pairwise (· < ·) ∧ ∀ x ∈ l, 0 ≤ x ∧ x < n := by
 unfold rightB
 simp only [Bool.and_eq_true, decide_eq_true_eq]
 constructor
 ·rintro ⟨h1, h2, h3⟩
  have := up_pw h3
  exact ⟨h1, h2, this.1, fun x hx => by have := this.2 x hx; omega⟩
 ·rintro ⟨h1, h2, h3, h4⟩
  exact ⟨h1, h2, pw_up h3 fun x hx => by have := h4 x hx; omega⟩
theorem ofNat_pw {l : List Nat} (h : l.Pairwise (· < ·)) : (l.map Int.ofNat).Pairwise (· < ·) := List.pairwise_map.2 (List.Pairwise.imp (R := fun a b : Nat => a < b) (fun {a b} (hab : a < b) => show (a : Int) < (b : Int) by omega) h)
theorem right_on (t : B) {n : Nat} (hn : n ≤ 2048) : rightB n ((onT t n).map Int.ofNat) = true := right_iff.2 ⟨by omega, by omega, ofNat_pw (onT_sorted t n), fun x hx => by
 obtain ⟨y, hy, rfl⟩ := List.mem_map.1 hx
 have := (onT_mem.1 hy).1
 exact ⟨Int.natCast_nonneg y, show (y : Int) < (n : Int) by omega⟩⟩
theorem right_nat {n : Int} {l : List Int} (h : rightB n l = true) : ∃ (m : Nat) (k : List Nat), n = m ∧ l = k.map Int.ofNat ∧ m ≤ 2048 ∧ k.Pairwise (· < ·) ∧ ∀ x ∈ k, x < m := by
 obtain ⟨h1, h2, h3, h4⟩ := right_iff.1 h
 refine ⟨n.toNat, l.map Int.toNat, by omega, ?_, by omega, ?_, ?_⟩
 ·rw [List.map_map]
  conv => lhs; rw [← List.map_id l]
  apply List.map_congr_left
  intro x hx
  have := (h4 x hx).1
  show x = ((x.toNat : Nat) : Int)
  omega
 ·rw [List.pairwise_map]
  refine List.Pairwise.imp_of_mem ?_ h3
  intro a b ha hb hab
  have := h4 a ha
  have := h4 b hb
  show a.toNat < b.toNat
  omega
 ·intro x hx
  obtain ⟨y, hy, rfl⟩ := List.mem_map.1 hx
  have := h4 y hy
  omega
theorem bitT_get {t : B} {i : Nat} {b : UInt8} (h : t[i / 8]? = some b) : b.toNat.testBit (i % 8) = bitT t i := by
 unfold bitT
 rw [List.getD_eq_getElem?_getD, h]
 rfl
theorem wdiv {x : Nat} (hx : x ≤ 1000000000) : IntKind.wrap .i64 (Int.tdiv (x : Int) 8) = ((x / 8 : Nat) : Int) := by
 rw [show Int.tdiv (x : Int) 8 = ((x / 8 : Nat) : Int) from rfl]
 exact wr_id (by omega) (by omega)
theorem c131 (t : B) (n : Nat) (hn : n ≤ 1000000) (ht : n ≤ 8 * t.length) : E cx (Key.fn 131) [vs (mk t), vi n] [] = some (Out.ret (bA n ((onT t n).map Int.ofNat)), []) := by
 refine (E_unfold cx _ _ _).trans ?_
 show ((ofG [vs (mk t), .val (.int .i64 (.ofNat n))]).bind fun v => some (Out.ret v, ([] : Heap))) = _
 have hG : ofG [vs (mk t), .val (.int .i64 (.ofNat n))] = some (bA n ((onT t n).map Int.ofNat)) := by
  show (if n ≤ 8 * (mk t).size ∧ n ≤ 1000000 then some (AV.agg [vi n, .list 0 1 ((onS (mk t) n).map fun i => [vi i])]) else none) = _
  rw [if_pos ⟨ht, hn⟩, onS_mk]
 rw [hG]
 rfl
end
section
def len8 (n : Nat) : Nat := if n = 0 then 0 else n.log2 + 1
noncomputable def tbl8 : B := (List.range 256).map fun n => UInt8.ofNat (len8 n)
theorem f130' : ∀ x : Int, E cx (Key.fn 130) [vb x] [] = if 0 ≤ x then Option.bind (mk tbl8)[Int.toNat x]? fun b => some (Out.ret (vi (IntKind.wrap .i64 (b.toNat : Int))), []) else none := fun x => (f130 x).trans (by kernel_rfl)
theorem log2_lt8 {n : Nat} (h : n < 256) : n.log2 < 8 := by
 by_cases h0 : n = 0
 ·subst h0; decide
 ·exact (Nat.log2_lt h0).2 h
theorem c130 {n : Nat} (hn : n < 256) (h0 : n ≠ 0) : E cx (Key.fn 130) [vb n] [] = some (Out.ret (vi (n.log2 + 1 : Nat)), []) := by
 have hl := log2_lt8 hn
 have hb : tbl8[n]? = some (UInt8.ofNat (n.log2 + 1)) := by
  unfold tbl8
  rw [List.getElem?_map, List.getElem?_range hn]
  show some (UInt8.ofNat (len8 n)) = _
  unfold len8
  rw [if_neg h0]
 refine (f130' _).trans ((goY (by omega) _ _).trans ((goG (n := n) rfl hb _).trans ?_))
 rw [UInt8.toNat_ofNat', Nat.mod_eq_of_lt (show n.log2 + 1 < 2 ^ 8 by omega), wr_id (by omega) (by omega)]
theorem log2_top {n : Nat} (h0 : n ≠ 0) : n.testBit n.log2 = true ∧ ∀ j, n.log2 < j → n.testBit j = false := by
 have h1 := Nat.log2_self_le h0
 have h2 := Nat.lt_log2_self (n := n)
 constructor
 ·rw [Nat.testBit_eq_decide_div_mod_eq]
  have : n / 2 ^ n.log2 = 1 := by
   rw [Nat.pow_succ] at h2
   exact Nat.div_eq_of_lt_le (by omega) (by omega)
  rw [this]
  rfl
 ·intro j hj
  apply Nat.testBit_lt_two_pow
  exact Nat.lt_of_lt_of_le h2 (Nat.pow_le_pow_right (by omega) (by omega))
def topB (t : B) (b : UInt8) : Nat := 8 * (t.length - 1) + b.toNat.log2
theorem topB_bit {t : B} {b : UInt8} (hb : t[t.length - 1]? = some b) (h0 : b.toNat ≠ 0) : bitT t (topB t b) = true ∧ (∀ i, topB t b < i → bitT t i = false) ∧ topB t b < 8 * t.length := by
 have hl := log2_lt8 b.toNat_lt
 have hlt := (List.getElem?_eq_some_iff.1 hb).1
 obtain ⟨h1, h2⟩ := log2_top h0
 unfold topB
 refine ⟨?_, fun i hi => ?_, by omega⟩
 ·rw [← bitT_get (b := b) (by rw [show (8 * (t.length - 1) + b.toNat.log2) / 8 = t.length - 1 by omega]; exact hb), show (8 * (t.length - 1) + b.toNat.log2) % 8 = b.toNat.log2 by omega]
  exact h1
 ·by_cases h8 : 8 * t.length ≤ i
  ·exact bitT_ge h8
  ·rw [← bitT_get (b := b) (by rw [show i / 8 = t.length - 1 by omega]; exact hb)]
   exact h2 _ (by omega)
def RB (x : Option (Out × Heap)) (r : Int × List Int × Int) : Prop := ∃ a, x = some (Out.ret (.tuple [.agg [vi r.1, a], vi r.2.2]), []) ∧ a.list? 1 = some (ints r.2.1)
theorem RB_of {x : Option (Out × Heap)} {n e : Int} {l : List Int} (h : x = some (Out.ret (.tuple [bA n l, vi e]), [])) : RB x (n, l, e) := ⟨_, h, rfl⟩
theorem RB_nil {x : Option (Out × Heap)} {e : Int} (h : x = some (Out.ret (.tuple [.agg [vi 0, .val (.slice none 0 0)], vi e]), [])) : RB x (0, [], e) := ⟨_, h, rfl⟩
def unlO (t : B) (most : Int) : Int × List Int × Int := match t[t.length - 1]? with
 | none => (0, [], 2)
 | some b => bif decide (b.toNat = 0) then (0, [], 2) else bif decide ((topB t b : Int) > most) || decide ((topB t b : Int) > 2048) then (0, [], 4) else (topB t b, (onT t (topB t b)).map Int.ofNat, 0)
theorem sz_mk (t : B) : ((ByteArray.size (mk t) : Nat) : Int) = (t.length : Int) := rfl
theorem c73 (t : B) (ht : t.length ≤ 100000) (most : Int) : RB (E cx (Key.fn 73) [vs (mk t), vi most] []) (unlO t most) := by
 unfold unlO
 cases hb : t[t.length - 1]? with
 | none =>
  have h0 : t.length = 0 := by
   have := List.getElem?_eq_none_iff.1 hb
   omega
  refine RB_nil ((f73 _ _).trans ?_)
  rw [sz_mk, h0]
  exact goD (show IntKind.wrap .i64 (Int.sub ((0 : Nat) : Int) 1) < 0 by decide) _ _
 | some b =>
  simp only
  have hlt := (List.getElem?_eq_some_iff.1 hb).1
  have hw : IntKind.wrap .i64 (Int.sub (t.length : Int) 1) = ((t.length - 1 : Nat) : Int) := (wr_sub (b := 1) (by omega) (by omega)).trans (by omega)
  have hl := log2_lt8 b.toNat_lt
  by_cases h0 : b.toNat = 0
  ·rw [decide_eq_true h0]
   refine RB_nil ((f73 _ _).trans ?_)
   rw [sz_mk, hw]
   exact (goDn (by omega) _ _).trans ((goY (by omega) _ _).trans ((goG (n := t.length - 1) rfl hb _).trans (goD (by omega) _ _)))
  ·rw [decide_eq_false h0, cond_false]
   have hw2 : IntKind.wrap .i64 (Int.sub (IntKind.wrap .i64 (Int.add (IntKind.wrap .i64 (Int.mul ((t.length - 1 : Nat) : Int) 8)) ((b.toNat.log2 + 1 : Nat) : Int))) 1) = (topB t b : Int) := by
    rw [wr_mul (a := ((t.length - 1 : Nat) : Int)) (b := 8) (by omega) (by omega), wr_add (a := ((t.length - 1 : Nat) : Int) * 8) (by omega) (by omega)]
    exact (wr_sub (b := 1) (by omega) (by omega)).trans (by unfold topB; omega)
   have go : ∀ {R}, (bif decide ((topB t b : Int) > most) then q73_1 else bif decide ((topB t b : Int) > 2048) then q73_1 else
     Option.bind (E cx (Key.fn 131) [vs (mk t), vi (topB t b)] []) fun r => Option.bind (ret1 r) fun v => Option.bind (AV.cells? v) fun cs => Option.bind (uncons? cs) fun p => Option.bind (AV.int? .i64 p.fst) fun n => Option.bind (uncons? p.snd) fun p => Option.bind (AV.list? 1 p.fst) fun es => Option.bind (nil? p.snd) fun _ =>
      some (Out.ret (.tuple [.agg [vi n, .list 0 1 es], vi 0]), [])) = R → E cx (Key.fn 73) [vs (mk t), vi most] [] = R := fun {R} h => by
    refine (f73 _ _).trans ?_
    rw [sz_mk, hw]
    refine (goDn (by omega) _ _).trans ((goY (by omega) _ _).trans ((goG (n := t.length - 1) rfl hb _).trans ((goDn (by omega) _ _).trans ((goY (by omega) _ _).trans ((goG (n := t.length - 1) rfl hb _).trans ((goI (c130 b.toNat_lt h0) _).trans ?_))))))
    rw [hw2]
    exact h
   by_cases h1 : (topB t b : Int) > most
   ·rw [decide_eq_true h1]
    exact RB_nil (go (goD h1 _ _))
   ·by_cases h2 : (topB t b : Int) > 2048
    ·rw [decide_eq_true h2, Bool.or_true]
     exact RB_nil (go ((goDn h1 _ _).trans (goD h2 _ _)))
    ·rw [decide_eq_false h1, decide_eq_false h2]
     have h3 := (topB_bit hb h0).2.2
     exact RB_of (go ((goDn h1 _ _).trans ((goDn h2 _ _).trans ((congrArg (fun o => Option.bind o _) (c131 t (topB t b) (by omega) (by omega))).trans rfl))))
end
section
def lstB (c : Nat) (l : List Nat) : B := txB (c / 8 + 1) fun y => decide (y = c) || decide (y ∈ l)
def lstO (n : Int) (l : List Int) : B × Int := bif rightB n l then (lstB n.toNat (l.map Int.toNat), 0) else ([], 1)
theorem toNat_ofNat (k : List Nat) : (k.map Int.ofNat).map Int.toNat = k := by
 rw [List.map_map]
 conv => rhs; rw [← List.map_id k]
 exact List.map_congr_left fun x _ => Int.toNat_natCast x
end
section
theorem raw_right {N : Int} (h0 : 0 ≤ N) (h1 : N ≤ 2048) (raw : List Int) : rightB N (rawL N raw) = true := right_iff.2 ⟨h0, h1, rawL_sorted N raw, fun _ hx => rawL_lt hx⟩
theorem nodup_len {α : Type} [DecidableEq α] : ∀ {l k : List α}, l.Nodup → (∀ x ∈ l, x ∈ k) → l.length ≤ k.length
 | [], k, _, _ => Nat.zero_le _
 | a :: l, k, h, hs => by
  rw [List.nodup_cons] at h
  have ha := hs a (List.mem_cons_self ..)
  have := nodup_len (l := l) (k := k.erase a) h.2 fun x hx => (List.mem_erase_of_ne (fun e => by subst e; exact h.1 hx)).2 (hs x (List.mem_cons_of_mem _ hx))
  rw [List.length_erase_of_mem ha] at this
  have hpos : 0 < k.length := List.length_pos_of_mem ha
  simp only [List.length_cons]
  omega
theorem raw_len (N : Int) (raw : List Int) : (rawL N raw).length ≤ 40 := by
 by_cases hN : 0 < N
 ·have h : (rawL N raw).length ≤ ((raw.take 40).map fun r => pickI r N).length := nodup_len ((rawL_sorted N raw).imp fun h => by omega) fun x hx => by
   obtain ⟨r, h1, h2⟩ := (rawL_mem hN).1 hx
   exact List.mem_map.2 ⟨r, h1, h2⟩
  rw [List.length_map, List.length_take] at h
  omega
 ·unfold rawL
  rw [show N.toNat = 0 by omega]
  exact Nat.zero_le _
theorem lst_len (c : Nat) (k : List Nat) : (lstB c k).length = c / 8 + 1 := txB_len ..
theorem lst_bit {c : Nat} {k : List Nat} (i : Nat) (hk : ∀ x ∈ k, x < c) : bitT (lstB c k) i = (decide (i = c) || decide (i ∈ k)) := by
 by_cases hi : i < 8 * (c / 8 + 1)
 ·exact bitT_tx hi
 ·rw [bitT_ge (by rw [lst_len]; omega)]
  have h1 : ¬ i = c := by omega
  have h2 : ¬ i ∈ k := fun h => by have := hk i h; omega
  simp [h1, h2]
theorem lst_last {c : Nat} {k : List Nat} (hk : ∀ x ∈ k, x < c) : ∃ b, (lstB c k)[(lstB c k).length - 1]? = some b ∧ b.toNat ≠ 0 ∧ topB (lstB c k) b = c := by
 have hl := lst_len c k
 obtain ⟨b, hb⟩ : ∃ b, (lstB c k)[(lstB c k).length - 1]? = some b := ⟨(lstB c k)[(lstB c k).length - 1]'(by omega), List.getElem?_eq_getElem (by omega)⟩
 have hc : bitT (lstB c k) c = true := by rw [lst_bit c hk]; simp
 have h0 : b.toNat ≠ 0 := fun h => by
  rw [← bitT_get (b := b) (by rw [show c / 8 = (lstB c k).length - 1 by omega]; exact hb), h] at hc
  simp at hc
 refine ⟨b, hb, h0, ?_⟩
 obtain ⟨t1, t2, _⟩ := topB_bit hb h0
 rcases Nat.lt_trichotomy (topB (lstB c k) b) c with h | h | h
 ·rw [t2 c h] at hc; cases hc
 ·exact h
 ·rw [lst_bit _ hk] at t1
  have h1 : ¬ topB (lstB c k) b = c := by omega
  have h2 : ¬ topB (lstB c k) b ∈ k := fun h => by have := hk _ h; omega
  simp [h1, h2] at t1
theorem onT_lst {c : Nat} {k : List Nat} (hs : k.Pairwise (· < ·)) (hk : ∀ x ∈ k, x < c) : onT (lstB c k) c = k := nat_ext (onT_sorted _ _) hs fun x => by
 rw [onT_mem, lst_bit x hk]
 constructor
 ·rintro ⟨h1, h2⟩
  have : ¬ x = c := by omega
  simpa [this] using h2
 ·intro h
  exact ⟨hk x h, by simp [h]⟩
theorem unl_lst {c : Nat} {k : List Nat} (hc : c ≤ 2048) (hs : k.Pairwise (· < ·)) (hk : ∀ x ∈ k, x < c) {most : Int} (hm : (c : Int) ≤ most) : unlO (lstB c k) most = (↑c, k.map Int.ofNat, 0) := by
 obtain ⟨b, h1, h2, h3⟩ := lst_last hk
 unfold unlO
 rw [h1]
 show (bif decide (b.toNat = 0) then _ else _) = _
 rw [decide_eq_false h2, h3, decide_eq_false (show ¬ ((c : Int) > most) by omega), decide_eq_false (show ¬ ((c : Int) > 2048) by omega), onT_lst hs hk]
 rfl
theorem ofNat_inj {k k' : List Nat} (h : k.map Int.ofNat = k'.map Int.ofNat) : k = k' := by
 rw [← toNat_ofNat k, h, toNat_ofNat]
theorem unl_ok {t : B} {most : Int} (h : (unlO t most).2.2 = 0) : lstO (unlO t most).1 (unlO t most).2.1 = (t, 0) ∧ (unlO t most).1 ≤ most ∧ rightB (unlO t most).1 (unlO t most).2.1 = true := by
 unfold unlO at h ⊢
 cases hb : t[t.length - 1]? with
 | none => rw [hb] at h; cases h
 | some b =>
  rw [hb] at h
  simp only at h ⊢
  by_cases h0 : b.toNat = 0
  ·rw [decide_eq_true h0] at h; cases h
  ·rw [decide_eq_false h0, cond_false] at h ⊢
   by_cases h1 : (topB t b : Int) > most
   ·rw [decide_eq_true h1] at h; cases h
   ·by_cases h2 : (topB t b : Int) > 2048
    ·rw [decide_eq_true h2, Bool.or_true] at h; cases h
    ·rw [decide_eq_false h1, decide_eq_false h2, Bool.or_false, cond_false]
     obtain ⟨t1, t2, t3⟩ := topB_bit hb h0
     have hr := right_on t (n := topB t b) (by omega)
     refine ⟨?_, by omega, hr⟩
     show lstO (topB t b : Int) ((onT t (topB t b)).map Int.ofNat) = _
     unfold lstO
     rw [hr, cond_true, toNat_ofNat, Int.toNat_natCast]
     have hk : ∀ x ∈ onT t (topB t b), x < topB t b := fun x hx => (onT_mem.1 hx).1
     have hl : t.length = topB t b / 8 + 1 := by
      have := log2_lt8 b.toNat_lt
      unfold topB
      omega
     congr 1
     refine t_eq (by rw [lst_len, hl]) fun i hi => ?_
     rw [lst_bit i hk]
     rcases Nat.lt_trichotomy i (topB t b) with h | h | h
     ·have hne : ¬ i = topB t b := by omega
      simp [hne, onT_mem, h]
     ·rw [h, t1]; simp
     ·have hne : ¬ i = topB t b := by omega
      have hnl : ¬ i < topB t b := by omega
      simp [hne, onT_mem, hnl, t2 i h]
theorem unl_err {t : B} {most : Int} (h : (unlO t most).2.2 ≠ 0) : (unlO t most).1 = 0 ∧ (unlO t most).2.1 = [] := by
 unfold unlO at h ⊢
 cases hb : t[t.length - 1]? with
 | none => exact ⟨rfl, rfl⟩
 | some b =>
  rw [hb] at h
  simp only at h ⊢
  cases h0 : decide (b.toNat = 0) with
  | true => exact ⟨rfl, rfl⟩
  | false =>
   rw [h0] at h
   rw [cond_false] at h ⊢
   cases hd : (decide ((topB t b : Int) > most) || decide ((topB t b : Int) > 2048)) with
   | true => exact ⟨rfl, rfl⟩
   | false => rw [hd] at h; exact absurd rfl h
theorem right_len {n : Int} {l : List Int} (h : rightB n l = true) : l.length ≤ 2048 := by
 obtain ⟨m, k, rfl, rfl, h1, h2, h3⟩ := right_nat h
 have := nodup_len (l := k) (k := List.range m) (h2.imp fun h => by omega) fun x hx => List.mem_range.2 (h3 x hx)
 rw [List.length_range] at this
 rw [List.length_map]
 omega
end
section
theorem c56 (n : Int) (l : List Int) (hl : l.length ≤ 4000000) : E cx (Key.fn 56) [bA n l] [] = RJ (lstO n l).1 (lstO n l).2 := by
 unfold lstO
 refine (f56 _ _).trans ((goB (c60 n l hl) _).trans ?_)
 cases h : rightB n l with
 | false => rfl
 | true =>
  obtain ⟨m, k, rfl, rfl, h1, h2, h3⟩ := right_nat h
  have hl := right_len h
  rw [List.length_map] at hl
  have hcl : (k.map Int.ofNat).length = k.length := List.length_map ..
  have e1 : Nat.add 0 (ints (k.map Int.ofNat)).length = k.length := by rw [ints_len, List.length_map]; exact Nat.zero_add _
  have e2 : ints (k.map Int.ofNat) ++ [[vi m]] = ints ((k ++ [m]).map Int.ofNat) := by simp [ints]
  have e3 : IntKind.wrap .i64 (Int.add (IntKind.wrap .i64 (Int.tdiv (m : Int) 8)) 1) = ((m / 8 + 1 : Nat) : Int) := by rw [wdiv (by omega), wS (by omega)]
  have hl2 : (k ++ [m]).length = k.length + 1 := by rw [List.length_append]; rfl
  rw [ysOk_ints, cond_true, cond_true, e1]
  refine (goY (show Nat.mul k.length 8 ≤ _ by show k.length * 8 ≤ _; omega) _ _).trans ?_
  have e4 : (Ob.mk OK.arr 3 1 1 ([] ++ ints (k.map Int.ofNat))).es = ints (k.map Int.ofNat) := rfl
  rw [e4, e2, e3]
  have e5 : (ints (k.map Int.ofNat)).length = k.length := by rw [ints_len, List.length_map]
  rw [e5]
  refine (goCk rfl _).trans ((goY (show Nat.mul (Nat.add k.length 1) 8 ≤ _ by show (k.length + 1) * 8 ≤ _; omega) _ _).trans ?_)
  have e6 : Nat.add 0 (Nat.add k.length 1) = (ints ((k ++ [m]).map Int.ofNat)).length := by rw [ints_len, List.length_map, hl2]; exact Nat.zero_add _
  rw [e6]
  refine (goLe (Nat.le_refl _) _).trans ?_
  rw [List.take_length, List.drop_zero]
  refine (congrArg (fun o => Option.bind o _) (c118 (k ++ [m]) (by rw [hl2]; omega) (m / 8 + 1) (by omega) (fun p hp => ?_))).trans ?_
  ·rcases List.mem_append.1 hp with hp | hp
   ·have := h3 p hp; omega
   ·simp at hp; omega
  ·show (Option.bind (numsOf (bys _)) fun ns => some (Out.ret (.tuple [vs (Go.strOfNums ns), vi 0]), ([] : Heap))) = _
   rw [numsOf_bys, fold_zero (m / 8 + 1) (k ++ [m]) (fun p hp => by
    rcases List.mem_append.1 hp with hp | hp
    ·have := h3 p hp; omega
    ·simp at hp; omega), Option.bind_some, str_tab, toNat_ofNat, Int.toNat_natCast]
   have : (fun y => decide (y ∈ k ++ [m])) = fun y => decide (y = m) || decide (y ∈ k) := by
    funext y
    by_cases h : y = m <;> simp [h]
   unfold lstB
   rw [this]
   rfl
end
section
abbrev bN (n : Int) : AV := .agg [vi n, .val (.slice none 0 0)]
theorem n56 (n : Int) : E cx (Key.fn 56) [bN n] [] = E cx (Key.fn 56) [bA n []] [] := E_norm (by kernel_rfl) (by kernel_rfl)
end
end
section
section
def inU (l : List P2) : Prop := ∀ p ∈ l, p.1 < 18446744073709551616 ∧ p.2 < 18446744073709551616
theorem take_put (w : Nat) (r : B) : (put w 8 ++ r).take 8 = put w 8 := by
 rw [List.take_append_of_le_length (by rw [put_len]; omega), List.take_of_length_le (by rw [put_len]; omega)]
theorem drop_put (w : Nat) (r : B) : (put w 8 ++ r).drop 8 = r := by
 rw [List.drop_append_of_le_length (by rw [put_len]; omega), List.drop_of_length_le (by rw [put_len]; omega)]
 rfl
theorem val_put8 {w : Nat} (h : w < 18446744073709551616) : val (put w 8) = w := by
 rw [val_put]
 exact Nat.mod_eq_of_lt h
theorem db_ebs : ∀ (l : List P2), inU l → db l.length (ebs l) = l
 | [], _ => rfl
 | p :: l, h => by
  have h1 := h p (List.mem_cons_self ..)
  rw [ebs_cons]
  show (val ((eb p ++ ebs l).take 8), val (((eb p ++ ebs l).drop 8).take 8)) :: db l.length ((eb p ++ ebs l).drop 16) = _
  have e : eb p ++ ebs l = put p.1 8 ++ (put p.2 8 ++ ebs l) := by simp [eb]
  have e16 : (eb p ++ ebs l).drop 16 = ebs l := by
   rw [List.drop_append_of_le_length (by rw [eb_len]; omega), List.drop_of_length_le (by rw [eb_len]; omega)]
   rfl
  rw [e16, e, take_put, drop_put, take_put, val_put8 h1.1, val_put8 h1.2, db_ebs l fun q hq => h q (List.mem_cons_of_mem _ hq)]
theorem decR_enc (f : Bool) (l : List P2) (hr : rightT l = true) (hu : inU l) : decR (encB f l) = (f, l, 0) := by
 have hl := rightT_len hr
 have hs : srtB l = true := by
  unfold rightT at hr
  simp only [Bool.and_eq_true] at hr
  exact hr.2
 have h16 : (ebs l).length % 16 = 0 := by rw [ebs_len]; omega
 have h17 : (ebs l).length / 16 = l.length := by rw [ebs_len]; omega
 show decR (fB f :: ebs l) = _
 rw [decR_cons, if_pos h16, h17, db_ebs l hu]
 have hb : ¬ (fB f).toNat > 1 := by cases f <;> decide
 have hd : decide ((fB f).toNat = 1) = f := by cases f <;> rfl
 rw [if_neg hb, hd]
 unfold decP2
 rw [hs, if_pos rfl, if_neg (by omega)]
theorem encR_ok {f : Bool} {l : List P2} (h : rightT l = true) : encR f l = (encB f l, 0) := by
 unfold encR
 rw [h, if_pos rfl]
end
section
theorem pairOf_lt (a : Int) : (pairOf a).1 < 12 ∧ (pairOf a).2 < 3 := by
 have h1 := pickI_lt (c := a) (n := 12) (by omega)
 have h2 := pickI_lt (c := Int.tdiv a 16) (n := 3) (by omega)
 unfold pairOf
 constructor
 ·show (pickI a 12).toNat < 12
  omega
 ·show (pickI (Int.tdiv a 16) 3).toNat < 3
  omega
theorem insR_mem {p q : P2} {l : List P2} (h : q ∈ insR p l) : q = p ∨ q ∈ l := by
 unfold insR at h
 rcases List.mem_append.1 h with h | h
 ·exact .inr (List.mem_of_mem_take h)
 ·rcases List.mem_cons.1 h with h | h
  ·exact .inl h
  ·exact .inr (List.mem_of_mem_drop h)
theorem tokL_all (P : P2 → Prop) (hP : ∀ a, P (pairOf a)) : ∀ (r : List Int) (o : List P2), (∀ q ∈ o, P q) → ∀ q ∈ tokL r o, P q
 | [], o, h => h
 | a :: r, o, h => tokL_all P hP r _ fun q hq => by
  rcases insR_mem hq with rfl | hq
  ·exact hP a
  ·exact h q hq
theorem tokP_inU (raw : List Int) : inU (tokP raw) :=
 tokL_all (fun q => q.1 < 18446744073709551616 ∧ q.2 < 18446744073709551616) (fun a => ⟨by have := pairOf_lt a; omega, by have := pairOf_lt a; omega⟩) _ [] (by simp)
theorem ebs_db : ∀ (d : Nat) (l : B), l.length = 16 * d → ebs (db d l) = l
 | 0, l, h => by
  obtain rfl : l = [] := List.length_eq_zero_iff.1 (by omega)
  rfl
 | d + 1, l, h => by
  show ebs ((val (l.take 8), val ((l.drop 8).take 8)) :: db d (l.drop 16)) = _
  rw [ebs_cons, ebs_db d (l.drop 16) (by rw [List.length_drop]; omega)]
  show put (val (l.take 8)) 8 ++ put (val ((l.drop 8).take 8)) 8 ++ l.drop 16 = l
  have h1 : (l.take 8).length = 8 := by rw [List.length_take]; omega
  have h2 : ((l.drop 8).take 8).length = 8 := by rw [List.length_take, List.length_drop]; omega
  have e1 := put_val (l.take 8)
  rw [h1] at e1
  have e2 := put_val ((l.drop 8).take 8)
  rw [h2] at e2
  rw [e1, e2, List.append_assoc]
  have e3 : l.drop 16 = (l.drop 8).drop 8 := by rw [List.drop_drop]
  rw [e3, List.take_append_drop, List.take_append_drop]
theorem decR_right {l : B} {f : Bool} {q : List P2} (h : decR l = (f, q, 0)) : rightT q = true ∧ encB f q = l := by
 cases l with
 | nil => cases h
 | cons b r =>
  rw [decR_cons] at h
  by_cases h16 : r.length % 16 = 0
  ·rw [if_pos h16] at h
   by_cases hb : b.toNat > 1
   ·rw [if_pos hb] at h; cases h
   ·rw [if_neg hb] at h
    unfold decP2 at h
    by_cases hs : srtB (db (r.length / 16) r) = true
    ·rw [if_pos hs] at h
     by_cases hl : (db (r.length / 16) r).length > 2048
     ·rw [if_pos hl] at h; cases h
     ·rw [if_neg hl] at h
      cases h
      constructor
      ·unfold rightT
       rw [hs, decide_eq_true (by omega)]
       rfl
      ·unfold encB
       rw [ebs_db _ _ (by omega)]
       congr 1
       have hb' := b.toNat_lt
       rcases Nat.lt_or_ge b.toNat 1 with h0 | h1
       ·have : b = 0 := UInt8.toNat.inj (by show b.toNat = 0; omega)
        subst this
        rfl
       ·have : b = 1 := UInt8.toNat.inj (by show b.toNat = 1; omega)
        subst this
        rfl
    ·rw [if_neg hs] at h; cases h
  ·rw [if_neg h16] at h; cases h
theorem encB_len (f : Bool) (l : List P2) : (encB f l).length = 1 + 16 * l.length := by
 show (ebs l).length + 1 = _
 rw [ebs_len]
 omega
end
end
end Go.Proofs.Av
