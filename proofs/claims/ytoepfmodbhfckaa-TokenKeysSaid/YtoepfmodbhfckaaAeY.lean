/- Trees: tokens. -/
import Derived.Test.YtoepfmodbhfckaaAeX
set_option maxRecDepth 100000
namespace Go.Proofs.Av
open Go
theorem f37 : ∀ (raw0 : List (List AV)) (forged1 : Bool),
 E cx (Key.fn 37) [AV.list 0 1 raw0, vbool forged1] [] =
 Option.bind
 (E cx (Key.loop 37 [true, true, false, true, false])
 [vi 0, AV.list 0 1 raw0, AV.ptr 0 0 0 0, AV.ptr 1 0 0 0]
 [Ob.mk OK.box 36 2 0 [[vbool false, AV.val (Value.slice none 0 0)]],
 Ob.mk OK.box 36 2 0 [[vbool forged1, AV.arr 2 2 0 0]],
 Ob.mk OK.arr 80 2 2 []])
 fun r2 ↦
 Option.bind (asJump r2) fun j3 ↦
 bif JX.is j3.fst (JX.exit 0) then
 Option.bind (uncons? j3.snd.fst) fun p4 ↦
 Option.bind (AV.int? IntKind.i64 p4.fst) fun _ ↦
 Option.bind (nil? p4.snd) fun _ ↦
 Option.bind (uncons? j3.snd.snd) fun p7 ↦
 Option.bind
 (obIs
 (Ob.mk OK.box 36 2 0 [[vbool false, AV.val (Value.slice none 0 0)]]) p7.fst)
 fun _ ↦
 Option.bind (chk p7.fst.ver 0) fun _ ↦
 Option.bind (uncons? p7.fst.es) fun p10 ↦
 Option.bind (nil? p10.snd) fun _ ↦
 Option.bind (uncons? p10.fst) fun p12 ↦
 Option.bind (AV.bool? p12.fst) fun _ ↦
 Option.bind (uncons? p12.snd) fun p14 ↦
 Option.bind (AV.nilS? p14.fst) fun _ ↦
 Option.bind (nil? p14.snd) fun _ ↦
 Option.bind (uncons? p7.snd) fun p17 ↦
 Option.bind
 (obIs
 (Ob.mk OK.box 36 2 0 [[vbool forged1, AV.arr 2 2 0 0]]) p17.fst)
 fun _ ↦
 Option.bind (chk p17.fst.ver 0) fun _ ↦
 Option.bind (uncons? p17.fst.es) fun p20 ↦
 Option.bind (nil? p20.snd) fun _ ↦
 Option.bind (uncons? p20.fst) fun p22 ↦
 Option.bind (AV.bool? p22.fst) fun b23 ↦
 Option.bind (uncons? p22.snd) fun p24 ↦
 Option.bind (AV.arr? 2 p24.fst) fun x25 ↦
 Option.bind (chk x25.fst 2) fun _ ↦
 Option.bind (nil? p24.snd) fun _ ↦
 Option.bind (uncons? p17.snd) fun p28 ↦
 Option.bind (obIs (Ob.mk OK.arr 80 2 2 []) p28.fst) fun _ ↦
 Option.bind (chk p28.fst.ver 2) fun _ ↦
 Option.bind (nil? p28.snd) fun _ ↦
 Option.bind (chkLe (Nat.add x25.snd.fst x25.snd.snd) (List.length p28.fst.es))
 fun _ ↦
 some
 (Out.ret
 (AV.agg
 [vbool b23,
 AV.list 0 2
 (List.drop x25.snd.fst
 (List.take (Nat.add x25.snd.fst x25.snd.snd) p28.fst.es))]),
 [])
 else none := by
  intros
  exact (E_in [188] _ _ _).trans (by kernel_rfl)


theorem f37_l0 : ∀ (x33 : Int) (l34 : List (List AV)) (b35 b36 : Bool) (n37 : Nat) (l38 : List (List AV)),
 E cx (Key.loop 37 [true, true, false, true, false])
 [vi x33, AV.list 0 1 l34, AV.ptr 0 0 0 0, AV.ptr 1 0 0 0]
 [Ob.mk OK.box 36 2 0 [[vbool b35, AV.val (Value.slice none 0 0)]],
 Ob.mk OK.box 36 2 0 [[vbool b36, AV.arr 2 2 0 n37]],
 Ob.mk OK.arr 80 2 2 l38] =
 bif decide (x33 < ((List.length l34) : Int)) then
 bif decide (x33 < 30) then
 if 0 ≤ x33 then
 Option.bind l34[Int.toNat x33]? fun cs39 ↦
 Option.bind (uncons? cs39) fun p40 ↦
 Option.bind (AV.int? IntKind.i64 p40.fst) fun n41 ↦
 Option.bind (nil? p40.snd) fun _ ↦
 Option.bind (E cx (Key.fn 48) [vi n41, vi 12] []) fun r43 ↦
 Option.bind (ret1 r43) fun v44 ↦
 Option.bind (AV.int? IntKind.i64 v44) fun n45 ↦
 if 0 ≤ x33 then
 Option.bind l34[Int.toNat x33]? fun cs46 ↦
 Option.bind (uncons? cs46) fun p47 ↦
 Option.bind (AV.int? IntKind.i64 p47.fst) fun n48 ↦
 Option.bind (nil? p47.snd) fun _ ↦
 Option.bind
 (E cx (Key.fn 48)
 [vi (IntKind.wrap IntKind.i64 (Int.tdiv n48 16)), vi 3] [])
 fun r50 ↦
 Option.bind (ret1 r50) fun v51 ↦
 Option.bind (AV.int? IntKind.i64 v51) fun n52 ↦
 Option.bind
 (E cx
 (Key.loop 37 [true, true, false, true, false, false, true, false, false, true, true, false, false])
 [vi (n37 : Int), AV.list 0 1 l34, AV.ptr 0 0 0 0, AV.ptr 1 0 0 0,
 vi x33, AV.ptr 3 0 0 0]
 [Ob.mk OK.box 36 2 0
 [[vbool b35, AV.val (Value.slice none 0 0)]],
 Ob.mk OK.box 36 2 0 [[vbool b36, AV.arr 2 2 0 n37]],
 Ob.mk OK.arr 80 2 2 l38,
 Ob.mk OK.box 80 2 0
 [[vu (IntKind.wrap IntKind.u64 n45), vu (IntKind.wrap IntKind.u64 n52)]]])
 fun r53 ↦
 Option.bind (asJump r53) fun j54 ↦
 bif JX.is j54.fst (JX.exit 2) then
 Option.bind (uncons? j54.snd.fst) fun p55 ↦
 Option.bind (AV.int? IntKind.i64 p55.fst) fun n56 ↦
 Option.bind (nil? p55.snd) fun _ ↦
 Option.bind (uncons? j54.snd.snd) fun p58 ↦
 Option.bind
 (obIs
 (Ob.mk OK.box 36 2 0
 [[vbool b35, AV.val (Value.slice none 0 0)]])
 p58.fst)
 fun _ ↦
 Option.bind (chk p58.fst.ver 0) fun _ ↦
 Option.bind (uncons? p58.fst.es) fun p61 ↦
 Option.bind (nil? p61.snd) fun _ ↦
 Option.bind (uncons? p61.fst) fun p63 ↦
 Option.bind (AV.bool? p63.fst) fun b64 ↦
 Option.bind (uncons? p63.snd) fun p65 ↦
 Option.bind (AV.nilS? p65.fst) fun _ ↦
 Option.bind (nil? p65.snd) fun _ ↦
 Option.bind (uncons? p58.snd) fun p68 ↦
 Option.bind
 (obIs
 (Ob.mk OK.box 36 2 0
 [[vbool b36, AV.arr 2 2 0 n37]])
 p68.fst)
 fun _ ↦
 Option.bind (chk p68.fst.ver 0) fun _ ↦
 Option.bind (uncons? p68.fst.es) fun p71 ↦
 Option.bind (nil? p71.snd) fun _ ↦
 Option.bind (uncons? p71.fst) fun p73 ↦
 Option.bind (AV.bool? p73.fst) fun b74 ↦
 Option.bind (uncons? p73.snd) fun p75 ↦
 Option.bind (AV.arr? 2 p75.fst) fun x76 ↦
 Option.bind (chk x76.fst 2) fun _ ↦
 Option.bind (nil? p75.snd) fun _ ↦
 Option.bind (uncons? p68.snd) fun p79 ↦
 Option.bind
 (obIs
 (Ob.mk OK.arr 80 2 2 l38) p79.fst)
 fun _ ↦
 Option.bind (chk p79.fst.ver 2) fun _ ↦
 Option.bind (uncons? p79.snd) fun p82 ↦
 Option.bind
 (obIs
 (Ob.mk OK.box 80 2 0
 [[vu
 (IntKind.wrap IntKind.u64 n45),
 vu
 (IntKind.wrap IntKind.u64 n52)]])
 p82.fst)
 fun _ ↦
 Option.bind (chk p82.fst.ver 0) fun _ ↦
 Option.bind (uncons? p82.fst.es)
 fun p85 ↦
 Option.bind (nil? p85.snd) fun _ ↦
 Option.bind (uncons? p85.fst)
 fun p87 ↦
 Option.bind
 (AV.int? IntKind.u64 p87.fst)
 fun n88 ↦
 Option.bind (uncons? p87.snd)
 fun p89 ↦
 Option.bind
 (AV.int? IntKind.u64
 p89.fst)
 fun n90 ↦
 Option.bind (nil? p89.snd)
 fun _ ↦
 Option.bind (nil? p82.snd)
 fun _ ↦
 if 0 ≤ n56 then
 if n56 ≤ (x76.snd.snd : Int) then
 Option.bind
 (chkLe
 (Nat.add
 (Nat.add x76.snd.fst 0)
 (Nat.sub (Int.toNat n56) 0))
 (List.length
 (Ob.mk
 OK.arr 80 2
 2 p79.fst.es).es))
 fun _ ↦
 bif
 ysOk
 (List.drop
 (Nat.add x76.snd.fst 0)
 (List.take
 (Nat.add
 (Nat.add x76.snd.fst
 0)
 (Nat.sub
 (Int.toNat n56)
 0))
 (Ob.mk
 OK.arr
 80 2 2
 p79.fst.es).es)) then
 if
 Nat.mul
 (Nat.add 0
 (List.length
 (List.drop
 (Nat.add
 x76.snd.fst 0)
 (List.take
 (Nat.add
 (Nat.add
 x76.snd.fst
 0)
 (Nat.sub
 (Int.toNat
 n56)
 0))
 (Ob.mk
 OK.arr
 80 2 2
 p79.fst.es).es))))
 16 ≤
 140737488355328 then
 Option.bind
 (chk
 (Nat.add 0
 (List.length
 (List.drop
 (Nat.add
 x76.snd.fst 0)
 (List.take
 (Nat.add
 (Nat.add
 x76.snd.fst
 0)
 (Nat.sub
 (Int.toNat
 n56)
 0))
 (Ob.mk
 OK.arr
 80 2 2
 p79.fst.es).es))))
 (List.length
 (Ob.mk
 OK.arr
 80 2 2
 ([] ++
 List.drop
 (Nat.add
 x76.snd.fst
 0)
 (List.take
 (Nat.add
 (Nat.add
 x76.snd.fst
 0)
 (Nat.sub
 (Int.toNat
 n56)
 0))
 (Ob.mk
 OK.arr
 80 2 2
 p79.fst.es).es))).es))
 fun _ ↦
 if
 Nat.mul
 (Nat.add
 (List.length
 (Ob.mk
 OK.arr
 80 2 2
 ([] ++
 List.drop
 (Nat.add
 x76.snd.fst
 0)
 (List.take
 (Nat.add
 (Nat.add
 x76.snd.fst
 0)
 (Nat.sub
 (Int.toNat
 n56)
 0))
 (Ob.mk
 OK.arr
 80
 2
 2
 p79.fst.es).es))).es)
 1)
 16 ≤
 140737488355328 then
 if 0 ≤ n56 then
 if
 n56 ≤
 (x76.snd.snd : Int) then
 Option.bind
 (chkLe
 (Nat.add
 (Nat.add
 x76.snd.fst
 (Int.toNat
 n56))
 (Nat.sub
 x76.snd.snd
 (Int.toNat
 n56)))
 (List.length
 (Ob.mk
 OK.arr
 80 2 2
 p79.fst.es).es))
 fun _ ↦
 bif
 ysOk
 (List.drop
 (Nat.add
 x76.snd.fst
 (Int.toNat
 n56))
 (List.take
 (Nat.add
 (Nat.add
 x76.snd.fst
 (Int.toNat
 n56))
 (Nat.sub
 x76.snd.snd
 (Int.toNat
 n56)))
 (Ob.mk
 OK.arr
 80 2
 2
 p79.fst.es).es)) then
 Option.bind
 (chk
 (Nat.add
 (List.length
 (Ob.mk
 OK.arr
 80 2
 2
 ([] ++
 List.drop
 (Nat.add
 x76.snd.fst
 0)
 (List.take
 (Nat.add
 (Nat.add
 x76.snd.fst
 0)
 (Nat.sub
 (Int.toNat
 n56)
 0))
 (Ob.mk
 OK.arr
 80
 2
 2
 p79.fst.es).es))).es)
 1)
 (List.length
 (Ob.mk
 OK.arr
 80 2 2
 ((Ob.mk
 OK.arr
 80
 2
 2
 ([] ++
 List.drop
 (Nat.add
 x76.snd.fst
 0)
 (List.take
 (Nat.add
 (Nat.add
 x76.snd.fst
 0)
 (Nat.sub
 (Int.toNat
 n56)
 0))
 (Ob.mk
 OK.arr
 80
 2
 2
 p79.fst.es).es))).es ++
 [[vu
 n88,
 vu
 n90]])).es))
 fun _ ↦
 if
 Nat.mul
 (Nat.add
 (List.length
 (Ob.mk
 OK.arr
 80
 2
 2
 ((Ob.mk
 OK.arr
 80
 2
 2
 ([] ++
 List.drop
 (Nat.add
 x76.snd.fst
 0)
 (List.take
 (Nat.add
 (Nat.add
 x76.snd.fst
 0)
 (Nat.sub
 (Int.toNat
 n56)
 0))
 (Ob.mk
 OK.arr
 80
 2
 2
 p79.fst.es).es))).es ++
 [[vu
 n88,
 vu
 n90]])).es)
 (List.length
 (List.drop
 (Nat.add
 x76.snd.fst
 (Int.toNat
 n56))
 (List.take
 (Nat.add
 (Nat.add
 x76.snd.fst
 (Int.toNat
 n56))
 (Nat.sub
 x76.snd.snd
 (Int.toNat
 n56)))
 (Ob.mk
 OK.arr
 80
 2
 2
 p79.fst.es).es))))
 16 ≤
 140737488355328 then
 E
 cx
 (Key.loop
 37
 [true,
 true,
 false,
 true,
 false])
 [vi
 (IntKind.wrap
 IntKind.i64
 (Int.add
 x33
 1)),
 AV.list
 0 1
 l34,
 AV.ptr
 0 0 0
 0,
 AV.ptr
 1 0 0
 0]
 [Ob.mk
 OK.box
 36 2 0
 [[vbool
 b64,
 AV.val
 (Value.slice
 none
 0
 0)]],
 Ob.mk
 OK.box
 36 2 0
 [[vbool
 b74,
 AV.arr
 2
 2
 0
 (Nat.add
 (List.length
 (Ob.mk
 OK.arr
 80
 2
 2
 ((Ob.mk
 OK.arr
 80
 2
 2
 ([] ++
 List.drop
 (Nat.add
 x76.snd.fst
 0)
 (List.take
 (Nat.add
 (Nat.add
 x76.snd.fst
 0)
 (Nat.sub
 (Int.toNat
 n56)
 0))
 (Ob.mk
 OK.arr
 80
 2
 2
 p79.fst.es).es))).es ++
 [[vu
 n88,
 vu
 n90]])).es)
 (List.length
 (List.drop
 (Nat.add
 x76.snd.fst
 (Int.toNat
 n56))
 (List.take
 (Nat.add
 (Nat.add
 x76.snd.fst
 (Int.toNat
 n56))
 (Nat.sub
 x76.snd.snd
 (Int.toNat
 n56)))
 (Ob.mk
 OK.arr
 80
 2
 2
 p79.fst.es).es))))]],
 Ob.mk
 OK.arr
 80 2 2
 ((Ob.mk
 OK.arr
 80
 2
 2
 ((Ob.mk
 OK.arr
 80
 2
 2
 ([] ++
 List.drop
 (Nat.add
 x76.snd.fst
 0)
 (List.take
 (Nat.add
 (Nat.add
 x76.snd.fst
 0)
 (Nat.sub
 (Int.toNat
 n56)
 0))
 (Ob.mk
 OK.arr
 80
 2
 2
 p79.fst.es).es))).es ++
 [[vu
 n88,
 vu
 n90]])).es ++
 List.drop
 (Nat.add
 x76.snd.fst
 (Int.toNat
 n56))
 (List.take
 (Nat.add
 (Nat.add
 x76.snd.fst
 (Int.toNat
 n56))
 (Nat.sub
 x76.snd.snd
 (Int.toNat
 n56)))
 (Ob.mk
 OK.arr
 80
 2
 2
 p79.fst.es).es))]
 else none
 else none
 else none
 else none
 else none
 else none
 else none
 else none
 else none
 else none
 else none
 else none
 else
 some
 (Out.jump (JX.exit 0) [vi x33],
 [Ob.mk OK.box 36 2 0 [[vbool b35, AV.val (Value.slice none 0 0)]],
 Ob.mk OK.box 36 2 0 [[vbool b36, AV.arr 2 2 0 n37]],
 Ob.mk OK.arr 80 2 2 l38])
 else
 some
 (Out.jump (JX.exit 0) [vi x33],
 [Ob.mk OK.box 36 2 0 [[vbool b35, AV.val (Value.slice none 0 0)]],
 Ob.mk OK.box 36 2 0 [[vbool b36, AV.arr 2 2 0 n37]],
 Ob.mk OK.arr 80 2 2 l38]) := by
  intros
  exact (E_in [188] _ _ _).trans (by kernel_rfl)


theorem f37_l0_l1 : ∀ (x97 : Int) (l98 : List (List AV)) (x99 : Int) (b100 b101 : Bool) (n102 : Nat) (l103 : List (List AV)) (x104 x105 : Int),
 E cx (Key.loop 37 [true, true, false, true, false, false, true, false, false, true, true, false, false])
 [vi x97, AV.list 0 1 l98, AV.ptr 0 0 0 0, AV.ptr 1 0 0 0, vi x99,
 AV.ptr 3 0 0 0]
 [Ob.mk OK.box 36 2 0 [[vbool b100, AV.val (Value.slice none 0 0)]],
 Ob.mk OK.box 36 2 0 [[vbool b101, AV.arr 2 2 0 n102]],
 Ob.mk OK.arr 80 2 2 l103, Ob.mk OK.box 80 2 0 [[vu x104, vu x105]]] =
 bif decide (x97 > 0) then
 if 0 ≤ IntKind.wrap IntKind.i64 (Int.sub x97 1) then
 if IntKind.wrap IntKind.i64 (Int.sub x97 1) < (n102 : Int) then
 Option.bind (nth l103 (Nat.add 0 (Int.toNat (IntKind.wrap IntKind.i64 (Int.sub x97 1))))) fun cs106 ↦
 Option.bind (uncons? cs106) fun p107 ↦
 Option.bind (AV.int? IntKind.u64 p107.fst) fun n108 ↦
 Option.bind (uncons? p107.snd) fun p109 ↦
 Option.bind (AV.int? IntKind.u64 p109.fst) fun n110 ↦
 Option.bind (nil? p109.snd) fun _ ↦
 Option.bind
 (E cx (Key.fn 105)
 [AV.agg [vu x104, vu x105], AV.agg [vu n108, vu n110]]
 [])
 fun r112 ↦
 Option.bind (ret1 r112) fun v113 ↦
 Option.bind (AV.bool? v113) fun b114 ↦
 bif b114 then
 E cx
 (Key.loop 37 [true, true, false, true, false, false, true, false, false, true, true, false, false])
 [vi (IntKind.wrap IntKind.i64 (Int.sub x97 1)), AV.list 0 1 l98, AV.ptr 0 0 0 0,
 AV.ptr 1 0 0 0, vi x99, AV.ptr 3 0 0 0]
 [Ob.mk OK.box 36 2 0 [[vbool b100, AV.val (Value.slice none 0 0)]],
 Ob.mk OK.box 36 2 0 [[vbool b101, AV.arr 2 2 0 n102]],
 Ob.mk OK.arr 80 2 2 l103,
 Ob.mk OK.box 80 2 0 [[vu x104, vu x105]]]
 else
 some
 (Out.jump (JX.exit 2) [vi x97],
 [Ob.mk OK.box 36 2 0 [[vbool b100, AV.val (Value.slice none 0 0)]],
 Ob.mk OK.box 36 2 0 [[vbool b101, AV.arr 2 2 0 n102]],
 Ob.mk OK.arr 80 2 2 l103,
 Ob.mk OK.box 80 2 0 [[vu x104, vu x105]]])
 else none
 else none
 else
 some
 (Out.jump (JX.exit 2) [vi x97],
 [Ob.mk OK.box 36 2 0 [[vbool b100, AV.val (Value.slice none 0 0)]],
 Ob.mk OK.box 36 2 0 [[vbool b101, AV.arr 2 2 0 n102]],
 Ob.mk OK.arr 80 2 2 l103, Ob.mk OK.box 80 2 0 [[vu x104, vu x105]]]) := by
  intros
  exact (E_in [188] _ _ _).trans (by kernel_rfl)


theorem f38 : ∀ (t115 : Bool) (t116 : List (List AV)),
 E cx (Key.fn 38) [AV.agg [vbool t115, AV.list 0 2 t116]] [] =
 Option.bind (E cx (Key.fn 40) [AV.agg [vbool t115, AV.list 0 2 t116]] [])
 fun r117 ↦
 Option.bind (ret1 r117) fun v118 ↦
 Option.bind (AV.bool? v118) fun b119 ↦
 bif b119 then
 bif t115 then
 Option.bind
 (E cx (Key.loop 38 [true, true, true, true, false, true, false])
 [AV.arr 1 1 0 1, vi 0, AV.list 0 2 t116, vi ((List.length t116) : Int)]
 [Ob.mk OK.box 36 2 0 [[vbool t115, AV.list 0 2 t116]],
 Ob.mk OK.arr 5 1 1 [[vb 1]]])
 fun r120 ↦
 Option.bind (asJump r120) fun j121 ↦
 bif JX.is j121.fst (JX.exit 0) then
 Option.bind (uncons? j121.snd.fst) fun p122 ↦
 Option.bind (AV.arr? 1 p122.fst) fun x123 ↦
 Option.bind (chk x123.fst 1) fun _ ↦
 Option.bind (uncons? p122.snd) fun p125 ↦
 Option.bind (AV.int? IntKind.i64 p125.fst) fun _ ↦
 Option.bind (nil? p125.snd) fun _ ↦
 Option.bind (uncons? j121.snd.snd) fun p128 ↦
 Option.bind
 (obIs
 (Ob.mk OK.box 36 2 0 [[vbool t115, AV.list 0 2 t116]]) p128.fst)
 fun _ ↦
 Option.bind (chk p128.fst.ver 0) fun _ ↦
 Option.bind (uncons? p128.fst.es) fun p131 ↦
 Option.bind (nil? p131.snd) fun _ ↦
 Option.bind (uncons? p131.fst) fun p133 ↦
 Option.bind (AV.bool? p133.fst) fun b134 ↦
 Option.bind (uncons? p133.snd) fun p135 ↦
 Option.bind (AV.list? 2 p135.fst) fun es136 ↦
 Option.bind (nil? p135.snd) fun _ ↦
 Option.bind (uncons? p128.snd) fun p138 ↦
 Option.bind
 (obIs (Ob.mk OK.arr 5 1 1 [[vb 1]]) p138.fst)
 fun _ ↦
 Option.bind (chk p138.fst.ver 1) fun _ ↦
 Option.bind (nil? p138.snd) fun _ ↦
 Option.bind
 (yRows
 [Ob.mk OK.box 36 2 0
 [[vbool b134, AV.list 0 2 es136]],
 Ob.mk OK.arr 5 1 1 p138.fst.es]
 1 (AV.arr 1 1 x123.snd.fst x123.snd.snd))
 fun ys142 ↦
 Option.bind (numsOf ys142) fun ns143 ↦
 some
 (Out.ret
 (AV.tuple [vs (Go.strOfNums ns143), vi 0]),
 [])
 else none
 else
 Option.bind
 (E cx (Key.loop 38 [true, true, true, true, false, true, false])
 [AV.arr 1 1 0 1, vi 0, AV.list 0 2 t116, vi ((List.length t116) : Int)]
 [Ob.mk OK.box 36 2 0 [[vbool t115, AV.list 0 2 t116]],
 Ob.mk OK.arr 5 1 1 [[vb 0]]])
 fun r144 ↦
 Option.bind (asJump r144) fun j145 ↦
 bif JX.is j145.fst (JX.exit 0) then
 Option.bind (uncons? j145.snd.fst) fun p146 ↦
 Option.bind (AV.arr? 1 p146.fst) fun x147 ↦
 Option.bind (chk x147.fst 1) fun _ ↦
 Option.bind (uncons? p146.snd) fun p149 ↦
 Option.bind (AV.int? IntKind.i64 p149.fst) fun _ ↦
 Option.bind (nil? p149.snd) fun _ ↦
 Option.bind (uncons? j145.snd.snd) fun p152 ↦
 Option.bind
 (obIs
 (Ob.mk OK.box 36 2 0 [[vbool t115, AV.list 0 2 t116]]) p152.fst)
 fun _ ↦
 Option.bind (chk p152.fst.ver 0) fun _ ↦
 Option.bind (uncons? p152.fst.es) fun p155 ↦
 Option.bind (nil? p155.snd) fun _ ↦
 Option.bind (uncons? p155.fst) fun p157 ↦
 Option.bind (AV.bool? p157.fst) fun b158 ↦
 Option.bind (uncons? p157.snd) fun p159 ↦
 Option.bind (AV.list? 2 p159.fst) fun es160 ↦
 Option.bind (nil? p159.snd) fun _ ↦
 Option.bind (uncons? p152.snd) fun p162 ↦
 Option.bind
 (obIs (Ob.mk OK.arr 5 1 1 [[vb 0]]) p162.fst)
 fun _ ↦
 Option.bind (chk p162.fst.ver 1) fun _ ↦
 Option.bind (nil? p162.snd) fun _ ↦
 Option.bind
 (yRows
 [Ob.mk OK.box 36 2 0
 [[vbool b158, AV.list 0 2 es160]],
 Ob.mk OK.arr 5 1 1 p162.fst.es]
 1 (AV.arr 1 1 x147.snd.fst x147.snd.snd))
 fun ys166 ↦
 Option.bind (numsOf ys166) fun ns167 ↦
 some
 (Out.ret
 (AV.tuple [vs (Go.strOfNums ns167), vi 0]),
 [])
 else none
 else some (Out.ret (AV.tuple [vs (ByteArray.mk (Array.mk [])), vi 1]), []) := by
  intros
  exact (E_in [188] _ _ _).trans (by kernel_rfl)


theorem f38_l0 : ∀ (n168 : Nat) (x169 : Int) (l170 : List (List AV)) (x171 : Int) (b172 : Bool) (l173 l174 : List (List AV)),
 E cx (Key.loop 38 [true, true, true, true, false, true, false])
 [AV.arr 1 1 0 n168, vi x169, AV.list 0 2 l170, vi x171]
 [Ob.mk OK.box 36 2 0 [[vbool b172, AV.list 0 2 l173]],
 Ob.mk OK.arr 5 1 1 l174] =
 bif decide (x169 < x171) then
 if 0 ≤ x169 then
 Option.bind l170[Int.toNat x169]? fun cs175 ↦
 Option.bind (uncons? cs175) fun p176 ↦
 Option.bind (AV.int? IntKind.u64 p176.fst) fun n177 ↦
 Option.bind (uncons? p176.snd) fun p178 ↦
 Option.bind (AV.int? IntKind.u64 p178.fst) fun n179 ↦
 Option.bind (nil? p178.snd) fun _ ↦
 Option.bind (E cx (Key.fn 106) [vu n177, vi 8] []) fun r181 ↦
 Option.bind (ret1 r181) fun v182 ↦
 Option.bind (AV.str? v182) fun s183 ↦
 bif ysOk (strRows s183) then
 Option.bind (chk n168 (List.length (Ob.mk OK.arr 5 1 1 l174).es)) fun _ ↦
 if
 Nat.mul
 (Nat.add (List.length (Ob.mk OK.arr 5 1 1 l174).es) (List.length (strRows s183)))
 1 ≤
 140737488355328 then
 Option.bind (E cx (Key.fn 106) [vu n179, vi 8] []) fun r185 ↦
 Option.bind (ret1 r185) fun v186 ↦
 Option.bind (AV.str? v186) fun s187 ↦
 bif ysOk (strRows s187) then
 Option.bind
 (chk
 (Nat.add (List.length (Ob.mk OK.arr 5 1 1 l174).es)
 (List.length (strRows s183)))
 (List.length
 (Ob.mk OK.arr 5 1 1
 ((Ob.mk OK.arr 5 1 1 l174).es ++ strRows s183)).es))
 fun _ ↦
 if
 Nat.mul
 (Nat.add
 (List.length
 (Ob.mk OK.arr 5 1 1
 ((Ob.mk OK.arr 5 1 1 l174).es ++ strRows s183)).es)
 (List.length (strRows s187)))
 1 ≤
 140737488355328 then
 E cx (Key.loop 38 [true, true, true, true, false, true, false])
 [AV.arr 1 1 0
 (Nat.add
 (List.length
 (Ob.mk OK.arr 5 1 1
 ((Ob.mk OK.arr 5 1 1 l174).es ++ strRows s183)).es)
 (List.length (strRows s187))),
 vi (IntKind.wrap IntKind.i64 (Int.add x169 1)), AV.list 0 2 l170,
 vi x171]
 [Ob.mk OK.box 36 2 0 [[vbool b172, AV.list 0 2 l173]],
 Ob.mk OK.arr 5 1 1
 ((Ob.mk OK.arr 5 1 1
 ((Ob.mk OK.arr 5 1 1 l174).es ++ strRows s183)).es ++
 strRows s187)]
 else none
 else none
 else none
 else none
 else none
 else
 some
 (Out.jump (JX.exit 0) [AV.arr 1 1 0 n168, vi x169],
 [Ob.mk OK.box 36 2 0 [[vbool b172, AV.list 0 2 l173]],
 Ob.mk OK.arr 5 1 1 l174]) := by
  intros
  exact (E_in [188] _ _ _).trans (by kernel_rfl)


theorem f39 : ∀ (t189 : Bool) (t190 : List (List AV)),
 E cx (Key.fn 39) [AV.agg [vbool t189, AV.list 0 2 t190]] [] =
 Option.bind (E cx (Key.fn 41) [AV.agg [vbool t189, AV.list 0 2 t190]] [])
 fun r191 ↦
 Option.bind (ret1 r191) fun v192 ↦
 Option.bind (AV.bool? v192) fun b193 ↦
 bif b193 then
 bif t189 then
 Option.bind
 (E cx (Key.loop 39 [true, true, true, true, true, false, true, false])
 [vs (ByteArray.mk (Array.mk [UInt8.ofNat 1])), vi 0, AV.ptr 0 0 0 0]
 [Ob.mk OK.box 36 2 0 [[vbool t189, AV.list 0 2 t190]]])
 fun r194 ↦
 Option.bind (asJump r194) fun j195 ↦
 bif JX.is j195.fst (JX.exit 0) then
 Option.bind (uncons? j195.snd.fst) fun p196 ↦
 Option.bind (AV.str? p196.fst) fun s197 ↦
 Option.bind (uncons? p196.snd) fun p198 ↦
 Option.bind (AV.int? IntKind.i64 p198.fst) fun _ ↦
 Option.bind (nil? p198.snd) fun _ ↦
 Option.bind (uncons? j195.snd.snd) fun p201 ↦
 Option.bind
 (obIs (Ob.mk OK.box 36 2 0 [[vbool t189, AV.list 0 2 t190]])
 p201.fst)
 fun _ ↦
 Option.bind (chk p201.fst.ver 0) fun _ ↦
 Option.bind (uncons? p201.fst.es) fun p204 ↦
 Option.bind (nil? p204.snd) fun _ ↦
 Option.bind (uncons? p204.fst) fun p206 ↦
 Option.bind (AV.bool? p206.fst) fun _ ↦
 Option.bind (uncons? p206.snd) fun p208 ↦
 Option.bind (AV.list? 2 p208.fst) fun _ ↦
 Option.bind (nil? p208.snd) fun _ ↦
 Option.bind (nil? p201.snd) fun _ ↦
 some (Out.ret (AV.tuple [vs s197, vi 0]), [])
 else none
 else
 Option.bind
 (E cx (Key.loop 39 [true, true, true, true, true, false, true, false])
 [vs (ByteArray.mk (Array.mk [UInt8.ofNat 0])), vi 0, AV.ptr 0 0 0 0]
 [Ob.mk OK.box 36 2 0 [[vbool t189, AV.list 0 2 t190]]])
 fun r212 ↦
 Option.bind (asJump r212) fun j213 ↦
 bif JX.is j213.fst (JX.exit 0) then
 Option.bind (uncons? j213.snd.fst) fun p214 ↦
 Option.bind (AV.str? p214.fst) fun s215 ↦
 Option.bind (uncons? p214.snd) fun p216 ↦
 Option.bind (AV.int? IntKind.i64 p216.fst) fun _ ↦
 Option.bind (nil? p216.snd) fun _ ↦
 Option.bind (uncons? j213.snd.snd) fun p219 ↦
 Option.bind
 (obIs (Ob.mk OK.box 36 2 0 [[vbool t189, AV.list 0 2 t190]])
 p219.fst)
 fun _ ↦
 Option.bind (chk p219.fst.ver 0) fun _ ↦
 Option.bind (uncons? p219.fst.es) fun p222 ↦
 Option.bind (nil? p222.snd) fun _ ↦
 Option.bind (uncons? p222.fst) fun p224 ↦
 Option.bind (AV.bool? p224.fst) fun _ ↦
 Option.bind (uncons? p224.snd) fun p226 ↦
 Option.bind (AV.list? 2 p226.fst) fun _ ↦
 Option.bind (nil? p226.snd) fun _ ↦
 Option.bind (nil? p219.snd) fun _ ↦
 some (Out.ret (AV.tuple [vs s215, vi 0]), [])
 else none
 else some (Out.ret (AV.tuple [vs (ByteArray.mk (Array.mk [])), vi 1]), []) := by
  intros
  exact (E_in [188] _ _ _).trans (by kernel_rfl)


theorem f39_l0 : ∀ (s230 : ByteArray) (x231 : Int) (b232 : Bool) (l233 : List (List AV)),
 E cx (Key.loop 39 [true, true, true, true, true, false, true, false])
 [vs s230, vi x231, AV.ptr 0 0 0 0]
 [Ob.mk OK.box 36 2 0 [[vbool b232, AV.list 0 2 l233]]] =
 bif decide (x231 < ((List.length l233) : Int)) then
 if 0 ≤ x231 then
 Option.bind l233[Int.toNat x231]? fun cs234 ↦
 Option.bind (uncons? cs234) fun p235 ↦
 Option.bind (AV.int? IntKind.u64 p235.fst) fun n236 ↦
 Option.bind (uncons? p235.snd) fun p237 ↦
 Option.bind (AV.int? IntKind.u64 p237.fst) fun _ ↦
 Option.bind (nil? p237.snd) fun _ ↦
 Option.bind (E cx (Key.fn 107) [vu n236, vi 8] []) fun r240 ↦
 Option.bind (ret1 r240) fun v241 ↦
 Option.bind (AV.str? v241) fun s242 ↦
 if ((Nat.add (ByteArray.size s230) (ByteArray.size s242)) : Int) > 9223372036854775807 then none
 else
 if 0 ≤ x231 then
 Option.bind l233[Int.toNat x231]? fun cs243 ↦
 Option.bind (uncons? cs243) fun p244 ↦
 Option.bind (AV.int? IntKind.u64 p244.fst) fun _ ↦
 Option.bind (uncons? p244.snd) fun p246 ↦
 Option.bind (AV.int? IntKind.u64 p246.fst) fun n247 ↦
 Option.bind (nil? p246.snd) fun _ ↦
 Option.bind (E cx (Key.fn 107) [vu n247, vi 8] [])
 fun r249 ↦
 Option.bind (ret1 r249) fun v250 ↦
 Option.bind (AV.str? v250) fun s251 ↦
 if ((Nat.add (ByteArray.size (ByteArray.append s230 s242)) (ByteArray.size s251)) : Int) > 9223372036854775807 then
 none
 else
 E cx (Key.loop 39 [true, true, true, true, true, false, true, false])
 [vs (ByteArray.append (ByteArray.append s230 s242) s251),
 vi (IntKind.wrap IntKind.i64 (Int.add x231 1)), AV.ptr 0 0 0 0]
 [Ob.mk OK.box 36 2 0 [[vbool b232, AV.list 0 2 l233]]]
 else none
 else none
 else
 some
 (Out.jump (JX.exit 0) [vs s230, vi x231],
 [Ob.mk OK.box 36 2 0 [[vbool b232, AV.list 0 2 l233]]]) := by
  intros
  exact (E_in [188] _ _ _).trans (by kernel_rfl)


theorem f40 : ∀ (t252 : Bool) (t253 : List (List AV)),
 E cx (Key.fn 40) [AV.agg [vbool t252, AV.list 0 2 t253]] [] =
 bif decide (((List.length t253) : Int) ≤ 2048) then
 Option.bind (E cx (Key.fn 108) [AV.list 0 2 t253, AV.func (Fn.func 109) [] []] [])
 fun r254 ↦
 Option.bind (ret1 r254) fun v255 ↦
 Option.bind (AV.bool? v255) fun b256 ↦
 bif b256 then some (Out.ret (vbool true), []) else some (Out.ret (vbool false), [])
 else some (Out.ret (vbool false), []) := by
  intros
  exact (E_in [188] _ _ _).trans (by kernel_rfl)


theorem f40_c0 : ∀ (l257 : List (List AV)),
 E cx (Key.fn 108) [AV.list 0 2 l257, AV.func (Fn.func 109) [] []] [] =
 Option.bind
 (E cx (Key.loop 108 [true, false, true, false])
 [vbool false, vi (IntKind.wrap IntKind.i64 (Int.sub (((List.length l257) : Int)) 1)), AV.list 0 2 l257,
 AV.func (Fn.func 109) [] []]
 [])
 fun r258 ↦
 Option.bind (asJump r258) fun j259 ↦
 bif JX.is j259.fst (JX.exit 0) then
 Option.bind (uncons? j259.snd.fst) fun p260 ↦
 Option.bind (AV.bool? p260.fst) fun _ ↦
 Option.bind (uncons? p260.snd) fun p262 ↦
 Option.bind (AV.int? IntKind.i64 p262.fst) fun _ ↦
 Option.bind (nil? p262.snd) fun _ ↦
 Option.bind (nil? j259.snd.snd) fun _ ↦ some (Out.ret (vbool true), [])
 else
 bif JX.is j259.fst JX.ret then
 Option.bind (uncons? j259.snd.fst) fun p266 ↦
 Option.bind (AV.bool? p266.fst) fun b267 ↦
 Option.bind (uncons? p266.snd) fun p268 ↦
 Option.bind (AV.int? IntKind.i64 p268.fst) fun _ ↦
 Option.bind (nil? p268.snd) fun _ ↦
 Option.bind (nil? j259.snd.snd) fun _ ↦ some (Out.ret (vbool b267), [])
 else none := by
  intros
  exact (E_in [188] _ _ _).trans (by kernel_rfl)


theorem f40_c0_l1 : ∀ (b272 : Bool) (x273 : Int) (l274 : List (List AV)),
 E cx (Key.loop 108 [true, false, true, false])
 [vbool b272, vi x273, AV.list 0 2 l274, AV.func (Fn.func 109) [] []] [] =
 bif decide (x273 > 0) then
 if 0 ≤ x273 then
 Option.bind l274[Int.toNat x273]? fun cs275 ↦
 Option.bind (uncons? cs275) fun p276 ↦
 Option.bind (AV.int? IntKind.u64 p276.fst) fun n277 ↦
 Option.bind (uncons? p276.snd) fun p278 ↦
 Option.bind (AV.int? IntKind.u64 p278.fst) fun n279 ↦
 Option.bind (nil? p278.snd) fun _ ↦
 if 0 ≤ IntKind.wrap IntKind.i64 (Int.sub x273 1) then
 Option.bind l274[Int.toNat (IntKind.wrap IntKind.i64 (Int.sub x273 1))]? fun cs281 ↦
 Option.bind (uncons? cs281) fun p282 ↦
 Option.bind (AV.int? IntKind.u64 p282.fst) fun n283 ↦
 Option.bind (uncons? p282.snd) fun p284 ↦
 Option.bind (AV.int? IntKind.u64 p284.fst) fun n285 ↦
 Option.bind (nil? p284.snd) fun _ ↦
 Option.bind
 (E cx (Key.fn 109)
 [AV.agg [vu n277, vu n279],
 AV.agg [vu n283, vu n285]]
 [])
 fun r287 ↦
 Option.bind (ret1 r287) fun v288 ↦
 Option.bind (AV.int? IntKind.i64 v288) fun n289 ↦
 bif decide (n289 < 0) then
 some (Out.jump JX.ret [vbool false, vi x273], [])
 else
 E cx (Key.loop 108 [true, false, true, false])
 [vbool b272, vi (IntKind.wrap IntKind.i64 (Int.sub x273 1)),
 AV.list 0 2 l274, AV.func (Fn.func 109) [] []]
 []
 else none
 else none
 else some (Out.jump (JX.exit 0) [vbool b272, vi x273], []) := by
  intros
  exact (E_in [188] _ _ _).trans (by kernel_rfl)


theorem f41 : ∀ (t290 : Bool) (t291 : List (List AV)),
 E cx (Key.fn 41) [AV.agg [vbool t290, AV.list 0 2 t291]] [] =
 Option.bind (E cx (Key.fn 110) [AV.list 0 2 t291] []) fun r292 ↦
 Option.bind (ret1 r292) fun v293 ↦
 Option.bind (AV.bool? v293) fun b294 ↦
 bif b294 then
 bif decide (((List.length t291) : Int) ≤ 2048) then some (Out.ret (vbool true), [])
 else some (Out.ret (vbool false), [])
 else some (Out.ret (vbool false), []) := by
  intros
  exact (E_in [188] _ _ _).trans (by kernel_rfl)


theorem f42 : ∀ (t295 : Bool) (t296 : List (List AV)) (root297 : Int),
 E cx (Key.fn 42)
 [AV.agg [vbool t295, AV.list 0 2 t296], vu root297] [] =
 Option.bind (E cx (Key.fn 40) [AV.agg [vbool t295, AV.list 0 2 t296]] [])
 fun r298 ↦
 Option.bind (ret1 r298) fun v299 ↦
 Option.bind (AV.bool? v299) fun b300 ↦
 bif b300 then
 Option.bind
 (E cx (Key.loop 42 [true, true, false, true, false])
 [AV.arr 1 1 0 0, vbool false, vi 0, vu root297, AV.ptr 0 0 0 0,
 AV.list 0 2 t296, vi ((List.length t296) : Int)]
 [Ob.mk OK.box 36 2 0 [[vbool t295, AV.list 0 2 t296]],
 Ob.mk OK.arr 26 1 1 []])
 fun r301 ↦
 Option.bind (asJump r301) fun j302 ↦
 bif JX.is j302.fst (JX.exit 0) then
 Option.bind (uncons? j302.snd.fst) fun p303 ↦
 Option.bind (AV.arr? 1 p303.fst) fun x304 ↦
 Option.bind (chk x304.fst 1) fun _ ↦
 Option.bind (uncons? p303.snd) fun p306 ↦
 Option.bind (AV.bool? p306.fst) fun _ ↦
 Option.bind (uncons? p306.snd) fun p308 ↦
 Option.bind (AV.int? IntKind.i64 p308.fst) fun _ ↦
 Option.bind (nil? p308.snd) fun _ ↦
 Option.bind (uncons? j302.snd.snd) fun p311 ↦
 Option.bind
 (obIs
 (Ob.mk OK.box 36 2 0 [[vbool t295, AV.list 0 2 t296]]) p311.fst)
 fun _ ↦
 Option.bind (chk p311.fst.ver 0) fun _ ↦
 Option.bind (uncons? p311.fst.es) fun p314 ↦
 Option.bind (nil? p314.snd) fun _ ↦
 Option.bind (uncons? p314.fst) fun p316 ↦
 Option.bind (AV.bool? p316.fst) fun _ ↦
 Option.bind (uncons? p316.snd) fun p318 ↦
 Option.bind (AV.list? 2 p318.fst) fun _ ↦
 Option.bind (nil? p318.snd) fun _ ↦
 Option.bind (uncons? p311.snd) fun p321 ↦
 Option.bind (obIs (Ob.mk OK.arr 26 1 1 []) p321.fst) fun _ ↦
 Option.bind (chk p321.fst.ver 1) fun _ ↦
 Option.bind (nil? p321.snd) fun _ ↦
 Option.bind (chkLe (Nat.add x304.snd.fst x304.snd.snd) (List.length p321.fst.es))
 fun _ ↦
 some
 (Out.ret
 (AV.tuple
 [AV.list 0 1
 (List.drop x304.snd.fst
 (List.take (Nat.add x304.snd.fst x304.snd.snd) p321.fst.es)),
 vbool true]),
 [])
 else
 bif JX.is j302.fst JX.ret then
 Option.bind (uncons? j302.snd.fst) fun p326 ↦
 Option.bind (AV.list? 1 p326.fst) fun es327 ↦
 Option.bind (uncons? p326.snd) fun p328 ↦
 Option.bind (AV.bool? p328.fst) fun b329 ↦
 Option.bind (uncons? p328.snd) fun p330 ↦
 Option.bind (AV.int? IntKind.i64 p330.fst) fun _ ↦
 Option.bind (nil? p330.snd) fun _ ↦
 Option.bind (uncons? j302.snd.snd) fun p333 ↦
 Option.bind
 (obIs
 (Ob.mk OK.box 36 2 0 [[vbool t295, AV.list 0 2 t296]]) p333.fst)
 fun _ ↦
 Option.bind (chk p333.fst.ver 0) fun _ ↦
 Option.bind (uncons? p333.fst.es) fun p336 ↦
 Option.bind (nil? p336.snd) fun _ ↦
 Option.bind (uncons? p336.fst) fun p338 ↦
 Option.bind (AV.bool? p338.fst) fun _ ↦
 Option.bind (uncons? p338.snd) fun p340 ↦
 Option.bind (AV.list? 2 p340.fst) fun _ ↦
 Option.bind (nil? p340.snd) fun _ ↦
 Option.bind (uncons? p333.snd) fun p343 ↦
 Option.bind (obIs (Ob.mk OK.arr 26 1 1 []) p343.fst) fun _ ↦
 Option.bind (chk p343.fst.ver 1) fun _ ↦
 Option.bind (nil? p343.snd) fun _ ↦
 some
 (Out.ret
 (AV.tuple [AV.list 0 1 es327, vbool b329]),
 [])
 else none
 else some (Out.ret (AV.tuple [AV.val (Value.slice none 0 0), vbool false]), []) := by
  intros
  exact (E_in [188] _ _ _).trans (by kernel_rfl)


theorem f42_l0 : ∀ (n347 : Nat) (b348 : Bool) (x349 x350 : Int) (l351 : List (List AV)) (x352 : Int) (b353 : Bool) (l354 l355 : List (List AV)),
 E cx (Key.loop 42 [true, true, false, true, false])
 [AV.arr 1 1 0 n347, vbool b348, vi x349, vu x350, AV.ptr 0 0 0 0,
 AV.list 0 2 l351, vi x352]
 [Ob.mk OK.box 36 2 0 [[vbool b353, AV.list 0 2 l354]],
 Ob.mk OK.arr 26 1 1 l355] =
 bif decide (x349 < x352) then
 if 0 ≤ x349 then
 Option.bind l351[Int.toNat x349]? fun cs356 ↦
 Option.bind (uncons? cs356) fun p357 ↦
 Option.bind (AV.int? IntKind.u64 p357.fst) fun n358 ↦
 Option.bind (uncons? p357.snd) fun p359 ↦
 Option.bind (AV.int? IntKind.u64 p359.fst) fun n360 ↦
 Option.bind (nil? p359.snd) fun _ ↦
 bif n360 != x350 then
 some
 (Out.jump JX.ret
 [AV.val (Value.slice none 0 0), vbool false, vi x349],
 [Ob.mk OK.box 36 2 0 [[vbool b353, AV.list 0 2 l354]],
 Ob.mk OK.arr 26 1 1 l355])
 else
 bif decide (x349 > 0) then
 if 0 ≤ IntKind.wrap IntKind.i64 (Int.sub x349 1) then
 Option.bind l354[Int.toNat (IntKind.wrap IntKind.i64 (Int.sub x349 1))]? fun cs362 ↦
 Option.bind (uncons? cs362) fun p363 ↦
 Option.bind (AV.int? IntKind.u64 p363.fst) fun n364 ↦
 Option.bind (uncons? p363.snd) fun p365 ↦
 Option.bind (AV.int? IntKind.u64 p365.fst) fun n366 ↦
 Option.bind (nil? p365.snd) fun _ ↦
 bif decide (n364 = n358) && (decide (n366 = n360) && true) then
 some
 (Out.jump JX.ret
 [AV.val (Value.slice none 0 0), vbool false, vi x349],
 [Ob.mk OK.box 36 2 0 [[vbool b353, AV.list 0 2 l354]],
 Ob.mk OK.arr 26 1 1 l355])
 else
 Option.bind (chk n347 (List.length (Ob.mk OK.arr 26 1 1 l355).es)) fun _ ↦
 if Nat.mul (Nat.add (List.length (Ob.mk OK.arr 26 1 1 l355).es) 1) 8 ≤ 140737488355328 then
 E cx (Key.loop 42 [true, true, false, true, false])
 [AV.arr 1 1 0 (Nat.add (List.length (Ob.mk OK.arr 26 1 1 l355).es) 1),
 vbool b348, vi (IntKind.wrap IntKind.i64 (Int.add x349 1)),
 vu x350, AV.ptr 0 0 0 0, AV.list 0 2 l351, vi x352]
 [Ob.mk OK.box 36 2 0 [[vbool b353, AV.list 0 2 l354]],
 Ob.mk OK.arr 26 1 1
 ((Ob.mk OK.arr 26 1 1 l355).es ++ [[vu n358]])]
 else none
 else none
 else
 Option.bind (chk n347 (List.length (Ob.mk OK.arr 26 1 1 l355).es)) fun _ ↦
 if Nat.mul (Nat.add (List.length (Ob.mk OK.arr 26 1 1 l355).es) 1) 8 ≤ 140737488355328 then
 E cx (Key.loop 42 [true, true, false, true, false])
 [AV.arr 1 1 0 (Nat.add (List.length (Ob.mk OK.arr 26 1 1 l355).es) 1),
 vbool b348, vi (IntKind.wrap IntKind.i64 (Int.add x349 1)), vu x350,
 AV.ptr 0 0 0 0, AV.list 0 2 l351, vi x352]
 [Ob.mk OK.box 36 2 0 [[vbool b353, AV.list 0 2 l354]],
 Ob.mk OK.arr 26 1 1
 ((Ob.mk OK.arr 26 1 1 l355).es ++ [[vu n358]])]
 else none
 else none
 else
 some
 (Out.jump (JX.exit 0) [AV.arr 1 1 0 n347, vbool b348, vi x349],
 [Ob.mk OK.box 36 2 0 [[vbool b353, AV.list 0 2 l354]],
 Ob.mk OK.arr 26 1 1 l355]) := by
  intros
  exact (E_in [188] _ _ _).trans (by kernel_rfl)


theorem f43 : ∀ (t370 : Bool) (t371 : List (List AV)) (root372 : Int),
 E cx (Key.fn 43)
 [AV.agg [vbool t370, AV.list 0 2 t371], vu root372] [] =
 Option.bind (E cx (Key.fn 41) [AV.agg [vbool t370, AV.list 0 2 t371]] [])
 fun r425 ↦
 Option.bind (ret1 r425) fun v426 ↦
 Option.bind (AV.bool? v426) fun b427 ↦
 bif b427 then
 Option.bind
 (E cx (Key.loop 43 [true, true, true, true, false, true, false])
 [AV.val (Value.slice none 0 0), vbool false, AV.arr 1 1 0 0, vi 0,
 vu root372, AV.ptr 0 0 0 0]
 [Ob.mk OK.box 36 2 0 [[vbool t370, AV.list 0 2 t371]],
 Ob.mk OK.arr 26 1 1 []])
 fun r428 ↦
 Option.bind (asJump r428) fun j429 ↦
 bif JX.is j429.fst (JX.exit 0) then
 Option.bind (uncons? j429.snd.fst) fun p430 ↦
 Option.bind (uncons? p430.snd) fun p431 ↦
 Option.bind (AV.bool? p431.fst) fun _ ↦
 Option.bind (uncons? p431.snd) fun p433 ↦
 Option.bind (AV.arr? 1 p433.fst) fun x434 ↦
 Option.bind (chk x434.fst 1) fun _ ↦
 Option.bind (uncons? p433.snd) fun p436 ↦
 Option.bind (AV.int? IntKind.i64 p436.fst) fun _ ↦
 Option.bind (nil? p436.snd) fun _ ↦
 Option.bind (uncons? j429.snd.snd) fun p439 ↦
 Option.bind
 (obIs
 (Ob.mk OK.box 36 2 0 [[vbool t370, AV.list 0 2 t371]]) p439.fst)
 fun _ ↦
 Option.bind (chk p439.fst.ver 0) fun _ ↦
 Option.bind (uncons? p439.fst.es) fun p442 ↦
 Option.bind (nil? p442.snd) fun _ ↦
 Option.bind (uncons? p442.fst) fun p444 ↦
 Option.bind (AV.bool? p444.fst) fun b445 ↦
 Option.bind (uncons? p444.snd) fun p446 ↦
 Option.bind (AV.list? 2 p446.fst) fun es447 ↦
 Option.bind (nil? p446.snd) fun _ ↦
 Option.bind (uncons? p439.snd) fun p449 ↦
 Option.bind (obIs (Ob.mk OK.arr 26 1 1 []) p449.fst) fun _ ↦
 Option.bind (chk p449.fst.ver 1) fun _ ↦
 Option.bind (nil? p449.snd) fun _ ↦
 Option.bind
 (viewArgs
 [Ob.mk OK.box 36 2 0
 [[vbool b445, AV.list 0 2 es447]],
 Ob.mk OK.arr 26 1 1 p449.fst.es]
 [AV.arr 1 1 x434.snd.fst x434.snd.snd, vbool true])
 fun vs'453 ↦ some (Out.ret (oneOf vs'453), [])
 else
 bif JX.is j429.fst JX.ret then
 Option.bind (uncons? j429.snd.fst) fun p454 ↦
 Option.bind (uncons? p454.snd) fun p455 ↦
 Option.bind (AV.bool? p455.fst) fun b456 ↦
 Option.bind (uncons? p455.snd) fun p457 ↦
 Option.bind (AV.arr? 1 p457.fst) fun x458 ↦
 Option.bind (chk x458.fst 1) fun _ ↦
 Option.bind (uncons? p457.snd) fun p460 ↦
 Option.bind (AV.int? IntKind.i64 p460.fst) fun _ ↦
 Option.bind (nil? p460.snd) fun _ ↦
 Option.bind (uncons? j429.snd.snd) fun p463 ↦
 Option.bind
 (obIs
 (Ob.mk OK.box 36 2 0 [[vbool t370, AV.list 0 2 t371]]) p463.fst)
 fun _ ↦
 Option.bind (chk p463.fst.ver 0) fun _ ↦
 Option.bind (uncons? p463.fst.es) fun p466 ↦
 Option.bind (nil? p466.snd) fun _ ↦
 Option.bind (uncons? p466.fst) fun p468 ↦
 Option.bind (AV.bool? p468.fst) fun b469 ↦
 Option.bind (uncons? p468.snd) fun p470 ↦
 Option.bind (AV.list? 2 p470.fst) fun es471 ↦
 Option.bind (nil? p470.snd) fun _ ↦
 Option.bind (uncons? p463.snd) fun p473 ↦
 Option.bind (obIs (Ob.mk OK.arr 26 1 1 []) p473.fst)
 fun _ ↦
 Option.bind (chk p473.fst.ver 1) fun _ ↦
 Option.bind (nil? p473.snd) fun _ ↦
 Option.bind
 (viewArgs
 [Ob.mk OK.box 36 2 0
 [[vbool b469, AV.list 0 2 es471]],
 Ob.mk OK.arr 26 1 1 p473.fst.es]
 [p454.fst, vbool b456])
 fun vs'477 ↦ some (Out.ret (oneOf vs'477), [])
 else none
 else some (Out.ret (AV.tuple [AV.val (Value.slice none 0 0), vbool false]), []) := by
  intros
  exact (E_unfold _ _ _ _).trans (by kernel_rfl)


theorem f43_l0 : ∀ (b478 : Bool) (n479 : Nat) (x480 x481 : Int) (b482 : Bool) (l483 l484 : List (List AV)),
 E cx (Key.loop 43 [true, true, true, true, false, true, false])
 [AV.val (Value.slice none 0 0), vbool b478, AV.arr 1 1 0 n479, vi x480, vu x481,
 AV.ptr 0 0 0 0]
 [Ob.mk OK.box 36 2 0 [[vbool b482, AV.list 0 2 l483]],
 Ob.mk OK.arr 26 1 1 l484] =
 bif decide (x480 < ((List.length l483) : Int)) then
 if 0 ≤ x480 then
 Option.bind l483[Int.toNat x480]? fun cs485 ↦
 Option.bind (uncons? cs485) fun p486 ↦
 Option.bind (AV.int? IntKind.u64 p486.fst) fun _ ↦
 Option.bind (uncons? p486.snd) fun p488 ↦
 Option.bind (AV.int? IntKind.u64 p488.fst) fun n489 ↦
 Option.bind (nil? p488.snd) fun _ ↦
 bif n489 != x481 then
 some
 (Out.jump JX.ret
 [AV.val (Value.slice none 0 0), vbool false, AV.arr 1 1 0 n479, vi x480],
 [Ob.mk OK.box 36 2 0 [[vbool b482, AV.list 0 2 l483]],
 Ob.mk OK.arr 26 1 1 l484])
 else
 bif decide (x480 > 0) then
 if 0 ≤ x480 then
 Option.bind l483[Int.toNat x480]? fun cs491 ↦
 Option.bind (uncons? cs491) fun p492 ↦
 Option.bind (AV.int? IntKind.u64 p492.fst) fun n493 ↦
 Option.bind (uncons? p492.snd) fun p494 ↦
 Option.bind (AV.int? IntKind.u64 p494.fst) fun _ ↦
 Option.bind (nil? p494.snd) fun _ ↦
 if 0 ≤ IntKind.wrap IntKind.i64 (Int.sub x480 1) then
 Option.bind l483[Int.toNat (IntKind.wrap IntKind.i64 (Int.sub x480 1))]? fun cs497 ↦
 Option.bind (uncons? cs497) fun p498 ↦
 Option.bind (AV.int? IntKind.u64 p498.fst) fun n499 ↦
 Option.bind (uncons? p498.snd) fun p500 ↦
 Option.bind (AV.int? IntKind.u64 p500.fst) fun _ ↦
 Option.bind (nil? p500.snd) fun _ ↦
 bif decide (n493 = n499) then
 some
 (Out.jump JX.ret
 [AV.val (Value.slice none 0 0), vbool false,
 AV.arr 1 1 0 n479, vi x480],
 [Ob.mk OK.box 36 2 0
 [[vbool b482, AV.list 0 2 l483]],
 Ob.mk OK.arr 26 1 1 l484])
 else
 if 0 ≤ x480 then
 Option.bind l483[Int.toNat x480]? fun cs503 ↦
 Option.bind (uncons? cs503) fun p504 ↦
 Option.bind (AV.int? IntKind.u64 p504.fst) fun n505 ↦
 Option.bind (uncons? p504.snd) fun p506 ↦
 Option.bind (AV.int? IntKind.u64 p506.fst) fun _ ↦
 Option.bind (nil? p506.snd) fun _ ↦
 Option.bind
 (chk n479
 (List.length (Ob.mk OK.arr 26 1 1 l484).es))
 fun _ ↦
 if
 Nat.mul
 (Nat.add (List.length (Ob.mk OK.arr 26 1 1 l484).es) 1)
 8 ≤
 140737488355328 then
 E cx
 (Key.loop 43 [true, true, true, true, false, true, false])
 [AV.val (Value.slice none 0 0), vbool b478,
 AV.arr 1 1 0
 (Nat.add (List.length (Ob.mk OK.arr 26 1 1 l484).es) 1),
 vi (IntKind.wrap IntKind.i64 (Int.add x480 1)),
 vu x481, AV.ptr 0 0 0 0]
 [Ob.mk OK.box 36 2 0
 [[vbool b482, AV.list 0 2 l483]],
 Ob.mk OK.arr 26 1 1
 ((Ob.mk OK.arr 26 1 1 l484).es ++
 [[vu n505]])]
 else none
 else none
 else none
 else none
 else
 if 0 ≤ x480 then
 Option.bind l483[Int.toNat x480]? fun cs510 ↦
 Option.bind (uncons? cs510) fun p511 ↦
 Option.bind (AV.int? IntKind.u64 p511.fst) fun n512 ↦
 Option.bind (uncons? p511.snd) fun p513 ↦
 Option.bind (AV.int? IntKind.u64 p513.fst) fun _ ↦
 Option.bind (nil? p513.snd) fun _ ↦
 Option.bind (chk n479 (List.length (Ob.mk OK.arr 26 1 1 l484).es)) fun _ ↦
 if Nat.mul (Nat.add (List.length (Ob.mk OK.arr 26 1 1 l484).es) 1) 8 ≤ 140737488355328 then
 E cx (Key.loop 43 [true, true, true, true, false, true, false])
 [AV.val (Value.slice none 0 0), vbool b478,
 AV.arr 1 1 0 (Nat.add (List.length (Ob.mk OK.arr 26 1 1 l484).es) 1),
 vi (IntKind.wrap IntKind.i64 (Int.add x480 1)), vu x481,
 AV.ptr 0 0 0 0]
 [Ob.mk OK.box 36 2 0 [[vbool b482, AV.list 0 2 l483]],
 Ob.mk OK.arr 26 1 1
 ((Ob.mk OK.arr 26 1 1 l484).es ++ [[vu n512]])]
 else none
 else none
 else none
 else
 some
 (Out.jump (JX.exit 0)
 [AV.val (Value.slice none 0 0), vbool b478, AV.arr 1 1 0 n479, vi x480],
 [Ob.mk OK.box 36 2 0 [[vbool b482, AV.list 0 2 l483]],
 Ob.mk OK.arr 26 1 1 l484]) := by
  intros
  exact (E_in [188] _ _ _).trans (by kernel_rfl)


theorem f44 : ∀ (a517 b518 : List (List AV)),
 E cx (Key.fn 44) [AV.list 0 1 a517, AV.list 0 1 b518] [] =
 bif ((List.length a517) : Int) != ((List.length b518) : Int) then some (Out.ret (vbool false), [])
 else
 Option.bind
 (E cx (Key.loop 44 [true, true, false, true, false])
 [vbool false, vi 0, AV.list 0 1 a517, AV.list 0 1 b518] [])
 fun r519 ↦
 Option.bind (asJump r519) fun j520 ↦
 bif JX.is j520.fst (JX.exit 0) then
 Option.bind (uncons? j520.snd.fst) fun p521 ↦
 Option.bind (AV.bool? p521.fst) fun _ ↦
 Option.bind (uncons? p521.snd) fun p523 ↦
 Option.bind (AV.int? IntKind.i64 p523.fst) fun _ ↦
 Option.bind (nil? p523.snd) fun _ ↦
 Option.bind (nil? j520.snd.snd) fun _ ↦ some (Out.ret (vbool true), [])
 else
 bif JX.is j520.fst JX.ret then
 Option.bind (uncons? j520.snd.fst) fun p527 ↦
 Option.bind (AV.bool? p527.fst) fun b528 ↦
 Option.bind (uncons? p527.snd) fun p529 ↦
 Option.bind (AV.int? IntKind.i64 p529.fst) fun _ ↦
 Option.bind (nil? p529.snd) fun _ ↦
 Option.bind (nil? j520.snd.snd) fun _ ↦ some (Out.ret (vbool b528), [])
 else none := by
  intros
  exact (E_in [188] _ _ _).trans (by kernel_rfl)


theorem f44_l0 : ∀ (b533 : Bool) (x534 : Int) (l535 l536 : List (List AV)),
 E cx (Key.loop 44 [true, true, false, true, false])
 [vbool b533, vi x534, AV.list 0 1 l535, AV.list 0 1 l536] [] =
 bif decide (x534 < ((List.length l535) : Int)) then
 if 0 ≤ x534 then
 Option.bind l535[Int.toNat x534]? fun cs537 ↦
 Option.bind (uncons? cs537) fun p538 ↦
 Option.bind (AV.int? IntKind.u64 p538.fst) fun n539 ↦
 Option.bind (nil? p538.snd) fun _ ↦
 if 0 ≤ x534 then
 Option.bind l536[Int.toNat x534]? fun cs541 ↦
 Option.bind (uncons? cs541) fun p542 ↦
 Option.bind (AV.int? IntKind.u64 p542.fst) fun n543 ↦
 Option.bind (nil? p542.snd) fun _ ↦
 bif n539 != n543 then some (Out.jump JX.ret [vbool false, vi x534], [])
 else
 E cx (Key.loop 44 [true, true, false, true, false])
 [vbool b533, vi (IntKind.wrap IntKind.i64 (Int.add x534 1)), AV.list 0 1 l535,
 AV.list 0 1 l536]
 []
 else none
 else none
 else some (Out.jump (JX.exit 0) [vbool b533, vi x534], []) := by
  intros
  exact (E_in [188] _ _ _).trans (by kernel_rfl)


theorem f45 : ∀ (l545 : List (List AV)),
 E cx (Key.fn 45) [AV.list 0 2 l545] [] =
 Option.bind (E cx (Key.fn 111) [AV.list 0 2 l545, AV.func (Fn.func 112) [] []] [])
 fun r546 ↦
 Option.bind (ret1 r546) fun v547 ↦
 Option.bind (AV.bool? v547) fun b548 ↦
 bif b548 then
 some
 (Out.ret
 (AV.tuple [AV.agg [vbool false, AV.val (Value.slice none 0 0)], vi 1]),
 [])
 else
 Option.bind
 (E cx (Key.loop 45 [true, true, false, true, false])
 [vi 0, vi 0, AV.ptr 0 0 0 0, AV.list 0 2 l545, vi ((List.length l545) : Int)]
 [Ob.mk OK.box 36 2 0 [[vbool false, AV.arr 1 2 0 0]],
 Ob.mk OK.arr 80 2 2 []])
 fun r549 ↦
 Option.bind (asJump r549) fun j550 ↦
 bif JX.is j550.fst (JX.exit 0) then
 Option.bind (uncons? j550.snd.fst) fun p551 ↦
 Option.bind (AV.int? IntKind.i64 p551.fst) fun _ ↦
 Option.bind (uncons? p551.snd) fun p553 ↦
 Option.bind (AV.int? IntKind.i64 p553.fst) fun _ ↦
 Option.bind (nil? p553.snd) fun _ ↦
 Option.bind (uncons? j550.snd.snd) fun p556 ↦
 Option.bind
 (obIs (Ob.mk OK.box 36 2 0 [[vbool false, AV.arr 1 2 0 0]])
 p556.fst)
 fun _ ↦
 Option.bind (chk p556.fst.ver 0) fun _ ↦
 Option.bind (uncons? p556.fst.es) fun p559 ↦
 Option.bind (nil? p559.snd) fun _ ↦
 Option.bind (uncons? p559.fst) fun p561 ↦
 Option.bind (AV.bool? p561.fst) fun b562 ↦
 Option.bind (uncons? p561.snd) fun p563 ↦
 Option.bind (AV.arr? 1 p563.fst) fun x564 ↦
 Option.bind (chk x564.fst 2) fun _ ↦
 Option.bind (nil? p563.snd) fun _ ↦
 Option.bind (uncons? p556.snd) fun p567 ↦
 Option.bind (obIs (Ob.mk OK.arr 80 2 2 []) p567.fst) fun _ ↦
 Option.bind (chk p567.fst.ver 2) fun _ ↦
 Option.bind (nil? p567.snd) fun _ ↦
 Option.bind
 (chkLe (Nat.add x564.snd.fst x564.snd.snd)
 (List.length (Ob.mk OK.arr 80 2 2 p567.fst.es).es))
 fun _ ↦
 if x564.snd.snd ≤ 4611686018427387903 then
 Option.bind
 (sortP [AV.func (Fn.func 109) [] []]
 (List.drop x564.snd.fst
 (List.take (Nat.add x564.snd.fst x564.snd.snd)
 (Ob.mk OK.arr 80 2 2 p567.fst.es).es)))
 fun zs572 ↦
 Option.bind
 (chkLe (Nat.add x564.snd.fst x564.snd.snd)
 (List.length
 (List.take x564.snd.fst (Ob.mk OK.arr 80 2 2 p567.fst.es).es ++
 zs572 ++
 List.drop (Nat.add x564.snd.fst x564.snd.snd)
 (Ob.mk OK.arr 80 2 2 p567.fst.es).es)))
 fun _ ↦
 some
 (Out.ret
 (AV.tuple
 [AV.agg
 [vbool b562,
 AV.list 0 2
 (List.drop x564.snd.fst
 (List.take (Nat.add x564.snd.fst x564.snd.snd)
 (List.take x564.snd.fst
 (Ob.mk OK.arr 80 2 2 p567.fst.es).es ++
 zs572 ++
 List.drop (Nat.add x564.snd.fst x564.snd.snd)
 (Ob.mk OK.arr 80 2 2 p567.fst.es).es)))],
 vi 0]),
 [])
 else none
 else
 bif JX.is j550.fst JX.ret then
 Option.bind (uncons? j550.snd.fst) fun p574 ↦
 Option.bind (AV.int? IntKind.i64 p574.fst) fun n575 ↦
 Option.bind (uncons? p574.snd) fun p576 ↦
 Option.bind (AV.int? IntKind.i64 p576.fst) fun _ ↦
 Option.bind (nil? p576.snd) fun _ ↦
 Option.bind (uncons? j550.snd.snd) fun p579 ↦
 Option.bind
 (obIs
 (Ob.mk OK.box 36 2 0 [[vbool false, AV.val (Value.slice none 0 0)]])
 p579.fst)
 fun _ ↦
 Option.bind (chk p579.fst.ver 0) fun _ ↦
 Option.bind (uncons? p579.fst.es) fun p582 ↦
 Option.bind (nil? p582.snd) fun _ ↦
 Option.bind (uncons? p582.fst) fun p584 ↦
 Option.bind (AV.bool? p584.fst) fun b585 ↦
 Option.bind (uncons? p584.snd) fun p586 ↦
 Option.bind (AV.nilS? p586.fst) fun _ ↦
 Option.bind (nil? p586.snd) fun _ ↦
 Option.bind (uncons? p579.snd) fun p589 ↦
 Option.bind (obIs (Ob.mk OK.dead 80 2 2 []) p589.fst) fun _ ↦
 Option.bind (chk p589.fst.ver 2) fun _ ↦
 Option.bind (nil? p589.snd) fun _ ↦
 some
 (Out.ret
 (AV.tuple
 [AV.agg [vbool b585, AV.val (Value.slice none 0 0)],
 vi n575]),
 [])
 else none := by
  intros
  exact (E_in [188] _ _ _).trans (by kernel_rfl)


theorem f45_c0 : ∀ (l593 : List (List AV)),
 E cx (Key.fn 111) [AV.list 0 2 l593, AV.func (Fn.func 112) [] []] [] =
 Option.bind (E cx (Key.fn 149) [AV.list 0 2 l593, AV.func (Fn.func 112) [] []] [])
 fun r594 ↦
 Option.bind (ret1 r594) fun v595 ↦
 Option.bind (AV.int? IntKind.i64 v595) fun n596 ↦
 bif decide (n596 ≥ 0) then some (Out.ret (vbool true), []) else some (Out.ret (vbool false), []) := by
  intros
  exact (E_in [188] _ _ _).trans (by kernel_rfl)


theorem f45_c0_c1 : ∀ (l597 : List (List AV)),
 E cx (Key.fn 149) [AV.list 0 2 l597, AV.func (Fn.func 112) [] []] [] =
 Option.bind
 (E cx (Key.loop 149 [true, false, true, false])
 [vi 0, vi 0, AV.list 0 2 l597, AV.func (Fn.func 112) [] [], vi ((List.length l597) : Int)]
 [])
 fun r598 ↦
 Option.bind (asJump r598) fun j599 ↦
 bif JX.is j599.fst (JX.exit 0) then
 Option.bind (uncons? j599.snd.fst) fun p600 ↦
 Option.bind (AV.int? IntKind.i64 p600.fst) fun _ ↦
 Option.bind (uncons? p600.snd) fun p602 ↦
 Option.bind (AV.int? IntKind.i64 p602.fst) fun _ ↦
 Option.bind (nil? p602.snd) fun _ ↦
 Option.bind (nil? j599.snd.snd) fun _ ↦ some (Out.ret (vi (-1)), [])
 else
 bif JX.is j599.fst JX.ret then
 Option.bind (uncons? j599.snd.fst) fun p606 ↦
 Option.bind (AV.int? IntKind.i64 p606.fst) fun n607 ↦
 Option.bind (uncons? p606.snd) fun p608 ↦
 Option.bind (AV.int? IntKind.i64 p608.fst) fun _ ↦
 Option.bind (nil? p608.snd) fun _ ↦
 Option.bind (nil? j599.snd.snd) fun _ ↦ some (Out.ret (vi n607), [])
 else none := by
  intros
  exact (E_in [188] _ _ _).trans (by kernel_rfl)


theorem f45_c0_c1_l2 : ∀ (x612 x613 : Int) (l614 : List (List AV)) (x615 : Int),
 E cx (Key.loop 149 [true, false, true, false])
 [vi x612, vi x613, AV.list 0 2 l614, AV.func (Fn.func 112) [] [], vi x615] [] =
 bif decide (x613 < x615) then
 if 0 ≤ x613 then
 Option.bind l614[Int.toNat x613]? fun cs616 ↦
 Option.bind (uncons? cs616) fun p617 ↦
 Option.bind (AV.bool? p617.fst) fun b618 ↦
 Option.bind (uncons? p617.snd) fun p619 ↦
 Option.bind (AV.list? 2 p619.fst) fun es620 ↦
 Option.bind (nil? p619.snd) fun _ ↦
 Option.bind
 (E cx (Key.fn 112) [AV.agg [vbool b618, AV.list 0 2 es620]]
 [])
 fun r622 ↦
 Option.bind (ret1 r622) fun v623 ↦
 Option.bind (AV.bool? v623) fun b624 ↦
 bif b624 then some (Out.jump JX.ret [vi x613, vi x613], [])
 else
 E cx (Key.loop 149 [true, false, true, false])
 [vi x612, vi (IntKind.wrap IntKind.i64 (Int.add x613 1)), AV.list 0 2 l614,
 AV.func (Fn.func 112) [] [], vi x615]
 []
 else none
 else some (Out.jump (JX.exit 0) [vi x612, vi x613], []) := by
  intros
  exact (E_in [188] _ _ _).trans (by kernel_rfl)


theorem f45_l3 : ∀ (x625 x626 : Int) (l627 : List (List AV)) (x628 : Int) (b629 : Bool) (n630 : Nat) (l631 : List (List AV)),
 E cx (Key.loop 45 [true, true, false, true, false])
 [vi x625, vi x626, AV.ptr 0 0 0 0, AV.list 0 2 l627, vi x628]
 [Ob.mk OK.box 36 2 0 [[vbool b629, AV.arr 1 2 0 n630]],
 Ob.mk OK.arr 80 2 2 l631] =
 bif decide (x626 < x628) then
 if 0 ≤ x626 then
 Option.bind l627[Int.toNat x626]? fun cs632 ↦
 Option.bind (uncons? cs632) fun p633 ↦
 Option.bind (AV.bool? p633.fst) fun b634 ↦
 Option.bind (uncons? p633.snd) fun p635 ↦
 Option.bind (AV.list? 2 p635.fst) fun es636 ↦
 Option.bind (nil? p635.snd) fun _ ↦
 bif decide (b629 = false) then
 bif decide (b629 = false) then
 bif b629 then
 bif ysOk es636 then
 Option.bind (chk n630 (List.length (Ob.mk OK.arr 80 2 2 l631).es)) fun _ ↦
 if
 Nat.mul (Nat.add (List.length (Ob.mk OK.arr 80 2 2 l631).es) (List.length es636)) 16 ≤
 140737488355328 then
 bif decide (((Nat.add (List.length (Ob.mk OK.arr 80 2 2 l631).es) (List.length es636)) : Int) > 2048) then
 some
 (Out.jump JX.ret [vi 4, vi x626],
 [Ob.mk OK.box 36 2 0
 [[vbool false, AV.val (Value.slice none 0 0)]],
 Ob.mk OK.dead 80 2 2 []])
 else
 E cx (Key.loop 45 [true, true, false, true, false])
 [vi x625, vi (IntKind.wrap IntKind.i64 (Int.add x626 1)), AV.ptr 0 0 0 0,
 AV.list 0 2 l627, vi x628]
 [Ob.mk OK.box 36 2 0
 [[vbool true,
 AV.arr 1 2 0
 (Nat.add (List.length (Ob.mk OK.arr 80 2 2 l631).es) (List.length es636))]],
 Ob.mk OK.arr 80 2 2 ((Ob.mk OK.arr 80 2 2 l631).es ++ es636)]
 else none
 else none
 else
 bif ysOk es636 then
 Option.bind (chk n630 (List.length (Ob.mk OK.arr 80 2 2 l631).es)) fun _ ↦
 if
 Nat.mul (Nat.add (List.length (Ob.mk OK.arr 80 2 2 l631).es) (List.length es636)) 16 ≤
 140737488355328 then
 bif decide (((Nat.add (List.length (Ob.mk OK.arr 80 2 2 l631).es) (List.length es636)) : Int) > 2048) then
 some
 (Out.jump JX.ret [vi 4, vi x626],
 [Ob.mk OK.box 36 2 0
 [[vbool false, AV.val (Value.slice none 0 0)]],
 Ob.mk OK.dead 80 2 2 []])
 else
 E cx (Key.loop 45 [true, true, false, true, false])
 [vi x625, vi (IntKind.wrap IntKind.i64 (Int.add x626 1)), AV.ptr 0 0 0 0,
 AV.list 0 2 l627, vi x628]
 [Ob.mk OK.box 36 2 0
 [[vbool b634,
 AV.arr 1 2 0
 (Nat.add (List.length (Ob.mk OK.arr 80 2 2 l631).es) (List.length es636))]],
 Ob.mk OK.arr 80 2 2 ((Ob.mk OK.arr 80 2 2 l631).es ++ es636)]
 else none
 else none
 else
 bif b629 then
 bif ysOk es636 then
 Option.bind (chk n630 (List.length (Ob.mk OK.arr 80 2 2 l631).es)) fun _ ↦
 if
 Nat.mul (Nat.add (List.length (Ob.mk OK.arr 80 2 2 l631).es) (List.length es636)) 16 ≤
 140737488355328 then
 bif decide (((Nat.add (List.length (Ob.mk OK.arr 80 2 2 l631).es) (List.length es636)) : Int) > 2048) then
 some
 (Out.jump JX.ret [vi 4, vi x626],
 [Ob.mk OK.box 36 2 0
 [[vbool false, AV.val (Value.slice none 0 0)]],
 Ob.mk OK.dead 80 2 2 []])
 else
 E cx (Key.loop 45 [true, true, false, true, false])
 [vi x625, vi (IntKind.wrap IntKind.i64 (Int.add x626 1)), AV.ptr 0 0 0 0,
 AV.list 0 2 l627, vi x628]
 [Ob.mk OK.box 36 2 0
 [[vbool true,
 AV.arr 1 2 0
 (Nat.add (List.length (Ob.mk OK.arr 80 2 2 l631).es) (List.length es636))]],
 Ob.mk OK.arr 80 2 2 ((Ob.mk OK.arr 80 2 2 l631).es ++ es636)]
 else none
 else none
 else none
 else
 bif decide (b629 = false) then none
 else
 bif b629 then
 bif ysOk es636 then
 Option.bind (chk n630 (List.length (Ob.mk OK.arr 80 2 2 l631).es)) fun _ ↦
 if
 Nat.mul (Nat.add (List.length (Ob.mk OK.arr 80 2 2 l631).es) (List.length es636)) 16 ≤
 140737488355328 then
 bif decide (((Nat.add (List.length (Ob.mk OK.arr 80 2 2 l631).es) (List.length es636)) : Int) > 2048) then
 some
 (Out.jump JX.ret [vi 4, vi x626],
 [Ob.mk OK.box 36 2 0
 [[vbool false, AV.val (Value.slice none 0 0)]],
 Ob.mk OK.dead 80 2 2 []])
 else
 E cx (Key.loop 45 [true, true, false, true, false])
 [vi x625, vi (IntKind.wrap IntKind.i64 (Int.add x626 1)), AV.ptr 0 0 0 0,
 AV.list 0 2 l627, vi x628]
 [Ob.mk OK.box 36 2 0
 [[vbool true,
 AV.arr 1 2 0
 (Nat.add (List.length (Ob.mk OK.arr 80 2 2 l631).es) (List.length es636))]],
 Ob.mk OK.arr 80 2 2 ((Ob.mk OK.arr 80 2 2 l631).es ++ es636)]
 else none
 else none
 else none
 else none
 else
 some
 (Out.jump (JX.exit 0) [vi x625, vi x626],
 [Ob.mk OK.box 36 2 0 [[vbool b629, AV.arr 1 2 0 n630]],
 Ob.mk OK.arr 80 2 2 l631]) := by
  intros
  exact (E_in [188] _ _ _).trans (by kernel_rfl)


theorem f46 : ∀ (l642 : List (List AV)),
 E cx (Key.fn 46) [AV.list 0 2 l642] [] =
 Option.bind
 (E cx (Key.loop 46 [true, false, true, false])
 [vi 0, vi 0, AV.list 0 2 l642, AV.ptr 0 0 0 0]
 [Ob.mk OK.box 36 2 0 [[vbool false, AV.val (Value.slice none 0 0)]]])
 fun r643 ↦
 Option.bind (asJump r643) fun j644 ↦
 bif JX.is j644.fst (JX.exit 0) then
 Option.bind (uncons? j644.snd.fst) fun p645 ↦
 Option.bind (AV.int? IntKind.i64 p645.fst) fun n646 ↦
 Option.bind (uncons? p645.snd) fun p647 ↦
 Option.bind (AV.int? IntKind.i64 p647.fst) fun _ ↦
 Option.bind (nil? p647.snd) fun _ ↦
 Option.bind (uncons? j644.snd.snd) fun p650 ↦
 Option.bind
 (obIs
 (Ob.mk OK.box 36 2 0 [[vbool false, AV.val (Value.slice none 0 0)]]) p650.fst)
 fun _ ↦
 Option.bind (chk p650.fst.ver 0) fun _ ↦
 Option.bind (uncons? p650.fst.es) fun p653 ↦
 Option.bind (nil? p653.snd) fun _ ↦
 Option.bind (uncons? p653.fst) fun p655 ↦
 Option.bind (AV.bool? p655.fst) fun b656 ↦
 Option.bind (uncons? p655.snd) fun p657 ↦
 Option.bind (AV.nilS? p657.fst) fun _ ↦
 Option.bind (nil? p657.snd) fun _ ↦
 Option.bind (nil? p650.snd) fun _ ↦
 Option.bind
 (E cx (Key.loop 46 [true, true, true, false, true, false])
 [vi n646, vi 0, AV.list 0 2 l642, AV.ptr 0 0 0 0,
 AV.ptr 1 0 0 0]
 [Ob.mk OK.box 36 2 0
 [[vbool b656, AV.val (Value.slice none 0 0)]],
 Ob.mk OK.box 36 2 0 [[vbool false, AV.list 0 2 []]]])
 fun r661 ↦
 Option.bind (asJump r661) fun j662 ↦
 bif JX.is j662.fst (JX.exit 2) then
 Option.bind (uncons? j662.snd.fst) fun p663 ↦
 Option.bind (AV.int? IntKind.i64 p663.fst) fun _ ↦
 Option.bind (uncons? p663.snd) fun p665 ↦
 Option.bind (AV.int? IntKind.i64 p665.fst) fun _ ↦
 Option.bind (nil? p665.snd) fun _ ↦
 Option.bind (uncons? j662.snd.snd) fun p668 ↦
 Option.bind
 (obIs
 (Ob.mk OK.box 36 2 0
 [[vbool b656, AV.val (Value.slice none 0 0)]])
 p668.fst)
 fun _ ↦
 Option.bind (chk p668.fst.ver 0) fun _ ↦
 Option.bind (uncons? p668.fst.es) fun p671 ↦
 Option.bind (nil? p671.snd) fun _ ↦
 Option.bind (uncons? p671.fst) fun p673 ↦
 Option.bind (AV.bool? p673.fst) fun _ ↦
 Option.bind (uncons? p673.snd) fun p675 ↦
 Option.bind (AV.nilS? p675.fst) fun _ ↦
 Option.bind (nil? p675.snd) fun _ ↦
 Option.bind (uncons? p668.snd) fun p678 ↦
 Option.bind
 (obIs
 (Ob.mk OK.box 36 2 0
 [[vbool false, AV.list 0 2 []]])
 p678.fst)
 fun _ ↦
 Option.bind (chk p678.fst.ver 0) fun _ ↦
 Option.bind (uncons? p678.fst.es) fun p681 ↦
 Option.bind (nil? p681.snd) fun _ ↦
 Option.bind (uncons? p681.fst) fun p683 ↦
 Option.bind (AV.bool? p683.fst) fun b684 ↦
 Option.bind (uncons? p683.snd) fun p685 ↦
 Option.bind (AV.list? 2 p685.fst) fun es686 ↦
 Option.bind (nil? p685.snd) fun _ ↦
 Option.bind (nil? p678.snd) fun _ ↦
 some
 (Out.ret
 (AV.tuple
 [AV.agg
 [vbool b684,
 AV.list 0 2 es686],
 vi 0]),
 [])
 else
 bif JX.is j662.fst JX.ret then
 Option.bind (uncons? j662.snd.fst) fun p689 ↦
 Option.bind (AV.int? IntKind.i64 p689.fst) fun n690 ↦
 Option.bind (uncons? p689.snd) fun p691 ↦
 Option.bind (AV.int? IntKind.i64 p691.fst) fun _ ↦
 Option.bind (nil? p691.snd) fun _ ↦
 Option.bind (uncons? j662.snd.snd) fun p694 ↦
 Option.bind
 (obIs
 (Ob.mk OK.box 36 2 0
 [[vbool b656, AV.val (Value.slice none 0 0)]])
 p694.fst)
 fun _ ↦
 Option.bind (chk p694.fst.ver 0) fun _ ↦
 Option.bind (uncons? p694.fst.es) fun p697 ↦
 Option.bind (nil? p697.snd) fun _ ↦
 Option.bind (uncons? p697.fst) fun p699 ↦
 Option.bind (AV.bool? p699.fst) fun b700 ↦
 Option.bind (uncons? p699.snd) fun p701 ↦
 Option.bind (AV.nilS? p701.fst) fun _ ↦
 Option.bind (nil? p701.snd) fun _ ↦
 Option.bind (uncons? p694.snd) fun p704 ↦
 Option.bind
 (obIs
 (Ob.mk OK.box 36 2 0
 [[vbool false, AV.list 0 2 []]])
 p704.fst)
 fun _ ↦
 Option.bind (chk p704.fst.ver 0) fun _ ↦
 Option.bind (uncons? p704.fst.es) fun p707 ↦
 Option.bind (nil? p707.snd) fun _ ↦
 Option.bind (uncons? p707.fst) fun p709 ↦
 Option.bind (AV.bool? p709.fst) fun _ ↦
 Option.bind (uncons? p709.snd) fun p711 ↦
 Option.bind (AV.list? 2 p711.fst) fun _ ↦
 Option.bind (nil? p711.snd) fun _ ↦
 Option.bind (nil? p704.snd) fun _ ↦
 some
 (Out.ret
 (AV.tuple
 [AV.agg
 [vbool b700,
 AV.val
 (Value.slice none 0 0)],
 vi n690]),
 [])
 else none
 else
 bif JX.is j644.fst JX.ret then
 Option.bind (uncons? j644.snd.fst) fun p715 ↦
 Option.bind (AV.int? IntKind.i64 p715.fst) fun n716 ↦
 Option.bind (uncons? p715.snd) fun p717 ↦
 Option.bind (AV.int? IntKind.i64 p717.fst) fun _ ↦
 Option.bind (nil? p717.snd) fun _ ↦
 Option.bind (uncons? j644.snd.snd) fun p720 ↦
 Option.bind
 (obIs
 (Ob.mk OK.box 36 2 0 [[vbool false, AV.val (Value.slice none 0 0)]])
 p720.fst)
 fun _ ↦
 Option.bind (chk p720.fst.ver 0) fun _ ↦
 Option.bind (uncons? p720.fst.es) fun p723 ↦
 Option.bind (nil? p723.snd) fun _ ↦
 Option.bind (uncons? p723.fst) fun p725 ↦
 Option.bind (AV.bool? p725.fst) fun b726 ↦
 Option.bind (uncons? p725.snd) fun p727 ↦
 Option.bind (AV.nilS? p727.fst) fun _ ↦
 Option.bind (nil? p727.snd) fun _ ↦
 Option.bind (nil? p720.snd) fun _ ↦
 some
 (Out.ret
 (AV.tuple
 [AV.agg [vbool b726, AV.val (Value.slice none 0 0)],
 vi n716]),
 [])
 else none := by
  intros
  exact (E_in [188] _ _ _).trans (by kernel_rfl)


theorem f46_l0 : ∀ (x731 x732 : Int) (l733 : List (List AV)) (b734 : Bool),
 E cx (Key.loop 46 [true, false, true, false])
 [vi x731, vi x732, AV.list 0 2 l733, AV.ptr 0 0 0 0]
 [Ob.mk OK.box 36 2 0 [[vbool b734, AV.val (Value.slice none 0 0)]]] =
 bif decide (x732 < ((List.length l733) : Int)) then
 if 0 ≤ x732 then
 Option.bind l733[Int.toNat x732]? fun cs735 ↦
 Option.bind (uncons? cs735) fun p736 ↦
 Option.bind (AV.bool? p736.fst) fun b737 ↦
 Option.bind (uncons? p736.snd) fun p738 ↦
 Option.bind (AV.list? 2 p738.fst) fun es739 ↦
 Option.bind (nil? p738.snd) fun _ ↦
 Option.bind
 (E cx (Key.fn 41) [AV.agg [vbool b737, AV.list 0 2 es739]]
 [])
 fun r741 ↦
 Option.bind (ret1 r741) fun v742 ↦
 Option.bind (AV.bool? v742) fun b743 ↦
 bif b743 then
 E cx (Key.loop 46 [true, false, true, false])
 [vi x731, vi (IntKind.wrap IntKind.i64 (Int.add x732 1)), AV.list 0 2 l733,
 AV.ptr 0 0 0 0]
 [Ob.mk OK.box 36 2 0 [[vbool b734, AV.val (Value.slice none 0 0)]]]
 else
 some
 (Out.jump JX.ret [vi 1, vi x732],
 [Ob.mk OK.box 36 2 0 [[vbool false, AV.val (Value.slice none 0 0)]]])
 else none
 else
 some
 (Out.jump (JX.exit 0) [vi x731, vi x732],
 [Ob.mk OK.box 36 2 0 [[vbool b734, AV.val (Value.slice none 0 0)]]]) := by
  intros
  exact (E_in [188] _ _ _).trans (by kernel_rfl)


theorem f46_l1 : ∀ (x744 x745 : Int) (l746 : List (List AV)) (b747 b748 : Bool) (l749 : List (List AV)),
 E cx (Key.loop 46 [true, true, true, false, true, false])
 [vi x744, vi x745, AV.list 0 2 l746, AV.ptr 0 0 0 0, AV.ptr 1 0 0 0]
 [Ob.mk OK.box 36 2 0 [[vbool b747, AV.val (Value.slice none 0 0)]],
 Ob.mk OK.box 36 2 0 [[vbool b748, AV.list 0 2 l749]]] =
 bif decide (x745 < ((List.length l746) : Int)) then
 bif decide (b748 = false) then
 bif decide (b748 = false) then
 bif decide (b748 = false) then
 if 0 ≤ x745 then
 Option.bind l746[Int.toNat x745]? fun cs750 ↦
 Option.bind (uncons? cs750) fun p751 ↦
 Option.bind (AV.bool? p751.fst) fun b752 ↦
 Option.bind (uncons? p751.snd) fun p753 ↦
 Option.bind (AV.list? 2 p753.fst) fun _ ↦
 Option.bind (nil? p753.snd) fun _ ↦
 bif decide (b748 = false) then
 bif decide (b748 = false) then
 bif b748 then
 if 0 ≤ x745 then
 Option.bind l746[Int.toNat x745]? fun cs756 ↦
 Option.bind (uncons? cs756) fun p757 ↦
 Option.bind (AV.bool? p757.fst) fun _ ↦
 Option.bind (uncons? p757.snd) fun p759 ↦
 Option.bind (AV.list? 2 p759.fst) fun es760 ↦
 Option.bind (nil? p759.snd) fun _ ↦
 Option.bind
 (E cx (Key.fn 114)
 [AV.list 0 2 l749, AV.list 0 2 es760] [])
 fun r762 ↦
 Option.bind (ret1 r762) fun v763 ↦
 Option.bind (AV.list? 2 v763) fun es764 ↦
 bif decide (((List.length es764) : Int) > 2048) then
 some
 (Out.jump JX.ret [vi 4, vi x745],
 [Ob.mk OK.box 36 2 0
 [[vbool false, AV.val (Value.slice none 0 0)]],
 Ob.mk OK.box 36 2 0
 [[vbool true, AV.list 0 2 es764]]])
 else
 E cx (Key.loop 46 [true, true, true, false, true, false])
 [vi x744, vi (IntKind.wrap IntKind.i64 (Int.add x745 1)),
 AV.list 0 2 l746, AV.ptr 0 0 0 0, AV.ptr 1 0 0 0]
 [Ob.mk OK.box 36 2 0
 [[vbool b747, AV.val (Value.slice none 0 0)]],
 Ob.mk OK.box 36 2 0
 [[vbool true, AV.list 0 2 es764]]]
 else none
 else
 if 0 ≤ x745 then
 Option.bind l746[Int.toNat x745]? fun cs765 ↦
 Option.bind (uncons? cs765) fun p766 ↦
 Option.bind (AV.bool? p766.fst) fun _ ↦
 Option.bind (uncons? p766.snd) fun p768 ↦
 Option.bind (AV.list? 2 p768.fst) fun es769 ↦
 Option.bind (nil? p768.snd) fun _ ↦
 Option.bind
 (E cx (Key.fn 114)
 [AV.list 0 2 l749, AV.list 0 2 es769] [])
 fun r771 ↦
 Option.bind (ret1 r771) fun v772 ↦
 Option.bind (AV.list? 2 v772) fun es773 ↦
 bif decide (((List.length es773) : Int) > 2048) then
 some
 (Out.jump JX.ret [vi 4, vi x745],
 [Ob.mk OK.box 36 2 0
 [[vbool false, AV.val (Value.slice none 0 0)]],
 Ob.mk OK.box 36 2 0
 [[vbool b752, AV.list 0 2 es773]]])
 else
 E cx (Key.loop 46 [true, true, true, false, true, false])
 [vi x744, vi (IntKind.wrap IntKind.i64 (Int.add x745 1)),
 AV.list 0 2 l746, AV.ptr 0 0 0 0, AV.ptr 1 0 0 0]
 [Ob.mk OK.box 36 2 0
 [[vbool b747, AV.val (Value.slice none 0 0)]],
 Ob.mk OK.box 36 2 0
 [[vbool b752, AV.list 0 2 es773]]]
 else none
 else
 bif b748 then
 if 0 ≤ x745 then
 Option.bind l746[Int.toNat x745]? fun cs774 ↦
 Option.bind (uncons? cs774) fun p775 ↦
 Option.bind (AV.bool? p775.fst) fun _ ↦
 Option.bind (uncons? p775.snd) fun p777 ↦
 Option.bind (AV.list? 2 p777.fst) fun es778 ↦
 Option.bind (nil? p777.snd) fun _ ↦
 Option.bind
 (E cx (Key.fn 114)
 [AV.list 0 2 l749, AV.list 0 2 es778] [])
 fun r780 ↦
 Option.bind (ret1 r780) fun v781 ↦
 Option.bind (AV.list? 2 v781) fun es782 ↦
 bif decide (((List.length es782) : Int) > 2048) then
 some
 (Out.jump JX.ret [vi 4, vi x745],
 [Ob.mk OK.box 36 2 0
 [[vbool false, AV.val (Value.slice none 0 0)]],
 Ob.mk OK.box 36 2 0
 [[vbool true, AV.list 0 2 es782]]])
 else
 E cx (Key.loop 46 [true, true, true, false, true, false])
 [vi x744, vi (IntKind.wrap IntKind.i64 (Int.add x745 1)),
 AV.list 0 2 l746, AV.ptr 0 0 0 0, AV.ptr 1 0 0 0]
 [Ob.mk OK.box 36 2 0
 [[vbool b747, AV.val (Value.slice none 0 0)]],
 Ob.mk OK.box 36 2 0
 [[vbool true, AV.list 0 2 es782]]]
 else none
 else none
 else
 bif decide (b748 = false) then none
 else
 bif b748 then
 if 0 ≤ x745 then
 Option.bind l746[Int.toNat x745]? fun cs783 ↦
 Option.bind (uncons? cs783) fun p784 ↦
 Option.bind (AV.bool? p784.fst) fun _ ↦
 Option.bind (uncons? p784.snd) fun p786 ↦
 Option.bind (AV.list? 2 p786.fst) fun es787 ↦
 Option.bind (nil? p786.snd) fun _ ↦
 Option.bind
 (E cx (Key.fn 114)
 [AV.list 0 2 l749, AV.list 0 2 es787] [])
 fun r789 ↦
 Option.bind (ret1 r789) fun v790 ↦
 Option.bind (AV.list? 2 v790) fun es791 ↦
 bif decide (((List.length es791) : Int) > 2048) then
 some
 (Out.jump JX.ret [vi 4, vi x745],
 [Ob.mk OK.box 36 2 0
 [[vbool false, AV.val (Value.slice none 0 0)]],
 Ob.mk OK.box 36 2 0
 [[vbool true, AV.list 0 2 es791]]])
 else
 E cx (Key.loop 46 [true, true, true, false, true, false])
 [vi x744, vi (IntKind.wrap IntKind.i64 (Int.add x745 1)),
 AV.list 0 2 l746, AV.ptr 0 0 0 0, AV.ptr 1 0 0 0]
 [Ob.mk OK.box 36 2 0
 [[vbool b747, AV.val (Value.slice none 0 0)]],
 Ob.mk OK.box 36 2 0
 [[vbool true, AV.list 0 2 es791]]]
 else none
 else none
 else none
 else
 bif decide (b748 = false) then none
 else
 bif decide (b748 = false) then none
 else
 bif b748 then
 if 0 ≤ x745 then
 Option.bind l746[Int.toNat x745]? fun cs792 ↦
 Option.bind (uncons? cs792) fun p793 ↦
 Option.bind (AV.bool? p793.fst) fun _ ↦
 Option.bind (uncons? p793.snd) fun p795 ↦
 Option.bind (AV.list? 2 p795.fst) fun es796 ↦
 Option.bind (nil? p795.snd) fun _ ↦
 Option.bind
 (E cx (Key.fn 114) [AV.list 0 2 l749, AV.list 0 2 es796] [])
 fun r798 ↦
 Option.bind (ret1 r798) fun v799 ↦
 Option.bind (AV.list? 2 v799) fun es800 ↦
 bif decide (((List.length es800) : Int) > 2048) then
 some
 (Out.jump JX.ret [vi 4, vi x745],
 [Ob.mk OK.box 36 2 0
 [[vbool false, AV.val (Value.slice none 0 0)]],
 Ob.mk OK.box 36 2 0 [[vbool true, AV.list 0 2 es800]]])
 else
 E cx (Key.loop 46 [true, true, true, false, true, false])
 [vi x744, vi (IntKind.wrap IntKind.i64 (Int.add x745 1)),
 AV.list 0 2 l746, AV.ptr 0 0 0 0, AV.ptr 1 0 0 0]
 [Ob.mk OK.box 36 2 0
 [[vbool b747, AV.val (Value.slice none 0 0)]],
 Ob.mk OK.box 36 2 0 [[vbool true, AV.list 0 2 es800]]]
 else none
 else none
 else
 bif decide (b748 = false) then none
 else
 bif decide (b748 = false) then none
 else
 bif decide (b748 = false) then none
 else
 bif b748 then
 if 0 ≤ x745 then
 Option.bind l746[Int.toNat x745]? fun cs801 ↦
 Option.bind (uncons? cs801) fun p802 ↦
 Option.bind (AV.bool? p802.fst) fun _ ↦
 Option.bind (uncons? p802.snd) fun p804 ↦
 Option.bind (AV.list? 2 p804.fst) fun es805 ↦
 Option.bind (nil? p804.snd) fun _ ↦
 Option.bind
 (E cx (Key.fn 114) [AV.list 0 2 l749, AV.list 0 2 es805] [])
 fun r807 ↦
 Option.bind (ret1 r807) fun v808 ↦
 Option.bind (AV.list? 2 v808) fun es809 ↦
 bif decide (((List.length es809) : Int) > 2048) then
 some
 (Out.jump JX.ret [vi 4, vi x745],
 [Ob.mk OK.box 36 2 0
 [[vbool false, AV.val (Value.slice none 0 0)]],
 Ob.mk OK.box 36 2 0 [[vbool true, AV.list 0 2 es809]]])
 else
 E cx (Key.loop 46 [true, true, true, false, true, false])
 [vi x744, vi (IntKind.wrap IntKind.i64 (Int.add x745 1)),
 AV.list 0 2 l746, AV.ptr 0 0 0 0, AV.ptr 1 0 0 0]
 [Ob.mk OK.box 36 2 0
 [[vbool b747, AV.val (Value.slice none 0 0)]],
 Ob.mk OK.box 36 2 0 [[vbool true, AV.list 0 2 es809]]]
 else none
 else none
 else
 bif decide (b748 = false) then
 bif decide (b748 = false) then none
 else
 bif decide (b748 = false) then none
 else
 bif decide (b748 = false) then none
 else
 bif b748 then
 if 0 ≤ x745 then
 Option.bind l746[Int.toNat x745]? fun cs810 ↦
 Option.bind (uncons? cs810) fun p811 ↦
 Option.bind (AV.bool? p811.fst) fun _ ↦
 Option.bind (uncons? p811.snd) fun p813 ↦
 Option.bind (AV.list? 2 p813.fst) fun es814 ↦
 Option.bind (nil? p813.snd) fun _ ↦
 Option.bind
 (E cx (Key.fn 114) [AV.list 0 2 l749, AV.list 0 2 es814] [])
 fun r816 ↦
 Option.bind (ret1 r816) fun v817 ↦
 Option.bind (AV.list? 2 v817) fun es818 ↦
 bif decide (((List.length es818) : Int) > 2048) then
 some
 (Out.jump JX.ret [vi 4, vi x745],
 [Ob.mk OK.box 36 2 0
 [[vbool false, AV.val (Value.slice none 0 0)]],
 Ob.mk OK.box 36 2 0 [[vbool true, AV.list 0 2 es818]]])
 else
 E cx (Key.loop 46 [true, true, true, false, true, false])
 [vi x744, vi (IntKind.wrap IntKind.i64 (Int.add x745 1)),
 AV.list 0 2 l746, AV.ptr 0 0 0 0, AV.ptr 1 0 0 0]
 [Ob.mk OK.box 36 2 0
 [[vbool b747, AV.val (Value.slice none 0 0)]],
 Ob.mk OK.box 36 2 0 [[vbool true, AV.list 0 2 es818]]]
 else none
 else none
 else
 bif decide (b748 = false) then none
 else
 bif decide (b748 = false) then none
 else
 bif decide (b748 = false) then none
 else
 bif b748 then
 if 0 ≤ x745 then
 Option.bind l746[Int.toNat x745]? fun cs819 ↦
 Option.bind (uncons? cs819) fun p820 ↦
 Option.bind (AV.bool? p820.fst) fun _ ↦
 Option.bind (uncons? p820.snd) fun p822 ↦
 Option.bind (AV.list? 2 p822.fst) fun es823 ↦
 Option.bind (nil? p822.snd) fun _ ↦
 Option.bind
 (E cx (Key.fn 114) [AV.list 0 2 l749, AV.list 0 2 es823] [])
 fun r825 ↦
 Option.bind (ret1 r825) fun v826 ↦
 Option.bind (AV.list? 2 v826) fun es827 ↦
 bif decide (((List.length es827) : Int) > 2048) then
 some
 (Out.jump JX.ret [vi 4, vi x745],
 [Ob.mk OK.box 36 2 0
 [[vbool false, AV.val (Value.slice none 0 0)]],
 Ob.mk OK.box 36 2 0 [[vbool true, AV.list 0 2 es827]]])
 else
 E cx (Key.loop 46 [true, true, true, false, true, false])
 [vi x744, vi (IntKind.wrap IntKind.i64 (Int.add x745 1)),
 AV.list 0 2 l746, AV.ptr 0 0 0 0, AV.ptr 1 0 0 0]
 [Ob.mk OK.box 36 2 0
 [[vbool b747, AV.val (Value.slice none 0 0)]],
 Ob.mk OK.box 36 2 0 [[vbool true, AV.list 0 2 es827]]]
 else none
 else none
 else
 some
 (Out.jump (JX.exit 2) [vi x744, vi x745],
 [Ob.mk OK.box 36 2 0 [[vbool b747, AV.val (Value.slice none 0 0)]],
 Ob.mk OK.box 36 2 0 [[vbool b748, AV.list 0 2 l749]]]) := by
  intros
  exact (E_in [188] _ _ _).trans (by kernel_rfl)


theorem f47 : ∀ (a828 : Bool) (a829 : List (List AV)) (b830 : Bool) (b831 : List (List AV)),
 E cx (Key.fn 47)
 [AV.agg [vbool a828, AV.list 0 2 a829],
 AV.agg [vbool b830, AV.list 0 2 b831]]
 [] =
 bif !decide (a828 = b830) then some (Out.ret (vbool false), [])
 else
 bif ((List.length a829) : Int) != ((List.length b831) : Int) then some (Out.ret (vbool false), [])
 else
 Option.bind
 (E cx (Key.loop 47 [true, true, false, true, false])
 [vbool false, vi 0, AV.ptr 0 0 0 0, AV.ptr 1 0 0 0]
 [Ob.mk OK.box 36 2 0 [[vbool a828, AV.list 0 2 a829]],
 Ob.mk OK.box 36 2 0 [[vbool b830, AV.list 0 2 b831]]])
 fun r832 ↦
 Option.bind (asJump r832) fun j833 ↦
 bif JX.is j833.fst (JX.exit 0) then
 Option.bind (uncons? j833.snd.fst) fun p834 ↦
 Option.bind (AV.bool? p834.fst) fun _ ↦
 Option.bind (uncons? p834.snd) fun p836 ↦
 Option.bind (AV.int? IntKind.i64 p836.fst) fun _ ↦
 Option.bind (nil? p836.snd) fun _ ↦
 Option.bind (uncons? j833.snd.snd) fun p839 ↦
 Option.bind
 (obIs (Ob.mk OK.box 36 2 0 [[vbool a828, AV.list 0 2 a829]])
 p839.fst)
 fun _ ↦
 Option.bind (chk p839.fst.ver 0) fun _ ↦
 Option.bind (uncons? p839.fst.es) fun p842 ↦
 Option.bind (nil? p842.snd) fun _ ↦
 Option.bind (uncons? p842.fst) fun p844 ↦
 Option.bind (AV.bool? p844.fst) fun _ ↦
 Option.bind (uncons? p844.snd) fun p846 ↦
 Option.bind (AV.list? 2 p846.fst) fun _ ↦
 Option.bind (nil? p846.snd) fun _ ↦
 Option.bind (uncons? p839.snd) fun p849 ↦
 Option.bind
 (obIs
 (Ob.mk OK.box 36 2 0 [[vbool b830, AV.list 0 2 b831]])
 p849.fst)
 fun _ ↦
 Option.bind (chk p849.fst.ver 0) fun _ ↦
 Option.bind (uncons? p849.fst.es) fun p852 ↦
 Option.bind (nil? p852.snd) fun _ ↦
 Option.bind (uncons? p852.fst) fun p854 ↦
 Option.bind (AV.bool? p854.fst) fun _ ↦
 Option.bind (uncons? p854.snd) fun p856 ↦
 Option.bind (AV.list? 2 p856.fst) fun _ ↦
 Option.bind (nil? p856.snd) fun _ ↦
 Option.bind (nil? p849.snd) fun _ ↦
 some (Out.ret (vbool true), [])
 else
 bif JX.is j833.fst JX.ret then
 Option.bind (uncons? j833.snd.fst) fun p860 ↦
 Option.bind (AV.bool? p860.fst) fun b861 ↦
 Option.bind (uncons? p860.snd) fun p862 ↦
 Option.bind (AV.int? IntKind.i64 p862.fst) fun _ ↦
 Option.bind (nil? p862.snd) fun _ ↦
 Option.bind (uncons? j833.snd.snd) fun p865 ↦
 Option.bind
 (obIs (Ob.mk OK.box 36 2 0 [[vbool a828, AV.list 0 2 a829]])
 p865.fst)
 fun _ ↦
 Option.bind (chk p865.fst.ver 0) fun _ ↦
 Option.bind (uncons? p865.fst.es) fun p868 ↦
 Option.bind (nil? p868.snd) fun _ ↦
 Option.bind (uncons? p868.fst) fun p870 ↦
 Option.bind (AV.bool? p870.fst) fun _ ↦
 Option.bind (uncons? p870.snd) fun p872 ↦
 Option.bind (AV.list? 2 p872.fst) fun _ ↦
 Option.bind (nil? p872.snd) fun _ ↦
 Option.bind (uncons? p865.snd) fun p875 ↦
 Option.bind
 (obIs
 (Ob.mk OK.box 36 2 0 [[vbool b830, AV.list 0 2 b831]])
 p875.fst)
 fun _ ↦
 Option.bind (chk p875.fst.ver 0) fun _ ↦
 Option.bind (uncons? p875.fst.es) fun p878 ↦
 Option.bind (nil? p878.snd) fun _ ↦
 Option.bind (uncons? p878.fst) fun p880 ↦
 Option.bind (AV.bool? p880.fst) fun _ ↦
 Option.bind (uncons? p880.snd) fun p882 ↦
 Option.bind (AV.list? 2 p882.fst) fun _ ↦
 Option.bind (nil? p882.snd) fun _ ↦
 Option.bind (nil? p875.snd) fun _ ↦
 some (Out.ret (vbool b861), [])
 else none := by
  intros
  exact (E_in [188] _ _ _).trans (by kernel_rfl)


theorem f47_l0 : ∀ (b886 : Bool) (x887 : Int) (b888 : Bool) (l889 : List (List AV)) (b890 : Bool) (l891 : List (List AV)),
 E cx (Key.loop 47 [true, true, false, true, false])
 [vbool b886, vi x887, AV.ptr 0 0 0 0, AV.ptr 1 0 0 0]
 [Ob.mk OK.box 36 2 0 [[vbool b888, AV.list 0 2 l889]],
 Ob.mk OK.box 36 2 0 [[vbool b890, AV.list 0 2 l891]]] =
 bif decide (x887 < ((List.length l889) : Int)) then
 if 0 ≤ x887 then
 Option.bind l889[Int.toNat x887]? fun cs892 ↦
 Option.bind (uncons? cs892) fun p893 ↦
 Option.bind (AV.int? IntKind.u64 p893.fst) fun n894 ↦
 Option.bind (uncons? p893.snd) fun p895 ↦
 Option.bind (AV.int? IntKind.u64 p895.fst) fun n896 ↦
 Option.bind (nil? p895.snd) fun _ ↦
 if 0 ≤ x887 then
 Option.bind l891[Int.toNat x887]? fun cs898 ↦
 Option.bind (uncons? cs898) fun p899 ↦
 Option.bind (AV.int? IntKind.u64 p899.fst) fun n900 ↦
 Option.bind (uncons? p899.snd) fun p901 ↦
 Option.bind (AV.int? IntKind.u64 p901.fst) fun n902 ↦
 Option.bind (nil? p901.snd) fun _ ↦
 bif !(decide (n894 = n900) && (decide (n896 = n902) && true)) then
 some
 (Out.jump JX.ret [vbool false, vi x887],
 [Ob.mk OK.box 36 2 0 [[vbool b888, AV.list 0 2 l889]],
 Ob.mk OK.box 36 2 0 [[vbool b890, AV.list 0 2 l891]]])
 else
 E cx (Key.loop 47 [true, true, false, true, false])
 [vbool b886, vi (IntKind.wrap IntKind.i64 (Int.add x887 1)), AV.ptr 0 0 0 0,
 AV.ptr 1 0 0 0]
 [Ob.mk OK.box 36 2 0 [[vbool b888, AV.list 0 2 l889]],
 Ob.mk OK.box 36 2 0 [[vbool b890, AV.list 0 2 l891]]]
 else none
 else none
 else
 some
 (Out.jump (JX.exit 0) [vbool b886, vi x887],
 [Ob.mk OK.box 36 2 0 [[vbool b888, AV.list 0 2 l889]],
 Ob.mk OK.box 36 2 0 [[vbool b890, AV.list 0 2 l891]]]) := by
  intros
  exact (E_in [188] _ _ _).trans (by kernel_rfl)


theorem f48 : ∀ (c904 n905 : Int),
 E cx (Key.fn 48) [vi c904, vi n905] [] =
 bif decide (c904 < 0) then
 if n905 = 0 then none
 else
 some
 (Out.ret
 (vi (Int.tmod (IntKind.wrap IntKind.i64 (Int.sub 0 (IntKind.wrap IntKind.i64 (Int.add c904 1)))) n905)),
 [])
 else if n905 = 0 then none else some (Out.ret (vi (Int.tmod c904 n905)), []) := by
  intros
  exact (E_in [188] _ _ _).trans (by kernel_rfl)


theorem f49 : ∀ (s906 : ByteArray),
 E cx (Key.fn 49) [vs s906] [] =
 bif Int.tmod (((ByteArray.size s906) : Int)) 16 != 1 then
 some
 (Out.ret
 (AV.tuple [AV.agg [vbool false, AV.val (Value.slice none 0 0)], vi 2]),
 [])
 else
 Option.bind s906[0]? fun b907 ↦
 bif decide (((UInt8.toNat b907) : Int) > 1) then
 some
 (Out.ret
 (AV.tuple [AV.agg [vbool false, AV.val (Value.slice none 0 0)], vi 2]),
 [])
 else
 Option.bind s906[0]? fun b908 ↦
 bif decide (((UInt8.toNat b908) : Int) = 1) then
 if 1 ≤ ((ByteArray.size s906) : Int) then
 Option.bind
 (E cx (Key.loop 49 [true, true, true, true, true, false, false])
 [AV.ptr 0 0 0 0, AV.ptr 1 0 0 0, AV.func (Fn.func 115) [] [AV.ptr 1 0 0 0]]
 [Ob.mk OK.box 36 2 0 [[vbool true, AV.arr 2 2 0 0]],
 Ob.mk OK.box 9 1 0 [[vs (ByteArray.extract s906 1 (ByteArray.size s906))]],
 Ob.mk OK.arr 80 2 2 []])
 fun r909 ↦
 Option.bind (asJump r909) fun j910 ↦
 bif JX.is j910.fst (JX.exit 0) then
 Option.bind (nil? j910.snd.fst) fun _ ↦
 Option.bind (uncons? j910.snd.snd) fun p912 ↦
 Option.bind
 (obIs (Ob.mk OK.box 36 2 0 [[vbool true, AV.arr 2 2 0 0]])
 p912.fst)
 fun _ ↦
 Option.bind (chk p912.fst.ver 0) fun _ ↦
 Option.bind (uncons? p912.fst.es) fun p915 ↦
 Option.bind (nil? p915.snd) fun _ ↦
 Option.bind (uncons? p915.fst) fun p917 ↦
 Option.bind (AV.bool? p917.fst) fun b918 ↦
 Option.bind (uncons? p917.snd) fun p919 ↦
 Option.bind (AV.arr? 2 p919.fst) fun x920 ↦
 Option.bind (chk x920.fst 2) fun _ ↦
 Option.bind (nil? p919.snd) fun _ ↦
 Option.bind (uncons? p912.snd) fun p923 ↦
 Option.bind
 (obIs
 (Ob.mk OK.box 9 1 0
 [[vs (ByteArray.extract s906 1 (ByteArray.size s906))]])
 p923.fst)
 fun _ ↦
 Option.bind (chk p923.fst.ver 0) fun _ ↦
 Option.bind (uncons? p923.fst.es) fun p926 ↦
 Option.bind (nil? p926.snd) fun _ ↦
 Option.bind (uncons? p926.fst) fun p928 ↦
 Option.bind (AV.str? p928.fst) fun _ ↦
 Option.bind (nil? p928.snd) fun _ ↦
 Option.bind (uncons? p923.snd) fun p931 ↦
 Option.bind (obIs (Ob.mk OK.arr 80 2 2 []) p931.fst)
 fun _ ↦
 Option.bind (chk p931.fst.ver 2) fun _ ↦
 Option.bind (nil? p931.snd) fun _ ↦
 Option.bind
 (chkLe (Nat.add x920.snd.fst x920.snd.snd) (List.length p931.fst.es))
 fun _ ↦
 Option.bind
 (E cx (Key.fn 108)
 [AV.list 0 2
 (List.drop x920.snd.fst
 (List.take (Nat.add x920.snd.fst x920.snd.snd) p931.fst.es)),
 AV.func (Fn.func 109) [] []]
 [])
 fun r936 ↦
 Option.bind (ret1 r936) fun v937 ↦
 Option.bind (AV.bool? v937) fun b938 ↦
 bif b938 then
 bif decide ((x920.snd.snd : Int) > 2048) then
 some
 (Out.ret
 (AV.tuple
 [AV.agg
 [vbool false,
 AV.val (Value.slice none 0 0)],
 vi 4]),
 [])
 else
 Option.bind
 (chkLe (Nat.add x920.snd.fst x920.snd.snd)
 (List.length p931.fst.es))
 fun _ ↦
 some
 (Out.ret
 (AV.tuple
 [AV.agg
 [vbool b918,
 AV.list 0 2
 (List.drop x920.snd.fst
 (List.take (Nat.add x920.snd.fst x920.snd.snd)
 p931.fst.es))],
 vi 0]),
 [])
 else
 some
 (Out.ret
 (AV.tuple
 [AV.agg
 [vbool false,
 AV.val (Value.slice none 0 0)],
 vi 2]),
 [])
 else none
 else none
 else
 if 1 ≤ ((ByteArray.size s906) : Int) then
 Option.bind
 (E cx (Key.loop 49 [true, true, true, true, true, false, false])
 [AV.ptr 0 0 0 0, AV.ptr 1 0 0 0, AV.func (Fn.func 115) [] [AV.ptr 1 0 0 0]]
 [Ob.mk OK.box 36 2 0 [[vbool false, AV.arr 2 2 0 0]],
 Ob.mk OK.box 9 1 0 [[vs (ByteArray.extract s906 1 (ByteArray.size s906))]],
 Ob.mk OK.arr 80 2 2 []])
 fun r940 ↦
 Option.bind (asJump r940) fun j941 ↦
 bif JX.is j941.fst (JX.exit 0) then
 Option.bind (nil? j941.snd.fst) fun _ ↦
 Option.bind (uncons? j941.snd.snd) fun p943 ↦
 Option.bind
 (obIs (Ob.mk OK.box 36 2 0 [[vbool false, AV.arr 2 2 0 0]])
 p943.fst)
 fun _ ↦
 Option.bind (chk p943.fst.ver 0) fun _ ↦
 Option.bind (uncons? p943.fst.es) fun p946 ↦
 Option.bind (nil? p946.snd) fun _ ↦
 Option.bind (uncons? p946.fst) fun p948 ↦
 Option.bind (AV.bool? p948.fst) fun b949 ↦
 Option.bind (uncons? p948.snd) fun p950 ↦
 Option.bind (AV.arr? 2 p950.fst) fun x951 ↦
 Option.bind (chk x951.fst 2) fun _ ↦
 Option.bind (nil? p950.snd) fun _ ↦
 Option.bind (uncons? p943.snd) fun p954 ↦
 Option.bind
 (obIs
 (Ob.mk OK.box 9 1 0
 [[vs (ByteArray.extract s906 1 (ByteArray.size s906))]])
 p954.fst)
 fun _ ↦
 Option.bind (chk p954.fst.ver 0) fun _ ↦
 Option.bind (uncons? p954.fst.es) fun p957 ↦
 Option.bind (nil? p957.snd) fun _ ↦
 Option.bind (uncons? p957.fst) fun p959 ↦
 Option.bind (AV.str? p959.fst) fun _ ↦
 Option.bind (nil? p959.snd) fun _ ↦
 Option.bind (uncons? p954.snd) fun p962 ↦
 Option.bind (obIs (Ob.mk OK.arr 80 2 2 []) p962.fst)
 fun _ ↦
 Option.bind (chk p962.fst.ver 2) fun _ ↦
 Option.bind (nil? p962.snd) fun _ ↦
 Option.bind
 (chkLe (Nat.add x951.snd.fst x951.snd.snd) (List.length p962.fst.es))
 fun _ ↦
 Option.bind
 (E cx (Key.fn 108)
 [AV.list 0 2
 (List.drop x951.snd.fst
 (List.take (Nat.add x951.snd.fst x951.snd.snd) p962.fst.es)),
 AV.func (Fn.func 109) [] []]
 [])
 fun r967 ↦
 Option.bind (ret1 r967) fun v968 ↦
 Option.bind (AV.bool? v968) fun b969 ↦
 bif b969 then
 bif decide ((x951.snd.snd : Int) > 2048) then
 some
 (Out.ret
 (AV.tuple
 [AV.agg
 [vbool false,
 AV.val (Value.slice none 0 0)],
 vi 4]),
 [])
 else
 Option.bind
 (chkLe (Nat.add x951.snd.fst x951.snd.snd)
 (List.length p962.fst.es))
 fun _ ↦
 some
 (Out.ret
 (AV.tuple
 [AV.agg
 [vbool b949,
 AV.list 0 2
 (List.drop x951.snd.fst
 (List.take (Nat.add x951.snd.fst x951.snd.snd)
 p962.fst.es))],
 vi 0]),
 [])
 else
 some
 (Out.ret
 (AV.tuple
 [AV.agg
 [vbool false,
 AV.val (Value.slice none 0 0)],
 vi 2]),
 [])
 else none
 else none := by
  intros
  exact (E_in [188] _ _ _).trans (by kernel_rfl)


theorem f49_l0 : ∀ (b971 : Bool) (n972 : Nat) (s973 : ByteArray) (l974 : List (List AV)),
 E cx (Key.loop 49 [true, true, true, true, true, false, false])
 [AV.ptr 0 0 0 0, AV.ptr 1 0 0 0, AV.func (Fn.func 115) [] [AV.ptr 1 0 0 0]]
 [Ob.mk OK.box 36 2 0 [[vbool b971, AV.arr 2 2 0 n972]],
 Ob.mk OK.box 9 1 0 [[vs s973]], Ob.mk OK.arr 80 2 2 l974] =
 bif !List.beq (ByteArray.toList s973) (ByteArray.toList (ByteArray.mk (Array.mk []))) then
 Option.bind
 (E cx (Key.own 115) [AV.ptr 0 0 0 0]
 [Ob.mk OK.box 9 1 0 [[vs s973]]])
 fun r975 ↦
 Option.bind (asRet r975) fun x976 ↦
 Option.bind (AV.int? IntKind.u64 x976.fst) fun n977 ↦
 Option.bind (uncons? x976.snd) fun p978 ↦
 Option.bind (obIs (Ob.mk OK.box 9 1 0 [[vs (ByteArray.mk (Array.mk []))]]) p978.fst)
 fun _ ↦
 Option.bind (chk p978.fst.ver 0) fun _ ↦
 Option.bind (uncons? p978.fst.es) fun p981 ↦
 Option.bind (nil? p981.snd) fun _ ↦
 Option.bind (uncons? p981.fst) fun p983 ↦
 Option.bind (AV.str? p983.fst) fun s984 ↦
 Option.bind (nil? p983.snd) fun _ ↦
 Option.bind (nil? p978.snd) fun _ ↦
 Option.bind
 (E cx (Key.own 115) [AV.ptr 0 0 0 0]
 [Ob.mk OK.box 9 1 0 [[vs s984]]])
 fun r987 ↦
 Option.bind (asRet r987) fun x988 ↦
 Option.bind (AV.int? IntKind.u64 x988.fst) fun n989 ↦
 Option.bind (uncons? x988.snd) fun p990 ↦
 Option.bind
 (obIs (Ob.mk OK.box 9 1 0 [[vs (ByteArray.mk (Array.mk []))]])
 p990.fst)
 fun _ ↦
 Option.bind (chk p990.fst.ver 0) fun _ ↦
 Option.bind (uncons? p990.fst.es) fun p993 ↦
 Option.bind (nil? p993.snd) fun _ ↦
 Option.bind (uncons? p993.fst) fun p995 ↦
 Option.bind (AV.str? p995.fst) fun s996 ↦
 Option.bind (nil? p995.snd) fun _ ↦
 Option.bind (nil? p990.snd) fun _ ↦
 Option.bind (chk n972 (List.length (Ob.mk OK.arr 80 2 2 l974).es))
 fun _ ↦
 if
 Nat.mul (Nat.add (List.length (Ob.mk OK.arr 80 2 2 l974).es) 1) 16 ≤
 140737488355328 then
 E cx (Key.loop 49 [true, true, true, true, true, false, false])
 [AV.ptr 0 0 0 0, AV.ptr 1 0 0 0,
 AV.func (Fn.func 115) [] [AV.ptr 1 0 0 0]]
 [Ob.mk OK.box 36 2 0
 [[vbool b971,
 AV.arr 2 2 0
 (Nat.add (List.length (Ob.mk OK.arr 80 2 2 l974).es) 1)]],
 Ob.mk OK.box 9 1 0 [[vs s996]],
 Ob.mk OK.arr 80 2 2
 ((Ob.mk OK.arr 80 2 2 l974).es ++
 [[vu n977, vu n989]])]
 else none
 else
 some
 (Out.jump (JX.exit 0) [],
 [Ob.mk OK.box 36 2 0 [[vbool b971, AV.arr 2 2 0 n972]],
 Ob.mk OK.box 9 1 0 [[vs s973]], Ob.mk OK.arr 80 2 2 l974]) := by
  intros
  exact (E_in [188] _ _ _).trans (by kernel_rfl)


theorem f49_l0_c1 : ∀ (s1000 : ByteArray),
 E cx (Key.own 115) [AV.ptr 0 0 0 0]
 [Ob.mk OK.box 9 1 0 [[vs s1000]]] =
 Option.bind (E cx (Key.fn 116) [vs s1000, vi 8] []) fun r1001 ↦
 Option.bind (ret1 r1001) fun v1002 ↦
 Option.bind (AV.tup? v1002) fun vs1003 ↦
 Option.bind (uncons? vs1003) fun p1004 ↦
 Option.bind (AV.int? IntKind.u64 p1004.fst) fun n1005 ↦
 Option.bind (uncons? p1004.snd) fun p1006 ↦
 Option.bind (AV.str? p1006.fst) fun s1007 ↦
 Option.bind (uncons? p1006.snd) fun p1008 ↦
 Option.bind (AV.int? IntKind.i64 p1008.fst) fun _ ↦
 Option.bind (nil? p1008.snd) fun _ ↦
 some (Out.ret (vu n1005), [Ob.mk OK.box 9 1 0 [[vs s1007]]]) := by
  intros
  exact (E_in [188] _ _ _).trans (by kernel_rfl)


theorem f49_c2 : ∀ (l1011 : List (List AV)),
 E cx (Key.fn 108) [AV.list 0 2 l1011, AV.func (Fn.func 109) [] []] [] =
 Option.bind
 (E cx (Key.loop 108 [true, false, true, false])
 [vbool false, vi (IntKind.wrap IntKind.i64 (Int.sub (((List.length l1011) : Int)) 1)), AV.list 0 2 l1011,
 AV.func (Fn.func 109) [] []]
 [])
 fun r1012 ↦
 Option.bind (asJump r1012) fun j1013 ↦
 bif JX.is j1013.fst (JX.exit 0) then
 Option.bind (uncons? j1013.snd.fst) fun p1014 ↦
 Option.bind (AV.bool? p1014.fst) fun _ ↦
 Option.bind (uncons? p1014.snd) fun p1016 ↦
 Option.bind (AV.int? IntKind.i64 p1016.fst) fun _ ↦
 Option.bind (nil? p1016.snd) fun _ ↦
 Option.bind (nil? j1013.snd.snd) fun _ ↦ some (Out.ret (vbool true), [])
 else
 bif JX.is j1013.fst JX.ret then
 Option.bind (uncons? j1013.snd.fst) fun p1020 ↦
 Option.bind (AV.bool? p1020.fst) fun b1021 ↦
 Option.bind (uncons? p1020.snd) fun p1022 ↦
 Option.bind (AV.int? IntKind.i64 p1022.fst) fun _ ↦
 Option.bind (nil? p1022.snd) fun _ ↦
 Option.bind (nil? j1013.snd.snd) fun _ ↦ some (Out.ret (vbool b1021), [])
 else none := by
  intros
  exact (E_in [188] _ _ _).trans (by kernel_rfl)


theorem f49_c2_l3 : ∀ (b1026 : Bool) (x1027 : Int) (l1028 : List (List AV)),
 E cx (Key.loop 108 [true, false, true, false])
 [vbool b1026, vi x1027, AV.list 0 2 l1028, AV.func (Fn.func 109) [] []] [] =
 bif decide (x1027 > 0) then
 if 0 ≤ x1027 then
 Option.bind l1028[Int.toNat x1027]? fun cs1029 ↦
 Option.bind (uncons? cs1029) fun p1030 ↦
 Option.bind (AV.int? IntKind.u64 p1030.fst) fun n1031 ↦
 Option.bind (uncons? p1030.snd) fun p1032 ↦
 Option.bind (AV.int? IntKind.u64 p1032.fst) fun n1033 ↦
 Option.bind (nil? p1032.snd) fun _ ↦
 if 0 ≤ IntKind.wrap IntKind.i64 (Int.sub x1027 1) then
 Option.bind l1028[Int.toNat (IntKind.wrap IntKind.i64 (Int.sub x1027 1))]? fun cs1035 ↦
 Option.bind (uncons? cs1035) fun p1036 ↦
 Option.bind (AV.int? IntKind.u64 p1036.fst) fun n1037 ↦
 Option.bind (uncons? p1036.snd) fun p1038 ↦
 Option.bind (AV.int? IntKind.u64 p1038.fst) fun n1039 ↦
 Option.bind (nil? p1038.snd) fun _ ↦
 Option.bind
 (E cx (Key.fn 109)
 [AV.agg [vu n1031, vu n1033],
 AV.agg [vu n1037, vu n1039]]
 [])
 fun r1041 ↦
 Option.bind (ret1 r1041) fun v1042 ↦
 Option.bind (AV.int? IntKind.i64 v1042) fun n1043 ↦
 bif decide (n1043 < 0) then
 some (Out.jump JX.ret [vbool false, vi x1027], [])
 else
 E cx (Key.loop 108 [true, false, true, false])
 [vbool b1026, vi (IntKind.wrap IntKind.i64 (Int.sub x1027 1)),
 AV.list 0 2 l1028, AV.func (Fn.func 109) [] []]
 []
 else none
 else none
 else some (Out.jump (JX.exit 0) [vbool b1026, vi x1027], []) := by
  intros
  exact (E_in [188] _ _ _).trans (by kernel_rfl)


theorem f50 : ∀ (s1044 : ByteArray),
 E cx (Key.fn 50) [vs s1044] [] =
 bif Int.tmod (((ByteArray.size s1044) : Int)) 16 != 1 then
 some
 (Out.ret
 (AV.tuple [AV.agg [vbool false, AV.val (Value.slice none 0 0)], vi 2]),
 [])
 else
 Option.bind s1044[0]? fun b1045 ↦
 bif decide (((UInt8.toNat b1045) : Int) > 1) then
 some
 (Out.ret
 (AV.tuple [AV.agg [vbool false, AV.val (Value.slice none 0 0)], vi 2]),
 [])
 else
 Option.bind s1044[0]? fun b1046 ↦
 bif decide (((UInt8.toNat b1046) : Int) = 1) then
 Option.bind
 (E cx (Key.loop 50 [true, true, true, false, true, false])
 [vi 1, vs s1044, AV.ptr 0 0 0 0, AV.ptr 1 0 0 0]
 [Ob.mk OK.box 36 2 0 [[vbool false, AV.val (Value.slice none 0 0)]],
 Ob.mk OK.box 36 2 0 [[vbool true, AV.arr 2 2 0 0]],
 Ob.mk OK.arr 80 2 2 []])
 fun r1047 ↦
 Option.bind (asJump r1047) fun j1048 ↦
 bif JX.is j1048.fst (JX.exit 0) then
 Option.bind (uncons? j1048.snd.fst) fun p1049 ↦
 Option.bind (AV.int? IntKind.i64 p1049.fst) fun _ ↦
 Option.bind (nil? p1049.snd) fun _ ↦
 Option.bind (uncons? j1048.snd.snd) fun p1052 ↦
 Option.bind
 (obIs
 (Ob.mk OK.box 36 2 0 [[vbool false, AV.val (Value.slice none 0 0)]])
 p1052.fst)
 fun _ ↦
 Option.bind (chk p1052.fst.ver 0) fun _ ↦
 Option.bind (uncons? p1052.fst.es) fun p1055 ↦
 Option.bind (nil? p1055.snd) fun _ ↦
 Option.bind (uncons? p1055.fst) fun p1057 ↦
 Option.bind (AV.bool? p1057.fst) fun _ ↦
 Option.bind (uncons? p1057.snd) fun p1059 ↦
 Option.bind (AV.nilS? p1059.fst) fun _ ↦
 Option.bind (nil? p1059.snd) fun _ ↦
 Option.bind (uncons? p1052.snd) fun p1062 ↦
 Option.bind
 (obIs
 (Ob.mk OK.box 36 2 0 [[vbool true, AV.arr 2 2 0 0]])
 p1062.fst)
 fun _ ↦
 Option.bind (chk p1062.fst.ver 0) fun _ ↦
 Option.bind (uncons? p1062.fst.es) fun p1065 ↦
 Option.bind (nil? p1065.snd) fun _ ↦
 Option.bind (uncons? p1065.fst) fun p1067 ↦
 Option.bind (AV.bool? p1067.fst) fun b1068 ↦
 Option.bind (uncons? p1067.snd) fun p1069 ↦
 Option.bind (AV.arr? 2 p1069.fst) fun x1070 ↦
 Option.bind (chk x1070.fst 2) fun _ ↦
 Option.bind (nil? p1069.snd) fun _ ↦
 Option.bind (uncons? p1062.snd) fun p1073 ↦
 Option.bind
 (obIs (Ob.mk OK.arr 80 2 2 []) p1073.fst)
 fun _ ↦
 Option.bind (chk p1073.fst.ver 2) fun _ ↦
 Option.bind (nil? p1073.snd) fun _ ↦
 Option.bind
 (chkLe (Nat.add x1070.snd.fst x1070.snd.snd)
 (List.length p1073.fst.es))
 fun _ ↦
 Option.bind
 (E cx (Key.fn 110)
 [AV.list 0 2
 (List.drop x1070.snd.fst
 (List.take (Nat.add x1070.snd.fst x1070.snd.snd) p1073.fst.es))]
 [])
 fun r1078 ↦
 Option.bind (ret1 r1078) fun v1079 ↦
 Option.bind (AV.bool? v1079) fun b1080 ↦
 bif b1080 then
 bif decide ((x1070.snd.snd : Int) > 2048) then
 some
 (Out.ret
 (AV.tuple
 [AV.agg
 [vbool false,
 AV.val (Value.slice none 0 0)],
 vi 4]),
 [])
 else
 Option.bind
 (chkLe (Nat.add x1070.snd.fst x1070.snd.snd)
 (List.length p1073.fst.es))
 fun _ ↦
 some
 (Out.ret
 (AV.tuple
 [AV.agg
 [vbool b1068,
 AV.list 0 2
 (List.drop x1070.snd.fst
 (List.take (Nat.add x1070.snd.fst x1070.snd.snd)
 p1073.fst.es))],
 vi 0]),
 [])
 else
 some
 (Out.ret
 (AV.tuple
 [AV.agg
 [vbool false,
 AV.val (Value.slice none 0 0)],
 vi 2]),
 [])
 else none
 else
 Option.bind
 (E cx (Key.loop 50 [true, true, true, false, true, false])
 [vi 1, vs s1044, AV.ptr 0 0 0 0, AV.ptr 1 0 0 0]
 [Ob.mk OK.box 36 2 0 [[vbool false, AV.val (Value.slice none 0 0)]],
 Ob.mk OK.box 36 2 0 [[vbool false, AV.arr 2 2 0 0]],
 Ob.mk OK.arr 80 2 2 []])
 fun r1082 ↦
 Option.bind (asJump r1082) fun j1083 ↦
 bif JX.is j1083.fst (JX.exit 0) then
 Option.bind (uncons? j1083.snd.fst) fun p1084 ↦
 Option.bind (AV.int? IntKind.i64 p1084.fst) fun _ ↦
 Option.bind (nil? p1084.snd) fun _ ↦
 Option.bind (uncons? j1083.snd.snd) fun p1087 ↦
 Option.bind
 (obIs
 (Ob.mk OK.box 36 2 0 [[vbool false, AV.val (Value.slice none 0 0)]])
 p1087.fst)
 fun _ ↦
 Option.bind (chk p1087.fst.ver 0) fun _ ↦
 Option.bind (uncons? p1087.fst.es) fun p1090 ↦
 Option.bind (nil? p1090.snd) fun _ ↦
 Option.bind (uncons? p1090.fst) fun p1092 ↦
 Option.bind (AV.bool? p1092.fst) fun _ ↦
 Option.bind (uncons? p1092.snd) fun p1094 ↦
 Option.bind (AV.nilS? p1094.fst) fun _ ↦
 Option.bind (nil? p1094.snd) fun _ ↦
 Option.bind (uncons? p1087.snd) fun p1097 ↦
 Option.bind
 (obIs
 (Ob.mk OK.box 36 2 0 [[vbool false, AV.arr 2 2 0 0]])
 p1097.fst)
 fun _ ↦
 Option.bind (chk p1097.fst.ver 0) fun _ ↦
 Option.bind (uncons? p1097.fst.es) fun p1100 ↦
 Option.bind (nil? p1100.snd) fun _ ↦
 Option.bind (uncons? p1100.fst) fun p1102 ↦
 Option.bind (AV.bool? p1102.fst) fun b1103 ↦
 Option.bind (uncons? p1102.snd) fun p1104 ↦
 Option.bind (AV.arr? 2 p1104.fst) fun x1105 ↦
 Option.bind (chk x1105.fst 2) fun _ ↦
 Option.bind (nil? p1104.snd) fun _ ↦
 Option.bind (uncons? p1097.snd) fun p1108 ↦
 Option.bind
 (obIs (Ob.mk OK.arr 80 2 2 []) p1108.fst)
 fun _ ↦
 Option.bind (chk p1108.fst.ver 2) fun _ ↦
 Option.bind (nil? p1108.snd) fun _ ↦
 Option.bind
 (chkLe (Nat.add x1105.snd.fst x1105.snd.snd)
 (List.length p1108.fst.es))
 fun _ ↦
 Option.bind
 (E cx (Key.fn 110)
 [AV.list 0 2
 (List.drop x1105.snd.fst
 (List.take (Nat.add x1105.snd.fst x1105.snd.snd) p1108.fst.es))]
 [])
 fun r1113 ↦
 Option.bind (ret1 r1113) fun v1114 ↦
 Option.bind (AV.bool? v1114) fun b1115 ↦
 bif b1115 then
 bif decide ((x1105.snd.snd : Int) > 2048) then
 some
 (Out.ret
 (AV.tuple
 [AV.agg
 [vbool false,
 AV.val (Value.slice none 0 0)],
 vi 4]),
 [])
 else
 Option.bind
 (chkLe (Nat.add x1105.snd.fst x1105.snd.snd)
 (List.length p1108.fst.es))
 fun _ ↦
 some
 (Out.ret
 (AV.tuple
 [AV.agg
 [vbool b1103,
 AV.list 0 2
 (List.drop x1105.snd.fst
 (List.take (Nat.add x1105.snd.fst x1105.snd.snd)
 p1108.fst.es))],
 vi 0]),
 [])
 else
 some
 (Out.ret
 (AV.tuple
 [AV.agg
 [vbool false,
 AV.val (Value.slice none 0 0)],
 vi 2]),
 [])
 else none := by
  intros
  exact (E_in [188] _ _ _).trans (by kernel_rfl)


theorem f50_l0 : ∀ (x1117 : Int) (s1118 : ByteArray) (b1119 b1120 : Bool) (n1121 : Nat) (l1122 : List (List AV)),
 E cx (Key.loop 50 [true, true, true, false, true, false])
 [vi x1117, vs s1118, AV.ptr 0 0 0 0, AV.ptr 1 0 0 0]
 [Ob.mk OK.box 36 2 0 [[vbool b1119, AV.val (Value.slice none 0 0)]],
 Ob.mk OK.box 36 2 0 [[vbool b1120, AV.arr 2 2 0 n1121]],
 Ob.mk OK.arr 80 2 2 l1122] =
 bif decide (x1117 < ((ByteArray.size s1118) : Int)) then
 if 0 ≤ x1117 then
 if x1117 ≤ ((ByteArray.size s1118) : Int) then
 Option.bind
 (E cx (Key.fn 117)
 [vs (ByteArray.extract s1118 (Int.toNat x1117) (ByteArray.size s1118)), vi 8] [])
 fun r1123 ↦
 Option.bind (ret1 r1123) fun v1124 ↦
 Option.bind (AV.tup? v1124) fun vs1125 ↦
 Option.bind (uncons? vs1125) fun p1126 ↦
 Option.bind (AV.int? IntKind.u64 p1126.fst) fun n1127 ↦
 Option.bind (uncons? p1126.snd) fun p1128 ↦
 Option.bind (AV.str? p1128.fst) fun _ ↦
 Option.bind (uncons? p1128.snd) fun p1130 ↦
 Option.bind (AV.int? IntKind.i64 p1130.fst) fun _ ↦
 Option.bind (nil? p1130.snd) fun _ ↦
 if 0 ≤ IntKind.wrap IntKind.i64 (Int.add x1117 8) then
 if IntKind.wrap IntKind.i64 (Int.add x1117 8) ≤ ((ByteArray.size s1118) : Int) then
 Option.bind
 (E cx (Key.fn 117)
 [vs
 (ByteArray.extract s1118 (Int.toNat (IntKind.wrap IntKind.i64 (Int.add x1117 8))) (ByteArray.size s1118)),
 vi 8]
 [])
 fun r1133 ↦
 Option.bind (ret1 r1133) fun v1134 ↦
 Option.bind (AV.tup? v1134) fun vs1135 ↦
 Option.bind (uncons? vs1135) fun p1136 ↦
 Option.bind (AV.int? IntKind.u64 p1136.fst) fun n1137 ↦
 Option.bind (uncons? p1136.snd) fun p1138 ↦
 Option.bind (AV.str? p1138.fst) fun _ ↦
 Option.bind (uncons? p1138.snd) fun p1140 ↦
 Option.bind (AV.int? IntKind.i64 p1140.fst) fun _ ↦
 Option.bind (nil? p1140.snd) fun _ ↦
 Option.bind
 (chk n1121 (List.length (Ob.mk OK.arr 80 2 2 l1122).es))
 fun _ ↦
 if
 Nat.mul (Nat.add (List.length (Ob.mk OK.arr 80 2 2 l1122).es) 1) 16 ≤
 140737488355328 then
 E cx (Key.loop 50 [true, true, true, false, true, false])
 [vi (IntKind.wrap IntKind.i64 (Int.add x1117 16)), vs s1118,
 AV.ptr 0 0 0 0, AV.ptr 1 0 0 0]
 [Ob.mk OK.box 36 2 0
 [[vbool b1119, AV.val (Value.slice none 0 0)]],
 Ob.mk OK.box 36 2 0
 [[vbool b1120,
 AV.arr 2 2 0
 (Nat.add (List.length (Ob.mk OK.arr 80 2 2 l1122).es) 1)]],
 Ob.mk OK.arr 80 2 2
 ((Ob.mk OK.arr 80 2 2 l1122).es ++
 [[vu n1127, vu n1137]])]
 else none
 else none
 else none
 else none
 else none
 else
 some
 (Out.jump (JX.exit 0) [vi x1117],
 [Ob.mk OK.box 36 2 0 [[vbool b1119, AV.val (Value.slice none 0 0)]],
 Ob.mk OK.box 36 2 0 [[vbool b1120, AV.arr 2 2 0 n1121]],
 Ob.mk OK.arr 80 2 2 l1122]) := by
  intros
  exact (E_in [188] _ _ _).trans (by kernel_rfl)


theorem f51 : ∀ (key1144 root1145 : Int),
 E cx (Key.fn 51) [vu key1144, vu root1145] [] =
 some
 (Out.ret (AV.agg [vbool false, AV.list 0 2 [[vu key1144, vu root1145]]]),
 []) := by
  intros
  exact (E_in [188] _ _ _).trans (by kernel_rfl)


theorem f52 : ∀ (key1146 root1147 : Int),
 E cx (Key.fn 52) [vu key1146, vu root1147] [] =
 some
 (Out.ret (AV.agg [vbool false, AV.list 0 2 [[vu key1146, vu root1147]]]),
 []) := by
  intros
  exact (E_in [188] _ _ _).trans (by kernel_rfl)


theorem f53 : ∀ (t1148 : Bool) (t1149 : List (List AV)) (p1150 p1151 : Int),
 E cx (Key.fn 53)
 [AV.agg [vbool t1148, AV.list 0 2 t1149], AV.agg [vu p1150, vu p1151]] [] =
 Option.bind
 (E cx (Key.loop 53 [true, true, false, true, false])
 [vi 0, vi 0, AV.ptr 0 0 0 0, AV.ptr 1 0 0 0]
 [Ob.mk OK.box 36 2 0 [[vbool t1148, AV.list 0 2 t1149]],
 Ob.mk OK.box 80 2 0 [[vu p1150, vu p1151]]])
 fun r1152 ↦
 Option.bind (asJump r1152) fun j1153 ↦
 bif JX.is j1153.fst (JX.exit 0) then
 Option.bind (uncons? j1153.snd.fst) fun p1154 ↦
 Option.bind (AV.int? IntKind.i64 p1154.fst) fun n1155 ↦
 Option.bind (uncons? p1154.snd) fun p1156 ↦
 Option.bind (AV.int? IntKind.i64 p1156.fst) fun _ ↦
 Option.bind (nil? p1156.snd) fun _ ↦
 Option.bind (uncons? j1153.snd.snd) fun p1159 ↦
 Option.bind
 (obIs (Ob.mk OK.box 36 2 0 [[vbool t1148, AV.list 0 2 t1149]])
 p1159.fst)
 fun _ ↦
 Option.bind (chk p1159.fst.ver 0) fun _ ↦
 Option.bind (uncons? p1159.fst.es) fun p1162 ↦
 Option.bind (nil? p1162.snd) fun _ ↦
 Option.bind (uncons? p1162.fst) fun p1164 ↦
 Option.bind (AV.bool? p1164.fst) fun _ ↦
 Option.bind (uncons? p1164.snd) fun p1166 ↦
 Option.bind (AV.list? 2 p1166.fst) fun _ ↦
 Option.bind (nil? p1166.snd) fun _ ↦
 Option.bind (uncons? p1159.snd) fun p1169 ↦
 Option.bind
 (obIs (Ob.mk OK.box 80 2 0 [[vu p1150, vu p1151]])
 p1169.fst)
 fun _ ↦
 Option.bind (chk p1169.fst.ver 0) fun _ ↦
 Option.bind (uncons? p1169.fst.es) fun p1172 ↦
 Option.bind (nil? p1172.snd) fun _ ↦
 Option.bind (uncons? p1172.fst) fun p1174 ↦
 Option.bind (AV.int? IntKind.u64 p1174.fst) fun _ ↦
 Option.bind (uncons? p1174.snd) fun p1176 ↦
 Option.bind (AV.int? IntKind.u64 p1176.fst) fun _ ↦
 Option.bind (nil? p1176.snd) fun _ ↦
 Option.bind (nil? p1169.snd) fun _ ↦
 some (Out.ret (vi n1155), [])
 else none := by
  intros
  exact (E_in [188] _ _ _).trans (by kernel_rfl)


theorem f53_l0 : ∀ (x1180 x1181 : Int) (b1182 : Bool) (l1183 : List (List AV)) (x1184 x1185 : Int),
 E cx (Key.loop 53 [true, true, false, true, false])
 [vi x1180, vi x1181, AV.ptr 0 0 0 0, AV.ptr 1 0 0 0]
 [Ob.mk OK.box 36 2 0 [[vbool b1182, AV.list 0 2 l1183]],
 Ob.mk OK.box 80 2 0 [[vu x1184, vu x1185]]] =
 bif decide (x1181 < ((List.length l1183) : Int)) then
 if 0 ≤ x1181 then
 Option.bind l1183[Int.toNat x1181]? fun cs1186 ↦
 Option.bind (uncons? cs1186) fun p1187 ↦
 Option.bind (AV.int? IntKind.u64 p1187.fst) fun n1188 ↦
 Option.bind (uncons? p1187.snd) fun p1189 ↦
 Option.bind (AV.int? IntKind.u64 p1189.fst) fun n1190 ↦
 Option.bind (nil? p1189.snd) fun _ ↦
 bif decide (n1188 = x1184) && (decide (n1190 = x1185) && true) then
 E cx (Key.loop 53 [true, true, false, true, false])
 [vi (IntKind.wrap IntKind.i64 (Int.add x1180 1)), vi (IntKind.wrap IntKind.i64 (Int.add x1181 1)),
 AV.ptr 0 0 0 0, AV.ptr 1 0 0 0]
 [Ob.mk OK.box 36 2 0 [[vbool b1182, AV.list 0 2 l1183]],
 Ob.mk OK.box 80 2 0 [[vu x1184, vu x1185]]]
 else
 E cx (Key.loop 53 [true, true, false, true, false])
 [vi x1180, vi (IntKind.wrap IntKind.i64 (Int.add x1181 1)), AV.ptr 0 0 0 0,
 AV.ptr 1 0 0 0]
 [Ob.mk OK.box 36 2 0 [[vbool b1182, AV.list 0 2 l1183]],
 Ob.mk OK.box 80 2 0 [[vu x1184, vu x1185]]]
 else none
 else
 some
 (Out.jump (JX.exit 0) [vi x1180, vi x1181],
 [Ob.mk OK.box 36 2 0 [[vbool b1182, AV.list 0 2 l1183]],
 Ob.mk OK.box 80 2 0 [[vu x1184, vu x1185]]]) := by
  intros
  exact (E_in [188] _ _ _).trans (by kernel_rfl)


theorem f105 : ∀ (a1192 a1193 b1194 b1195 : Int),
 E cx (Key.fn 105)
 [AV.agg [vu a1192, vu a1193], AV.agg [vu b1194, vu b1195]] [] =
 bif decide (a1192 < b1194) then some (Out.ret (vbool true), [])
 else
 bif decide (a1192 = b1194) then
 bif decide (a1193 < b1195) then some (Out.ret (vbool true), [])
 else some (Out.ret (vbool false), [])
 else some (Out.ret (vbool false), []) := by
  intros
  exact (E_in [188] _ _ _).trans (by kernel_rfl)


theorem f106 : ∀ (w1196 n1197 : Int),
 E cx (Key.fn 106) [vu w1196, vi n1197] [] =
 bif decide (n1197 < 1) then some (Out.ret (vs (ByteArray.mk (Array.mk []))), [])
 else
 bif decide (n1197 > 8) then some (Out.ret (vs (ByteArray.mk (Array.mk []))), [])
 else
 if 0 ≤ n1197 then
 if n1197 ≤ n1197 then
 if Int.mul 1 n1197 ≤ 281474976710656 then
 Option.bind
 (E cx (Key.loop 106 [true, true, true, false, true, false])
 [vi 0, vu w1196, AV.arr 0 1 0 (Int.toNat n1197), vi ((Int.toNat n1197) : Int)]
 [Ob.mk OK.arr 5 1 1 (List.replicate (Int.toNat n1197) [vb 0])])
 fun r1198 ↦
 Option.bind (asJump r1198) fun j1199 ↦
 bif JX.is j1199.fst (JX.exit 0) then
 Option.bind (uncons? j1199.snd.fst) fun p1200 ↦
 Option.bind (AV.int? IntKind.i64 p1200.fst) fun _ ↦
 Option.bind (nil? p1200.snd) fun _ ↦
 Option.bind (uncons? j1199.snd.snd) fun p1203 ↦
 Option.bind
 (obIs (Ob.mk OK.arr 5 1 1 (List.replicate (Int.toNat n1197) [vb 0]))
 p1203.fst)
 fun _ ↦
 Option.bind (chk p1203.fst.ver 1) fun _ ↦
 Option.bind (nil? p1203.snd) fun _ ↦
 Option.bind
 (yRows [Ob.mk OK.arr 5 1 1 p1203.fst.es] 1
 (AV.arr 0 1 0 (Int.toNat n1197)))
 fun ys1207 ↦
 Option.bind (numsOf ys1207) fun ns1208 ↦
 some (Out.ret (vs (Go.strOfNums ns1208)), [])
 else none
 else none
 else none
 else none := by
  intros
  exact (E_in [188] _ _ _).trans (by kernel_rfl)


theorem f106_l0 : ∀ (x1209 x1210 : Int) (n1211 : Nat) (x1212 : Int) (l1213 : List (List AV)),
 E cx (Key.loop 106 [true, true, true, false, true, false])
 [vi x1209, vu x1210, AV.arr 0 1 0 n1211, vi x1212]
 [Ob.mk OK.arr 5 1 1 l1213] =
 bif decide (x1209 < x1212) then
 if IntKind.wrap IntKind.i64 (Int.mul 8 x1209) < 0 then none
 else
 if 0 ≤ x1209 then
 if x1209 < (n1211 : Int) then
 Option.bind (nth l1213 (Nat.add 0 (Int.toNat x1209))) fun cs1214 ↦
 Option.bind (uncons? cs1214) fun p1215 ↦
 Option.bind (AV.int? IntKind.u8 p1215.fst) fun _ ↦
 Option.bind (nil? p1215.snd) fun _ ↦
 E cx (Key.loop 106 [true, true, true, false, true, false])
 [vi (IntKind.wrap IntKind.i64 (Int.add x1209 1)), vu x1210, AV.arr 0 1 0 n1211,
 vi x1212]
 [Ob.mk OK.arr 5 1 1
 (List.set l1213 (Nat.add 0 (Int.toNat x1209))
 [vb
 (IntKind.wrap IntKind.u8 (ishr IntKind.u64 x1210 (IntKind.wrap IntKind.i64 (Int.mul 8 x1209))))])]
 else none
 else none
 else some (Out.jump (JX.exit 0) [vi x1209], [Ob.mk OK.arr 5 1 1 l1213]) := by
  intros
  exact (E_in [188] _ _ _).trans (by kernel_rfl)


theorem f107 : ∀ (w1218 n1219 : Int),
 E cx (Key.fn 107) [vu w1218, vi n1219] [] =
 Option.bind
 (E cx (Key.loop 107 [true, true, false, true, false])
 [AV.arr 0 1 0 0, vi 0, vu w1218, vi n1219] [Ob.mk OK.arr 5 1 1 []])
 fun r1220 ↦
 Option.bind (asJump r1220) fun j1221 ↦
 bif JX.is j1221.fst (JX.exit 0) then
 Option.bind (uncons? j1221.snd.fst) fun p1222 ↦
 Option.bind (AV.arr? 0 p1222.fst) fun x1223 ↦
 Option.bind (chk x1223.fst 1) fun _ ↦
 Option.bind (uncons? p1222.snd) fun p1225 ↦
 Option.bind (AV.int? IntKind.i64 p1225.fst) fun _ ↦
 Option.bind (nil? p1225.snd) fun _ ↦
 Option.bind (uncons? j1221.snd.snd) fun p1228 ↦
 Option.bind (obIs (Ob.mk OK.arr 5 1 1 []) p1228.fst) fun _ ↦
 Option.bind (chk p1228.fst.ver 1) fun _ ↦
 Option.bind (nil? p1228.snd) fun _ ↦
 Option.bind
 (yRows [Ob.mk OK.arr 5 1 1 p1228.fst.es] 1
 (AV.arr 0 1 x1223.snd.fst x1223.snd.snd))
 fun ys1232 ↦
 Option.bind (numsOf ys1232) fun ns1233 ↦ some (Out.ret (vs (Go.strOfNums ns1233)), [])
 else none := by
  intros
  exact (E_in [188] _ _ _).trans (by kernel_rfl)


theorem f107_l0 : ∀ (n1234 : Nat) (x1235 x1236 x1237 : Int) (l1238 : List (List AV)),
 E cx (Key.loop 107 [true, true, false, true, false])
 [AV.arr 0 1 0 n1234, vi x1235, vu x1236, vi x1237]
 [Ob.mk OK.arr 5 1 1 l1238] =
 bif decide (x1235 < x1237) then
 bif decide (x1237 ≤ 8) then
 if IntKind.wrap IntKind.i64 (Int.mul 8 x1235) < 0 then none
 else
 Option.bind (chk n1234 (List.length (Ob.mk OK.arr 5 1 1 l1238).es)) fun _ ↦
 if Nat.mul (Nat.add (List.length (Ob.mk OK.arr 5 1 1 l1238).es) 1) 1 ≤ 140737488355328 then
 E cx (Key.loop 107 [true, true, false, true, false])
 [AV.arr 0 1 0 (Nat.add (List.length (Ob.mk OK.arr 5 1 1 l1238).es) 1),
 vi (IntKind.wrap IntKind.i64 (Int.add x1235 1)), vu x1236, vi x1237]
 [Ob.mk OK.arr 5 1 1
 ((Ob.mk OK.arr 5 1 1 l1238).es ++
 [[vb
 (IntKind.wrap IntKind.u8
 (Int.tmod (ishr IntKind.u64 x1236 (IntKind.wrap IntKind.i64 (Int.mul 8 x1235))) 256))]])]
 else none
 else
 some
 (Out.jump (JX.exit 0) [AV.arr 0 1 0 n1234, vi x1235],
 [Ob.mk OK.arr 5 1 1 l1238])
 else
 some
 (Out.jump (JX.exit 0) [AV.arr 0 1 0 n1234, vi x1235],
 [Ob.mk OK.arr 5 1 1 l1238]) := by
  intros
  exact (E_in [188] _ _ _).trans (by kernel_rfl)


theorem f109 : ∀ (a1240 a1241 b1242 b1243 : Int),
 E cx (Key.fn 109)
 [AV.agg [vu a1240, vu a1241], AV.agg [vu b1242, vu b1243]] [] =
 bif decide (a1240 = b1242) && (decide (a1241 = b1243) && true) then some (Out.ret (vi 0), [])
 else
 Option.bind (E cx (Key.fn 148) [vu a1240, vu b1242] []) fun r1244 ↦
 Option.bind (ret1 r1244) fun v1245 ↦
 Option.bind (AV.int? IntKind.i64 v1245) fun n1246 ↦
 Option.bind (E cx (Key.fn 148) [vu a1241, vu b1243] []) fun r1247 ↦
 Option.bind (ret1 r1247) fun v1248 ↦
 Option.bind (AV.int? IntKind.i64 v1248) fun n1249 ↦
 Option.bind
 (E cx (Key.fn 147) [AV.list 0 1 [[vi n1246], [vi n1249]]] [])
 fun r1250 ↦
 Option.bind (ret1 r1250) fun v1251 ↦
 Option.bind (AV.int? IntKind.i64 v1251) fun n1252 ↦ some (Out.ret (vi n1252), []) := by
  intros
  exact (E_in [188] _ _ _).trans (by kernel_rfl)


theorem f110 : ∀ (l1253 : List (List AV)),
 E cx (Key.fn 110) [AV.list 0 2 l1253] [] =
 Option.bind
 (E cx (Key.loop 110 [true, false, true, false])
 [vbool false, vi 1, AV.list 0 2 l1253] [])
 fun r1254 ↦
 Option.bind (asJump r1254) fun j1255 ↦
 bif JX.is j1255.fst (JX.exit 0) then
 Option.bind (uncons? j1255.snd.fst) fun p1256 ↦
 Option.bind (AV.bool? p1256.fst) fun _ ↦
 Option.bind (uncons? p1256.snd) fun p1258 ↦
 Option.bind (AV.int? IntKind.i64 p1258.fst) fun _ ↦
 Option.bind (nil? p1258.snd) fun _ ↦
 Option.bind (nil? j1255.snd.snd) fun _ ↦ some (Out.ret (vbool true), [])
 else
 bif JX.is j1255.fst JX.ret then
 Option.bind (uncons? j1255.snd.fst) fun p1262 ↦
 Option.bind (AV.bool? p1262.fst) fun b1263 ↦
 Option.bind (uncons? p1262.snd) fun p1264 ↦
 Option.bind (AV.int? IntKind.i64 p1264.fst) fun _ ↦
 Option.bind (nil? p1264.snd) fun _ ↦
 Option.bind (nil? j1255.snd.snd) fun _ ↦ some (Out.ret (vbool b1263), [])
 else none := by
  intros
  exact (E_in [188] _ _ _).trans (by kernel_rfl)


theorem f110_l0 : ∀ (b1268 : Bool) (x1269 : Int) (l1270 : List (List AV)),
 E cx (Key.loop 110 [true, false, true, false])
 [vbool b1268, vi x1269, AV.list 0 2 l1270] [] =
 bif decide (x1269 < ((List.length l1270) : Int)) then
 if 0 ≤ x1269 then
 Option.bind l1270[Int.toNat x1269]? fun cs1271 ↦
 Option.bind (uncons? cs1271) fun p1272 ↦
 Option.bind (AV.int? IntKind.u64 p1272.fst) fun n1273 ↦
 Option.bind (uncons? p1272.snd) fun p1274 ↦
 Option.bind (AV.int? IntKind.u64 p1274.fst) fun n1275 ↦
 Option.bind (nil? p1274.snd) fun _ ↦
 if 0 ≤ IntKind.wrap IntKind.i64 (Int.sub x1269 1) then
 Option.bind l1270[Int.toNat (IntKind.wrap IntKind.i64 (Int.sub x1269 1))]? fun cs1277 ↦
 Option.bind (uncons? cs1277) fun p1278 ↦
 Option.bind (AV.int? IntKind.u64 p1278.fst) fun n1279 ↦
 Option.bind (uncons? p1278.snd) fun p1280 ↦
 Option.bind (AV.int? IntKind.u64 p1280.fst) fun n1281 ↦
 Option.bind (nil? p1280.snd) fun _ ↦
 Option.bind
 (E cx (Key.fn 105)
 [AV.agg [vu n1273, vu n1275],
 AV.agg [vu n1279, vu n1281]]
 [])
 fun r1283 ↦
 Option.bind (ret1 r1283) fun v1284 ↦
 Option.bind (AV.bool? v1284) fun b1285 ↦
 bif b1285 then some (Out.jump JX.ret [vbool false, vi x1269], [])
 else
 E cx (Key.loop 110 [true, false, true, false])
 [vbool b1268, vi (IntKind.wrap IntKind.i64 (Int.add x1269 1)),
 AV.list 0 2 l1270]
 []
 else none
 else none
 else some (Out.jump (JX.exit 0) [vbool b1268, vi x1269], []) := by
  intros
  exact (E_in [188] _ _ _).trans (by kernel_rfl)


theorem f112 : ∀ (t1286 : Bool) (t1287 : List (List AV)),
 E cx (Key.fn 112) [AV.agg [vbool t1286, AV.list 0 2 t1287]] [] =
 Option.bind (E cx (Key.fn 40) [AV.agg [vbool t1286, AV.list 0 2 t1287]] [])
 fun r1288 ↦
 Option.bind (ret1 r1288) fun v1289 ↦
 Option.bind (AV.bool? v1289) fun b1290 ↦
 bif b1290 then some (Out.ret (vbool false), []) else some (Out.ret (vbool true), []) := by
  intros
  exact (E_in [188] _ _ _).trans (by kernel_rfl)


theorem f114 : ∀ (a1291 b1292 : List (List AV)),
 E cx (Key.fn 114) [AV.list 0 2 a1291, AV.list 0 2 b1292] [] =
 Option.bind
 (E cx (Key.loop 114 [true, true, true, false, true, false])
 [AV.arr 0 2 0 0, vi 0, vi 0, AV.list 0 2 a1291, AV.list 0 2 b1292]
 [Ob.mk OK.arr 80 2 2 []])
 fun r1293 ↦
 Option.bind (asJump r1293) fun j1294 ↦
 bif JX.is j1294.fst (JX.exit 0) then
 Option.bind (uncons? j1294.snd.fst) fun p1295 ↦
 Option.bind (AV.arr? 0 p1295.fst) fun x1296 ↦
 Option.bind (chk x1296.fst 2) fun _ ↦
 Option.bind (uncons? p1295.snd) fun p1298 ↦
 Option.bind (AV.int? IntKind.i64 p1298.fst) fun n1299 ↦
 Option.bind (uncons? p1298.snd) fun p1300 ↦
 Option.bind (AV.int? IntKind.i64 p1300.fst) fun _ ↦
 Option.bind (nil? p1300.snd) fun _ ↦
 Option.bind (uncons? j1294.snd.snd) fun p1303 ↦
 Option.bind (obIs (Ob.mk OK.arr 80 2 2 []) p1303.fst) fun _ ↦
 Option.bind (chk p1303.fst.ver 2) fun _ ↦
 Option.bind (nil? p1303.snd) fun _ ↦
 if 0 ≤ n1299 then
 if n1299 ≤ ((List.length a1291) : Int) then
 bif ysOk (List.drop (Int.toNat n1299) (List.take (List.length a1291) a1291)) then
 Option.bind (chk x1296.snd.fst 0) fun _ ↦
 Option.bind
 (chk x1296.snd.snd (List.length (Ob.mk OK.arr 80 2 2 p1303.fst.es).es))
 fun _ ↦
 if
 Nat.mul
 (Nat.add (List.length (Ob.mk OK.arr 80 2 2 p1303.fst.es).es)
 (List.length (List.drop (Int.toNat n1299) (List.take (List.length a1291) a1291))))
 16 ≤
 140737488355328 then
 Option.bind
 (chkLe
 (Nat.add 0
 (Nat.add (List.length (Ob.mk OK.arr 80 2 2 p1303.fst.es).es)
 (List.length (List.drop (Int.toNat n1299) (List.take (List.length a1291) a1291)))))
 (List.length
 ((Ob.mk OK.arr 80 2 2 p1303.fst.es).es ++
 List.drop (Int.toNat n1299) (List.take (List.length a1291) a1291))))
 fun _ ↦
 some
 (Out.ret
 (AV.list 0 2
 (List.drop 0
 (List.take
 (Nat.add 0
 (Nat.add (List.length (Ob.mk OK.arr 80 2 2 p1303.fst.es).es)
 (List.length (List.drop (Int.toNat n1299) (List.take (List.length a1291) a1291)))))
 ((Ob.mk OK.arr 80 2 2 p1303.fst.es).es ++
 List.drop (Int.toNat n1299) (List.take (List.length a1291) a1291))))),
 [])
 else none
 else none
 else none
 else none
 else none := by
  intros
  exact (E_in [188] _ _ _).trans (by kernel_rfl)


theorem f114_l0 : ∀ (n1310 : Nat) (x1311 x1312 : Int) (l1313 l1314 l1315 : List (List AV)),
 E cx (Key.loop 114 [true, true, true, false, true, false])
 [AV.arr 0 2 0 n1310, vi x1311, vi x1312, AV.list 0 2 l1313, AV.list 0 2 l1314]
 [Ob.mk OK.arr 80 2 2 l1315] =
 bif decide (x1312 < ((List.length l1314) : Int)) then
 Option.bind
 (E cx (Key.loop 114 [true, true, true, false, true, false, false, true, false, false, false, false])
 [AV.arr 0 2 0 n1310, vi x1311, AV.list 0 2 l1313, AV.list 0 2 l1314, vi x1312]
 [Ob.mk OK.arr 80 2 2 l1315])
 fun r1316 ↦
 Option.bind (asJump r1316) fun j1317 ↦
 bif JX.is j1317.fst (JX.exit 2) then
 Option.bind (uncons? j1317.snd.fst) fun p1318 ↦
 Option.bind (AV.arr? 0 p1318.fst) fun x1319 ↦
 Option.bind (chk x1319.fst 2) fun _ ↦
 Option.bind (uncons? p1318.snd) fun p1321 ↦
 Option.bind (AV.int? IntKind.i64 p1321.fst) fun n1322 ↦
 Option.bind (nil? p1321.snd) fun _ ↦
 Option.bind (uncons? j1317.snd.snd) fun p1324 ↦
 Option.bind (obIs (Ob.mk OK.arr 80 2 2 l1315) p1324.fst) fun _ ↦
 Option.bind (chk p1324.fst.ver 2) fun _ ↦
 Option.bind (nil? p1324.snd) fun _ ↦
 if 0 ≤ x1312 then
 Option.bind l1314[Int.toNat x1312]? fun cs1328 ↦
 Option.bind (uncons? cs1328) fun p1329 ↦
 Option.bind (AV.int? IntKind.u64 p1329.fst) fun n1330 ↦
 Option.bind (uncons? p1329.snd) fun p1331 ↦
 Option.bind (AV.int? IntKind.u64 p1331.fst) fun n1332 ↦
 Option.bind (nil? p1331.snd) fun _ ↦
 Option.bind (chk x1319.snd.fst 0) fun _ ↦
 Option.bind
 (chk x1319.snd.snd (List.length (Ob.mk OK.arr 80 2 2 p1324.fst.es).es))
 fun _ ↦
 if
 Nat.mul (Nat.add (List.length (Ob.mk OK.arr 80 2 2 p1324.fst.es).es) 1) 16 ≤
 140737488355328 then
 E cx (Key.loop 114 [true, true, true, false, true, false])
 [AV.arr 0 2 0
 (Nat.add (List.length (Ob.mk OK.arr 80 2 2 p1324.fst.es).es) 1),
 vi n1322, vi (IntKind.wrap IntKind.i64 (Int.add x1312 1)),
 AV.list 0 2 l1313, AV.list 0 2 l1314]
 [Ob.mk OK.arr 80 2 2
 ((Ob.mk OK.arr 80 2 2 p1324.fst.es).es ++
 [[vu n1330, vu n1332]])]
 else none
 else none
 else none
 else
 some
 (Out.jump (JX.exit 0) [AV.arr 0 2 0 n1310, vi x1311, vi x1312],
 [Ob.mk OK.arr 80 2 2 l1315]) := by
  intros
  exact (E_in [188] _ _ _).trans (by kernel_rfl)


theorem f114_l0_l1 : ∀ (n1336 : Nat) (x1337 : Int) (l1338 l1339 : List (List AV)) (x1340 : Int) (l1341 : List (List AV)),
 E cx (Key.loop 114 [true, true, true, false, true, false, false, true, false, false, false, false])
 [AV.arr 0 2 0 n1336, vi x1337, AV.list 0 2 l1338, AV.list 0 2 l1339, vi x1340]
 [Ob.mk OK.arr 80 2 2 l1341] =
 bif decide (x1337 < ((List.length l1338) : Int)) then
 if 0 ≤ x1340 then
 Option.bind l1339[Int.toNat x1340]? fun cs1342 ↦
 Option.bind (uncons? cs1342) fun p1343 ↦
 Option.bind (AV.int? IntKind.u64 p1343.fst) fun n1344 ↦
 Option.bind (uncons? p1343.snd) fun p1345 ↦
 Option.bind (AV.int? IntKind.u64 p1345.fst) fun n1346 ↦
 Option.bind (nil? p1345.snd) fun _ ↦
 if 0 ≤ x1337 then
 Option.bind l1338[Int.toNat x1337]? fun cs1348 ↦
 Option.bind (uncons? cs1348) fun p1349 ↦
 Option.bind (AV.int? IntKind.u64 p1349.fst) fun n1350 ↦
 Option.bind (uncons? p1349.snd) fun p1351 ↦
 Option.bind (AV.int? IntKind.u64 p1351.fst) fun n1352 ↦
 Option.bind (nil? p1351.snd) fun _ ↦
 Option.bind
 (E cx (Key.fn 105)
 [AV.agg [vu n1344, vu n1346],
 AV.agg [vu n1350, vu n1352]]
 [])
 fun r1354 ↦
 Option.bind (ret1 r1354) fun v1355 ↦
 Option.bind (AV.bool? v1355) fun b1356 ↦
 bif b1356 then
 some
 (Out.jump (JX.exit 2) [AV.arr 0 2 0 n1336, vi x1337],
 [Ob.mk OK.arr 80 2 2 l1341])
 else
 if 0 ≤ x1337 then
 Option.bind l1338[Int.toNat x1337]? fun cs1357 ↦
 Option.bind (uncons? cs1357) fun p1358 ↦
 Option.bind (AV.int? IntKind.u64 p1358.fst) fun n1359 ↦
 Option.bind (uncons? p1358.snd) fun p1360 ↦
 Option.bind (AV.int? IntKind.u64 p1360.fst) fun n1361 ↦
 Option.bind (nil? p1360.snd) fun _ ↦
 Option.bind
 (chk n1336 (List.length (Ob.mk OK.arr 80 2 2 l1341).es))
 fun _ ↦
 if
 Nat.mul (Nat.add (List.length (Ob.mk OK.arr 80 2 2 l1341).es) 1) 16 ≤
 140737488355328 then
 E cx
 (Key.loop 114
 [true, true, true, false, true, false, false, true, false, false, false, false])
 [AV.arr 0 2 0
 (Nat.add (List.length (Ob.mk OK.arr 80 2 2 l1341).es) 1),
 vi (IntKind.wrap IntKind.i64 (Int.add x1337 1)),
 AV.list 0 2 l1338, AV.list 0 2 l1339, vi x1340]
 [Ob.mk OK.arr 80 2 2
 ((Ob.mk OK.arr 80 2 2 l1341).es ++
 [[vu n1359, vu n1361]])]
 else none
 else none
 else none
 else none
 else
 some
 (Out.jump (JX.exit 2) [AV.arr 0 2 0 n1336, vi x1337],
 [Ob.mk OK.arr 80 2 2 l1341]) := by
  intros
  exact (E_in [188] _ _ _).trans (by kernel_rfl)


theorem f115 : ∀ (x1364 : ByteArray),
 E cx (Key.fn 115) [AV.rop [vs x1364]] [] =
 Option.bind (E cx (Key.fn 116) [vs x1364, vi 8] []) fun r1365 ↦
 Option.bind (ret1 r1365) fun v1366 ↦
 Option.bind (AV.tup? v1366) fun vs1367 ↦
 Option.bind (uncons? vs1367) fun p1368 ↦
 Option.bind (AV.int? IntKind.u64 p1368.fst) fun _ ↦
 Option.bind (uncons? p1368.snd) fun p1370 ↦
 Option.bind (AV.str? p1370.fst) fun _ ↦
 Option.bind (uncons? p1370.snd) fun p1372 ↦
 Option.bind (AV.int? IntKind.i64 p1372.fst) fun _ ↦ Option.bind (nil? p1372.snd) fun _ ↦ none := by
  intros
  exact (E_in [188] _ _ _).trans (by kernel_rfl)


theorem f116 : ∀ (s1375 : ByteArray) (n1376 : Int),
 E cx (Key.fn 116) [vs s1375, vi n1376] [] =
 bif decide (n1376 < 1) then
 some (Out.ret (AV.tuple [vu 0, vs (ByteArray.mk (Array.mk [])), vi 1]), [])
 else
 bif decide (n1376 > 8) then
 some (Out.ret (AV.tuple [vu 0, vs (ByteArray.mk (Array.mk [])), vi 1]), [])
 else
 bif decide (((ByteArray.size s1375) : Int) < n1376) then
 some (Out.ret (AV.tuple [vu 0, vs (ByteArray.mk (Array.mk [])), vi 3]), [])
 else
 Option.bind
 (E cx (Key.loop 116 [true, true, false, true, false])
 [vu 0, vi (IntKind.wrap IntKind.i64 (Int.sub n1376 1)), vs s1375, vi n1376] [])
 fun r1377 ↦
 Option.bind (asJump r1377) fun j1378 ↦
 bif JX.is j1378.fst (JX.exit 1) then
 Option.bind (uncons? j1378.snd.fst) fun p1379 ↦
 Option.bind (AV.int? IntKind.u64 p1379.fst) fun n1380 ↦
 Option.bind (uncons? p1379.snd) fun p1381 ↦
 Option.bind (AV.int? IntKind.i64 p1381.fst) fun _ ↦
 Option.bind (nil? p1381.snd) fun _ ↦
 Option.bind (nil? j1378.snd.snd) fun _ ↦
 if 0 ≤ n1376 then
 if n1376 ≤ ((ByteArray.size s1375) : Int) then
 some
 (Out.ret
 (AV.tuple
 [vu n1380, vs (ByteArray.extract s1375 (Int.toNat n1376) (ByteArray.size s1375)),
 vi 0]),
 [])
 else none
 else none
 else none := by
  intros
  exact (E_in [188] _ _ _).trans (by kernel_rfl)


theorem f116_l0 : ∀ (x1385 x1386 : Int) (s1387 : ByteArray) (x1388 : Int),
 E cx (Key.loop 116 [true, true, false, true, false])
 [vu x1385, vi x1386, vs s1387, vi x1388] [] =
 bif decide (x1386 ≥ 0) then
 if 0 ≤ x1386 then
 Option.bind s1387[Int.toNat x1386]? fun b1389 ↦
 E cx (Key.loop 116 [true, true, false, true, false])
 [vu (ior IntKind.u64 (ishl IntKind.u64 x1385 8) (IntKind.wrap IntKind.u64 ((UInt8.toNat b1389) : Int))),
 vi (IntKind.wrap IntKind.i64 (Int.sub x1386 1)), vs s1387, vi x1388]
 []
 else none
 else some (Out.jump (JX.exit 1) [vu x1385, vi x1386], []) := by
  intros
  exact (E_in [188] _ _ _).trans (by kernel_rfl)


theorem f117 : ∀ (s1390 : ByteArray) (n1391 : Int),
 E cx (Key.fn 117) [vs s1390, vi n1391] [] =
 bif decide (n1391 < 1) then
 some (Out.ret (AV.tuple [vu 0, vs (ByteArray.mk (Array.mk [])), vi 1]), [])
 else
 bif decide (n1391 > 8) then
 some (Out.ret (AV.tuple [vu 0, vs (ByteArray.mk (Array.mk [])), vi 1]), [])
 else
 bif decide (((ByteArray.size s1390) : Int) < n1391) then
 some (Out.ret (AV.tuple [vu 0, vs (ByteArray.mk (Array.mk [])), vi 3]), [])
 else
 if 0 ≤ n1391 then
 if n1391 ≤ ((ByteArray.size s1390) : Int) then
 Option.bind (E cx (Key.fn 152) [vs (ByteArray.extract s1390 0 (Int.toNat n1391))] [])
 fun r1392 ↦
 Option.bind (ret1 r1392) fun v1393 ↦
 Option.bind (AV.int? IntKind.u64 v1393) fun n1394 ↦
 if 0 ≤ n1391 then
 if n1391 ≤ ((ByteArray.size s1390) : Int) then
 some
 (Out.ret
 (AV.tuple
 [vu n1394, vs (ByteArray.extract s1390 (Int.toNat n1391) (ByteArray.size s1390)), vi 0]),
 [])
 else none
 else none
 else none
 else none := by
  intros
  exact (E_in [188] _ _ _).trans (by kernel_rfl)


theorem f147 : ∀ (vals1395 : List (List AV)),
 E cx (Key.fn 147) [AV.list 0 1 vals1395] [] =
 Option.bind
 (E cx (Key.loop 147 [true, true, false, true, false])
 [vi 0, vi 0, vi 0, AV.list 0 1 vals1395, vi ((List.length vals1395) : Int)] [])
 fun r1396 ↦
 Option.bind (asJump r1396) fun j1397 ↦
 bif JX.is j1397.fst (JX.exit 0) then
 Option.bind (uncons? j1397.snd.fst) fun p1398 ↦
 Option.bind (AV.int? IntKind.i64 p1398.fst) fun _ ↦
 Option.bind (uncons? p1398.snd) fun p1400 ↦
 Option.bind (AV.int? IntKind.i64 p1400.fst) fun _ ↦
 Option.bind (nil? p1400.snd) fun _ ↦
 Option.bind (nil? j1397.snd.snd) fun _ ↦ some (Out.ret (vi 0), [])
 else
 bif JX.is j1397.fst JX.ret then
 Option.bind (uncons? j1397.snd.fst) fun p1404 ↦
 Option.bind (AV.int? IntKind.i64 p1404.fst) fun n1405 ↦
 Option.bind (uncons? p1404.snd) fun p1406 ↦
 Option.bind (AV.int? IntKind.i64 p1406.fst) fun _ ↦
 Option.bind (nil? p1406.snd) fun _ ↦
 Option.bind (nil? j1397.snd.snd) fun _ ↦ some (Out.ret (vi n1405), [])
 else none := by
  intros
  exact (E_in [188] _ _ _).trans (by kernel_rfl)


theorem f147_l0 : ∀ (x1410 x1411 x1412 : Int) (l1413 : List (List AV)) (x1414 : Int),
 E cx (Key.loop 147 [true, true, false, true, false])
 [vi x1410, vi x1411, vi x1412, AV.list 0 1 l1413, vi x1414] [] =
 bif decide (x1411 < x1414) then
 if 0 ≤ x1411 then
 Option.bind l1413[Int.toNat x1411]? fun cs1415 ↦
 Option.bind (uncons? cs1415) fun p1416 ↦
 Option.bind (AV.int? IntKind.i64 p1416.fst) fun n1417 ↦
 Option.bind (nil? p1416.snd) fun _ ↦
 bif n1417 != x1412 then some (Out.jump JX.ret [vi n1417, vi x1411], [])
 else
 E cx (Key.loop 147 [true, true, false, true, false])
 [vi x1410, vi (IntKind.wrap IntKind.i64 (Int.add x1411 1)), vi x1412,
 AV.list 0 1 l1413, vi x1414]
 []
 else none
 else some (Out.jump (JX.exit 0) [vi x1410, vi x1411], []) := by
  intros
  exact (E_in [188] _ _ _).trans (by kernel_rfl)


theorem f148 : ∀ (x1419 y1420 : Int),
 E cx (Key.fn 148) [vu x1419, vu y1420] [] =
 Option.bind (E cx (Key.fn 165) [vu x1419] []) fun r1421 ↦
 Option.bind (ret1 r1421) fun v1422 ↦
 Option.bind (AV.bool? v1422) fun b1423 ↦
 bif b1423 then
 Option.bind (E cx (Key.fn 165) [vu y1420] []) fun r1424 ↦
 Option.bind (ret1 r1424) fun v1425 ↦
 Option.bind (AV.bool? v1425) fun b1426 ↦
 bif b1426 then some (Out.ret (vi 0), []) else some (Out.ret (vi (-1)), [])
 else
 Option.bind (E cx (Key.fn 165) [vu y1420] []) fun r1427 ↦
 Option.bind (ret1 r1427) fun v1428 ↦
 Option.bind (AV.bool? v1428) fun b1429 ↦
 bif b1429 then some (Out.ret (vi 1), [])
 else
 bif decide (x1419 < y1420) then some (Out.ret (vi (-1)), [])
 else
 bif decide (x1419 > y1420) then some (Out.ret (vi 1), [])
 else some (Out.ret (vi 0), []) := by
  intros
  exact (E_in [188] _ _ _).trans (by kernel_rfl)


theorem f152 : ∀ (s1430 : ByteArray),
 E cx (Key.fn 152) [vs s1430] [] =
 Option.bind
 (E cx (Key.loop 152 [true, true, false, true, false]) [vu 0, vi 0, vs s1430]
 [])
 fun r1431 ↦
 Option.bind (asJump r1431) fun j1432 ↦
 bif JX.is j1432.fst (JX.exit 0) then
 Option.bind (uncons? j1432.snd.fst) fun p1433 ↦
 Option.bind (AV.int? IntKind.u64 p1433.fst) fun n1434 ↦
 Option.bind (uncons? p1433.snd) fun p1435 ↦
 Option.bind (AV.int? IntKind.i64 p1435.fst) fun _ ↦
 Option.bind (nil? p1435.snd) fun _ ↦
 Option.bind (nil? j1432.snd.snd) fun _ ↦ some (Out.ret (vu n1434), [])
 else none := by
  intros
  exact (E_in [188] _ _ _).trans (by kernel_rfl)


theorem f152_l0 : ∀ (x1439 x1440 : Int) (s1441 : ByteArray),
 E cx (Key.loop 152 [true, true, false, true, false])
 [vu x1439, vi x1440, vs s1441] [] =
 bif decide (x1440 < ((ByteArray.size s1441) : Int)) then
 if 0 ≤ x1440 then
 Option.bind s1441[Int.toNat x1440]? fun b1442 ↦
 if IntKind.wrap IntKind.i64 (Int.mul 8 x1440) < 0 then none
 else
 E cx (Key.loop 152 [true, true, false, true, false])
 [vu
 (IntKind.wrap IntKind.u64
 (Int.add x1439
 (ishl IntKind.u64 (IntKind.wrap IntKind.u64 ((UInt8.toNat b1442) : Int))
 (IntKind.wrap IntKind.i64 (Int.mul 8 x1440))))),
 vi (IntKind.wrap IntKind.i64 (Int.add x1440 1)), vs s1441]
 []
 else none
 else some (Out.jump (JX.exit 0) [vu x1439, vi x1440], []) := by
  intros
  exact (E_in [188] _ _ _).trans (by kernel_rfl)


theorem f165 : ∀ (x1443 : Int),
 E cx (Key.fn 165) [vu x1443] [] =
 bif x1443 != x1443 then some (Out.ret (vbool true), []) else some (Out.ret (vbool false), []) := by
  intros
  exact (E_in [188] _ _ _).trans (by kernel_rfl)

end Go.Proofs.Av
