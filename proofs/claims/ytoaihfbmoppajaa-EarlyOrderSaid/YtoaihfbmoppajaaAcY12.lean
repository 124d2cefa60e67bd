/- A law's tree. -/
import Derived.Test.YtoaihfbmoppajaaAcX
set_option maxRecDepth 100000
namespace Go.Proofs.Av
open Go
theorem f12 : ∀ (raw476 : List (List AV)) (k477 k478 k479 room480 : Int),
 E cx (Key.fn 12)
 [AV.list 0 3 raw476, AV.agg [vi k477, vi k478, vi k479], vi room480] [] =
 Option.bind (E cx (Key.fn 25) [] []) fun r481 ↦
 Option.bind (ret1 r481) fun v482 ↦
 Option.bind (AV.bool? v482) fun b483 ↦
 bif b483 then
 Option.bind (E cx (Key.fn 26) [AV.list 0 3 raw476] []) fun r484 ↦
 Option.bind (ret1 r484) fun v485 ↦
 Option.bind (AV.list? 4 v485) fun es486 ↦
 Option.bind
 (E cx (Key.fn 27)
 [AV.agg [vi k477, vi k478, vi k479]] [])
 fun r487 ↦
 Option.bind (ret1 r487) fun v488 ↦
 Option.bind (AV.cells? v488) fun cs489 ↦
 Option.bind (uncons? cs489) fun p490 ↦
 Option.bind (AV.int? IntKind.i64 p490.fst) fun n491 ↦
 Option.bind (uncons? p490.snd) fun p492 ↦
 Option.bind (AV.int? IntKind.i64 p492.fst) fun n493 ↦
 Option.bind (uncons? p492.snd) fun p494 ↦
 Option.bind (AV.int? IntKind.i64 p494.fst) fun n495 ↦
 Option.bind (uncons? p494.snd) fun p496 ↦
 Option.bind (AV.str? p496.fst) fun s497 ↦
 Option.bind (nil? p496.snd) fun _ ↦
 Option.bind
 (E cx (Key.loop 12 [true, true, true, true, true, false, true, false])
 [vbool false, vi 0, vi room480, vbool true,
 AV.list 0 4 es486, AV.ptr 1 0 0 0]
 [Ob.mk OK.box 51 3 0
 [[vi k477, vi k478, vi k479]],
 Ob.mk OK.box 50 4 0
 [[vi n491, vi n493, vi n495, vs s497]]])
 fun r499 ↦
 Option.bind (asJump r499) fun j500 ↦
 bif JX.is j500.fst (JX.exit 0) then
 Option.bind (uncons? j500.snd.fst) fun p501 ↦
 Option.bind (AV.bool? p501.fst) fun b502 ↦
 Option.bind (uncons? p501.snd) fun p503 ↦
 Option.bind (AV.int? IntKind.i64 p503.fst) fun _ ↦
 Option.bind (nil? p503.snd) fun _ ↦
 Option.bind (uncons? j500.snd.snd) fun p506 ↦
 Option.bind
 (obIs
 (Ob.mk OK.box 51 3 0
 [[vi k477, vi k478, vi k479]])
 p506.fst)
 fun _ ↦
 Option.bind (chk p506.fst.ver 0) fun _ ↦
 Option.bind (uncons? p506.fst.es) fun p509 ↦
 Option.bind (nil? p509.snd) fun _ ↦
 Option.bind (uncons? p509.fst) fun p511 ↦
 Option.bind (AV.int? IntKind.i64 p511.fst) fun _ ↦
 Option.bind (uncons? p511.snd) fun p513 ↦
 Option.bind (AV.int? IntKind.i64 p513.fst) fun _ ↦
 Option.bind (uncons? p513.snd) fun p515 ↦
 Option.bind (AV.int? IntKind.i64 p515.fst) fun _ ↦
 Option.bind (nil? p515.snd) fun _ ↦
 Option.bind (uncons? p506.snd) fun p518 ↦
 Option.bind
 (obIs
 (Ob.mk OK.box 50 4 0
 [[vi n491, vi n493, vi n495,
 vs s497]])
 p518.fst)
 fun _ ↦
 Option.bind (chk p518.fst.ver 0) fun _ ↦
 Option.bind (uncons? p518.fst.es) fun p521 ↦
 Option.bind (nil? p521.snd) fun _ ↦
 Option.bind (uncons? p521.fst) fun p523 ↦
 Option.bind (AV.int? IntKind.i64 p523.fst)
 fun n524 ↦
 Option.bind (uncons? p523.snd) fun p525 ↦
 Option.bind (AV.int? IntKind.i64 p525.fst)
 fun n526 ↦
 Option.bind (uncons? p525.snd) fun p527 ↦
 Option.bind (AV.int? IntKind.i64 p527.fst)
 fun n528 ↦
 Option.bind (uncons? p527.snd) fun p529 ↦
 Option.bind (AV.str? p529.fst) fun s530 ↦
 Option.bind (nil? p529.snd) fun _ ↦
 Option.bind (nil? p518.snd)
 fun _ ↦
 Option.bind
 (E cx
 (Key.fn 28)
 [vi room480, vi 4]
 [])
 fun r533 ↦
 Option.bind (ret1 r533)
 fun v534 ↦
 Option.bind
 (AV.int? IntKind.i64 v534)
 fun n535 ↦
 Option.bind
 (E cx
 (Key.fn 29)
 [AV.list 0 4 es486,
 vi
 (IntKind.wrap IntKind.i64
 (Int.sub (((List.length es486) : Int))
 n535)),
 AV.agg
 [vi n524,
 vi n526,
 vi n528,
 vs s530]]
 [])
 fun r536 ↦
 Option.bind (ret1 r536)
 fun v537 ↦
 Option.bind
 (AV.tup? v537)
 fun vs538 ↦
 Option.bind
 (uncons? vs538)
 fun p539 ↦
 Option.bind
 (AV.list? 4
 p539.fst)
 fun es540 ↦
 Option.bind
 (uncons?
 p539.snd)
 fun p541 ↦
 Option.bind
 (AV.int?
 IntKind.i64 p541.fst)
 fun n542 ↦
 Option.bind
 (nil?
 p541.snd)
 fun _ ↦
 Option.bind
 (E
 cx
 (Key.fn
 29)
 [AV.list
 0 4 es486,
 vi
 (IntKind.wrap
 IntKind.i64
 (Int.add
 (((List.length
 es486) : Int))
 1)),
 AV.agg
 [vi
 n524,
 vi
 n526,
 vi
 n528,
 vs
 s530]]
 [])
 fun r544 ↦
 Option.bind
 (ret1
 r544)
 fun v545 ↦
 Option.bind
 (AV.tup?
 v545)
 fun vs546 ↦
 Option.bind
 (uncons?
 vs546)
 fun p547 ↦
 Option.bind
 (AV.list?
 4 p547.fst)
 fun es548 ↦
 Option.bind
 (uncons?
 p547.snd)
 fun p549 ↦
 Option.bind
 (AV.int?
 IntKind.i64
 p549.fst)
 fun n550 ↦
 Option.bind
 (nil?
 p549.snd)
 fun _ ↦
 bif
 b502 then
 bif
 decide
 (n542 =
 7) then
 bif
 decide
 (n550 =
 7) then
 bif
 decide
 (((List.length
 es540) : Int) =
 0) then
 bif
 decide
 (((List.length
 es548) : Int) =
 0) then
 some
 (Out.ret
 (vbool
 true),
 [])
 else
 some
 (Out.ret
 (vbool
 false),
 [])
 else
 some
 (Out.ret
 (vbool
 false),
 [])
 else
 some
 (Out.ret
 (vbool
 false),
 [])
 else
 some
 (Out.ret
 (vbool
 false),
 [])
 else
 bif
 decide
 (n542 =
 5) then
 bif
 decide
 (((List.length
 es540) : Int) =
 0) then
 bif
 decide
 (n550 =
 0) then
 bif
 decide
 (((List.length
 es548) : Int) =
 IntKind.wrap
 IntKind.i64
 (Int.add
 (((List.length
 es486) : Int))
 1)) then
 Option.bind
 (E
 cx
 (Key.fn
 36)
 [AV.list
 0
 4
 es548]
 [])
 fun
 r552 ↦
 Option.bind
 (ret1
 r552)
 fun
 v553 ↦
 Option.bind
 (AV.bool?
 v553)
 fun
 b554 ↦
 bif
 b554 then
 some
 (Out.ret
 (vbool
 true),
 [])
 else
 some
 (Out.ret
 (vbool
 false),
 [])
 else
 some
 (Out.ret
 (vbool
 false),
 [])
 else
 some
 (Out.ret
 (vbool
 false),
 [])
 else
 some
 (Out.ret
 (vbool
 false),
 [])
 else
 some
 (Out.ret
 (vbool
 false),
 [])
 else none
 else
 Option.bind (E cx (Key.fn 26) [AV.list 0 3 raw476] []) fun r555 ↦
 Option.bind (ret1 r555) fun v556 ↦
 Option.bind (AV.list? 4 v556) fun es557 ↦
 Option.bind
 (E cx (Key.fn 27)
 [AV.agg [vi k477, vi k478, vi k479]] [])
 fun r558 ↦
 Option.bind (ret1 r558) fun v559 ↦
 Option.bind (AV.cells? v559) fun cs560 ↦
 Option.bind (uncons? cs560) fun p561 ↦
 Option.bind (AV.int? IntKind.i64 p561.fst) fun n562 ↦
 Option.bind (uncons? p561.snd) fun p563 ↦
 Option.bind (AV.int? IntKind.i64 p563.fst) fun n564 ↦
 Option.bind (uncons? p563.snd) fun p565 ↦
 Option.bind (AV.int? IntKind.i64 p565.fst) fun n566 ↦
 Option.bind (uncons? p565.snd) fun p567 ↦
 Option.bind (AV.str? p567.fst) fun s568 ↦
 Option.bind (nil? p567.snd) fun _ ↦
 Option.bind
 (E cx (Key.loop 12 [true, true, true, true, true, false, true, false])
 [vbool false, vi 0, vi room480, vbool false,
 AV.list 0 4 es557, AV.ptr 1 0 0 0]
 [Ob.mk OK.box 51 3 0
 [[vi k477, vi k478, vi k479]],
 Ob.mk OK.box 50 4 0
 [[vi n562, vi n564, vi n566, vs s568]]])
 fun r570 ↦
 Option.bind (asJump r570) fun j571 ↦
 bif JX.is j571.fst (JX.exit 0) then
 Option.bind (uncons? j571.snd.fst) fun p572 ↦
 Option.bind (AV.bool? p572.fst) fun b573 ↦
 Option.bind (uncons? p572.snd) fun p574 ↦
 Option.bind (AV.int? IntKind.i64 p574.fst) fun _ ↦
 Option.bind (nil? p574.snd) fun _ ↦
 Option.bind (uncons? j571.snd.snd) fun p577 ↦
 Option.bind
 (obIs
 (Ob.mk OK.box 51 3 0
 [[vi k477, vi k478, vi k479]])
 p577.fst)
 fun _ ↦
 Option.bind (chk p577.fst.ver 0) fun _ ↦
 Option.bind (uncons? p577.fst.es) fun p580 ↦
 Option.bind (nil? p580.snd) fun _ ↦
 Option.bind (uncons? p580.fst) fun p582 ↦
 Option.bind (AV.int? IntKind.i64 p582.fst) fun _ ↦
 Option.bind (uncons? p582.snd) fun p584 ↦
 Option.bind (AV.int? IntKind.i64 p584.fst) fun _ ↦
 Option.bind (uncons? p584.snd) fun p586 ↦
 Option.bind (AV.int? IntKind.i64 p586.fst) fun _ ↦
 Option.bind (nil? p586.snd) fun _ ↦
 Option.bind (uncons? p577.snd) fun p589 ↦
 Option.bind
 (obIs
 (Ob.mk OK.box 50 4 0
 [[vi n562, vi n564, vi n566,
 vs s568]])
 p589.fst)
 fun _ ↦
 Option.bind (chk p589.fst.ver 0) fun _ ↦
 Option.bind (uncons? p589.fst.es) fun p592 ↦
 Option.bind (nil? p592.snd) fun _ ↦
 Option.bind (uncons? p592.fst) fun p594 ↦
 Option.bind (AV.int? IntKind.i64 p594.fst)
 fun n595 ↦
 Option.bind (uncons? p594.snd) fun p596 ↦
 Option.bind (AV.int? IntKind.i64 p596.fst)
 fun n597 ↦
 Option.bind (uncons? p596.snd) fun p598 ↦
 Option.bind (AV.int? IntKind.i64 p598.fst)
 fun n599 ↦
 Option.bind (uncons? p598.snd) fun p600 ↦
 Option.bind (AV.str? p600.fst) fun s601 ↦
 Option.bind (nil? p600.snd) fun _ ↦
 Option.bind (nil? p589.snd)
 fun _ ↦
 Option.bind
 (E cx
 (Key.fn 28)
 [vi room480, vi 4]
 [])
 fun r604 ↦
 Option.bind (ret1 r604)
 fun v605 ↦
 Option.bind
 (AV.int? IntKind.i64 v605)
 fun n606 ↦
 Option.bind
 (E cx
 (Key.fn 29)
 [AV.list 0 4 es557,
 vi
 (IntKind.wrap IntKind.i64
 (Int.sub (((List.length es557) : Int))
 n606)),
 AV.agg
 [vi n595,
 vi n597,
 vi n599,
 vs s601]]
 [])
 fun r607 ↦
 Option.bind (ret1 r607)
 fun v608 ↦
 Option.bind
 (AV.tup? v608)
 fun vs609 ↦
 Option.bind
 (uncons? vs609)
 fun p610 ↦
 Option.bind
 (AV.list? 4
 p610.fst)
 fun _ ↦
 Option.bind
 (uncons?
 p610.snd)
 fun p612 ↦
 Option.bind
 (AV.int?
 IntKind.i64 p612.fst)
 fun _ ↦
 Option.bind
 (nil?
 p612.snd)
 fun _ ↦
 Option.bind
 (E
 cx
 (Key.fn
 29)
 [AV.list
 0 4 es557,
 vi
 (IntKind.wrap
 IntKind.i64
 (Int.add
 (((List.length
 es557) : Int))
 1)),
 AV.agg
 [vi
 n595,
 vi
 n597,
 vi
 n599,
 vs
 s601]]
 [])
 fun r615 ↦
 Option.bind
 (ret1
 r615)
 fun v616 ↦
 Option.bind
 (AV.tup?
 v616)
 fun vs617 ↦
 Option.bind
 (uncons?
 vs617)
 fun p618 ↦
 Option.bind
 (AV.list?
 4 p618.fst)
 fun _ ↦
 Option.bind
 (uncons?
 p618.snd)
 fun p620 ↦
 Option.bind
 (AV.int?
 IntKind.i64
 p620.fst)
 fun _ ↦
 Option.bind
 (nil?
 p620.snd)
 fun _ ↦
 bif
 b573 then
 some
 (Out.ret
 (vbool
 false),
 [])
 else
 some
 (Out.ret
 (vbool
 false),
 [])
 else none := by
  intros
  exact (E_fast _ _ _ _).trans (by kernel_rfl)

theorem f12_l0 : ∀ (b623 : Bool) (x624 x625 : Int) (b626 : Bool) (l627 : List (List AV)) (x628 x629 x630 x631 x632 x633 : Int) (s634 : ByteArray),
 E cx (Key.loop 12 [true, true, true, true, true, false, true, false])
 [vbool b623, vi x624, vi x625, vbool b626, AV.list 0 4 l627, AV.ptr 1 0 0 0]
 [Ob.mk OK.box 51 3 0 [[vi x628, vi x629, vi x630]],
 Ob.mk OK.box 50 4 0 [[vi x631, vi x632, vi x633, vs s634]]] =
 bif decide (x624 < ((List.length l627) : Int)) then
 bif decide (b623 = false) then
 bif decide (b623 = false) then
 bif decide (b623 = false) then
 if 0 ≤ x624 then
 Option.bind l627[Int.toNat x624]? fun cs635 ↦
 Option.bind (uncons? cs635) fun p636 ↦
 Option.bind (AV.int? IntKind.i64 p636.fst) fun n637 ↦
 Option.bind (uncons? p636.snd) fun p638 ↦
 Option.bind (AV.int? IntKind.i64 p638.fst) fun _ ↦
 Option.bind (uncons? p638.snd) fun p640 ↦
 Option.bind (AV.int? IntKind.i64 p640.fst) fun _ ↦
 Option.bind (uncons? p640.snd) fun p642 ↦
 Option.bind (AV.str? p642.fst) fun _ ↦
 Option.bind (nil? p642.snd) fun _ ↦
 bif decide (b623 = false) then
 bif decide (b623 = false) then
 bif decide (b623 = false) then
 bif decide (b623 = false) then
 bif decide (b623 = false) then
 bif decide (n637 = x631) then
 bif decide (b623 = false) then
 if 0 ≤ x624 then
 Option.bind l627[Int.toNat x624]? fun cs645 ↦
 Option.bind (uncons? cs645) fun p646 ↦
 Option.bind (AV.int? IntKind.i64 p646.fst) fun _ ↦
 Option.bind (uncons? p646.snd) fun p648 ↦
 Option.bind (AV.int? IntKind.i64 p648.fst) fun n649 ↦
 Option.bind (uncons? p648.snd) fun p650 ↦
 Option.bind (AV.int? IntKind.i64 p650.fst) fun _ ↦
 Option.bind (uncons? p650.snd) fun p652 ↦
 Option.bind (AV.str? p652.fst) fun _ ↦
 Option.bind (nil? p652.snd) fun _ ↦
 bif decide (n649 = x632) then
 bif decide (b623 = false) then
 bif b623 then
 E cx
 (Key.loop 12 [true, true, true, true, true, false, true, false])
 [vbool true,
 vi (IntKind.wrap IntKind.i64 (Int.add x624 1)),
 vi x625, vbool b626, AV.list 0 4 l627,
 AV.ptr 1 0 0 0]
 [Ob.mk OK.box 51 3 0
 [[vi x628, vi x629, vi x630]],
 Ob.mk OK.box 50 4 0
 [[vi x631, vi x632, vi x633,
 vs s634]]]
 else
 E cx
 (Key.loop 12 [true, true, true, true, true, false, true, false])
 [vbool true,
 vi (IntKind.wrap IntKind.i64 (Int.add x624 1)),
 vi x625, vbool b626, AV.list 0 4 l627,
 AV.ptr 1 0 0 0]
 [Ob.mk OK.box 51 3 0
 [[vi x628, vi x629, vi x630]],
 Ob.mk OK.box 50 4 0
 [[vi x631, vi x632, vi x633,
 vs s634]]]
 else
 bif b623 then
 E cx
 (Key.loop 12 [true, true, true, true, true, false, true, false])
 [vbool true,
 vi (IntKind.wrap IntKind.i64 (Int.add x624 1)),
 vi x625, vbool b626, AV.list 0 4 l627,
 AV.ptr 1 0 0 0]
 [Ob.mk OK.box 51 3 0
 [[vi x628, vi x629, vi x630]],
 Ob.mk OK.box 50 4 0
 [[vi x631, vi x632, vi x633,
 vs s634]]]
 else
 E cx
 (Key.loop 12 [true, true, true, true, true, false, true, false])
 [AV.val (Go.Value.tuple (Array.mk [])),
 vi (IntKind.wrap IntKind.i64 (Int.add x624 1)),
 vi x625, vbool b626, AV.list 0 4 l627,
 AV.ptr 1 0 0 0]
 [Ob.mk OK.box 51 3 0
 [[vi x628, vi x629, vi x630]],
 Ob.mk OK.box 50 4 0
 [[vi x631, vi x632, vi x633,
 vs s634]]]
 else
 bif decide (b623 = false) then
 bif b623 then
 E cx
 (Key.loop 12 [true, true, true, true, true, false, true, false])
 [vbool true,
 vi (IntKind.wrap IntKind.i64 (Int.add x624 1)),
 vi x625, vbool b626, AV.list 0 4 l627,
 AV.ptr 1 0 0 0]
 [Ob.mk OK.box 51 3 0
 [[vi x628, vi x629, vi x630]],
 Ob.mk OK.box 50 4 0
 [[vi x631, vi x632, vi x633,
 vs s634]]]
 else
 E cx
 (Key.loop 12 [true, true, true, true, true, false, true, false])
 [vbool false,
 vi (IntKind.wrap IntKind.i64 (Int.add x624 1)),
 vi x625, vbool b626, AV.list 0 4 l627,
 AV.ptr 1 0 0 0]
 [Ob.mk OK.box 51 3 0
 [[vi x628, vi x629, vi x630]],
 Ob.mk OK.box 50 4 0
 [[vi x631, vi x632, vi x633,
 vs s634]]]
 else
 bif b623 then
 E cx
 (Key.loop 12 [true, true, true, true, true, false, true, false])
 [vbool true,
 vi (IntKind.wrap IntKind.i64 (Int.add x624 1)),
 vi x625, vbool b626, AV.list 0 4 l627,
 AV.ptr 1 0 0 0]
 [Ob.mk OK.box 51 3 0
 [[vi x628, vi x629, vi x630]],
 Ob.mk OK.box 50 4 0
 [[vi x631, vi x632, vi x633,
 vs s634]]]
 else
 E cx
 (Key.loop 12 [true, true, true, true, true, false, true, false])
 [AV.val (Go.Value.tuple (Array.mk [])),
 vi (IntKind.wrap IntKind.i64 (Int.add x624 1)),
 vi x625, vbool b626, AV.list 0 4 l627,
 AV.ptr 1 0 0 0]
 [Ob.mk OK.box 51 3 0
 [[vi x628, vi x629, vi x630]],
 Ob.mk OK.box 50 4 0
 [[vi x631, vi x632, vi x633,
 vs s634]]]
 else none
 else
 bif decide (b623 = false) then none
 else
 bif b623 then
 E cx (Key.loop 12 [true, true, true, true, true, false, true, false])
 [vbool true, vi (IntKind.wrap IntKind.i64 (Int.add x624 1)),
 vi x625, vbool b626, AV.list 0 4 l627,
 AV.ptr 1 0 0 0]
 [Ob.mk OK.box 51 3 0
 [[vi x628, vi x629, vi x630]],
 Ob.mk OK.box 50 4 0
 [[vi x631, vi x632, vi x633, vs s634]]]
 else
 E cx (Key.loop 12 [true, true, true, true, true, false, true, false])
 [AV.val (Go.Value.tuple (Array.mk [])),
 vi (IntKind.wrap IntKind.i64 (Int.add x624 1)), vi x625,
 vbool b626, AV.list 0 4 l627, AV.ptr 1 0 0 0]
 [Ob.mk OK.box 51 3 0
 [[vi x628, vi x629, vi x630]],
 Ob.mk OK.box 50 4 0
 [[vi x631, vi x632, vi x633, vs s634]]]
 else
 bif decide (b623 = false) then
 bif decide (b623 = false) then
 bif b623 then
 E cx (Key.loop 12 [true, true, true, true, true, false, true, false])
 [vbool true, vi (IntKind.wrap IntKind.i64 (Int.add x624 1)),
 vi x625, vbool b626, AV.list 0 4 l627,
 AV.ptr 1 0 0 0]
 [Ob.mk OK.box 51 3 0
 [[vi x628, vi x629, vi x630]],
 Ob.mk OK.box 50 4 0
 [[vi x631, vi x632, vi x633, vs s634]]]
 else
 E cx (Key.loop 12 [true, true, true, true, true, false, true, false])
 [vbool false, vi (IntKind.wrap IntKind.i64 (Int.add x624 1)),
 vi x625, vbool b626, AV.list 0 4 l627,
 AV.ptr 1 0 0 0]
 [Ob.mk OK.box 51 3 0
 [[vi x628, vi x629, vi x630]],
 Ob.mk OK.box 50 4 0
 [[vi x631, vi x632, vi x633, vs s634]]]
 else
 bif b623 then
 E cx (Key.loop 12 [true, true, true, true, true, false, true, false])
 [vbool true, vi (IntKind.wrap IntKind.i64 (Int.add x624 1)),
 vi x625, vbool b626, AV.list 0 4 l627,
 AV.ptr 1 0 0 0]
 [Ob.mk OK.box 51 3 0
 [[vi x628, vi x629, vi x630]],
 Ob.mk OK.box 50 4 0
 [[vi x631, vi x632, vi x633, vs s634]]]
 else
 E cx (Key.loop 12 [true, true, true, true, true, false, true, false])
 [AV.val (Go.Value.tuple (Array.mk [])),
 vi (IntKind.wrap IntKind.i64 (Int.add x624 1)), vi x625,
 vbool b626, AV.list 0 4 l627, AV.ptr 1 0 0 0]
 [Ob.mk OK.box 51 3 0
 [[vi x628, vi x629, vi x630]],
 Ob.mk OK.box 50 4 0
 [[vi x631, vi x632, vi x633, vs s634]]]
 else
 bif decide (b623 = false) then none
 else
 bif b623 then
 E cx (Key.loop 12 [true, true, true, true, true, false, true, false])
 [vbool true, vi (IntKind.wrap IntKind.i64 (Int.add x624 1)),
 vi x625, vbool b626, AV.list 0 4 l627,
 AV.ptr 1 0 0 0]
 [Ob.mk OK.box 51 3 0
 [[vi x628, vi x629, vi x630]],
 Ob.mk OK.box 50 4 0
 [[vi x631, vi x632, vi x633, vs s634]]]
 else
 E cx (Key.loop 12 [true, true, true, true, true, false, true, false])
 [AV.val (Go.Value.tuple (Array.mk [])),
 vi (IntKind.wrap IntKind.i64 (Int.add x624 1)), vi x625,
 vbool b626, AV.list 0 4 l627, AV.ptr 1 0 0 0]
 [Ob.mk OK.box 51 3 0
 [[vi x628, vi x629, vi x630]],
 Ob.mk OK.box 50 4 0
 [[vi x631, vi x632, vi x633, vs s634]]]
 else
 bif decide (b623 = false) then
 bif decide (b623 = false) then none
 else
 bif b623 then
 E cx (Key.loop 12 [true, true, true, true, true, false, true, false])
 [vbool true, vi (IntKind.wrap IntKind.i64 (Int.add x624 1)),
 vi x625, vbool b626, AV.list 0 4 l627, AV.ptr 1 0 0 0]
 [Ob.mk OK.box 51 3 0
 [[vi x628, vi x629, vi x630]],
 Ob.mk OK.box 50 4 0
 [[vi x631, vi x632, vi x633, vs s634]]]
 else
 E cx (Key.loop 12 [true, true, true, true, true, false, true, false])
 [AV.val (Go.Value.tuple (Array.mk [])),
 vi (IntKind.wrap IntKind.i64 (Int.add x624 1)), vi x625,
 vbool b626, AV.list 0 4 l627, AV.ptr 1 0 0 0]
 [Ob.mk OK.box 51 3 0
 [[vi x628, vi x629, vi x630]],
 Ob.mk OK.box 50 4 0
 [[vi x631, vi x632, vi x633, vs s634]]]
 else
 bif decide (b623 = false) then none
 else
 bif b623 then
 E cx (Key.loop 12 [true, true, true, true, true, false, true, false])
 [vbool true, vi (IntKind.wrap IntKind.i64 (Int.add x624 1)),
 vi x625, vbool b626, AV.list 0 4 l627, AV.ptr 1 0 0 0]
 [Ob.mk OK.box 51 3 0
 [[vi x628, vi x629, vi x630]],
 Ob.mk OK.box 50 4 0
 [[vi x631, vi x632, vi x633, vs s634]]]
 else
 E cx (Key.loop 12 [true, true, true, true, true, false, true, false])
 [AV.val (Go.Value.tuple (Array.mk [])),
 vi (IntKind.wrap IntKind.i64 (Int.add x624 1)), vi x625,
 vbool b626, AV.list 0 4 l627, AV.ptr 1 0 0 0]
 [Ob.mk OK.box 51 3 0
 [[vi x628, vi x629, vi x630]],
 Ob.mk OK.box 50 4 0
 [[vi x631, vi x632, vi x633, vs s634]]]
 else
 bif decide (b623 = false) then none
 else
 bif decide (b623 = false) then
 bif decide (b623 = false) then none
 else
 bif b623 then
 E cx (Key.loop 12 [true, true, true, true, true, false, true, false])
 [vbool true, vi (IntKind.wrap IntKind.i64 (Int.add x624 1)),
 vi x625, vbool b626, AV.list 0 4 l627, AV.ptr 1 0 0 0]
 [Ob.mk OK.box 51 3 0
 [[vi x628, vi x629, vi x630]],
 Ob.mk OK.box 50 4 0
 [[vi x631, vi x632, vi x633, vs s634]]]
 else
 E cx (Key.loop 12 [true, true, true, true, true, false, true, false])
 [AV.val (Go.Value.tuple (Array.mk [])),
 vi (IntKind.wrap IntKind.i64 (Int.add x624 1)), vi x625,
 vbool b626, AV.list 0 4 l627, AV.ptr 1 0 0 0]
 [Ob.mk OK.box 51 3 0
 [[vi x628, vi x629, vi x630]],
 Ob.mk OK.box 50 4 0
 [[vi x631, vi x632, vi x633, vs s634]]]
 else
 bif decide (b623 = false) then none
 else
 bif b623 then
 E cx (Key.loop 12 [true, true, true, true, true, false, true, false])
 [vbool true, vi (IntKind.wrap IntKind.i64 (Int.add x624 1)),
 vi x625, vbool b626, AV.list 0 4 l627, AV.ptr 1 0 0 0]
 [Ob.mk OK.box 51 3 0
 [[vi x628, vi x629, vi x630]],
 Ob.mk OK.box 50 4 0
 [[vi x631, vi x632, vi x633, vs s634]]]
 else
 E cx (Key.loop 12 [true, true, true, true, true, false, true, false])
 [AV.val (Go.Value.tuple (Array.mk [])),
 vi (IntKind.wrap IntKind.i64 (Int.add x624 1)), vi x625,
 vbool b626, AV.list 0 4 l627, AV.ptr 1 0 0 0]
 [Ob.mk OK.box 51 3 0
 [[vi x628, vi x629, vi x630]],
 Ob.mk OK.box 50 4 0
 [[vi x631, vi x632, vi x633, vs s634]]]
 else
 bif decide (b623 = false) then none
 else
 bif decide (b623 = false) then none
 else
 bif decide (b623 = false) then
 bif decide (b623 = false) then none
 else
 bif b623 then
 E cx (Key.loop 12 [true, true, true, true, true, false, true, false])
 [vbool true, vi (IntKind.wrap IntKind.i64 (Int.add x624 1)),
 vi x625, vbool b626, AV.list 0 4 l627, AV.ptr 1 0 0 0]
 [Ob.mk OK.box 51 3 0
 [[vi x628, vi x629, vi x630]],
 Ob.mk OK.box 50 4 0
 [[vi x631, vi x632, vi x633, vs s634]]]
 else
 E cx (Key.loop 12 [true, true, true, true, true, false, true, false])
 [AV.val (Go.Value.tuple (Array.mk [])),
 vi (IntKind.wrap IntKind.i64 (Int.add x624 1)), vi x625,
 vbool b626, AV.list 0 4 l627, AV.ptr 1 0 0 0]
 [Ob.mk OK.box 51 3 0
 [[vi x628, vi x629, vi x630]],
 Ob.mk OK.box 50 4 0
 [[vi x631, vi x632, vi x633, vs s634]]]
 else
 bif decide (b623 = false) then none
 else
 bif b623 then
 E cx (Key.loop 12 [true, true, true, true, true, false, true, false])
 [vbool true, vi (IntKind.wrap IntKind.i64 (Int.add x624 1)),
 vi x625, vbool b626, AV.list 0 4 l627, AV.ptr 1 0 0 0]
 [Ob.mk OK.box 51 3 0
 [[vi x628, vi x629, vi x630]],
 Ob.mk OK.box 50 4 0
 [[vi x631, vi x632, vi x633, vs s634]]]
 else
 E cx (Key.loop 12 [true, true, true, true, true, false, true, false])
 [AV.val (Go.Value.tuple (Array.mk [])),
 vi (IntKind.wrap IntKind.i64 (Int.add x624 1)), vi x625,
 vbool b626, AV.list 0 4 l627, AV.ptr 1 0 0 0]
 [Ob.mk OK.box 51 3 0
 [[vi x628, vi x629, vi x630]],
 Ob.mk OK.box 50 4 0
 [[vi x631, vi x632, vi x633, vs s634]]]
 else
 bif decide (b623 = false) then
 bif decide (b623 = false) then
 bif decide (b623 = false) then none
 else
 bif decide (b623 = false) then
 bif decide (b623 = false) then none
 else
 bif b623 then
 E cx (Key.loop 12 [true, true, true, true, true, false, true, false])
 [vbool true, vi (IntKind.wrap IntKind.i64 (Int.add x624 1)),
 vi x625, vbool b626, AV.list 0 4 l627, AV.ptr 1 0 0 0]
 [Ob.mk OK.box 51 3 0
 [[vi x628, vi x629, vi x630]],
 Ob.mk OK.box 50 4 0
 [[vi x631, vi x632, vi x633, vs s634]]]
 else
 E cx (Key.loop 12 [true, true, true, true, true, false, true, false])
 [AV.val (Go.Value.tuple (Array.mk [])),
 vi (IntKind.wrap IntKind.i64 (Int.add x624 1)), vi x625,
 vbool b626, AV.list 0 4 l627, AV.ptr 1 0 0 0]
 [Ob.mk OK.box 51 3 0
 [[vi x628, vi x629, vi x630]],
 Ob.mk OK.box 50 4 0
 [[vi x631, vi x632, vi x633, vs s634]]]
 else
 bif decide (b623 = false) then none
 else
 bif b623 then
 E cx (Key.loop 12 [true, true, true, true, true, false, true, false])
 [vbool true, vi (IntKind.wrap IntKind.i64 (Int.add x624 1)),
 vi x625, vbool b626, AV.list 0 4 l627, AV.ptr 1 0 0 0]
 [Ob.mk OK.box 51 3 0
 [[vi x628, vi x629, vi x630]],
 Ob.mk OK.box 50 4 0
 [[vi x631, vi x632, vi x633, vs s634]]]
 else
 E cx (Key.loop 12 [true, true, true, true, true, false, true, false])
 [AV.val (Go.Value.tuple (Array.mk [])),
 vi (IntKind.wrap IntKind.i64 (Int.add x624 1)), vi x625,
 vbool b626, AV.list 0 4 l627, AV.ptr 1 0 0 0]
 [Ob.mk OK.box 51 3 0
 [[vi x628, vi x629, vi x630]],
 Ob.mk OK.box 50 4 0
 [[vi x631, vi x632, vi x633, vs s634]]]
 else
 bif decide (b623 = false) then none
 else
 bif decide (b623 = false) then
 bif decide (b623 = false) then none
 else
 bif b623 then
 E cx (Key.loop 12 [true, true, true, true, true, false, true, false])
 [vbool true, vi (IntKind.wrap IntKind.i64 (Int.add x624 1)),
 vi x625, vbool b626, AV.list 0 4 l627, AV.ptr 1 0 0 0]
 [Ob.mk OK.box 51 3 0
 [[vi x628, vi x629, vi x630]],
 Ob.mk OK.box 50 4 0
 [[vi x631, vi x632, vi x633, vs s634]]]
 else
 E cx (Key.loop 12 [true, true, true, true, true, false, true, false])
 [AV.val (Go.Value.tuple (Array.mk [])),
 vi (IntKind.wrap IntKind.i64 (Int.add x624 1)), vi x625,
 vbool b626, AV.list 0 4 l627, AV.ptr 1 0 0 0]
 [Ob.mk OK.box 51 3 0
 [[vi x628, vi x629, vi x630]],
 Ob.mk OK.box 50 4 0
 [[vi x631, vi x632, vi x633, vs s634]]]
 else
 bif decide (b623 = false) then none
 else
 bif b623 then
 E cx (Key.loop 12 [true, true, true, true, true, false, true, false])
 [vbool true, vi (IntKind.wrap IntKind.i64 (Int.add x624 1)),
 vi x625, vbool b626, AV.list 0 4 l627, AV.ptr 1 0 0 0]
 [Ob.mk OK.box 51 3 0
 [[vi x628, vi x629, vi x630]],
 Ob.mk OK.box 50 4 0
 [[vi x631, vi x632, vi x633, vs s634]]]
 else
 E cx (Key.loop 12 [true, true, true, true, true, false, true, false])
 [AV.val (Go.Value.tuple (Array.mk [])),
 vi (IntKind.wrap IntKind.i64 (Int.add x624 1)), vi x625,
 vbool b626, AV.list 0 4 l627, AV.ptr 1 0 0 0]
 [Ob.mk OK.box 51 3 0
 [[vi x628, vi x629, vi x630]],
 Ob.mk OK.box 50 4 0
 [[vi x631, vi x632, vi x633, vs s634]]]
 else
 bif decide (b623 = false) then none
 else
 bif decide (b623 = false) then none
 else
 bif decide (b623 = false) then
 bif decide (b623 = false) then none
 else
 bif b623 then
 E cx (Key.loop 12 [true, true, true, true, true, false, true, false])
 [vbool true, vi (IntKind.wrap IntKind.i64 (Int.add x624 1)),
 vi x625, vbool b626, AV.list 0 4 l627, AV.ptr 1 0 0 0]
 [Ob.mk OK.box 51 3 0
 [[vi x628, vi x629, vi x630]],
 Ob.mk OK.box 50 4 0
 [[vi x631, vi x632, vi x633, vs s634]]]
 else
 E cx (Key.loop 12 [true, true, true, true, true, false, true, false])
 [AV.val (Go.Value.tuple (Array.mk [])),
 vi (IntKind.wrap IntKind.i64 (Int.add x624 1)), vi x625,
 vbool b626, AV.list 0 4 l627, AV.ptr 1 0 0 0]
 [Ob.mk OK.box 51 3 0
 [[vi x628, vi x629, vi x630]],
 Ob.mk OK.box 50 4 0
 [[vi x631, vi x632, vi x633, vs s634]]]
 else
 bif decide (b623 = false) then none
 else
 bif b623 then
 E cx (Key.loop 12 [true, true, true, true, true, false, true, false])
 [vbool true, vi (IntKind.wrap IntKind.i64 (Int.add x624 1)),
 vi x625, vbool b626, AV.list 0 4 l627, AV.ptr 1 0 0 0]
 [Ob.mk OK.box 51 3 0
 [[vi x628, vi x629, vi x630]],
 Ob.mk OK.box 50 4 0
 [[vi x631, vi x632, vi x633, vs s634]]]
 else
 E cx (Key.loop 12 [true, true, true, true, true, false, true, false])
 [AV.val (Go.Value.tuple (Array.mk [])),
 vi (IntKind.wrap IntKind.i64 (Int.add x624 1)), vi x625,
 vbool b626, AV.list 0 4 l627, AV.ptr 1 0 0 0]
 [Ob.mk OK.box 51 3 0
 [[vi x628, vi x629, vi x630]],
 Ob.mk OK.box 50 4 0
 [[vi x631, vi x632, vi x633, vs s634]]]
 else
 bif decide (b623 = false) then none
 else
 bif decide (b623 = false) then
 bif decide (b623 = false) then
 bif decide (b623 = false) then none
 else
 bif decide (b623 = false) then
 bif decide (b623 = false) then none
 else
 bif b623 then
 E cx (Key.loop 12 [true, true, true, true, true, false, true, false])
 [vbool true, vi (IntKind.wrap IntKind.i64 (Int.add x624 1)),
 vi x625, vbool b626, AV.list 0 4 l627, AV.ptr 1 0 0 0]
 [Ob.mk OK.box 51 3 0
 [[vi x628, vi x629, vi x630]],
 Ob.mk OK.box 50 4 0
 [[vi x631, vi x632, vi x633, vs s634]]]
 else
 E cx (Key.loop 12 [true, true, true, true, true, false, true, false])
 [AV.val (Go.Value.tuple (Array.mk [])),
 vi (IntKind.wrap IntKind.i64 (Int.add x624 1)), vi x625,
 vbool b626, AV.list 0 4 l627, AV.ptr 1 0 0 0]
 [Ob.mk OK.box 51 3 0
 [[vi x628, vi x629, vi x630]],
 Ob.mk OK.box 50 4 0
 [[vi x631, vi x632, vi x633, vs s634]]]
 else
 bif decide (b623 = false) then none
 else
 bif b623 then
 E cx (Key.loop 12 [true, true, true, true, true, false, true, false])
 [vbool true, vi (IntKind.wrap IntKind.i64 (Int.add x624 1)),
 vi x625, vbool b626, AV.list 0 4 l627, AV.ptr 1 0 0 0]
 [Ob.mk OK.box 51 3 0
 [[vi x628, vi x629, vi x630]],
 Ob.mk OK.box 50 4 0
 [[vi x631, vi x632, vi x633, vs s634]]]
 else
 E cx (Key.loop 12 [true, true, true, true, true, false, true, false])
 [AV.val (Go.Value.tuple (Array.mk [])),
 vi (IntKind.wrap IntKind.i64 (Int.add x624 1)), vi x625,
 vbool b626, AV.list 0 4 l627, AV.ptr 1 0 0 0]
 [Ob.mk OK.box 51 3 0
 [[vi x628, vi x629, vi x630]],
 Ob.mk OK.box 50 4 0
 [[vi x631, vi x632, vi x633, vs s634]]]
 else
 bif decide (b623 = false) then none
 else
 bif decide (b623 = false) then
 bif decide (b623 = false) then none
 else
 bif b623 then
 E cx (Key.loop 12 [true, true, true, true, true, false, true, false])
 [vbool true, vi (IntKind.wrap IntKind.i64 (Int.add x624 1)),
 vi x625, vbool b626, AV.list 0 4 l627, AV.ptr 1 0 0 0]
 [Ob.mk OK.box 51 3 0
 [[vi x628, vi x629, vi x630]],
 Ob.mk OK.box 50 4 0
 [[vi x631, vi x632, vi x633, vs s634]]]
 else
 E cx (Key.loop 12 [true, true, true, true, true, false, true, false])
 [AV.val (Go.Value.tuple (Array.mk [])),
 vi (IntKind.wrap IntKind.i64 (Int.add x624 1)), vi x625,
 vbool b626, AV.list 0 4 l627, AV.ptr 1 0 0 0]
 [Ob.mk OK.box 51 3 0
 [[vi x628, vi x629, vi x630]],
 Ob.mk OK.box 50 4 0
 [[vi x631, vi x632, vi x633, vs s634]]]
 else
 bif decide (b623 = false) then none
 else
 bif b623 then
 E cx (Key.loop 12 [true, true, true, true, true, false, true, false])
 [vbool true, vi (IntKind.wrap IntKind.i64 (Int.add x624 1)),
 vi x625, vbool b626, AV.list 0 4 l627, AV.ptr 1 0 0 0]
 [Ob.mk OK.box 51 3 0
 [[vi x628, vi x629, vi x630]],
 Ob.mk OK.box 50 4 0
 [[vi x631, vi x632, vi x633, vs s634]]]
 else
 E cx (Key.loop 12 [true, true, true, true, true, false, true, false])
 [AV.val (Go.Value.tuple (Array.mk [])),
 vi (IntKind.wrap IntKind.i64 (Int.add x624 1)), vi x625,
 vbool b626, AV.list 0 4 l627, AV.ptr 1 0 0 0]
 [Ob.mk OK.box 51 3 0
 [[vi x628, vi x629, vi x630]],
 Ob.mk OK.box 50 4 0
 [[vi x631, vi x632, vi x633, vs s634]]]
 else
 bif decide (b623 = false) then none
 else
 bif decide (b623 = false) then none
 else
 bif decide (b623 = false) then
 bif decide (b623 = false) then none
 else
 bif b623 then
 E cx (Key.loop 12 [true, true, true, true, true, false, true, false])
 [vbool true, vi (IntKind.wrap IntKind.i64 (Int.add x624 1)),
 vi x625, vbool b626, AV.list 0 4 l627, AV.ptr 1 0 0 0]
 [Ob.mk OK.box 51 3 0
 [[vi x628, vi x629, vi x630]],
 Ob.mk OK.box 50 4 0
 [[vi x631, vi x632, vi x633, vs s634]]]
 else
 E cx (Key.loop 12 [true, true, true, true, true, false, true, false])
 [AV.val (Go.Value.tuple (Array.mk [])),
 vi (IntKind.wrap IntKind.i64 (Int.add x624 1)), vi x625,
 vbool b626, AV.list 0 4 l627, AV.ptr 1 0 0 0]
 [Ob.mk OK.box 51 3 0
 [[vi x628, vi x629, vi x630]],
 Ob.mk OK.box 50 4 0
 [[vi x631, vi x632, vi x633, vs s634]]]
 else
 bif decide (b623 = false) then none
 else
 bif b623 then
 E cx (Key.loop 12 [true, true, true, true, true, false, true, false])
 [vbool true, vi (IntKind.wrap IntKind.i64 (Int.add x624 1)),
 vi x625, vbool b626, AV.list 0 4 l627, AV.ptr 1 0 0 0]
 [Ob.mk OK.box 51 3 0
 [[vi x628, vi x629, vi x630]],
 Ob.mk OK.box 50 4 0
 [[vi x631, vi x632, vi x633, vs s634]]]
 else
 E cx (Key.loop 12 [true, true, true, true, true, false, true, false])
 [AV.val (Go.Value.tuple (Array.mk [])),
 vi (IntKind.wrap IntKind.i64 (Int.add x624 1)), vi x625,
 vbool b626, AV.list 0 4 l627, AV.ptr 1 0 0 0]
 [Ob.mk OK.box 51 3 0
 [[vi x628, vi x629, vi x630]],
 Ob.mk OK.box 50 4 0
 [[vi x631, vi x632, vi x633, vs s634]]]
 else none
 else
 bif decide (b623 = false) then none
 else
 bif decide (b623 = false) then none
 else
 bif decide (b623 = false) then
 bif decide (b623 = false) then
 bif decide (b623 = false) then none
 else
 bif decide (b623 = false) then
 bif decide (b623 = false) then none
 else
 bif b623 then
 E cx (Key.loop 12 [true, true, true, true, true, false, true, false])
 [vbool true, vi (IntKind.wrap IntKind.i64 (Int.add x624 1)), vi x625,
 vbool b626, AV.list 0 4 l627, AV.ptr 1 0 0 0]
 [Ob.mk OK.box 51 3 0 [[vi x628, vi x629, vi x630]],
 Ob.mk OK.box 50 4 0
 [[vi x631, vi x632, vi x633, vs s634]]]
 else
 E cx (Key.loop 12 [true, true, true, true, true, false, true, false])
 [AV.val (Go.Value.tuple (Array.mk [])), vi (IntKind.wrap IntKind.i64 (Int.add x624 1)),
 vi x625, vbool b626, AV.list 0 4 l627, AV.ptr 1 0 0 0]
 [Ob.mk OK.box 51 3 0 [[vi x628, vi x629, vi x630]],
 Ob.mk OK.box 50 4 0
 [[vi x631, vi x632, vi x633, vs s634]]]
 else
 bif decide (b623 = false) then none
 else
 bif b623 then
 E cx (Key.loop 12 [true, true, true, true, true, false, true, false])
 [vbool true, vi (IntKind.wrap IntKind.i64 (Int.add x624 1)), vi x625,
 vbool b626, AV.list 0 4 l627, AV.ptr 1 0 0 0]
 [Ob.mk OK.box 51 3 0 [[vi x628, vi x629, vi x630]],
 Ob.mk OK.box 50 4 0
 [[vi x631, vi x632, vi x633, vs s634]]]
 else
 E cx (Key.loop 12 [true, true, true, true, true, false, true, false])
 [AV.val (Go.Value.tuple (Array.mk [])), vi (IntKind.wrap IntKind.i64 (Int.add x624 1)),
 vi x625, vbool b626, AV.list 0 4 l627, AV.ptr 1 0 0 0]
 [Ob.mk OK.box 51 3 0 [[vi x628, vi x629, vi x630]],
 Ob.mk OK.box 50 4 0
 [[vi x631, vi x632, vi x633, vs s634]]]
 else
 bif decide (b623 = false) then none
 else
 bif decide (b623 = false) then
 bif decide (b623 = false) then none
 else
 bif b623 then
 E cx (Key.loop 12 [true, true, true, true, true, false, true, false])
 [vbool true, vi (IntKind.wrap IntKind.i64 (Int.add x624 1)), vi x625,
 vbool b626, AV.list 0 4 l627, AV.ptr 1 0 0 0]
 [Ob.mk OK.box 51 3 0 [[vi x628, vi x629, vi x630]],
 Ob.mk OK.box 50 4 0
 [[vi x631, vi x632, vi x633, vs s634]]]
 else
 E cx (Key.loop 12 [true, true, true, true, true, false, true, false])
 [AV.val (Go.Value.tuple (Array.mk [])), vi (IntKind.wrap IntKind.i64 (Int.add x624 1)),
 vi x625, vbool b626, AV.list 0 4 l627, AV.ptr 1 0 0 0]
 [Ob.mk OK.box 51 3 0 [[vi x628, vi x629, vi x630]],
 Ob.mk OK.box 50 4 0
 [[vi x631, vi x632, vi x633, vs s634]]]
 else
 bif decide (b623 = false) then none
 else
 bif b623 then
 E cx (Key.loop 12 [true, true, true, true, true, false, true, false])
 [vbool true, vi (IntKind.wrap IntKind.i64 (Int.add x624 1)), vi x625,
 vbool b626, AV.list 0 4 l627, AV.ptr 1 0 0 0]
 [Ob.mk OK.box 51 3 0 [[vi x628, vi x629, vi x630]],
 Ob.mk OK.box 50 4 0
 [[vi x631, vi x632, vi x633, vs s634]]]
 else
 E cx (Key.loop 12 [true, true, true, true, true, false, true, false])
 [AV.val (Go.Value.tuple (Array.mk [])), vi (IntKind.wrap IntKind.i64 (Int.add x624 1)),
 vi x625, vbool b626, AV.list 0 4 l627, AV.ptr 1 0 0 0]
 [Ob.mk OK.box 51 3 0 [[vi x628, vi x629, vi x630]],
 Ob.mk OK.box 50 4 0
 [[vi x631, vi x632, vi x633, vs s634]]]
 else
 bif decide (b623 = false) then none
 else
 bif decide (b623 = false) then none
 else
 bif decide (b623 = false) then
 bif decide (b623 = false) then none
 else
 bif b623 then
 E cx (Key.loop 12 [true, true, true, true, true, false, true, false])
 [vbool true, vi (IntKind.wrap IntKind.i64 (Int.add x624 1)), vi x625,
 vbool b626, AV.list 0 4 l627, AV.ptr 1 0 0 0]
 [Ob.mk OK.box 51 3 0 [[vi x628, vi x629, vi x630]],
 Ob.mk OK.box 50 4 0
 [[vi x631, vi x632, vi x633, vs s634]]]
 else
 E cx (Key.loop 12 [true, true, true, true, true, false, true, false])
 [AV.val (Go.Value.tuple (Array.mk [])), vi (IntKind.wrap IntKind.i64 (Int.add x624 1)),
 vi x625, vbool b626, AV.list 0 4 l627, AV.ptr 1 0 0 0]
 [Ob.mk OK.box 51 3 0 [[vi x628, vi x629, vi x630]],
 Ob.mk OK.box 50 4 0
 [[vi x631, vi x632, vi x633, vs s634]]]
 else
 bif decide (b623 = false) then none
 else
 bif b623 then
 E cx (Key.loop 12 [true, true, true, true, true, false, true, false])
 [vbool true, vi (IntKind.wrap IntKind.i64 (Int.add x624 1)), vi x625,
 vbool b626, AV.list 0 4 l627, AV.ptr 1 0 0 0]
 [Ob.mk OK.box 51 3 0 [[vi x628, vi x629, vi x630]],
 Ob.mk OK.box 50 4 0
 [[vi x631, vi x632, vi x633, vs s634]]]
 else
 E cx (Key.loop 12 [true, true, true, true, true, false, true, false])
 [AV.val (Go.Value.tuple (Array.mk [])), vi (IntKind.wrap IntKind.i64 (Int.add x624 1)),
 vi x625, vbool b626, AV.list 0 4 l627, AV.ptr 1 0 0 0]
 [Ob.mk OK.box 51 3 0 [[vi x628, vi x629, vi x630]],
 Ob.mk OK.box 50 4 0
 [[vi x631, vi x632, vi x633, vs s634]]]
 else
 bif decide (b623 = false) then none
 else
 bif decide (b623 = false) then none
 else
 bif decide (b623 = false) then none
 else
 bif decide (b623 = false) then
 bif decide (b623 = false) then
 bif decide (b623 = false) then none
 else
 bif decide (b623 = false) then
 bif decide (b623 = false) then none
 else
 bif b623 then
 E cx (Key.loop 12 [true, true, true, true, true, false, true, false])
 [vbool true, vi (IntKind.wrap IntKind.i64 (Int.add x624 1)), vi x625,
 vbool b626, AV.list 0 4 l627, AV.ptr 1 0 0 0]
 [Ob.mk OK.box 51 3 0 [[vi x628, vi x629, vi x630]],
 Ob.mk OK.box 50 4 0
 [[vi x631, vi x632, vi x633, vs s634]]]
 else
 E cx (Key.loop 12 [true, true, true, true, true, false, true, false])
 [AV.val (Go.Value.tuple (Array.mk [])), vi (IntKind.wrap IntKind.i64 (Int.add x624 1)),
 vi x625, vbool b626, AV.list 0 4 l627, AV.ptr 1 0 0 0]
 [Ob.mk OK.box 51 3 0 [[vi x628, vi x629, vi x630]],
 Ob.mk OK.box 50 4 0
 [[vi x631, vi x632, vi x633, vs s634]]]
 else
 bif decide (b623 = false) then none
 else
 bif b623 then
 E cx (Key.loop 12 [true, true, true, true, true, false, true, false])
 [vbool true, vi (IntKind.wrap IntKind.i64 (Int.add x624 1)), vi x625,
 vbool b626, AV.list 0 4 l627, AV.ptr 1 0 0 0]
 [Ob.mk OK.box 51 3 0 [[vi x628, vi x629, vi x630]],
 Ob.mk OK.box 50 4 0
 [[vi x631, vi x632, vi x633, vs s634]]]
 else
 E cx (Key.loop 12 [true, true, true, true, true, false, true, false])
 [AV.val (Go.Value.tuple (Array.mk [])), vi (IntKind.wrap IntKind.i64 (Int.add x624 1)),
 vi x625, vbool b626, AV.list 0 4 l627, AV.ptr 1 0 0 0]
 [Ob.mk OK.box 51 3 0 [[vi x628, vi x629, vi x630]],
 Ob.mk OK.box 50 4 0
 [[vi x631, vi x632, vi x633, vs s634]]]
 else
 bif decide (b623 = false) then none
 else
 bif decide (b623 = false) then
 bif decide (b623 = false) then none
 else
 bif b623 then
 E cx (Key.loop 12 [true, true, true, true, true, false, true, false])
 [vbool true, vi (IntKind.wrap IntKind.i64 (Int.add x624 1)), vi x625,
 vbool b626, AV.list 0 4 l627, AV.ptr 1 0 0 0]
 [Ob.mk OK.box 51 3 0 [[vi x628, vi x629, vi x630]],
 Ob.mk OK.box 50 4 0
 [[vi x631, vi x632, vi x633, vs s634]]]
 else
 E cx (Key.loop 12 [true, true, true, true, true, false, true, false])
 [AV.val (Go.Value.tuple (Array.mk [])), vi (IntKind.wrap IntKind.i64 (Int.add x624 1)),
 vi x625, vbool b626, AV.list 0 4 l627, AV.ptr 1 0 0 0]
 [Ob.mk OK.box 51 3 0 [[vi x628, vi x629, vi x630]],
 Ob.mk OK.box 50 4 0
 [[vi x631, vi x632, vi x633, vs s634]]]
 else
 bif decide (b623 = false) then none
 else
 bif b623 then
 E cx (Key.loop 12 [true, true, true, true, true, false, true, false])
 [vbool true, vi (IntKind.wrap IntKind.i64 (Int.add x624 1)), vi x625,
 vbool b626, AV.list 0 4 l627, AV.ptr 1 0 0 0]
 [Ob.mk OK.box 51 3 0 [[vi x628, vi x629, vi x630]],
 Ob.mk OK.box 50 4 0
 [[vi x631, vi x632, vi x633, vs s634]]]
 else
 E cx (Key.loop 12 [true, true, true, true, true, false, true, false])
 [AV.val (Go.Value.tuple (Array.mk [])), vi (IntKind.wrap IntKind.i64 (Int.add x624 1)),
 vi x625, vbool b626, AV.list 0 4 l627, AV.ptr 1 0 0 0]
 [Ob.mk OK.box 51 3 0 [[vi x628, vi x629, vi x630]],
 Ob.mk OK.box 50 4 0
 [[vi x631, vi x632, vi x633, vs s634]]]
 else
 bif decide (b623 = false) then none
 else
 bif decide (b623 = false) then none
 else
 bif decide (b623 = false) then
 bif decide (b623 = false) then none
 else
 bif b623 then
 E cx (Key.loop 12 [true, true, true, true, true, false, true, false])
 [vbool true, vi (IntKind.wrap IntKind.i64 (Int.add x624 1)), vi x625,
 vbool b626, AV.list 0 4 l627, AV.ptr 1 0 0 0]
 [Ob.mk OK.box 51 3 0 [[vi x628, vi x629, vi x630]],
 Ob.mk OK.box 50 4 0
 [[vi x631, vi x632, vi x633, vs s634]]]
 else
 E cx (Key.loop 12 [true, true, true, true, true, false, true, false])
 [AV.val (Go.Value.tuple (Array.mk [])), vi (IntKind.wrap IntKind.i64 (Int.add x624 1)),
 vi x625, vbool b626, AV.list 0 4 l627, AV.ptr 1 0 0 0]
 [Ob.mk OK.box 51 3 0 [[vi x628, vi x629, vi x630]],
 Ob.mk OK.box 50 4 0
 [[vi x631, vi x632, vi x633, vs s634]]]
 else
 bif decide (b623 = false) then none
 else
 bif b623 then
 E cx (Key.loop 12 [true, true, true, true, true, false, true, false])
 [vbool true, vi (IntKind.wrap IntKind.i64 (Int.add x624 1)), vi x625,
 vbool b626, AV.list 0 4 l627, AV.ptr 1 0 0 0]
 [Ob.mk OK.box 51 3 0 [[vi x628, vi x629, vi x630]],
 Ob.mk OK.box 50 4 0
 [[vi x631, vi x632, vi x633, vs s634]]]
 else
 E cx (Key.loop 12 [true, true, true, true, true, false, true, false])
 [AV.val (Go.Value.tuple (Array.mk [])), vi (IntKind.wrap IntKind.i64 (Int.add x624 1)),
 vi x625, vbool b626, AV.list 0 4 l627, AV.ptr 1 0 0 0]
 [Ob.mk OK.box 51 3 0 [[vi x628, vi x629, vi x630]],
 Ob.mk OK.box 50 4 0
 [[vi x631, vi x632, vi x633, vs s634]]]
 else
 bif decide (b623 = false) then
 bif decide (b623 = false) then none
 else
 bif decide (b623 = false) then none
 else
 bif decide (b623 = false) then none
 else
 bif decide (b623 = false) then
 bif decide (b623 = false) then
 bif decide (b623 = false) then none
 else
 bif decide (b623 = false) then
 bif decide (b623 = false) then none
 else
 bif b623 then
 E cx (Key.loop 12 [true, true, true, true, true, false, true, false])
 [vbool true, vi (IntKind.wrap IntKind.i64 (Int.add x624 1)), vi x625,
 vbool b626, AV.list 0 4 l627, AV.ptr 1 0 0 0]
 [Ob.mk OK.box 51 3 0 [[vi x628, vi x629, vi x630]],
 Ob.mk OK.box 50 4 0
 [[vi x631, vi x632, vi x633, vs s634]]]
 else
 E cx (Key.loop 12 [true, true, true, true, true, false, true, false])
 [AV.val (Go.Value.tuple (Array.mk [])), vi (IntKind.wrap IntKind.i64 (Int.add x624 1)),
 vi x625, vbool b626, AV.list 0 4 l627, AV.ptr 1 0 0 0]
 [Ob.mk OK.box 51 3 0 [[vi x628, vi x629, vi x630]],
 Ob.mk OK.box 50 4 0
 [[vi x631, vi x632, vi x633, vs s634]]]
 else
 bif decide (b623 = false) then none
 else
 bif b623 then
 E cx (Key.loop 12 [true, true, true, true, true, false, true, false])
 [vbool true, vi (IntKind.wrap IntKind.i64 (Int.add x624 1)), vi x625,
 vbool b626, AV.list 0 4 l627, AV.ptr 1 0 0 0]
 [Ob.mk OK.box 51 3 0 [[vi x628, vi x629, vi x630]],
 Ob.mk OK.box 50 4 0
 [[vi x631, vi x632, vi x633, vs s634]]]
 else
 E cx (Key.loop 12 [true, true, true, true, true, false, true, false])
 [AV.val (Go.Value.tuple (Array.mk [])), vi (IntKind.wrap IntKind.i64 (Int.add x624 1)),
 vi x625, vbool b626, AV.list 0 4 l627, AV.ptr 1 0 0 0]
 [Ob.mk OK.box 51 3 0 [[vi x628, vi x629, vi x630]],
 Ob.mk OK.box 50 4 0
 [[vi x631, vi x632, vi x633, vs s634]]]
 else
 bif decide (b623 = false) then none
 else
 bif decide (b623 = false) then
 bif decide (b623 = false) then none
 else
 bif b623 then
 E cx (Key.loop 12 [true, true, true, true, true, false, true, false])
 [vbool true, vi (IntKind.wrap IntKind.i64 (Int.add x624 1)), vi x625,
 vbool b626, AV.list 0 4 l627, AV.ptr 1 0 0 0]
 [Ob.mk OK.box 51 3 0 [[vi x628, vi x629, vi x630]],
 Ob.mk OK.box 50 4 0
 [[vi x631, vi x632, vi x633, vs s634]]]
 else
 E cx (Key.loop 12 [true, true, true, true, true, false, true, false])
 [AV.val (Go.Value.tuple (Array.mk [])), vi (IntKind.wrap IntKind.i64 (Int.add x624 1)),
 vi x625, vbool b626, AV.list 0 4 l627, AV.ptr 1 0 0 0]
 [Ob.mk OK.box 51 3 0 [[vi x628, vi x629, vi x630]],
 Ob.mk OK.box 50 4 0
 [[vi x631, vi x632, vi x633, vs s634]]]
 else
 bif decide (b623 = false) then none
 else
 bif b623 then
 E cx (Key.loop 12 [true, true, true, true, true, false, true, false])
 [vbool true, vi (IntKind.wrap IntKind.i64 (Int.add x624 1)), vi x625,
 vbool b626, AV.list 0 4 l627, AV.ptr 1 0 0 0]
 [Ob.mk OK.box 51 3 0 [[vi x628, vi x629, vi x630]],
 Ob.mk OK.box 50 4 0
 [[vi x631, vi x632, vi x633, vs s634]]]
 else
 E cx (Key.loop 12 [true, true, true, true, true, false, true, false])
 [AV.val (Go.Value.tuple (Array.mk [])), vi (IntKind.wrap IntKind.i64 (Int.add x624 1)),
 vi x625, vbool b626, AV.list 0 4 l627, AV.ptr 1 0 0 0]
 [Ob.mk OK.box 51 3 0 [[vi x628, vi x629, vi x630]],
 Ob.mk OK.box 50 4 0
 [[vi x631, vi x632, vi x633, vs s634]]]
 else
 bif decide (b623 = false) then none
 else
 bif decide (b623 = false) then none
 else
 bif decide (b623 = false) then
 bif decide (b623 = false) then none
 else
 bif b623 then
 E cx (Key.loop 12 [true, true, true, true, true, false, true, false])
 [vbool true, vi (IntKind.wrap IntKind.i64 (Int.add x624 1)), vi x625,
 vbool b626, AV.list 0 4 l627, AV.ptr 1 0 0 0]
 [Ob.mk OK.box 51 3 0 [[vi x628, vi x629, vi x630]],
 Ob.mk OK.box 50 4 0
 [[vi x631, vi x632, vi x633, vs s634]]]
 else
 E cx (Key.loop 12 [true, true, true, true, true, false, true, false])
 [AV.val (Go.Value.tuple (Array.mk [])), vi (IntKind.wrap IntKind.i64 (Int.add x624 1)),
 vi x625, vbool b626, AV.list 0 4 l627, AV.ptr 1 0 0 0]
 [Ob.mk OK.box 51 3 0 [[vi x628, vi x629, vi x630]],
 Ob.mk OK.box 50 4 0
 [[vi x631, vi x632, vi x633, vs s634]]]
 else
 bif decide (b623 = false) then none
 else
 bif b623 then
 E cx (Key.loop 12 [true, true, true, true, true, false, true, false])
 [vbool true, vi (IntKind.wrap IntKind.i64 (Int.add x624 1)), vi x625,
 vbool b626, AV.list 0 4 l627, AV.ptr 1 0 0 0]
 [Ob.mk OK.box 51 3 0 [[vi x628, vi x629, vi x630]],
 Ob.mk OK.box 50 4 0
 [[vi x631, vi x632, vi x633, vs s634]]]
 else
 E cx (Key.loop 12 [true, true, true, true, true, false, true, false])
 [AV.val (Go.Value.tuple (Array.mk [])), vi (IntKind.wrap IntKind.i64 (Int.add x624 1)),
 vi x625, vbool b626, AV.list 0 4 l627, AV.ptr 1 0 0 0]
 [Ob.mk OK.box 51 3 0 [[vi x628, vi x629, vi x630]],
 Ob.mk OK.box 50 4 0
 [[vi x631, vi x632, vi x633, vs s634]]]
 else
 bif decide (b623 = false) then none
 else
 bif decide (b623 = false) then none
 else
 bif decide (b623 = false) then none
 else
 bif decide (b623 = false) then
 bif decide (b623 = false) then
 bif decide (b623 = false) then none
 else
 bif decide (b623 = false) then
 bif decide (b623 = false) then none
 else
 bif b623 then
 E cx (Key.loop 12 [true, true, true, true, true, false, true, false])
 [vbool true, vi (IntKind.wrap IntKind.i64 (Int.add x624 1)), vi x625,
 vbool b626, AV.list 0 4 l627, AV.ptr 1 0 0 0]
 [Ob.mk OK.box 51 3 0 [[vi x628, vi x629, vi x630]],
 Ob.mk OK.box 50 4 0
 [[vi x631, vi x632, vi x633, vs s634]]]
 else
 E cx (Key.loop 12 [true, true, true, true, true, false, true, false])
 [AV.val (Go.Value.tuple (Array.mk [])), vi (IntKind.wrap IntKind.i64 (Int.add x624 1)),
 vi x625, vbool b626, AV.list 0 4 l627, AV.ptr 1 0 0 0]
 [Ob.mk OK.box 51 3 0 [[vi x628, vi x629, vi x630]],
 Ob.mk OK.box 50 4 0
 [[vi x631, vi x632, vi x633, vs s634]]]
 else
 bif decide (b623 = false) then none
 else
 bif b623 then
 E cx (Key.loop 12 [true, true, true, true, true, false, true, false])
 [vbool true, vi (IntKind.wrap IntKind.i64 (Int.add x624 1)), vi x625,
 vbool b626, AV.list 0 4 l627, AV.ptr 1 0 0 0]
 [Ob.mk OK.box 51 3 0 [[vi x628, vi x629, vi x630]],
 Ob.mk OK.box 50 4 0
 [[vi x631, vi x632, vi x633, vs s634]]]
 else
 E cx (Key.loop 12 [true, true, true, true, true, false, true, false])
 [AV.val (Go.Value.tuple (Array.mk [])), vi (IntKind.wrap IntKind.i64 (Int.add x624 1)),
 vi x625, vbool b626, AV.list 0 4 l627, AV.ptr 1 0 0 0]
 [Ob.mk OK.box 51 3 0 [[vi x628, vi x629, vi x630]],
 Ob.mk OK.box 50 4 0
 [[vi x631, vi x632, vi x633, vs s634]]]
 else
 bif decide (b623 = false) then none
 else
 bif decide (b623 = false) then
 bif decide (b623 = false) then none
 else
 bif b623 then
 E cx (Key.loop 12 [true, true, true, true, true, false, true, false])
 [vbool true, vi (IntKind.wrap IntKind.i64 (Int.add x624 1)), vi x625,
 vbool b626, AV.list 0 4 l627, AV.ptr 1 0 0 0]
 [Ob.mk OK.box 51 3 0 [[vi x628, vi x629, vi x630]],
 Ob.mk OK.box 50 4 0
 [[vi x631, vi x632, vi x633, vs s634]]]
 else
 E cx (Key.loop 12 [true, true, true, true, true, false, true, false])
 [AV.val (Go.Value.tuple (Array.mk [])), vi (IntKind.wrap IntKind.i64 (Int.add x624 1)),
 vi x625, vbool b626, AV.list 0 4 l627, AV.ptr 1 0 0 0]
 [Ob.mk OK.box 51 3 0 [[vi x628, vi x629, vi x630]],
 Ob.mk OK.box 50 4 0
 [[vi x631, vi x632, vi x633, vs s634]]]
 else
 bif decide (b623 = false) then none
 else
 bif b623 then
 E cx (Key.loop 12 [true, true, true, true, true, false, true, false])
 [vbool true, vi (IntKind.wrap IntKind.i64 (Int.add x624 1)), vi x625,
 vbool b626, AV.list 0 4 l627, AV.ptr 1 0 0 0]
 [Ob.mk OK.box 51 3 0 [[vi x628, vi x629, vi x630]],
 Ob.mk OK.box 50 4 0
 [[vi x631, vi x632, vi x633, vs s634]]]
 else
 E cx (Key.loop 12 [true, true, true, true, true, false, true, false])
 [AV.val (Go.Value.tuple (Array.mk [])), vi (IntKind.wrap IntKind.i64 (Int.add x624 1)),
 vi x625, vbool b626, AV.list 0 4 l627, AV.ptr 1 0 0 0]
 [Ob.mk OK.box 51 3 0 [[vi x628, vi x629, vi x630]],
 Ob.mk OK.box 50 4 0
 [[vi x631, vi x632, vi x633, vs s634]]]
 else
 bif decide (b623 = false) then none
 else
 bif decide (b623 = false) then none
 else
 bif decide (b623 = false) then
 bif decide (b623 = false) then none
 else
 bif b623 then
 E cx (Key.loop 12 [true, true, true, true, true, false, true, false])
 [vbool true, vi (IntKind.wrap IntKind.i64 (Int.add x624 1)), vi x625,
 vbool b626, AV.list 0 4 l627, AV.ptr 1 0 0 0]
 [Ob.mk OK.box 51 3 0 [[vi x628, vi x629, vi x630]],
 Ob.mk OK.box 50 4 0
 [[vi x631, vi x632, vi x633, vs s634]]]
 else
 E cx (Key.loop 12 [true, true, true, true, true, false, true, false])
 [AV.val (Go.Value.tuple (Array.mk [])), vi (IntKind.wrap IntKind.i64 (Int.add x624 1)),
 vi x625, vbool b626, AV.list 0 4 l627, AV.ptr 1 0 0 0]
 [Ob.mk OK.box 51 3 0 [[vi x628, vi x629, vi x630]],
 Ob.mk OK.box 50 4 0
 [[vi x631, vi x632, vi x633, vs s634]]]
 else
 bif decide (b623 = false) then none
 else
 bif b623 then
 E cx (Key.loop 12 [true, true, true, true, true, false, true, false])
 [vbool true, vi (IntKind.wrap IntKind.i64 (Int.add x624 1)), vi x625,
 vbool b626, AV.list 0 4 l627, AV.ptr 1 0 0 0]
 [Ob.mk OK.box 51 3 0 [[vi x628, vi x629, vi x630]],
 Ob.mk OK.box 50 4 0
 [[vi x631, vi x632, vi x633, vs s634]]]
 else
 E cx (Key.loop 12 [true, true, true, true, true, false, true, false])
 [AV.val (Go.Value.tuple (Array.mk [])), vi (IntKind.wrap IntKind.i64 (Int.add x624 1)),
 vi x625, vbool b626, AV.list 0 4 l627, AV.ptr 1 0 0 0]
 [Ob.mk OK.box 51 3 0 [[vi x628, vi x629, vi x630]],
 Ob.mk OK.box 50 4 0
 [[vi x631, vi x632, vi x633, vs s634]]]
 else
 some
 (Out.jump (JX.exit 0) [vbool b623, vi x624],
 [Ob.mk OK.box 51 3 0 [[vi x628, vi x629, vi x630]],
 Ob.mk OK.box 50 4 0 [[vi x631, vi x632, vi x633, vs s634]]]) := by
  intros
  exact (E_fast _ _ _ _).trans (by kernel_rfl)

end Go.Proofs.Av
