/- A law's tree. -/
import Derived.Test.YtoaihfbmoppajaaAcX
set_option maxRecDepth 100000
namespace Go.Proofs.Av
open Go
theorem f25 : E cx (Key.fn 25) [] [] =
 Option.bind
 (E cx (Key.fn 29)
 [AV.list 0 4
 [[vi 5, vi 1, vi 0, vs (ByteArray.mk (Array.mk []))],
 [vi 5, vi 3, vi 2, vs (ByteArray.mk (Array.mk []))]],
 vi 3,
 AV.agg [vi 5, vi 2, vi 0, vs (ByteArray.mk (Array.mk [UInt8.ofNat 120]))]]
 [])
 fun r655 ↦
 Option.bind (ret1 r655) fun v656 ↦
 Option.bind (AV.tup? v656) fun vs657 ↦
 Option.bind (uncons? vs657) fun p658 ↦
 Option.bind (AV.list? 4 p658.fst) fun es659 ↦
 Option.bind (uncons? p658.snd) fun p660 ↦
 Option.bind (AV.int? IntKind.i64 p660.fst) fun n661 ↦
 Option.bind (nil? p660.snd) fun _ ↦
 Option.bind
 (E cx (Key.fn 29)
 [AV.list 0 4 es659, vi 4,
 AV.agg [vi 6, vi 0, vi 0, vs (ByteArray.mk (Array.mk []))]]
 [])
 fun r663 ↦
 Option.bind (ret1 r663) fun v664 ↦
 Option.bind (AV.tup? v664) fun vs665 ↦
 Option.bind (uncons? vs665) fun p666 ↦
 Option.bind (AV.list? 4 p666.fst) fun es667 ↦
 Option.bind (uncons? p666.snd) fun p668 ↦
 Option.bind (AV.int? IntKind.i64 p668.fst) fun n669 ↦
 Option.bind (nil? p668.snd) fun _ ↦
 Option.bind
 (E cx (Key.fn 29)
 [AV.list 0 4 es659, vi 3,
 AV.agg
 [vi 6, vi 0, vi 0, vs (ByteArray.mk (Array.mk []))]]
 [])
 fun r671 ↦
 Option.bind (ret1 r671) fun v672 ↦
 Option.bind (AV.tup? v672) fun vs673 ↦
 Option.bind (uncons? vs673) fun p674 ↦
 Option.bind (AV.list? 4 p674.fst) fun _ ↦
 Option.bind (uncons? p674.snd) fun p676 ↦
 Option.bind (AV.int? IntKind.i64 p676.fst) fun n677 ↦
 Option.bind (nil? p676.snd) fun _ ↦
 Option.bind
 (E cx (Key.fn 29)
 [AV.list 0 4 es659, vi 3,
 AV.agg
 [vi 5, vi 2, vi 0,
 vs (ByteArray.mk (Array.mk []))]]
 [])
 fun r679 ↦
 Option.bind (ret1 r679) fun v680 ↦
 Option.bind (AV.tup? v680) fun vs681 ↦
 Option.bind (uncons? vs681) fun p682 ↦
 Option.bind (AV.list? 4 p682.fst) fun _ ↦
 Option.bind (uncons? p682.snd) fun p684 ↦
 Option.bind (AV.int? IntKind.i64 p684.fst) fun n685 ↦
 Option.bind (nil? p684.snd) fun _ ↦
 Option.bind
 (E cx (Key.fn 29)
 [AV.val (Go.Value.slice none 0 0), vi 3,
 AV.agg
 [vi (-1), vi 0, vi 0,
 vs (ByteArray.mk (Array.mk []))]]
 [])
 fun r687 ↦
 Option.bind (ret1 r687) fun v688 ↦
 Option.bind (AV.tup? v688) fun vs689 ↦
 Option.bind (uncons? vs689) fun p690 ↦
 Option.bind (AV.list? 4 p690.fst) fun _ ↦
 Option.bind (uncons? p690.snd) fun p692 ↦
 Option.bind (AV.int? IntKind.i64 p692.fst) fun n693 ↦
 Option.bind (nil? p692.snd) fun _ ↦
 Option.bind
 (E cx (Key.fn 32)
 [AV.list 0 4 es667, vi 5] [])
 fun r695 ↦
 Option.bind (ret1 r695) fun v696 ↦
 Option.bind (AV.tup? v696) fun vs697 ↦
 Option.bind (uncons? vs697) fun p698 ↦
 Option.bind (AV.list? 4 p698.fst) fun es699 ↦
 Option.bind (uncons? p698.snd) fun p700 ↦
 Option.bind (AV.list? 4 p700.fst) fun es701 ↦
 Option.bind (nil? p700.snd) fun _ ↦
 Option.bind
 (E cx (Key.fn 34)
 [AV.list 0 4 es659] [])
 fun r703 ↦
 Option.bind (ret1 r703) fun v704 ↦
 Option.bind (AV.tup? v704) fun vs705 ↦
 Option.bind (uncons? vs705) fun p706 ↦
 Option.bind
 (AV.int? IntKind.i64 p706.fst)
 fun n707 ↦
 Option.bind (uncons? p706.snd)
 fun p708 ↦
 Option.bind (AV.bool? p708.fst)
 fun b709 ↦
 bif b709 then
 Option.bind (nil? p708.snd)
 fun _ ↦
 Option.bind
 (E cx
 (Key.fn 34)
 [AV.val
 (Go.Value.slice none 0 0)]
 [])
 fun r711 ↦
 Option.bind (ret1 r711)
 fun v712 ↦
 Option.bind (AV.tup? v712)
 fun vs713 ↦
 Option.bind
 (uncons? vs713)
 fun p714 ↦
 Option.bind
 (AV.int?
 IntKind.i64 p714.fst)
 fun _ ↦
 Option.bind
 (uncons? p714.snd)
 fun p716 ↦
 Option.bind
 (AV.bool?
 p716.fst)
 fun b717 ↦
 bif b717 then
 Option.bind
 (nil?
 p716.snd)
 fun _ ↦
 bif decide (n661 = 0) then
 Option.bind
 (E
 cx
 (Key.fn
 31)
 [AV.list
 0 4 es659,
 AV.list
 0 4
 [[vi
 5,
 vi
 1,
 vi
 0,
 vs
 (ByteArray.mk
 (Array.mk
 []))],
 [vi
 5,
 vi
 2,
 vi
 0,
 vs
 (ByteArray.mk
 (Array.mk
 [UInt8.ofNat
 120]))],
 [vi
 5,
 vi
 3,
 vi
 2,
 vs
 (ByteArray.mk
 (Array.mk
 []))]]]
 [])
 fun r719 ↦
 Option.bind
 (ret1
 r719)
 fun v720 ↦
 Option.bind
 (AV.bool?
 v720)
 fun b721 ↦
 bif b721 then
 bif
 decide
 (n669 =
 0) then
 bif
 decide
 (n677 =
 5) then
 bif
 decide
 (n685 =
 7) then
 bif
 decide
 (n693 =
 1) then
 Option.bind
 (E
 cx
 (Key.fn
 31)
 [AV.list
 0
 4
 es699,
 AV.list
 0
 4
 es659]
 [])
 fun
 r722 ↦
 Option.bind
 (ret1
 r722)
 fun
 v723 ↦
 Option.bind
 (AV.bool?
 v723)
 fun
 b724 ↦
 bif
 b724 then
 Option.bind
 (E
 cx
 (Key.fn
 31)
 [AV.list
 0
 4
 es701,
 AV.list
 0
 4
 [[vi
 6,
 vi
 0,
 vi
 0,
 vs
 (ByteArray.mk
 (Array.mk
 []))]]]
 [])
 fun
 r725 ↦
 Option.bind
 (ret1
 r725)
 fun
 v726 ↦
 Option.bind
 (AV.bool?
 v726)
 fun
 b727 ↦
 bif
 b727 then
 bif
 decide
 (n707 =
 5) then
 some
 (Out.ret
 (vbool
 false),
 [])
 else
 some
 (Out.ret
 (vbool
 false),
 [])
 else
 some
 (Out.ret
 (vbool
 false),
 [])
 else
 some
 (Out.ret
 (vbool
 false),
 [])
 else
 some
 (Out.ret
 (vbool
 false),
 [])
 else
 some
 (Out.ret
 (vbool
 false),
 [])
 else
 some
 (Out.ret
 (vbool
 false),
 [])
 else
 some
 (Out.ret
 (vbool
 false),
 [])
 else
 some
 (Out.ret
 (vbool
 false),
 [])
 else
 some
 (Out.ret
 (vbool
 false),
 [])
 else
 Option.bind
 (nil?
 p716.snd)
 fun _ ↦
 bif decide (n661 = 0) then
 Option.bind
 (E
 cx
 (Key.fn
 31)
 [AV.list
 0 4 es659,
 AV.list
 0 4
 [[vi
 5,
 vi
 1,
 vi
 0,
 vs
 (ByteArray.mk
 (Array.mk
 []))],
 [vi
 5,
 vi
 2,
 vi
 0,
 vs
 (ByteArray.mk
 (Array.mk
 [UInt8.ofNat
 120]))],
 [vi
 5,
 vi
 3,
 vi
 2,
 vs
 (ByteArray.mk
 (Array.mk
 []))]]]
 [])
 fun r729 ↦
 Option.bind
 (ret1
 r729)
 fun v730 ↦
 Option.bind
 (AV.bool?
 v730)
 fun b731 ↦
 bif b731 then
 bif
 decide
 (n669 =
 0) then
 bif
 decide
 (n677 =
 5) then
 bif
 decide
 (n685 =
 7) then
 bif
 decide
 (n693 =
 1) then
 Option.bind
 (E
 cx
 (Key.fn
 31)
 [AV.list
 0
 4
 es699,
 AV.list
 0
 4
 es659]
 [])
 fun
 r732 ↦
 Option.bind
 (ret1
 r732)
 fun
 v733 ↦
 Option.bind
 (AV.bool?
 v733)
 fun
 b734 ↦
 bif
 b734 then
 Option.bind
 (E
 cx
 (Key.fn
 31)
 [AV.list
 0
 4
 es701,
 AV.list
 0
 4
 [[vi
 6,
 vi
 0,
 vi
 0,
 vs
 (ByteArray.mk
 (Array.mk
 []))]]]
 [])
 fun
 r735 ↦
 Option.bind
 (ret1
 r735)
 fun
 v736 ↦
 Option.bind
 (AV.bool?
 v736)
 fun
 b737 ↦
 bif
 b737 then
 bif
 decide
 (n707 =
 5) then
 Option.bind
 (E
 cx
 (Key.fn
 36)
 [AV.list
 0
 4
 es659]
 [])
 fun
 r738 ↦
 Option.bind
 (ret1
 r738)
 fun
 v739 ↦
 Option.bind
 (AV.bool?
 v739)
 fun
 b740 ↦
 bif
 b740 then
 Option.bind
 (E
 cx
 (Key.fn
 38)
 [AV.list
 0
 4
 [[vi
 5,
 vi
 1,
 vi
 0,
 vs
 (ByteArray.mk
 (Array.mk
 []))],
 [vi
 5,
 vi
 3,
 vi
 2,
 vs
 (ByteArray.mk
 (Array.mk
 []))]],
 vi
 2]
 [])
 fun
 r741 ↦
 Option.bind
 (ret1
 r741)
 fun
 v742 ↦
 Option.bind
 (AV.list?
 4
 v742)
 fun
 es743 ↦
 Option.bind
 (E
 cx
 (Key.fn
 31)
 [AV.list
 0
 4
 es743,
 AV.list
 0
 4
 [[vi
 5,
 vi
 1,
 vi
 0,
 vs
 (ByteArray.mk
 (Array.mk
 []))]]]
 [])
 fun
 r744 ↦
 Option.bind
 (ret1
 r744)
 fun
 v745 ↦
 Option.bind
 (AV.bool?
 v745)
 fun
 b746 ↦
 bif
 b746 then
 some
 (Out.ret
 (vbool
 true),
 [])
 else
 some
 (Out.ret
 (vbool
 false),
 [])
 else
 some
 (Out.ret
 (vbool
 false),
 [])
 else
 some
 (Out.ret
 (vbool
 false),
 [])
 else
 some
 (Out.ret
 (vbool
 false),
 [])
 else
 some
 (Out.ret
 (vbool
 false),
 [])
 else
 some
 (Out.ret
 (vbool
 false),
 [])
 else
 some
 (Out.ret
 (vbool
 false),
 [])
 else
 some
 (Out.ret
 (vbool
 false),
 [])
 else
 some
 (Out.ret
 (vbool
 false),
 [])
 else
 some
 (Out.ret
 (vbool
 false),
 [])
 else
 some
 (Out.ret
 (vbool
 false),
 [])
 else
 Option.bind (nil? p708.snd)
 fun _ ↦
 Option.bind
 (E cx
 (Key.fn 34)
 [AV.val
 (Go.Value.slice none 0 0)]
 [])
 fun r748 ↦
 Option.bind (ret1 r748)
 fun v749 ↦
 Option.bind (AV.tup? v749)
 fun vs750 ↦
 Option.bind
 (uncons? vs750)
 fun p751 ↦
 Option.bind
 (AV.int?
 IntKind.i64 p751.fst)
 fun _ ↦
 Option.bind
 (uncons? p751.snd)
 fun p753 ↦
 Option.bind
 (AV.bool?
 p753.fst)
 fun b754 ↦
 bif b754 then
 Option.bind
 (nil?
 p753.snd)
 fun _ ↦
 bif decide (n661 = 0) then
 Option.bind
 (E
 cx
 (Key.fn
 31)
 [AV.list
 0 4 es659,
 AV.list
 0 4
 [[vi
 5,
 vi
 1,
 vi
 0,
 vs
 (ByteArray.mk
 (Array.mk
 []))],
 [vi
 5,
 vi
 2,
 vi
 0,
 vs
 (ByteArray.mk
 (Array.mk
 [UInt8.ofNat
 120]))],
 [vi
 5,
 vi
 3,
 vi
 2,
 vs
 (ByteArray.mk
 (Array.mk
 []))]]]
 [])
 fun r756 ↦
 Option.bind
 (ret1
 r756)
 fun v757 ↦
 Option.bind
 (AV.bool?
 v757)
 fun b758 ↦
 bif b758 then
 bif
 decide
 (n669 =
 0) then
 bif
 decide
 (n677 =
 5) then
 bif
 decide
 (n685 =
 7) then
 bif
 decide
 (n693 =
 1) then
 Option.bind
 (E
 cx
 (Key.fn
 31)
 [AV.list
 0
 4
 es699,
 AV.list
 0
 4
 es659]
 [])
 fun
 r759 ↦
 Option.bind
 (ret1
 r759)
 fun
 v760 ↦
 Option.bind
 (AV.bool?
 v760)
 fun
 b761 ↦
 bif
 b761 then
 Option.bind
 (E
 cx
 (Key.fn
 31)
 [AV.list
 0
 4
 es701,
 AV.list
 0
 4
 [[vi
 6,
 vi
 0,
 vi
 0,
 vs
 (ByteArray.mk
 (Array.mk
 []))]]]
 [])
 fun
 r762 ↦
 Option.bind
 (ret1
 r762)
 fun
 v763 ↦
 Option.bind
 (AV.bool?
 v763)
 fun
 b764 ↦
 bif
 b764 then
 some
 (Out.ret
 (vbool
 false),
 [])
 else
 some
 (Out.ret
 (vbool
 false),
 [])
 else
 some
 (Out.ret
 (vbool
 false),
 [])
 else
 some
 (Out.ret
 (vbool
 false),
 [])
 else
 some
 (Out.ret
 (vbool
 false),
 [])
 else
 some
 (Out.ret
 (vbool
 false),
 [])
 else
 some
 (Out.ret
 (vbool
 false),
 [])
 else
 some
 (Out.ret
 (vbool
 false),
 [])
 else
 some
 (Out.ret
 (vbool
 false),
 [])
 else
 Option.bind
 (nil?
 p753.snd)
 fun _ ↦
 bif decide (n661 = 0) then
 Option.bind
 (E
 cx
 (Key.fn
 31)
 [AV.list
 0 4 es659,
 AV.list
 0 4
 [[vi
 5,
 vi
 1,
 vi
 0,
 vs
 (ByteArray.mk
 (Array.mk
 []))],
 [vi
 5,
 vi
 2,
 vi
 0,
 vs
 (ByteArray.mk
 (Array.mk
 [UInt8.ofNat
 120]))],
 [vi
 5,
 vi
 3,
 vi
 2,
 vs
 (ByteArray.mk
 (Array.mk
 []))]]]
 [])
 fun r766 ↦
 Option.bind
 (ret1
 r766)
 fun v767 ↦
 Option.bind
 (AV.bool?
 v767)
 fun b768 ↦
 bif b768 then
 bif
 decide
 (n669 =
 0) then
 bif
 decide
 (n677 =
 5) then
 bif
 decide
 (n685 =
 7) then
 bif
 decide
 (n693 =
 1) then
 Option.bind
 (E
 cx
 (Key.fn
 31)
 [AV.list
 0
 4
 es699,
 AV.list
 0
 4
 es659]
 [])
 fun
 r769 ↦
 Option.bind
 (ret1
 r769)
 fun
 v770 ↦
 Option.bind
 (AV.bool?
 v770)
 fun
 b771 ↦
 bif
 b771 then
 Option.bind
 (E
 cx
 (Key.fn
 31)
 [AV.list
 0
 4
 es701,
 AV.list
 0
 4
 [[vi
 6,
 vi
 0,
 vi
 0,
 vs
 (ByteArray.mk
 (Array.mk
 []))]]]
 [])
 fun
 r772 ↦
 Option.bind
 (ret1
 r772)
 fun
 v773 ↦
 Option.bind
 (AV.bool?
 v773)
 fun
 b774 ↦
 bif
 b774 then
 some
 (Out.ret
 (vbool
 false),
 [])
 else
 some
 (Out.ret
 (vbool
 false),
 [])
 else
 some
 (Out.ret
 (vbool
 false),
 [])
 else
 some
 (Out.ret
 (vbool
 false),
 [])
 else
 some
 (Out.ret
 (vbool
 false),
 [])
 else
 some
 (Out.ret
 (vbool
 false),
 [])
 else
 some
 (Out.ret
 (vbool
 false),
 [])
 else
 some
 (Out.ret
 (vbool
 false),
 [])
 else
 some
 (Out.ret
 (vbool
 false),
 []) := by
  intros
  exact (E_fast _ _ _ _).trans (by kernel_rfl)

end Go.Proofs.Av
