/- Tokens: the law that what is written is read. -/
import Derived.Test.YtoepfmodbhfckaaAePQ
set_option maxRecDepth 100000
namespace Go.Proofs.Av
open Go
theorem f7 : ∀ (one687 two688 : List (List AV)) (a689 b690 : Bool) (s691 : ByteArray),
 E cx (Key.fn 7)
 [AV.list 0 1 one687, AV.list 0 1 two688, vbool a689, vbool b690, vs s691] [] =
 Option.bind (E cx (Key.fn 37) [AV.list 0 1 one687, vbool a689] []) fun r692 ↦
 Option.bind (ret1 r692) fun v693 ↦
 Option.bind (AV.cells? v693) fun cs694 ↦
 Option.bind (uncons? cs694) fun p695 ↦
 Option.bind (AV.bool? p695.fst) fun b696 ↦
 Option.bind (uncons? p695.snd) fun p697 ↦
 Option.bind (AV.list? 2 p697.fst) fun es698 ↦
 Option.bind (nil? p697.snd) fun _ ↦
 Option.bind (E cx (Key.fn 37) [AV.list 0 1 two688, vbool b690] [])
 fun r700 ↦
 Option.bind (ret1 r700) fun v701 ↦
 Option.bind (AV.cells? v701) fun cs702 ↦
 Option.bind (uncons? cs702) fun p703 ↦
 Option.bind (AV.bool? p703.fst) fun b704 ↦
 Option.bind (uncons? p703.snd) fun p705 ↦
 Option.bind (AV.list? 2 p705.fst) fun es706 ↦
 Option.bind (nil? p705.snd) fun _ ↦
 Option.bind
 (E cx (Key.fn 38)
 [AV.agg [vbool b696, AV.list 0 2 es698]] [])
 fun r708 ↦
 Option.bind (ret1 r708) fun v709 ↦
 Option.bind (AV.tup? v709) fun vs710 ↦
 Option.bind (uncons? vs710) fun p711 ↦
 Option.bind (AV.str? p711.fst) fun s712 ↦
 Option.bind (uncons? p711.snd) fun p713 ↦
 Option.bind (AV.int? IntKind.i64 p713.fst) fun n714 ↦
 Option.bind (nil? p713.snd) fun _ ↦
 Option.bind
 (E cx (Key.fn 38)
 [AV.agg [vbool b704, AV.list 0 2 es706]] [])
 fun r716 ↦
 Option.bind (ret1 r716) fun v717 ↦
 Option.bind (AV.tup? v717) fun vs718 ↦
 Option.bind (uncons? vs718) fun p719 ↦
 Option.bind (AV.str? p719.fst) fun s720 ↦
 Option.bind (uncons? p719.snd) fun p721 ↦
 Option.bind (AV.int? IntKind.i64 p721.fst) fun n722 ↦
 Option.bind (nil? p721.snd) fun _ ↦
 Option.bind
 (E cx (Key.fn 49) [vs s712] [])
 fun r724 ↦
 Option.bind (ret1 r724) fun v725 ↦
 Option.bind (AV.tup? v725) fun vs726 ↦
 Option.bind (uncons? vs726) fun p727 ↦
 Option.bind (AV.cells? p727.fst) fun cs728 ↦
 Option.bind (uncons? cs728) fun p729 ↦
 Option.bind (AV.bool? p729.fst) fun b730 ↦
 Option.bind (uncons? p729.snd) fun p731 ↦
 Option.bind (AV.list? 2 p731.fst) fun es732 ↦
 Option.bind (nil? p731.snd) fun _ ↦
 Option.bind (uncons? p727.snd) fun p734 ↦
 Option.bind (AV.int? IntKind.i64 p734.fst) fun n735 ↦
 Option.bind (nil? p734.snd) fun _ ↦
 if
 0 ≤
 if 100 < ((ByteArray.size s691) : Int) then 100
 else ((ByteArray.size s691) : Int) then
 if
 (if 100 < ((ByteArray.size s691) : Int) then 100
 else ((ByteArray.size s691) : Int)) ≤
 ((ByteArray.size s691) : Int) then
 Option.bind
 (E cx (Key.fn 49)
 [vs
 (ByteArray.extract s691 0
 (Int.toNat
 (if 100 < ((ByteArray.size s691) : Int) then 100
 else ((ByteArray.size s691) : Int))))]
 [])
 fun r737 ↦
 Option.bind (ret1 r737) fun v738 ↦
 Option.bind (AV.tup? v738) fun vs739 ↦
 Option.bind (uncons? vs739) fun p740 ↦
 Option.bind (AV.cells? p740.fst)
 fun cs741 ↦
 Option.bind (uncons? cs741) fun p742 ↦
 Option.bind (AV.bool? p742.fst)
 fun b743 ↦
 Option.bind (uncons? p742.snd)
 fun p744 ↦
 Option.bind (AV.list? 2 p744.fst)
 fun es745 ↦
 Option.bind (nil? p744.snd)
 fun _ ↦
 Option.bind
 (uncons? p740.snd)
 fun p747 ↦
 Option.bind
 (AV.int? IntKind.i64
 p747.fst)
 fun n748 ↦
 Option.bind
 (nil? p747.snd)
 fun _ ↦
 bif decide (n748 = 0) then
 Option.bind
 (E cx
 (Key.fn 38)
 [AV.agg
 [vbool b743,
 AV.list 0 2
 es745]]
 [])
 fun r750 ↦
 Option.bind
 (ret1 r750)
 fun v751 ↦
 Option.bind
 (AV.tup? v751)
 fun vs752 ↦
 Option.bind
 (uncons?
 vs752)
 fun p753 ↦
 Option.bind
 (AV.str?
 p753.fst)
 fun s754 ↦
 Option.bind
 (uncons?
 p753.snd)
 fun p755 ↦
 Option.bind
 (AV.int?
 IntKind.i64
 p755.fst)
 fun n756 ↦
 Option.bind
 (nil?
 p755.snd)
 fun _ ↦
 bif n756 != 0 then
 some
 (Out.ret
 (vbool
 false),
 [])
 else
 if
 0 ≤
 if
 100 <
 ((ByteArray.size
 s691) : Int) then
 100
 else
 ((ByteArray.size
 s691) : Int) then
 if
 (if
 100 <
 ((ByteArray.size
 s691) : Int) then
 100
 else
 ((ByteArray.size
 s691) : Int)) ≤
 ((ByteArray.size
 s691) : Int) then
 bif
 !List.beq
 (ByteArray.toList
 s754)
 (ByteArray.toList
 (ByteArray.extract
 s691
 0
 (Int.toNat
 (if
 100 <
 ((ByteArray.size
 s691) : Int) then
 100
 else
 ((ByteArray.size
 s691) : Int))))) then
 some
 (Out.ret
 (vbool
 false),
 [])
 else
 bif
 decide
 (n714 =
 0) then
 bif
 decide
 (n722 =
 0) then
 bif
 decide
 (n735 =
 0) then
 Option.bind
 (E
 cx
 (Key.fn
 47)
 [AV.agg
 [vbool
 b730,
 AV.list
 0
 2
 es732],
 AV.agg
 [vbool
 b696,
 AV.list
 0
 2
 es698]]
 [])
 fun
 r758 ↦
 Option.bind
 (ret1
 r758)
 fun
 v759 ↦
 Option.bind
 (AV.bool?
 v759)
 fun
 b760 ↦
 bif
 b760 then
 bif
 List.beq
 (ByteArray.toList
 s712)
 (ByteArray.toList
 s720) then
 Option.bind
 (E
 cx
 (Key.fn
 47)
 [AV.agg
 [vbool
 b696,
 AV.list
 0
 2
 es698],
 AV.agg
 [vbool
 b704,
 AV.list
 0
 2
 es706]]
 [])
 fun
 r761 ↦
 Option.bind
 (ret1
 r761)
 fun
 v762 ↦
 Option.bind
 (AV.bool?
 v762)
 fun
 b763 ↦
 bif
 b763 then
 bif
 decide
 (((ByteArray.size
 s712) : Int) =
 IntKind.wrap
 IntKind.i64
 (Int.add
 1
 (IntKind.wrap
 IntKind.i64
 (Int.mul
 16
 ((List.length
 es698) : Int))))) then
 some
 (Out.ret
 (vbool
 true),
 [])
 else
 some
 (Out.ret
 (vbool
 false),
 [])
 else
 some
 (Out.ret
 (vbool
 false),
 [])
 else
 Option.bind
 (E
 cx
 (Key.fn
 47)
 [AV.agg
 [vbool
 b696,
 AV.list
 0
 2
 es698],
 AV.agg
 [vbool
 b704,
 AV.list
 0
 2
 es706]]
 [])
 fun
 r764 ↦
 Option.bind
 (ret1
 r764)
 fun
 v765 ↦
 Option.bind
 (AV.bool?
 v765)
 fun
 b766 ↦
 bif
 b766 then
 some
 (Out.ret
 (vbool
 false),
 [])
 else
 bif
 decide
 (((ByteArray.size
 s712) : Int) =
 IntKind.wrap
 IntKind.i64
 (Int.add
 1
 (IntKind.wrap
 IntKind.i64
 (Int.mul
 16
 ((List.length
 es698) : Int))))) then
 some
 (Out.ret
 (vbool
 true),
 [])
 else
 some
 (Out.ret
 (vbool
 false),
 [])
 else
 some
 (Out.ret
 (vbool
 false),
 [])
 else
 some
 (Out.ret
 (vbool
 false),
 [])
 else
 some
 (Out.ret
 (vbool
 false),
 [])
 else
 some
 (Out.ret
 (vbool
 false),
 [])
 else none
 else none
 else
 bif decide (n714 = 0) then
 bif decide (n722 = 0) then
 bif decide (n735 = 0) then
 Option.bind
 (E
 cx
 (Key.fn 47)
 [AV.agg
 [vbool
 b730,
 AV.list
 0 2 es732],
 AV.agg
 [vbool
 b696,
 AV.list
 0 2 es698]]
 [])
 fun r767 ↦
 Option.bind
 (ret1 r767)
 fun v768 ↦
 Option.bind
 (AV.bool?
 v768)
 fun b769 ↦
 bif b769 then
 bif
 List.beq
 (ByteArray.toList
 s712)
 (ByteArray.toList
 s720) then
 Option.bind
 (E
 cx
 (Key.fn
 47)
 [AV.agg
 [vbool
 b696,
 AV.list
 0 2
 es698],
 AV.agg
 [vbool
 b704,
 AV.list
 0 2
 es706]]
 [])
 fun r770 ↦
 Option.bind
 (ret1
 r770)
 fun v771 ↦
 Option.bind
 (AV.bool?
 v771)
 fun b772 ↦
 bif
 b772 then
 bif
 decide
 (((ByteArray.size
 s712) : Int) =
 IntKind.wrap
 IntKind.i64
 (Int.add
 1
 (IntKind.wrap
 IntKind.i64
 (Int.mul
 16
 ((List.length
 es698) : Int))))) then
 some
 (Out.ret
 (vbool
 true),
 [])
 else
 some
 (Out.ret
 (vbool
 false),
 [])
 else
 some
 (Out.ret
 (vbool
 false),
 [])
 else
 Option.bind
 (E
 cx
 (Key.fn
 47)
 [AV.agg
 [vbool
 b696,
 AV.list
 0 2
 es698],
 AV.agg
 [vbool
 b704,
 AV.list
 0 2
 es706]]
 [])
 fun r773 ↦
 Option.bind
 (ret1
 r773)
 fun v774 ↦
 Option.bind
 (AV.bool?
 v774)
 fun b775 ↦
 bif
 b775 then
 some
 (Out.ret
 (vbool
 false),
 [])
 else
 bif
 decide
 (((ByteArray.size
 s712) : Int) =
 IntKind.wrap
 IntKind.i64
 (Int.add
 1
 (IntKind.wrap
 IntKind.i64
 (Int.mul
 16
 ((List.length
 es698) : Int))))) then
 some
 (Out.ret
 (vbool
 true),
 [])
 else
 some
 (Out.ret
 (vbool
 false),
 [])
 else
 some
 (Out.ret
 (vbool
 false),
 [])
 else
 some
 (Out.ret
 (vbool
 false),
 [])
 else
 some
 (Out.ret
 (vbool
 false),
 [])
 else
 some
 (Out.ret
 (vbool
 false),
 [])
 else none
 else none := by
  intros
  exact (E_ov f36_true [188] _ _ _).trans (by kernel_rfl)

end Go.Proofs.Av
