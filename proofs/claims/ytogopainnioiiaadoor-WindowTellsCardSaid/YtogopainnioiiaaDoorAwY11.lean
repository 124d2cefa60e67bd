/- A law's tree. -/
import Derived.Test.YtogopainnioiiaaDoorAwX
set_option maxRecDepth 100000
namespace Go.Proofs.Av
open Go
theorem f11 : ∀ (n2690 n2691 n2692 n2693 n2694 n2695 slot2696 : Int),
 E cx (Key.fn 11) [AV.agg [vi n2690, vi n2691, vi n2692, vi n2693, vi n2694, vi n2695], vi slot2696] [] =
 Option.bind (E cx (Key.fn 28) [] []) fun r2697 ↦
 Option.bind (ret1 r2697) fun v2698 ↦
 Option.bind (AV.bool? v2698) fun b2699 ↦
 bif b2699 then
 Option.bind (E cx (Key.fn 13) [AV.agg [vi n2690, vi n2691, vi n2692, vi n2693, vi n2694, vi n2695], vu 0] []) fun r2700 ↦
 Option.bind (ret1 r2700) fun v2701 ↦
 Option.bind (AV.cells? v2701) fun cs2702 ↦
 Option.bind (uncons? cs2702) fun p2703 ↦
 Option.bind (AV.int? IntKind.i64 p2703.fst) fun n2704 ↦
 Option.bind (uncons? p2703.snd) fun p2705 ↦
 Option.bind (AV.int? IntKind.i64 p2705.fst) fun n2706 ↦
 Option.bind (uncons? p2705.snd) fun p2707 ↦
 Option.bind (AV.int? IntKind.i64 p2707.fst) fun n2708 ↦
 Option.bind (uncons? p2707.snd) fun p2709 ↦
 Option.bind (AV.int? IntKind.i64 p2709.fst) fun n2710 ↦
 Option.bind (uncons? p2709.snd) fun p2711 ↦
 Option.bind (AV.int? IntKind.i64 p2711.fst) fun n2712 ↦
 Option.bind (uncons? p2711.snd) fun p2713 ↦
 Option.bind (AV.int? IntKind.i64 p2713.fst) fun n2714 ↦
 Option.bind (uncons? p2713.snd) fun p2715 ↦
 Option.bind (AV.int? IntKind.i64 p2715.fst) fun n2716 ↦
 Option.bind (uncons? p2715.snd) fun p2717 ↦
 Option.bind (AV.int? IntKind.i64 p2717.fst) fun n2718 ↦
 Option.bind (uncons? p2717.snd) fun p2719 ↦
 Option.bind (AV.int? IntKind.i64 p2719.fst) fun n2720 ↦
 Option.bind (uncons? p2719.snd) fun p2721 ↦
 Option.bind (AV.int? IntKind.u64 p2721.fst) fun n2722 ↦
 Option.bind (nil? p2721.snd) fun _ ↦
 if n2712 = 0 then none
 else
 Option.bind
 (E cx (Key.fn 29)
 [vi slot2696, vi (IntKind.wrap IntKind.i64 (Int.tdiv 1099511627776 n2712))] [])
 fun r2724 ↦
 Option.bind (ret1 r2724) fun v2725 ↦
 Option.bind (AV.int? IntKind.i64 v2725) fun n2726 ↦
 Option.bind
 (E cx (Key.fn 30)
 [AV.agg
 [vi n2704, vi n2706, vi n2708, vi n2710, vi n2712, vi n2714, vi n2716, vi n2718,
 vi n2720, vu n2722],
 vi (IntKind.wrap IntKind.i64 (Int.add 1 n2726))]
 [])
 fun r2727 ↦
 Option.bind (ret1 r2727) fun v2728 ↦
 Option.bind (AV.tup? v2728) fun vs2729 ↦
 Option.bind (uncons? vs2729) fun p2730 ↦
 Option.bind (AV.int? IntKind.i64 p2730.fst) fun n2731 ↦
 Option.bind (uncons? p2730.snd) fun p2732 ↦
 Option.bind (AV.int? IntKind.i64 p2732.fst) fun n2733 ↦
 Option.bind (nil? p2732.snd) fun _ ↦
 Option.bind
 (E cx (Key.fn 32)
 [AV.agg
 [vi n2704, vi n2706, vi n2708, vi n2710, vi n2712, vi n2714,
 vi n2716, vi n2718, vi n2720, vu n2722],
 vi (IntKind.wrap IntKind.i64 (Int.add 1 n2726))]
 [])
 fun r2735 ↦
 Option.bind (ret1 r2735) fun v2736 ↦
 Option.bind (AV.tup? v2736) fun vs2737 ↦
 Option.bind (uncons? vs2737) fun p2738 ↦
 Option.bind (AV.int? IntKind.i64 p2738.fst) fun n2739 ↦
 Option.bind (uncons? p2738.snd) fun p2740 ↦
 Option.bind (AV.int? IntKind.i64 p2740.fst) fun n2741 ↦
 Option.bind (nil? p2740.snd) fun _ ↦
 Option.bind
 (E cx (Key.fn 30)
 [AV.agg
 [vi n2704, vi n2706, vi n2708, vi n2710, vi n2712,
 vi n2714, vi n2716, vi n2718, vi n2720, vu n2722],
 vi
 (IntKind.wrap IntKind.i64
 (Int.add
 (IntKind.wrap IntKind.i64
 (Int.add 1 n2726))
 1))]
 [])
 fun r2743 ↦
 Option.bind (ret1 r2743) fun v2744 ↦
 Option.bind (AV.tup? v2744) fun vs2745 ↦
 Option.bind (uncons? vs2745) fun p2746 ↦
 Option.bind (AV.int? IntKind.i64 p2746.fst)
 fun n2747 ↦
 Option.bind (uncons? p2746.snd) fun p2748 ↦
 Option.bind (AV.int? IntKind.i64 p2748.fst)
 fun n2749 ↦
 Option.bind (nil? p2748.snd) fun _ ↦
 Option.bind
 (E cx (Key.fn 32)
 [AV.agg
 [vi n2704, vi n2706, vi n2708,
 vi n2710, vi n2712, vi n2714,
 vi n2716, vi n2718, vi n2720,
 vu n2722],
 vi
 (IntKind.wrap IntKind.i64
 (Int.add
 (IntKind.wrap IntKind.i64
 (Int.add 1 n2726))
 1))]
 [])
 fun r2751 ↦
 Option.bind (ret1 r2751) fun v2752 ↦
 Option.bind (AV.tup? v2752) fun vs2753 ↦
 Option.bind (uncons? vs2753)
 fun p2754 ↦
 Option.bind
 (AV.int? IntKind.i64 p2754.fst)
 fun n2755 ↦
 Option.bind (uncons? p2754.snd)
 fun p2756 ↦
 Option.bind
 (AV.int? IntKind.i64
 p2756.fst)
 fun n2757 ↦
 Option.bind (nil? p2756.snd)
 fun _ ↦
 bif n2733 != 0 then
 some
 (Out.ret (vbool false),
 [])
 else
 bif n2741 != 0 then
 some
 (Out.ret
 (vbool false),
 [])
 else
 bif
 n2731 !=
 IntKind.wrap
 IntKind.i64
 (Int.sub
 (IntKind.wrap
 IntKind.i64
 (Int.mul
 (IntKind.wrap
 IntKind.i64
 (Int.add
 1
 n2726))
 n2712))
 n2714) then
 some
 (Out.ret
 (vbool false),
 [])
 else
 bif
 decide
 (n2739 <
 1099511627776) then
 bif
 IntKind.wrap
 IntKind.i64
 (Int.add
 (IntKind.wrap
 IntKind.i64
 (Int.sub
 n2739
 n2731))
 1) !=
 IntKind.wrap
 IntKind.i64
 (Int.add
 (IntKind.wrap
 IntKind.i64
 (Int.mul
 (IntKind.wrap
 IntKind.i64
 (Int.add
 n2716
 1))
 n2712))
 (IntKind.wrap
 IntKind.i64
 (Int.mul
 2
 n2714))) then
 some
 (Out.ret
 (vbool
 false),
 [])
 else
 bif
 decide
 (n2739 >
 1099511627776) then
 some
 (Out.ret
 (vbool
 false),
 [])
 else
 bif
 decide
 (IntKind.wrap
 IntKind.i64
 (Int.mul
 (IntKind.wrap
 IntKind.i64
 (Int.add
 (IntKind.wrap
 IntKind.i64
 (Int.add
 1
 n2726))
 1))
 n2712) >
 1099511627776) then
 bif
 decide
 (n2749 =
 8) then
 bif
 decide
 (n2757 =
 8) then
 bif
 decide
 (n2747 =
 0) then
 bif
 decide
 (n2755 =
 0) then
 some
 (Out.ret
 (vbool
 true),
 [])
 else
 some
 (Out.ret
 (vbool
 false),
 [])
 else
 some
 (Out.ret
 (vbool
 false),
 [])
 else
 some
 (Out.ret
 (vbool
 false),
 [])
 else
 some
 (Out.ret
 (vbool
 false),
 [])
 else
 bif
 decide
 (n2749 =
 0) then
 bif
 decide
 (n2757 =
 0) then
 bif
 decide
 (n2747 =
 IntKind.wrap
 IntKind.i64
 (Int.add
 n2731
 n2712)) then
 bif
 decide
 (n2755 =
 IntKind.wrap
 IntKind.i64
 (Int.add
 n2739
 n2712)) then
 some
 (Out.ret
 (vbool
 true),
 [])
 else
 bif
 decide
 (n2755 =
 1099511627776) then
 bif
 decide
 (IntKind.wrap
 IntKind.i64
 (Int.add
 n2739
 n2712) >
 1099511627776) then
 some
 (Out.ret
 (vbool
 true),
 [])
 else
 some
 (Out.ret
 (vbool
 false),
 [])
 else
 some
 (Out.ret
 (vbool
 false),
 [])
 else
 some
 (Out.ret
 (vbool
 false),
 [])
 else
 some
 (Out.ret
 (vbool
 false),
 [])
 else
 some
 (Out.ret
 (vbool
 false),
 [])
 else
 bif
 decide
 (n2739 >
 1099511627776) then
 some
 (Out.ret
 (vbool
 false),
 [])
 else
 bif
 decide
 (IntKind.wrap
 IntKind.i64
 (Int.mul
 (IntKind.wrap
 IntKind.i64
 (Int.add
 (IntKind.wrap
 IntKind.i64
 (Int.add
 1
 n2726))
 1))
 n2712) >
 1099511627776) then
 bif
 decide
 (n2749 =
 8) then
 bif
 decide
 (n2757 =
 8) then
 bif
 decide
 (n2747 =
 0) then
 bif
 decide
 (n2755 =
 0) then
 some
 (Out.ret
 (vbool
 true),
 [])
 else
 some
 (Out.ret
 (vbool
 false),
 [])
 else
 some
 (Out.ret
 (vbool
 false),
 [])
 else
 some
 (Out.ret
 (vbool
 false),
 [])
 else
 some
 (Out.ret
 (vbool
 false),
 [])
 else
 bif
 decide
 (n2749 =
 0) then
 bif
 decide
 (n2757 =
 0) then
 bif
 decide
 (n2747 =
 IntKind.wrap
 IntKind.i64
 (Int.add
 n2731
 n2712)) then
 bif
 decide
 (n2755 =
 IntKind.wrap
 IntKind.i64
 (Int.add
 n2739
 n2712)) then
 some
 (Out.ret
 (vbool
 true),
 [])
 else
 bif
 decide
 (n2755 =
 1099511627776) then
 bif
 decide
 (IntKind.wrap
 IntKind.i64
 (Int.add
 n2739
 n2712) >
 1099511627776) then
 some
 (Out.ret
 (vbool
 true),
 [])
 else
 some
 (Out.ret
 (vbool
 false),
 [])
 else
 some
 (Out.ret
 (vbool
 false),
 [])
 else
 some
 (Out.ret
 (vbool
 false),
 [])
 else
 some
 (Out.ret
 (vbool
 false),
 [])
 else
 some
 (Out.ret
 (vbool
 false),
 [])
 else
 Option.bind (E cx (Key.fn 13) [AV.agg [vi n2690, vi n2691, vi n2692, vi n2693, vi n2694, vi n2695], vu 0] []) fun r2759 ↦
 Option.bind (ret1 r2759) fun v2760 ↦
 Option.bind (AV.cells? v2760) fun cs2761 ↦
 Option.bind (uncons? cs2761) fun p2762 ↦
 Option.bind (AV.int? IntKind.i64 p2762.fst) fun n2763 ↦
 Option.bind (uncons? p2762.snd) fun p2764 ↦
 Option.bind (AV.int? IntKind.i64 p2764.fst) fun n2765 ↦
 Option.bind (uncons? p2764.snd) fun p2766 ↦
 Option.bind (AV.int? IntKind.i64 p2766.fst) fun n2767 ↦
 Option.bind (uncons? p2766.snd) fun p2768 ↦
 Option.bind (AV.int? IntKind.i64 p2768.fst) fun n2769 ↦
 Option.bind (uncons? p2768.snd) fun p2770 ↦
 Option.bind (AV.int? IntKind.i64 p2770.fst) fun n2771 ↦
 Option.bind (uncons? p2770.snd) fun p2772 ↦
 Option.bind (AV.int? IntKind.i64 p2772.fst) fun n2773 ↦
 Option.bind (uncons? p2772.snd) fun p2774 ↦
 Option.bind (AV.int? IntKind.i64 p2774.fst) fun n2775 ↦
 Option.bind (uncons? p2774.snd) fun p2776 ↦
 Option.bind (AV.int? IntKind.i64 p2776.fst) fun n2777 ↦
 Option.bind (uncons? p2776.snd) fun p2778 ↦
 Option.bind (AV.int? IntKind.i64 p2778.fst) fun n2779 ↦
 Option.bind (uncons? p2778.snd) fun p2780 ↦
 Option.bind (AV.int? IntKind.u64 p2780.fst) fun n2781 ↦
 Option.bind (nil? p2780.snd) fun _ ↦
 if n2771 = 0 then none
 else
 Option.bind
 (E cx (Key.fn 29)
 [vi slot2696, vi (IntKind.wrap IntKind.i64 (Int.tdiv 1099511627776 n2771))] [])
 fun r2783 ↦
 Option.bind (ret1 r2783) fun v2784 ↦
 Option.bind (AV.int? IntKind.i64 v2784) fun n2785 ↦
 Option.bind
 (E cx (Key.fn 30)
 [AV.agg
 [vi n2763, vi n2765, vi n2767, vi n2769, vi n2771, vi n2773, vi n2775, vi n2777,
 vi n2779, vu n2781],
 vi (IntKind.wrap IntKind.i64 (Int.add 1 n2785))]
 [])
 fun r2786 ↦
 Option.bind (ret1 r2786) fun v2787 ↦
 Option.bind (AV.tup? v2787) fun vs2788 ↦
 Option.bind (uncons? vs2788) fun p2789 ↦
 Option.bind (AV.int? IntKind.i64 p2789.fst) fun n2790 ↦
 Option.bind (uncons? p2789.snd) fun p2791 ↦
 Option.bind (AV.int? IntKind.i64 p2791.fst) fun n2792 ↦
 Option.bind (nil? p2791.snd) fun _ ↦
 Option.bind
 (E cx (Key.fn 32)
 [AV.agg
 [vi n2763, vi n2765, vi n2767, vi n2769, vi n2771, vi n2773,
 vi n2775, vi n2777, vi n2779, vu n2781],
 vi (IntKind.wrap IntKind.i64 (Int.add 1 n2785))]
 [])
 fun r2794 ↦
 Option.bind (ret1 r2794) fun v2795 ↦
 Option.bind (AV.tup? v2795) fun vs2796 ↦
 Option.bind (uncons? vs2796) fun p2797 ↦
 Option.bind (AV.int? IntKind.i64 p2797.fst) fun n2798 ↦
 Option.bind (uncons? p2797.snd) fun p2799 ↦
 Option.bind (AV.int? IntKind.i64 p2799.fst) fun n2800 ↦
 Option.bind (nil? p2799.snd) fun _ ↦
 Option.bind
 (E cx (Key.fn 30)
 [AV.agg
 [vi n2763, vi n2765, vi n2767, vi n2769, vi n2771,
 vi n2773, vi n2775, vi n2777, vi n2779, vu n2781],
 vi
 (IntKind.wrap IntKind.i64
 (Int.add
 (IntKind.wrap IntKind.i64
 (Int.add 1 n2785))
 1))]
 [])
 fun r2802 ↦
 Option.bind (ret1 r2802) fun v2803 ↦
 Option.bind (AV.tup? v2803) fun vs2804 ↦
 Option.bind (uncons? vs2804) fun p2805 ↦
 Option.bind (AV.int? IntKind.i64 p2805.fst)
 fun _ ↦
 Option.bind (uncons? p2805.snd) fun p2807 ↦
 Option.bind (AV.int? IntKind.i64 p2807.fst)
 fun _ ↦
 Option.bind (nil? p2807.snd) fun _ ↦
 Option.bind
 (E cx (Key.fn 32)
 [AV.agg
 [vi n2763, vi n2765, vi n2767,
 vi n2769, vi n2771, vi n2773,
 vi n2775, vi n2777, vi n2779,
 vu n2781],
 vi
 (IntKind.wrap IntKind.i64
 (Int.add
 (IntKind.wrap IntKind.i64
 (Int.add 1 n2785))
 1))]
 [])
 fun r2810 ↦
 Option.bind (ret1 r2810) fun v2811 ↦
 Option.bind (AV.tup? v2811) fun vs2812 ↦
 Option.bind (uncons? vs2812)
 fun p2813 ↦
 Option.bind
 (AV.int? IntKind.i64 p2813.fst)
 fun _ ↦
 Option.bind (uncons? p2813.snd)
 fun p2815 ↦
 Option.bind
 (AV.int? IntKind.i64
 p2815.fst)
 fun _ ↦
 Option.bind (nil? p2815.snd)
 fun _ ↦
 bif n2792 != 0 then
 some
 (Out.ret (vbool false),
 [])
 else
 bif n2800 != 0 then
 some
 (Out.ret
 (vbool false),
 [])
 else
 bif
 n2790 !=
 IntKind.wrap
 IntKind.i64
 (Int.sub
 (IntKind.wrap
 IntKind.i64
 (Int.mul
 (IntKind.wrap
 IntKind.i64
 (Int.add
 1
 n2785))
 n2771))
 n2773) then
 some
 (Out.ret
 (vbool false),
 [])
 else
 bif
 decide
 (n2798 <
 1099511627776) then
 bif
 IntKind.wrap
 IntKind.i64
 (Int.add
 (IntKind.wrap
 IntKind.i64
 (Int.sub
 n2798
 n2790))
 1) !=
 IntKind.wrap
 IntKind.i64
 (Int.add
 (IntKind.wrap
 IntKind.i64
 (Int.mul
 (IntKind.wrap
 IntKind.i64
 (Int.add
 n2775
 1))
 n2771))
 (IntKind.wrap
 IntKind.i64
 (Int.mul
 2
 n2773))) then
 some
 (Out.ret
 (vbool
 false),
 [])
 else
 bif
 decide
 (n2798 >
 1099511627776) then
 some
 (Out.ret
 (vbool
 false),
 [])
 else
 bif
 decide
 (IntKind.wrap
 IntKind.i64
 (Int.mul
 (IntKind.wrap
 IntKind.i64
 (Int.add
 (IntKind.wrap
 IntKind.i64
 (Int.add
 1
 n2785))
 1))
 n2771) >
 1099511627776) then
 some
 (Out.ret
 (vbool
 false),
 [])
 else
 some
 (Out.ret
 (vbool
 false),
 [])
 else
 bif
 decide
 (n2798 >
 1099511627776) then
 some
 (Out.ret
 (vbool
 false),
 [])
 else
 bif
 decide
 (IntKind.wrap
 IntKind.i64
 (Int.mul
 (IntKind.wrap
 IntKind.i64
 (Int.add
 (IntKind.wrap
 IntKind.i64
 (Int.add
 1
 n2785))
 1))
 n2771) >
 1099511627776) then
 some
 (Out.ret
 (vbool
 false),
 [])
 else
 some
 (Out.ret
 (vbool
 false),
 []) := by
  intros
  exact (E_fast _ _ _ _).trans (by kernel_rfl)

end Go.Proofs.Av
