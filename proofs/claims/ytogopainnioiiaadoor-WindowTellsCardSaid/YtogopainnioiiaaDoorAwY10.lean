/- A law's tree. -/
import Derived.Test.YtogopainnioiiaaDoorAwX
set_option maxRecDepth 100000
namespace Go.Proofs.Av
open Go
theorem f10 : ∀ (n2559 n2560 n2561 n2562 n2563 n2564 at2565 by2566 : Int),
 E cx (Key.fn 10) [AV.agg [vi n2559, vi n2560, vi n2561, vi n2562, vi n2563, vi n2564], vi at2565, vi by2566] [] =
 Option.bind (E cx (Key.fn 28) [] []) fun r2567 ↦
 Option.bind (ret1 r2567) fun v2568 ↦
 Option.bind (AV.bool? v2568) fun b2569 ↦
 bif b2569 then
 Option.bind (E cx (Key.fn 13) [AV.agg [vi n2559, vi n2560, vi n2561, vi n2562, vi n2563, vi n2564], vu 0] []) fun r2570 ↦
 Option.bind (ret1 r2570) fun v2571 ↦
 Option.bind (AV.cells? v2571) fun cs2572 ↦
 Option.bind (uncons? cs2572) fun p2573 ↦
 Option.bind (AV.int? IntKind.i64 p2573.fst) fun n2574 ↦
 Option.bind (uncons? p2573.snd) fun p2575 ↦
 Option.bind (AV.int? IntKind.i64 p2575.fst) fun n2576 ↦
 Option.bind (uncons? p2575.snd) fun p2577 ↦
 Option.bind (AV.int? IntKind.i64 p2577.fst) fun n2578 ↦
 Option.bind (uncons? p2577.snd) fun p2579 ↦
 Option.bind (AV.int? IntKind.i64 p2579.fst) fun n2580 ↦
 Option.bind (uncons? p2579.snd) fun p2581 ↦
 Option.bind (AV.int? IntKind.i64 p2581.fst) fun n2582 ↦
 Option.bind (uncons? p2581.snd) fun p2583 ↦
 Option.bind (AV.int? IntKind.i64 p2583.fst) fun n2584 ↦
 Option.bind (uncons? p2583.snd) fun p2585 ↦
 Option.bind (AV.int? IntKind.i64 p2585.fst) fun n2586 ↦
 Option.bind (uncons? p2585.snd) fun p2587 ↦
 Option.bind (AV.int? IntKind.i64 p2587.fst) fun n2588 ↦
 Option.bind (uncons? p2587.snd) fun p2589 ↦
 Option.bind (AV.int? IntKind.i64 p2589.fst) fun n2590 ↦
 Option.bind (uncons? p2589.snd) fun p2591 ↦
 Option.bind (AV.int? IntKind.u64 p2591.fst) fun n2592 ↦
 Option.bind (nil? p2591.snd) fun _ ↦
 Option.bind (E cx (Key.fn 29) [vi at2565, vi 1099511627776] []) fun r2594 ↦
 Option.bind (ret1 r2594) fun v2595 ↦
 Option.bind (AV.int? IntKind.i64 v2595) fun n2596 ↦
 Option.bind (E cx (Key.fn 29) [vi by2566, vi 100] []) fun r2597 ↦
 Option.bind (ret1 r2597) fun v2598 ↦
 Option.bind (AV.int? IntKind.i64 v2598) fun n2599 ↦
 Option.bind
 (E cx (Key.fn 36)
 [AV.agg
 [vi n2574, vi n2576, vi n2578, vi n2580, vi n2582, vi n2584, vi n2586, vi n2588,
 vi n2590, vu n2592],
 vi n2596]
 [])
 fun r2600 ↦
 Option.bind (ret1 r2600) fun v2601 ↦
 Option.bind (AV.tup? v2601) fun vs2602 ↦
 Option.bind (uncons? vs2602) fun p2603 ↦
 Option.bind (AV.int? IntKind.i64 p2603.fst) fun n2604 ↦
 Option.bind (uncons? p2603.snd) fun p2605 ↦
 Option.bind (AV.int? IntKind.i64 p2605.fst) fun n2606 ↦
 Option.bind (uncons? p2605.snd) fun p2607 ↦
 Option.bind (AV.int? IntKind.i64 p2607.fst) fun n2608 ↦
 Option.bind (nil? p2607.snd) fun _ ↦
 Option.bind
 (E cx (Key.fn 36)
 [AV.agg
 [vi n2574, vi n2576, vi n2578, vi n2580, vi n2582, vi n2584,
 vi n2586, vi n2588, vi n2590, vu n2592],
 vi (IntKind.wrap IntKind.i64 (Int.add n2596 1))]
 [])
 fun r2610 ↦
 Option.bind (ret1 r2610) fun v2611 ↦
 Option.bind (AV.tup? v2611) fun vs2612 ↦
 Option.bind (uncons? vs2612) fun p2613 ↦
 Option.bind (AV.int? IntKind.i64 p2613.fst) fun n2614 ↦
 Option.bind (uncons? p2613.snd) fun p2615 ↦
 Option.bind (AV.int? IntKind.i64 p2615.fst)
 fun n2616 ↦
 Option.bind (uncons? p2615.snd) fun p2617 ↦
 Option.bind (AV.int? IntKind.i64 p2617.fst)
 fun n2618 ↦
 Option.bind (nil? p2617.snd) fun _ ↦
 Option.bind
 (E cx (Key.fn 36)
 [AV.agg
 [vi n2574, vi n2576, vi n2578, vi n2580,
 vi n2582, vi n2584, vi n2586,
 vi n2588, vi n2590, vu n2592],
 vi
 (if
 1099511627776 <
 IntKind.wrap IntKind.i64
 (Int.add
 (IntKind.wrap
 IntKind.i64
 (Int.add n2596 1))
 n2599) then
 1099511627776
 else
 IntKind.wrap IntKind.i64
 (Int.add
 (IntKind.wrap IntKind.i64
 (Int.add n2596 1))
 n2599))]
 [])
 fun r2620 ↦
 Option.bind (ret1 r2620) fun v2621 ↦
 Option.bind (AV.tup? v2621) fun vs2622 ↦
 Option.bind (uncons? vs2622) fun p2623 ↦
 Option.bind
 (AV.int? IntKind.i64 p2623.fst)
 fun n2624 ↦
 Option.bind (uncons? p2623.snd)
 fun p2625 ↦
 Option.bind
 (AV.int? IntKind.i64 p2625.fst)
 fun n2626 ↦
 Option.bind (uncons? p2625.snd)
 fun p2627 ↦
 Option.bind
 (AV.int? IntKind.i64
 p2627.fst)
 fun n2628 ↦
 Option.bind (nil? p2627.snd)
 fun _ ↦
 bif decide (n2608 = 0) then
 bif
 decide
 (n2618 = 0) then
 bif
 decide
 (n2628 = 0) then
 bif
 decide
 (n2604 ≤
 n2614) then
 bif
 decide
 (n2614 ≤
 IntKind.wrap
 IntKind.i64
 (Int.add
 n2604
 1)) then
 bif
 decide
 (n2606 ≤
 n2616) then
 bif
 decide
 (n2616 ≤
 IntKind.wrap
 IntKind.i64
 (Int.add
 n2606
 1)) then
 bif
 decide
 (n2614 ≤
 n2624) then
 bif
 decide
 (n2616 ≤
 n2626) then
 some
 (Out.ret
 (vbool
 true),
 [])
 else
 some
 (Out.ret
 (vbool
 false),
 [])
 else
 some
 (Out.ret
 (vbool
 false),
 [])
 else
 some
 (Out.ret
 (vbool
 false),
 [])
 else
 some
 (Out.ret
 (vbool
 false),
 [])
 else
 some
 (Out.ret
 (vbool
 false),
 [])
 else
 some
 (Out.ret
 (vbool false),
 [])
 else
 some
 (Out.ret
 (vbool false),
 [])
 else
 some
 (Out.ret
 (vbool false),
 [])
 else
 some
 (Out.ret (vbool false),
 [])
 else
 Option.bind (E cx (Key.fn 13) [AV.agg [vi n2559, vi n2560, vi n2561, vi n2562, vi n2563, vi n2564], vu 0] []) fun r2630 ↦
 Option.bind (ret1 r2630) fun v2631 ↦
 Option.bind (AV.cells? v2631) fun cs2632 ↦
 Option.bind (uncons? cs2632) fun p2633 ↦
 Option.bind (AV.int? IntKind.i64 p2633.fst) fun n2634 ↦
 Option.bind (uncons? p2633.snd) fun p2635 ↦
 Option.bind (AV.int? IntKind.i64 p2635.fst) fun n2636 ↦
 Option.bind (uncons? p2635.snd) fun p2637 ↦
 Option.bind (AV.int? IntKind.i64 p2637.fst) fun n2638 ↦
 Option.bind (uncons? p2637.snd) fun p2639 ↦
 Option.bind (AV.int? IntKind.i64 p2639.fst) fun n2640 ↦
 Option.bind (uncons? p2639.snd) fun p2641 ↦
 Option.bind (AV.int? IntKind.i64 p2641.fst) fun n2642 ↦
 Option.bind (uncons? p2641.snd) fun p2643 ↦
 Option.bind (AV.int? IntKind.i64 p2643.fst) fun n2644 ↦
 Option.bind (uncons? p2643.snd) fun p2645 ↦
 Option.bind (AV.int? IntKind.i64 p2645.fst) fun n2646 ↦
 Option.bind (uncons? p2645.snd) fun p2647 ↦
 Option.bind (AV.int? IntKind.i64 p2647.fst) fun n2648 ↦
 Option.bind (uncons? p2647.snd) fun p2649 ↦
 Option.bind (AV.int? IntKind.i64 p2649.fst) fun n2650 ↦
 Option.bind (uncons? p2649.snd) fun p2651 ↦
 Option.bind (AV.int? IntKind.u64 p2651.fst) fun n2652 ↦
 Option.bind (nil? p2651.snd) fun _ ↦
 Option.bind (E cx (Key.fn 29) [vi at2565, vi 1099511627776] []) fun r2654 ↦
 Option.bind (ret1 r2654) fun v2655 ↦
 Option.bind (AV.int? IntKind.i64 v2655) fun n2656 ↦
 Option.bind (E cx (Key.fn 29) [vi by2566, vi 100] []) fun r2657 ↦
 Option.bind (ret1 r2657) fun v2658 ↦
 Option.bind (AV.int? IntKind.i64 v2658) fun n2659 ↦
 Option.bind
 (E cx (Key.fn 36)
 [AV.agg
 [vi n2634, vi n2636, vi n2638, vi n2640, vi n2642, vi n2644, vi n2646, vi n2648,
 vi n2650, vu n2652],
 vi n2656]
 [])
 fun r2660 ↦
 Option.bind (ret1 r2660) fun v2661 ↦
 Option.bind (AV.tup? v2661) fun vs2662 ↦
 Option.bind (uncons? vs2662) fun p2663 ↦
 Option.bind (AV.int? IntKind.i64 p2663.fst) fun _ ↦
 Option.bind (uncons? p2663.snd) fun p2665 ↦
 Option.bind (AV.int? IntKind.i64 p2665.fst) fun _ ↦
 Option.bind (uncons? p2665.snd) fun p2667 ↦
 Option.bind (AV.int? IntKind.i64 p2667.fst) fun _ ↦
 Option.bind (nil? p2667.snd) fun _ ↦
 Option.bind
 (E cx (Key.fn 36)
 [AV.agg
 [vi n2634, vi n2636, vi n2638, vi n2640, vi n2642, vi n2644,
 vi n2646, vi n2648, vi n2650, vu n2652],
 vi (IntKind.wrap IntKind.i64 (Int.add n2656 1))]
 [])
 fun r2670 ↦
 Option.bind (ret1 r2670) fun v2671 ↦
 Option.bind (AV.tup? v2671) fun vs2672 ↦
 Option.bind (uncons? vs2672) fun p2673 ↦
 Option.bind (AV.int? IntKind.i64 p2673.fst) fun _ ↦
 Option.bind (uncons? p2673.snd) fun p2675 ↦
 Option.bind (AV.int? IntKind.i64 p2675.fst)
 fun _ ↦
 Option.bind (uncons? p2675.snd) fun p2677 ↦
 Option.bind (AV.int? IntKind.i64 p2677.fst)
 fun _ ↦
 Option.bind (nil? p2677.snd) fun _ ↦
 Option.bind
 (E cx (Key.fn 36)
 [AV.agg
 [vi n2634, vi n2636, vi n2638, vi n2640,
 vi n2642, vi n2644, vi n2646,
 vi n2648, vi n2650, vu n2652],
 vi
 (if
 1099511627776 <
 IntKind.wrap IntKind.i64
 (Int.add
 (IntKind.wrap
 IntKind.i64
 (Int.add n2656 1))
 n2659) then
 1099511627776
 else
 IntKind.wrap IntKind.i64
 (Int.add
 (IntKind.wrap IntKind.i64
 (Int.add n2656 1))
 n2659))]
 [])
 fun r2680 ↦
 Option.bind (ret1 r2680) fun v2681 ↦
 Option.bind (AV.tup? v2681) fun vs2682 ↦
 Option.bind (uncons? vs2682) fun p2683 ↦
 Option.bind
 (AV.int? IntKind.i64 p2683.fst)
 fun _ ↦
 Option.bind (uncons? p2683.snd)
 fun p2685 ↦
 Option.bind
 (AV.int? IntKind.i64 p2685.fst)
 fun _ ↦
 Option.bind (uncons? p2685.snd)
 fun p2687 ↦
 Option.bind
 (AV.int? IntKind.i64
 p2687.fst)
 fun _ ↦
 Option.bind (nil? p2687.snd)
 fun _ ↦
 some
 (Out.ret (vbool false),
 []) := by
  intros
  exact (E_fast _ _ _ _).trans (by kernel_rfl)

end Go.Proofs.Av
