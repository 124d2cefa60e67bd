/- Tokens: the law of tokens that are put together with themselves. -/
import Derived.Test.YtoepfmodbhfckaaAePQ
set_option maxRecDepth 100000
namespace Go.Proofs.Av
open Go
theorem f11 : ∀ (raw2402 : List (List AV)) (forged2403 : Bool),
 E cx (Key.fn 11) [AV.list 0 1 raw2402, vbool forged2403] [] =
 Option.bind (E cx (Key.fn 37) [AV.list 0 1 raw2402, vbool forged2403] []) fun r2404 ↦
 Option.bind (ret1 r2404) fun v2405 ↦
 Option.bind (AV.cells? v2405) fun cs2406 ↦
 Option.bind (uncons? cs2406) fun p2407 ↦
 Option.bind (AV.bool? p2407.fst) fun b2408 ↦
 Option.bind (uncons? p2407.snd) fun p2409 ↦
 Option.bind (AV.list? 2 p2409.fst) fun es2410 ↦
 Option.bind (nil? p2409.snd) fun _ ↦
 Option.bind
 (E cx (Key.fn 45)
 [AV.list 0 2
 [[vbool b2408, AV.list 0 2 es2410], [vbool b2408, AV.list 0 2 es2410]]]
 [])
 fun r2412 ↦
 Option.bind (ret1 r2412) fun v2413 ↦
 Option.bind (AV.tup? v2413) fun vs2414 ↦
 Option.bind (uncons? vs2414) fun p2415 ↦
 Option.bind (AV.cells? p2415.fst) fun cs2416 ↦
 Option.bind (uncons? cs2416) fun p2417 ↦
 Option.bind (AV.bool? p2417.fst) fun b2418 ↦
 Option.bind (uncons? p2417.snd) fun p2419 ↦
 Option.bind (AV.list? 2 p2419.fst) fun es2420 ↦
 Option.bind (nil? p2419.snd) fun _ ↦
 Option.bind (uncons? p2415.snd) fun p2422 ↦
 Option.bind (AV.int? IntKind.i64 p2422.fst) fun n2423 ↦
 Option.bind (nil? p2422.snd) fun _ ↦
 Option.bind
 (E cx (Key.fn 45)
 [AV.list 0 2 [[vbool b2408, AV.list 0 2 es2410]]] [])
 fun r2425 ↦
 Option.bind (ret1 r2425) fun v2426 ↦
 Option.bind (AV.tup? v2426) fun vs2427 ↦
 Option.bind (uncons? vs2427) fun p2428 ↦
 Option.bind (AV.cells? p2428.fst) fun cs2429 ↦
 Option.bind (uncons? cs2429) fun p2430 ↦
 Option.bind (AV.bool? p2430.fst) fun b2431 ↦
 Option.bind (uncons? p2430.snd) fun p2432 ↦
 Option.bind (AV.list? 2 p2432.fst) fun es2433 ↦
 Option.bind (nil? p2432.snd) fun _ ↦
 Option.bind (uncons? p2428.snd) fun p2435 ↦
 Option.bind (AV.int? IntKind.i64 p2435.fst) fun n2436 ↦
 Option.bind (nil? p2435.snd) fun _ ↦
 bif n2423 != 0 then some (Out.ret (vbool false), [])
 else
 bif n2436 != 0 then some (Out.ret (vbool false), [])
 else
 Option.bind
 (E cx (Key.fn 47)
 [AV.agg
 [vbool b2431, AV.list 0 2 es2433],
 AV.agg
 [vbool b2408, AV.list 0 2 es2410]]
 [])
 fun r2438 ↦
 Option.bind (ret1 r2438) fun v2439 ↦
 Option.bind (AV.bool? v2439) fun b2440 ↦
 bif b2440 then
 bif
 ((List.length es2420) : Int) !=
 IntKind.wrap IntKind.i64 (Int.mul 2 ((List.length es2410) : Int)) then
 some (Out.ret (vbool false), [])
 else
 bif !decide (b2418 = b2408) then
 some (Out.ret (vbool false), [])
 else
 Option.bind
 (E cx
 (Key.loop 11
 [true, true, true, true, true, true, false, true, false])
 [vbool false, vi 0,
 vbool true, AV.ptr 0 0 0 0,
 AV.ptr 1 0 0 0]
 [Ob.mk OK.box 36 2 0
 [[vbool b2408, AV.list 0 2 es2410]],
 Ob.mk OK.box 36 2 0
 [[vbool b2418, AV.list 0 2 es2420]],
 Ob.mk OK.box 36 2 0
 [[vbool b2431, AV.list 0 2 es2433]]])
 fun r2441 ↦
 Option.bind (asJump r2441) fun j2442 ↦
 bif JX.is j2442.fst (JX.exit 0) then
 Option.bind (uncons? j2442.snd.fst) fun p2443 ↦
 Option.bind (AV.bool? p2443.fst) fun _ ↦
 Option.bind (uncons? p2443.snd) fun p2445 ↦
 Option.bind (AV.int? IntKind.i64 p2445.fst)
 fun _ ↦
 Option.bind (nil? p2445.snd) fun _ ↦
 Option.bind (uncons? j2442.snd.snd)
 fun p2448 ↦
 Option.bind
 (obIs
 (Ob.mk OK.box 36 2 0
 [[vbool b2408,
 AV.list 0 2 es2410]])
 p2448.fst)
 fun _ ↦
 Option.bind (chk p2448.fst.ver 0)
 fun _ ↦
 Option.bind (uncons? p2448.fst.es)
 fun p2451 ↦
 Option.bind (nil? p2451.snd)
 fun _ ↦
 Option.bind (uncons? p2451.fst)
 fun p2453 ↦
 Option.bind
 (AV.bool? p2453.fst)
 fun _ ↦
 Option.bind
 (uncons? p2453.snd)
 fun p2455 ↦
 Option.bind
 (AV.list? 2 p2455.fst)
 fun _ ↦
 Option.bind
 (nil? p2455.snd)
 fun _ ↦
 Option.bind
 (uncons? p2448.snd)
 fun p2458 ↦
 Option.bind
 (obIs
 (Ob.mk
 OK.box 36 2 0
 [[vbool b2418,
 AV.list 0 2
 es2420]])
 p2458.fst)
 fun _ ↦
 Option.bind
 (chk
 p2458.fst.ver 0)
 fun _ ↦
 Option.bind
 (uncons?
 p2458.fst.es)
 fun p2461 ↦
 Option.bind
 (nil?
 p2461.snd)
 fun _ ↦
 Option.bind
 (uncons?
 p2461.fst)
 fun p2463 ↦
 Option.bind
 (AV.bool?
 p2463.fst)
 fun _ ↦
 Option.bind
 (uncons?
 p2463.snd)
 fun p2465 ↦
 Option.bind
 (AV.list?
 2 p2465.fst)
 fun _ ↦
 Option.bind
 (nil?
 p2465.snd)
 fun _ ↦
 Option.bind
 (uncons?
 p2458.snd)
 fun p2468 ↦
 Option.bind
 (obIs
 (Ob.mk
 OK.box
 36 2 0
 [[vbool
 b2431,
 AV.list
 0
 2
 es2433]])
 p2468.fst)
 fun _ ↦
 Option.bind
 (chk
 p2468.fst.ver
 0)
 fun
 _ ↦
 Option.bind
 (uncons?
 p2468.fst.es)
 fun
 p2471 ↦
 Option.bind
 (nil?
 p2471.snd)
 fun
 _ ↦
 Option.bind
 (uncons?
 p2471.fst)
 fun
 p2473 ↦
 Option.bind
 (AV.bool?
 p2473.fst)
 fun
 _ ↦
 Option.bind
 (uncons?
 p2473.snd)
 fun
 p2475 ↦
 Option.bind
 (AV.list?
 2
 p2475.fst)
 fun
 _ ↦
 Option.bind
 (nil?
 p2475.snd)
 fun
 _ ↦
 Option.bind
 (nil?
 p2468.snd)
 fun
 _ ↦
 some
 (Out.ret
 (vbool
 true),
 [])
 else
 bif JX.is j2442.fst JX.ret then
 Option.bind (uncons? j2442.snd.fst) fun p2479 ↦
 Option.bind (AV.bool? p2479.fst) fun b2480 ↦
 Option.bind (uncons? p2479.snd) fun p2481 ↦
 Option.bind
 (AV.int? IntKind.i64 p2481.fst)
 fun _ ↦
 Option.bind (nil? p2481.snd) fun _ ↦
 Option.bind (uncons? j2442.snd.snd)
 fun p2484 ↦
 Option.bind
 (obIs
 (Ob.mk OK.box 36 2 0
 [[vbool b2408,
 AV.list 0 2 es2410]])
 p2484.fst)
 fun _ ↦
 Option.bind (chk p2484.fst.ver 0)
 fun _ ↦
 Option.bind (uncons? p2484.fst.es)
 fun p2487 ↦
 Option.bind (nil? p2487.snd)
 fun _ ↦
 Option.bind (uncons? p2487.fst)
 fun p2489 ↦
 Option.bind
 (AV.bool? p2489.fst)
 fun _ ↦
 Option.bind
 (uncons? p2489.snd)
 fun p2491 ↦
 Option.bind
 (AV.list? 2 p2491.fst)
 fun _ ↦
 Option.bind
 (nil? p2491.snd)
 fun _ ↦
 Option.bind
 (uncons? p2484.snd)
 fun p2494 ↦
 Option.bind
 (obIs
 (Ob.mk
 OK.box 36 2 0
 [[vbool
 b2418,
 AV.list 0
 2 es2420]])
 p2494.fst)
 fun _ ↦
 Option.bind
 (chk
 p2494.fst.ver 0)
 fun _ ↦
 Option.bind
 (uncons?
 p2494.fst.es)
 fun p2497 ↦
 Option.bind
 (nil?
 p2497.snd)
 fun _ ↦
 Option.bind
 (uncons?
 p2497.fst)
 fun p2499 ↦
 Option.bind
 (AV.bool?
 p2499.fst)
 fun _ ↦
 Option.bind
 (uncons?
 p2499.snd)
 fun p2501 ↦
 Option.bind
 (AV.list?
 2 p2501.fst)
 fun _ ↦
 Option.bind
 (nil?
 p2501.snd)
 fun _ ↦
 Option.bind
 (uncons?
 p2494.snd)
 fun p2504 ↦
 Option.bind
 (obIs
 (Ob.mk
 OK.box
 36 2 0
 [[vbool
 b2431,
 AV.list
 0
 2
 es2433]])
 p2504.fst)
 fun
 _ ↦
 Option.bind
 (chk
 p2504.fst.ver
 0)
 fun
 _ ↦
 Option.bind
 (uncons?
 p2504.fst.es)
 fun
 p2507 ↦
 Option.bind
 (nil?
 p2507.snd)
 fun
 _ ↦
 Option.bind
 (uncons?
 p2507.fst)
 fun
 p2509 ↦
 Option.bind
 (AV.bool?
 p2509.fst)
 fun
 _ ↦
 Option.bind
 (uncons?
 p2509.snd)
 fun
 p2511 ↦
 Option.bind
 (AV.list?
 2
 p2511.fst)
 fun
 _ ↦
 Option.bind
 (nil?
 p2511.snd)
 fun
 _ ↦
 Option.bind
 (nil?
 p2504.snd)
 fun
 _ ↦
 some
 (Out.ret
 (vbool
 b2480),
 [])
 else none
 else some (Out.ret (vbool false), []) := by
  intros
  exact (E_ov f36_true [188] _ _ _).trans (by kernel_rfl)


theorem f11_l0 : ∀ (b2515 : Bool) (x2516 : Int) (b2517 b2518 : Bool) (l2519 : List (List AV)) (b2520 : Bool) (l2521 : List (List AV)) (b2522 : Bool)
 (l2523 : List (List AV)),
 E cx (Key.loop 11 [true, true, true, true, true, true, false, true, false])
 [vbool b2515, vi x2516, vbool b2517, AV.ptr 0 0 0 0, AV.ptr 1 0 0 0]
 [Ob.mk OK.box 36 2 0 [[vbool b2518, AV.list 0 2 l2519]],
 Ob.mk OK.box 36 2 0 [[vbool b2520, AV.list 0 2 l2521]],
 Ob.mk OK.box 36 2 0 [[vbool b2522, AV.list 0 2 l2523]]] =
 bif decide (x2516 < ((List.length l2519) : Int)) then
 if 0 ≤ x2516 then
 Option.bind l2519[Int.toNat x2516]? fun cs2524 ↦
 Option.bind (uncons? cs2524) fun p2525 ↦
 Option.bind (AV.int? IntKind.u64 p2525.fst) fun _ ↦
 Option.bind (uncons? p2525.snd) fun p2527 ↦
 Option.bind (AV.int? IntKind.u64 p2527.fst) fun n2528 ↦
 Option.bind (nil? p2527.snd) fun _ ↦
 Option.bind
 (E cx (Key.fn 42)
 [AV.agg [vbool b2520, AV.list 0 2 l2521], vu n2528] [])
 fun r2530 ↦
 Option.bind (ret1 r2530) fun v2531 ↦
 Option.bind (AV.tup? v2531) fun vs2532 ↦
 Option.bind (uncons? vs2532) fun p2533 ↦
 Option.bind (AV.list? 1 p2533.fst) fun _ ↦
 Option.bind (uncons? p2533.snd) fun p2535 ↦
 Option.bind (AV.bool? p2535.fst) fun b2536 ↦
 bif b2536 then
 Option.bind (nil? p2535.snd) fun _ ↦
 if 0 ≤ IntKind.wrap IntKind.i64 (Int.mul 2 x2516) then
 Option.bind l2521[Int.toNat (IntKind.wrap IntKind.i64 (Int.mul 2 x2516))]? fun cs2538 ↦
 Option.bind (uncons? cs2538) fun p2539 ↦
 Option.bind (AV.int? IntKind.u64 p2539.fst) fun n2540 ↦
 Option.bind (uncons? p2539.snd) fun p2541 ↦
 Option.bind (AV.int? IntKind.u64 p2541.fst) fun n2542 ↦
 Option.bind (nil? p2541.snd) fun _ ↦
 if 0 ≤ x2516 then
 Option.bind l2519[Int.toNat x2516]? fun cs2544 ↦
 Option.bind (uncons? cs2544) fun p2545 ↦
 Option.bind (AV.int? IntKind.u64 p2545.fst) fun n2546 ↦
 Option.bind (uncons? p2545.snd) fun p2547 ↦
 Option.bind (AV.int? IntKind.u64 p2547.fst) fun n2548 ↦
 Option.bind (nil? p2547.snd) fun _ ↦
 bif !(decide (n2540 = n2546) && (decide (n2542 = n2548) && true)) then
 some
 (Out.jump JX.ret
 [vbool false, vi x2516],
 [Ob.mk OK.box 36 2 0
 [[vbool b2518, AV.list 0 2 l2519]],
 Ob.mk OK.box 36 2 0
 [[vbool b2520, AV.list 0 2 l2521]],
 Ob.mk OK.box 36 2 0
 [[vbool b2522, AV.list 0 2 l2523]]])
 else
 if
 0 ≤
 IntKind.wrap IntKind.i64
 (Int.add (IntKind.wrap IntKind.i64 (Int.mul 2 x2516)) 1) then
 Option.bind
 l2521[Int.toNat
 (IntKind.wrap IntKind.i64
 (Int.add (IntKind.wrap IntKind.i64 (Int.mul 2 x2516)) 1))]?
 fun cs2550 ↦
 Option.bind (uncons? cs2550) fun p2551 ↦
 Option.bind (AV.int? IntKind.u64 p2551.fst) fun n2552 ↦
 Option.bind (uncons? p2551.snd) fun p2553 ↦
 Option.bind (AV.int? IntKind.u64 p2553.fst) fun n2554 ↦
 Option.bind (nil? p2553.snd) fun _ ↦
 if 0 ≤ x2516 then
 Option.bind l2519[Int.toNat x2516]? fun cs2556 ↦
 Option.bind (uncons? cs2556) fun p2557 ↦
 Option.bind (AV.int? IntKind.u64 p2557.fst) fun n2558 ↦
 Option.bind (uncons? p2557.snd) fun p2559 ↦
 Option.bind (AV.int? IntKind.u64 p2559.fst)
 fun n2560 ↦
 Option.bind (nil? p2559.snd) fun _ ↦
 bif
 !(decide (n2552 = n2558) &&
 (decide (n2554 = n2560) && true)) then
 some
 (Out.jump JX.ret
 [vbool false, vi x2516],
 [Ob.mk OK.box 36 2 0
 [[vbool b2518,
 AV.list 0 2 l2519]],
 Ob.mk OK.box 36 2 0
 [[vbool b2520,
 AV.list 0 2 l2521]],
 Ob.mk OK.box 36 2 0
 [[vbool b2522,
 AV.list 0 2 l2523]]])
 else
 some
 (Out.jump JX.ret
 [vbool false, vi x2516],
 [Ob.mk OK.box 36 2 0
 [[vbool b2518,
 AV.list 0 2 l2519]],
 Ob.mk OK.box 36 2 0
 [[vbool b2520,
 AV.list 0 2 l2521]],
 Ob.mk OK.box 36 2 0
 [[vbool b2522,
 AV.list 0 2 l2523]]])
 else none
 else none
 else none
 else none
 else
 Option.bind (nil? p2535.snd) fun _ ↦
 if 0 ≤ IntKind.wrap IntKind.i64 (Int.mul 2 x2516) then
 Option.bind l2521[Int.toNat (IntKind.wrap IntKind.i64 (Int.mul 2 x2516))]? fun cs2563 ↦
 Option.bind (uncons? cs2563) fun p2564 ↦
 Option.bind (AV.int? IntKind.u64 p2564.fst) fun n2565 ↦
 Option.bind (uncons? p2564.snd) fun p2566 ↦
 Option.bind (AV.int? IntKind.u64 p2566.fst) fun n2567 ↦
 Option.bind (nil? p2566.snd) fun _ ↦
 if 0 ≤ x2516 then
 Option.bind l2519[Int.toNat x2516]? fun cs2569 ↦
 Option.bind (uncons? cs2569) fun p2570 ↦
 Option.bind (AV.int? IntKind.u64 p2570.fst) fun n2571 ↦
 Option.bind (uncons? p2570.snd) fun p2572 ↦
 Option.bind (AV.int? IntKind.u64 p2572.fst) fun n2573 ↦
 Option.bind (nil? p2572.snd) fun _ ↦
 bif !(decide (n2565 = n2571) && (decide (n2567 = n2573) && true)) then
 some
 (Out.jump JX.ret
 [vbool false, vi x2516],
 [Ob.mk OK.box 36 2 0
 [[vbool b2518, AV.list 0 2 l2519]],
 Ob.mk OK.box 36 2 0
 [[vbool b2520, AV.list 0 2 l2521]],
 Ob.mk OK.box 36 2 0
 [[vbool b2522, AV.list 0 2 l2523]]])
 else
 if
 0 ≤
 IntKind.wrap IntKind.i64
 (Int.add (IntKind.wrap IntKind.i64 (Int.mul 2 x2516)) 1) then
 Option.bind
 l2521[Int.toNat
 (IntKind.wrap IntKind.i64
 (Int.add (IntKind.wrap IntKind.i64 (Int.mul 2 x2516)) 1))]?
 fun cs2575 ↦
 Option.bind (uncons? cs2575) fun p2576 ↦
 Option.bind (AV.int? IntKind.u64 p2576.fst) fun n2577 ↦
 Option.bind (uncons? p2576.snd) fun p2578 ↦
 Option.bind (AV.int? IntKind.u64 p2578.fst) fun n2579 ↦
 Option.bind (nil? p2578.snd) fun _ ↦
 if 0 ≤ x2516 then
 Option.bind l2519[Int.toNat x2516]? fun cs2581 ↦
 Option.bind (uncons? cs2581) fun p2582 ↦
 Option.bind (AV.int? IntKind.u64 p2582.fst) fun n2583 ↦
 Option.bind (uncons? p2582.snd) fun p2584 ↦
 Option.bind (AV.int? IntKind.u64 p2584.fst)
 fun n2585 ↦
 Option.bind (nil? p2584.snd) fun _ ↦
 bif
 !(decide (n2577 = n2583) &&
 (decide (n2579 = n2585) && true)) then
 some
 (Out.jump JX.ret
 [vbool false, vi x2516],
 [Ob.mk OK.box 36 2 0
 [[vbool b2518,
 AV.list 0 2 l2519]],
 Ob.mk OK.box 36 2 0
 [[vbool b2520,
 AV.list 0 2 l2521]],
 Ob.mk OK.box 36 2 0
 [[vbool b2522,
 AV.list 0 2 l2523]]])
 else
 E cx
 (Key.loop 11
 [true, true, true, true, true, true, false, true, false])
 [vbool b2515,
 vi
 (IntKind.wrap IntKind.i64 (Int.add x2516 1)),
 vbool b2517, AV.ptr 0 0 0 0,
 AV.ptr 1 0 0 0]
 [Ob.mk OK.box 36 2 0
 [[vbool b2518,
 AV.list 0 2 l2519]],
 Ob.mk OK.box 36 2 0
 [[vbool b2520,
 AV.list 0 2 l2521]],
 Ob.mk OK.box 36 2 0
 [[vbool b2522,
 AV.list 0 2 l2523]]]
 else none
 else none
 else none
 else none
 else none
 else
 some
 (Out.jump (JX.exit 0) [vbool b2515, vi x2516],
 [Ob.mk OK.box 36 2 0 [[vbool b2518, AV.list 0 2 l2519]],
 Ob.mk OK.box 36 2 0 [[vbool b2520, AV.list 0 2 l2521]],
 Ob.mk OK.box 36 2 0 [[vbool b2522, AV.list 0 2 l2523]]]) := by
  intros
  exact (E_ov f36_true [188] _ _ _).trans (by kernel_rfl)

end Go.Proofs.Av
