/- A law's tree. -/
import Derived.Test.YtogopainnioiiaaDoorAwX
set_option maxRecDepth 100000
namespace Go.Proofs.Av
open Go
theorem f9 : ∀ (n2385 n2386 n2387 n2388 n2389 n2390 slot2391 x2392 y2393 : Int),
 E cx (Key.fn 9) [AV.agg [vi n2385, vi n2386, vi n2387, vi n2388, vi n2389, vi n2390], vi slot2391, vi x2392, vi y2393] [] =
 Option.bind (E cx (Key.fn 28) [] []) fun r2394 ↦
 Option.bind (ret1 r2394) fun v2395 ↦
 Option.bind (AV.bool? v2395) fun b2396 ↦
 bif b2396 then
 Option.bind (E cx (Key.fn 13) [AV.agg [vi n2385, vi n2386, vi n2387, vi n2388, vi n2389, vi n2390], vu 0] []) fun r2397 ↦
 Option.bind (ret1 r2397) fun v2398 ↦
 Option.bind (AV.cells? v2398) fun cs2399 ↦
 Option.bind (uncons? cs2399) fun p2400 ↦
 Option.bind (AV.int? IntKind.i64 p2400.fst) fun n2401 ↦
 Option.bind (uncons? p2400.snd) fun p2402 ↦
 Option.bind (AV.int? IntKind.i64 p2402.fst) fun n2403 ↦
 Option.bind (uncons? p2402.snd) fun p2404 ↦
 Option.bind (AV.int? IntKind.i64 p2404.fst) fun n2405 ↦
 Option.bind (uncons? p2404.snd) fun p2406 ↦
 Option.bind (AV.int? IntKind.i64 p2406.fst) fun n2407 ↦
 Option.bind (uncons? p2406.snd) fun p2408 ↦
 Option.bind (AV.int? IntKind.i64 p2408.fst) fun n2409 ↦
 Option.bind (uncons? p2408.snd) fun p2410 ↦
 Option.bind (AV.int? IntKind.i64 p2410.fst) fun n2411 ↦
 Option.bind (uncons? p2410.snd) fun p2412 ↦
 Option.bind (AV.int? IntKind.i64 p2412.fst) fun n2413 ↦
 Option.bind (uncons? p2412.snd) fun p2414 ↦
 Option.bind (AV.int? IntKind.i64 p2414.fst) fun n2415 ↦
 Option.bind (uncons? p2414.snd) fun p2416 ↦
 Option.bind (AV.int? IntKind.i64 p2416.fst) fun n2417 ↦
 Option.bind (uncons? p2416.snd) fun p2418 ↦
 Option.bind (AV.int? IntKind.u64 p2418.fst) fun n2419 ↦
 Option.bind (nil? p2418.snd) fun x2420 ↦
 if n2409 = 0 then none
 else
 Option.bind
 (E cx (Key.fn 29)
 [vi slot2391,
 vi
 (IntKind.wrap IntKind.i64
 (Int.add (IntKind.wrap IntKind.i64 (Int.tdiv 1099511627776 n2409)) 1))]
 [])
 fun r2421 ↦
 Option.bind (ret1 r2421) fun v2422 ↦
 Option.bind (AV.int? IntKind.i64 v2422) fun n2423 ↦
 Option.bind
 (E cx (Key.fn 30)
 [AV.agg
 [vi n2401, vi n2403, vi n2405, vi n2407, vi n2409, vi n2411, vi n2413, vi n2415,
 vi n2417, vu n2419],
 vi n2423]
 [])
 fun r2424 ↦
 Option.bind (ret1 r2424) fun v2425 ↦
 Option.bind (AV.tup? v2425) fun vs2426 ↦
 Option.bind (uncons? vs2426) fun p2427 ↦
 Option.bind (AV.int? IntKind.i64 p2427.fst) fun n2428 ↦
 Option.bind (uncons? p2427.snd) fun p2429 ↦
 Option.bind (AV.int? IntKind.i64 p2429.fst) fun n2430 ↦
 Option.bind (nil? p2429.snd) fun x2431 ↦
 Option.bind
 (E cx (Key.fn 32)
 [AV.agg
 [vi n2401, vi n2403, vi n2405, vi n2407, vi n2409, vi n2411,
 vi n2413, vi n2415, vi n2417, vu n2419],
 vi n2423]
 [])
 fun r2432 ↦
 Option.bind (ret1 r2432) fun v2433 ↦
 Option.bind (AV.tup? v2433) fun vs2434 ↦
 Option.bind (uncons? vs2434) fun p2435 ↦
 Option.bind (AV.int? IntKind.i64 p2435.fst) fun n2436 ↦
 Option.bind (uncons? p2435.snd) fun p2437 ↦
 Option.bind (AV.int? IntKind.i64 p2437.fst) fun n2438 ↦
 Option.bind (nil? p2437.snd) fun x2439 ↦
 Option.bind
 (E cx (Key.fn 29) [vi x2392, vi 400] [])
 fun r2440 ↦
 Option.bind (ret1 r2440) fun v2441 ↦
 Option.bind (AV.int? IntKind.i64 v2441) fun n2442 ↦
 Option.bind
 (E cx (Key.fn 29) [vi y2393, vi 400]
 [])
 fun r2443 ↦
 Option.bind (ret1 r2443) fun v2444 ↦
 Option.bind (AV.int? IntKind.i64 v2444)
 fun n2445 ↦
 Option.bind
 (E cx (Key.fn 34)
 [AV.agg
 [vi n2401, vi n2403, vi n2405, vi n2407,
 vi n2409, vi n2411, vi n2413,
 vi n2415, vi n2417, vu n2419],
 vi
 (if
 1099511627776 <
 if
 0 >
 IntKind.wrap
 IntKind.i64
 (Int.sub
 (IntKind.wrap
 IntKind.i64
 (Int.add n2428 n2442))
 200) then
 0
 else
 IntKind.wrap IntKind.i64
 (Int.sub
 (IntKind.wrap
 IntKind.i64
 (Int.add n2428 n2442))
 200) then
 1099511627776
 else
 if
 0 >
 IntKind.wrap IntKind.i64
 (Int.sub
 (IntKind.wrap
 IntKind.i64
 (Int.add n2428 n2442))
 200) then
 0
 else
 IntKind.wrap IntKind.i64
 (Int.sub
 (IntKind.wrap IntKind.i64
 (Int.add n2428 n2442))
 200)),
 vi n2423]
 [])
 fun r2446 ↦
 Option.bind (ret1 r2446) fun v2447 ↦
 Option.bind (AV.tup? v2447) fun vs2448 ↦
 Option.bind (uncons? vs2448) fun p2449 ↦
 Option.bind
 (AV.int? IntKind.i64 p2449.fst)
 fun n2450 ↦
 Option.bind (uncons? p2449.snd)
 fun p2451 ↦
 Option.bind
 (AV.int? IntKind.i64 p2451.fst)
 fun n2452 ↦
 Option.bind (nil? p2451.snd)
 fun x2453 ↦
 Option.bind
 (E cx (Key.fn 34)
 [AV.agg
 [vi n2401, vi n2403,
 vi n2405, vi n2407,
 vi n2409, vi n2411,
 vi n2413, vi n2415,
 vi n2417, vu n2419],
 vi
 (if
 1099511627776 <
 IntKind.wrap
 IntKind.i64
 (Int.add
 (if
 1099511627776 <
 if
 0 >
 IntKind.wrap
 IntKind.i64
 (Int.sub
 (IntKind.wrap
 IntKind.i64
 (Int.add
 n2428
 n2442))
 200) then
 0
 else
 IntKind.wrap
 IntKind.i64
 (Int.sub
 (IntKind.wrap
 IntKind.i64
 (Int.add
 n2428
 n2442))
 200) then
 1099511627776
 else
 if
 0 >
 IntKind.wrap
 IntKind.i64
 (Int.sub
 (IntKind.wrap
 IntKind.i64
 (Int.add
 n2428
 n2442))
 200) then
 0
 else
 IntKind.wrap
 IntKind.i64
 (Int.sub
 (IntKind.wrap
 IntKind.i64
 (Int.add
 n2428
 n2442))
 200))
 n2445) then
 1099511627776
 else
 IntKind.wrap
 IntKind.i64
 (Int.add
 (if
 1099511627776 <
 if
 0 >
 IntKind.wrap
 IntKind.i64
 (Int.sub
 (IntKind.wrap
 IntKind.i64
 (Int.add
 n2428
 n2442))
 200) then
 0
 else
 IntKind.wrap
 IntKind.i64
 (Int.sub
 (IntKind.wrap
 IntKind.i64
 (Int.add
 n2428
 n2442))
 200) then
 1099511627776
 else
 if
 0 >
 IntKind.wrap
 IntKind.i64
 (Int.sub
 (IntKind.wrap
 IntKind.i64
 (Int.add
 n2428
 n2442))
 200) then
 0
 else
 IntKind.wrap
 IntKind.i64
 (Int.sub
 (IntKind.wrap
 IntKind.i64
 (Int.add
 n2428
 n2442))
 200))
 n2445)),
 vi n2423]
 [])
 fun r2454 ↦
 Option.bind (ret1 r2454)
 fun v2455 ↦
 Option.bind (AV.tup? v2455)
 fun vs2456 ↦
 Option.bind
 (uncons? vs2456)
 fun p2457 ↦
 Option.bind
 (AV.int?
 IntKind.i64
 p2457.fst)
 fun n2458 ↦
 Option.bind
 (uncons? p2457.snd)
 fun p2459 ↦
 Option.bind
 (AV.int?
 IntKind.i64
 p2459.fst)
 fun n2460 ↦
 Option.bind
 (nil? p2459.snd)
 fun x2461 ↦
 Option.bind
 (Go.Proofs.Av.E
 cx
 (Key.fn 34)
 [AV.agg
 [vi
 n2401,
 vi
 n2403,
 vi
 n2405,
 vi
 n2407,
 vi
 n2409,
 vi
 n2411,
 vi
 n2413,
 vi
 n2415,
 vi
 n2417,
 vu
 n2419],
 vi n2428,
 vi n2423]
 [])
 fun r2462 ↦
 Option.bind
 (ret1 r2462)
 fun v2463 ↦
 Option.bind
 (AV.tup?
 v2463)
 fun
 vs2464 ↦
 Option.bind
 (uncons?
 vs2464)
 fun
 p2465 ↦
 Option.bind
 (AV.int?
 IntKind.i64
 p2465.fst)
 fun
 n2466 ↦
 Option.bind
 (uncons?
 p2465.snd)
 fun
 p2467 ↦
 Option.bind
 (AV.int?
 IntKind.i64
 p2467.fst)
 fun
 n2468 ↦
 Option.bind
 (nil?
 p2467.snd)
 fun
 x2469 ↦
 Option.bind
 (Go.Proofs.Av.E
 cx
 (Key.fn
 34)
 [AV.agg
 [vi
 n2401,
 vi
 n2403,
 vi
 n2405,
 vi
 n2407,
 vi
 n2409,
 vi
 n2411,
 vi
 n2413,
 vi
 n2415,
 vi
 n2417,
 vu
 n2419],
 vi
 n2436,
 vi
 n2423]
 [])
 fun
 r2470 ↦
 Option.bind
 (ret1
 r2470)
 fun
 v2471 ↦
 Option.bind
 (AV.tup?
 v2471)
 fun
 vs2472 ↦
 Option.bind
 (uncons?
 vs2472)
 fun
 p2473 ↦
 Option.bind
 (AV.int?
 IntKind.i64
 p2473.fst)
 fun
 n2474 ↦
 Option.bind
 (uncons?
 p2473.snd)
 fun
 p2475 ↦
 Option.bind
 (AV.int?
 IntKind.i64
 p2475.fst)
 fun
 n2476 ↦
 Option.bind
 (nil?
 p2475.snd)
 fun
 x2477 ↦
 bif
 n2430 !=
 0 then
 some
 (Out.ret
 (vbool
 false),
 [])
 else
 bif
 n2438 !=
 0 then
 some
 (Out.ret
 (vbool
 false),
 [])
 else
 bif
 n2452 !=
 0 then
 some
 (Out.ret
 (vbool
 false),
 [])
 else
 bif
 n2460 !=
 0 then
 some
 (Out.ret
 (vbool
 false),
 [])
 else
 bif
 n2468 !=
 0 then
 some
 (Out.ret
 (vbool
 false),
 [])
 else
 bif
 n2476 !=
 0 then
 some
 (Out.ret
 (vbool
 false),
 [])
 else
 bif
 decide
 (n2428 <
 0) then
 some
 (Out.ret
 (vbool
 false),
 [])
 else
 bif
 decide
 (n2428 >
 n2436) then
 some
 (Out.ret
 (vbool
 false),
 [])
 else
 bif
 decide
 (n2436 >
 1099511627776) then
 some
 (Out.ret
 (vbool
 false),
 [])
 else
 bif
 n2466 !=
 1 then
 some
 (Out.ret
 (vbool
 false),
 [])
 else
 bif
 n2474 !=
 1 then
 some
 (Out.ret
 (vbool
 false),
 [])
 else
 bif
 decide
 (n2450 ≤
 n2458) then
 bif
 decide
 (n2450 =
 1) then
 bif
 decide
 ((if
 1099511627776 <
 if
 0 >
 IntKind.wrap
 IntKind.i64
 (Int.sub
 (IntKind.wrap
 IntKind.i64
 (Int.add
 n2428
 n2442))
 200) then
 0
 else
 IntKind.wrap
 IntKind.i64
 (Int.sub
 (IntKind.wrap
 IntKind.i64
 (Int.add
 n2428
 n2442))
 200) then
 1099511627776
 else
 if
 0 >
 IntKind.wrap
 IntKind.i64
 (Int.sub
 (IntKind.wrap
 IntKind.i64
 (Int.add
 n2428
 n2442))
 200) then
 0
 else
 IntKind.wrap
 IntKind.i64
 (Int.sub
 (IntKind.wrap
 IntKind.i64
 (Int.add
 n2428
 n2442))
 200)) ≥
 n2428) then
 bif
 decide
 ((if
 1099511627776 <
 if
 0 >
 IntKind.wrap
 IntKind.i64
 (Int.sub
 (IntKind.wrap
 IntKind.i64
 (Int.add
 n2428
 n2442))
 200) then
 0
 else
 IntKind.wrap
 IntKind.i64
 (Int.sub
 (IntKind.wrap
 IntKind.i64
 (Int.add
 n2428
 n2442))
 200) then
 1099511627776
 else
 if
 0 >
 IntKind.wrap
 IntKind.i64
 (Int.sub
 (IntKind.wrap
 IntKind.i64
 (Int.add
 n2428
 n2442))
 200) then
 0
 else
 IntKind.wrap
 IntKind.i64
 (Int.sub
 (IntKind.wrap
 IntKind.i64
 (Int.add
 n2428
 n2442))
 200)) ≤
 n2436) then
 bif
 decide
 (n2450 =
 0) then
 bif
 decide
 ((if
 1099511627776 <
 if
 0 >
 IntKind.wrap
 IntKind.i64
 (Int.sub
 (IntKind.wrap
 IntKind.i64
 (Int.add
 n2428
 n2442))
 200) then
 0
 else
 IntKind.wrap
 IntKind.i64
 (Int.sub
 (IntKind.wrap
 IntKind.i64
 (Int.add
 n2428
 n2442))
 200) then
 1099511627776
 else
 if
 0 >
 IntKind.wrap
 IntKind.i64
 (Int.sub
 (IntKind.wrap
 IntKind.i64
 (Int.add
 n2428
 n2442))
 200) then
 0
 else
 IntKind.wrap
 IntKind.i64
 (Int.sub
 (IntKind.wrap
 IntKind.i64
 (Int.add
 n2428
 n2442))
 200)) <
 n2428) then
 bif
 decide
 (n2428 =
 0) then
 some
 (Out.ret
 (vbool
 true),
 [])
 else
 bif
 decide
 (IntKind.wrap
 IntKind.i64
 (Int.add
 n2428
 n2411) =
 IntKind.wrap
 IntKind.i64
 (Int.mul
 n2423
 n2409)) then
 some
 (Out.ret
 (vbool
 true),
 [])
 else
 some
 (Out.ret
 (vbool
 false),
 [])
 else
 some
 (Out.ret
 (vbool
 false),
 [])
 else
 bif
 decide
 ((if
 1099511627776 <
 if
 0 >
 IntKind.wrap
 IntKind.i64
 (Int.sub
 (IntKind.wrap
 IntKind.i64
 (Int.add
 n2428
 n2442))
 200) then
 0
 else
 IntKind.wrap
 IntKind.i64
 (Int.sub
 (IntKind.wrap
 IntKind.i64
 (Int.add
 n2428
 n2442))
 200) then
 1099511627776
 else
 if
 0 >
 IntKind.wrap
 IntKind.i64
 (Int.sub
 (IntKind.wrap
 IntKind.i64
 (Int.add
 n2428
 n2442))
 200) then
 0
 else
 IntKind.wrap
 IntKind.i64
 (Int.sub
 (IntKind.wrap
 IntKind.i64
 (Int.add
 n2428
 n2442))
 200)) <
 n2428) then
 some
 (Out.ret
 (vbool
 false),
 [])
 else
 bif
 decide
 (n2428 =
 0) then
 some
 (Out.ret
 (vbool
 true),
 [])
 else
 bif
 decide
 (IntKind.wrap
 IntKind.i64
 (Int.add
 n2428
 n2411) =
 IntKind.wrap
 IntKind.i64
 (Int.mul
 n2423
 n2409)) then
 some
 (Out.ret
 (vbool
 true),
 [])
 else
 some
 (Out.ret
 (vbool
 false),
 [])
 else
 some
 (Out.ret
 (vbool
 false),
 [])
 else
 some
 (Out.ret
 (vbool
 false),
 [])
 else
 bif
 decide
 ((if
 1099511627776 <
 if
 0 >
 IntKind.wrap
 IntKind.i64
 (Int.sub
 (IntKind.wrap
 IntKind.i64
 (Int.add
 n2428
 n2442))
 200) then
 0
 else
 IntKind.wrap
 IntKind.i64
 (Int.sub
 (IntKind.wrap
 IntKind.i64
 (Int.add
 n2428
 n2442))
 200) then
 1099511627776
 else
 if
 0 >
 IntKind.wrap
 IntKind.i64
 (Int.sub
 (IntKind.wrap
 IntKind.i64
 (Int.add
 n2428
 n2442))
 200) then
 0
 else
 IntKind.wrap
 IntKind.i64
 (Int.sub
 (IntKind.wrap
 IntKind.i64
 (Int.add
 n2428
 n2442))
 200)) ≥
 n2428) then
 bif
 decide
 ((if
 1099511627776 <
 if
 0 >
 IntKind.wrap
 IntKind.i64
 (Int.sub
 (IntKind.wrap
 IntKind.i64
 (Int.add
 n2428
 n2442))
 200) then
 0
 else
 IntKind.wrap
 IntKind.i64
 (Int.sub
 (IntKind.wrap
 IntKind.i64
 (Int.add
 n2428
 n2442))
 200) then
 1099511627776
 else
 if
 0 >
 IntKind.wrap
 IntKind.i64
 (Int.sub
 (IntKind.wrap
 IntKind.i64
 (Int.add
 n2428
 n2442))
 200) then
 0
 else
 IntKind.wrap
 IntKind.i64
 (Int.sub
 (IntKind.wrap
 IntKind.i64
 (Int.add
 n2428
 n2442))
 200)) ≤
 n2436) then
 some
 (Out.ret
 (vbool
 false),
 [])
 else
 bif
 decide
 (n2450 =
 0) then
 bif
 decide
 ((if
 1099511627776 <
 if
 0 >
 IntKind.wrap
 IntKind.i64
 (Int.sub
 (IntKind.wrap
 IntKind.i64
 (Int.add
 n2428
 n2442))
 200) then
 0
 else
 IntKind.wrap
 IntKind.i64
 (Int.sub
 (IntKind.wrap
 IntKind.i64
 (Int.add
 n2428
 n2442))
 200) then
 1099511627776
 else
 if
 0 >
 IntKind.wrap
 IntKind.i64
 (Int.sub
 (IntKind.wrap
 IntKind.i64
 (Int.add
 n2428
 n2442))
 200) then
 0
 else
 IntKind.wrap
 IntKind.i64
 (Int.sub
 (IntKind.wrap
 IntKind.i64
 (Int.add
 n2428
 n2442))
 200)) <
 n2428) then
 bif
 decide
 (n2428 =
 0) then
 some
 (Out.ret
 (vbool
 true),
 [])
 else
 bif
 decide
 (IntKind.wrap
 IntKind.i64
 (Int.add
 n2428
 n2411) =
 IntKind.wrap
 IntKind.i64
 (Int.mul
 n2423
 n2409)) then
 some
 (Out.ret
 (vbool
 true),
 [])
 else
 some
 (Out.ret
 (vbool
 false),
 [])
 else
 some
 (Out.ret
 (vbool
 false),
 [])
 else
 bif
 decide
 ((if
 1099511627776 <
 if
 0 >
 IntKind.wrap
 IntKind.i64
 (Int.sub
 (IntKind.wrap
 IntKind.i64
 (Int.add
 n2428
 n2442))
 200) then
 0
 else
 IntKind.wrap
 IntKind.i64
 (Int.sub
 (IntKind.wrap
 IntKind.i64
 (Int.add
 n2428
 n2442))
 200) then
 1099511627776
 else
 if
 0 >
 IntKind.wrap
 IntKind.i64
 (Int.sub
 (IntKind.wrap
 IntKind.i64
 (Int.add
 n2428
 n2442))
 200) then
 0
 else
 IntKind.wrap
 IntKind.i64
 (Int.sub
 (IntKind.wrap
 IntKind.i64
 (Int.add
 n2428
 n2442))
 200)) <
 n2428) then
 some
 (Out.ret
 (vbool
 false),
 [])
 else
 bif
 decide
 (n2428 =
 0) then
 some
 (Out.ret
 (vbool
 true),
 [])
 else
 bif
 decide
 (IntKind.wrap
 IntKind.i64
 (Int.add
 n2428
 n2411) =
 IntKind.wrap
 IntKind.i64
 (Int.mul
 n2423
 n2409)) then
 some
 (Out.ret
 (vbool
 true),
 [])
 else
 some
 (Out.ret
 (vbool
 false),
 [])
 else
 bif
 decide
 (n2450 =
 0) then
 bif
 decide
 ((if
 1099511627776 <
 if
 0 >
 IntKind.wrap
 IntKind.i64
 (Int.sub
 (IntKind.wrap
 IntKind.i64
 (Int.add
 n2428
 n2442))
 200) then
 0
 else
 IntKind.wrap
 IntKind.i64
 (Int.sub
 (IntKind.wrap
 IntKind.i64
 (Int.add
 n2428
 n2442))
 200) then
 1099511627776
 else
 if
 0 >
 IntKind.wrap
 IntKind.i64
 (Int.sub
 (IntKind.wrap
 IntKind.i64
 (Int.add
 n2428
 n2442))
 200) then
 0
 else
 IntKind.wrap
 IntKind.i64
 (Int.sub
 (IntKind.wrap
 IntKind.i64
 (Int.add
 n2428
 n2442))
 200)) <
 n2428) then
 bif
 decide
 (n2428 =
 0) then
 some
 (Out.ret
 (vbool
 true),
 [])
 else
 bif
 decide
 (IntKind.wrap
 IntKind.i64
 (Int.add
 n2428
 n2411) =
 IntKind.wrap
 IntKind.i64
 (Int.mul
 n2423
 n2409)) then
 some
 (Out.ret
 (vbool
 true),
 [])
 else
 some
 (Out.ret
 (vbool
 false),
 [])
 else
 some
 (Out.ret
 (vbool
 false),
 [])
 else
 bif
 decide
 ((if
 1099511627776 <
 if
 0 >
 IntKind.wrap
 IntKind.i64
 (Int.sub
 (IntKind.wrap
 IntKind.i64
 (Int.add
 n2428
 n2442))
 200) then
 0
 else
 IntKind.wrap
 IntKind.i64
 (Int.sub
 (IntKind.wrap
 IntKind.i64
 (Int.add
 n2428
 n2442))
 200) then
 1099511627776
 else
 if
 0 >
 IntKind.wrap
 IntKind.i64
 (Int.sub
 (IntKind.wrap
 IntKind.i64
 (Int.add
 n2428
 n2442))
 200) then
 0
 else
 IntKind.wrap
 IntKind.i64
 (Int.sub
 (IntKind.wrap
 IntKind.i64
 (Int.add
 n2428
 n2442))
 200)) <
 n2428) then
 some
 (Out.ret
 (vbool
 false),
 [])
 else
 bif
 decide
 (n2428 =
 0) then
 some
 (Out.ret
 (vbool
 true),
 [])
 else
 bif
 decide
 (IntKind.wrap
 IntKind.i64
 (Int.add
 n2428
 n2411) =
 IntKind.wrap
 IntKind.i64
 (Int.mul
 n2423
 n2409)) then
 some
 (Out.ret
 (vbool
 true),
 [])
 else
 some
 (Out.ret
 (vbool
 false),
 [])
 else
 some
 (Out.ret
 (vbool
 false),
 [])
 else
 Option.bind (E cx (Key.fn 13) [AV.agg [vi n2385, vi n2386, vi n2387, vi n2388, vi n2389, vi n2390], vu 0] []) fun r2478 ↦
 Option.bind (ret1 r2478) fun v2479 ↦
 Option.bind (AV.cells? v2479) fun cs2480 ↦
 Option.bind (uncons? cs2480) fun p2481 ↦
 Option.bind (AV.int? IntKind.i64 p2481.fst) fun n2482 ↦
 Option.bind (uncons? p2481.snd) fun p2483 ↦
 Option.bind (AV.int? IntKind.i64 p2483.fst) fun n2484 ↦
 Option.bind (uncons? p2483.snd) fun p2485 ↦
 Option.bind (AV.int? IntKind.i64 p2485.fst) fun n2486 ↦
 Option.bind (uncons? p2485.snd) fun p2487 ↦
 Option.bind (AV.int? IntKind.i64 p2487.fst) fun n2488 ↦
 Option.bind (uncons? p2487.snd) fun p2489 ↦
 Option.bind (AV.int? IntKind.i64 p2489.fst) fun n2490 ↦
 Option.bind (uncons? p2489.snd) fun p2491 ↦
 Option.bind (AV.int? IntKind.i64 p2491.fst) fun n2492 ↦
 Option.bind (uncons? p2491.snd) fun p2493 ↦
 Option.bind (AV.int? IntKind.i64 p2493.fst) fun n2494 ↦
 Option.bind (uncons? p2493.snd) fun p2495 ↦
 Option.bind (AV.int? IntKind.i64 p2495.fst) fun n2496 ↦
 Option.bind (uncons? p2495.snd) fun p2497 ↦
 Option.bind (AV.int? IntKind.i64 p2497.fst) fun n2498 ↦
 Option.bind (uncons? p2497.snd) fun p2499 ↦
 Option.bind (AV.int? IntKind.u64 p2499.fst) fun n2500 ↦
 Option.bind (nil? p2499.snd) fun x2501 ↦
 if n2490 = 0 then none
 else
 Option.bind
 (E cx (Key.fn 29)
 [vi slot2391,
 vi
 (IntKind.wrap IntKind.i64
 (Int.add (IntKind.wrap IntKind.i64 (Int.tdiv 1099511627776 n2490)) 1))]
 [])
 fun r2502 ↦
 Option.bind (ret1 r2502) fun v2503 ↦
 Option.bind (AV.int? IntKind.i64 v2503) fun n2504 ↦
 Option.bind
 (E cx (Key.fn 30)
 [AV.agg
 [vi n2482, vi n2484, vi n2486, vi n2488, vi n2490, vi n2492, vi n2494, vi n2496,
 vi n2498, vu n2500],
 vi n2504]
 [])
 fun r2505 ↦
 Option.bind (ret1 r2505) fun v2506 ↦
 Option.bind (AV.tup? v2506) fun vs2507 ↦
 Option.bind (uncons? vs2507) fun p2508 ↦
 Option.bind (AV.int? IntKind.i64 p2508.fst) fun n2509 ↦
 Option.bind (uncons? p2508.snd) fun p2510 ↦
 Option.bind (AV.int? IntKind.i64 p2510.fst) fun n2511 ↦
 Option.bind (nil? p2510.snd) fun x2512 ↦
 Option.bind
 (E cx (Key.fn 32)
 [AV.agg
 [vi n2482, vi n2484, vi n2486, vi n2488, vi n2490, vi n2492,
 vi n2494, vi n2496, vi n2498, vu n2500],
 vi n2504]
 [])
 fun r2513 ↦
 Option.bind (ret1 r2513) fun v2514 ↦
 Option.bind (AV.tup? v2514) fun vs2515 ↦
 Option.bind (uncons? vs2515) fun p2516 ↦
 Option.bind (AV.int? IntKind.i64 p2516.fst) fun n2517 ↦
 Option.bind (uncons? p2516.snd) fun p2518 ↦
 Option.bind (AV.int? IntKind.i64 p2518.fst) fun n2519 ↦
 Option.bind (nil? p2518.snd) fun x2520 ↦
 Option.bind
 (E cx (Key.fn 29) [vi x2392, vi 400] [])
 fun r2521 ↦
 Option.bind (ret1 r2521) fun v2522 ↦
 Option.bind (AV.int? IntKind.i64 v2522) fun n2523 ↦
 Option.bind
 (E cx (Key.fn 29) [vi y2393, vi 400]
 [])
 fun r2524 ↦
 Option.bind (ret1 r2524) fun v2525 ↦
 Option.bind (AV.int? IntKind.i64 v2525)
 fun n2526 ↦
 Option.bind
 (E cx (Key.fn 34)
 [AV.agg
 [vi n2482, vi n2484, vi n2486, vi n2488,
 vi n2490, vi n2492, vi n2494,
 vi n2496, vi n2498, vu n2500],
 vi
 (if
 1099511627776 <
 if
 0 >
 IntKind.wrap
 IntKind.i64
 (Int.sub
 (IntKind.wrap
 IntKind.i64
 (Int.add n2509 n2523))
 200) then
 0
 else
 IntKind.wrap IntKind.i64
 (Int.sub
 (IntKind.wrap
 IntKind.i64
 (Int.add n2509 n2523))
 200) then
 1099511627776
 else
 if
 0 >
 IntKind.wrap IntKind.i64
 (Int.sub
 (IntKind.wrap
 IntKind.i64
 (Int.add n2509 n2523))
 200) then
 0
 else
 IntKind.wrap IntKind.i64
 (Int.sub
 (IntKind.wrap IntKind.i64
 (Int.add n2509 n2523))
 200)),
 vi n2504]
 [])
 fun r2527 ↦
 Option.bind (ret1 r2527) fun v2528 ↦
 Option.bind (AV.tup? v2528) fun vs2529 ↦
 Option.bind (uncons? vs2529) fun p2530 ↦
 Option.bind
 (AV.int? IntKind.i64 p2530.fst)
 fun n2531 ↦
 Option.bind (uncons? p2530.snd)
 fun p2532 ↦
 Option.bind
 (AV.int? IntKind.i64 p2532.fst)
 fun n2533 ↦
 Option.bind (nil? p2532.snd)
 fun x2534 ↦
 Option.bind
 (E cx (Key.fn 34)
 [AV.agg
 [vi n2482, vi n2484,
 vi n2486, vi n2488,
 vi n2490, vi n2492,
 vi n2494, vi n2496,
 vi n2498, vu n2500],
 vi
 (if
 1099511627776 <
 IntKind.wrap
 IntKind.i64
 (Int.add
 (if
 1099511627776 <
 if
 0 >
 IntKind.wrap
 IntKind.i64
 (Int.sub
 (IntKind.wrap
 IntKind.i64
 (Int.add
 n2509
 n2523))
 200) then
 0
 else
 IntKind.wrap
 IntKind.i64
 (Int.sub
 (IntKind.wrap
 IntKind.i64
 (Int.add
 n2509
 n2523))
 200) then
 1099511627776
 else
 if
 0 >
 IntKind.wrap
 IntKind.i64
 (Int.sub
 (IntKind.wrap
 IntKind.i64
 (Int.add
 n2509
 n2523))
 200) then
 0
 else
 IntKind.wrap
 IntKind.i64
 (Int.sub
 (IntKind.wrap
 IntKind.i64
 (Int.add
 n2509
 n2523))
 200))
 n2526) then
 1099511627776
 else
 IntKind.wrap
 IntKind.i64
 (Int.add
 (if
 1099511627776 <
 if
 0 >
 IntKind.wrap
 IntKind.i64
 (Int.sub
 (IntKind.wrap
 IntKind.i64
 (Int.add
 n2509
 n2523))
 200) then
 0
 else
 IntKind.wrap
 IntKind.i64
 (Int.sub
 (IntKind.wrap
 IntKind.i64
 (Int.add
 n2509
 n2523))
 200) then
 1099511627776
 else
 if
 0 >
 IntKind.wrap
 IntKind.i64
 (Int.sub
 (IntKind.wrap
 IntKind.i64
 (Int.add
 n2509
 n2523))
 200) then
 0
 else
 IntKind.wrap
 IntKind.i64
 (Int.sub
 (IntKind.wrap
 IntKind.i64
 (Int.add
 n2509
 n2523))
 200))
 n2526)),
 vi n2504]
 [])
 fun r2535 ↦
 Option.bind (ret1 r2535)
 fun v2536 ↦
 Option.bind (AV.tup? v2536)
 fun vs2537 ↦
 Option.bind
 (uncons? vs2537)
 fun p2538 ↦
 Option.bind
 (AV.int?
 IntKind.i64
 p2538.fst)
 fun n2539 ↦
 Option.bind
 (uncons? p2538.snd)
 fun p2540 ↦
 Option.bind
 (AV.int?
 IntKind.i64
 p2540.fst)
 fun n2541 ↦
 Option.bind
 (nil? p2540.snd)
 fun x2542 ↦
 Option.bind
 (Go.Proofs.Av.E
 cx
 (Key.fn 34)
 [AV.agg
 [vi
 n2482,
 vi
 n2484,
 vi
 n2486,
 vi
 n2488,
 vi
 n2490,
 vi
 n2492,
 vi
 n2494,
 vi
 n2496,
 vi
 n2498,
 vu
 n2500],
 vi n2509,
 vi n2504]
 [])
 fun r2543 ↦
 Option.bind
 (ret1 r2543)
 fun v2544 ↦
 Option.bind
 (AV.tup?
 v2544)
 fun
 vs2545 ↦
 Option.bind
 (uncons?
 vs2545)
 fun
 p2546 ↦
 Option.bind
 (AV.int?
 IntKind.i64
 p2546.fst)
 fun
 n2547 ↦
 Option.bind
 (uncons?
 p2546.snd)
 fun
 p2548 ↦
 Option.bind
 (AV.int?
 IntKind.i64
 p2548.fst)
 fun
 n2549 ↦
 Option.bind
 (nil?
 p2548.snd)
 fun
 x2550 ↦
 Option.bind
 (Go.Proofs.Av.E
 cx
 (Key.fn
 34)
 [AV.agg
 [vi
 n2482,
 vi
 n2484,
 vi
 n2486,
 vi
 n2488,
 vi
 n2490,
 vi
 n2492,
 vi
 n2494,
 vi
 n2496,
 vi
 n2498,
 vu
 n2500],
 vi
 n2517,
 vi
 n2504]
 [])
 fun
 r2551 ↦
 Option.bind
 (ret1
 r2551)
 fun
 v2552 ↦
 Option.bind
 (AV.tup?
 v2552)
 fun
 vs2553 ↦
 Option.bind
 (uncons?
 vs2553)
 fun
 p2554 ↦
 Option.bind
 (AV.int?
 IntKind.i64
 p2554.fst)
 fun
 n2555 ↦
 Option.bind
 (uncons?
 p2554.snd)
 fun
 p2556 ↦
 Option.bind
 (AV.int?
 IntKind.i64
 p2556.fst)
 fun
 n2557 ↦
 Option.bind
 (nil?
 p2556.snd)
 fun
 x2558 ↦
 bif
 n2511 !=
 0 then
 some
 (Out.ret
 (vbool
 false),
 [])
 else
 bif
 n2519 !=
 0 then
 some
 (Out.ret
 (vbool
 false),
 [])
 else
 bif
 n2533 !=
 0 then
 some
 (Out.ret
 (vbool
 false),
 [])
 else
 bif
 n2541 !=
 0 then
 some
 (Out.ret
 (vbool
 false),
 [])
 else
 bif
 n2549 !=
 0 then
 some
 (Out.ret
 (vbool
 false),
 [])
 else
 bif
 n2557 !=
 0 then
 some
 (Out.ret
 (vbool
 false),
 [])
 else
 bif
 decide
 (n2509 <
 0) then
 some
 (Out.ret
 (vbool
 false),
 [])
 else
 bif
 decide
 (n2509 >
 n2517) then
 some
 (Out.ret
 (vbool
 false),
 [])
 else
 bif
 decide
 (n2517 >
 1099511627776) then
 some
 (Out.ret
 (vbool
 false),
 [])
 else
 bif
 n2547 !=
 1 then
 some
 (Out.ret
 (vbool
 false),
 [])
 else
 bif
 n2555 !=
 1 then
 some
 (Out.ret
 (vbool
 false),
 [])
 else
 some
 (Out.ret
 (vbool
 false),
 []) := by
  intros
  exact (E_fast _ _ _ _).trans (by kernel_rfl)

end Go.Proofs.Av
