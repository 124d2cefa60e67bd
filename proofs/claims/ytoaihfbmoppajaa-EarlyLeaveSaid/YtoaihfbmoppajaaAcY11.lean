/- A law's tree. -/
import Derived.Test.YtoaihfbmoppajaaAcX
set_option maxRecDepth 100000
namespace Go.Proofs.Av
open Go
theorem f11 : ∀ (raw286 : List (List AV)) (x287 y288 tick289 : Int),
 E cx (Key.fn 11) [AV.list 0 3 raw286, vi x287, vi y288, vi tick289]
 [] =
 Option.bind (E cx (Key.fn 25) [] []) fun r290 ↦
 Option.bind (ret1 r290) fun v291 ↦
 Option.bind (AV.bool? v291) fun b292 ↦
 bif b292 then
 Option.bind (E cx (Key.fn 26) [AV.list 0 3 raw286] []) fun r293 ↦
 Option.bind (ret1 r293) fun v294 ↦
 Option.bind (AV.list? 4 v294) fun es295 ↦
 Option.bind (E cx (Key.fn 28) [vi x287, vi 4] []) fun r296 ↦
 Option.bind (ret1 r296) fun v297 ↦
 Option.bind (AV.int? IntKind.i64 v297) fun n298 ↦
 Option.bind (E cx (Key.fn 38) [AV.list 0 4 es295, vi n298] [])
 fun r299 ↦
 Option.bind (ret1 r299) fun v300 ↦
 Option.bind (AV.list? 4 v300) fun es301 ↦
 Option.bind
 (E cx (Key.loop 11 [true, true, true, true, true, true, false, true, false])
 [vi 0, vi 0, vi y288, vi tick289, vbool false,
 vbool true, AV.list 0 4 es295, vi n298, AV.list 0 4 es301]
 [])
 fun r302 ↦
 Option.bind (asJump r302) fun j303 ↦
 bif JX.is j303.fst (JX.exit 0) then
 Option.bind (uncons? j303.snd.fst) fun p304 ↦
 Option.bind (AV.int? IntKind.i64 p304.fst) fun n305 ↦
 Option.bind (uncons? p304.snd) fun p306 ↦
 Option.bind (AV.int? IntKind.i64 p306.fst) fun _ ↦
 Option.bind (nil? p306.snd) fun _ ↦
 Option.bind (nil? j303.snd.snd) fun _ ↦
 Option.bind
 (E cx
 (Key.loop 11 [true, true, true, true, true, true, true, false, true, false])
 [vbool false, vi 0, vi y288, vi tick289,
 vbool true, AV.list 0 4 es295, vi n298,
 AV.list 0 4 es301, vi n305]
 [])
 fun r310 ↦
 Option.bind (asJump r310) fun j311 ↦
 bif JX.is j311.fst (JX.exit 2) then
 Option.bind (uncons? j311.snd.fst) fun p312 ↦
 Option.bind (AV.bool? p312.fst) fun _ ↦
 Option.bind (uncons? p312.snd) fun p314 ↦
 Option.bind (AV.int? IntKind.i64 p314.fst) fun _ ↦
 Option.bind (nil? p314.snd) fun _ ↦
 Option.bind (nil? j311.snd.snd) fun _ ↦
 Option.bind
 (E cx (Key.fn 28)
 [vi tick289, vi 7] [])
 fun r318 ↦
 Option.bind (ret1 r318) fun v319 ↦
 Option.bind (AV.int? IntKind.i64 v319) fun n320 ↦
 Option.bind
 (E cx (Key.fn 32)
 [AV.list 0 4 es301, vi n320] [])
 fun r321 ↦
 Option.bind (ret1 r321) fun v322 ↦
 Option.bind (AV.tup? v322) fun vs323 ↦
 Option.bind (uncons? vs323) fun p324 ↦
 Option.bind (AV.list? 4 p324.fst) fun es325 ↦
 Option.bind (uncons? p324.snd) fun p326 ↦
 Option.bind (AV.list? 4 p326.fst) fun es327 ↦
 Option.bind (nil? p326.snd) fun _ ↦
 Option.bind
 (E cx (Key.fn 28)
 [vi tick289, vi 7] [])
 fun r329 ↦
 Option.bind (ret1 r329) fun v330 ↦
 Option.bind (AV.int? IntKind.i64 v330) fun n331 ↦
 Option.bind
 (E cx (Key.fn 32)
 [AV.list 0 4 es295, vi n331] [])
 fun r332 ↦
 Option.bind (ret1 r332) fun v333 ↦
 Option.bind (AV.tup? v333) fun vs334 ↦
 Option.bind (uncons? vs334) fun p335 ↦
 Option.bind (AV.list? 4 p335.fst) fun es336 ↦
 Option.bind (uncons? p335.snd) fun p337 ↦
 Option.bind (AV.list? 4 p337.fst)
 fun es338 ↦
 Option.bind (nil? p337.snd) fun _ ↦
 Option.bind
 (E cx
 (Key.fn 28)
 [vi y288, vi 4] [])
 fun r340 ↦
 Option.bind (ret1 r340) fun v341 ↦
 Option.bind
 (AV.int? IntKind.i64 v341)
 fun n342 ↦
 bif
 decide
 (IntKind.wrap IntKind.i64
 (Int.add (((List.length es301) : Int))
 n305) =
 ((List.length es295) : Int)) then
 Option.bind
 (E cx
 (Key.fn 36)
 [AV.list 0 4 es301] [])
 fun r343 ↦
 Option.bind (ret1 r343)
 fun v344 ↦
 Option.bind
 (AV.bool? v344)
 fun b345 ↦
 bif b345 then
 Option.bind
 (E cx
 (Key.fn 38)
 [AV.list 0 4
 es301,
 vi n298]
 [])
 fun r346 ↦
 Option.bind
 (ret1 r346)
 fun v347 ↦
 Option.bind
 (AV.list? 4
 v347)
 fun es348 ↦
 Option.bind
 (E
 cx
 (Key.fn 31)
 [AV.list 0
 4 es348,
 AV.list 0
 4 es301]
 [])
 fun r349 ↦
 Option.bind
 (ret1 r349)
 fun v350 ↦
 Option.bind
 (AV.bool?
 v350)
 fun b351 ↦
 bif b351 then
 Option.bind
 (E
 cx
 (Key.fn
 38)
 [AV.list
 0 4 es301,
 vi
 n342]
 [])
 fun r352 ↦
 Option.bind
 (ret1
 r352)
 fun v353 ↦
 Option.bind
 (AV.list?
 4 v353)
 fun es354 ↦
 Option.bind
 (E
 cx
 (Key.fn
 38)
 [AV.list
 0 4
 es295,
 vi
 n342]
 [])
 fun r355 ↦
 Option.bind
 (ret1
 r355)
 fun v356 ↦
 Option.bind
 (AV.list?
 4
 v356)
 fun
 es357 ↦
 Option.bind
 (E
 cx
 (Key.fn
 38)
 [AV.list
 0
 4
 es357,
 vi
 n298]
 [])
 fun
 r358 ↦
 Option.bind
 (ret1
 r358)
 fun
 v359 ↦
 Option.bind
 (AV.list?
 4
 v359)
 fun
 es360 ↦
 Option.bind
 (E
 cx
 (Key.fn
 31)
 [AV.list
 0
 4
 es354,
 AV.list
 0
 4
 es360]
 [])
 fun
 r361 ↦
 Option.bind
 (ret1
 r361)
 fun
 v362 ↦
 Option.bind
 (AV.bool?
 v362)
 fun
 b363 ↦
 bif
 b363 then
 Option.bind
 (E
 cx
 (Key.fn
 38)
 [AV.list
 0
 4
 es336,
 vi
 n298]
 [])
 fun
 r364 ↦
 Option.bind
 (ret1
 r364)
 fun
 v365 ↦
 Option.bind
 (AV.list?
 4
 v365)
 fun
 es366 ↦
 Option.bind
 (E
 cx
 (Key.fn
 31)
 [AV.list
 0
 4
 es325,
 AV.list
 0
 4
 es366]
 [])
 fun
 r367 ↦
 Option.bind
 (ret1
 r367)
 fun
 v368 ↦
 Option.bind
 (AV.bool?
 v368)
 fun
 b369 ↦
 bif
 b369 then
 Option.bind
 (E
 cx
 (Key.fn
 38)
 [AV.list
 0
 4
 es338,
 vi
 n298]
 [])
 fun
 r370 ↦
 Option.bind
 (ret1
 r370)
 fun
 v371 ↦
 Option.bind
 (AV.list?
 4
 v371)
 fun
 es372 ↦
 Option.bind
 (E
 cx
 (Key.fn
 31)
 [AV.list
 0
 4
 es327,
 AV.list
 0
 4
 es372]
 [])
 fun
 r373 ↦
 Option.bind
 (ret1
 r373)
 fun
 v374 ↦
 Option.bind
 (AV.bool?
 v374)
 fun
 b375 ↦
 bif
 b375 then
 some
 (Out.ret
 (vbool
 true),
 [])
 else
 some
 (Out.ret
 (vbool
 false),
 [])
 else
 some
 (Out.ret
 (vbool
 false),
 [])
 else
 some
 (Out.ret
 (vbool
 false),
 [])
 else
 some
 (Out.ret
 (vbool
 false),
 [])
 else
 some
 (Out.ret
 (vbool false),
 [])
 else
 some
 (Out.ret
 (vbool false),
 [])
 else
 bif JX.is j311.fst JX.ret then
 Option.bind (uncons? j311.snd.fst) fun p376 ↦
 Option.bind (AV.bool? p376.fst) fun b377 ↦
 Option.bind (uncons? p376.snd) fun p378 ↦
 Option.bind (AV.int? IntKind.i64 p378.fst) fun _ ↦
 Option.bind (nil? p378.snd) fun _ ↦
 Option.bind (nil? j311.snd.snd) fun _ ↦
 some (Out.ret (vbool b377), [])
 else none
 else none
 else
 Option.bind (E cx (Key.fn 26) [AV.list 0 3 raw286] []) fun r382 ↦
 Option.bind (ret1 r382) fun v383 ↦
 Option.bind (AV.list? 4 v383) fun es384 ↦
 Option.bind (E cx (Key.fn 28) [vi x287, vi 4] []) fun r385 ↦
 Option.bind (ret1 r385) fun v386 ↦
 Option.bind (AV.int? IntKind.i64 v386) fun n387 ↦
 Option.bind (E cx (Key.fn 38) [AV.list 0 4 es384, vi n387] [])
 fun r388 ↦
 Option.bind (ret1 r388) fun v389 ↦
 Option.bind (AV.list? 4 v389) fun es390 ↦
 Option.bind
 (E cx (Key.loop 11 [true, true, true, true, true, true, false, true, false])
 [vi 0, vi 0, vi y288, vi tick289, vbool false,
 vbool false, AV.list 0 4 es384, vi n387, AV.list 0 4 es390]
 [])
 fun r391 ↦
 Option.bind (asJump r391) fun j392 ↦
 bif JX.is j392.fst (JX.exit 0) then
 Option.bind (uncons? j392.snd.fst) fun p393 ↦
 Option.bind (AV.int? IntKind.i64 p393.fst) fun n394 ↦
 Option.bind (uncons? p393.snd) fun p395 ↦
 Option.bind (AV.int? IntKind.i64 p395.fst) fun _ ↦
 Option.bind (nil? p395.snd) fun _ ↦
 Option.bind (nil? j392.snd.snd) fun _ ↦
 Option.bind
 (E cx
 (Key.loop 11 [true, true, true, true, true, true, true, false, true, false])
 [vbool false, vi 0, vi y288, vi tick289,
 vbool false, AV.list 0 4 es384, vi n387,
 AV.list 0 4 es390, vi n394]
 [])
 fun r399 ↦
 Option.bind (asJump r399) fun j400 ↦
 bif JX.is j400.fst (JX.exit 2) then
 Option.bind (uncons? j400.snd.fst) fun p401 ↦
 Option.bind (AV.bool? p401.fst) fun _ ↦
 Option.bind (uncons? p401.snd) fun p403 ↦
 Option.bind (AV.int? IntKind.i64 p403.fst) fun _ ↦
 Option.bind (nil? p403.snd) fun _ ↦
 Option.bind (nil? j400.snd.snd) fun _ ↦
 Option.bind
 (E cx (Key.fn 28)
 [vi tick289, vi 7] [])
 fun r407 ↦
 Option.bind (ret1 r407) fun v408 ↦
 Option.bind (AV.int? IntKind.i64 v408) fun n409 ↦
 Option.bind
 (E cx (Key.fn 32)
 [AV.list 0 4 es390, vi n409] [])
 fun r410 ↦
 Option.bind (ret1 r410) fun v411 ↦
 Option.bind (AV.tup? v411) fun vs412 ↦
 Option.bind (uncons? vs412) fun p413 ↦
 Option.bind (AV.list? 4 p413.fst) fun _ ↦
 Option.bind (uncons? p413.snd) fun p415 ↦
 Option.bind (AV.list? 4 p415.fst) fun _ ↦
 Option.bind (nil? p415.snd) fun _ ↦
 Option.bind
 (E cx (Key.fn 28)
 [vi tick289, vi 7] [])
 fun r418 ↦
 Option.bind (ret1 r418) fun v419 ↦
 Option.bind (AV.int? IntKind.i64 v419) fun n420 ↦
 Option.bind
 (E cx (Key.fn 32)
 [AV.list 0 4 es384, vi n420] [])
 fun r421 ↦
 Option.bind (ret1 r421) fun v422 ↦
 Option.bind (AV.tup? v422) fun vs423 ↦
 Option.bind (uncons? vs423) fun p424 ↦
 Option.bind (AV.list? 4 p424.fst) fun _ ↦
 Option.bind (uncons? p424.snd) fun p426 ↦
 Option.bind (AV.list? 4 p426.fst)
 fun _ ↦
 Option.bind (nil? p426.snd) fun _ ↦
 Option.bind
 (E cx
 (Key.fn 28)
 [vi y288, vi 4] [])
 fun r429 ↦
 Option.bind (ret1 r429) fun v430 ↦
 Option.bind
 (AV.int? IntKind.i64 v430)
 fun _ ↦
 some
 (Out.ret
 (vbool false),
 [])
 else
 bif JX.is j400.fst JX.ret then
 Option.bind (uncons? j400.snd.fst) fun p432 ↦
 Option.bind (AV.bool? p432.fst) fun b433 ↦
 Option.bind (uncons? p432.snd) fun p434 ↦
 Option.bind (AV.int? IntKind.i64 p434.fst) fun _ ↦
 Option.bind (nil? p434.snd) fun _ ↦
 Option.bind (nil? j400.snd.snd) fun _ ↦
 some (Out.ret (vbool b433), [])
 else none
 else none := by
  intros
  exact (E_fast _ _ _ _).trans (by kernel_rfl)

theorem f11_l0 : ∀ (x438 x439 x440 x441 : Int) (b442 b443 : Bool) (l444 : List (List AV)) (x445 : Int) (l446 : List (List AV)),
 E cx (Key.loop 11 [true, true, true, true, true, true, false, true, false])
 [vi x438, vi x439, vi x440, vi x441, vbool b442, vbool b443,
 AV.list 0 4 l444, vi x445, AV.list 0 4 l446]
 [] =
 bif decide (x439 < ((List.length l444) : Int)) then
 if 0 ≤ x439 then
 Option.bind l444[Int.toNat x439]? fun cs447 ↦
 Option.bind (uncons? cs447) fun p448 ↦
 Option.bind (AV.int? IntKind.i64 p448.fst) fun _ ↦
 Option.bind (uncons? p448.snd) fun p450 ↦
 Option.bind (AV.int? IntKind.i64 p450.fst) fun _ ↦
 Option.bind (uncons? p450.snd) fun p452 ↦
 Option.bind (AV.int? IntKind.i64 p452.fst) fun n453 ↦
 Option.bind (uncons? p452.snd) fun p454 ↦
 Option.bind (AV.str? p454.fst) fun _ ↦
 Option.bind (nil? p454.snd) fun _ ↦
 bif decide (n453 = x445) then
 E cx (Key.loop 11 [true, true, true, true, true, true, false, true, false])
 [vi (IntKind.wrap IntKind.i64 (Int.add x438 1)),
 vi (IntKind.wrap IntKind.i64 (Int.add x439 1)), vi x440, vi x441,
 vbool b442, vbool b443, AV.list 0 4 l444, vi x445,
 AV.list 0 4 l446]
 []
 else
 E cx (Key.loop 11 [true, true, true, true, true, true, false, true, false])
 [vi x438, vi (IntKind.wrap IntKind.i64 (Int.add x439 1)), vi x440,
 vi x441, vbool b442, vbool b443, AV.list 0 4 l444, vi x445,
 AV.list 0 4 l446]
 []
 else none
 else some (Out.jump (JX.exit 0) [vi x438, vi x439], []) := by
  intros
  exact (E_fast _ _ _ _).trans (by kernel_rfl)

theorem f11_l1 : ∀ (b457 : Bool) (x458 x459 x460 : Int) (b461 : Bool) (l462 : List (List AV)) (x463 : Int) (l464 : List (List AV)) (x465 : Int),
 E cx (Key.loop 11 [true, true, true, true, true, true, true, false, true, false])
 [vbool b457, vi x458, vi x459, vi x460, vbool b461, AV.list 0 4 l462,
 vi x463, AV.list 0 4 l464, vi x465]
 [] =
 bif decide (x458 < ((List.length l464) : Int)) then
 if 0 ≤ x458 then
 Option.bind l464[Int.toNat x458]? fun cs466 ↦
 Option.bind (uncons? cs466) fun p467 ↦
 Option.bind (AV.int? IntKind.i64 p467.fst) fun _ ↦
 Option.bind (uncons? p467.snd) fun p469 ↦
 Option.bind (AV.int? IntKind.i64 p469.fst) fun _ ↦
 Option.bind (uncons? p469.snd) fun p471 ↦
 Option.bind (AV.int? IntKind.i64 p471.fst) fun n472 ↦
 Option.bind (uncons? p471.snd) fun p473 ↦
 Option.bind (AV.str? p473.fst) fun _ ↦
 Option.bind (nil? p473.snd) fun _ ↦
 bif decide (n472 = x463) then some (Out.jump JX.ret [vbool false, vi x458], [])
 else
 E cx (Key.loop 11 [true, true, true, true, true, true, true, false, true, false])
 [vbool b457, vi (IntKind.wrap IntKind.i64 (Int.add x458 1)), vi x459,
 vi x460, vbool b461, AV.list 0 4 l462, vi x463,
 AV.list 0 4 l464, vi x465]
 []
 else none
 else some (Out.jump (JX.exit 2) [vbool b457, vi x458], []) := by
  intros
  exact (E_fast _ _ _ _).trans (by kernel_rfl)

end Go.Proofs.Av
