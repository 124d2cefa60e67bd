/- Bits: law 16 as a tree. -/
import Derived.Test.YtoepfmodbhfckaaAfPP
set_option maxRecDepth 100000
namespace Go.Proofs.Av
open Go
noncomputable def q16_0 : Int → List (List AV) → Int → List (List AV) → Int → List (List AV) → Option (Out × Heap) :=
 fun n7 es9 n15 es17 n25 es27 ↦
 Option.bind
 (E cx (Key.loop 16 [true, true, true, true, true, true, false, true, false])
 [vbool false, vi 0, vbool true, AV.ptr 0 0 0 0, AV.ptr 1 0 0 0,
 AV.ptr 2 0 0 0]
 [Ob.mk OK.box 33 2 0 [[vi n7, AV.list 0 1 es9]],
 Ob.mk OK.box 33 2 0 [[vi n15, AV.list 0 1 es17]],
 Ob.mk OK.box 33 2 0 [[vi n25, AV.list 0 1 es27]]])
 fun r50 ↦
 Option.bind (asJump r50) fun j51 ↦
 bif JX.is j51.fst (JX.exit 0) then
 Option.bind (uncons? j51.snd.fst) fun p52 ↦
 Option.bind (AV.bool? p52.fst) fun _ ↦
 Option.bind (uncons? p52.snd) fun p54 ↦
 Option.bind (AV.int? IntKind.i64 p54.fst) fun _ ↦
 Option.bind (nil? p54.snd) fun _ ↦
 Option.bind (uncons? j51.snd.snd) fun p57 ↦
 Option.bind (obIs (Ob.mk OK.box 33 2 0 [[vi n7, AV.list 0 1 es9]]) p57.fst)
 fun _ ↦
 Option.bind (chk p57.fst.ver 0) fun _ ↦
 Option.bind (uncons? p57.fst.es) fun p60 ↦
 Option.bind (nil? p60.snd) fun _ ↦
 Option.bind (uncons? p60.fst) fun p62 ↦
 Option.bind (AV.int? IntKind.i64 p62.fst) fun n63 ↦
 Option.bind (uncons? p62.snd) fun p64 ↦
 Option.bind (AV.list? 1 p64.fst) fun es65 ↦
 Option.bind (nil? p64.snd) fun _ ↦
 Option.bind (uncons? p57.snd) fun p67 ↦
 Option.bind
 (obIs
 (Ob.mk OK.box 33 2 0 [[vi n15, AV.list 0 1 es17]]) p67.fst)
 fun _ ↦
 Option.bind (chk p67.fst.ver 0) fun _ ↦
 Option.bind (uncons? p67.fst.es) fun p70 ↦
 Option.bind (nil? p70.snd) fun _ ↦
 Option.bind (uncons? p70.fst) fun p72 ↦
 Option.bind (AV.int? IntKind.i64 p72.fst) fun n73 ↦
 Option.bind (uncons? p72.snd) fun p74 ↦
 Option.bind (AV.list? 1 p74.fst) fun es75 ↦
 Option.bind (nil? p74.snd) fun _ ↦
 Option.bind (uncons? p67.snd) fun p77 ↦
 Option.bind
 (obIs
 (Ob.mk OK.box 33 2 0
 [[vi n25, AV.list 0 1 es27]])
 p77.fst)
 fun _ ↦
 Option.bind (chk p77.fst.ver 0) fun _ ↦
 Option.bind (uncons? p77.fst.es) fun p80 ↦
 Option.bind (nil? p80.snd) fun _ ↦
 Option.bind (uncons? p80.fst) fun p82 ↦
 Option.bind (AV.int? IntKind.i64 p82.fst) fun n83 ↦
 Option.bind (uncons? p82.snd) fun p84 ↦
 Option.bind (AV.list? 1 p84.fst) fun es85 ↦
 Option.bind (nil? p84.snd) fun _ ↦
 Option.bind (nil? p77.snd) fun _ ↦
 Option.bind
 (E cx (Key.fn 65)
 [AV.agg [vi n63, AV.list 0 1 es65],
 AV.list 0 2
 [[vi (IntKind.wrap IntKind.i64 (Int.add n63 1)),
 AV.list 0 1 es65]]]
 [])
 fun r88 ↦
 Option.bind (ret1 r88) fun v89 ↦
 Option.bind (AV.tup? v89) fun vs90 ↦
 Option.bind (uncons? vs90) fun p91 ↦
 Option.bind (AV.cells? p91.fst) fun cs92 ↦
 Option.bind (uncons? cs92) fun p93 ↦
 Option.bind (AV.int? IntKind.i64 p93.fst) fun _ ↦
 Option.bind (uncons? p93.snd) fun p95 ↦
 Option.bind (AV.list? 1 p95.fst) fun _ ↦
 Option.bind (nil? p95.snd) fun _ ↦
 Option.bind (uncons? p91.snd) fun p98 ↦
 Option.bind (AV.int? IntKind.i64 p98.fst)
 fun n99 ↦
 Option.bind (nil? p98.snd) fun _ ↦
 bif decide (n99 = 1) then
 Option.bind
 (E cx
 (Key.fn 68)
 [AV.agg
 [vi n63,
 AV.list 0 1 es65],
 AV.agg
 [vi
 (IntKind.wrap IntKind.i64
 (Int.add n63 1)),
 AV.list 0 1 es65]]
 [])
 fun r101 ↦
 Option.bind (ret1 r101) fun v102 ↦
 Option.bind (AV.bool? v102)
 fun b103 ↦
 bif b103 then
 some
 (Out.ret
 (vbool false),
 [])
 else
 Option.bind
 (E cx
 (Key.fn 70)
 [AV.agg
 [vi n63,
 AV.list 0 1 es65],
 AV.agg
 [vi
 (IntKind.wrap IntKind.i64
 (Int.add n63 1)),
 AV.list 0 1 es65]]
 [])
 fun r104 ↦
 Option.bind (ret1 r104)
 fun v105 ↦
 Option.bind (AV.bool? v105)
 fun b106 ↦
 bif b106 then
 some
 (Out.ret
 (vbool false),
 [])
 else
 Option.bind
 (E cx
 (Key.fn 70)
 [AV.agg
 [vi n63,
 AV.list 0 1
 es65],
 AV.agg
 [vi n73,
 AV.list 0 1
 es75]]
 [])
 fun r107 ↦
 Option.bind
 (ret1 r107)
 fun v108 ↦
 Option.bind
 (AV.bool? v108)
 fun b109 ↦
 bif b109 then
 Option.bind
 (E
 cx
 (Key.fn 67)
 [AV.agg
 [vi
 n83,
 AV.list
 0 1 es85],
 AV.agg
 [vi
 n73,
 AV.list
 0 1 es75]]
 [])
 fun r110 ↦
 Option.bind
 (ret1 r110)
 fun v111 ↦
 Option.bind
 (AV.bool?
 v111)
 fun b112 ↦
 bif b112 then
 some
 (Out.ret
 (vbool
 true),
 [])
 else
 some
 (Out.ret
 (vbool
 false),
 [])
 else
 Option.bind
 (E
 cx
 (Key.fn 67)
 [AV.agg
 [vi
 n83,
 AV.list
 0 1 es85],
 AV.agg
 [vi
 n73,
 AV.list
 0 1 es75]]
 [])
 fun r113 ↦
 Option.bind
 (ret1 r113)
 fun v114 ↦
 Option.bind
 (AV.bool?
 v114)
 fun b115 ↦
 bif b115 then
 some
 (Out.ret
 (vbool
 false),
 [])
 else
 some
 (Out.ret
 (vbool
 true),
 [])
 else
 some
 (Out.ret (vbool false),
 [])
 else
 bif JX.is j51.fst JX.ret then
 Option.bind (uncons? j51.snd.fst) fun p116 ↦
 Option.bind (AV.bool? p116.fst) fun b117 ↦
 Option.bind (uncons? p116.snd) fun p118 ↦
 Option.bind (AV.int? IntKind.i64 p118.fst) fun _ ↦
 Option.bind (nil? p118.snd) fun _ ↦
 Option.bind (uncons? j51.snd.snd) fun p121 ↦
 Option.bind
 (obIs (Ob.mk OK.box 33 2 0 [[vi n7, AV.list 0 1 es9]]) p121.fst)
 fun _ ↦
 Option.bind (chk p121.fst.ver 0) fun _ ↦
 Option.bind (uncons? p121.fst.es) fun p124 ↦
 Option.bind (nil? p124.snd) fun _ ↦
 Option.bind (uncons? p124.fst) fun p126 ↦
 Option.bind (AV.int? IntKind.i64 p126.fst) fun _ ↦
 Option.bind (uncons? p126.snd) fun p128 ↦
 Option.bind (AV.list? 1 p128.fst) fun _ ↦
 Option.bind (nil? p128.snd) fun _ ↦
 Option.bind (uncons? p121.snd) fun p131 ↦
 Option.bind
 (obIs
 (Ob.mk OK.box 33 2 0 [[vi n15, AV.list 0 1 es17]]) p131.fst)
 fun _ ↦
 Option.bind (chk p131.fst.ver 0) fun _ ↦
 Option.bind (uncons? p131.fst.es) fun p134 ↦
 Option.bind (nil? p134.snd) fun _ ↦
 Option.bind (uncons? p134.fst) fun p136 ↦
 Option.bind (AV.int? IntKind.i64 p136.fst) fun _ ↦
 Option.bind (uncons? p136.snd) fun p138 ↦
 Option.bind (AV.list? 1 p138.fst) fun _ ↦
 Option.bind (nil? p138.snd) fun _ ↦
 Option.bind (uncons? p131.snd) fun p141 ↦
 Option.bind
 (obIs
 (Ob.mk OK.box 33 2 0
 [[vi n25, AV.list 0 1 es27]])
 p141.fst)
 fun _ ↦
 Option.bind (chk p141.fst.ver 0) fun _ ↦
 Option.bind (uncons? p141.fst.es) fun p144 ↦
 Option.bind (nil? p144.snd) fun _ ↦
 Option.bind (uncons? p144.fst) fun p146 ↦
 Option.bind (AV.int? IntKind.i64 p146.fst) fun _ ↦
 Option.bind (uncons? p146.snd) fun p148 ↦
 Option.bind (AV.list? 1 p148.fst) fun _ ↦
 Option.bind (nil? p148.snd) fun _ ↦
 Option.bind (nil? p141.snd) fun _ ↦
 some (Out.ret (vbool b117), [])
 else none


noncomputable def q16_1 : Int → List (List AV) → Int → List (List AV) → Int → List (List AV) → Option (Out × Heap) :=
 fun n7 es9 n15 es17 n25 es27 ↦
 Option.bind
 (E cx (Key.fn 67)
 [AV.agg [vi n7, AV.list 0 1 es9], AV.agg [vi n15, AV.list 0 1 es17]] [])
 fun r152 ↦
 Option.bind (ret1 r152) fun v153 ↦
 Option.bind (AV.bool? v153) fun b154 ↦
 bif b154 then some (Out.ret (vbool false), []) else q16_0 n7 es9 n15 es17 n25 es27


noncomputable def q16_2 : Int → List (List AV) → Int → List (List AV) → Int → List (List AV) → Option (Out × Heap) :=
 fun n7 es9 n15 es17 n25 es27 ↦
 Option.bind
 (E cx (Key.fn 70)
 [AV.agg [vi n7, AV.list 0 1 es9], AV.agg [vi n15, AV.list 0 1 es17]] [])
 fun r41 ↦
 Option.bind (ret1 r41) fun v42 ↦
 Option.bind (AV.bool? v42) fun b43 ↦
 bif b43 then
 Option.bind
 (E cx (Key.fn 70)
 [AV.agg [vi n15, AV.list 0 1 es17], AV.agg [vi n7, AV.list 0 1 es9]]
 [])
 fun r44 ↦
 Option.bind (ret1 r44) fun v45 ↦
 Option.bind (AV.bool? v45) fun b46 ↦
 bif b46 then
 Option.bind
 (E cx (Key.fn 67)
 [AV.agg [vi n7, AV.list 0 1 es9],
 AV.agg [vi n15, AV.list 0 1 es17]]
 [])
 fun r47 ↦
 Option.bind (ret1 r47) fun v48 ↦
 Option.bind (AV.bool? v48) fun b49 ↦
 bif b49 then q16_0 n7 es9 n15 es17 n25 es27 else some (Out.ret (vbool false), [])
 else q16_1 n7 es9 n15 es17 n25 es27
 else q16_1 n7 es9 n15 es17 n25 es27


noncomputable def q16_3 : Int → List (List AV) → Int → List (List AV) → List (List AV) → Int → Option (Out × Heap) :=
 fun n7 es9 n15 es17 es27 n25 ↦
 Option.bind
 (E cx (Key.fn 68)
 [AV.agg [vi n7, AV.list 0 1 es9], AV.agg [vi n15, AV.list 0 1 es17]] [])
 fun r38 ↦
 Option.bind (ret1 r38) fun v39 ↦
 Option.bind (AV.bool? v39) fun b40 ↦
 bif b40 then
 bif decide (((List.length es27) : Int) = IntKind.wrap IntKind.i64 (Int.add ((List.length es9) : Int) ((List.length es17) : Int))) then
 q16_2 n7 es9 n15 es17 n25 es27
 else some (Out.ret (vbool false), [])
 else
 bif decide (((List.length es27) : Int) = IntKind.wrap IntKind.i64 (Int.add ((List.length es9) : Int) ((List.length es17) : Int))) then
 some (Out.ret (vbool false), [])
 else q16_2 n7 es9 n15 es17 n25 es27


theorem f16 : ∀ (n0 : Int) (one1 two2 : List (List AV)),
 E cx (Key.fn 16) [vi n0, AV.list 0 1 one1, AV.list 0 1 two2] [] =
 Option.bind (E cx (Key.fn 55) [vi n0, vi 60, AV.list 0 1 one1] []) fun r3 ↦
 Option.bind (ret1 r3) fun v4 ↦
 Option.bind (AV.cells? v4) fun cs5 ↦
 Option.bind (uncons? cs5) fun p6 ↦
 Option.bind (AV.int? IntKind.i64 p6.fst) fun n7 ↦
 Option.bind (uncons? p6.snd) fun p8 ↦
 Option.bind (AV.list? 1 p8.fst) fun es9 ↦
 Option.bind (nil? p8.snd) fun _ ↦
 Option.bind
 (E cx (Key.fn 55) [vi n0, vi 60, AV.list 0 1 two2] [])
 fun r11 ↦
 Option.bind (ret1 r11) fun v12 ↦
 Option.bind (AV.cells? v12) fun cs13 ↦
 Option.bind (uncons? cs13) fun p14 ↦
 Option.bind (AV.int? IntKind.i64 p14.fst) fun n15 ↦
 Option.bind (uncons? p14.snd) fun p16 ↦
 Option.bind (AV.list? 1 p16.fst) fun es17 ↦
 Option.bind (nil? p16.snd) fun _ ↦
 Option.bind
 (E cx (Key.fn 65)
 [AV.agg [vi n7, AV.list 0 1 es9],
 AV.list 0 2 [[vi n15, AV.list 0 1 es17]]]
 [])
 fun r19 ↦
 Option.bind (ret1 r19) fun v20 ↦
 Option.bind (AV.tup? v20) fun vs21 ↦
 Option.bind (uncons? vs21) fun p22 ↦
 Option.bind (AV.cells? p22.fst) fun cs23 ↦
 Option.bind (uncons? cs23) fun p24 ↦
 Option.bind (AV.int? IntKind.i64 p24.fst) fun n25 ↦
 Option.bind (uncons? p24.snd) fun p26 ↦
 Option.bind (AV.list? 1 p26.fst) fun es27 ↦
 Option.bind (nil? p26.snd) fun _ ↦
 Option.bind (uncons? p22.snd) fun p29 ↦
 Option.bind (AV.int? IntKind.i64 p29.fst) fun n30 ↦
 Option.bind (nil? p29.snd) fun _ ↦
 bif n30 != 0 then some (Out.ret (vbool false), [])
 else
 Option.bind
 (E cx (Key.fn 68)
 [AV.agg [vi n7, AV.list 0 1 es9],
 AV.agg [vi n15, AV.list 0 1 es17]]
 [])
 fun r32 ↦
 Option.bind (ret1 r32) fun v33 ↦
 Option.bind (AV.bool? v33) fun b34 ↦
 bif b34 then
 Option.bind
 (E cx (Key.fn 68)
 [AV.agg [vi n15, AV.list 0 1 es17],
 AV.agg [vi n7, AV.list 0 1 es9]]
 [])
 fun r35 ↦
 Option.bind (ret1 r35) fun v36 ↦
 Option.bind (AV.bool? v36) fun b37 ↦
 bif b37 then q16_3 n7 es9 n15 es17 es27 n25
 else some (Out.ret (vbool false), [])
 else
 Option.bind
 (E cx (Key.fn 68)
 [AV.agg [vi n15, AV.list 0 1 es17],
 AV.agg [vi n7, AV.list 0 1 es9]]
 [])
 fun r683 ↦
 Option.bind (ret1 r683) fun v684 ↦
 Option.bind (AV.bool? v684) fun b685 ↦
 bif b685 then some (Out.ret (vbool false), [])
 else q16_3 n7 es9 n15 es17 es27 n25 := by
  intros
  exact (E_ov f54_true [188] _ _ _).trans (by kernel_rfl)


noncomputable def q16_l0_0 : Bool →
 Int →
 Bool →
 Int → List (List AV) → Int → List (List AV) → Int → List (List AV) → Option (Out × Heap) :=
 fun b1331 x1332 b1333 x1334 l1335 x1336 l1337 x1338 l1339 ↦
 E cx (Key.loop 16 [true, true, true, true, true, true, false, true, false])
 [vbool b1331, vi (IntKind.wrap IntKind.i64 (Int.add x1332 1)), vbool b1333, AV.ptr 0 0 0 0,
 AV.ptr 1 0 0 0, AV.ptr 2 0 0 0]
 [Ob.mk OK.box 33 2 0 [[vi x1334, AV.list 0 1 l1335]],
 Ob.mk OK.box 33 2 0 [[vi x1336, AV.list 0 1 l1337]],
 Ob.mk OK.box 33 2 0 [[vi x1338, AV.list 0 1 l1339]]]


noncomputable def q16_l0_1 : Int → Int → List (List AV) → Int → List (List AV) → Int → List (List AV) → Option (Out × Heap) :=
 fun x1332 x1334 l1335 x1336 l1337 x1338 l1339 ↦
 some
 (Out.jump JX.ret [vbool false, vi x1332],
 [Ob.mk OK.box 33 2 0 [[vi x1334, AV.list 0 1 l1335]],
 Ob.mk OK.box 33 2 0 [[vi x1336, AV.list 0 1 l1337]],
 Ob.mk OK.box 33 2 0 [[vi x1338, AV.list 0 1 l1339]]])


theorem f16_l0 : ∀ (b1331 : Bool) (x1332 : Int) (b1333 : Bool) (x1334 : Int) (l1335 : List (List AV)) (x1336 : Int) (l1337 : List (List AV))
 (x1338 : Int) (l1339 : List (List AV)),
 E cx (Key.loop 16 [true, true, true, true, true, true, false, true, false])
 [vbool b1331, vi x1332, vbool b1333, AV.ptr 0 0 0 0, AV.ptr 1 0 0 0,
 AV.ptr 2 0 0 0]
 [Ob.mk OK.box 33 2 0 [[vi x1334, AV.list 0 1 l1335]],
 Ob.mk OK.box 33 2 0 [[vi x1336, AV.list 0 1 l1337]],
 Ob.mk OK.box 33 2 0 [[vi x1338, AV.list 0 1 l1339]]] =
 bif decide (x1332 < x1334) then
 Option.bind
 (E cx (Key.fn 62)
 [AV.agg [vi x1338, AV.list 0 1 l1339], vi x1332] [])
 fun r1340 ↦
 Option.bind (ret1 r1340) fun v1341 ↦
 Option.bind (AV.bool? v1341) fun b1342 ↦
 bif b1342 then
 Option.bind
 (E cx (Key.fn 62)
 [AV.agg [vi x1334, AV.list 0 1 l1335], vi x1332] [])
 fun r1343 ↦
 Option.bind (ret1 r1343) fun v1344 ↦
 Option.bind (AV.bool? v1344) fun b1345 ↦
 bif b1345 then q16_l0_0 b1331 x1332 b1333 x1334 l1335 x1336 l1337 x1338 l1339
 else
 Option.bind
 (E cx (Key.fn 62)
 [AV.agg [vi x1336, AV.list 0 1 l1337], vi x1332] [])
 fun r1346 ↦
 Option.bind (ret1 r1346) fun v1347 ↦
 Option.bind (AV.bool? v1347) fun b1348 ↦
 bif b1348 then q16_l0_0 b1331 x1332 b1333 x1334 l1335 x1336 l1337 x1338 l1339
 else q16_l0_1 x1332 x1334 l1335 x1336 l1337 x1338 l1339
 else
 Option.bind
 (E cx (Key.fn 62)
 [AV.agg [vi x1334, AV.list 0 1 l1335], vi x1332] [])
 fun r1349 ↦
 Option.bind (ret1 r1349) fun v1350 ↦
 Option.bind (AV.bool? v1350) fun b1351 ↦
 bif b1351 then q16_l0_1 x1332 x1334 l1335 x1336 l1337 x1338 l1339
 else
 Option.bind
 (E cx (Key.fn 62)
 [AV.agg [vi x1336, AV.list 0 1 l1337], vi x1332] [])
 fun r1352 ↦
 Option.bind (ret1 r1352) fun v1353 ↦
 Option.bind (AV.bool? v1353) fun b1354 ↦
 bif b1354 then q16_l0_1 x1332 x1334 l1335 x1336 l1337 x1338 l1339
 else q16_l0_0 b1331 x1332 b1333 x1334 l1335 x1336 l1337 x1338 l1339
 else
 some
 (Out.jump (JX.exit 0) [vbool b1331, vi x1332],
 [Ob.mk OK.box 33 2 0 [[vi x1334, AV.list 0 1 l1335]],
 Ob.mk OK.box 33 2 0 [[vi x1336, AV.list 0 1 l1337]],
 Ob.mk OK.box 33 2 0 [[vi x1338, AV.list 0 1 l1339]]]) := by
  intros
  exact (E_ov f54_true [188] _ _ _).trans (by kernel_rfl)

end Go.Proofs.Av
