/- Tokens: the law of keys. -/
import Derived.Test.YtoepfmodbhfckaaAePQ
set_option maxRecDepth 100000
namespace Go.Proofs.Av
open Go
theorem f9 : ∀ (raw0 : List (List AV)) (root1 turn2 : Int),
 E cx (Key.fn 9) [AV.list 0 1 raw0, vu root1, vi turn2] [] =
 Option.bind
 (E cx (Key.loop 9 [true, true, true, true, false, true, false])
 [AV.arr 1 2 0 0, vi 0, AV.list 0 1 raw0, vu root1, vi turn2, vbool false,
 vbool true, AV.ptr 0 1 0 0]
 [Ob.mk OK.arr 83 1 1
 [[vbool false], [vbool false], [vbool false], [vbool false], [vbool false],
 [vbool false], [vbool false], [vbool false], [vbool false], [vbool false],
 [vbool false], [vbool false], [vbool false], [vbool false], [vbool false],
 [vbool false], [vbool false], [vbool false], [vbool false], [vbool false],
 [vbool false], [vbool false], [vbool false], [vbool false], [vbool false],
 [vbool false], [vbool false], [vbool false], [vbool false], [vbool false],
 [vbool false], [vbool false], [vbool false], [vbool false], [vbool false],
 [vbool false], [vbool false], [vbool false], [vbool false], [vbool false]],
 Ob.mk OK.arr 36 2 2 []])
 fun r3 ↦
 Option.bind (asJump r3) fun j4 ↦
 bif JX.is j4.fst (JX.exit 0) then
 Option.bind (uncons? j4.snd.fst) fun p5 ↦
 Option.bind (AV.arr? 1 p5.fst) fun x6 ↦
 Option.bind (chk x6.fst 2) fun _ ↦
 Option.bind (uncons? p5.snd) fun p8 ↦
 Option.bind (AV.int? IntKind.i64 p8.fst) fun _ ↦
 Option.bind (nil? p8.snd) fun _ ↦
 Option.bind (uncons? j4.snd.snd) fun p11 ↦
 Option.bind
 (obIs
 (Ob.mk OK.arr 83 1 1
 [[vbool false], [vbool false], [vbool false], [vbool false],
 [vbool false], [vbool false], [vbool false], [vbool false],
 [vbool false], [vbool false], [vbool false], [vbool false],
 [vbool false], [vbool false], [vbool false], [vbool false],
 [vbool false], [vbool false], [vbool false], [vbool false],
 [vbool false], [vbool false], [vbool false], [vbool false],
 [vbool false], [vbool false], [vbool false], [vbool false],
 [vbool false], [vbool false], [vbool false], [vbool false],
 [vbool false], [vbool false], [vbool false], [vbool false],
 [vbool false], [vbool false], [vbool false], [vbool false]])
 p11.fst)
 fun _ ↦
 Option.bind (chk p11.fst.ver 1) fun _ ↦
 Option.bind (uncons? p11.snd) fun p14 ↦
 Option.bind (obIs (Ob.mk OK.arr 36 2 2 []) p14.fst) fun _ ↦
 Option.bind (chk p14.fst.ver 2) fun _ ↦
 Option.bind (nil? p14.snd) fun _ ↦
 Option.bind
 (E cx (Key.fn 48)
 [vi turn2, vi (IntKind.wrap IntKind.i64 (Int.add ((x6.snd.snd : Int)) 1))] [])
 fun r18 ↦
 Option.bind (ret1 r18) fun v19 ↦
 Option.bind (AV.int? IntKind.i64 v19) fun n20 ↦
 if 0 ≤ n20 then
 if n20 ≤ (x6.snd.snd : Int) then
 Option.bind
 (chkLe (Nat.add (Nat.add x6.snd.fst (Int.toNat n20)) (Nat.sub x6.snd.snd (Int.toNat n20)))
 (List.length (Ob.mk OK.arr 36 2 2 p14.fst.es).es))
 fun _ ↦
 bif
 ysOk
 (List.drop (Nat.add x6.snd.fst (Int.toNat n20))
 (List.take (Nat.add (Nat.add x6.snd.fst (Int.toNat n20)) (Nat.sub x6.snd.snd (Int.toNat n20)))
 (Ob.mk OK.arr 36 2 2 p14.fst.es).es)) then
 if
 Nat.mul
 (Nat.add 0
 (List.length
 (List.drop (Nat.add x6.snd.fst (Int.toNat n20))
 (List.take (Nat.add (Nat.add x6.snd.fst (Int.toNat n20)) (Nat.sub x6.snd.snd (Int.toNat n20)))
 (Ob.mk OK.arr 36 2 2 p14.fst.es).es))))
 32 ≤
 140737488355328 then
 if 0 ≤ n20 then
 if n20 ≤ (x6.snd.snd : Int) then
 Option.bind
 (chkLe (Nat.add (Nat.add x6.snd.fst 0) (Nat.sub (Int.toNat n20) 0))
 (List.length (Ob.mk OK.arr 36 2 2 p14.fst.es).es))
 fun _ ↦
 bif
 ysOk
 (List.drop (Nat.add x6.snd.fst 0)
 (List.take (Nat.add (Nat.add x6.snd.fst 0) (Nat.sub (Int.toNat n20) 0))
 (Ob.mk OK.arr 36 2 2 p14.fst.es).es)) then
 Option.bind
 (chk
 (Nat.add 0
 (List.length
 (List.drop (Nat.add x6.snd.fst (Int.toNat n20))
 (List.take
 (Nat.add (Nat.add x6.snd.fst (Int.toNat n20)) (Nat.sub x6.snd.snd (Int.toNat n20)))
 (Ob.mk OK.arr 36 2 2 p14.fst.es).es))))
 (List.length
 (Ob.mk OK.arr 36 2 2
 ([] ++
 List.drop (Nat.add x6.snd.fst (Int.toNat n20))
 (List.take
 (Nat.add (Nat.add x6.snd.fst (Int.toNat n20)) (Nat.sub x6.snd.snd (Int.toNat n20)))
 (Ob.mk OK.arr 36 2 2 p14.fst.es).es))).es))
 fun _ ↦
 if
 Nat.mul
 (Nat.add
 (List.length
 (Ob.mk OK.arr 36 2 2
 ([] ++
 List.drop (Nat.add x6.snd.fst (Int.toNat n20))
 (List.take
 (Nat.add (Nat.add x6.snd.fst (Int.toNat n20))
 (Nat.sub x6.snd.snd (Int.toNat n20)))
 (Ob.mk OK.arr 36 2 2 p14.fst.es).es))).es)
 (List.length
 (List.drop (Nat.add x6.snd.fst 0)
 (List.take (Nat.add (Nat.add x6.snd.fst 0) (Nat.sub (Int.toNat n20) 0))
 (Ob.mk OK.arr 36 2 2 p14.fst.es).es))))
 32 ≤
 140737488355328 then
 Option.bind
 (chkLe
 (Nat.add 0
 (Nat.add
 (List.length
 (Ob.mk OK.arr 36 2 2
 ([] ++
 List.drop (Nat.add x6.snd.fst (Int.toNat n20))
 (List.take
 (Nat.add (Nat.add x6.snd.fst (Int.toNat n20))
 (Nat.sub x6.snd.snd (Int.toNat n20)))
 (Ob.mk OK.arr 36 2 2 p14.fst.es).es))).es)
 (List.length
 (List.drop (Nat.add x6.snd.fst 0)
 (List.take (Nat.add (Nat.add x6.snd.fst 0) (Nat.sub (Int.toNat n20) 0))
 (Ob.mk OK.arr 36 2 2 p14.fst.es).es)))))
 (List.length
 ((Ob.mk OK.arr 36 2 2
 ([] ++
 List.drop (Nat.add x6.snd.fst (Int.toNat n20))
 (List.take
 (Nat.add (Nat.add x6.snd.fst (Int.toNat n20))
 (Nat.sub x6.snd.snd (Int.toNat n20)))
 (Ob.mk OK.arr 36 2 2 p14.fst.es).es))).es ++
 List.drop (Nat.add x6.snd.fst 0)
 (List.take (Nat.add (Nat.add x6.snd.fst 0) (Nat.sub (Int.toNat n20) 0))
 (Ob.mk OK.arr 36 2 2 p14.fst.es).es))))
 fun _ ↦
 Option.bind
 (E cx (Key.fn 45)
 [AV.list 0 2
 (List.drop 0
 (List.take
 (Nat.add 0
 (Nat.add
 (List.length
 (Ob.mk OK.arr 36 2 2
 ([] ++
 List.drop (Nat.add x6.snd.fst (Int.toNat n20))
 (List.take
 (Nat.add (Nat.add x6.snd.fst (Int.toNat n20))
 (Nat.sub x6.snd.snd (Int.toNat n20)))
 (Ob.mk OK.arr 36 2 2
 p14.fst.es).es))).es)
 (List.length
 (List.drop (Nat.add x6.snd.fst 0)
 (List.take (Nat.add (Nat.add x6.snd.fst 0) (Nat.sub (Int.toNat n20) 0))
 (Ob.mk OK.arr 36 2 2 p14.fst.es).es)))))
 ((Ob.mk OK.arr 36 2 2
 ([] ++
 List.drop (Nat.add x6.snd.fst (Int.toNat n20))
 (List.take
 (Nat.add (Nat.add x6.snd.fst (Int.toNat n20))
 (Nat.sub x6.snd.snd (Int.toNat n20)))
 (Ob.mk OK.arr 36 2 2 p14.fst.es).es))).es ++
 List.drop (Nat.add x6.snd.fst 0)
 (List.take (Nat.add (Nat.add x6.snd.fst 0) (Nat.sub (Int.toNat n20) 0))
 (Ob.mk OK.arr 36 2 2 p14.fst.es).es))))]
 [])
 fun r25 ↦
 Option.bind (ret1 r25) fun v26 ↦
 Option.bind (AV.tup? v26) fun vs27 ↦
 Option.bind (uncons? vs27) fun p28 ↦
 Option.bind (AV.cells? p28.fst) fun cs29 ↦
 Option.bind (uncons? cs29) fun p30 ↦
 Option.bind (AV.bool? p30.fst) fun b31 ↦
 Option.bind (uncons? p30.snd) fun p32 ↦
 Option.bind (AV.list? 2 p32.fst) fun es33 ↦
 Option.bind (nil? p32.snd) fun _ ↦
 Option.bind (uncons? p28.snd) fun p35 ↦
 Option.bind (AV.int? IntKind.i64 p35.fst) fun n36 ↦
 Option.bind (nil? p35.snd) fun _ ↦
 Option.bind
 (E cx (Key.fn 42)
 [AV.agg
 [vbool b31, AV.list 0 2 es33],
 vu root1]
 [])
 fun r38 ↦
 Option.bind (ret1 r38) fun v39 ↦
 Option.bind (AV.tup? v39) fun vs40 ↦
 Option.bind (uncons? vs40) fun p41 ↦
 Option.bind (AV.list? 1 p41.fst) fun es42 ↦
 Option.bind (uncons? p41.snd) fun p43 ↦
 Option.bind (AV.bool? p43.fst) fun b44 ↦
 bif b44 then
 Option.bind (nil? p43.snd) fun _ ↦
 bif n36 != 0 then
 some
 (Out.ret
 (vbool false),
 [])
 else
 bif ((List.length es42) : Int) != (x6.snd.snd : Int) then
 some
 (Out.ret
 (vbool false),
 [])
 else
 Option.bind
 (E cx
 (Key.loop 9
 [true, true, true, true, true, true,
 true, true, true, false, true, false])
 [vbool false,
 vi 0,
 vu root1,
 vbool true,
 AV.arr 1 2 x6.snd.fst
 x6.snd.snd,
 AV.ptr 0 1 0 0,
 AV.ptr 4 0 0 0,
 AV.list 0 1 es42]
 [Ob.mk OK.arr 83
 1 1 p11.fst.es,
 Ob.mk OK.arr
 36 2 2 p14.fst.es,
 Ob.mk OK.dead
 36 2 2 [],
 Ob.mk OK.dead
 36 2 2 [],
 Ob.mk OK.box
 36 2 0
 [[vbool b31,
 AV.list 0 2 es33]]])
 fun r46 ↦
 Option.bind (asJump r46)
 fun j47 ↦
 bif
 JX.is j47.fst
 (JX.exit 2) then
 Option.bind
 (uncons? j47.snd.fst)
 fun p48 ↦
 Option.bind
 (AV.bool? p48.fst)
 fun _ ↦
 Option.bind
 (uncons? p48.snd)
 fun p50 ↦
 Option.bind
 (AV.int?
 IntKind.i64 p50.fst)
 fun _ ↦
 Option.bind
 (nil? p50.snd)
 fun _ ↦
 Option.bind
 (uncons?
 j47.snd.snd)
 fun p53 ↦
 Option.bind
 (obIs
 (Ob.mk
 OK.arr 83
 1 1 p11.fst.es)
 p53.fst)
 fun _ ↦
 Option.bind
 (chk
 p53.fst.ver 1)
 fun _ ↦
 Option.bind
 (uncons?
 p53.snd)
 fun p56 ↦
 Option.bind
 (obIs
 (Ob.mk
 OK.arr
 36 2 2
 p14.fst.es)
 p56.fst)
 fun _ ↦
 Option.bind
 (chk
 p56.fst.ver 2)
 fun _ ↦
 Option.bind
 (uncons?
 p56.snd)
 fun p59 ↦
 Option.bind
 (obIs
 (Ob.mk
 OK.dead
 36 2 2 [])
 p59.fst)
 fun _ ↦
 Option.bind
 (chk
 p59.fst.ver
 2)
 fun _ ↦
 Option.bind
 (uncons?
 p59.snd)
 fun p62 ↦
 Option.bind
 (obIs
 (Ob.mk
 OK.dead
 36 2
 2
 [])
 p62.fst)
 fun
 _ ↦
 Option.bind
 (chk
 p62.fst.ver
 2)
 fun
 _ ↦
 Option.bind
 (uncons?
 p62.snd)
 fun
 p65 ↦
 Option.bind
 (obIs
 (Ob.mk
 OK.box
 36
 2
 0
 [[vbool
 b31,
 AV.list
 0
 2
 es33]])
 p65.fst)
 fun
 _ ↦
 Option.bind
 (chk
 p65.fst.ver
 0)
 fun
 _ ↦
 Option.bind
 (uncons?
 p65.fst.es)
 fun
 p68 ↦
 Option.bind
 (nil?
 p68.snd)
 fun
 _ ↦
 Option.bind
 (uncons?
 p68.fst)
 fun
 p70 ↦
 Option.bind
 (AV.bool?
 p70.fst)
 fun
 b71 ↦
 Option.bind
 (uncons?
 p70.snd)
 fun
 p72 ↦
 Option.bind
 (AV.list?
 2
 p72.fst)
 fun
 es73 ↦
 Option.bind
 (nil?
 p72.snd)
 fun
 _ ↦
 Option.bind
 (nil?
 p65.snd)
 fun
 _ ↦
 bif
 decide
 ((x6.snd.snd : Int) =
 0) then
 bif
 decide
 (((List.length
 es73) : Int) =
 0) then
 some
 (Out.ret
 (vbool
 true),
 [])
 else
 some
 (Out.ret
 (vbool
 false),
 [])
 else
 Option.bind
 (E
 cx
 (Key.fn
 42)
 [AV.agg
 [vbool
 b71,
 AV.list
 0
 2
 es73],
 vu
 (IntKind.wrap
 IntKind.u64
 (Int.add
 root1
 1))]
 [])
 fun
 r76 ↦
 Option.bind
 (ret1
 r76)
 fun
 v77 ↦
 Option.bind
 (AV.tup?
 v77)
 fun
 vs78 ↦
 Option.bind
 (uncons?
 vs78)
 fun
 p79 ↦
 Option.bind
 (AV.list?
 1
 p79.fst)
 fun
 _ ↦
 Option.bind
 (uncons?
 p79.snd)
 fun
 p81 ↦
 Option.bind
 (AV.bool?
 p81.fst)
 fun
 b82 ↦
 bif
 b82 then
 Option.bind
 (nil?
 p81.snd)
 fun
 _ ↦
 if
 0 <
 (x6.snd.snd : Int) then
 Option.bind
 (nth
 p56.fst.es
 (Nat.add
 x6.snd.fst
 0))
 fun
 cs84 ↦
 Option.bind
 (uncons?
 cs84)
 fun
 p85 ↦
 Option.bind
 (AV.bool?
 p85.fst)
 fun
 b86 ↦
 Option.bind
 (uncons?
 p85.snd)
 fun
 p87 ↦
 Option.bind
 (AV.list?
 2
 p87.fst)
 fun
 es88 ↦
 Option.bind
 (nil?
 p87.snd)
 fun
 _ ↦
 Option.bind
 (E
 cx
 (Key.fn
 45)
 [AV.list
 0
 2
 [[vbool
 b71,
 AV.list
 0
 2
 es73],
 [vbool
 b86,
 AV.list
 0
 2
 es88]]]
 [])
 fun
 r90 ↦
 Option.bind
 (ret1
 r90)
 fun
 v91 ↦
 Option.bind
 (AV.tup?
 v91)
 fun
 vs92 ↦
 Option.bind
 (uncons?
 vs92)
 fun
 p93 ↦
 Option.bind
 (AV.cells?
 p93.fst)
 fun
 cs94 ↦
 Option.bind
 (uncons?
 cs94)
 fun
 p95 ↦
 Option.bind
 (AV.bool?
 p95.fst)
 fun
 b96 ↦
 Option.bind
 (uncons?
 p95.snd)
 fun
 p97 ↦
 Option.bind
 (AV.list?
 2
 p97.fst)
 fun
 es98 ↦
 Option.bind
 (nil?
 p97.snd)
 fun
 _ ↦
 Option.bind
 (uncons?
 p93.snd)
 fun
 p100 ↦
 Option.bind
 (AV.int?
 IntKind.i64
 p100.fst)
 fun
 _ ↦
 Option.bind
 (nil?
 p100.snd)
 fun
 _ ↦
 Option.bind
 (E
 cx
 (Key.fn
 42)
 [AV.agg
 [vbool
 b96,
 AV.list
 0
 2
 es98],
 vu
 root1]
 [])
 fun
 r103 ↦
 Option.bind
 (ret1
 r103)
 fun
 v104 ↦
 Option.bind
 (AV.tup?
 v104)
 fun
 vs105 ↦
 Option.bind
 (uncons?
 vs105)
 fun
 p106 ↦
 Option.bind
 (AV.list?
 1
 p106.fst)
 fun
 _ ↦
 Option.bind
 (uncons?
 p106.snd)
 fun
 p108 ↦
 Option.bind
 (AV.bool?
 p108.fst)
 fun
 b109 ↦
 bif
 b109 then
 Option.bind
 (nil?
 p108.snd)
 fun
 _ ↦
 some
 (Out.ret
 (vbool
 false),
 [])
 else
 Option.bind
 (nil?
 p108.snd)
 fun
 _ ↦
 some
 (Out.ret
 (vbool
 false),
 [])
 else
 none
 else
 Option.bind
 (nil?
 p81.snd)
 fun
 _ ↦
 if
 0 <
 (x6.snd.snd : Int) then
 Option.bind
 (nth
 p56.fst.es
 (Nat.add
 x6.snd.fst
 0))
 fun
 cs113 ↦
 Option.bind
 (uncons?
 cs113)
 fun
 p114 ↦
 Option.bind
 (AV.bool?
 p114.fst)
 fun
 b115 ↦
 Option.bind
 (uncons?
 p114.snd)
 fun
 p116 ↦
 Option.bind
 (AV.list?
 2
 p116.fst)
 fun
 es117 ↦
 Option.bind
 (nil?
 p116.snd)
 fun
 _ ↦
 Option.bind
 (E
 cx
 (Key.fn
 45)
 [AV.list
 0
 2
 [[vbool
 b71,
 AV.list
 0
 2
 es73],
 [vbool
 b115,
 AV.list
 0
 2
 es117]]]
 [])
 fun
 r119 ↦
 Option.bind
 (ret1
 r119)
 fun
 v120 ↦
 Option.bind
 (AV.tup?
 v120)
 fun
 vs121 ↦
 Option.bind
 (uncons?
 vs121)
 fun
 p122 ↦
 Option.bind
 (AV.cells?
 p122.fst)
 fun
 cs123 ↦
 Option.bind
 (uncons?
 cs123)
 fun
 p124 ↦
 Option.bind
 (AV.bool?
 p124.fst)
 fun
 b125 ↦
 Option.bind
 (uncons?
 p124.snd)
 fun
 p126 ↦
 Option.bind
 (AV.list?
 2
 p126.fst)
 fun
 es127 ↦
 Option.bind
 (nil?
 p126.snd)
 fun
 _ ↦
 Option.bind
 (uncons?
 p122.snd)
 fun
 p129 ↦
 Option.bind
 (AV.int?
 IntKind.i64
 p129.fst)
 fun
 n130 ↦
 Option.bind
 (nil?
 p129.snd)
 fun
 _ ↦
 Option.bind
 (E
 cx
 (Key.fn
 42)
 [AV.agg
 [vbool
 b125,
 AV.list
 0
 2
 es127],
 vu
 root1]
 [])
 fun
 r132 ↦
 Option.bind
 (ret1
 r132)
 fun
 v133 ↦
 Option.bind
 (AV.tup?
 v133)
 fun
 vs134 ↦
 Option.bind
 (uncons?
 vs134)
 fun
 p135 ↦
 Option.bind
 (AV.list?
 1
 p135.fst)
 fun
 _ ↦
 Option.bind
 (uncons?
 p135.snd)
 fun
 p137 ↦
 Option.bind
 (AV.bool?
 p137.fst)
 fun
 b138 ↦
 bif
 b138 then
 Option.bind
 (nil?
 p137.snd)
 fun
 _ ↦
 bif
 decide
 (n130 =
 0) then
 some
 (Out.ret
 (vbool
 false),
 [])
 else
 some
 (Out.ret
 (vbool
 false),
 [])
 else
 Option.bind
 (nil?
 p137.snd)
 fun
 _ ↦
 bif
 decide
 (n130 =
 0) then
 some
 (Out.ret
 (vbool
 true),
 [])
 else
 some
 (Out.ret
 (vbool
 false),
 [])
 else
 none
 else
 bif
 JX.is j47.fst
 JX.ret then
 Option.bind
 (uncons? j47.snd.fst)
 fun p141 ↦
 Option.bind
 (AV.bool? p141.fst)
 fun b142 ↦
 Option.bind
 (uncons? p141.snd)
 fun p143 ↦
 Option.bind
 (AV.int?
 IntKind.i64 p143.fst)
 fun _ ↦
 Option.bind
 (nil? p143.snd)
 fun _ ↦
 Option.bind
 (uncons?
 j47.snd.snd)
 fun p146 ↦
 Option.bind
 (obIs
 (Ob.mk
 OK.arr
 83 1 1 p11.fst.es)
 p146.fst)
 fun _ ↦
 Option.bind
 (chk
 p146.fst.ver 1)
 fun _ ↦
 Option.bind
 (uncons?
 p146.snd)
 fun p149 ↦
 Option.bind
 (obIs
 (Ob.mk
 OK.arr
 36 2 2
 p14.fst.es)
 p149.fst)
 fun _ ↦
 Option.bind
 (chk
 p149.fst.ver
 2)
 fun _ ↦
 Option.bind
 (uncons?
 p149.snd)
 fun p152 ↦
 Option.bind
 (obIs
 (Ob.mk
 OK.dead
 36 2 2
 [])
 p152.fst)
 fun _ ↦
 Option.bind
 (chk
 p152.fst.ver
 2)
 fun _ ↦
 Option.bind
 (uncons?
 p152.snd)
 fun
 p155 ↦
 Option.bind
 (obIs
 (Ob.mk
 OK.dead
 36
 2
 2
 [])
 p155.fst)
 fun
 _ ↦
 Option.bind
 (chk
 p155.fst.ver
 2)
 fun
 _ ↦
 Option.bind
 (uncons?
 p155.snd)
 fun
 p158 ↦
 Option.bind
 (obIs
 (Ob.mk
 OK.box
 36
 2
 0
 [[vbool
 b31,
 AV.list
 0
 2
 es33]])
 p158.fst)
 fun
 _ ↦
 Option.bind
 (chk
 p158.fst.ver
 0)
 fun
 _ ↦
 Option.bind
 (uncons?
 p158.fst.es)
 fun
 p161 ↦
 Option.bind
 (nil?
 p161.snd)
 fun
 _ ↦
 Option.bind
 (uncons?
 p161.fst)
 fun
 p163 ↦
 Option.bind
 (AV.bool?
 p163.fst)
 fun
 _ ↦
 Option.bind
 (uncons?
 p163.snd)
 fun
 p165 ↦
 Option.bind
 (AV.list?
 2
 p165.fst)
 fun
 _ ↦
 Option.bind
 (nil?
 p165.snd)
 fun
 _ ↦
 Option.bind
 (nil?
 p158.snd)
 fun
 _ ↦
 some
 (Out.ret
 (vbool
 b142),
 [])
 else none
 else
 Option.bind (nil? p43.snd) fun _ ↦
 bif n36 != 0 then
 some
 (Out.ret
 (vbool false),
 [])
 else
 some
 (Out.ret
 (vbool false),
 [])
 else none
 else none
 else none
 else none
 else none
 else none
 else none
 else none
 else none := by
  intros
  exact (E_ov f36_true [188] _ _ _).trans (by kernel_rfl)


noncomputable def q9_l0_0 : Nat → Int → List (List AV) → List (List AV) → Option (Out × Heap) :=
 fun n170 x171 l177 l178 ↦
 some
 (Out.jump (JX.exit 0) [AV.arr 1 2 0 n170, vi x171],
 [Ob.mk OK.arr 83 1 1 l177, Ob.mk OK.arr 36 2 2 l178])


theorem f9_l0 : ∀ (n170 : Nat) (x171 : Int) (l172 : List (List AV)) (x173 x174 : Int) (b175 b176 : Bool) (l177 l178 : List (List AV)),
 E cx (Key.loop 9 [true, true, true, true, false, true, false])
 [AV.arr 1 2 0 n170, vi x171, AV.list 0 1 l172, vu x173, vi x174, vbool b175,
 vbool b176, AV.ptr 0 1 0 0]
 [Ob.mk OK.arr 83 1 1 l177, Ob.mk OK.arr 36 2 2 l178] =
 bif decide (x171 < ((List.length l172) : Int)) then
 bif decide (x171 < 20) then
 if 0 ≤ x171 then
 Option.bind l172[Int.toNat x171]? fun cs179 ↦
 Option.bind (uncons? cs179) fun p180 ↦
 Option.bind (AV.int? IntKind.i64 p180.fst) fun n181 ↦
 Option.bind (nil? p180.snd) fun _ ↦
 Option.bind (E cx (Key.fn 48) [vi n181, vi 40] []) fun r183 ↦
 Option.bind (ret1 r183) fun v184 ↦
 Option.bind (AV.int? IntKind.i64 v184) fun n185 ↦
 if 0 ≤ n185 then
 if n185 < 40 then
 Option.bind (nth l177 (Nat.add 0 (Int.toNat n185))) fun cs186 ↦
 Option.bind (uncons? cs186) fun p187 ↦
 Option.bind (AV.bool? p187.fst) fun b188 ↦
 Option.bind (nil? p187.snd) fun _ ↦
 bif !b188 then
 if 0 ≤ n185 then
 if n185 < 40 then
 Option.bind (nth l177 (Nat.add 0 (Int.toNat n185))) fun cs190 ↦
 Option.bind (uncons? cs190) fun p191 ↦
 Option.bind (AV.bool? p191.fst) fun _ ↦
 Option.bind (nil? p191.snd) fun _ ↦
 Option.bind
 (E cx (Key.fn 51)
 [vu (IntKind.wrap IntKind.u64 n185), vu x173] [])
 fun r194 ↦
 Option.bind (ret1 r194) fun v195 ↦
 Option.bind (AV.cells? v195) fun cs196 ↦
 Option.bind (uncons? cs196) fun p197 ↦
 Option.bind (AV.bool? p197.fst) fun b198 ↦
 Option.bind (uncons? p197.snd) fun p199 ↦
 Option.bind (AV.list? 2 p199.fst) fun es200 ↦
 Option.bind (nil? p199.snd) fun _ ↦
 Option.bind
 (chk n170
 (List.length (Ob.mk OK.arr 36 2 2 l178).es))
 fun _ ↦
 if
 Nat.mul
 (Nat.add (List.length (Ob.mk OK.arr 36 2 2 l178).es) 1)
 32 ≤
 140737488355328 then
 E cx
 (Key.loop 9 [true, true, true, true, false, true, false])
 [AV.arr 1 2 0
 (Nat.add (List.length (Ob.mk OK.arr 36 2 2 l178).es) 1),
 vi (IntKind.wrap IntKind.i64 (Int.add x171 1)),
 AV.list 0 1 l172, vu x173, vi x174,
 vbool b175, vbool b176, AV.ptr 0 1 0 0]
 [Ob.mk OK.arr 83 1 1
 (List.set l177 (Nat.add 0 (Int.toNat n185)) [vbool true]),
 Ob.mk OK.arr 36 2 2
 ((Ob.mk OK.arr 36 2 2 l178).es ++
 [[vbool b198, AV.list 0 2 es200]])]
 else none
 else none
 else none
 else
 E cx (Key.loop 9 [true, true, true, true, false, true, false])
 [AV.arr 1 2 0 n170, vi (IntKind.wrap IntKind.i64 (Int.add x171 1)),
 AV.list 0 1 l172, vu x173, vi x174, vbool b175,
 vbool b176, AV.ptr 0 1 0 0]
 [Ob.mk OK.arr 83 1 1 l177, Ob.mk OK.arr 36 2 2 l178]
 else none
 else none
 else none
 else q9_l0_0 n170 x171 l177 l178
 else q9_l0_0 n170 x171 l177 l178 := by
  intros
  exact (E_ov f36_true [188] _ _ _).trans (by kernel_rfl)


noncomputable def q9_l1_0 : Int → List (List AV) → List (List AV) → Bool → List (List AV) → Option (Out × Heap) :=
 fun x204 l210 l211 b212 l213 ↦
 some
 (Out.jump JX.ret [vbool false, vi x204],
 [Ob.mk OK.arr 83 1 1 l210, Ob.mk OK.arr 36 2 2 l211,
 Ob.mk OK.dead 36 2 2 [], Ob.mk OK.dead 36 2 2 [],
 Ob.mk OK.box 36 2 0 [[vbool b212, AV.list 0 2 l213]]])


noncomputable def q9_l1_1 : Bool →
 Int →
 Int →
 Bool →
 Nat →
 Nat →
 List (List AV) →
 List (List AV) → List (List AV) → Bool → List (List AV) → Option (Out × Heap) :=
 fun b203 x204 x205 b206 o207 n208 l209 l210 l211 b212 l213 ↦
 E cx (Key.loop 9 [true, true, true, true, true, true, true, true, true, false, true, false])
 [vbool b203, vi (IntKind.wrap IntKind.i64 (Int.add x204 1)), vu x205, vbool b206,
 AV.arr 1 2 o207 n208, AV.ptr 0 1 0 0, AV.ptr 4 0 0 0, AV.list 0 1 l209]
 [Ob.mk OK.arr 83 1 1 l210, Ob.mk OK.arr 36 2 2 l211, Ob.mk OK.dead 36 2 2 [],
 Ob.mk OK.dead 36 2 2 [],
 Ob.mk OK.box 36 2 0 [[vbool b212, AV.list 0 2 l213]]]


theorem f9_l1 : ∀ (b203 : Bool) (x204 x205 : Int) (b206 : Bool) (o207 n208 : Nat) (l209 l210 l211 : List (List AV)) (b212 : Bool)
 (l213 : List (List AV)),
 E cx (Key.loop 9 [true, true, true, true, true, true, true, true, true, false, true, false])
 [vbool b203, vi x204, vu x205, vbool b206, AV.arr 1 2 o207 n208,
 AV.ptr 0 1 0 0, AV.ptr 4 0 0 0, AV.list 0 1 l209]
 [Ob.mk OK.arr 83 1 1 l210, Ob.mk OK.arr 36 2 2 l211,
 Ob.mk OK.dead 36 2 2 [], Ob.mk OK.dead 36 2 2 [],
 Ob.mk OK.box 36 2 0 [[vbool b212, AV.list 0 2 l213]]] =
 bif decide (x204 < ((List.length l209) : Int)) then
 if 0 ≤ x204 then
 Option.bind l209[Int.toNat x204]? fun cs214 ↦
 Option.bind (uncons? cs214) fun p215 ↦
 Option.bind (AV.int? IntKind.u64 p215.fst) fun n216 ↦
 Option.bind (nil? p215.snd) fun _ ↦
 bif decide (n216 ≥ 40) then q9_l1_0 x204 l210 l211 b212 l213
 else
 if 0 ≤ x204 then
 Option.bind l209[Int.toNat x204]? fun cs218 ↦
 Option.bind (uncons? cs218) fun p219 ↦
 Option.bind (AV.int? IntKind.u64 p219.fst) fun n220 ↦
 Option.bind (nil? p219.snd) fun _ ↦
 if 0 ≤ n220 then
 if n220 < 40 then
 Option.bind (nth l210 (Nat.add 0 (Int.toNat n220))) fun cs222 ↦
 Option.bind (uncons? cs222) fun p223 ↦
 Option.bind (AV.bool? p223.fst) fun b224 ↦
 Option.bind (nil? p223.snd) fun _ ↦
 bif !b224 then q9_l1_0 x204 l210 l211 b212 l213
 else
 bif decide (x204 > 0) then
 if 0 ≤ IntKind.wrap IntKind.i64 (Int.sub x204 1) then
 Option.bind l209[Int.toNat (IntKind.wrap IntKind.i64 (Int.sub x204 1))]? fun cs226 ↦
 Option.bind (uncons? cs226) fun p227 ↦
 Option.bind (AV.int? IntKind.u64 p227.fst) fun n228 ↦
 Option.bind (nil? p227.snd) fun _ ↦
 if 0 ≤ x204 then
 Option.bind l209[Int.toNat x204]? fun cs230 ↦
 Option.bind (uncons? cs230) fun p231 ↦
 Option.bind (AV.int? IntKind.u64 p231.fst) fun n232 ↦
 Option.bind (nil? p231.snd) fun _ ↦
 bif decide (n228 ≥ n232) then q9_l1_0 x204 l210 l211 b212 l213
 else q9_l1_1 b203 x204 x205 b206 o207 n208 l209 l210 l211 b212 l213
 else none
 else none
 else q9_l1_1 b203 x204 x205 b206 o207 n208 l209 l210 l211 b212 l213
 else none
 else none
 else none
 else none
 else
 some
 (Out.jump (JX.exit 2) [vbool b203, vi x204],
 [Ob.mk OK.arr 83 1 1 l210, Ob.mk OK.arr 36 2 2 l211,
 Ob.mk OK.dead 36 2 2 [], Ob.mk OK.dead 36 2 2 [],
 Ob.mk OK.box 36 2 0 [[vbool b212, AV.list 0 2 l213]]]) := by
  intros
  exact (E_ov f36_true [188] _ _ _).trans (by kernel_rfl)

end Go.Proofs.Av
