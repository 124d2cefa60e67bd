/- More trees. -/
import Derived.Test.YtoaihfbmoppajaaAdX
set_option maxRecDepth 100000
namespace Go.Proofs.Av
open Go
theorem f52 : ∀ (is0 : Bool) (why1 : Int),
 E cx (Key.fn 52) [vbool is0, vi why1] [] =
 bif !is0 then some (Out.jump (JX.pan (AV.iface 72 (AV.agg [vi why1]))) [], [])
 else some (Out.ret (AV.tuple []), []) := by
  intros
  exact (E_in [52] _ _ _).trans (by kernel_rfl)


theorem f42 : ∀ (s2 : ByteArray) (fixed3 many4 : Int),
 E cx (Key.fn 42) [vs s2, vi fixed3, vi many4] [] =
 bif decide (fixed3 ≥ 0) then
 bif decide (fixed3 ≤ 65536) then
 bif decide (many4 ≥ 0) then
 bif decide (many4 ≤ 8) then
 bif decide (((ByteArray.size s2) : Int) ≤ 65536) then
 bif decide (((ByteArray.size s2) : Int) ≥ IntKind.wrap IntKind.i64 (Int.add fixed3 (IntKind.wrap IntKind.i64 (Int.mul 4 many4)))) then
 if 0 ≤ IntKind.wrap IntKind.i64 (Int.add fixed3 (IntKind.wrap IntKind.i64 (Int.mul 4 many4))) then
 if IntKind.wrap IntKind.i64 (Int.add fixed3 (IntKind.wrap IntKind.i64 (Int.mul 4 many4))) ≤ ((ByteArray.size s2) : Int) then
 if 0 ≤ fixed3 then
 if fixed3 ≤ ((Int.toNat (IntKind.wrap IntKind.i64 (Int.add fixed3 (IntKind.wrap IntKind.i64 (Int.mul 4 many4))))) : Int) then
 Option.bind
 (E cx (Key.loop 42 [true, true, true, true, true, true, true, false, true, false])
 [AV.arr 0 1 0 1,
 vs
 (ByteArray.extract s2 (Int.toNat fixed3)
 (Int.toNat (IntKind.wrap IntKind.i64 (Int.add fixed3 (IntKind.wrap IntKind.i64 (Int.mul 4 many4)))))),
 vi 0, vs s2, vi many4,
 vi (IntKind.wrap IntKind.i64 (Int.add fixed3 (IntKind.wrap IntKind.i64 (Int.mul 4 many4)))),
 vi many4]
 [Ob.mk OK.arr 3 1 1
 [[vi (IntKind.wrap IntKind.i64 (Int.add fixed3 (IntKind.wrap IntKind.i64 (Int.mul 4 many4))))]]])
 fun r5 ↦
 Option.bind (asJump r5) fun j6 ↦
 bif JX.isPan j6.fst then
 Option.bind (JX.panX 72 j6.fst) fun x7 ↦
 Option.bind (AV.cells? x7) fun cs8 ↦
 Option.bind (uncons? cs8) fun p9 ↦
 Option.bind (AV.int? IntKind.i64 p9.fst) fun n10 ↦
 Option.bind (nil? p9.snd) fun _ ↦
 Option.bind (uncons? j6.snd.fst) fun p12 ↦
 Option.bind (AV.arr? 0 p12.fst) fun x13 ↦
 Option.bind (chk x13.fst 1) fun _ ↦
 Option.bind (uncons? p12.snd) fun p15 ↦
 Option.bind (AV.str? p15.fst) fun _ ↦
 Option.bind (uncons? p15.snd) fun p17 ↦
 Option.bind (AV.int? IntKind.i64 p17.fst) fun _ ↦
 Option.bind (nil? p17.snd) fun _ ↦
 Option.bind (uncons? j6.snd.snd) fun p20 ↦
 Option.bind
 (obIs
 (Ob.mk OK.arr 3 1 1
 [[vi
 (IntKind.wrap IntKind.i64
 (Int.add fixed3 (IntKind.wrap IntKind.i64 (Int.mul 4 many4))))]])
 p20.fst)
 fun _ ↦
 Option.bind (chk p20.fst.ver 1) fun _ ↦
 Option.bind (nil? p20.snd) fun _ ↦
 some
 (Out.jump
 (JX.pan
 (AV.iface 72 (AV.agg [vi n10])))
 [],
 [])
 else
 bif JX.is j6.fst (JX.exit 0) then
 Option.bind (uncons? j6.snd.fst) fun p24 ↦
 Option.bind (AV.arr? 0 p24.fst) fun x25 ↦
 Option.bind (chk x25.fst 1) fun _ ↦
 Option.bind (uncons? p24.snd) fun p27 ↦
 Option.bind (AV.str? p27.fst) fun _ ↦
 Option.bind (uncons? p27.snd) fun p29 ↦
 Option.bind (AV.int? IntKind.i64 p29.fst) fun _ ↦
 Option.bind (nil? p29.snd) fun _ ↦
 Option.bind (uncons? j6.snd.snd) fun p32 ↦
 Option.bind
 (obIs
 (Ob.mk OK.arr 3 1 1
 [[vi
 (IntKind.wrap IntKind.i64
 (Int.add fixed3 (IntKind.wrap IntKind.i64 (Int.mul 4 many4))))]])
 p32.fst)
 fun _ ↦
 Option.bind (chk p32.fst.ver 1) fun _ ↦
 Option.bind (nil? p32.snd) fun _ ↦
 Option.bind (chk x25.snd.fst 0) fun _ ↦
 Option.bind
 (chk x25.snd.snd
 (List.length (Ob.mk OK.arr 3 1 1 p32.fst.es).es))
 fun _ ↦
 if
 Nat.mul (Nat.add (List.length (Ob.mk OK.arr 3 1 1 p32.fst.es).es) 1)
 8 ≤
 140737488355328 then
 Option.bind
 (E cx
 (Key.loop 42
 [true, true, true, true, true, true, true, true, true, false, true, false])
 [vi 1, vs s2, vi many4,
 vi
 (IntKind.wrap IntKind.i64
 (Int.add fixed3 (IntKind.wrap IntKind.i64 (Int.mul 4 many4)))),
 AV.arr 1 1 0
 (Nat.add (List.length (Ob.mk OK.arr 3 1 1 p32.fst.es).es) 1)]
 [Ob.mk OK.dead 3 1 1 [],
 Ob.mk OK.arr 3 1 1
 ((Ob.mk OK.arr 3 1 1 p32.fst.es).es ++
 [[vi ((ByteArray.size s2) : Int)]])])
 fun r38 ↦
 Option.bind (asJump r38) fun j39 ↦
 bif JX.isPan j39.fst then
 Option.bind (JX.panX 72 j39.fst) fun x40 ↦
 Option.bind (AV.cells? x40) fun cs41 ↦
 Option.bind (uncons? cs41) fun p42 ↦
 Option.bind (AV.int? IntKind.i64 p42.fst) fun n43 ↦
 Option.bind (nil? p42.snd) fun _ ↦
 Option.bind (uncons? j39.snd.fst) fun p45 ↦
 Option.bind (AV.int? IntKind.i64 p45.fst) fun _ ↦
 Option.bind (nil? p45.snd) fun _ ↦
 Option.bind (uncons? j39.snd.snd) fun p48 ↦
 Option.bind
 (obIs (Ob.mk OK.dead 3 1 1 [])
 p48.fst)
 fun _ ↦
 Option.bind (chk p48.fst.ver 1) fun _ ↦
 Option.bind (uncons? p48.snd) fun p51 ↦
 Option.bind
 (obIs
 (Ob.mk OK.arr 3 1 1
 ((Ob.mk OK.arr 3 1 1
 p32.fst.es).es ++
 [[vi ((ByteArray.size s2) : Int)]]))
 p51.fst)
 fun _ ↦
 Option.bind (chk p51.fst.ver 1) fun _ ↦
 Option.bind (nil? p51.snd) fun _ ↦
 some
 (Out.jump
 (JX.pan
 (AV.iface 72
 (AV.agg [vi n43])))
 [],
 [])
 else
 bif JX.is j39.fst (JX.exit 2) then
 Option.bind (uncons? j39.snd.fst) fun p55 ↦
 Option.bind (AV.int? IntKind.i64 p55.fst) fun _ ↦
 Option.bind (nil? p55.snd) fun _ ↦
 Option.bind (uncons? j39.snd.snd) fun p58 ↦
 Option.bind
 (obIs (Ob.mk OK.dead 3 1 1 []) p58.fst)
 fun _ ↦
 Option.bind (chk p58.fst.ver 1) fun _ ↦
 Option.bind (uncons? p58.snd) fun p61 ↦
 Option.bind
 (obIs
 (Ob.mk OK.arr 3 1 1
 ((Ob.mk OK.arr 3 1 1 p32.fst.es).es ++
 [[vi ((ByteArray.size s2) : Int)]]))
 p61.fst)
 fun _ ↦
 Option.bind (chk p61.fst.ver 1) fun _ ↦
 Option.bind (nil? p61.snd) fun _ ↦
 bif decide (many4 > 0) then
 Option.bind
 (chkLe
 (Nat.add 0
 (Nat.add
 (List.length
 (Ob.mk OK.arr 3 1 1
 p32.fst.es).es)
 1))
 (List.length p61.fst.es))
 fun _ ↦
 some
 (Out.ret
 (AV.list 0 1
 (List.drop 0
 (List.take
 (Nat.add 0
 (Nat.add
 (List.length
 (Ob.mk OK.arr 3 1 1
 p32.fst.es).es)
 1))
 p61.fst.es))),
 [])
 else
 bif
 decide
 (IntKind.wrap IntKind.i64
 (Int.add fixed3
 (IntKind.wrap IntKind.i64 (Int.mul 4 many4))) =
 ((ByteArray.size s2) : Int)) then
 Option.bind
 (chkLe
 (Nat.add 0
 (Nat.add
 (List.length
 (Ob.mk OK.arr 3 1 1
 p32.fst.es).es)
 1))
 (List.length p61.fst.es))
 fun _ ↦
 some
 (Out.ret
 (AV.list 0 1
 (List.drop 0
 (List.take
 (Nat.add 0
 (Nat.add
 (List.length
 (Ob.mk OK.arr 3 1 1
 p32.fst.es).es)
 1))
 p61.fst.es))),
 [])
 else
 some
 (Out.jump
 (JX.pan
 (AV.iface 72
 (AV.agg [vi 2])))
 [],
 [])
 else none
 else none
 else none
 else none
 else none
 else none
 else none
 else some (Out.jump (JX.pan (AV.iface 72 (AV.agg [vi 3]))) [], [])
 else some (Out.jump (JX.pan (AV.iface 72 (AV.agg [vi 4]))) [], [])
 else some (Out.jump (JX.pan (AV.iface 72 (AV.agg [vi 1]))) [], [])
 else some (Out.jump (JX.pan (AV.iface 72 (AV.agg [vi 1]))) [], [])
 else some (Out.jump (JX.pan (AV.iface 72 (AV.agg [vi 1]))) [], [])
 else some (Out.jump (JX.pan (AV.iface 72 (AV.agg [vi 1]))) [], []) := by
  intros
  exact (E_in [52] _ _ _).trans (by kernel_rfl)

theorem f42_l0 : ∀ (n67 : Nat) (s68 : ByteArray) (x69 : Int) (s70 : ByteArray) (x71 x72 x73 : Int) (l74 : List (List AV)),
 E cx (Key.loop 42 [true, true, true, true, true, true, true, false, true, false])
 [AV.arr 0 1 0 n67, vs s68, vi x69, vs s70, vi x71, vi x72,
 vi x73]
 [Ob.mk OK.arr 3 1 1 l74] =
 bif decide (x69 < x73) then
 Option.bind (E cx (Key.fn 16) [vs s68, vi 4] []) fun r75 ↦
 Option.bind (ret1 r75) fun v76 ↦
 Option.bind (AV.tup? v76) fun vs77 ↦
 Option.bind (uncons? vs77) fun p78 ↦
 Option.bind (AV.int? IntKind.u64 p78.fst) fun n79 ↦
 Option.bind (uncons? p78.snd) fun p80 ↦
 Option.bind (AV.str? p80.fst) fun s81 ↦
 Option.bind (uncons? p80.snd) fun p82 ↦
 Option.bind (AV.int? IntKind.i64 p82.fst) fun _ ↦
 Option.bind (nil? p82.snd) fun _ ↦
 bif decide (x69 > 0) then
 Option.bind (chk n67 (List.length (Ob.mk OK.arr 3 1 1 l74).es)) fun _ ↦
 if Nat.mul (Nat.add (List.length (Ob.mk OK.arr 3 1 1 l74).es) 1) 8 ≤ 140737488355328 then
 bif decide (x69 > 0) then
 E cx (Key.loop 42 [true, true, true, true, true, true, true, false, true, false])
 [AV.arr 0 1 0 (Nat.add (List.length (Ob.mk OK.arr 3 1 1 l74).es) 1),
 vs s81, vi (IntKind.wrap IntKind.i64 (Int.add x69 1)), vs s70,
 vi x71, vi x72, vi x73]
 [Ob.mk OK.arr 3 1 1
 ((Ob.mk OK.arr 3 1 1 l74).es ++ [[vi (IntKind.wrap IntKind.i64 n79)]])]
 else
 bif decide (IntKind.wrap IntKind.i64 n79 = x72) then
 E cx (Key.loop 42 [true, true, true, true, true, true, true, false, true, false])
 [AV.arr 0 1 0 (Nat.add (List.length (Ob.mk OK.arr 3 1 1 l74).es) 1),
 vs s81, vi (IntKind.wrap IntKind.i64 (Int.add x69 1)), vs s70,
 vi x71, vi x72, vi x73]
 [Ob.mk OK.arr 3 1 1
 ((Ob.mk OK.arr 3 1 1 l74).es ++ [[vi (IntKind.wrap IntKind.i64 n79)]])]
 else
 some
 (Out.jump (JX.pan (AV.iface 72 (AV.agg [vi 2])))
 [AV.arr 0 1 0 (Nat.add (List.length (Ob.mk OK.arr 3 1 1 l74).es) 1),
 vs s81, vi x69],
 [Ob.mk OK.arr 3 1 1
 ((Ob.mk OK.arr 3 1 1 l74).es ++
 [[vi (IntKind.wrap IntKind.i64 n79)]])])
 else none
 else
 bif decide (x69 > 0) then
 E cx (Key.loop 42 [true, true, true, true, true, true, true, false, true, false])
 [AV.arr 0 1 0 n67, vs s81, vi (IntKind.wrap IntKind.i64 (Int.add x69 1)),
 vs s70, vi x71, vi x72, vi x73]
 [Ob.mk OK.arr 3 1 1 l74]
 else
 bif decide (IntKind.wrap IntKind.i64 n79 = x72) then
 E cx (Key.loop 42 [true, true, true, true, true, true, true, false, true, false])
 [AV.arr 0 1 0 n67, vs s81, vi (IntKind.wrap IntKind.i64 (Int.add x69 1)),
 vs s70, vi x71, vi x72, vi x73]
 [Ob.mk OK.arr 3 1 1 l74]
 else
 some
 (Out.jump (JX.pan (AV.iface 72 (AV.agg [vi 2])))
 [AV.arr 0 1 0 n67, vs s81, vi x69],
 [Ob.mk OK.arr 3 1 1 l74])
 else
 some
 (Out.jump (JX.exit 0) [AV.arr 0 1 0 n67, vs s68, vi x69],
 [Ob.mk OK.arr 3 1 1 l74]) := by
  intros
  exact (E_in [52] _ _ _).trans (by kernel_rfl)

theorem f42_l1 : ∀ (x86 : Int) (s87 : ByteArray) (x88 x89 : Int) (n90 : Nat) (l91 : List (List AV)),
 E cx (Key.loop 42 [true, true, true, true, true, true, true, true, true, false, true, false])
 [vi x86, vs s87, vi x88, vi x89, AV.arr 1 1 0 n90]
 [Ob.mk OK.dead 3 1 1 [], Ob.mk OK.arr 3 1 1 l91] =
 bif decide (x86 < (n90 : Int)) then
 if 0 ≤ IntKind.wrap IntKind.i64 (Int.sub x86 1) then
 if IntKind.wrap IntKind.i64 (Int.sub x86 1) < (n90 : Int) then
 Option.bind (nth l91 (Nat.add 0 (Int.toNat (IntKind.wrap IntKind.i64 (Int.sub x86 1))))) fun cs92 ↦
 Option.bind (uncons? cs92) fun p93 ↦
 Option.bind (AV.int? IntKind.i64 p93.fst) fun n94 ↦
 Option.bind (nil? p93.snd) fun _ ↦
 if 0 ≤ x86 then
 if x86 < (n90 : Int) then
 Option.bind (nth l91 (Nat.add 0 (Int.toNat x86))) fun cs96 ↦
 Option.bind (uncons? cs96) fun p97 ↦
 Option.bind (AV.int? IntKind.i64 p97.fst) fun n98 ↦
 Option.bind (nil? p97.snd) fun _ ↦
 bif decide (n94 ≤ n98) then
 E cx
 (Key.loop 42 [true, true, true, true, true, true, true, true, true, false, true, false])
 [vi (IntKind.wrap IntKind.i64 (Int.add x86 1)), vs s87, vi x88,
 vi x89, AV.arr 1 1 0 n90]
 [Ob.mk OK.dead 3 1 1 [], Ob.mk OK.arr 3 1 1 l91]
 else
 some
 (Out.jump (JX.pan (AV.iface 72 (AV.agg [vi 2])))
 [vi x86],
 [Ob.mk OK.dead 3 1 1 [], Ob.mk OK.arr 3 1 1 l91])
 else none
 else none
 else none
 else none
 else
 some
 (Out.jump (JX.exit 2) [vi x86],
 [Ob.mk OK.dead 3 1 1 [], Ob.mk OK.arr 3 1 1 l91]) := by
  intros
  exact (E_in [52] _ _ _).trans (by kernel_rfl)


theorem f22 : ∀ (s100 : ByteArray) (fixed101 many102 : Int),
 E cx (Key.fn 22) [vs s100, vi fixed101, vi many102] [] =
 Option.bind (E cx (Key.fn 42) [vs s100, vi fixed101, vi many102] [])
 fun r103 ↦
 bif isPan r103 then
 Option.bind (panV 72 r103) fun x104 ↦
 Option.bind (AV.cells? x104) fun cs105 ↦
 Option.bind (uncons? cs105) fun p106 ↦
 Option.bind (AV.int? IntKind.i64 p106.fst) fun n107 ↦
 Option.bind (nil? p106.snd) fun _ ↦
 some
 (Out.ret
 (AV.tuple
 [vs (ByteArray.mk (Array.mk [])), AV.val (Go.Value.slice none 0 0), vi n107]),
 [])
 else
 Option.bind (ret1 r103) fun v109 ↦
 Option.bind (AV.list? 1 v109) fun es110 ↦
 Option.bind
 (E cx (Key.loop 22 [true, true, true, false, true, false])
 [vi 0, vs s100, vi fixed101, AV.ptr 0 0 0 0, AV.ptr 1 0 0 0,
 AV.ptr 2 0 0 0, AV.list 0 1 es110, vi many102]
 [Ob.mk OK.box 9 1 0 [[vs (ByteArray.mk (Array.mk []))]],
 Ob.mk OK.box 23 1 0 [[AV.arr 3 1 0 0]],
 Ob.mk OK.box 28 1 0 [[vi 0]], Ob.mk OK.arr 9 1 1 []])
 fun r111 ↦
 Option.bind (asJump r111) fun j112 ↦
 bif JX.is j112.fst (JX.exit 0) then
 Option.bind (uncons? j112.snd.fst) fun p113 ↦
 Option.bind (AV.int? IntKind.i64 p113.fst) fun _ ↦
 Option.bind (nil? p113.snd) fun _ ↦
 Option.bind (uncons? j112.snd.snd) fun p116 ↦
 Option.bind
 (obIs (Ob.mk OK.box 9 1 0 [[vs (ByteArray.mk (Array.mk []))]]) p116.fst)
 fun _ ↦
 Option.bind (chk p116.fst.ver 0) fun _ ↦
 Option.bind (uncons? p116.fst.es) fun p119 ↦
 Option.bind (nil? p119.snd) fun _ ↦
 Option.bind (uncons? p119.fst) fun p121 ↦
 Option.bind (AV.str? p121.fst) fun _ ↦
 Option.bind (nil? p121.snd) fun _ ↦
 Option.bind (uncons? p116.snd) fun p124 ↦
 Option.bind
 (obIs (Ob.mk OK.box 23 1 0 [[AV.arr 3 1 0 0]]) p124.fst)
 fun _ ↦
 Option.bind (chk p124.fst.ver 0) fun _ ↦
 Option.bind (uncons? p124.fst.es) fun p127 ↦
 Option.bind (nil? p127.snd) fun _ ↦
 Option.bind (uncons? p127.fst) fun p129 ↦
 Option.bind (AV.arr? 3 p129.fst) fun x130 ↦
 Option.bind (chk x130.fst 1) fun _ ↦
 Option.bind (nil? p129.snd) fun _ ↦
 Option.bind (uncons? p124.snd) fun p133 ↦
 Option.bind
 (obIs (Ob.mk OK.box 28 1 0 [[vi 0]]) p133.fst)
 fun _ ↦
 Option.bind (chk p133.fst.ver 0) fun _ ↦
 Option.bind (uncons? p133.fst.es) fun p136 ↦
 Option.bind (nil? p136.snd) fun _ ↦
 Option.bind (uncons? p136.fst) fun p138 ↦
 Option.bind (AV.int? IntKind.i64 p138.fst) fun _ ↦
 Option.bind (nil? p138.snd) fun _ ↦
 Option.bind (uncons? p133.snd) fun p141 ↦
 Option.bind
 (obIs (Ob.mk OK.arr 9 1 1 []) p141.fst)
 fun _ ↦
 Option.bind (chk p141.fst.ver 1) fun _ ↦
 Option.bind (nil? p141.snd) fun _ ↦
 if 0 ≤ fixed101 then
 if fixed101 ≤ ((ByteArray.size s100) : Int) then
 Option.bind
 (chkLe (Nat.add x130.snd.fst x130.snd.snd)
 (List.length p141.fst.es))
 fun _ ↦
 some
 (Out.ret
 (AV.tuple
 [vs
 (ByteArray.extract s100 0 (Int.toNat fixed101)),
 AV.list 0 1
 (List.drop x130.snd.fst
 (List.take (Nat.add x130.snd.fst x130.snd.snd)
 p141.fst.es)),
 vi 0]),
 [])
 else none
 else none
 else none := by
  intros
  exact (E_in [52] _ _ _).trans (by kernel_rfl)

theorem f22_l0 : ∀ (x146 : Int) (s147 : ByteArray) (x148 : Int) (l149 : List (List AV)) (x150 : Int) (s151 : ByteArray) (n152 : Nat) (x153 : Int)
 (l154 : List (List AV)),
 E cx (Key.loop 22 [true, true, true, false, true, false])
 [vi x146, vs s147, vi x148, AV.ptr 0 0 0 0, AV.ptr 1 0 0 0, AV.ptr 2 0 0 0,
 AV.list 0 1 l149, vi x150]
 [Ob.mk OK.box 9 1 0 [[vs s151]], Ob.mk OK.box 23 1 0 [[AV.arr 3 1 0 n152]],
 Ob.mk OK.box 28 1 0 [[vi x153]], Ob.mk OK.arr 9 1 1 l154] =
 bif decide (x146 < x150) then
 if 0 ≤ x146 then
 Option.bind l149[Int.toNat x146]? fun cs155 ↦
 Option.bind (uncons? cs155) fun p156 ↦
 Option.bind (AV.int? IntKind.i64 p156.fst) fun n157 ↦
 Option.bind (nil? p156.snd) fun _ ↦
 if 0 ≤ IntKind.wrap IntKind.i64 (Int.add x146 1) then
 Option.bind l149[Int.toNat (IntKind.wrap IntKind.i64 (Int.add x146 1))]? fun cs159 ↦
 Option.bind (uncons? cs159) fun p160 ↦
 Option.bind (AV.int? IntKind.i64 p160.fst) fun n161 ↦
 Option.bind (nil? p160.snd) fun _ ↦
 if 0 ≤ n161 then
 if n161 ≤ ((ByteArray.size s147) : Int) then
 if 0 ≤ n157 then
 if n157 ≤ ((Int.toNat n161) : Int) then
 Option.bind (chk n152 (List.length (Ob.mk OK.arr 9 1 1 l154).es)) fun _ ↦
 if Nat.mul (Nat.add (List.length (Ob.mk OK.arr 9 1 1 l154).es) 1) 16 ≤ 140737488355328 then
 E cx (Key.loop 22 [true, true, true, false, true, false])
 [vi (IntKind.wrap IntKind.i64 (Int.add x146 1)), vs s147, vi x148,
 AV.ptr 0 0 0 0, AV.ptr 1 0 0 0, AV.ptr 2 0 0 0, AV.list 0 1 l149,
 vi x150]
 [Ob.mk OK.box 9 1 0 [[vs s151]],
 Ob.mk OK.box 23 1 0
 [[AV.arr 3 1 0 (Nat.add (List.length (Ob.mk OK.arr 9 1 1 l154).es) 1)]],
 Ob.mk OK.box 28 1 0 [[vi x153]],
 Ob.mk OK.arr 9 1 1
 ((Ob.mk OK.arr 9 1 1 l154).es ++
 [[vs (ByteArray.extract s147 (Int.toNat n157) (Int.toNat n161))]])]
 else none
 else none
 else none
 else none
 else none
 else none
 else none
 else
 some
 (Out.jump (JX.exit 0) [vi x146],
 [Ob.mk OK.box 9 1 0 [[vs s151]],
 Ob.mk OK.box 23 1 0 [[AV.arr 3 1 0 n152]],
 Ob.mk OK.box 28 1 0 [[vi x153]], Ob.mk OK.arr 9 1 1 l154]) := by
  intros
  exact (E_in [52] _ _ _).trans (by kernel_rfl)


theorem f14 : ∀ (raw0 : List (List AV)),
 E cx (Key.fn 14) [AV.list 0 1 raw0] [] =
 Option.bind
 (E cx (Key.loop 14 [true, true, false, true, false])
 [AV.arr 0 1 0 0, vi 0, AV.list 0 1 raw0] [Ob.mk OK.arr 9 1 1 []])
 fun r1 ↦
 Option.bind (asJump r1) fun j2 ↦
 bif JX.is j2.fst (JX.exit 0) then
 Option.bind (uncons? j2.snd.fst) fun p3 ↦
 Option.bind (AV.arr? 0 p3.fst) fun x4 ↦
 Option.bind (chk x4.fst 1) fun _ ↦
 Option.bind (uncons? p3.snd) fun p6 ↦
 Option.bind (AV.int? IntKind.i64 p6.fst) fun _ ↦
 Option.bind (nil? p6.snd) fun _ ↦
 Option.bind (uncons? j2.snd.snd) fun p9 ↦
 Option.bind (obIs (Ob.mk OK.arr 9 1 1 []) p9.fst) fun _ ↦
 Option.bind (chk p9.fst.ver 1) fun _ ↦
 Option.bind (nil? p9.snd) fun _ ↦
 Option.bind (chkLe (Nat.add x4.snd.fst x4.snd.snd) (List.length p9.fst.es)) fun _ ↦
 some
 (Out.ret (AV.list 0 1 (List.drop x4.snd.fst (List.take (Nat.add x4.snd.fst x4.snd.snd) p9.fst.es))),
 [])
 else none := by
  intros
  exact (E_in [52] _ _ _).trans (by kernel_rfl)

theorem f14_l0 : ∀ (n14 : Nat) (x15 : Int) (l16 l17 : List (List AV)),
 E cx (Key.loop 14 [true, true, false, true, false])
 [AV.arr 0 1 0 n14, vi x15, AV.list 0 1 l16] [Ob.mk OK.arr 9 1 1 l17] =
 bif decide (x15 < ((List.length l16) : Int)) then
 bif decide (x15 < 6) then
 if 0 ≤ x15 then
 Option.bind l16[Int.toNat x15]? fun cs18 ↦
 Option.bind (uncons? cs18) fun p19 ↦
 Option.bind (AV.str? p19.fst) fun s20 ↦
 Option.bind (nil? p19.snd) fun _ ↦
 if 0 ≤ x15 then
 Option.bind l16[Int.toNat x15]? fun cs22 ↦
 Option.bind (uncons? cs22) fun p23 ↦
 Option.bind (AV.str? p23.fst) fun s24 ↦
 Option.bind (nil? p23.snd) fun _ ↦
 if 0 ≤ if 20 < ((ByteArray.size s24) : Int) then 20 else ((ByteArray.size s24) : Int) then
 if (if 20 < ((ByteArray.size s24) : Int) then 20 else ((ByteArray.size s24) : Int)) ≤ ((ByteArray.size s20) : Int) then
 Option.bind (chk n14 (List.length (Ob.mk OK.arr 9 1 1 l17).es)) fun _ ↦
 if Nat.mul (Nat.add (List.length (Ob.mk OK.arr 9 1 1 l17).es) 1) 16 ≤ 140737488355328 then
 E cx (Key.loop 14 [true, true, false, true, false])
 [AV.arr 0 1 0 (Nat.add (List.length (Ob.mk OK.arr 9 1 1 l17).es) 1),
 vi (IntKind.wrap IntKind.i64 (Int.add x15 1)), AV.list 0 1 l16]
 [Ob.mk OK.arr 9 1 1
 ((Ob.mk OK.arr 9 1 1 l17).es ++
 [[vs
 (ByteArray.extract s20 0 (Int.toNat (if 20 < ((ByteArray.size s24) : Int) then 20 else ((ByteArray.size s24) : Int))))]])]
 else none
 else none
 else none
 else none
 else none
 else
 some
 (Out.jump (JX.exit 0) [AV.arr 0 1 0 n14, vi x15],
 [Ob.mk OK.arr 9 1 1 l17])
 else
 some
 (Out.jump (JX.exit 0) [AV.arr 0 1 0 n14, vi x15],
 [Ob.mk OK.arr 9 1 1 l17]) := by
  intros
  exact (E_in [52] _ _ _).trans (by kernel_rfl)


theorem f15 : ∀ (c27 n28 : Int),
 E cx (Key.fn 15) [vi c27, vi n28] [] =
 bif decide (c27 < 0) then
 if n28 = 0 then none
 else
 some
 (Out.ret (vi (Int.tmod (IntKind.wrap IntKind.i64 (Int.sub 0 (IntKind.wrap IntKind.i64 (Int.add c27 1)))) n28)),
 [])
 else if n28 = 0 then none else some (Out.ret (vi (Int.tmod c27 n28)), []) := by
  intros
  exact (E_in [52] _ _ _).trans (by kernel_rfl)


theorem f16 : ∀ (s29 : ByteArray) (n30 : Int),
 E cx (Key.fn 16) [vs s29, vi n30] [] =
 bif decide (n30 < 1) then
 some (Out.ret (AV.tuple [vu 0, vs (ByteArray.mk (Array.mk [])), vi 1]), [])
 else
 bif decide (n30 > 8) then
 some (Out.ret (AV.tuple [vu 0, vs (ByteArray.mk (Array.mk [])), vi 1]), [])
 else
 bif decide (((ByteArray.size s29) : Int) < n30) then
 some (Out.ret (AV.tuple [vu 0, vs (ByteArray.mk (Array.mk [])), vi 3]), [])
 else
 Option.bind
 (E cx (Key.loop 16 [true, true, false, true, false])
 [vu 0, vi (IntKind.wrap IntKind.i64 (Int.sub n30 1)), vs s29, vi n30] [])
 fun r31 ↦
 Option.bind (asJump r31) fun j32 ↦
 bif JX.is j32.fst (JX.exit 1) then
 Option.bind (uncons? j32.snd.fst) fun p33 ↦
 Option.bind (AV.int? IntKind.u64 p33.fst) fun n34 ↦
 Option.bind (uncons? p33.snd) fun p35 ↦
 Option.bind (AV.int? IntKind.i64 p35.fst) fun _ ↦
 Option.bind (nil? p35.snd) fun _ ↦
 Option.bind (nil? j32.snd.snd) fun _ ↦
 if 0 ≤ n30 then
 if n30 ≤ ((ByteArray.size s29) : Int) then
 some
 (Out.ret
 (AV.tuple
 [vu n34, vs (ByteArray.extract s29 (Int.toNat n30) (ByteArray.size s29)), vi 0]),
 [])
 else none
 else none
 else none := by
  intros
  exact (E_in [52] _ _ _).trans (by kernel_rfl)

theorem f16_l0 : ∀ (x39 x40 : Int) (s41 : ByteArray) (x42 : Int),
 E cx (Key.loop 16 [true, true, false, true, false])
 [vu x39, vi x40, vs s41, vi x42] [] =
 bif decide (x40 ≥ 0) then
 if 0 ≤ x40 then
 Option.bind s41[Int.toNat x40]? fun b43 ↦
 E cx (Key.loop 16 [true, true, false, true, false])
 [vu (ior IntKind.u64 (ishl IntKind.u64 x39 8) (IntKind.wrap IntKind.u64 ((UInt8.toNat b43) : Int))),
 vi (IntKind.wrap IntKind.i64 (Int.sub x40 1)), vs s41, vi x42]
 []
 else none
 else some (Out.jump (JX.exit 1) [vu x39, vi x40], []) := by
  intros
  exact (E_in [52] _ _ _).trans (by kernel_rfl)


theorem f17 : ∀ (s44 : ByteArray) (n45 : Int),
 E cx (Key.fn 17) [vs s44, vi n45] [] =
 bif decide (n45 < 1) then
 some (Out.ret (AV.tuple [vu 0, vs (ByteArray.mk (Array.mk [])), vi 1]), [])
 else
 bif decide (n45 > 8) then
 some (Out.ret (AV.tuple [vu 0, vs (ByteArray.mk (Array.mk [])), vi 1]), [])
 else
 bif decide (((ByteArray.size s44) : Int) < n45) then
 some (Out.ret (AV.tuple [vu 0, vs (ByteArray.mk (Array.mk [])), vi 3]), [])
 else
 if 0 ≤ n45 then
 if n45 ≤ ((ByteArray.size s44) : Int) then
 Option.bind (E cx (Key.fn 40) [vs (ByteArray.extract s44 0 (Int.toNat n45))] []) fun r46 ↦
 Option.bind (ret1 r46) fun v47 ↦
 Option.bind (AV.int? IntKind.u64 v47) fun n48 ↦
 if 0 ≤ n45 then
 if n45 ≤ ((ByteArray.size s44) : Int) then
 some
 (Out.ret
 (AV.tuple
 [vu n48, vs (ByteArray.extract s44 (Int.toNat n45) (ByteArray.size s44)), vi 0]),
 [])
 else none
 else none
 else none
 else none := by
  intros
  exact (E_in [52] _ _ _).trans (by kernel_rfl)


theorem f18 : ∀ (w49 n50 : Int),
 E cx (Key.fn 18) [vu w49, vi n50] [] =
 bif decide (n50 < 1) then some (Out.ret (vs (ByteArray.mk (Array.mk []))), [])
 else
 bif decide (n50 > 8) then some (Out.ret (vs (ByteArray.mk (Array.mk []))), [])
 else
 if 0 ≤ n50 then
 if n50 ≤ n50 then
 if Int.mul 1 n50 ≤ 281474976710656 then
 Option.bind
 (E cx (Key.loop 18 [true, true, true, false, true, false])
 [vi 0, vu w49, AV.arr 0 1 0 (Int.toNat n50), vi ((Int.toNat n50) : Int)]
 [Ob.mk OK.arr 5 1 1 (List.replicate (Int.toNat n50) [vb 0])])
 fun r51 ↦
 Option.bind (asJump r51) fun j52 ↦
 bif JX.is j52.fst (JX.exit 0) then
 Option.bind (uncons? j52.snd.fst) fun p53 ↦
 Option.bind (AV.int? IntKind.i64 p53.fst) fun _ ↦
 Option.bind (nil? p53.snd) fun _ ↦
 Option.bind (uncons? j52.snd.snd) fun p56 ↦
 Option.bind
 (obIs (Ob.mk OK.arr 5 1 1 (List.replicate (Int.toNat n50) [vb 0])) p56.fst)
 fun _ ↦
 Option.bind (chk p56.fst.ver 1) fun _ ↦
 Option.bind (nil? p56.snd) fun _ ↦
 Option.bind
 (yRows [Ob.mk OK.arr 5 1 1 p56.fst.es] 1 (AV.arr 0 1 0 (Int.toNat n50)))
 fun ys60 ↦
 Option.bind (numsOf ys60) fun ns61 ↦ some (Out.ret (vs (Go.strOfNums ns61)), [])
 else none
 else none
 else none
 else none := by
  intros
  exact (E_in [52] _ _ _).trans (by kernel_rfl)

theorem f18_l0 : ∀ (x62 x63 : Int) (n64 : Nat) (x65 : Int) (l66 : List (List AV)),
 E cx (Key.loop 18 [true, true, true, false, true, false])
 [vi x62, vu x63, AV.arr 0 1 0 n64, vi x65] [Ob.mk OK.arr 5 1 1 l66] =
 bif decide (x62 < x65) then
 if IntKind.wrap IntKind.i64 (Int.mul 8 x62) < 0 then none
 else
 if 0 ≤ x62 then
 if x62 < (n64 : Int) then
 Option.bind (nth l66 (Nat.add 0 (Int.toNat x62))) fun cs67 ↦
 Option.bind (uncons? cs67) fun p68 ↦
 Option.bind (AV.int? IntKind.u8 p68.fst) fun _ ↦
 Option.bind (nil? p68.snd) fun _ ↦
 E cx (Key.loop 18 [true, true, true, false, true, false])
 [vi (IntKind.wrap IntKind.i64 (Int.add x62 1)), vu x63, AV.arr 0 1 0 n64,
 vi x65]
 [Ob.mk OK.arr 5 1 1
 (List.set l66 (Nat.add 0 (Int.toNat x62))
 [vb
 (IntKind.wrap IntKind.u8 (ishr IntKind.u64 x63 (IntKind.wrap IntKind.i64 (Int.mul 8 x62))))])]
 else none
 else none
 else some (Out.jump (JX.exit 0) [vi x62], [Ob.mk OK.arr 5 1 1 l66]) := by
  intros
  exact (E_in [52] _ _ _).trans (by kernel_rfl)


theorem f19 : ∀ (w71 n72 : Int),
 E cx (Key.fn 19) [vu w71, vi n72] [] =
 Option.bind
 (E cx (Key.loop 19 [true, true, false, true, false])
 [AV.arr 0 1 0 0, vi 0, vu w71, vi n72] [Ob.mk OK.arr 5 1 1 []])
 fun r73 ↦
 Option.bind (asJump r73) fun j74 ↦
 bif JX.is j74.fst (JX.exit 0) then
 Option.bind (uncons? j74.snd.fst) fun p75 ↦
 Option.bind (AV.arr? 0 p75.fst) fun x76 ↦
 Option.bind (chk x76.fst 1) fun _ ↦
 Option.bind (uncons? p75.snd) fun p78 ↦
 Option.bind (AV.int? IntKind.i64 p78.fst) fun _ ↦
 Option.bind (nil? p78.snd) fun _ ↦
 Option.bind (uncons? j74.snd.snd) fun p81 ↦
 Option.bind (obIs (Ob.mk OK.arr 5 1 1 []) p81.fst) fun _ ↦
 Option.bind (chk p81.fst.ver 1) fun _ ↦
 Option.bind (nil? p81.snd) fun _ ↦
 Option.bind
 (yRows [Ob.mk OK.arr 5 1 1 p81.fst.es] 1
 (AV.arr 0 1 x76.snd.fst x76.snd.snd))
 fun ys85 ↦
 Option.bind (numsOf ys85) fun ns86 ↦ some (Out.ret (vs (Go.strOfNums ns86)), [])
 else none := by
  intros
  exact (E_in [52] _ _ _).trans (by kernel_rfl)

theorem f19_l0 : ∀ (n87 : Nat) (x88 x89 x90 : Int) (l91 : List (List AV)),
 E cx (Key.loop 19 [true, true, false, true, false])
 [AV.arr 0 1 0 n87, vi x88, vu x89, vi x90] [Ob.mk OK.arr 5 1 1 l91] =
 bif decide (x88 < x90) then
 bif decide (x90 ≤ 8) then
 if IntKind.wrap IntKind.i64 (Int.mul 8 x88) < 0 then none
 else
 Option.bind (chk n87 (List.length (Ob.mk OK.arr 5 1 1 l91).es)) fun _ ↦
 if Nat.mul (Nat.add (List.length (Ob.mk OK.arr 5 1 1 l91).es) 1) 1 ≤ 140737488355328 then
 E cx (Key.loop 19 [true, true, false, true, false])
 [AV.arr 0 1 0 (Nat.add (List.length (Ob.mk OK.arr 5 1 1 l91).es) 1),
 vi (IntKind.wrap IntKind.i64 (Int.add x88 1)), vu x89, vi x90]
 [Ob.mk OK.arr 5 1 1
 ((Ob.mk OK.arr 5 1 1 l91).es ++
 [[vb
 (IntKind.wrap IntKind.u8
 (Int.tmod (ishr IntKind.u64 x89 (IntKind.wrap IntKind.i64 (Int.mul 8 x88))) 256))]])]
 else none
 else
 some
 (Out.jump (JX.exit 0) [AV.arr 0 1 0 n87, vi x88],
 [Ob.mk OK.arr 5 1 1 l91])
 else
 some
 (Out.jump (JX.exit 0) [AV.arr 0 1 0 n87, vi x88],
 [Ob.mk OK.arr 5 1 1 l91]) := by
  intros
  exact (E_in [52] _ _ _).trans (by kernel_rfl)


theorem f20 : ∀ (fixed93 : ByteArray) (parts94 : List (List AV)),
 E cx (Key.fn 20) [vs fixed93, AV.list 0 1 parts94] [] =
 bif decide (((List.length parts94) : Int) > 8) then
 some (Out.ret (AV.tuple [vs (ByteArray.mk (Array.mk [])), vi 4]), [])
 else
 bif
 decide
 (IntKind.wrap IntKind.i64 (Int.add (((ByteArray.size fixed93) : Int)) (IntKind.wrap IntKind.i64 (Int.mul 4 ((List.length parts94) : Int)))) >
 65536) then
 some (Out.ret (AV.tuple [vs (ByteArray.mk (Array.mk [])), vi 4]), [])
 else
 Option.bind
 (E cx (Key.loop 20 [true, true, true, true, false, true, false])
 [vs (ByteArray.mk (Array.mk [])), vi 0,
 vi
 (IntKind.wrap IntKind.i64 (Int.add (((ByteArray.size fixed93) : Int)) (IntKind.wrap IntKind.i64 (Int.mul 4 ((List.length parts94) : Int))))),
 vs fixed93, vs (ByteArray.mk (Array.mk [])), vi 0, AV.list 0 1 parts94,
 vi ((List.length parts94) : Int)]
 [])
 fun r95 ↦
 Option.bind (asJump r95) fun j96 ↦
 bif JX.is j96.fst (JX.exit 0) then
 Option.bind (uncons? j96.snd.fst) fun p97 ↦
 Option.bind (AV.str? p97.fst) fun _ ↦
 Option.bind (uncons? p97.snd) fun p99 ↦
 Option.bind (AV.int? IntKind.i64 p99.fst) fun _ ↦
 Option.bind (uncons? p99.snd) fun p101 ↦
 Option.bind (AV.int? IntKind.i64 p101.fst) fun _ ↦
 Option.bind (uncons? p101.snd) fun p103 ↦
 Option.bind (AV.str? p103.fst) fun s104 ↦
 Option.bind (uncons? p103.snd) fun p105 ↦
 Option.bind (AV.str? p105.fst) fun s106 ↦
 Option.bind (uncons? p105.snd) fun p107 ↦
 Option.bind (AV.int? IntKind.i64 p107.fst) fun _ ↦
 Option.bind (nil? p107.snd) fun _ ↦
 Option.bind (nil? j96.snd.snd) fun _ ↦
 if ((Nat.add (ByteArray.size s104) (ByteArray.size s106)) : Int) > 9223372036854775807 then none
 else
 some
 (Out.ret (AV.tuple [vs (ByteArray.append s104 s106), vi 0]),
 [])
 else
 bif JX.is j96.fst JX.ret then
 Option.bind (uncons? j96.snd.fst) fun p111 ↦
 Option.bind (AV.str? p111.fst) fun s112 ↦
 Option.bind (uncons? p111.snd) fun p113 ↦
 Option.bind (AV.int? IntKind.i64 p113.fst) fun n114 ↦
 Option.bind (uncons? p113.snd) fun p115 ↦
 Option.bind (AV.int? IntKind.i64 p115.fst) fun _ ↦
 Option.bind (uncons? p115.snd) fun p117 ↦
 Option.bind (AV.str? p117.fst) fun _ ↦
 Option.bind (uncons? p117.snd) fun p119 ↦
 Option.bind (AV.str? p119.fst) fun _ ↦
 Option.bind (uncons? p119.snd) fun p121 ↦
 Option.bind (AV.int? IntKind.i64 p121.fst) fun _ ↦
 Option.bind (nil? p121.snd) fun _ ↦
 Option.bind (nil? j96.snd.snd) fun _ ↦
 some (Out.ret (AV.tuple [vs s112, vi n114]), [])
 else none := by
  intros
  exact (E_in [52] _ _ _).trans (by kernel_rfl)

theorem f20_l0 : ∀ (s125 : ByteArray) (x126 x127 : Int) (s128 s129 : ByteArray) (x130 : Int) (l131 : List (List AV)) (x132 : Int),
 E cx (Key.loop 20 [true, true, true, true, false, true, false])
 [vs s125, vi x126, vi x127, vs s128, vs s129, vi x130,
 AV.list 0 1 l131, vi x132]
 [] =
 bif decide (x130 < x132) then
 if 0 ≤ x130 then
 Option.bind l131[Int.toNat x130]? fun cs133 ↦
 Option.bind (uncons? cs133) fun p134 ↦
 Option.bind (AV.str? p134.fst) fun s135 ↦
 Option.bind (nil? p134.snd) fun _ ↦
 bif decide (((ByteArray.size s135) : Int) > IntKind.wrap IntKind.i64 (Int.sub 65536 x127)) then
 some
 (Out.jump JX.ret
 [vs (ByteArray.mk (Array.mk [])), vi 4, vi x127, vs s128, vs s129,
 vi x130],
 [])
 else
 Option.bind
 (E cx (Key.fn 18) [vu (IntKind.wrap IntKind.u64 x127), vi 4] [])
 fun r137 ↦
 Option.bind (ret1 r137) fun v138 ↦
 Option.bind (AV.str? v138) fun s139 ↦
 if ((Nat.add (ByteArray.size s128) (ByteArray.size s139)) : Int) > 9223372036854775807 then none
 else
 if ((Nat.add (ByteArray.size s129) (ByteArray.size s135)) : Int) > 9223372036854775807 then none
 else
 E cx (Key.loop 20 [true, true, true, true, false, true, false])
 [vs s125, vi x126,
 vi (IntKind.wrap IntKind.i64 (Int.add x127 ((ByteArray.size s135) : Int))),
 vs (ByteArray.append s128 s139), vs (ByteArray.append s129 s135),
 vi (IntKind.wrap IntKind.i64 (Int.add x130 1)), AV.list 0 1 l131, vi x132]
 []
 else none
 else
 some
 (Out.jump (JX.exit 0)
 [vs s125, vi x126, vi x127, vs s128, vs s129, vi x130],
 []) := by
  intros
  exact (E_in [52] _ _ _).trans (by kernel_rfl)


theorem f21 : ∀ (fixed140 : ByteArray) (parts141 : List (List AV)),
 E cx (Key.fn 21) [vs fixed140, AV.list 0 1 parts141] [] =
 bif decide (((List.length parts141) : Int) > 8) then
 some (Out.ret (AV.tuple [vs (ByteArray.mk (Array.mk [])), vi 4]), [])
 else
 bif decide (((ByteArray.size fixed140) : Int) > 65536) then
 some (Out.ret (AV.tuple [vs (ByteArray.mk (Array.mk [])), vi 4]), [])
 else
 Option.bind
 (E cx (Key.loop 21 [true, true, true, true, true, false, true, false])
 [vs (ByteArray.mk (Array.mk [])), vi 0,
 vi
 (IntKind.wrap IntKind.i64 (Int.add (((ByteArray.size fixed140) : Int)) (IntKind.wrap IntKind.i64 (Int.mul 4 ((List.length parts141) : Int))))),
 vs fixed140, vs (ByteArray.mk (Array.mk [])), vi 0, AV.list 0 1 parts141]
 [])
 fun r142 ↦
 Option.bind (asJump r142) fun j143 ↦
 bif JX.is j143.fst (JX.exit 0) then
 Option.bind (uncons? j143.snd.fst) fun p144 ↦
 Option.bind (AV.str? p144.fst) fun _ ↦
 Option.bind (uncons? p144.snd) fun p146 ↦
 Option.bind (AV.int? IntKind.i64 p146.fst) fun _ ↦
 Option.bind (uncons? p146.snd) fun p148 ↦
 Option.bind (AV.int? IntKind.i64 p148.fst) fun n149 ↦
 Option.bind (uncons? p148.snd) fun p150 ↦
 Option.bind (AV.str? p150.fst) fun s151 ↦
 Option.bind (uncons? p150.snd) fun p152 ↦
 Option.bind (AV.str? p152.fst) fun s153 ↦
 Option.bind (uncons? p152.snd) fun p154 ↦
 Option.bind (AV.int? IntKind.i64 p154.fst) fun _ ↦
 Option.bind (nil? p154.snd) fun _ ↦
 Option.bind (nil? j143.snd.snd) fun _ ↦
 bif decide (n149 > 65536) then
 some
 (Out.ret (AV.tuple [vs (ByteArray.mk (Array.mk [])), vi 4]),
 [])
 else
 if ((Nat.add (ByteArray.size s151) (ByteArray.size s153)) : Int) > 9223372036854775807 then none
 else
 some
 (Out.ret (AV.tuple [vs (ByteArray.append s151 s153), vi 0]),
 [])
 else
 bif JX.is j143.fst JX.ret then
 Option.bind (uncons? j143.snd.fst) fun p158 ↦
 Option.bind (AV.str? p158.fst) fun s159 ↦
 Option.bind (uncons? p158.snd) fun p160 ↦
 Option.bind (AV.int? IntKind.i64 p160.fst) fun n161 ↦
 Option.bind (uncons? p160.snd) fun p162 ↦
 Option.bind (AV.int? IntKind.i64 p162.fst) fun _ ↦
 Option.bind (uncons? p162.snd) fun p164 ↦
 Option.bind (AV.str? p164.fst) fun _ ↦
 Option.bind (uncons? p164.snd) fun p166 ↦
 Option.bind (AV.str? p166.fst) fun _ ↦
 Option.bind (uncons? p166.snd) fun p168 ↦
 Option.bind (AV.int? IntKind.i64 p168.fst) fun _ ↦
 Option.bind (nil? p168.snd) fun _ ↦
 Option.bind (nil? j143.snd.snd) fun _ ↦
 some (Out.ret (AV.tuple [vs s159, vi n161]), [])
 else none := by
  intros
  exact (E_in [52] _ _ _).trans (by kernel_rfl)

theorem f21_l0 : ∀ (s172 : ByteArray) (x173 x174 : Int) (s175 s176 : ByteArray) (x177 : Int) (l178 : List (List AV)),
 E cx (Key.loop 21 [true, true, true, true, true, false, true, false])
 [vs s172, vi x173, vi x174, vs s175, vs s176, vi x177,
 AV.list 0 1 l178]
 [] =
 bif decide (x177 < ((List.length l178) : Int)) then
 if 0 ≤ x177 then
 Option.bind l178[Int.toNat x177]? fun cs179 ↦
 Option.bind (uncons? cs179) fun p180 ↦
 Option.bind (AV.str? p180.fst) fun s181 ↦
 Option.bind (nil? p180.snd) fun _ ↦
 bif decide (((ByteArray.size s181) : Int) > 65536) then
 some
 (Out.jump JX.ret
 [vs (ByteArray.mk (Array.mk [])), vi 4, vi x174, vs s175, vs s176,
 vi x177],
 [])
 else
 Option.bind
 (E cx (Key.fn 19) [vu (IntKind.wrap IntKind.u64 x174), vi 4] [])
 fun r183 ↦
 Option.bind (ret1 r183) fun v184 ↦
 Option.bind (AV.str? v184) fun s185 ↦
 if ((Nat.add (ByteArray.size s175) (ByteArray.size s185)) : Int) > 9223372036854775807 then none
 else
 if 0 ≤ x177 then
 Option.bind l178[Int.toNat x177]? fun cs186 ↦
 Option.bind (uncons? cs186) fun p187 ↦
 Option.bind (AV.str? p187.fst) fun s188 ↦
 Option.bind (nil? p187.snd) fun _ ↦
 if ((Nat.add (ByteArray.size s176) (ByteArray.size s188)) : Int) > 9223372036854775807 then none
 else
 if 0 ≤ x177 then
 Option.bind l178[Int.toNat x177]? fun cs190 ↦
 Option.bind (uncons? cs190) fun p191 ↦
 Option.bind (AV.str? p191.fst) fun s192 ↦
 Option.bind (nil? p191.snd) fun _ ↦
 E cx (Key.loop 21 [true, true, true, true, true, false, true, false])
 [vs s172, vi x173,
 vi (IntKind.wrap IntKind.i64 (Int.add x174 ((ByteArray.size s192) : Int))),
 vs (ByteArray.append s175 s185), vs (ByteArray.append s176 s188),
 vi (IntKind.wrap IntKind.i64 (Int.add x177 1)), AV.list 0 1 l178]
 []
 else none
 else none
 else none
 else
 some
 (Out.jump (JX.exit 0)
 [vs s172, vi x173, vi x174, vs s175, vs s176, vi x177],
 []) := by
  intros
  exact (E_in [52] _ _ _).trans (by kernel_rfl)


theorem f23 : ∀ (s194 : ByteArray) (fixed195 many196 : Int),
 E cx (Key.fn 23) [vs s194, vi fixed195, vi many196] [] =
 bif decide (fixed195 < 0) then
 some
 (Out.ret
 (AV.tuple [vs (ByteArray.mk (Array.mk [])), AV.val (Go.Value.slice none 0 0), vi 1]),
 [])
 else
 bif decide (fixed195 > 65536) then
 some
 (Out.ret
 (AV.tuple [vs (ByteArray.mk (Array.mk [])), AV.val (Go.Value.slice none 0 0), vi 1]),
 [])
 else
 bif decide (many196 < 0) then
 some
 (Out.ret
 (AV.tuple [vs (ByteArray.mk (Array.mk [])), AV.val (Go.Value.slice none 0 0), vi 1]),
 [])
 else
 bif decide (many196 > 8) then
 some
 (Out.ret
 (AV.tuple [vs (ByteArray.mk (Array.mk [])), AV.val (Go.Value.slice none 0 0), vi 1]),
 [])
 else
 bif decide (((ByteArray.size s194) : Int) > 65536) then
 some
 (Out.ret
 (AV.tuple [vs (ByteArray.mk (Array.mk [])), AV.val (Go.Value.slice none 0 0), vi 4]),
 [])
 else
 bif decide (((ByteArray.size s194) : Int) < IntKind.wrap IntKind.i64 (Int.add fixed195 (IntKind.wrap IntKind.i64 (Int.mul 4 many196)))) then
 some
 (Out.ret
 (AV.tuple [vs (ByteArray.mk (Array.mk [])), AV.val (Go.Value.slice none 0 0), vi 3]),
 [])
 else
 Option.bind
 (E cx (Key.loop 23 [true, true, true, true, true, false, true, false])
 [vs (ByteArray.mk (Array.mk [])), AV.list 0 1 [], vi 0, AV.arr 0 1 0 0,
 vi 0, vs s194, vi fixed195, vi many196]
 [Ob.mk OK.arr 9 1 1 []])
 fun r197 ↦
 Option.bind (asJump r197) fun j198 ↦
 bif JX.is j198.fst (JX.exit 0) then
 Option.bind (uncons? j198.snd.fst) fun p199 ↦
 Option.bind (AV.str? p199.fst) fun _ ↦
 Option.bind (uncons? p199.snd) fun p201 ↦
 Option.bind (AV.list? 1 p201.fst) fun _ ↦
 Option.bind (uncons? p201.snd) fun p203 ↦
 Option.bind (AV.int? IntKind.i64 p203.fst) fun _ ↦
 Option.bind (uncons? p203.snd) fun p205 ↦
 Option.bind (AV.arr? 0 p205.fst) fun x206 ↦
 Option.bind (chk x206.fst 1) fun _ ↦
 Option.bind (uncons? p205.snd) fun p208 ↦
 Option.bind (AV.int? IntKind.i64 p208.fst) fun _ ↦
 Option.bind (nil? p208.snd) fun _ ↦
 Option.bind (uncons? j198.snd.snd) fun p211 ↦
 Option.bind (obIs (Ob.mk OK.arr 9 1 1 []) p211.fst) fun _ ↦
 Option.bind (chk p211.fst.ver 1) fun _ ↦
 Option.bind (nil? p211.snd) fun _ ↦
 if 0 ≤ fixed195 then
 if fixed195 ≤ ((ByteArray.size s194) : Int) then
 Option.bind (chkLe (Nat.add x206.snd.fst x206.snd.snd) (List.length p211.fst.es))
 fun _ ↦
 Option.bind
 (E cx (Key.fn 21)
 [vs (ByteArray.extract s194 0 (Int.toNat fixed195)),
 AV.list 0 1
 (List.drop x206.snd.fst (List.take (Nat.add x206.snd.fst x206.snd.snd) p211.fst.es))]
 [])
 fun r216 ↦
 Option.bind (ret1 r216) fun v217 ↦
 Option.bind (AV.tup? v217) fun vs218 ↦
 Option.bind (uncons? vs218) fun p219 ↦
 Option.bind (AV.str? p219.fst) fun s220 ↦
 Option.bind (uncons? p219.snd) fun p221 ↦
 Option.bind (AV.int? IntKind.i64 p221.fst) fun n222 ↦
 Option.bind (nil? p221.snd) fun _ ↦
 bif n222 != 0 then
 some
 (Out.ret
 (AV.tuple
 [vs (ByteArray.mk (Array.mk [])),
 AV.val (Go.Value.slice none 0 0), vi 2]),
 [])
 else
 bif !List.beq (ByteArray.toList s220) (ByteArray.toList s194) then
 some
 (Out.ret
 (AV.tuple
 [vs (ByteArray.mk (Array.mk [])),
 AV.val (Go.Value.slice none 0 0), vi 2]),
 [])
 else
 if 0 ≤ fixed195 then
 if fixed195 ≤ ((ByteArray.size s194) : Int) then
 Option.bind
 (chkLe (Nat.add x206.snd.fst x206.snd.snd)
 (List.length p211.fst.es))
 fun _ ↦
 some
 (Out.ret
 (AV.tuple
 [vs (ByteArray.extract s194 0 (Int.toNat fixed195)),
 AV.list 0 1
 (List.drop x206.snd.fst
 (List.take (Nat.add x206.snd.fst x206.snd.snd)
 p211.fst.es)),
 vi 0]),
 [])
 else none
 else none
 else none
 else none
 else
 bif JX.is j198.fst JX.ret then
 Option.bind (uncons? j198.snd.fst) fun p225 ↦
 Option.bind (AV.str? p225.fst) fun s226 ↦
 Option.bind (uncons? p225.snd) fun p227 ↦
 Option.bind (AV.list? 1 p227.fst) fun es228 ↦
 Option.bind (uncons? p227.snd) fun p229 ↦
 Option.bind (AV.int? IntKind.i64 p229.fst) fun n230 ↦
 Option.bind (uncons? p229.snd) fun p231 ↦
 Option.bind (AV.arr? 0 p231.fst) fun x232 ↦
 Option.bind (chk x232.fst 1) fun _ ↦
 Option.bind (uncons? p231.snd) fun p234 ↦
 Option.bind (AV.int? IntKind.i64 p234.fst) fun _ ↦
 Option.bind (nil? p234.snd) fun _ ↦
 Option.bind (uncons? j198.snd.snd) fun p237 ↦
 Option.bind (obIs (Ob.mk OK.arr 9 1 1 []) p237.fst) fun _ ↦
 Option.bind (chk p237.fst.ver 1) fun _ ↦
 Option.bind (nil? p237.snd) fun _ ↦
 some
 (Out.ret
 (AV.tuple
 [vs s226, AV.list 0 1 es228, vi n230]),
 [])
 else none := by
  intros
  exact (E_in [52] _ _ _).trans (by kernel_rfl)

theorem f23_l0 : ∀ (s241 : ByteArray) (l242 : List (List AV)) (x243 : Int) (n244 : Nat) (x245 : Int) (s246 : ByteArray) (x247 x248 : Int)
 (l249 : List (List AV)),
 E cx (Key.loop 23 [true, true, true, true, true, false, true, false])
 [vs s241, AV.list 0 1 l242, vi x243, AV.arr 0 1 0 n244, vi x245, vs s246,
 vi x247, vi x248]
 [Ob.mk OK.arr 9 1 1 l249] =
 bif decide (x245 < x248) then
 if 0 ≤ IntKind.wrap IntKind.i64 (Int.add (IntKind.wrap IntKind.i64 (Int.add x247 (IntKind.wrap IntKind.i64 (Int.mul 4 x245)))) 4) then
 if
 IntKind.wrap IntKind.i64 (Int.add (IntKind.wrap IntKind.i64 (Int.add x247 (IntKind.wrap IntKind.i64 (Int.mul 4 x245)))) 4) ≤
 ((ByteArray.size s246) : Int) then
 if 0 ≤ IntKind.wrap IntKind.i64 (Int.add x247 (IntKind.wrap IntKind.i64 (Int.mul 4 x245))) then
 if
 IntKind.wrap IntKind.i64 (Int.add x247 (IntKind.wrap IntKind.i64 (Int.mul 4 x245))) ≤
 ((Int.toNat
 (IntKind.wrap IntKind.i64
 (Int.add (IntKind.wrap IntKind.i64 (Int.add x247 (IntKind.wrap IntKind.i64 (Int.mul 4 x245)))) 4))) : Int) then
 Option.bind
 (E cx (Key.fn 40)
 [vs
 (ByteArray.extract s246 (Int.toNat (IntKind.wrap IntKind.i64 (Int.add x247 (IntKind.wrap IntKind.i64 (Int.mul 4 x245)))))
 (Int.toNat
 (IntKind.wrap IntKind.i64
 (Int.add (IntKind.wrap IntKind.i64 (Int.add x247 (IntKind.wrap IntKind.i64 (Int.mul 4 x245)))) 4))))]
 [])
 fun r250 ↦
 Option.bind (ret1 r250) fun v251 ↦
 Option.bind (AV.int? IntKind.u64 v251) fun n252 ↦
 bif decide (IntKind.wrap IntKind.i64 (Int.add x245 1) < x248) then
 if
 0 ≤
 IntKind.wrap IntKind.i64
 (Int.add (IntKind.wrap IntKind.i64 (Int.add x247 (IntKind.wrap IntKind.i64 (Int.mul 4 x245)))) 8) then
 if
 IntKind.wrap IntKind.i64
 (Int.add (IntKind.wrap IntKind.i64 (Int.add x247 (IntKind.wrap IntKind.i64 (Int.mul 4 x245)))) 8) ≤
 ((ByteArray.size s246) : Int) then
 if
 0 ≤
 IntKind.wrap IntKind.i64
 (Int.add (IntKind.wrap IntKind.i64 (Int.add x247 (IntKind.wrap IntKind.i64 (Int.mul 4 x245)))) 4) then
 if
 IntKind.wrap IntKind.i64
 (Int.add (IntKind.wrap IntKind.i64 (Int.add x247 (IntKind.wrap IntKind.i64 (Int.mul 4 x245)))) 4) ≤
 ((Int.toNat
 (IntKind.wrap IntKind.i64
 (Int.add (IntKind.wrap IntKind.i64 (Int.add x247 (IntKind.wrap IntKind.i64 (Int.mul 4 x245)))) 8))) : Int) then
 Option.bind
 (E cx (Key.fn 40)
 [vs
 (ByteArray.extract s246
 (Int.toNat
 (IntKind.wrap IntKind.i64
 (Int.add (IntKind.wrap IntKind.i64 (Int.add x247 (IntKind.wrap IntKind.i64 (Int.mul 4 x245)))) 4)))
 (Int.toNat
 (IntKind.wrap IntKind.i64
 (Int.add (IntKind.wrap IntKind.i64 (Int.add x247 (IntKind.wrap IntKind.i64 (Int.mul 4 x245)))) 8))))]
 [])
 fun r253 ↦
 Option.bind (ret1 r253) fun v254 ↦
 Option.bind (AV.int? IntKind.u64 v254) fun n255 ↦
 bif decide (n252 > n255) then
 some
 (Out.jump JX.ret
 [vs (ByteArray.mk (Array.mk [])), AV.val (Go.Value.slice none 0 0), vi 2,
 AV.arr 0 1 0 n244, vi x245],
 [Ob.mk OK.arr 9 1 1 l249])
 else
 bif decide (n255 > IntKind.wrap IntKind.u64 ((ByteArray.size s246) : Int)) then
 some
 (Out.jump JX.ret
 [vs (ByteArray.mk (Array.mk [])), AV.val (Go.Value.slice none 0 0), vi 2,
 AV.arr 0 1 0 n244, vi x245],
 [Ob.mk OK.arr 9 1 1 l249])
 else
 if 0 ≤ n255 then
 if n255 ≤ ((ByteArray.size s246) : Int) then
 if 0 ≤ n252 then
 if n252 ≤ ((Int.toNat n255) : Int) then
 Option.bind (chk n244 (List.length (Ob.mk OK.arr 9 1 1 l249).es))
 fun _ ↦
 if
 Nat.mul (Nat.add (List.length (Ob.mk OK.arr 9 1 1 l249).es) 1) 16 ≤
 140737488355328 then
 E cx (Key.loop 23 [true, true, true, true, true, false, true, false])
 [vs s241, AV.list 0 1 l242, vi x243,
 AV.arr 0 1 0
 (Nat.add (List.length (Ob.mk OK.arr 9 1 1 l249).es) 1),
 vi (IntKind.wrap IntKind.i64 (Int.add x245 1)), vs s246,
 vi x247, vi x248]
 [Ob.mk OK.arr 9 1 1
 ((Ob.mk OK.arr 9 1 1 l249).es ++
 [[vs (ByteArray.extract s246 (Int.toNat n252) (Int.toNat n255))]])]
 else none
 else none
 else none
 else none
 else none
 else none
 else none
 else none
 else none
 else
 bif decide (n252 > IntKind.wrap IntKind.u64 ((ByteArray.size s246) : Int)) then
 some
 (Out.jump JX.ret
 [vs (ByteArray.mk (Array.mk [])), AV.val (Go.Value.slice none 0 0), vi 2,
 AV.arr 0 1 0 n244, vi x245],
 [Ob.mk OK.arr 9 1 1 l249])
 else
 bif decide (IntKind.wrap IntKind.u64 ((ByteArray.size s246) : Int) > IntKind.wrap IntKind.u64 ((ByteArray.size s246) : Int)) then
 some
 (Out.jump JX.ret
 [vs (ByteArray.mk (Array.mk [])), AV.val (Go.Value.slice none 0 0), vi 2,
 AV.arr 0 1 0 n244, vi x245],
 [Ob.mk OK.arr 9 1 1 l249])
 else
 if IntKind.wrap IntKind.u64 ((ByteArray.size s246) : Int) ≤ ((ByteArray.size s246) : Int) then
 if 0 ≤ n252 then
 if n252 ≤ ((Int.toNat (IntKind.wrap IntKind.u64 ((ByteArray.size s246) : Int))) : Int) then
 Option.bind (chk n244 (List.length (Ob.mk OK.arr 9 1 1 l249).es)) fun _ ↦
 if Nat.mul (Nat.add (List.length (Ob.mk OK.arr 9 1 1 l249).es) 1) 16 ≤ 140737488355328 then
 E cx (Key.loop 23 [true, true, true, true, true, false, true, false])
 [vs s241, AV.list 0 1 l242, vi x243,
 AV.arr 0 1 0 (Nat.add (List.length (Ob.mk OK.arr 9 1 1 l249).es) 1),
 vi (IntKind.wrap IntKind.i64 (Int.add x245 1)), vs s246, vi x247,
 vi x248]
 [Ob.mk OK.arr 9 1 1
 ((Ob.mk OK.arr 9 1 1 l249).es ++
 [[vs
 (ByteArray.extract s246 (Int.toNat n252)
 (Int.toNat (IntKind.wrap IntKind.u64 ((ByteArray.size s246) : Int))))]])]
 else none
 else none
 else none
 else none
 else none
 else none
 else none
 else none
 else
 some
 (Out.jump (JX.exit 0)
 [vs s241, AV.list 0 1 l242, vi x243, AV.arr 0 1 0 n244, vi x245],
 [Ob.mk OK.arr 9 1 1 l249]) := by
  intros
  exact (E_in [52] _ _ _).trans (by kernel_rfl)


theorem f24 : ∀ (a258 b259 : List (List AV)),
 E cx (Key.fn 24) [AV.list 0 1 a258, AV.list 0 1 b259] [] =
 bif ((List.length a258) : Int) != ((List.length b259) : Int) then some (Out.ret (vbool false), [])
 else
 Option.bind
 (E cx (Key.loop 24 [true, true, false, true, false])
 [vbool false, vi 0, AV.list 0 1 a258, AV.list 0 1 b259] [])
 fun r260 ↦
 Option.bind (asJump r260) fun j261 ↦
 bif JX.is j261.fst (JX.exit 0) then
 Option.bind (uncons? j261.snd.fst) fun p262 ↦
 Option.bind (AV.bool? p262.fst) fun _ ↦
 Option.bind (uncons? p262.snd) fun p264 ↦
 Option.bind (AV.int? IntKind.i64 p264.fst) fun _ ↦
 Option.bind (nil? p264.snd) fun _ ↦
 Option.bind (nil? j261.snd.snd) fun _ ↦ some (Out.ret (vbool true), [])
 else
 bif JX.is j261.fst JX.ret then
 Option.bind (uncons? j261.snd.fst) fun p268 ↦
 Option.bind (AV.bool? p268.fst) fun b269 ↦
 Option.bind (uncons? p268.snd) fun p270 ↦
 Option.bind (AV.int? IntKind.i64 p270.fst) fun _ ↦
 Option.bind (nil? p270.snd) fun _ ↦
 Option.bind (nil? j261.snd.snd) fun _ ↦ some (Out.ret (vbool b269), [])
 else none := by
  intros
  exact (E_in [52] _ _ _).trans (by kernel_rfl)

theorem f24_l0 : ∀ (b274 : Bool) (x275 : Int) (l276 l277 : List (List AV)),
 E cx (Key.loop 24 [true, true, false, true, false])
 [vbool b274, vi x275, AV.list 0 1 l276, AV.list 0 1 l277] [] =
 bif decide (x275 < ((List.length l276) : Int)) then
 if 0 ≤ x275 then
 Option.bind l276[Int.toNat x275]? fun cs278 ↦
 Option.bind (uncons? cs278) fun p279 ↦
 Option.bind (AV.str? p279.fst) fun s280 ↦
 Option.bind (nil? p279.snd) fun _ ↦
 if 0 ≤ x275 then
 Option.bind l277[Int.toNat x275]? fun cs282 ↦
 Option.bind (uncons? cs282) fun p283 ↦
 Option.bind (AV.str? p283.fst) fun s284 ↦
 Option.bind (nil? p283.snd) fun _ ↦
 bif !List.beq (ByteArray.toList s280) (ByteArray.toList s284) then
 some (Out.jump JX.ret [vbool false, vi x275], [])
 else
 E cx (Key.loop 24 [true, true, false, true, false])
 [vbool b274, vi (IntKind.wrap IntKind.i64 (Int.add x275 1)), AV.list 0 1 l276,
 AV.list 0 1 l277]
 []
 else none
 else none
 else some (Out.jump (JX.exit 0) [vbool b274, vi x275], []) := by
  intros
  exact (E_in [52] _ _ _).trans (by kernel_rfl)


theorem f40 : ∀ (s286 : ByteArray),
 E cx (Key.fn 40) [vs s286] [] =
 Option.bind
 (E cx (Key.loop 40 [true, true, false, true, false]) [vu 0, vi 0, vs s286]
 [])
 fun r287 ↦
 Option.bind (asJump r287) fun j288 ↦
 bif JX.is j288.fst (JX.exit 0) then
 Option.bind (uncons? j288.snd.fst) fun p289 ↦
 Option.bind (AV.int? IntKind.u64 p289.fst) fun n290 ↦
 Option.bind (uncons? p289.snd) fun p291 ↦
 Option.bind (AV.int? IntKind.i64 p291.fst) fun _ ↦
 Option.bind (nil? p291.snd) fun _ ↦
 Option.bind (nil? j288.snd.snd) fun _ ↦ some (Out.ret (vu n290), [])
 else none := by
  intros
  exact (E_in [52] _ _ _).trans (by kernel_rfl)

theorem f40_l0 : ∀ (x295 x296 : Int) (s297 : ByteArray),
 E cx (Key.loop 40 [true, true, false, true, false]) [vu x295, vi x296, vs s297]
 [] =
 bif decide (x296 < ((ByteArray.size s297) : Int)) then
 if 0 ≤ x296 then
 Option.bind s297[Int.toNat x296]? fun b298 ↦
 if IntKind.wrap IntKind.i64 (Int.mul 8 x296) < 0 then none
 else
 E cx (Key.loop 40 [true, true, false, true, false])
 [vu
 (IntKind.wrap IntKind.u64
 (Int.add x295
 (ishl IntKind.u64 (IntKind.wrap IntKind.u64 ((UInt8.toNat b298) : Int))
 (IntKind.wrap IntKind.i64 (Int.mul 8 x296))))),
 vi (IntKind.wrap IntKind.i64 (Int.add x296 1)), vs s297]
 []
 else none
 else some (Out.jump (JX.exit 0) [vu x295, vi x296], []) := by
  intros
  exact (E_in [52] _ _ _).trans (by kernel_rfl)

end Go.Proofs.Av
