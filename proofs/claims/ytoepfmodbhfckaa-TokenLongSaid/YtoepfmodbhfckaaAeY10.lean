/- Token: law 10 as a tree. -/
import Derived.Test.YtoepfmodbhfckaaAePQ
set_option maxRecDepth 100000
namespace Go.Proofs.Av
open Go
theorem f10 : ∀ (n0 key1 : Int),
 E cx (Key.fn 10) [vi n0, vu key1] [] =
 Option.bind (E cx (Key.fn 48) [vi n0, vi 16] []) fun r2 ↦
 Option.bind (ret1 r2) fun v3 ↦
 Option.bind (AV.int? IntKind.i64 v3) fun n4 ↦
 if 0 ≤ IntKind.wrap IntKind.i64 (Int.add 2040 n4) then
 if IntKind.wrap IntKind.i64 (Int.add 2040 n4) ≤ IntKind.wrap IntKind.i64 (Int.add 2040 n4) then
 if Int.mul 16 (IntKind.wrap IntKind.i64 (Int.add 2040 n4)) ≤ 281474976710656 then
 Option.bind
 (E cx (Key.loop 10 [true, true, true, true, false, true, false])
 [vi 0, vu key1, vbool true, vi (IntKind.wrap IntKind.i64 (Int.add 2040 n4)),
 AV.ptr 1 0 0 0]
 [Ob.mk OK.arr 80 2 2
 (List.replicate (Int.toNat (IntKind.wrap IntKind.i64 (Int.add 2040 n4))) [vu 0, vu 0]),
 Ob.mk OK.box 36 2 0
 [[vbool false, AV.arr 0 2 0 (Int.toNat (IntKind.wrap IntKind.i64 (Int.add 2040 n4)))]]])
 fun r5 ↦
 Option.bind (asJump r5) fun j6 ↦
 bif JX.is j6.fst (JX.exit 0) then
 Option.bind (uncons? j6.snd.fst) fun p7 ↦
 Option.bind (AV.int? IntKind.i64 p7.fst) fun _ ↦
 Option.bind (nil? p7.snd) fun _ ↦
 Option.bind (uncons? j6.snd.snd) fun p10 ↦
 Option.bind
 (obIs
 (Ob.mk OK.arr 80 2 2
 (List.replicate (Int.toNat (IntKind.wrap IntKind.i64 (Int.add 2040 n4))) [vu 0, vu 0]))
 p10.fst)
 fun _ ↦
 Option.bind (chk p10.fst.ver 2) fun _ ↦
 Option.bind (uncons? p10.snd) fun p13 ↦
 Option.bind
 (obIs
 (Ob.mk OK.box 36 2 0
 [[vbool false,
 AV.arr 0 2 0 (Int.toNat (IntKind.wrap IntKind.i64 (Int.add 2040 n4)))]])
 p13.fst)
 fun _ ↦
 Option.bind (chk p13.fst.ver 0) fun _ ↦
 Option.bind (uncons? p13.fst.es) fun p16 ↦
 Option.bind (nil? p16.snd) fun _ ↦
 Option.bind (uncons? p16.fst) fun p18 ↦
 Option.bind (AV.bool? p18.fst) fun b19 ↦
 Option.bind (uncons? p18.snd) fun p20 ↦
 Option.bind (AV.arr? 0 p20.fst) fun x21 ↦
 Option.bind (chk x21.fst 2) fun _ ↦
 Option.bind (nil? p20.snd) fun _ ↦
 Option.bind (nil? p13.snd) fun _ ↦
 bif Nat.beq (List.length p10.fst.es) 0 then none
 else
 Option.bind (chkLe (Nat.add x21.snd.fst x21.snd.snd) (List.length p10.fst.es))
 fun _ ↦
 Option.bind
 (E cx (Key.fn 38)
 [AV.agg
 [vbool b19,
 AV.list 0 2
 (List.drop x21.snd.fst (List.take (Nat.add x21.snd.fst x21.snd.snd) p10.fst.es))]]
 [])
 fun r26 ↦
 Option.bind (ret1 r26) fun v27 ↦
 Option.bind (AV.tup? v27) fun vs28 ↦
 Option.bind (uncons? vs28) fun p29 ↦
 Option.bind (AV.str? p29.fst) fun s30 ↦
 Option.bind (uncons? p29.snd) fun p31 ↦
 Option.bind (AV.int? IntKind.i64 p31.fst) fun n32 ↦
 Option.bind (nil? p31.snd) fun _ ↦
 if
 0 ≤
 IntKind.wrap IntKind.i64
 (Int.tdiv (IntKind.wrap IntKind.i64 (Int.add 2040 n4)) 2) then
 if
 IntKind.wrap IntKind.i64
 (Int.tdiv (IntKind.wrap IntKind.i64 (Int.add 2040 n4)) 2) ≤
 ((List.length
 (List.drop x21.snd.fst
 (List.take (Nat.add x21.snd.fst x21.snd.snd) p10.fst.es))) : Int) then
 if
 0 ≤
 IntKind.wrap IntKind.i64
 (Int.tdiv (IntKind.wrap IntKind.i64 (Int.add 2040 n4)) 2) then
 if
 IntKind.wrap IntKind.i64
 (Int.tdiv (IntKind.wrap IntKind.i64 (Int.add 2040 n4)) 2) ≤
 ((List.length
 (List.drop x21.snd.fst
 (List.take (Nat.add x21.snd.fst x21.snd.snd) p10.fst.es))) : Int) then
 Option.bind
 (E cx (Key.fn 45)
 [AV.list 0 2
 [[vbool false,
 AV.list 0 2
 (List.drop 0
 (List.take
 (Int.toNat
 (IntKind.wrap IntKind.i64
 (Int.tdiv
 (IntKind.wrap IntKind.i64 (Int.add 2040 n4))
 2)))
 (List.drop x21.snd.fst
 (List.take (Nat.add x21.snd.fst x21.snd.snd)
 p10.fst.es))))],
 [vbool false,
 AV.list 0 2
 (List.drop
 (Int.toNat
 (IntKind.wrap IntKind.i64
 (Int.tdiv
 (IntKind.wrap IntKind.i64 (Int.add 2040 n4))
 2)))
 (List.take
 (List.length
 (List.drop x21.snd.fst
 (List.take (Nat.add x21.snd.fst x21.snd.snd)
 p10.fst.es)))
 (List.drop x21.snd.fst
 (List.take (Nat.add x21.snd.fst x21.snd.snd)
 p10.fst.es))))]]]
 [])
 fun r34 ↦
 Option.bind (ret1 r34) fun v35 ↦
 Option.bind (AV.tup? v35) fun vs36 ↦
 Option.bind (uncons? vs36) fun p37 ↦
 Option.bind (AV.cells? p37.fst) fun cs38 ↦
 Option.bind (uncons? cs38) fun p39 ↦
 Option.bind (AV.bool? p39.fst) fun b40 ↦
 Option.bind (uncons? p39.snd) fun p41 ↦
 Option.bind (AV.list? 2 p41.fst) fun es42 ↦
 Option.bind (nil? p41.snd) fun _ ↦
 Option.bind (uncons? p37.snd) fun p44 ↦
 Option.bind
 (AV.int? IntKind.i64 p44.fst)
 fun n45 ↦
 Option.bind (nil? p44.snd) fun _ ↦
 if
 0 ≤
 IntKind.wrap IntKind.i64
 (Int.mul 16
 (IntKind.wrap IntKind.i64
 (Int.add 2040 n4))) then
 if
 IntKind.wrap IntKind.i64
 (Int.mul 16
 (IntKind.wrap IntKind.i64
 (Int.add 2040 n4))) ≤
 IntKind.wrap IntKind.i64
 (Int.mul 16
 (IntKind.wrap IntKind.i64
 (Int.add 2040 n4))) then
 if
 Int.mul 1
 (IntKind.wrap IntKind.i64
 (Int.mul 16
 (IntKind.wrap IntKind.i64
 (Int.add 2040 n4)))) ≤
 281474976710656 then
 Option.bind
 (yRows
 [Ob.mk OK.ro
 80 2 2 p10.fst.es,
 Ob.mk
 OK.box 36 2 0
 [[vbool b19,
 AV.list 0 2
 (List.drop x21.snd.fst
 (List.take
 (Nat.add x21.snd.fst
 x21.snd.snd)
 p10.fst.es))]],
 Ob.mk
 OK.box 36 2 0
 [[vbool b40,
 AV.list 0 2
 es42]],
 Ob.mk
 OK.arr 5 1 1
 (List.replicate
 (Int.toNat
 (IntKind.wrap
 IntKind.i64
 (Int.mul 16
 (IntKind.wrap
 IntKind.i64
 (Int.add 2040 n4)))))
 [vb 0])]
 1
 (AV.arr 3 1 0
 (Int.toNat
 (IntKind.wrap IntKind.i64
 (Int.mul 16
 (IntKind.wrap
 IntKind.i64
 (Int.add 2040 n4)))))))
 fun ys47 ↦
 Option.bind (numsOf ys47)
 fun ns48 ↦
 if
 ((Nat.add 1
 (ByteArray.size
 (Go.strOfNums ns48))) : Int) >
 9223372036854775807 then
 none
 else
 Option.bind
 (E cx
 (Key.fn 49)
 [vs
 (ByteArray.append
 (ByteArray.mk
 (Array.mk
 [UInt8.ofNat 0]))
 (Go.strOfNums ns48))]
 [])
 fun r49 ↦
 Option.bind
 (ret1 r49)
 fun v50 ↦
 Option.bind
 (AV.tup? v50)
 fun vs51 ↦
 Option.bind
 (uncons? vs51)
 fun p52 ↦
 Option.bind
 (AV.cells?
 p52.fst)
 fun cs53 ↦
 Option.bind
 (uncons?
 cs53)
 fun p54 ↦
 Option.bind
 (AV.bool?
 p54.fst)
 fun _ ↦
 Option.bind
 (uncons?
 p54.snd)
 fun p56 ↦
 Option.bind
 (AV.list?
 2 p56.fst)
 fun es57 ↦
 Option.bind
 (nil?
 p56.snd)
 fun _ ↦
 Option.bind
 (uncons?
 p52.snd)
 fun p59 ↦
 Option.bind
 (AV.int?
 IntKind.i64
 p59.fst)
 fun n60 ↦
 Option.bind
 (nil?
 p59.snd)
 fun _ ↦
 bif
 decide
 (IntKind.wrap
 IntKind.i64
 (Int.add
 2040
 n4) ≤
 2048) then
 Option.bind
 (E
 cx
 (Key.fn
 40)
 [AV.agg
 [vbool
 b19,
 AV.list
 0
 2
 (List.drop
 x21.snd.fst
 (List.take
 (Nat.add
 x21.snd.fst
 x21.snd.snd)
 p10.fst.es))]]
 [])
 fun
 r62 ↦
 Option.bind
 (ret1
 r62)
 fun
 v63 ↦
 Option.bind
 (AV.bool?
 v63)
 fun
 b64 ↦
 bif
 b64 then
 bif
 decide
 (n32 =
 0) then
 bif
 decide
 (((ByteArray.size
 s30) : Int) =
 IntKind.wrap
 IntKind.i64
 (Int.add
 1
 (IntKind.wrap
 IntKind.i64
 (Int.mul
 16
 (IntKind.wrap
 IntKind.i64
 (Int.add
 2040
 n4)))))) then
 bif
 decide
 (n45 =
 0) then
 Option.bind
 (E
 cx
 (Key.fn
 47)
 [AV.agg
 [vbool
 b40,
 AV.list
 0
 2
 es42],
 AV.agg
 [vbool
 b19,
 AV.list
 0
 2
 (List.drop
 x21.snd.fst
 (List.take
 (Nat.add
 x21.snd.fst
 x21.snd.snd)
 p10.fst.es))]]
 [])
 fun
 r65 ↦
 Option.bind
 (ret1
 r65)
 fun
 v66 ↦
 Option.bind
 (AV.bool?
 v66)
 fun
 b67 ↦
 bif
 b67 then
 bif
 decide
 (n60 =
 0) then
 bif
 decide
 (((List.length
 es57) : Int) =
 IntKind.wrap
 IntKind.i64
 (Int.add
 2040
 n4)) then
 some
 (Out.ret
 (vbool
 true),
 [])
 else
 some
 (Out.ret
 (vbool
 false),
 [])
 else
 some
 (Out.ret
 (vbool
 false),
 [])
 else
 some
 (Out.ret
 (vbool
 false),
 [])
 else
 some
 (Out.ret
 (vbool
 false),
 [])
 else
 some
 (Out.ret
 (vbool
 false),
 [])
 else
 some
 (Out.ret
 (vbool
 false),
 [])
 else
 some
 (Out.ret
 (vbool
 false),
 [])
 else
 Option.bind
 (E
 cx
 (Key.fn
 40)
 [AV.agg
 [vbool
 b19,
 AV.list
 0
 2
 (List.drop
 x21.snd.fst
 (List.take
 (Nat.add
 x21.snd.fst
 x21.snd.snd)
 p10.fst.es))]]
 [])
 fun
 r68 ↦
 Option.bind
 (ret1
 r68)
 fun
 v69 ↦
 Option.bind
 (AV.bool?
 v69)
 fun
 b70 ↦
 bif
 b70 then
 some
 (Out.ret
 (vbool
 false),
 [])
 else
 bif
 decide
 (n32 =
 1) then
 bif
 List.beq
 (ByteArray.toList
 s30)
 (ByteArray.toList
 (ByteArray.mk
 (Array.mk
 []))) then
 bif
 decide
 (n45 =
 4) then
 bif
 decide
 (((List.length
 es42) : Int) =
 0) then
 bif
 decide
 (n60 =
 4) then
 bif
 decide
 (((List.length
 es57) : Int) =
 0) then
 some
 (Out.ret
 (vbool
 true),
 [])
 else
 some
 (Out.ret
 (vbool
 false),
 [])
 else
 some
 (Out.ret
 (vbool
 false),
 [])
 else
 some
 (Out.ret
 (vbool
 false),
 [])
 else
 some
 (Out.ret
 (vbool
 false),
 [])
 else
 some
 (Out.ret
 (vbool
 false),
 [])
 else
 some
 (Out.ret
 (vbool
 false),
 [])
 else none
 else none
 else none
 else none
 else none
 else none
 else none
 else none
 else none
 else none
 else none := by
  intros
  exact (E_ov f36_true [188] _ _ _).trans (by kernel_rfl)


theorem f10_l0 : ∀ (x71 x72 : Int) (b73 : Bool) (x74 : Int) (l75 : List (List AV)) (b76 : Bool) (n77 : Nat),
 E cx (Key.loop 10 [true, true, true, true, false, true, false])
 [vi x71, vu x72, vbool b73, vi x74, AV.ptr 1 0 0 0]
 [Ob.mk OK.arr 80 2 2 l75,
 Ob.mk OK.box 36 2 0 [[vbool b76, AV.arr 0 2 0 n77]]] =
 bif decide (x71 < x74) then
 if 0 ≤ x71 then
 if x71 < (n77 : Int) then
 Option.bind (nth l75 (Nat.add 0 (Int.toNat x71))) fun cs78 ↦
 Option.bind (uncons? cs78) fun p79 ↦
 Option.bind (AV.int? IntKind.u64 p79.fst) fun _ ↦
 Option.bind (uncons? p79.snd) fun p81 ↦
 Option.bind (AV.int? IntKind.u64 p81.fst) fun _ ↦
 Option.bind (nil? p81.snd) fun _ ↦
 E cx (Key.loop 10 [true, true, true, true, false, true, false])
 [vi (IntKind.wrap IntKind.i64 (Int.add x71 1)), vu x72, vbool b73, vi x74,
 AV.ptr 1 0 0 0]
 [Ob.mk OK.arr 80 2 2
 (List.set l75 (Nat.add 0 (Int.toNat x71))
 [vu x72, vu (IntKind.wrap IntKind.u64 (IntKind.wrap IntKind.i64 (Int.tdiv x71 2)))]),
 Ob.mk OK.box 36 2 0 [[vbool b76, AV.arr 0 2 0 n77]]]
 else none
 else none
 else
 some
 (Out.jump (JX.exit 0) [vi x71],
 [Ob.mk OK.arr 80 2 2 l75,
 Ob.mk OK.box 36 2 0 [[vbool b76, AV.arr 0 2 0 n77]]]) := by
  intros
  exact (E_ov f36_true [188] _ _ _).trans (by kernel_rfl)

end Go.Proofs.Av
