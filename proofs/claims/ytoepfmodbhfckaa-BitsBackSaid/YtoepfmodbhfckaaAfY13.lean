/- Bits: law 13 as a tree. -/
import Derived.Test.YtoepfmodbhfckaaAfPP
set_option maxRecDepth 100000
namespace Go.Proofs.Av
open Go
noncomputable def q13_0 : ByteArray → Int → ByteArray → Option (Out × Heap) :=
 fun s24 n8 s40 ↦
 bif decide (((ByteArray.size s24) : Int) = IntKind.wrap IntKind.i64 (Int.add (IntKind.wrap IntKind.i64 (Int.tdiv n8 8)) 1)) then
 bif decide (((ByteArray.size s40) : Int) = IntKind.wrap IntKind.i64 (Int.tdiv (IntKind.wrap IntKind.i64 (Int.add n8 7)) 8)) then
 some (Out.ret (vbool true), [])
 else some (Out.ret (vbool false), [])
 else some (Out.ret (vbool false), [])


noncomputable def q13_1 : Int → Int → ByteArray → ByteArray → ByteArray → List (List AV) → List (List AV) → Option (Out × Heap) :=
 fun n8 n16 s24 s40 s48 es10 es18 ↦
 bif n8 != n16 then q13_0 s24 n8 s40
 else
 bif List.beq (ByteArray.toList s40) (ByteArray.toList s48) then
 Option.bind
 (E cx (Key.fn 67)
 [AV.agg [vi n8, AV.list 0 1 es10], AV.agg [vi n16, AV.list 0 1 es18]]
 [])
 fun r100 ↦
 Option.bind (ret1 r100) fun v101 ↦
 Option.bind (AV.bool? v101) fun b102 ↦
 bif b102 then q13_0 s24 n8 s40 else some (Out.ret (vbool false), [])
 else
 Option.bind
 (E cx (Key.fn 67)
 [AV.agg [vi n8, AV.list 0 1 es10], AV.agg [vi n16, AV.list 0 1 es18]]
 [])
 fun r103 ↦
 Option.bind (ret1 r103) fun v104 ↦
 Option.bind (AV.bool? v104) fun b105 ↦
 bif b105 then some (Out.ret (vbool false), []) else q13_0 s24 n8 s40


theorem f13 : ∀ (n0 : Int) (raw1 : List (List AV)) (m2 : Int) (other3 : List (List AV)),
 E cx (Key.fn 13)
 [vi n0, AV.list 0 1 raw1, vi m2, AV.list 0 1 other3] [] =
 Option.bind (E cx (Key.fn 55) [vi n0, vi 200, AV.list 0 1 raw1] []) fun r4 ↦
 Option.bind (ret1 r4) fun v5 ↦
 Option.bind (AV.cells? v5) fun cs6 ↦
 Option.bind (uncons? cs6) fun p7 ↦
 Option.bind (AV.int? IntKind.i64 p7.fst) fun n8 ↦
 Option.bind (uncons? p7.snd) fun p9 ↦
 Option.bind (AV.list? 1 p9.fst) fun es10 ↦
 Option.bind (nil? p9.snd) fun _ ↦
 Option.bind
 (E cx (Key.fn 55) [vi m2, vi 200, AV.list 0 1 other3] [])
 fun r12 ↦
 Option.bind (ret1 r12) fun v13 ↦
 Option.bind (AV.cells? v13) fun cs14 ↦
 Option.bind (uncons? cs14) fun p15 ↦
 Option.bind (AV.int? IntKind.i64 p15.fst) fun n16 ↦
 Option.bind (uncons? p15.snd) fun p17 ↦
 Option.bind (AV.list? 1 p17.fst) fun es18 ↦
 Option.bind (nil? p17.snd) fun _ ↦
 Option.bind
 (E cx (Key.fn 56)
 [AV.agg [vi n8, AV.list 0 1 es10]] [])
 fun r20 ↦
 Option.bind (ret1 r20) fun v21 ↦
 Option.bind (AV.tup? v21) fun vs22 ↦
 Option.bind (uncons? vs22) fun p23 ↦
 Option.bind (AV.str? p23.fst) fun s24 ↦
 Option.bind (uncons? p23.snd) fun p25 ↦
 Option.bind (AV.int? IntKind.i64 p25.fst) fun n26 ↦
 Option.bind (nil? p25.snd) fun _ ↦
 Option.bind
 (E cx (Key.fn 56)
 [AV.agg [vi n16, AV.list 0 1 es18]] [])
 fun r28 ↦
 Option.bind (ret1 r28) fun v29 ↦
 Option.bind (AV.tup? v29) fun vs30 ↦
 Option.bind (uncons? vs30) fun p31 ↦
 Option.bind (AV.str? p31.fst) fun s32 ↦
 Option.bind (uncons? p31.snd) fun p33 ↦
 Option.bind (AV.int? IntKind.i64 p33.fst) fun n34 ↦
 Option.bind (nil? p33.snd) fun _ ↦
 Option.bind
 (E cx (Key.fn 58)
 [AV.agg [vi n8, AV.list 0 1 es10]] [])
 fun r36 ↦
 Option.bind (ret1 r36) fun v37 ↦
 Option.bind (AV.tup? v37) fun vs38 ↦
 Option.bind (uncons? vs38) fun p39 ↦
 Option.bind (AV.str? p39.fst) fun s40 ↦
 Option.bind (uncons? p39.snd) fun p41 ↦
 Option.bind (AV.int? IntKind.i64 p41.fst) fun n42 ↦
 Option.bind (nil? p41.snd) fun _ ↦
 Option.bind
 (E cx (Key.fn 58)
 [AV.agg
 [vi n16, AV.list 0 1 es18]]
 [])
 fun r44 ↦
 Option.bind (ret1 r44) fun v45 ↦
 Option.bind (AV.tup? v45) fun vs46 ↦
 Option.bind (uncons? vs46) fun p47 ↦
 Option.bind (AV.str? p47.fst) fun s48 ↦
 Option.bind (uncons? p47.snd) fun p49 ↦
 Option.bind (AV.int? IntKind.i64 p49.fst)
 fun n50 ↦
 Option.bind (nil? p49.snd) fun _ ↦
 Option.bind
 (E cx (Key.fn 73)
 [vs s24, vi n8] [])
 fun r52 ↦
 Option.bind (ret1 r52) fun v53 ↦
 Option.bind (AV.tup? v53) fun vs54 ↦
 Option.bind (uncons? vs54) fun p55 ↦
 Option.bind (AV.cells? p55.fst)
 fun cs56 ↦
 Option.bind (uncons? cs56) fun p57 ↦
 Option.bind
 (AV.int? IntKind.i64 p57.fst)
 fun n58 ↦
 Option.bind (uncons? p57.snd)
 fun p59 ↦
 Option.bind
 (AV.list? 1 p59.fst)
 fun es60 ↦
 Option.bind (nil? p59.snd)
 fun _ ↦
 Option.bind
 (uncons? p55.snd)
 fun p62 ↦
 Option.bind
 (AV.int? IntKind.i64
 p62.fst)
 fun n63 ↦
 Option.bind
 (nil? p62.snd)
 fun _ ↦
 Option.bind
 (E cx
 (Key.fn 75)
 [vs s40,
 vi n8]
 [])
 fun r65 ↦
 Option.bind
 (ret1 r65)
 fun v66 ↦
 Option.bind
 (AV.tup? v66)
 fun vs67 ↦
 Option.bind
 (uncons?
 vs67)
 fun p68 ↦
 Option.bind
 (AV.cells?
 p68.fst)
 fun cs69 ↦
 Option.bind
 (uncons?
 cs69)
 fun p70 ↦
 Option.bind
 (AV.int?
 IntKind.i64
 p70.fst)
 fun n71 ↦
 Option.bind
 (uncons?
 p70.snd)
 fun p72 ↦
 Option.bind
 (AV.list?
 1 p72.fst)
 fun es73 ↦
 Option.bind
 (nil?
 p72.snd)
 fun _ ↦
 Option.bind
 (uncons?
 p68.snd)
 fun p75 ↦
 Option.bind
 (AV.int?
 IntKind.i64
 p75.fst)
 fun n76 ↦
 Option.bind
 (nil?
 p75.snd)
 fun
 _ ↦
 Option.bind
 (E
 cx
 (Key.fn
 73)
 [vs
 s24,
 vi
 (IntKind.wrap
 IntKind.i64
 (Int.sub
 n8
 1))]
 [])
 fun
 r78 ↦
 Option.bind
 (ret1
 r78)
 fun
 v79 ↦
 Option.bind
 (AV.tup?
 v79)
 fun
 vs80 ↦
 Option.bind
 (uncons?
 vs80)
 fun
 p81 ↦
 Option.bind
 (AV.cells?
 p81.fst)
 fun
 cs82 ↦
 Option.bind
 (uncons?
 cs82)
 fun
 p83 ↦
 Option.bind
 (AV.int?
 IntKind.i64
 p83.fst)
 fun
 _ ↦
 Option.bind
 (uncons?
 p83.snd)
 fun
 p85 ↦
 Option.bind
 (AV.list?
 1
 p85.fst)
 fun
 _ ↦
 Option.bind
 (nil?
 p85.snd)
 fun
 _ ↦
 Option.bind
 (uncons?
 p81.snd)
 fun
 p88 ↦
 Option.bind
 (AV.int?
 IntKind.i64
 p88.fst)
 fun
 n89 ↦
 Option.bind
 (nil?
 p88.snd)
 fun
 _ ↦
 bif
 decide
 (n26 =
 0) then
 bif
 decide
 (n34 =
 0) then
 bif
 decide
 (n42 =
 0) then
 bif
 decide
 (n50 =
 0) then
 bif
 decide
 (n63 =
 0) then
 bif
 decide
 (n76 =
 0) then
 Option.bind
 (E
 cx
 (Key.fn
 67)
 [AV.agg
 [vi
 n58,
 AV.list
 0
 1
 es60],
 AV.agg
 [vi
 n8,
 AV.list
 0
 1
 es10]]
 [])
 fun
 r91 ↦
 Option.bind
 (ret1
 r91)
 fun
 v92 ↦
 Option.bind
 (AV.bool?
 v92)
 fun
 b93 ↦
 bif
 b93 then
 Option.bind
 (E
 cx
 (Key.fn
 67)
 [AV.agg
 [vi
 n71,
 AV.list
 0
 1
 es73],
 AV.agg
 [vi
 n8,
 AV.list
 0
 1
 es10]]
 [])
 fun
 r94 ↦
 Option.bind
 (ret1
 r94)
 fun
 v95 ↦
 Option.bind
 (AV.bool?
 v95)
 fun
 b96 ↦
 bif
 b96 then
 bif
 decide
 (n89 =
 4) then
 bif
 List.beq
 (ByteArray.toList
 s24)
 (ByteArray.toList
 s32) then
 Option.bind
 (E
 cx
 (Key.fn
 67)
 [AV.agg
 [vi
 n8,
 AV.list
 0
 1
 es10],
 AV.agg
 [vi
 n16,
 AV.list
 0
 1
 es18]]
 [])
 fun
 r97 ↦
 Option.bind
 (ret1
 r97)
 fun
 v98 ↦
 Option.bind
 (AV.bool?
 v98)
 fun
 b99 ↦
 bif
 b99 then
 q13_1
 n8
 n16
 s24
 s40
 s48
 es10
 es18
 else
 some
 (Out.ret
 (vbool
 false),
 [])
 else
 Option.bind
 (E
 cx
 (Key.fn
 67)
 [AV.agg
 [vi
 n8,
 AV.list
 0
 1
 es10],
 AV.agg
 [vi
 n16,
 AV.list
 0
 1
 es18]]
 [])
 fun
 r106 ↦
 Option.bind
 (ret1
 r106)
 fun
 v107 ↦
 Option.bind
 (AV.bool?
 v107)
 fun
 b108 ↦
 bif
 b108 then
 some
 (Out.ret
 (vbool
 false),
 [])
 else
 q13_1
 n8
 n16
 s24
 s40
 s48
 es10
 es18
 else
 some
 (Out.ret
 (vbool
 false),
 [])
 else
 some
 (Out.ret
 (vbool
 false),
 [])
 else
 some
 (Out.ret
 (vbool
 false),
 [])
 else
 some
 (Out.ret
 (vbool
 false),
 [])
 else
 some
 (Out.ret
 (vbool
 false),
 [])
 else
 some
 (Out.ret
 (vbool
 false),
 [])
 else
 some
 (Out.ret
 (vbool
 false),
 [])
 else
 some
 (Out.ret
 (vbool
 false),
 [])
 else
 some
 (Out.ret
 (vbool
 false),
 []) := by
  intros
  exact (E_ov f54_true [188] _ _ _).trans (by kernel_rfl)

end Go.Proofs.Av
