/- The tree of Wire's fixed calls. -/
import Derived.Test.YtoepfmodbhfckaaAgX
set_option maxRecDepth 100000
namespace Go.Proofs.Av
open Go
theorem f24 : E cx (Key.fn 24) [] [] =
 Option.bind
 (E cx (Key.fn 26)
 [AV.agg
 [vu 0, vu 0, vu 0, vu 0, vu 0, vi 0,
 AV.val (Value.slice none 0 0), vbool false, AV.val (Value.slice none 0 0)]]
 [])
 fun r0 ↦
 Option.bind (ret1 r0) fun v1 ↦
 Option.bind (AV.tup? v1) fun vs2 ↦
 Option.bind (uncons? vs2) fun p3 ↦
 Option.bind (AV.str? p3.fst) fun s4 ↦
 Option.bind (uncons? p3.snd) fun p5 ↦
 Option.bind (AV.int? IntKind.i64 p5.fst) fun n6 ↦
 Option.bind (nil? p5.snd) fun _ ↦
 Option.bind (E cx (Key.fn 27) [vs s4] []) fun r8 ↦
 Option.bind (ret1 r8) fun v9 ↦
 Option.bind (AV.tup? v9) fun vs10 ↦
 Option.bind (uncons? vs10) fun p11 ↦
 Option.bind (AV.cells? p11.fst) fun cs12 ↦
 Option.bind (uncons? cs12) fun p13 ↦
 Option.bind (AV.int? IntKind.u64 p13.fst) fun n14 ↦
 Option.bind (uncons? p13.snd) fun p15 ↦
 Option.bind (AV.int? IntKind.u64 p15.fst) fun n16 ↦
 Option.bind (uncons? p15.snd) fun p17 ↦
 Option.bind (AV.int? IntKind.u64 p17.fst) fun n18 ↦
 Option.bind (uncons? p17.snd) fun p19 ↦
 Option.bind (AV.int? IntKind.u64 p19.fst) fun n20 ↦
 Option.bind (uncons? p19.snd) fun p21 ↦
 Option.bind (AV.int? IntKind.u64 p21.fst) fun n22 ↦
 Option.bind (uncons? p21.snd) fun p23 ↦
 Option.bind (AV.int? IntKind.i64 p23.fst) fun n24 ↦
 Option.bind (uncons? p23.snd) fun p25 ↦
 Option.bind (AV.list? 1 p25.fst) fun es26 ↦
 Option.bind (uncons? p25.snd) fun p27 ↦
 Option.bind (AV.bool? p27.fst) fun b28 ↦
 Option.bind (uncons? p27.snd) fun p29 ↦
 Option.bind (AV.list? 2 p29.fst) fun es30 ↦
 Option.bind (nil? p29.snd) fun _ ↦
 Option.bind (uncons? p11.snd) fun p32 ↦
 Option.bind (AV.int? IntKind.i64 p32.fst) fun n33 ↦
 Option.bind (nil? p32.snd) fun _ ↦
 if 0 ≤ if 30 < ((ByteArray.size s4) : Int) then 30 else ((ByteArray.size s4) : Int) then
 if
 (if 30 < ((ByteArray.size s4) : Int) then 30 else ((ByteArray.size s4) : Int)) ≤
 ((ByteArray.size s4) : Int) then
 Option.bind
 (E cx (Key.fn 27)
 [vs
 (ByteArray.extract s4 0
 (Int.toNat
 (if 30 < ((ByteArray.size s4) : Int) then 30 else ((ByteArray.size s4) : Int))))]
 [])
 fun r35 ↦
 Option.bind (ret1 r35) fun v36 ↦
 Option.bind (AV.tup? v36) fun vs37 ↦
 Option.bind (uncons? vs37) fun p38 ↦
 Option.bind (AV.cells? p38.fst) fun cs39 ↦
 Option.bind (uncons? cs39) fun p40 ↦
 Option.bind (AV.int? IntKind.u64 p40.fst) fun _ ↦
 Option.bind (uncons? p40.snd) fun p42 ↦
 Option.bind (AV.int? IntKind.u64 p42.fst) fun _ ↦
 Option.bind (uncons? p42.snd) fun p44 ↦
 Option.bind (AV.int? IntKind.u64 p44.fst)
 fun _ ↦
 Option.bind (uncons? p44.snd) fun p46 ↦
 Option.bind (AV.int? IntKind.u64 p46.fst)
 fun _ ↦
 Option.bind (uncons? p46.snd) fun p48 ↦
 Option.bind
 (AV.int? IntKind.u64 p48.fst)
 fun _ ↦
 Option.bind (uncons? p48.snd) fun p50 ↦
 Option.bind
 (AV.int? IntKind.i64 p50.fst)
 fun _ ↦
 Option.bind (uncons? p50.snd)
 fun p52 ↦
 Option.bind (AV.list? 1 p52.fst)
 fun _ ↦
 Option.bind (uncons? p52.snd)
 fun p54 ↦
 Option.bind (AV.bool? p54.fst)
 fun _ ↦
 Option.bind (uncons? p54.snd)
 fun p56 ↦
 Option.bind
 (AV.list? 2 p56.fst)
 fun _ ↦
 Option.bind
 (nil? p56.snd)
 fun _ ↦
 Option.bind
 (uncons? p38.snd)
 fun p59 ↦
 Option.bind
 (AV.int?
 IntKind.i64 p59.fst)
 fun n60 ↦
 Option.bind
 (nil? p59.snd)
 fun _ ↦
 Option.bind
 (E
 cx
 (Key.fn 26)
 [AV.agg
 [vu 0,
 vu 0,
 vu 0,
 vu 0,
 vu 0,
 vi
 (-1),
 AV.val
 (Value.slice
 none 0 0),
 vbool
 false,
 AV.val
 (Value.slice
 none 0 0)]]
 [])
 fun r62 ↦
 Option.bind
 (ret1 r62)
 fun v63 ↦
 Option.bind
 (AV.tup?
 v63)
 fun vs64 ↦
 Option.bind
 (uncons?
 vs64)
 fun p65 ↦
 Option.bind
 (AV.str?
 p65.fst)
 fun _ ↦
 Option.bind
 (uncons?
 p65.snd)
 fun p67 ↦
 Option.bind
 (AV.int?
 IntKind.i64
 p67.fst)
 fun n68 ↦
 Option.bind
 (nil?
 p67.snd)
 fun _ ↦
 Option.bind
 (E
 cx
 (Key.fn
 29)
 [AV.agg
 [vu
 3,
 vbool
 false,
 AV.val
 (Value.slice
 none
 0
 0),
 vu
 0,
 vu
 0,
 vu
 0,
 vu
 0,
 vu
 0,
 vi
 0,
 AV.val
 (Value.slice
 none
 0
 0),
 vbool
 false,
 AV.val
 (Value.slice
 none
 0
 0)]]
 [])
 fun r70 ↦
 Option.bind
 (ret1
 r70)
 fun v71 ↦
 Option.bind
 (AV.tup?
 v71)
 fun
 vs72 ↦
 Option.bind
 (uncons?
 vs72)
 fun
 p73 ↦
 Option.bind
 (AV.str?
 p73.fst)
 fun
 s74 ↦
 Option.bind
 (uncons?
 p73.snd)
 fun
 p75 ↦
 Option.bind
 (AV.int?
 IntKind.i64
 p75.fst)
 fun
 n76 ↦
 Option.bind
 (nil?
 p75.snd)
 fun
 _ ↦
 Option.bind
 (E
 cx
 (Key.fn
 30)
 [vs
 s74]
 [])
 fun
 r78 ↦
 Option.bind
 (ret1
 r78)
 fun
 v79 ↦
 Option.bind
 (AV.tup?
 v79)
 fun
 vs80 ↦
 Option.bind
 (uncons?
 vs80)
 fun
 p81 ↦
 Option.bind
 (AV.cells?
 p81.fst)
 fun
 cs82 ↦
 Option.bind
 (uncons?
 cs82)
 fun
 p83 ↦
 Option.bind
 (AV.int?
 IntKind.u64
 p83.fst)
 fun
 n84 ↦
 Option.bind
 (uncons?
 p83.snd)
 fun
 p85 ↦
 Option.bind
 (AV.bool?
 p85.fst)
 fun
 b86 ↦
 Option.bind
 (uncons?
 p85.snd)
 fun
 p87 ↦
 Option.bind
 (AV.list?
 2
 p87.fst)
 fun
 es88 ↦
 Option.bind
 (uncons?
 p87.snd)
 fun
 p89 ↦
 Option.bind
 (AV.int?
 IntKind.u64
 p89.fst)
 fun
 n90 ↦
 Option.bind
 (uncons?
 p89.snd)
 fun
 p91 ↦
 Option.bind
 (AV.int?
 IntKind.u64
 p91.fst)
 fun
 n92 ↦
 Option.bind
 (uncons?
 p91.snd)
 fun
 p93 ↦
 Option.bind
 (AV.int?
 IntKind.u64
 p93.fst)
 fun
 n94 ↦
 Option.bind
 (uncons?
 p93.snd)
 fun
 p95 ↦
 Option.bind
 (AV.int?
 IntKind.u64
 p95.fst)
 fun
 n96 ↦
 Option.bind
 (uncons?
 p95.snd)
 fun
 p97 ↦
 Option.bind
 (AV.int?
 IntKind.u64
 p97.fst)
 fun
 n98 ↦
 Option.bind
 (uncons?
 p97.snd)
 fun
 p99 ↦
 Option.bind
 (AV.int?
 IntKind.i64
 p99.fst)
 fun
 n100 ↦
 Option.bind
 (uncons?
 p99.snd)
 fun
 p101 ↦
 Option.bind
 (AV.list?
 1
 p101.fst)
 fun
 es102 ↦
 Option.bind
 (uncons?
 p101.snd)
 fun
 p103 ↦
 Option.bind
 (AV.bool?
 p103.fst)
 fun
 b104 ↦
 Option.bind
 (uncons?
 p103.snd)
 fun
 p105 ↦
 Option.bind
 (AV.list?
 2
 p105.fst)
 fun
 es106 ↦
 Option.bind
 (nil?
 p105.snd)
 fun
 _ ↦
 Option.bind
 (uncons?
 p81.snd)
 fun
 p108 ↦
 Option.bind
 (AV.int?
 IntKind.i64
 p108.fst)
 fun
 n109 ↦
 Option.bind
 (nil?
 p108.snd)
 fun
 _ ↦
 Option.bind
 (E
 cx
 (Key.fn
 32)
 [AV.agg
 [vu
 1,
 vu
 2,
 vu
 3]]
 [])
 fun
 r111 ↦
 Option.bind
 (ret1
 r111)
 fun
 v112 ↦
 Option.bind
 (AV.str?
 v112)
 fun
 s113 ↦
 Option.bind
 (E
 cx
 (Key.fn
 31)
 [vs
 s113]
 [])
 fun
 r114 ↦
 Option.bind
 (ret1
 r114)
 fun
 v115 ↦
 Option.bind
 (AV.tup?
 v115)
 fun
 vs116 ↦
 Option.bind
 (uncons?
 vs116)
 fun
 p117 ↦
 Option.bind
 (AV.cells?
 p117.fst)
 fun
 cs118 ↦
 Option.bind
 (uncons?
 cs118)
 fun
 p119 ↦
 Option.bind
 (AV.int?
 IntKind.u64
 p119.fst)
 fun
 n120 ↦
 Option.bind
 (uncons?
 p119.snd)
 fun
 p121 ↦
 Option.bind
 (AV.int?
 IntKind.u64
 p121.fst)
 fun
 n122 ↦
 Option.bind
 (uncons?
 p121.snd)
 fun
 p123 ↦
 Option.bind
 (AV.int?
 IntKind.u64
 p123.fst)
 fun
 n124 ↦
 Option.bind
 (nil?
 p123.snd)
 fun
 _ ↦
 Option.bind
 (uncons?
 p117.snd)
 fun
 p126 ↦
 Option.bind
 (AV.int?
 IntKind.i64
 p126.fst)
 fun
 n127 ↦
 Option.bind
 (nil?
 p126.snd)
 fun
 _ ↦
 Option.bind
 (E
 cx
 (Key.fn
 31)
 [vs
 (ByteArray.mk
 (Array.mk
 []))]
 [])
 fun
 r129 ↦
 Option.bind
 (ret1
 r129)
 fun
 v130 ↦
 Option.bind
 (AV.tup?
 v130)
 fun
 vs131 ↦
 Option.bind
 (uncons?
 vs131)
 fun
 p132 ↦
 Option.bind
 (AV.cells?
 p132.fst)
 fun
 cs133 ↦
 Option.bind
 (uncons?
 cs133)
 fun
 p134 ↦
 Option.bind
 (AV.int?
 IntKind.u64
 p134.fst)
 fun
 _ ↦
 Option.bind
 (uncons?
 p134.snd)
 fun
 p136 ↦
 Option.bind
 (AV.int?
 IntKind.u64
 p136.fst)
 fun
 _ ↦
 Option.bind
 (uncons?
 p136.snd)
 fun
 p138 ↦
 Option.bind
 (AV.int?
 IntKind.u64
 p138.fst)
 fun
 _ ↦
 Option.bind
 (nil?
 p138.snd)
 fun
 _ ↦
 Option.bind
 (uncons?
 p132.snd)
 fun
 p141 ↦
 Option.bind
 (AV.int?
 IntKind.i64
 p141.fst)
 fun
 n142 ↦
 Option.bind
 (nil?
 p141.snd)
 fun
 _ ↦
 bif
 decide
 (n6 =
 0) then
 bif
 List.beq
 (ByteArray.toList
 s4)
 (ByteArray.toList
 (ByteArray.append
 (Go.strOfNums
 [0,
 0,
 0,
 0,
 0,
 0,
 0,
 0,
 0,
 0,
 0,
 0,
 0,
 0,
 0,
 0,
 0,
 0,
 0,
 0,
 0,
 0,
 0,
 0,
 0,
 0,
 0,
 0,
 0,
 0,
 0,
 0,
 0,
 0,
 0,
 0,
 0,
 0,
 0,
 0])
 (ByteArray.mk
 (Array.mk
 [UInt8.ofNat
 48,
 UInt8.ofNat
 0,
 UInt8.ofNat
 0,
 UInt8.ofNat
 0,
 UInt8.ofNat
 49,
 UInt8.ofNat
 0,
 UInt8.ofNat
 0,
 UInt8.ofNat
 0,
 UInt8.ofNat
 1,
 UInt8.ofNat
 0])))) then
 bif
 decide
 (n33 =
 0) then
 Option.bind
 (E
 cx
 (Key.fn
 33)
 [AV.agg
 [vu
 n14,
 vu
 n16,
 vu
 n18,
 vu
 n20,
 vu
 n22,
 vi
 n24,
 AV.list
 0
 1
 es26,
 vbool
 b28,
 AV.list
 0
 2
 es30],
 AV.agg
 [vu
 0,
 vu
 0,
 vu
 0,
 vu
 0,
 vu
 0,
 vi
 0,
 AV.val
 (Value.slice
 none
 0
 0),
 vbool
 false,
 AV.val
 (Value.slice
 none
 0
 0)]]
 [])
 fun
 r144 ↦
 Option.bind
 (ret1
 r144)
 fun
 v145 ↦
 Option.bind
 (AV.bool?
 v145)
 fun
 b146 ↦
 bif
 b146 then
 bif
 decide
 (n60 =
 3) then
 bif
 decide
 (n68 =
 1) then
 bif
 decide
 (n76 =
 0) then
 bif
 decide
 (n109 =
 0) then
 Option.bind
 (E
 cx
 (Key.fn
 34)
 [AV.agg
 [vu
 n84,
 vbool
 b86,
 AV.list
 0
 2
 es88,
 vu
 n90,
 vu
 n92,
 vu
 n94,
 vu
 n96,
 vu
 n98,
 vi
 n100,
 AV.list
 0
 1
 es102,
 vbool
 b104,
 AV.list
 0
 2
 es106],
 AV.agg
 [vu
 3,
 vbool
 false,
 AV.val
 (Value.slice
 none
 0
 0),
 vu
 0,
 vu
 0,
 vu
 0,
 vu
 0,
 vu
 0,
 vi
 0,
 AV.val
 (Value.slice
 none
 0
 0),
 vbool
 false,
 AV.val
 (Value.slice
 none
 0
 0)]]
 [])
 fun
 r147 ↦
 Option.bind
 (ret1
 r147)
 fun
 v148 ↦
 Option.bind
 (AV.bool?
 v148)
 fun
 b149 ↦
 bif
 b149 then
 bif
 decide
 (n127 =
 0) then
 bif
 decide
 (n120 =
 1) &&
 (decide
 (n122 =
 2) &&
 (decide
 (n124 =
 3) &&
 true)) then
 bif
 decide
 (n142 =
 2) then
 some
 (Out.ret
 (vbool
 true),
 [])
 else
 some
 (Out.ret
 (vbool
 false),
 [])
 else
 some
 (Out.ret
 (vbool
 false),
 [])
 else
 some
 (Out.ret
 (vbool
 false),
 [])
 else
 some
 (Out.ret
 (vbool
 false),
 [])
 else
 some
 (Out.ret
 (vbool
 false),
 [])
 else
 some
 (Out.ret
 (vbool
 false),
 [])
 else
 some
 (Out.ret
 (vbool
 false),
 [])
 else
 some
 (Out.ret
 (vbool
 false),
 [])
 else
 some
 (Out.ret
 (vbool
 false),
 [])
 else
 some
 (Out.ret
 (vbool
 false),
 [])
 else
 some
 (Out.ret
 (vbool
 false),
 [])
 else
 some
 (Out.ret
 (vbool
 false),
 [])
 else none
 else none := by
 intros
 exact (E_in [188] _ _ _).trans (by kernel_rfl)
end Go.Proofs.Av
