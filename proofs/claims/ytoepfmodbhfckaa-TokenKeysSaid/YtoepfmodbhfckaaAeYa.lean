/- Tokens: what the law calls ahead. -/
import Derived.Test.YtoepfmodbhfckaaAeX
set_option maxRecDepth 100000
namespace Go.Proofs.Av
open Go
theorem f36 : E cx (Key.fn 36) [] [] =
 Option.bind (E cx (Key.fn 51) [vu 2, vu 7] []) fun r0 ↦
 Option.bind (ret1 r0) fun v1 ↦
 Option.bind (AV.cells? v1) fun cs2 ↦
 Option.bind (uncons? cs2) fun p3 ↦
 Option.bind (AV.bool? p3.fst) fun b4 ↦
 Option.bind (uncons? p3.snd) fun p5 ↦
 Option.bind (AV.list? 2 p5.fst) fun es6 ↦
 Option.bind (nil? p5.snd) fun _ ↦
 Option.bind (E cx (Key.fn 51) [vu 1, vu 9] []) fun r8 ↦
 Option.bind (ret1 r8) fun v9 ↦
 Option.bind (AV.cells? v9) fun cs10 ↦
 Option.bind (uncons? cs10) fun p11 ↦
 Option.bind (AV.bool? p11.fst) fun b12 ↦
 Option.bind (uncons? p11.snd) fun p13 ↦
 Option.bind (AV.list? 2 p13.fst) fun es14 ↦
 Option.bind (nil? p13.snd) fun _ ↦
 Option.bind
 (E cx (Key.fn 45)
 [AV.list 0 2
 [[vbool b4, AV.list 0 2 es6], [vbool b12, AV.list 0 2 es14]]]
 [])
 fun r16 ↦
 Option.bind (ret1 r16) fun v17 ↦
 Option.bind (AV.tup? v17) fun vs18 ↦
 Option.bind (uncons? vs18) fun p19 ↦
 Option.bind (AV.cells? p19.fst) fun cs20 ↦
 Option.bind (uncons? cs20) fun p21 ↦
 Option.bind (AV.bool? p21.fst) fun b22 ↦
 Option.bind (uncons? p21.snd) fun p23 ↦
 Option.bind (AV.list? 2 p23.fst) fun es24 ↦
 Option.bind (nil? p23.snd) fun _ ↦
 Option.bind (uncons? p19.snd) fun p26 ↦
 Option.bind (AV.int? IntKind.i64 p26.fst) fun n27 ↦
 Option.bind (nil? p26.snd) fun _ ↦
 Option.bind
 (E cx (Key.fn 38)
 [AV.agg [vbool false, AV.val (Value.slice none 0 0)]]
 [])
 fun r29 ↦
 Option.bind (ret1 r29) fun v30 ↦
 Option.bind (AV.tup? v30) fun vs31 ↦
 Option.bind (uncons? vs31) fun p32 ↦
 Option.bind (AV.str? p32.fst) fun s33 ↦
 Option.bind (uncons? p32.snd) fun p34 ↦
 Option.bind (AV.int? IntKind.i64 p34.fst) fun n35 ↦
 Option.bind (nil? p34.snd) fun _ ↦
 Option.bind
 (E cx (Key.fn 38)
 [AV.agg [vbool b22, AV.list 0 2 es24]]
 [])
 fun r37 ↦
 Option.bind (ret1 r37) fun v38 ↦
 Option.bind (AV.tup? v38) fun vs39 ↦
 Option.bind (uncons? vs39) fun p40 ↦
 Option.bind (AV.str? p40.fst) fun s41 ↦
 Option.bind (uncons? p40.snd) fun p42 ↦
 Option.bind (AV.int? IntKind.i64 p42.fst) fun n43 ↦
 Option.bind (nil? p42.snd) fun _ ↦
 Option.bind
 (E cx (Key.fn 49)
 [vs s41] [])
 fun r45 ↦
 Option.bind (ret1 r45) fun v46 ↦
 Option.bind (AV.tup? v46) fun vs47 ↦
 Option.bind (uncons? vs47) fun p48 ↦
 Option.bind (AV.cells? p48.fst) fun cs49 ↦
 Option.bind (uncons? cs49) fun p50 ↦
 Option.bind (AV.bool? p50.fst) fun b51 ↦
 Option.bind (uncons? p50.snd) fun p52 ↦
 Option.bind (AV.list? 2 p52.fst)
 fun es53 ↦
 Option.bind (nil? p52.snd) fun _ ↦
 Option.bind (uncons? p48.snd)
 fun p55 ↦
 Option.bind
 (AV.int? IntKind.i64
 p55.fst)
 fun n56 ↦
 Option.bind (nil? p55.snd)
 fun _ ↦
 Option.bind
 (E cx
 (Key.fn 49)
 [vs
 (ByteArray.mk
 (Array.mk [UInt8.ofNat 2]))]
 [])
 fun r58 ↦
 Option.bind (ret1 r58)
 fun v59 ↦
 Option.bind (AV.tup? v59)
 fun vs60 ↦
 Option.bind
 (uncons? vs60)
 fun p61 ↦
 Option.bind
 (AV.cells? p61.fst)
 fun cs62 ↦
 Option.bind
 (uncons? cs62)
 fun p63 ↦
 Option.bind
 (AV.bool?
 p63.fst)
 fun _ ↦
 Option.bind
 (uncons?
 p63.snd)
 fun p65 ↦
 Option.bind
 (AV.list? 2
 p65.fst)
 fun _ ↦
 Option.bind
 (nil?
 p65.snd)
 fun _ ↦
 Option.bind
 (uncons?
 p61.snd)
 fun p68 ↦
 Option.bind
 (AV.int?
 IntKind.i64
 p68.fst)
 fun n69 ↦
 Option.bind
 (nil?
 p68.snd)
 fun _ ↦
 Option.bind
 (E
 cx
 (Key.fn
 51)
 [vu
 2,
 vu
 7]
 [])
 fun r71 ↦
 Option.bind
 (ret1
 r71)
 fun v72 ↦
 Option.bind
 (AV.cells?
 v72)
 fun cs73 ↦
 Option.bind
 (uncons?
 cs73)
 fun
 p74 ↦
 Option.bind
 (AV.bool?
 p74.fst)
 fun
 b75 ↦
 Option.bind
 (uncons?
 p74.snd)
 fun
 p76 ↦
 Option.bind
 (AV.list?
 2
 p76.fst)
 fun
 es77 ↦
 Option.bind
 (nil?
 p76.snd)
 fun
 _ ↦
 Option.bind
 (E
 cx
 (Key.fn
 42)
 [AV.agg
 [vbool
 b75,
 AV.list
 0
 2
 es77],
 vu
 7]
 [])
 fun
 r79 ↦
 Option.bind
 (ret1
 r79)
 fun
 v80 ↦
 Option.bind
 (AV.tup?
 v80)
 fun
 vs81 ↦
 Option.bind
 (uncons?
 vs81)
 fun
 p82 ↦
 Option.bind
 (AV.list?
 1
 p82.fst)
 fun
 es83 ↦
 Option.bind
 (uncons?
 p82.snd)
 fun
 p84 ↦
 Option.bind
 (AV.bool?
 p84.fst)
 fun
 b85 ↦
 bif
 b85 then
 Option.bind
 (nil?
 p84.snd)
 fun
 _ ↦
 Option.bind
 (E
 cx
 (Key.fn
 42)
 [AV.agg
 [vbool
 b22,
 AV.list
 0
 2
 es24],
 vu
 7]
 [])
 fun
 r87 ↦
 Option.bind
 (ret1
 r87)
 fun
 v88 ↦
 Option.bind
 (AV.tup?
 v88)
 fun
 vs89 ↦
 Option.bind
 (uncons?
 vs89)
 fun
 p90 ↦
 Option.bind
 (AV.list?
 1
 p90.fst)
 fun
 _ ↦
 Option.bind
 (uncons?
 p90.snd)
 fun
 p92 ↦
 Option.bind
 (AV.bool?
 p92.fst)
 fun
 b93 ↦
 bif
 b93 then
 Option.bind
 (nil?
 p92.snd)
 fun
 _ ↦
 Option.bind
 (E
 cx
 (Key.fn
 45)
 [AV.list
 0
 2
 [[vbool
 false,
 AV.list
 1
 2
 [[vu
 2,
 vu
 0],
 [vu
 1,
 vu
 0]]]]]
 [])
 fun
 r95 ↦
 Option.bind
 (ret1
 r95)
 fun
 v96 ↦
 Option.bind
 (AV.tup?
 v96)
 fun
 vs97 ↦
 Option.bind
 (uncons?
 vs97)
 fun
 p98 ↦
 Option.bind
 (AV.cells?
 p98.fst)
 fun
 cs99 ↦
 Option.bind
 (uncons?
 cs99)
 fun
 p100 ↦
 Option.bind
 (AV.bool?
 p100.fst)
 fun
 _ ↦
 Option.bind
 (uncons?
 p100.snd)
 fun
 p102 ↦
 Option.bind
 (AV.list?
 2
 p102.fst)
 fun
 _ ↦
 Option.bind
 (nil?
 p102.snd)
 fun
 _ ↦
 Option.bind
 (uncons?
 p98.snd)
 fun
 p105 ↦
 Option.bind
 (AV.int?
 IntKind.i64
 p105.fst)
 fun
 _ ↦
 Option.bind
 (nil?
 p105.snd)
 fun
 _ ↦
 bif
 decide
 (n27 =
 0) then
 Option.bind
 (E
 cx
 (Key.fn
 47)
 [AV.agg
 [vbool
 b22,
 AV.list
 0
 2
 es24],
 AV.agg
 [vbool
 false,
 AV.list
 0
 2
 [[vu
 1,
 vu
 9],
 [vu
 2,
 vu
 7]]]]
 [])
 fun
 r108 ↦
 Option.bind
 (ret1
 r108)
 fun
 v109 ↦
 Option.bind
 (AV.bool?
 v109)
 fun
 b110 ↦
 bif
 b110 then
 bif
 decide
 (n35 =
 0) then
 bif
 List.beq
 (ByteArray.toList
 s33)
 (ByteArray.toList
 (ByteArray.mk
 (Array.mk
 [UInt8.ofNat
 0]))) then
 bif
 decide
 (n43 =
 0) then
 bif
 decide
 (((ByteArray.size
 s41) : Int) =
 33) then
 bif
 decide
 (n56 =
 0) then
 Option.bind
 (E
 cx
 (Key.fn
 47)
 [AV.agg
 [vbool
 b51,
 AV.list
 0
 2
 es53],
 AV.agg
 [vbool
 b22,
 AV.list
 0
 2
 es24]]
 [])
 fun
 r111 ↦
 Option.bind
 (ret1
 r111)
 fun
 v112 ↦
 Option.bind
 (AV.bool?
 v112)
 fun
 b113 ↦
 bif
 b113 then
 bif
 decide
 (n69 =
 2) then
 Option.bind
 (E
 cx
 (Key.fn
 44)
 [AV.list
 0
 1
 es83,
 AV.list
 0
 1
 [[vu
 2]]]
 [])
 fun
 r114 ↦
 Option.bind
 (ret1
 r114)
 fun
 v115 ↦
 Option.bind
 (AV.bool?
 v115)
 fun
 b116 ↦
 bif
 b116 then
 some
 (Out.ret
 (vbool
 false),
 [])
 else
 some
 (Out.ret
 (vbool
 false),
 [])
 else
 some
 (Out.ret
 (vbool
 false),
 [])
 else
 some
 (Out.ret
 (vbool
 false),
 [])
 else
 some
 (Out.ret
 (vbool
 false),
 [])
 else
 some
 (Out.ret
 (vbool
 false),
 [])
 else
 some
 (Out.ret
 (vbool
 false),
 [])
 else
 some
 (Out.ret
 (vbool
 false),
 [])
 else
 some
 (Out.ret
 (vbool
 false),
 [])
 else
 some
 (Out.ret
 (vbool
 false),
 [])
 else
 some
 (Out.ret
 (vbool
 false),
 [])
 else
 Option.bind
 (nil?
 p92.snd)
 fun
 _ ↦
 Option.bind
 (E
 cx
 (Key.fn
 45)
 [AV.list
 0
 2
 [[vbool
 false,
 AV.list
 1
 2
 [[vu
 2,
 vu
 0],
 [vu
 1,
 vu
 0]]]]]
 [])
 fun
 r118 ↦
 Option.bind
 (ret1
 r118)
 fun
 v119 ↦
 Option.bind
 (AV.tup?
 v119)
 fun
 vs120 ↦
 Option.bind
 (uncons?
 vs120)
 fun
 p121 ↦
 Option.bind
 (AV.cells?
 p121.fst)
 fun
 cs122 ↦
 Option.bind
 (uncons?
 cs122)
 fun
 p123 ↦
 Option.bind
 (AV.bool?
 p123.fst)
 fun
 _ ↦
 Option.bind
 (uncons?
 p123.snd)
 fun
 p125 ↦
 Option.bind
 (AV.list?
 2
 p125.fst)
 fun
 _ ↦
 Option.bind
 (nil?
 p125.snd)
 fun
 _ ↦
 Option.bind
 (uncons?
 p121.snd)
 fun
 p128 ↦
 Option.bind
 (AV.int?
 IntKind.i64
 p128.fst)
 fun
 n129 ↦
 Option.bind
 (nil?
 p128.snd)
 fun
 _ ↦
 bif
 decide
 (n27 =
 0) then
 Option.bind
 (E
 cx
 (Key.fn
 47)
 [AV.agg
 [vbool
 b22,
 AV.list
 0
 2
 es24],
 AV.agg
 [vbool
 false,
 AV.list
 0
 2
 [[vu
 1,
 vu
 9],
 [vu
 2,
 vu
 7]]]]
 [])
 fun
 r131 ↦
 Option.bind
 (ret1
 r131)
 fun
 v132 ↦
 Option.bind
 (AV.bool?
 v132)
 fun
 b133 ↦
 bif
 b133 then
 bif
 decide
 (n35 =
 0) then
 bif
 List.beq
 (ByteArray.toList
 s33)
 (ByteArray.toList
 (ByteArray.mk
 (Array.mk
 [UInt8.ofNat
 0]))) then
 bif
 decide
 (n43 =
 0) then
 bif
 decide
 (((ByteArray.size
 s41) : Int) =
 33) then
 bif
 decide
 (n56 =
 0) then
 Option.bind
 (E
 cx
 (Key.fn
 47)
 [AV.agg
 [vbool
 b51,
 AV.list
 0
 2
 es53],
 AV.agg
 [vbool
 b22,
 AV.list
 0
 2
 es24]]
 [])
 fun
 r134 ↦
 Option.bind
 (ret1
 r134)
 fun
 v135 ↦
 Option.bind
 (AV.bool?
 v135)
 fun
 b136 ↦
 bif
 b136 then
 bif
 decide
 (n69 =
 2) then
 Option.bind
 (E
 cx
 (Key.fn
 44)
 [AV.list
 0
 1
 es83,
 AV.list
 0
 1
 [[vu
 2]]]
 [])
 fun
 r137 ↦
 Option.bind
 (ret1
 r137)
 fun
 v138 ↦
 Option.bind
 (AV.bool?
 v138)
 fun
 b139 ↦
 bif
 b139 then
 bif
 decide
 (n129 =
 1) then
 Option.bind
 (E
 cx
 (Key.fn
 40)
 [AV.agg
 [vbool
 b22,
 AV.list
 0
 2
 es24]]
 [])
 fun
 r140 ↦
 Option.bind
 (ret1
 r140)
 fun
 v141 ↦
 Option.bind
 (AV.bool?
 v141)
 fun
 b142 ↦
 bif
 b142 then
 some
 (Out.ret
 (vbool
 true),
 [])
 else
 some
 (Out.ret
 (vbool
 false),
 [])
 else
 some
 (Out.ret
 (vbool
 false),
 [])
 else
 some
 (Out.ret
 (vbool
 false),
 [])
 else
 some
 (Out.ret
 (vbool
 false),
 [])
 else
 some
 (Out.ret
 (vbool
 false),
 [])
 else
 some
 (Out.ret
 (vbool
 false),
 [])
 else
 some
 (Out.ret
 (vbool
 false),
 [])
 else
 some
 (Out.ret
 (vbool
 false),
 [])
 else
 some
 (Out.ret
 (vbool
 false),
 [])
 else
 some
 (Out.ret
 (vbool
 false),
 [])
 else
 some
 (Out.ret
 (vbool
 false),
 [])
 else
 some
 (Out.ret
 (vbool
 false),
 [])
 else
 Option.bind
 (nil?
 p84.snd)
 fun
 _ ↦
 Option.bind
 (E
 cx
 (Key.fn
 42)
 [AV.agg
 [vbool
 b22,
 AV.list
 0
 2
 es24],
 vu
 7]
 [])
 fun
 r144 ↦
 Option.bind
 (ret1
 r144)
 fun
 v145 ↦
 Option.bind
 (AV.tup?
 v145)
 fun
 vs146 ↦
 Option.bind
 (uncons?
 vs146)
 fun
 p147 ↦
 Option.bind
 (AV.list?
 1
 p147.fst)
 fun
 _ ↦
 Option.bind
 (uncons?
 p147.snd)
 fun
 p149 ↦
 Option.bind
 (AV.bool?
 p149.fst)
 fun
 b150 ↦
 bif
 b150 then
 Option.bind
 (nil?
 p149.snd)
 fun
 _ ↦
 Option.bind
 (E
 cx
 (Key.fn
 45)
 [AV.list
 0
 2
 [[vbool
 false,
 AV.list
 1
 2
 [[vu
 2,
 vu
 0],
 [vu
 1,
 vu
 0]]]]]
 [])
 fun
 r152 ↦
 Option.bind
 (ret1
 r152)
 fun
 v153 ↦
 Option.bind
 (AV.tup?
 v153)
 fun
 vs154 ↦
 Option.bind
 (uncons?
 vs154)
 fun
 p155 ↦
 Option.bind
 (AV.cells?
 p155.fst)
 fun
 cs156 ↦
 Option.bind
 (uncons?
 cs156)
 fun
 p157 ↦
 Option.bind
 (AV.bool?
 p157.fst)
 fun
 _ ↦
 Option.bind
 (uncons?
 p157.snd)
 fun
 p159 ↦
 Option.bind
 (AV.list?
 2
 p159.fst)
 fun
 _ ↦
 Option.bind
 (nil?
 p159.snd)
 fun
 _ ↦
 Option.bind
 (uncons?
 p155.snd)
 fun
 p162 ↦
 Option.bind
 (AV.int?
 IntKind.i64
 p162.fst)
 fun
 _ ↦
 Option.bind
 (nil?
 p162.snd)
 fun
 _ ↦
 bif
 decide
 (n27 =
 0) then
 Option.bind
 (E
 cx
 (Key.fn
 47)
 [AV.agg
 [vbool
 b22,
 AV.list
 0
 2
 es24],
 AV.agg
 [vbool
 false,
 AV.list
 0
 2
 [[vu
 1,
 vu
 9],
 [vu
 2,
 vu
 7]]]]
 [])
 fun
 r165 ↦
 Option.bind
 (ret1
 r165)
 fun
 v166 ↦
 Option.bind
 (AV.bool?
 v166)
 fun
 b167 ↦
 bif
 b167 then
 bif
 decide
 (n35 =
 0) then
 bif
 List.beq
 (ByteArray.toList
 s33)
 (ByteArray.toList
 (ByteArray.mk
 (Array.mk
 [UInt8.ofNat
 0]))) then
 bif
 decide
 (n43 =
 0) then
 bif
 decide
 (((ByteArray.size
 s41) : Int) =
 33) then
 bif
 decide
 (n56 =
 0) then
 Option.bind
 (E
 cx
 (Key.fn
 47)
 [AV.agg
 [vbool
 b51,
 AV.list
 0
 2
 es53],
 AV.agg
 [vbool
 b22,
 AV.list
 0
 2
 es24]]
 [])
 fun
 r168 ↦
 Option.bind
 (ret1
 r168)
 fun
 v169 ↦
 Option.bind
 (AV.bool?
 v169)
 fun
 b170 ↦
 bif
 b170 then
 bif
 decide
 (n69 =
 2) then
 some
 (Out.ret
 (vbool
 false),
 [])
 else
 some
 (Out.ret
 (vbool
 false),
 [])
 else
 some
 (Out.ret
 (vbool
 false),
 [])
 else
 some
 (Out.ret
 (vbool
 false),
 [])
 else
 some
 (Out.ret
 (vbool
 false),
 [])
 else
 some
 (Out.ret
 (vbool
 false),
 [])
 else
 some
 (Out.ret
 (vbool
 false),
 [])
 else
 some
 (Out.ret
 (vbool
 false),
 [])
 else
 some
 (Out.ret
 (vbool
 false),
 [])
 else
 some
 (Out.ret
 (vbool
 false),
 [])
 else
 Option.bind
 (nil?
 p149.snd)
 fun
 _ ↦
 Option.bind
 (E
 cx
 (Key.fn
 45)
 [AV.list
 0
 2
 [[vbool
 false,
 AV.list
 1
 2
 [[vu
 2,
 vu
 0],
 [vu
 1,
 vu
 0]]]]]
 [])
 fun
 r172 ↦
 Option.bind
 (ret1
 r172)
 fun
 v173 ↦
 Option.bind
 (AV.tup?
 v173)
 fun
 vs174 ↦
 Option.bind
 (uncons?
 vs174)
 fun
 p175 ↦
 Option.bind
 (AV.cells?
 p175.fst)
 fun
 cs176 ↦
 Option.bind
 (uncons?
 cs176)
 fun
 p177 ↦
 Option.bind
 (AV.bool?
 p177.fst)
 fun
 _ ↦
 Option.bind
 (uncons?
 p177.snd)
 fun
 p179 ↦
 Option.bind
 (AV.list?
 2
 p179.fst)
 fun
 _ ↦
 Option.bind
 (nil?
 p179.snd)
 fun
 _ ↦
 Option.bind
 (uncons?
 p175.snd)
 fun
 p182 ↦
 Option.bind
 (AV.int?
 IntKind.i64
 p182.fst)
 fun
 _ ↦
 Option.bind
 (nil?
 p182.snd)
 fun
 _ ↦
 bif
 decide
 (n27 =
 0) then
 Option.bind
 (E
 cx
 (Key.fn
 47)
 [AV.agg
 [vbool
 b22,
 AV.list
 0
 2
 es24],
 AV.agg
 [vbool
 false,
 AV.list
 0
 2
 [[vu
 1,
 vu
 9],
 [vu
 2,
 vu
 7]]]]
 [])
 fun
 r185 ↦
 Option.bind
 (ret1
 r185)
 fun
 v186 ↦
 Option.bind
 (AV.bool?
 v186)
 fun
 b187 ↦
 bif
 b187 then
 bif
 decide
 (n35 =
 0) then
 bif
 List.beq
 (ByteArray.toList
 s33)
 (ByteArray.toList
 (ByteArray.mk
 (Array.mk
 [UInt8.ofNat
 0]))) then
 bif
 decide
 (n43 =
 0) then
 bif
 decide
 (((ByteArray.size
 s41) : Int) =
 33) then
 bif
 decide
 (n56 =
 0) then
 Option.bind
 (E
 cx
 (Key.fn
 47)
 [AV.agg
 [vbool
 b51,
 AV.list
 0
 2
 es53],
 AV.agg
 [vbool
 b22,
 AV.list
 0
 2
 es24]]
 [])
 fun
 r188 ↦
 Option.bind
 (ret1
 r188)
 fun
 v189 ↦
 Option.bind
 (AV.bool?
 v189)
 fun
 b190 ↦
 bif
 b190 then
 bif
 decide
 (n69 =
 2) then
 some
 (Out.ret
 (vbool
 false),
 [])
 else
 some
 (Out.ret
 (vbool
 false),
 [])
 else
 some
 (Out.ret
 (vbool
 false),
 [])
 else
 some
 (Out.ret
 (vbool
 false),
 [])
 else
 some
 (Out.ret
 (vbool
 false),
 [])
 else
 some
 (Out.ret
 (vbool
 false),
 [])
 else
 some
 (Out.ret
 (vbool
 false),
 [])
 else
 some
 (Out.ret
 (vbool
 false),
 [])
 else
 some
 (Out.ret
 (vbool
 false),
 [])
 else
 some
 (Out.ret
 (vbool
 false),
 []) := by
  intros
  exact (E_in [188] _ _ _).trans (by kernel_rfl)

end Go.Proofs.Av
