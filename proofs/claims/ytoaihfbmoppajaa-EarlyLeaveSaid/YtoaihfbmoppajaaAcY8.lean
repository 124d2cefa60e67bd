/- A law's tree. -/
import Derived.Test.YtoaihfbmoppajaaAcX
set_option maxRecDepth 100000
namespace Go.Proofs.Av
open Go
theorem f8 : ∀ (wild0 raw1 : List (List AV)) (odd2 odd3 odd4 : Int) (odd5 : ByteArray) (k6 k7 k8 room9 tick10 peer11 : Int),
 E cx (Key.fn 8)
 [AV.list 0 4 wild0, AV.list 0 3 raw1,
 AV.agg [vi odd2, vi odd3, vi odd4, vs odd5],
 AV.agg [vi k6, vi k7, vi k8], vi room9, vi tick10, vi peer11]
 [] =
 Option.bind (E cx (Key.fn 25) [] []) fun r12 ↦
 Option.bind (ret1 r12) fun v13 ↦
 Option.bind (AV.bool? v13) fun b14 ↦
 bif b14 then
 if 0 ≤ if 40 < ((List.length wild0) : Int) then 40 else ((List.length wild0) : Int) then
 if (if 40 < ((List.length wild0) : Int) then 40 else ((List.length wild0) : Int)) ≤ ((List.length wild0) : Int) then
 Option.bind (E cx (Key.fn 26) [AV.list 0 3 raw1] []) fun r15 ↦
 Option.bind (ret1 r15) fun v16 ↦
 Option.bind (AV.list? 4 v16) fun es17 ↦
 Option.bind
 (E cx (Key.fn 27)
 [AV.agg [vi k6, vi k7, vi k8]] [])
 fun r18 ↦
 Option.bind (ret1 r18) fun v19 ↦
 Option.bind (AV.cells? v19) fun cs20 ↦
 Option.bind (uncons? cs20) fun p21 ↦
 Option.bind (AV.int? IntKind.i64 p21.fst) fun n22 ↦
 Option.bind (uncons? p21.snd) fun p23 ↦
 Option.bind (AV.int? IntKind.i64 p23.fst) fun n24 ↦
 Option.bind (uncons? p23.snd) fun p25 ↦
 Option.bind (AV.int? IntKind.i64 p25.fst) fun n26 ↦
 Option.bind (uncons? p25.snd) fun p27 ↦
 Option.bind (AV.str? p27.fst) fun s28 ↦
 Option.bind (nil? p27.snd) fun _ ↦
 Option.bind
 (E cx (Key.fn 28) [vi room9, vi 35] [])
 fun r30 ↦
 Option.bind (ret1 r30) fun v31 ↦
 Option.bind (AV.int? IntKind.i64 v31) fun n32 ↦
 Option.bind
 (E cx (Key.fn 29)
 [AV.list 0 4
 (List.drop 0
 (List.take (Int.toNat (if 40 < ((List.length wild0) : Int) then 40 else ((List.length wild0) : Int))) wild0)),
 vi room9,
 AV.agg
 [vi odd2, vi odd3, vi odd4, vs odd5]]
 [])
 fun r33 ↦
 Option.bind (ret1 r33) fun v34 ↦
 Option.bind (AV.tup? v34) fun vs35 ↦
 Option.bind (uncons? vs35) fun p36 ↦
 Option.bind (AV.list? 4 p36.fst) fun es37 ↦
 Option.bind (uncons? p36.snd) fun p38 ↦
 Option.bind (AV.int? IntKind.i64 p38.fst) fun n39 ↦
 Option.bind (nil? p38.snd) fun _ ↦
 Option.bind
 (E cx (Key.fn 30)
 [AV.list 0 4
 (List.drop 0
 (List.take
 (Int.toNat (if 40 < ((List.length wild0) : Int) then 40 else ((List.length wild0) : Int)))
 wild0)),
 vi room9,
 AV.agg
 [vi odd2, vi odd3, vi odd4,
 vs odd5]]
 [])
 fun r41 ↦
 Option.bind (ret1 r41) fun v42 ↦
 Option.bind (AV.tup? v42) fun vs43 ↦
 Option.bind (uncons? vs43) fun p44 ↦
 Option.bind (AV.list? 4 p44.fst) fun es45 ↦
 Option.bind (uncons? p44.snd) fun p46 ↦
 Option.bind (AV.int? IntKind.i64 p46.fst) fun n47 ↦
 Option.bind (nil? p46.snd) fun _ ↦
 bif n39 != n47 then
 some (Out.ret (vbool false), [])
 else
 Option.bind
 (E cx (Key.fn 31)
 [AV.list 0 4 es37, AV.list 0 4 es45] [])
 fun r49 ↦
 Option.bind (ret1 r49) fun v50 ↦
 Option.bind (AV.bool? v50) fun b51 ↦
 bif b51 then
 Option.bind
 (E cx (Key.fn 29)
 [AV.list 0 4
 (List.drop 0
 (List.take
 (Int.toNat
 (if 40 < ((List.length wild0) : Int) then 40
 else ((List.length wild0) : Int)))
 wild0)),
 vi n32,
 AV.agg
 [vi odd2, vi odd3,
 vi odd4, vs odd5]]
 [])
 fun r52 ↦
 Option.bind (ret1 r52) fun v53 ↦
 Option.bind (AV.tup? v53) fun vs54 ↦
 Option.bind (uncons? vs54) fun p55 ↦
 Option.bind (AV.list? 4 p55.fst) fun es56 ↦
 Option.bind (uncons? p55.snd) fun p57 ↦
 Option.bind
 (AV.int? IntKind.i64 p57.fst)
 fun n58 ↦
 Option.bind (nil? p57.snd) fun _ ↦
 Option.bind
 (E cx
 (Key.fn 30)
 [AV.list 0 4
 (List.drop 0
 (List.take
 (Int.toNat
 (if 40 < ((List.length wild0) : Int) then
 40
 else ((List.length wild0) : Int)))
 wild0)),
 vi n32,
 AV.agg
 [vi odd2,
 vi odd3,
 vi odd4,
 vs odd5]]
 [])
 fun r60 ↦
 Option.bind (ret1 r60) fun v61 ↦
 Option.bind (AV.tup? v61)
 fun vs62 ↦
 Option.bind (uncons? vs62)
 fun p63 ↦
 Option.bind
 (AV.list? 4 p63.fst)
 fun es64 ↦
 Option.bind
 (uncons? p63.snd)
 fun p65 ↦
 Option.bind
 (AV.int? IntKind.i64
 p65.fst)
 fun n66 ↦
 Option.bind
 (nil? p65.snd)
 fun _ ↦
 bif n58 != n66 then
 some
 (Out.ret
 (vbool
 false),
 [])
 else
 Option.bind
 (E
 cx
 (Key.fn 31)
 [AV.list 0 4
 es56,
 AV.list 0 4
 es64]
 [])
 fun r68 ↦
 Option.bind
 (ret1 r68)
 fun v69 ↦
 Option.bind
 (AV.bool?
 v69)
 fun b70 ↦
 bif b70 then
 Option.bind
 (E
 cx
 (Key.fn
 28)
 [vi
 room9,
 vi
 35]
 [])
 fun r71 ↦
 Option.bind
 (ret1
 r71)
 fun v72 ↦
 Option.bind
 (AV.int?
 IntKind.i64
 v72)
 fun n73 ↦
 Option.bind
 (E
 cx
 (Key.fn
 29)
 [AV.list
 0 4
 (List.drop
 0
 (List.take
 (Int.toNat
 (if
 40 <
 ((List.length
 wild0) : Int) then
 40
 else
 ((List.length
 wild0) : Int)))
 wild0)),
 vi
 room9,
 AV.agg
 [vi
 n22,
 vi
 n24,
 vi
 n26,
 vs
 s28]]
 [])
 fun r74 ↦
 Option.bind
 (ret1
 r74)
 fun v75 ↦
 Option.bind
 (AV.tup?
 v75)
 fun vs76 ↦
 Option.bind
 (uncons?
 vs76)
 fun p77 ↦
 Option.bind
 (AV.list?
 4
 p77.fst)
 fun
 es78 ↦
 Option.bind
 (uncons?
 p77.snd)
 fun
 p79 ↦
 Option.bind
 (AV.int?
 IntKind.i64
 p79.fst)
 fun
 n80 ↦
 Option.bind
 (nil?
 p79.snd)
 fun
 _ ↦
 Option.bind
 (E
 cx
 (Key.fn
 30)
 [AV.list
 0
 4
 (List.drop
 0
 (List.take
 (Int.toNat
 (if
 40 <
 ((List.length
 wild0) : Int) then
 40
 else
 ((List.length
 wild0) : Int)))
 wild0)),
 vi
 room9,
 AV.agg
 [vi
 n22,
 vi
 n24,
 vi
 n26,
 vs
 s28]]
 [])
 fun
 r82 ↦
 Option.bind
 (ret1
 r82)
 fun
 v83 ↦
 Option.bind
 (AV.tup?
 v83)
 fun
 vs84 ↦
 Option.bind
 (uncons?
 vs84)
 fun
 p85 ↦
 Option.bind
 (AV.list?
 4
 p85.fst)
 fun
 es86 ↦
 Option.bind
 (uncons?
 p85.snd)
 fun
 p87 ↦
 Option.bind
 (AV.int?
 IntKind.i64
 p87.fst)
 fun
 n88 ↦
 Option.bind
 (nil?
 p87.snd)
 fun
 _ ↦
 bif
 n80 !=
 n88 then
 some
 (Out.ret
 (vbool
 false),
 [])
 else
 Option.bind
 (E
 cx
 (Key.fn
 31)
 [AV.list
 0
 4
 es78,
 AV.list
 0
 4
 es86]
 [])
 fun
 r90 ↦
 Option.bind
 (ret1
 r90)
 fun
 v91 ↦
 Option.bind
 (AV.bool?
 v91)
 fun
 b92 ↦
 bif
 b92 then
 Option.bind
 (E
 cx
 (Key.fn
 29)
 [AV.list
 0
 4
 (List.drop
 0
 (List.take
 (Int.toNat
 (if
 40 <
 ((List.length
 wild0) : Int) then
 40
 else
 ((List.length
 wild0) : Int)))
 wild0)),
 vi
 n73,
 AV.agg
 [vi
 n22,
 vi
 n24,
 vi
 n26,
 vs
 s28]]
 [])
 fun
 r93 ↦
 Option.bind
 (ret1
 r93)
 fun
 v94 ↦
 Option.bind
 (AV.tup?
 v94)
 fun
 vs95 ↦
 Option.bind
 (uncons?
 vs95)
 fun
 p96 ↦
 Option.bind
 (AV.list?
 4
 p96.fst)
 fun
 es97 ↦
 Option.bind
 (uncons?
 p96.snd)
 fun
 p98 ↦
 Option.bind
 (AV.int?
 IntKind.i64
 p98.fst)
 fun
 n99 ↦
 Option.bind
 (nil?
 p98.snd)
 fun
 _ ↦
 Option.bind
 (E
 cx
 (Key.fn
 30)
 [AV.list
 0
 4
 (List.drop
 0
 (List.take
 (Int.toNat
 (if
 40 <
 ((List.length
 wild0) : Int) then
 40
 else
 ((List.length
 wild0) : Int)))
 wild0)),
 vi
 n73,
 AV.agg
 [vi
 n22,
 vi
 n24,
 vi
 n26,
 vs
 s28]]
 [])
 fun
 r101 ↦
 Option.bind
 (ret1
 r101)
 fun
 v102 ↦
 Option.bind
 (AV.tup?
 v102)
 fun
 vs103 ↦
 Option.bind
 (uncons?
 vs103)
 fun
 p104 ↦
 Option.bind
 (AV.list?
 4
 p104.fst)
 fun
 es105 ↦
 Option.bind
 (uncons?
 p104.snd)
 fun
 p106 ↦
 Option.bind
 (AV.int?
 IntKind.i64
 p106.fst)
 fun
 n107 ↦
 Option.bind
 (nil?
 p106.snd)
 fun
 _ ↦
 bif
 n99 !=
 n107 then
 some
 (Out.ret
 (vbool
 false),
 [])
 else
 Option.bind
 (E
 cx
 (Key.fn
 31)
 [AV.list
 0
 4
 es97,
 AV.list
 0
 4
 es105]
 [])
 fun
 r109 ↦
 Option.bind
 (ret1
 r109)
 fun
 v110 ↦
 Option.bind
 (AV.bool?
 v110)
 fun
 b111 ↦
 bif
 b111 then
 Option.bind
 (E
 cx
 (Key.fn
 28)
 [vi
 tick10,
 vi
 8]
 [])
 fun
 r112 ↦
 Option.bind
 (ret1
 r112)
 fun
 v113 ↦
 Option.bind
 (AV.int?
 IntKind.i64
 v113)
 fun
 n114 ↦
 Option.bind
 (E
 cx
 (Key.fn
 32)
 [AV.list
 0
 4
 (List.drop
 0
 (List.take
 (Int.toNat
 (if
 40 <
 ((List.length
 wild0) : Int) then
 40
 else
 ((List.length
 wild0) : Int)))
 wild0)),
 vi
 tick10]
 [])
 fun
 r115 ↦
 Option.bind
 (ret1
 r115)
 fun
 v116 ↦
 Option.bind
 (AV.tup?
 v116)
 fun
 vs117 ↦
 Option.bind
 (uncons?
 vs117)
 fun
 p118 ↦
 Option.bind
 (AV.list?
 4
 p118.fst)
 fun
 es119 ↦
 Option.bind
 (uncons?
 p118.snd)
 fun
 p120 ↦
 Option.bind
 (AV.list?
 4
 p120.fst)
 fun
 es121 ↦
 Option.bind
 (nil?
 p120.snd)
 fun
 _ ↦
 Option.bind
 (E
 cx
 (Key.fn
 33)
 [AV.list
 0
 4
 (List.drop
 0
 (List.take
 (Int.toNat
 (if
 40 <
 ((List.length
 wild0) : Int) then
 40
 else
 ((List.length
 wild0) : Int)))
 wild0)),
 vi
 tick10]
 [])
 fun
 r123 ↦
 Option.bind
 (ret1
 r123)
 fun
 v124 ↦
 Option.bind
 (AV.tup?
 v124)
 fun
 vs125 ↦
 Option.bind
 (uncons?
 vs125)
 fun
 p126 ↦
 Option.bind
 (AV.list?
 4
 p126.fst)
 fun
 es127 ↦
 Option.bind
 (uncons?
 p126.snd)
 fun
 p128 ↦
 Option.bind
 (AV.list?
 4
 p128.fst)
 fun
 es129 ↦
 Option.bind
 (nil?
 p128.snd)
 fun
 _ ↦
 Option.bind
 (E
 cx
 (Key.fn
 31)
 [AV.list
 0
 4
 es119,
 AV.list
 0
 4
 es127]
 [])
 fun
 r131 ↦
 Option.bind
 (ret1
 r131)
 fun
 v132 ↦
 Option.bind
 (AV.bool?
 v132)
 fun
 b133 ↦
 bif
 b133 then
 Option.bind
 (E
 cx
 (Key.fn
 31)
 [AV.list
 0
 4
 es121,
 AV.list
 0
 4
 es129]
 [])
 fun
 r134 ↦
 Option.bind
 (ret1
 r134)
 fun
 v135 ↦
 Option.bind
 (AV.bool?
 v135)
 fun
 b136 ↦
 bif
 b136 then
 Option.bind
 (E
 cx
 (Key.fn
 32)
 [AV.list
 0
 4
 (List.drop
 0
 (List.take
 (Int.toNat
 (if
 40 <
 ((List.length
 wild0) : Int) then
 40
 else
 ((List.length
 wild0) : Int)))
 wild0)),
 vi
 n114]
 [])
 fun
 r137 ↦
 Option.bind
 (ret1
 r137)
 fun
 v138 ↦
 Option.bind
 (AV.tup?
 v138)
 fun
 vs139 ↦
 Option.bind
 (uncons?
 vs139)
 fun
 p140 ↦
 Option.bind
 (AV.list?
 4
 p140.fst)
 fun
 es141 ↦
 Option.bind
 (uncons?
 p140.snd)
 fun
 p142 ↦
 Option.bind
 (AV.list?
 4
 p142.fst)
 fun
 es143 ↦
 Option.bind
 (nil?
 p142.snd)
 fun
 _ ↦
 Option.bind
 (E
 cx
 (Key.fn
 33)
 [AV.list
 0
 4
 (List.drop
 0
 (List.take
 (Int.toNat
 (if
 40 <
 ((List.length
 wild0) : Int) then
 40
 else
 ((List.length
 wild0) : Int)))
 wild0)),
 vi
 n114]
 [])
 fun
 r145 ↦
 Option.bind
 (ret1
 r145)
 fun
 v146 ↦
 Option.bind
 (AV.tup?
 v146)
 fun
 vs147 ↦
 Option.bind
 (uncons?
 vs147)
 fun
 p148 ↦
 Option.bind
 (AV.list?
 4
 p148.fst)
 fun
 es149 ↦
 Option.bind
 (uncons?
 p148.snd)
 fun
 p150 ↦
 Option.bind
 (AV.list?
 4
 p150.fst)
 fun
 es151 ↦
 Option.bind
 (nil?
 p150.snd)
 fun
 _ ↦
 Option.bind
 (E
 cx
 (Key.fn
 31)
 [AV.list
 0
 4
 es141,
 AV.list
 0
 4
 es149]
 [])
 fun
 r153 ↦
 Option.bind
 (ret1
 r153)
 fun
 v154 ↦
 Option.bind
 (AV.bool?
 v154)
 fun
 b155 ↦
 bif
 b155 then
 Option.bind
 (E
 cx
 (Key.fn
 31)
 [AV.list
 0
 4
 es143,
 AV.list
 0
 4
 es151]
 [])
 fun
 r156 ↦
 Option.bind
 (ret1
 r156)
 fun
 v157 ↦
 Option.bind
 (AV.bool?
 v157)
 fun
 b158 ↦
 bif
 b158 then
 Option.bind
 (E
 cx
 (Key.fn
 34)
 [AV.list
 0
 4
 (List.drop
 0
 (List.take
 (Int.toNat
 (if
 40 <
 ((List.length
 wild0) : Int) then
 40
 else
 ((List.length
 wild0) : Int)))
 wild0))]
 [])
 fun
 r159 ↦
 Option.bind
 (ret1
 r159)
 fun
 v160 ↦
 Option.bind
 (AV.tup?
 v160)
 fun
 vs161 ↦
 Option.bind
 (uncons?
 vs161)
 fun
 p162 ↦
 Option.bind
 (AV.int?
 IntKind.i64
 p162.fst)
 fun
 n163 ↦
 Option.bind
 (uncons?
 p162.snd)
 fun
 p164 ↦
 Option.bind
 (AV.bool?
 p164.fst)
 fun
 b165 ↦
 bif
 b165 then
 Option.bind
 (nil?
 p164.snd)
 fun
 _ ↦
 Option.bind
 (E
 cx
 (Key.fn
 35)
 [AV.list
 0
 4
 (List.drop
 0
 (List.take
 (Int.toNat
 (if
 40 <
 ((List.length
 wild0) : Int) then
 40
 else
 ((List.length
 wild0) : Int)))
 wild0))]
 [])
 fun
 r167 ↦
 Option.bind
 (ret1
 r167)
 fun
 v168 ↦
 Option.bind
 (AV.tup?
 v168)
 fun
 vs169 ↦
 Option.bind
 (uncons?
 vs169)
 fun
 p170 ↦
 Option.bind
 (AV.int?
 IntKind.i64
 p170.fst)
 fun
 n171 ↦
 Option.bind
 (uncons?
 p170.snd)
 fun
 p172 ↦
 Option.bind
 (AV.bool?
 p172.fst)
 fun
 b173 ↦
 bif
 b173 then
 Option.bind
 (nil?
 p172.snd)
 fun
 _ ↦
 bif
 n163 !=
 n171 then
 some
 (Out.ret
 (vbool
 false),
 [])
 else
 Option.bind
 (E
 cx
 (Key.fn
 36)
 [AV.list
 0
 4
 (List.drop
 0
 (List.take
 (Int.toNat
 (if
 40 <
 ((List.length
 wild0) : Int) then
 40
 else
 ((List.length
 wild0) : Int)))
 wild0))]
 [])
 fun
 r175 ↦
 Option.bind
 (ret1
 r175)
 fun
 v176 ↦
 Option.bind
 (AV.bool?
 v176)
 fun
 b177 ↦
 bif
 b177 then
 Option.bind
 (E
 cx
 (Key.fn
 37)
 [AV.list
 0
 4
 (List.drop
 0
 (List.take
 (Int.toNat
 (if
 40 <
 ((List.length
 wild0) : Int) then
 40
 else
 ((List.length
 wild0) : Int)))
 wild0))]
 [])
 fun
 r178 ↦
 Option.bind
 (ret1
 r178)
 fun
 v179 ↦
 Option.bind
 (AV.bool?
 v179)
 fun
 b180 ↦
 bif
 b180 then
 Option.bind
 (E
 cx
 (Key.fn
 38)
 [AV.list
 0
 4
 (List.drop
 0
 (List.take
 (Int.toNat
 (if
 40 <
 ((List.length
 wild0) : Int) then
 40
 else
 ((List.length
 wild0) : Int)))
 wild0)),
 vi
 peer11]
 [])
 fun
 r181 ↦
 Option.bind
 (ret1
 r181)
 fun
 v182 ↦
 Option.bind
 (AV.list?
 4
 v182)
 fun
 es183 ↦
 Option.bind
 (E
 cx
 (Key.fn
 39)
 [AV.list
 0
 4
 (List.drop
 0
 (List.take
 (Int.toNat
 (if
 40 <
 ((List.length
 wild0) : Int) then
 40
 else
 ((List.length
 wild0) : Int)))
 wild0)),
 vi
 peer11]
 [])
 fun
 r184 ↦
 Option.bind
 (ret1
 r184)
 fun
 v185 ↦
 Option.bind
 (AV.list?
 4
 v185)
 fun
 es186 ↦
 Option.bind
 (E
 cx
 (Key.fn
 31)
 [AV.list
 0
 4
 es183,
 AV.list
 0
 4
 es186]
 [])
 fun
 r187 ↦
 Option.bind
 (ret1
 r187)
 fun
 v188 ↦
 Option.bind
 (AV.bool?
 v188)
 fun
 b189 ↦
 bif
 b189 then
 Option.bind
 (E
 cx
 (Key.fn
 28)
 [vi
 peer11,
 vi
 4]
 [])
 fun
 r190 ↦
 Option.bind
 (ret1
 r190)
 fun
 v191 ↦
 Option.bind
 (AV.int?
 IntKind.i64
 v191)
 fun
 n192 ↦
 Option.bind
 (E
 cx
 (Key.fn
 38)
 [AV.list
 0
 4
 (List.drop
 0
 (List.take
 (Int.toNat
 (if
 40 <
 ((List.length
 wild0) : Int) then
 40
 else
 ((List.length
 wild0) : Int)))
 wild0)),
 vi
 n192]
 [])
 fun
 r193 ↦
 Option.bind
 (ret1
 r193)
 fun
 v194 ↦
 Option.bind
 (AV.list?
 4
 v194)
 fun
 es195 ↦
 Option.bind
 (E
 cx
 (Key.fn
 28)
 [vi
 peer11,
 vi
 4]
 [])
 fun
 r196 ↦
 Option.bind
 (ret1
 r196)
 fun
 v197 ↦
 Option.bind
 (AV.int?
 IntKind.i64
 v197)
 fun
 n198 ↦
 Option.bind
 (E
 cx
 (Key.fn
 39)
 [AV.list
 0
 4
 (List.drop
 0
 (List.take
 (Int.toNat
 (if
 40 <
 ((List.length
 wild0) : Int) then
 40
 else
 ((List.length
 wild0) : Int)))
 wild0)),
 vi
 n198]
 [])
 fun
 r199 ↦
 Option.bind
 (ret1
 r199)
 fun
 v200 ↦
 Option.bind
 (AV.list?
 4
 v200)
 fun
 es201 ↦
 Option.bind
 (E
 cx
 (Key.fn
 31)
 [AV.list
 0
 4
 es195,
 AV.list
 0
 4
 es201]
 [])
 fun
 r202 ↦
 Option.bind
 (ret1
 r202)
 fun
 v203 ↦
 Option.bind
 (AV.bool?
 v203)
 fun
 b204 ↦
 bif
 b204 then
 Option.bind
 (E
 cx
 (Key.fn
 27)
 [AV.agg
 [vi
 k6,
 vi
 k7,
 vi
 k8]]
 [])
 fun
 r205 ↦
 Option.bind
 (ret1
 r205)
 fun
 v206 ↦
 Option.bind
 (AV.cells?
 v206)
 fun
 cs207 ↦
 Option.bind
 (uncons?
 cs207)
 fun
 p208 ↦
 Option.bind
 (AV.int?
 IntKind.i64
 p208.fst)
 fun
 n209 ↦
 Option.bind
 (uncons?
 p208.snd)
 fun
 p210 ↦
 Option.bind
 (AV.int?
 IntKind.i64
 p210.fst)
 fun
 n211 ↦
 Option.bind
 (uncons?
 p210.snd)
 fun
 p212 ↦
 Option.bind
 (AV.int?
 IntKind.i64
 p212.fst)
 fun
 n213 ↦
 Option.bind
 (uncons?
 p212.snd)
 fun
 p214 ↦
 Option.bind
 (AV.str?
 p214.fst)
 fun
 s215 ↦
 Option.bind
 (nil?
 p214.snd)
 fun
 _ ↦
 Option.bind
 (E
 cx
 (Key.fn
 28)
 [vi
 room9,
 vi
 35]
 [])
 fun
 r217 ↦
 Option.bind
 (ret1
 r217)
 fun
 v218 ↦
 Option.bind
 (AV.int?
 IntKind.i64
 v218)
 fun
 n219 ↦
 Option.bind
 (E
 cx
 (Key.fn
 29)
 [AV.list
 0
 4
 es17,
 vi
 room9,
 AV.agg
 [vi
 odd2,
 vi
 odd3,
 vi
 odd4,
 vs
 odd5]]
 [])
 fun
 r220 ↦
 Option.bind
 (ret1
 r220)
 fun
 v221 ↦
 Option.bind
 (AV.tup?
 v221)
 fun
 vs222 ↦
 Option.bind
 (uncons?
 vs222)
 fun
 p223 ↦
 Option.bind
 (AV.list?
 4
 p223.fst)
 fun
 es224 ↦
 Option.bind
 (uncons?
 p223.snd)
 fun
 p225 ↦
 Option.bind
 (AV.int?
 IntKind.i64
 p225.fst)
 fun
 n226 ↦
 Option.bind
 (nil?
 p225.snd)
 fun
 _ ↦
 Option.bind
 (E
 cx
 (Key.fn
 30)
 [AV.list
 0
 4
 es17,
 vi
 room9,
 AV.agg
 [vi
 odd2,
 vi
 odd3,
 vi
 odd4,
 vs
 odd5]]
 [])
 fun
 r228 ↦
 Option.bind
 (ret1
 r228)
 fun
 v229 ↦
 Option.bind
 (AV.tup?
 v229)
 fun
 vs230 ↦
 Option.bind
 (uncons?
 vs230)
 fun
 p231 ↦
 Option.bind
 (AV.list?
 4
 p231.fst)
 fun
 es232 ↦
 Option.bind
 (uncons?
 p231.snd)
 fun
 p233 ↦
 Option.bind
 (AV.int?
 IntKind.i64
 p233.fst)
 fun
 n234 ↦
 Option.bind
 (nil?
 p233.snd)
 fun
 _ ↦
 bif
 n226 !=
 n234 then
 some
 (Out.ret
 (vbool
 false),
 [])
 else
 Option.bind
 (E
 cx
 (Key.fn
 31)
 [AV.list
 0
 4
 es224,
 AV.list
 0
 4
 es232]
 [])
 fun
 r236 ↦
 Option.bind
 (ret1
 r236)
 fun
 v237 ↦
 Option.bind
 (AV.bool?
 v237)
 fun
 b238 ↦
 bif
 b238 then
 Option.bind
 (E
 cx
 (Key.fn
 29)
 [AV.list
 0
 4
 es17,
 vi
 n219,
 AV.agg
 [vi
 odd2,
 vi
 odd3,
 vi
 odd4,
 vs
 odd5]]
 [])
 fun
 r239 ↦
 Option.bind
 (ret1
 r239)
 fun
 v240 ↦
 Option.bind
 (AV.tup?
 v240)
 fun
 vs241 ↦
 Option.bind
 (uncons?
 vs241)
 fun
 p242 ↦
 Option.bind
 (AV.list?
 4
 p242.fst)
 fun
 es243 ↦
 Option.bind
 (uncons?
 p242.snd)
 fun
 p244 ↦
 Option.bind
 (AV.int?
 IntKind.i64
 p244.fst)
 fun
 n245 ↦
 Option.bind
 (nil?
 p244.snd)
 fun
 _ ↦
 Option.bind
 (E
 cx
 (Key.fn
 30)
 [AV.list
 0
 4
 es17,
 vi
 n219,
 AV.agg
 [vi
 odd2,
 vi
 odd3,
 vi
 odd4,
 vs
 odd5]]
 [])
 fun
 r247 ↦
 Option.bind
 (ret1
 r247)
 fun
 v248 ↦
 Option.bind
 (AV.tup?
 v248)
 fun
 vs249 ↦
 Option.bind
 (uncons?
 vs249)
 fun
 p250 ↦
 Option.bind
 (AV.list?
 4
 p250.fst)
 fun
 es251 ↦
 Option.bind
 (uncons?
 p250.snd)
 fun
 p252 ↦
 Option.bind
 (AV.int?
 IntKind.i64
 p252.fst)
 fun
 n253 ↦
 Option.bind
 (nil?
 p252.snd)
 fun
 _ ↦
 bif
 n245 !=
 n253 then
 some
 (Out.ret
 (vbool
 false),
 [])
 else
 Option.bind
 (E
 cx
 (Key.fn
 31)
 [AV.list
 0
 4
 es243,
 AV.list
 0
 4
 es251]
 [])
 fun
 r255 ↦
 Option.bind
 (ret1
 r255)
 fun
 v256 ↦
 Option.bind
 (AV.bool?
 v256)
 fun
 b257 ↦
 bif
 b257 then
 Option.bind
 (E
 cx
 (Key.fn
 28)
 [vi
 room9,
 vi
 35]
 [])
 fun
 r258 ↦
 Option.bind
 (ret1
 r258)
 fun
 v259 ↦
 Option.bind
 (AV.int?
 IntKind.i64
 v259)
 fun
 n260 ↦
 Option.bind
 (E
 cx
 (Key.fn
 29)
 [AV.list
 0
 4
 es17,
 vi
 room9,
 AV.agg
 [vi
 n209,
 vi
 n211,
 vi
 n213,
 vs
 s215]]
 [])
 fun
 r261 ↦
 Option.bind
 (ret1
 r261)
 fun
 v262 ↦
 Option.bind
 (AV.tup?
 v262)
 fun
 vs263 ↦
 Option.bind
 (uncons?
 vs263)
 fun
 p264 ↦
 Option.bind
 (AV.list?
 4
 p264.fst)
 fun
 es265 ↦
 Option.bind
 (uncons?
 p264.snd)
 fun
 p266 ↦
 Option.bind
 (AV.int?
 IntKind.i64
 p266.fst)
 fun
 n267 ↦
 Option.bind
 (nil?
 p266.snd)
 fun
 _ ↦
 Option.bind
 (E
 cx
 (Key.fn
 30)
 [AV.list
 0
 4
 es17,
 vi
 room9,
 AV.agg
 [vi
 n209,
 vi
 n211,
 vi
 n213,
 vs
 s215]]
 [])
 fun
 r269 ↦
 Option.bind
 (ret1
 r269)
 fun
 v270 ↦
 Option.bind
 (AV.tup?
 v270)
 fun
 vs271 ↦
 Option.bind
 (uncons?
 vs271)
 fun
 p272 ↦
 Option.bind
 (AV.list?
 4
 p272.fst)
 fun
 es273 ↦
 Option.bind
 (uncons?
 p272.snd)
 fun
 p274 ↦
 Option.bind
 (AV.int?
 IntKind.i64
 p274.fst)
 fun
 n275 ↦
 Option.bind
 (nil?
 p274.snd)
 fun
 _ ↦
 bif
 n267 !=
 n275 then
 some
 (Out.ret
 (vbool
 false),
 [])
 else
 Option.bind
 (E
 cx
 (Key.fn
 31)
 [AV.list
 0
 4
 es265,
 AV.list
 0
 4
 es273]
 [])
 fun
 r277 ↦
 Option.bind
 (ret1
 r277)
 fun
 v278 ↦
 Option.bind
 (AV.bool?
 v278)
 fun
 b279 ↦
 bif
 b279 then
 Option.bind
 (E
 cx
 (Key.fn
 29)
 [AV.list
 0
 4
 es17,
 vi
 n260,
 AV.agg
 [vi
 n209,
 vi
 n211,
 vi
 n213,
 vs
 s215]]
 [])
 fun
 r280 ↦
 Option.bind
 (ret1
 r280)
 fun
 v281 ↦
 Option.bind
 (AV.tup?
 v281)
 fun
 vs282 ↦
 Option.bind
 (uncons?
 vs282)
 fun
 p283 ↦
 Option.bind
 (AV.list?
 4
 p283.fst)
 fun
 es284 ↦
 Option.bind
 (uncons?
 p283.snd)
 fun
 p285 ↦
 Option.bind
 (AV.int?
 IntKind.i64
 p285.fst)
 fun
 n286 ↦
 Option.bind
 (nil?
 p285.snd)
 fun
 _ ↦
 Option.bind
 (E
 cx
 (Key.fn
 30)
 [AV.list
 0
 4
 es17,
 vi
 n260,
 AV.agg
 [vi
 n209,
 vi
 n211,
 vi
 n213,
 vs
 s215]]
 [])
 fun
 r288 ↦
 Option.bind
 (ret1
 r288)
 fun
 v289 ↦
 Option.bind
 (AV.tup?
 v289)
 fun
 vs290 ↦
 Option.bind
 (uncons?
 vs290)
 fun
 p291 ↦
 Option.bind
 (AV.list?
 4
 p291.fst)
 fun
 es292 ↦
 Option.bind
 (uncons?
 p291.snd)
 fun
 p293 ↦
 Option.bind
 (AV.int?
 IntKind.i64
 p293.fst)
 fun
 n294 ↦
 Option.bind
 (nil?
 p293.snd)
 fun
 _ ↦
 bif
 n286 !=
 n294 then
 some
 (Out.ret
 (vbool
 false),
 [])
 else
 Option.bind
 (E
 cx
 (Key.fn
 31)
 [AV.list
 0
 4
 es284,
 AV.list
 0
 4
 es292]
 [])
 fun
 r296 ↦
 Option.bind
 (ret1
 r296)
 fun
 v297 ↦
 Option.bind
 (AV.bool?
 v297)
 fun
 b298 ↦
 bif
 b298 then
 Option.bind
 (E
 cx
 (Key.fn
 28)
 [vi
 tick10,
 vi
 8]
 [])
 fun
 r299 ↦
 Option.bind
 (ret1
 r299)
 fun
 v300 ↦
 Option.bind
 (AV.int?
 IntKind.i64
 v300)
 fun
 n301 ↦
 Option.bind
 (E
 cx
 (Key.fn
 32)
 [AV.list
 0
 4
 es17,
 vi
 tick10]
 [])
 fun
 r302 ↦
 Option.bind
 (ret1
 r302)
 fun
 v303 ↦
 Option.bind
 (AV.tup?
 v303)
 fun
 vs304 ↦
 Option.bind
 (uncons?
 vs304)
 fun
 p305 ↦
 Option.bind
 (AV.list?
 4
 p305.fst)
 fun
 es306 ↦
 Option.bind
 (uncons?
 p305.snd)
 fun
 p307 ↦
 Option.bind
 (AV.list?
 4
 p307.fst)
 fun
 es308 ↦
 Option.bind
 (nil?
 p307.snd)
 fun
 _ ↦
 Option.bind
 (E
 cx
 (Key.fn
 33)
 [AV.list
 0
 4
 es17,
 vi
 tick10]
 [])
 fun
 r310 ↦
 Option.bind
 (ret1
 r310)
 fun
 v311 ↦
 Option.bind
 (AV.tup?
 v311)
 fun
 vs312 ↦
 Option.bind
 (uncons?
 vs312)
 fun
 p313 ↦
 Option.bind
 (AV.list?
 4
 p313.fst)
 fun
 es314 ↦
 Option.bind
 (uncons?
 p313.snd)
 fun
 p315 ↦
 Option.bind
 (AV.list?
 4
 p315.fst)
 fun
 es316 ↦
 Option.bind
 (nil?
 p315.snd)
 fun
 _ ↦
 Option.bind
 (E
 cx
 (Key.fn
 31)
 [AV.list
 0
 4
 es306,
 AV.list
 0
 4
 es314]
 [])
 fun
 r318 ↦
 Option.bind
 (ret1
 r318)
 fun
 v319 ↦
 Option.bind
 (AV.bool?
 v319)
 fun
 b320 ↦
 bif
 b320 then
 Option.bind
 (E
 cx
 (Key.fn
 31)
 [AV.list
 0
 4
 es308,
 AV.list
 0
 4
 es316]
 [])
 fun
 r321 ↦
 Option.bind
 (ret1
 r321)
 fun
 v322 ↦
 Option.bind
 (AV.bool?
 v322)
 fun
 b323 ↦
 bif
 b323 then
 Option.bind
 (E
 cx
 (Key.fn
 32)
 [AV.list
 0
 4
 es17,
 vi
 n301]
 [])
 fun
 r324 ↦
 Option.bind
 (ret1
 r324)
 fun
 v325 ↦
 Option.bind
 (AV.tup?
 v325)
 fun
 vs326 ↦
 Option.bind
 (uncons?
 vs326)
 fun
 p327 ↦
 Option.bind
 (AV.list?
 4
 p327.fst)
 fun
 es328 ↦
 Option.bind
 (uncons?
 p327.snd)
 fun
 p329 ↦
 Option.bind
 (AV.list?
 4
 p329.fst)
 fun
 es330 ↦
 Option.bind
 (nil?
 p329.snd)
 fun
 _ ↦
 Option.bind
 (E
 cx
 (Key.fn
 33)
 [AV.list
 0
 4
 es17,
 vi
 n301]
 [])
 fun
 r332 ↦
 Option.bind
 (ret1
 r332)
 fun
 v333 ↦
 Option.bind
 (AV.tup?
 v333)
 fun
 vs334 ↦
 Option.bind
 (uncons?
 vs334)
 fun
 p335 ↦
 Option.bind
 (AV.list?
 4
 p335.fst)
 fun
 es336 ↦
 Option.bind
 (uncons?
 p335.snd)
 fun
 p337 ↦
 Option.bind
 (AV.list?
 4
 p337.fst)
 fun
 es338 ↦
 Option.bind
 (nil?
 p337.snd)
 fun
 _ ↦
 Option.bind
 (E
 cx
 (Key.fn
 31)
 [AV.list
 0
 4
 es328,
 AV.list
 0
 4
 es336]
 [])
 fun
 r340 ↦
 Option.bind
 (ret1
 r340)
 fun
 v341 ↦
 Option.bind
 (AV.bool?
 v341)
 fun
 b342 ↦
 bif
 b342 then
 Option.bind
 (E
 cx
 (Key.fn
 31)
 [AV.list
 0
 4
 es330,
 AV.list
 0
 4
 es338]
 [])
 fun
 r343 ↦
 Option.bind
 (ret1
 r343)
 fun
 v344 ↦
 Option.bind
 (AV.bool?
 v344)
 fun
 b345 ↦
 bif
 b345 then
 Option.bind
 (E
 cx
 (Key.fn
 34)
 [AV.list
 0
 4
 es17]
 [])
 fun
 r346 ↦
 Option.bind
 (ret1
 r346)
 fun
 v347 ↦
 Option.bind
 (AV.tup?
 v347)
 fun
 vs348 ↦
 Option.bind
 (uncons?
 vs348)
 fun
 p349 ↦
 Option.bind
 (AV.int?
 IntKind.i64
 p349.fst)
 fun
 n350 ↦
 Option.bind
 (uncons?
 p349.snd)
 fun
 p351 ↦
 Option.bind
 (AV.bool?
 p351.fst)
 fun
 b352 ↦
 bif
 b352 then
 Option.bind
 (nil?
 p351.snd)
 fun
 _ ↦
 Option.bind
 (E
 cx
 (Key.fn
 35)
 [AV.list
 0
 4
 es17]
 [])
 fun
 r354 ↦
 Option.bind
 (ret1
 r354)
 fun
 v355 ↦
 Option.bind
 (AV.tup?
 v355)
 fun
 vs356 ↦
 Option.bind
 (uncons?
 vs356)
 fun
 p357 ↦
 Option.bind
 (AV.int?
 IntKind.i64
 p357.fst)
 fun
 n358 ↦
 Option.bind
 (uncons?
 p357.snd)
 fun
 p359 ↦
 Option.bind
 (AV.bool?
 p359.fst)
 fun
 b360 ↦
 bif
 b360 then
 Option.bind
 (nil?
 p359.snd)
 fun
 _ ↦
 bif
 n350 !=
 n358 then
 some
 (Out.ret
 (vbool
 false),
 [])
 else
 Option.bind
 (E
 cx
 (Key.fn
 36)
 [AV.list
 0
 4
 es17]
 [])
 fun
 r362 ↦
 Option.bind
 (ret1
 r362)
 fun
 v363 ↦
 Option.bind
 (AV.bool?
 v363)
 fun
 b364 ↦
 bif
 b364 then
 Option.bind
 (E
 cx
 (Key.fn
 37)
 [AV.list
 0
 4
 es17]
 [])
 fun
 r365 ↦
 Option.bind
 (ret1
 r365)
 fun
 v366 ↦
 Option.bind
 (AV.bool?
 v366)
 fun
 b367 ↦
 bif
 b367 then
 Option.bind
 (E
 cx
 (Key.fn
 38)
 [AV.list
 0
 4
 es17,
 vi
 peer11]
 [])
 fun
 r368 ↦
 Option.bind
 (ret1
 r368)
 fun
 v369 ↦
 Option.bind
 (AV.list?
 4
 v369)
 fun
 es370 ↦
 Option.bind
 (E
 cx
 (Key.fn
 39)
 [AV.list
 0
 4
 es17,
 vi
 peer11]
 [])
 fun
 r371 ↦
 Option.bind
 (ret1
 r371)
 fun
 v372 ↦
 Option.bind
 (AV.list?
 4
 v372)
 fun
 es373 ↦
 Option.bind
 (E
 cx
 (Key.fn
 31)
 [AV.list
 0
 4
 es370,
 AV.list
 0
 4
 es373]
 [])
 fun
 r374 ↦
 Option.bind
 (ret1
 r374)
 fun
 v375 ↦
 Option.bind
 (AV.bool?
 v375)
 fun
 b376 ↦
 bif
 b376 then
 Option.bind
 (E
 cx
 (Key.fn
 28)
 [vi
 peer11,
 vi
 4]
 [])
 fun
 r377 ↦
 Option.bind
 (ret1
 r377)
 fun
 v378 ↦
 Option.bind
 (AV.int?
 IntKind.i64
 v378)
 fun
 n379 ↦
 Option.bind
 (E
 cx
 (Key.fn
 38)
 [AV.list
 0
 4
 es17,
 vi
 n379]
 [])
 fun
 r380 ↦
 Option.bind
 (ret1
 r380)
 fun
 v381 ↦
 Option.bind
 (AV.list?
 4
 v381)
 fun
 es382 ↦
 Option.bind
 (E
 cx
 (Key.fn
 28)
 [vi
 peer11,
 vi
 4]
 [])
 fun
 r383 ↦
 Option.bind
 (ret1
 r383)
 fun
 v384 ↦
 Option.bind
 (AV.int?
 IntKind.i64
 v384)
 fun
 n385 ↦
 Option.bind
 (E
 cx
 (Key.fn
 39)
 [AV.list
 0
 4
 es17,
 vi
 n385]
 [])
 fun
 r386 ↦
 Option.bind
 (ret1
 r386)
 fun
 v387 ↦
 Option.bind
 (AV.list?
 4
 v387)
 fun
 es388 ↦
 Option.bind
 (E
 cx
 (Key.fn
 31)
 [AV.list
 0
 4
 es382,
 AV.list
 0
 4
 es388]
 [])
 fun
 r389 ↦
 Option.bind
 (ret1
 r389)
 fun
 v390 ↦
 Option.bind
 (AV.bool?
 v390)
 fun
 b391 ↦
 bif
 b391 then
 some
 (Out.ret
 (vbool
 true),
 [])
 else
 some
 (Out.ret
 (vbool
 false),
 [])
 else
 some
 (Out.ret
 (vbool
 false),
 [])
 else
 some
 (Out.ret
 (vbool
 false),
 [])
 else
 Option.bind
 (E
 cx
 (Key.fn
 37)
 [AV.list
 0
 4
 es17]
 [])
 fun
 r392 ↦
 Option.bind
 (ret1
 r392)
 fun
 v393 ↦
 Option.bind
 (AV.bool?
 v393)
 fun
 b394 ↦
 bif
 b394 then
 some
 (Out.ret
 (vbool
 false),
 [])
 else
 Option.bind
 (E
 cx
 (Key.fn
 38)
 [AV.list
 0
 4
 es17,
 vi
 peer11]
 [])
 fun
 r395 ↦
 Option.bind
 (ret1
 r395)
 fun
 v396 ↦
 Option.bind
 (AV.list?
 4
 v396)
 fun
 es397 ↦
 Option.bind
 (E
 cx
 (Key.fn
 39)
 [AV.list
 0
 4
 es17,
 vi
 peer11]
 [])
 fun
 r398 ↦
 Option.bind
 (ret1
 r398)
 fun
 v399 ↦
 Option.bind
 (AV.list?
 4
 v399)
 fun
 es400 ↦
 Option.bind
 (E
 cx
 (Key.fn
 31)
 [AV.list
 0
 4
 es397,
 AV.list
 0
 4
 es400]
 [])
 fun
 r401 ↦
 Option.bind
 (ret1
 r401)
 fun
 v402 ↦
 Option.bind
 (AV.bool?
 v402)
 fun
 b403 ↦
 bif
 b403 then
 Option.bind
 (E
 cx
 (Key.fn
 28)
 [vi
 peer11,
 vi
 4]
 [])
 fun
 r404 ↦
 Option.bind
 (ret1
 r404)
 fun
 v405 ↦
 Option.bind
 (AV.int?
 IntKind.i64
 v405)
 fun
 n406 ↦
 Option.bind
 (E
 cx
 (Key.fn
 38)
 [AV.list
 0
 4
 es17,
 vi
 n406]
 [])
 fun
 r407 ↦
 Option.bind
 (ret1
 r407)
 fun
 v408 ↦
 Option.bind
 (AV.list?
 4
 v408)
 fun
 es409 ↦
 Option.bind
 (E
 cx
 (Key.fn
 28)
 [vi
 peer11,
 vi
 4]
 [])
 fun
 r410 ↦
 Option.bind
 (ret1
 r410)
 fun
 v411 ↦
 Option.bind
 (AV.int?
 IntKind.i64
 v411)
 fun
 n412 ↦
 Option.bind
 (E
 cx
 (Key.fn
 39)
 [AV.list
 0
 4
 es17,
 vi
 n412]
 [])
 fun
 r413 ↦
 Option.bind
 (ret1
 r413)
 fun
 v414 ↦
 Option.bind
 (AV.list?
 4
 v414)
 fun
 es415 ↦
 Option.bind
 (E
 cx
 (Key.fn
 31)
 [AV.list
 0
 4
 es409,
 AV.list
 0
 4
 es415]
 [])
 fun
 r416 ↦
 Option.bind
 (ret1
 r416)
 fun
 v417 ↦
 Option.bind
 (AV.bool?
 v417)
 fun
 b418 ↦
 bif
 b418 then
 some
 (Out.ret
 (vbool
 true),
 [])
 else
 some
 (Out.ret
 (vbool
 false),
 [])
 else
 some
 (Out.ret
 (vbool
 false),
 [])
 else
 Option.bind
 (nil?
 p359.snd)
 fun
 _ ↦
 bif
 n350 !=
 n358 then
 some
 (Out.ret
 (vbool
 false),
 [])
 else
 some
 (Out.ret
 (vbool
 false),
 [])
 else
 Option.bind
 (nil?
 p351.snd)
 fun
 _ ↦
 Option.bind
 (E
 cx
 (Key.fn
 35)
 [AV.list
 0
 4
 es17]
 [])
 fun
 r421 ↦
 Option.bind
 (ret1
 r421)
 fun
 v422 ↦
 Option.bind
 (AV.tup?
 v422)
 fun
 vs423 ↦
 Option.bind
 (uncons?
 vs423)
 fun
 p424 ↦
 Option.bind
 (AV.int?
 IntKind.i64
 p424.fst)
 fun
 n425 ↦
 Option.bind
 (uncons?
 p424.snd)
 fun
 p426 ↦
 Option.bind
 (AV.bool?
 p426.fst)
 fun
 b427 ↦
 bif
 b427 then
 Option.bind
 (nil?
 p426.snd)
 fun
 _ ↦
 bif
 n350 !=
 n425 then
 some
 (Out.ret
 (vbool
 false),
 [])
 else
 some
 (Out.ret
 (vbool
 false),
 [])
 else
 Option.bind
 (nil?
 p426.snd)
 fun
 _ ↦
 bif
 n350 !=
 n425 then
 some
 (Out.ret
 (vbool
 false),
 [])
 else
 Option.bind
 (E
 cx
 (Key.fn
 36)
 [AV.list
 0
 4
 es17]
 [])
 fun
 r430 ↦
 Option.bind
 (ret1
 r430)
 fun
 v431 ↦
 Option.bind
 (AV.bool?
 v431)
 fun
 b432 ↦
 bif
 b432 then
 Option.bind
 (E
 cx
 (Key.fn
 37)
 [AV.list
 0
 4
 es17]
 [])
 fun
 r433 ↦
 Option.bind
 (ret1
 r433)
 fun
 v434 ↦
 Option.bind
 (AV.bool?
 v434)
 fun
 b435 ↦
 bif
 b435 then
 Option.bind
 (E
 cx
 (Key.fn
 38)
 [AV.list
 0
 4
 es17,
 vi
 peer11]
 [])
 fun
 r436 ↦
 Option.bind
 (ret1
 r436)
 fun
 v437 ↦
 Option.bind
 (AV.list?
 4
 v437)
 fun
 es438 ↦
 Option.bind
 (E
 cx
 (Key.fn
 39)
 [AV.list
 0
 4
 es17,
 vi
 peer11]
 [])
 fun
 r439 ↦
 Option.bind
 (ret1
 r439)
 fun
 v440 ↦
 Option.bind
 (AV.list?
 4
 v440)
 fun
 es441 ↦
 Option.bind
 (E
 cx
 (Key.fn
 31)
 [AV.list
 0
 4
 es438,
 AV.list
 0
 4
 es441]
 [])
 fun
 r442 ↦
 Option.bind
 (ret1
 r442)
 fun
 v443 ↦
 Option.bind
 (AV.bool?
 v443)
 fun
 b444 ↦
 bif
 b444 then
 Option.bind
 (E
 cx
 (Key.fn
 28)
 [vi
 peer11,
 vi
 4]
 [])
 fun
 r445 ↦
 Option.bind
 (ret1
 r445)
 fun
 v446 ↦
 Option.bind
 (AV.int?
 IntKind.i64
 v446)
 fun
 n447 ↦
 Option.bind
 (E
 cx
 (Key.fn
 38)
 [AV.list
 0
 4
 es17,
 vi
 n447]
 [])
 fun
 r448 ↦
 Option.bind
 (ret1
 r448)
 fun
 v449 ↦
 Option.bind
 (AV.list?
 4
 v449)
 fun
 es450 ↦
 Option.bind
 (E
 cx
 (Key.fn
 28)
 [vi
 peer11,
 vi
 4]
 [])
 fun
 r451 ↦
 Option.bind
 (ret1
 r451)
 fun
 v452 ↦
 Option.bind
 (AV.int?
 IntKind.i64
 v452)
 fun
 n453 ↦
 Option.bind
 (E
 cx
 (Key.fn
 39)
 [AV.list
 0
 4
 es17,
 vi
 n453]
 [])
 fun
 r454 ↦
 Option.bind
 (ret1
 r454)
 fun
 v455 ↦
 Option.bind
 (AV.list?
 4
 v455)
 fun
 es456 ↦
 Option.bind
 (E
 cx
 (Key.fn
 31)
 [AV.list
 0
 4
 es450,
 AV.list
 0
 4
 es456]
 [])
 fun
 r457 ↦
 Option.bind
 (ret1
 r457)
 fun
 v458 ↦
 Option.bind
 (AV.bool?
 v458)
 fun
 b459 ↦
 bif
 b459 then
 some
 (Out.ret
 (vbool
 true),
 [])
 else
 some
 (Out.ret
 (vbool
 false),
 [])
 else
 some
 (Out.ret
 (vbool
 false),
 [])
 else
 some
 (Out.ret
 (vbool
 false),
 [])
 else
 Option.bind
 (E
 cx
 (Key.fn
 37)
 [AV.list
 0
 4
 es17]
 [])
 fun
 r460 ↦
 Option.bind
 (ret1
 r460)
 fun
 v461 ↦
 Option.bind
 (AV.bool?
 v461)
 fun
 b462 ↦
 bif
 b462 then
 some
 (Out.ret
 (vbool
 false),
 [])
 else
 Option.bind
 (E
 cx
 (Key.fn
 38)
 [AV.list
 0
 4
 es17,
 vi
 peer11]
 [])
 fun
 r463 ↦
 Option.bind
 (ret1
 r463)
 fun
 v464 ↦
 Option.bind
 (AV.list?
 4
 v464)
 fun
 es465 ↦
 Option.bind
 (E
 cx
 (Key.fn
 39)
 [AV.list
 0
 4
 es17,
 vi
 peer11]
 [])
 fun
 r466 ↦
 Option.bind
 (ret1
 r466)
 fun
 v467 ↦
 Option.bind
 (AV.list?
 4
 v467)
 fun
 es468 ↦
 Option.bind
 (E
 cx
 (Key.fn
 31)
 [AV.list
 0
 4
 es465,
 AV.list
 0
 4
 es468]
 [])
 fun
 r469 ↦
 Option.bind
 (ret1
 r469)
 fun
 v470 ↦
 Option.bind
 (AV.bool?
 v470)
 fun
 b471 ↦
 bif
 b471 then
 Option.bind
 (E
 cx
 (Key.fn
 28)
 [vi
 peer11,
 vi
 4]
 [])
 fun
 r472 ↦
 Option.bind
 (ret1
 r472)
 fun
 v473 ↦
 Option.bind
 (AV.int?
 IntKind.i64
 v473)
 fun
 n474 ↦
 Option.bind
 (E
 cx
 (Key.fn
 38)
 [AV.list
 0
 4
 es17,
 vi
 n474]
 [])
 fun
 r475 ↦
 Option.bind
 (ret1
 r475)
 fun
 v476 ↦
 Option.bind
 (AV.list?
 4
 v476)
 fun
 es477 ↦
 Option.bind
 (E
 cx
 (Key.fn
 28)
 [vi
 peer11,
 vi
 4]
 [])
 fun
 r478 ↦
 Option.bind
 (ret1
 r478)
 fun
 v479 ↦
 Option.bind
 (AV.int?
 IntKind.i64
 v479)
 fun
 n480 ↦
 Option.bind
 (E
 cx
 (Key.fn
 39)
 [AV.list
 0
 4
 es17,
 vi
 n480]
 [])
 fun
 r481 ↦
 Option.bind
 (ret1
 r481)
 fun
 v482 ↦
 Option.bind
 (AV.list?
 4
 v482)
 fun
 es483 ↦
 Option.bind
 (E
 cx
 (Key.fn
 31)
 [AV.list
 0
 4
 es477,
 AV.list
 0
 4
 es483]
 [])
 fun
 r484 ↦
 Option.bind
 (ret1
 r484)
 fun
 v485 ↦
 Option.bind
 (AV.bool?
 v485)
 fun
 b486 ↦
 bif
 b486 then
 some
 (Out.ret
 (vbool
 true),
 [])
 else
 some
 (Out.ret
 (vbool
 false),
 [])
 else
 some
 (Out.ret
 (vbool
 false),
 [])
 else
 some
 (Out.ret
 (vbool
 false),
 [])
 else
 some
 (Out.ret
 (vbool
 false),
 [])
 else
 some
 (Out.ret
 (vbool
 false),
 [])
 else
 some
 (Out.ret
 (vbool
 false),
 [])
 else
 some
 (Out.ret
 (vbool
 false),
 [])
 else
 some
 (Out.ret
 (vbool
 false),
 [])
 else
 some
 (Out.ret
 (vbool
 false),
 [])
 else
 some
 (Out.ret
 (vbool
 false),
 [])
 else
 some
 (Out.ret
 (vbool
 false),
 [])
 else
 some
 (Out.ret
 (vbool
 false),
 [])
 else
 some
 (Out.ret
 (vbool
 false),
 [])
 else
 Option.bind
 (E
 cx
 (Key.fn
 37)
 [AV.list
 0
 4
 (List.drop
 0
 (List.take
 (Int.toNat
 (if
 40 <
 ((List.length
 wild0) : Int) then
 40
 else
 ((List.length
 wild0) : Int)))
 wild0))]
 [])
 fun
 r487 ↦
 Option.bind
 (ret1
 r487)
 fun
 v488 ↦
 Option.bind
 (AV.bool?
 v488)
 fun
 b489 ↦
 bif
 b489 then
 some
 (Out.ret
 (vbool
 false),
 [])
 else
 Option.bind
 (E
 cx
 (Key.fn
 38)
 [AV.list
 0
 4
 (List.drop
 0
 (List.take
 (Int.toNat
 (if
 40 <
 ((List.length
 wild0) : Int) then
 40
 else
 ((List.length
 wild0) : Int)))
 wild0)),
 vi
 peer11]
 [])
 fun
 r490 ↦
 Option.bind
 (ret1
 r490)
 fun
 v491 ↦
 Option.bind
 (AV.list?
 4
 v491)
 fun
 es492 ↦
 Option.bind
 (E
 cx
 (Key.fn
 39)
 [AV.list
 0
 4
 (List.drop
 0
 (List.take
 (Int.toNat
 (if
 40 <
 ((List.length
 wild0) : Int) then
 40
 else
 ((List.length
 wild0) : Int)))
 wild0)),
 vi
 peer11]
 [])
 fun
 r493 ↦
 Option.bind
 (ret1
 r493)
 fun
 v494 ↦
 Option.bind
 (AV.list?
 4
 v494)
 fun
 es495 ↦
 Option.bind
 (E
 cx
 (Key.fn
 31)
 [AV.list
 0
 4
 es492,
 AV.list
 0
 4
 es495]
 [])
 fun
 r496 ↦
 Option.bind
 (ret1
 r496)
 fun
 v497 ↦
 Option.bind
 (AV.bool?
 v497)
 fun
 b498 ↦
 bif
 b498 then
 Option.bind
 (E
 cx
 (Key.fn
 28)
 [vi
 peer11,
 vi
 4]
 [])
 fun
 r499 ↦
 Option.bind
 (ret1
 r499)
 fun
 v500 ↦
 Option.bind
 (AV.int?
 IntKind.i64
 v500)
 fun
 n501 ↦
 Option.bind
 (E
 cx
 (Key.fn
 38)
 [AV.list
 0
 4
 (List.drop
 0
 (List.take
 (Int.toNat
 (if
 40 <
 ((List.length
 wild0) : Int) then
 40
 else
 ((List.length
 wild0) : Int)))
 wild0)),
 vi
 n501]
 [])
 fun
 r502 ↦
 Option.bind
 (ret1
 r502)
 fun
 v503 ↦
 Option.bind
 (AV.list?
 4
 v503)
 fun
 es504 ↦
 Option.bind
 (E
 cx
 (Key.fn
 28)
 [vi
 peer11,
 vi
 4]
 [])
 fun
 r505 ↦
 Option.bind
 (ret1
 r505)
 fun
 v506 ↦
 Option.bind
 (AV.int?
 IntKind.i64
 v506)
 fun
 n507 ↦
 Option.bind
 (E
 cx
 (Key.fn
 39)
 [AV.list
 0
 4
 (List.drop
 0
 (List.take
 (Int.toNat
 (if
 40 <
 ((List.length
 wild0) : Int) then
 40
 else
 ((List.length
 wild0) : Int)))
 wild0)),
 vi
 n507]
 [])
 fun
 r508 ↦
 Option.bind
 (ret1
 r508)
 fun
 v509 ↦
 Option.bind
 (AV.list?
 4
 v509)
 fun
 es510 ↦
 Option.bind
 (E
 cx
 (Key.fn
 31)
 [AV.list
 0
 4
 es504,
 AV.list
 0
 4
 es510]
 [])
 fun
 r511 ↦
 Option.bind
 (ret1
 r511)
 fun
 v512 ↦
 Option.bind
 (AV.bool?
 v512)
 fun
 b513 ↦
 bif
 b513 then
 Option.bind
 (E
 cx
 (Key.fn
 27)
 [AV.agg
 [vi
 k6,
 vi
 k7,
 vi
 k8]]
 [])
 fun
 r514 ↦
 Option.bind
 (ret1
 r514)
 fun
 v515 ↦
 Option.bind
 (AV.cells?
 v515)
 fun
 cs516 ↦
 Option.bind
 (uncons?
 cs516)
 fun
 p517 ↦
 Option.bind
 (AV.int?
 IntKind.i64
 p517.fst)
 fun
 n518 ↦
 Option.bind
 (uncons?
 p517.snd)
 fun
 p519 ↦
 Option.bind
 (AV.int?
 IntKind.i64
 p519.fst)
 fun
 n520 ↦
 Option.bind
 (uncons?
 p519.snd)
 fun
 p521 ↦
 Option.bind
 (AV.int?
 IntKind.i64
 p521.fst)
 fun
 n522 ↦
 Option.bind
 (uncons?
 p521.snd)
 fun
 p523 ↦
 Option.bind
 (AV.str?
 p523.fst)
 fun
 s524 ↦
 Option.bind
 (nil?
 p523.snd)
 fun
 _ ↦
 Option.bind
 (E
 cx
 (Key.fn
 28)
 [vi
 room9,
 vi
 35]
 [])
 fun
 r526 ↦
 Option.bind
 (ret1
 r526)
 fun
 v527 ↦
 Option.bind
 (AV.int?
 IntKind.i64
 v527)
 fun
 n528 ↦
 Option.bind
 (E
 cx
 (Key.fn
 29)
 [AV.list
 0
 4
 es17,
 vi
 room9,
 AV.agg
 [vi
 odd2,
 vi
 odd3,
 vi
 odd4,
 vs
 odd5]]
 [])
 fun
 r529 ↦
 Option.bind
 (ret1
 r529)
 fun
 v530 ↦
 Option.bind
 (AV.tup?
 v530)
 fun
 vs531 ↦
 Option.bind
 (uncons?
 vs531)
 fun
 p532 ↦
 Option.bind
 (AV.list?
 4
 p532.fst)
 fun
 es533 ↦
 Option.bind
 (uncons?
 p532.snd)
 fun
 p534 ↦
 Option.bind
 (AV.int?
 IntKind.i64
 p534.fst)
 fun
 n535 ↦
 Option.bind
 (nil?
 p534.snd)
 fun
 _ ↦
 Option.bind
 (E
 cx
 (Key.fn
 30)
 [AV.list
 0
 4
 es17,
 vi
 room9,
 AV.agg
 [vi
 odd2,
 vi
 odd3,
 vi
 odd4,
 vs
 odd5]]
 [])
 fun
 r537 ↦
 Option.bind
 (ret1
 r537)
 fun
 v538 ↦
 Option.bind
 (AV.tup?
 v538)
 fun
 vs539 ↦
 Option.bind
 (uncons?
 vs539)
 fun
 p540 ↦
 Option.bind
 (AV.list?
 4
 p540.fst)
 fun
 es541 ↦
 Option.bind
 (uncons?
 p540.snd)
 fun
 p542 ↦
 Option.bind
 (AV.int?
 IntKind.i64
 p542.fst)
 fun
 n543 ↦
 Option.bind
 (nil?
 p542.snd)
 fun
 _ ↦
 bif
 n535 !=
 n543 then
 some
 (Out.ret
 (vbool
 false),
 [])
 else
 Option.bind
 (E
 cx
 (Key.fn
 31)
 [AV.list
 0
 4
 es533,
 AV.list
 0
 4
 es541]
 [])
 fun
 r545 ↦
 Option.bind
 (ret1
 r545)
 fun
 v546 ↦
 Option.bind
 (AV.bool?
 v546)
 fun
 b547 ↦
 bif
 b547 then
 Option.bind
 (E
 cx
 (Key.fn
 29)
 [AV.list
 0
 4
 es17,
 vi
 n528,
 AV.agg
 [vi
 odd2,
 vi
 odd3,
 vi
 odd4,
 vs
 odd5]]
 [])
 fun
 r548 ↦
 Option.bind
 (ret1
 r548)
 fun
 v549 ↦
 Option.bind
 (AV.tup?
 v549)
 fun
 vs550 ↦
 Option.bind
 (uncons?
 vs550)
 fun
 p551 ↦
 Option.bind
 (AV.list?
 4
 p551.fst)
 fun
 es552 ↦
 Option.bind
 (uncons?
 p551.snd)
 fun
 p553 ↦
 Option.bind
 (AV.int?
 IntKind.i64
 p553.fst)
 fun
 n554 ↦
 Option.bind
 (nil?
 p553.snd)
 fun
 _ ↦
 Option.bind
 (E
 cx
 (Key.fn
 30)
 [AV.list
 0
 4
 es17,
 vi
 n528,
 AV.agg
 [vi
 odd2,
 vi
 odd3,
 vi
 odd4,
 vs
 odd5]]
 [])
 fun
 r556 ↦
 Option.bind
 (ret1
 r556)
 fun
 v557 ↦
 Option.bind
 (AV.tup?
 v557)
 fun
 vs558 ↦
 Option.bind
 (uncons?
 vs558)
 fun
 p559 ↦
 Option.bind
 (AV.list?
 4
 p559.fst)
 fun
 es560 ↦
 Option.bind
 (uncons?
 p559.snd)
 fun
 p561 ↦
 Option.bind
 (AV.int?
 IntKind.i64
 p561.fst)
 fun
 n562 ↦
 Option.bind
 (nil?
 p561.snd)
 fun
 _ ↦
 bif
 n554 !=
 n562 then
 some
 (Out.ret
 (vbool
 false),
 [])
 else
 Option.bind
 (E
 cx
 (Key.fn
 31)
 [AV.list
 0
 4
 es552,
 AV.list
 0
 4
 es560]
 [])
 fun
 r564 ↦
 Option.bind
 (ret1
 r564)
 fun
 v565 ↦
 Option.bind
 (AV.bool?
 v565)
 fun
 b566 ↦
 bif
 b566 then
 Option.bind
 (E
 cx
 (Key.fn
 28)
 [vi
 room9,
 vi
 35]
 [])
 fun
 r567 ↦
 Option.bind
 (ret1
 r567)
 fun
 v568 ↦
 Option.bind
 (AV.int?
 IntKind.i64
 v568)
 fun
 n569 ↦
 Option.bind
 (E
 cx
 (Key.fn
 29)
 [AV.list
 0
 4
 es17,
 vi
 room9,
 AV.agg
 [vi
 n518,
 vi
 n520,
 vi
 n522,
 vs
 s524]]
 [])
 fun
 r570 ↦
 Option.bind
 (ret1
 r570)
 fun
 v571 ↦
 Option.bind
 (AV.tup?
 v571)
 fun
 vs572 ↦
 Option.bind
 (uncons?
 vs572)
 fun
 p573 ↦
 Option.bind
 (AV.list?
 4
 p573.fst)
 fun
 es574 ↦
 Option.bind
 (uncons?
 p573.snd)
 fun
 p575 ↦
 Option.bind
 (AV.int?
 IntKind.i64
 p575.fst)
 fun
 n576 ↦
 Option.bind
 (nil?
 p575.snd)
 fun
 _ ↦
 Option.bind
 (E
 cx
 (Key.fn
 30)
 [AV.list
 0
 4
 es17,
 vi
 room9,
 AV.agg
 [vi
 n518,
 vi
 n520,
 vi
 n522,
 vs
 s524]]
 [])
 fun
 r578 ↦
 Option.bind
 (ret1
 r578)
 fun
 v579 ↦
 Option.bind
 (AV.tup?
 v579)
 fun
 vs580 ↦
 Option.bind
 (uncons?
 vs580)
 fun
 p581 ↦
 Option.bind
 (AV.list?
 4
 p581.fst)
 fun
 es582 ↦
 Option.bind
 (uncons?
 p581.snd)
 fun
 p583 ↦
 Option.bind
 (AV.int?
 IntKind.i64
 p583.fst)
 fun
 n584 ↦
 Option.bind
 (nil?
 p583.snd)
 fun
 _ ↦
 bif
 n576 !=
 n584 then
 some
 (Out.ret
 (vbool
 false),
 [])
 else
 Option.bind
 (E
 cx
 (Key.fn
 31)
 [AV.list
 0
 4
 es574,
 AV.list
 0
 4
 es582]
 [])
 fun
 r586 ↦
 Option.bind
 (ret1
 r586)
 fun
 v587 ↦
 Option.bind
 (AV.bool?
 v587)
 fun
 b588 ↦
 bif
 b588 then
 Option.bind
 (E
 cx
 (Key.fn
 29)
 [AV.list
 0
 4
 es17,
 vi
 n569,
 AV.agg
 [vi
 n518,
 vi
 n520,
 vi
 n522,
 vs
 s524]]
 [])
 fun
 r589 ↦
 Option.bind
 (ret1
 r589)
 fun
 v590 ↦
 Option.bind
 (AV.tup?
 v590)
 fun
 vs591 ↦
 Option.bind
 (uncons?
 vs591)
 fun
 p592 ↦
 Option.bind
 (AV.list?
 4
 p592.fst)
 fun
 es593 ↦
 Option.bind
 (uncons?
 p592.snd)
 fun
 p594 ↦
 Option.bind
 (AV.int?
 IntKind.i64
 p594.fst)
 fun
 n595 ↦
 Option.bind
 (nil?
 p594.snd)
 fun
 _ ↦
 Option.bind
 (E
 cx
 (Key.fn
 30)
 [AV.list
 0
 4
 es17,
 vi
 n569,
 AV.agg
 [vi
 n518,
 vi
 n520,
 vi
 n522,
 vs
 s524]]
 [])
 fun
 r597 ↦
 Option.bind
 (ret1
 r597)
 fun
 v598 ↦
 Option.bind
 (AV.tup?
 v598)
 fun
 vs599 ↦
 Option.bind
 (uncons?
 vs599)
 fun
 p600 ↦
 Option.bind
 (AV.list?
 4
 p600.fst)
 fun
 es601 ↦
 Option.bind
 (uncons?
 p600.snd)
 fun
 p602 ↦
 Option.bind
 (AV.int?
 IntKind.i64
 p602.fst)
 fun
 n603 ↦
 Option.bind
 (nil?
 p602.snd)
 fun
 _ ↦
 bif
 n595 !=
 n603 then
 some
 (Out.ret
 (vbool
 false),
 [])
 else
 Option.bind
 (E
 cx
 (Key.fn
 31)
 [AV.list
 0
 4
 es593,
 AV.list
 0
 4
 es601]
 [])
 fun
 r605 ↦
 Option.bind
 (ret1
 r605)
 fun
 v606 ↦
 Option.bind
 (AV.bool?
 v606)
 fun
 b607 ↦
 bif
 b607 then
 Option.bind
 (E
 cx
 (Key.fn
 28)
 [vi
 tick10,
 vi
 8]
 [])
 fun
 r608 ↦
 Option.bind
 (ret1
 r608)
 fun
 v609 ↦
 Option.bind
 (AV.int?
 IntKind.i64
 v609)
 fun
 n610 ↦
 Option.bind
 (E
 cx
 (Key.fn
 32)
 [AV.list
 0
 4
 es17,
 vi
 tick10]
 [])
 fun
 r611 ↦
 Option.bind
 (ret1
 r611)
 fun
 v612 ↦
 Option.bind
 (AV.tup?
 v612)
 fun
 vs613 ↦
 Option.bind
 (uncons?
 vs613)
 fun
 p614 ↦
 Option.bind
 (AV.list?
 4
 p614.fst)
 fun
 es615 ↦
 Option.bind
 (uncons?
 p614.snd)
 fun
 p616 ↦
 Option.bind
 (AV.list?
 4
 p616.fst)
 fun
 es617 ↦
 Option.bind
 (nil?
 p616.snd)
 fun
 _ ↦
 Option.bind
 (E
 cx
 (Key.fn
 33)
 [AV.list
 0
 4
 es17,
 vi
 tick10]
 [])
 fun
 r619 ↦
 Option.bind
 (ret1
 r619)
 fun
 v620 ↦
 Option.bind
 (AV.tup?
 v620)
 fun
 vs621 ↦
 Option.bind
 (uncons?
 vs621)
 fun
 p622 ↦
 Option.bind
 (AV.list?
 4
 p622.fst)
 fun
 es623 ↦
 Option.bind
 (uncons?
 p622.snd)
 fun
 p624 ↦
 Option.bind
 (AV.list?
 4
 p624.fst)
 fun
 es625 ↦
 Option.bind
 (nil?
 p624.snd)
 fun
 _ ↦
 Option.bind
 (E
 cx
 (Key.fn
 31)
 [AV.list
 0
 4
 es615,
 AV.list
 0
 4
 es623]
 [])
 fun
 r627 ↦
 Option.bind
 (ret1
 r627)
 fun
 v628 ↦
 Option.bind
 (AV.bool?
 v628)
 fun
 b629 ↦
 bif
 b629 then
 Option.bind
 (E
 cx
 (Key.fn
 31)
 [AV.list
 0
 4
 es617,
 AV.list
 0
 4
 es625]
 [])
 fun
 r630 ↦
 Option.bind
 (ret1
 r630)
 fun
 v631 ↦
 Option.bind
 (AV.bool?
 v631)
 fun
 b632 ↦
 bif
 b632 then
 Option.bind
 (E
 cx
 (Key.fn
 32)
 [AV.list
 0
 4
 es17,
 vi
 n610]
 [])
 fun
 r633 ↦
 Option.bind
 (ret1
 r633)
 fun
 v634 ↦
 Option.bind
 (AV.tup?
 v634)
 fun
 vs635 ↦
 Option.bind
 (uncons?
 vs635)
 fun
 p636 ↦
 Option.bind
 (AV.list?
 4
 p636.fst)
 fun
 es637 ↦
 Option.bind
 (uncons?
 p636.snd)
 fun
 p638 ↦
 Option.bind
 (AV.list?
 4
 p638.fst)
 fun
 es639 ↦
 Option.bind
 (nil?
 p638.snd)
 fun
 _ ↦
 Option.bind
 (E
 cx
 (Key.fn
 33)
 [AV.list
 0
 4
 es17,
 vi
 n610]
 [])
 fun
 r641 ↦
 Option.bind
 (ret1
 r641)
 fun
 v642 ↦
 Option.bind
 (AV.tup?
 v642)
 fun
 vs643 ↦
 Option.bind
 (uncons?
 vs643)
 fun
 p644 ↦
 Option.bind
 (AV.list?
 4
 p644.fst)
 fun
 es645 ↦
 Option.bind
 (uncons?
 p644.snd)
 fun
 p646 ↦
 Option.bind
 (AV.list?
 4
 p646.fst)
 fun
 es647 ↦
 Option.bind
 (nil?
 p646.snd)
 fun
 _ ↦
 Option.bind
 (E
 cx
 (Key.fn
 31)
 [AV.list
 0
 4
 es637,
 AV.list
 0
 4
 es645]
 [])
 fun
 r649 ↦
 Option.bind
 (ret1
 r649)
 fun
 v650 ↦
 Option.bind
 (AV.bool?
 v650)
 fun
 b651 ↦
 bif
 b651 then
 Option.bind
 (E
 cx
 (Key.fn
 31)
 [AV.list
 0
 4
 es639,
 AV.list
 0
 4
 es647]
 [])
 fun
 r652 ↦
 Option.bind
 (ret1
 r652)
 fun
 v653 ↦
 Option.bind
 (AV.bool?
 v653)
 fun
 b654 ↦
 bif
 b654 then
 Option.bind
 (E
 cx
 (Key.fn
 34)
 [AV.list
 0
 4
 es17]
 [])
 fun
 r655 ↦
 Option.bind
 (ret1
 r655)
 fun
 v656 ↦
 Option.bind
 (AV.tup?
 v656)
 fun
 vs657 ↦
 Option.bind
 (uncons?
 vs657)
 fun
 p658 ↦
 Option.bind
 (AV.int?
 IntKind.i64
 p658.fst)
 fun
 n659 ↦
 Option.bind
 (uncons?
 p658.snd)
 fun
 p660 ↦
 Option.bind
 (AV.bool?
 p660.fst)
 fun
 b661 ↦
 bif
 b661 then
 Option.bind
 (nil?
 p660.snd)
 fun
 _ ↦
 Option.bind
 (E
 cx
 (Key.fn
 35)
 [AV.list
 0
 4
 es17]
 [])
 fun
 r663 ↦
 Option.bind
 (ret1
 r663)
 fun
 v664 ↦
 Option.bind
 (AV.tup?
 v664)
 fun
 vs665 ↦
 Option.bind
 (uncons?
 vs665)
 fun
 p666 ↦
 Option.bind
 (AV.int?
 IntKind.i64
 p666.fst)
 fun
 n667 ↦
 Option.bind
 (uncons?
 p666.snd)
 fun
 p668 ↦
 Option.bind
 (AV.bool?
 p668.fst)
 fun
 b669 ↦
 bif
 b669 then
 Option.bind
 (nil?
 p668.snd)
 fun
 _ ↦
 bif
 n659 !=
 n667 then
 some
 (Out.ret
 (vbool
 false),
 [])
 else
 Option.bind
 (E
 cx
 (Key.fn
 36)
 [AV.list
 0
 4
 es17]
 [])
 fun
 r671 ↦
 Option.bind
 (ret1
 r671)
 fun
 v672 ↦
 Option.bind
 (AV.bool?
 v672)
 fun
 b673 ↦
 bif
 b673 then
 Option.bind
 (E
 cx
 (Key.fn
 37)
 [AV.list
 0
 4
 es17]
 [])
 fun
 r674 ↦
 Option.bind
 (ret1
 r674)
 fun
 v675 ↦
 Option.bind
 (AV.bool?
 v675)
 fun
 b676 ↦
 bif
 b676 then
 Option.bind
 (E
 cx
 (Key.fn
 38)
 [AV.list
 0
 4
 es17,
 vi
 peer11]
 [])
 fun
 r677 ↦
 Option.bind
 (ret1
 r677)
 fun
 v678 ↦
 Option.bind
 (AV.list?
 4
 v678)
 fun
 es679 ↦
 Option.bind
 (E
 cx
 (Key.fn
 39)
 [AV.list
 0
 4
 es17,
 vi
 peer11]
 [])
 fun
 r680 ↦
 Option.bind
 (ret1
 r680)
 fun
 v681 ↦
 Option.bind
 (AV.list?
 4
 v681)
 fun
 es682 ↦
 Option.bind
 (E
 cx
 (Key.fn
 31)
 [AV.list
 0
 4
 es679,
 AV.list
 0
 4
 es682]
 [])
 fun
 r683 ↦
 Option.bind
 (ret1
 r683)
 fun
 v684 ↦
 Option.bind
 (AV.bool?
 v684)
 fun
 b685 ↦
 bif
 b685 then
 Option.bind
 (E
 cx
 (Key.fn
 28)
 [vi
 peer11,
 vi
 4]
 [])
 fun
 r686 ↦
 Option.bind
 (ret1
 r686)
 fun
 v687 ↦
 Option.bind
 (AV.int?
 IntKind.i64
 v687)
 fun
 n688 ↦
 Option.bind
 (E
 cx
 (Key.fn
 38)
 [AV.list
 0
 4
 es17,
 vi
 n688]
 [])
 fun
 r689 ↦
 Option.bind
 (ret1
 r689)
 fun
 v690 ↦
 Option.bind
 (AV.list?
 4
 v690)
 fun
 es691 ↦
 Option.bind
 (E
 cx
 (Key.fn
 28)
 [vi
 peer11,
 vi
 4]
 [])
 fun
 r692 ↦
 Option.bind
 (ret1
 r692)
 fun
 v693 ↦
 Option.bind
 (AV.int?
 IntKind.i64
 v693)
 fun
 n694 ↦
 Option.bind
 (E
 cx
 (Key.fn
 39)
 [AV.list
 0
 4
 es17,
 vi
 n694]
 [])
 fun
 r695 ↦
 Option.bind
 (ret1
 r695)
 fun
 v696 ↦
 Option.bind
 (AV.list?
 4
 v696)
 fun
 es697 ↦
 Option.bind
 (E
 cx
 (Key.fn
 31)
 [AV.list
 0
 4
 es691,
 AV.list
 0
 4
 es697]
 [])
 fun
 r698 ↦
 Option.bind
 (ret1
 r698)
 fun
 v699 ↦
 Option.bind
 (AV.bool?
 v699)
 fun
 b700 ↦
 bif
 b700 then
 some
 (Out.ret
 (vbool
 true),
 [])
 else
 some
 (Out.ret
 (vbool
 false),
 [])
 else
 some
 (Out.ret
 (vbool
 false),
 [])
 else
 some
 (Out.ret
 (vbool
 false),
 [])
 else
 Option.bind
 (E
 cx
 (Key.fn
 37)
 [AV.list
 0
 4
 es17]
 [])
 fun
 r701 ↦
 Option.bind
 (ret1
 r701)
 fun
 v702 ↦
 Option.bind
 (AV.bool?
 v702)
 fun
 b703 ↦
 bif
 b703 then
 some
 (Out.ret
 (vbool
 false),
 [])
 else
 Option.bind
 (E
 cx
 (Key.fn
 38)
 [AV.list
 0
 4
 es17,
 vi
 peer11]
 [])
 fun
 r704 ↦
 Option.bind
 (ret1
 r704)
 fun
 v705 ↦
 Option.bind
 (AV.list?
 4
 v705)
 fun
 es706 ↦
 Option.bind
 (E
 cx
 (Key.fn
 39)
 [AV.list
 0
 4
 es17,
 vi
 peer11]
 [])
 fun
 r707 ↦
 Option.bind
 (ret1
 r707)
 fun
 v708 ↦
 Option.bind
 (AV.list?
 4
 v708)
 fun
 es709 ↦
 Option.bind
 (E
 cx
 (Key.fn
 31)
 [AV.list
 0
 4
 es706,
 AV.list
 0
 4
 es709]
 [])
 fun
 r710 ↦
 Option.bind
 (ret1
 r710)
 fun
 v711 ↦
 Option.bind
 (AV.bool?
 v711)
 fun
 b712 ↦
 bif
 b712 then
 Option.bind
 (E
 cx
 (Key.fn
 28)
 [vi
 peer11,
 vi
 4]
 [])
 fun
 r713 ↦
 Option.bind
 (ret1
 r713)
 fun
 v714 ↦
 Option.bind
 (AV.int?
 IntKind.i64
 v714)
 fun
 n715 ↦
 Option.bind
 (E
 cx
 (Key.fn
 38)
 [AV.list
 0
 4
 es17,
 vi
 n715]
 [])
 fun
 r716 ↦
 Option.bind
 (ret1
 r716)
 fun
 v717 ↦
 Option.bind
 (AV.list?
 4
 v717)
 fun
 es718 ↦
 Option.bind
 (E
 cx
 (Key.fn
 28)
 [vi
 peer11,
 vi
 4]
 [])
 fun
 r719 ↦
 Option.bind
 (ret1
 r719)
 fun
 v720 ↦
 Option.bind
 (AV.int?
 IntKind.i64
 v720)
 fun
 n721 ↦
 Option.bind
 (E
 cx
 (Key.fn
 39)
 [AV.list
 0
 4
 es17,
 vi
 n721]
 [])
 fun
 r722 ↦
 Option.bind
 (ret1
 r722)
 fun
 v723 ↦
 Option.bind
 (AV.list?
 4
 v723)
 fun
 es724 ↦
 Option.bind
 (E
 cx
 (Key.fn
 31)
 [AV.list
 0
 4
 es718,
 AV.list
 0
 4
 es724]
 [])
 fun
 r725 ↦
 Option.bind
 (ret1
 r725)
 fun
 v726 ↦
 Option.bind
 (AV.bool?
 v726)
 fun
 b727 ↦
 bif
 b727 then
 some
 (Out.ret
 (vbool
 true),
 [])
 else
 some
 (Out.ret
 (vbool
 false),
 [])
 else
 some
 (Out.ret
 (vbool
 false),
 [])
 else
 Option.bind
 (nil?
 p668.snd)
 fun
 _ ↦
 bif
 n659 !=
 n667 then
 some
 (Out.ret
 (vbool
 false),
 [])
 else
 some
 (Out.ret
 (vbool
 false),
 [])
 else
 Option.bind
 (nil?
 p660.snd)
 fun
 _ ↦
 Option.bind
 (E
 cx
 (Key.fn
 35)
 [AV.list
 0
 4
 es17]
 [])
 fun
 r730 ↦
 Option.bind
 (ret1
 r730)
 fun
 v731 ↦
 Option.bind
 (AV.tup?
 v731)
 fun
 vs732 ↦
 Option.bind
 (uncons?
 vs732)
 fun
 p733 ↦
 Option.bind
 (AV.int?
 IntKind.i64
 p733.fst)
 fun
 n734 ↦
 Option.bind
 (uncons?
 p733.snd)
 fun
 p735 ↦
 Option.bind
 (AV.bool?
 p735.fst)
 fun
 b736 ↦
 bif
 b736 then
 Option.bind
 (nil?
 p735.snd)
 fun
 _ ↦
 bif
 n659 !=
 n734 then
 some
 (Out.ret
 (vbool
 false),
 [])
 else
 some
 (Out.ret
 (vbool
 false),
 [])
 else
 Option.bind
 (nil?
 p735.snd)
 fun
 _ ↦
 bif
 n659 !=
 n734 then
 some
 (Out.ret
 (vbool
 false),
 [])
 else
 Option.bind
 (E
 cx
 (Key.fn
 36)
 [AV.list
 0
 4
 es17]
 [])
 fun
 r739 ↦
 Option.bind
 (ret1
 r739)
 fun
 v740 ↦
 Option.bind
 (AV.bool?
 v740)
 fun
 b741 ↦
 bif
 b741 then
 Option.bind
 (E
 cx
 (Key.fn
 37)
 [AV.list
 0
 4
 es17]
 [])
 fun
 r742 ↦
 Option.bind
 (ret1
 r742)
 fun
 v743 ↦
 Option.bind
 (AV.bool?
 v743)
 fun
 b744 ↦
 bif
 b744 then
 Option.bind
 (E
 cx
 (Key.fn
 38)
 [AV.list
 0
 4
 es17,
 vi
 peer11]
 [])
 fun
 r745 ↦
 Option.bind
 (ret1
 r745)
 fun
 v746 ↦
 Option.bind
 (AV.list?
 4
 v746)
 fun
 es747 ↦
 Option.bind
 (E
 cx
 (Key.fn
 39)
 [AV.list
 0
 4
 es17,
 vi
 peer11]
 [])
 fun
 r748 ↦
 Option.bind
 (ret1
 r748)
 fun
 v749 ↦
 Option.bind
 (AV.list?
 4
 v749)
 fun
 es750 ↦
 Option.bind
 (E
 cx
 (Key.fn
 31)
 [AV.list
 0
 4
 es747,
 AV.list
 0
 4
 es750]
 [])
 fun
 r751 ↦
 Option.bind
 (ret1
 r751)
 fun
 v752 ↦
 Option.bind
 (AV.bool?
 v752)
 fun
 b753 ↦
 bif
 b753 then
 Option.bind
 (E
 cx
 (Key.fn
 28)
 [vi
 peer11,
 vi
 4]
 [])
 fun
 r754 ↦
 Option.bind
 (ret1
 r754)
 fun
 v755 ↦
 Option.bind
 (AV.int?
 IntKind.i64
 v755)
 fun
 n756 ↦
 Option.bind
 (E
 cx
 (Key.fn
 38)
 [AV.list
 0
 4
 es17,
 vi
 n756]
 [])
 fun
 r757 ↦
 Option.bind
 (ret1
 r757)
 fun
 v758 ↦
 Option.bind
 (AV.list?
 4
 v758)
 fun
 es759 ↦
 Option.bind
 (E
 cx
 (Key.fn
 28)
 [vi
 peer11,
 vi
 4]
 [])
 fun
 r760 ↦
 Option.bind
 (ret1
 r760)
 fun
 v761 ↦
 Option.bind
 (AV.int?
 IntKind.i64
 v761)
 fun
 n762 ↦
 Option.bind
 (E
 cx
 (Key.fn
 39)
 [AV.list
 0
 4
 es17,
 vi
 n762]
 [])
 fun
 r763 ↦
 Option.bind
 (ret1
 r763)
 fun
 v764 ↦
 Option.bind
 (AV.list?
 4
 v764)
 fun
 es765 ↦
 Option.bind
 (E
 cx
 (Key.fn
 31)
 [AV.list
 0
 4
 es759,
 AV.list
 0
 4
 es765]
 [])
 fun
 r766 ↦
 Option.bind
 (ret1
 r766)
 fun
 v767 ↦
 Option.bind
 (AV.bool?
 v767)
 fun
 b768 ↦
 bif
 b768 then
 some
 (Out.ret
 (vbool
 true),
 [])
 else
 some
 (Out.ret
 (vbool
 false),
 [])
 else
 some
 (Out.ret
 (vbool
 false),
 [])
 else
 some
 (Out.ret
 (vbool
 false),
 [])
 else
 Option.bind
 (E
 cx
 (Key.fn
 37)
 [AV.list
 0
 4
 es17]
 [])
 fun
 r769 ↦
 Option.bind
 (ret1
 r769)
 fun
 v770 ↦
 Option.bind
 (AV.bool?
 v770)
 fun
 b771 ↦
 bif
 b771 then
 some
 (Out.ret
 (vbool
 false),
 [])
 else
 Option.bind
 (E
 cx
 (Key.fn
 38)
 [AV.list
 0
 4
 es17,
 vi
 peer11]
 [])
 fun
 r772 ↦
 Option.bind
 (ret1
 r772)
 fun
 v773 ↦
 Option.bind
 (AV.list?
 4
 v773)
 fun
 es774 ↦
 Option.bind
 (E
 cx
 (Key.fn
 39)
 [AV.list
 0
 4
 es17,
 vi
 peer11]
 [])
 fun
 r775 ↦
 Option.bind
 (ret1
 r775)
 fun
 v776 ↦
 Option.bind
 (AV.list?
 4
 v776)
 fun
 es777 ↦
 Option.bind
 (E
 cx
 (Key.fn
 31)
 [AV.list
 0
 4
 es774,
 AV.list
 0
 4
 es777]
 [])
 fun
 r778 ↦
 Option.bind
 (ret1
 r778)
 fun
 v779 ↦
 Option.bind
 (AV.bool?
 v779)
 fun
 b780 ↦
 bif
 b780 then
 Option.bind
 (E
 cx
 (Key.fn
 28)
 [vi
 peer11,
 vi
 4]
 [])
 fun
 r781 ↦
 Option.bind
 (ret1
 r781)
 fun
 v782 ↦
 Option.bind
 (AV.int?
 IntKind.i64
 v782)
 fun
 n783 ↦
 Option.bind
 (E
 cx
 (Key.fn
 38)
 [AV.list
 0
 4
 es17,
 vi
 n783]
 [])
 fun
 r784 ↦
 Option.bind
 (ret1
 r784)
 fun
 v785 ↦
 Option.bind
 (AV.list?
 4
 v785)
 fun
 es786 ↦
 Option.bind
 (E
 cx
 (Key.fn
 28)
 [vi
 peer11,
 vi
 4]
 [])
 fun
 r787 ↦
 Option.bind
 (ret1
 r787)
 fun
 v788 ↦
 Option.bind
 (AV.int?
 IntKind.i64
 v788)
 fun
 n789 ↦
 Option.bind
 (E
 cx
 (Key.fn
 39)
 [AV.list
 0
 4
 es17,
 vi
 n789]
 [])
 fun
 r790 ↦
 Option.bind
 (ret1
 r790)
 fun
 v791 ↦
 Option.bind
 (AV.list?
 4
 v791)
 fun
 es792 ↦
 Option.bind
 (E
 cx
 (Key.fn
 31)
 [AV.list
 0
 4
 es786,
 AV.list
 0
 4
 es792]
 [])
 fun
 r793 ↦
 Option.bind
 (ret1
 r793)
 fun
 v794 ↦
 Option.bind
 (AV.bool?
 v794)
 fun
 b795 ↦
 bif
 b795 then
 some
 (Out.ret
 (vbool
 true),
 [])
 else
 some
 (Out.ret
 (vbool
 false),
 [])
 else
 some
 (Out.ret
 (vbool
 false),
 [])
 else
 some
 (Out.ret
 (vbool
 false),
 [])
 else
 some
 (Out.ret
 (vbool
 false),
 [])
 else
 some
 (Out.ret
 (vbool
 false),
 [])
 else
 some
 (Out.ret
 (vbool
 false),
 [])
 else
 some
 (Out.ret
 (vbool
 false),
 [])
 else
 some
 (Out.ret
 (vbool
 false),
 [])
 else
 some
 (Out.ret
 (vbool
 false),
 [])
 else
 some
 (Out.ret
 (vbool
 false),
 [])
 else
 some
 (Out.ret
 (vbool
 false),
 [])
 else
 some
 (Out.ret
 (vbool
 false),
 [])
 else
 Option.bind
 (nil?
 p172.snd)
 fun
 _ ↦
 bif
 n163 !=
 n171 then
 some
 (Out.ret
 (vbool
 false),
 [])
 else
 some
 (Out.ret
 (vbool
 false),
 [])
 else
 Option.bind
 (nil?
 p164.snd)
 fun
 _ ↦
 Option.bind
 (E
 cx
 (Key.fn
 35)
 [AV.list
 0
 4
 (List.drop
 0
 (List.take
 (Int.toNat
 (if
 40 <
 ((List.length
 wild0) : Int) then
 40
 else
 ((List.length
 wild0) : Int)))
 wild0))]
 [])
 fun
 r798 ↦
 Option.bind
 (ret1
 r798)
 fun
 v799 ↦
 Option.bind
 (AV.tup?
 v799)
 fun
 vs800 ↦
 Option.bind
 (uncons?
 vs800)
 fun
 p801 ↦
 Option.bind
 (AV.int?
 IntKind.i64
 p801.fst)
 fun
 n802 ↦
 Option.bind
 (uncons?
 p801.snd)
 fun
 p803 ↦
 Option.bind
 (AV.bool?
 p803.fst)
 fun
 b804 ↦
 bif
 b804 then
 Option.bind
 (nil?
 p803.snd)
 fun
 _ ↦
 bif
 n163 !=
 n802 then
 some
 (Out.ret
 (vbool
 false),
 [])
 else
 some
 (Out.ret
 (vbool
 false),
 [])
 else
 Option.bind
 (nil?
 p803.snd)
 fun
 _ ↦
 bif
 n163 !=
 n802 then
 some
 (Out.ret
 (vbool
 false),
 [])
 else
 Option.bind
 (E
 cx
 (Key.fn
 36)
 [AV.list
 0
 4
 (List.drop
 0
 (List.take
 (Int.toNat
 (if
 40 <
 ((List.length
 wild0) : Int) then
 40
 else
 ((List.length
 wild0) : Int)))
 wild0))]
 [])
 fun
 r807 ↦
 Option.bind
 (ret1
 r807)
 fun
 v808 ↦
 Option.bind
 (AV.bool?
 v808)
 fun
 b809 ↦
 bif
 b809 then
 Option.bind
 (E
 cx
 (Key.fn
 37)
 [AV.list
 0
 4
 (List.drop
 0
 (List.take
 (Int.toNat
 (if
 40 <
 ((List.length
 wild0) : Int) then
 40
 else
 ((List.length
 wild0) : Int)))
 wild0))]
 [])
 fun
 r810 ↦
 Option.bind
 (ret1
 r810)
 fun
 v811 ↦
 Option.bind
 (AV.bool?
 v811)
 fun
 b812 ↦
 bif
 b812 then
 Option.bind
 (E
 cx
 (Key.fn
 38)
 [AV.list
 0
 4
 (List.drop
 0
 (List.take
 (Int.toNat
 (if
 40 <
 ((List.length
 wild0) : Int) then
 40
 else
 ((List.length
 wild0) : Int)))
 wild0)),
 vi
 peer11]
 [])
 fun
 r813 ↦
 Option.bind
 (ret1
 r813)
 fun
 v814 ↦
 Option.bind
 (AV.list?
 4
 v814)
 fun
 es815 ↦
 Option.bind
 (E
 cx
 (Key.fn
 39)
 [AV.list
 0
 4
 (List.drop
 0
 (List.take
 (Int.toNat
 (if
 40 <
 ((List.length
 wild0) : Int) then
 40
 else
 ((List.length
 wild0) : Int)))
 wild0)),
 vi
 peer11]
 [])
 fun
 r816 ↦
 Option.bind
 (ret1
 r816)
 fun
 v817 ↦
 Option.bind
 (AV.list?
 4
 v817)
 fun
 es818 ↦
 Option.bind
 (E
 cx
 (Key.fn
 31)
 [AV.list
 0
 4
 es815,
 AV.list
 0
 4
 es818]
 [])
 fun
 r819 ↦
 Option.bind
 (ret1
 r819)
 fun
 v820 ↦
 Option.bind
 (AV.bool?
 v820)
 fun
 b821 ↦
 bif
 b821 then
 Option.bind
 (E
 cx
 (Key.fn
 28)
 [vi
 peer11,
 vi
 4]
 [])
 fun
 r822 ↦
 Option.bind
 (ret1
 r822)
 fun
 v823 ↦
 Option.bind
 (AV.int?
 IntKind.i64
 v823)
 fun
 n824 ↦
 Option.bind
 (E
 cx
 (Key.fn
 38)
 [AV.list
 0
 4
 (List.drop
 0
 (List.take
 (Int.toNat
 (if
 40 <
 ((List.length
 wild0) : Int) then
 40
 else
 ((List.length
 wild0) : Int)))
 wild0)),
 vi
 n824]
 [])
 fun
 r825 ↦
 Option.bind
 (ret1
 r825)
 fun
 v826 ↦
 Option.bind
 (AV.list?
 4
 v826)
 fun
 es827 ↦
 Option.bind
 (E
 cx
 (Key.fn
 28)
 [vi
 peer11,
 vi
 4]
 [])
 fun
 r828 ↦
 Option.bind
 (ret1
 r828)
 fun
 v829 ↦
 Option.bind
 (AV.int?
 IntKind.i64
 v829)
 fun
 n830 ↦
 Option.bind
 (E
 cx
 (Key.fn
 39)
 [AV.list
 0
 4
 (List.drop
 0
 (List.take
 (Int.toNat
 (if
 40 <
 ((List.length
 wild0) : Int) then
 40
 else
 ((List.length
 wild0) : Int)))
 wild0)),
 vi
 n830]
 [])
 fun
 r831 ↦
 Option.bind
 (ret1
 r831)
 fun
 v832 ↦
 Option.bind
 (AV.list?
 4
 v832)
 fun
 es833 ↦
 Option.bind
 (E
 cx
 (Key.fn
 31)
 [AV.list
 0
 4
 es827,
 AV.list
 0
 4
 es833]
 [])
 fun
 r834 ↦
 Option.bind
 (ret1
 r834)
 fun
 v835 ↦
 Option.bind
 (AV.bool?
 v835)
 fun
 b836 ↦
 bif
 b836 then
 Option.bind
 (E
 cx
 (Key.fn
 27)
 [AV.agg
 [vi
 k6,
 vi
 k7,
 vi
 k8]]
 [])
 fun
 r837 ↦
 Option.bind
 (ret1
 r837)
 fun
 v838 ↦
 Option.bind
 (AV.cells?
 v838)
 fun
 cs839 ↦
 Option.bind
 (uncons?
 cs839)
 fun
 p840 ↦
 Option.bind
 (AV.int?
 IntKind.i64
 p840.fst)
 fun
 n841 ↦
 Option.bind
 (uncons?
 p840.snd)
 fun
 p842 ↦
 Option.bind
 (AV.int?
 IntKind.i64
 p842.fst)
 fun
 n843 ↦
 Option.bind
 (uncons?
 p842.snd)
 fun
 p844 ↦
 Option.bind
 (AV.int?
 IntKind.i64
 p844.fst)
 fun
 n845 ↦
 Option.bind
 (uncons?
 p844.snd)
 fun
 p846 ↦
 Option.bind
 (AV.str?
 p846.fst)
 fun
 s847 ↦
 Option.bind
 (nil?
 p846.snd)
 fun
 _ ↦
 Option.bind
 (E
 cx
 (Key.fn
 28)
 [vi
 room9,
 vi
 35]
 [])
 fun
 r849 ↦
 Option.bind
 (ret1
 r849)
 fun
 v850 ↦
 Option.bind
 (AV.int?
 IntKind.i64
 v850)
 fun
 n851 ↦
 Option.bind
 (E
 cx
 (Key.fn
 29)
 [AV.list
 0
 4
 es17,
 vi
 room9,
 AV.agg
 [vi
 odd2,
 vi
 odd3,
 vi
 odd4,
 vs
 odd5]]
 [])
 fun
 r852 ↦
 Option.bind
 (ret1
 r852)
 fun
 v853 ↦
 Option.bind
 (AV.tup?
 v853)
 fun
 vs854 ↦
 Option.bind
 (uncons?
 vs854)
 fun
 p855 ↦
 Option.bind
 (AV.list?
 4
 p855.fst)
 fun
 es856 ↦
 Option.bind
 (uncons?
 p855.snd)
 fun
 p857 ↦
 Option.bind
 (AV.int?
 IntKind.i64
 p857.fst)
 fun
 n858 ↦
 Option.bind
 (nil?
 p857.snd)
 fun
 _ ↦
 Option.bind
 (E
 cx
 (Key.fn
 30)
 [AV.list
 0
 4
 es17,
 vi
 room9,
 AV.agg
 [vi
 odd2,
 vi
 odd3,
 vi
 odd4,
 vs
 odd5]]
 [])
 fun
 r860 ↦
 Option.bind
 (ret1
 r860)
 fun
 v861 ↦
 Option.bind
 (AV.tup?
 v861)
 fun
 vs862 ↦
 Option.bind
 (uncons?
 vs862)
 fun
 p863 ↦
 Option.bind
 (AV.list?
 4
 p863.fst)
 fun
 es864 ↦
 Option.bind
 (uncons?
 p863.snd)
 fun
 p865 ↦
 Option.bind
 (AV.int?
 IntKind.i64
 p865.fst)
 fun
 n866 ↦
 Option.bind
 (nil?
 p865.snd)
 fun
 _ ↦
 bif
 n858 !=
 n866 then
 some
 (Out.ret
 (vbool
 false),
 [])
 else
 Option.bind
 (E
 cx
 (Key.fn
 31)
 [AV.list
 0
 4
 es856,
 AV.list
 0
 4
 es864]
 [])
 fun
 r868 ↦
 Option.bind
 (ret1
 r868)
 fun
 v869 ↦
 Option.bind
 (AV.bool?
 v869)
 fun
 b870 ↦
 bif
 b870 then
 Option.bind
 (E
 cx
 (Key.fn
 29)
 [AV.list
 0
 4
 es17,
 vi
 n851,
 AV.agg
 [vi
 odd2,
 vi
 odd3,
 vi
 odd4,
 vs
 odd5]]
 [])
 fun
 r871 ↦
 Option.bind
 (ret1
 r871)
 fun
 v872 ↦
 Option.bind
 (AV.tup?
 v872)
 fun
 vs873 ↦
 Option.bind
 (uncons?
 vs873)
 fun
 p874 ↦
 Option.bind
 (AV.list?
 4
 p874.fst)
 fun
 es875 ↦
 Option.bind
 (uncons?
 p874.snd)
 fun
 p876 ↦
 Option.bind
 (AV.int?
 IntKind.i64
 p876.fst)
 fun
 n877 ↦
 Option.bind
 (nil?
 p876.snd)
 fun
 _ ↦
 Option.bind
 (E
 cx
 (Key.fn
 30)
 [AV.list
 0
 4
 es17,
 vi
 n851,
 AV.agg
 [vi
 odd2,
 vi
 odd3,
 vi
 odd4,
 vs
 odd5]]
 [])
 fun
 r879 ↦
 Option.bind
 (ret1
 r879)
 fun
 v880 ↦
 Option.bind
 (AV.tup?
 v880)
 fun
 vs881 ↦
 Option.bind
 (uncons?
 vs881)
 fun
 p882 ↦
 Option.bind
 (AV.list?
 4
 p882.fst)
 fun
 es883 ↦
 Option.bind
 (uncons?
 p882.snd)
 fun
 p884 ↦
 Option.bind
 (AV.int?
 IntKind.i64
 p884.fst)
 fun
 n885 ↦
 Option.bind
 (nil?
 p884.snd)
 fun
 _ ↦
 bif
 n877 !=
 n885 then
 some
 (Out.ret
 (vbool
 false),
 [])
 else
 Option.bind
 (E
 cx
 (Key.fn
 31)
 [AV.list
 0
 4
 es875,
 AV.list
 0
 4
 es883]
 [])
 fun
 r887 ↦
 Option.bind
 (ret1
 r887)
 fun
 v888 ↦
 Option.bind
 (AV.bool?
 v888)
 fun
 b889 ↦
 bif
 b889 then
 Option.bind
 (E
 cx
 (Key.fn
 28)
 [vi
 room9,
 vi
 35]
 [])
 fun
 r890 ↦
 Option.bind
 (ret1
 r890)
 fun
 v891 ↦
 Option.bind
 (AV.int?
 IntKind.i64
 v891)
 fun
 n892 ↦
 Option.bind
 (E
 cx
 (Key.fn
 29)
 [AV.list
 0
 4
 es17,
 vi
 room9,
 AV.agg
 [vi
 n841,
 vi
 n843,
 vi
 n845,
 vs
 s847]]
 [])
 fun
 r893 ↦
 Option.bind
 (ret1
 r893)
 fun
 v894 ↦
 Option.bind
 (AV.tup?
 v894)
 fun
 vs895 ↦
 Option.bind
 (uncons?
 vs895)
 fun
 p896 ↦
 Option.bind
 (AV.list?
 4
 p896.fst)
 fun
 es897 ↦
 Option.bind
 (uncons?
 p896.snd)
 fun
 p898 ↦
 Option.bind
 (AV.int?
 IntKind.i64
 p898.fst)
 fun
 n899 ↦
 Option.bind
 (nil?
 p898.snd)
 fun
 _ ↦
 Option.bind
 (E
 cx
 (Key.fn
 30)
 [AV.list
 0
 4
 es17,
 vi
 room9,
 AV.agg
 [vi
 n841,
 vi
 n843,
 vi
 n845,
 vs
 s847]]
 [])
 fun
 r901 ↦
 Option.bind
 (ret1
 r901)
 fun
 v902 ↦
 Option.bind
 (AV.tup?
 v902)
 fun
 vs903 ↦
 Option.bind
 (uncons?
 vs903)
 fun
 p904 ↦
 Option.bind
 (AV.list?
 4
 p904.fst)
 fun
 es905 ↦
 Option.bind
 (uncons?
 p904.snd)
 fun
 p906 ↦
 Option.bind
 (AV.int?
 IntKind.i64
 p906.fst)
 fun
 n907 ↦
 Option.bind
 (nil?
 p906.snd)
 fun
 _ ↦
 bif
 n899 !=
 n907 then
 some
 (Out.ret
 (vbool
 false),
 [])
 else
 Option.bind
 (E
 cx
 (Key.fn
 31)
 [AV.list
 0
 4
 es897,
 AV.list
 0
 4
 es905]
 [])
 fun
 r909 ↦
 Option.bind
 (ret1
 r909)
 fun
 v910 ↦
 Option.bind
 (AV.bool?
 v910)
 fun
 b911 ↦
 bif
 b911 then
 Option.bind
 (E
 cx
 (Key.fn
 29)
 [AV.list
 0
 4
 es17,
 vi
 n892,
 AV.agg
 [vi
 n841,
 vi
 n843,
 vi
 n845,
 vs
 s847]]
 [])
 fun
 r912 ↦
 Option.bind
 (ret1
 r912)
 fun
 v913 ↦
 Option.bind
 (AV.tup?
 v913)
 fun
 vs914 ↦
 Option.bind
 (uncons?
 vs914)
 fun
 p915 ↦
 Option.bind
 (AV.list?
 4
 p915.fst)
 fun
 es916 ↦
 Option.bind
 (uncons?
 p915.snd)
 fun
 p917 ↦
 Option.bind
 (AV.int?
 IntKind.i64
 p917.fst)
 fun
 n918 ↦
 Option.bind
 (nil?
 p917.snd)
 fun
 _ ↦
 Option.bind
 (E
 cx
 (Key.fn
 30)
 [AV.list
 0
 4
 es17,
 vi
 n892,
 AV.agg
 [vi
 n841,
 vi
 n843,
 vi
 n845,
 vs
 s847]]
 [])
 fun
 r920 ↦
 Option.bind
 (ret1
 r920)
 fun
 v921 ↦
 Option.bind
 (AV.tup?
 v921)
 fun
 vs922 ↦
 Option.bind
 (uncons?
 vs922)
 fun
 p923 ↦
 Option.bind
 (AV.list?
 4
 p923.fst)
 fun
 es924 ↦
 Option.bind
 (uncons?
 p923.snd)
 fun
 p925 ↦
 Option.bind
 (AV.int?
 IntKind.i64
 p925.fst)
 fun
 n926 ↦
 Option.bind
 (nil?
 p925.snd)
 fun
 _ ↦
 bif
 n918 !=
 n926 then
 some
 (Out.ret
 (vbool
 false),
 [])
 else
 Option.bind
 (E
 cx
 (Key.fn
 31)
 [AV.list
 0
 4
 es916,
 AV.list
 0
 4
 es924]
 [])
 fun
 r928 ↦
 Option.bind
 (ret1
 r928)
 fun
 v929 ↦
 Option.bind
 (AV.bool?
 v929)
 fun
 b930 ↦
 bif
 b930 then
 Option.bind
 (E
 cx
 (Key.fn
 28)
 [vi
 tick10,
 vi
 8]
 [])
 fun
 r931 ↦
 Option.bind
 (ret1
 r931)
 fun
 v932 ↦
 Option.bind
 (AV.int?
 IntKind.i64
 v932)
 fun
 n933 ↦
 Option.bind
 (E
 cx
 (Key.fn
 32)
 [AV.list
 0
 4
 es17,
 vi
 tick10]
 [])
 fun
 r934 ↦
 Option.bind
 (ret1
 r934)
 fun
 v935 ↦
 Option.bind
 (AV.tup?
 v935)
 fun
 vs936 ↦
 Option.bind
 (uncons?
 vs936)
 fun
 p937 ↦
 Option.bind
 (AV.list?
 4
 p937.fst)
 fun
 es938 ↦
 Option.bind
 (uncons?
 p937.snd)
 fun
 p939 ↦
 Option.bind
 (AV.list?
 4
 p939.fst)
 fun
 es940 ↦
 Option.bind
 (nil?
 p939.snd)
 fun
 _ ↦
 Option.bind
 (E
 cx
 (Key.fn
 33)
 [AV.list
 0
 4
 es17,
 vi
 tick10]
 [])
 fun
 r942 ↦
 Option.bind
 (ret1
 r942)
 fun
 v943 ↦
 Option.bind
 (AV.tup?
 v943)
 fun
 vs944 ↦
 Option.bind
 (uncons?
 vs944)
 fun
 p945 ↦
 Option.bind
 (AV.list?
 4
 p945.fst)
 fun
 es946 ↦
 Option.bind
 (uncons?
 p945.snd)
 fun
 p947 ↦
 Option.bind
 (AV.list?
 4
 p947.fst)
 fun
 es948 ↦
 Option.bind
 (nil?
 p947.snd)
 fun
 _ ↦
 Option.bind
 (E
 cx
 (Key.fn
 31)
 [AV.list
 0
 4
 es938,
 AV.list
 0
 4
 es946]
 [])
 fun
 r950 ↦
 Option.bind
 (ret1
 r950)
 fun
 v951 ↦
 Option.bind
 (AV.bool?
 v951)
 fun
 b952 ↦
 bif
 b952 then
 Option.bind
 (E
 cx
 (Key.fn
 31)
 [AV.list
 0
 4
 es940,
 AV.list
 0
 4
 es948]
 [])
 fun
 r953 ↦
 Option.bind
 (ret1
 r953)
 fun
 v954 ↦
 Option.bind
 (AV.bool?
 v954)
 fun
 b955 ↦
 bif
 b955 then
 Option.bind
 (E
 cx
 (Key.fn
 32)
 [AV.list
 0
 4
 es17,
 vi
 n933]
 [])
 fun
 r956 ↦
 Option.bind
 (ret1
 r956)
 fun
 v957 ↦
 Option.bind
 (AV.tup?
 v957)
 fun
 vs958 ↦
 Option.bind
 (uncons?
 vs958)
 fun
 p959 ↦
 Option.bind
 (AV.list?
 4
 p959.fst)
 fun
 es960 ↦
 Option.bind
 (uncons?
 p959.snd)
 fun
 p961 ↦
 Option.bind
 (AV.list?
 4
 p961.fst)
 fun
 es962 ↦
 Option.bind
 (nil?
 p961.snd)
 fun
 _ ↦
 Option.bind
 (E
 cx
 (Key.fn
 33)
 [AV.list
 0
 4
 es17,
 vi
 n933]
 [])
 fun
 r964 ↦
 Option.bind
 (ret1
 r964)
 fun
 v965 ↦
 Option.bind
 (AV.tup?
 v965)
 fun
 vs966 ↦
 Option.bind
 (uncons?
 vs966)
 fun
 p967 ↦
 Option.bind
 (AV.list?
 4
 p967.fst)
 fun
 es968 ↦
 Option.bind
 (uncons?
 p967.snd)
 fun
 p969 ↦
 Option.bind
 (AV.list?
 4
 p969.fst)
 fun
 es970 ↦
 Option.bind
 (nil?
 p969.snd)
 fun
 _ ↦
 Option.bind
 (E
 cx
 (Key.fn
 31)
 [AV.list
 0
 4
 es960,
 AV.list
 0
 4
 es968]
 [])
 fun
 r972 ↦
 Option.bind
 (ret1
 r972)
 fun
 v973 ↦
 Option.bind
 (AV.bool?
 v973)
 fun
 b974 ↦
 bif
 b974 then
 Option.bind
 (E
 cx
 (Key.fn
 31)
 [AV.list
 0
 4
 es962,
 AV.list
 0
 4
 es970]
 [])
 fun
 r975 ↦
 Option.bind
 (ret1
 r975)
 fun
 v976 ↦
 Option.bind
 (AV.bool?
 v976)
 fun
 b977 ↦
 bif
 b977 then
 Option.bind
 (E
 cx
 (Key.fn
 34)
 [AV.list
 0
 4
 es17]
 [])
 fun
 r978 ↦
 Option.bind
 (ret1
 r978)
 fun
 v979 ↦
 Option.bind
 (AV.tup?
 v979)
 fun
 vs980 ↦
 Option.bind
 (uncons?
 vs980)
 fun
 p981 ↦
 Option.bind
 (AV.int?
 IntKind.i64
 p981.fst)
 fun
 n982 ↦
 Option.bind
 (uncons?
 p981.snd)
 fun
 p983 ↦
 Option.bind
 (AV.bool?
 p983.fst)
 fun
 b984 ↦
 bif
 b984 then
 Option.bind
 (nil?
 p983.snd)
 fun
 _ ↦
 Option.bind
 (E
 cx
 (Key.fn
 35)
 [AV.list
 0
 4
 es17]
 [])
 fun
 r986 ↦
 Option.bind
 (ret1
 r986)
 fun
 v987 ↦
 Option.bind
 (AV.tup?
 v987)
 fun
 vs988 ↦
 Option.bind
 (uncons?
 vs988)
 fun
 p989 ↦
 Option.bind
 (AV.int?
 IntKind.i64
 p989.fst)
 fun
 n990 ↦
 Option.bind
 (uncons?
 p989.snd)
 fun
 p991 ↦
 Option.bind
 (AV.bool?
 p991.fst)
 fun
 b992 ↦
 bif
 b992 then
 Option.bind
 (nil?
 p991.snd)
 fun
 _ ↦
 bif
 n982 !=
 n990 then
 some
 (Out.ret
 (vbool
 false),
 [])
 else
 Option.bind
 (E
 cx
 (Key.fn
 36)
 [AV.list
 0
 4
 es17]
 [])
 fun
 r994 ↦
 Option.bind
 (ret1
 r994)
 fun
 v995 ↦
 Option.bind
 (AV.bool?
 v995)
 fun
 b996 ↦
 bif
 b996 then
 Option.bind
 (E
 cx
 (Key.fn
 37)
 [AV.list
 0
 4
 es17]
 [])
 fun
 r997 ↦
 Option.bind
 (ret1
 r997)
 fun
 v998 ↦
 Option.bind
 (AV.bool?
 v998)
 fun
 b999 ↦
 bif
 b999 then
 Option.bind
 (E
 cx
 (Key.fn
 38)
 [AV.list
 0
 4
 es17,
 vi
 peer11]
 [])
 fun
 r1000 ↦
 Option.bind
 (ret1
 r1000)
 fun
 v1001 ↦
 Option.bind
 (AV.list?
 4
 v1001)
 fun
 es1002 ↦
 Option.bind
 (E
 cx
 (Key.fn
 39)
 [AV.list
 0
 4
 es17,
 vi
 peer11]
 [])
 fun
 r1003 ↦
 Option.bind
 (ret1
 r1003)
 fun
 v1004 ↦
 Option.bind
 (AV.list?
 4
 v1004)
 fun
 es1005 ↦
 Option.bind
 (E
 cx
 (Key.fn
 31)
 [AV.list
 0
 4
 es1002,
 AV.list
 0
 4
 es1005]
 [])
 fun
 r1006 ↦
 Option.bind
 (ret1
 r1006)
 fun
 v1007 ↦
 Option.bind
 (AV.bool?
 v1007)
 fun
 b1008 ↦
 bif
 b1008 then
 Option.bind
 (E
 cx
 (Key.fn
 28)
 [vi
 peer11,
 vi
 4]
 [])
 fun
 r1009 ↦
 Option.bind
 (ret1
 r1009)
 fun
 v1010 ↦
 Option.bind
 (AV.int?
 IntKind.i64
 v1010)
 fun
 n1011 ↦
 Option.bind
 (E
 cx
 (Key.fn
 38)
 [AV.list
 0
 4
 es17,
 vi
 n1011]
 [])
 fun
 r1012 ↦
 Option.bind
 (ret1
 r1012)
 fun
 v1013 ↦
 Option.bind
 (AV.list?
 4
 v1013)
 fun
 es1014 ↦
 Option.bind
 (E
 cx
 (Key.fn
 28)
 [vi
 peer11,
 vi
 4]
 [])
 fun
 r1015 ↦
 Option.bind
 (ret1
 r1015)
 fun
 v1016 ↦
 Option.bind
 (AV.int?
 IntKind.i64
 v1016)
 fun
 n1017 ↦
 Option.bind
 (E
 cx
 (Key.fn
 39)
 [AV.list
 0
 4
 es17,
 vi
 n1017]
 [])
 fun
 r1018 ↦
 Option.bind
 (ret1
 r1018)
 fun
 v1019 ↦
 Option.bind
 (AV.list?
 4
 v1019)
 fun
 es1020 ↦
 Option.bind
 (E
 cx
 (Key.fn
 31)
 [AV.list
 0
 4
 es1014,
 AV.list
 0
 4
 es1020]
 [])
 fun
 r1021 ↦
 Option.bind
 (ret1
 r1021)
 fun
 v1022 ↦
 Option.bind
 (AV.bool?
 v1022)
 fun
 b1023 ↦
 bif
 b1023 then
 some
 (Out.ret
 (vbool
 true),
 [])
 else
 some
 (Out.ret
 (vbool
 false),
 [])
 else
 some
 (Out.ret
 (vbool
 false),
 [])
 else
 some
 (Out.ret
 (vbool
 false),
 [])
 else
 Option.bind
 (E
 cx
 (Key.fn
 37)
 [AV.list
 0
 4
 es17]
 [])
 fun
 r1024 ↦
 Option.bind
 (ret1
 r1024)
 fun
 v1025 ↦
 Option.bind
 (AV.bool?
 v1025)
 fun
 b1026 ↦
 bif
 b1026 then
 some
 (Out.ret
 (vbool
 false),
 [])
 else
 Option.bind
 (E
 cx
 (Key.fn
 38)
 [AV.list
 0
 4
 es17,
 vi
 peer11]
 [])
 fun
 r1027 ↦
 Option.bind
 (ret1
 r1027)
 fun
 v1028 ↦
 Option.bind
 (AV.list?
 4
 v1028)
 fun
 es1029 ↦
 Option.bind
 (E
 cx
 (Key.fn
 39)
 [AV.list
 0
 4
 es17,
 vi
 peer11]
 [])
 fun
 r1030 ↦
 Option.bind
 (ret1
 r1030)
 fun
 v1031 ↦
 Option.bind
 (AV.list?
 4
 v1031)
 fun
 es1032 ↦
 Option.bind
 (E
 cx
 (Key.fn
 31)
 [AV.list
 0
 4
 es1029,
 AV.list
 0
 4
 es1032]
 [])
 fun
 r1033 ↦
 Option.bind
 (ret1
 r1033)
 fun
 v1034 ↦
 Option.bind
 (AV.bool?
 v1034)
 fun
 b1035 ↦
 bif
 b1035 then
 Option.bind
 (E
 cx
 (Key.fn
 28)
 [vi
 peer11,
 vi
 4]
 [])
 fun
 r1036 ↦
 Option.bind
 (ret1
 r1036)
 fun
 v1037 ↦
 Option.bind
 (AV.int?
 IntKind.i64
 v1037)
 fun
 n1038 ↦
 Option.bind
 (E
 cx
 (Key.fn
 38)
 [AV.list
 0
 4
 es17,
 vi
 n1038]
 [])
 fun
 r1039 ↦
 Option.bind
 (ret1
 r1039)
 fun
 v1040 ↦
 Option.bind
 (AV.list?
 4
 v1040)
 fun
 es1041 ↦
 Option.bind
 (E
 cx
 (Key.fn
 28)
 [vi
 peer11,
 vi
 4]
 [])
 fun
 r1042 ↦
 Option.bind
 (ret1
 r1042)
 fun
 v1043 ↦
 Option.bind
 (AV.int?
 IntKind.i64
 v1043)
 fun
 n1044 ↦
 Option.bind
 (E
 cx
 (Key.fn
 39)
 [AV.list
 0
 4
 es17,
 vi
 n1044]
 [])
 fun
 r1045 ↦
 Option.bind
 (ret1
 r1045)
 fun
 v1046 ↦
 Option.bind
 (AV.list?
 4
 v1046)
 fun
 es1047 ↦
 Option.bind
 (E
 cx
 (Key.fn
 31)
 [AV.list
 0
 4
 es1041,
 AV.list
 0
 4
 es1047]
 [])
 fun
 r1048 ↦
 Option.bind
 (ret1
 r1048)
 fun
 v1049 ↦
 Option.bind
 (AV.bool?
 v1049)
 fun
 b1050 ↦
 bif
 b1050 then
 some
 (Out.ret
 (vbool
 true),
 [])
 else
 some
 (Out.ret
 (vbool
 false),
 [])
 else
 some
 (Out.ret
 (vbool
 false),
 [])
 else
 Option.bind
 (nil?
 p991.snd)
 fun
 _ ↦
 bif
 n982 !=
 n990 then
 some
 (Out.ret
 (vbool
 false),
 [])
 else
 some
 (Out.ret
 (vbool
 false),
 [])
 else
 Option.bind
 (nil?
 p983.snd)
 fun
 _ ↦
 Option.bind
 (E
 cx
 (Key.fn
 35)
 [AV.list
 0
 4
 es17]
 [])
 fun
 r1053 ↦
 Option.bind
 (ret1
 r1053)
 fun
 v1054 ↦
 Option.bind
 (AV.tup?
 v1054)
 fun
 vs1055 ↦
 Option.bind
 (uncons?
 vs1055)
 fun
 p1056 ↦
 Option.bind
 (AV.int?
 IntKind.i64
 p1056.fst)
 fun
 n1057 ↦
 Option.bind
 (uncons?
 p1056.snd)
 fun
 p1058 ↦
 Option.bind
 (AV.bool?
 p1058.fst)
 fun
 b1059 ↦
 bif
 b1059 then
 Option.bind
 (nil?
 p1058.snd)
 fun
 _ ↦
 bif
 n982 !=
 n1057 then
 some
 (Out.ret
 (vbool
 false),
 [])
 else
 some
 (Out.ret
 (vbool
 false),
 [])
 else
 Option.bind
 (nil?
 p1058.snd)
 fun
 _ ↦
 bif
 n982 !=
 n1057 then
 some
 (Out.ret
 (vbool
 false),
 [])
 else
 Option.bind
 (E
 cx
 (Key.fn
 36)
 [AV.list
 0
 4
 es17]
 [])
 fun
 r1062 ↦
 Option.bind
 (ret1
 r1062)
 fun
 v1063 ↦
 Option.bind
 (AV.bool?
 v1063)
 fun
 b1064 ↦
 bif
 b1064 then
 Option.bind
 (E
 cx
 (Key.fn
 37)
 [AV.list
 0
 4
 es17]
 [])
 fun
 r1065 ↦
 Option.bind
 (ret1
 r1065)
 fun
 v1066 ↦
 Option.bind
 (AV.bool?
 v1066)
 fun
 b1067 ↦
 bif
 b1067 then
 Option.bind
 (E
 cx
 (Key.fn
 38)
 [AV.list
 0
 4
 es17,
 vi
 peer11]
 [])
 fun
 r1068 ↦
 Option.bind
 (ret1
 r1068)
 fun
 v1069 ↦
 Option.bind
 (AV.list?
 4
 v1069)
 fun
 es1070 ↦
 Option.bind
 (E
 cx
 (Key.fn
 39)
 [AV.list
 0
 4
 es17,
 vi
 peer11]
 [])
 fun
 r1071 ↦
 Option.bind
 (ret1
 r1071)
 fun
 v1072 ↦
 Option.bind
 (AV.list?
 4
 v1072)
 fun
 es1073 ↦
 Option.bind
 (E
 cx
 (Key.fn
 31)
 [AV.list
 0
 4
 es1070,
 AV.list
 0
 4
 es1073]
 [])
 fun
 r1074 ↦
 Option.bind
 (ret1
 r1074)
 fun
 v1075 ↦
 Option.bind
 (AV.bool?
 v1075)
 fun
 b1076 ↦
 bif
 b1076 then
 Option.bind
 (E
 cx
 (Key.fn
 28)
 [vi
 peer11,
 vi
 4]
 [])
 fun
 r1077 ↦
 Option.bind
 (ret1
 r1077)
 fun
 v1078 ↦
 Option.bind
 (AV.int?
 IntKind.i64
 v1078)
 fun
 n1079 ↦
 Option.bind
 (E
 cx
 (Key.fn
 38)
 [AV.list
 0
 4
 es17,
 vi
 n1079]
 [])
 fun
 r1080 ↦
 Option.bind
 (ret1
 r1080)
 fun
 v1081 ↦
 Option.bind
 (AV.list?
 4
 v1081)
 fun
 es1082 ↦
 Option.bind
 (E
 cx
 (Key.fn
 28)
 [vi
 peer11,
 vi
 4]
 [])
 fun
 r1083 ↦
 Option.bind
 (ret1
 r1083)
 fun
 v1084 ↦
 Option.bind
 (AV.int?
 IntKind.i64
 v1084)
 fun
 n1085 ↦
 Option.bind
 (E
 cx
 (Key.fn
 39)
 [AV.list
 0
 4
 es17,
 vi
 n1085]
 [])
 fun
 r1086 ↦
 Option.bind
 (ret1
 r1086)
 fun
 v1087 ↦
 Option.bind
 (AV.list?
 4
 v1087)
 fun
 es1088 ↦
 Option.bind
 (E
 cx
 (Key.fn
 31)
 [AV.list
 0
 4
 es1082,
 AV.list
 0
 4
 es1088]
 [])
 fun
 r1089 ↦
 Option.bind
 (ret1
 r1089)
 fun
 v1090 ↦
 Option.bind
 (AV.bool?
 v1090)
 fun
 b1091 ↦
 bif
 b1091 then
 some
 (Out.ret
 (vbool
 true),
 [])
 else
 some
 (Out.ret
 (vbool
 false),
 [])
 else
 some
 (Out.ret
 (vbool
 false),
 [])
 else
 some
 (Out.ret
 (vbool
 false),
 [])
 else
 Option.bind
 (E
 cx
 (Key.fn
 37)
 [AV.list
 0
 4
 es17]
 [])
 fun
 r1092 ↦
 Option.bind
 (ret1
 r1092)
 fun
 v1093 ↦
 Option.bind
 (AV.bool?
 v1093)
 fun
 b1094 ↦
 bif
 b1094 then
 some
 (Out.ret
 (vbool
 false),
 [])
 else
 Option.bind
 (E
 cx
 (Key.fn
 38)
 [AV.list
 0
 4
 es17,
 vi
 peer11]
 [])
 fun
 r1095 ↦
 Option.bind
 (ret1
 r1095)
 fun
 v1096 ↦
 Option.bind
 (AV.list?
 4
 v1096)
 fun
 es1097 ↦
 Option.bind
 (E
 cx
 (Key.fn
 39)
 [AV.list
 0
 4
 es17,
 vi
 peer11]
 [])
 fun
 r1098 ↦
 Option.bind
 (ret1
 r1098)
 fun
 v1099 ↦
 Option.bind
 (AV.list?
 4
 v1099)
 fun
 es1100 ↦
 Option.bind
 (E
 cx
 (Key.fn
 31)
 [AV.list
 0
 4
 es1097,
 AV.list
 0
 4
 es1100]
 [])
 fun
 r1101 ↦
 Option.bind
 (ret1
 r1101)
 fun
 v1102 ↦
 Option.bind
 (AV.bool?
 v1102)
 fun
 b1103 ↦
 bif
 b1103 then
 Option.bind
 (E
 cx
 (Key.fn
 28)
 [vi
 peer11,
 vi
 4]
 [])
 fun
 r1104 ↦
 Option.bind
 (ret1
 r1104)
 fun
 v1105 ↦
 Option.bind
 (AV.int?
 IntKind.i64
 v1105)
 fun
 n1106 ↦
 Option.bind
 (E
 cx
 (Key.fn
 38)
 [AV.list
 0
 4
 es17,
 vi
 n1106]
 [])
 fun
 r1107 ↦
 Option.bind
 (ret1
 r1107)
 fun
 v1108 ↦
 Option.bind
 (AV.list?
 4
 v1108)
 fun
 es1109 ↦
 Option.bind
 (E
 cx
 (Key.fn
 28)
 [vi
 peer11,
 vi
 4]
 [])
 fun
 r1110 ↦
 Option.bind
 (ret1
 r1110)
 fun
 v1111 ↦
 Option.bind
 (AV.int?
 IntKind.i64
 v1111)
 fun
 n1112 ↦
 Option.bind
 (E
 cx
 (Key.fn
 39)
 [AV.list
 0
 4
 es17,
 vi
 n1112]
 [])
 fun
 r1113 ↦
 Option.bind
 (ret1
 r1113)
 fun
 v1114 ↦
 Option.bind
 (AV.list?
 4
 v1114)
 fun
 es1115 ↦
 Option.bind
 (E
 cx
 (Key.fn
 31)
 [AV.list
 0
 4
 es1109,
 AV.list
 0
 4
 es1115]
 [])
 fun
 r1116 ↦
 Option.bind
 (ret1
 r1116)
 fun
 v1117 ↦
 Option.bind
 (AV.bool?
 v1117)
 fun
 b1118 ↦
 bif
 b1118 then
 some
 (Out.ret
 (vbool
 true),
 [])
 else
 some
 (Out.ret
 (vbool
 false),
 [])
 else
 some
 (Out.ret
 (vbool
 false),
 [])
 else
 some
 (Out.ret
 (vbool
 false),
 [])
 else
 some
 (Out.ret
 (vbool
 false),
 [])
 else
 some
 (Out.ret
 (vbool
 false),
 [])
 else
 some
 (Out.ret
 (vbool
 false),
 [])
 else
 some
 (Out.ret
 (vbool
 false),
 [])
 else
 some
 (Out.ret
 (vbool
 false),
 [])
 else
 some
 (Out.ret
 (vbool
 false),
 [])
 else
 some
 (Out.ret
 (vbool
 false),
 [])
 else
 some
 (Out.ret
 (vbool
 false),
 [])
 else
 some
 (Out.ret
 (vbool
 false),
 [])
 else
 some
 (Out.ret
 (vbool
 false),
 [])
 else
 Option.bind
 (E
 cx
 (Key.fn
 37)
 [AV.list
 0
 4
 (List.drop
 0
 (List.take
 (Int.toNat
 (if
 40 <
 ((List.length
 wild0) : Int) then
 40
 else
 ((List.length
 wild0) : Int)))
 wild0))]
 [])
 fun
 r1119 ↦
 Option.bind
 (ret1
 r1119)
 fun
 v1120 ↦
 Option.bind
 (AV.bool?
 v1120)
 fun
 b1121 ↦
 bif
 b1121 then
 some
 (Out.ret
 (vbool
 false),
 [])
 else
 Option.bind
 (E
 cx
 (Key.fn
 38)
 [AV.list
 0
 4
 (List.drop
 0
 (List.take
 (Int.toNat
 (if
 40 <
 ((List.length
 wild0) : Int) then
 40
 else
 ((List.length
 wild0) : Int)))
 wild0)),
 vi
 peer11]
 [])
 fun
 r1122 ↦
 Option.bind
 (ret1
 r1122)
 fun
 v1123 ↦
 Option.bind
 (AV.list?
 4
 v1123)
 fun
 es1124 ↦
 Option.bind
 (E
 cx
 (Key.fn
 39)
 [AV.list
 0
 4
 (List.drop
 0
 (List.take
 (Int.toNat
 (if
 40 <
 ((List.length
 wild0) : Int) then
 40
 else
 ((List.length
 wild0) : Int)))
 wild0)),
 vi
 peer11]
 [])
 fun
 r1125 ↦
 Option.bind
 (ret1
 r1125)
 fun
 v1126 ↦
 Option.bind
 (AV.list?
 4
 v1126)
 fun
 es1127 ↦
 Option.bind
 (E
 cx
 (Key.fn
 31)
 [AV.list
 0
 4
 es1124,
 AV.list
 0
 4
 es1127]
 [])
 fun
 r1128 ↦
 Option.bind
 (ret1
 r1128)
 fun
 v1129 ↦
 Option.bind
 (AV.bool?
 v1129)
 fun
 b1130 ↦
 bif
 b1130 then
 Option.bind
 (E
 cx
 (Key.fn
 28)
 [vi
 peer11,
 vi
 4]
 [])
 fun
 r1131 ↦
 Option.bind
 (ret1
 r1131)
 fun
 v1132 ↦
 Option.bind
 (AV.int?
 IntKind.i64
 v1132)
 fun
 n1133 ↦
 Option.bind
 (E
 cx
 (Key.fn
 38)
 [AV.list
 0
 4
 (List.drop
 0
 (List.take
 (Int.toNat
 (if
 40 <
 ((List.length
 wild0) : Int) then
 40
 else
 ((List.length
 wild0) : Int)))
 wild0)),
 vi
 n1133]
 [])
 fun
 r1134 ↦
 Option.bind
 (ret1
 r1134)
 fun
 v1135 ↦
 Option.bind
 (AV.list?
 4
 v1135)
 fun
 es1136 ↦
 Option.bind
 (E
 cx
 (Key.fn
 28)
 [vi
 peer11,
 vi
 4]
 [])
 fun
 r1137 ↦
 Option.bind
 (ret1
 r1137)
 fun
 v1138 ↦
 Option.bind
 (AV.int?
 IntKind.i64
 v1138)
 fun
 n1139 ↦
 Option.bind
 (E
 cx
 (Key.fn
 39)
 [AV.list
 0
 4
 (List.drop
 0
 (List.take
 (Int.toNat
 (if
 40 <
 ((List.length
 wild0) : Int) then
 40
 else
 ((List.length
 wild0) : Int)))
 wild0)),
 vi
 n1139]
 [])
 fun
 r1140 ↦
 Option.bind
 (ret1
 r1140)
 fun
 v1141 ↦
 Option.bind
 (AV.list?
 4
 v1141)
 fun
 es1142 ↦
 Option.bind
 (E
 cx
 (Key.fn
 31)
 [AV.list
 0
 4
 es1136,
 AV.list
 0
 4
 es1142]
 [])
 fun
 r1143 ↦
 Option.bind
 (ret1
 r1143)
 fun
 v1144 ↦
 Option.bind
 (AV.bool?
 v1144)
 fun
 b1145 ↦
 bif
 b1145 then
 Option.bind
 (E
 cx
 (Key.fn
 27)
 [AV.agg
 [vi
 k6,
 vi
 k7,
 vi
 k8]]
 [])
 fun
 r1146 ↦
 Option.bind
 (ret1
 r1146)
 fun
 v1147 ↦
 Option.bind
 (AV.cells?
 v1147)
 fun
 cs1148 ↦
 Option.bind
 (uncons?
 cs1148)
 fun
 p1149 ↦
 Option.bind
 (AV.int?
 IntKind.i64
 p1149.fst)
 fun
 n1150 ↦
 Option.bind
 (uncons?
 p1149.snd)
 fun
 p1151 ↦
 Option.bind
 (AV.int?
 IntKind.i64
 p1151.fst)
 fun
 n1152 ↦
 Option.bind
 (uncons?
 p1151.snd)
 fun
 p1153 ↦
 Option.bind
 (AV.int?
 IntKind.i64
 p1153.fst)
 fun
 n1154 ↦
 Option.bind
 (uncons?
 p1153.snd)
 fun
 p1155 ↦
 Option.bind
 (AV.str?
 p1155.fst)
 fun
 s1156 ↦
 Option.bind
 (nil?
 p1155.snd)
 fun
 _ ↦
 Option.bind
 (E
 cx
 (Key.fn
 28)
 [vi
 room9,
 vi
 35]
 [])
 fun
 r1158 ↦
 Option.bind
 (ret1
 r1158)
 fun
 v1159 ↦
 Option.bind
 (AV.int?
 IntKind.i64
 v1159)
 fun
 n1160 ↦
 Option.bind
 (E
 cx
 (Key.fn
 29)
 [AV.list
 0
 4
 es17,
 vi
 room9,
 AV.agg
 [vi
 odd2,
 vi
 odd3,
 vi
 odd4,
 vs
 odd5]]
 [])
 fun
 r1161 ↦
 Option.bind
 (ret1
 r1161)
 fun
 v1162 ↦
 Option.bind
 (AV.tup?
 v1162)
 fun
 vs1163 ↦
 Option.bind
 (uncons?
 vs1163)
 fun
 p1164 ↦
 Option.bind
 (AV.list?
 4
 p1164.fst)
 fun
 es1165 ↦
 Option.bind
 (uncons?
 p1164.snd)
 fun
 p1166 ↦
 Option.bind
 (AV.int?
 IntKind.i64
 p1166.fst)
 fun
 n1167 ↦
 Option.bind
 (nil?
 p1166.snd)
 fun
 _ ↦
 Option.bind
 (E
 cx
 (Key.fn
 30)
 [AV.list
 0
 4
 es17,
 vi
 room9,
 AV.agg
 [vi
 odd2,
 vi
 odd3,
 vi
 odd4,
 vs
 odd5]]
 [])
 fun
 r1169 ↦
 Option.bind
 (ret1
 r1169)
 fun
 v1170 ↦
 Option.bind
 (AV.tup?
 v1170)
 fun
 vs1171 ↦
 Option.bind
 (uncons?
 vs1171)
 fun
 p1172 ↦
 Option.bind
 (AV.list?
 4
 p1172.fst)
 fun
 es1173 ↦
 Option.bind
 (uncons?
 p1172.snd)
 fun
 p1174 ↦
 Option.bind
 (AV.int?
 IntKind.i64
 p1174.fst)
 fun
 n1175 ↦
 Option.bind
 (nil?
 p1174.snd)
 fun
 _ ↦
 bif
 n1167 !=
 n1175 then
 some
 (Out.ret
 (vbool
 false),
 [])
 else
 Option.bind
 (E
 cx
 (Key.fn
 31)
 [AV.list
 0
 4
 es1165,
 AV.list
 0
 4
 es1173]
 [])
 fun
 r1177 ↦
 Option.bind
 (ret1
 r1177)
 fun
 v1178 ↦
 Option.bind
 (AV.bool?
 v1178)
 fun
 b1179 ↦
 bif
 b1179 then
 Option.bind
 (E
 cx
 (Key.fn
 29)
 [AV.list
 0
 4
 es17,
 vi
 n1160,
 AV.agg
 [vi
 odd2,
 vi
 odd3,
 vi
 odd4,
 vs
 odd5]]
 [])
 fun
 r1180 ↦
 Option.bind
 (ret1
 r1180)
 fun
 v1181 ↦
 Option.bind
 (AV.tup?
 v1181)
 fun
 vs1182 ↦
 Option.bind
 (uncons?
 vs1182)
 fun
 p1183 ↦
 Option.bind
 (AV.list?
 4
 p1183.fst)
 fun
 es1184 ↦
 Option.bind
 (uncons?
 p1183.snd)
 fun
 p1185 ↦
 Option.bind
 (AV.int?
 IntKind.i64
 p1185.fst)
 fun
 n1186 ↦
 Option.bind
 (nil?
 p1185.snd)
 fun
 _ ↦
 Option.bind
 (E
 cx
 (Key.fn
 30)
 [AV.list
 0
 4
 es17,
 vi
 n1160,
 AV.agg
 [vi
 odd2,
 vi
 odd3,
 vi
 odd4,
 vs
 odd5]]
 [])
 fun
 r1188 ↦
 Option.bind
 (ret1
 r1188)
 fun
 v1189 ↦
 Option.bind
 (AV.tup?
 v1189)
 fun
 vs1190 ↦
 Option.bind
 (uncons?
 vs1190)
 fun
 p1191 ↦
 Option.bind
 (AV.list?
 4
 p1191.fst)
 fun
 es1192 ↦
 Option.bind
 (uncons?
 p1191.snd)
 fun
 p1193 ↦
 Option.bind
 (AV.int?
 IntKind.i64
 p1193.fst)
 fun
 n1194 ↦
 Option.bind
 (nil?
 p1193.snd)
 fun
 _ ↦
 bif
 n1186 !=
 n1194 then
 some
 (Out.ret
 (vbool
 false),
 [])
 else
 Option.bind
 (E
 cx
 (Key.fn
 31)
 [AV.list
 0
 4
 es1184,
 AV.list
 0
 4
 es1192]
 [])
 fun
 r1196 ↦
 Option.bind
 (ret1
 r1196)
 fun
 v1197 ↦
 Option.bind
 (AV.bool?
 v1197)
 fun
 b1198 ↦
 bif
 b1198 then
 Option.bind
 (E
 cx
 (Key.fn
 28)
 [vi
 room9,
 vi
 35]
 [])
 fun
 r1199 ↦
 Option.bind
 (ret1
 r1199)
 fun
 v1200 ↦
 Option.bind
 (AV.int?
 IntKind.i64
 v1200)
 fun
 n1201 ↦
 Option.bind
 (E
 cx
 (Key.fn
 29)
 [AV.list
 0
 4
 es17,
 vi
 room9,
 AV.agg
 [vi
 n1150,
 vi
 n1152,
 vi
 n1154,
 vs
 s1156]]
 [])
 fun
 r1202 ↦
 Option.bind
 (ret1
 r1202)
 fun
 v1203 ↦
 Option.bind
 (AV.tup?
 v1203)
 fun
 vs1204 ↦
 Option.bind
 (uncons?
 vs1204)
 fun
 p1205 ↦
 Option.bind
 (AV.list?
 4
 p1205.fst)
 fun
 es1206 ↦
 Option.bind
 (uncons?
 p1205.snd)
 fun
 p1207 ↦
 Option.bind
 (AV.int?
 IntKind.i64
 p1207.fst)
 fun
 n1208 ↦
 Option.bind
 (nil?
 p1207.snd)
 fun
 _ ↦
 Option.bind
 (E
 cx
 (Key.fn
 30)
 [AV.list
 0
 4
 es17,
 vi
 room9,
 AV.agg
 [vi
 n1150,
 vi
 n1152,
 vi
 n1154,
 vs
 s1156]]
 [])
 fun
 r1210 ↦
 Option.bind
 (ret1
 r1210)
 fun
 v1211 ↦
 Option.bind
 (AV.tup?
 v1211)
 fun
 vs1212 ↦
 Option.bind
 (uncons?
 vs1212)
 fun
 p1213 ↦
 Option.bind
 (AV.list?
 4
 p1213.fst)
 fun
 es1214 ↦
 Option.bind
 (uncons?
 p1213.snd)
 fun
 p1215 ↦
 Option.bind
 (AV.int?
 IntKind.i64
 p1215.fst)
 fun
 n1216 ↦
 Option.bind
 (nil?
 p1215.snd)
 fun
 _ ↦
 bif
 n1208 !=
 n1216 then
 some
 (Out.ret
 (vbool
 false),
 [])
 else
 Option.bind
 (E
 cx
 (Key.fn
 31)
 [AV.list
 0
 4
 es1206,
 AV.list
 0
 4
 es1214]
 [])
 fun
 r1218 ↦
 Option.bind
 (ret1
 r1218)
 fun
 v1219 ↦
 Option.bind
 (AV.bool?
 v1219)
 fun
 b1220 ↦
 bif
 b1220 then
 Option.bind
 (E
 cx
 (Key.fn
 29)
 [AV.list
 0
 4
 es17,
 vi
 n1201,
 AV.agg
 [vi
 n1150,
 vi
 n1152,
 vi
 n1154,
 vs
 s1156]]
 [])
 fun
 r1221 ↦
 Option.bind
 (ret1
 r1221)
 fun
 v1222 ↦
 Option.bind
 (AV.tup?
 v1222)
 fun
 vs1223 ↦
 Option.bind
 (uncons?
 vs1223)
 fun
 p1224 ↦
 Option.bind
 (AV.list?
 4
 p1224.fst)
 fun
 es1225 ↦
 Option.bind
 (uncons?
 p1224.snd)
 fun
 p1226 ↦
 Option.bind
 (AV.int?
 IntKind.i64
 p1226.fst)
 fun
 n1227 ↦
 Option.bind
 (nil?
 p1226.snd)
 fun
 _ ↦
 Option.bind
 (E
 cx
 (Key.fn
 30)
 [AV.list
 0
 4
 es17,
 vi
 n1201,
 AV.agg
 [vi
 n1150,
 vi
 n1152,
 vi
 n1154,
 vs
 s1156]]
 [])
 fun
 r1229 ↦
 Option.bind
 (ret1
 r1229)
 fun
 v1230 ↦
 Option.bind
 (AV.tup?
 v1230)
 fun
 vs1231 ↦
 Option.bind
 (uncons?
 vs1231)
 fun
 p1232 ↦
 Option.bind
 (AV.list?
 4
 p1232.fst)
 fun
 es1233 ↦
 Option.bind
 (uncons?
 p1232.snd)
 fun
 p1234 ↦
 Option.bind
 (AV.int?
 IntKind.i64
 p1234.fst)
 fun
 n1235 ↦
 Option.bind
 (nil?
 p1234.snd)
 fun
 _ ↦
 bif
 n1227 !=
 n1235 then
 some
 (Out.ret
 (vbool
 false),
 [])
 else
 Option.bind
 (E
 cx
 (Key.fn
 31)
 [AV.list
 0
 4
 es1225,
 AV.list
 0
 4
 es1233]
 [])
 fun
 r1237 ↦
 Option.bind
 (ret1
 r1237)
 fun
 v1238 ↦
 Option.bind
 (AV.bool?
 v1238)
 fun
 b1239 ↦
 bif
 b1239 then
 Option.bind
 (E
 cx
 (Key.fn
 28)
 [vi
 tick10,
 vi
 8]
 [])
 fun
 r1240 ↦
 Option.bind
 (ret1
 r1240)
 fun
 v1241 ↦
 Option.bind
 (AV.int?
 IntKind.i64
 v1241)
 fun
 n1242 ↦
 Option.bind
 (E
 cx
 (Key.fn
 32)
 [AV.list
 0
 4
 es17,
 vi
 tick10]
 [])
 fun
 r1243 ↦
 Option.bind
 (ret1
 r1243)
 fun
 v1244 ↦
 Option.bind
 (AV.tup?
 v1244)
 fun
 vs1245 ↦
 Option.bind
 (uncons?
 vs1245)
 fun
 p1246 ↦
 Option.bind
 (AV.list?
 4
 p1246.fst)
 fun
 es1247 ↦
 Option.bind
 (uncons?
 p1246.snd)
 fun
 p1248 ↦
 Option.bind
 (AV.list?
 4
 p1248.fst)
 fun
 es1249 ↦
 Option.bind
 (nil?
 p1248.snd)
 fun
 _ ↦
 Option.bind
 (E
 cx
 (Key.fn
 33)
 [AV.list
 0
 4
 es17,
 vi
 tick10]
 [])
 fun
 r1251 ↦
 Option.bind
 (ret1
 r1251)
 fun
 v1252 ↦
 Option.bind
 (AV.tup?
 v1252)
 fun
 vs1253 ↦
 Option.bind
 (uncons?
 vs1253)
 fun
 p1254 ↦
 Option.bind
 (AV.list?
 4
 p1254.fst)
 fun
 es1255 ↦
 Option.bind
 (uncons?
 p1254.snd)
 fun
 p1256 ↦
 Option.bind
 (AV.list?
 4
 p1256.fst)
 fun
 es1257 ↦
 Option.bind
 (nil?
 p1256.snd)
 fun
 _ ↦
 Option.bind
 (E
 cx
 (Key.fn
 31)
 [AV.list
 0
 4
 es1247,
 AV.list
 0
 4
 es1255]
 [])
 fun
 r1259 ↦
 Option.bind
 (ret1
 r1259)
 fun
 v1260 ↦
 Option.bind
 (AV.bool?
 v1260)
 fun
 b1261 ↦
 bif
 b1261 then
 Option.bind
 (E
 cx
 (Key.fn
 31)
 [AV.list
 0
 4
 es1249,
 AV.list
 0
 4
 es1257]
 [])
 fun
 r1262 ↦
 Option.bind
 (ret1
 r1262)
 fun
 v1263 ↦
 Option.bind
 (AV.bool?
 v1263)
 fun
 b1264 ↦
 bif
 b1264 then
 Option.bind
 (E
 cx
 (Key.fn
 32)
 [AV.list
 0
 4
 es17,
 vi
 n1242]
 [])
 fun
 r1265 ↦
 Option.bind
 (ret1
 r1265)
 fun
 v1266 ↦
 Option.bind
 (AV.tup?
 v1266)
 fun
 vs1267 ↦
 Option.bind
 (uncons?
 vs1267)
 fun
 p1268 ↦
 Option.bind
 (AV.list?
 4
 p1268.fst)
 fun
 es1269 ↦
 Option.bind
 (uncons?
 p1268.snd)
 fun
 p1270 ↦
 Option.bind
 (AV.list?
 4
 p1270.fst)
 fun
 es1271 ↦
 Option.bind
 (nil?
 p1270.snd)
 fun
 _ ↦
 Option.bind
 (E
 cx
 (Key.fn
 33)
 [AV.list
 0
 4
 es17,
 vi
 n1242]
 [])
 fun
 r1273 ↦
 Option.bind
 (ret1
 r1273)
 fun
 v1274 ↦
 Option.bind
 (AV.tup?
 v1274)
 fun
 vs1275 ↦
 Option.bind
 (uncons?
 vs1275)
 fun
 p1276 ↦
 Option.bind
 (AV.list?
 4
 p1276.fst)
 fun
 es1277 ↦
 Option.bind
 (uncons?
 p1276.snd)
 fun
 p1278 ↦
 Option.bind
 (AV.list?
 4
 p1278.fst)
 fun
 es1279 ↦
 Option.bind
 (nil?
 p1278.snd)
 fun
 _ ↦
 Option.bind
 (E
 cx
 (Key.fn
 31)
 [AV.list
 0
 4
 es1269,
 AV.list
 0
 4
 es1277]
 [])
 fun
 r1281 ↦
 Option.bind
 (ret1
 r1281)
 fun
 v1282 ↦
 Option.bind
 (AV.bool?
 v1282)
 fun
 b1283 ↦
 bif
 b1283 then
 Option.bind
 (E
 cx
 (Key.fn
 31)
 [AV.list
 0
 4
 es1271,
 AV.list
 0
 4
 es1279]
 [])
 fun
 r1284 ↦
 Option.bind
 (ret1
 r1284)
 fun
 v1285 ↦
 Option.bind
 (AV.bool?
 v1285)
 fun
 b1286 ↦
 bif
 b1286 then
 Option.bind
 (E
 cx
 (Key.fn
 34)
 [AV.list
 0
 4
 es17]
 [])
 fun
 r1287 ↦
 Option.bind
 (ret1
 r1287)
 fun
 v1288 ↦
 Option.bind
 (AV.tup?
 v1288)
 fun
 vs1289 ↦
 Option.bind
 (uncons?
 vs1289)
 fun
 p1290 ↦
 Option.bind
 (AV.int?
 IntKind.i64
 p1290.fst)
 fun
 n1291 ↦
 Option.bind
 (uncons?
 p1290.snd)
 fun
 p1292 ↦
 Option.bind
 (AV.bool?
 p1292.fst)
 fun
 b1293 ↦
 bif
 b1293 then
 Option.bind
 (nil?
 p1292.snd)
 fun
 _ ↦
 Option.bind
 (E
 cx
 (Key.fn
 35)
 [AV.list
 0
 4
 es17]
 [])
 fun
 r1295 ↦
 Option.bind
 (ret1
 r1295)
 fun
 v1296 ↦
 Option.bind
 (AV.tup?
 v1296)
 fun
 vs1297 ↦
 Option.bind
 (uncons?
 vs1297)
 fun
 p1298 ↦
 Option.bind
 (AV.int?
 IntKind.i64
 p1298.fst)
 fun
 n1299 ↦
 Option.bind
 (uncons?
 p1298.snd)
 fun
 p1300 ↦
 Option.bind
 (AV.bool?
 p1300.fst)
 fun
 b1301 ↦
 bif
 b1301 then
 Option.bind
 (nil?
 p1300.snd)
 fun
 _ ↦
 bif
 n1291 !=
 n1299 then
 some
 (Out.ret
 (vbool
 false),
 [])
 else
 Option.bind
 (E
 cx
 (Key.fn
 36)
 [AV.list
 0
 4
 es17]
 [])
 fun
 r1303 ↦
 Option.bind
 (ret1
 r1303)
 fun
 v1304 ↦
 Option.bind
 (AV.bool?
 v1304)
 fun
 b1305 ↦
 bif
 b1305 then
 Option.bind
 (E
 cx
 (Key.fn
 37)
 [AV.list
 0
 4
 es17]
 [])
 fun
 r1306 ↦
 Option.bind
 (ret1
 r1306)
 fun
 v1307 ↦
 Option.bind
 (AV.bool?
 v1307)
 fun
 b1308 ↦
 bif
 b1308 then
 Option.bind
 (E
 cx
 (Key.fn
 38)
 [AV.list
 0
 4
 es17,
 vi
 peer11]
 [])
 fun
 r1309 ↦
 Option.bind
 (ret1
 r1309)
 fun
 v1310 ↦
 Option.bind
 (AV.list?
 4
 v1310)
 fun
 es1311 ↦
 Option.bind
 (E
 cx
 (Key.fn
 39)
 [AV.list
 0
 4
 es17,
 vi
 peer11]
 [])
 fun
 r1312 ↦
 Option.bind
 (ret1
 r1312)
 fun
 v1313 ↦
 Option.bind
 (AV.list?
 4
 v1313)
 fun
 es1314 ↦
 Option.bind
 (E
 cx
 (Key.fn
 31)
 [AV.list
 0
 4
 es1311,
 AV.list
 0
 4
 es1314]
 [])
 fun
 r1315 ↦
 Option.bind
 (ret1
 r1315)
 fun
 v1316 ↦
 Option.bind
 (AV.bool?
 v1316)
 fun
 b1317 ↦
 bif
 b1317 then
 Option.bind
 (E
 cx
 (Key.fn
 28)
 [vi
 peer11,
 vi
 4]
 [])
 fun
 r1318 ↦
 Option.bind
 (ret1
 r1318)
 fun
 v1319 ↦
 Option.bind
 (AV.int?
 IntKind.i64
 v1319)
 fun
 n1320 ↦
 Option.bind
 (E
 cx
 (Key.fn
 38)
 [AV.list
 0
 4
 es17,
 vi
 n1320]
 [])
 fun
 r1321 ↦
 Option.bind
 (ret1
 r1321)
 fun
 v1322 ↦
 Option.bind
 (AV.list?
 4
 v1322)
 fun
 es1323 ↦
 Option.bind
 (E
 cx
 (Key.fn
 28)
 [vi
 peer11,
 vi
 4]
 [])
 fun
 r1324 ↦
 Option.bind
 (ret1
 r1324)
 fun
 v1325 ↦
 Option.bind
 (AV.int?
 IntKind.i64
 v1325)
 fun
 n1326 ↦
 Option.bind
 (E
 cx
 (Key.fn
 39)
 [AV.list
 0
 4
 es17,
 vi
 n1326]
 [])
 fun
 r1327 ↦
 Option.bind
 (ret1
 r1327)
 fun
 v1328 ↦
 Option.bind
 (AV.list?
 4
 v1328)
 fun
 es1329 ↦
 Option.bind
 (E
 cx
 (Key.fn
 31)
 [AV.list
 0
 4
 es1323,
 AV.list
 0
 4
 es1329]
 [])
 fun
 r1330 ↦
 Option.bind
 (ret1
 r1330)
 fun
 v1331 ↦
 Option.bind
 (AV.bool?
 v1331)
 fun
 b1332 ↦
 bif
 b1332 then
 some
 (Out.ret
 (vbool
 true),
 [])
 else
 some
 (Out.ret
 (vbool
 false),
 [])
 else
 some
 (Out.ret
 (vbool
 false),
 [])
 else
 some
 (Out.ret
 (vbool
 false),
 [])
 else
 Option.bind
 (E
 cx
 (Key.fn
 37)
 [AV.list
 0
 4
 es17]
 [])
 fun
 r1333 ↦
 Option.bind
 (ret1
 r1333)
 fun
 v1334 ↦
 Option.bind
 (AV.bool?
 v1334)
 fun
 b1335 ↦
 bif
 b1335 then
 some
 (Out.ret
 (vbool
 false),
 [])
 else
 Option.bind
 (E
 cx
 (Key.fn
 38)
 [AV.list
 0
 4
 es17,
 vi
 peer11]
 [])
 fun
 r1336 ↦
 Option.bind
 (ret1
 r1336)
 fun
 v1337 ↦
 Option.bind
 (AV.list?
 4
 v1337)
 fun
 es1338 ↦
 Option.bind
 (E
 cx
 (Key.fn
 39)
 [AV.list
 0
 4
 es17,
 vi
 peer11]
 [])
 fun
 r1339 ↦
 Option.bind
 (ret1
 r1339)
 fun
 v1340 ↦
 Option.bind
 (AV.list?
 4
 v1340)
 fun
 es1341 ↦
 Option.bind
 (E
 cx
 (Key.fn
 31)
 [AV.list
 0
 4
 es1338,
 AV.list
 0
 4
 es1341]
 [])
 fun
 r1342 ↦
 Option.bind
 (ret1
 r1342)
 fun
 v1343 ↦
 Option.bind
 (AV.bool?
 v1343)
 fun
 b1344 ↦
 bif
 b1344 then
 Option.bind
 (E
 cx
 (Key.fn
 28)
 [vi
 peer11,
 vi
 4]
 [])
 fun
 r1345 ↦
 Option.bind
 (ret1
 r1345)
 fun
 v1346 ↦
 Option.bind
 (AV.int?
 IntKind.i64
 v1346)
 fun
 n1347 ↦
 Option.bind
 (E
 cx
 (Key.fn
 38)
 [AV.list
 0
 4
 es17,
 vi
 n1347]
 [])
 fun
 r1348 ↦
 Option.bind
 (ret1
 r1348)
 fun
 v1349 ↦
 Option.bind
 (AV.list?
 4
 v1349)
 fun
 es1350 ↦
 Option.bind
 (E
 cx
 (Key.fn
 28)
 [vi
 peer11,
 vi
 4]
 [])
 fun
 r1351 ↦
 Option.bind
 (ret1
 r1351)
 fun
 v1352 ↦
 Option.bind
 (AV.int?
 IntKind.i64
 v1352)
 fun
 n1353 ↦
 Option.bind
 (E
 cx
 (Key.fn
 39)
 [AV.list
 0
 4
 es17,
 vi
 n1353]
 [])
 fun
 r1354 ↦
 Option.bind
 (ret1
 r1354)
 fun
 v1355 ↦
 Option.bind
 (AV.list?
 4
 v1355)
 fun
 es1356 ↦
 Option.bind
 (E
 cx
 (Key.fn
 31)
 [AV.list
 0
 4
 es1350,
 AV.list
 0
 4
 es1356]
 [])
 fun
 r1357 ↦
 Option.bind
 (ret1
 r1357)
 fun
 v1358 ↦
 Option.bind
 (AV.bool?
 v1358)
 fun
 b1359 ↦
 bif
 b1359 then
 some
 (Out.ret
 (vbool
 true),
 [])
 else
 some
 (Out.ret
 (vbool
 false),
 [])
 else
 some
 (Out.ret
 (vbool
 false),
 [])
 else
 Option.bind
 (nil?
 p1300.snd)
 fun
 _ ↦
 bif
 n1291 !=
 n1299 then
 some
 (Out.ret
 (vbool
 false),
 [])
 else
 some
 (Out.ret
 (vbool
 false),
 [])
 else
 Option.bind
 (nil?
 p1292.snd)
 fun
 _ ↦
 Option.bind
 (E
 cx
 (Key.fn
 35)
 [AV.list
 0
 4
 es17]
 [])
 fun
 r1362 ↦
 Option.bind
 (ret1
 r1362)
 fun
 v1363 ↦
 Option.bind
 (AV.tup?
 v1363)
 fun
 vs1364 ↦
 Option.bind
 (uncons?
 vs1364)
 fun
 p1365 ↦
 Option.bind
 (AV.int?
 IntKind.i64
 p1365.fst)
 fun
 n1366 ↦
 Option.bind
 (uncons?
 p1365.snd)
 fun
 p1367 ↦
 Option.bind
 (AV.bool?
 p1367.fst)
 fun
 b1368 ↦
 bif
 b1368 then
 Option.bind
 (nil?
 p1367.snd)
 fun
 _ ↦
 bif
 n1291 !=
 n1366 then
 some
 (Out.ret
 (vbool
 false),
 [])
 else
 some
 (Out.ret
 (vbool
 false),
 [])
 else
 Option.bind
 (nil?
 p1367.snd)
 fun
 _ ↦
 bif
 n1291 !=
 n1366 then
 some
 (Out.ret
 (vbool
 false),
 [])
 else
 Option.bind
 (E
 cx
 (Key.fn
 36)
 [AV.list
 0
 4
 es17]
 [])
 fun
 r1371 ↦
 Option.bind
 (ret1
 r1371)
 fun
 v1372 ↦
 Option.bind
 (AV.bool?
 v1372)
 fun
 b1373 ↦
 bif
 b1373 then
 Option.bind
 (E
 cx
 (Key.fn
 37)
 [AV.list
 0
 4
 es17]
 [])
 fun
 r1374 ↦
 Option.bind
 (ret1
 r1374)
 fun
 v1375 ↦
 Option.bind
 (AV.bool?
 v1375)
 fun
 b1376 ↦
 bif
 b1376 then
 Option.bind
 (E
 cx
 (Key.fn
 38)
 [AV.list
 0
 4
 es17,
 vi
 peer11]
 [])
 fun
 r1377 ↦
 Option.bind
 (ret1
 r1377)
 fun
 v1378 ↦
 Option.bind
 (AV.list?
 4
 v1378)
 fun
 es1379 ↦
 Option.bind
 (E
 cx
 (Key.fn
 39)
 [AV.list
 0
 4
 es17,
 vi
 peer11]
 [])
 fun
 r1380 ↦
 Option.bind
 (ret1
 r1380)
 fun
 v1381 ↦
 Option.bind
 (AV.list?
 4
 v1381)
 fun
 es1382 ↦
 Option.bind
 (E
 cx
 (Key.fn
 31)
 [AV.list
 0
 4
 es1379,
 AV.list
 0
 4
 es1382]
 [])
 fun
 r1383 ↦
 Option.bind
 (ret1
 r1383)
 fun
 v1384 ↦
 Option.bind
 (AV.bool?
 v1384)
 fun
 b1385 ↦
 bif
 b1385 then
 Option.bind
 (E
 cx
 (Key.fn
 28)
 [vi
 peer11,
 vi
 4]
 [])
 fun
 r1386 ↦
 Option.bind
 (ret1
 r1386)
 fun
 v1387 ↦
 Option.bind
 (AV.int?
 IntKind.i64
 v1387)
 fun
 n1388 ↦
 Option.bind
 (E
 cx
 (Key.fn
 38)
 [AV.list
 0
 4
 es17,
 vi
 n1388]
 [])
 fun
 r1389 ↦
 Option.bind
 (ret1
 r1389)
 fun
 v1390 ↦
 Option.bind
 (AV.list?
 4
 v1390)
 fun
 es1391 ↦
 Option.bind
 (E
 cx
 (Key.fn
 28)
 [vi
 peer11,
 vi
 4]
 [])
 fun
 r1392 ↦
 Option.bind
 (ret1
 r1392)
 fun
 v1393 ↦
 Option.bind
 (AV.int?
 IntKind.i64
 v1393)
 fun
 n1394 ↦
 Option.bind
 (E
 cx
 (Key.fn
 39)
 [AV.list
 0
 4
 es17,
 vi
 n1394]
 [])
 fun
 r1395 ↦
 Option.bind
 (ret1
 r1395)
 fun
 v1396 ↦
 Option.bind
 (AV.list?
 4
 v1396)
 fun
 es1397 ↦
 Option.bind
 (E
 cx
 (Key.fn
 31)
 [AV.list
 0
 4
 es1391,
 AV.list
 0
 4
 es1397]
 [])
 fun
 r1398 ↦
 Option.bind
 (ret1
 r1398)
 fun
 v1399 ↦
 Option.bind
 (AV.bool?
 v1399)
 fun
 b1400 ↦
 bif
 b1400 then
 some
 (Out.ret
 (vbool
 true),
 [])
 else
 some
 (Out.ret
 (vbool
 false),
 [])
 else
 some
 (Out.ret
 (vbool
 false),
 [])
 else
 some
 (Out.ret
 (vbool
 false),
 [])
 else
 Option.bind
 (E
 cx
 (Key.fn
 37)
 [AV.list
 0
 4
 es17]
 [])
 fun
 r1401 ↦
 Option.bind
 (ret1
 r1401)
 fun
 v1402 ↦
 Option.bind
 (AV.bool?
 v1402)
 fun
 b1403 ↦
 bif
 b1403 then
 some
 (Out.ret
 (vbool
 false),
 [])
 else
 Option.bind
 (E
 cx
 (Key.fn
 38)
 [AV.list
 0
 4
 es17,
 vi
 peer11]
 [])
 fun
 r1404 ↦
 Option.bind
 (ret1
 r1404)
 fun
 v1405 ↦
 Option.bind
 (AV.list?
 4
 v1405)
 fun
 es1406 ↦
 Option.bind
 (E
 cx
 (Key.fn
 39)
 [AV.list
 0
 4
 es17,
 vi
 peer11]
 [])
 fun
 r1407 ↦
 Option.bind
 (ret1
 r1407)
 fun
 v1408 ↦
 Option.bind
 (AV.list?
 4
 v1408)
 fun
 es1409 ↦
 Option.bind
 (E
 cx
 (Key.fn
 31)
 [AV.list
 0
 4
 es1406,
 AV.list
 0
 4
 es1409]
 [])
 fun
 r1410 ↦
 Option.bind
 (ret1
 r1410)
 fun
 v1411 ↦
 Option.bind
 (AV.bool?
 v1411)
 fun
 b1412 ↦
 bif
 b1412 then
 Option.bind
 (E
 cx
 (Key.fn
 28)
 [vi
 peer11,
 vi
 4]
 [])
 fun
 r1413 ↦
 Option.bind
 (ret1
 r1413)
 fun
 v1414 ↦
 Option.bind
 (AV.int?
 IntKind.i64
 v1414)
 fun
 n1415 ↦
 Option.bind
 (E
 cx
 (Key.fn
 38)
 [AV.list
 0
 4
 es17,
 vi
 n1415]
 [])
 fun
 r1416 ↦
 Option.bind
 (ret1
 r1416)
 fun
 v1417 ↦
 Option.bind
 (AV.list?
 4
 v1417)
 fun
 es1418 ↦
 Option.bind
 (E
 cx
 (Key.fn
 28)
 [vi
 peer11,
 vi
 4]
 [])
 fun
 r1419 ↦
 Option.bind
 (ret1
 r1419)
 fun
 v1420 ↦
 Option.bind
 (AV.int?
 IntKind.i64
 v1420)
 fun
 n1421 ↦
 Option.bind
 (E
 cx
 (Key.fn
 39)
 [AV.list
 0
 4
 es17,
 vi
 n1421]
 [])
 fun
 r1422 ↦
 Option.bind
 (ret1
 r1422)
 fun
 v1423 ↦
 Option.bind
 (AV.list?
 4
 v1423)
 fun
 es1424 ↦
 Option.bind
 (E
 cx
 (Key.fn
 31)
 [AV.list
 0
 4
 es1418,
 AV.list
 0
 4
 es1424]
 [])
 fun
 r1425 ↦
 Option.bind
 (ret1
 r1425)
 fun
 v1426 ↦
 Option.bind
 (AV.bool?
 v1426)
 fun
 b1427 ↦
 bif
 b1427 then
 some
 (Out.ret
 (vbool
 true),
 [])
 else
 some
 (Out.ret
 (vbool
 false),
 [])
 else
 some
 (Out.ret
 (vbool
 false),
 [])
 else
 some
 (Out.ret
 (vbool
 false),
 [])
 else
 some
 (Out.ret
 (vbool
 false),
 [])
 else
 some
 (Out.ret
 (vbool
 false),
 [])
 else
 some
 (Out.ret
 (vbool
 false),
 [])
 else
 some
 (Out.ret
 (vbool
 false),
 [])
 else
 some
 (Out.ret
 (vbool
 false),
 [])
 else
 some
 (Out.ret
 (vbool
 false),
 [])
 else
 some
 (Out.ret
 (vbool
 false),
 [])
 else
 some
 (Out.ret
 (vbool
 false),
 [])
 else
 some
 (Out.ret
 (vbool
 false),
 [])
 else
 some
 (Out.ret
 (vbool
 false),
 [])
 else
 some
 (Out.ret
 (vbool
 false),
 [])
 else
 some
 (Out.ret
 (vbool
 false),
 [])
 else
 some
 (Out.ret
 (vbool
 false),
 [])
 else
 some
 (Out.ret
 (vbool
 false),
 [])
 else
 some
 (Out.ret
 (vbool
 false),
 [])
 else
 some
 (Out.ret
 (vbool
 false),
 [])
 else some (Out.ret (vbool false), [])
 else none
 else none
 else
 if 0 ≤ if 40 < ((List.length wild0) : Int) then 40 else ((List.length wild0) : Int) then
 if (if 40 < ((List.length wild0) : Int) then 40 else ((List.length wild0) : Int)) ≤ ((List.length wild0) : Int) then
 Option.bind (E cx (Key.fn 26) [AV.list 0 3 raw1] []) fun r1428 ↦
 Option.bind (ret1 r1428) fun v1429 ↦
 Option.bind (AV.list? 4 v1429) fun es1430 ↦
 Option.bind
 (E cx (Key.fn 27)
 [AV.agg [vi k6, vi k7, vi k8]] [])
 fun r1431 ↦
 Option.bind (ret1 r1431) fun v1432 ↦
 Option.bind (AV.cells? v1432) fun cs1433 ↦
 Option.bind (uncons? cs1433) fun p1434 ↦
 Option.bind (AV.int? IntKind.i64 p1434.fst) fun n1435 ↦
 Option.bind (uncons? p1434.snd) fun p1436 ↦
 Option.bind (AV.int? IntKind.i64 p1436.fst) fun n1437 ↦
 Option.bind (uncons? p1436.snd) fun p1438 ↦
 Option.bind (AV.int? IntKind.i64 p1438.fst) fun n1439 ↦
 Option.bind (uncons? p1438.snd) fun p1440 ↦
 Option.bind (AV.str? p1440.fst) fun s1441 ↦
 Option.bind (nil? p1440.snd) fun _ ↦
 Option.bind
 (E cx (Key.fn 28) [vi room9, vi 35] [])
 fun r1443 ↦
 Option.bind (ret1 r1443) fun v1444 ↦
 Option.bind (AV.int? IntKind.i64 v1444) fun n1445 ↦
 Option.bind
 (E cx (Key.fn 29)
 [AV.list 0 4
 (List.drop 0
 (List.take (Int.toNat (if 40 < ((List.length wild0) : Int) then 40 else ((List.length wild0) : Int))) wild0)),
 vi room9,
 AV.agg
 [vi odd2, vi odd3, vi odd4, vs odd5]]
 [])
 fun r1446 ↦
 Option.bind (ret1 r1446) fun v1447 ↦
 Option.bind (AV.tup? v1447) fun vs1448 ↦
 Option.bind (uncons? vs1448) fun p1449 ↦
 Option.bind (AV.list? 4 p1449.fst) fun es1450 ↦
 Option.bind (uncons? p1449.snd) fun p1451 ↦
 Option.bind (AV.int? IntKind.i64 p1451.fst) fun n1452 ↦
 Option.bind (nil? p1451.snd) fun _ ↦
 Option.bind
 (E cx (Key.fn 30)
 [AV.list 0 4
 (List.drop 0
 (List.take
 (Int.toNat (if 40 < ((List.length wild0) : Int) then 40 else ((List.length wild0) : Int)))
 wild0)),
 vi room9,
 AV.agg
 [vi odd2, vi odd3, vi odd4,
 vs odd5]]
 [])
 fun r1454 ↦
 Option.bind (ret1 r1454) fun v1455 ↦
 Option.bind (AV.tup? v1455) fun vs1456 ↦
 Option.bind (uncons? vs1456) fun p1457 ↦
 Option.bind (AV.list? 4 p1457.fst) fun es1458 ↦
 Option.bind (uncons? p1457.snd) fun p1459 ↦
 Option.bind (AV.int? IntKind.i64 p1459.fst) fun n1460 ↦
 Option.bind (nil? p1459.snd) fun _ ↦
 bif n1452 != n1460 then
 some (Out.ret (vbool false), [])
 else
 Option.bind
 (E cx (Key.fn 31)
 [AV.list 0 4 es1450, AV.list 0 4 es1458] [])
 fun r1462 ↦
 Option.bind (ret1 r1462) fun v1463 ↦
 Option.bind (AV.bool? v1463) fun b1464 ↦
 bif b1464 then
 Option.bind
 (E cx (Key.fn 29)
 [AV.list 0 4
 (List.drop 0
 (List.take
 (Int.toNat
 (if 40 < ((List.length wild0) : Int) then 40
 else ((List.length wild0) : Int)))
 wild0)),
 vi n1445,
 AV.agg
 [vi odd2, vi odd3,
 vi odd4, vs odd5]]
 [])
 fun r1465 ↦
 Option.bind (ret1 r1465) fun v1466 ↦
 Option.bind (AV.tup? v1466) fun vs1467 ↦
 Option.bind (uncons? vs1467) fun p1468 ↦
 Option.bind (AV.list? 4 p1468.fst)
 fun es1469 ↦
 Option.bind (uncons? p1468.snd) fun p1470 ↦
 Option.bind
 (AV.int? IntKind.i64 p1470.fst)
 fun n1471 ↦
 Option.bind (nil? p1470.snd)
 fun _ ↦
 Option.bind
 (E cx
 (Key.fn 30)
 [AV.list 0 4
 (List.drop 0
 (List.take
 (Int.toNat
 (if 40 < ((List.length wild0) : Int) then
 40
 else ((List.length wild0) : Int)))
 wild0)),
 vi n1445,
 AV.agg
 [vi odd2,
 vi odd3,
 vi odd4,
 vs odd5]]
 [])
 fun r1473 ↦
 Option.bind (ret1 r1473)
 fun v1474 ↦
 Option.bind (AV.tup? v1474)
 fun vs1475 ↦
 Option.bind (uncons? vs1475)
 fun p1476 ↦
 Option.bind
 (AV.list? 4 p1476.fst)
 fun es1477 ↦
 Option.bind
 (uncons? p1476.snd)
 fun p1478 ↦
 Option.bind
 (AV.int? IntKind.i64
 p1478.fst)
 fun n1479 ↦
 Option.bind
 (nil? p1478.snd)
 fun _ ↦
 bif n1471 != n1479 then
 some
 (Out.ret
 (vbool
 false),
 [])
 else
 Option.bind
 (E
 cx
 (Key.fn 31)
 [AV.list 0 4
 es1469,
 AV.list 0 4
 es1477]
 [])
 fun r1481 ↦
 Option.bind
 (ret1 r1481)
 fun v1482 ↦
 Option.bind
 (AV.bool?
 v1482)
 fun b1483 ↦
 bif b1483 then
 Option.bind
 (E
 cx
 (Key.fn
 28)
 [vi
 room9,
 vi
 35]
 [])
 fun r1484 ↦
 Option.bind
 (ret1
 r1484)
 fun v1485 ↦
 Option.bind
 (AV.int?
 IntKind.i64
 v1485)
 fun n1486 ↦
 Option.bind
 (E
 cx
 (Key.fn
 29)
 [AV.list
 0 4
 (List.drop
 0
 (List.take
 (Int.toNat
 (if
 40 <
 ((List.length
 wild0) : Int) then
 40
 else
 ((List.length
 wild0) : Int)))
 wild0)),
 vi
 room9,
 AV.agg
 [vi
 n1435,
 vi
 n1437,
 vi
 n1439,
 vs
 s1441]]
 [])
 fun r1487 ↦
 Option.bind
 (ret1
 r1487)
 fun v1488 ↦
 Option.bind
 (AV.tup?
 v1488)
 fun vs1489 ↦
 Option.bind
 (uncons?
 vs1489)
 fun
 p1490 ↦
 Option.bind
 (AV.list?
 4
 p1490.fst)
 fun
 es1491 ↦
 Option.bind
 (uncons?
 p1490.snd)
 fun
 p1492 ↦
 Option.bind
 (AV.int?
 IntKind.i64
 p1492.fst)
 fun
 n1493 ↦
 Option.bind
 (nil?
 p1492.snd)
 fun
 _ ↦
 Option.bind
 (E
 cx
 (Key.fn
 30)
 [AV.list
 0
 4
 (List.drop
 0
 (List.take
 (Int.toNat
 (if
 40 <
 ((List.length
 wild0) : Int) then
 40
 else
 ((List.length
 wild0) : Int)))
 wild0)),
 vi
 room9,
 AV.agg
 [vi
 n1435,
 vi
 n1437,
 vi
 n1439,
 vs
 s1441]]
 [])
 fun
 r1495 ↦
 Option.bind
 (ret1
 r1495)
 fun
 v1496 ↦
 Option.bind
 (AV.tup?
 v1496)
 fun
 vs1497 ↦
 Option.bind
 (uncons?
 vs1497)
 fun
 p1498 ↦
 Option.bind
 (AV.list?
 4
 p1498.fst)
 fun
 es1499 ↦
 Option.bind
 (uncons?
 p1498.snd)
 fun
 p1500 ↦
 Option.bind
 (AV.int?
 IntKind.i64
 p1500.fst)
 fun
 n1501 ↦
 Option.bind
 (nil?
 p1500.snd)
 fun
 _ ↦
 bif
 n1493 !=
 n1501 then
 some
 (Out.ret
 (vbool
 false),
 [])
 else
 Option.bind
 (E
 cx
 (Key.fn
 31)
 [AV.list
 0
 4
 es1491,
 AV.list
 0
 4
 es1499]
 [])
 fun
 r1503 ↦
 Option.bind
 (ret1
 r1503)
 fun
 v1504 ↦
 Option.bind
 (AV.bool?
 v1504)
 fun
 b1505 ↦
 bif
 b1505 then
 Option.bind
 (E
 cx
 (Key.fn
 29)
 [AV.list
 0
 4
 (List.drop
 0
 (List.take
 (Int.toNat
 (if
 40 <
 ((List.length
 wild0) : Int) then
 40
 else
 ((List.length
 wild0) : Int)))
 wild0)),
 vi
 n1486,
 AV.agg
 [vi
 n1435,
 vi
 n1437,
 vi
 n1439,
 vs
 s1441]]
 [])
 fun
 r1506 ↦
 Option.bind
 (ret1
 r1506)
 fun
 v1507 ↦
 Option.bind
 (AV.tup?
 v1507)
 fun
 vs1508 ↦
 Option.bind
 (uncons?
 vs1508)
 fun
 p1509 ↦
 Option.bind
 (AV.list?
 4
 p1509.fst)
 fun
 es1510 ↦
 Option.bind
 (uncons?
 p1509.snd)
 fun
 p1511 ↦
 Option.bind
 (AV.int?
 IntKind.i64
 p1511.fst)
 fun
 n1512 ↦
 Option.bind
 (nil?
 p1511.snd)
 fun
 _ ↦
 Option.bind
 (E
 cx
 (Key.fn
 30)
 [AV.list
 0
 4
 (List.drop
 0
 (List.take
 (Int.toNat
 (if
 40 <
 ((List.length
 wild0) : Int) then
 40
 else
 ((List.length
 wild0) : Int)))
 wild0)),
 vi
 n1486,
 AV.agg
 [vi
 n1435,
 vi
 n1437,
 vi
 n1439,
 vs
 s1441]]
 [])
 fun
 r1514 ↦
 Option.bind
 (ret1
 r1514)
 fun
 v1515 ↦
 Option.bind
 (AV.tup?
 v1515)
 fun
 vs1516 ↦
 Option.bind
 (uncons?
 vs1516)
 fun
 p1517 ↦
 Option.bind
 (AV.list?
 4
 p1517.fst)
 fun
 es1518 ↦
 Option.bind
 (uncons?
 p1517.snd)
 fun
 p1519 ↦
 Option.bind
 (AV.int?
 IntKind.i64
 p1519.fst)
 fun
 n1520 ↦
 Option.bind
 (nil?
 p1519.snd)
 fun
 _ ↦
 bif
 n1512 !=
 n1520 then
 some
 (Out.ret
 (vbool
 false),
 [])
 else
 Option.bind
 (E
 cx
 (Key.fn
 31)
 [AV.list
 0
 4
 es1510,
 AV.list
 0
 4
 es1518]
 [])
 fun
 r1522 ↦
 Option.bind
 (ret1
 r1522)
 fun
 v1523 ↦
 Option.bind
 (AV.bool?
 v1523)
 fun
 b1524 ↦
 bif
 b1524 then
 Option.bind
 (E
 cx
 (Key.fn
 28)
 [vi
 tick10,
 vi
 8]
 [])
 fun
 r1525 ↦
 Option.bind
 (ret1
 r1525)
 fun
 v1526 ↦
 Option.bind
 (AV.int?
 IntKind.i64
 v1526)
 fun
 n1527 ↦
 Option.bind
 (E
 cx
 (Key.fn
 32)
 [AV.list
 0
 4
 (List.drop
 0
 (List.take
 (Int.toNat
 (if
 40 <
 ((List.length
 wild0) : Int) then
 40
 else
 ((List.length
 wild0) : Int)))
 wild0)),
 vi
 tick10]
 [])
 fun
 r1528 ↦
 Option.bind
 (ret1
 r1528)
 fun
 v1529 ↦
 Option.bind
 (AV.tup?
 v1529)
 fun
 vs1530 ↦
 Option.bind
 (uncons?
 vs1530)
 fun
 p1531 ↦
 Option.bind
 (AV.list?
 4
 p1531.fst)
 fun
 es1532 ↦
 Option.bind
 (uncons?
 p1531.snd)
 fun
 p1533 ↦
 Option.bind
 (AV.list?
 4
 p1533.fst)
 fun
 es1534 ↦
 Option.bind
 (nil?
 p1533.snd)
 fun
 _ ↦
 Option.bind
 (E
 cx
 (Key.fn
 33)
 [AV.list
 0
 4
 (List.drop
 0
 (List.take
 (Int.toNat
 (if
 40 <
 ((List.length
 wild0) : Int) then
 40
 else
 ((List.length
 wild0) : Int)))
 wild0)),
 vi
 tick10]
 [])
 fun
 r1536 ↦
 Option.bind
 (ret1
 r1536)
 fun
 v1537 ↦
 Option.bind
 (AV.tup?
 v1537)
 fun
 vs1538 ↦
 Option.bind
 (uncons?
 vs1538)
 fun
 p1539 ↦
 Option.bind
 (AV.list?
 4
 p1539.fst)
 fun
 es1540 ↦
 Option.bind
 (uncons?
 p1539.snd)
 fun
 p1541 ↦
 Option.bind
 (AV.list?
 4
 p1541.fst)
 fun
 es1542 ↦
 Option.bind
 (nil?
 p1541.snd)
 fun
 _ ↦
 Option.bind
 (E
 cx
 (Key.fn
 31)
 [AV.list
 0
 4
 es1532,
 AV.list
 0
 4
 es1540]
 [])
 fun
 r1544 ↦
 Option.bind
 (ret1
 r1544)
 fun
 v1545 ↦
 Option.bind
 (AV.bool?
 v1545)
 fun
 b1546 ↦
 bif
 b1546 then
 Option.bind
 (E
 cx
 (Key.fn
 31)
 [AV.list
 0
 4
 es1534,
 AV.list
 0
 4
 es1542]
 [])
 fun
 r1547 ↦
 Option.bind
 (ret1
 r1547)
 fun
 v1548 ↦
 Option.bind
 (AV.bool?
 v1548)
 fun
 b1549 ↦
 bif
 b1549 then
 Option.bind
 (E
 cx
 (Key.fn
 32)
 [AV.list
 0
 4
 (List.drop
 0
 (List.take
 (Int.toNat
 (if
 40 <
 ((List.length
 wild0) : Int) then
 40
 else
 ((List.length
 wild0) : Int)))
 wild0)),
 vi
 n1527]
 [])
 fun
 r1550 ↦
 Option.bind
 (ret1
 r1550)
 fun
 v1551 ↦
 Option.bind
 (AV.tup?
 v1551)
 fun
 vs1552 ↦
 Option.bind
 (uncons?
 vs1552)
 fun
 p1553 ↦
 Option.bind
 (AV.list?
 4
 p1553.fst)
 fun
 es1554 ↦
 Option.bind
 (uncons?
 p1553.snd)
 fun
 p1555 ↦
 Option.bind
 (AV.list?
 4
 p1555.fst)
 fun
 es1556 ↦
 Option.bind
 (nil?
 p1555.snd)
 fun
 _ ↦
 Option.bind
 (E
 cx
 (Key.fn
 33)
 [AV.list
 0
 4
 (List.drop
 0
 (List.take
 (Int.toNat
 (if
 40 <
 ((List.length
 wild0) : Int) then
 40
 else
 ((List.length
 wild0) : Int)))
 wild0)),
 vi
 n1527]
 [])
 fun
 r1558 ↦
 Option.bind
 (ret1
 r1558)
 fun
 v1559 ↦
 Option.bind
 (AV.tup?
 v1559)
 fun
 vs1560 ↦
 Option.bind
 (uncons?
 vs1560)
 fun
 p1561 ↦
 Option.bind
 (AV.list?
 4
 p1561.fst)
 fun
 es1562 ↦
 Option.bind
 (uncons?
 p1561.snd)
 fun
 p1563 ↦
 Option.bind
 (AV.list?
 4
 p1563.fst)
 fun
 es1564 ↦
 Option.bind
 (nil?
 p1563.snd)
 fun
 _ ↦
 Option.bind
 (E
 cx
 (Key.fn
 31)
 [AV.list
 0
 4
 es1554,
 AV.list
 0
 4
 es1562]
 [])
 fun
 r1566 ↦
 Option.bind
 (ret1
 r1566)
 fun
 v1567 ↦
 Option.bind
 (AV.bool?
 v1567)
 fun
 b1568 ↦
 bif
 b1568 then
 Option.bind
 (E
 cx
 (Key.fn
 31)
 [AV.list
 0
 4
 es1556,
 AV.list
 0
 4
 es1564]
 [])
 fun
 r1569 ↦
 Option.bind
 (ret1
 r1569)
 fun
 v1570 ↦
 Option.bind
 (AV.bool?
 v1570)
 fun
 b1571 ↦
 bif
 b1571 then
 Option.bind
 (E
 cx
 (Key.fn
 34)
 [AV.list
 0
 4
 (List.drop
 0
 (List.take
 (Int.toNat
 (if
 40 <
 ((List.length
 wild0) : Int) then
 40
 else
 ((List.length
 wild0) : Int)))
 wild0))]
 [])
 fun
 r1572 ↦
 Option.bind
 (ret1
 r1572)
 fun
 v1573 ↦
 Option.bind
 (AV.tup?
 v1573)
 fun
 vs1574 ↦
 Option.bind
 (uncons?
 vs1574)
 fun
 p1575 ↦
 Option.bind
 (AV.int?
 IntKind.i64
 p1575.fst)
 fun
 n1576 ↦
 Option.bind
 (uncons?
 p1575.snd)
 fun
 p1577 ↦
 Option.bind
 (AV.bool?
 p1577.fst)
 fun
 b1578 ↦
 bif
 b1578 then
 Option.bind
 (nil?
 p1577.snd)
 fun
 _ ↦
 Option.bind
 (E
 cx
 (Key.fn
 35)
 [AV.list
 0
 4
 (List.drop
 0
 (List.take
 (Int.toNat
 (if
 40 <
 ((List.length
 wild0) : Int) then
 40
 else
 ((List.length
 wild0) : Int)))
 wild0))]
 [])
 fun
 r1580 ↦
 Option.bind
 (ret1
 r1580)
 fun
 v1581 ↦
 Option.bind
 (AV.tup?
 v1581)
 fun
 vs1582 ↦
 Option.bind
 (uncons?
 vs1582)
 fun
 p1583 ↦
 Option.bind
 (AV.int?
 IntKind.i64
 p1583.fst)
 fun
 n1584 ↦
 Option.bind
 (uncons?
 p1583.snd)
 fun
 p1585 ↦
 Option.bind
 (AV.bool?
 p1585.fst)
 fun
 b1586 ↦
 bif
 b1586 then
 Option.bind
 (nil?
 p1585.snd)
 fun
 _ ↦
 bif
 n1576 !=
 n1584 then
 some
 (Out.ret
 (vbool
 false),
 [])
 else
 Option.bind
 (E
 cx
 (Key.fn
 36)
 [AV.list
 0
 4
 (List.drop
 0
 (List.take
 (Int.toNat
 (if
 40 <
 ((List.length
 wild0) : Int) then
 40
 else
 ((List.length
 wild0) : Int)))
 wild0))]
 [])
 fun
 r1588 ↦
 Option.bind
 (ret1
 r1588)
 fun
 v1589 ↦
 Option.bind
 (AV.bool?
 v1589)
 fun
 b1590 ↦
 bif
 b1590 then
 Option.bind
 (E
 cx
 (Key.fn
 37)
 [AV.list
 0
 4
 (List.drop
 0
 (List.take
 (Int.toNat
 (if
 40 <
 ((List.length
 wild0) : Int) then
 40
 else
 ((List.length
 wild0) : Int)))
 wild0))]
 [])
 fun
 r1591 ↦
 Option.bind
 (ret1
 r1591)
 fun
 v1592 ↦
 Option.bind
 (AV.bool?
 v1592)
 fun
 b1593 ↦
 bif
 b1593 then
 Option.bind
 (E
 cx
 (Key.fn
 38)
 [AV.list
 0
 4
 (List.drop
 0
 (List.take
 (Int.toNat
 (if
 40 <
 ((List.length
 wild0) : Int) then
 40
 else
 ((List.length
 wild0) : Int)))
 wild0)),
 vi
 peer11]
 [])
 fun
 r1594 ↦
 Option.bind
 (ret1
 r1594)
 fun
 v1595 ↦
 Option.bind
 (AV.list?
 4
 v1595)
 fun
 es1596 ↦
 Option.bind
 (E
 cx
 (Key.fn
 39)
 [AV.list
 0
 4
 (List.drop
 0
 (List.take
 (Int.toNat
 (if
 40 <
 ((List.length
 wild0) : Int) then
 40
 else
 ((List.length
 wild0) : Int)))
 wild0)),
 vi
 peer11]
 [])
 fun
 r1597 ↦
 Option.bind
 (ret1
 r1597)
 fun
 v1598 ↦
 Option.bind
 (AV.list?
 4
 v1598)
 fun
 es1599 ↦
 Option.bind
 (E
 cx
 (Key.fn
 31)
 [AV.list
 0
 4
 es1596,
 AV.list
 0
 4
 es1599]
 [])
 fun
 r1600 ↦
 Option.bind
 (ret1
 r1600)
 fun
 v1601 ↦
 Option.bind
 (AV.bool?
 v1601)
 fun
 b1602 ↦
 bif
 b1602 then
 Option.bind
 (E
 cx
 (Key.fn
 28)
 [vi
 peer11,
 vi
 4]
 [])
 fun
 r1603 ↦
 Option.bind
 (ret1
 r1603)
 fun
 v1604 ↦
 Option.bind
 (AV.int?
 IntKind.i64
 v1604)
 fun
 n1605 ↦
 Option.bind
 (E
 cx
 (Key.fn
 38)
 [AV.list
 0
 4
 (List.drop
 0
 (List.take
 (Int.toNat
 (if
 40 <
 ((List.length
 wild0) : Int) then
 40
 else
 ((List.length
 wild0) : Int)))
 wild0)),
 vi
 n1605]
 [])
 fun
 r1606 ↦
 Option.bind
 (ret1
 r1606)
 fun
 v1607 ↦
 Option.bind
 (AV.list?
 4
 v1607)
 fun
 es1608 ↦
 Option.bind
 (E
 cx
 (Key.fn
 28)
 [vi
 peer11,
 vi
 4]
 [])
 fun
 r1609 ↦
 Option.bind
 (ret1
 r1609)
 fun
 v1610 ↦
 Option.bind
 (AV.int?
 IntKind.i64
 v1610)
 fun
 n1611 ↦
 Option.bind
 (E
 cx
 (Key.fn
 39)
 [AV.list
 0
 4
 (List.drop
 0
 (List.take
 (Int.toNat
 (if
 40 <
 ((List.length
 wild0) : Int) then
 40
 else
 ((List.length
 wild0) : Int)))
 wild0)),
 vi
 n1611]
 [])
 fun
 r1612 ↦
 Option.bind
 (ret1
 r1612)
 fun
 v1613 ↦
 Option.bind
 (AV.list?
 4
 v1613)
 fun
 es1614 ↦
 Option.bind
 (E
 cx
 (Key.fn
 31)
 [AV.list
 0
 4
 es1608,
 AV.list
 0
 4
 es1614]
 [])
 fun
 r1615 ↦
 Option.bind
 (ret1
 r1615)
 fun
 v1616 ↦
 Option.bind
 (AV.bool?
 v1616)
 fun
 b1617 ↦
 bif
 b1617 then
 Option.bind
 (E
 cx
 (Key.fn
 27)
 [AV.agg
 [vi
 k6,
 vi
 k7,
 vi
 k8]]
 [])
 fun
 r1618 ↦
 Option.bind
 (ret1
 r1618)
 fun
 v1619 ↦
 Option.bind
 (AV.cells?
 v1619)
 fun
 cs1620 ↦
 Option.bind
 (uncons?
 cs1620)
 fun
 p1621 ↦
 Option.bind
 (AV.int?
 IntKind.i64
 p1621.fst)
 fun
 n1622 ↦
 Option.bind
 (uncons?
 p1621.snd)
 fun
 p1623 ↦
 Option.bind
 (AV.int?
 IntKind.i64
 p1623.fst)
 fun
 n1624 ↦
 Option.bind
 (uncons?
 p1623.snd)
 fun
 p1625 ↦
 Option.bind
 (AV.int?
 IntKind.i64
 p1625.fst)
 fun
 n1626 ↦
 Option.bind
 (uncons?
 p1625.snd)
 fun
 p1627 ↦
 Option.bind
 (AV.str?
 p1627.fst)
 fun
 s1628 ↦
 Option.bind
 (nil?
 p1627.snd)
 fun
 _ ↦
 Option.bind
 (E
 cx
 (Key.fn
 28)
 [vi
 room9,
 vi
 35]
 [])
 fun
 r1630 ↦
 Option.bind
 (ret1
 r1630)
 fun
 v1631 ↦
 Option.bind
 (AV.int?
 IntKind.i64
 v1631)
 fun
 n1632 ↦
 Option.bind
 (E
 cx
 (Key.fn
 29)
 [AV.list
 0
 4
 es1430,
 vi
 room9,
 AV.agg
 [vi
 odd2,
 vi
 odd3,
 vi
 odd4,
 vs
 odd5]]
 [])
 fun
 r1633 ↦
 Option.bind
 (ret1
 r1633)
 fun
 v1634 ↦
 Option.bind
 (AV.tup?
 v1634)
 fun
 vs1635 ↦
 Option.bind
 (uncons?
 vs1635)
 fun
 p1636 ↦
 Option.bind
 (AV.list?
 4
 p1636.fst)
 fun
 es1637 ↦
 Option.bind
 (uncons?
 p1636.snd)
 fun
 p1638 ↦
 Option.bind
 (AV.int?
 IntKind.i64
 p1638.fst)
 fun
 n1639 ↦
 Option.bind
 (nil?
 p1638.snd)
 fun
 _ ↦
 Option.bind
 (E
 cx
 (Key.fn
 30)
 [AV.list
 0
 4
 es1430,
 vi
 room9,
 AV.agg
 [vi
 odd2,
 vi
 odd3,
 vi
 odd4,
 vs
 odd5]]
 [])
 fun
 r1641 ↦
 Option.bind
 (ret1
 r1641)
 fun
 v1642 ↦
 Option.bind
 (AV.tup?
 v1642)
 fun
 vs1643 ↦
 Option.bind
 (uncons?
 vs1643)
 fun
 p1644 ↦
 Option.bind
 (AV.list?
 4
 p1644.fst)
 fun
 es1645 ↦
 Option.bind
 (uncons?
 p1644.snd)
 fun
 p1646 ↦
 Option.bind
 (AV.int?
 IntKind.i64
 p1646.fst)
 fun
 n1647 ↦
 Option.bind
 (nil?
 p1646.snd)
 fun
 _ ↦
 bif
 n1639 !=
 n1647 then
 some
 (Out.ret
 (vbool
 false),
 [])
 else
 Option.bind
 (E
 cx
 (Key.fn
 31)
 [AV.list
 0
 4
 es1637,
 AV.list
 0
 4
 es1645]
 [])
 fun
 r1649 ↦
 Option.bind
 (ret1
 r1649)
 fun
 v1650 ↦
 Option.bind
 (AV.bool?
 v1650)
 fun
 b1651 ↦
 bif
 b1651 then
 Option.bind
 (E
 cx
 (Key.fn
 29)
 [AV.list
 0
 4
 es1430,
 vi
 n1632,
 AV.agg
 [vi
 odd2,
 vi
 odd3,
 vi
 odd4,
 vs
 odd5]]
 [])
 fun
 r1652 ↦
 Option.bind
 (ret1
 r1652)
 fun
 v1653 ↦
 Option.bind
 (AV.tup?
 v1653)
 fun
 vs1654 ↦
 Option.bind
 (uncons?
 vs1654)
 fun
 p1655 ↦
 Option.bind
 (AV.list?
 4
 p1655.fst)
 fun
 es1656 ↦
 Option.bind
 (uncons?
 p1655.snd)
 fun
 p1657 ↦
 Option.bind
 (AV.int?
 IntKind.i64
 p1657.fst)
 fun
 n1658 ↦
 Option.bind
 (nil?
 p1657.snd)
 fun
 _ ↦
 Option.bind
 (E
 cx
 (Key.fn
 30)
 [AV.list
 0
 4
 es1430,
 vi
 n1632,
 AV.agg
 [vi
 odd2,
 vi
 odd3,
 vi
 odd4,
 vs
 odd5]]
 [])
 fun
 r1660 ↦
 Option.bind
 (ret1
 r1660)
 fun
 v1661 ↦
 Option.bind
 (AV.tup?
 v1661)
 fun
 vs1662 ↦
 Option.bind
 (uncons?
 vs1662)
 fun
 p1663 ↦
 Option.bind
 (AV.list?
 4
 p1663.fst)
 fun
 es1664 ↦
 Option.bind
 (uncons?
 p1663.snd)
 fun
 p1665 ↦
 Option.bind
 (AV.int?
 IntKind.i64
 p1665.fst)
 fun
 n1666 ↦
 Option.bind
 (nil?
 p1665.snd)
 fun
 _ ↦
 bif
 n1658 !=
 n1666 then
 some
 (Out.ret
 (vbool
 false),
 [])
 else
 Option.bind
 (E
 cx
 (Key.fn
 31)
 [AV.list
 0
 4
 es1656,
 AV.list
 0
 4
 es1664]
 [])
 fun
 r1668 ↦
 Option.bind
 (ret1
 r1668)
 fun
 v1669 ↦
 Option.bind
 (AV.bool?
 v1669)
 fun
 b1670 ↦
 bif
 b1670 then
 Option.bind
 (E
 cx
 (Key.fn
 28)
 [vi
 room9,
 vi
 35]
 [])
 fun
 r1671 ↦
 Option.bind
 (ret1
 r1671)
 fun
 v1672 ↦
 Option.bind
 (AV.int?
 IntKind.i64
 v1672)
 fun
 n1673 ↦
 Option.bind
 (E
 cx
 (Key.fn
 29)
 [AV.list
 0
 4
 es1430,
 vi
 room9,
 AV.agg
 [vi
 n1622,
 vi
 n1624,
 vi
 n1626,
 vs
 s1628]]
 [])
 fun
 r1674 ↦
 Option.bind
 (ret1
 r1674)
 fun
 v1675 ↦
 Option.bind
 (AV.tup?
 v1675)
 fun
 vs1676 ↦
 Option.bind
 (uncons?
 vs1676)
 fun
 p1677 ↦
 Option.bind
 (AV.list?
 4
 p1677.fst)
 fun
 es1678 ↦
 Option.bind
 (uncons?
 p1677.snd)
 fun
 p1679 ↦
 Option.bind
 (AV.int?
 IntKind.i64
 p1679.fst)
 fun
 n1680 ↦
 Option.bind
 (nil?
 p1679.snd)
 fun
 _ ↦
 Option.bind
 (E
 cx
 (Key.fn
 30)
 [AV.list
 0
 4
 es1430,
 vi
 room9,
 AV.agg
 [vi
 n1622,
 vi
 n1624,
 vi
 n1626,
 vs
 s1628]]
 [])
 fun
 r1682 ↦
 Option.bind
 (ret1
 r1682)
 fun
 v1683 ↦
 Option.bind
 (AV.tup?
 v1683)
 fun
 vs1684 ↦
 Option.bind
 (uncons?
 vs1684)
 fun
 p1685 ↦
 Option.bind
 (AV.list?
 4
 p1685.fst)
 fun
 es1686 ↦
 Option.bind
 (uncons?
 p1685.snd)
 fun
 p1687 ↦
 Option.bind
 (AV.int?
 IntKind.i64
 p1687.fst)
 fun
 n1688 ↦
 Option.bind
 (nil?
 p1687.snd)
 fun
 _ ↦
 bif
 n1680 !=
 n1688 then
 some
 (Out.ret
 (vbool
 false),
 [])
 else
 Option.bind
 (E
 cx
 (Key.fn
 31)
 [AV.list
 0
 4
 es1678,
 AV.list
 0
 4
 es1686]
 [])
 fun
 r1690 ↦
 Option.bind
 (ret1
 r1690)
 fun
 v1691 ↦
 Option.bind
 (AV.bool?
 v1691)
 fun
 b1692 ↦
 bif
 b1692 then
 Option.bind
 (E
 cx
 (Key.fn
 29)
 [AV.list
 0
 4
 es1430,
 vi
 n1673,
 AV.agg
 [vi
 n1622,
 vi
 n1624,
 vi
 n1626,
 vs
 s1628]]
 [])
 fun
 r1693 ↦
 Option.bind
 (ret1
 r1693)
 fun
 v1694 ↦
 Option.bind
 (AV.tup?
 v1694)
 fun
 vs1695 ↦
 Option.bind
 (uncons?
 vs1695)
 fun
 p1696 ↦
 Option.bind
 (AV.list?
 4
 p1696.fst)
 fun
 es1697 ↦
 Option.bind
 (uncons?
 p1696.snd)
 fun
 p1698 ↦
 Option.bind
 (AV.int?
 IntKind.i64
 p1698.fst)
 fun
 n1699 ↦
 Option.bind
 (nil?
 p1698.snd)
 fun
 _ ↦
 Option.bind
 (E
 cx
 (Key.fn
 30)
 [AV.list
 0
 4
 es1430,
 vi
 n1673,
 AV.agg
 [vi
 n1622,
 vi
 n1624,
 vi
 n1626,
 vs
 s1628]]
 [])
 fun
 r1701 ↦
 Option.bind
 (ret1
 r1701)
 fun
 v1702 ↦
 Option.bind
 (AV.tup?
 v1702)
 fun
 vs1703 ↦
 Option.bind
 (uncons?
 vs1703)
 fun
 p1704 ↦
 Option.bind
 (AV.list?
 4
 p1704.fst)
 fun
 es1705 ↦
 Option.bind
 (uncons?
 p1704.snd)
 fun
 p1706 ↦
 Option.bind
 (AV.int?
 IntKind.i64
 p1706.fst)
 fun
 n1707 ↦
 Option.bind
 (nil?
 p1706.snd)
 fun
 _ ↦
 bif
 n1699 !=
 n1707 then
 some
 (Out.ret
 (vbool
 false),
 [])
 else
 Option.bind
 (E
 cx
 (Key.fn
 31)
 [AV.list
 0
 4
 es1697,
 AV.list
 0
 4
 es1705]
 [])
 fun
 r1709 ↦
 Option.bind
 (ret1
 r1709)
 fun
 v1710 ↦
 Option.bind
 (AV.bool?
 v1710)
 fun
 b1711 ↦
 bif
 b1711 then
 Option.bind
 (E
 cx
 (Key.fn
 28)
 [vi
 tick10,
 vi
 8]
 [])
 fun
 r1712 ↦
 Option.bind
 (ret1
 r1712)
 fun
 v1713 ↦
 Option.bind
 (AV.int?
 IntKind.i64
 v1713)
 fun
 n1714 ↦
 Option.bind
 (E
 cx
 (Key.fn
 32)
 [AV.list
 0
 4
 es1430,
 vi
 tick10]
 [])
 fun
 r1715 ↦
 Option.bind
 (ret1
 r1715)
 fun
 v1716 ↦
 Option.bind
 (AV.tup?
 v1716)
 fun
 vs1717 ↦
 Option.bind
 (uncons?
 vs1717)
 fun
 p1718 ↦
 Option.bind
 (AV.list?
 4
 p1718.fst)
 fun
 es1719 ↦
 Option.bind
 (uncons?
 p1718.snd)
 fun
 p1720 ↦
 Option.bind
 (AV.list?
 4
 p1720.fst)
 fun
 es1721 ↦
 Option.bind
 (nil?
 p1720.snd)
 fun
 _ ↦
 Option.bind
 (E
 cx
 (Key.fn
 33)
 [AV.list
 0
 4
 es1430,
 vi
 tick10]
 [])
 fun
 r1723 ↦
 Option.bind
 (ret1
 r1723)
 fun
 v1724 ↦
 Option.bind
 (AV.tup?
 v1724)
 fun
 vs1725 ↦
 Option.bind
 (uncons?
 vs1725)
 fun
 p1726 ↦
 Option.bind
 (AV.list?
 4
 p1726.fst)
 fun
 es1727 ↦
 Option.bind
 (uncons?
 p1726.snd)
 fun
 p1728 ↦
 Option.bind
 (AV.list?
 4
 p1728.fst)
 fun
 es1729 ↦
 Option.bind
 (nil?
 p1728.snd)
 fun
 _ ↦
 Option.bind
 (E
 cx
 (Key.fn
 31)
 [AV.list
 0
 4
 es1719,
 AV.list
 0
 4
 es1727]
 [])
 fun
 r1731 ↦
 Option.bind
 (ret1
 r1731)
 fun
 v1732 ↦
 Option.bind
 (AV.bool?
 v1732)
 fun
 b1733 ↦
 bif
 b1733 then
 Option.bind
 (E
 cx
 (Key.fn
 31)
 [AV.list
 0
 4
 es1721,
 AV.list
 0
 4
 es1729]
 [])
 fun
 r1734 ↦
 Option.bind
 (ret1
 r1734)
 fun
 v1735 ↦
 Option.bind
 (AV.bool?
 v1735)
 fun
 b1736 ↦
 bif
 b1736 then
 Option.bind
 (E
 cx
 (Key.fn
 32)
 [AV.list
 0
 4
 es1430,
 vi
 n1714]
 [])
 fun
 r1737 ↦
 Option.bind
 (ret1
 r1737)
 fun
 v1738 ↦
 Option.bind
 (AV.tup?
 v1738)
 fun
 vs1739 ↦
 Option.bind
 (uncons?
 vs1739)
 fun
 p1740 ↦
 Option.bind
 (AV.list?
 4
 p1740.fst)
 fun
 es1741 ↦
 Option.bind
 (uncons?
 p1740.snd)
 fun
 p1742 ↦
 Option.bind
 (AV.list?
 4
 p1742.fst)
 fun
 es1743 ↦
 Option.bind
 (nil?
 p1742.snd)
 fun
 _ ↦
 Option.bind
 (E
 cx
 (Key.fn
 33)
 [AV.list
 0
 4
 es1430,
 vi
 n1714]
 [])
 fun
 r1745 ↦
 Option.bind
 (ret1
 r1745)
 fun
 v1746 ↦
 Option.bind
 (AV.tup?
 v1746)
 fun
 vs1747 ↦
 Option.bind
 (uncons?
 vs1747)
 fun
 p1748 ↦
 Option.bind
 (AV.list?
 4
 p1748.fst)
 fun
 es1749 ↦
 Option.bind
 (uncons?
 p1748.snd)
 fun
 p1750 ↦
 Option.bind
 (AV.list?
 4
 p1750.fst)
 fun
 es1751 ↦
 Option.bind
 (nil?
 p1750.snd)
 fun
 _ ↦
 Option.bind
 (E
 cx
 (Key.fn
 31)
 [AV.list
 0
 4
 es1741,
 AV.list
 0
 4
 es1749]
 [])
 fun
 r1753 ↦
 Option.bind
 (ret1
 r1753)
 fun
 v1754 ↦
 Option.bind
 (AV.bool?
 v1754)
 fun
 b1755 ↦
 bif
 b1755 then
 Option.bind
 (E
 cx
 (Key.fn
 31)
 [AV.list
 0
 4
 es1743,
 AV.list
 0
 4
 es1751]
 [])
 fun
 r1756 ↦
 Option.bind
 (ret1
 r1756)
 fun
 v1757 ↦
 Option.bind
 (AV.bool?
 v1757)
 fun
 b1758 ↦
 bif
 b1758 then
 Option.bind
 (E
 cx
 (Key.fn
 34)
 [AV.list
 0
 4
 es1430]
 [])
 fun
 r1759 ↦
 Option.bind
 (ret1
 r1759)
 fun
 v1760 ↦
 Option.bind
 (AV.tup?
 v1760)
 fun
 vs1761 ↦
 Option.bind
 (uncons?
 vs1761)
 fun
 p1762 ↦
 Option.bind
 (AV.int?
 IntKind.i64
 p1762.fst)
 fun
 n1763 ↦
 Option.bind
 (uncons?
 p1762.snd)
 fun
 p1764 ↦
 Option.bind
 (AV.bool?
 p1764.fst)
 fun
 b1765 ↦
 bif
 b1765 then
 Option.bind
 (nil?
 p1764.snd)
 fun
 _ ↦
 Option.bind
 (E
 cx
 (Key.fn
 35)
 [AV.list
 0
 4
 es1430]
 [])
 fun
 r1767 ↦
 Option.bind
 (ret1
 r1767)
 fun
 v1768 ↦
 Option.bind
 (AV.tup?
 v1768)
 fun
 vs1769 ↦
 Option.bind
 (uncons?
 vs1769)
 fun
 p1770 ↦
 Option.bind
 (AV.int?
 IntKind.i64
 p1770.fst)
 fun
 n1771 ↦
 Option.bind
 (uncons?
 p1770.snd)
 fun
 p1772 ↦
 Option.bind
 (AV.bool?
 p1772.fst)
 fun
 b1773 ↦
 bif
 b1773 then
 Option.bind
 (nil?
 p1772.snd)
 fun
 _ ↦
 bif
 n1763 !=
 n1771 then
 some
 (Out.ret
 (vbool
 false),
 [])
 else
 Option.bind
 (E
 cx
 (Key.fn
 36)
 [AV.list
 0
 4
 es1430]
 [])
 fun
 r1775 ↦
 Option.bind
 (ret1
 r1775)
 fun
 v1776 ↦
 Option.bind
 (AV.bool?
 v1776)
 fun
 b1777 ↦
 bif
 b1777 then
 Option.bind
 (E
 cx
 (Key.fn
 37)
 [AV.list
 0
 4
 es1430]
 [])
 fun
 r1778 ↦
 Option.bind
 (ret1
 r1778)
 fun
 v1779 ↦
 Option.bind
 (AV.bool?
 v1779)
 fun
 b1780 ↦
 bif
 b1780 then
 Option.bind
 (E
 cx
 (Key.fn
 38)
 [AV.list
 0
 4
 es1430,
 vi
 peer11]
 [])
 fun
 r1781 ↦
 Option.bind
 (ret1
 r1781)
 fun
 v1782 ↦
 Option.bind
 (AV.list?
 4
 v1782)
 fun
 es1783 ↦
 Option.bind
 (E
 cx
 (Key.fn
 39)
 [AV.list
 0
 4
 es1430,
 vi
 peer11]
 [])
 fun
 r1784 ↦
 Option.bind
 (ret1
 r1784)
 fun
 v1785 ↦
 Option.bind
 (AV.list?
 4
 v1785)
 fun
 es1786 ↦
 Option.bind
 (E
 cx
 (Key.fn
 31)
 [AV.list
 0
 4
 es1783,
 AV.list
 0
 4
 es1786]
 [])
 fun
 r1787 ↦
 Option.bind
 (ret1
 r1787)
 fun
 v1788 ↦
 Option.bind
 (AV.bool?
 v1788)
 fun
 b1789 ↦
 bif
 b1789 then
 Option.bind
 (E
 cx
 (Key.fn
 28)
 [vi
 peer11,
 vi
 4]
 [])
 fun
 r1790 ↦
 Option.bind
 (ret1
 r1790)
 fun
 v1791 ↦
 Option.bind
 (AV.int?
 IntKind.i64
 v1791)
 fun
 n1792 ↦
 Option.bind
 (E
 cx
 (Key.fn
 38)
 [AV.list
 0
 4
 es1430,
 vi
 n1792]
 [])
 fun
 r1793 ↦
 Option.bind
 (ret1
 r1793)
 fun
 v1794 ↦
 Option.bind
 (AV.list?
 4
 v1794)
 fun
 es1795 ↦
 Option.bind
 (E
 cx
 (Key.fn
 28)
 [vi
 peer11,
 vi
 4]
 [])
 fun
 r1796 ↦
 Option.bind
 (ret1
 r1796)
 fun
 v1797 ↦
 Option.bind
 (AV.int?
 IntKind.i64
 v1797)
 fun
 n1798 ↦
 Option.bind
 (E
 cx
 (Key.fn
 39)
 [AV.list
 0
 4
 es1430,
 vi
 n1798]
 [])
 fun
 r1799 ↦
 Option.bind
 (ret1
 r1799)
 fun
 v1800 ↦
 Option.bind
 (AV.list?
 4
 v1800)
 fun
 es1801 ↦
 Option.bind
 (E
 cx
 (Key.fn
 31)
 [AV.list
 0
 4
 es1795,
 AV.list
 0
 4
 es1801]
 [])
 fun
 r1802 ↦
 Option.bind
 (ret1
 r1802)
 fun
 v1803 ↦
 Option.bind
 (AV.bool?
 v1803)
 fun
 b1804 ↦
 bif
 b1804 then
 some
 (Out.ret
 (vbool
 false),
 [])
 else
 some
 (Out.ret
 (vbool
 false),
 [])
 else
 some
 (Out.ret
 (vbool
 false),
 [])
 else
 some
 (Out.ret
 (vbool
 false),
 [])
 else
 Option.bind
 (E
 cx
 (Key.fn
 37)
 [AV.list
 0
 4
 es1430]
 [])
 fun
 r1805 ↦
 Option.bind
 (ret1
 r1805)
 fun
 v1806 ↦
 Option.bind
 (AV.bool?
 v1806)
 fun
 b1807 ↦
 bif
 b1807 then
 some
 (Out.ret
 (vbool
 false),
 [])
 else
 Option.bind
 (E
 cx
 (Key.fn
 38)
 [AV.list
 0
 4
 es1430,
 vi
 peer11]
 [])
 fun
 r1808 ↦
 Option.bind
 (ret1
 r1808)
 fun
 v1809 ↦
 Option.bind
 (AV.list?
 4
 v1809)
 fun
 es1810 ↦
 Option.bind
 (E
 cx
 (Key.fn
 39)
 [AV.list
 0
 4
 es1430,
 vi
 peer11]
 [])
 fun
 r1811 ↦
 Option.bind
 (ret1
 r1811)
 fun
 v1812 ↦
 Option.bind
 (AV.list?
 4
 v1812)
 fun
 es1813 ↦
 Option.bind
 (E
 cx
 (Key.fn
 31)
 [AV.list
 0
 4
 es1810,
 AV.list
 0
 4
 es1813]
 [])
 fun
 r1814 ↦
 Option.bind
 (ret1
 r1814)
 fun
 v1815 ↦
 Option.bind
 (AV.bool?
 v1815)
 fun
 b1816 ↦
 bif
 b1816 then
 Option.bind
 (E
 cx
 (Key.fn
 28)
 [vi
 peer11,
 vi
 4]
 [])
 fun
 r1817 ↦
 Option.bind
 (ret1
 r1817)
 fun
 v1818 ↦
 Option.bind
 (AV.int?
 IntKind.i64
 v1818)
 fun
 n1819 ↦
 Option.bind
 (E
 cx
 (Key.fn
 38)
 [AV.list
 0
 4
 es1430,
 vi
 n1819]
 [])
 fun
 r1820 ↦
 Option.bind
 (ret1
 r1820)
 fun
 v1821 ↦
 Option.bind
 (AV.list?
 4
 v1821)
 fun
 es1822 ↦
 Option.bind
 (E
 cx
 (Key.fn
 28)
 [vi
 peer11,
 vi
 4]
 [])
 fun
 r1823 ↦
 Option.bind
 (ret1
 r1823)
 fun
 v1824 ↦
 Option.bind
 (AV.int?
 IntKind.i64
 v1824)
 fun
 n1825 ↦
 Option.bind
 (E
 cx
 (Key.fn
 39)
 [AV.list
 0
 4
 es1430,
 vi
 n1825]
 [])
 fun
 r1826 ↦
 Option.bind
 (ret1
 r1826)
 fun
 v1827 ↦
 Option.bind
 (AV.list?
 4
 v1827)
 fun
 es1828 ↦
 Option.bind
 (E
 cx
 (Key.fn
 31)
 [AV.list
 0
 4
 es1822,
 AV.list
 0
 4
 es1828]
 [])
 fun
 r1829 ↦
 Option.bind
 (ret1
 r1829)
 fun
 v1830 ↦
 Option.bind
 (AV.bool?
 v1830)
 fun
 b1831 ↦
 bif
 b1831 then
 some
 (Out.ret
 (vbool
 false),
 [])
 else
 some
 (Out.ret
 (vbool
 false),
 [])
 else
 some
 (Out.ret
 (vbool
 false),
 [])
 else
 Option.bind
 (nil?
 p1772.snd)
 fun
 _ ↦
 bif
 n1763 !=
 n1771 then
 some
 (Out.ret
 (vbool
 false),
 [])
 else
 some
 (Out.ret
 (vbool
 false),
 [])
 else
 Option.bind
 (nil?
 p1764.snd)
 fun
 _ ↦
 Option.bind
 (E
 cx
 (Key.fn
 35)
 [AV.list
 0
 4
 es1430]
 [])
 fun
 r1834 ↦
 Option.bind
 (ret1
 r1834)
 fun
 v1835 ↦
 Option.bind
 (AV.tup?
 v1835)
 fun
 vs1836 ↦
 Option.bind
 (uncons?
 vs1836)
 fun
 p1837 ↦
 Option.bind
 (AV.int?
 IntKind.i64
 p1837.fst)
 fun
 n1838 ↦
 Option.bind
 (uncons?
 p1837.snd)
 fun
 p1839 ↦
 Option.bind
 (AV.bool?
 p1839.fst)
 fun
 b1840 ↦
 bif
 b1840 then
 Option.bind
 (nil?
 p1839.snd)
 fun
 _ ↦
 bif
 n1763 !=
 n1838 then
 some
 (Out.ret
 (vbool
 false),
 [])
 else
 some
 (Out.ret
 (vbool
 false),
 [])
 else
 Option.bind
 (nil?
 p1839.snd)
 fun
 _ ↦
 bif
 n1763 !=
 n1838 then
 some
 (Out.ret
 (vbool
 false),
 [])
 else
 Option.bind
 (E
 cx
 (Key.fn
 36)
 [AV.list
 0
 4
 es1430]
 [])
 fun
 r1843 ↦
 Option.bind
 (ret1
 r1843)
 fun
 v1844 ↦
 Option.bind
 (AV.bool?
 v1844)
 fun
 b1845 ↦
 bif
 b1845 then
 Option.bind
 (E
 cx
 (Key.fn
 37)
 [AV.list
 0
 4
 es1430]
 [])
 fun
 r1846 ↦
 Option.bind
 (ret1
 r1846)
 fun
 v1847 ↦
 Option.bind
 (AV.bool?
 v1847)
 fun
 b1848 ↦
 bif
 b1848 then
 Option.bind
 (E
 cx
 (Key.fn
 38)
 [AV.list
 0
 4
 es1430,
 vi
 peer11]
 [])
 fun
 r1849 ↦
 Option.bind
 (ret1
 r1849)
 fun
 v1850 ↦
 Option.bind
 (AV.list?
 4
 v1850)
 fun
 es1851 ↦
 Option.bind
 (E
 cx
 (Key.fn
 39)
 [AV.list
 0
 4
 es1430,
 vi
 peer11]
 [])
 fun
 r1852 ↦
 Option.bind
 (ret1
 r1852)
 fun
 v1853 ↦
 Option.bind
 (AV.list?
 4
 v1853)
 fun
 es1854 ↦
 Option.bind
 (E
 cx
 (Key.fn
 31)
 [AV.list
 0
 4
 es1851,
 AV.list
 0
 4
 es1854]
 [])
 fun
 r1855 ↦
 Option.bind
 (ret1
 r1855)
 fun
 v1856 ↦
 Option.bind
 (AV.bool?
 v1856)
 fun
 b1857 ↦
 bif
 b1857 then
 Option.bind
 (E
 cx
 (Key.fn
 28)
 [vi
 peer11,
 vi
 4]
 [])
 fun
 r1858 ↦
 Option.bind
 (ret1
 r1858)
 fun
 v1859 ↦
 Option.bind
 (AV.int?
 IntKind.i64
 v1859)
 fun
 n1860 ↦
 Option.bind
 (E
 cx
 (Key.fn
 38)
 [AV.list
 0
 4
 es1430,
 vi
 n1860]
 [])
 fun
 r1861 ↦
 Option.bind
 (ret1
 r1861)
 fun
 v1862 ↦
 Option.bind
 (AV.list?
 4
 v1862)
 fun
 es1863 ↦
 Option.bind
 (E
 cx
 (Key.fn
 28)
 [vi
 peer11,
 vi
 4]
 [])
 fun
 r1864 ↦
 Option.bind
 (ret1
 r1864)
 fun
 v1865 ↦
 Option.bind
 (AV.int?
 IntKind.i64
 v1865)
 fun
 n1866 ↦
 Option.bind
 (E
 cx
 (Key.fn
 39)
 [AV.list
 0
 4
 es1430,
 vi
 n1866]
 [])
 fun
 r1867 ↦
 Option.bind
 (ret1
 r1867)
 fun
 v1868 ↦
 Option.bind
 (AV.list?
 4
 v1868)
 fun
 es1869 ↦
 Option.bind
 (E
 cx
 (Key.fn
 31)
 [AV.list
 0
 4
 es1863,
 AV.list
 0
 4
 es1869]
 [])
 fun
 r1870 ↦
 Option.bind
 (ret1
 r1870)
 fun
 v1871 ↦
 Option.bind
 (AV.bool?
 v1871)
 fun
 b1872 ↦
 bif
 b1872 then
 some
 (Out.ret
 (vbool
 false),
 [])
 else
 some
 (Out.ret
 (vbool
 false),
 [])
 else
 some
 (Out.ret
 (vbool
 false),
 [])
 else
 some
 (Out.ret
 (vbool
 false),
 [])
 else
 Option.bind
 (E
 cx
 (Key.fn
 37)
 [AV.list
 0
 4
 es1430]
 [])
 fun
 r1873 ↦
 Option.bind
 (ret1
 r1873)
 fun
 v1874 ↦
 Option.bind
 (AV.bool?
 v1874)
 fun
 b1875 ↦
 bif
 b1875 then
 some
 (Out.ret
 (vbool
 false),
 [])
 else
 Option.bind
 (E
 cx
 (Key.fn
 38)
 [AV.list
 0
 4
 es1430,
 vi
 peer11]
 [])
 fun
 r1876 ↦
 Option.bind
 (ret1
 r1876)
 fun
 v1877 ↦
 Option.bind
 (AV.list?
 4
 v1877)
 fun
 es1878 ↦
 Option.bind
 (E
 cx
 (Key.fn
 39)
 [AV.list
 0
 4
 es1430,
 vi
 peer11]
 [])
 fun
 r1879 ↦
 Option.bind
 (ret1
 r1879)
 fun
 v1880 ↦
 Option.bind
 (AV.list?
 4
 v1880)
 fun
 es1881 ↦
 Option.bind
 (E
 cx
 (Key.fn
 31)
 [AV.list
 0
 4
 es1878,
 AV.list
 0
 4
 es1881]
 [])
 fun
 r1882 ↦
 Option.bind
 (ret1
 r1882)
 fun
 v1883 ↦
 Option.bind
 (AV.bool?
 v1883)
 fun
 b1884 ↦
 bif
 b1884 then
 Option.bind
 (E
 cx
 (Key.fn
 28)
 [vi
 peer11,
 vi
 4]
 [])
 fun
 r1885 ↦
 Option.bind
 (ret1
 r1885)
 fun
 v1886 ↦
 Option.bind
 (AV.int?
 IntKind.i64
 v1886)
 fun
 n1887 ↦
 Option.bind
 (E
 cx
 (Key.fn
 38)
 [AV.list
 0
 4
 es1430,
 vi
 n1887]
 [])
 fun
 r1888 ↦
 Option.bind
 (ret1
 r1888)
 fun
 v1889 ↦
 Option.bind
 (AV.list?
 4
 v1889)
 fun
 es1890 ↦
 Option.bind
 (E
 cx
 (Key.fn
 28)
 [vi
 peer11,
 vi
 4]
 [])
 fun
 r1891 ↦
 Option.bind
 (ret1
 r1891)
 fun
 v1892 ↦
 Option.bind
 (AV.int?
 IntKind.i64
 v1892)
 fun
 n1893 ↦
 Option.bind
 (E
 cx
 (Key.fn
 39)
 [AV.list
 0
 4
 es1430,
 vi
 n1893]
 [])
 fun
 r1894 ↦
 Option.bind
 (ret1
 r1894)
 fun
 v1895 ↦
 Option.bind
 (AV.list?
 4
 v1895)
 fun
 es1896 ↦
 Option.bind
 (E
 cx
 (Key.fn
 31)
 [AV.list
 0
 4
 es1890,
 AV.list
 0
 4
 es1896]
 [])
 fun
 r1897 ↦
 Option.bind
 (ret1
 r1897)
 fun
 v1898 ↦
 Option.bind
 (AV.bool?
 v1898)
 fun
 b1899 ↦
 bif
 b1899 then
 some
 (Out.ret
 (vbool
 false),
 [])
 else
 some
 (Out.ret
 (vbool
 false),
 [])
 else
 some
 (Out.ret
 (vbool
 false),
 [])
 else
 some
 (Out.ret
 (vbool
 false),
 [])
 else
 some
 (Out.ret
 (vbool
 false),
 [])
 else
 some
 (Out.ret
 (vbool
 false),
 [])
 else
 some
 (Out.ret
 (vbool
 false),
 [])
 else
 some
 (Out.ret
 (vbool
 false),
 [])
 else
 some
 (Out.ret
 (vbool
 false),
 [])
 else
 some
 (Out.ret
 (vbool
 false),
 [])
 else
 some
 (Out.ret
 (vbool
 false),
 [])
 else
 some
 (Out.ret
 (vbool
 false),
 [])
 else
 some
 (Out.ret
 (vbool
 false),
 [])
 else
 some
 (Out.ret
 (vbool
 false),
 [])
 else
 Option.bind
 (E
 cx
 (Key.fn
 37)
 [AV.list
 0
 4
 (List.drop
 0
 (List.take
 (Int.toNat
 (if
 40 <
 ((List.length
 wild0) : Int) then
 40
 else
 ((List.length
 wild0) : Int)))
 wild0))]
 [])
 fun
 r1900 ↦
 Option.bind
 (ret1
 r1900)
 fun
 v1901 ↦
 Option.bind
 (AV.bool?
 v1901)
 fun
 b1902 ↦
 bif
 b1902 then
 some
 (Out.ret
 (vbool
 false),
 [])
 else
 Option.bind
 (E
 cx
 (Key.fn
 38)
 [AV.list
 0
 4
 (List.drop
 0
 (List.take
 (Int.toNat
 (if
 40 <
 ((List.length
 wild0) : Int) then
 40
 else
 ((List.length
 wild0) : Int)))
 wild0)),
 vi
 peer11]
 [])
 fun
 r1903 ↦
 Option.bind
 (ret1
 r1903)
 fun
 v1904 ↦
 Option.bind
 (AV.list?
 4
 v1904)
 fun
 es1905 ↦
 Option.bind
 (E
 cx
 (Key.fn
 39)
 [AV.list
 0
 4
 (List.drop
 0
 (List.take
 (Int.toNat
 (if
 40 <
 ((List.length
 wild0) : Int) then
 40
 else
 ((List.length
 wild0) : Int)))
 wild0)),
 vi
 peer11]
 [])
 fun
 r1906 ↦
 Option.bind
 (ret1
 r1906)
 fun
 v1907 ↦
 Option.bind
 (AV.list?
 4
 v1907)
 fun
 es1908 ↦
 Option.bind
 (E
 cx
 (Key.fn
 31)
 [AV.list
 0
 4
 es1905,
 AV.list
 0
 4
 es1908]
 [])
 fun
 r1909 ↦
 Option.bind
 (ret1
 r1909)
 fun
 v1910 ↦
 Option.bind
 (AV.bool?
 v1910)
 fun
 b1911 ↦
 bif
 b1911 then
 Option.bind
 (E
 cx
 (Key.fn
 28)
 [vi
 peer11,
 vi
 4]
 [])
 fun
 r1912 ↦
 Option.bind
 (ret1
 r1912)
 fun
 v1913 ↦
 Option.bind
 (AV.int?
 IntKind.i64
 v1913)
 fun
 n1914 ↦
 Option.bind
 (E
 cx
 (Key.fn
 38)
 [AV.list
 0
 4
 (List.drop
 0
 (List.take
 (Int.toNat
 (if
 40 <
 ((List.length
 wild0) : Int) then
 40
 else
 ((List.length
 wild0) : Int)))
 wild0)),
 vi
 n1914]
 [])
 fun
 r1915 ↦
 Option.bind
 (ret1
 r1915)
 fun
 v1916 ↦
 Option.bind
 (AV.list?
 4
 v1916)
 fun
 es1917 ↦
 Option.bind
 (E
 cx
 (Key.fn
 28)
 [vi
 peer11,
 vi
 4]
 [])
 fun
 r1918 ↦
 Option.bind
 (ret1
 r1918)
 fun
 v1919 ↦
 Option.bind
 (AV.int?
 IntKind.i64
 v1919)
 fun
 n1920 ↦
 Option.bind
 (E
 cx
 (Key.fn
 39)
 [AV.list
 0
 4
 (List.drop
 0
 (List.take
 (Int.toNat
 (if
 40 <
 ((List.length
 wild0) : Int) then
 40
 else
 ((List.length
 wild0) : Int)))
 wild0)),
 vi
 n1920]
 [])
 fun
 r1921 ↦
 Option.bind
 (ret1
 r1921)
 fun
 v1922 ↦
 Option.bind
 (AV.list?
 4
 v1922)
 fun
 es1923 ↦
 Option.bind
 (E
 cx
 (Key.fn
 31)
 [AV.list
 0
 4
 es1917,
 AV.list
 0
 4
 es1923]
 [])
 fun
 r1924 ↦
 Option.bind
 (ret1
 r1924)
 fun
 v1925 ↦
 Option.bind
 (AV.bool?
 v1925)
 fun
 b1926 ↦
 bif
 b1926 then
 Option.bind
 (E
 cx
 (Key.fn
 27)
 [AV.agg
 [vi
 k6,
 vi
 k7,
 vi
 k8]]
 [])
 fun
 r1927 ↦
 Option.bind
 (ret1
 r1927)
 fun
 v1928 ↦
 Option.bind
 (AV.cells?
 v1928)
 fun
 cs1929 ↦
 Option.bind
 (uncons?
 cs1929)
 fun
 p1930 ↦
 Option.bind
 (AV.int?
 IntKind.i64
 p1930.fst)
 fun
 n1931 ↦
 Option.bind
 (uncons?
 p1930.snd)
 fun
 p1932 ↦
 Option.bind
 (AV.int?
 IntKind.i64
 p1932.fst)
 fun
 n1933 ↦
 Option.bind
 (uncons?
 p1932.snd)
 fun
 p1934 ↦
 Option.bind
 (AV.int?
 IntKind.i64
 p1934.fst)
 fun
 n1935 ↦
 Option.bind
 (uncons?
 p1934.snd)
 fun
 p1936 ↦
 Option.bind
 (AV.str?
 p1936.fst)
 fun
 s1937 ↦
 Option.bind
 (nil?
 p1936.snd)
 fun
 _ ↦
 Option.bind
 (E
 cx
 (Key.fn
 28)
 [vi
 room9,
 vi
 35]
 [])
 fun
 r1939 ↦
 Option.bind
 (ret1
 r1939)
 fun
 v1940 ↦
 Option.bind
 (AV.int?
 IntKind.i64
 v1940)
 fun
 n1941 ↦
 Option.bind
 (E
 cx
 (Key.fn
 29)
 [AV.list
 0
 4
 es1430,
 vi
 room9,
 AV.agg
 [vi
 odd2,
 vi
 odd3,
 vi
 odd4,
 vs
 odd5]]
 [])
 fun
 r1942 ↦
 Option.bind
 (ret1
 r1942)
 fun
 v1943 ↦
 Option.bind
 (AV.tup?
 v1943)
 fun
 vs1944 ↦
 Option.bind
 (uncons?
 vs1944)
 fun
 p1945 ↦
 Option.bind
 (AV.list?
 4
 p1945.fst)
 fun
 es1946 ↦
 Option.bind
 (uncons?
 p1945.snd)
 fun
 p1947 ↦
 Option.bind
 (AV.int?
 IntKind.i64
 p1947.fst)
 fun
 n1948 ↦
 Option.bind
 (nil?
 p1947.snd)
 fun
 _ ↦
 Option.bind
 (E
 cx
 (Key.fn
 30)
 [AV.list
 0
 4
 es1430,
 vi
 room9,
 AV.agg
 [vi
 odd2,
 vi
 odd3,
 vi
 odd4,
 vs
 odd5]]
 [])
 fun
 r1950 ↦
 Option.bind
 (ret1
 r1950)
 fun
 v1951 ↦
 Option.bind
 (AV.tup?
 v1951)
 fun
 vs1952 ↦
 Option.bind
 (uncons?
 vs1952)
 fun
 p1953 ↦
 Option.bind
 (AV.list?
 4
 p1953.fst)
 fun
 es1954 ↦
 Option.bind
 (uncons?
 p1953.snd)
 fun
 p1955 ↦
 Option.bind
 (AV.int?
 IntKind.i64
 p1955.fst)
 fun
 n1956 ↦
 Option.bind
 (nil?
 p1955.snd)
 fun
 _ ↦
 bif
 n1948 !=
 n1956 then
 some
 (Out.ret
 (vbool
 false),
 [])
 else
 Option.bind
 (E
 cx
 (Key.fn
 31)
 [AV.list
 0
 4
 es1946,
 AV.list
 0
 4
 es1954]
 [])
 fun
 r1958 ↦
 Option.bind
 (ret1
 r1958)
 fun
 v1959 ↦
 Option.bind
 (AV.bool?
 v1959)
 fun
 b1960 ↦
 bif
 b1960 then
 Option.bind
 (E
 cx
 (Key.fn
 29)
 [AV.list
 0
 4
 es1430,
 vi
 n1941,
 AV.agg
 [vi
 odd2,
 vi
 odd3,
 vi
 odd4,
 vs
 odd5]]
 [])
 fun
 r1961 ↦
 Option.bind
 (ret1
 r1961)
 fun
 v1962 ↦
 Option.bind
 (AV.tup?
 v1962)
 fun
 vs1963 ↦
 Option.bind
 (uncons?
 vs1963)
 fun
 p1964 ↦
 Option.bind
 (AV.list?
 4
 p1964.fst)
 fun
 es1965 ↦
 Option.bind
 (uncons?
 p1964.snd)
 fun
 p1966 ↦
 Option.bind
 (AV.int?
 IntKind.i64
 p1966.fst)
 fun
 n1967 ↦
 Option.bind
 (nil?
 p1966.snd)
 fun
 _ ↦
 Option.bind
 (E
 cx
 (Key.fn
 30)
 [AV.list
 0
 4
 es1430,
 vi
 n1941,
 AV.agg
 [vi
 odd2,
 vi
 odd3,
 vi
 odd4,
 vs
 odd5]]
 [])
 fun
 r1969 ↦
 Option.bind
 (ret1
 r1969)
 fun
 v1970 ↦
 Option.bind
 (AV.tup?
 v1970)
 fun
 vs1971 ↦
 Option.bind
 (uncons?
 vs1971)
 fun
 p1972 ↦
 Option.bind
 (AV.list?
 4
 p1972.fst)
 fun
 es1973 ↦
 Option.bind
 (uncons?
 p1972.snd)
 fun
 p1974 ↦
 Option.bind
 (AV.int?
 IntKind.i64
 p1974.fst)
 fun
 n1975 ↦
 Option.bind
 (nil?
 p1974.snd)
 fun
 _ ↦
 bif
 n1967 !=
 n1975 then
 some
 (Out.ret
 (vbool
 false),
 [])
 else
 Option.bind
 (E
 cx
 (Key.fn
 31)
 [AV.list
 0
 4
 es1965,
 AV.list
 0
 4
 es1973]
 [])
 fun
 r1977 ↦
 Option.bind
 (ret1
 r1977)
 fun
 v1978 ↦
 Option.bind
 (AV.bool?
 v1978)
 fun
 b1979 ↦
 bif
 b1979 then
 Option.bind
 (E
 cx
 (Key.fn
 28)
 [vi
 room9,
 vi
 35]
 [])
 fun
 r1980 ↦
 Option.bind
 (ret1
 r1980)
 fun
 v1981 ↦
 Option.bind
 (AV.int?
 IntKind.i64
 v1981)
 fun
 n1982 ↦
 Option.bind
 (E
 cx
 (Key.fn
 29)
 [AV.list
 0
 4
 es1430,
 vi
 room9,
 AV.agg
 [vi
 n1931,
 vi
 n1933,
 vi
 n1935,
 vs
 s1937]]
 [])
 fun
 r1983 ↦
 Option.bind
 (ret1
 r1983)
 fun
 v1984 ↦
 Option.bind
 (AV.tup?
 v1984)
 fun
 vs1985 ↦
 Option.bind
 (uncons?
 vs1985)
 fun
 p1986 ↦
 Option.bind
 (AV.list?
 4
 p1986.fst)
 fun
 es1987 ↦
 Option.bind
 (uncons?
 p1986.snd)
 fun
 p1988 ↦
 Option.bind
 (AV.int?
 IntKind.i64
 p1988.fst)
 fun
 n1989 ↦
 Option.bind
 (nil?
 p1988.snd)
 fun
 _ ↦
 Option.bind
 (E
 cx
 (Key.fn
 30)
 [AV.list
 0
 4
 es1430,
 vi
 room9,
 AV.agg
 [vi
 n1931,
 vi
 n1933,
 vi
 n1935,
 vs
 s1937]]
 [])
 fun
 r1991 ↦
 Option.bind
 (ret1
 r1991)
 fun
 v1992 ↦
 Option.bind
 (AV.tup?
 v1992)
 fun
 vs1993 ↦
 Option.bind
 (uncons?
 vs1993)
 fun
 p1994 ↦
 Option.bind
 (AV.list?
 4
 p1994.fst)
 fun
 es1995 ↦
 Option.bind
 (uncons?
 p1994.snd)
 fun
 p1996 ↦
 Option.bind
 (AV.int?
 IntKind.i64
 p1996.fst)
 fun
 n1997 ↦
 Option.bind
 (nil?
 p1996.snd)
 fun
 _ ↦
 bif
 n1989 !=
 n1997 then
 some
 (Out.ret
 (vbool
 false),
 [])
 else
 Option.bind
 (E
 cx
 (Key.fn
 31)
 [AV.list
 0
 4
 es1987,
 AV.list
 0
 4
 es1995]
 [])
 fun
 r1999 ↦
 Option.bind
 (ret1
 r1999)
 fun
 v2000 ↦
 Option.bind
 (AV.bool?
 v2000)
 fun
 b2001 ↦
 bif
 b2001 then
 Option.bind
 (E
 cx
 (Key.fn
 29)
 [AV.list
 0
 4
 es1430,
 vi
 n1982,
 AV.agg
 [vi
 n1931,
 vi
 n1933,
 vi
 n1935,
 vs
 s1937]]
 [])
 fun
 r2002 ↦
 Option.bind
 (ret1
 r2002)
 fun
 v2003 ↦
 Option.bind
 (AV.tup?
 v2003)
 fun
 vs2004 ↦
 Option.bind
 (uncons?
 vs2004)
 fun
 p2005 ↦
 Option.bind
 (AV.list?
 4
 p2005.fst)
 fun
 es2006 ↦
 Option.bind
 (uncons?
 p2005.snd)
 fun
 p2007 ↦
 Option.bind
 (AV.int?
 IntKind.i64
 p2007.fst)
 fun
 n2008 ↦
 Option.bind
 (nil?
 p2007.snd)
 fun
 _ ↦
 Option.bind
 (E
 cx
 (Key.fn
 30)
 [AV.list
 0
 4
 es1430,
 vi
 n1982,
 AV.agg
 [vi
 n1931,
 vi
 n1933,
 vi
 n1935,
 vs
 s1937]]
 [])
 fun
 r2010 ↦
 Option.bind
 (ret1
 r2010)
 fun
 v2011 ↦
 Option.bind
 (AV.tup?
 v2011)
 fun
 vs2012 ↦
 Option.bind
 (uncons?
 vs2012)
 fun
 p2013 ↦
 Option.bind
 (AV.list?
 4
 p2013.fst)
 fun
 es2014 ↦
 Option.bind
 (uncons?
 p2013.snd)
 fun
 p2015 ↦
 Option.bind
 (AV.int?
 IntKind.i64
 p2015.fst)
 fun
 n2016 ↦
 Option.bind
 (nil?
 p2015.snd)
 fun
 _ ↦
 bif
 n2008 !=
 n2016 then
 some
 (Out.ret
 (vbool
 false),
 [])
 else
 Option.bind
 (E
 cx
 (Key.fn
 31)
 [AV.list
 0
 4
 es2006,
 AV.list
 0
 4
 es2014]
 [])
 fun
 r2018 ↦
 Option.bind
 (ret1
 r2018)
 fun
 v2019 ↦
 Option.bind
 (AV.bool?
 v2019)
 fun
 b2020 ↦
 bif
 b2020 then
 Option.bind
 (E
 cx
 (Key.fn
 28)
 [vi
 tick10,
 vi
 8]
 [])
 fun
 r2021 ↦
 Option.bind
 (ret1
 r2021)
 fun
 v2022 ↦
 Option.bind
 (AV.int?
 IntKind.i64
 v2022)
 fun
 n2023 ↦
 Option.bind
 (E
 cx
 (Key.fn
 32)
 [AV.list
 0
 4
 es1430,
 vi
 tick10]
 [])
 fun
 r2024 ↦
 Option.bind
 (ret1
 r2024)
 fun
 v2025 ↦
 Option.bind
 (AV.tup?
 v2025)
 fun
 vs2026 ↦
 Option.bind
 (uncons?
 vs2026)
 fun
 p2027 ↦
 Option.bind
 (AV.list?
 4
 p2027.fst)
 fun
 es2028 ↦
 Option.bind
 (uncons?
 p2027.snd)
 fun
 p2029 ↦
 Option.bind
 (AV.list?
 4
 p2029.fst)
 fun
 es2030 ↦
 Option.bind
 (nil?
 p2029.snd)
 fun
 _ ↦
 Option.bind
 (E
 cx
 (Key.fn
 33)
 [AV.list
 0
 4
 es1430,
 vi
 tick10]
 [])
 fun
 r2032 ↦
 Option.bind
 (ret1
 r2032)
 fun
 v2033 ↦
 Option.bind
 (AV.tup?
 v2033)
 fun
 vs2034 ↦
 Option.bind
 (uncons?
 vs2034)
 fun
 p2035 ↦
 Option.bind
 (AV.list?
 4
 p2035.fst)
 fun
 es2036 ↦
 Option.bind
 (uncons?
 p2035.snd)
 fun
 p2037 ↦
 Option.bind
 (AV.list?
 4
 p2037.fst)
 fun
 es2038 ↦
 Option.bind
 (nil?
 p2037.snd)
 fun
 _ ↦
 Option.bind
 (E
 cx
 (Key.fn
 31)
 [AV.list
 0
 4
 es2028,
 AV.list
 0
 4
 es2036]
 [])
 fun
 r2040 ↦
 Option.bind
 (ret1
 r2040)
 fun
 v2041 ↦
 Option.bind
 (AV.bool?
 v2041)
 fun
 b2042 ↦
 bif
 b2042 then
 Option.bind
 (E
 cx
 (Key.fn
 31)
 [AV.list
 0
 4
 es2030,
 AV.list
 0
 4
 es2038]
 [])
 fun
 r2043 ↦
 Option.bind
 (ret1
 r2043)
 fun
 v2044 ↦
 Option.bind
 (AV.bool?
 v2044)
 fun
 b2045 ↦
 bif
 b2045 then
 Option.bind
 (E
 cx
 (Key.fn
 32)
 [AV.list
 0
 4
 es1430,
 vi
 n2023]
 [])
 fun
 r2046 ↦
 Option.bind
 (ret1
 r2046)
 fun
 v2047 ↦
 Option.bind
 (AV.tup?
 v2047)
 fun
 vs2048 ↦
 Option.bind
 (uncons?
 vs2048)
 fun
 p2049 ↦
 Option.bind
 (AV.list?
 4
 p2049.fst)
 fun
 es2050 ↦
 Option.bind
 (uncons?
 p2049.snd)
 fun
 p2051 ↦
 Option.bind
 (AV.list?
 4
 p2051.fst)
 fun
 es2052 ↦
 Option.bind
 (nil?
 p2051.snd)
 fun
 _ ↦
 Option.bind
 (E
 cx
 (Key.fn
 33)
 [AV.list
 0
 4
 es1430,
 vi
 n2023]
 [])
 fun
 r2054 ↦
 Option.bind
 (ret1
 r2054)
 fun
 v2055 ↦
 Option.bind
 (AV.tup?
 v2055)
 fun
 vs2056 ↦
 Option.bind
 (uncons?
 vs2056)
 fun
 p2057 ↦
 Option.bind
 (AV.list?
 4
 p2057.fst)
 fun
 es2058 ↦
 Option.bind
 (uncons?
 p2057.snd)
 fun
 p2059 ↦
 Option.bind
 (AV.list?
 4
 p2059.fst)
 fun
 es2060 ↦
 Option.bind
 (nil?
 p2059.snd)
 fun
 _ ↦
 Option.bind
 (E
 cx
 (Key.fn
 31)
 [AV.list
 0
 4
 es2050,
 AV.list
 0
 4
 es2058]
 [])
 fun
 r2062 ↦
 Option.bind
 (ret1
 r2062)
 fun
 v2063 ↦
 Option.bind
 (AV.bool?
 v2063)
 fun
 b2064 ↦
 bif
 b2064 then
 Option.bind
 (E
 cx
 (Key.fn
 31)
 [AV.list
 0
 4
 es2052,
 AV.list
 0
 4
 es2060]
 [])
 fun
 r2065 ↦
 Option.bind
 (ret1
 r2065)
 fun
 v2066 ↦
 Option.bind
 (AV.bool?
 v2066)
 fun
 b2067 ↦
 bif
 b2067 then
 Option.bind
 (E
 cx
 (Key.fn
 34)
 [AV.list
 0
 4
 es1430]
 [])
 fun
 r2068 ↦
 Option.bind
 (ret1
 r2068)
 fun
 v2069 ↦
 Option.bind
 (AV.tup?
 v2069)
 fun
 vs2070 ↦
 Option.bind
 (uncons?
 vs2070)
 fun
 p2071 ↦
 Option.bind
 (AV.int?
 IntKind.i64
 p2071.fst)
 fun
 n2072 ↦
 Option.bind
 (uncons?
 p2071.snd)
 fun
 p2073 ↦
 Option.bind
 (AV.bool?
 p2073.fst)
 fun
 b2074 ↦
 bif
 b2074 then
 Option.bind
 (nil?
 p2073.snd)
 fun
 _ ↦
 Option.bind
 (E
 cx
 (Key.fn
 35)
 [AV.list
 0
 4
 es1430]
 [])
 fun
 r2076 ↦
 Option.bind
 (ret1
 r2076)
 fun
 v2077 ↦
 Option.bind
 (AV.tup?
 v2077)
 fun
 vs2078 ↦
 Option.bind
 (uncons?
 vs2078)
 fun
 p2079 ↦
 Option.bind
 (AV.int?
 IntKind.i64
 p2079.fst)
 fun
 n2080 ↦
 Option.bind
 (uncons?
 p2079.snd)
 fun
 p2081 ↦
 Option.bind
 (AV.bool?
 p2081.fst)
 fun
 b2082 ↦
 bif
 b2082 then
 Option.bind
 (nil?
 p2081.snd)
 fun
 _ ↦
 bif
 n2072 !=
 n2080 then
 some
 (Out.ret
 (vbool
 false),
 [])
 else
 Option.bind
 (E
 cx
 (Key.fn
 36)
 [AV.list
 0
 4
 es1430]
 [])
 fun
 r2084 ↦
 Option.bind
 (ret1
 r2084)
 fun
 v2085 ↦
 Option.bind
 (AV.bool?
 v2085)
 fun
 b2086 ↦
 bif
 b2086 then
 Option.bind
 (E
 cx
 (Key.fn
 37)
 [AV.list
 0
 4
 es1430]
 [])
 fun
 r2087 ↦
 Option.bind
 (ret1
 r2087)
 fun
 v2088 ↦
 Option.bind
 (AV.bool?
 v2088)
 fun
 b2089 ↦
 bif
 b2089 then
 Option.bind
 (E
 cx
 (Key.fn
 38)
 [AV.list
 0
 4
 es1430,
 vi
 peer11]
 [])
 fun
 r2090 ↦
 Option.bind
 (ret1
 r2090)
 fun
 v2091 ↦
 Option.bind
 (AV.list?
 4
 v2091)
 fun
 es2092 ↦
 Option.bind
 (E
 cx
 (Key.fn
 39)
 [AV.list
 0
 4
 es1430,
 vi
 peer11]
 [])
 fun
 r2093 ↦
 Option.bind
 (ret1
 r2093)
 fun
 v2094 ↦
 Option.bind
 (AV.list?
 4
 v2094)
 fun
 es2095 ↦
 Option.bind
 (E
 cx
 (Key.fn
 31)
 [AV.list
 0
 4
 es2092,
 AV.list
 0
 4
 es2095]
 [])
 fun
 r2096 ↦
 Option.bind
 (ret1
 r2096)
 fun
 v2097 ↦
 Option.bind
 (AV.bool?
 v2097)
 fun
 b2098 ↦
 bif
 b2098 then
 Option.bind
 (E
 cx
 (Key.fn
 28)
 [vi
 peer11,
 vi
 4]
 [])
 fun
 r2099 ↦
 Option.bind
 (ret1
 r2099)
 fun
 v2100 ↦
 Option.bind
 (AV.int?
 IntKind.i64
 v2100)
 fun
 n2101 ↦
 Option.bind
 (E
 cx
 (Key.fn
 38)
 [AV.list
 0
 4
 es1430,
 vi
 n2101]
 [])
 fun
 r2102 ↦
 Option.bind
 (ret1
 r2102)
 fun
 v2103 ↦
 Option.bind
 (AV.list?
 4
 v2103)
 fun
 es2104 ↦
 Option.bind
 (E
 cx
 (Key.fn
 28)
 [vi
 peer11,
 vi
 4]
 [])
 fun
 r2105 ↦
 Option.bind
 (ret1
 r2105)
 fun
 v2106 ↦
 Option.bind
 (AV.int?
 IntKind.i64
 v2106)
 fun
 n2107 ↦
 Option.bind
 (E
 cx
 (Key.fn
 39)
 [AV.list
 0
 4
 es1430,
 vi
 n2107]
 [])
 fun
 r2108 ↦
 Option.bind
 (ret1
 r2108)
 fun
 v2109 ↦
 Option.bind
 (AV.list?
 4
 v2109)
 fun
 es2110 ↦
 Option.bind
 (E
 cx
 (Key.fn
 31)
 [AV.list
 0
 4
 es2104,
 AV.list
 0
 4
 es2110]
 [])
 fun
 r2111 ↦
 Option.bind
 (ret1
 r2111)
 fun
 v2112 ↦
 Option.bind
 (AV.bool?
 v2112)
 fun
 b2113 ↦
 bif
 b2113 then
 some
 (Out.ret
 (vbool
 false),
 [])
 else
 some
 (Out.ret
 (vbool
 false),
 [])
 else
 some
 (Out.ret
 (vbool
 false),
 [])
 else
 some
 (Out.ret
 (vbool
 false),
 [])
 else
 Option.bind
 (E
 cx
 (Key.fn
 37)
 [AV.list
 0
 4
 es1430]
 [])
 fun
 r2114 ↦
 Option.bind
 (ret1
 r2114)
 fun
 v2115 ↦
 Option.bind
 (AV.bool?
 v2115)
 fun
 b2116 ↦
 bif
 b2116 then
 some
 (Out.ret
 (vbool
 false),
 [])
 else
 Option.bind
 (E
 cx
 (Key.fn
 38)
 [AV.list
 0
 4
 es1430,
 vi
 peer11]
 [])
 fun
 r2117 ↦
 Option.bind
 (ret1
 r2117)
 fun
 v2118 ↦
 Option.bind
 (AV.list?
 4
 v2118)
 fun
 es2119 ↦
 Option.bind
 (E
 cx
 (Key.fn
 39)
 [AV.list
 0
 4
 es1430,
 vi
 peer11]
 [])
 fun
 r2120 ↦
 Option.bind
 (ret1
 r2120)
 fun
 v2121 ↦
 Option.bind
 (AV.list?
 4
 v2121)
 fun
 es2122 ↦
 Option.bind
 (E
 cx
 (Key.fn
 31)
 [AV.list
 0
 4
 es2119,
 AV.list
 0
 4
 es2122]
 [])
 fun
 r2123 ↦
 Option.bind
 (ret1
 r2123)
 fun
 v2124 ↦
 Option.bind
 (AV.bool?
 v2124)
 fun
 b2125 ↦
 bif
 b2125 then
 Option.bind
 (E
 cx
 (Key.fn
 28)
 [vi
 peer11,
 vi
 4]
 [])
 fun
 r2126 ↦
 Option.bind
 (ret1
 r2126)
 fun
 v2127 ↦
 Option.bind
 (AV.int?
 IntKind.i64
 v2127)
 fun
 n2128 ↦
 Option.bind
 (E
 cx
 (Key.fn
 38)
 [AV.list
 0
 4
 es1430,
 vi
 n2128]
 [])
 fun
 r2129 ↦
 Option.bind
 (ret1
 r2129)
 fun
 v2130 ↦
 Option.bind
 (AV.list?
 4
 v2130)
 fun
 es2131 ↦
 Option.bind
 (E
 cx
 (Key.fn
 28)
 [vi
 peer11,
 vi
 4]
 [])
 fun
 r2132 ↦
 Option.bind
 (ret1
 r2132)
 fun
 v2133 ↦
 Option.bind
 (AV.int?
 IntKind.i64
 v2133)
 fun
 n2134 ↦
 Option.bind
 (E
 cx
 (Key.fn
 39)
 [AV.list
 0
 4
 es1430,
 vi
 n2134]
 [])
 fun
 r2135 ↦
 Option.bind
 (ret1
 r2135)
 fun
 v2136 ↦
 Option.bind
 (AV.list?
 4
 v2136)
 fun
 es2137 ↦
 Option.bind
 (E
 cx
 (Key.fn
 31)
 [AV.list
 0
 4
 es2131,
 AV.list
 0
 4
 es2137]
 [])
 fun
 r2138 ↦
 Option.bind
 (ret1
 r2138)
 fun
 v2139 ↦
 Option.bind
 (AV.bool?
 v2139)
 fun
 b2140 ↦
 bif
 b2140 then
 some
 (Out.ret
 (vbool
 false),
 [])
 else
 some
 (Out.ret
 (vbool
 false),
 [])
 else
 some
 (Out.ret
 (vbool
 false),
 [])
 else
 Option.bind
 (nil?
 p2081.snd)
 fun
 _ ↦
 bif
 n2072 !=
 n2080 then
 some
 (Out.ret
 (vbool
 false),
 [])
 else
 some
 (Out.ret
 (vbool
 false),
 [])
 else
 Option.bind
 (nil?
 p2073.snd)
 fun
 _ ↦
 Option.bind
 (E
 cx
 (Key.fn
 35)
 [AV.list
 0
 4
 es1430]
 [])
 fun
 r2143 ↦
 Option.bind
 (ret1
 r2143)
 fun
 v2144 ↦
 Option.bind
 (AV.tup?
 v2144)
 fun
 vs2145 ↦
 Option.bind
 (uncons?
 vs2145)
 fun
 p2146 ↦
 Option.bind
 (AV.int?
 IntKind.i64
 p2146.fst)
 fun
 n2147 ↦
 Option.bind
 (uncons?
 p2146.snd)
 fun
 p2148 ↦
 Option.bind
 (AV.bool?
 p2148.fst)
 fun
 b2149 ↦
 bif
 b2149 then
 Option.bind
 (nil?
 p2148.snd)
 fun
 _ ↦
 bif
 n2072 !=
 n2147 then
 some
 (Out.ret
 (vbool
 false),
 [])
 else
 some
 (Out.ret
 (vbool
 false),
 [])
 else
 Option.bind
 (nil?
 p2148.snd)
 fun
 _ ↦
 bif
 n2072 !=
 n2147 then
 some
 (Out.ret
 (vbool
 false),
 [])
 else
 Option.bind
 (E
 cx
 (Key.fn
 36)
 [AV.list
 0
 4
 es1430]
 [])
 fun
 r2152 ↦
 Option.bind
 (ret1
 r2152)
 fun
 v2153 ↦
 Option.bind
 (AV.bool?
 v2153)
 fun
 b2154 ↦
 bif
 b2154 then
 Option.bind
 (E
 cx
 (Key.fn
 37)
 [AV.list
 0
 4
 es1430]
 [])
 fun
 r2155 ↦
 Option.bind
 (ret1
 r2155)
 fun
 v2156 ↦
 Option.bind
 (AV.bool?
 v2156)
 fun
 b2157 ↦
 bif
 b2157 then
 Option.bind
 (E
 cx
 (Key.fn
 38)
 [AV.list
 0
 4
 es1430,
 vi
 peer11]
 [])
 fun
 r2158 ↦
 Option.bind
 (ret1
 r2158)
 fun
 v2159 ↦
 Option.bind
 (AV.list?
 4
 v2159)
 fun
 es2160 ↦
 Option.bind
 (E
 cx
 (Key.fn
 39)
 [AV.list
 0
 4
 es1430,
 vi
 peer11]
 [])
 fun
 r2161 ↦
 Option.bind
 (ret1
 r2161)
 fun
 v2162 ↦
 Option.bind
 (AV.list?
 4
 v2162)
 fun
 es2163 ↦
 Option.bind
 (E
 cx
 (Key.fn
 31)
 [AV.list
 0
 4
 es2160,
 AV.list
 0
 4
 es2163]
 [])
 fun
 r2164 ↦
 Option.bind
 (ret1
 r2164)
 fun
 v2165 ↦
 Option.bind
 (AV.bool?
 v2165)
 fun
 b2166 ↦
 bif
 b2166 then
 Option.bind
 (E
 cx
 (Key.fn
 28)
 [vi
 peer11,
 vi
 4]
 [])
 fun
 r2167 ↦
 Option.bind
 (ret1
 r2167)
 fun
 v2168 ↦
 Option.bind
 (AV.int?
 IntKind.i64
 v2168)
 fun
 n2169 ↦
 Option.bind
 (E
 cx
 (Key.fn
 38)
 [AV.list
 0
 4
 es1430,
 vi
 n2169]
 [])
 fun
 r2170 ↦
 Option.bind
 (ret1
 r2170)
 fun
 v2171 ↦
 Option.bind
 (AV.list?
 4
 v2171)
 fun
 es2172 ↦
 Option.bind
 (E
 cx
 (Key.fn
 28)
 [vi
 peer11,
 vi
 4]
 [])
 fun
 r2173 ↦
 Option.bind
 (ret1
 r2173)
 fun
 v2174 ↦
 Option.bind
 (AV.int?
 IntKind.i64
 v2174)
 fun
 n2175 ↦
 Option.bind
 (E
 cx
 (Key.fn
 39)
 [AV.list
 0
 4
 es1430,
 vi
 n2175]
 [])
 fun
 r2176 ↦
 Option.bind
 (ret1
 r2176)
 fun
 v2177 ↦
 Option.bind
 (AV.list?
 4
 v2177)
 fun
 es2178 ↦
 Option.bind
 (E
 cx
 (Key.fn
 31)
 [AV.list
 0
 4
 es2172,
 AV.list
 0
 4
 es2178]
 [])
 fun
 r2179 ↦
 Option.bind
 (ret1
 r2179)
 fun
 v2180 ↦
 Option.bind
 (AV.bool?
 v2180)
 fun
 b2181 ↦
 bif
 b2181 then
 some
 (Out.ret
 (vbool
 false),
 [])
 else
 some
 (Out.ret
 (vbool
 false),
 [])
 else
 some
 (Out.ret
 (vbool
 false),
 [])
 else
 some
 (Out.ret
 (vbool
 false),
 [])
 else
 Option.bind
 (E
 cx
 (Key.fn
 37)
 [AV.list
 0
 4
 es1430]
 [])
 fun
 r2182 ↦
 Option.bind
 (ret1
 r2182)
 fun
 v2183 ↦
 Option.bind
 (AV.bool?
 v2183)
 fun
 b2184 ↦
 bif
 b2184 then
 some
 (Out.ret
 (vbool
 false),
 [])
 else
 Option.bind
 (E
 cx
 (Key.fn
 38)
 [AV.list
 0
 4
 es1430,
 vi
 peer11]
 [])
 fun
 r2185 ↦
 Option.bind
 (ret1
 r2185)
 fun
 v2186 ↦
 Option.bind
 (AV.list?
 4
 v2186)
 fun
 es2187 ↦
 Option.bind
 (E
 cx
 (Key.fn
 39)
 [AV.list
 0
 4
 es1430,
 vi
 peer11]
 [])
 fun
 r2188 ↦
 Option.bind
 (ret1
 r2188)
 fun
 v2189 ↦
 Option.bind
 (AV.list?
 4
 v2189)
 fun
 es2190 ↦
 Option.bind
 (E
 cx
 (Key.fn
 31)
 [AV.list
 0
 4
 es2187,
 AV.list
 0
 4
 es2190]
 [])
 fun
 r2191 ↦
 Option.bind
 (ret1
 r2191)
 fun
 v2192 ↦
 Option.bind
 (AV.bool?
 v2192)
 fun
 b2193 ↦
 bif
 b2193 then
 Option.bind
 (E
 cx
 (Key.fn
 28)
 [vi
 peer11,
 vi
 4]
 [])
 fun
 r2194 ↦
 Option.bind
 (ret1
 r2194)
 fun
 v2195 ↦
 Option.bind
 (AV.int?
 IntKind.i64
 v2195)
 fun
 n2196 ↦
 Option.bind
 (E
 cx
 (Key.fn
 38)
 [AV.list
 0
 4
 es1430,
 vi
 n2196]
 [])
 fun
 r2197 ↦
 Option.bind
 (ret1
 r2197)
 fun
 v2198 ↦
 Option.bind
 (AV.list?
 4
 v2198)
 fun
 es2199 ↦
 Option.bind
 (E
 cx
 (Key.fn
 28)
 [vi
 peer11,
 vi
 4]
 [])
 fun
 r2200 ↦
 Option.bind
 (ret1
 r2200)
 fun
 v2201 ↦
 Option.bind
 (AV.int?
 IntKind.i64
 v2201)
 fun
 n2202 ↦
 Option.bind
 (E
 cx
 (Key.fn
 39)
 [AV.list
 0
 4
 es1430,
 vi
 n2202]
 [])
 fun
 r2203 ↦
 Option.bind
 (ret1
 r2203)
 fun
 v2204 ↦
 Option.bind
 (AV.list?
 4
 v2204)
 fun
 es2205 ↦
 Option.bind
 (E
 cx
 (Key.fn
 31)
 [AV.list
 0
 4
 es2199,
 AV.list
 0
 4
 es2205]
 [])
 fun
 r2206 ↦
 Option.bind
 (ret1
 r2206)
 fun
 v2207 ↦
 Option.bind
 (AV.bool?
 v2207)
 fun
 b2208 ↦
 bif
 b2208 then
 some
 (Out.ret
 (vbool
 false),
 [])
 else
 some
 (Out.ret
 (vbool
 false),
 [])
 else
 some
 (Out.ret
 (vbool
 false),
 [])
 else
 some
 (Out.ret
 (vbool
 false),
 [])
 else
 some
 (Out.ret
 (vbool
 false),
 [])
 else
 some
 (Out.ret
 (vbool
 false),
 [])
 else
 some
 (Out.ret
 (vbool
 false),
 [])
 else
 some
 (Out.ret
 (vbool
 false),
 [])
 else
 some
 (Out.ret
 (vbool
 false),
 [])
 else
 some
 (Out.ret
 (vbool
 false),
 [])
 else
 some
 (Out.ret
 (vbool
 false),
 [])
 else
 some
 (Out.ret
 (vbool
 false),
 [])
 else
 some
 (Out.ret
 (vbool
 false),
 [])
 else
 Option.bind
 (nil?
 p1585.snd)
 fun
 _ ↦
 bif
 n1576 !=
 n1584 then
 some
 (Out.ret
 (vbool
 false),
 [])
 else
 some
 (Out.ret
 (vbool
 false),
 [])
 else
 Option.bind
 (nil?
 p1577.snd)
 fun
 _ ↦
 Option.bind
 (E
 cx
 (Key.fn
 35)
 [AV.list
 0
 4
 (List.drop
 0
 (List.take
 (Int.toNat
 (if
 40 <
 ((List.length
 wild0) : Int) then
 40
 else
 ((List.length
 wild0) : Int)))
 wild0))]
 [])
 fun
 r2211 ↦
 Option.bind
 (ret1
 r2211)
 fun
 v2212 ↦
 Option.bind
 (AV.tup?
 v2212)
 fun
 vs2213 ↦
 Option.bind
 (uncons?
 vs2213)
 fun
 p2214 ↦
 Option.bind
 (AV.int?
 IntKind.i64
 p2214.fst)
 fun
 n2215 ↦
 Option.bind
 (uncons?
 p2214.snd)
 fun
 p2216 ↦
 Option.bind
 (AV.bool?
 p2216.fst)
 fun
 b2217 ↦
 bif
 b2217 then
 Option.bind
 (nil?
 p2216.snd)
 fun
 _ ↦
 bif
 n1576 !=
 n2215 then
 some
 (Out.ret
 (vbool
 false),
 [])
 else
 some
 (Out.ret
 (vbool
 false),
 [])
 else
 Option.bind
 (nil?
 p2216.snd)
 fun
 _ ↦
 bif
 n1576 !=
 n2215 then
 some
 (Out.ret
 (vbool
 false),
 [])
 else
 Option.bind
 (E
 cx
 (Key.fn
 36)
 [AV.list
 0
 4
 (List.drop
 0
 (List.take
 (Int.toNat
 (if
 40 <
 ((List.length
 wild0) : Int) then
 40
 else
 ((List.length
 wild0) : Int)))
 wild0))]
 [])
 fun
 r2220 ↦
 Option.bind
 (ret1
 r2220)
 fun
 v2221 ↦
 Option.bind
 (AV.bool?
 v2221)
 fun
 b2222 ↦
 bif
 b2222 then
 Option.bind
 (E
 cx
 (Key.fn
 37)
 [AV.list
 0
 4
 (List.drop
 0
 (List.take
 (Int.toNat
 (if
 40 <
 ((List.length
 wild0) : Int) then
 40
 else
 ((List.length
 wild0) : Int)))
 wild0))]
 [])
 fun
 r2223 ↦
 Option.bind
 (ret1
 r2223)
 fun
 v2224 ↦
 Option.bind
 (AV.bool?
 v2224)
 fun
 b2225 ↦
 bif
 b2225 then
 Option.bind
 (E
 cx
 (Key.fn
 38)
 [AV.list
 0
 4
 (List.drop
 0
 (List.take
 (Int.toNat
 (if
 40 <
 ((List.length
 wild0) : Int) then
 40
 else
 ((List.length
 wild0) : Int)))
 wild0)),
 vi
 peer11]
 [])
 fun
 r2226 ↦
 Option.bind
 (ret1
 r2226)
 fun
 v2227 ↦
 Option.bind
 (AV.list?
 4
 v2227)
 fun
 es2228 ↦
 Option.bind
 (E
 cx
 (Key.fn
 39)
 [AV.list
 0
 4
 (List.drop
 0
 (List.take
 (Int.toNat
 (if
 40 <
 ((List.length
 wild0) : Int) then
 40
 else
 ((List.length
 wild0) : Int)))
 wild0)),
 vi
 peer11]
 [])
 fun
 r2229 ↦
 Option.bind
 (ret1
 r2229)
 fun
 v2230 ↦
 Option.bind
 (AV.list?
 4
 v2230)
 fun
 es2231 ↦
 Option.bind
 (E
 cx
 (Key.fn
 31)
 [AV.list
 0
 4
 es2228,
 AV.list
 0
 4
 es2231]
 [])
 fun
 r2232 ↦
 Option.bind
 (ret1
 r2232)
 fun
 v2233 ↦
 Option.bind
 (AV.bool?
 v2233)
 fun
 b2234 ↦
 bif
 b2234 then
 Option.bind
 (E
 cx
 (Key.fn
 28)
 [vi
 peer11,
 vi
 4]
 [])
 fun
 r2235 ↦
 Option.bind
 (ret1
 r2235)
 fun
 v2236 ↦
 Option.bind
 (AV.int?
 IntKind.i64
 v2236)
 fun
 n2237 ↦
 Option.bind
 (E
 cx
 (Key.fn
 38)
 [AV.list
 0
 4
 (List.drop
 0
 (List.take
 (Int.toNat
 (if
 40 <
 ((List.length
 wild0) : Int) then
 40
 else
 ((List.length
 wild0) : Int)))
 wild0)),
 vi
 n2237]
 [])
 fun
 r2238 ↦
 Option.bind
 (ret1
 r2238)
 fun
 v2239 ↦
 Option.bind
 (AV.list?
 4
 v2239)
 fun
 es2240 ↦
 Option.bind
 (E
 cx
 (Key.fn
 28)
 [vi
 peer11,
 vi
 4]
 [])
 fun
 r2241 ↦
 Option.bind
 (ret1
 r2241)
 fun
 v2242 ↦
 Option.bind
 (AV.int?
 IntKind.i64
 v2242)
 fun
 n2243 ↦
 Option.bind
 (E
 cx
 (Key.fn
 39)
 [AV.list
 0
 4
 (List.drop
 0
 (List.take
 (Int.toNat
 (if
 40 <
 ((List.length
 wild0) : Int) then
 40
 else
 ((List.length
 wild0) : Int)))
 wild0)),
 vi
 n2243]
 [])
 fun
 r2244 ↦
 Option.bind
 (ret1
 r2244)
 fun
 v2245 ↦
 Option.bind
 (AV.list?
 4
 v2245)
 fun
 es2246 ↦
 Option.bind
 (E
 cx
 (Key.fn
 31)
 [AV.list
 0
 4
 es2240,
 AV.list
 0
 4
 es2246]
 [])
 fun
 r2247 ↦
 Option.bind
 (ret1
 r2247)
 fun
 v2248 ↦
 Option.bind
 (AV.bool?
 v2248)
 fun
 b2249 ↦
 bif
 b2249 then
 Option.bind
 (E
 cx
 (Key.fn
 27)
 [AV.agg
 [vi
 k6,
 vi
 k7,
 vi
 k8]]
 [])
 fun
 r2250 ↦
 Option.bind
 (ret1
 r2250)
 fun
 v2251 ↦
 Option.bind
 (AV.cells?
 v2251)
 fun
 cs2252 ↦
 Option.bind
 (uncons?
 cs2252)
 fun
 p2253 ↦
 Option.bind
 (AV.int?
 IntKind.i64
 p2253.fst)
 fun
 n2254 ↦
 Option.bind
 (uncons?
 p2253.snd)
 fun
 p2255 ↦
 Option.bind
 (AV.int?
 IntKind.i64
 p2255.fst)
 fun
 n2256 ↦
 Option.bind
 (uncons?
 p2255.snd)
 fun
 p2257 ↦
 Option.bind
 (AV.int?
 IntKind.i64
 p2257.fst)
 fun
 n2258 ↦
 Option.bind
 (uncons?
 p2257.snd)
 fun
 p2259 ↦
 Option.bind
 (AV.str?
 p2259.fst)
 fun
 s2260 ↦
 Option.bind
 (nil?
 p2259.snd)
 fun
 _ ↦
 Option.bind
 (E
 cx
 (Key.fn
 28)
 [vi
 room9,
 vi
 35]
 [])
 fun
 r2262 ↦
 Option.bind
 (ret1
 r2262)
 fun
 v2263 ↦
 Option.bind
 (AV.int?
 IntKind.i64
 v2263)
 fun
 n2264 ↦
 Option.bind
 (E
 cx
 (Key.fn
 29)
 [AV.list
 0
 4
 es1430,
 vi
 room9,
 AV.agg
 [vi
 odd2,
 vi
 odd3,
 vi
 odd4,
 vs
 odd5]]
 [])
 fun
 r2265 ↦
 Option.bind
 (ret1
 r2265)
 fun
 v2266 ↦
 Option.bind
 (AV.tup?
 v2266)
 fun
 vs2267 ↦
 Option.bind
 (uncons?
 vs2267)
 fun
 p2268 ↦
 Option.bind
 (AV.list?
 4
 p2268.fst)
 fun
 es2269 ↦
 Option.bind
 (uncons?
 p2268.snd)
 fun
 p2270 ↦
 Option.bind
 (AV.int?
 IntKind.i64
 p2270.fst)
 fun
 n2271 ↦
 Option.bind
 (nil?
 p2270.snd)
 fun
 _ ↦
 Option.bind
 (E
 cx
 (Key.fn
 30)
 [AV.list
 0
 4
 es1430,
 vi
 room9,
 AV.agg
 [vi
 odd2,
 vi
 odd3,
 vi
 odd4,
 vs
 odd5]]
 [])
 fun
 r2273 ↦
 Option.bind
 (ret1
 r2273)
 fun
 v2274 ↦
 Option.bind
 (AV.tup?
 v2274)
 fun
 vs2275 ↦
 Option.bind
 (uncons?
 vs2275)
 fun
 p2276 ↦
 Option.bind
 (AV.list?
 4
 p2276.fst)
 fun
 es2277 ↦
 Option.bind
 (uncons?
 p2276.snd)
 fun
 p2278 ↦
 Option.bind
 (AV.int?
 IntKind.i64
 p2278.fst)
 fun
 n2279 ↦
 Option.bind
 (nil?
 p2278.snd)
 fun
 _ ↦
 bif
 n2271 !=
 n2279 then
 some
 (Out.ret
 (vbool
 false),
 [])
 else
 Option.bind
 (E
 cx
 (Key.fn
 31)
 [AV.list
 0
 4
 es2269,
 AV.list
 0
 4
 es2277]
 [])
 fun
 r2281 ↦
 Option.bind
 (ret1
 r2281)
 fun
 v2282 ↦
 Option.bind
 (AV.bool?
 v2282)
 fun
 b2283 ↦
 bif
 b2283 then
 Option.bind
 (E
 cx
 (Key.fn
 29)
 [AV.list
 0
 4
 es1430,
 vi
 n2264,
 AV.agg
 [vi
 odd2,
 vi
 odd3,
 vi
 odd4,
 vs
 odd5]]
 [])
 fun
 r2284 ↦
 Option.bind
 (ret1
 r2284)
 fun
 v2285 ↦
 Option.bind
 (AV.tup?
 v2285)
 fun
 vs2286 ↦
 Option.bind
 (uncons?
 vs2286)
 fun
 p2287 ↦
 Option.bind
 (AV.list?
 4
 p2287.fst)
 fun
 es2288 ↦
 Option.bind
 (uncons?
 p2287.snd)
 fun
 p2289 ↦
 Option.bind
 (AV.int?
 IntKind.i64
 p2289.fst)
 fun
 n2290 ↦
 Option.bind
 (nil?
 p2289.snd)
 fun
 _ ↦
 Option.bind
 (E
 cx
 (Key.fn
 30)
 [AV.list
 0
 4
 es1430,
 vi
 n2264,
 AV.agg
 [vi
 odd2,
 vi
 odd3,
 vi
 odd4,
 vs
 odd5]]
 [])
 fun
 r2292 ↦
 Option.bind
 (ret1
 r2292)
 fun
 v2293 ↦
 Option.bind
 (AV.tup?
 v2293)
 fun
 vs2294 ↦
 Option.bind
 (uncons?
 vs2294)
 fun
 p2295 ↦
 Option.bind
 (AV.list?
 4
 p2295.fst)
 fun
 es2296 ↦
 Option.bind
 (uncons?
 p2295.snd)
 fun
 p2297 ↦
 Option.bind
 (AV.int?
 IntKind.i64
 p2297.fst)
 fun
 n2298 ↦
 Option.bind
 (nil?
 p2297.snd)
 fun
 _ ↦
 bif
 n2290 !=
 n2298 then
 some
 (Out.ret
 (vbool
 false),
 [])
 else
 Option.bind
 (E
 cx
 (Key.fn
 31)
 [AV.list
 0
 4
 es2288,
 AV.list
 0
 4
 es2296]
 [])
 fun
 r2300 ↦
 Option.bind
 (ret1
 r2300)
 fun
 v2301 ↦
 Option.bind
 (AV.bool?
 v2301)
 fun
 b2302 ↦
 bif
 b2302 then
 Option.bind
 (E
 cx
 (Key.fn
 28)
 [vi
 room9,
 vi
 35]
 [])
 fun
 r2303 ↦
 Option.bind
 (ret1
 r2303)
 fun
 v2304 ↦
 Option.bind
 (AV.int?
 IntKind.i64
 v2304)
 fun
 n2305 ↦
 Option.bind
 (E
 cx
 (Key.fn
 29)
 [AV.list
 0
 4
 es1430,
 vi
 room9,
 AV.agg
 [vi
 n2254,
 vi
 n2256,
 vi
 n2258,
 vs
 s2260]]
 [])
 fun
 r2306 ↦
 Option.bind
 (ret1
 r2306)
 fun
 v2307 ↦
 Option.bind
 (AV.tup?
 v2307)
 fun
 vs2308 ↦
 Option.bind
 (uncons?
 vs2308)
 fun
 p2309 ↦
 Option.bind
 (AV.list?
 4
 p2309.fst)
 fun
 es2310 ↦
 Option.bind
 (uncons?
 p2309.snd)
 fun
 p2311 ↦
 Option.bind
 (AV.int?
 IntKind.i64
 p2311.fst)
 fun
 n2312 ↦
 Option.bind
 (nil?
 p2311.snd)
 fun
 _ ↦
 Option.bind
 (E
 cx
 (Key.fn
 30)
 [AV.list
 0
 4
 es1430,
 vi
 room9,
 AV.agg
 [vi
 n2254,
 vi
 n2256,
 vi
 n2258,
 vs
 s2260]]
 [])
 fun
 r2314 ↦
 Option.bind
 (ret1
 r2314)
 fun
 v2315 ↦
 Option.bind
 (AV.tup?
 v2315)
 fun
 vs2316 ↦
 Option.bind
 (uncons?
 vs2316)
 fun
 p2317 ↦
 Option.bind
 (AV.list?
 4
 p2317.fst)
 fun
 es2318 ↦
 Option.bind
 (uncons?
 p2317.snd)
 fun
 p2319 ↦
 Option.bind
 (AV.int?
 IntKind.i64
 p2319.fst)
 fun
 n2320 ↦
 Option.bind
 (nil?
 p2319.snd)
 fun
 _ ↦
 bif
 n2312 !=
 n2320 then
 some
 (Out.ret
 (vbool
 false),
 [])
 else
 Option.bind
 (E
 cx
 (Key.fn
 31)
 [AV.list
 0
 4
 es2310,
 AV.list
 0
 4
 es2318]
 [])
 fun
 r2322 ↦
 Option.bind
 (ret1
 r2322)
 fun
 v2323 ↦
 Option.bind
 (AV.bool?
 v2323)
 fun
 b2324 ↦
 bif
 b2324 then
 Option.bind
 (E
 cx
 (Key.fn
 29)
 [AV.list
 0
 4
 es1430,
 vi
 n2305,
 AV.agg
 [vi
 n2254,
 vi
 n2256,
 vi
 n2258,
 vs
 s2260]]
 [])
 fun
 r2325 ↦
 Option.bind
 (ret1
 r2325)
 fun
 v2326 ↦
 Option.bind
 (AV.tup?
 v2326)
 fun
 vs2327 ↦
 Option.bind
 (uncons?
 vs2327)
 fun
 p2328 ↦
 Option.bind
 (AV.list?
 4
 p2328.fst)
 fun
 es2329 ↦
 Option.bind
 (uncons?
 p2328.snd)
 fun
 p2330 ↦
 Option.bind
 (AV.int?
 IntKind.i64
 p2330.fst)
 fun
 n2331 ↦
 Option.bind
 (nil?
 p2330.snd)
 fun
 _ ↦
 Option.bind
 (E
 cx
 (Key.fn
 30)
 [AV.list
 0
 4
 es1430,
 vi
 n2305,
 AV.agg
 [vi
 n2254,
 vi
 n2256,
 vi
 n2258,
 vs
 s2260]]
 [])
 fun
 r2333 ↦
 Option.bind
 (ret1
 r2333)
 fun
 v2334 ↦
 Option.bind
 (AV.tup?
 v2334)
 fun
 vs2335 ↦
 Option.bind
 (uncons?
 vs2335)
 fun
 p2336 ↦
 Option.bind
 (AV.list?
 4
 p2336.fst)
 fun
 es2337 ↦
 Option.bind
 (uncons?
 p2336.snd)
 fun
 p2338 ↦
 Option.bind
 (AV.int?
 IntKind.i64
 p2338.fst)
 fun
 n2339 ↦
 Option.bind
 (nil?
 p2338.snd)
 fun
 _ ↦
 bif
 n2331 !=
 n2339 then
 some
 (Out.ret
 (vbool
 false),
 [])
 else
 Option.bind
 (E
 cx
 (Key.fn
 31)
 [AV.list
 0
 4
 es2329,
 AV.list
 0
 4
 es2337]
 [])
 fun
 r2341 ↦
 Option.bind
 (ret1
 r2341)
 fun
 v2342 ↦
 Option.bind
 (AV.bool?
 v2342)
 fun
 b2343 ↦
 bif
 b2343 then
 Option.bind
 (E
 cx
 (Key.fn
 28)
 [vi
 tick10,
 vi
 8]
 [])
 fun
 r2344 ↦
 Option.bind
 (ret1
 r2344)
 fun
 v2345 ↦
 Option.bind
 (AV.int?
 IntKind.i64
 v2345)
 fun
 n2346 ↦
 Option.bind
 (E
 cx
 (Key.fn
 32)
 [AV.list
 0
 4
 es1430,
 vi
 tick10]
 [])
 fun
 r2347 ↦
 Option.bind
 (ret1
 r2347)
 fun
 v2348 ↦
 Option.bind
 (AV.tup?
 v2348)
 fun
 vs2349 ↦
 Option.bind
 (uncons?
 vs2349)
 fun
 p2350 ↦
 Option.bind
 (AV.list?
 4
 p2350.fst)
 fun
 es2351 ↦
 Option.bind
 (uncons?
 p2350.snd)
 fun
 p2352 ↦
 Option.bind
 (AV.list?
 4
 p2352.fst)
 fun
 es2353 ↦
 Option.bind
 (nil?
 p2352.snd)
 fun
 _ ↦
 Option.bind
 (E
 cx
 (Key.fn
 33)
 [AV.list
 0
 4
 es1430,
 vi
 tick10]
 [])
 fun
 r2355 ↦
 Option.bind
 (ret1
 r2355)
 fun
 v2356 ↦
 Option.bind
 (AV.tup?
 v2356)
 fun
 vs2357 ↦
 Option.bind
 (uncons?
 vs2357)
 fun
 p2358 ↦
 Option.bind
 (AV.list?
 4
 p2358.fst)
 fun
 es2359 ↦
 Option.bind
 (uncons?
 p2358.snd)
 fun
 p2360 ↦
 Option.bind
 (AV.list?
 4
 p2360.fst)
 fun
 es2361 ↦
 Option.bind
 (nil?
 p2360.snd)
 fun
 _ ↦
 Option.bind
 (E
 cx
 (Key.fn
 31)
 [AV.list
 0
 4
 es2351,
 AV.list
 0
 4
 es2359]
 [])
 fun
 r2363 ↦
 Option.bind
 (ret1
 r2363)
 fun
 v2364 ↦
 Option.bind
 (AV.bool?
 v2364)
 fun
 b2365 ↦
 bif
 b2365 then
 Option.bind
 (E
 cx
 (Key.fn
 31)
 [AV.list
 0
 4
 es2353,
 AV.list
 0
 4
 es2361]
 [])
 fun
 r2366 ↦
 Option.bind
 (ret1
 r2366)
 fun
 v2367 ↦
 Option.bind
 (AV.bool?
 v2367)
 fun
 b2368 ↦
 bif
 b2368 then
 Option.bind
 (E
 cx
 (Key.fn
 32)
 [AV.list
 0
 4
 es1430,
 vi
 n2346]
 [])
 fun
 r2369 ↦
 Option.bind
 (ret1
 r2369)
 fun
 v2370 ↦
 Option.bind
 (AV.tup?
 v2370)
 fun
 vs2371 ↦
 Option.bind
 (uncons?
 vs2371)
 fun
 p2372 ↦
 Option.bind
 (AV.list?
 4
 p2372.fst)
 fun
 es2373 ↦
 Option.bind
 (uncons?
 p2372.snd)
 fun
 p2374 ↦
 Option.bind
 (AV.list?
 4
 p2374.fst)
 fun
 es2375 ↦
 Option.bind
 (nil?
 p2374.snd)
 fun
 _ ↦
 Option.bind
 (E
 cx
 (Key.fn
 33)
 [AV.list
 0
 4
 es1430,
 vi
 n2346]
 [])
 fun
 r2377 ↦
 Option.bind
 (ret1
 r2377)
 fun
 v2378 ↦
 Option.bind
 (AV.tup?
 v2378)
 fun
 vs2379 ↦
 Option.bind
 (uncons?
 vs2379)
 fun
 p2380 ↦
 Option.bind
 (AV.list?
 4
 p2380.fst)
 fun
 es2381 ↦
 Option.bind
 (uncons?
 p2380.snd)
 fun
 p2382 ↦
 Option.bind
 (AV.list?
 4
 p2382.fst)
 fun
 es2383 ↦
 Option.bind
 (nil?
 p2382.snd)
 fun
 _ ↦
 Option.bind
 (E
 cx
 (Key.fn
 31)
 [AV.list
 0
 4
 es2373,
 AV.list
 0
 4
 es2381]
 [])
 fun
 r2385 ↦
 Option.bind
 (ret1
 r2385)
 fun
 v2386 ↦
 Option.bind
 (AV.bool?
 v2386)
 fun
 b2387 ↦
 bif
 b2387 then
 Option.bind
 (E
 cx
 (Key.fn
 31)
 [AV.list
 0
 4
 es2375,
 AV.list
 0
 4
 es2383]
 [])
 fun
 r2388 ↦
 Option.bind
 (ret1
 r2388)
 fun
 v2389 ↦
 Option.bind
 (AV.bool?
 v2389)
 fun
 b2390 ↦
 bif
 b2390 then
 Option.bind
 (E
 cx
 (Key.fn
 34)
 [AV.list
 0
 4
 es1430]
 [])
 fun
 r2391 ↦
 Option.bind
 (ret1
 r2391)
 fun
 v2392 ↦
 Option.bind
 (AV.tup?
 v2392)
 fun
 vs2393 ↦
 Option.bind
 (uncons?
 vs2393)
 fun
 p2394 ↦
 Option.bind
 (AV.int?
 IntKind.i64
 p2394.fst)
 fun
 n2395 ↦
 Option.bind
 (uncons?
 p2394.snd)
 fun
 p2396 ↦
 Option.bind
 (AV.bool?
 p2396.fst)
 fun
 b2397 ↦
 bif
 b2397 then
 Option.bind
 (nil?
 p2396.snd)
 fun
 _ ↦
 Option.bind
 (E
 cx
 (Key.fn
 35)
 [AV.list
 0
 4
 es1430]
 [])
 fun
 r2399 ↦
 Option.bind
 (ret1
 r2399)
 fun
 v2400 ↦
 Option.bind
 (AV.tup?
 v2400)
 fun
 vs2401 ↦
 Option.bind
 (uncons?
 vs2401)
 fun
 p2402 ↦
 Option.bind
 (AV.int?
 IntKind.i64
 p2402.fst)
 fun
 n2403 ↦
 Option.bind
 (uncons?
 p2402.snd)
 fun
 p2404 ↦
 Option.bind
 (AV.bool?
 p2404.fst)
 fun
 b2405 ↦
 bif
 b2405 then
 Option.bind
 (nil?
 p2404.snd)
 fun
 _ ↦
 bif
 n2395 !=
 n2403 then
 some
 (Out.ret
 (vbool
 false),
 [])
 else
 Option.bind
 (E
 cx
 (Key.fn
 36)
 [AV.list
 0
 4
 es1430]
 [])
 fun
 r2407 ↦
 Option.bind
 (ret1
 r2407)
 fun
 v2408 ↦
 Option.bind
 (AV.bool?
 v2408)
 fun
 b2409 ↦
 bif
 b2409 then
 Option.bind
 (E
 cx
 (Key.fn
 37)
 [AV.list
 0
 4
 es1430]
 [])
 fun
 r2410 ↦
 Option.bind
 (ret1
 r2410)
 fun
 v2411 ↦
 Option.bind
 (AV.bool?
 v2411)
 fun
 b2412 ↦
 bif
 b2412 then
 Option.bind
 (E
 cx
 (Key.fn
 38)
 [AV.list
 0
 4
 es1430,
 vi
 peer11]
 [])
 fun
 r2413 ↦
 Option.bind
 (ret1
 r2413)
 fun
 v2414 ↦
 Option.bind
 (AV.list?
 4
 v2414)
 fun
 es2415 ↦
 Option.bind
 (E
 cx
 (Key.fn
 39)
 [AV.list
 0
 4
 es1430,
 vi
 peer11]
 [])
 fun
 r2416 ↦
 Option.bind
 (ret1
 r2416)
 fun
 v2417 ↦
 Option.bind
 (AV.list?
 4
 v2417)
 fun
 es2418 ↦
 Option.bind
 (E
 cx
 (Key.fn
 31)
 [AV.list
 0
 4
 es2415,
 AV.list
 0
 4
 es2418]
 [])
 fun
 r2419 ↦
 Option.bind
 (ret1
 r2419)
 fun
 v2420 ↦
 Option.bind
 (AV.bool?
 v2420)
 fun
 b2421 ↦
 bif
 b2421 then
 Option.bind
 (E
 cx
 (Key.fn
 28)
 [vi
 peer11,
 vi
 4]
 [])
 fun
 r2422 ↦
 Option.bind
 (ret1
 r2422)
 fun
 v2423 ↦
 Option.bind
 (AV.int?
 IntKind.i64
 v2423)
 fun
 n2424 ↦
 Option.bind
 (E
 cx
 (Key.fn
 38)
 [AV.list
 0
 4
 es1430,
 vi
 n2424]
 [])
 fun
 r2425 ↦
 Option.bind
 (ret1
 r2425)
 fun
 v2426 ↦
 Option.bind
 (AV.list?
 4
 v2426)
 fun
 es2427 ↦
 Option.bind
 (E
 cx
 (Key.fn
 28)
 [vi
 peer11,
 vi
 4]
 [])
 fun
 r2428 ↦
 Option.bind
 (ret1
 r2428)
 fun
 v2429 ↦
 Option.bind
 (AV.int?
 IntKind.i64
 v2429)
 fun
 n2430 ↦
 Option.bind
 (E
 cx
 (Key.fn
 39)
 [AV.list
 0
 4
 es1430,
 vi
 n2430]
 [])
 fun
 r2431 ↦
 Option.bind
 (ret1
 r2431)
 fun
 v2432 ↦
 Option.bind
 (AV.list?
 4
 v2432)
 fun
 es2433 ↦
 Option.bind
 (E
 cx
 (Key.fn
 31)
 [AV.list
 0
 4
 es2427,
 AV.list
 0
 4
 es2433]
 [])
 fun
 r2434 ↦
 Option.bind
 (ret1
 r2434)
 fun
 v2435 ↦
 Option.bind
 (AV.bool?
 v2435)
 fun
 b2436 ↦
 bif
 b2436 then
 some
 (Out.ret
 (vbool
 false),
 [])
 else
 some
 (Out.ret
 (vbool
 false),
 [])
 else
 some
 (Out.ret
 (vbool
 false),
 [])
 else
 some
 (Out.ret
 (vbool
 false),
 [])
 else
 Option.bind
 (E
 cx
 (Key.fn
 37)
 [AV.list
 0
 4
 es1430]
 [])
 fun
 r2437 ↦
 Option.bind
 (ret1
 r2437)
 fun
 v2438 ↦
 Option.bind
 (AV.bool?
 v2438)
 fun
 b2439 ↦
 bif
 b2439 then
 some
 (Out.ret
 (vbool
 false),
 [])
 else
 Option.bind
 (E
 cx
 (Key.fn
 38)
 [AV.list
 0
 4
 es1430,
 vi
 peer11]
 [])
 fun
 r2440 ↦
 Option.bind
 (ret1
 r2440)
 fun
 v2441 ↦
 Option.bind
 (AV.list?
 4
 v2441)
 fun
 es2442 ↦
 Option.bind
 (E
 cx
 (Key.fn
 39)
 [AV.list
 0
 4
 es1430,
 vi
 peer11]
 [])
 fun
 r2443 ↦
 Option.bind
 (ret1
 r2443)
 fun
 v2444 ↦
 Option.bind
 (AV.list?
 4
 v2444)
 fun
 es2445 ↦
 Option.bind
 (E
 cx
 (Key.fn
 31)
 [AV.list
 0
 4
 es2442,
 AV.list
 0
 4
 es2445]
 [])
 fun
 r2446 ↦
 Option.bind
 (ret1
 r2446)
 fun
 v2447 ↦
 Option.bind
 (AV.bool?
 v2447)
 fun
 b2448 ↦
 bif
 b2448 then
 Option.bind
 (E
 cx
 (Key.fn
 28)
 [vi
 peer11,
 vi
 4]
 [])
 fun
 r2449 ↦
 Option.bind
 (ret1
 r2449)
 fun
 v2450 ↦
 Option.bind
 (AV.int?
 IntKind.i64
 v2450)
 fun
 n2451 ↦
 Option.bind
 (E
 cx
 (Key.fn
 38)
 [AV.list
 0
 4
 es1430,
 vi
 n2451]
 [])
 fun
 r2452 ↦
 Option.bind
 (ret1
 r2452)
 fun
 v2453 ↦
 Option.bind
 (AV.list?
 4
 v2453)
 fun
 es2454 ↦
 Option.bind
 (E
 cx
 (Key.fn
 28)
 [vi
 peer11,
 vi
 4]
 [])
 fun
 r2455 ↦
 Option.bind
 (ret1
 r2455)
 fun
 v2456 ↦
 Option.bind
 (AV.int?
 IntKind.i64
 v2456)
 fun
 n2457 ↦
 Option.bind
 (E
 cx
 (Key.fn
 39)
 [AV.list
 0
 4
 es1430,
 vi
 n2457]
 [])
 fun
 r2458 ↦
 Option.bind
 (ret1
 r2458)
 fun
 v2459 ↦
 Option.bind
 (AV.list?
 4
 v2459)
 fun
 es2460 ↦
 Option.bind
 (E
 cx
 (Key.fn
 31)
 [AV.list
 0
 4
 es2454,
 AV.list
 0
 4
 es2460]
 [])
 fun
 r2461 ↦
 Option.bind
 (ret1
 r2461)
 fun
 v2462 ↦
 Option.bind
 (AV.bool?
 v2462)
 fun
 b2463 ↦
 bif
 b2463 then
 some
 (Out.ret
 (vbool
 false),
 [])
 else
 some
 (Out.ret
 (vbool
 false),
 [])
 else
 some
 (Out.ret
 (vbool
 false),
 [])
 else
 Option.bind
 (nil?
 p2404.snd)
 fun
 _ ↦
 bif
 n2395 !=
 n2403 then
 some
 (Out.ret
 (vbool
 false),
 [])
 else
 some
 (Out.ret
 (vbool
 false),
 [])
 else
 Option.bind
 (nil?
 p2396.snd)
 fun
 _ ↦
 Option.bind
 (E
 cx
 (Key.fn
 35)
 [AV.list
 0
 4
 es1430]
 [])
 fun
 r2466 ↦
 Option.bind
 (ret1
 r2466)
 fun
 v2467 ↦
 Option.bind
 (AV.tup?
 v2467)
 fun
 vs2468 ↦
 Option.bind
 (uncons?
 vs2468)
 fun
 p2469 ↦
 Option.bind
 (AV.int?
 IntKind.i64
 p2469.fst)
 fun
 n2470 ↦
 Option.bind
 (uncons?
 p2469.snd)
 fun
 p2471 ↦
 Option.bind
 (AV.bool?
 p2471.fst)
 fun
 b2472 ↦
 bif
 b2472 then
 Option.bind
 (nil?
 p2471.snd)
 fun
 _ ↦
 bif
 n2395 !=
 n2470 then
 some
 (Out.ret
 (vbool
 false),
 [])
 else
 some
 (Out.ret
 (vbool
 false),
 [])
 else
 Option.bind
 (nil?
 p2471.snd)
 fun
 _ ↦
 bif
 n2395 !=
 n2470 then
 some
 (Out.ret
 (vbool
 false),
 [])
 else
 Option.bind
 (E
 cx
 (Key.fn
 36)
 [AV.list
 0
 4
 es1430]
 [])
 fun
 r2475 ↦
 Option.bind
 (ret1
 r2475)
 fun
 v2476 ↦
 Option.bind
 (AV.bool?
 v2476)
 fun
 b2477 ↦
 bif
 b2477 then
 Option.bind
 (E
 cx
 (Key.fn
 37)
 [AV.list
 0
 4
 es1430]
 [])
 fun
 r2478 ↦
 Option.bind
 (ret1
 r2478)
 fun
 v2479 ↦
 Option.bind
 (AV.bool?
 v2479)
 fun
 b2480 ↦
 bif
 b2480 then
 Option.bind
 (E
 cx
 (Key.fn
 38)
 [AV.list
 0
 4
 es1430,
 vi
 peer11]
 [])
 fun
 r2481 ↦
 Option.bind
 (ret1
 r2481)
 fun
 v2482 ↦
 Option.bind
 (AV.list?
 4
 v2482)
 fun
 es2483 ↦
 Option.bind
 (E
 cx
 (Key.fn
 39)
 [AV.list
 0
 4
 es1430,
 vi
 peer11]
 [])
 fun
 r2484 ↦
 Option.bind
 (ret1
 r2484)
 fun
 v2485 ↦
 Option.bind
 (AV.list?
 4
 v2485)
 fun
 es2486 ↦
 Option.bind
 (E
 cx
 (Key.fn
 31)
 [AV.list
 0
 4
 es2483,
 AV.list
 0
 4
 es2486]
 [])
 fun
 r2487 ↦
 Option.bind
 (ret1
 r2487)
 fun
 v2488 ↦
 Option.bind
 (AV.bool?
 v2488)
 fun
 b2489 ↦
 bif
 b2489 then
 Option.bind
 (E
 cx
 (Key.fn
 28)
 [vi
 peer11,
 vi
 4]
 [])
 fun
 r2490 ↦
 Option.bind
 (ret1
 r2490)
 fun
 v2491 ↦
 Option.bind
 (AV.int?
 IntKind.i64
 v2491)
 fun
 n2492 ↦
 Option.bind
 (E
 cx
 (Key.fn
 38)
 [AV.list
 0
 4
 es1430,
 vi
 n2492]
 [])
 fun
 r2493 ↦
 Option.bind
 (ret1
 r2493)
 fun
 v2494 ↦
 Option.bind
 (AV.list?
 4
 v2494)
 fun
 es2495 ↦
 Option.bind
 (E
 cx
 (Key.fn
 28)
 [vi
 peer11,
 vi
 4]
 [])
 fun
 r2496 ↦
 Option.bind
 (ret1
 r2496)
 fun
 v2497 ↦
 Option.bind
 (AV.int?
 IntKind.i64
 v2497)
 fun
 n2498 ↦
 Option.bind
 (E
 cx
 (Key.fn
 39)
 [AV.list
 0
 4
 es1430,
 vi
 n2498]
 [])
 fun
 r2499 ↦
 Option.bind
 (ret1
 r2499)
 fun
 v2500 ↦
 Option.bind
 (AV.list?
 4
 v2500)
 fun
 es2501 ↦
 Option.bind
 (E
 cx
 (Key.fn
 31)
 [AV.list
 0
 4
 es2495,
 AV.list
 0
 4
 es2501]
 [])
 fun
 r2502 ↦
 Option.bind
 (ret1
 r2502)
 fun
 v2503 ↦
 Option.bind
 (AV.bool?
 v2503)
 fun
 b2504 ↦
 bif
 b2504 then
 some
 (Out.ret
 (vbool
 false),
 [])
 else
 some
 (Out.ret
 (vbool
 false),
 [])
 else
 some
 (Out.ret
 (vbool
 false),
 [])
 else
 some
 (Out.ret
 (vbool
 false),
 [])
 else
 Option.bind
 (E
 cx
 (Key.fn
 37)
 [AV.list
 0
 4
 es1430]
 [])
 fun
 r2505 ↦
 Option.bind
 (ret1
 r2505)
 fun
 v2506 ↦
 Option.bind
 (AV.bool?
 v2506)
 fun
 b2507 ↦
 bif
 b2507 then
 some
 (Out.ret
 (vbool
 false),
 [])
 else
 Option.bind
 (E
 cx
 (Key.fn
 38)
 [AV.list
 0
 4
 es1430,
 vi
 peer11]
 [])
 fun
 r2508 ↦
 Option.bind
 (ret1
 r2508)
 fun
 v2509 ↦
 Option.bind
 (AV.list?
 4
 v2509)
 fun
 es2510 ↦
 Option.bind
 (E
 cx
 (Key.fn
 39)
 [AV.list
 0
 4
 es1430,
 vi
 peer11]
 [])
 fun
 r2511 ↦
 Option.bind
 (ret1
 r2511)
 fun
 v2512 ↦
 Option.bind
 (AV.list?
 4
 v2512)
 fun
 es2513 ↦
 Option.bind
 (E
 cx
 (Key.fn
 31)
 [AV.list
 0
 4
 es2510,
 AV.list
 0
 4
 es2513]
 [])
 fun
 r2514 ↦
 Option.bind
 (ret1
 r2514)
 fun
 v2515 ↦
 Option.bind
 (AV.bool?
 v2515)
 fun
 b2516 ↦
 bif
 b2516 then
 Option.bind
 (E
 cx
 (Key.fn
 28)
 [vi
 peer11,
 vi
 4]
 [])
 fun
 r2517 ↦
 Option.bind
 (ret1
 r2517)
 fun
 v2518 ↦
 Option.bind
 (AV.int?
 IntKind.i64
 v2518)
 fun
 n2519 ↦
 Option.bind
 (E
 cx
 (Key.fn
 38)
 [AV.list
 0
 4
 es1430,
 vi
 n2519]
 [])
 fun
 r2520 ↦
 Option.bind
 (ret1
 r2520)
 fun
 v2521 ↦
 Option.bind
 (AV.list?
 4
 v2521)
 fun
 es2522 ↦
 Option.bind
 (E
 cx
 (Key.fn
 28)
 [vi
 peer11,
 vi
 4]
 [])
 fun
 r2523 ↦
 Option.bind
 (ret1
 r2523)
 fun
 v2524 ↦
 Option.bind
 (AV.int?
 IntKind.i64
 v2524)
 fun
 n2525 ↦
 Option.bind
 (E
 cx
 (Key.fn
 39)
 [AV.list
 0
 4
 es1430,
 vi
 n2525]
 [])
 fun
 r2526 ↦
 Option.bind
 (ret1
 r2526)
 fun
 v2527 ↦
 Option.bind
 (AV.list?
 4
 v2527)
 fun
 es2528 ↦
 Option.bind
 (E
 cx
 (Key.fn
 31)
 [AV.list
 0
 4
 es2522,
 AV.list
 0
 4
 es2528]
 [])
 fun
 r2529 ↦
 Option.bind
 (ret1
 r2529)
 fun
 v2530 ↦
 Option.bind
 (AV.bool?
 v2530)
 fun
 b2531 ↦
 bif
 b2531 then
 some
 (Out.ret
 (vbool
 false),
 [])
 else
 some
 (Out.ret
 (vbool
 false),
 [])
 else
 some
 (Out.ret
 (vbool
 false),
 [])
 else
 some
 (Out.ret
 (vbool
 false),
 [])
 else
 some
 (Out.ret
 (vbool
 false),
 [])
 else
 some
 (Out.ret
 (vbool
 false),
 [])
 else
 some
 (Out.ret
 (vbool
 false),
 [])
 else
 some
 (Out.ret
 (vbool
 false),
 [])
 else
 some
 (Out.ret
 (vbool
 false),
 [])
 else
 some
 (Out.ret
 (vbool
 false),
 [])
 else
 some
 (Out.ret
 (vbool
 false),
 [])
 else
 some
 (Out.ret
 (vbool
 false),
 [])
 else
 some
 (Out.ret
 (vbool
 false),
 [])
 else
 some
 (Out.ret
 (vbool
 false),
 [])
 else
 Option.bind
 (E
 cx
 (Key.fn
 37)
 [AV.list
 0
 4
 (List.drop
 0
 (List.take
 (Int.toNat
 (if
 40 <
 ((List.length
 wild0) : Int) then
 40
 else
 ((List.length
 wild0) : Int)))
 wild0))]
 [])
 fun
 r2532 ↦
 Option.bind
 (ret1
 r2532)
 fun
 v2533 ↦
 Option.bind
 (AV.bool?
 v2533)
 fun
 b2534 ↦
 bif
 b2534 then
 some
 (Out.ret
 (vbool
 false),
 [])
 else
 Option.bind
 (E
 cx
 (Key.fn
 38)
 [AV.list
 0
 4
 (List.drop
 0
 (List.take
 (Int.toNat
 (if
 40 <
 ((List.length
 wild0) : Int) then
 40
 else
 ((List.length
 wild0) : Int)))
 wild0)),
 vi
 peer11]
 [])
 fun
 r2535 ↦
 Option.bind
 (ret1
 r2535)
 fun
 v2536 ↦
 Option.bind
 (AV.list?
 4
 v2536)
 fun
 es2537 ↦
 Option.bind
 (E
 cx
 (Key.fn
 39)
 [AV.list
 0
 4
 (List.drop
 0
 (List.take
 (Int.toNat
 (if
 40 <
 ((List.length
 wild0) : Int) then
 40
 else
 ((List.length
 wild0) : Int)))
 wild0)),
 vi
 peer11]
 [])
 fun
 r2538 ↦
 Option.bind
 (ret1
 r2538)
 fun
 v2539 ↦
 Option.bind
 (AV.list?
 4
 v2539)
 fun
 es2540 ↦
 Option.bind
 (E
 cx
 (Key.fn
 31)
 [AV.list
 0
 4
 es2537,
 AV.list
 0
 4
 es2540]
 [])
 fun
 r2541 ↦
 Option.bind
 (ret1
 r2541)
 fun
 v2542 ↦
 Option.bind
 (AV.bool?
 v2542)
 fun
 b2543 ↦
 bif
 b2543 then
 Option.bind
 (E
 cx
 (Key.fn
 28)
 [vi
 peer11,
 vi
 4]
 [])
 fun
 r2544 ↦
 Option.bind
 (ret1
 r2544)
 fun
 v2545 ↦
 Option.bind
 (AV.int?
 IntKind.i64
 v2545)
 fun
 n2546 ↦
 Option.bind
 (E
 cx
 (Key.fn
 38)
 [AV.list
 0
 4
 (List.drop
 0
 (List.take
 (Int.toNat
 (if
 40 <
 ((List.length
 wild0) : Int) then
 40
 else
 ((List.length
 wild0) : Int)))
 wild0)),
 vi
 n2546]
 [])
 fun
 r2547 ↦
 Option.bind
 (ret1
 r2547)
 fun
 v2548 ↦
 Option.bind
 (AV.list?
 4
 v2548)
 fun
 es2549 ↦
 Option.bind
 (E
 cx
 (Key.fn
 28)
 [vi
 peer11,
 vi
 4]
 [])
 fun
 r2550 ↦
 Option.bind
 (ret1
 r2550)
 fun
 v2551 ↦
 Option.bind
 (AV.int?
 IntKind.i64
 v2551)
 fun
 n2552 ↦
 Option.bind
 (E
 cx
 (Key.fn
 39)
 [AV.list
 0
 4
 (List.drop
 0
 (List.take
 (Int.toNat
 (if
 40 <
 ((List.length
 wild0) : Int) then
 40
 else
 ((List.length
 wild0) : Int)))
 wild0)),
 vi
 n2552]
 [])
 fun
 r2553 ↦
 Option.bind
 (ret1
 r2553)
 fun
 v2554 ↦
 Option.bind
 (AV.list?
 4
 v2554)
 fun
 es2555 ↦
 Option.bind
 (E
 cx
 (Key.fn
 31)
 [AV.list
 0
 4
 es2549,
 AV.list
 0
 4
 es2555]
 [])
 fun
 r2556 ↦
 Option.bind
 (ret1
 r2556)
 fun
 v2557 ↦
 Option.bind
 (AV.bool?
 v2557)
 fun
 b2558 ↦
 bif
 b2558 then
 Option.bind
 (E
 cx
 (Key.fn
 27)
 [AV.agg
 [vi
 k6,
 vi
 k7,
 vi
 k8]]
 [])
 fun
 r2559 ↦
 Option.bind
 (ret1
 r2559)
 fun
 v2560 ↦
 Option.bind
 (AV.cells?
 v2560)
 fun
 cs2561 ↦
 Option.bind
 (uncons?
 cs2561)
 fun
 p2562 ↦
 Option.bind
 (AV.int?
 IntKind.i64
 p2562.fst)
 fun
 n2563 ↦
 Option.bind
 (uncons?
 p2562.snd)
 fun
 p2564 ↦
 Option.bind
 (AV.int?
 IntKind.i64
 p2564.fst)
 fun
 n2565 ↦
 Option.bind
 (uncons?
 p2564.snd)
 fun
 p2566 ↦
 Option.bind
 (AV.int?
 IntKind.i64
 p2566.fst)
 fun
 n2567 ↦
 Option.bind
 (uncons?
 p2566.snd)
 fun
 p2568 ↦
 Option.bind
 (AV.str?
 p2568.fst)
 fun
 s2569 ↦
 Option.bind
 (nil?
 p2568.snd)
 fun
 _ ↦
 Option.bind
 (E
 cx
 (Key.fn
 28)
 [vi
 room9,
 vi
 35]
 [])
 fun
 r2571 ↦
 Option.bind
 (ret1
 r2571)
 fun
 v2572 ↦
 Option.bind
 (AV.int?
 IntKind.i64
 v2572)
 fun
 n2573 ↦
 Option.bind
 (E
 cx
 (Key.fn
 29)
 [AV.list
 0
 4
 es1430,
 vi
 room9,
 AV.agg
 [vi
 odd2,
 vi
 odd3,
 vi
 odd4,
 vs
 odd5]]
 [])
 fun
 r2574 ↦
 Option.bind
 (ret1
 r2574)
 fun
 v2575 ↦
 Option.bind
 (AV.tup?
 v2575)
 fun
 vs2576 ↦
 Option.bind
 (uncons?
 vs2576)
 fun
 p2577 ↦
 Option.bind
 (AV.list?
 4
 p2577.fst)
 fun
 es2578 ↦
 Option.bind
 (uncons?
 p2577.snd)
 fun
 p2579 ↦
 Option.bind
 (AV.int?
 IntKind.i64
 p2579.fst)
 fun
 n2580 ↦
 Option.bind
 (nil?
 p2579.snd)
 fun
 _ ↦
 Option.bind
 (E
 cx
 (Key.fn
 30)
 [AV.list
 0
 4
 es1430,
 vi
 room9,
 AV.agg
 [vi
 odd2,
 vi
 odd3,
 vi
 odd4,
 vs
 odd5]]
 [])
 fun
 r2582 ↦
 Option.bind
 (ret1
 r2582)
 fun
 v2583 ↦
 Option.bind
 (AV.tup?
 v2583)
 fun
 vs2584 ↦
 Option.bind
 (uncons?
 vs2584)
 fun
 p2585 ↦
 Option.bind
 (AV.list?
 4
 p2585.fst)
 fun
 es2586 ↦
 Option.bind
 (uncons?
 p2585.snd)
 fun
 p2587 ↦
 Option.bind
 (AV.int?
 IntKind.i64
 p2587.fst)
 fun
 n2588 ↦
 Option.bind
 (nil?
 p2587.snd)
 fun
 _ ↦
 bif
 n2580 !=
 n2588 then
 some
 (Out.ret
 (vbool
 false),
 [])
 else
 Option.bind
 (E
 cx
 (Key.fn
 31)
 [AV.list
 0
 4
 es2578,
 AV.list
 0
 4
 es2586]
 [])
 fun
 r2590 ↦
 Option.bind
 (ret1
 r2590)
 fun
 v2591 ↦
 Option.bind
 (AV.bool?
 v2591)
 fun
 b2592 ↦
 bif
 b2592 then
 Option.bind
 (E
 cx
 (Key.fn
 29)
 [AV.list
 0
 4
 es1430,
 vi
 n2573,
 AV.agg
 [vi
 odd2,
 vi
 odd3,
 vi
 odd4,
 vs
 odd5]]
 [])
 fun
 r2593 ↦
 Option.bind
 (ret1
 r2593)
 fun
 v2594 ↦
 Option.bind
 (AV.tup?
 v2594)
 fun
 vs2595 ↦
 Option.bind
 (uncons?
 vs2595)
 fun
 p2596 ↦
 Option.bind
 (AV.list?
 4
 p2596.fst)
 fun
 es2597 ↦
 Option.bind
 (uncons?
 p2596.snd)
 fun
 p2598 ↦
 Option.bind
 (AV.int?
 IntKind.i64
 p2598.fst)
 fun
 n2599 ↦
 Option.bind
 (nil?
 p2598.snd)
 fun
 _ ↦
 Option.bind
 (E
 cx
 (Key.fn
 30)
 [AV.list
 0
 4
 es1430,
 vi
 n2573,
 AV.agg
 [vi
 odd2,
 vi
 odd3,
 vi
 odd4,
 vs
 odd5]]
 [])
 fun
 r2601 ↦
 Option.bind
 (ret1
 r2601)
 fun
 v2602 ↦
 Option.bind
 (AV.tup?
 v2602)
 fun
 vs2603 ↦
 Option.bind
 (uncons?
 vs2603)
 fun
 p2604 ↦
 Option.bind
 (AV.list?
 4
 p2604.fst)
 fun
 es2605 ↦
 Option.bind
 (uncons?
 p2604.snd)
 fun
 p2606 ↦
 Option.bind
 (AV.int?
 IntKind.i64
 p2606.fst)
 fun
 n2607 ↦
 Option.bind
 (nil?
 p2606.snd)
 fun
 _ ↦
 bif
 n2599 !=
 n2607 then
 some
 (Out.ret
 (vbool
 false),
 [])
 else
 Option.bind
 (E
 cx
 (Key.fn
 31)
 [AV.list
 0
 4
 es2597,
 AV.list
 0
 4
 es2605]
 [])
 fun
 r2609 ↦
 Option.bind
 (ret1
 r2609)
 fun
 v2610 ↦
 Option.bind
 (AV.bool?
 v2610)
 fun
 b2611 ↦
 bif
 b2611 then
 Option.bind
 (E
 cx
 (Key.fn
 28)
 [vi
 room9,
 vi
 35]
 [])
 fun
 r2612 ↦
 Option.bind
 (ret1
 r2612)
 fun
 v2613 ↦
 Option.bind
 (AV.int?
 IntKind.i64
 v2613)
 fun
 n2614 ↦
 Option.bind
 (E
 cx
 (Key.fn
 29)
 [AV.list
 0
 4
 es1430,
 vi
 room9,
 AV.agg
 [vi
 n2563,
 vi
 n2565,
 vi
 n2567,
 vs
 s2569]]
 [])
 fun
 r2615 ↦
 Option.bind
 (ret1
 r2615)
 fun
 v2616 ↦
 Option.bind
 (AV.tup?
 v2616)
 fun
 vs2617 ↦
 Option.bind
 (uncons?
 vs2617)
 fun
 p2618 ↦
 Option.bind
 (AV.list?
 4
 p2618.fst)
 fun
 es2619 ↦
 Option.bind
 (uncons?
 p2618.snd)
 fun
 p2620 ↦
 Option.bind
 (AV.int?
 IntKind.i64
 p2620.fst)
 fun
 n2621 ↦
 Option.bind
 (nil?
 p2620.snd)
 fun
 _ ↦
 Option.bind
 (E
 cx
 (Key.fn
 30)
 [AV.list
 0
 4
 es1430,
 vi
 room9,
 AV.agg
 [vi
 n2563,
 vi
 n2565,
 vi
 n2567,
 vs
 s2569]]
 [])
 fun
 r2623 ↦
 Option.bind
 (ret1
 r2623)
 fun
 v2624 ↦
 Option.bind
 (AV.tup?
 v2624)
 fun
 vs2625 ↦
 Option.bind
 (uncons?
 vs2625)
 fun
 p2626 ↦
 Option.bind
 (AV.list?
 4
 p2626.fst)
 fun
 es2627 ↦
 Option.bind
 (uncons?
 p2626.snd)
 fun
 p2628 ↦
 Option.bind
 (AV.int?
 IntKind.i64
 p2628.fst)
 fun
 n2629 ↦
 Option.bind
 (nil?
 p2628.snd)
 fun
 _ ↦
 bif
 n2621 !=
 n2629 then
 some
 (Out.ret
 (vbool
 false),
 [])
 else
 Option.bind
 (E
 cx
 (Key.fn
 31)
 [AV.list
 0
 4
 es2619,
 AV.list
 0
 4
 es2627]
 [])
 fun
 r2631 ↦
 Option.bind
 (ret1
 r2631)
 fun
 v2632 ↦
 Option.bind
 (AV.bool?
 v2632)
 fun
 b2633 ↦
 bif
 b2633 then
 Option.bind
 (E
 cx
 (Key.fn
 29)
 [AV.list
 0
 4
 es1430,
 vi
 n2614,
 AV.agg
 [vi
 n2563,
 vi
 n2565,
 vi
 n2567,
 vs
 s2569]]
 [])
 fun
 r2634 ↦
 Option.bind
 (ret1
 r2634)
 fun
 v2635 ↦
 Option.bind
 (AV.tup?
 v2635)
 fun
 vs2636 ↦
 Option.bind
 (uncons?
 vs2636)
 fun
 p2637 ↦
 Option.bind
 (AV.list?
 4
 p2637.fst)
 fun
 es2638 ↦
 Option.bind
 (uncons?
 p2637.snd)
 fun
 p2639 ↦
 Option.bind
 (AV.int?
 IntKind.i64
 p2639.fst)
 fun
 n2640 ↦
 Option.bind
 (nil?
 p2639.snd)
 fun
 _ ↦
 Option.bind
 (E
 cx
 (Key.fn
 30)
 [AV.list
 0
 4
 es1430,
 vi
 n2614,
 AV.agg
 [vi
 n2563,
 vi
 n2565,
 vi
 n2567,
 vs
 s2569]]
 [])
 fun
 r2642 ↦
 Option.bind
 (ret1
 r2642)
 fun
 v2643 ↦
 Option.bind
 (AV.tup?
 v2643)
 fun
 vs2644 ↦
 Option.bind
 (uncons?
 vs2644)
 fun
 p2645 ↦
 Option.bind
 (AV.list?
 4
 p2645.fst)
 fun
 es2646 ↦
 Option.bind
 (uncons?
 p2645.snd)
 fun
 p2647 ↦
 Option.bind
 (AV.int?
 IntKind.i64
 p2647.fst)
 fun
 n2648 ↦
 Option.bind
 (nil?
 p2647.snd)
 fun
 _ ↦
 bif
 n2640 !=
 n2648 then
 some
 (Out.ret
 (vbool
 false),
 [])
 else
 Option.bind
 (E
 cx
 (Key.fn
 31)
 [AV.list
 0
 4
 es2638,
 AV.list
 0
 4
 es2646]
 [])
 fun
 r2650 ↦
 Option.bind
 (ret1
 r2650)
 fun
 v2651 ↦
 Option.bind
 (AV.bool?
 v2651)
 fun
 b2652 ↦
 bif
 b2652 then
 Option.bind
 (E
 cx
 (Key.fn
 28)
 [vi
 tick10,
 vi
 8]
 [])
 fun
 r2653 ↦
 Option.bind
 (ret1
 r2653)
 fun
 v2654 ↦
 Option.bind
 (AV.int?
 IntKind.i64
 v2654)
 fun
 n2655 ↦
 Option.bind
 (E
 cx
 (Key.fn
 32)
 [AV.list
 0
 4
 es1430,
 vi
 tick10]
 [])
 fun
 r2656 ↦
 Option.bind
 (ret1
 r2656)
 fun
 v2657 ↦
 Option.bind
 (AV.tup?
 v2657)
 fun
 vs2658 ↦
 Option.bind
 (uncons?
 vs2658)
 fun
 p2659 ↦
 Option.bind
 (AV.list?
 4
 p2659.fst)
 fun
 es2660 ↦
 Option.bind
 (uncons?
 p2659.snd)
 fun
 p2661 ↦
 Option.bind
 (AV.list?
 4
 p2661.fst)
 fun
 es2662 ↦
 Option.bind
 (nil?
 p2661.snd)
 fun
 _ ↦
 Option.bind
 (E
 cx
 (Key.fn
 33)
 [AV.list
 0
 4
 es1430,
 vi
 tick10]
 [])
 fun
 r2664 ↦
 Option.bind
 (ret1
 r2664)
 fun
 v2665 ↦
 Option.bind
 (AV.tup?
 v2665)
 fun
 vs2666 ↦
 Option.bind
 (uncons?
 vs2666)
 fun
 p2667 ↦
 Option.bind
 (AV.list?
 4
 p2667.fst)
 fun
 es2668 ↦
 Option.bind
 (uncons?
 p2667.snd)
 fun
 p2669 ↦
 Option.bind
 (AV.list?
 4
 p2669.fst)
 fun
 es2670 ↦
 Option.bind
 (nil?
 p2669.snd)
 fun
 _ ↦
 Option.bind
 (E
 cx
 (Key.fn
 31)
 [AV.list
 0
 4
 es2660,
 AV.list
 0
 4
 es2668]
 [])
 fun
 r2672 ↦
 Option.bind
 (ret1
 r2672)
 fun
 v2673 ↦
 Option.bind
 (AV.bool?
 v2673)
 fun
 b2674 ↦
 bif
 b2674 then
 Option.bind
 (E
 cx
 (Key.fn
 31)
 [AV.list
 0
 4
 es2662,
 AV.list
 0
 4
 es2670]
 [])
 fun
 r2675 ↦
 Option.bind
 (ret1
 r2675)
 fun
 v2676 ↦
 Option.bind
 (AV.bool?
 v2676)
 fun
 b2677 ↦
 bif
 b2677 then
 Option.bind
 (E
 cx
 (Key.fn
 32)
 [AV.list
 0
 4
 es1430,
 vi
 n2655]
 [])
 fun
 r2678 ↦
 Option.bind
 (ret1
 r2678)
 fun
 v2679 ↦
 Option.bind
 (AV.tup?
 v2679)
 fun
 vs2680 ↦
 Option.bind
 (uncons?
 vs2680)
 fun
 p2681 ↦
 Option.bind
 (AV.list?
 4
 p2681.fst)
 fun
 es2682 ↦
 Option.bind
 (uncons?
 p2681.snd)
 fun
 p2683 ↦
 Option.bind
 (AV.list?
 4
 p2683.fst)
 fun
 es2684 ↦
 Option.bind
 (nil?
 p2683.snd)
 fun
 _ ↦
 Option.bind
 (E
 cx
 (Key.fn
 33)
 [AV.list
 0
 4
 es1430,
 vi
 n2655]
 [])
 fun
 r2686 ↦
 Option.bind
 (ret1
 r2686)
 fun
 v2687 ↦
 Option.bind
 (AV.tup?
 v2687)
 fun
 vs2688 ↦
 Option.bind
 (uncons?
 vs2688)
 fun
 p2689 ↦
 Option.bind
 (AV.list?
 4
 p2689.fst)
 fun
 es2690 ↦
 Option.bind
 (uncons?
 p2689.snd)
 fun
 p2691 ↦
 Option.bind
 (AV.list?
 4
 p2691.fst)
 fun
 es2692 ↦
 Option.bind
 (nil?
 p2691.snd)
 fun
 _ ↦
 Option.bind
 (E
 cx
 (Key.fn
 31)
 [AV.list
 0
 4
 es2682,
 AV.list
 0
 4
 es2690]
 [])
 fun
 r2694 ↦
 Option.bind
 (ret1
 r2694)
 fun
 v2695 ↦
 Option.bind
 (AV.bool?
 v2695)
 fun
 b2696 ↦
 bif
 b2696 then
 Option.bind
 (E
 cx
 (Key.fn
 31)
 [AV.list
 0
 4
 es2684,
 AV.list
 0
 4
 es2692]
 [])
 fun
 r2697 ↦
 Option.bind
 (ret1
 r2697)
 fun
 v2698 ↦
 Option.bind
 (AV.bool?
 v2698)
 fun
 b2699 ↦
 bif
 b2699 then
 Option.bind
 (E
 cx
 (Key.fn
 34)
 [AV.list
 0
 4
 es1430]
 [])
 fun
 r2700 ↦
 Option.bind
 (ret1
 r2700)
 fun
 v2701 ↦
 Option.bind
 (AV.tup?
 v2701)
 fun
 vs2702 ↦
 Option.bind
 (uncons?
 vs2702)
 fun
 p2703 ↦
 Option.bind
 (AV.int?
 IntKind.i64
 p2703.fst)
 fun
 n2704 ↦
 Option.bind
 (uncons?
 p2703.snd)
 fun
 p2705 ↦
 Option.bind
 (AV.bool?
 p2705.fst)
 fun
 b2706 ↦
 bif
 b2706 then
 Option.bind
 (nil?
 p2705.snd)
 fun
 _ ↦
 Option.bind
 (E
 cx
 (Key.fn
 35)
 [AV.list
 0
 4
 es1430]
 [])
 fun
 r2708 ↦
 Option.bind
 (ret1
 r2708)
 fun
 v2709 ↦
 Option.bind
 (AV.tup?
 v2709)
 fun
 vs2710 ↦
 Option.bind
 (uncons?
 vs2710)
 fun
 p2711 ↦
 Option.bind
 (AV.int?
 IntKind.i64
 p2711.fst)
 fun
 n2712 ↦
 Option.bind
 (uncons?
 p2711.snd)
 fun
 p2713 ↦
 Option.bind
 (AV.bool?
 p2713.fst)
 fun
 b2714 ↦
 bif
 b2714 then
 Option.bind
 (nil?
 p2713.snd)
 fun
 _ ↦
 bif
 n2704 !=
 n2712 then
 some
 (Out.ret
 (vbool
 false),
 [])
 else
 Option.bind
 (E
 cx
 (Key.fn
 36)
 [AV.list
 0
 4
 es1430]
 [])
 fun
 r2716 ↦
 Option.bind
 (ret1
 r2716)
 fun
 v2717 ↦
 Option.bind
 (AV.bool?
 v2717)
 fun
 b2718 ↦
 bif
 b2718 then
 Option.bind
 (E
 cx
 (Key.fn
 37)
 [AV.list
 0
 4
 es1430]
 [])
 fun
 r2719 ↦
 Option.bind
 (ret1
 r2719)
 fun
 v2720 ↦
 Option.bind
 (AV.bool?
 v2720)
 fun
 b2721 ↦
 bif
 b2721 then
 Option.bind
 (E
 cx
 (Key.fn
 38)
 [AV.list
 0
 4
 es1430,
 vi
 peer11]
 [])
 fun
 r2722 ↦
 Option.bind
 (ret1
 r2722)
 fun
 v2723 ↦
 Option.bind
 (AV.list?
 4
 v2723)
 fun
 es2724 ↦
 Option.bind
 (E
 cx
 (Key.fn
 39)
 [AV.list
 0
 4
 es1430,
 vi
 peer11]
 [])
 fun
 r2725 ↦
 Option.bind
 (ret1
 r2725)
 fun
 v2726 ↦
 Option.bind
 (AV.list?
 4
 v2726)
 fun
 es2727 ↦
 Option.bind
 (E
 cx
 (Key.fn
 31)
 [AV.list
 0
 4
 es2724,
 AV.list
 0
 4
 es2727]
 [])
 fun
 r2728 ↦
 Option.bind
 (ret1
 r2728)
 fun
 v2729 ↦
 Option.bind
 (AV.bool?
 v2729)
 fun
 b2730 ↦
 bif
 b2730 then
 Option.bind
 (E
 cx
 (Key.fn
 28)
 [vi
 peer11,
 vi
 4]
 [])
 fun
 r2731 ↦
 Option.bind
 (ret1
 r2731)
 fun
 v2732 ↦
 Option.bind
 (AV.int?
 IntKind.i64
 v2732)
 fun
 n2733 ↦
 Option.bind
 (E
 cx
 (Key.fn
 38)
 [AV.list
 0
 4
 es1430,
 vi
 n2733]
 [])
 fun
 r2734 ↦
 Option.bind
 (ret1
 r2734)
 fun
 v2735 ↦
 Option.bind
 (AV.list?
 4
 v2735)
 fun
 es2736 ↦
 Option.bind
 (E
 cx
 (Key.fn
 28)
 [vi
 peer11,
 vi
 4]
 [])
 fun
 r2737 ↦
 Option.bind
 (ret1
 r2737)
 fun
 v2738 ↦
 Option.bind
 (AV.int?
 IntKind.i64
 v2738)
 fun
 n2739 ↦
 Option.bind
 (E
 cx
 (Key.fn
 39)
 [AV.list
 0
 4
 es1430,
 vi
 n2739]
 [])
 fun
 r2740 ↦
 Option.bind
 (ret1
 r2740)
 fun
 v2741 ↦
 Option.bind
 (AV.list?
 4
 v2741)
 fun
 es2742 ↦
 Option.bind
 (E
 cx
 (Key.fn
 31)
 [AV.list
 0
 4
 es2736,
 AV.list
 0
 4
 es2742]
 [])
 fun
 r2743 ↦
 Option.bind
 (ret1
 r2743)
 fun
 v2744 ↦
 Option.bind
 (AV.bool?
 v2744)
 fun
 b2745 ↦
 bif
 b2745 then
 some
 (Out.ret
 (vbool
 false),
 [])
 else
 some
 (Out.ret
 (vbool
 false),
 [])
 else
 some
 (Out.ret
 (vbool
 false),
 [])
 else
 some
 (Out.ret
 (vbool
 false),
 [])
 else
 Option.bind
 (E
 cx
 (Key.fn
 37)
 [AV.list
 0
 4
 es1430]
 [])
 fun
 r2746 ↦
 Option.bind
 (ret1
 r2746)
 fun
 v2747 ↦
 Option.bind
 (AV.bool?
 v2747)
 fun
 b2748 ↦
 bif
 b2748 then
 some
 (Out.ret
 (vbool
 false),
 [])
 else
 Option.bind
 (E
 cx
 (Key.fn
 38)
 [AV.list
 0
 4
 es1430,
 vi
 peer11]
 [])
 fun
 r2749 ↦
 Option.bind
 (ret1
 r2749)
 fun
 v2750 ↦
 Option.bind
 (AV.list?
 4
 v2750)
 fun
 es2751 ↦
 Option.bind
 (E
 cx
 (Key.fn
 39)
 [AV.list
 0
 4
 es1430,
 vi
 peer11]
 [])
 fun
 r2752 ↦
 Option.bind
 (ret1
 r2752)
 fun
 v2753 ↦
 Option.bind
 (AV.list?
 4
 v2753)
 fun
 es2754 ↦
 Option.bind
 (E
 cx
 (Key.fn
 31)
 [AV.list
 0
 4
 es2751,
 AV.list
 0
 4
 es2754]
 [])
 fun
 r2755 ↦
 Option.bind
 (ret1
 r2755)
 fun
 v2756 ↦
 Option.bind
 (AV.bool?
 v2756)
 fun
 b2757 ↦
 bif
 b2757 then
 Option.bind
 (E
 cx
 (Key.fn
 28)
 [vi
 peer11,
 vi
 4]
 [])
 fun
 r2758 ↦
 Option.bind
 (ret1
 r2758)
 fun
 v2759 ↦
 Option.bind
 (AV.int?
 IntKind.i64
 v2759)
 fun
 n2760 ↦
 Option.bind
 (E
 cx
 (Key.fn
 38)
 [AV.list
 0
 4
 es1430,
 vi
 n2760]
 [])
 fun
 r2761 ↦
 Option.bind
 (ret1
 r2761)
 fun
 v2762 ↦
 Option.bind
 (AV.list?
 4
 v2762)
 fun
 es2763 ↦
 Option.bind
 (E
 cx
 (Key.fn
 28)
 [vi
 peer11,
 vi
 4]
 [])
 fun
 r2764 ↦
 Option.bind
 (ret1
 r2764)
 fun
 v2765 ↦
 Option.bind
 (AV.int?
 IntKind.i64
 v2765)
 fun
 n2766 ↦
 Option.bind
 (E
 cx
 (Key.fn
 39)
 [AV.list
 0
 4
 es1430,
 vi
 n2766]
 [])
 fun
 r2767 ↦
 Option.bind
 (ret1
 r2767)
 fun
 v2768 ↦
 Option.bind
 (AV.list?
 4
 v2768)
 fun
 es2769 ↦
 Option.bind
 (E
 cx
 (Key.fn
 31)
 [AV.list
 0
 4
 es2763,
 AV.list
 0
 4
 es2769]
 [])
 fun
 r2770 ↦
 Option.bind
 (ret1
 r2770)
 fun
 v2771 ↦
 Option.bind
 (AV.bool?
 v2771)
 fun
 b2772 ↦
 bif
 b2772 then
 some
 (Out.ret
 (vbool
 false),
 [])
 else
 some
 (Out.ret
 (vbool
 false),
 [])
 else
 some
 (Out.ret
 (vbool
 false),
 [])
 else
 Option.bind
 (nil?
 p2713.snd)
 fun
 _ ↦
 bif
 n2704 !=
 n2712 then
 some
 (Out.ret
 (vbool
 false),
 [])
 else
 some
 (Out.ret
 (vbool
 false),
 [])
 else
 Option.bind
 (nil?
 p2705.snd)
 fun
 _ ↦
 Option.bind
 (E
 cx
 (Key.fn
 35)
 [AV.list
 0
 4
 es1430]
 [])
 fun
 r2775 ↦
 Option.bind
 (ret1
 r2775)
 fun
 v2776 ↦
 Option.bind
 (AV.tup?
 v2776)
 fun
 vs2777 ↦
 Option.bind
 (uncons?
 vs2777)
 fun
 p2778 ↦
 Option.bind
 (AV.int?
 IntKind.i64
 p2778.fst)
 fun
 n2779 ↦
 Option.bind
 (uncons?
 p2778.snd)
 fun
 p2780 ↦
 Option.bind
 (AV.bool?
 p2780.fst)
 fun
 b2781 ↦
 bif
 b2781 then
 Option.bind
 (nil?
 p2780.snd)
 fun
 _ ↦
 bif
 n2704 !=
 n2779 then
 some
 (Out.ret
 (vbool
 false),
 [])
 else
 some
 (Out.ret
 (vbool
 false),
 [])
 else
 Option.bind
 (nil?
 p2780.snd)
 fun
 _ ↦
 bif
 n2704 !=
 n2779 then
 some
 (Out.ret
 (vbool
 false),
 [])
 else
 Option.bind
 (E
 cx
 (Key.fn
 36)
 [AV.list
 0
 4
 es1430]
 [])
 fun
 r2784 ↦
 Option.bind
 (ret1
 r2784)
 fun
 v2785 ↦
 Option.bind
 (AV.bool?
 v2785)
 fun
 b2786 ↦
 bif
 b2786 then
 Option.bind
 (E
 cx
 (Key.fn
 37)
 [AV.list
 0
 4
 es1430]
 [])
 fun
 r2787 ↦
 Option.bind
 (ret1
 r2787)
 fun
 v2788 ↦
 Option.bind
 (AV.bool?
 v2788)
 fun
 b2789 ↦
 bif
 b2789 then
 Option.bind
 (E
 cx
 (Key.fn
 38)
 [AV.list
 0
 4
 es1430,
 vi
 peer11]
 [])
 fun
 r2790 ↦
 Option.bind
 (ret1
 r2790)
 fun
 v2791 ↦
 Option.bind
 (AV.list?
 4
 v2791)
 fun
 es2792 ↦
 Option.bind
 (E
 cx
 (Key.fn
 39)
 [AV.list
 0
 4
 es1430,
 vi
 peer11]
 [])
 fun
 r2793 ↦
 Option.bind
 (ret1
 r2793)
 fun
 v2794 ↦
 Option.bind
 (AV.list?
 4
 v2794)
 fun
 es2795 ↦
 Option.bind
 (E
 cx
 (Key.fn
 31)
 [AV.list
 0
 4
 es2792,
 AV.list
 0
 4
 es2795]
 [])
 fun
 r2796 ↦
 Option.bind
 (ret1
 r2796)
 fun
 v2797 ↦
 Option.bind
 (AV.bool?
 v2797)
 fun
 b2798 ↦
 bif
 b2798 then
 Option.bind
 (E
 cx
 (Key.fn
 28)
 [vi
 peer11,
 vi
 4]
 [])
 fun
 r2799 ↦
 Option.bind
 (ret1
 r2799)
 fun
 v2800 ↦
 Option.bind
 (AV.int?
 IntKind.i64
 v2800)
 fun
 n2801 ↦
 Option.bind
 (E
 cx
 (Key.fn
 38)
 [AV.list
 0
 4
 es1430,
 vi
 n2801]
 [])
 fun
 r2802 ↦
 Option.bind
 (ret1
 r2802)
 fun
 v2803 ↦
 Option.bind
 (AV.list?
 4
 v2803)
 fun
 es2804 ↦
 Option.bind
 (E
 cx
 (Key.fn
 28)
 [vi
 peer11,
 vi
 4]
 [])
 fun
 r2805 ↦
 Option.bind
 (ret1
 r2805)
 fun
 v2806 ↦
 Option.bind
 (AV.int?
 IntKind.i64
 v2806)
 fun
 n2807 ↦
 Option.bind
 (E
 cx
 (Key.fn
 39)
 [AV.list
 0
 4
 es1430,
 vi
 n2807]
 [])
 fun
 r2808 ↦
 Option.bind
 (ret1
 r2808)
 fun
 v2809 ↦
 Option.bind
 (AV.list?
 4
 v2809)
 fun
 es2810 ↦
 Option.bind
 (E
 cx
 (Key.fn
 31)
 [AV.list
 0
 4
 es2804,
 AV.list
 0
 4
 es2810]
 [])
 fun
 r2811 ↦
 Option.bind
 (ret1
 r2811)
 fun
 v2812 ↦
 Option.bind
 (AV.bool?
 v2812)
 fun
 b2813 ↦
 bif
 b2813 then
 some
 (Out.ret
 (vbool
 false),
 [])
 else
 some
 (Out.ret
 (vbool
 false),
 [])
 else
 some
 (Out.ret
 (vbool
 false),
 [])
 else
 some
 (Out.ret
 (vbool
 false),
 [])
 else
 Option.bind
 (E
 cx
 (Key.fn
 37)
 [AV.list
 0
 4
 es1430]
 [])
 fun
 r2814 ↦
 Option.bind
 (ret1
 r2814)
 fun
 v2815 ↦
 Option.bind
 (AV.bool?
 v2815)
 fun
 b2816 ↦
 bif
 b2816 then
 some
 (Out.ret
 (vbool
 false),
 [])
 else
 Option.bind
 (E
 cx
 (Key.fn
 38)
 [AV.list
 0
 4
 es1430,
 vi
 peer11]
 [])
 fun
 r2817 ↦
 Option.bind
 (ret1
 r2817)
 fun
 v2818 ↦
 Option.bind
 (AV.list?
 4
 v2818)
 fun
 es2819 ↦
 Option.bind
 (E
 cx
 (Key.fn
 39)
 [AV.list
 0
 4
 es1430,
 vi
 peer11]
 [])
 fun
 r2820 ↦
 Option.bind
 (ret1
 r2820)
 fun
 v2821 ↦
 Option.bind
 (AV.list?
 4
 v2821)
 fun
 es2822 ↦
 Option.bind
 (E
 cx
 (Key.fn
 31)
 [AV.list
 0
 4
 es2819,
 AV.list
 0
 4
 es2822]
 [])
 fun
 r2823 ↦
 Option.bind
 (ret1
 r2823)
 fun
 v2824 ↦
 Option.bind
 (AV.bool?
 v2824)
 fun
 b2825 ↦
 bif
 b2825 then
 Option.bind
 (E
 cx
 (Key.fn
 28)
 [vi
 peer11,
 vi
 4]
 [])
 fun
 r2826 ↦
 Option.bind
 (ret1
 r2826)
 fun
 v2827 ↦
 Option.bind
 (AV.int?
 IntKind.i64
 v2827)
 fun
 n2828 ↦
 Option.bind
 (E
 cx
 (Key.fn
 38)
 [AV.list
 0
 4
 es1430,
 vi
 n2828]
 [])
 fun
 r2829 ↦
 Option.bind
 (ret1
 r2829)
 fun
 v2830 ↦
 Option.bind
 (AV.list?
 4
 v2830)
 fun
 es2831 ↦
 Option.bind
 (E
 cx
 (Key.fn
 28)
 [vi
 peer11,
 vi
 4]
 [])
 fun
 r2832 ↦
 Option.bind
 (ret1
 r2832)
 fun
 v2833 ↦
 Option.bind
 (AV.int?
 IntKind.i64
 v2833)
 fun
 n2834 ↦
 Option.bind
 (E
 cx
 (Key.fn
 39)
 [AV.list
 0
 4
 es1430,
 vi
 n2834]
 [])
 fun
 r2835 ↦
 Option.bind
 (ret1
 r2835)
 fun
 v2836 ↦
 Option.bind
 (AV.list?
 4
 v2836)
 fun
 es2837 ↦
 Option.bind
 (E
 cx
 (Key.fn
 31)
 [AV.list
 0
 4
 es2831,
 AV.list
 0
 4
 es2837]
 [])
 fun
 r2838 ↦
 Option.bind
 (ret1
 r2838)
 fun
 v2839 ↦
 Option.bind
 (AV.bool?
 v2839)
 fun
 b2840 ↦
 bif
 b2840 then
 some
 (Out.ret
 (vbool
 false),
 [])
 else
 some
 (Out.ret
 (vbool
 false),
 [])
 else
 some
 (Out.ret
 (vbool
 false),
 [])
 else
 some
 (Out.ret
 (vbool
 false),
 [])
 else
 some
 (Out.ret
 (vbool
 false),
 [])
 else
 some
 (Out.ret
 (vbool
 false),
 [])
 else
 some
 (Out.ret
 (vbool
 false),
 [])
 else
 some
 (Out.ret
 (vbool
 false),
 [])
 else
 some
 (Out.ret
 (vbool
 false),
 [])
 else
 some
 (Out.ret
 (vbool
 false),
 [])
 else
 some
 (Out.ret
 (vbool
 false),
 [])
 else
 some
 (Out.ret
 (vbool
 false),
 [])
 else
 some
 (Out.ret
 (vbool
 false),
 [])
 else
 some
 (Out.ret
 (vbool
 false),
 [])
 else
 some
 (Out.ret
 (vbool
 false),
 [])
 else
 some
 (Out.ret
 (vbool
 false),
 [])
 else
 some
 (Out.ret
 (vbool
 false),
 [])
 else
 some
 (Out.ret
 (vbool
 false),
 [])
 else
 some
 (Out.ret
 (vbool
 false),
 [])
 else
 some
 (Out.ret
 (vbool
 false),
 [])
 else some (Out.ret (vbool false), [])
 else none
 else none := by
  intros
  exact (E_fast _ _ _ _).trans (by kernel_rfl)

end Go.Proofs.Av
