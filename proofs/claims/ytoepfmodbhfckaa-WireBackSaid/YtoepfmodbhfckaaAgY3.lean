/- The tree of law 3. -/
import Derived.Test.YtoepfmodbhfckaaAgPQ
set_option maxRecDepth 100000
namespace Go.Proofs.Av
open Go
noncomputable def q3_0 : Int →
 Int →
 Int →
 Bool →
 List (List AV) →
 Int →
 Int →
 Int →
 Int →
 Int →
 Int →
 List (List AV) →
 Bool →
 List (List AV) →
 Int →
 Bool →
 List (List AV) →
 Int →
 Int →
 Int →
 Int →
 Int →
 Int →
 List (List AV) →
 Bool →
 List (List AV) →
 Int → Int → Int → Int → Int → Int → Int → Option (Out × Heap) :=
 fun n144 n177 n114 b116 es118 n120 n122 n124 n126 n128 n130 es132 b134 es136 n152 b154 es156 n158 n160 n162 n164 n166 n168 es170 b172 es174 n195 n188 r20 n190
 r21 n192 r22 ↦
 bif decide (n144 = 0) then
 bif decide (n177 = 0) then
 Option.bind
 (E cx (Key.fn 34)
 [AV.agg
 [vu n114, vbool b116, AV.list 0 2 es118, vu n120, vu n122, vu n124,
 vu n126, vu n128, vi n130, AV.list 0 1 es132, vbool b134,
 AV.list 0 2 es136],
 AV.agg
 [vu n152, vbool b154, AV.list 0 2 es156, vu n158, vu n160, vu n162,
 vu n164, vu n166, vi n168, AV.list 0 1 es170, vbool b172,
 AV.list 0 2 es174]]
 [])
 fun r203 ↦
 Option.bind (ret1 r203) fun v204 ↦
 Option.bind (AV.bool? v204) fun b205 ↦
 bif b205 then
 bif decide (n195 = 0) then
 bif decide (n188 = r20) && (decide (n190 = r21) && (decide (n192 = r22) && true)) then
 Option.bind
 (E cx (Key.fn 32)
 [AV.agg [vu r20, vu r21, vu r22]] [])
 fun r206 ↦
 Option.bind (ret1 r206) fun v207 ↦
 Option.bind (AV.str? v207) fun s208 ↦
 bif decide (((ByteArray.size s208) : Int) = 24) then some (Out.ret (vbool true), [])
 else some (Out.ret (vbool false), [])
 else some (Out.ret (vbool false), [])
 else some (Out.ret (vbool false), [])
 else some (Out.ret (vbool false), [])
 else some (Out.ret (vbool false), [])
 else some (Out.ret (vbool false), [])
theorem f3 : ∀ (x0 x1 x2 x3 x4 x5 : Int) (x6 x7 : List (List AV)) (x8 : Bool) (y9 y10 y11 y12 y13 y14 : Int) (y15 y16 : List (List AV))
 (y17 : Bool) (by18 : Int) (proof19 : List (List AV)) (r20 r21 r22 : Int),
 E cx (Key.fn 3)
 [AV.agg
 [vi x0, vi x1, vi x2, vi x3, vi x4, vi x5, AV.list 0 1 x6,
 AV.list 0 1 x7, vbool x8],
 AV.agg
 [vi y9, vi y10, vi y11, vi y12, vi y13, vi y14,
 AV.list 0 1 y15, AV.list 0 1 y16, vbool y17],
 vi by18, AV.list 0 1 proof19, AV.agg [vu r20, vu r21, vu r22]]
 [] =
 Option.bind
 (E cx (Key.fn 25)
 [AV.agg
 [vi x0, vi x1, vi x2, vi x3, vi x4, vi x5,
 AV.list 0 1 x6, AV.list 0 1 x7, vbool x8]]
 [])
 fun r23 ↦
 Option.bind (ret1 r23) fun v24 ↦
 Option.bind (AV.cells? v24) fun cs25 ↦
 Option.bind (uncons? cs25) fun p26 ↦
 Option.bind (AV.int? IntKind.u64 p26.fst) fun n27 ↦
 Option.bind (uncons? p26.snd) fun p28 ↦
 Option.bind (AV.int? IntKind.u64 p28.fst) fun n29 ↦
 Option.bind (uncons? p28.snd) fun p30 ↦
 Option.bind (AV.int? IntKind.u64 p30.fst) fun n31 ↦
 Option.bind (uncons? p30.snd) fun p32 ↦
 Option.bind (AV.int? IntKind.u64 p32.fst) fun n33 ↦
 Option.bind (uncons? p32.snd) fun p34 ↦
 Option.bind (AV.int? IntKind.u64 p34.fst) fun n35 ↦
 Option.bind (uncons? p34.snd) fun p36 ↦
 Option.bind (AV.int? IntKind.i64 p36.fst) fun n37 ↦
 Option.bind (uncons? p36.snd) fun p38 ↦
 Option.bind (AV.list? 1 p38.fst) fun es39 ↦
 Option.bind (uncons? p38.snd) fun p40 ↦
 Option.bind (AV.bool? p40.fst) fun b41 ↦
 Option.bind (uncons? p40.snd) fun p42 ↦
 Option.bind (AV.list? 2 p42.fst) fun es43 ↦
 Option.bind (nil? p42.snd) fun _ ↦
 Option.bind
 (E cx (Key.fn 25)
 [AV.agg
 [vi y9, vi y10, vi y11, vi y12, vi y13,
 vi y14, AV.list 0 1 y15, AV.list 0 1 y16,
 vbool y17]]
 [])
 fun r45 ↦
 Option.bind (ret1 r45) fun v46 ↦
 Option.bind (AV.cells? v46) fun cs47 ↦
 Option.bind (uncons? cs47) fun p48 ↦
 Option.bind (AV.int? IntKind.u64 p48.fst) fun n49 ↦
 Option.bind (uncons? p48.snd) fun p50 ↦
 Option.bind (AV.int? IntKind.u64 p50.fst) fun n51 ↦
 Option.bind (uncons? p50.snd) fun p52 ↦
 Option.bind (AV.int? IntKind.u64 p52.fst) fun n53 ↦
 Option.bind (uncons? p52.snd) fun p54 ↦
 Option.bind (AV.int? IntKind.u64 p54.fst) fun n55 ↦
 Option.bind (uncons? p54.snd) fun p56 ↦
 Option.bind (AV.int? IntKind.u64 p56.fst) fun n57 ↦
 Option.bind (uncons? p56.snd) fun p58 ↦
 Option.bind (AV.int? IntKind.i64 p58.fst) fun n59 ↦
 Option.bind (uncons? p58.snd) fun p60 ↦
 Option.bind (AV.list? 1 p60.fst) fun es61 ↦
 Option.bind (uncons? p60.snd) fun p62 ↦
 Option.bind (AV.bool? p62.fst) fun b63 ↦
 Option.bind (uncons? p62.snd) fun p64 ↦
 Option.bind (AV.list? 2 p64.fst) fun es65 ↦
 Option.bind (nil? p64.snd) fun _ ↦
 Option.bind
 (E cx (Key.fn 26)
 [AV.agg
 [vu n27, vu n29,
 vu n31, vu n33,
 vu n35, vi n37,
 AV.list 0 1 es39, vbool b41,
 AV.list 0 2 es43]]
 [])
 fun r67 ↦
 Option.bind (ret1 r67) fun v68 ↦
 Option.bind (AV.tup? v68) fun vs69 ↦
 Option.bind (uncons? vs69) fun p70 ↦
 Option.bind (AV.str? p70.fst) fun s71 ↦
 Option.bind (uncons? p70.snd) fun p72 ↦
 Option.bind
 (AV.int? IntKind.i64 p72.fst)
 fun n73 ↦
 Option.bind (nil? p72.snd) fun _ ↦
 Option.bind
 (E cx
 (Key.fn 26)
 [AV.agg
 [vu n49, vu n51,
 vu n53, vu n55,
 vu n57, vi n59,
 AV.list 0 1 es61,
 vbool b63,
 AV.list 0 2 es65]]
 [])
 fun r75 ↦
 Option.bind (ret1 r75) fun v76 ↦
 Option.bind (AV.tup? v76)
 fun vs77 ↦
 Option.bind (uncons? vs77)
 fun p78 ↦
 Option.bind (AV.str? p78.fst)
 fun s79 ↦
 Option.bind (uncons? p78.snd)
 fun p80 ↦
 Option.bind
 (AV.int? IntKind.i64
 p80.fst)
 fun n81 ↦
 Option.bind
 (nil? p80.snd)
 fun _ ↦
 Option.bind
 (E cx
 (Key.fn 27)
 [vs s71] [])
 fun r83 ↦
 Option.bind
 (ret1 r83)
 fun v84 ↦
 Option.bind
 (AV.tup? v84)
 fun vs85 ↦
 Option.bind
 (uncons? vs85)
 fun p86 ↦
 Option.bind
 (AV.cells?
 p86.fst)
 fun cs87 ↦
 Option.bind
 (uncons?
 cs87)
 fun p88 ↦
 Option.bind
 (AV.int?
 IntKind.u64
 p88.fst)
 fun n89 ↦
 Option.bind
 (uncons?
 p88.snd)
 fun p90 ↦
 Option.bind
 (AV.int?
 IntKind.u64
 p90.fst)
 fun n91 ↦
 Option.bind
 (uncons?
 p90.snd)
 fun p92 ↦
 Option.bind
 (AV.int?
 IntKind.u64
 p92.fst)
 fun n93 ↦
 Option.bind
 (uncons?
 p92.snd)
 fun p94 ↦
 Option.bind
 (AV.int?
 IntKind.u64
 p94.fst)
 fun n95 ↦
 Option.bind
 (uncons?
 p94.snd)
 fun
 p96 ↦
 Option.bind
 (AV.int?
 IntKind.u64
 p96.fst)
 fun
 n97 ↦
 Option.bind
 (uncons?
 p96.snd)
 fun
 p98 ↦
 Option.bind
 (AV.int?
 IntKind.i64
 p98.fst)
 fun
 n99 ↦
 Option.bind
 (uncons?
 p98.snd)
 fun
 p100 ↦
 Option.bind
 (AV.list?
 1
 p100.fst)
 fun
 es101 ↦
 Option.bind
 (uncons?
 p100.snd)
 fun
 p102 ↦
 Option.bind
 (AV.bool?
 p102.fst)
 fun
 b103 ↦
 Option.bind
 (uncons?
 p102.snd)
 fun
 p104 ↦
 Option.bind
 (AV.list?
 2
 p104.fst)
 fun
 es105 ↦
 Option.bind
 (nil?
 p104.snd)
 fun
 _ ↦
 Option.bind
 (uncons?
 p86.snd)
 fun
 p107 ↦
 Option.bind
 (AV.int?
 IntKind.i64
 p107.fst)
 fun
 n108 ↦
 Option.bind
 (nil?
 p107.snd)
 fun
 _ ↦
 Option.bind
 (E
 cx
 (Key.fn
 28)
 [AV.agg
 [vi
 x0,
 vi
 x1,
 vi
 x2,
 vi
 x3,
 vi
 x4,
 vi
 x5,
 AV.list
 0
 1
 x6,
 AV.list
 0
 1
 x7,
 vbool
 x8],
 vi
 by18,
 AV.list
 0
 1
 proof19]
 [])
 fun
 r110 ↦
 Option.bind
 (ret1
 r110)
 fun
 v111 ↦
 Option.bind
 (AV.cells?
 v111)
 fun
 cs112 ↦
 Option.bind
 (uncons?
 cs112)
 fun
 p113 ↦
 Option.bind
 (AV.int?
 IntKind.u64
 p113.fst)
 fun
 n114 ↦
 Option.bind
 (uncons?
 p113.snd)
 fun
 p115 ↦
 Option.bind
 (AV.bool?
 p115.fst)
 fun
 b116 ↦
 Option.bind
 (uncons?
 p115.snd)
 fun
 p117 ↦
 Option.bind
 (AV.list?
 2
 p117.fst)
 fun
 es118 ↦
 Option.bind
 (uncons?
 p117.snd)
 fun
 p119 ↦
 Option.bind
 (AV.int?
 IntKind.u64
 p119.fst)
 fun
 n120 ↦
 Option.bind
 (uncons?
 p119.snd)
 fun
 p121 ↦
 Option.bind
 (AV.int?
 IntKind.u64
 p121.fst)
 fun
 n122 ↦
 Option.bind
 (uncons?
 p121.snd)
 fun
 p123 ↦
 Option.bind
 (AV.int?
 IntKind.u64
 p123.fst)
 fun
 n124 ↦
 Option.bind
 (uncons?
 p123.snd)
 fun
 p125 ↦
 Option.bind
 (AV.int?
 IntKind.u64
 p125.fst)
 fun
 n126 ↦
 Option.bind
 (uncons?
 p125.snd)
 fun
 p127 ↦
 Option.bind
 (AV.int?
 IntKind.u64
 p127.fst)
 fun
 n128 ↦
 Option.bind
 (uncons?
 p127.snd)
 fun
 p129 ↦
 Option.bind
 (AV.int?
 IntKind.i64
 p129.fst)
 fun
 n130 ↦
 Option.bind
 (uncons?
 p129.snd)
 fun
 p131 ↦
 Option.bind
 (AV.list?
 1
 p131.fst)
 fun
 es132 ↦
 Option.bind
 (uncons?
 p131.snd)
 fun
 p133 ↦
 Option.bind
 (AV.bool?
 p133.fst)
 fun
 b134 ↦
 Option.bind
 (uncons?
 p133.snd)
 fun
 p135 ↦
 Option.bind
 (AV.list?
 2
 p135.fst)
 fun
 es136 ↦
 Option.bind
 (nil?
 p135.snd)
 fun
 _ ↦
 Option.bind
 (E
 cx
 (Key.fn
 29)
 [AV.agg
 [vu
 n114,
 vbool
 b116,
 AV.list
 0
 2
 es118,
 vu
 n120,
 vu
 n122,
 vu
 n124,
 vu
 n126,
 vu
 n128,
 vi
 n130,
 AV.list
 0
 1
 es132,
 vbool
 b134,
 AV.list
 0
 2
 es136]]
 [])
 fun
 r138 ↦
 Option.bind
 (ret1
 r138)
 fun
 v139 ↦
 Option.bind
 (AV.tup?
 v139)
 fun
 vs140 ↦
 Option.bind
 (uncons?
 vs140)
 fun
 p141 ↦
 Option.bind
 (AV.str?
 p141.fst)
 fun
 s142 ↦
 Option.bind
 (uncons?
 p141.snd)
 fun
 p143 ↦
 Option.bind
 (AV.int?
 IntKind.i64
 p143.fst)
 fun
 n144 ↦
 Option.bind
 (nil?
 p143.snd)
 fun
 _ ↦
 Option.bind
 (E
 cx
 (Key.fn
 30)
 [vs
 s142]
 [])
 fun
 r146 ↦
 Option.bind
 (ret1
 r146)
 fun
 v147 ↦
 Option.bind
 (AV.tup?
 v147)
 fun
 vs148 ↦
 Option.bind
 (uncons?
 vs148)
 fun
 p149 ↦
 Option.bind
 (AV.cells?
 p149.fst)
 fun
 cs150 ↦
 Option.bind
 (uncons?
 cs150)
 fun
 p151 ↦
 Option.bind
 (AV.int?
 IntKind.u64
 p151.fst)
 fun
 n152 ↦
 Option.bind
 (uncons?
 p151.snd)
 fun
 p153 ↦
 Option.bind
 (AV.bool?
 p153.fst)
 fun
 b154 ↦
 Option.bind
 (uncons?
 p153.snd)
 fun
 p155 ↦
 Option.bind
 (AV.list?
 2
 p155.fst)
 fun
 es156 ↦
 Option.bind
 (uncons?
 p155.snd)
 fun
 p157 ↦
 Option.bind
 (AV.int?
 IntKind.u64
 p157.fst)
 fun
 n158 ↦
 Option.bind
 (uncons?
 p157.snd)
 fun
 p159 ↦
 Option.bind
 (AV.int?
 IntKind.u64
 p159.fst)
 fun
 n160 ↦
 Option.bind
 (uncons?
 p159.snd)
 fun
 p161 ↦
 Option.bind
 (AV.int?
 IntKind.u64
 p161.fst)
 fun
 n162 ↦
 Option.bind
 (uncons?
 p161.snd)
 fun
 p163 ↦
 Option.bind
 (AV.int?
 IntKind.u64
 p163.fst)
 fun
 n164 ↦
 Option.bind
 (uncons?
 p163.snd)
 fun
 p165 ↦
 Option.bind
 (AV.int?
 IntKind.u64
 p165.fst)
 fun
 n166 ↦
 Option.bind
 (uncons?
 p165.snd)
 fun
 p167 ↦
 Option.bind
 (AV.int?
 IntKind.i64
 p167.fst)
 fun
 n168 ↦
 Option.bind
 (uncons?
 p167.snd)
 fun
 p169 ↦
 Option.bind
 (AV.list?
 1
 p169.fst)
 fun
 es170 ↦
 Option.bind
 (uncons?
 p169.snd)
 fun
 p171 ↦
 Option.bind
 (AV.bool?
 p171.fst)
 fun
 b172 ↦
 Option.bind
 (uncons?
 p171.snd)
 fun
 p173 ↦
 Option.bind
 (AV.list?
 2
 p173.fst)
 fun
 es174 ↦
 Option.bind
 (nil?
 p173.snd)
 fun
 _ ↦
 Option.bind
 (uncons?
 p149.snd)
 fun
 p176 ↦
 Option.bind
 (AV.int?
 IntKind.i64
 p176.fst)
 fun
 n177 ↦
 Option.bind
 (nil?
 p176.snd)
 fun
 _ ↦
 Option.bind
 (E
 cx
 (Key.fn
 32)
 [AV.agg
 [vu
 r20,
 vu
 r21,
 vu
 r22]]
 [])
 fun
 r179 ↦
 Option.bind
 (ret1
 r179)
 fun
 v180 ↦
 Option.bind
 (AV.str?
 v180)
 fun
 s181 ↦
 Option.bind
 (E
 cx
 (Key.fn
 31)
 [vs
 s181]
 [])
 fun
 r182 ↦
 Option.bind
 (ret1
 r182)
 fun
 v183 ↦
 Option.bind
 (AV.tup?
 v183)
 fun
 vs184 ↦
 Option.bind
 (uncons?
 vs184)
 fun
 p185 ↦
 Option.bind
 (AV.cells?
 p185.fst)
 fun
 cs186 ↦
 Option.bind
 (uncons?
 cs186)
 fun
 p187 ↦
 Option.bind
 (AV.int?
 IntKind.u64
 p187.fst)
 fun
 n188 ↦
 Option.bind
 (uncons?
 p187.snd)
 fun
 p189 ↦
 Option.bind
 (AV.int?
 IntKind.u64
 p189.fst)
 fun
 n190 ↦
 Option.bind
 (uncons?
 p189.snd)
 fun
 p191 ↦
 Option.bind
 (AV.int?
 IntKind.u64
 p191.fst)
 fun
 n192 ↦
 Option.bind
 (nil?
 p191.snd)
 fun
 _ ↦
 Option.bind
 (uncons?
 p185.snd)
 fun
 p194 ↦
 Option.bind
 (AV.int?
 IntKind.i64
 p194.fst)
 fun
 n195 ↦
 Option.bind
 (nil?
 p194.snd)
 fun
 _ ↦
 bif
 decide
 (n73 =
 0) then
 bif
 decide
 (n81 =
 0) then
 bif
 decide
 (n108 =
 0) then
 Option.bind
 (E
 cx
 (Key.fn
 33)
 [AV.agg
 [vu
 n27,
 vu
 n29,
 vu
 n31,
 vu
 n33,
 vu
 n35,
 vi
 n37,
 AV.list
 0
 1
 es39,
 vbool
 b41,
 AV.list
 0
 2
 es43],
 AV.agg
 [vu
 n89,
 vu
 n91,
 vu
 n93,
 vu
 n95,
 vu
 n97,
 vi
 n99,
 AV.list
 0
 1
 es101,
 vbool
 b103,
 AV.list
 0
 2
 es105]]
 [])
 fun
 r197 ↦
 Option.bind
 (ret1
 r197)
 fun
 v198 ↦
 Option.bind
 (AV.bool?
 v198)
 fun
 b199 ↦
 bif
 b199 then
 bif
 List.beq
 (ByteArray.toList
 s71)
 (ByteArray.toList
 s79) then
 Option.bind
 (E
 cx
 (Key.fn
 33)
 [AV.agg
 [vu
 n27,
 vu
 n29,
 vu
 n31,
 vu
 n33,
 vu
 n35,
 vi
 n37,
 AV.list
 0
 1
 es39,
 vbool
 b41,
 AV.list
 0
 2
 es43],
 AV.agg
 [vu
 n49,
 vu
 n51,
 vu
 n53,
 vu
 n55,
 vu
 n57,
 vi
 n59,
 AV.list
 0
 1
 es61,
 vbool
 b63,
 AV.list
 0
 2
 es65]]
 [])
 fun
 r200 ↦
 Option.bind
 (ret1
 r200)
 fun
 v201 ↦
 Option.bind
 (AV.bool?
 v201)
 fun
 b202 ↦
 bif
 b202 then
 q3_0
 n144
 n177
 n114
 b116
 es118
 n120
 n122
 n124
 n126
 n128
 n130
 es132
 b134
 es136
 n152
 b154
 es156
 n158
 n160
 n162
 n164
 n166
 n168
 es170
 b172
 es174
 n195
 n188
 r20
 n190
 r21
 n192
 r22
 else
 some
 (Out.ret
 (vbool
 false),
 [])
 else
 Option.bind
 (E
 cx
 (Key.fn
 33)
 [AV.agg
 [vu
 n27,
 vu
 n29,
 vu
 n31,
 vu
 n33,
 vu
 n35,
 vi
 n37,
 AV.list
 0
 1
 es39,
 vbool
 b41,
 AV.list
 0
 2
 es43],
 AV.agg
 [vu
 n49,
 vu
 n51,
 vu
 n53,
 vu
 n55,
 vu
 n57,
 vi
 n59,
 AV.list
 0
 1
 es61,
 vbool
 b63,
 AV.list
 0
 2
 es65]]
 [])
 fun
 r209 ↦
 Option.bind
 (ret1
 r209)
 fun
 v210 ↦
 Option.bind
 (AV.bool?
 v210)
 fun
 b211 ↦
 bif
 b211 then
 some
 (Out.ret
 (vbool
 false),
 [])
 else
 q3_0
 n144
 n177
 n114
 b116
 es118
 n120
 n122
 n124
 n126
 n128
 n130
 es132
 b134
 es136
 n152
 b154
 es156
 n158
 n160
 n162
 n164
 n166
 n168
 es170
 b172
 es174
 n195
 n188
 r20
 n190
 r21
 n192
 r22
 else
 some
 (Out.ret
 (vbool
 false),
 [])
 else
 some
 (Out.ret
 (vbool
 false),
 [])
 else
 some
 (Out.ret
 (vbool
 false),
 [])
 else
 some
 (Out.ret
 (vbool
 false),
 []) := by
 intros
 exact (E_ov f24_true [188] _ _ _).trans (by kernel_rfl)
end Go.Proofs.Av
