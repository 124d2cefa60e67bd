/- Bits: law 15 as a tree. -/
import Derived.Test.YtoepfmodbhfckaaAfPP
set_option maxRecDepth 100000
namespace Go.Proofs.Av
open Go
noncomputable def q15_0 : List (List AV) →
 List (List AV) → List (List AV) → List (List AV) → Option (Out × Heap) :=
 fun es45 es11 es19 es27 ↦
 bif
 decide
 (((List.length es45) : Int) ≤
 IntKind.wrap IntKind.i64 (Int.add (IntKind.wrap IntKind.i64 (Int.add ((List.length es11) : Int) ((List.length es19) : Int))) ((List.length es27) : Int))) then
 some (Out.ret (vbool true), [])
 else some (Out.ret (vbool false), [])


noncomputable def q15_1 : Int →
 Int →
 Int →
 Int →
 Int →
 Int →
 List (List AV) →
 Int →
 List (List AV) →
 Int →
 List (List AV) →
 Int →
 List (List AV) →
 Int →
 List (List AV) →
 Int →
 List (List AV) →
 Int → List (List AV) → Int → List (List AV) → Option (Out × Heap) :=
 fun n48 n61 n74 n87 n100 n43 es45 n56 es58 n82 es84 n95 es97 n9 es11 n17 es19 n25 es27 n33 es35 ↦
 bif decide (n48 = 0) then
 bif decide (n61 = 0) then
 bif decide (n74 = 0) then
 bif decide (n87 = 0) then
 bif decide (n100 = 0) then
 Option.bind
 (E cx (Key.fn 67)
 [AV.agg [vi n43, AV.list 0 1 es45],
 AV.agg [vi n56, AV.list 0 1 es58]]
 [])
 fun r132 ↦
 Option.bind (ret1 r132) fun v133 ↦
 Option.bind (AV.bool? v133) fun b134 ↦
 bif b134 then
 Option.bind
 (E cx (Key.fn 67)
 [AV.agg [vi n43, AV.list 0 1 es45],
 AV.agg [vi n82, AV.list 0 1 es84]]
 [])
 fun r135 ↦
 Option.bind (ret1 r135) fun v136 ↦
 Option.bind (AV.bool? v136) fun b137 ↦
 bif b137 then
 Option.bind
 (E cx (Key.fn 67)
 [AV.agg [vi n95, AV.list 0 1 es97],
 AV.agg [vi n9, AV.list 0 1 es11]]
 [])
 fun r138 ↦
 Option.bind (ret1 r138) fun v139 ↦
 Option.bind (AV.bool? v139) fun b140 ↦
 bif b140 then
 Option.bind
 (E cx (Key.fn 70)
 [AV.agg [vi n9, AV.list 0 1 es11],
 AV.agg [vi n43, AV.list 0 1 es45]]
 [])
 fun r141 ↦
 Option.bind (ret1 r141) fun v142 ↦
 Option.bind (AV.bool? v142) fun b143 ↦
 bif b143 then
 Option.bind
 (E cx (Key.fn 70)
 [AV.agg [vi n17, AV.list 0 1 es19],
 AV.agg [vi n43, AV.list 0 1 es45]]
 [])
 fun r144 ↦
 Option.bind (ret1 r144) fun v145 ↦
 Option.bind (AV.bool? v145) fun b146 ↦
 bif b146 then
 Option.bind
 (E cx (Key.fn 70)
 [AV.agg [vi n25, AV.list 0 1 es27],
 AV.agg [vi n43, AV.list 0 1 es45]]
 [])
 fun r147 ↦
 Option.bind (ret1 r147) fun v148 ↦
 Option.bind (AV.bool? v148) fun b149 ↦
 bif b149 then
 Option.bind
 (E cx (Key.fn 70)
 [AV.agg [vi n43, AV.list 0 1 es45],
 AV.agg [vi n33, AV.list 0 1 es35]]
 [])
 fun r150 ↦
 Option.bind (ret1 r150) fun v151 ↦
 Option.bind (AV.bool? v151) fun b152 ↦
 bif b152 then some (Out.ret (vbool false), [])
 else q15_0 es45 es11 es19 es27
 else some (Out.ret (vbool false), [])
 else some (Out.ret (vbool false), [])
 else some (Out.ret (vbool false), [])
 else some (Out.ret (vbool false), [])
 else some (Out.ret (vbool false), [])
 else some (Out.ret (vbool false), [])
 else some (Out.ret (vbool false), [])
 else some (Out.ret (vbool false), [])
 else some (Out.ret (vbool false), [])
 else some (Out.ret (vbool false), [])
 else some (Out.ret (vbool false), [])


theorem f15 : ∀ (n0 : Int) (one1 two2 three3 four4 : List (List AV)),
 E cx (Key.fn 15)
 [vi n0, AV.list 0 1 one1, AV.list 0 1 two2, AV.list 0 1 three3, AV.list 0 1 four4] [] =
 Option.bind (E cx (Key.fn 55) [vi n0, vi 60, AV.list 0 1 one1] []) fun r5 ↦
 Option.bind (ret1 r5) fun v6 ↦
 Option.bind (AV.cells? v6) fun cs7 ↦
 Option.bind (uncons? cs7) fun p8 ↦
 Option.bind (AV.int? IntKind.i64 p8.fst) fun n9 ↦
 Option.bind (uncons? p8.snd) fun p10 ↦
 Option.bind (AV.list? 1 p10.fst) fun es11 ↦
 Option.bind (nil? p10.snd) fun _ ↦
 Option.bind
 (E cx (Key.fn 55) [vi n0, vi 60, AV.list 0 1 two2] [])
 fun r13 ↦
 Option.bind (ret1 r13) fun v14 ↦
 Option.bind (AV.cells? v14) fun cs15 ↦
 Option.bind (uncons? cs15) fun p16 ↦
 Option.bind (AV.int? IntKind.i64 p16.fst) fun n17 ↦
 Option.bind (uncons? p16.snd) fun p18 ↦
 Option.bind (AV.list? 1 p18.fst) fun es19 ↦
 Option.bind (nil? p18.snd) fun _ ↦
 Option.bind
 (E cx (Key.fn 55)
 [vi n0, vi 60, AV.list 0 1 three3] [])
 fun r21 ↦
 Option.bind (ret1 r21) fun v22 ↦
 Option.bind (AV.cells? v22) fun cs23 ↦
 Option.bind (uncons? cs23) fun p24 ↦
 Option.bind (AV.int? IntKind.i64 p24.fst) fun n25 ↦
 Option.bind (uncons? p24.snd) fun p26 ↦
 Option.bind (AV.list? 1 p26.fst) fun es27 ↦
 Option.bind (nil? p26.snd) fun _ ↦
 Option.bind
 (E cx (Key.fn 55)
 [vi n0, vi 60, AV.list 0 1 four4] [])
 fun r29 ↦
 Option.bind (ret1 r29) fun v30 ↦
 Option.bind (AV.cells? v30) fun cs31 ↦
 Option.bind (uncons? cs31) fun p32 ↦
 Option.bind (AV.int? IntKind.i64 p32.fst) fun n33 ↦
 Option.bind (uncons? p32.snd) fun p34 ↦
 Option.bind (AV.list? 1 p34.fst) fun es35 ↦
 Option.bind (nil? p34.snd) fun _ ↦
 Option.bind
 (E cx (Key.fn 65)
 [AV.agg [vi n9, AV.list 0 1 es11],
 AV.list 0 2
 [[vi n17, AV.list 0 1 es19],
 [vi n25, AV.list 0 1 es27]]]
 [])
 fun r37 ↦
 Option.bind (ret1 r37) fun v38 ↦
 Option.bind (AV.tup? v38) fun vs39 ↦
 Option.bind (uncons? vs39) fun p40 ↦
 Option.bind (AV.cells? p40.fst) fun cs41 ↦
 Option.bind (uncons? cs41) fun p42 ↦
 Option.bind (AV.int? IntKind.i64 p42.fst) fun n43 ↦
 Option.bind (uncons? p42.snd) fun p44 ↦
 Option.bind (AV.list? 1 p44.fst) fun es45 ↦
 Option.bind (nil? p44.snd) fun _ ↦
 Option.bind (uncons? p40.snd) fun p47 ↦
 Option.bind (AV.int? IntKind.i64 p47.fst) fun n48 ↦
 Option.bind (nil? p47.snd) fun _ ↦
 Option.bind
 (E cx (Key.fn 65)
 [AV.agg
 [vi n25, AV.list 0 1 es27],
 AV.list 0 2
 [[vi n9, AV.list 0 1 es11],
 [vi n17, AV.list 0 1 es19]]]
 [])
 fun r50 ↦
 Option.bind (ret1 r50) fun v51 ↦
 Option.bind (AV.tup? v51) fun vs52 ↦
 Option.bind (uncons? vs52) fun p53 ↦
 Option.bind (AV.cells? p53.fst) fun cs54 ↦
 Option.bind (uncons? cs54) fun p55 ↦
 Option.bind
 (AV.int? IntKind.i64 p55.fst)
 fun n56 ↦
 Option.bind (uncons? p55.snd) fun p57 ↦
 Option.bind (AV.list? 1 p57.fst)
 fun es58 ↦
 Option.bind (nil? p57.snd)
 fun _ ↦
 Option.bind (uncons? p53.snd)
 fun p60 ↦
 Option.bind
 (AV.int? IntKind.i64
 p60.fst)
 fun n61 ↦
 Option.bind (nil? p60.snd)
 fun _ ↦
 Option.bind
 (E cx
 (Key.fn 65)
 [AV.agg
 [vi n9,
 AV.list 0 1
 es11],
 AV.list 0 2
 [[vi n17,
 AV.list 0 1
 es19]]]
 [])
 fun r63 ↦
 Option.bind (ret1 r63)
 fun v64 ↦
 Option.bind
 (AV.tup? v64)
 fun vs65 ↦
 Option.bind
 (uncons? vs65)
 fun p66 ↦
 Option.bind
 (AV.cells?
 p66.fst)
 fun cs67 ↦
 Option.bind
 (uncons? cs67)
 fun p68 ↦
 Option.bind
 (AV.int?
 IntKind.i64 p68.fst)
 fun n69 ↦
 Option.bind
 (uncons?
 p68.snd)
 fun p70 ↦
 Option.bind
 (AV.list?
 1 p70.fst)
 fun es71 ↦
 Option.bind
 (nil?
 p70.snd)
 fun _ ↦
 Option.bind
 (uncons?
 p66.snd)
 fun p73 ↦
 Option.bind
 (AV.int?
 IntKind.i64
 p73.fst)
 fun n74 ↦
 Option.bind
 (nil?
 p73.snd)
 fun _ ↦
 Option.bind
 (E
 cx
 (Key.fn
 65)
 [AV.agg
 [vi
 n69,
 AV.list
 0
 1
 es71],
 AV.list
 0 2
 [[vi
 n25,
 AV.list
 0
 1
 es27]]]
 [])
 fun r76 ↦
 Option.bind
 (ret1
 r76)
 fun v77 ↦
 Option.bind
 (AV.tup?
 v77)
 fun
 vs78 ↦
 Option.bind
 (uncons?
 vs78)
 fun
 p79 ↦
 Option.bind
 (AV.cells?
 p79.fst)
 fun
 cs80 ↦
 Option.bind
 (uncons?
 cs80)
 fun
 p81 ↦
 Option.bind
 (AV.int?
 IntKind.i64
 p81.fst)
 fun
 n82 ↦
 Option.bind
 (uncons?
 p81.snd)
 fun
 p83 ↦
 Option.bind
 (AV.list?
 1
 p83.fst)
 fun
 es84 ↦
 Option.bind
 (nil?
 p83.snd)
 fun
 _ ↦
 Option.bind
 (uncons?
 p79.snd)
 fun
 p86 ↦
 Option.bind
 (AV.int?
 IntKind.i64
 p86.fst)
 fun
 n87 ↦
 Option.bind
 (nil?
 p86.snd)
 fun
 _ ↦
 Option.bind
 (E
 cx
 (Key.fn
 65)
 [AV.agg
 [vi
 n9,
 AV.list
 0
 1
 es11],
 AV.val
 (Value.slice
 none
 0
 0)]
 [])
 fun
 r89 ↦
 Option.bind
 (ret1
 r89)
 fun
 v90 ↦
 Option.bind
 (AV.tup?
 v90)
 fun
 vs91 ↦
 Option.bind
 (uncons?
 vs91)
 fun
 p92 ↦
 Option.bind
 (AV.cells?
 p92.fst)
 fun
 cs93 ↦
 Option.bind
 (uncons?
 cs93)
 fun
 p94 ↦
 Option.bind
 (AV.int?
 IntKind.i64
 p94.fst)
 fun
 n95 ↦
 Option.bind
 (uncons?
 p94.snd)
 fun
 p96 ↦
 Option.bind
 (AV.list?
 1
 p96.fst)
 fun
 es97 ↦
 Option.bind
 (nil?
 p96.snd)
 fun
 _ ↦
 Option.bind
 (uncons?
 p92.snd)
 fun
 p99 ↦
 Option.bind
 (AV.int?
 IntKind.i64
 p99.fst)
 fun
 n100 ↦
 Option.bind
 (nil?
 p99.snd)
 fun
 _ ↦
 Option.bind
 (E
 cx
 (Key.fn
 70)
 [AV.agg
 [vi
 n9,
 AV.list
 0
 1
 es11],
 AV.agg
 [vi
 n33,
 AV.list
 0
 1
 es35]]
 [])
 fun
 r102 ↦
 Option.bind
 (ret1
 r102)
 fun
 v103 ↦
 Option.bind
 (AV.bool?
 v103)
 fun
 b104 ↦
 bif
 b104 then
 Option.bind
 (E
 cx
 (Key.fn
 70)
 [AV.agg
 [vi
 n17,
 AV.list
 0
 1
 es19],
 AV.agg
 [vi
 n33,
 AV.list
 0
 1
 es35]]
 [])
 fun
 r105 ↦
 Option.bind
 (ret1
 r105)
 fun
 v106 ↦
 Option.bind
 (AV.bool?
 v106)
 fun
 b107 ↦
 bif
 b107 then
 Option.bind
 (E
 cx
 (Key.fn
 70)
 [AV.agg
 [vi
 n25,
 AV.list
 0
 1
 es27],
 AV.agg
 [vi
 n33,
 AV.list
 0
 1
 es35]]
 [])
 fun
 r108 ↦
 Option.bind
 (ret1
 r108)
 fun
 v109 ↦
 Option.bind
 (AV.bool?
 v109)
 fun
 b110 ↦
 bif
 b110 then
 bif
 decide
 (n48 =
 0) then
 bif
 decide
 (n61 =
 0) then
 bif
 decide
 (n74 =
 0) then
 bif
 decide
 (n87 =
 0) then
 bif
 decide
 (n100 =
 0) then
 Option.bind
 (E
 cx
 (Key.fn
 67)
 [AV.agg
 [vi
 n43,
 AV.list
 0
 1
 es45],
 AV.agg
 [vi
 n56,
 AV.list
 0
 1
 es58]]
 [])
 fun
 r111 ↦
 Option.bind
 (ret1
 r111)
 fun
 v112 ↦
 Option.bind
 (AV.bool?
 v112)
 fun
 b113 ↦
 bif
 b113 then
 Option.bind
 (E
 cx
 (Key.fn
 67)
 [AV.agg
 [vi
 n43,
 AV.list
 0
 1
 es45],
 AV.agg
 [vi
 n82,
 AV.list
 0
 1
 es84]]
 [])
 fun
 r114 ↦
 Option.bind
 (ret1
 r114)
 fun
 v115 ↦
 Option.bind
 (AV.bool?
 v115)
 fun
 b116 ↦
 bif
 b116 then
 Option.bind
 (E
 cx
 (Key.fn
 67)
 [AV.agg
 [vi
 n95,
 AV.list
 0
 1
 es97],
 AV.agg
 [vi
 n9,
 AV.list
 0
 1
 es11]]
 [])
 fun
 r117 ↦
 Option.bind
 (ret1
 r117)
 fun
 v118 ↦
 Option.bind
 (AV.bool?
 v118)
 fun
 b119 ↦
 bif
 b119 then
 Option.bind
 (E
 cx
 (Key.fn
 70)
 [AV.agg
 [vi
 n9,
 AV.list
 0
 1
 es11],
 AV.agg
 [vi
 n43,
 AV.list
 0
 1
 es45]]
 [])
 fun
 r120 ↦
 Option.bind
 (ret1
 r120)
 fun
 v121 ↦
 Option.bind
 (AV.bool?
 v121)
 fun
 b122 ↦
 bif
 b122 then
 Option.bind
 (E
 cx
 (Key.fn
 70)
 [AV.agg
 [vi
 n17,
 AV.list
 0
 1
 es19],
 AV.agg
 [vi
 n43,
 AV.list
 0
 1
 es45]]
 [])
 fun
 r123 ↦
 Option.bind
 (ret1
 r123)
 fun
 v124 ↦
 Option.bind
 (AV.bool?
 v124)
 fun
 b125 ↦
 bif
 b125 then
 Option.bind
 (E
 cx
 (Key.fn
 70)
 [AV.agg
 [vi
 n25,
 AV.list
 0
 1
 es27],
 AV.agg
 [vi
 n43,
 AV.list
 0
 1
 es45]]
 [])
 fun
 r126 ↦
 Option.bind
 (ret1
 r126)
 fun
 v127 ↦
 Option.bind
 (AV.bool?
 v127)
 fun
 b128 ↦
 bif
 b128 then
 Option.bind
 (E
 cx
 (Key.fn
 70)
 [AV.agg
 [vi
 n43,
 AV.list
 0
 1
 es45],
 AV.agg
 [vi
 n33,
 AV.list
 0
 1
 es35]]
 [])
 fun
 r129 ↦
 Option.bind
 (ret1
 r129)
 fun
 v130 ↦
 Option.bind
 (AV.bool?
 v130)
 fun
 b131 ↦
 bif
 b131 then
 q15_0
 es45
 es11
 es19
 es27
 else
 some
 (Out.ret
 (vbool
 false),
 [])
 else
 some
 (Out.ret
 (vbool
 false),
 [])
 else
 some
 (Out.ret
 (vbool
 false),
 [])
 else
 some
 (Out.ret
 (vbool
 false),
 [])
 else
 some
 (Out.ret
 (vbool
 false),
 [])
 else
 some
 (Out.ret
 (vbool
 false),
 [])
 else
 some
 (Out.ret
 (vbool
 false),
 [])
 else
 some
 (Out.ret
 (vbool
 false),
 [])
 else
 some
 (Out.ret
 (vbool
 false),
 [])
 else
 some
 (Out.ret
 (vbool
 false),
 [])
 else
 some
 (Out.ret
 (vbool
 false),
 [])
 else
 some
 (Out.ret
 (vbool
 false),
 [])
 else
 q15_1
 n48
 n61
 n74
 n87
 n100
 n43
 es45
 n56
 es58
 n82
 es84
 n95
 es97
 n9
 es11
 n17
 es19
 n25
 es27
 n33
 es35
 else
 q15_1
 n48
 n61
 n74
 n87
 n100
 n43
 es45
 n56
 es58
 n82
 es84
 n95
 es97
 n9
 es11
 n17
 es19
 n25
 es27
 n33
 es35
 else
 q15_1
 n48
 n61
 n74
 n87
 n100
 n43
 es45
 n56
 es58
 n82
 es84
 n95
 es97
 n9
 es11
 n17
 es19
 n25
 es27
 n33
 es35 := by
  intros
  exact (E_ov f54_true [188] _ _ _).trans (by kernel_rfl)

end Go.Proofs.Av
