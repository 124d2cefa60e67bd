/- A law's tree. -/
import Derived.Test.YtoaihfbmoppajaaDoorAbX
set_option maxRecDepth 100000
namespace Go.Proofs.Av
open Go
theorem f3 : ∀ (n0 n1 n2 n3 n4 n5 at6 slot7 : Int),
 E cx (Key.fn 3) [AV.agg [vi n0, vi n1, vi n2, vi n3, vi n4, vi n5], vi at6, vi slot7] [] =
 Option.bind (E cx (Key.fn 4) [] []) fun r8 ↦
 Option.bind (ret1 r8) fun v9 ↦
 Option.bind (AV.bool? v9) fun b10 ↦
 bif b10 then
 Option.bind (E cx (Key.fn 5) [AV.agg [vi n0, vi n1, vi n2, vi n3, vi n4, vi n5], vu 0] []) fun r11 ↦
 Option.bind (ret1 r11) fun v12 ↦
 Option.bind (AV.cells? v12) fun cs13 ↦
 Option.bind (uncons? cs13) fun p14 ↦
 Option.bind (AV.int? IntKind.i64 p14.fst) fun n15 ↦
 Option.bind (uncons? p14.snd) fun p16 ↦
 Option.bind (AV.int? IntKind.i64 p16.fst) fun n17 ↦
 Option.bind (uncons? p16.snd) fun p18 ↦
 Option.bind (AV.int? IntKind.i64 p18.fst) fun n19 ↦
 Option.bind (uncons? p18.snd) fun p20 ↦
 Option.bind (AV.int? IntKind.i64 p20.fst) fun n21 ↦
 Option.bind (uncons? p20.snd) fun p22 ↦
 Option.bind (AV.int? IntKind.i64 p22.fst) fun n23 ↦
 Option.bind (uncons? p22.snd) fun p24 ↦
 Option.bind (AV.int? IntKind.i64 p24.fst) fun n25 ↦
 Option.bind (uncons? p24.snd) fun p26 ↦
 Option.bind (AV.int? IntKind.i64 p26.fst) fun n27 ↦
 Option.bind (uncons? p26.snd) fun p28 ↦
 Option.bind (AV.int? IntKind.i64 p28.fst) fun n29 ↦
 Option.bind (uncons? p28.snd) fun p30 ↦
 Option.bind (AV.int? IntKind.i64 p30.fst) fun n31 ↦
 Option.bind (uncons? p30.snd) fun p32 ↦
 Option.bind (AV.int? IntKind.u64 p32.fst) fun n33 ↦
 Option.bind (nil? p32.snd) fun x34 ↦
 Option.bind (E cx (Key.fn 6) [vi at6, vi 1099511627777] []) fun r35 ↦
 Option.bind (ret1 r35) fun v36 ↦
 Option.bind (AV.int? IntKind.i64 v36) fun n37 ↦
 Option.bind
 (E cx (Key.fn 7)
 [AV.agg [vi n15, vi n17, vi n19, vi n21, vi n23, vi n25, vi n27, vi n29, vi n31, vu n33],
 vi n37]
 [])
 fun r38 ↦
 Option.bind (ret1 r38) fun v39 ↦
 Option.bind (AV.tup? v39) fun vs40 ↦
 Option.bind (uncons? vs40) fun p41 ↦
 Option.bind (AV.int? IntKind.i64 p41.fst) fun n42 ↦
 Option.bind (uncons? p41.snd) fun p43 ↦
 Option.bind (AV.int? IntKind.i64 p43.fst) fun n44 ↦
 Option.bind (nil? p43.snd) fun x45 ↦
 Option.bind
 (E cx (Key.fn 8)
 [AV.agg
 [vi n15, vi n17, vi n19, vi n21, vi n23, vi n25, vi n27, vi n29,
 vi n31, vu n33],
 vi n37]
 [])
 fun r46 ↦
 Option.bind (ret1 r46) fun v47 ↦
 Option.bind (AV.tup? v47) fun vs48 ↦
 Option.bind (uncons? vs48) fun p49 ↦
 Option.bind (AV.int? IntKind.i64 p49.fst) fun n50 ↦
 Option.bind (uncons? p49.snd) fun p51 ↦
 Option.bind (AV.int? IntKind.i64 p51.fst) fun n52 ↦
 Option.bind (uncons? p51.snd) fun p53 ↦
 Option.bind (AV.int? IntKind.i64 p53.fst) fun n54 ↦
 Option.bind (nil? p53.snd) fun x55 ↦
 Option.bind
 (E cx (Key.fn 6)
 [vi slot7,
 vi
 (IntKind.wrap IntKind.i64
 (Int.add
 (IntKind.wrap IntKind.i64
 (Int.mul 2 n27))
 12))]
 [])
 fun r56 ↦
 Option.bind (ret1 r56) fun v57 ↦
 Option.bind (AV.int? IntKind.i64 v57) fun n58 ↦
 Option.bind
 (E cx (Key.fn 9)
 [AV.agg
 [vi n15, vi n17, vi n19, vi n21, vi n23,
 vi n25, vi n27, vi n29, vi n31, vu n33],
 vi n37,
 vi
 (if
 0 >
 IntKind.wrap IntKind.i64
 (Int.sub
 (IntKind.wrap IntKind.i64
 (Int.sub
 (IntKind.wrap
 IntKind.i64
 (Int.add n42 n58))
 n27))
 6) then
 0
 else
 IntKind.wrap IntKind.i64
 (Int.sub
 (IntKind.wrap IntKind.i64
 (Int.sub
 (IntKind.wrap IntKind.i64
 (Int.add n42 n58))
 n27))
 6))]
 [])
 fun r59 ↦
 Option.bind (ret1 r59) fun v60 ↦
 Option.bind (AV.tup? v60) fun vs61 ↦
 Option.bind (uncons? vs61) fun p62 ↦
 Option.bind (AV.int? IntKind.i64 p62.fst)
 fun n63 ↦
 Option.bind (uncons? p62.snd) fun p64 ↦
 Option.bind
 (AV.int? IntKind.i64 p64.fst)
 fun n65 ↦
 Option.bind (nil? p64.snd) fun x66 ↦
 Option.bind
 (E cx (Key.fn 9)
 [AV.agg
 [vi n15, vi n17, vi n19,
 vi n21, vi n23, vi n25,
 vi n27, vi n29, vi n31,
 vu n33],
 vi n37, vi n42]
 [])
 fun r67 ↦
 Option.bind (ret1 r67) fun v68 ↦
 Option.bind (AV.tup? v68)
 fun vs69 ↦
 Option.bind (uncons? vs69)
 fun p70 ↦
 Option.bind
 (AV.int? IntKind.i64
 p70.fst)
 fun n71 ↦
 Option.bind
 (uncons? p70.snd)
 fun p72 ↦
 Option.bind
 (AV.int?
 IntKind.i64
 p72.fst)
 fun n73 ↦
 Option.bind
 (nil? p72.snd)
 fun x74 ↦
 bif
 decide
 (n44 = 0) then
 bif
 decide
 (n54 =
 0) then
 bif
 decide
 (n65 =
 0) then
 bif
 decide
 (n73 =
 0) then
 bif
 decide
 (n71 =
 1) then
 bif
 decide
 (n50 ≥
 0) then
 bif
 decide
 (n50 ≤
 n42) then
 bif
 decide
 (n42 ≤
 n52) then
 bif
 decide
 (IntKind.wrap
 IntKind.i64
 (Int.sub
 n52
 n50) <
 IntKind.wrap
 IntKind.i64
 (Int.add
 n27
 3)) then
 bif
 decide
 (n63 =
 1) then
 bif
 decide
 (n50 ≤
 if
 0 >
 IntKind.wrap
 IntKind.i64
 (Int.sub
 (IntKind.wrap
 IntKind.i64
 (Int.sub
 (IntKind.wrap
 IntKind.i64
 (Int.add
 n42
 n58))
 n27))
 6) then
 0
 else
 IntKind.wrap
 IntKind.i64
 (Int.sub
 (IntKind.wrap
 IntKind.i64
 (Int.sub
 (IntKind.wrap
 IntKind.i64
 (Int.add
 n42
 n58))
 n27))
 6)) then
 bif
 decide
 ((if
 0 >
 IntKind.wrap
 IntKind.i64
 (Int.sub
 (IntKind.wrap
 IntKind.i64
 (Int.sub
 (IntKind.wrap
 IntKind.i64
 (Int.add
 n42
 n58))
 n27))
 6) then
 0
 else
 IntKind.wrap
 IntKind.i64
 (Int.sub
 (IntKind.wrap
 IntKind.i64
 (Int.sub
 (IntKind.wrap
 IntKind.i64
 (Int.add
 n42
 n58))
 n27))
 6)) ≤
 n52) then
 bif
 decide
 (n63 =
 2) then
 bif
 decide
 ((if
 0 >
 IntKind.wrap
 IntKind.i64
 (Int.sub
 (IntKind.wrap
 IntKind.i64
 (Int.sub
 (IntKind.wrap
 IntKind.i64
 (Int.add
 n42
 n58))
 n27))
 6) then
 0
 else
 IntKind.wrap
 IntKind.i64
 (Int.sub
 (IntKind.wrap
 IntKind.i64
 (Int.sub
 (IntKind.wrap
 IntKind.i64
 (Int.add
 n42
 n58))
 n27))
 6)) <
 n50) then
 bif
 decide
 (n63 =
 0) then
 bif
 decide
 ((if
 0 >
 IntKind.wrap
 IntKind.i64
 (Int.sub
 (IntKind.wrap
 IntKind.i64
 (Int.sub
 (IntKind.wrap
 IntKind.i64
 (Int.add
 n42
 n58))
 n27))
 6) then
 0
 else
 IntKind.wrap
 IntKind.i64
 (Int.sub
 (IntKind.wrap
 IntKind.i64
 (Int.sub
 (IntKind.wrap
 IntKind.i64
 (Int.add
 n42
 n58))
 n27))
 6)) >
 n52) then
 some
 (Out.ret
 (vbool
 true),
 [])
 else
 some
 (Out.ret
 (vbool
 false),
 [])
 else
 bif
 decide
 ((if
 0 >
 IntKind.wrap
 IntKind.i64
 (Int.sub
 (IntKind.wrap
 IntKind.i64
 (Int.sub
 (IntKind.wrap
 IntKind.i64
 (Int.add
 n42
 n58))
 n27))
 6) then
 0
 else
 IntKind.wrap
 IntKind.i64
 (Int.sub
 (IntKind.wrap
 IntKind.i64
 (Int.sub
 (IntKind.wrap
 IntKind.i64
 (Int.add
 n42
 n58))
 n27))
 6)) >
 n52) then
 some
 (Out.ret
 (vbool
 false),
 [])
 else
 some
 (Out.ret
 (vbool
 true),
 [])
 else
 some
 (Out.ret
 (vbool
 false),
 [])
 else
 bif
 decide
 ((if
 0 >
 IntKind.wrap
 IntKind.i64
 (Int.sub
 (IntKind.wrap
 IntKind.i64
 (Int.sub
 (IntKind.wrap
 IntKind.i64
 (Int.add
 n42
 n58))
 n27))
 6) then
 0
 else
 IntKind.wrap
 IntKind.i64
 (Int.sub
 (IntKind.wrap
 IntKind.i64
 (Int.sub
 (IntKind.wrap
 IntKind.i64
 (Int.add
 n42
 n58))
 n27))
 6)) <
 n50) then
 some
 (Out.ret
 (vbool
 false),
 [])
 else
 bif
 decide
 (n63 =
 0) then
 bif
 decide
 ((if
 0 >
 IntKind.wrap
 IntKind.i64
 (Int.sub
 (IntKind.wrap
 IntKind.i64
 (Int.sub
 (IntKind.wrap
 IntKind.i64
 (Int.add
 n42
 n58))
 n27))
 6) then
 0
 else
 IntKind.wrap
 IntKind.i64
 (Int.sub
 (IntKind.wrap
 IntKind.i64
 (Int.sub
 (IntKind.wrap
 IntKind.i64
 (Int.add
 n42
 n58))
 n27))
 6)) >
 n52) then
 some
 (Out.ret
 (vbool
 true),
 [])
 else
 some
 (Out.ret
 (vbool
 false),
 [])
 else
 bif
 decide
 ((if
 0 >
 IntKind.wrap
 IntKind.i64
 (Int.sub
 (IntKind.wrap
 IntKind.i64
 (Int.sub
 (IntKind.wrap
 IntKind.i64
 (Int.add
 n42
 n58))
 n27))
 6) then
 0
 else
 IntKind.wrap
 IntKind.i64
 (Int.sub
 (IntKind.wrap
 IntKind.i64
 (Int.sub
 (IntKind.wrap
 IntKind.i64
 (Int.add
 n42
 n58))
 n27))
 6)) >
 n52) then
 some
 (Out.ret
 (vbool
 false),
 [])
 else
 some
 (Out.ret
 (vbool
 true),
 [])
 else
 some
 (Out.ret
 (vbool
 false),
 [])
 else
 some
 (Out.ret
 (vbool
 false),
 [])
 else
 bif
 decide
 (n50 ≤
 if
 0 >
 IntKind.wrap
 IntKind.i64
 (Int.sub
 (IntKind.wrap
 IntKind.i64
 (Int.sub
 (IntKind.wrap
 IntKind.i64
 (Int.add
 n42
 n58))
 n27))
 6) then
 0
 else
 IntKind.wrap
 IntKind.i64
 (Int.sub
 (IntKind.wrap
 IntKind.i64
 (Int.sub
 (IntKind.wrap
 IntKind.i64
 (Int.add
 n42
 n58))
 n27))
 6)) then
 bif
 decide
 ((if
 0 >
 IntKind.wrap
 IntKind.i64
 (Int.sub
 (IntKind.wrap
 IntKind.i64
 (Int.sub
 (IntKind.wrap
 IntKind.i64
 (Int.add
 n42
 n58))
 n27))
 6) then
 0
 else
 IntKind.wrap
 IntKind.i64
 (Int.sub
 (IntKind.wrap
 IntKind.i64
 (Int.sub
 (IntKind.wrap
 IntKind.i64
 (Int.add
 n42
 n58))
 n27))
 6)) ≤
 n52) then
 some
 (Out.ret
 (vbool
 false),
 [])
 else
 bif
 decide
 (n63 =
 2) then
 bif
 decide
 ((if
 0 >
 IntKind.wrap
 IntKind.i64
 (Int.sub
 (IntKind.wrap
 IntKind.i64
 (Int.sub
 (IntKind.wrap
 IntKind.i64
 (Int.add
 n42
 n58))
 n27))
 6) then
 0
 else
 IntKind.wrap
 IntKind.i64
 (Int.sub
 (IntKind.wrap
 IntKind.i64
 (Int.sub
 (IntKind.wrap
 IntKind.i64
 (Int.add
 n42
 n58))
 n27))
 6)) <
 n50) then
 bif
 decide
 (n63 =
 0) then
 bif
 decide
 ((if
 0 >
 IntKind.wrap
 IntKind.i64
 (Int.sub
 (IntKind.wrap
 IntKind.i64
 (Int.sub
 (IntKind.wrap
 IntKind.i64
 (Int.add
 n42
 n58))
 n27))
 6) then
 0
 else
 IntKind.wrap
 IntKind.i64
 (Int.sub
 (IntKind.wrap
 IntKind.i64
 (Int.sub
 (IntKind.wrap
 IntKind.i64
 (Int.add
 n42
 n58))
 n27))
 6)) >
 n52) then
 some
 (Out.ret
 (vbool
 true),
 [])
 else
 some
 (Out.ret
 (vbool
 false),
 [])
 else
 bif
 decide
 ((if
 0 >
 IntKind.wrap
 IntKind.i64
 (Int.sub
 (IntKind.wrap
 IntKind.i64
 (Int.sub
 (IntKind.wrap
 IntKind.i64
 (Int.add
 n42
 n58))
 n27))
 6) then
 0
 else
 IntKind.wrap
 IntKind.i64
 (Int.sub
 (IntKind.wrap
 IntKind.i64
 (Int.sub
 (IntKind.wrap
 IntKind.i64
 (Int.add
 n42
 n58))
 n27))
 6)) >
 n52) then
 some
 (Out.ret
 (vbool
 false),
 [])
 else
 some
 (Out.ret
 (vbool
 true),
 [])
 else
 some
 (Out.ret
 (vbool
 false),
 [])
 else
 bif
 decide
 ((if
 0 >
 IntKind.wrap
 IntKind.i64
 (Int.sub
 (IntKind.wrap
 IntKind.i64
 (Int.sub
 (IntKind.wrap
 IntKind.i64
 (Int.add
 n42
 n58))
 n27))
 6) then
 0
 else
 IntKind.wrap
 IntKind.i64
 (Int.sub
 (IntKind.wrap
 IntKind.i64
 (Int.sub
 (IntKind.wrap
 IntKind.i64
 (Int.add
 n42
 n58))
 n27))
 6)) <
 n50) then
 some
 (Out.ret
 (vbool
 false),
 [])
 else
 bif
 decide
 (n63 =
 0) then
 bif
 decide
 ((if
 0 >
 IntKind.wrap
 IntKind.i64
 (Int.sub
 (IntKind.wrap
 IntKind.i64
 (Int.sub
 (IntKind.wrap
 IntKind.i64
 (Int.add
 n42
 n58))
 n27))
 6) then
 0
 else
 IntKind.wrap
 IntKind.i64
 (Int.sub
 (IntKind.wrap
 IntKind.i64
 (Int.sub
 (IntKind.wrap
 IntKind.i64
 (Int.add
 n42
 n58))
 n27))
 6)) >
 n52) then
 some
 (Out.ret
 (vbool
 true),
 [])
 else
 some
 (Out.ret
 (vbool
 false),
 [])
 else
 bif
 decide
 ((if
 0 >
 IntKind.wrap
 IntKind.i64
 (Int.sub
 (IntKind.wrap
 IntKind.i64
 (Int.sub
 (IntKind.wrap
 IntKind.i64
 (Int.add
 n42
 n58))
 n27))
 6) then
 0
 else
 IntKind.wrap
 IntKind.i64
 (Int.sub
 (IntKind.wrap
 IntKind.i64
 (Int.sub
 (IntKind.wrap
 IntKind.i64
 (Int.add
 n42
 n58))
 n27))
 6)) >
 n52) then
 some
 (Out.ret
 (vbool
 false),
 [])
 else
 some
 (Out.ret
 (vbool
 true),
 [])
 else
 bif
 decide
 (n63 =
 2) then
 bif
 decide
 ((if
 0 >
 IntKind.wrap
 IntKind.i64
 (Int.sub
 (IntKind.wrap
 IntKind.i64
 (Int.sub
 (IntKind.wrap
 IntKind.i64
 (Int.add
 n42
 n58))
 n27))
 6) then
 0
 else
 IntKind.wrap
 IntKind.i64
 (Int.sub
 (IntKind.wrap
 IntKind.i64
 (Int.sub
 (IntKind.wrap
 IntKind.i64
 (Int.add
 n42
 n58))
 n27))
 6)) <
 n50) then
 bif
 decide
 (n63 =
 0) then
 bif
 decide
 ((if
 0 >
 IntKind.wrap
 IntKind.i64
 (Int.sub
 (IntKind.wrap
 IntKind.i64
 (Int.sub
 (IntKind.wrap
 IntKind.i64
 (Int.add
 n42
 n58))
 n27))
 6) then
 0
 else
 IntKind.wrap
 IntKind.i64
 (Int.sub
 (IntKind.wrap
 IntKind.i64
 (Int.sub
 (IntKind.wrap
 IntKind.i64
 (Int.add
 n42
 n58))
 n27))
 6)) >
 n52) then
 some
 (Out.ret
 (vbool
 true),
 [])
 else
 some
 (Out.ret
 (vbool
 false),
 [])
 else
 bif
 decide
 ((if
 0 >
 IntKind.wrap
 IntKind.i64
 (Int.sub
 (IntKind.wrap
 IntKind.i64
 (Int.sub
 (IntKind.wrap
 IntKind.i64
 (Int.add
 n42
 n58))
 n27))
 6) then
 0
 else
 IntKind.wrap
 IntKind.i64
 (Int.sub
 (IntKind.wrap
 IntKind.i64
 (Int.sub
 (IntKind.wrap
 IntKind.i64
 (Int.add
 n42
 n58))
 n27))
 6)) >
 n52) then
 some
 (Out.ret
 (vbool
 false),
 [])
 else
 some
 (Out.ret
 (vbool
 true),
 [])
 else
 some
 (Out.ret
 (vbool
 false),
 [])
 else
 bif
 decide
 ((if
 0 >
 IntKind.wrap
 IntKind.i64
 (Int.sub
 (IntKind.wrap
 IntKind.i64
 (Int.sub
 (IntKind.wrap
 IntKind.i64
 (Int.add
 n42
 n58))
 n27))
 6) then
 0
 else
 IntKind.wrap
 IntKind.i64
 (Int.sub
 (IntKind.wrap
 IntKind.i64
 (Int.sub
 (IntKind.wrap
 IntKind.i64
 (Int.add
 n42
 n58))
 n27))
 6)) <
 n50) then
 some
 (Out.ret
 (vbool
 false),
 [])
 else
 bif
 decide
 (n63 =
 0) then
 bif
 decide
 ((if
 0 >
 IntKind.wrap
 IntKind.i64
 (Int.sub
 (IntKind.wrap
 IntKind.i64
 (Int.sub
 (IntKind.wrap
 IntKind.i64
 (Int.add
 n42
 n58))
 n27))
 6) then
 0
 else
 IntKind.wrap
 IntKind.i64
 (Int.sub
 (IntKind.wrap
 IntKind.i64
 (Int.sub
 (IntKind.wrap
 IntKind.i64
 (Int.add
 n42
 n58))
 n27))
 6)) >
 n52) then
 some
 (Out.ret
 (vbool
 true),
 [])
 else
 some
 (Out.ret
 (vbool
 false),
 [])
 else
 bif
 decide
 ((if
 0 >
 IntKind.wrap
 IntKind.i64
 (Int.sub
 (IntKind.wrap
 IntKind.i64
 (Int.sub
 (IntKind.wrap
 IntKind.i64
 (Int.add
 n42
 n58))
 n27))
 6) then
 0
 else
 IntKind.wrap
 IntKind.i64
 (Int.sub
 (IntKind.wrap
 IntKind.i64
 (Int.sub
 (IntKind.wrap
 IntKind.i64
 (Int.add
 n42
 n58))
 n27))
 6)) >
 n52) then
 some
 (Out.ret
 (vbool
 false),
 [])
 else
 some
 (Out.ret
 (vbool
 true),
 [])
 else
 some
 (Out.ret
 (vbool
 false),
 [])
 else
 some
 (Out.ret
 (vbool
 false),
 [])
 else
 some
 (Out.ret
 (vbool
 false),
 [])
 else
 some
 (Out.ret
 (vbool
 false),
 [])
 else
 some
 (Out.ret
 (vbool
 false),
 [])
 else
 some
 (Out.ret
 (vbool
 false),
 [])
 else
 some
 (Out.ret
 (vbool
 false),
 [])
 else
 some
 (Out.ret
 (vbool
 false),
 [])
 else
 some
 (Out.ret
 (vbool
 false),
 [])
 else
 Option.bind (E cx (Key.fn 5) [AV.agg [vi n0, vi n1, vi n2, vi n3, vi n4, vi n5], vu 0] []) fun r75 ↦
 Option.bind (ret1 r75) fun v76 ↦
 Option.bind (AV.cells? v76) fun cs77 ↦
 Option.bind (uncons? cs77) fun p78 ↦
 Option.bind (AV.int? IntKind.i64 p78.fst) fun n79 ↦
 Option.bind (uncons? p78.snd) fun p80 ↦
 Option.bind (AV.int? IntKind.i64 p80.fst) fun n81 ↦
 Option.bind (uncons? p80.snd) fun p82 ↦
 Option.bind (AV.int? IntKind.i64 p82.fst) fun n83 ↦
 Option.bind (uncons? p82.snd) fun p84 ↦
 Option.bind (AV.int? IntKind.i64 p84.fst) fun n85 ↦
 Option.bind (uncons? p84.snd) fun p86 ↦
 Option.bind (AV.int? IntKind.i64 p86.fst) fun n87 ↦
 Option.bind (uncons? p86.snd) fun p88 ↦
 Option.bind (AV.int? IntKind.i64 p88.fst) fun n89 ↦
 Option.bind (uncons? p88.snd) fun p90 ↦
 Option.bind (AV.int? IntKind.i64 p90.fst) fun n91 ↦
 Option.bind (uncons? p90.snd) fun p92 ↦
 Option.bind (AV.int? IntKind.i64 p92.fst) fun n93 ↦
 Option.bind (uncons? p92.snd) fun p94 ↦
 Option.bind (AV.int? IntKind.i64 p94.fst) fun n95 ↦
 Option.bind (uncons? p94.snd) fun p96 ↦
 Option.bind (AV.int? IntKind.u64 p96.fst) fun n97 ↦
 Option.bind (nil? p96.snd) fun x98 ↦
 Option.bind (E cx (Key.fn 6) [vi at6, vi 1099511627777] []) fun r99 ↦
 Option.bind (ret1 r99) fun v100 ↦
 Option.bind (AV.int? IntKind.i64 v100) fun n101 ↦
 Option.bind
 (E cx (Key.fn 7)
 [AV.agg [vi n79, vi n81, vi n83, vi n85, vi n87, vi n89, vi n91, vi n93, vi n95, vu n97],
 vi n101]
 [])
 fun r102 ↦
 Option.bind (ret1 r102) fun v103 ↦
 Option.bind (AV.tup? v103) fun vs104 ↦
 Option.bind (uncons? vs104) fun p105 ↦
 Option.bind (AV.int? IntKind.i64 p105.fst) fun n106 ↦
 Option.bind (uncons? p105.snd) fun p107 ↦
 Option.bind (AV.int? IntKind.i64 p107.fst) fun n108 ↦
 Option.bind (nil? p107.snd) fun x109 ↦
 Option.bind
 (E cx (Key.fn 8)
 [AV.agg
 [vi n79, vi n81, vi n83, vi n85, vi n87, vi n89, vi n91, vi n93,
 vi n95, vu n97],
 vi n101]
 [])
 fun r110 ↦
 Option.bind (ret1 r110) fun v111 ↦
 Option.bind (AV.tup? v111) fun vs112 ↦
 Option.bind (uncons? vs112) fun p113 ↦
 Option.bind (AV.int? IntKind.i64 p113.fst) fun n114 ↦
 Option.bind (uncons? p113.snd) fun p115 ↦
 Option.bind (AV.int? IntKind.i64 p115.fst) fun n116 ↦
 Option.bind (uncons? p115.snd) fun p117 ↦
 Option.bind (AV.int? IntKind.i64 p117.fst) fun n118 ↦
 Option.bind (nil? p117.snd) fun x119 ↦
 Option.bind
 (E cx (Key.fn 6)
 [vi slot7,
 vi
 (IntKind.wrap IntKind.i64
 (Int.add
 (IntKind.wrap IntKind.i64
 (Int.mul 2 n91))
 12))]
 [])
 fun r120 ↦
 Option.bind (ret1 r120) fun v121 ↦
 Option.bind (AV.int? IntKind.i64 v121) fun n122 ↦
 Option.bind
 (E cx (Key.fn 9)
 [AV.agg
 [vi n79, vi n81, vi n83, vi n85, vi n87,
 vi n89, vi n91, vi n93, vi n95, vu n97],
 vi n101,
 vi
 (if
 0 >
 IntKind.wrap IntKind.i64
 (Int.sub
 (IntKind.wrap IntKind.i64
 (Int.sub
 (IntKind.wrap
 IntKind.i64
 (Int.add n106 n122))
 n91))
 6) then
 0
 else
 IntKind.wrap IntKind.i64
 (Int.sub
 (IntKind.wrap IntKind.i64
 (Int.sub
 (IntKind.wrap IntKind.i64
 (Int.add n106 n122))
 n91))
 6))]
 [])
 fun r123 ↦
 Option.bind (ret1 r123) fun v124 ↦
 Option.bind (AV.tup? v124) fun vs125 ↦
 Option.bind (uncons? vs125) fun p126 ↦
 Option.bind
 (AV.int? IntKind.i64 p126.fst)
 fun n127 ↦
 Option.bind (uncons? p126.snd) fun p128 ↦
 Option.bind
 (AV.int? IntKind.i64 p128.fst)
 fun n129 ↦
 Option.bind (nil? p128.snd) fun x130 ↦
 Option.bind
 (E cx (Key.fn 9)
 [AV.agg
 [vi n79, vi n81, vi n83,
 vi n85, vi n87, vi n89,
 vi n91, vi n93, vi n95,
 vu n97],
 vi n101, vi n106]
 [])
 fun r131 ↦
 Option.bind (ret1 r131) fun v132 ↦
 Option.bind (AV.tup? v132)
 fun vs133 ↦
 Option.bind (uncons? vs133)
 fun p134 ↦
 Option.bind
 (AV.int? IntKind.i64
 p134.fst)
 fun n135 ↦
 Option.bind
 (uncons? p134.snd)
 fun p136 ↦
 Option.bind
 (AV.int?
 IntKind.i64
 p136.fst)
 fun n137 ↦
 Option.bind
 (nil? p136.snd)
 fun x138 ↦
 some
 (Out.ret
 (vbool false),
 []) := by
  intros
  exact (E_fast _ _ _ _).trans (by kernel_rfl)

end Go.Proofs.Av
