/- Bits: law 17 as a tree. -/
import Derived.Test.YtoepfmodbhfckaaAfPP
set_option maxRecDepth 100000
namespace Go.Proofs.Av
open Go
theorem f17 : ∀ (n0 : Int) (raw1 : List (List AV)),
 E cx (Key.fn 17) [vi n0, AV.list 0 1 raw1] [] =
 Option.bind (E cx (Key.fn 55) [vi n0, vi 200, AV.list 0 1 raw1] []) fun r2 ↦
 Option.bind (ret1 r2) fun v3 ↦
 Option.bind (AV.cells? v3) fun cs4 ↦
 Option.bind (uncons? cs4) fun p5 ↦
 Option.bind (AV.int? IntKind.i64 p5.fst) fun n6 ↦
 Option.bind (uncons? p5.snd) fun p7 ↦
 Option.bind (AV.list? 1 p7.fst) fun es8 ↦
 Option.bind (nil? p7.snd) fun _ ↦
 Option.bind
 (E cx (Key.fn 56) [AV.agg [vi n6, AV.list 0 1 es8]] [])
 fun r10 ↦
 Option.bind (ret1 r10) fun v11 ↦
 Option.bind (AV.tup? v11) fun vs12 ↦
 Option.bind (uncons? vs12) fun p13 ↦
 Option.bind (AV.str? p13.fst) fun s14 ↦
 Option.bind (uncons? p13.snd) fun p15 ↦
 Option.bind (AV.int? IntKind.i64 p15.fst) fun n16 ↦
 Option.bind (nil? p15.snd) fun _ ↦
 Option.bind
 (E cx (Key.fn 58)
 [AV.agg [vi n6, AV.list 0 1 es8]] [])
 fun r18 ↦
 Option.bind (ret1 r18) fun v19 ↦
 Option.bind (AV.tup? v19) fun vs20 ↦
 Option.bind (uncons? vs20) fun p21 ↦
 Option.bind (AV.str? p21.fst) fun s22 ↦
 Option.bind (uncons? p21.snd) fun p23 ↦
 Option.bind (AV.int? IntKind.i64 p23.fst) fun n24 ↦
 Option.bind (nil? p23.snd) fun _ ↦
 Option.bind
 (E cx (Key.fn 65)
 [AV.agg [vi n6, AV.list 0 1 es8],
 AV.list 0 2 [[vi n6, AV.val (Value.slice none 0 0)]]]
 [])
 fun r26 ↦
 Option.bind (ret1 r26) fun v27 ↦
 Option.bind (AV.tup? v27) fun vs28 ↦
 Option.bind (uncons? vs28) fun p29 ↦
 Option.bind (AV.cells? p29.fst) fun cs30 ↦
 Option.bind (uncons? cs30) fun p31 ↦
 Option.bind (AV.int? IntKind.i64 p31.fst) fun n32 ↦
 Option.bind (uncons? p31.snd) fun p33 ↦
 Option.bind (AV.list? 1 p33.fst) fun es34 ↦
 Option.bind (nil? p33.snd) fun _ ↦
 Option.bind (uncons? p29.snd) fun p36 ↦
 Option.bind (AV.int? IntKind.i64 p36.fst) fun n37 ↦
 Option.bind (nil? p36.snd) fun _ ↦
 bif decide (n16 = 0) then
 bif decide (n24 = 0) then
 bif decide (n37 = 0) then
 Option.bind
 (E cx (Key.fn 77)
 [vs s14] [])
 fun r39 ↦
 Option.bind (ret1 r39) fun v40 ↦
 Option.bind (AV.int? IntKind.i64 v40) fun n41 ↦
 bif
 decide
 (n41 =
 IntKind.wrap IntKind.i64
 (Int.add (((List.length es8) : Int)) 1)) then
 Option.bind
 (E cx (Key.fn 77)
 [vs s22] [])
 fun r42 ↦
 Option.bind (ret1 r42) fun v43 ↦
 Option.bind (AV.int? IntKind.i64 v43) fun n44 ↦
 bif decide (n44 = ((List.length es8) : Int)) then
 Option.bind
 (E cx (Key.fn 67)
 [AV.agg
 [vi n32,
 AV.list 0 1 es34],
 AV.agg
 [vi n6, AV.list 0 1 es8]]
 [])
 fun r45 ↦
 Option.bind (ret1 r45) fun v46 ↦
 Option.bind (AV.bool? v46) fun b47 ↦
 bif b47 then
 Option.bind
 (E cx
 (Key.fn 68)
 [AV.agg
 [vi n6,
 AV.list 0 1 es8],
 AV.agg
 [vi n6,
 AV.val
 (Value.slice none 0 0)]]
 [])
 fun r48 ↦
 Option.bind (ret1 r48) fun v49 ↦
 Option.bind (AV.bool? v49)
 fun b50 ↦
 bif b50 then
 Option.bind
 (E cx
 (Key.fn 70)
 [AV.agg
 [vi n6,
 AV.val
 (Value.slice none 0 0)],
 AV.agg
 [vi n6,
 AV.list 0 1 es8]]
 [])
 fun r51 ↦
 Option.bind (ret1 r51)
 fun v52 ↦
 Option.bind (AV.bool? v52)
 fun b53 ↦
 bif b53 then
 some
 (Out.ret
 (vbool true),
 [])
 else
 some
 (Out.ret
 (vbool false),
 [])
 else
 some
 (Out.ret
 (vbool false),
 [])
 else
 some
 (Out.ret (vbool false),
 [])
 else
 some (Out.ret (vbool false), [])
 else some (Out.ret (vbool false), [])
 else some (Out.ret (vbool false), [])
 else some (Out.ret (vbool false), [])
 else some (Out.ret (vbool false), []) := by
  intros
  exact (E_ov f54_true [188] _ _ _).trans (by kernel_rfl)

end Go.Proofs.Av
