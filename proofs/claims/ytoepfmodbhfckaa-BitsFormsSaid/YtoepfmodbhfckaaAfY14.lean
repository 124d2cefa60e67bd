/- Bits: law 14 as a tree. -/
import Derived.Test.YtoepfmodbhfckaaAfPP
set_option maxRecDepth 100000
namespace Go.Proofs.Av
open Go
theorem f14 : ∀ (s0 : ByteArray) (n1 : Int),
 E cx (Key.fn 14) [vs s0, vi n1] [] =
 if 0 ≤ if 300 < ((ByteArray.size s0) : Int) then 300 else ((ByteArray.size s0) : Int) then
 if (if 300 < ((ByteArray.size s0) : Int) then 300 else ((ByteArray.size s0) : Int)) ≤ ((ByteArray.size s0) : Int) then
 Option.bind
 (E cx (Key.fn 64)
 [vi n1,
 vi
 (IntKind.wrap IntKind.i64
 (Int.add
 (IntKind.wrap IntKind.i64
 (Int.mul 8 ((ByteArray.size (ByteArray.extract s0 0 (Int.toNat (if 300 < ((ByteArray.size s0) : Int) then 300 else ((ByteArray.size s0) : Int))))) : Int)))
 9))]
 [])
 fun r2 ↦
 Option.bind (ret1 r2) fun v3 ↦
 Option.bind (AV.int? IntKind.i64 v3) fun n4 ↦
 Option.bind
 (E cx (Key.loop 14 [true, true, true, false, true, false])
 [vbool false, vi 0, vbool true,
 vs (ByteArray.extract s0 0 (Int.toNat (if 300 < ((ByteArray.size s0) : Int) then 300 else ((ByteArray.size s0) : Int)))),
 AV.list 0 1
 [[vi n1],
 [vi
 (IntKind.wrap IntKind.i64
 (Int.mul 8
 ((ByteArray.size (ByteArray.extract s0 0 (Int.toNat (if 300 < ((ByteArray.size s0) : Int) then 300 else ((ByteArray.size s0) : Int))))) : Int)))],
 [vi n4]],
 vi 3]
 [])
 fun r5 ↦
 Option.bind (asJump r5) fun j6 ↦
 bif JX.is j6.fst (JX.exit 0) then
 Option.bind (uncons? j6.snd.fst) fun p7 ↦
 Option.bind (AV.bool? p7.fst) fun _ ↦
 Option.bind (uncons? p7.snd) fun p9 ↦
 Option.bind (AV.int? IntKind.i64 p9.fst) fun _ ↦
 Option.bind (nil? p9.snd) fun _ ↦
 Option.bind (nil? j6.snd.snd) fun _ ↦ some (Out.ret (vbool true), [])
 else
 bif JX.is j6.fst JX.ret then
 Option.bind (uncons? j6.snd.fst) fun p13 ↦
 Option.bind (AV.bool? p13.fst) fun b14 ↦
 Option.bind (uncons? p13.snd) fun p15 ↦
 Option.bind (AV.int? IntKind.i64 p15.fst) fun _ ↦
 Option.bind (nil? p15.snd) fun _ ↦
 Option.bind (nil? j6.snd.snd) fun _ ↦ some (Out.ret (vbool b14), [])
 else none
 else none
 else none := by
  intros
  exact (E_ov f54_true [188] _ _ _).trans (by kernel_rfl)


noncomputable def q14_l0_0 : Bool → Int → Bool → ByteArray → List (List AV) → Int → Option (Out × Heap) :=
 fun b19 x20 b21 s22 l23 x24 ↦
 E cx (Key.loop 14 [true, true, true, false, true, false])
 [vbool b19, vi (IntKind.wrap IntKind.i64 (Int.add x20 1)), vbool b21, vs s22,
 AV.list 0 1 l23, vi x24]
 []


noncomputable def q14_l0_1 : Int → Int → Int → List (List AV) → Bool → Bool → ByteArray → List (List AV) → Int → Option (Out × Heap) :=
 fun n64 n59 x20 es61 b19 b21 s22 l23 x24 ↦
 bif n64 != 0 then
 bif n59 != 0 then some (Out.jump JX.ret [vbool false, vi x20], [])
 else
 bif decide (((List.length es61) : Int) > 0) then some (Out.jump JX.ret [vbool false, vi x20], [])
 else q14_l0_0 b19 x20 b21 s22 l23 x24
 else q14_l0_0 b19 x20 b21 s22 l23 x24


noncomputable def q14_l0_2 : Int →
 Int →
 Int →
 List (List AV) →
 Int → Int → List (List AV) → Bool → Bool → ByteArray → List (List AV) → Int → Option (Out × Heap) :=
 fun n40 n35 x20 es37 n64 n59 es61 b19 b21 s22 l23 x24 ↦
 bif n40 != 0 then
 bif n35 != 0 then some (Out.jump JX.ret [vbool false, vi x20], [])
 else
 bif decide (((List.length es37) : Int) > 0) then some (Out.jump JX.ret [vbool false, vi x20], [])
 else q14_l0_1 n64 n59 x20 es61 b19 b21 s22 l23 x24
 else q14_l0_1 n64 n59 x20 es61 b19 b21 s22 l23 x24


noncomputable def q14_l0_3 : ByteArray →
 Int → Int → Int → Int → List (List AV) → Bool → Bool → List (List AV) → Int → Option (Out × Heap) :=
 fun s22 n27 x20 n40 n35 es37 b19 b21 l23 x24 ↦
 Option.bind (E cx (Key.fn 75) [vs s22, vi n27] []) fun r53 ↦
 Option.bind (ret1 r53) fun v54 ↦
 Option.bind (AV.tup? v54) fun vs55 ↦
 Option.bind (uncons? vs55) fun p56 ↦
 Option.bind (AV.cells? p56.fst) fun cs57 ↦
 Option.bind (uncons? cs57) fun p58 ↦
 Option.bind (AV.int? IntKind.i64 p58.fst) fun n59 ↦
 Option.bind (uncons? p58.snd) fun p60 ↦
 Option.bind (AV.list? 1 p60.fst) fun es61 ↦
 Option.bind (nil? p60.snd) fun _ ↦
 Option.bind (uncons? p56.snd) fun p63 ↦
 Option.bind (AV.int? IntKind.i64 p63.fst) fun n64 ↦
 Option.bind (nil? p63.snd) fun _ ↦
 bif decide (n64 = 0) then
 Option.bind
 (E cx (Key.fn 58)
 [AV.agg [vi n59, AV.list 0 1 es61]] [])
 fun r66 ↦
 Option.bind (ret1 r66) fun v67 ↦
 Option.bind (AV.tup? v67) fun vs68 ↦
 Option.bind (uncons? vs68) fun p69 ↦
 Option.bind (AV.str? p69.fst) fun s70 ↦
 Option.bind (uncons? p69.snd) fun p71 ↦
 Option.bind (AV.int? IntKind.i64 p71.fst) fun n72 ↦
 Option.bind (nil? p71.snd) fun _ ↦
 bif n72 != 0 then
 some (Out.jump JX.ret [vbool false, vi x20], [])
 else
 bif !List.beq (ByteArray.toList s70) (ByteArray.toList s22) then
 some (Out.jump JX.ret [vbool false, vi x20], [])
 else
 bif n59 != n27 then
 some (Out.jump JX.ret [vbool false, vi x20], [])
 else
 Option.bind
 (E cx (Key.fn 60)
 [AV.agg [vi n59, AV.list 0 1 es61]] [])
 fun r74 ↦
 Option.bind (ret1 r74) fun v75 ↦
 Option.bind (AV.bool? v75) fun b76 ↦
 bif b76 then q14_l0_2 n40 n35 x20 es37 n64 n59 es61 b19 b21 s22 l23 x24
 else
 some (Out.jump JX.ret [vbool false, vi x20], [])
 else q14_l0_2 n40 n35 x20 es37 n64 n59 es61 b19 b21 s22 l23 x24


theorem f14_l0 : ∀ (b19 : Bool) (x20 : Int) (b21 : Bool) (s22 : ByteArray) (l23 : List (List AV)) (x24 : Int),
 E cx (Key.loop 14 [true, true, true, false, true, false])
 [vbool b19, vi x20, vbool b21, vs s22, AV.list 0 1 l23, vi x24] [] =
 bif decide (x20 < x24) then
 if 0 ≤ x20 then
 Option.bind l23[Int.toNat x20]? fun cs25 ↦
 Option.bind (uncons? cs25) fun p26 ↦
 Option.bind (AV.int? IntKind.i64 p26.fst) fun n27 ↦
 Option.bind (nil? p26.snd) fun _ ↦
 Option.bind (E cx (Key.fn 73) [vs s22, vi n27] []) fun r29 ↦
 Option.bind (ret1 r29) fun v30 ↦
 Option.bind (AV.tup? v30) fun vs31 ↦
 Option.bind (uncons? vs31) fun p32 ↦
 Option.bind (AV.cells? p32.fst) fun cs33 ↦
 Option.bind (uncons? cs33) fun p34 ↦
 Option.bind (AV.int? IntKind.i64 p34.fst) fun n35 ↦
 Option.bind (uncons? p34.snd) fun p36 ↦
 Option.bind (AV.list? 1 p36.fst) fun es37 ↦
 Option.bind (nil? p36.snd) fun _ ↦
 Option.bind (uncons? p32.snd) fun p39 ↦
 Option.bind (AV.int? IntKind.i64 p39.fst) fun n40 ↦
 Option.bind (nil? p39.snd) fun _ ↦
 bif decide (n40 = 0) then
 Option.bind
 (E cx (Key.fn 56)
 [AV.agg [vi n35, AV.list 0 1 es37]] [])
 fun r42 ↦
 Option.bind (ret1 r42) fun v43 ↦
 Option.bind (AV.tup? v43) fun vs44 ↦
 Option.bind (uncons? vs44) fun p45 ↦
 Option.bind (AV.str? p45.fst) fun s46 ↦
 Option.bind (uncons? p45.snd) fun p47 ↦
 Option.bind (AV.int? IntKind.i64 p47.fst) fun n48 ↦
 Option.bind (nil? p47.snd) fun _ ↦
 bif n48 != 0 then
 some
 (Out.jump JX.ret [vbool false, vi x20], [])
 else
 bif !List.beq (ByteArray.toList s46) (ByteArray.toList s22) then
 some
 (Out.jump JX.ret [vbool false, vi x20],
 [])
 else
 bif decide (n35 > n27) then
 some
 (Out.jump JX.ret [vbool false, vi x20],
 [])
 else
 Option.bind
 (E cx (Key.fn 60)
 [AV.agg [vi n35, AV.list 0 1 es37]] [])
 fun r50 ↦
 Option.bind (ret1 r50) fun v51 ↦
 Option.bind (AV.bool? v51) fun b52 ↦
 bif b52 then q14_l0_3 s22 n27 x20 n40 n35 es37 b19 b21 l23 x24
 else
 some
 (Out.jump JX.ret
 [vbool false, vi x20],
 [])
 else q14_l0_3 s22 n27 x20 n40 n35 es37 b19 b21 l23 x24
 else none
 else some (Out.jump (JX.exit 0) [vbool b19, vi x20], []) := by
  intros
  exact (E_ov f54_true [188] _ _ _).trans (by kernel_rfl)

end Go.Proofs.Av
