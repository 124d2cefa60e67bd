/- Bits: functions as trees. -/
import Derived.Test.YtoepfmodbhfckaaAfX
set_option maxRecDepth 100000
namespace Go.Proofs.Av
open Go
theorem f55 : ∀ (n0 below1 : Int) (raw2 : List (List AV)),
 E cx (Key.fn 55) [vi n0, vi below1, AV.list 0 1 raw2] [] =
 Option.bind (E cx (Key.fn 64) [vi n0, vi below1] []) fun r3 ↦
 Option.bind (ret1 r3) fun v4 ↦
 Option.bind (AV.int? IntKind.i64 v4) fun n5 ↦
 Option.bind
 (E cx (Key.loop 55 [true, true, false, true, false])
 [vi 0, AV.list 0 1 raw2, AV.ptr 0 0 0 0, AV.ptr 1 0 0 0]
 [Ob.mk OK.box 33 2 0 [[vi 0, AV.val (Value.slice none 0 0)]],
 Ob.mk OK.box 33 2 0 [[vi n5, AV.arr 2 1 0 0]],
 Ob.mk OK.arr 3 1 1 []])
 fun r6 ↦
 Option.bind (asJump r6) fun j7 ↦
 bif JX.is j7.fst (JX.exit 0) then
 Option.bind (uncons? j7.snd.fst) fun p8 ↦
 Option.bind (AV.int? IntKind.i64 p8.fst) fun _ ↦
 Option.bind (nil? p8.snd) fun _ ↦
 Option.bind (uncons? j7.snd.snd) fun p11 ↦
 Option.bind
 (obIs
 (Ob.mk OK.box 33 2 0 [[vi 0, AV.val (Value.slice none 0 0)]]) p11.fst)
 fun _ ↦
 Option.bind (chk p11.fst.ver 0) fun _ ↦
 Option.bind (uncons? p11.fst.es) fun p14 ↦
 Option.bind (nil? p14.snd) fun _ ↦
 Option.bind (uncons? p14.fst) fun p16 ↦
 Option.bind (AV.int? IntKind.i64 p16.fst) fun _ ↦
 Option.bind (uncons? p16.snd) fun p18 ↦
 Option.bind (AV.nilS? p18.fst) fun _ ↦
 Option.bind (nil? p18.snd) fun _ ↦
 Option.bind (uncons? p11.snd) fun p21 ↦
 Option.bind
 (obIs
 (Ob.mk OK.box 33 2 0 [[vi n5, AV.arr 2 1 0 0]]) p21.fst)
 fun _ ↦
 Option.bind (chk p21.fst.ver 0) fun _ ↦
 Option.bind (uncons? p21.fst.es) fun p24 ↦
 Option.bind (nil? p24.snd) fun _ ↦
 Option.bind (uncons? p24.fst) fun p26 ↦
 Option.bind (AV.int? IntKind.i64 p26.fst) fun n27 ↦
 Option.bind (uncons? p26.snd) fun p28 ↦
 Option.bind (AV.arr? 2 p28.fst) fun x29 ↦
 Option.bind (chk x29.fst 1) fun _ ↦
 Option.bind (nil? p28.snd) fun _ ↦
 Option.bind (uncons? p21.snd) fun p32 ↦
 Option.bind (obIs (Ob.mk OK.arr 3 1 1 []) p32.fst)
 fun _ ↦
 Option.bind (chk p32.fst.ver 1) fun _ ↦
 Option.bind (nil? p32.snd) fun _ ↦
 Option.bind
 (chkLe (Nat.add x29.snd.fst x29.snd.snd) (List.length p32.fst.es))
 fun _ ↦
 some
 (Out.ret
 (AV.agg
 [vi n27,
 AV.list 0 1
 (List.drop x29.snd.fst
 (List.take (Nat.add x29.snd.fst x29.snd.snd) p32.fst.es))]),
 [])
 else none := by
  intros
  exact (E_in [188] _ _ _).trans (by kernel_rfl)


noncomputable def q55_l0_0 : Int → Int → Int → Nat → List (List AV) → Option (Out × Heap) :=
 fun x37 x39 x40 n41 l42 ↦
 some
 (Out.jump (JX.exit 0) [vi x37],
 [Ob.mk OK.box 33 2 0 [[vi x39, AV.val (Value.slice none 0 0)]],
 Ob.mk OK.box 33 2 0 [[vi x40, AV.arr 2 1 0 n41]], Ob.mk OK.arr 3 1 1 l42])


theorem f55_l0 : ∀ (x37 : Int) (l38 : List (List AV)) (x39 x40 : Int) (n41 : Nat) (l42 : List (List AV)),
 E cx (Key.loop 55 [true, true, false, true, false])
 [vi x37, AV.list 0 1 l38, AV.ptr 0 0 0 0, AV.ptr 1 0 0 0]
 [Ob.mk OK.box 33 2 0 [[vi x39, AV.val (Value.slice none 0 0)]],
 Ob.mk OK.box 33 2 0 [[vi x40, AV.arr 2 1 0 n41]],
 Ob.mk OK.arr 3 1 1 l42] =
 bif decide (x37 < x40) then
 bif decide (x37 < 2048) then
 Option.bind
 (E cx (Key.loop 55 [true, true, false, true, false, false, true, false, false, true, false, true, false])
 [vbool false, vi 0, AV.list 0 1 l38, AV.ptr 0 0 0 0, AV.ptr 1 0 0 0,
 vi x37]
 [Ob.mk OK.box 33 2 0 [[vi x39, AV.val (Value.slice none 0 0)]],
 Ob.mk OK.box 33 2 0 [[vi x40, AV.arr 2 1 0 n41]],
 Ob.mk OK.arr 3 1 1 l42])
 fun r43 ↦
 Option.bind (asJump r43) fun j44 ↦
 bif JX.is j44.fst (JX.exit 2) then
 Option.bind (uncons? j44.snd.fst) fun p45 ↦
 Option.bind (AV.bool? p45.fst) fun b46 ↦
 Option.bind (uncons? p45.snd) fun p47 ↦
 Option.bind (AV.int? IntKind.i64 p47.fst) fun _ ↦
 Option.bind (nil? p47.snd) fun _ ↦
 Option.bind (uncons? j44.snd.snd) fun p50 ↦
 Option.bind
 (obIs
 (Ob.mk OK.box 33 2 0 [[vi x39, AV.val (Value.slice none 0 0)]]) p50.fst)
 fun _ ↦
 Option.bind (chk p50.fst.ver 0) fun _ ↦
 Option.bind (uncons? p50.fst.es) fun p53 ↦
 Option.bind (nil? p53.snd) fun _ ↦
 Option.bind (uncons? p53.fst) fun p55 ↦
 Option.bind (AV.int? IntKind.i64 p55.fst) fun n56 ↦
 Option.bind (uncons? p55.snd) fun p57 ↦
 Option.bind (AV.nilS? p57.fst) fun _ ↦
 Option.bind (nil? p57.snd) fun _ ↦
 Option.bind (uncons? p50.snd) fun p60 ↦
 Option.bind
 (obIs
 (Ob.mk OK.box 33 2 0 [[vi x40, AV.arr 2 1 0 n41]])
 p60.fst)
 fun _ ↦
 Option.bind (chk p60.fst.ver 0) fun _ ↦
 Option.bind (uncons? p60.fst.es) fun p63 ↦
 Option.bind (nil? p63.snd) fun _ ↦
 Option.bind (uncons? p63.fst) fun p65 ↦
 Option.bind (AV.int? IntKind.i64 p65.fst) fun n66 ↦
 Option.bind (uncons? p65.snd) fun p67 ↦
 Option.bind (AV.arr? 2 p67.fst) fun x68 ↦
 Option.bind (chk x68.fst 1) fun _ ↦
 Option.bind (nil? p67.snd) fun _ ↦
 Option.bind (uncons? p60.snd) fun p71 ↦
 Option.bind (obIs (Ob.mk OK.arr 3 1 1 l42) p71.fst)
 fun _ ↦
 Option.bind (chk p71.fst.ver 1) fun _ ↦
 Option.bind (nil? p71.snd) fun _ ↦
 bif b46 then
 Option.bind (chk x68.snd.fst 0) fun _ ↦
 Option.bind
 (chk x68.snd.snd
 (List.length (Ob.mk OK.arr 3 1 1 p71.fst.es).es))
 fun _ ↦
 if
 Nat.mul
 (Nat.add
 (List.length
 (Ob.mk OK.arr 3 1 1 p71.fst.es).es)
 1)
 8 ≤
 140737488355328 then
 E cx
 (Key.loop 55 [true, true, false, true, false])
 [vi (IntKind.wrap IntKind.i64 (Int.add x37 1)),
 AV.list 0 1 l38, AV.ptr 0 0 0 0,
 AV.ptr 1 0 0 0]
 [Ob.mk OK.box 33 2 0
 [[vi n56, AV.val (Value.slice none 0 0)]],
 Ob.mk OK.box 33 2 0
 [[vi n66,
 AV.arr 2 1 0
 (Nat.add
 (List.length
 (Ob.mk OK.arr 3 1 1 p71.fst.es).es)
 1)]],
 Ob.mk OK.arr 3 1 1
 ((Ob.mk OK.arr 3 1 1 p71.fst.es).es ++
 [[vi x37]])]
 else none
 else
 E cx
 (Key.loop 55 [true, true, false, true, false])
 [vi (IntKind.wrap IntKind.i64 (Int.add x37 1)),
 AV.list 0 1 l38, AV.ptr 0 0 0 0,
 AV.ptr 1 0 0 0]
 [Ob.mk OK.box 33 2 0
 [[vi n56, AV.val (Value.slice none 0 0)]],
 Ob.mk OK.box 33 2 0
 [[vi n66, AV.arr 2 1 x68.snd.fst x68.snd.snd]],
 Ob.mk OK.arr 3 1 1 p71.fst.es]
 else none
 else q55_l0_0 x37 x39 x40 n41 l42
 else q55_l0_0 x37 x39 x40 n41 l42 := by
  intros
  exact (E_in [188] _ _ _).trans (by kernel_rfl)


noncomputable def q55_l0_l1_0 : Int → List (List AV) → Int → Int → Int → Nat → List (List AV) → Option (Out × Heap) :=
 fun x78 l79 x80 x81 x82 n83 l84 ↦
 E cx (Key.loop 55 [true, true, false, true, false, false, true, false, false, true, false, true, false])
 [vbool true, vi (IntKind.wrap IntKind.i64 (Int.add x78 1)), AV.list 0 1 l79, AV.ptr 0 0 0 0,
 AV.ptr 1 0 0 0, vi x80]
 [Ob.mk OK.box 33 2 0 [[vi x81, AV.val (Value.slice none 0 0)]],
 Ob.mk OK.box 33 2 0 [[vi x82, AV.arr 2 1 0 n83]], Ob.mk OK.arr 3 1 1 l84]


noncomputable def q55_l0_l1_1 : Bool → Int → List (List AV) → Int → Int → Int → Nat → List (List AV) → Option (Out × Heap) :=
 fun b77 x78 l79 x80 x81 x82 n83 l84 ↦
 bif b77 then q55_l0_l1_0 x78 l79 x80 x81 x82 n83 l84
 else
 E cx (Key.loop 55 [true, true, false, true, false, false, true, false, false, true, false, true, false])
 [AV.val (Value.tuple (Array.mk [])), vi (IntKind.wrap IntKind.i64 (Int.add x78 1)), AV.list 0 1 l79,
 AV.ptr 0 0 0 0, AV.ptr 1 0 0 0, vi x80]
 [Ob.mk OK.box 33 2 0 [[vi x81, AV.val (Value.slice none 0 0)]],
 Ob.mk OK.box 33 2 0 [[vi x82, AV.arr 2 1 0 n83]], Ob.mk OK.arr 3 1 1 l84]


noncomputable def q55_l0_l1_2 : Bool → Int → Int → Int → List (List AV) → Int → Int → Nat → List (List AV) → Option (Out × Heap) :=
 fun b77 n91 x80 x78 l79 x81 x82 n83 l84 ↦
 bif decide (b77 = false) then
 bif decide (n91 = x80) then bif b77 then q55_l0_l1_0 x78 l79 x80 x81 x82 n83 l84 else q55_l0_l1_0 x78 l79 x80 x81 x82 n83 l84
 else
 bif b77 then q55_l0_l1_0 x78 l79 x80 x81 x82 n83 l84
 else
 E cx (Key.loop 55 [true, true, false, true, false, false, true, false, false, true, false, true, false])
 [vbool false, vi (IntKind.wrap IntKind.i64 (Int.add x78 1)), AV.list 0 1 l79,
 AV.ptr 0 0 0 0, AV.ptr 1 0 0 0, vi x80]
 [Ob.mk OK.box 33 2 0 [[vi x81, AV.val (Value.slice none 0 0)]],
 Ob.mk OK.box 33 2 0 [[vi x82, AV.arr 2 1 0 n83]],
 Ob.mk OK.arr 3 1 1 l84]
 else q55_l0_l1_1 b77 x78 l79 x80 x81 x82 n83 l84


noncomputable def q55_l0_l1_3 : Bool → Int → List (List AV) → Int → Int → Int → Nat → List (List AV) → Option (Out × Heap) :=
 fun b77 x78 l79 x80 x81 x82 n83 l84 ↦ bif decide (b77 = false) then none else q55_l0_l1_1 b77 x78 l79 x80 x81 x82 n83 l84


noncomputable def q55_l0_l1_4 : Bool → Int → List (List AV) → Int → Int → Int → Nat → List (List AV) → Option (Out × Heap) :=
 fun b77 x78 l79 x80 x81 x82 n83 l84 ↦
 bif decide (b77 = false) then q55_l0_l1_3 b77 x78 l79 x80 x81 x82 n83 l84 else q55_l0_l1_3 b77 x78 l79 x80 x81 x82 n83 l84


noncomputable def q55_l0_l1_5 : Bool → Int → Int → Int → List (List AV) → Int → Int → Nat → List (List AV) → Option (Out × Heap) :=
 fun b77 n87 x80 x78 l79 x81 x82 n83 l84 ↦
 bif decide (b77 = false) then
 Option.bind (E cx (Key.fn 64) [vi n87, AV.val (Value.tuple (Array.mk []))] []) fun r92 ↦
 Option.bind (ret1 r92) fun v93 ↦
 Option.bind (AV.int? IntKind.i64 v93) fun n94 ↦
 bif decide (b77 = false) then q55_l0_l1_2 b77 n94 x80 x78 l79 x81 x82 n83 l84
 else q55_l0_l1_3 b77 x78 l79 x80 x81 x82 n83 l84
 else q55_l0_l1_4 b77 x78 l79 x80 x81 x82 n83 l84


noncomputable def q55_l0_l1_6 : Bool → Int → Int → List (List AV) → Int → Int → Nat → List (List AV) → Option (Out × Heap) :=
 fun b77 x80 x78 l79 x81 x82 n83 l84 ↦
 bif decide (b77 = false) then
 Option.bind
 (E cx (Key.fn 64)
 [AV.val (Value.tuple (Array.mk [])), AV.val (Value.tuple (Array.mk []))] [])
 fun r101 ↦
 Option.bind (ret1 r101) fun v102 ↦
 Option.bind (AV.int? IntKind.i64 v102) fun n103 ↦
 bif decide (b77 = false) then q55_l0_l1_2 b77 n103 x80 x78 l79 x81 x82 n83 l84
 else q55_l0_l1_3 b77 x78 l79 x80 x81 x82 n83 l84
 else q55_l0_l1_4 b77 x78 l79 x80 x81 x82 n83 l84


noncomputable def q55_l0_l1_7 : Bool → Int → Int → Int → List (List AV) → Int → Nat → List (List AV) → Option (Out × Heap) :=
 fun b77 x82 x80 x78 l79 x81 n83 l84 ↦
 bif decide (b77 = false) then
 bif decide (b77 = false) then
 bif decide (b77 = false) then
 Option.bind (E cx (Key.fn 64) [AV.val (Value.tuple (Array.mk [])), vi x82] [])
 fun r98 ↦
 Option.bind (ret1 r98) fun v99 ↦
 Option.bind (AV.int? IntKind.i64 v99) fun n100 ↦
 bif decide (b77 = false) then q55_l0_l1_2 b77 n100 x80 x78 l79 x81 x82 n83 l84
 else q55_l0_l1_3 b77 x78 l79 x80 x81 x82 n83 l84
 else q55_l0_l1_4 b77 x78 l79 x80 x81 x82 n83 l84
 else q55_l0_l1_6 b77 x80 x78 l79 x81 x82 n83 l84
 else bif decide (b77 = false) then none else q55_l0_l1_6 b77 x80 x78 l79 x81 x82 n83 l84


noncomputable def q55_l0_l1_8 : Bool → Int → Int → Int → List (List AV) → Int → Nat → List (List AV) → Option (Out × Heap) :=
 fun b77 x82 x80 x78 l79 x81 n83 l84 ↦ bif decide (b77 = false) then none else q55_l0_l1_7 b77 x82 x80 x78 l79 x81 n83 l84


noncomputable def q55_l0_l1_9 : Bool → Int → Int → Int → List (List AV) → Int → Nat → List (List AV) → Option (Out × Heap) :=
 fun b77 x82 x80 x78 l79 x81 n83 l84 ↦ bif decide (b77 = false) then none else q55_l0_l1_8 b77 x82 x80 x78 l79 x81 n83 l84


noncomputable def q55_l0_l1_10 : Bool → Int → Int → Int → Nat → List (List AV) → Option (Out × Heap) :=
 fun b77 x78 x81 x82 n83 l84 ↦
 some
 (Out.jump (JX.exit 2) [vbool b77, vi x78],
 [Ob.mk OK.box 33 2 0 [[vi x81, AV.val (Value.slice none 0 0)]],
 Ob.mk OK.box 33 2 0 [[vi x82, AV.arr 2 1 0 n83]], Ob.mk OK.arr 3 1 1 l84])


theorem f55_l0_l1 : ∀ (b77 : Bool) (x78 : Int) (l79 : List (List AV)) (x80 x81 x82 : Int) (n83 : Nat) (l84 : List (List AV)),
 E cx (Key.loop 55 [true, true, false, true, false, false, true, false, false, true, false, true, false])
 [vbool b77, vi x78, AV.list 0 1 l79, AV.ptr 0 0 0 0, AV.ptr 1 0 0 0, vi x80]
 [Ob.mk OK.box 33 2 0 [[vi x81, AV.val (Value.slice none 0 0)]],
 Ob.mk OK.box 33 2 0 [[vi x82, AV.arr 2 1 0 n83]],
 Ob.mk OK.arr 3 1 1 l84] =
 bif decide (x78 < ((List.length l79) : Int)) then
 bif decide (x78 < 40) then
 bif decide (b77 = false) then
 bif decide (b77 = false) then
 bif decide (b77 = false) then
 if 0 ≤ x78 then
 Option.bind l79[Int.toNat x78]? fun cs85 ↦
 Option.bind (uncons? cs85) fun p86 ↦
 Option.bind (AV.int? IntKind.i64 p86.fst) fun n87 ↦
 Option.bind (nil? p86.snd) fun _ ↦
 bif decide (b77 = false) then
 bif decide (b77 = false) then
 bif decide (b77 = false) then
 bif decide (b77 = false) then
 Option.bind (E cx (Key.fn 64) [vi n87, vi x82] []) fun r89 ↦
 Option.bind (ret1 r89) fun v90 ↦
 Option.bind (AV.int? IntKind.i64 v90) fun n91 ↦
 bif decide (b77 = false) then q55_l0_l1_2 b77 n91 x80 x78 l79 x81 x82 n83 l84
 else q55_l0_l1_3 b77 x78 l79 x80 x81 x82 n83 l84
 else q55_l0_l1_4 b77 x78 l79 x80 x81 x82 n83 l84
 else q55_l0_l1_5 b77 n87 x80 x78 l79 x81 x82 n83 l84
 else bif decide (b77 = false) then none else q55_l0_l1_5 b77 n87 x80 x78 l79 x81 x82 n83 l84
 else q55_l0_l1_7 b77 x82 x80 x78 l79 x81 n83 l84
 else none
 else q55_l0_l1_8 b77 x82 x80 x78 l79 x81 n83 l84
 else q55_l0_l1_9 b77 x82 x80 x78 l79 x81 n83 l84
 else
 bif decide (b77 = false) then q55_l0_l1_9 b77 x82 x80 x78 l79 x81 n83 l84 else q55_l0_l1_9 b77 x82 x80 x78 l79 x81 n83 l84
 else q55_l0_l1_10 b77 x78 x81 x82 n83 l84
 else q55_l0_l1_10 b77 x78 x81 x82 n83 l84 := by
  intros
  exact (E_in [188] _ _ _).trans (by kernel_rfl)


theorem f56 : ∀ (b143 : Int) (b144 : List (List AV)),
 E cx (Key.fn 56) [AV.agg [vi b143, AV.list 0 1 b144]] [] =
 Option.bind (E cx (Key.fn 60) [AV.agg [vi b143, AV.list 0 1 b144]] [])
 fun r145 ↦
 Option.bind (ret1 r145) fun v146 ↦
 Option.bind (AV.bool? v146) fun b147 ↦
 bif b147 then
 bif ysOk b144 then
 if Nat.mul (Nat.add 0 (List.length b144)) 8 ≤ 140737488355328 then
 Option.bind (chk (Nat.add 0 (List.length b144)) (List.length (Ob.mk OK.arr 3 1 1 ([] ++ b144)).es))
 fun _ ↦
 if Nat.mul (Nat.add (List.length (Ob.mk OK.arr 3 1 1 ([] ++ b144)).es) 1) 8 ≤ 140737488355328 then
 Option.bind
 (chkLe (Nat.add 0 (Nat.add (List.length (Ob.mk OK.arr 3 1 1 ([] ++ b144)).es) 1))
 (List.length ((Ob.mk OK.arr 3 1 1 ([] ++ b144)).es ++ [[vi b143]])))
 fun _ ↦
 Option.bind
 (E cx (Key.fn 118)
 [vi (IntKind.wrap IntKind.i64 (Int.add (IntKind.wrap IntKind.i64 (Int.tdiv b143 8)) 1)),
 AV.list 0 1
 (List.drop 0
 (List.take (Nat.add 0 (Nat.add (List.length (Ob.mk OK.arr 3 1 1 ([] ++ b144)).es) 1))
 ((Ob.mk OK.arr 3 1 1 ([] ++ b144)).es ++ [[vi b143]])))]
 [])
 fun r150 ↦ Option.bind (ret1 r150) fun v151 ↦ Option.bind (AV.list? 1 v151) fun es ↦
 Option.bind (numsOf es) fun ns ↦ some (Out.ret (AV.tuple [vs (Go.strOfNums ns), vi 0]), [])
 else none
 else none
 else none
 else some (Out.ret (AV.tuple [vs (ByteArray.mk (Array.mk [])), vi 1]), []) := by
  intros
  exact (E_in [188] _ _ _).trans (by kernel_rfl)


theorem f57 : ∀ (b153 : Int) (b154 : List (List AV)),
 E cx (Key.fn 57) [AV.agg [vi b153, AV.list 0 1 b154]] [] =
 Option.bind (E cx (Key.fn 61) [AV.agg [vi b153, AV.list 0 1 b154]] [])
 fun r155 ↦
 Option.bind (ret1 r155) fun v156 ↦
 Option.bind (AV.bool? v156) fun b157 ↦
 bif b157 then
 Option.bind
 (E cx (Key.fn 120)
 [AV.agg [vi b153, AV.list 0 1 b154],
 vi (IntKind.wrap IntKind.i64 (Int.add (IntKind.wrap IntKind.i64 (Int.tdiv b153 8)) 1)), vi b153]
 [])
 fun r158 ↦
 Option.bind (ret1 r158) fun v159 ↦
 Option.bind (AV.str? v159) fun s160 ↦
 some (Out.ret (AV.tuple [vs s160, vi 0]), [])
 else some (Out.ret (AV.tuple [vs (ByteArray.mk (Array.mk [])), vi 1]), []) := by
  intros
  exact (E_in [188] _ _ _).trans (by kernel_rfl)


theorem f58 : ∀ (b161 : Int) (b162 : List (List AV)),
 E cx (Key.fn 58) [AV.agg [vi b161, AV.list 0 1 b162]] [] =
 Option.bind (E cx (Key.fn 60) [AV.agg [vi b161, AV.list 0 1 b162]] [])
 fun r163 ↦
 Option.bind (ret1 r163) fun v164 ↦
 Option.bind (AV.bool? v164) fun b165 ↦
 bif b165 then
 Option.bind
 (E cx (Key.fn 118)
 [vi
 (IntKind.wrap IntKind.i64
 (Int.tdiv (IntKind.wrap IntKind.i64 (Int.sub (IntKind.wrap IntKind.i64 (Int.add b161 8)) 1)) 8)),
 AV.list 0 1 b162]
 [])
 fun r166 ↦
 Option.bind (ret1 r166) fun v167 ↦
 Option.bind (AV.list? 1 v167) fun es168 ↦
 Option.bind (numsOf es168) fun ns169 ↦
 some (Out.ret (AV.tuple [vs (Go.strOfNums ns169), vi 0]), [])
 else some (Out.ret (AV.tuple [vs (ByteArray.mk (Array.mk [])), vi 1]), []) := by
  intros
  exact (E_in [188] _ _ _).trans (by kernel_rfl)


theorem f59 : ∀ (b170 : Int) (b171 : List (List AV)),
 E cx (Key.fn 59) [AV.agg [vi b170, AV.list 0 1 b171]] [] =
 Option.bind (E cx (Key.fn 61) [AV.agg [vi b170, AV.list 0 1 b171]] [])
 fun r172 ↦
 Option.bind (ret1 r172) fun v173 ↦
 Option.bind (AV.bool? v173) fun b174 ↦
 bif b174 then
 Option.bind
 (E cx (Key.fn 120)
 [AV.agg [vi b170, AV.list 0 1 b171],
 vi (IntKind.wrap IntKind.i64 (Int.tdiv (IntKind.wrap IntKind.i64 (Int.add b170 7)) 8)), vi (-1)]
 [])
 fun r175 ↦
 Option.bind (ret1 r175) fun v176 ↦
 Option.bind (AV.str? v176) fun s177 ↦
 some (Out.ret (AV.tuple [vs s177, vi 0]), [])
 else some (Out.ret (AV.tuple [vs (ByteArray.mk (Array.mk [])), vi 1]), []) := by
  intros
  exact (E_in [188] _ _ _).trans (by kernel_rfl)


theorem f60 : ∀ (b178 : Int) (b179 : List (List AV)),
 E cx (Key.fn 60) [AV.agg [vi b178, AV.list 0 1 b179]] [] =
 bif decide (b178 < 0) then some (Out.ret (vbool false), [])
 else
 bif decide (b178 > 2048) then some (Out.ret (vbool false), [])
 else
 Option.bind
 (E cx (Key.loop 60 [true, true, true, false, true, false])
 [vbool false, vi (-1), vi 0, AV.ptr 0 0 0 0, AV.list 0 1 b179,
 vi ((List.length b179) : Int)]
 [Ob.mk OK.box 33 2 0 [[vi b178, AV.list 0 1 b179]]])
 fun r180 ↦
 Option.bind (asJump r180) fun j181 ↦
 bif JX.is j181.fst (JX.exit 0) then
 Option.bind (uncons? j181.snd.fst) fun p182 ↦
 Option.bind (AV.bool? p182.fst) fun _ ↦
 Option.bind (uncons? p182.snd) fun p184 ↦
 Option.bind (AV.int? IntKind.i64 p184.fst) fun _ ↦
 Option.bind (uncons? p184.snd) fun p186 ↦
 Option.bind (AV.int? IntKind.i64 p186.fst) fun _ ↦
 Option.bind (nil? p186.snd) fun _ ↦
 Option.bind (uncons? j181.snd.snd) fun p189 ↦
 Option.bind
 (obIs (Ob.mk OK.box 33 2 0 [[vi b178, AV.list 0 1 b179]])
 p189.fst)
 fun _ ↦
 Option.bind (chk p189.fst.ver 0) fun _ ↦
 Option.bind (uncons? p189.fst.es) fun p192 ↦
 Option.bind (nil? p192.snd) fun _ ↦
 Option.bind (uncons? p192.fst) fun p194 ↦
 Option.bind (AV.int? IntKind.i64 p194.fst) fun _ ↦
 Option.bind (uncons? p194.snd) fun p196 ↦
 Option.bind (AV.list? 1 p196.fst) fun _ ↦
 Option.bind (nil? p196.snd) fun _ ↦
 Option.bind (nil? p189.snd) fun _ ↦ some (Out.ret (vbool true), [])
 else
 bif JX.is j181.fst JX.ret then
 Option.bind (uncons? j181.snd.fst) fun p200 ↦
 Option.bind (AV.bool? p200.fst) fun b201 ↦
 Option.bind (uncons? p200.snd) fun p202 ↦
 Option.bind (AV.int? IntKind.i64 p202.fst) fun _ ↦
 Option.bind (uncons? p202.snd) fun p204 ↦
 Option.bind (AV.int? IntKind.i64 p204.fst) fun _ ↦
 Option.bind (nil? p204.snd) fun _ ↦
 Option.bind (uncons? j181.snd.snd) fun p207 ↦
 Option.bind
 (obIs (Ob.mk OK.box 33 2 0 [[vi b178, AV.list 0 1 b179]])
 p207.fst)
 fun _ ↦
 Option.bind (chk p207.fst.ver 0) fun _ ↦
 Option.bind (uncons? p207.fst.es) fun p210 ↦
 Option.bind (nil? p210.snd) fun _ ↦
 Option.bind (uncons? p210.fst) fun p212 ↦
 Option.bind (AV.int? IntKind.i64 p212.fst) fun _ ↦
 Option.bind (uncons? p212.snd) fun p214 ↦
 Option.bind (AV.list? 1 p214.fst) fun _ ↦
 Option.bind (nil? p214.snd) fun _ ↦
 Option.bind (nil? p207.snd) fun _ ↦ some (Out.ret (vbool b201), [])
 else none := by
  intros
  exact (E_in [188] _ _ _).trans (by kernel_rfl)


noncomputable def q60_l0_0 : Int → Int → Int → List (List AV) → Option (Out × Heap) :=
 fun x219 x220 x223 l224 ↦
 some
 (Out.jump JX.ret [vbool false, vi x219, vi x220],
 [Ob.mk OK.box 33 2 0 [[vi x223, AV.list 0 1 l224]]])


theorem f60_l0 : ∀ (b218 : Bool) (x219 x220 : Int) (l221 : List (List AV)) (x222 x223 : Int) (l224 : List (List AV)),
 E cx (Key.loop 60 [true, true, true, false, true, false])
 [vbool b218, vi x219, vi x220, AV.ptr 0 0 0 0, AV.list 0 1 l221, vi x222]
 [Ob.mk OK.box 33 2 0 [[vi x223, AV.list 0 1 l224]]] =
 bif decide (x220 < x222) then
 if 0 ≤ x220 then
 Option.bind l221[Int.toNat x220]? fun cs225 ↦
 Option.bind (uncons? cs225) fun p226 ↦
 Option.bind (AV.int? IntKind.i64 p226.fst) fun n227 ↦
 Option.bind (nil? p226.snd) fun _ ↦
 bif decide (n227 ≤ x219) then q60_l0_0 x219 x220 x223 l224
 else
 bif decide (n227 ≥ x223) then q60_l0_0 x219 x220 x223 l224
 else
 E cx (Key.loop 60 [true, true, true, false, true, false])
 [vbool b218, vi n227, vi (IntKind.wrap IntKind.i64 (Int.add x220 1)),
 AV.ptr 0 0 0 0, AV.list 0 1 l221, vi x222]
 [Ob.mk OK.box 33 2 0 [[vi x223, AV.list 0 1 l224]]]
 else none
 else
 some
 (Out.jump (JX.exit 0) [vbool b218, vi x219, vi x220],
 [Ob.mk OK.box 33 2 0 [[vi x223, AV.list 0 1 l224]]]) := by
  intros
  exact (E_in [188] _ _ _).trans (by kernel_rfl)


theorem f61 : ∀ (b229 : Int) (b230 : List (List AV)),
 E cx (Key.fn 61) [AV.agg [vi b229, AV.list 0 1 b230]] [] =
 bif decide (b229 < 0) then some (Out.ret (vbool false), [])
 else
 bif decide (b229 > 2048) then some (Out.ret (vbool false), [])
 else
 Option.bind
 (E cx (Key.loop 61 [true, true, false, true, false])
 [vbool false, vi 0, AV.ptr 0 0 0 0]
 [Ob.mk OK.box 33 2 0 [[vi b229, AV.list 0 1 b230]]])
 fun r231 ↦
 Option.bind (asJump r231) fun j232 ↦
 bif JX.is j232.fst (JX.exit 0) then
 Option.bind (uncons? j232.snd.fst) fun p233 ↦
 Option.bind (AV.bool? p233.fst) fun _ ↦
 Option.bind (uncons? p233.snd) fun p235 ↦
 Option.bind (AV.int? IntKind.i64 p235.fst) fun _ ↦
 Option.bind (nil? p235.snd) fun _ ↦
 Option.bind (uncons? j232.snd.snd) fun p238 ↦
 Option.bind
 (obIs (Ob.mk OK.box 33 2 0 [[vi b229, AV.list 0 1 b230]]) p238.fst)
 fun _ ↦
 Option.bind (chk p238.fst.ver 0) fun _ ↦
 Option.bind (uncons? p238.fst.es) fun p241 ↦
 Option.bind (nil? p241.snd) fun _ ↦
 Option.bind (uncons? p241.fst) fun p243 ↦
 Option.bind (AV.int? IntKind.i64 p243.fst) fun _ ↦
 Option.bind (uncons? p243.snd) fun p245 ↦
 Option.bind (AV.list? 1 p245.fst) fun _ ↦
 Option.bind (nil? p245.snd) fun _ ↦
 Option.bind (nil? p238.snd) fun _ ↦ some (Out.ret (vbool true), [])
 else
 bif JX.is j232.fst JX.ret then
 Option.bind (uncons? j232.snd.fst) fun p249 ↦
 Option.bind (AV.bool? p249.fst) fun b250 ↦
 Option.bind (uncons? p249.snd) fun p251 ↦
 Option.bind (AV.int? IntKind.i64 p251.fst) fun _ ↦
 Option.bind (nil? p251.snd) fun _ ↦
 Option.bind (uncons? j232.snd.snd) fun p254 ↦
 Option.bind
 (obIs (Ob.mk OK.box 33 2 0 [[vi b229, AV.list 0 1 b230]])
 p254.fst)
 fun _ ↦
 Option.bind (chk p254.fst.ver 0) fun _ ↦
 Option.bind (uncons? p254.fst.es) fun p257 ↦
 Option.bind (nil? p257.snd) fun _ ↦
 Option.bind (uncons? p257.fst) fun p259 ↦
 Option.bind (AV.int? IntKind.i64 p259.fst) fun _ ↦
 Option.bind (uncons? p259.snd) fun p261 ↦
 Option.bind (AV.list? 1 p261.fst) fun _ ↦
 Option.bind (nil? p261.snd) fun _ ↦
 Option.bind (nil? p254.snd) fun _ ↦ some (Out.ret (vbool b250), [])
 else none := by
  intros
  exact (E_in [188] _ _ _).trans (by kernel_rfl)


noncomputable def q61_l0_0 : Int → Int → List (List AV) → Option (Out × Heap) :=
 fun x266 x267 l268 ↦
 some
 (Out.jump JX.ret [vbool false, vi x266],
 [Ob.mk OK.box 33 2 0 [[vi x267, AV.list 0 1 l268]]])


noncomputable def q61_l0_1 : Bool → Int → Int → List (List AV) → Option (Out × Heap) :=
 fun b265 x266 x267 l268 ↦
 E cx (Key.loop 61 [true, true, false, true, false])
 [vbool b265, vi (IntKind.wrap IntKind.i64 (Int.add x266 1)), AV.ptr 0 0 0 0]
 [Ob.mk OK.box 33 2 0 [[vi x267, AV.list 0 1 l268]]]


theorem f61_l0 : ∀ (b265 : Bool) (x266 x267 : Int) (l268 : List (List AV)),
 E cx (Key.loop 61 [true, true, false, true, false])
 [vbool b265, vi x266, AV.ptr 0 0 0 0]
 [Ob.mk OK.box 33 2 0 [[vi x267, AV.list 0 1 l268]]] =
 bif decide (x266 < ((List.length l268) : Int)) then
 if 0 ≤ x266 then
 Option.bind l268[Int.toNat x266]? fun cs269 ↦
 Option.bind (uncons? cs269) fun p270 ↦
 Option.bind (AV.int? IntKind.i64 p270.fst) fun n271 ↦
 Option.bind (nil? p270.snd) fun _ ↦
 bif decide (n271 < 0) then q61_l0_0 x266 x267 l268
 else
 if 0 ≤ x266 then
 Option.bind l268[Int.toNat x266]? fun cs273 ↦
 Option.bind (uncons? cs273) fun p274 ↦
 Option.bind (AV.int? IntKind.i64 p274.fst) fun n275 ↦
 Option.bind (nil? p274.snd) fun _ ↦
 bif decide (n275 ≥ x267) then q61_l0_0 x266 x267 l268
 else
 bif decide (x266 > 0) then
 if 0 ≤ x266 then
 Option.bind l268[Int.toNat x266]? fun cs277 ↦
 Option.bind (uncons? cs277) fun p278 ↦
 Option.bind (AV.int? IntKind.i64 p278.fst) fun n279 ↦
 Option.bind (nil? p278.snd) fun _ ↦
 if 0 ≤ IntKind.wrap IntKind.i64 (Int.sub x266 1) then
 Option.bind l268[Int.toNat (IntKind.wrap IntKind.i64 (Int.sub x266 1))]? fun cs281 ↦
 Option.bind (uncons? cs281) fun p282 ↦
 Option.bind (AV.int? IntKind.i64 p282.fst) fun n283 ↦
 Option.bind (nil? p282.snd) fun _ ↦
 bif decide (n279 ≤ n283) then q61_l0_0 x266 x267 l268
 else q61_l0_1 b265 x266 x267 l268
 else none
 else none
 else q61_l0_1 b265 x266 x267 l268
 else none
 else none
 else
 some
 (Out.jump (JX.exit 0) [vbool b265, vi x266],
 [Ob.mk OK.box 33 2 0 [[vi x267, AV.list 0 1 l268]]]) := by
  intros
  exact (E_in [188] _ _ _).trans (by kernel_rfl)


theorem f62 : ∀ (b285 : Int) (b286 : List (List AV)) (i287 : Int),
 E cx (Key.fn 62) [AV.agg [vi b285, AV.list 0 1 b286], vi i287] [] =
 Option.bind (E cx (Key.fn 121) [AV.list 0 1 b286, vi i287] []) fun r288 ↦
 Option.bind (ret1 r288) fun v289 ↦
 Option.bind (AV.tup? v289) fun vs290 ↦
 Option.bind (uncons? vs290) fun p291 ↦
 Option.bind (AV.int? IntKind.i64 p291.fst) fun _ ↦
 Option.bind (uncons? p291.snd) fun p293 ↦
 Option.bind (AV.bool? p293.fst) fun b294 ↦
 bif b294 then
 Option.bind (nil? p293.snd) fun _ ↦
 Option.bind
 (E cx (Key.fn 60) [AV.agg [vi b285, AV.list 0 1 b286]] [])
 fun r296 ↦
 Option.bind (ret1 r296) fun v297 ↦
 Option.bind (AV.bool? v297) fun b298 ↦
 bif b298 then some (Out.ret (vbool true), [])
 else some (Out.ret (vbool false), [])
 else
 Option.bind (nil? p293.snd) fun _ ↦
 Option.bind
 (E cx (Key.fn 60) [AV.agg [vi b285, AV.list 0 1 b286]] [])
 fun r300 ↦
 Option.bind (ret1 r300) fun v301 ↦
 Option.bind (AV.bool? v301) fun b302 ↦
 bif b302 then some (Out.ret (vbool false), [])
 else some (Out.ret (vbool false), []) := by
  intros
  exact (E_in [188] _ _ _).trans (by kernel_rfl)


theorem f63 : ∀ (b303 : Int) (b304 : List (List AV)) (i305 : Int),
 E cx (Key.fn 63) [AV.agg [vi b303, AV.list 0 1 b304], vi i305] [] =
 Option.bind (E cx (Key.fn 61) [AV.agg [vi b303, AV.list 0 1 b304]] [])
 fun r306 ↦
 Option.bind (ret1 r306) fun v307 ↦
 Option.bind (AV.bool? v307) fun b308 ↦
 bif b308 then
 Option.bind
 (E cx (Key.fn 122)
 [AV.agg [vi b303, AV.list 0 1 b304], vi i305] [])
 fun r309 ↦
 Option.bind (ret1 r309) fun v310 ↦
 Option.bind (AV.bool? v310) fun b311 ↦
 bif b311 then some (Out.ret (vbool true), []) else some (Out.ret (vbool false), [])
 else some (Out.ret (vbool false), []) := by
  intros
  exact (E_in [188] _ _ _).trans (by kernel_rfl)


theorem f64 : ∀ (c312 n313 : Int),
 E cx (Key.fn 64) [vi c312, vi n313] [] =
 bif decide (c312 < 0) then
 if n313 = 0 then none
 else
 some
 (Out.ret
 (vi (Int.tmod (IntKind.wrap IntKind.i64 (Int.sub 0 (IntKind.wrap IntKind.i64 (Int.add c312 1)))) n313)),
 [])
 else if n313 = 0 then none else some (Out.ret (vi (Int.tmod c312 n313)), []) := by
  intros
  exact (E_in [188] _ _ _).trans (by kernel_rfl)


theorem f65 : ∀ (a314 : Int) (a315 more316 : List (List AV)),
 E cx (Key.fn 65)
 [AV.agg [vi a314, AV.list 0 1 a315], AV.list 0 2 more316] [] =
 Option.bind (E cx (Key.fn 60) [AV.agg [vi a314, AV.list 0 1 a315]] [])
 fun r317 ↦
 Option.bind (ret1 r317) fun v318 ↦
 Option.bind (AV.bool? v318) fun b319 ↦
 bif b319 then
 bif ysOk a315 then
 if Nat.mul (Nat.add 0 (List.length a315)) 8 ≤ 140737488355328 then
 Option.bind
 (E cx (Key.loop 65 [true, true, true, false, true, false])
 [vi 0, AV.arr 2 1 0 (Nat.add 0 (List.length a315)), vi 0, AV.ptr 0 0 0 0,
 AV.ptr 1 0 0 0, AV.list 0 2 more316, vi ((List.length more316) : Int)]
 [Ob.mk OK.box 33 2 0 [[vi a314, AV.list 0 1 a315]],
 Ob.mk OK.box 33 2 0 [[vi 0, AV.val (Value.slice none 0 0)]],
 Ob.mk OK.arr 3 1 1 ([] ++ a315)])
 fun r320 ↦
 Option.bind (asJump r320) fun j321 ↦
 bif JX.is j321.fst (JX.exit 0) then
 Option.bind (uncons? j321.snd.fst) fun p322 ↦
 Option.bind (AV.int? IntKind.i64 p322.fst) fun _ ↦
 Option.bind (uncons? p322.snd) fun p324 ↦
 Option.bind (AV.arr? 2 p324.fst) fun x325 ↦
 Option.bind (chk x325.fst 1) fun _ ↦
 Option.bind (uncons? p324.snd) fun p327 ↦
 Option.bind (AV.int? IntKind.i64 p327.fst) fun _ ↦
 Option.bind (nil? p327.snd) fun _ ↦
 Option.bind (uncons? j321.snd.snd) fun p330 ↦
 Option.bind
 (obIs
 (Ob.mk OK.box 33 2 0 [[vi a314, AV.list 0 1 a315]]) p330.fst)
 fun _ ↦
 Option.bind (chk p330.fst.ver 0) fun _ ↦
 Option.bind (uncons? p330.fst.es) fun p333 ↦
 Option.bind (nil? p333.snd) fun _ ↦
 Option.bind (uncons? p333.fst) fun p335 ↦
 Option.bind (AV.int? IntKind.i64 p335.fst) fun n336 ↦
 Option.bind (uncons? p335.snd) fun p337 ↦
 Option.bind (AV.list? 1 p337.fst) fun _ ↦
 Option.bind (nil? p337.snd) fun _ ↦
 Option.bind (uncons? p330.snd) fun p340 ↦
 Option.bind
 (obIs
 (Ob.mk OK.box 33 2 0
 [[vi 0, AV.val (Value.slice none 0 0)]])
 p340.fst)
 fun _ ↦
 Option.bind (chk p340.fst.ver 0) fun _ ↦
 Option.bind (uncons? p340.fst.es) fun p343 ↦
 Option.bind (nil? p343.snd) fun _ ↦
 Option.bind (uncons? p343.fst) fun p345 ↦
 Option.bind (AV.int? IntKind.i64 p345.fst) fun _ ↦
 Option.bind (uncons? p345.snd) fun p347 ↦
 Option.bind (AV.nilS? p347.fst) fun _ ↦
 Option.bind (nil? p347.snd) fun _ ↦
 Option.bind (uncons? p340.snd) fun p350 ↦
 Option.bind
 (obIs (Ob.mk OK.arr 3 1 1 ([] ++ a315))
 p350.fst)
 fun _ ↦
 Option.bind (chk p350.fst.ver 1) fun _ ↦
 Option.bind (nil? p350.snd) fun _ ↦
 Option.bind
 (chkLe (Nat.add x325.snd.fst x325.snd.snd)
 (List.length
 (Ob.mk OK.arr 3 1 1 p350.fst.es).es))
 fun _ ↦
 if x325.snd.snd ≤ 4611686018427387903 then
 Option.bind
 (sortN []
 (List.drop x325.snd.fst
 (List.take (Nat.add x325.snd.fst x325.snd.snd)
 (Ob.mk OK.arr 3 1 1
 p350.fst.es).es)))
 fun zs355 ↦
 Option.bind
 (E cx (Key.own 125)
 [AV.arr 0 1 x325.snd.fst x325.snd.snd]
 [Ob.mk OK.arr 3 1 1
 (List.take x325.snd.fst
 (Ob.mk OK.arr 3 1 1
 p350.fst.es).es ++
 zs355 ++
 List.drop (Nat.add x325.snd.fst x325.snd.snd)
 (Ob.mk OK.arr 3 1 1
 p350.fst.es).es)])
 fun r356 ↦
 Option.bind (asRet r356) fun x357 ↦
 Option.bind (AV.arr? 0 x357.fst) fun x358 ↦
 Option.bind (chk x358.fst 1) fun _ ↦
 Option.bind (uncons? x357.snd) fun p360 ↦
 Option.bind
 (obIs
 (Ob.mk OK.arr 3 1 1 [])
 p360.fst)
 fun _ ↦
 Option.bind (chk p360.fst.ver 1) fun _ ↦
 Option.bind (nil? p360.snd) fun _ ↦
 Option.bind
 (chkLe
 (Nat.add x358.snd.fst x358.snd.snd)
 (List.length p360.fst.es))
 fun _ ↦
 some
 (Out.ret
 (AV.tuple
 [AV.agg
 [vi n336,
 AV.list 0 1
 (List.drop x358.snd.fst
 (List.take
 (Nat.add x358.snd.fst
 x358.snd.snd)
 p360.fst.es))],
 vi 0]),
 [])
 else none
 else
 bif JX.is j321.fst JX.ret then
 Option.bind (uncons? j321.snd.fst) fun p365 ↦
 Option.bind (AV.int? IntKind.i64 p365.fst) fun n366 ↦
 Option.bind (uncons? p365.snd) fun p367 ↦
 Option.bind (AV.arr? 2 p367.fst) fun x368 ↦
 Option.bind (chk x368.fst 1) fun _ ↦
 Option.bind (uncons? p367.snd) fun p370 ↦
 Option.bind (AV.int? IntKind.i64 p370.fst) fun _ ↦
 Option.bind (nil? p370.snd) fun _ ↦
 Option.bind (uncons? j321.snd.snd) fun p373 ↦
 Option.bind
 (obIs
 (Ob.mk OK.box 33 2 0 [[vi a314, AV.list 0 1 a315]]) p373.fst)
 fun _ ↦
 Option.bind (chk p373.fst.ver 0) fun _ ↦
 Option.bind (uncons? p373.fst.es) fun p376 ↦
 Option.bind (nil? p376.snd) fun _ ↦
 Option.bind (uncons? p376.fst) fun p378 ↦
 Option.bind (AV.int? IntKind.i64 p378.fst) fun _ ↦
 Option.bind (uncons? p378.snd) fun p380 ↦
 Option.bind (AV.list? 1 p380.fst) fun _ ↦
 Option.bind (nil? p380.snd) fun _ ↦
 Option.bind (uncons? p373.snd) fun p383 ↦
 Option.bind
 (obIs
 (Ob.mk OK.box 33 2 0
 [[vi 0, AV.val (Value.slice none 0 0)]])
 p383.fst)
 fun _ ↦
 Option.bind (chk p383.fst.ver 0) fun _ ↦
 Option.bind (uncons? p383.fst.es) fun p386 ↦
 Option.bind (nil? p386.snd) fun _ ↦
 Option.bind (uncons? p386.fst) fun p388 ↦
 Option.bind (AV.int? IntKind.i64 p388.fst) fun n389 ↦
 Option.bind (uncons? p388.snd) fun p390 ↦
 Option.bind (AV.nilS? p390.fst) fun _ ↦
 Option.bind (nil? p390.snd) fun _ ↦
 Option.bind (uncons? p383.snd) fun p393 ↦
 Option.bind
 (obIs
 (Ob.mk OK.arr 3 1 1 ([] ++ a315)) p393.fst)
 fun _ ↦
 Option.bind (chk p393.fst.ver 1) fun _ ↦
 Option.bind (nil? p393.snd) fun _ ↦
 some
 (Out.ret
 (AV.tuple
 [AV.agg
 [vi n389,
 AV.val (Value.slice none 0 0)],
 vi n366]),
 [])
 else none
 else none
 else none
 else
 some
 (Out.ret
 (AV.tuple [AV.agg [vi 0, AV.val (Value.slice none 0 0)], vi 1]),
 []) := by
  intros
  exact (E_in [188] _ _ _).trans (by kernel_rfl)


theorem f65_l0 : ∀ (x397 : Int) (n398 : Nat) (x399 : Int) (l400 : List (List AV)) (x401 x402 : Int) (l403 : List (List AV)) (x404 : Int)
 (l405 : List (List AV)),
 E cx (Key.loop 65 [true, true, true, false, true, false])
 [vi x397, AV.arr 2 1 0 n398, vi x399, AV.ptr 0 0 0 0, AV.ptr 1 0 0 0,
 AV.list 0 2 l400, vi x401]
 [Ob.mk OK.box 33 2 0 [[vi x402, AV.list 0 1 l403]],
 Ob.mk OK.box 33 2 0 [[vi x404, AV.val (Value.slice none 0 0)]],
 Ob.mk OK.arr 3 1 1 l405] =
 bif decide (x399 < x401) then
 if 0 ≤ x399 then
 Option.bind l400[Int.toNat x399]? fun cs406 ↦
 Option.bind (uncons? cs406) fun p407 ↦
 Option.bind (AV.int? IntKind.i64 p407.fst) fun n408 ↦
 Option.bind (uncons? p407.snd) fun p409 ↦
 Option.bind (AV.list? 1 p409.fst) fun es410 ↦
 Option.bind (nil? p409.snd) fun _ ↦
 Option.bind
 (E cx (Key.fn 123)
 [AV.agg [vi x402, AV.list 0 1 l403],
 AV.agg [vi n408, AV.list 0 1 es410]]
 [])
 fun r412 ↦
 Option.bind (ret1 r412) fun v413 ↦
 Option.bind (AV.bool? v413) fun b414 ↦
 bif b414 then
 bif ysOk es410 then
 Option.bind (chk n398 (List.length (Ob.mk OK.arr 3 1 1 l405).es)) fun _ ↦
 if
 Nat.mul (Nat.add (List.length (Ob.mk OK.arr 3 1 1 l405).es) (List.length es410)) 8 ≤
 140737488355328 then
 E cx (Key.loop 65 [true, true, true, false, true, false])
 [vi x397,
 AV.arr 2 1 0
 (Nat.add (List.length (Ob.mk OK.arr 3 1 1 l405).es) (List.length es410)),
 vi (IntKind.wrap IntKind.i64 (Int.add x399 1)), AV.ptr 0 0 0 0,
 AV.ptr 1 0 0 0, AV.list 0 2 l400, vi x401]
 [Ob.mk OK.box 33 2 0 [[vi x402, AV.list 0 1 l403]],
 Ob.mk OK.box 33 2 0 [[vi x404, AV.val (Value.slice none 0 0)]],
 Ob.mk OK.arr 3 1 1 ((Ob.mk OK.arr 3 1 1 l405).es ++ es410)]
 else none
 else none
 else
 some
 (Out.jump JX.ret [vi 1, AV.arr 2 1 0 n398, vi x399],
 [Ob.mk OK.box 33 2 0 [[vi x402, AV.list 0 1 l403]],
 Ob.mk OK.box 33 2 0 [[vi 0, AV.val (Value.slice none 0 0)]],
 Ob.mk OK.arr 3 1 1 l405])
 else none
 else
 some
 (Out.jump (JX.exit 0) [vi x397, AV.arr 2 1 0 n398, vi x399],
 [Ob.mk OK.box 33 2 0 [[vi x402, AV.list 0 1 l403]],
 Ob.mk OK.box 33 2 0 [[vi x404, AV.val (Value.slice none 0 0)]],
 Ob.mk OK.arr 3 1 1 l405]) := by
  intros
  exact (E_in [188] _ _ _).trans (by kernel_rfl)


theorem f66 : ∀ (l416 : List (List AV)),
 E cx (Key.fn 66) [AV.list 0 2 l416] [] =
 Option.bind
 (E cx (Key.loop 66 [true, false, true, false])
 [vi 0, vi 0, AV.list 0 2 l416, AV.ptr 0 0 0 0]
 [Ob.mk OK.box 33 2 0 [[vi 0, AV.val (Value.slice none 0 0)]]])
 fun r417 ↦
 Option.bind (asJump r417) fun j418 ↦
 bif JX.is j418.fst (JX.exit 0) then
 Option.bind (uncons? j418.snd.fst) fun p419 ↦
 Option.bind (AV.int? IntKind.i64 p419.fst) fun _ ↦
 Option.bind (uncons? p419.snd) fun p421 ↦
 Option.bind (AV.int? IntKind.i64 p421.fst) fun _ ↦
 Option.bind (nil? p421.snd) fun _ ↦
 Option.bind (uncons? j418.snd.snd) fun p424 ↦
 Option.bind
 (obIs (Ob.mk OK.box 33 2 0 [[vi 0, AV.val (Value.slice none 0 0)]])
 p424.fst)
 fun _ ↦
 Option.bind (chk p424.fst.ver 0) fun _ ↦
 Option.bind (uncons? p424.fst.es) fun p427 ↦
 Option.bind (nil? p427.snd) fun _ ↦
 Option.bind (uncons? p427.fst) fun p429 ↦
 Option.bind (AV.int? IntKind.i64 p429.fst) fun n430 ↦
 Option.bind (uncons? p429.snd) fun p431 ↦
 Option.bind (AV.nilS? p431.fst) fun _ ↦
 Option.bind (nil? p431.snd) fun _ ↦
 Option.bind (nil? p424.snd) fun _ ↦
 Option.bind l416[0]? fun cs435 ↦
 Option.bind (uncons? cs435) fun p436 ↦
 Option.bind (AV.int? IntKind.i64 p436.fst) fun n437 ↦
 Option.bind (uncons? p436.snd) fun p438 ↦
 Option.bind (AV.list? 1 p438.fst) fun _ ↦
 Option.bind (nil? p438.snd) fun _ ↦
 Option.bind
 (E cx (Key.loop 66 [true, true, true, false, true, false])
 [vi 0, AV.list 0 2 l416, AV.ptr 0 0 0 0,
 AV.ptr 1 0 0 0]
 [Ob.mk OK.box 33 2 0
 [[vi n430, AV.val (Value.slice none 0 0)]],
 Ob.mk OK.box 33 2 0 [[vi n437, AV.arr 2 1 0 0]],
 Ob.mk OK.arr 3 1 1 []])
 fun r441 ↦
 Option.bind (asJump r441) fun j442 ↦
 bif JX.is j442.fst (JX.exit 2) then
 Option.bind (uncons? j442.snd.fst) fun p443 ↦
 Option.bind (AV.int? IntKind.i64 p443.fst) fun _ ↦
 Option.bind (nil? p443.snd) fun _ ↦
 Option.bind (uncons? j442.snd.snd) fun p446 ↦
 Option.bind
 (obIs
 (Ob.mk OK.box 33 2 0
 [[vi n430, AV.val (Value.slice none 0 0)]])
 p446.fst)
 fun _ ↦
 Option.bind (chk p446.fst.ver 0) fun _ ↦
 Option.bind (uncons? p446.fst.es) fun p449 ↦
 Option.bind (nil? p449.snd) fun _ ↦
 Option.bind (uncons? p449.fst) fun p451 ↦
 Option.bind (AV.int? IntKind.i64 p451.fst) fun _ ↦
 Option.bind (uncons? p451.snd) fun p453 ↦
 Option.bind (AV.nilS? p453.fst) fun _ ↦
 Option.bind (nil? p453.snd) fun _ ↦
 Option.bind (uncons? p446.snd) fun p456 ↦
 Option.bind
 (obIs
 (Ob.mk OK.box 33 2 0
 [[vi n437, AV.arr 2 1 0 0]])
 p456.fst)
 fun _ ↦
 Option.bind (chk p456.fst.ver 0) fun _ ↦
 Option.bind (uncons? p456.fst.es) fun p459 ↦
 Option.bind (nil? p459.snd) fun _ ↦
 Option.bind (uncons? p459.fst) fun p461 ↦
 Option.bind (AV.int? IntKind.i64 p461.fst)
 fun n462 ↦
 Option.bind (uncons? p461.snd) fun p463 ↦
 Option.bind (AV.arr? 2 p463.fst) fun x464 ↦
 Option.bind (chk x464.fst 1) fun _ ↦
 Option.bind (nil? p463.snd) fun _ ↦
 Option.bind (uncons? p456.snd)
 fun p467 ↦
 Option.bind
 (obIs
 (Ob.mk OK.arr 3 1 1
 [])
 p467.fst)
 fun _ ↦
 Option.bind (chk p467.fst.ver 1)
 fun _ ↦
 Option.bind (nil? p467.snd)
 fun _ ↦
 Option.bind
 (chkLe
 (Nat.add x464.snd.fst x464.snd.snd)
 (List.length p467.fst.es))
 fun _ ↦
 some
 (Out.ret
 (AV.tuple
 [AV.agg
 [vi n462,
 AV.list 0 1
 (List.drop x464.snd.fst
 (List.take
 (Nat.add x464.snd.fst
 x464.snd.snd)
 p467.fst.es))],
 vi 0]),
 [])
 else none
 else
 bif JX.is j418.fst JX.ret then
 Option.bind (uncons? j418.snd.fst) fun p472 ↦
 Option.bind (AV.int? IntKind.i64 p472.fst) fun n473 ↦
 Option.bind (uncons? p472.snd) fun p474 ↦
 Option.bind (AV.int? IntKind.i64 p474.fst) fun _ ↦
 Option.bind (nil? p474.snd) fun _ ↦
 Option.bind (uncons? j418.snd.snd) fun p477 ↦
 Option.bind
 (obIs
 (Ob.mk OK.box 33 2 0 [[vi 0, AV.val (Value.slice none 0 0)]]) p477.fst)
 fun _ ↦
 Option.bind (chk p477.fst.ver 0) fun _ ↦
 Option.bind (uncons? p477.fst.es) fun p480 ↦
 Option.bind (nil? p480.snd) fun _ ↦
 Option.bind (uncons? p480.fst) fun p482 ↦
 Option.bind (AV.int? IntKind.i64 p482.fst) fun n483 ↦
 Option.bind (uncons? p482.snd) fun p484 ↦
 Option.bind (AV.nilS? p484.fst) fun _ ↦
 Option.bind (nil? p484.snd) fun _ ↦
 Option.bind (nil? p477.snd) fun _ ↦
 some
 (Out.ret
 (AV.tuple
 [AV.agg [vi n483, AV.val (Value.slice none 0 0)],
 vi n473]),
 [])
 else none := by
  intros
  exact (E_in [188] _ _ _).trans (by kernel_rfl)


theorem f66_l0 : ∀ (x488 x489 : Int) (l490 : List (List AV)) (x491 : Int),
 E cx (Key.loop 66 [true, false, true, false])
 [vi x488, vi x489, AV.list 0 2 l490, AV.ptr 0 0 0 0]
 [Ob.mk OK.box 33 2 0 [[vi x491, AV.val (Value.slice none 0 0)]]] =
 bif decide (x489 < ((List.length l490) : Int)) then
 Option.bind l490[0]? fun cs492 ↦
 Option.bind (uncons? cs492) fun p493 ↦
 Option.bind (AV.int? IntKind.i64 p493.fst) fun n494 ↦
 Option.bind (uncons? p493.snd) fun p495 ↦
 Option.bind (AV.list? 1 p495.fst) fun es496 ↦
 Option.bind (nil? p495.snd) fun _ ↦
 if 0 ≤ x489 then
 Option.bind l490[Int.toNat x489]? fun cs498 ↦
 Option.bind (uncons? cs498) fun p499 ↦
 Option.bind (AV.int? IntKind.i64 p499.fst) fun n500 ↦
 Option.bind (uncons? p499.snd) fun p501 ↦
 Option.bind (AV.list? 1 p501.fst) fun es502 ↦
 Option.bind (nil? p501.snd) fun _ ↦
 Option.bind
 (E cx (Key.fn 126)
 [AV.agg [vi n494, AV.list 0 1 es496],
 AV.agg [vi n500, AV.list 0 1 es502]]
 [])
 fun r504 ↦
 Option.bind (ret1 r504) fun v505 ↦
 Option.bind (AV.bool? v505) fun b506 ↦
 bif b506 then
 E cx (Key.loop 66 [true, false, true, false])
 [vi x488, vi (IntKind.wrap IntKind.i64 (Int.add x489 1)),
 AV.list 0 2 l490, AV.ptr 0 0 0 0]
 [Ob.mk OK.box 33 2 0
 [[vi x491, AV.val (Value.slice none 0 0)]]]
 else
 some
 (Out.jump JX.ret [vi 1, vi x489],
 [Ob.mk OK.box 33 2 0
 [[vi 0, AV.val (Value.slice none 0 0)]]])
 else none
 else
 some
 (Out.jump (JX.exit 0) [vi x488, vi x489],
 [Ob.mk OK.box 33 2 0 [[vi x491, AV.val (Value.slice none 0 0)]]]) := by
  intros
  exact (E_in [188] _ _ _).trans (by kernel_rfl)


theorem f66_l1 : ∀ (x507 : Int) (l508 : List (List AV)) (x509 x510 : Int) (n511 : Nat) (l512 : List (List AV)),
 E cx (Key.loop 66 [true, true, true, false, true, false])
 [vi x507, AV.list 0 2 l508, AV.ptr 0 0 0 0, AV.ptr 1 0 0 0]
 [Ob.mk OK.box 33 2 0 [[vi x509, AV.val (Value.slice none 0 0)]],
 Ob.mk OK.box 33 2 0 [[vi x510, AV.arr 2 1 0 n511]],
 Ob.mk OK.arr 3 1 1 l512] =
 bif decide (x507 < x510) then
 Option.bind
 (E cx (Key.loop 66 [true, true, true, false, true, false, false, true, false, false, true, false, true, false])
 [vbool false, vi 0, AV.list 0 2 l508, AV.ptr 0 0 0 0, AV.ptr 1 0 0 0,
 vi x507]
 [Ob.mk OK.box 33 2 0 [[vi x509, AV.val (Value.slice none 0 0)]],
 Ob.mk OK.box 33 2 0 [[vi x510, AV.arr 2 1 0 n511]],
 Ob.mk OK.arr 3 1 1 l512])
 fun r513 ↦
 Option.bind (asJump r513) fun j514 ↦
 bif JX.is j514.fst (JX.exit 4) then
 Option.bind (uncons? j514.snd.fst) fun p515 ↦
 Option.bind (AV.bool? p515.fst) fun b516 ↦
 Option.bind (uncons? p515.snd) fun p517 ↦
 Option.bind (AV.int? IntKind.i64 p517.fst) fun _ ↦
 Option.bind (nil? p517.snd) fun _ ↦
 Option.bind (uncons? j514.snd.snd) fun p520 ↦
 Option.bind
 (obIs
 (Ob.mk OK.box 33 2 0 [[vi x509, AV.val (Value.slice none 0 0)]]) p520.fst)
 fun _ ↦
 Option.bind (chk p520.fst.ver 0) fun _ ↦
 Option.bind (uncons? p520.fst.es) fun p523 ↦
 Option.bind (nil? p523.snd) fun _ ↦
 Option.bind (uncons? p523.fst) fun p525 ↦
 Option.bind (AV.int? IntKind.i64 p525.fst) fun n526 ↦
 Option.bind (uncons? p525.snd) fun p527 ↦
 Option.bind (AV.nilS? p527.fst) fun _ ↦
 Option.bind (nil? p527.snd) fun _ ↦
 Option.bind (uncons? p520.snd) fun p530 ↦
 Option.bind
 (obIs
 (Ob.mk OK.box 33 2 0 [[vi x510, AV.arr 2 1 0 n511]])
 p530.fst)
 fun _ ↦
 Option.bind (chk p530.fst.ver 0) fun _ ↦
 Option.bind (uncons? p530.fst.es) fun p533 ↦
 Option.bind (nil? p533.snd) fun _ ↦
 Option.bind (uncons? p533.fst) fun p535 ↦
 Option.bind (AV.int? IntKind.i64 p535.fst) fun n536 ↦
 Option.bind (uncons? p535.snd) fun p537 ↦
 Option.bind (AV.arr? 2 p537.fst) fun x538 ↦
 Option.bind (chk x538.fst 1) fun _ ↦
 Option.bind (nil? p537.snd) fun _ ↦
 Option.bind (uncons? p530.snd) fun p541 ↦
 Option.bind (obIs (Ob.mk OK.arr 3 1 1 l512) p541.fst)
 fun _ ↦
 Option.bind (chk p541.fst.ver 1) fun _ ↦
 Option.bind (nil? p541.snd) fun _ ↦
 bif b516 then
 Option.bind (chk x538.snd.fst 0) fun _ ↦
 Option.bind
 (chk x538.snd.snd
 (List.length (Ob.mk OK.arr 3 1 1 p541.fst.es).es))
 fun _ ↦
 if
 Nat.mul
 (Nat.add
 (List.length
 (Ob.mk OK.arr 3 1 1 p541.fst.es).es)
 1)
 8 ≤
 140737488355328 then
 E cx
 (Key.loop 66 [true, true, true, false, true, false])
 [vi (IntKind.wrap IntKind.i64 (Int.add x507 1)),
 AV.list 0 2 l508, AV.ptr 0 0 0 0,
 AV.ptr 1 0 0 0]
 [Ob.mk OK.box 33 2 0
 [[vi n526, AV.val (Value.slice none 0 0)]],
 Ob.mk OK.box 33 2 0
 [[vi n536,
 AV.arr 2 1 0
 (Nat.add
 (List.length
 (Ob.mk OK.arr 3 1 1 p541.fst.es).es)
 1)]],
 Ob.mk OK.arr 3 1 1
 ((Ob.mk OK.arr 3 1 1 p541.fst.es).es ++
 [[vi x507]])]
 else none
 else
 E cx
 (Key.loop 66 [true, true, true, false, true, false])
 [vi (IntKind.wrap IntKind.i64 (Int.add x507 1)),
 AV.list 0 2 l508, AV.ptr 0 0 0 0,
 AV.ptr 1 0 0 0]
 [Ob.mk OK.box 33 2 0
 [[vi n526, AV.val (Value.slice none 0 0)]],
 Ob.mk OK.box 33 2 0
 [[vi n536, AV.arr 2 1 x538.snd.fst x538.snd.snd]],
 Ob.mk OK.arr 3 1 1 p541.fst.es]
 else none
 else
 some
 (Out.jump (JX.exit 2) [vi x507],
 [Ob.mk OK.box 33 2 0 [[vi x509, AV.val (Value.slice none 0 0)]],
 Ob.mk OK.box 33 2 0 [[vi x510, AV.arr 2 1 0 n511]],
 Ob.mk OK.arr 3 1 1 l512]) := by
  intros
  exact (E_in [188] _ _ _).trans (by kernel_rfl)


noncomputable def q66_l1_l2_0 : Int → List (List AV) → Int → Int → Int → Nat → List (List AV) → Option (Out × Heap) :=
 fun x548 l549 x550 x551 x552 n553 l554 ↦
 E cx (Key.loop 66 [true, true, true, false, true, false, false, true, false, false, true, false, true, false])
 [vbool true, vi (IntKind.wrap IntKind.i64 (Int.add x548 1)), AV.list 0 2 l549, AV.ptr 0 0 0 0,
 AV.ptr 1 0 0 0, vi x550]
 [Ob.mk OK.box 33 2 0 [[vi x551, AV.val (Value.slice none 0 0)]],
 Ob.mk OK.box 33 2 0 [[vi x552, AV.arr 2 1 0 n553]], Ob.mk OK.arr 3 1 1 l554]


noncomputable def q66_l1_l2_1 : Bool → Int → List (List AV) → Int → Int → Int → Nat → List (List AV) → Option (Out × Heap) :=
 fun b547 x548 l549 x550 x551 x552 n553 l554 ↦
 bif b547 then q66_l1_l2_0 x548 l549 x550 x551 x552 n553 l554
 else
 E cx (Key.loop 66 [true, true, true, false, true, false, false, true, false, false, true, false, true, false])
 [AV.val (Value.tuple (Array.mk [])), vi (IntKind.wrap IntKind.i64 (Int.add x548 1)), AV.list 0 2 l549,
 AV.ptr 0 0 0 0, AV.ptr 1 0 0 0, vi x550]
 [Ob.mk OK.box 33 2 0 [[vi x551, AV.val (Value.slice none 0 0)]],
 Ob.mk OK.box 33 2 0 [[vi x552, AV.arr 2 1 0 n553]],
 Ob.mk OK.arr 3 1 1 l554]


theorem f66_l1_l2 : ∀ (b547 : Bool) (x548 : Int) (l549 : List (List AV)) (x550 x551 x552 : Int) (n553 : Nat) (l554 : List (List AV)),
 E cx (Key.loop 66 [true, true, true, false, true, false, false, true, false, false, true, false, true, false])
 [vbool b547, vi x548, AV.list 0 2 l549, AV.ptr 0 0 0 0, AV.ptr 1 0 0 0,
 vi x550]
 [Ob.mk OK.box 33 2 0 [[vi x551, AV.val (Value.slice none 0 0)]],
 Ob.mk OK.box 33 2 0 [[vi x552, AV.arr 2 1 0 n553]],
 Ob.mk OK.arr 3 1 1 l554] =
 bif decide (x548 < ((List.length l549) : Int)) then
 if 0 ≤ x548 then
 Option.bind l549[Int.toNat x548]? fun cs555 ↦
 Option.bind (uncons? cs555) fun p556 ↦
 Option.bind (AV.int? IntKind.i64 p556.fst) fun n557 ↦
 Option.bind (uncons? p556.snd) fun p558 ↦
 Option.bind (AV.list? 1 p558.fst) fun es559 ↦
 Option.bind (nil? p558.snd) fun _ ↦
 Option.bind
 (E cx (Key.fn 122)
 [AV.agg [vi n557, AV.list 0 1 es559], vi x550] [])
 fun r561 ↦
 Option.bind (ret1 r561) fun v562 ↦
 Option.bind (AV.bool? v562) fun b563 ↦
 bif b563 then
 bif decide (b547 = false) then
 bif b547 then q66_l1_l2_0 x548 l549 x550 x551 x552 n553 l554
 else q66_l1_l2_0 x548 l549 x550 x551 x552 n553 l554
 else q66_l1_l2_1 b547 x548 l549 x550 x551 x552 n553 l554
 else
 bif decide (b547 = false) then
 bif b547 then q66_l1_l2_0 x548 l549 x550 x551 x552 n553 l554
 else
 E cx
 (Key.loop 66 [true, true, true, false, true, false, false, true, false, false, true, false, true, false])
 [vbool false, vi (IntKind.wrap IntKind.i64 (Int.add x548 1)), AV.list 0 2 l549,
 AV.ptr 0 0 0 0, AV.ptr 1 0 0 0, vi x550]
 [Ob.mk OK.box 33 2 0 [[vi x551, AV.val (Value.slice none 0 0)]],
 Ob.mk OK.box 33 2 0 [[vi x552, AV.arr 2 1 0 n553]],
 Ob.mk OK.arr 3 1 1 l554]
 else q66_l1_l2_1 b547 x548 l549 x550 x551 x552 n553 l554
 else none
 else
 some
 (Out.jump (JX.exit 4) [vbool b547, vi x548],
 [Ob.mk OK.box 33 2 0 [[vi x551, AV.val (Value.slice none 0 0)]],
 Ob.mk OK.box 33 2 0 [[vi x552, AV.arr 2 1 0 n553]],
 Ob.mk OK.arr 3 1 1 l554]) := by
  intros
  exact (E_in [188] _ _ _).trans (by kernel_rfl)


theorem f67 : ∀ (a564 : Int) (a565 : List (List AV)) (b566 : Int) (b567 : List (List AV)),
 E cx (Key.fn 67)
 [AV.agg [vi a564, AV.list 0 1 a565], AV.agg [vi b566, AV.list 0 1 b567]]
 [] =
 bif a564 != b566 then some (Out.ret (vbool false), [])
 else
 bif ((List.length a565) : Int) != ((List.length b567) : Int) then some (Out.ret (vbool false), [])
 else
 Option.bind
 (E cx (Key.loop 67 [true, true, false, true, false])
 [vbool false, vi 0, AV.ptr 0 0 0 0, AV.ptr 1 0 0 0]
 [Ob.mk OK.box 33 2 0 [[vi a564, AV.list 0 1 a565]],
 Ob.mk OK.box 33 2 0 [[vi b566, AV.list 0 1 b567]]])
 fun r568 ↦
 Option.bind (asJump r568) fun j569 ↦
 bif JX.is j569.fst (JX.exit 0) then
 Option.bind (uncons? j569.snd.fst) fun p570 ↦
 Option.bind (AV.bool? p570.fst) fun _ ↦
 Option.bind (uncons? p570.snd) fun p572 ↦
 Option.bind (AV.int? IntKind.i64 p572.fst) fun _ ↦
 Option.bind (nil? p572.snd) fun _ ↦
 Option.bind (uncons? j569.snd.snd) fun p575 ↦
 Option.bind
 (obIs (Ob.mk OK.box 33 2 0 [[vi a564, AV.list 0 1 a565]]) p575.fst)
 fun _ ↦
 Option.bind (chk p575.fst.ver 0) fun _ ↦
 Option.bind (uncons? p575.fst.es) fun p578 ↦
 Option.bind (nil? p578.snd) fun _ ↦
 Option.bind (uncons? p578.fst) fun p580 ↦
 Option.bind (AV.int? IntKind.i64 p580.fst) fun _ ↦
 Option.bind (uncons? p580.snd) fun p582 ↦
 Option.bind (AV.list? 1 p582.fst) fun _ ↦
 Option.bind (nil? p582.snd) fun _ ↦
 Option.bind (uncons? p575.snd) fun p585 ↦
 Option.bind
 (obIs
 (Ob.mk OK.box 33 2 0 [[vi b566, AV.list 0 1 b567]])
 p585.fst)
 fun _ ↦
 Option.bind (chk p585.fst.ver 0) fun _ ↦
 Option.bind (uncons? p585.fst.es) fun p588 ↦
 Option.bind (nil? p588.snd) fun _ ↦
 Option.bind (uncons? p588.fst) fun p590 ↦
 Option.bind (AV.int? IntKind.i64 p590.fst) fun _ ↦
 Option.bind (uncons? p590.snd) fun p592 ↦
 Option.bind (AV.list? 1 p592.fst) fun _ ↦
 Option.bind (nil? p592.snd) fun _ ↦
 Option.bind (nil? p585.snd) fun _ ↦
 some (Out.ret (vbool true), [])
 else
 bif JX.is j569.fst JX.ret then
 Option.bind (uncons? j569.snd.fst) fun p596 ↦
 Option.bind (AV.bool? p596.fst) fun b597 ↦
 Option.bind (uncons? p596.snd) fun p598 ↦
 Option.bind (AV.int? IntKind.i64 p598.fst) fun _ ↦
 Option.bind (nil? p598.snd) fun _ ↦
 Option.bind (uncons? j569.snd.snd) fun p601 ↦
 Option.bind
 (obIs (Ob.mk OK.box 33 2 0 [[vi a564, AV.list 0 1 a565]])
 p601.fst)
 fun _ ↦
 Option.bind (chk p601.fst.ver 0) fun _ ↦
 Option.bind (uncons? p601.fst.es) fun p604 ↦
 Option.bind (nil? p604.snd) fun _ ↦
 Option.bind (uncons? p604.fst) fun p606 ↦
 Option.bind (AV.int? IntKind.i64 p606.fst) fun _ ↦
 Option.bind (uncons? p606.snd) fun p608 ↦
 Option.bind (AV.list? 1 p608.fst) fun _ ↦
 Option.bind (nil? p608.snd) fun _ ↦
 Option.bind (uncons? p601.snd) fun p611 ↦
 Option.bind
 (obIs
 (Ob.mk OK.box 33 2 0 [[vi b566, AV.list 0 1 b567]])
 p611.fst)
 fun _ ↦
 Option.bind (chk p611.fst.ver 0) fun _ ↦
 Option.bind (uncons? p611.fst.es) fun p614 ↦
 Option.bind (nil? p614.snd) fun _ ↦
 Option.bind (uncons? p614.fst) fun p616 ↦
 Option.bind (AV.int? IntKind.i64 p616.fst) fun _ ↦
 Option.bind (uncons? p616.snd) fun p618 ↦
 Option.bind (AV.list? 1 p618.fst) fun _ ↦
 Option.bind (nil? p618.snd) fun _ ↦
 Option.bind (nil? p611.snd) fun _ ↦
 some (Out.ret (vbool b597), [])
 else none := by
  intros
  exact (E_in [188] _ _ _).trans (by kernel_rfl)


theorem f67_l0 : ∀ (b622 : Bool) (x623 x624 : Int) (l625 : List (List AV)) (x626 : Int) (l627 : List (List AV)),
 E cx (Key.loop 67 [true, true, false, true, false])
 [vbool b622, vi x623, AV.ptr 0 0 0 0, AV.ptr 1 0 0 0]
 [Ob.mk OK.box 33 2 0 [[vi x624, AV.list 0 1 l625]],
 Ob.mk OK.box 33 2 0 [[vi x626, AV.list 0 1 l627]]] =
 bif decide (x623 < ((List.length l625) : Int)) then
 if 0 ≤ x623 then
 Option.bind l625[Int.toNat x623]? fun cs628 ↦
 Option.bind (uncons? cs628) fun p629 ↦
 Option.bind (AV.int? IntKind.i64 p629.fst) fun n630 ↦
 Option.bind (nil? p629.snd) fun _ ↦
 if 0 ≤ x623 then
 Option.bind l627[Int.toNat x623]? fun cs632 ↦
 Option.bind (uncons? cs632) fun p633 ↦
 Option.bind (AV.int? IntKind.i64 p633.fst) fun n634 ↦
 Option.bind (nil? p633.snd) fun _ ↦
 bif n630 != n634 then
 some
 (Out.jump JX.ret [vbool false, vi x623],
 [Ob.mk OK.box 33 2 0 [[vi x624, AV.list 0 1 l625]],
 Ob.mk OK.box 33 2 0 [[vi x626, AV.list 0 1 l627]]])
 else
 E cx (Key.loop 67 [true, true, false, true, false])
 [vbool b622, vi (IntKind.wrap IntKind.i64 (Int.add x623 1)), AV.ptr 0 0 0 0,
 AV.ptr 1 0 0 0]
 [Ob.mk OK.box 33 2 0 [[vi x624, AV.list 0 1 l625]],
 Ob.mk OK.box 33 2 0 [[vi x626, AV.list 0 1 l627]]]
 else none
 else none
 else
 some
 (Out.jump (JX.exit 0) [vbool b622, vi x623],
 [Ob.mk OK.box 33 2 0 [[vi x624, AV.list 0 1 l625]],
 Ob.mk OK.box 33 2 0 [[vi x626, AV.list 0 1 l627]]]) := by
  intros
  exact (E_in [188] _ _ _).trans (by kernel_rfl)


theorem f68 : ∀ (a636 : Int) (a637 : List (List AV)) (b638 : Int) (b639 : List (List AV)),
 E cx (Key.fn 68)
 [AV.agg [vi a636, AV.list 0 1 a637], AV.agg [vi b638, AV.list 0 1 b639]]
 [] =
 Option.bind
 (E cx (Key.fn 123)
 [AV.agg [vi a636, AV.list 0 1 a637], AV.agg [vi b638, AV.list 0 1 b639]]
 [])
 fun r640 ↦
 Option.bind (ret1 r640) fun v641 ↦
 Option.bind (AV.bool? v641) fun b642 ↦
 bif b642 then
 Option.bind
 (E cx (Key.fn 127)
 [AV.list 0 1 a637,
 AV.func (Fn.func 128) [] [AV.rop [vi b638, AV.list 0 1 b639]]]
 [])
 fun r643 ↦
 Option.bind (ret1 r643) fun v644 ↦
 Option.bind (AV.bool? v644) fun b645 ↦
 bif b645 then some (Out.ret (vbool false), []) else some (Out.ret (vbool true), [])
 else some (Out.ret (vbool false), []) := by
  intros
  exact (E_in [188] _ _ _).trans (by kernel_rfl)


theorem f68_c0 : ∀ (l646 : List (List AV)) (x647 : Int) (l648 : List (List AV)),
 E cx (Key.fn 127)
 [AV.list 0 1 l646, AV.func (Fn.func 128) [] [AV.rop [vi x647, AV.list 0 1 l648]]] [] =
 Option.bind
 (E cx (Key.fn 156)
 [AV.list 0 1 l646, AV.func (Fn.func 128) [] [AV.rop [vi x647, AV.list 0 1 l648]]]
 [])
 fun r649 ↦
 Option.bind (ret1 r649) fun v650 ↦
 Option.bind (AV.int? IntKind.i64 v650) fun n651 ↦
 bif decide (n651 ≥ 0) then some (Out.ret (vbool true), []) else some (Out.ret (vbool false), []) := by
  intros
  exact (E_in [188] _ _ _).trans (by kernel_rfl)


theorem f68_c0_c1 : ∀ (l652 : List (List AV)) (x653 : Int) (l654 : List (List AV)),
 E cx (Key.fn 156)
 [AV.list 0 1 l652, AV.func (Fn.func 128) [] [AV.rop [vi x653, AV.list 0 1 l654]]] [] =
 Option.bind
 (E cx (Key.loop 156 [true, false, true, false])
 [vi 0, vi 0, AV.list 0 1 l652,
 AV.func (Fn.func 128) [] [AV.rop [vi x653, AV.list 0 1 l654]],
 vi ((List.length l652) : Int)]
 [])
 fun r655 ↦
 Option.bind (asJump r655) fun j656 ↦
 bif JX.is j656.fst (JX.exit 0) then
 Option.bind (uncons? j656.snd.fst) fun p657 ↦
 Option.bind (AV.int? IntKind.i64 p657.fst) fun _ ↦
 Option.bind (uncons? p657.snd) fun p659 ↦
 Option.bind (AV.int? IntKind.i64 p659.fst) fun _ ↦
 Option.bind (nil? p659.snd) fun _ ↦
 Option.bind (nil? j656.snd.snd) fun _ ↦ some (Out.ret (vi (-1)), [])
 else
 bif JX.is j656.fst JX.ret then
 Option.bind (uncons? j656.snd.fst) fun p663 ↦
 Option.bind (AV.int? IntKind.i64 p663.fst) fun n664 ↦
 Option.bind (uncons? p663.snd) fun p665 ↦
 Option.bind (AV.int? IntKind.i64 p665.fst) fun _ ↦
 Option.bind (nil? p665.snd) fun _ ↦
 Option.bind (nil? j656.snd.snd) fun _ ↦ some (Out.ret (vi n664), [])
 else none := by
  intros
  exact (E_in [188] _ _ _).trans (by kernel_rfl)


theorem f68_c0_c1_l2 : ∀ (x669 x670 : Int) (l671 : List (List AV)) (x672 : Int) (l673 : List (List AV)) (x674 : Int),
 E cx (Key.loop 156 [true, false, true, false])
 [vi x669, vi x670, AV.list 0 1 l671,
 AV.func (Fn.func 128) [] [AV.rop [vi x672, AV.list 0 1 l673]], vi x674]
 [] =
 bif decide (x670 < x674) then
 if 0 ≤ x670 then
 Option.bind l671[Int.toNat x670]? fun cs675 ↦
 Option.bind (uncons? cs675) fun p676 ↦
 Option.bind (AV.int? IntKind.i64 p676.fst) fun n677 ↦
 Option.bind (nil? p676.snd) fun _ ↦
 Option.bind
 (E cx (Key.fn 128)
 [vi n677, AV.rop [vi x672, AV.list 0 1 l673]] [])
 fun r679 ↦
 Option.bind (ret1 r679) fun v680 ↦
 Option.bind (AV.bool? v680) fun b681 ↦
 bif b681 then some (Out.jump JX.ret [vi x670, vi x670], [])
 else
 E cx (Key.loop 156 [true, false, true, false])
 [vi x669, vi (IntKind.wrap IntKind.i64 (Int.add x670 1)), AV.list 0 1 l671,
 AV.func (Fn.func 128) [] [AV.rop [vi x672, AV.list 0 1 l673]],
 vi x674]
 []
 else none
 else some (Out.jump (JX.exit 0) [vi x669, vi x670], []) := by
  intros
  exact (E_in [188] _ _ _).trans (by kernel_rfl)


noncomputable def q69_0 : JX × List AV × Heap →
 Int → List (List AV) → Int → List (List AV) → Option (Out × Heap) :=
 fun j690 a682 a683 b684 b685 ↦
 Option.bind (uncons? j690.snd.fst) fun p691 ↦
 Option.bind (AV.bool? p691.fst) fun b692 ↦
 Option.bind (uncons? p691.snd) fun p693 ↦
 Option.bind (AV.int? IntKind.i64 p693.fst) fun _ ↦
 Option.bind (nil? p693.snd) fun _ ↦
 Option.bind (uncons? j690.snd.snd) fun p696 ↦
 Option.bind (obIs (Ob.mk OK.box 33 2 0 [[vi a682, AV.list 0 1 a683]]) p696.fst)
 fun _ ↦
 Option.bind (chk p696.fst.ver 0) fun _ ↦
 Option.bind (uncons? p696.fst.es) fun p699 ↦
 Option.bind (nil? p699.snd) fun _ ↦
 Option.bind (uncons? p699.fst) fun p701 ↦
 Option.bind (AV.int? IntKind.i64 p701.fst) fun _ ↦
 Option.bind (uncons? p701.snd) fun p703 ↦
 Option.bind (AV.list? 1 p703.fst) fun _ ↦
 Option.bind (nil? p703.snd) fun _ ↦
 Option.bind (uncons? p696.snd) fun p706 ↦
 Option.bind
 (obIs (Ob.mk OK.box 33 2 0 [[vi b684, AV.list 0 1 b685]])
 p706.fst)
 fun _ ↦
 Option.bind (chk p706.fst.ver 0) fun _ ↦
 Option.bind (uncons? p706.fst.es) fun p709 ↦
 Option.bind (nil? p709.snd) fun _ ↦
 Option.bind (uncons? p709.fst) fun p711 ↦
 Option.bind (AV.int? IntKind.i64 p711.fst) fun _ ↦
 Option.bind (uncons? p711.snd) fun p713 ↦
 Option.bind (AV.list? 1 p713.fst) fun _ ↦
 Option.bind (nil? p713.snd) fun _ ↦
 Option.bind (nil? p706.snd) fun _ ↦
 some (Out.ret (vbool b692), [])


theorem f69 : ∀ (a682 : Int) (a683 : List (List AV)) (b684 : Int) (b685 : List (List AV)),
 E cx (Key.fn 69)
 [AV.agg [vi a682, AV.list 0 1 a683], AV.agg [vi b684, AV.list 0 1 b685]]
 [] =
 Option.bind
 (E cx (Key.fn 126)
 [AV.agg [vi a682, AV.list 0 1 a683], AV.agg [vi b684, AV.list 0 1 b685]]
 [])
 fun r686 ↦
 Option.bind (ret1 r686) fun v687 ↦
 Option.bind (AV.bool? v687) fun b688 ↦
 bif b688 then
 Option.bind
 (E cx (Key.loop 69 [true, true, false, true, false])
 [vbool true, vi 0, AV.ptr 0 0 0 0, AV.ptr 1 0 0 0]
 [Ob.mk OK.box 33 2 0 [[vi a682, AV.list 0 1 a683]],
 Ob.mk OK.box 33 2 0 [[vi b684, AV.list 0 1 b685]]])
 fun r689 ↦
 Option.bind (asJump r689) fun j690 ↦
 bif JX.is j690.fst (JX.exit 0) then q69_0 j690 a682 a683 b684 b685 else none
 else
 Option.bind
 (E cx (Key.loop 69 [true, true, false, true, false])
 [vbool false, vi 0, AV.ptr 0 0 0 0, AV.ptr 1 0 0 0]
 [Ob.mk OK.box 33 2 0 [[vi a682, AV.list 0 1 a683]],
 Ob.mk OK.box 33 2 0 [[vi b684, AV.list 0 1 b685]]])
 fun r717 ↦
 Option.bind (asJump r717) fun j718 ↦
 bif JX.is j718.fst (JX.exit 0) then q69_0 j718 a682 a683 b684 b685 else none := by
  intros
  exact (E_in [188] _ _ _).trans (by kernel_rfl)


noncomputable def q69_l0_0 : Int → Int → List (List AV) → Int → List (List AV) → Option (Out × Heap) :=
 fun x746 x747 l748 x749 l750 ↦
 E cx (Key.loop 69 [true, true, false, true, false])
 [vbool false, vi (IntKind.wrap IntKind.i64 (Int.add x746 1)), AV.ptr 0 0 0 0, AV.ptr 1 0 0 0]
 [Ob.mk OK.box 33 2 0 [[vi x747, AV.list 0 1 l748]],
 Ob.mk OK.box 33 2 0 [[vi x749, AV.list 0 1 l750]]]


noncomputable def q69_l0_1 : Bool → Int → Int → List (List AV) → Int → List (List AV) → Option (Out × Heap) :=
 fun b745 x746 x747 l748 x749 l750 ↦
 bif b745 then
 E cx (Key.loop 69 [true, true, false, true, false])
 [AV.val (Value.tuple (Array.mk [])), vi (IntKind.wrap IntKind.i64 (Int.add x746 1)), AV.ptr 0 0 0 0,
 AV.ptr 1 0 0 0]
 [Ob.mk OK.box 33 2 0 [[vi x747, AV.list 0 1 l748]],
 Ob.mk OK.box 33 2 0 [[vi x749, AV.list 0 1 l750]]]
 else q69_l0_0 x746 x747 l748 x749 l750


noncomputable def q69_l0_2 : Bool → Int → Int → List (List AV) → Int → List (List AV) → Option (Out × Heap) :=
 fun b745 x746 x747 l748 x749 l750 ↦ bif decide (b745 = true) then none else q69_l0_1 b745 x746 x747 l748 x749 l750


theorem f69_l0 : ∀ (b745 : Bool) (x746 x747 : Int) (l748 : List (List AV)) (x749 : Int) (l750 : List (List AV)),
 E cx (Key.loop 69 [true, true, false, true, false])
 [vbool b745, vi x746, AV.ptr 0 0 0 0, AV.ptr 1 0 0 0]
 [Ob.mk OK.box 33 2 0 [[vi x747, AV.list 0 1 l748]],
 Ob.mk OK.box 33 2 0 [[vi x749, AV.list 0 1 l750]]] =
 bif decide (x746 < ((List.length l748) : Int)) then
 if 0 ≤ x746 then
 Option.bind l748[Int.toNat x746]? fun cs751 ↦
 Option.bind (uncons? cs751) fun p752 ↦
 Option.bind (AV.int? IntKind.i64 p752.fst) fun n753 ↦
 Option.bind (nil? p752.snd) fun _ ↦
 Option.bind
 (E cx (Key.fn 122)
 [AV.agg [vi x749, AV.list 0 1 l750], vi n753] [])
 fun r755 ↦
 Option.bind (ret1 r755) fun v756 ↦
 Option.bind (AV.bool? v756) fun b757 ↦
 bif b757 then
 bif decide (b745 = true) then
 bif decide (b745 = true) then
 bif b745 then q69_l0_0 x746 x747 l748 x749 l750 else q69_l0_0 x746 x747 l748 x749 l750
 else q69_l0_1 b745 x746 x747 l748 x749 l750
 else q69_l0_2 b745 x746 x747 l748 x749 l750
 else
 bif decide (b745 = true) then
 bif decide (b745 = true) then
 bif b745 then
 E cx (Key.loop 69 [true, true, false, true, false])
 [vbool true, vi (IntKind.wrap IntKind.i64 (Int.add x746 1)), AV.ptr 0 0 0 0,
 AV.ptr 1 0 0 0]
 [Ob.mk OK.box 33 2 0 [[vi x747, AV.list 0 1 l748]],
 Ob.mk OK.box 33 2 0 [[vi x749, AV.list 0 1 l750]]]
 else q69_l0_0 x746 x747 l748 x749 l750
 else q69_l0_1 b745 x746 x747 l748 x749 l750
 else q69_l0_2 b745 x746 x747 l748 x749 l750
 else none
 else
 some
 (Out.jump (JX.exit 0) [vbool b745, vi x746],
 [Ob.mk OK.box 33 2 0 [[vi x747, AV.list 0 1 l748]],
 Ob.mk OK.box 33 2 0 [[vi x749, AV.list 0 1 l750]]]) := by
  intros
  exact (E_in [188] _ _ _).trans (by kernel_rfl)


theorem f70 : ∀ (a758 : Int) (a759 : List (List AV)) (b760 : Int) (b761 : List (List AV)),
 E cx (Key.fn 70)
 [AV.agg [vi a758, AV.list 0 1 a759], AV.agg [vi b760, AV.list 0 1 b761]]
 [] =
 Option.bind
 (E cx (Key.fn 123)
 [AV.agg [vi a758, AV.list 0 1 a759], AV.agg [vi b760, AV.list 0 1 b761]]
 [])
 fun r762 ↦
 Option.bind (ret1 r762) fun v763 ↦
 Option.bind (AV.bool? v763) fun b764 ↦
 bif b764 then
 Option.bind
 (E cx (Key.fn 127)
 [AV.list 0 1 a759,
 AV.func (Fn.func 129) [] [AV.rop [vi b760, AV.list 0 1 b761]]]
 [])
 fun r765 ↦
 Option.bind (ret1 r765) fun v766 ↦
 Option.bind (AV.bool? v766) fun b767 ↦
 bif b767 then some (Out.ret (vbool false), []) else some (Out.ret (vbool true), [])
 else some (Out.ret (vbool false), []) := by
  intros
  exact (E_in [188] _ _ _).trans (by kernel_rfl)


theorem f70_c0 : ∀ (l768 : List (List AV)) (x769 : Int) (l770 : List (List AV)),
 E cx (Key.fn 127)
 [AV.list 0 1 l768, AV.func (Fn.func 129) [] [AV.rop [vi x769, AV.list 0 1 l770]]] [] =
 Option.bind
 (E cx (Key.fn 156)
 [AV.list 0 1 l768, AV.func (Fn.func 129) [] [AV.rop [vi x769, AV.list 0 1 l770]]]
 [])
 fun r771 ↦
 Option.bind (ret1 r771) fun v772 ↦
 Option.bind (AV.int? IntKind.i64 v772) fun n773 ↦
 bif decide (n773 ≥ 0) then some (Out.ret (vbool true), []) else some (Out.ret (vbool false), []) := by
  intros
  exact (E_in [188] _ _ _).trans (by kernel_rfl)


theorem f70_c0_c1 : ∀ (l774 : List (List AV)) (x775 : Int) (l776 : List (List AV)),
 E cx (Key.fn 156)
 [AV.list 0 1 l774, AV.func (Fn.func 129) [] [AV.rop [vi x775, AV.list 0 1 l776]]] [] =
 Option.bind
 (E cx (Key.loop 156 [true, false, true, false])
 [vi 0, vi 0, AV.list 0 1 l774,
 AV.func (Fn.func 129) [] [AV.rop [vi x775, AV.list 0 1 l776]],
 vi ((List.length l774) : Int)]
 [])
 fun r777 ↦
 Option.bind (asJump r777) fun j778 ↦
 bif JX.is j778.fst (JX.exit 0) then
 Option.bind (uncons? j778.snd.fst) fun p779 ↦
 Option.bind (AV.int? IntKind.i64 p779.fst) fun _ ↦
 Option.bind (uncons? p779.snd) fun p781 ↦
 Option.bind (AV.int? IntKind.i64 p781.fst) fun _ ↦
 Option.bind (nil? p781.snd) fun _ ↦
 Option.bind (nil? j778.snd.snd) fun _ ↦ some (Out.ret (vi (-1)), [])
 else
 bif JX.is j778.fst JX.ret then
 Option.bind (uncons? j778.snd.fst) fun p785 ↦
 Option.bind (AV.int? IntKind.i64 p785.fst) fun n786 ↦
 Option.bind (uncons? p785.snd) fun p787 ↦
 Option.bind (AV.int? IntKind.i64 p787.fst) fun _ ↦
 Option.bind (nil? p787.snd) fun _ ↦
 Option.bind (nil? j778.snd.snd) fun _ ↦ some (Out.ret (vi n786), [])
 else none := by
  intros
  exact (E_in [188] _ _ _).trans (by kernel_rfl)


theorem f70_c0_c1_l2 : ∀ (x791 x792 : Int) (l793 : List (List AV)) (x794 : Int) (l795 : List (List AV)) (x796 : Int),
 E cx (Key.loop 156 [true, false, true, false])
 [vi x791, vi x792, AV.list 0 1 l793,
 AV.func (Fn.func 129) [] [AV.rop [vi x794, AV.list 0 1 l795]], vi x796]
 [] =
 bif decide (x792 < x796) then
 if 0 ≤ x792 then
 Option.bind l793[Int.toNat x792]? fun cs797 ↦
 Option.bind (uncons? cs797) fun p798 ↦
 Option.bind (AV.int? IntKind.i64 p798.fst) fun n799 ↦
 Option.bind (nil? p798.snd) fun _ ↦
 Option.bind
 (E cx (Key.fn 129)
 [vi n799, AV.rop [vi x794, AV.list 0 1 l795]] [])
 fun r801 ↦
 Option.bind (ret1 r801) fun v802 ↦
 Option.bind (AV.bool? v802) fun b803 ↦
 bif b803 then some (Out.jump JX.ret [vi x792, vi x792], [])
 else
 E cx (Key.loop 156 [true, false, true, false])
 [vi x791, vi (IntKind.wrap IntKind.i64 (Int.add x792 1)), AV.list 0 1 l793,
 AV.func (Fn.func 129) [] [AV.rop [vi x794, AV.list 0 1 l795]],
 vi x796]
 []
 else none
 else some (Out.jump (JX.exit 0) [vi x791, vi x792], []) := by
  intros
  exact (E_in [188] _ _ _).trans (by kernel_rfl)


noncomputable def q71_0 : JX × List AV × Heap →
 Int → List (List AV) → Int → List (List AV) → Option (Out × Heap) :=
 fun j812 a804 a805 b806 b807 ↦
 Option.bind (uncons? j812.snd.fst) fun p813 ↦
 Option.bind (AV.bool? p813.fst) fun b814 ↦
 Option.bind (uncons? p813.snd) fun p815 ↦
 Option.bind (AV.int? IntKind.i64 p815.fst) fun _ ↦
 Option.bind (nil? p815.snd) fun _ ↦
 Option.bind (uncons? j812.snd.snd) fun p818 ↦
 Option.bind (obIs (Ob.mk OK.box 33 2 0 [[vi a804, AV.list 0 1 a805]]) p818.fst)
 fun _ ↦
 Option.bind (chk p818.fst.ver 0) fun _ ↦
 Option.bind (uncons? p818.fst.es) fun p821 ↦
 Option.bind (nil? p821.snd) fun _ ↦
 Option.bind (uncons? p821.fst) fun p823 ↦
 Option.bind (AV.int? IntKind.i64 p823.fst) fun _ ↦
 Option.bind (uncons? p823.snd) fun p825 ↦
 Option.bind (AV.list? 1 p825.fst) fun _ ↦
 Option.bind (nil? p825.snd) fun _ ↦
 Option.bind (uncons? p818.snd) fun p828 ↦
 Option.bind
 (obIs (Ob.mk OK.box 33 2 0 [[vi b806, AV.list 0 1 b807]])
 p828.fst)
 fun _ ↦
 Option.bind (chk p828.fst.ver 0) fun _ ↦
 Option.bind (uncons? p828.fst.es) fun p831 ↦
 Option.bind (nil? p831.snd) fun _ ↦
 Option.bind (uncons? p831.fst) fun p833 ↦
 Option.bind (AV.int? IntKind.i64 p833.fst) fun _ ↦
 Option.bind (uncons? p833.snd) fun p835 ↦
 Option.bind (AV.list? 1 p835.fst) fun _ ↦
 Option.bind (nil? p835.snd) fun _ ↦
 Option.bind (nil? p828.snd) fun _ ↦
 some (Out.ret (vbool b814), [])


theorem f71 : ∀ (a804 : Int) (a805 : List (List AV)) (b806 : Int) (b807 : List (List AV)),
 E cx (Key.fn 71)
 [AV.agg [vi a804, AV.list 0 1 a805], AV.agg [vi b806, AV.list 0 1 b807]]
 [] =
 Option.bind
 (E cx (Key.fn 126)
 [AV.agg [vi a804, AV.list 0 1 a805], AV.agg [vi b806, AV.list 0 1 b807]]
 [])
 fun r808 ↦
 Option.bind (ret1 r808) fun v809 ↦
 Option.bind (AV.bool? v809) fun b810 ↦
 bif b810 then
 Option.bind
 (E cx (Key.loop 71 [true, true, false, true, false])
 [vbool true, vi 0, AV.ptr 0 0 0 0, AV.ptr 1 0 0 0]
 [Ob.mk OK.box 33 2 0 [[vi a804, AV.list 0 1 a805]],
 Ob.mk OK.box 33 2 0 [[vi b806, AV.list 0 1 b807]]])
 fun r811 ↦
 Option.bind (asJump r811) fun j812 ↦
 bif JX.is j812.fst (JX.exit 0) then q71_0 j812 a804 a805 b806 b807 else none
 else
 Option.bind
 (E cx (Key.loop 71 [true, true, false, true, false])
 [vbool false, vi 0, AV.ptr 0 0 0 0, AV.ptr 1 0 0 0]
 [Ob.mk OK.box 33 2 0 [[vi a804, AV.list 0 1 a805]],
 Ob.mk OK.box 33 2 0 [[vi b806, AV.list 0 1 b807]]])
 fun r839 ↦
 Option.bind (asJump r839) fun j840 ↦
 bif JX.is j840.fst (JX.exit 0) then q71_0 j840 a804 a805 b806 b807 else none := by
  intros
  exact (E_in [188] _ _ _).trans (by kernel_rfl)


noncomputable def q71_l0_0 : Int → Int → List (List AV) → Int → List (List AV) → Option (Out × Heap) :=
 fun x868 x869 l870 x871 l872 ↦
 E cx (Key.loop 71 [true, true, false, true, false])
 [vbool false, vi (IntKind.wrap IntKind.i64 (Int.add x868 1)), AV.ptr 0 0 0 0, AV.ptr 1 0 0 0]
 [Ob.mk OK.box 33 2 0 [[vi x869, AV.list 0 1 l870]],
 Ob.mk OK.box 33 2 0 [[vi x871, AV.list 0 1 l872]]]


noncomputable def q71_l0_1 : Bool → Int → Int → List (List AV) → Int → List (List AV) → Option (Out × Heap) :=
 fun b867 x868 x869 l870 x871 l872 ↦
 bif b867 then
 E cx (Key.loop 71 [true, true, false, true, false])
 [AV.val (Value.tuple (Array.mk [])), vi (IntKind.wrap IntKind.i64 (Int.add x868 1)), AV.ptr 0 0 0 0,
 AV.ptr 1 0 0 0]
 [Ob.mk OK.box 33 2 0 [[vi x869, AV.list 0 1 l870]],
 Ob.mk OK.box 33 2 0 [[vi x871, AV.list 0 1 l872]]]
 else q71_l0_0 x868 x869 l870 x871 l872


theorem f71_l0 : ∀ (b867 : Bool) (x868 x869 : Int) (l870 : List (List AV)) (x871 : Int) (l872 : List (List AV)),
 E cx (Key.loop 71 [true, true, false, true, false])
 [vbool b867, vi x868, AV.ptr 0 0 0 0, AV.ptr 1 0 0 0]
 [Ob.mk OK.box 33 2 0 [[vi x869, AV.list 0 1 l870]],
 Ob.mk OK.box 33 2 0 [[vi x871, AV.list 0 1 l872]]] =
 bif decide (x868 < ((List.length l870) : Int)) then
 if 0 ≤ x868 then
 Option.bind l870[Int.toNat x868]? fun cs873 ↦
 Option.bind (uncons? cs873) fun p874 ↦
 Option.bind (AV.int? IntKind.i64 p874.fst) fun n875 ↦
 Option.bind (nil? p874.snd) fun _ ↦
 Option.bind
 (E cx (Key.fn 122)
 [AV.agg [vi x871, AV.list 0 1 l872], vi n875] [])
 fun r877 ↦
 Option.bind (ret1 r877) fun v878 ↦
 Option.bind (AV.bool? v878) fun b879 ↦
 bif b879 then
 bif decide (b867 = true) then
 bif b867 then
 E cx (Key.loop 71 [true, true, false, true, false])
 [vbool true, vi (IntKind.wrap IntKind.i64 (Int.add x868 1)), AV.ptr 0 0 0 0,
 AV.ptr 1 0 0 0]
 [Ob.mk OK.box 33 2 0 [[vi x869, AV.list 0 1 l870]],
 Ob.mk OK.box 33 2 0 [[vi x871, AV.list 0 1 l872]]]
 else q71_l0_0 x868 x869 l870 x871 l872
 else q71_l0_1 b867 x868 x869 l870 x871 l872
 else
 bif decide (b867 = true) then
 bif b867 then q71_l0_0 x868 x869 l870 x871 l872 else q71_l0_0 x868 x869 l870 x871 l872
 else q71_l0_1 b867 x868 x869 l870 x871 l872
 else none
 else
 some
 (Out.jump (JX.exit 0) [vbool b867, vi x868],
 [Ob.mk OK.box 33 2 0 [[vi x869, AV.list 0 1 l870]],
 Ob.mk OK.box 33 2 0 [[vi x871, AV.list 0 1 l872]]]) := by
  intros
  exact (E_in [188] _ _ _).trans (by kernel_rfl)


theorem f72 : ∀ (s880 : ByteArray) (at881 c882 : Int),
 E cx (Key.fn 72) [vs s880, vi at881, vb c882] [] =
 bif decide (((ByteArray.size s880) : Int) = 0) then some (Out.ret (vs s880), [])
 else
 Option.bind (E cx (Key.fn 64) [vi at881, vi ((ByteArray.size s880) : Int)] []) fun r883 ↦
 Option.bind (ret1 r883) fun v884 ↦
 Option.bind (AV.int? IntKind.i64 v884) fun n885 ↦
 if 0 ≤ n885 then
 if n885 ≤ ((ByteArray.size s880) : Int) then
 if ((Nat.add (ByteArray.size (ByteArray.extract s880 0 (Int.toNat n885))) (ByteArray.size (Go.strOfNums [c882]))) : Int) > 9223372036854775807 then
 none
 else
 if 0 ≤ IntKind.wrap IntKind.i64 (Int.add n885 1) then
 if IntKind.wrap IntKind.i64 (Int.add n885 1) ≤ ((ByteArray.size s880) : Int) then
 if
 ((Nat.add (ByteArray.size (ByteArray.append (ByteArray.extract s880 0 (Int.toNat n885)) (Go.strOfNums [c882])))
 (ByteArray.size (ByteArray.extract s880 (Int.toNat (IntKind.wrap IntKind.i64 (Int.add n885 1))) (ByteArray.size s880)))) : Int) >
 9223372036854775807 then
 none
 else
 some
 (Out.ret
 (vs
 (ByteArray.append (ByteArray.append (ByteArray.extract s880 0 (Int.toNat n885)) (Go.strOfNums [c882]))
 (ByteArray.extract s880 (Int.toNat (IntKind.wrap IntKind.i64 (Int.add n885 1))) (ByteArray.size s880)))),
 [])
 else none
 else none
 else none
 else none := by
  intros
  exact (E_in [188] _ _ _).trans (by kernel_rfl)


noncomputable def q73_0 : Option (Out × Heap) :=
 some
 (Out.ret (AV.tuple [AV.agg [vi 0, AV.val (Value.slice none 0 0)], vi 2]), [])


noncomputable def q73_1 : Option (Out × Heap) :=
 some
 (Out.ret (AV.tuple [AV.agg [vi 0, AV.val (Value.slice none 0 0)], vi 4]), [])


theorem f73 : ∀ (s886 : ByteArray) (most887 : Int),
 E cx (Key.fn 73) [vs s886, vi most887] [] =
 bif decide (IntKind.wrap IntKind.i64 (Int.sub (((ByteArray.size s886) : Int)) 1) < 0) then q73_0
 else
 if 0 ≤ IntKind.wrap IntKind.i64 (Int.sub (((ByteArray.size s886) : Int)) 1) then
 Option.bind s886[Int.toNat (IntKind.wrap IntKind.i64 (Int.sub (((ByteArray.size s886) : Int)) 1))]? fun b888 ↦
 bif decide (((UInt8.toNat b888) : Int) = 0) then q73_0
 else
 if 0 ≤ IntKind.wrap IntKind.i64 (Int.sub (((ByteArray.size s886) : Int)) 1) then
 Option.bind s886[Int.toNat (IntKind.wrap IntKind.i64 (Int.sub (((ByteArray.size s886) : Int)) 1))]? fun b889 ↦
 Option.bind (E cx (Key.fn 130) [vb ((UInt8.toNat b889) : Int)] []) fun r890 ↦
 Option.bind (ret1 r890) fun v891 ↦
 Option.bind (AV.int? IntKind.i64 v891) fun n892 ↦
 bif
 decide
 (IntKind.wrap IntKind.i64
 (Int.sub
 (IntKind.wrap IntKind.i64
 (Int.add (IntKind.wrap IntKind.i64 (Int.mul (IntKind.wrap IntKind.i64 (Int.sub (((ByteArray.size s886) : Int)) 1)) 8))
 n892))
 1) >
 most887) then
 q73_1
 else
 bif
 decide
 (IntKind.wrap IntKind.i64
 (Int.sub
 (IntKind.wrap IntKind.i64
 (Int.add
 (IntKind.wrap IntKind.i64 (Int.mul (IntKind.wrap IntKind.i64 (Int.sub (((ByteArray.size s886) : Int)) 1)) 8))
 n892))
 1) >
 2048) then
 q73_1
 else
 Option.bind
 (E cx (Key.fn 131)
 [vs s886,
 vi
 (IntKind.wrap IntKind.i64
 (Int.sub
 (IntKind.wrap IntKind.i64
 (Int.add
 (IntKind.wrap IntKind.i64 (Int.mul (IntKind.wrap IntKind.i64 (Int.sub (((ByteArray.size s886) : Int)) 1)) 8))
 n892))
 1))]
 [])
 fun r893 ↦
 Option.bind (ret1 r893) fun v894 ↦
 Option.bind (AV.cells? v894) fun cs895 ↦
 Option.bind (uncons? cs895) fun p896 ↦
 Option.bind (AV.int? IntKind.i64 p896.fst) fun n897 ↦
 Option.bind (uncons? p896.snd) fun p898 ↦
 Option.bind (AV.list? 1 p898.fst) fun es899 ↦
 Option.bind (nil? p898.snd) fun _ ↦
 some
 (Out.ret
 (AV.tuple
 [AV.agg [vi n897, AV.list 0 1 es899], vi 0]),
 [])
 else none
 else none := by
  intros
  exact (E_in [188] _ _ _).trans (by kernel_rfl)


noncomputable def q74_0 : Option (Out × Heap) :=
 some
 (Out.ret (AV.tuple [AV.agg [vi 0, AV.val (Value.slice none 0 0)], vi 2]), [])


noncomputable def q74_1 : Option (Out × Heap) :=
 some
 (Out.ret (AV.tuple [AV.agg [vi 0, AV.val (Value.slice none 0 0)], vi 4]), [])


theorem f74 : ∀ (s901 : ByteArray) (most902 : Int),
 E cx (Key.fn 74) [vs s901, vi most902] [] =
 bif decide (((ByteArray.size s901) : Int) = 0) then q74_0
 else
 if 0 ≤ IntKind.wrap IntKind.i64 (Int.sub (((ByteArray.size s901) : Int)) 1) then
 Option.bind s901[Int.toNat (IntKind.wrap IntKind.i64 (Int.sub (((ByteArray.size s901) : Int)) 1))]? fun b903 ↦
 bif decide (((UInt8.toNat b903) : Int) = 0) then q74_0
 else
 Option.bind
 (E cx (Key.loop 74 [true, true, true, false, false])
 [vi (IntKind.wrap IntKind.i64 (Int.sub (IntKind.wrap IntKind.i64 (Int.mul 8 ((ByteArray.size s901) : Int))) 1)),
 vs s901, vi most902, AV.ptr 0 0 0 0]
 [Ob.mk OK.box 33 2 0 [[vi 0, AV.val (Value.slice none 0 0)]]])
 fun r904 ↦
 Option.bind (asJump r904) fun j905 ↦
 bif JX.is j905.fst (JX.exit 0) then
 Option.bind (uncons? j905.snd.fst) fun p906 ↦
 Option.bind (AV.int? IntKind.i64 p906.fst) fun n907 ↦
 Option.bind (nil? p906.snd) fun _ ↦
 Option.bind (uncons? j905.snd.snd) fun p909 ↦
 Option.bind
 (obIs
 (Ob.mk OK.box 33 2 0 [[vi 0, AV.val (Value.slice none 0 0)]]) p909.fst)
 fun _ ↦
 Option.bind (chk p909.fst.ver 0) fun _ ↦
 Option.bind (uncons? p909.fst.es) fun p912 ↦
 Option.bind (nil? p912.snd) fun _ ↦
 Option.bind (uncons? p912.fst) fun p914 ↦
 Option.bind (AV.int? IntKind.i64 p914.fst) fun _ ↦
 Option.bind (uncons? p914.snd) fun p916 ↦
 Option.bind (AV.nilS? p916.fst) fun _ ↦
 Option.bind (nil? p916.snd) fun _ ↦
 Option.bind (nil? p909.snd) fun _ ↦
 bif decide (n907 > most902) then q74_1
 else
 bif decide (n907 > 2048) then q74_1
 else
 Option.bind
 (E cx (Key.fn 132) [vs s901, vi n907] [])
 fun r920 ↦
 Option.bind (ret1 r920) fun v921 ↦
 Option.bind (AV.cells? v921) fun cs922 ↦
 Option.bind (uncons? cs922) fun p923 ↦
 Option.bind (AV.int? IntKind.i64 p923.fst) fun n924 ↦
 Option.bind (uncons? p923.snd) fun p925 ↦
 Option.bind (AV.list? 1 p925.fst) fun es926 ↦
 Option.bind (nil? p925.snd) fun _ ↦
 some
 (Out.ret
 (AV.tuple
 [AV.agg [vi n924, AV.list 0 1 es926],
 vi 0]),
 [])
 else none
 else none := by
  intros
  exact (E_in [188] _ _ _).trans (by kernel_rfl)


theorem f74_l0 : ∀ (x928 : Int) (s929 : ByteArray) (x930 x931 : Int),
 E cx (Key.loop 74 [true, true, true, false, false])
 [vi x928, vs s929, vi x930, AV.ptr 0 0 0 0]
 [Ob.mk OK.box 33 2 0 [[vi x931, AV.val (Value.slice none 0 0)]]] =
 if 0 ≤ IntKind.wrap IntKind.i64 (Int.tdiv x928 8) then
 Option.bind s929[Int.toNat (IntKind.wrap IntKind.i64 (Int.tdiv x928 8))]? fun b932 ↦
 if Int.tmod x928 8 < 0 then none
 else
 bif decide (Int.tmod (ishr IntKind.u8 (((UInt8.toNat b932) : Int)) (Int.tmod x928 8)) 2 = 0) then
 E cx (Key.loop 74 [true, true, true, false, false])
 [vi (IntKind.wrap IntKind.i64 (Int.sub x928 1)), vs s929, vi x930, AV.ptr 0 0 0 0]
 [Ob.mk OK.box 33 2 0 [[vi x931, AV.val (Value.slice none 0 0)]]]
 else
 some
 (Out.jump (JX.exit 0) [vi x928],
 [Ob.mk OK.box 33 2 0 [[vi x931, AV.val (Value.slice none 0 0)]]])
 else none := by
  intros
  exact (E_in [188] _ _ _).trans (by kernel_rfl)


noncomputable def q75_0 : Option (Out × Heap) :=
 some
 (Out.ret (AV.tuple [AV.agg [vi 0, AV.val (Value.slice none 0 0)], vi 1]), [])


noncomputable def q75_1 : Option (Out × Heap) :=
 some
 (Out.ret (AV.tuple [AV.agg [vi 0, AV.val (Value.slice none 0 0)], vi 2]), [])


noncomputable def q75_2 : ByteArray → Int → Option (Out × Heap) :=
 fun s933 n934 ↦
 Option.bind (E cx (Key.fn 131) [vs s933, vi n934] []) fun r936 ↦
 Option.bind (ret1 r936) fun v937 ↦
 Option.bind (AV.cells? v937) fun cs938 ↦
 Option.bind (uncons? cs938) fun p939 ↦
 Option.bind (AV.int? IntKind.i64 p939.fst) fun n940 ↦
 Option.bind (uncons? p939.snd) fun p941 ↦
 Option.bind (AV.list? 1 p941.fst) fun es942 ↦
 Option.bind (nil? p941.snd) fun _ ↦
 some
 (Out.ret
 (AV.tuple [AV.agg [vi n940, AV.list 0 1 es942], vi 0]),
 [])


theorem f75 : ∀ (s933 : ByteArray) (n934 : Int),
 E cx (Key.fn 75) [vs s933, vi n934] [] =
 bif decide (n934 < 0) then q75_0
 else
 bif decide (n934 > 2048) then q75_0
 else
 bif
 ((ByteArray.size s933) : Int) !=
 IntKind.wrap IntKind.i64 (Int.tdiv (IntKind.wrap IntKind.i64 (Int.sub (IntKind.wrap IntKind.i64 (Int.add n934 8)) 1)) 8) then
 q75_1
 else
 bif decide (Int.tmod n934 8 > 0) then
 if 0 ≤ IntKind.wrap IntKind.i64 (Int.sub (((ByteArray.size s933) : Int)) 1) then
 Option.bind s933[Int.toNat (IntKind.wrap IntKind.i64 (Int.sub (((ByteArray.size s933) : Int)) 1))]? fun b935 ↦
 if Int.tmod n934 8 < 0 then none
 else bif ishr IntKind.u8 (((UInt8.toNat b935) : Int)) (Int.tmod n934 8) != 0 then q75_1 else q75_2 s933 n934
 else none
 else q75_2 s933 n934 := by
  intros
  exact (E_in [188] _ _ _).trans (by kernel_rfl)


noncomputable def q76_0 : Option (Out × Heap) :=
 some
 (Out.ret (AV.tuple [AV.agg [vi 0, AV.val (Value.slice none 0 0)], vi 1]), [])


noncomputable def q76_1 : Option (Out × Heap) :=
 some
 (Out.ret (AV.tuple [AV.agg [vi 0, AV.val (Value.slice none 0 0)], vi 2]), [])


theorem f76 : ∀ (s952 : ByteArray) (n953 : Int),
 E cx (Key.fn 76) [vs s952, vi n953] [] =
 bif decide (n953 < 0) then q76_0
 else
 bif decide (n953 > 2048) then q76_0
 else
 bif ((ByteArray.size s952) : Int) != IntKind.wrap IntKind.i64 (Int.tdiv (IntKind.wrap IntKind.i64 (Int.add n953 7)) 8) then q76_1
 else
 Option.bind (E cx (Key.fn 132) [vs s952, vi n953] []) fun r954 ↦
 Option.bind (ret1 r954) fun v955 ↦
 Option.bind (AV.cells? v955) fun cs956 ↦
 Option.bind (uncons? cs956) fun p957 ↦
 Option.bind (AV.int? IntKind.i64 p957.fst) fun n958 ↦
 Option.bind (uncons? p957.snd) fun p959 ↦
 Option.bind (AV.list? 1 p959.fst) fun es960 ↦
 Option.bind (nil? p959.snd) fun _ ↦
 Option.bind
 (E cx (Key.fn 59)
 [AV.agg [vi n958, AV.list 0 1 es960]] [])
 fun r962 ↦
 Option.bind (ret1 r962) fun v963 ↦
 Option.bind (AV.tup? v963) fun vs964 ↦
 Option.bind (uncons? vs964) fun p965 ↦
 Option.bind (AV.str? p965.fst) fun s966 ↦
 Option.bind (uncons? p965.snd) fun p967 ↦
 Option.bind (AV.int? IntKind.i64 p967.fst) fun _ ↦
 Option.bind (nil? p967.snd) fun _ ↦
 bif !List.beq (ByteArray.toList s966) (ByteArray.toList s952) then q76_1
 else
 some
 (Out.ret
 (AV.tuple
 [AV.agg [vi n958, AV.list 0 1 es960], vi 0]),
 []) := by
  intros
  exact (E_in [188] _ _ _).trans (by kernel_rfl)


theorem f77 : ∀ (s970 : ByteArray),
 E cx (Key.fn 77) [vs s970] [] =
 Option.bind
 (E cx (Key.loop 77 [true, true, false, true, false]) [vi 0, vi 0, vs s970]
 [])
 fun r971 ↦
 Option.bind (asJump r971) fun j972 ↦
 bif JX.is j972.fst (JX.exit 0) then
 Option.bind (uncons? j972.snd.fst) fun p973 ↦
 Option.bind (AV.int? IntKind.i64 p973.fst) fun n974 ↦
 Option.bind (uncons? p973.snd) fun p975 ↦
 Option.bind (AV.int? IntKind.i64 p975.fst) fun _ ↦
 Option.bind (nil? p975.snd) fun _ ↦
 Option.bind (nil? j972.snd.snd) fun _ ↦ some (Out.ret (vi n974), [])
 else none := by
  intros
  exact (E_in [188] _ _ _).trans (by kernel_rfl)


theorem f77_l0 : ∀ (x979 x980 : Int) (s981 : ByteArray),
 E cx (Key.loop 77 [true, true, false, true, false]) [vi x979, vi x980, vs s981]
 [] =
 bif decide (x980 < ((ByteArray.size s981) : Int)) then
 Option.bind
 (E cx (Key.loop 77 [true, true, false, true, false, false, true, false, false, true, false])
 [vi x979, vi 0, vs s981, vi x980] [])
 fun r982 ↦
 Option.bind (asJump r982) fun j983 ↦
 bif JX.is j983.fst (JX.exit 2) then
 Option.bind (uncons? j983.snd.fst) fun p984 ↦
 Option.bind (AV.int? IntKind.i64 p984.fst) fun n985 ↦
 Option.bind (uncons? p984.snd) fun p986 ↦
 Option.bind (AV.int? IntKind.i64 p986.fst) fun _ ↦
 Option.bind (nil? p986.snd) fun _ ↦
 Option.bind (nil? j983.snd.snd) fun _ ↦
 E cx (Key.loop 77 [true, true, false, true, false])
 [vi n985, vi (IntKind.wrap IntKind.i64 (Int.add x980 1)), vs s981] []
 else none
 else some (Out.jump (JX.exit 0) [vi x979, vi x980], []) := by
  intros
  exact (E_in [188] _ _ _).trans (by kernel_rfl)


theorem f77_l0_l1 : ∀ (x990 x991 : Int) (s992 : ByteArray) (x993 : Int),
 E cx (Key.loop 77 [true, true, false, true, false, false, true, false, false, true, false])
 [vi x990, vi x991, vs s992, vi x993] [] =
 bif decide (x991 < 8) then
 if 0 ≤ x993 then
 Option.bind s992[Int.toNat x993]? fun b994 ↦
 if x991 < 0 then none
 else
 E cx (Key.loop 77 [true, true, false, true, false, false, true, false, false, true, false])
 [vi
 (IntKind.wrap IntKind.i64
 (Int.add x990 (IntKind.wrap IntKind.i64 (Int.tmod (ishr IntKind.u8 (((UInt8.toNat b994) : Int)) x991) 2)))),
 vi (IntKind.wrap IntKind.i64 (Int.add x991 1)), vs s992, vi x993]
 []
 else none
 else some (Out.jump (JX.exit 2) [vi x990, vi x991], []) := by
  intros
  exact (E_in [188] _ _ _).trans (by kernel_rfl)


theorem f118 : ∀ (n995 : Int) (on996 : List (List AV)),
 E cx (Key.fn 118) [vi n995, AV.list 0 1 on996] [] =
 if 0 ≤ n995 then
 if n995 ≤ n995 then
 if Int.mul 1 n995 ≤ 281474976710656 then
 Option.bind
 (E cx (Key.loop 118 [true, true, false, true, false])
 [vi 0, AV.arr 0 1 0 (Int.toNat n995), AV.list 0 1 on996, vi ((List.length on996) : Int)]
 [Ob.mk OK.arr 5 1 1 (List.replicate (Int.toNat n995) [vb 0])])
 fun r997 ↦
 Option.bind (asJump r997) fun j998 ↦
 bif JX.is j998.fst (JX.exit 0) then
 Option.bind (uncons? j998.snd.fst) fun p999 ↦
 Option.bind (AV.int? IntKind.i64 p999.fst) fun _ ↦
 Option.bind (nil? p999.snd) fun _ ↦
 Option.bind (uncons? j998.snd.snd) fun p1002 ↦
 Option.bind
 (obIs (Ob.mk OK.arr 5 1 1 (List.replicate (Int.toNat n995) [vb 0])) p1002.fst)
 fun _ ↦
 Option.bind (chk p1002.fst.ver 1) fun _ ↦
 Option.bind (nil? p1002.snd) fun _ ↦
 Option.bind (chkLe (Nat.add 0 (Int.toNat n995)) (List.length p1002.fst.es)) fun _ ↦
 some (Out.ret (AV.list 0 1 (List.drop 0 (List.take (Nat.add 0 (Int.toNat n995)) p1002.fst.es))), [])
 else none
 else none
 else none
 else none := by
  intros
  exact (E_in [188] _ _ _).trans (by kernel_rfl)


theorem f118_l0 : ∀ (x1007 : Int) (n1008 : Nat) (l1009 : List (List AV)) (x1010 : Int) (l1011 : List (List AV)),
 E cx (Key.loop 118 [true, true, false, true, false])
 [vi x1007, AV.arr 0 1 0 n1008, AV.list 0 1 l1009, vi x1010]
 [Ob.mk OK.arr 5 1 1 l1011] =
 bif decide (x1007 < x1010) then
 if 0 ≤ x1007 then
 Option.bind l1009[Int.toNat x1007]? fun cs1012 ↦
 Option.bind (uncons? cs1012) fun p1013 ↦
 Option.bind (AV.int? IntKind.i64 p1013.fst) fun n1014 ↦
 Option.bind (nil? p1013.snd) fun _ ↦
 if 0 ≤ IntKind.wrap IntKind.i64 (Int.tdiv n1014 8) then
 if IntKind.wrap IntKind.i64 (Int.tdiv n1014 8) < (n1008 : Int) then
 Option.bind (nth l1011 (Nat.add 0 (Int.toNat (IntKind.wrap IntKind.i64 (Int.tdiv n1014 8))))) fun cs1016 ↦
 Option.bind (uncons? cs1016) fun p1017 ↦
 Option.bind (AV.int? IntKind.u8 p1017.fst) fun n1018 ↦
 Option.bind (nil? p1017.snd) fun _ ↦
 if Int.tmod n1014 8 < 0 then none
 else
 if 0 ≤ IntKind.wrap IntKind.i64 (Int.tdiv n1014 8) then
 if IntKind.wrap IntKind.i64 (Int.tdiv n1014 8) < (n1008 : Int) then
 Option.bind (nth l1011 (Nat.add 0 (Int.toNat (IntKind.wrap IntKind.i64 (Int.tdiv n1014 8))))) fun cs1020 ↦
 Option.bind (uncons? cs1020) fun p1021 ↦
 Option.bind (AV.int? IntKind.u8 p1021.fst) fun _ ↦
 Option.bind (nil? p1021.snd) fun _ ↦
 E cx (Key.loop 118 [true, true, false, true, false])
 [vi (IntKind.wrap IntKind.i64 (Int.add x1007 1)), AV.arr 0 1 0 n1008,
 AV.list 0 1 l1009, vi x1010]
 [Ob.mk OK.arr 5 1 1
 (List.set l1011 (Nat.add 0 (Int.toNat (IntKind.wrap IntKind.i64 (Int.tdiv n1014 8))))
 [vb
 (ior IntKind.u8 n1018 (ishl IntKind.u8 1 (Int.tmod n1014 8)))])]
 else none
 else none
 else none
 else none
 else none
 else some (Out.jump (JX.exit 0) [vi x1007], [Ob.mk OK.arr 5 1 1 l1011]) := by
  intros
  exact (E_in [188] _ _ _).trans (by kernel_rfl)


theorem f120 : ∀ (b1024 : Int) (b1025 : List (List AV)) (n1026 more1027 : Int),
 E cx (Key.fn 120)
 [AV.agg [vi b1024, AV.list 0 1 b1025], vi n1026, vi more1027] [] =
 if 0 ≤ n1026 then
 if n1026 ≤ n1026 then
 if Int.mul 1 n1026 ≤ 281474976710656 then
 Option.bind
 (E cx (Key.loop 120 [true, true, false, true, false])
 [vi 0, vi n1026, vi more1027, AV.ptr 0 0 0 0, AV.arr 1 1 0 (Int.toNat n1026)]
 [Ob.mk OK.box 33 2 0 [[vi b1024, AV.list 0 1 b1025]],
 Ob.mk OK.arr 5 1 1 (List.replicate (Int.toNat n1026) [vb 0])])
 fun r1028 ↦
 Option.bind (asJump r1028) fun j1029 ↦
 bif JX.is j1029.fst (JX.exit 0) then
 Option.bind (uncons? j1029.snd.fst) fun p1030 ↦
 Option.bind (AV.int? IntKind.i64 p1030.fst) fun _ ↦
 Option.bind (nil? p1030.snd) fun _ ↦
 Option.bind (uncons? j1029.snd.snd) fun p1033 ↦
 Option.bind
 (obIs (Ob.mk OK.box 33 2 0 [[vi b1024, AV.list 0 1 b1025]])
 p1033.fst)
 fun _ ↦
 Option.bind (chk p1033.fst.ver 0) fun _ ↦
 Option.bind (uncons? p1033.fst.es) fun p1036 ↦
 Option.bind (nil? p1036.snd) fun _ ↦
 Option.bind (uncons? p1036.fst) fun p1038 ↦
 Option.bind (AV.int? IntKind.i64 p1038.fst) fun n1039 ↦
 Option.bind (uncons? p1038.snd) fun p1040 ↦
 Option.bind (AV.list? 1 p1040.fst) fun es1041 ↦
 Option.bind (nil? p1040.snd) fun _ ↦
 Option.bind (uncons? p1033.snd) fun p1043 ↦
 Option.bind
 (obIs
 (Ob.mk OK.arr 5 1 1 (List.replicate (Int.toNat n1026) [vb 0])) p1043.fst)
 fun _ ↦
 Option.bind (chk p1043.fst.ver 1) fun _ ↦
 Option.bind (nil? p1043.snd) fun _ ↦
 Option.bind
 (yRows
 [Ob.mk OK.box 33 2 0 [[vi n1039, AV.list 0 1 es1041]],
 Ob.mk OK.arr 5 1 1 p1043.fst.es]
 1 (AV.arr 1 1 0 (Int.toNat n1026)))
 fun ys1047 ↦
 Option.bind (numsOf ys1047) fun ns1048 ↦
 some (Out.ret (vs (Go.strOfNums ns1048)), [])
 else none
 else none
 else none
 else none := by
  intros
  exact (E_in [188] _ _ _).trans (by kernel_rfl)


noncomputable def q120_l0_0 : Int → Nat → List (List AV) → Int → Int → Int → List (List AV) → Option (Out × Heap) :=
 fun x1049 n1052 l1055 x1050 x1051 x1053 l1054 ↦
 if 0 ≤ IntKind.wrap IntKind.i64 (Int.tdiv x1049 8) then
 if IntKind.wrap IntKind.i64 (Int.tdiv x1049 8) < (n1052 : Int) then
 Option.bind (nth l1055 (Nat.add 0 (Int.toNat (IntKind.wrap IntKind.i64 (Int.tdiv x1049 8))))) fun cs1056 ↦
 Option.bind (uncons? cs1056) fun p1057 ↦
 Option.bind (AV.int? IntKind.u8 p1057.fst) fun n1058 ↦
 Option.bind (nil? p1057.snd) fun _ ↦
 if Int.tmod x1049 8 < 0 then none
 else
 if 0 ≤ IntKind.wrap IntKind.i64 (Int.tdiv x1049 8) then
 if IntKind.wrap IntKind.i64 (Int.tdiv x1049 8) < (n1052 : Int) then
 Option.bind (nth l1055 (Nat.add 0 (Int.toNat (IntKind.wrap IntKind.i64 (Int.tdiv x1049 8))))) fun cs1060 ↦
 Option.bind (uncons? cs1060) fun p1061 ↦
 Option.bind (AV.int? IntKind.u8 p1061.fst) fun _ ↦
 Option.bind (nil? p1061.snd) fun _ ↦
 E cx (Key.loop 120 [true, true, false, true, false])
 [vi (IntKind.wrap IntKind.i64 (Int.add x1049 1)), vi x1050, vi x1051,
 AV.ptr 0 0 0 0, AV.arr 1 1 0 n1052]
 [Ob.mk OK.box 33 2 0 [[vi x1053, AV.list 0 1 l1054]],
 Ob.mk OK.arr 5 1 1
 (List.set l1055 (Nat.add 0 (Int.toNat (IntKind.wrap IntKind.i64 (Int.tdiv x1049 8))))
 [vb (IntKind.wrap IntKind.u8 (Int.add n1058 (ishl IntKind.u8 1 (Int.tmod x1049 8))))])]
 else none
 else none
 else none
 else none


theorem f120_l0 : ∀ (x1049 x1050 x1051 : Int) (n1052 : Nat) (x1053 : Int) (l1054 l1055 : List (List AV)),
 E cx (Key.loop 120 [true, true, false, true, false])
 [vi x1049, vi x1050, vi x1051, AV.ptr 0 0 0 0, AV.arr 1 1 0 n1052]
 [Ob.mk OK.box 33 2 0 [[vi x1053, AV.list 0 1 l1054]],
 Ob.mk OK.arr 5 1 1 l1055] =
 bif decide (x1049 < IntKind.wrap IntKind.i64 (Int.mul 8 x1050)) then
 bif decide (x1049 = x1051) then q120_l0_0 x1049 n1052 l1055 x1050 x1051 x1053 l1054
 else
 Option.bind
 (E cx (Key.fn 122)
 [AV.agg [vi x1053, AV.list 0 1 l1054], vi x1049] [])
 fun r1064 ↦
 Option.bind (ret1 r1064) fun v1065 ↦
 Option.bind (AV.bool? v1065) fun b1066 ↦
 bif b1066 then q120_l0_0 x1049 n1052 l1055 x1050 x1051 x1053 l1054
 else
 E cx (Key.loop 120 [true, true, false, true, false])
 [vi (IntKind.wrap IntKind.i64 (Int.add x1049 1)), vi x1050, vi x1051,
 AV.ptr 0 0 0 0, AV.arr 1 1 0 n1052]
 [Ob.mk OK.box 33 2 0 [[vi x1053, AV.list 0 1 l1054]],
 Ob.mk OK.arr 5 1 1 l1055]
 else
 some
 (Out.jump (JX.exit 0) [vi x1049],
 [Ob.mk OK.box 33 2 0 [[vi x1053, AV.list 0 1 l1054]],
 Ob.mk OK.arr 5 1 1 l1055]) := by
  intros
  exact (E_in [188] _ _ _).trans (by kernel_rfl)


theorem f121 : ∀ (x1075 : List (List AV)) (target1076 : Int),
 E cx (Key.fn 121) [AV.list 0 1 x1075, vi target1076] [] =
 Option.bind
 (E cx (Key.loop 121 [true, true, true, false, false])
 [vi 0, vi ((List.length x1075) : Int), AV.list 0 1 x1075, vi target1076,
 vi ((List.length x1075) : Int)]
 [])
 fun r1077 ↦
 Option.bind (asJump r1077) fun j1078 ↦
 bif JX.is j1078.fst (JX.exit 0) then
 Option.bind (uncons? j1078.snd.fst) fun p1079 ↦
 Option.bind (AV.int? IntKind.i64 p1079.fst) fun n1080 ↦
 Option.bind (uncons? p1079.snd) fun p1081 ↦
 Option.bind (AV.int? IntKind.i64 p1081.fst) fun _ ↦
 Option.bind (nil? p1081.snd) fun _ ↦
 Option.bind (nil? j1078.snd.snd) fun _ ↦
 bif decide (n1080 < ((List.length x1075) : Int)) then
 if 0 ≤ n1080 then
 Option.bind x1075[Int.toNat n1080]? fun cs1085 ↦
 Option.bind (uncons? cs1085) fun p1086 ↦
 Option.bind (AV.int? IntKind.i64 p1086.fst) fun n1087 ↦
 Option.bind (nil? p1086.snd) fun _ ↦
 bif decide (n1087 = target1076) then
 some (Out.ret (AV.tuple [vi n1080, vbool true]), [])
 else
 if 0 ≤ n1080 then
 Option.bind x1075[Int.toNat n1080]? fun cs1089 ↦
 Option.bind (uncons? cs1089) fun p1090 ↦
 Option.bind (AV.int? IntKind.i64 p1090.fst) fun n1091 ↦
 Option.bind (nil? p1090.snd) fun _ ↦
 Option.bind (E cx (Key.fn 154) [vi n1091] []) fun r1093 ↦
 Option.bind (ret1 r1093) fun v1094 ↦
 Option.bind (AV.bool? v1094) fun b1095 ↦
 bif b1095 then
 Option.bind (E cx (Key.fn 154) [vi target1076] [])
 fun r1096 ↦
 Option.bind (ret1 r1096) fun v1097 ↦
 Option.bind (AV.bool? v1097) fun b1098 ↦
 bif b1098 then
 some
 (Out.ret (AV.tuple [vi n1080, vbool true]),
 [])
 else
 some
 (Out.ret (AV.tuple [vi n1080, vbool false]),
 [])
 else
 some (Out.ret (AV.tuple [vi n1080, vbool false]), [])
 else none
 else none
 else some (Out.ret (AV.tuple [vi n1080, vbool false]), [])
 else none := by
  intros
  exact (E_in [188] _ _ _).trans (by kernel_rfl)


theorem f121_l0 : ∀ (x1099 x1100 : Int) (l1101 : List (List AV)) (x1102 x1103 : Int),
 E cx (Key.loop 121 [true, true, true, false, false])
 [vi x1099, vi x1100, AV.list 0 1 l1101, vi x1102, vi x1103] [] =
 bif decide (x1099 < x1100) then
 if
 0 ≤
 IntKind.wrap IntKind.i64
 (ishr IntKind.u64 (IntKind.wrap IntKind.u64 (IntKind.wrap IntKind.i64 (Int.add x1099 x1100))) 1) then
 Option.bind
 l1101[Int.toNat
 (IntKind.wrap IntKind.i64
 (ishr IntKind.u64 (IntKind.wrap IntKind.u64 (IntKind.wrap IntKind.i64 (Int.add x1099 x1100))) 1))]?
 fun cs1104 ↦
 Option.bind (uncons? cs1104) fun p1105 ↦
 Option.bind (AV.int? IntKind.i64 p1105.fst) fun n1106 ↦
 Option.bind (nil? p1105.snd) fun _ ↦
 Option.bind (E cx (Key.fn 153) [vi n1106, vi x1102] []) fun r1108 ↦
 Option.bind (ret1 r1108) fun v1109 ↦
 Option.bind (AV.bool? v1109) fun b1110 ↦
 bif b1110 then
 E cx (Key.loop 121 [true, true, true, false, false])
 [vi
 (IntKind.wrap IntKind.i64
 (Int.add
 (IntKind.wrap IntKind.i64
 (ishr IntKind.u64 (IntKind.wrap IntKind.u64 (IntKind.wrap IntKind.i64 (Int.add x1099 x1100)))
 1))
 1)),
 vi x1100, AV.list 0 1 l1101, vi x1102, vi x1103]
 []
 else
 E cx (Key.loop 121 [true, true, true, false, false])
 [vi x1099,
 vi
 (IntKind.wrap IntKind.i64
 (ishr IntKind.u64 (IntKind.wrap IntKind.u64 (IntKind.wrap IntKind.i64 (Int.add x1099 x1100))) 1)),
 AV.list 0 1 l1101, vi x1102, vi x1103]
 []
 else none
 else some (Out.jump (JX.exit 0) [vi x1099, vi x1100], []) := by
  intros
  exact (E_in [188] _ _ _).trans (by kernel_rfl)


theorem f122 : ∀ (b1111 : Int) (b1112 : List (List AV)) (i1113 : Int),
 E cx (Key.fn 122) [AV.agg [vi b1111, AV.list 0 1 b1112], vi i1113]
 [] =
 Option.bind
 (E cx (Key.loop 122 [true, false, true, false])
 [vbool false, vi 0, vi i1113, AV.ptr 0 0 0 0]
 [Ob.mk OK.box 33 2 0 [[vi b1111, AV.list 0 1 b1112]]])
 fun r1114 ↦
 Option.bind (asJump r1114) fun j1115 ↦
 bif JX.is j1115.fst (JX.exit 0) then
 Option.bind (uncons? j1115.snd.fst) fun p1116 ↦
 Option.bind (AV.bool? p1116.fst) fun _ ↦
 Option.bind (uncons? p1116.snd) fun p1118 ↦
 Option.bind (AV.int? IntKind.i64 p1118.fst) fun _ ↦
 Option.bind (nil? p1118.snd) fun _ ↦
 Option.bind (uncons? j1115.snd.snd) fun p1121 ↦
 Option.bind
 (obIs (Ob.mk OK.box 33 2 0 [[vi b1111, AV.list 0 1 b1112]]) p1121.fst)
 fun _ ↦
 Option.bind (chk p1121.fst.ver 0) fun _ ↦
 Option.bind (uncons? p1121.fst.es) fun p1124 ↦
 Option.bind (nil? p1124.snd) fun _ ↦
 Option.bind (uncons? p1124.fst) fun p1126 ↦
 Option.bind (AV.int? IntKind.i64 p1126.fst) fun _ ↦
 Option.bind (uncons? p1126.snd) fun p1128 ↦
 Option.bind (AV.list? 1 p1128.fst) fun _ ↦
 Option.bind (nil? p1128.snd) fun _ ↦
 Option.bind (nil? p1121.snd) fun _ ↦ some (Out.ret (vbool false), [])
 else
 bif JX.is j1115.fst JX.ret then
 Option.bind (uncons? j1115.snd.fst) fun p1132 ↦
 Option.bind (AV.bool? p1132.fst) fun b1133 ↦
 Option.bind (uncons? p1132.snd) fun p1134 ↦
 Option.bind (AV.int? IntKind.i64 p1134.fst) fun _ ↦
 Option.bind (nil? p1134.snd) fun _ ↦
 Option.bind (uncons? j1115.snd.snd) fun p1137 ↦
 Option.bind
 (obIs (Ob.mk OK.box 33 2 0 [[vi b1111, AV.list 0 1 b1112]])
 p1137.fst)
 fun _ ↦
 Option.bind (chk p1137.fst.ver 0) fun _ ↦
 Option.bind (uncons? p1137.fst.es) fun p1140 ↦
 Option.bind (nil? p1140.snd) fun _ ↦
 Option.bind (uncons? p1140.fst) fun p1142 ↦
 Option.bind (AV.int? IntKind.i64 p1142.fst) fun _ ↦
 Option.bind (uncons? p1142.snd) fun p1144 ↦
 Option.bind (AV.list? 1 p1144.fst) fun _ ↦
 Option.bind (nil? p1144.snd) fun _ ↦
 Option.bind (nil? p1137.snd) fun _ ↦ some (Out.ret (vbool b1133), [])
 else none := by
  intros
  exact (E_in [188] _ _ _).trans (by kernel_rfl)


theorem f122_l0 : ∀ (b1148 : Bool) (x1149 x1150 x1151 : Int) (l1152 : List (List AV)),
 E cx (Key.loop 122 [true, false, true, false])
 [vbool b1148, vi x1149, vi x1150, AV.ptr 0 0 0 0]
 [Ob.mk OK.box 33 2 0 [[vi x1151, AV.list 0 1 l1152]]] =
 bif decide (x1149 < ((List.length l1152) : Int)) then
 if 0 ≤ x1149 then
 Option.bind l1152[Int.toNat x1149]? fun cs1153 ↦
 Option.bind (uncons? cs1153) fun p1154 ↦
 Option.bind (AV.int? IntKind.i64 p1154.fst) fun n1155 ↦
 Option.bind (nil? p1154.snd) fun _ ↦
 bif decide (n1155 = x1150) then
 some
 (Out.jump JX.ret [vbool true, vi x1149],
 [Ob.mk OK.box 33 2 0 [[vi x1151, AV.list 0 1 l1152]]])
 else
 E cx (Key.loop 122 [true, false, true, false])
 [vbool b1148, vi (IntKind.wrap IntKind.i64 (Int.add x1149 1)), vi x1150,
 AV.ptr 0 0 0 0]
 [Ob.mk OK.box 33 2 0 [[vi x1151, AV.list 0 1 l1152]]]
 else none
 else
 some
 (Out.jump (JX.exit 0) [vbool b1148, vi x1149],
 [Ob.mk OK.box 33 2 0 [[vi x1151, AV.list 0 1 l1152]]]) := by
  intros
  exact (E_in [188] _ _ _).trans (by kernel_rfl)


theorem f123 : ∀ (a1157 : Int) (a1158 : List (List AV)) (b1159 : Int) (b1160 : List (List AV)),
 E cx (Key.fn 123)
 [AV.agg [vi a1157, AV.list 0 1 a1158], AV.agg [vi b1159, AV.list 0 1 b1160]]
 [] =
 Option.bind (E cx (Key.fn 60) [AV.agg [vi a1157, AV.list 0 1 a1158]] [])
 fun r1161 ↦
 Option.bind (ret1 r1161) fun v1162 ↦
 Option.bind (AV.bool? v1162) fun b1163 ↦
 bif b1163 then
 Option.bind
 (E cx (Key.fn 60) [AV.agg [vi b1159, AV.list 0 1 b1160]] [])
 fun r1164 ↦
 Option.bind (ret1 r1164) fun v1165 ↦
 Option.bind (AV.bool? v1165) fun b1166 ↦
 bif b1166 then
 bif decide (a1157 = b1159) then some (Out.ret (vbool true), [])
 else some (Out.ret (vbool false), [])
 else some (Out.ret (vbool false), [])
 else some (Out.ret (vbool false), []) := by
  intros
  exact (E_in [188] _ _ _).trans (by kernel_rfl)


theorem f126 : ∀ (a1167 : Int) (a1168 : List (List AV)) (b1169 : Int) (b1170 : List (List AV)),
 E cx (Key.fn 126)
 [AV.agg [vi a1167, AV.list 0 1 a1168], AV.agg [vi b1169, AV.list 0 1 b1170]]
 [] =
 Option.bind (E cx (Key.fn 61) [AV.agg [vi a1167, AV.list 0 1 a1168]] [])
 fun r1171 ↦
 Option.bind (ret1 r1171) fun v1172 ↦
 Option.bind (AV.bool? v1172) fun b1173 ↦
 bif b1173 then
 Option.bind
 (E cx (Key.fn 61) [AV.agg [vi b1169, AV.list 0 1 b1170]] [])
 fun r1174 ↦
 Option.bind (ret1 r1174) fun v1175 ↦
 Option.bind (AV.bool? v1175) fun b1176 ↦
 bif b1176 then
 bif decide (a1167 = b1169) then some (Out.ret (vbool true), [])
 else some (Out.ret (vbool false), [])
 else some (Out.ret (vbool false), [])
 else
 Option.bind
 (E cx (Key.fn 61) [AV.agg [vi b1169, AV.list 0 1 b1170]] [])
 fun r1177 ↦
 Option.bind (ret1 r1177) fun v1178 ↦
 Option.bind (AV.bool? v1178) fun b1179 ↦
 bif b1179 then some (Out.ret (vbool false), []) else some (Out.ret (vbool false), []) := by
  intros
  exact (E_in [188] _ _ _).trans (by kernel_rfl)


theorem f127 : ∀ (s1180 : List (List AV)) (f1181 : AV),
 E cx (Key.fn 127) [AV.list 0 1 s1180, f1181] [] =
 Option.bind (viewArgs [] [AV.list 0 1 s1180, f1181]) fun as1182 ↦
 Option.bind (E cx (Key.fn 156) (156, [] ++ as1182 ++ []).snd []) fun r1183 ↦
 Option.bind (ret1 r1183) fun v1184 ↦
 Option.bind (AV.int? IntKind.i64 v1184) fun n1185 ↦
 bif decide (n1185 ≥ 0) then some (Out.ret (vbool true), [])
 else some (Out.ret (vbool false), []) := by
  intros
  exact (E_unfold _ _ _ _).trans (by kernel_rfl)


theorem f128 : ∀ (i1186 x1187 : Int) (x1188 : List (List AV)),
 E cx (Key.fn 128) [vi i1186, AV.rop [vi x1187, AV.list 0 1 x1188]]
 [] =
 Option.bind
 (E cx (Key.fn 62)
 [AV.agg [vi x1187, AV.list 0 1 x1188], vi i1186] [])
 fun r1189 ↦
 Option.bind (ret1 r1189) fun v1190 ↦
 Option.bind (AV.bool? v1190) fun b1191 ↦
 bif b1191 then some (Out.ret (vbool true), []) else some (Out.ret (vbool false), []) := by
  intros
  exact (E_in [188] _ _ _).trans (by kernel_rfl)


theorem f129 : ∀ (i1192 x1193 : Int) (x1194 : List (List AV)),
 E cx (Key.fn 129) [vi i1192, AV.rop [vi x1193, AV.list 0 1 x1194]]
 [] =
 Option.bind
 (E cx (Key.fn 62)
 [AV.agg [vi x1193, AV.list 0 1 x1194], vi i1192] [])
 fun r1195 ↦
 Option.bind (ret1 r1195) fun v1196 ↦
 Option.bind (AV.bool? v1196) fun b1197 ↦
 bif b1197 then some (Out.ret (vbool false), []) else some (Out.ret (vbool true), []) := by
  intros
  exact (E_in [188] _ _ _).trans (by kernel_rfl)


theorem f130 : ∀ (x1198 : Int),
 E cx (Key.fn 130) [vb x1198] [] =
 if 0 ≤ x1198 then
 Option.bind
 (ByteArray.mk
 (Array.mk
 [UInt8.ofNat 0, UInt8.ofNat 1, UInt8.ofNat 2, UInt8.ofNat 2, UInt8.ofNat 3, UInt8.ofNat 3, UInt8.ofNat 3, UInt8.ofNat 3, UInt8.ofNat 4,
 UInt8.ofNat 4, UInt8.ofNat 4, UInt8.ofNat 4, UInt8.ofNat 4, UInt8.ofNat 4, UInt8.ofNat 4, UInt8.ofNat 4, UInt8.ofNat 5, UInt8.ofNat 5,
 UInt8.ofNat 5, UInt8.ofNat 5, UInt8.ofNat 5, UInt8.ofNat 5, UInt8.ofNat 5, UInt8.ofNat 5, UInt8.ofNat 5, UInt8.ofNat 5, UInt8.ofNat 5,
 UInt8.ofNat 5, UInt8.ofNat 5, UInt8.ofNat 5, UInt8.ofNat 5, UInt8.ofNat 5, UInt8.ofNat 6, UInt8.ofNat 6, UInt8.ofNat 6, UInt8.ofNat 6,
 UInt8.ofNat 6, UInt8.ofNat 6, UInt8.ofNat 6, UInt8.ofNat 6, UInt8.ofNat 6, UInt8.ofNat 6, UInt8.ofNat 6, UInt8.ofNat 6, UInt8.ofNat 6,
 UInt8.ofNat 6, UInt8.ofNat 6, UInt8.ofNat 6, UInt8.ofNat 6, UInt8.ofNat 6, UInt8.ofNat 6, UInt8.ofNat 6, UInt8.ofNat 6, UInt8.ofNat 6,
 UInt8.ofNat 6, UInt8.ofNat 6, UInt8.ofNat 6, UInt8.ofNat 6, UInt8.ofNat 6, UInt8.ofNat 6, UInt8.ofNat 6, UInt8.ofNat 6, UInt8.ofNat 6,
 UInt8.ofNat 6, UInt8.ofNat 7, UInt8.ofNat 7, UInt8.ofNat 7, UInt8.ofNat 7, UInt8.ofNat 7, UInt8.ofNat 7, UInt8.ofNat 7, UInt8.ofNat 7,
 UInt8.ofNat 7, UInt8.ofNat 7, UInt8.ofNat 7, UInt8.ofNat 7, UInt8.ofNat 7, UInt8.ofNat 7, UInt8.ofNat 7, UInt8.ofNat 7, UInt8.ofNat 7,
 UInt8.ofNat 7, UInt8.ofNat 7, UInt8.ofNat 7, UInt8.ofNat 7, UInt8.ofNat 7, UInt8.ofNat 7, UInt8.ofNat 7, UInt8.ofNat 7, UInt8.ofNat 7,
 UInt8.ofNat 7, UInt8.ofNat 7, UInt8.ofNat 7, UInt8.ofNat 7, UInt8.ofNat 7, UInt8.ofNat 7, UInt8.ofNat 7, UInt8.ofNat 7, UInt8.ofNat 7,
 UInt8.ofNat 7, UInt8.ofNat 7, UInt8.ofNat 7, UInt8.ofNat 7, UInt8.ofNat 7, UInt8.ofNat 7, UInt8.ofNat 7, UInt8.ofNat 7, UInt8.ofNat 7,
 UInt8.ofNat 7, UInt8.ofNat 7, UInt8.ofNat 7, UInt8.ofNat 7, UInt8.ofNat 7, UInt8.ofNat 7, UInt8.ofNat 7, UInt8.ofNat 7, UInt8.ofNat 7,
 UInt8.ofNat 7, UInt8.ofNat 7, UInt8.ofNat 7, UInt8.ofNat 7, UInt8.ofNat 7, UInt8.ofNat 7, UInt8.ofNat 7, UInt8.ofNat 7, UInt8.ofNat 7,
 UInt8.ofNat 7, UInt8.ofNat 7, UInt8.ofNat 8, UInt8.ofNat 8, UInt8.ofNat 8, UInt8.ofNat 8, UInt8.ofNat 8, UInt8.ofNat 8, UInt8.ofNat 8,
 UInt8.ofNat 8, UInt8.ofNat 8, UInt8.ofNat 8, UInt8.ofNat 8, UInt8.ofNat 8, UInt8.ofNat 8, UInt8.ofNat 8, UInt8.ofNat 8, UInt8.ofNat 8,
 UInt8.ofNat 8, UInt8.ofNat 8, UInt8.ofNat 8, UInt8.ofNat 8, UInt8.ofNat 8, UInt8.ofNat 8, UInt8.ofNat 8, UInt8.ofNat 8, UInt8.ofNat 8,
 UInt8.ofNat 8, UInt8.ofNat 8, UInt8.ofNat 8, UInt8.ofNat 8, UInt8.ofNat 8, UInt8.ofNat 8, UInt8.ofNat 8, UInt8.ofNat 8, UInt8.ofNat 8,
 UInt8.ofNat 8, UInt8.ofNat 8, UInt8.ofNat 8, UInt8.ofNat 8, UInt8.ofNat 8, UInt8.ofNat 8, UInt8.ofNat 8, UInt8.ofNat 8, UInt8.ofNat 8,
 UInt8.ofNat 8, UInt8.ofNat 8, UInt8.ofNat 8, UInt8.ofNat 8, UInt8.ofNat 8, UInt8.ofNat 8, UInt8.ofNat 8, UInt8.ofNat 8, UInt8.ofNat 8,
 UInt8.ofNat 8, UInt8.ofNat 8, UInt8.ofNat 8, UInt8.ofNat 8, UInt8.ofNat 8, UInt8.ofNat 8, UInt8.ofNat 8, UInt8.ofNat 8, UInt8.ofNat 8,
 UInt8.ofNat 8, UInt8.ofNat 8, UInt8.ofNat 8, UInt8.ofNat 8, UInt8.ofNat 8, UInt8.ofNat 8, UInt8.ofNat 8, UInt8.ofNat 8, UInt8.ofNat 8,
 UInt8.ofNat 8, UInt8.ofNat 8, UInt8.ofNat 8, UInt8.ofNat 8, UInt8.ofNat 8, UInt8.ofNat 8, UInt8.ofNat 8, UInt8.ofNat 8, UInt8.ofNat 8,
 UInt8.ofNat 8, UInt8.ofNat 8, UInt8.ofNat 8, UInt8.ofNat 8, UInt8.ofNat 8, UInt8.ofNat 8, UInt8.ofNat 8, UInt8.ofNat 8, UInt8.ofNat 8,
 UInt8.ofNat 8, UInt8.ofNat 8, UInt8.ofNat 8, UInt8.ofNat 8, UInt8.ofNat 8, UInt8.ofNat 8, UInt8.ofNat 8, UInt8.ofNat 8, UInt8.ofNat 8,
 UInt8.ofNat 8, UInt8.ofNat 8, UInt8.ofNat 8, UInt8.ofNat 8, UInt8.ofNat 8, UInt8.ofNat 8, UInt8.ofNat 8, UInt8.ofNat 8, UInt8.ofNat 8,
 UInt8.ofNat 8, UInt8.ofNat 8, UInt8.ofNat 8, UInt8.ofNat 8, UInt8.ofNat 8, UInt8.ofNat 8, UInt8.ofNat 8, UInt8.ofNat 8, UInt8.ofNat 8,
 UInt8.ofNat 8, UInt8.ofNat 8, UInt8.ofNat 8, UInt8.ofNat 8, UInt8.ofNat 8, UInt8.ofNat 8, UInt8.ofNat 8, UInt8.ofNat 8, UInt8.ofNat 8,
 UInt8.ofNat 8, UInt8.ofNat 8, UInt8.ofNat 8, UInt8.ofNat 8]))[Int.toNat x1198]?
 fun b1199 ↦ some (Out.ret (vi (IntKind.wrap IntKind.i64 ((UInt8.toNat b1199) : Int))), [])
 else none := by
  intros
  exact (E_in [188] _ _ _).trans (by kernel_rfl)


theorem f132 : ∀ (s1204 : ByteArray) (n1205 : Int),
 E cx (Key.fn 132) [vs s1204, vi n1205] [] =
 Option.bind
 (E cx (Key.loop 132 [true, true, false, true, false])
 [vi 0, vs s1204, vi n1205, AV.ptr 0 0 0 0, AV.ptr 1 0 0 0]
 [Ob.mk OK.box 33 2 0 [[vi 0, AV.val (Value.slice none 0 0)]],
 Ob.mk OK.box 33 2 0 [[vi n1205, AV.arr 2 1 0 0]],
 Ob.mk OK.arr 3 1 1 []])
 fun r1206 ↦
 Option.bind (asJump r1206) fun j1207 ↦
 bif JX.is j1207.fst (JX.exit 0) then
 Option.bind (uncons? j1207.snd.fst) fun p1208 ↦
 Option.bind (AV.int? IntKind.i64 p1208.fst) fun _ ↦
 Option.bind (nil? p1208.snd) fun _ ↦
 Option.bind (uncons? j1207.snd.snd) fun p1211 ↦
 Option.bind
 (obIs (Ob.mk OK.box 33 2 0 [[vi 0, AV.val (Value.slice none 0 0)]])
 p1211.fst)
 fun _ ↦
 Option.bind (chk p1211.fst.ver 0) fun _ ↦
 Option.bind (uncons? p1211.fst.es) fun p1214 ↦
 Option.bind (nil? p1214.snd) fun _ ↦
 Option.bind (uncons? p1214.fst) fun p1216 ↦
 Option.bind (AV.int? IntKind.i64 p1216.fst) fun _ ↦
 Option.bind (uncons? p1216.snd) fun p1218 ↦
 Option.bind (AV.nilS? p1218.fst) fun _ ↦
 Option.bind (nil? p1218.snd) fun _ ↦
 Option.bind (uncons? p1211.snd) fun p1221 ↦
 Option.bind
 (obIs
 (Ob.mk OK.box 33 2 0 [[vi n1205, AV.arr 2 1 0 0]]) p1221.fst)
 fun _ ↦
 Option.bind (chk p1221.fst.ver 0) fun _ ↦
 Option.bind (uncons? p1221.fst.es) fun p1224 ↦
 Option.bind (nil? p1224.snd) fun _ ↦
 Option.bind (uncons? p1224.fst) fun p1226 ↦
 Option.bind (AV.int? IntKind.i64 p1226.fst) fun n1227 ↦
 Option.bind (uncons? p1226.snd) fun p1228 ↦
 Option.bind (AV.arr? 2 p1228.fst) fun x1229 ↦
 Option.bind (chk x1229.fst 1) fun _ ↦
 Option.bind (nil? p1228.snd) fun _ ↦
 Option.bind (uncons? p1221.snd) fun p1232 ↦
 Option.bind (obIs (Ob.mk OK.arr 3 1 1 []) p1232.fst)
 fun _ ↦
 Option.bind (chk p1232.fst.ver 1) fun _ ↦
 Option.bind (nil? p1232.snd) fun _ ↦
 Option.bind
 (chkLe (Nat.add x1229.snd.fst x1229.snd.snd) (List.length p1232.fst.es))
 fun _ ↦
 some
 (Out.ret
 (AV.agg
 [vi n1227,
 AV.list 0 1
 (List.drop x1229.snd.fst
 (List.take (Nat.add x1229.snd.fst x1229.snd.snd) p1232.fst.es))]),
 [])
 else none := by
  intros
  exact (E_in [188] _ _ _).trans (by kernel_rfl)


theorem f132_l0 : ∀ (x1237 : Int) (s1238 : ByteArray) (x1239 x1240 x1241 : Int) (n1242 : Nat) (l1243 : List (List AV)),
 E cx (Key.loop 132 [true, true, false, true, false])
 [vi x1237, vs s1238, vi x1239, AV.ptr 0 0 0 0, AV.ptr 1 0 0 0]
 [Ob.mk OK.box 33 2 0 [[vi x1240, AV.val (Value.slice none 0 0)]],
 Ob.mk OK.box 33 2 0 [[vi x1241, AV.arr 2 1 0 n1242]],
 Ob.mk OK.arr 3 1 1 l1243] =
 bif decide (x1237 < x1239) then
 if 0 ≤ IntKind.wrap IntKind.i64 (Int.tdiv x1237 8) then
 Option.bind s1238[Int.toNat (IntKind.wrap IntKind.i64 (Int.tdiv x1237 8))]? fun b1244 ↦
 if Int.tmod x1237 8 < 0 then none
 else
 bif decide (Int.tmod (ishr IntKind.u8 (((UInt8.toNat b1244) : Int)) (Int.tmod x1237 8)) 2 = 1) then
 Option.bind (chk n1242 (List.length (Ob.mk OK.arr 3 1 1 l1243).es)) fun _ ↦
 if Nat.mul (Nat.add (List.length (Ob.mk OK.arr 3 1 1 l1243).es) 1) 8 ≤ 140737488355328 then
 E cx (Key.loop 132 [true, true, false, true, false])
 [vi (IntKind.wrap IntKind.i64 (Int.add x1237 1)), vs s1238, vi x1239,
 AV.ptr 0 0 0 0, AV.ptr 1 0 0 0]
 [Ob.mk OK.box 33 2 0 [[vi x1240, AV.val (Value.slice none 0 0)]],
 Ob.mk OK.box 33 2 0
 [[vi x1241, AV.arr 2 1 0 (Nat.add (List.length (Ob.mk OK.arr 3 1 1 l1243).es) 1)]],
 Ob.mk OK.arr 3 1 1 ((Ob.mk OK.arr 3 1 1 l1243).es ++ [[vi x1237]])]
 else none
 else
 E cx (Key.loop 132 [true, true, false, true, false])
 [vi (IntKind.wrap IntKind.i64 (Int.add x1237 1)), vs s1238, vi x1239, AV.ptr 0 0 0 0,
 AV.ptr 1 0 0 0]
 [Ob.mk OK.box 33 2 0 [[vi x1240, AV.val (Value.slice none 0 0)]],
 Ob.mk OK.box 33 2 0 [[vi x1241, AV.arr 2 1 0 n1242]],
 Ob.mk OK.arr 3 1 1 l1243]
 else none
 else
 some
 (Out.jump (JX.exit 0) [vi x1237],
 [Ob.mk OK.box 33 2 0 [[vi x1240, AV.val (Value.slice none 0 0)]],
 Ob.mk OK.box 33 2 0 [[vi x1241, AV.arr 2 1 0 n1242]],
 Ob.mk OK.arr 3 1 1 l1243]) := by
  intros
  exact (E_in [188] _ _ _).trans (by kernel_rfl)


theorem f151 : ∀ (x1246 : Int),
 E cx (Key.fn 151) [vu x1246] [] =
 Option.bind (E cx (Key.fn 175) [vu x1246] []) fun r1247 ↦
 Option.bind (ret1 r1247) fun v1248 ↦
 Option.bind (AV.int? IntKind.i64 v1248) fun n1249 ↦ some (Out.ret (vi n1249), []) := by
  intros
  exact (E_in [188] _ _ _).trans (by kernel_rfl)


noncomputable def q153_0 : Int → Int → Option (Out × Heap) :=
 fun x1250 y1251 ↦
 bif decide (x1250 < y1251) then some (Out.ret (vbool true), []) else some (Out.ret (vbool false), [])


theorem f153 : ∀ (x1250 y1251 : Int),
 E cx (Key.fn 153) [vi x1250, vi y1251] [] =
 Option.bind (E cx (Key.fn 176) [vi x1250] []) fun r1252 ↦
 Option.bind (ret1 r1252) fun v1253 ↦
 Option.bind (AV.bool? v1253) fun b1254 ↦
 bif b1254 then
 Option.bind (E cx (Key.fn 176) [vi y1251] []) fun r1255 ↦
 Option.bind (ret1 r1255) fun v1256 ↦
 Option.bind (AV.bool? v1256) fun b1257 ↦
 bif b1257 then q153_0 x1250 y1251 else some (Out.ret (vbool true), [])
 else q153_0 x1250 y1251 := by
  intros
  exact (E_in [188] _ _ _).trans (by kernel_rfl)


theorem f125o : ∀ (l : List (List AV)) (n : Nat),
 E cx (Key.own 125) [AV.arr 0 1 0 n] [Ob.mk OK.arr 3 1 1 l] =
 bif decide ((n : Int) < 2) then some (Out.ret (AV.arr 0 1 0 n), [Ob.mk OK.arr 3 1 1 l])
 else
 Option.bind
 (E cx (Key.loop 125 [true, true, false, true, false])
 [AV.val (Value.slice none 0 0), vi 1, AV.arr 0 1 0 n] [Ob.mk OK.arr 3 1 1 l])
 fun r0 ↦
 Option.bind (asJump r0) fun j1 ↦
 bif JX.is j1.fst (JX.exit 0) then
 Option.bind (uncons? j1.snd.fst) fun p2 ↦
 Option.bind (uncons? p2.snd) fun p3 ↦
 Option.bind (AV.int? IntKind.i64 p3.fst) fun _ ↦
 Option.bind (nil? p3.snd) fun _ ↦
 Option.bind (uncons? j1.snd.snd) fun p6 ↦
 Option.bind (obIs (Ob.mk OK.arr 3 1 1 l) p6.fst) fun _ ↦
 Option.bind (chk p6.fst.ver 1) fun _ ↦
 Option.bind (nil? p6.snd) fun _ ↦
 some (Out.ret (AV.arr 0 1 0 n), [Ob.mk OK.arr 3 1 1 p6.fst.es])
 else
 bif JX.is j1.fst JX.ret then
 Option.bind (uncons? j1.snd.fst) fun p10 ↦
 Option.bind (AV.arr? 0 p10.fst) fun x11 ↦
 Option.bind (chk x11.fst 1) fun _ ↦
 Option.bind (uncons? p10.snd) fun p13 ↦
 Option.bind (AV.int? IntKind.i64 p13.fst) fun _ ↦
 Option.bind (nil? p13.snd) fun _ ↦
 Option.bind (uncons? j1.snd.snd) fun p16 ↦
 Option.bind (obIs (Ob.mk OK.arr 3 1 1 l) p16.fst) fun _ ↦
 Option.bind (chk p16.fst.ver 1) fun _ ↦
 Option.bind (nil? p16.snd) fun _ ↦
 some
 (Out.ret (AV.arr 0 1 x11.snd.fst x11.snd.snd),
 [Ob.mk OK.arr 3 1 1 p16.fst.es])
 else none := by
  intros
  exact (E_in [188] _ _ _).trans (by kernel_rfl)


theorem f125o_l0 : ∀ (x20 : Int) (n21 : Nat) (l22 : List (List AV)),
 E cx (Key.loop 125 [true, true, false, true, false])
 [AV.val (Value.slice none 0 0), vi x20, AV.arr 0 1 0 n21] [Ob.mk OK.arr 3 1 1 l22] =
 bif decide (x20 < (n21 : Int)) then
 if 0 ≤ x20 then
 if x20 < (n21 : Int) then
 Option.bind (nth l22 (Nat.add 0 (Int.toNat x20))) fun cs23 ↦
 Option.bind (uncons? cs23) fun p24 ↦
 Option.bind (AV.int? IntKind.i64 p24.fst) fun n25 ↦
 Option.bind (nil? p24.snd) fun _ ↦
 if 0 ≤ IntKind.wrap IntKind.i64 (Int.sub x20 1) then
 if IntKind.wrap IntKind.i64 (Int.sub x20 1) < (n21 : Int) then
 Option.bind (nth l22 (Nat.add 0 (Int.toNat (IntKind.wrap IntKind.i64 (Int.sub x20 1))))) fun cs27 ↦
 Option.bind (uncons? cs27) fun p28 ↦
 Option.bind (AV.int? IntKind.i64 p28.fst) fun n29 ↦
 Option.bind (nil? p28.snd) fun _ ↦
 bif decide (n25 = n29) then
 if 0 ≤ x20 then
 if x20 ≤ (n21 : Int) then
 Option.bind
 (E cx
 (Key.loop 125
 [true, true, false, true, false, false, true, false, false, true, false, true, false, true, false])
 [vi x20, vi 1, AV.arr 0 1 0 n21,
 AV.arr 0 1 (Nat.add 0 (Int.toNat x20)) (Nat.sub n21 (Int.toNat x20))]
 [Ob.mk OK.arr 3 1 1 l22])
 fun r31 ↦
 Option.bind (asJump r31) fun j32 ↦
 bif JX.is j32.fst (JX.exit 2) then
 Option.bind (uncons? j32.snd.fst) fun p33 ↦
 Option.bind (AV.int? IntKind.i64 p33.fst) fun n34 ↦
 Option.bind (uncons? p33.snd) fun p35 ↦
 Option.bind (AV.int? IntKind.i64 p35.fst) fun _ ↦
 Option.bind (nil? p35.snd) fun _ ↦
 Option.bind (uncons? j32.snd.snd) fun p38 ↦
 Option.bind (obIs (Ob.mk OK.arr 3 1 1 l22) p38.fst) fun _ ↦
 Option.bind (chk p38.fst.ver 1) fun _ ↦
 Option.bind (nil? p38.snd) fun _ ↦
 if 0 ≤ n34 then
 if n34 ≤ (n21 : Int) then
 Option.bind
 (chkLe (Nat.add (Nat.add 0 (Int.toNat n34)) (Nat.sub n21 (Int.toNat n34)))
 (List.length (Ob.mk OK.arr 3 1 1 p38.fst.es).es))
 fun _ ↦
 if 0 ≤ n34 then
 if n34 ≤ (n21 : Int) then
 some
 (Out.jump JX.ret
 [AV.arr 0 1 0 (Nat.sub (Int.toNat n34) 0), vi n34],
 [Ob.mk OK.arr 3 1 1
 (List.take (Nat.add 0 (Int.toNat n34))
 (Ob.mk OK.arr 3 1 1 p38.fst.es).es ++
 List.replicate (Nat.sub n21 (Int.toNat n34)) [vi 0] ++
 List.drop (Nat.add (Nat.add 0 (Int.toNat n34)) (Nat.sub n21 (Int.toNat n34)))
 (Ob.mk OK.arr 3 1 1 p38.fst.es).es)])
 else none
 else none
 else none
 else none
 else none
 else none
 else none
 else
 E cx (Key.loop 125 [true, true, false, true, false])
 [AV.val (Value.slice none 0 0), vi (IntKind.wrap IntKind.i64 (Int.add x20 1)),
 AV.arr 0 1 0 n21]
 [Ob.mk OK.arr 3 1 1 l22]
 else none
 else none
 else none
 else none
 else
 some
 (Out.jump (JX.exit 0) [AV.val (Value.slice none 0 0), vi x20],
 [Ob.mk OK.arr 3 1 1 l22]) := by
  intros
  exact (E_in [188] _ _ _).trans (by kernel_rfl)


theorem f125o_l0_l1 : ∀ (x43 x44 : Int) (n45 o46 n47 : Nat) (l48 : List (List AV)),
 E cx (Key.loop 125 [true, true, false, true, false, false, true, false, false, true, false, true, false, true, false])
 [vi x43, vi x44, AV.arr 0 1 0 n45, AV.arr 0 1 o46 n47]
 [Ob.mk OK.arr 3 1 1 l48] =
 bif decide (x44 < (n47 : Int)) then
 if 0 ≤ x44 then
 if x44 < (n47 : Int) then
 Option.bind (nth l48 (Nat.add o46 (Int.toNat x44))) fun cs49 ↦
 Option.bind (uncons? cs49) fun p50 ↦
 Option.bind (AV.int? IntKind.i64 p50.fst) fun n51 ↦
 Option.bind (nil? p50.snd) fun _ ↦
 if 0 ≤ IntKind.wrap IntKind.i64 (Int.sub x44 1) then
 if IntKind.wrap IntKind.i64 (Int.sub x44 1) < (n47 : Int) then
 Option.bind (nth l48 (Nat.add o46 (Int.toNat (IntKind.wrap IntKind.i64 (Int.sub x44 1))))) fun cs53 ↦
 Option.bind (uncons? cs53) fun p54 ↦
 Option.bind (AV.int? IntKind.i64 p54.fst) fun n55 ↦
 Option.bind (nil? p54.snd) fun _ ↦
 bif n51 != n55 then
 if 0 ≤ x44 then
 if x44 < (n47 : Int) then
 Option.bind (nth l48 (Nat.add o46 (Int.toNat x44))) fun cs57 ↦
 Option.bind (uncons? cs57) fun p58 ↦
 Option.bind (AV.int? IntKind.i64 p58.fst) fun n59 ↦
 Option.bind (nil? p58.snd) fun _ ↦
 if 0 ≤ x43 then
 if x43 < (n45 : Int) then
 Option.bind (nth l48 (Nat.add 0 (Int.toNat x43))) fun cs61 ↦
 Option.bind (uncons? cs61) fun p62 ↦
 Option.bind (AV.int? IntKind.i64 p62.fst) fun _ ↦
 Option.bind (nil? p62.snd) fun _ ↦
 E cx
 (Key.loop 125
 [true, true, false, true, false, false, true, false, false, true, false, true, false, true, false])
 [vi (IntKind.wrap IntKind.i64 (Int.add x43 1)),
 vi (IntKind.wrap IntKind.i64 (Int.add x44 1)), AV.arr 0 1 0 n45,
 AV.arr 0 1 o46 n47]
 [Ob.mk OK.arr 3 1 1
 (List.set l48 (Nat.add 0 (Int.toNat x43)) [vi n59])]
 else none
 else none
 else none
 else none
 else
 E cx
 (Key.loop 125 [true, true, false, true, false, false, true, false, false, true, false, true, false, true, false])
 [vi x43, vi (IntKind.wrap IntKind.i64 (Int.add x44 1)), AV.arr 0 1 0 n45,
 AV.arr 0 1 o46 n47]
 [Ob.mk OK.arr 3 1 1 l48]
 else none
 else none
 else none
 else none
 else some (Out.jump (JX.exit 2) [vi x43, vi x44], [Ob.mk OK.arr 3 1 1 l48]) := by
  intros
  exact (E_in [188] _ _ _).trans (by kernel_rfl)


theorem f154 : ∀ (x0 : Int),
 E cx (Key.fn 154) [vi x0] [] =
 bif x0 != x0 then some (Out.ret (vbool true), []) else some (Out.ret (vbool false), []) := by
  intros
  exact (E_in [188] _ _ _).trans (by kernel_rfl)


theorem f176 : ∀ (x0 : Int),
 E cx (Key.fn 176) [vi x0] [] =
 bif x0 != x0 then some (Out.ret (vbool true), []) else some (Out.ret (vbool false), []) := by
  intros
  exact (E_in [188] _ _ _).trans (by kernel_rfl)

end Go.Proofs.Av
