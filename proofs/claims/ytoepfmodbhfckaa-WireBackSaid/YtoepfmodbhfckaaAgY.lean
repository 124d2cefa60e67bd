/- The trees of Wire's functions. -/
import Derived.Test.YtoepfmodbhfckaaAgX
set_option maxRecDepth 100000
namespace Go.Proofs.Av
open Go
theorem f100 : ∀ (fixed0 : ByteArray) (parts1 : List (List AV)),
 E cx (Key.fn 100) [vs fixed0, AV.list 0 1 parts1] [] =
 bif decide (((List.length parts1) : Int) > 8) then
 some (Out.ret (AV.tuple [vs (ByteArray.mk (Array.mk [])), vi 4]), [])
 else
 bif
 decide
 (IntKind.wrap IntKind.i64 (Int.add (((ByteArray.size fixed0) : Int)) (IntKind.wrap IntKind.i64 (Int.mul 4 ((List.length parts1) : Int)))) >
 65536) then
 some (Out.ret (AV.tuple [vs (ByteArray.mk (Array.mk [])), vi 4]), [])
 else
 Option.bind
 (E cx (Key.loop 100 [true, true, true, true, false, true, false])
 [vs (ByteArray.mk (Array.mk [])), vi 0,
 vi
 (IntKind.wrap IntKind.i64 (Int.add (((ByteArray.size fixed0) : Int)) (IntKind.wrap IntKind.i64 (Int.mul 4 ((List.length parts1) : Int))))),
 vs fixed0, vs (ByteArray.mk (Array.mk [])), vi 0, AV.list 0 1 parts1,
 vi ((List.length parts1) : Int)]
 [])
 fun r2 ↦
 Option.bind (asJump r2) fun j3 ↦
 bif JX.is j3.fst (JX.exit 0) then
 Option.bind (uncons? j3.snd.fst) fun p4 ↦
 Option.bind (AV.str? p4.fst) fun _ ↦
 Option.bind (uncons? p4.snd) fun p6 ↦
 Option.bind (AV.int? IntKind.i64 p6.fst) fun _ ↦
 Option.bind (uncons? p6.snd) fun p8 ↦
 Option.bind (AV.int? IntKind.i64 p8.fst) fun _ ↦
 Option.bind (uncons? p8.snd) fun p10 ↦
 Option.bind (AV.str? p10.fst) fun s11 ↦
 Option.bind (uncons? p10.snd) fun p12 ↦
 Option.bind (AV.str? p12.fst) fun s13 ↦
 Option.bind (uncons? p12.snd) fun p14 ↦
 Option.bind (AV.int? IntKind.i64 p14.fst) fun _ ↦
 Option.bind (nil? p14.snd) fun _ ↦
 Option.bind (nil? j3.snd.snd) fun _ ↦
 if ((Nat.add (ByteArray.size s11) (ByteArray.size s13)) : Int) > 9223372036854775807 then none
 else
 some
 (Out.ret (AV.tuple [vs (ByteArray.append s11 s13), vi 0]), [])
 else
 bif JX.is j3.fst JX.ret then
 Option.bind (uncons? j3.snd.fst) fun p18 ↦
 Option.bind (AV.str? p18.fst) fun s19 ↦
 Option.bind (uncons? p18.snd) fun p20 ↦
 Option.bind (AV.int? IntKind.i64 p20.fst) fun n21 ↦
 Option.bind (uncons? p20.snd) fun p22 ↦
 Option.bind (AV.int? IntKind.i64 p22.fst) fun _ ↦
 Option.bind (uncons? p22.snd) fun p24 ↦
 Option.bind (AV.str? p24.fst) fun _ ↦
 Option.bind (uncons? p24.snd) fun p26 ↦
 Option.bind (AV.str? p26.fst) fun _ ↦
 Option.bind (uncons? p26.snd) fun p28 ↦
 Option.bind (AV.int? IntKind.i64 p28.fst) fun _ ↦
 Option.bind (nil? p28.snd) fun _ ↦
 Option.bind (nil? j3.snd.snd) fun _ ↦
 some (Out.ret (AV.tuple [vs s19, vi n21]), [])
 else none := by
 intros
 exact (E_in [188] _ _ _).trans (by kernel_rfl)
theorem f100_l0 : ∀ (s32 : ByteArray) (x33 x34 : Int) (s35 s36 : ByteArray) (x37 : Int) (l38 : List (List AV)) (x39 : Int),
 E cx (Key.loop 100 [true, true, true, true, false, true, false])
 [vs s32, vi x33, vi x34, vs s35, vs s36, vi x37,
 AV.list 0 1 l38, vi x39]
 [] =
 bif decide (x37 < x39) then
 if 0 ≤ x37 then
 Option.bind l38[Int.toNat x37]? fun cs40 ↦
 Option.bind (uncons? cs40) fun p41 ↦
 Option.bind (AV.str? p41.fst) fun s42 ↦
 Option.bind (nil? p41.snd) fun _ ↦
 bif decide (((ByteArray.size s42) : Int) > IntKind.wrap IntKind.i64 (Int.sub 65536 x34)) then
 some
 (Out.jump JX.ret
 [vs (ByteArray.mk (Array.mk [])), vi 4, vi x34, vs s35, vs s36,
 vi x37],
 [])
 else
 Option.bind
 (E cx (Key.fn 106) [vu (IntKind.wrap IntKind.u64 x34), vi 4] [])
 fun r44 ↦
 Option.bind (ret1 r44) fun v45 ↦
 Option.bind (AV.str? v45) fun s46 ↦
 if ((Nat.add (ByteArray.size s35) (ByteArray.size s46)) : Int) > 9223372036854775807 then none
 else
 if ((Nat.add (ByteArray.size s36) (ByteArray.size s42)) : Int) > 9223372036854775807 then none
 else
 E cx (Key.loop 100 [true, true, true, true, false, true, false])
 [vs s32, vi x33, vi (IntKind.wrap IntKind.i64 (Int.add x34 ((ByteArray.size s42) : Int))),
 vs (ByteArray.append s35 s46), vs (ByteArray.append s36 s42),
 vi (IntKind.wrap IntKind.i64 (Int.add x37 1)), AV.list 0 1 l38, vi x39]
 []
 else none
 else
 some
 (Out.jump (JX.exit 0)
 [vs s32, vi x33, vi x34, vs s35, vs s36, vi x37],
 []) := by
 intros
 exact (E_in [188] _ _ _).trans (by kernel_rfl)
theorem f145 : ∀ (s47 : ByteArray) (fixed48 many49 : Int),
 E cx (Key.fn 145) [vs s47, vi fixed48, vi many49] [] =
 Option.bind (E cx (Key.fn 164) [vs s47, vi fixed48, vi many49] []) fun r50 ↦
 bif isPan r50 then
 Option.bind (panV 202 r50) fun x51 ↦
 Option.bind (AV.cells? x51) fun cs52 ↦
 Option.bind (uncons? cs52) fun p53 ↦
 Option.bind (AV.int? IntKind.i64 p53.fst) fun n54 ↦
 Option.bind (nil? p53.snd) fun _ ↦
 some
 (Out.ret
 (AV.tuple
 [vs (ByteArray.mk (Array.mk [])), AV.val (Value.slice none 0 0), vi n54]),
 [])
 else
 Option.bind (ret1 r50) fun v56 ↦
 Option.bind (AV.list? 1 v56) fun es57 ↦
 Option.bind
 (E cx (Key.loop 145 [true, true, true, false, true, false])
 [vi 0, vs s47, vi fixed48, AV.ptr 0 0 0 0, AV.ptr 1 0 0 0,
 AV.ptr 2 0 0 0, AV.list 0 1 es57, vi many49]
 [Ob.mk OK.box 9 1 0 [[vs (ByteArray.mk (Array.mk []))]],
 Ob.mk OK.box 58 1 0 [[AV.arr 3 1 0 0]],
 Ob.mk OK.box 40 1 0 [[vi 0]], Ob.mk OK.arr 9 1 1 []])
 fun r58 ↦
 Option.bind (asJump r58) fun j59 ↦
 bif JX.is j59.fst (JX.exit 0) then
 Option.bind (uncons? j59.snd.fst) fun p60 ↦
 Option.bind (AV.int? IntKind.i64 p60.fst) fun _ ↦
 Option.bind (nil? p60.snd) fun _ ↦
 Option.bind (uncons? j59.snd.snd) fun p63 ↦
 Option.bind
 (obIs (Ob.mk OK.box 9 1 0 [[vs (ByteArray.mk (Array.mk []))]]) p63.fst)
 fun _ ↦
 Option.bind (chk p63.fst.ver 0) fun _ ↦
 Option.bind (uncons? p63.fst.es) fun p66 ↦
 Option.bind (nil? p66.snd) fun _ ↦
 Option.bind (uncons? p66.fst) fun p68 ↦
 Option.bind (AV.str? p68.fst) fun _ ↦
 Option.bind (nil? p68.snd) fun _ ↦
 Option.bind (uncons? p63.snd) fun p71 ↦
 Option.bind
 (obIs (Ob.mk OK.box 58 1 0 [[AV.arr 3 1 0 0]]) p71.fst)
 fun _ ↦
 Option.bind (chk p71.fst.ver 0) fun _ ↦
 Option.bind (uncons? p71.fst.es) fun p74 ↦
 Option.bind (nil? p74.snd) fun _ ↦
 Option.bind (uncons? p74.fst) fun p76 ↦
 Option.bind (AV.arr? 3 p76.fst) fun x77 ↦
 Option.bind (chk x77.fst 1) fun _ ↦
 Option.bind (nil? p76.snd) fun _ ↦
 Option.bind (uncons? p71.snd) fun p80 ↦
 Option.bind
 (obIs (Ob.mk OK.box 40 1 0 [[vi 0]]) p80.fst)
 fun _ ↦
 Option.bind (chk p80.fst.ver 0) fun _ ↦
 Option.bind (uncons? p80.fst.es) fun p83 ↦
 Option.bind (nil? p83.snd) fun _ ↦
 Option.bind (uncons? p83.fst) fun p85 ↦
 Option.bind (AV.int? IntKind.i64 p85.fst) fun _ ↦
 Option.bind (nil? p85.snd) fun _ ↦
 Option.bind (uncons? p80.snd) fun p88 ↦
 Option.bind
 (obIs (Ob.mk OK.arr 9 1 1 []) p88.fst)
 fun _ ↦
 Option.bind (chk p88.fst.ver 1) fun _ ↦
 Option.bind (nil? p88.snd) fun _ ↦
 if 0 ≤ fixed48 then
 if fixed48 ≤ ((ByteArray.size s47) : Int) then
 Option.bind
 (chkLe (Nat.add x77.snd.fst x77.snd.snd)
 (List.length p88.fst.es))
 fun _ ↦
 some
 (Out.ret
 (AV.tuple
 [vs (ByteArray.extract s47 0 (Int.toNat fixed48)),
 AV.list 0 1
 (List.drop x77.snd.fst
 (List.take (Nat.add x77.snd.fst x77.snd.snd) p88.fst.es)),
 vi 0]),
 [])
 else none
 else none
 else none := by
 intros
 exact (E_in [188] _ _ _).trans (by kernel_rfl)
theorem f145_l0 : ∀ (x93 : Int) (s94 : ByteArray) (x95 : Int) (l96 : List (List AV)) (x97 : Int) (s98 : ByteArray) (n99 : Nat) (x100 : Int)
 (l101 : List (List AV)),
 E cx (Key.loop 145 [true, true, true, false, true, false])
 [vi x93, vs s94, vi x95, AV.ptr 0 0 0 0, AV.ptr 1 0 0 0, AV.ptr 2 0 0 0,
 AV.list 0 1 l96, vi x97]
 [Ob.mk OK.box 9 1 0 [[vs s98]], Ob.mk OK.box 58 1 0 [[AV.arr 3 1 0 n99]],
 Ob.mk OK.box 40 1 0 [[vi x100]], Ob.mk OK.arr 9 1 1 l101] =
 bif decide (x93 < x97) then
 if 0 ≤ x93 then
 Option.bind l96[Int.toNat x93]? fun cs102 ↦
 Option.bind (uncons? cs102) fun p103 ↦
 Option.bind (AV.int? IntKind.i64 p103.fst) fun n104 ↦
 Option.bind (nil? p103.snd) fun _ ↦
 if 0 ≤ IntKind.wrap IntKind.i64 (Int.add x93 1) then
 Option.bind l96[Int.toNat (IntKind.wrap IntKind.i64 (Int.add x93 1))]? fun cs106 ↦
 Option.bind (uncons? cs106) fun p107 ↦
 Option.bind (AV.int? IntKind.i64 p107.fst) fun n108 ↦
 Option.bind (nil? p107.snd) fun _ ↦
 if 0 ≤ n108 then
 if n108 ≤ ((ByteArray.size s94) : Int) then
 if 0 ≤ n104 then
 if n104 ≤ ((Int.toNat n108) : Int) then
 Option.bind (chk n99 (List.length (Ob.mk OK.arr 9 1 1 l101).es)) fun _ ↦
 if Nat.mul (Nat.add (List.length (Ob.mk OK.arr 9 1 1 l101).es) 1) 16 ≤ 140737488355328 then
 E cx (Key.loop 145 [true, true, true, false, true, false])
 [vi (IntKind.wrap IntKind.i64 (Int.add x93 1)), vs s94, vi x95,
 AV.ptr 0 0 0 0, AV.ptr 1 0 0 0, AV.ptr 2 0 0 0, AV.list 0 1 l96,
 vi x97]
 [Ob.mk OK.box 9 1 0 [[vs s98]],
 Ob.mk OK.box 58 1 0
 [[AV.arr 3 1 0 (Nat.add (List.length (Ob.mk OK.arr 9 1 1 l101).es) 1)]],
 Ob.mk OK.box 40 1 0 [[vi x100]],
 Ob.mk OK.arr 9 1 1
 ((Ob.mk OK.arr 9 1 1 l101).es ++
 [[vs (ByteArray.extract s94 (Int.toNat n104) (Int.toNat n108))]])]
 else none
 else none
 else none
 else none
 else none
 else none
 else none
 else
 some
 (Out.jump (JX.exit 0) [vi x93],
 [Ob.mk OK.box 9 1 0 [[vs s98]],
 Ob.mk OK.box 58 1 0 [[AV.arr 3 1 0 n99]],
 Ob.mk OK.box 40 1 0 [[vi x100]], Ob.mk OK.arr 9 1 1 l101]) := by
 intros
 exact (E_in [188] _ _ _).trans (by kernel_rfl)
theorem f164 : ∀ (s111 : ByteArray) (fixed112 many113 : Int),
 E cx (Key.fn 164) [vs s111, vi fixed112, vi many113] [] =
 bif decide (fixed112 ≥ 0) then
 bif decide (fixed112 ≤ 65536) then
 bif decide (many113 ≥ 0) then
 bif decide (many113 ≤ 8) then
 bif decide (((ByteArray.size s111) : Int) ≤ 65536) then
 bif decide (((ByteArray.size s111) : Int) ≥ IntKind.wrap IntKind.i64 (Int.add fixed112 (IntKind.wrap IntKind.i64 (Int.mul 4 many113)))) then
 if 0 ≤ IntKind.wrap IntKind.i64 (Int.add fixed112 (IntKind.wrap IntKind.i64 (Int.mul 4 many113))) then
 if IntKind.wrap IntKind.i64 (Int.add fixed112 (IntKind.wrap IntKind.i64 (Int.mul 4 many113))) ≤ ((ByteArray.size s111) : Int) then
 if 0 ≤ fixed112 then
 if fixed112 ≤ ((Int.toNat (IntKind.wrap IntKind.i64 (Int.add fixed112 (IntKind.wrap IntKind.i64 (Int.mul 4 many113))))) : Int) then
 Option.bind
 (E cx (Key.loop 164 [true, true, true, true, true, true, true, false, true, false])
 [AV.arr 0 1 0 1,
 vs
 (ByteArray.extract s111 (Int.toNat fixed112)
 (Int.toNat (IntKind.wrap IntKind.i64 (Int.add fixed112 (IntKind.wrap IntKind.i64 (Int.mul 4 many113)))))),
 vi 0, vs s111, vi many113,
 vi (IntKind.wrap IntKind.i64 (Int.add fixed112 (IntKind.wrap IntKind.i64 (Int.mul 4 many113)))),
 vi many113]
 [Ob.mk OK.arr 3 1 1
 [[vi (IntKind.wrap IntKind.i64 (Int.add fixed112 (IntKind.wrap IntKind.i64 (Int.mul 4 many113))))]]])
 fun r114 ↦
 Option.bind (asJump r114) fun j115 ↦
 bif JX.isPan j115.fst then
 Option.bind (JX.panX 202 j115.fst) fun x116 ↦
 Option.bind (AV.cells? x116) fun cs117 ↦
 Option.bind (uncons? cs117) fun p118 ↦
 Option.bind (AV.int? IntKind.i64 p118.fst) fun n119 ↦
 Option.bind (nil? p118.snd) fun _ ↦
 Option.bind (uncons? j115.snd.fst) fun p121 ↦
 Option.bind (AV.arr? 0 p121.fst) fun x122 ↦
 Option.bind (chk x122.fst 1) fun _ ↦
 Option.bind (uncons? p121.snd) fun p124 ↦
 Option.bind (AV.str? p124.fst) fun _ ↦
 Option.bind (uncons? p124.snd) fun p126 ↦
 Option.bind (AV.int? IntKind.i64 p126.fst) fun _ ↦
 Option.bind (nil? p126.snd) fun _ ↦
 Option.bind (uncons? j115.snd.snd) fun p129 ↦
 Option.bind
 (obIs
 (Ob.mk OK.arr 3 1 1
 [[vi
 (IntKind.wrap IntKind.i64
 (Int.add fixed112 (IntKind.wrap IntKind.i64 (Int.mul 4 many113))))]])
 p129.fst)
 fun _ ↦
 Option.bind (chk p129.fst.ver 1) fun _ ↦
 Option.bind (nil? p129.snd) fun _ ↦
 some
 (Out.jump
 (JX.pan
 (AV.iface 202 (AV.agg [vi n119])))
 [],
 [])
 else
 bif JX.is j115.fst (JX.exit 0) then
 Option.bind (uncons? j115.snd.fst) fun p133 ↦
 Option.bind (AV.arr? 0 p133.fst) fun x134 ↦
 Option.bind (chk x134.fst 1) fun _ ↦
 Option.bind (uncons? p133.snd) fun p136 ↦
 Option.bind (AV.str? p136.fst) fun _ ↦
 Option.bind (uncons? p136.snd) fun p138 ↦
 Option.bind (AV.int? IntKind.i64 p138.fst) fun _ ↦
 Option.bind (nil? p138.snd) fun _ ↦
 Option.bind (uncons? j115.snd.snd) fun p141 ↦
 Option.bind
 (obIs
 (Ob.mk OK.arr 3 1 1
 [[vi
 (IntKind.wrap IntKind.i64
 (Int.add fixed112 (IntKind.wrap IntKind.i64 (Int.mul 4 many113))))]])
 p141.fst)
 fun _ ↦
 Option.bind (chk p141.fst.ver 1) fun _ ↦
 Option.bind (nil? p141.snd) fun _ ↦
 Option.bind (chk x134.snd.fst 0) fun _ ↦
 Option.bind
 (chk x134.snd.snd
 (List.length (Ob.mk OK.arr 3 1 1 p141.fst.es).es))
 fun _ ↦
 if
 Nat.mul (Nat.add (List.length (Ob.mk OK.arr 3 1 1 p141.fst.es).es) 1)
 8 ≤
 140737488355328 then
 Option.bind
 (E cx
 (Key.loop 164
 [true, true, true, true, true, true, true, true, true, false, true, false])
 [vi 1, vs s111, vi many113,
 vi
 (IntKind.wrap IntKind.i64
 (Int.add fixed112 (IntKind.wrap IntKind.i64 (Int.mul 4 many113)))),
 AV.arr 1 1 0
 (Nat.add (List.length (Ob.mk OK.arr 3 1 1 p141.fst.es).es) 1)]
 [Ob.mk OK.dead 3 1 1 [],
 Ob.mk OK.arr 3 1 1
 ((Ob.mk OK.arr 3 1 1 p141.fst.es).es ++
 [[vi ((ByteArray.size s111) : Int)]])])
 fun r147 ↦
 Option.bind (asJump r147) fun j148 ↦
 bif JX.isPan j148.fst then
 Option.bind (JX.panX 202 j148.fst) fun x149 ↦
 Option.bind (AV.cells? x149) fun cs150 ↦
 Option.bind (uncons? cs150) fun p151 ↦
 Option.bind (AV.int? IntKind.i64 p151.fst) fun n152 ↦
 Option.bind (nil? p151.snd) fun _ ↦
 Option.bind (uncons? j148.snd.fst) fun p154 ↦
 Option.bind (AV.int? IntKind.i64 p154.fst) fun _ ↦
 Option.bind (nil? p154.snd) fun _ ↦
 Option.bind (uncons? j148.snd.snd) fun p157 ↦
 Option.bind
 (obIs (Ob.mk OK.dead 3 1 1 [])
 p157.fst)
 fun _ ↦
 Option.bind (chk p157.fst.ver 1) fun _ ↦
 Option.bind (uncons? p157.snd) fun p160 ↦
 Option.bind
 (obIs
 (Ob.mk OK.arr 3 1 1
 ((Ob.mk OK.arr 3 1 1
 p141.fst.es).es ++
 [[vi ((ByteArray.size s111) : Int)]]))
 p160.fst)
 fun _ ↦
 Option.bind (chk p160.fst.ver 1) fun _ ↦
 Option.bind (nil? p160.snd) fun _ ↦
 some
 (Out.jump
 (JX.pan
 (AV.iface 202
 (AV.agg [vi n152])))
 [],
 [])
 else
 bif JX.is j148.fst (JX.exit 2) then
 Option.bind (uncons? j148.snd.fst) fun p164 ↦
 Option.bind (AV.int? IntKind.i64 p164.fst) fun _ ↦
 Option.bind (nil? p164.snd) fun _ ↦
 Option.bind (uncons? j148.snd.snd) fun p167 ↦
 Option.bind
 (obIs (Ob.mk OK.dead 3 1 1 []) p167.fst)
 fun _ ↦
 Option.bind (chk p167.fst.ver 1) fun _ ↦
 Option.bind (uncons? p167.snd) fun p170 ↦
 Option.bind
 (obIs
 (Ob.mk OK.arr 3 1 1
 ((Ob.mk OK.arr 3 1 1 p141.fst.es).es ++
 [[vi ((ByteArray.size s111) : Int)]]))
 p170.fst)
 fun _ ↦
 Option.bind (chk p170.fst.ver 1) fun _ ↦
 Option.bind (nil? p170.snd) fun _ ↦
 bif decide (many113 > 0) then
 Option.bind
 (chkLe
 (Nat.add 0
 (Nat.add
 (List.length
 (Ob.mk OK.arr 3 1 1
 p141.fst.es).es)
 1))
 (List.length p170.fst.es))
 fun _ ↦
 some
 (Out.ret
 (AV.list 0 1
 (List.drop 0
 (List.take
 (Nat.add 0
 (Nat.add
 (List.length
 (Ob.mk OK.arr 3 1 1
 p141.fst.es).es)
 1))
 p170.fst.es))),
 [])
 else
 bif
 decide
 (IntKind.wrap IntKind.i64
 (Int.add fixed112
 (IntKind.wrap IntKind.i64 (Int.mul 4 many113))) =
 ((ByteArray.size s111) : Int)) then
 Option.bind
 (chkLe
 (Nat.add 0
 (Nat.add
 (List.length
 (Ob.mk OK.arr 3 1 1
 p141.fst.es).es)
 1))
 (List.length p170.fst.es))
 fun _ ↦
 some
 (Out.ret
 (AV.list 0 1
 (List.drop 0
 (List.take
 (Nat.add 0
 (Nat.add
 (List.length
 (Ob.mk OK.arr 3 1 1
 p141.fst.es).es)
 1))
 p170.fst.es))),
 [])
 else
 some
 (Out.jump
 (JX.pan
 (AV.iface 202
 (AV.agg [vi 2])))
 [],
 [])
 else none
 else none
 else none
 else none
 else none
 else none
 else none
 else some (Out.jump (JX.pan (AV.iface 202 (AV.agg [vi 3]))) [], [])
 else some (Out.jump (JX.pan (AV.iface 202 (AV.agg [vi 4]))) [], [])
 else some (Out.jump (JX.pan (AV.iface 202 (AV.agg [vi 1]))) [], [])
 else some (Out.jump (JX.pan (AV.iface 202 (AV.agg [vi 1]))) [], [])
 else some (Out.jump (JX.pan (AV.iface 202 (AV.agg [vi 1]))) [], [])
 else some (Out.jump (JX.pan (AV.iface 202 (AV.agg [vi 1]))) [], []) := by
 intros
 exact (E_in [188] _ _ _).trans (by kernel_rfl)
theorem f164_l0 : ∀ (n176 : Nat) (s177 : ByteArray) (x178 : Int) (s179 : ByteArray) (x180 x181 x182 : Int) (l183 : List (List AV)),
 E cx (Key.loop 164 [true, true, true, true, true, true, true, false, true, false])
 [AV.arr 0 1 0 n176, vs s177, vi x178, vs s179, vi x180, vi x181,
 vi x182]
 [Ob.mk OK.arr 3 1 1 l183] =
 bif decide (x178 < x182) then
 Option.bind (E cx (Key.fn 116) [vs s177, vi 4] []) fun r184 ↦
 Option.bind (ret1 r184) fun v185 ↦
 Option.bind (AV.tup? v185) fun vs186 ↦
 Option.bind (uncons? vs186) fun p187 ↦
 Option.bind (AV.int? IntKind.u64 p187.fst) fun n188 ↦
 Option.bind (uncons? p187.snd) fun p189 ↦
 Option.bind (AV.str? p189.fst) fun s190 ↦
 Option.bind (uncons? p189.snd) fun p191 ↦
 Option.bind (AV.int? IntKind.i64 p191.fst) fun _ ↦
 Option.bind (nil? p191.snd) fun _ ↦
 bif decide (x178 > 0) then
 Option.bind (chk n176 (List.length (Ob.mk OK.arr 3 1 1 l183).es)) fun _ ↦
 if Nat.mul (Nat.add (List.length (Ob.mk OK.arr 3 1 1 l183).es) 1) 8 ≤ 140737488355328 then
 bif decide (x178 > 0) then
 E cx (Key.loop 164 [true, true, true, true, true, true, true, false, true, false])
 [AV.arr 0 1 0 (Nat.add (List.length (Ob.mk OK.arr 3 1 1 l183).es) 1),
 vs s190, vi (IntKind.wrap IntKind.i64 (Int.add x178 1)), vs s179,
 vi x180, vi x181, vi x182]
 [Ob.mk OK.arr 3 1 1
 ((Ob.mk OK.arr 3 1 1 l183).es ++ [[vi (IntKind.wrap IntKind.i64 n188)]])]
 else
 bif decide (IntKind.wrap IntKind.i64 n188 = x181) then
 E cx (Key.loop 164 [true, true, true, true, true, true, true, false, true, false])
 [AV.arr 0 1 0 (Nat.add (List.length (Ob.mk OK.arr 3 1 1 l183).es) 1),
 vs s190, vi (IntKind.wrap IntKind.i64 (Int.add x178 1)), vs s179,
 vi x180, vi x181, vi x182]
 [Ob.mk OK.arr 3 1 1
 ((Ob.mk OK.arr 3 1 1 l183).es ++ [[vi (IntKind.wrap IntKind.i64 n188)]])]
 else
 some
 (Out.jump (JX.pan (AV.iface 202 (AV.agg [vi 2])))
 [AV.arr 0 1 0 (Nat.add (List.length (Ob.mk OK.arr 3 1 1 l183).es) 1),
 vs s190, vi x178],
 [Ob.mk OK.arr 3 1 1
 ((Ob.mk OK.arr 3 1 1 l183).es ++
 [[vi (IntKind.wrap IntKind.i64 n188)]])])
 else none
 else
 bif decide (x178 > 0) then
 E cx (Key.loop 164 [true, true, true, true, true, true, true, false, true, false])
 [AV.arr 0 1 0 n176, vs s190, vi (IntKind.wrap IntKind.i64 (Int.add x178 1)),
 vs s179, vi x180, vi x181, vi x182]
 [Ob.mk OK.arr 3 1 1 l183]
 else
 bif decide (IntKind.wrap IntKind.i64 n188 = x181) then
 E cx (Key.loop 164 [true, true, true, true, true, true, true, false, true, false])
 [AV.arr 0 1 0 n176, vs s190, vi (IntKind.wrap IntKind.i64 (Int.add x178 1)),
 vs s179, vi x180, vi x181, vi x182]
 [Ob.mk OK.arr 3 1 1 l183]
 else
 some
 (Out.jump (JX.pan (AV.iface 202 (AV.agg [vi 2])))
 [AV.arr 0 1 0 n176, vs s190, vi x178],
 [Ob.mk OK.arr 3 1 1 l183])
 else
 some
 (Out.jump (JX.exit 0) [AV.arr 0 1 0 n176, vs s177, vi x178],
 [Ob.mk OK.arr 3 1 1 l183]) := by
 intros
 exact (E_in [188] _ _ _).trans (by kernel_rfl)
theorem f164_l1 : ∀ (x195 : Int) (s196 : ByteArray) (x197 x198 : Int) (n199 : Nat) (l200 : List (List AV)),
 E cx (Key.loop 164 [true, true, true, true, true, true, true, true, true, false, true, false])
 [vi x195, vs s196, vi x197, vi x198, AV.arr 1 1 0 n199]
 [Ob.mk OK.dead 3 1 1 [], Ob.mk OK.arr 3 1 1 l200] =
 bif decide (x195 < (n199 : Int)) then
 if 0 ≤ IntKind.wrap IntKind.i64 (Int.sub x195 1) then
 if IntKind.wrap IntKind.i64 (Int.sub x195 1) < (n199 : Int) then
 Option.bind (nth l200 (Nat.add 0 (Int.toNat (IntKind.wrap IntKind.i64 (Int.sub x195 1))))) fun cs201 ↦
 Option.bind (uncons? cs201) fun p202 ↦
 Option.bind (AV.int? IntKind.i64 p202.fst) fun n203 ↦
 Option.bind (nil? p202.snd) fun _ ↦
 if 0 ≤ x195 then
 if x195 < (n199 : Int) then
 Option.bind (nth l200 (Nat.add 0 (Int.toNat x195))) fun cs205 ↦
 Option.bind (uncons? cs205) fun p206 ↦
 Option.bind (AV.int? IntKind.i64 p206.fst) fun n207 ↦
 Option.bind (nil? p206.snd) fun _ ↦
 bif decide (n203 ≤ n207) then
 E cx
 (Key.loop 164 [true, true, true, true, true, true, true, true, true, false, true, false])
 [vi (IntKind.wrap IntKind.i64 (Int.add x195 1)), vs s196, vi x197,
 vi x198, AV.arr 1 1 0 n199]
 [Ob.mk OK.dead 3 1 1 [], Ob.mk OK.arr 3 1 1 l200]
 else
 some
 (Out.jump (JX.pan (AV.iface 202 (AV.agg [vi 2])))
 [vi x195],
 [Ob.mk OK.dead 3 1 1 [], Ob.mk OK.arr 3 1 1 l200])
 else none
 else none
 else none
 else none
 else
 some
 (Out.jump (JX.exit 2) [vi x195],
 [Ob.mk OK.dead 3 1 1 [], Ob.mk OK.arr 3 1 1 l200]) := by
 intros
 exact (E_in [188] _ _ _).trans (by kernel_rfl)
theorem f25 : ∀ (x209 x210 x211 x212 x213 x214 : Int) (x215 x216 : List (List AV)) (x217 : Bool),
 E cx (Key.fn 25)
 [AV.agg
 [vi x209, vi x210, vi x211, vi x212, vi x213, vi x214,
 AV.list 0 1 x215, AV.list 0 1 x216, vbool x217]]
 [] =
 Option.bind (E cx (Key.fn 95) [vi x209, vi 300] []) fun r218 ↦
 Option.bind (ret1 r218) fun v219 ↦
 Option.bind (AV.int? IntKind.i64 v219) fun n220 ↦
 Option.bind (E cx (Key.fn 95) [vi x210, vi 9] []) fun r221 ↦
 Option.bind (ret1 r221) fun v222 ↦
 Option.bind (AV.int? IntKind.i64 v222) fun n223 ↦
 Option.bind (E cx (Key.fn 95) [vi x211, vi 4] []) fun r224 ↦
 Option.bind (ret1 r224) fun v225 ↦
 Option.bind (AV.int? IntKind.i64 v225) fun n226 ↦
 Option.bind (E cx (Key.fn 95) [vi x212, vi 20] []) fun r227 ↦
 Option.bind (ret1 r227) fun v228 ↦
 Option.bind (AV.int? IntKind.i64 v228) fun n229 ↦
 Option.bind (E cx (Key.fn 95) [vi x213, vi 20] []) fun r230 ↦
 Option.bind (ret1 r230) fun v231 ↦
 Option.bind (AV.int? IntKind.i64 v231) fun n232 ↦
 Option.bind
 (E cx (Key.fn 55)
 [vi x214, vi 40, AV.list 0 1 x215] [])
 fun r233 ↦
 Option.bind (ret1 r233) fun v234 ↦
 Option.bind (AV.cells? v234) fun cs235 ↦
 Option.bind (uncons? cs235) fun p236 ↦
 Option.bind (AV.int? IntKind.i64 p236.fst) fun n237 ↦
 Option.bind (uncons? p236.snd) fun p238 ↦
 Option.bind (AV.list? 1 p238.fst) fun es239 ↦
 Option.bind (nil? p238.snd) fun _ ↦
 Option.bind
 (E cx (Key.fn 37)
 [AV.list 0 1 x216, vbool x217] [])
 fun r241 ↦
 Option.bind (ret1 r241) fun v242 ↦
 Option.bind (AV.cells? v242) fun cs243 ↦
 Option.bind (uncons? cs243) fun p244 ↦
 Option.bind (AV.bool? p244.fst) fun b245 ↦
 Option.bind (uncons? p244.snd) fun p246 ↦
 Option.bind (AV.list? 2 p246.fst) fun es247 ↦
 Option.bind (nil? p246.snd) fun _ ↦
 some
 (Out.ret
 (AV.agg
 [vu (IntKind.wrap IntKind.u64 n220),
 vu (IntKind.wrap IntKind.u64 n223),
 vu (IntKind.wrap IntKind.u64 n226),
 vu (IntKind.wrap IntKind.u64 n229),
 vu (IntKind.wrap IntKind.u64 n232), vi n237,
 AV.list 0 1 es239, vbool b245,
 AV.list 0 2 es247]),
 []) := by
 intros
 exact (E_in [188] _ _ _).trans (by kernel_rfl)
theorem f28 : ∀ (x249 x250 x251 x252 x253 x254 : Int) (x255 x256 : List (List AV)) (x257 : Bool) (by258 : Int) (proof259 : List (List AV)),
 E cx (Key.fn 28)
 [AV.agg
 [vi x249, vi x250, vi x251, vi x252, vi x253, vi x254,
 AV.list 0 1 x255, AV.list 0 1 x256, vbool x257],
 vi by258, AV.list 0 1 proof259]
 [] =
 Option.bind (E cx (Key.fn 95) [vi by258, vi 100] []) fun r260 ↦
 Option.bind (ret1 r260) fun v261 ↦
 Option.bind (AV.int? IntKind.i64 v261) fun n262 ↦
 Option.bind (E cx (Key.fn 95) [vi by258, vi 7] []) fun r263 ↦
 Option.bind (ret1 r263) fun v264 ↦
 Option.bind (AV.int? IntKind.i64 v264) fun n265 ↦
 bif decide (n265 = 0) then
 Option.bind (E cx (Key.fn 37) [AV.list 0 1 proof259, vbool true] [])
 fun r266 ↦
 Option.bind (ret1 r266) fun v267 ↦
 Option.bind (AV.cells? v267) fun cs268 ↦
 Option.bind (uncons? cs268) fun p269 ↦
 Option.bind (AV.bool? p269.fst) fun b270 ↦
 Option.bind (uncons? p269.snd) fun p271 ↦
 Option.bind (AV.list? 2 p271.fst) fun es272 ↦
 Option.bind (nil? p271.snd) fun _ ↦
 Option.bind
 (E cx (Key.fn 25)
 [AV.agg
 [vi x249, vi x250, vi x251, vi x252, vi x253,
 vi x254, AV.list 0 1 x255, AV.list 0 1 x256, vbool x257]]
 [])
 fun r274 ↦
 Option.bind (ret1 r274) fun v275 ↦
 Option.bind (AV.cells? v275) fun cs276 ↦
 Option.bind (uncons? cs276) fun p277 ↦
 Option.bind (AV.int? IntKind.u64 p277.fst) fun n278 ↦
 Option.bind (uncons? p277.snd) fun p279 ↦
 Option.bind (AV.int? IntKind.u64 p279.fst) fun n280 ↦
 Option.bind (uncons? p279.snd) fun p281 ↦
 Option.bind (AV.int? IntKind.u64 p281.fst) fun n282 ↦
 Option.bind (uncons? p281.snd) fun p283 ↦
 Option.bind (AV.int? IntKind.u64 p283.fst) fun n284 ↦
 Option.bind (uncons? p283.snd) fun p285 ↦
 Option.bind (AV.int? IntKind.u64 p285.fst) fun n286 ↦
 Option.bind (uncons? p285.snd) fun p287 ↦
 Option.bind (AV.int? IntKind.i64 p287.fst) fun n288 ↦
 Option.bind (uncons? p287.snd) fun p289 ↦
 Option.bind (AV.list? 1 p289.fst) fun es290 ↦
 Option.bind (uncons? p289.snd) fun p291 ↦
 Option.bind (AV.bool? p291.fst) fun b292 ↦
 Option.bind (uncons? p291.snd) fun p293 ↦
 Option.bind (AV.list? 2 p293.fst) fun es294 ↦
 Option.bind (nil? p293.snd) fun _ ↦
 some
 (Out.ret
 (AV.agg
 [vu (IntKind.wrap IntKind.u64 n262),
 vbool b270, AV.list 0 2 es272,
 vu n278, vu n280, vu n282,
 vu n284, vu n286, vi n288,
 AV.list 0 1 es290, vbool b292,
 AV.list 0 2 es294]),
 [])
 else
 Option.bind (E cx (Key.fn 37) [AV.list 0 1 proof259, vbool false] [])
 fun r296 ↦
 Option.bind (ret1 r296) fun v297 ↦
 Option.bind (AV.cells? v297) fun cs298 ↦
 Option.bind (uncons? cs298) fun p299 ↦
 Option.bind (AV.bool? p299.fst) fun b300 ↦
 Option.bind (uncons? p299.snd) fun p301 ↦
 Option.bind (AV.list? 2 p301.fst) fun es302 ↦
 Option.bind (nil? p301.snd) fun _ ↦
 Option.bind
 (E cx (Key.fn 25)
 [AV.agg
 [vi x249, vi x250, vi x251, vi x252, vi x253,
 vi x254, AV.list 0 1 x255, AV.list 0 1 x256, vbool x257]]
 [])
 fun r304 ↦
 Option.bind (ret1 r304) fun v305 ↦
 Option.bind (AV.cells? v305) fun cs306 ↦
 Option.bind (uncons? cs306) fun p307 ↦
 Option.bind (AV.int? IntKind.u64 p307.fst) fun n308 ↦
 Option.bind (uncons? p307.snd) fun p309 ↦
 Option.bind (AV.int? IntKind.u64 p309.fst) fun n310 ↦
 Option.bind (uncons? p309.snd) fun p311 ↦
 Option.bind (AV.int? IntKind.u64 p311.fst) fun n312 ↦
 Option.bind (uncons? p311.snd) fun p313 ↦
 Option.bind (AV.int? IntKind.u64 p313.fst) fun n314 ↦
 Option.bind (uncons? p313.snd) fun p315 ↦
 Option.bind (AV.int? IntKind.u64 p315.fst) fun n316 ↦
 Option.bind (uncons? p315.snd) fun p317 ↦
 Option.bind (AV.int? IntKind.i64 p317.fst) fun n318 ↦
 Option.bind (uncons? p317.snd) fun p319 ↦
 Option.bind (AV.list? 1 p319.fst) fun es320 ↦
 Option.bind (uncons? p319.snd) fun p321 ↦
 Option.bind (AV.bool? p321.fst) fun b322 ↦
 Option.bind (uncons? p321.snd) fun p323 ↦
 Option.bind (AV.list? 2 p323.fst) fun es324 ↦
 Option.bind (nil? p323.snd) fun _ ↦
 some
 (Out.ret
 (AV.agg
 [vu (IntKind.wrap IntKind.u64 n262),
 vbool b300, AV.list 0 2 es302,
 vu n308, vu n310, vu n312,
 vu n314, vu n316, vi n318,
 AV.list 0 1 es320, vbool b322,
 AV.list 0 2 es324]),
 []) := by
 intros
 exact (E_in [188] _ _ _).trans (by kernel_rfl)
theorem f33 : ∀ (a326 a327 a328 a329 a330 a331 : Int) (a332 : List (List AV)) (a333 : Bool) (a334 : List (List AV))
 (b335 b336 b337 b338 b339 b340 : Int) (b341 : List (List AV)) (b342 : Bool) (b343 : List (List AV)),
 E cx (Key.fn 33)
 [AV.agg
 [vu a326, vu a327, vu a328, vu a329, vu a330, vi a331,
 AV.list 0 1 a332, vbool a333, AV.list 0 2 a334],
 AV.agg
 [vu b335, vu b336, vu b337, vu b338, vu b339, vi b340,
 AV.list 0 1 b341, vbool b342, AV.list 0 2 b343]]
 [] =
 Option.bind
 (E cx (Key.fn 67)
 [AV.agg [vi a331, AV.list 0 1 a332], AV.agg [vi b340, AV.list 0 1 b341]]
 [])
 fun r344 ↦
 Option.bind (ret1 r344) fun v345 ↦
 Option.bind (AV.bool? v345) fun b346 ↦
 bif b346 then
 Option.bind
 (E cx (Key.fn 47)
 [AV.agg [vbool a333, AV.list 0 2 a334],
 AV.agg [vbool b342, AV.list 0 2 b343]]
 [])
 fun r347 ↦
 Option.bind (ret1 r347) fun v348 ↦
 Option.bind (AV.bool? v348) fun b349 ↦
 bif b349 then
 bif
 decide (a326 = b335) &&
 (decide (a327 = b336) && (decide (a328 = b337) && (decide (a329 = b338) && (decide (a330 = b339) && true)))) then
 some (Out.ret (vbool true), [])
 else some (Out.ret (vbool false), [])
 else
 bif
 decide (a326 = b335) &&
 (decide (a327 = b336) && (decide (a328 = b337) && (decide (a329 = b338) && (decide (a330 = b339) && true)))) then
 some (Out.ret (vbool false), [])
 else some (Out.ret (vbool false), [])
 else
 Option.bind
 (E cx (Key.fn 47)
 [AV.agg [vbool a333, AV.list 0 2 a334],
 AV.agg [vbool b342, AV.list 0 2 b343]]
 [])
 fun r350 ↦
 Option.bind (ret1 r350) fun v351 ↦
 Option.bind (AV.bool? v351) fun b352 ↦
 bif b352 then
 bif
 decide (a326 = b335) &&
 (decide (a327 = b336) && (decide (a328 = b337) && (decide (a329 = b338) && (decide (a330 = b339) && true)))) then
 some (Out.ret (vbool false), [])
 else some (Out.ret (vbool false), [])
 else
 bif
 decide (a326 = b335) &&
 (decide (a327 = b336) && (decide (a328 = b337) && (decide (a329 = b338) && (decide (a330 = b339) && true)))) then
 some (Out.ret (vbool false), [])
 else some (Out.ret (vbool false), []) := by
 intros
 exact (E_in [188] _ _ _).trans (by kernel_rfl)
theorem f34 : ∀ (a353 : Int) (a354 : Bool) (a355 : List (List AV)) (a356 a357 a358 a359 a360 a361 : Int) (a362 : List (List AV)) (a363 : Bool)
 (a364 : List (List AV)) (b365 : Int) (b366 : Bool) (b367 : List (List AV)) (b368 b369 b370 b371 b372 b373 : Int)
 (b374 : List (List AV)) (b375 : Bool) (b376 : List (List AV)),
 E cx (Key.fn 34)
 [AV.agg
 [vu a353, vbool a354, AV.list 0 2 a355, vu a356, vu a357, vu a358,
 vu a359, vu a360, vi a361, AV.list 0 1 a362, vbool a363,
 AV.list 0 2 a364],
 AV.agg
 [vu b365, vbool b366, AV.list 0 2 b367, vu b368, vu b369, vu b370,
 vu b371, vu b372, vi b373, AV.list 0 1 b374, vbool b375,
 AV.list 0 2 b376]]
 [] =
 Option.bind
 (E cx (Key.fn 47)
 [AV.agg [vbool a354, AV.list 0 2 a355],
 AV.agg [vbool b366, AV.list 0 2 b367]]
 [])
 fun r377 ↦
 Option.bind (ret1 r377) fun v378 ↦
 Option.bind (AV.bool? v378) fun b379 ↦
 bif b379 then
 Option.bind
 (E cx (Key.fn 33)
 [AV.agg
 [vu a356, vu a357, vu a358, vu a359, vu a360, vi a361,
 AV.list 0 1 a362, vbool a363, AV.list 0 2 a364],
 AV.agg
 [vu b368, vu b369, vu b370, vu b371, vu b372, vi b373,
 AV.list 0 1 b374, vbool b375, AV.list 0 2 b376]]
 [])
 fun r380 ↦
 Option.bind (ret1 r380) fun v381 ↦
 Option.bind (AV.bool? v381) fun b382 ↦
 bif b382 then
 bif decide (a353 = b365) then some (Out.ret (vbool true), [])
 else some (Out.ret (vbool false), [])
 else
 bif decide (a353 = b365) then some (Out.ret (vbool false), [])
 else some (Out.ret (vbool false), [])
 else
 Option.bind
 (E cx (Key.fn 33)
 [AV.agg
 [vu a356, vu a357, vu a358, vu a359, vu a360, vi a361,
 AV.list 0 1 a362, vbool a363, AV.list 0 2 a364],
 AV.agg
 [vu b368, vu b369, vu b370, vu b371, vu b372, vi b373,
 AV.list 0 1 b374, vbool b375, AV.list 0 2 b376]]
 [])
 fun r383 ↦
 Option.bind (ret1 r383) fun v384 ↦
 Option.bind (AV.bool? v384) fun b385 ↦
 bif b385 then
 bif decide (a353 = b365) then some (Out.ret (vbool false), [])
 else some (Out.ret (vbool false), [])
 else
 bif decide (a353 = b365) then some (Out.ret (vbool false), [])
 else some (Out.ret (vbool false), []) := by
 intros
 exact (E_in [188] _ _ _).trans (by kernel_rfl)
theorem f35 : ∀ (s386 : ByteArray) (at387 c388 : Int),
 E cx (Key.fn 35) [vs s386, vi at387, vb c388] [] =
 bif decide (((ByteArray.size s386) : Int) = 0) then some (Out.ret (vs s386), [])
 else
 Option.bind (E cx (Key.fn 95) [vi at387, vi ((ByteArray.size s386) : Int)] []) fun r389 ↦
 Option.bind (ret1 r389) fun v390 ↦
 Option.bind (AV.int? IntKind.i64 v390) fun n391 ↦
 if 0 ≤ n391 then
 if n391 ≤ ((ByteArray.size s386) : Int) then
 if ((Nat.add (ByteArray.size (ByteArray.extract s386 0 (Int.toNat n391))) (ByteArray.size (Go.strOfNums [c388]))) : Int) > 9223372036854775807 then
 none
 else
 if 0 ≤ IntKind.wrap IntKind.i64 (Int.add n391 1) then
 if IntKind.wrap IntKind.i64 (Int.add n391 1) ≤ ((ByteArray.size s386) : Int) then
 if
 ((Nat.add (ByteArray.size (ByteArray.append (ByteArray.extract s386 0 (Int.toNat n391)) (Go.strOfNums [c388])))
 (ByteArray.size (ByteArray.extract s386 (Int.toNat (IntKind.wrap IntKind.i64 (Int.add n391 1))) (ByteArray.size s386)))) : Int) >
 9223372036854775807 then
 none
 else
 some
 (Out.ret
 (vs
 (ByteArray.append (ByteArray.append (ByteArray.extract s386 0 (Int.toNat n391)) (Go.strOfNums [c388]))
 (ByteArray.extract s386 (Int.toNat (IntKind.wrap IntKind.i64 (Int.add n391 1))) (ByteArray.size s386)))),
 [])
 else none
 else none
 else none
 else none := by
 intros
 exact (E_in [188] _ _ _).trans (by kernel_rfl)
theorem f95 : ∀ (c392 n393 : Int),
 E cx (Key.fn 95) [vi c392, vi n393] [] =
 bif decide (c392 < 0) then
 if n393 = 0 then none
 else
 some
 (Out.ret
 (vi (Int.tmod (IntKind.wrap IntKind.i64 (Int.sub 0 (IntKind.wrap IntKind.i64 (Int.add c392 1)))) n393)),
 [])
 else if n393 = 0 then none else some (Out.ret (vi (Int.tmod c392 n393)), []) := by
 intros
 exact (E_in [188] _ _ _).trans (by kernel_rfl)
theorem f99 : ∀ (x394 : ByteArray) (e395 : Int),
 E cx (Key.fn 99) [vs x394, vi e395] [] =
 bif e395 != 0 then some (Out.jump (JX.pan (AV.iface 175 (AV.agg [vi e395]))) [], [])
 else some (Out.ret (vs x394), []) := by
 intros
 exact (E_in [188] _ _ _).trans (by kernel_rfl)
theorem f104 : ∀ (x396 : Bool) (x397 : List (List AV)) (e398 : Int),
 E cx (Key.fn 104) [AV.agg [vbool x396, AV.list 0 2 x397], vi e398]
 [] =
 bif e398 != 0 then some (Out.jump (JX.pan (AV.iface 175 (AV.agg [vi e398]))) [], [])
 else some (Out.ret (AV.agg [vbool x396, AV.list 0 2 x397]), []) := by
 intros
 exact (E_in [188] _ _ _).trans (by kernel_rfl)
theorem f144 : ∀ (x399 : Int) (x400 : List (List AV)) (e401 : Int),
 E cx (Key.fn 144) [AV.agg [vi x399, AV.list 0 1 x400], vi e401]
 [] =
 bif e401 != 0 then some (Out.jump (JX.pan (AV.iface 175 (AV.agg [vi e401]))) [], [])
 else some (Out.ret (AV.agg [vi x399, AV.list 0 1 x400]), []) := by
 intros
 exact (E_in [188] _ _ _).trans (by kernel_rfl)
theorem f146 : ∀ (x402 e403 : Int),
 E cx (Key.fn 146) [vu x402, vi e403] [] =
 bif e403 != 0 then some (Out.jump (JX.pan (AV.iface 175 (AV.agg [vi e403]))) [], [])
 else some (Out.ret (vu x402), []) := by
 intros
 exact (E_in [188] _ _ _).trans (by kernel_rfl)
theorem f101 : ∀ (l404 : List (List AV)),
 E cx (Key.fn 101) [AV.list 0 1 l404] [] =
 Option.bind
 (E cx (Key.loop 101 [true, false, true, false])
 [vs (ByteArray.mk (Array.mk [])), vi 0, AV.list 0 1 l404, vi ((List.length l404) : Int)] [])
 fun r405 ↦
 Option.bind (asJump r405) fun j406 ↦
 bif JX.is j406.fst (JX.exit 0) then
 Option.bind (uncons? j406.snd.fst) fun p407 ↦
 Option.bind (AV.str? p407.fst) fun s408 ↦
 Option.bind (uncons? p407.snd) fun p409 ↦
 Option.bind (AV.int? IntKind.i64 p409.fst) fun _ ↦
 Option.bind (nil? p409.snd) fun _ ↦
 Option.bind (nil? j406.snd.snd) fun _ ↦ some (Out.ret (vs s408), [])
 else none := by
 intros
 exact (E_in [188] _ _ _).trans (by kernel_rfl)
theorem f101_l0 : ∀ (s413 : ByteArray) (x414 : Int) (l415 : List (List AV)) (x416 : Int),
 E cx (Key.loop 101 [true, false, true, false])
 [vs s413, vi x414, AV.list 0 1 l415, vi x416] [] =
 bif decide (x414 < x416) then
 if 0 ≤ x414 then
 Option.bind l415[Int.toNat x414]? fun cs417 ↦
 Option.bind (uncons? cs417) fun p418 ↦
 Option.bind (AV.int? IntKind.u64 p418.fst) fun n419 ↦
 Option.bind (nil? p418.snd) fun _ ↦
 Option.bind (E cx (Key.fn 106) [vu n419, vi 8] []) fun r421 ↦
 Option.bind (ret1 r421) fun v422 ↦
 Option.bind (AV.str? v422) fun s423 ↦
 if ((Nat.add (ByteArray.size s413) (ByteArray.size s423)) : Int) > 9223372036854775807 then none
 else
 E cx (Key.loop 101 [true, false, true, false])
 [vs (ByteArray.append s413 s423), vi (IntKind.wrap IntKind.i64 (Int.add x414 1)),
 AV.list 0 1 l415, vi x416]
 []
 else none
 else some (Out.jump (JX.exit 0) [vs s413, vi x414], []) := by
 intros
 exact (E_in [188] _ _ _).trans (by kernel_rfl)
theorem f143 : ∀ (d424 d425 d426 d427 d428 : Int),
 E cx (Key.fn 143)
 [AV.agg [vu d424, vu d425, vu d426, vu d427, vu d428]] [] =
 Option.bind
 (E cx (Key.fn 101)
 [AV.list 0 1 [[vu d424], [vu d425], [vu d426], [vu d427], [vu d428]]] [])
 fun r429 ↦
 Option.bind (ret1 r429) fun v430 ↦ Option.bind (AV.str? v430) fun s431 ↦ some (Out.ret (vs s431), []) := by
 intros
 exact (E_in [188] _ _ _).trans (by kernel_rfl)
theorem f102 : ∀ (s432 : ByteArray) (size433 : Int),
 E cx (Key.fn 102) [vs s432, vi size433] [] =
 Option.bind (E cx (Key.fn 145) [vs s432, vi size433, vi 2] []) fun r434 ↦
 Option.bind (ret1 r434) fun v435 ↦
 Option.bind (AV.tup? v435) fun vs436 ↦
 Option.bind (uncons? vs436) fun p437 ↦
 Option.bind (AV.str? p437.fst) fun s438 ↦
 Option.bind (uncons? p437.snd) fun p439 ↦
 Option.bind (AV.list? 1 p439.fst) fun es440 ↦
 Option.bind (uncons? p439.snd) fun p441 ↦
 Option.bind (AV.int? IntKind.i64 p441.fst) fun n442 ↦
 Option.bind (nil? p441.snd) fun _ ↦
 Option.bind (E cx (Key.fn 99) [vs s438, vi n442] []) fun r444 ↦
 bif isPan r444 then
 Option.bind (panV 175 r444) fun x445 ↦
 Option.bind (AV.cells? x445) fun cs446 ↦
 Option.bind (uncons? cs446) fun p447 ↦
 Option.bind (AV.int? IntKind.i64 p447.fst) fun n448 ↦
 Option.bind (nil? p447.snd) fun _ ↦
 some
 (Out.jump (JX.pan (AV.iface 175 (AV.agg [vi n448])))
 [],
 [])
 else
 Option.bind (ret1 r444) fun v450 ↦
 Option.bind (AV.str? v450) fun _ ↦
 some (Out.ret (AV.rop [vs s438, AV.list 0 1 es440]), []) := by
 intros
 exact (E_in [188] _ _ _).trans (by kernel_rfl)
theorem f103 : ∀ (f452 : ByteArray),
 E cx (Key.fn 103) [AV.rop [vs f452]] [] =
 Option.bind (E cx (Key.fn 116) [vs f452, vi 8] []) fun r453 ↦
 Option.bind (ret1 r453) fun v454 ↦
 Option.bind (AV.tup? v454) fun vs455 ↦
 Option.bind (uncons? vs455) fun p456 ↦
 Option.bind (AV.int? IntKind.u64 p456.fst) fun _ ↦
 Option.bind (uncons? p456.snd) fun p458 ↦
 Option.bind (AV.str? p458.fst) fun _ ↦
 Option.bind (uncons? p458.snd) fun p460 ↦
 Option.bind (AV.int? IntKind.i64 p460.fst) fun _ ↦ Option.bind (nil? p460.snd) fun _ ↦ none := by
 intros
 exact (E_in [188] _ _ _).trans (by kernel_rfl)
theorem f97 : ∀ (v463 v464 v465 v466 v467 v468 : Int) (v469 : List (List AV)) (v470 : Bool) (v471 : List (List AV)),
 E cx (Key.fn 97)
 [AV.agg
 [vu v463, vu v464, vu v465, vu v466, vu v467, vi v468,
 AV.list 0 1 v469, vbool v470, AV.list 0 2 v471]]
 [] =
 Option.bind (E cx (Key.fn 56) [AV.agg [vi v468, AV.list 0 1 v469]] [])
 fun r472 ↦
 Option.bind (ret1 r472) fun v473 ↦
 Option.bind (AV.tup? v473) fun vs474 ↦
 Option.bind (uncons? vs474) fun p475 ↦
 Option.bind (AV.str? p475.fst) fun s476 ↦
 Option.bind (uncons? p475.snd) fun p477 ↦
 Option.bind (AV.int? IntKind.i64 p477.fst) fun n478 ↦
 Option.bind (nil? p477.snd) fun _ ↦
 Option.bind (E cx (Key.fn 99) [vs s476, vi n478] []) fun r480 ↦
 bif isPan r480 then
 Option.bind (panV 175 r480) fun x481 ↦
 Option.bind (AV.cells? x481) fun cs482 ↦
 Option.bind (uncons? cs482) fun p483 ↦
 Option.bind (AV.int? IntKind.i64 p483.fst) fun n484 ↦
 Option.bind (nil? p483.snd) fun _ ↦
 some
 (Out.jump (JX.pan (AV.iface 175 (AV.agg [vi n484]))) [],
 [])
 else
 Option.bind (ret1 r480) fun v486 ↦
 Option.bind (AV.str? v486) fun s487 ↦
 Option.bind
 (E cx (Key.fn 38)
 [AV.agg [vbool v470, AV.list 0 2 v471]] [])
 fun r488 ↦
 Option.bind (ret1 r488) fun v489 ↦
 Option.bind (AV.tup? v489) fun vs490 ↦
 Option.bind (uncons? vs490) fun p491 ↦
 Option.bind (AV.str? p491.fst) fun s492 ↦
 Option.bind (uncons? p491.snd) fun p493 ↦
 Option.bind (AV.int? IntKind.i64 p493.fst) fun n494 ↦
 Option.bind (nil? p493.snd) fun _ ↦
 Option.bind
 (E cx (Key.fn 99) [vs s492, vi n494] [])
 fun r496 ↦
 bif isPan r496 then
 Option.bind (panV 175 r496) fun x497 ↦
 Option.bind (AV.cells? x497) fun cs498 ↦
 Option.bind (uncons? cs498) fun p499 ↦
 Option.bind (AV.int? IntKind.i64 p499.fst) fun n500 ↦
 Option.bind (nil? p499.snd) fun _ ↦
 some
 (Out.jump
 (JX.pan (AV.iface 175 (AV.agg [vi n500])))
 [],
 [])
 else
 Option.bind (ret1 r496) fun v502 ↦
 Option.bind (AV.str? v502) fun s503 ↦
 Option.bind
 (E cx (Key.fn 143)
 [AV.agg
 [vu v463, vu v464, vu v465, vu v466,
 vu v467]]
 [])
 fun r504 ↦
 Option.bind (ret1 r504) fun v505 ↦
 Option.bind (AV.str? v505) fun s506 ↦
 Option.bind
 (E cx (Key.fn 100)
 [vs s506, AV.list 0 1 [[vs s487], [vs s503]]]
 [])
 fun r507 ↦
 Option.bind (ret1 r507) fun v508 ↦
 Option.bind (AV.tup? v508) fun vs509 ↦
 Option.bind (uncons? vs509) fun p510 ↦
 Option.bind (AV.str? p510.fst) fun s511 ↦
 Option.bind (uncons? p510.snd) fun p512 ↦
 Option.bind (AV.int? IntKind.i64 p512.fst) fun n513 ↦
 Option.bind (nil? p512.snd) fun _ ↦
 Option.bind
 (E cx (Key.fn 99)
 [vs s511, vi n513] [])
 fun r515 ↦
 bif isPan r515 then
 Option.bind (panV 175 r515) fun x516 ↦
 Option.bind (AV.cells? x516) fun cs517 ↦
 Option.bind (uncons? cs517) fun p518 ↦
 Option.bind (AV.int? IntKind.i64 p518.fst) fun n519 ↦
 Option.bind (nil? p518.snd) fun _ ↦
 some
 (Out.jump
 (JX.pan
 (AV.iface 175
 (AV.agg [vi n519])))
 [],
 [])
 else
 Option.bind (ret1 r515) fun v521 ↦
 Option.bind (AV.str? v521) fun s522 ↦
 some (Out.ret (vs s522), []) := by
 intros
 exact (E_in [188] _ _ _).trans (by kernel_rfl)
theorem f98 : ∀ (s523 : ByteArray),
 E cx (Key.fn 98) [vs s523] [] =
 Option.bind (E cx (Key.own 102) [vs s523, vi 40] []) fun r524 ↦
 bif isPan r524 then
 Option.bind (panV 175 r524) fun x525 ↦
 Option.bind (AV.cells? x525) fun cs526 ↦
 Option.bind (uncons? cs526) fun p527 ↦
 Option.bind (AV.int? IntKind.i64 p527.fst) fun n528 ↦
 Option.bind (nil? p527.snd) fun _ ↦
 some (Out.jump (JX.pan (AV.iface 175 (AV.agg [vi n528]))) [], [])
 else
 Option.bind (E cx (Key.own 102) [vs s523, vi 40] []) fun r530 ↦
 Option.bind (asRet r530) fun x531 ↦
 Option.bind (AV.pIs 0 0 0 0 x531.fst) fun _ ↦
 Option.bind (uncons? x531.snd) fun p533 ↦
 Option.bind
 (obIs
 (Ob.mk OK.box 140 2 0 [[vs (ByteArray.mk (Array.mk [])), AV.list 0 1 []]]) p533.fst)
 fun _ ↦
 Option.bind (chk p533.fst.ver 0) fun _ ↦
 Option.bind (uncons? p533.fst.es) fun p536 ↦
 Option.bind (nil? p536.snd) fun _ ↦
 Option.bind (uncons? p536.fst) fun p538 ↦
 Option.bind (AV.str? p538.fst) fun s539 ↦
 Option.bind (uncons? p538.snd) fun p540 ↦
 Option.bind (AV.list? 1 p540.fst) fun es541 ↦
 Option.bind (nil? p540.snd) fun _ ↦
 Option.bind (nil? p533.snd) fun _ ↦
 Option.bind
 (E cx (Key.own 103) [AV.ptr 0 0 0 0]
 [Ob.mk OK.box 140 2 0 [[vs s539, AV.list 0 1 es541]]])
 fun r544 ↦
 Option.bind (asRet r544) fun x545 ↦
 Option.bind (AV.int? IntKind.u64 x545.fst) fun n546 ↦
 Option.bind (uncons? x545.snd) fun p547 ↦
 Option.bind
 (obIs
 (Ob.mk OK.box 140 2 0 [[vs s539, AV.list 0 1 es541]])
 p547.fst)
 fun _ ↦
 Option.bind (chk p547.fst.ver 0) fun _ ↦
 Option.bind (uncons? p547.fst.es) fun p550 ↦
 Option.bind (nil? p550.snd) fun _ ↦
 Option.bind (uncons? p550.fst) fun p552 ↦
 Option.bind (AV.str? p552.fst) fun s553 ↦
 Option.bind (uncons? p552.snd) fun p554 ↦
 Option.bind (AV.list? 1 p554.fst) fun es555 ↦
 Option.bind (nil? p554.snd) fun _ ↦
 Option.bind (nil? p547.snd) fun _ ↦
 Option.bind
 (E cx (Key.own 103) [AV.ptr 0 0 0 0]
 [Ob.mk OK.box 140 2 0
 [[vs s553, AV.list 0 1 es555]]])
 fun r558 ↦
 Option.bind (asRet r558) fun x559 ↦
 Option.bind (AV.int? IntKind.u64 x559.fst) fun n560 ↦
 Option.bind (uncons? x559.snd) fun p561 ↦
 Option.bind
 (obIs
 (Ob.mk OK.box 140 2 0
 [[vs s553, AV.list 0 1 es555]])
 p561.fst)
 fun _ ↦
 Option.bind (chk p561.fst.ver 0) fun _ ↦
 Option.bind (uncons? p561.fst.es) fun p564 ↦
 Option.bind (nil? p564.snd) fun _ ↦
 Option.bind (uncons? p564.fst) fun p566 ↦
 Option.bind (AV.str? p566.fst) fun s567 ↦
 Option.bind (uncons? p566.snd) fun p568 ↦
 Option.bind (AV.list? 1 p568.fst) fun es569 ↦
 Option.bind (nil? p568.snd) fun _ ↦
 Option.bind (nil? p561.snd) fun _ ↦
 Option.bind
 (E cx (Key.own 103)
 [AV.ptr 0 0 0 0]
 [Ob.mk OK.box 140 2 0
 [[vs s567, AV.list 0 1 es569]]])
 fun r572 ↦
 Option.bind (asRet r572) fun x573 ↦
 Option.bind (AV.int? IntKind.u64 x573.fst)
 fun n574 ↦
 Option.bind (uncons? x573.snd) fun p575 ↦
 Option.bind
 (obIs
 (Ob.mk OK.box 140 2 0
 [[vs s567,
 AV.list 0 1 es569]])
 p575.fst)
 fun _ ↦
 Option.bind (chk p575.fst.ver 0) fun _ ↦
 Option.bind (uncons? p575.fst.es)
 fun p578 ↦
 Option.bind (nil? p578.snd) fun _ ↦
 Option.bind (uncons? p578.fst)
 fun p580 ↦
 Option.bind (AV.str? p580.fst)
 fun s581 ↦
 Option.bind (uncons? p580.snd)
 fun p582 ↦
 Option.bind (AV.list? 1 p582.fst)
 fun es583 ↦
 Option.bind (nil? p582.snd)
 fun _ ↦
 Option.bind (nil? p575.snd)
 fun _ ↦
 Option.bind
 (E cx
 (Key.own 103)
 [AV.ptr 0 0 0 0]
 [Ob.mk
 OK.box 140 2 0
 [[vs s581,
 AV.list 0 1
 es583]]])
 fun r586 ↦
 Option.bind (asRet r586)
 fun x587 ↦
 Option.bind
 (AV.int?
 IntKind.u64 x587.fst)
 fun n588 ↦
 Option.bind
 (uncons? x587.snd)
 fun p589 ↦
 Option.bind
 (obIs
 (Ob.mk
 OK.box 140 2
 0
 [[vs s581,
 AV.list 0
 1 es583]])
 p589.fst)
 fun _ ↦
 Option.bind
 (chk
 p589.fst.ver 0)
 fun _ ↦
 Option.bind
 (uncons?
 p589.fst.es)
 fun p592 ↦
 Option.bind
 (nil?
 p592.snd)
 fun _ ↦
 Option.bind
 (uncons?
 p592.fst)
 fun p594 ↦
 Option.bind
 (AV.str?
 p594.fst)
 fun s595 ↦
 Option.bind
 (uncons?
 p594.snd)
 fun p596 ↦
 Option.bind
 (AV.list?
 1 p596.fst)
 fun es597 ↦
 Option.bind
 (nil?
 p596.snd)
 fun _ ↦
 Option.bind
 (nil?
 p589.snd)
 fun _ ↦
 Option.bind
 (E
 cx
 (Key.own
 103)
 [AV.ptr
 0 0
 0 0]
 [Ob.mk
 OK.box
 140
 2 0
 [[vs
 s595,
 AV.list
 0
 1
 es597]]])
 fun r600 ↦
 Option.bind
 (asRet
 r600)
 fun
 x601 ↦
 Option.bind
 (AV.int?
 IntKind.u64
 x601.fst)
 fun
 n602 ↦
 Option.bind
 (uncons?
 x601.snd)
 fun
 p603 ↦
 Option.bind
 (obIs
 (Ob.mk
 OK.box
 140
 2
 0
 [[vs
 s595,
 AV.list
 0
 1
 es597]])
 p603.fst)
 fun
 _ ↦
 Option.bind
 (chk
 p603.fst.ver
 0)
 fun
 _ ↦
 Option.bind
 (uncons?
 p603.fst.es)
 fun
 p606 ↦
 Option.bind
 (nil?
 p606.snd)
 fun
 _ ↦
 Option.bind
 (uncons?
 p606.fst)
 fun
 p608 ↦
 Option.bind
 (AV.str?
 p608.fst)
 fun
 _ ↦
 Option.bind
 (uncons?
 p608.snd)
 fun
 p610 ↦
 Option.bind
 (AV.list?
 1
 p610.fst)
 fun
 es611 ↦
 Option.bind
 (nil?
 p610.snd)
 fun
 _ ↦
 Option.bind
 (nil?
 p603.snd)
 fun
 _ ↦
 Option.bind
 es611[0]?
 fun
 cs614 ↦
 Option.bind
 (uncons?
 cs614)
 fun
 p615 ↦
 Option.bind
 (AV.str?
 p615.fst)
 fun
 s616 ↦
 Option.bind
 (nil?
 p615.snd)
 fun
 _ ↦
 Option.bind
 (E
 cx
 (Key.fn
 73)
 [vs
 s616,
 vi
 2048]
 [])
 fun
 r618 ↦
 Option.bind
 (ret1
 r618)
 fun
 v619 ↦
 Option.bind
 (AV.tup?
 v619)
 fun
 vs620 ↦
 Option.bind
 (uncons?
 vs620)
 fun
 p621 ↦
 Option.bind
 (AV.cells?
 p621.fst)
 fun
 cs622 ↦
 Option.bind
 (uncons?
 cs622)
 fun
 p623 ↦
 Option.bind
 (AV.int?
 IntKind.i64
 p623.fst)
 fun
 n624 ↦
 Option.bind
 (uncons?
 p623.snd)
 fun
 p625 ↦
 Option.bind
 (AV.list?
 1
 p625.fst)
 fun
 es626 ↦
 Option.bind
 (nil?
 p625.snd)
 fun
 _ ↦
 Option.bind
 (uncons?
 p621.snd)
 fun
 p628 ↦
 Option.bind
 (AV.int?
 IntKind.i64
 p628.fst)
 fun
 n629 ↦
 Option.bind
 (nil?
 p628.snd)
 fun
 _ ↦
 Option.bind
 (E
 cx
 (Key.fn
 144)
 [AV.agg
 [vi
 n624,
 AV.list
 0
 1
 es626],
 vi
 n629]
 [])
 fun
 r631 ↦
 bif
 isPan
 r631 then
 Option.bind
 (panV
 175
 r631)
 fun
 x632 ↦
 Option.bind
 (AV.cells?
 x632)
 fun
 cs633 ↦
 Option.bind
 (uncons?
 cs633)
 fun
 p634 ↦
 Option.bind
 (AV.int?
 IntKind.i64
 p634.fst)
 fun
 n635 ↦
 Option.bind
 (nil?
 p634.snd)
 fun
 _ ↦
 some
 (Out.jump
 (JX.pan
 (AV.iface
 175
 (AV.agg
 [vi
 n635])))
 [],
 [])
 else
 Option.bind
 (ret1
 r631)
 fun
 v637 ↦
 Option.bind
 (AV.cells?
 v637)
 fun
 cs638 ↦
 Option.bind
 (uncons?
 cs638)
 fun
 p639 ↦
 Option.bind
 (AV.int?
 IntKind.i64
 p639.fst)
 fun
 n640 ↦
 Option.bind
 (uncons?
 p639.snd)
 fun
 p641 ↦
 Option.bind
 (AV.list?
 1
 p641.fst)
 fun
 es642 ↦
 Option.bind
 (nil?
 p641.snd)
 fun
 _ ↦
 Option.bind
 es611[1]?
 fun
 cs644 ↦
 Option.bind
 (uncons?
 cs644)
 fun
 p645 ↦
 Option.bind
 (AV.str?
 p645.fst)
 fun
 s646 ↦
 Option.bind
 (nil?
 p645.snd)
 fun
 _ ↦
 Option.bind
 (E
 cx
 (Key.fn
 49)
 [vs
 s646]
 [])
 fun
 r648 ↦
 Option.bind
 (ret1
 r648)
 fun
 v649 ↦
 Option.bind
 (AV.tup?
 v649)
 fun
 vs650 ↦
 Option.bind
 (uncons?
 vs650)
 fun
 p651 ↦
 Option.bind
 (AV.cells?
 p651.fst)
 fun
 cs652 ↦
 Option.bind
 (uncons?
 cs652)
 fun
 p653 ↦
 Option.bind
 (AV.bool?
 p653.fst)
 fun
 b654 ↦
 Option.bind
 (uncons?
 p653.snd)
 fun
 p655 ↦
 Option.bind
 (AV.list?
 2
 p655.fst)
 fun
 es656 ↦
 Option.bind
 (nil?
 p655.snd)
 fun
 _ ↦
 Option.bind
 (uncons?
 p651.snd)
 fun
 p658 ↦
 Option.bind
 (AV.int?
 IntKind.i64
 p658.fst)
 fun
 n659 ↦
 Option.bind
 (nil?
 p658.snd)
 fun
 _ ↦
 Option.bind
 (E
 cx
 (Key.fn
 104)
 [AV.agg
 [vbool
 b654,
 AV.list
 0
 2
 es656],
 vi
 n659]
 [])
 fun
 r661 ↦
 bif
 isPan
 r661 then
 Option.bind
 (panV
 175
 r661)
 fun
 x662 ↦
 Option.bind
 (AV.cells?
 x662)
 fun
 cs663 ↦
 Option.bind
 (uncons?
 cs663)
 fun
 p664 ↦
 Option.bind
 (AV.int?
 IntKind.i64
 p664.fst)
 fun
 n665 ↦
 Option.bind
 (nil?
 p664.snd)
 fun
 _ ↦
 some
 (Out.jump
 (JX.pan
 (AV.iface
 175
 (AV.agg
 [vi
 n665])))
 [],
 [])
 else
 Option.bind
 (ret1
 r661)
 fun
 v667 ↦
 Option.bind
 (AV.cells?
 v667)
 fun
 cs668 ↦
 Option.bind
 (uncons?
 cs668)
 fun
 p669 ↦
 Option.bind
 (AV.bool?
 p669.fst)
 fun
 b670 ↦
 Option.bind
 (uncons?
 p669.snd)
 fun
 p671 ↦
 Option.bind
 (AV.list?
 2
 p671.fst)
 fun
 es672 ↦
 Option.bind
 (nil?
 p671.snd)
 fun
 _ ↦
 some
 (Out.ret
 (AV.agg
 [vu
 n546,
 vu
 n560,
 vu
 n574,
 vu
 n588,
 vu
 n602,
 vi
 n640,
 AV.list
 0
 1
 es642,
 vbool
 b670,
 AV.list
 0
 2
 es672]),
 []) := by
 intros
 exact (E_in [188] _ _ _).trans (by kernel_rfl)
theorem f98_c0 : ∀ (s674 : ByteArray) (x675 : Int),
 E cx (Key.own 102) [vs s674, vi x675] [] =
 Option.bind (E cx (Key.fn 145) [vs s674, vi x675, vi 2] []) fun r676 ↦
 Option.bind (ret1 r676) fun v677 ↦
 Option.bind (AV.tup? v677) fun vs678 ↦
 Option.bind (uncons? vs678) fun p679 ↦
 Option.bind (AV.str? p679.fst) fun s680 ↦
 Option.bind (uncons? p679.snd) fun p681 ↦
 Option.bind (AV.list? 1 p681.fst) fun es682 ↦
 Option.bind (uncons? p681.snd) fun p683 ↦
 Option.bind (AV.int? IntKind.i64 p683.fst) fun n684 ↦
 Option.bind (nil? p683.snd) fun _ ↦
 Option.bind (E cx (Key.fn 99) [vs s680, vi n684] []) fun r686 ↦
 bif isPan r686 then
 Option.bind (panV 175 r686) fun x687 ↦
 Option.bind (AV.cells? x687) fun cs688 ↦
 Option.bind (uncons? cs688) fun p689 ↦
 Option.bind (AV.int? IntKind.i64 p689.fst) fun n690 ↦
 Option.bind (nil? p689.snd) fun _ ↦
 some
 (Out.jump (JX.pan (AV.iface 175 (AV.agg [vi n690])))
 [],
 [])
 else
 Option.bind (ret1 r686) fun v692 ↦
 Option.bind (AV.str? v692) fun _ ↦
 some
 (Out.ret (AV.ptr 0 0 0 0),
 [Ob.mk OK.box 140 2 0 [[vs s680, AV.list 0 1 es682]]]) := by
 intros
 exact (E_in [188] _ _ _).trans (by kernel_rfl)
theorem f98_c1 : ∀ (s694 : ByteArray) (l695 : List (List AV)),
 E cx (Key.own 103) [AV.ptr 0 0 0 0]
 [Ob.mk OK.box 140 2 0 [[vs s694, AV.list 0 1 l695]]] =
 Option.bind (E cx (Key.fn 116) [vs s694, vi 8] []) fun r696 ↦
 Option.bind (ret1 r696) fun v697 ↦
 Option.bind (AV.tup? v697) fun vs698 ↦
 Option.bind (uncons? vs698) fun p699 ↦
 Option.bind (AV.int? IntKind.u64 p699.fst) fun n700 ↦
 Option.bind (uncons? p699.snd) fun p701 ↦
 Option.bind (AV.str? p701.fst) fun s702 ↦
 Option.bind (uncons? p701.snd) fun p703 ↦
 Option.bind (AV.int? IntKind.i64 p703.fst) fun n704 ↦
 Option.bind (nil? p703.snd) fun _ ↦
 Option.bind (E cx (Key.fn 146) [vu n700, vi n704] []) fun r706 ↦
 bif isPan r706 then
 Option.bind (panV 175 r706) fun x707 ↦
 Option.bind (AV.cells? x707) fun cs708 ↦
 Option.bind (uncons? cs708) fun p709 ↦
 Option.bind (AV.int? IntKind.i64 p709.fst) fun _ ↦ Option.bind (nil? p709.snd) fun _ ↦ none
 else
 Option.bind (ret1 r706) fun v712 ↦
 Option.bind (AV.int? IntKind.u64 v712) fun n713 ↦
 some
 (Out.ret (vu n713),
 [Ob.mk OK.box 140 2 0 [[vs s702, AV.list 0 1 l695]]]) := by
 intros
 exact (E_in [188] _ _ _).trans (by kernel_rfl)
theorem f26 : ∀ (v714 v715 v716 v717 v718 v719 : Int) (v720 : List (List AV)) (v721 : Bool) (v722 : List (List AV)),
 E cx (Key.fn 26)
 [AV.agg
 [vu v714, vu v715, vu v716, vu v717, vu v718, vi v719,
 AV.list 0 1 v720, vbool v721, AV.list 0 2 v722]]
 [] =
 Option.bind
 (E cx (Key.fn 97)
 [AV.agg
 [vu v714, vu v715, vu v716, vu v717, vu v718, vi v719,
 AV.list 0 1 v720, vbool v721, AV.list 0 2 v722]]
 [])
 fun r723 ↦
 bif isPan r723 then
 Option.bind (panV 175 r723) fun x724 ↦
 Option.bind (AV.cells? x724) fun cs725 ↦
 Option.bind (uncons? cs725) fun p726 ↦
 Option.bind (AV.int? IntKind.i64 p726.fst) fun n727 ↦
 Option.bind (nil? p726.snd) fun _ ↦
 some (Out.ret (AV.tuple [vs (ByteArray.mk (Array.mk [])), vi n727]), [])
 else
 Option.bind (ret1 r723) fun v729 ↦
 Option.bind (AV.str? v729) fun s730 ↦ some (Out.ret (AV.tuple [vs s730, vi 0]), []) := by
 intros
 exact (E_in [188] _ _ _).trans (by kernel_rfl)
theorem f27 : ∀ (s731 : ByteArray),
 E cx (Key.fn 27) [vs s731] [] =
 Option.bind (E cx (Key.fn 98) [vs s731] []) fun r732 ↦
 bif isPan r732 then
 Option.bind (panV 175 r732) fun x733 ↦
 Option.bind (AV.cells? x733) fun cs734 ↦
 Option.bind (uncons? cs734) fun p735 ↦
 Option.bind (AV.int? IntKind.i64 p735.fst) fun n736 ↦
 Option.bind (nil? p735.snd) fun _ ↦
 some
 (Out.ret
 (AV.tuple
 [AV.agg
 [vu 0, vu 0, vu 0, vu 0, vu 0, vi 0,
 AV.val (Value.slice none 0 0), vbool false, AV.val (Value.slice none 0 0)],
 vi n736]),
 [])
 else
 Option.bind (ret1 r732) fun v738 ↦
 Option.bind (AV.cells? v738) fun cs739 ↦
 Option.bind (uncons? cs739) fun p740 ↦
 Option.bind (AV.int? IntKind.u64 p740.fst) fun n741 ↦
 Option.bind (uncons? p740.snd) fun p742 ↦
 Option.bind (AV.int? IntKind.u64 p742.fst) fun n743 ↦
 Option.bind (uncons? p742.snd) fun p744 ↦
 Option.bind (AV.int? IntKind.u64 p744.fst) fun n745 ↦
 Option.bind (uncons? p744.snd) fun p746 ↦
 Option.bind (AV.int? IntKind.u64 p746.fst) fun n747 ↦
 Option.bind (uncons? p746.snd) fun p748 ↦
 Option.bind (AV.int? IntKind.u64 p748.fst) fun n749 ↦
 Option.bind (uncons? p748.snd) fun p750 ↦
 Option.bind (AV.int? IntKind.i64 p750.fst) fun n751 ↦
 Option.bind (uncons? p750.snd) fun p752 ↦
 Option.bind (AV.list? 1 p752.fst) fun es753 ↦
 Option.bind (uncons? p752.snd) fun p754 ↦
 Option.bind (AV.bool? p754.fst) fun b755 ↦
 Option.bind (uncons? p754.snd) fun p756 ↦
 Option.bind (AV.list? 2 p756.fst) fun es757 ↦
 Option.bind (nil? p756.snd) fun _ ↦
 some
 (Out.ret
 (AV.tuple
 [AV.agg
 [vu n741, vu n743, vu n745, vu n747,
 vu n749, vi n751, AV.list 0 1 es753,
 vbool b755, AV.list 0 2 es757],
 vi 0]),
 []) := by
 intros
 exact (E_in [188] _ _ _).trans (by kernel_rfl)
theorem f29 : ∀ (a759 : Int) (a760 : Bool) (a761 : List (List AV)) (a762 a763 a764 a765 a766 a767 : Int) (a768 : List (List AV)) (a769 : Bool)
 (a770 : List (List AV)),
 E cx (Key.fn 29)
 [AV.agg
 [vu a759, vbool a760, AV.list 0 2 a761, vu a762, vu a763, vu a764,
 vu a765, vu a766, vi a767, AV.list 0 1 a768, vbool a769,
 AV.list 0 2 a770]]
 [] =
 Option.bind (E cx (Key.fn 38) [AV.agg [vbool a760, AV.list 0 2 a761]] [])
 fun r771 ↦
 Option.bind (ret1 r771) fun v772 ↦
 Option.bind (AV.tup? v772) fun vs773 ↦
 Option.bind (uncons? vs773) fun p774 ↦
 Option.bind (AV.str? p774.fst) fun s775 ↦
 Option.bind (uncons? p774.snd) fun p776 ↦
 Option.bind (AV.int? IntKind.i64 p776.fst) fun n777 ↦
 Option.bind (nil? p776.snd) fun _ ↦
 Option.bind (E cx (Key.fn 99) [vs s775, vi n777] []) fun r779 ↦
 bif isPan r779 then
 Option.bind (panV 175 r779) fun x780 ↦
 Option.bind (AV.cells? x780) fun cs781 ↦
 Option.bind (uncons? cs781) fun p782 ↦
 Option.bind (AV.int? IntKind.i64 p782.fst) fun n783 ↦
 Option.bind (nil? p782.snd) fun _ ↦
 some (Out.ret (AV.tuple [vs (ByteArray.mk (Array.mk [])), vi n783]), [])
 else
 Option.bind (ret1 r779) fun v785 ↦
 Option.bind (AV.str? v785) fun s786 ↦
 Option.bind
 (E cx (Key.fn 97)
 [AV.agg
 [vu a762, vu a763, vu a764, vu a765, vu a766,
 vi a767, AV.list 0 1 a768, vbool a769, AV.list 0 2 a770]]
 [])
 fun r787 ↦
 bif isPan r787 then
 Option.bind (panV 175 r787) fun x788 ↦
 Option.bind (AV.cells? x788) fun cs789 ↦
 Option.bind (uncons? cs789) fun p790 ↦
 Option.bind (AV.int? IntKind.i64 p790.fst) fun n791 ↦
 Option.bind (nil? p790.snd) fun _ ↦
 some
 (Out.ret (AV.tuple [vs (ByteArray.mk (Array.mk [])), vi n791]),
 [])
 else
 Option.bind (ret1 r787) fun v793 ↦
 Option.bind (AV.str? v793) fun s794 ↦
 Option.bind
 (E cx (Key.fn 101) [AV.list 0 1 [[vu a759]]] [])
 fun r795 ↦
 Option.bind (ret1 r795) fun v796 ↦
 Option.bind (AV.str? v796) fun s797 ↦
 Option.bind
 (E cx (Key.fn 100)
 [vs s797, AV.list 0 1 [[vs s786], [vs s794]]] [])
 fun r798 ↦
 Option.bind (ret1 r798) fun v799 ↦
 Option.bind (AV.tup? v799) fun vs800 ↦
 Option.bind (uncons? vs800) fun p801 ↦
 Option.bind (AV.str? p801.fst) fun s802 ↦
 Option.bind (uncons? p801.snd) fun p803 ↦
 Option.bind (AV.int? IntKind.i64 p803.fst) fun n804 ↦
 Option.bind (nil? p803.snd) fun _ ↦
 Option.bind
 (E cx (Key.fn 99)
 [vs s802, vi n804] [])
 fun r806 ↦
 bif isPan r806 then
 Option.bind (panV 175 r806) fun x807 ↦
 Option.bind (AV.cells? x807) fun cs808 ↦
 Option.bind (uncons? cs808) fun p809 ↦
 Option.bind (AV.int? IntKind.i64 p809.fst) fun n810 ↦
 Option.bind (nil? p809.snd) fun _ ↦
 some
 (Out.ret
 (AV.tuple
 [vs (ByteArray.mk (Array.mk [])), vi n810]),
 [])
 else
 Option.bind (ret1 r806) fun v812 ↦
 Option.bind (AV.str? v812) fun s813 ↦
 some
 (Out.ret (AV.tuple [vs s813, vi 0]), []) := by
 intros
 exact (E_in [188] _ _ _).trans (by kernel_rfl)
theorem f30 : ∀ (s814 : ByteArray),
 E cx (Key.fn 30) [vs s814] [] =
 Option.bind (E cx (Key.own 102) [vs s814, vi 8] []) fun r815 ↦
 bif isPan r815 then
 Option.bind (panV 175 r815) fun x816 ↦
 Option.bind (AV.cells? x816) fun cs817 ↦
 Option.bind (uncons? cs817) fun p818 ↦
 Option.bind (AV.int? IntKind.i64 p818.fst) fun n819 ↦
 Option.bind (nil? p818.snd) fun _ ↦
 some
 (Out.ret
 (AV.tuple
 [AV.agg
 [vu 0, vbool false, AV.val (Value.slice none 0 0), vu 0, vu 0,
 vu 0, vu 0, vu 0, vi 0, AV.val (Value.slice none 0 0),
 vbool false, AV.val (Value.slice none 0 0)],
 vi n819]),
 [])
 else
 Option.bind (E cx (Key.own 102) [vs s814, vi 8] []) fun r821 ↦
 Option.bind (asRet r821) fun x822 ↦
 Option.bind (AV.pIs 0 0 0 0 x822.fst) fun _ ↦
 Option.bind (uncons? x822.snd) fun p824 ↦
 Option.bind
 (obIs
 (Ob.mk OK.box 140 2 0 [[vs (ByteArray.mk (Array.mk [])), AV.list 0 1 []]]) p824.fst)
 fun _ ↦
 Option.bind (chk p824.fst.ver 0) fun _ ↦
 Option.bind (uncons? p824.fst.es) fun p827 ↦
 Option.bind (nil? p827.snd) fun _ ↦
 Option.bind (uncons? p827.fst) fun p829 ↦
 Option.bind (AV.str? p829.fst) fun s830 ↦
 Option.bind (uncons? p829.snd) fun p831 ↦
 Option.bind (AV.list? 1 p831.fst) fun es832 ↦
 Option.bind (nil? p831.snd) fun _ ↦
 Option.bind (nil? p824.snd) fun _ ↦
 Option.bind
 (E cx (Key.own 103) [AV.ptr 0 0 0 0]
 [Ob.mk OK.box 140 2 0 [[vs s830, AV.list 0 1 es832]]])
 fun r835 ↦
 Option.bind (asRet r835) fun x836 ↦
 Option.bind (AV.int? IntKind.u64 x836.fst) fun n837 ↦
 Option.bind (uncons? x836.snd) fun p838 ↦
 Option.bind
 (obIs
 (Ob.mk OK.box 140 2 0 [[vs s830, AV.list 0 1 es832]])
 p838.fst)
 fun _ ↦
 Option.bind (chk p838.fst.ver 0) fun _ ↦
 Option.bind (uncons? p838.fst.es) fun p841 ↦
 Option.bind (nil? p841.snd) fun _ ↦
 Option.bind (uncons? p841.fst) fun p843 ↦
 Option.bind (AV.str? p843.fst) fun _ ↦
 Option.bind (uncons? p843.snd) fun p845 ↦
 Option.bind (AV.list? 1 p845.fst) fun es846 ↦
 Option.bind (nil? p845.snd) fun _ ↦
 Option.bind (nil? p838.snd) fun _ ↦
 Option.bind es846[0]? fun cs849 ↦
 Option.bind (uncons? cs849) fun p850 ↦
 Option.bind (AV.str? p850.fst) fun s851 ↦
 Option.bind (nil? p850.snd) fun _ ↦
 Option.bind
 (E cx (Key.fn 49) [vs s851] [])
 fun r853 ↦
 Option.bind (ret1 r853) fun v854 ↦
 Option.bind (AV.tup? v854) fun vs855 ↦
 Option.bind (uncons? vs855) fun p856 ↦
 Option.bind (AV.cells? p856.fst) fun cs857 ↦
 Option.bind (uncons? cs857) fun p858 ↦
 Option.bind (AV.bool? p858.fst) fun b859 ↦
 Option.bind (uncons? p858.snd) fun p860 ↦
 Option.bind (AV.list? 2 p860.fst) fun es861 ↦
 Option.bind (nil? p860.snd) fun _ ↦
 Option.bind (uncons? p856.snd) fun p863 ↦
 Option.bind (AV.int? IntKind.i64 p863.fst)
 fun n864 ↦
 Option.bind (nil? p863.snd) fun _ ↦
 Option.bind
 (E cx (Key.fn 104)
 [AV.agg
 [vbool b859,
 AV.list 0 2 es861],
 vi n864]
 [])
 fun r866 ↦
 bif isPan r866 then
 Option.bind (panV 175 r866) fun x867 ↦
 Option.bind (AV.cells? x867) fun cs868 ↦
 Option.bind (uncons? cs868) fun p869 ↦
 Option.bind
 (AV.int? IntKind.i64 p869.fst)
 fun n870 ↦
 Option.bind (nil? p869.snd)
 fun _ ↦
 some
 (Out.ret
 (AV.tuple
 [AV.agg
 [vu 0,
 vbool false,
 AV.val
 (Value.slice none 0 0),
 vu 0,
 vu 0,
 vu 0,
 vu 0,
 vu 0,
 vi 0,
 AV.val
 (Value.slice none 0 0),
 vbool false,
 AV.val
 (Value.slice none 0 0)],
 vi n870]),
 [])
 else
 Option.bind (ret1 r866) fun v872 ↦
 Option.bind (AV.cells? v872) fun cs873 ↦
 Option.bind (uncons? cs873) fun p874 ↦
 Option.bind (AV.bool? p874.fst)
 fun b875 ↦
 Option.bind (uncons? p874.snd)
 fun p876 ↦
 Option.bind (AV.list? 2 p876.fst)
 fun es877 ↦
 Option.bind (nil? p876.snd)
 fun _ ↦
 Option.bind es846[1]? fun cs879 ↦
 Option.bind (uncons? cs879)
 fun p880 ↦
 Option.bind
 (AV.str? p880.fst)
 fun s881 ↦
 Option.bind
 (nil? p880.snd)
 fun _ ↦
 Option.bind
 (E cx
 (Key.fn 98)
 [vs s881] [])
 fun r883 ↦
 bif isPan r883 then
 Option.bind
 (panV 175 r883)
 fun x884 ↦
 Option.bind
 (AV.cells?
 x884)
 fun cs885 ↦
 Option.bind
 (uncons?
 cs885)
 fun p886 ↦
 Option.bind
 (AV.int?
 IntKind.i64
 p886.fst)
 fun n887 ↦
 Option.bind
 (nil?
 p886.snd)
 fun _ ↦
 some
 (Out.ret
 (AV.tuple
 [AV.agg
 [vu
 0,
 vbool
 false,
 AV.val
 (Value.slice
 none
 0
 0),
 vu
 0,
 vu
 0,
 vu
 0,
 vu
 0,
 vu
 0,
 vi
 0,
 AV.val
 (Value.slice
 none
 0
 0),
 vbool
 false,
 AV.val
 (Value.slice
 none
 0
 0)],
 vi
 n887]),
 [])
 else
 Option.bind
 (ret1 r883)
 fun v889 ↦
 Option.bind
 (AV.cells?
 v889)
 fun cs890 ↦
 Option.bind
 (uncons?
 cs890)
 fun p891 ↦
 Option.bind
 (AV.int?
 IntKind.u64
 p891.fst)
 fun n892 ↦
 Option.bind
 (uncons?
 p891.snd)
 fun p893 ↦
 Option.bind
 (AV.int?
 IntKind.u64
 p893.fst)
 fun n894 ↦
 Option.bind
 (uncons?
 p893.snd)
 fun p895 ↦
 Option.bind
 (AV.int?
 IntKind.u64
 p895.fst)
 fun n896 ↦
 Option.bind
 (uncons?
 p895.snd)
 fun p897 ↦
 Option.bind
 (AV.int?
 IntKind.u64
 p897.fst)
 fun n898 ↦
 Option.bind
 (uncons?
 p897.snd)
 fun p899 ↦
 Option.bind
 (AV.int?
 IntKind.u64
 p899.fst)
 fun
 n900 ↦
 Option.bind
 (uncons?
 p899.snd)
 fun
 p901 ↦
 Option.bind
 (AV.int?
 IntKind.i64
 p901.fst)
 fun
 n902 ↦
 Option.bind
 (uncons?
 p901.snd)
 fun
 p903 ↦
 Option.bind
 (AV.list?
 1
 p903.fst)
 fun
 es904 ↦
 Option.bind
 (uncons?
 p903.snd)
 fun
 p905 ↦
 Option.bind
 (AV.bool?
 p905.fst)
 fun
 b906 ↦
 Option.bind
 (uncons?
 p905.snd)
 fun
 p907 ↦
 Option.bind
 (AV.list?
 2
 p907.fst)
 fun
 es908 ↦
 Option.bind
 (nil?
 p907.snd)
 fun
 _ ↦
 some
 (Out.ret
 (AV.tuple
 [AV.agg
 [vu
 n837,
 vbool
 b875,
 AV.list
 0
 2
 es877,
 vu
 n892,
 vu
 n894,
 vu
 n896,
 vu
 n898,
 vu
 n900,
 vi
 n902,
 AV.list
 0
 1
 es904,
 vbool
 b906,
 AV.list
 0
 2
 es908],
 vi
 0]),
 []) := by
 intros
 exact (E_in [188] _ _ _).trans (by kernel_rfl)
theorem f30_c0 : ∀ (s910 : ByteArray) (x911 : Int),
 E cx (Key.own 102) [vs s910, vi x911] [] =
 Option.bind (E cx (Key.fn 145) [vs s910, vi x911, vi 2] []) fun r912 ↦
 Option.bind (ret1 r912) fun v913 ↦
 Option.bind (AV.tup? v913) fun vs914 ↦
 Option.bind (uncons? vs914) fun p915 ↦
 Option.bind (AV.str? p915.fst) fun s916 ↦
 Option.bind (uncons? p915.snd) fun p917 ↦
 Option.bind (AV.list? 1 p917.fst) fun es918 ↦
 Option.bind (uncons? p917.snd) fun p919 ↦
 Option.bind (AV.int? IntKind.i64 p919.fst) fun n920 ↦
 Option.bind (nil? p919.snd) fun _ ↦
 Option.bind (E cx (Key.fn 99) [vs s916, vi n920] []) fun r922 ↦
 bif isPan r922 then
 Option.bind (panV 175 r922) fun x923 ↦
 Option.bind (AV.cells? x923) fun cs924 ↦
 Option.bind (uncons? cs924) fun p925 ↦
 Option.bind (AV.int? IntKind.i64 p925.fst) fun n926 ↦
 Option.bind (nil? p925.snd) fun _ ↦
 some
 (Out.jump (JX.pan (AV.iface 175 (AV.agg [vi n926])))
 [],
 [])
 else
 Option.bind (ret1 r922) fun v928 ↦
 Option.bind (AV.str? v928) fun _ ↦
 some
 (Out.ret (AV.ptr 0 0 0 0),
 [Ob.mk OK.box 140 2 0 [[vs s916, AV.list 0 1 es918]]]) := by
 intros
 exact (E_in [188] _ _ _).trans (by kernel_rfl)
theorem f30_c1 : ∀ (s930 : ByteArray) (l931 : List (List AV)),
 E cx (Key.own 103) [AV.ptr 0 0 0 0]
 [Ob.mk OK.box 140 2 0 [[vs s930, AV.list 0 1 l931]]] =
 Option.bind (E cx (Key.fn 116) [vs s930, vi 8] []) fun r932 ↦
 Option.bind (ret1 r932) fun v933 ↦
 Option.bind (AV.tup? v933) fun vs934 ↦
 Option.bind (uncons? vs934) fun p935 ↦
 Option.bind (AV.int? IntKind.u64 p935.fst) fun n936 ↦
 Option.bind (uncons? p935.snd) fun p937 ↦
 Option.bind (AV.str? p937.fst) fun s938 ↦
 Option.bind (uncons? p937.snd) fun p939 ↦
 Option.bind (AV.int? IntKind.i64 p939.fst) fun n940 ↦
 Option.bind (nil? p939.snd) fun _ ↦
 Option.bind (E cx (Key.fn 146) [vu n936, vi n940] []) fun r942 ↦
 bif isPan r942 then
 Option.bind (panV 175 r942) fun x943 ↦
 Option.bind (AV.cells? x943) fun cs944 ↦
 Option.bind (uncons? cs944) fun p945 ↦
 Option.bind (AV.int? IntKind.i64 p945.fst) fun _ ↦ Option.bind (nil? p945.snd) fun _ ↦ none
 else
 Option.bind (ret1 r942) fun v948 ↦
 Option.bind (AV.int? IntKind.u64 v948) fun n949 ↦
 some
 (Out.ret (vu n949),
 [Ob.mk OK.box 140 2 0 [[vs s938, AV.list 0 1 l931]]]) := by
 intros
 exact (E_in [188] _ _ _).trans (by kernel_rfl)
theorem f31 : ∀ (s950 : ByteArray),
 E cx (Key.fn 31) [vs s950] [] =
 bif ((ByteArray.size s950) : Int) != 24 then
 some (Out.ret (AV.tuple [AV.agg [vu 0, vu 0, vu 0], vi 2]), [])
 else
 Option.bind
 (E cx (Key.own 103) [AV.ptr 0 0 0 0]
 [Ob.mk OK.box 138 1 0 [[vs s950]]])
 fun r951 ↦
 Option.bind (asRet r951) fun x952 ↦
 Option.bind (AV.int? IntKind.u64 x952.fst) fun n953 ↦
 Option.bind (uncons? x952.snd) fun p954 ↦
 Option.bind (obIs (Ob.mk OK.box 138 1 0 [[vs s950]]) p954.fst) fun _ ↦
 Option.bind (chk p954.fst.ver 0) fun _ ↦
 Option.bind (uncons? p954.fst.es) fun p957 ↦
 Option.bind (nil? p957.snd) fun _ ↦
 Option.bind (uncons? p957.fst) fun p959 ↦
 Option.bind (AV.str? p959.fst) fun s960 ↦
 Option.bind (nil? p959.snd) fun _ ↦
 Option.bind (nil? p954.snd) fun _ ↦
 Option.bind
 (E cx (Key.own 103) [AV.ptr 0 0 0 0]
 [Ob.mk OK.box 138 1 0 [[vs s960]]])
 fun r963 ↦
 Option.bind (asRet r963) fun x964 ↦
 Option.bind (AV.int? IntKind.u64 x964.fst) fun n965 ↦
 Option.bind (uncons? x964.snd) fun p966 ↦
 Option.bind (obIs (Ob.mk OK.box 138 1 0 [[vs s960]]) p966.fst)
 fun _ ↦
 Option.bind (chk p966.fst.ver 0) fun _ ↦
 Option.bind (uncons? p966.fst.es) fun p969 ↦
 Option.bind (nil? p969.snd) fun _ ↦
 Option.bind (uncons? p969.fst) fun p971 ↦
 Option.bind (AV.str? p971.fst) fun s972 ↦
 Option.bind (nil? p971.snd) fun _ ↦
 Option.bind (nil? p966.snd) fun _ ↦
 Option.bind
 (E cx (Key.own 103) [AV.ptr 0 0 0 0]
 [Ob.mk OK.box 138 1 0 [[vs s972]]])
 fun r975 ↦
 Option.bind (asRet r975) fun x976 ↦
 Option.bind (AV.int? IntKind.u64 x976.fst) fun n977 ↦
 Option.bind (uncons? x976.snd) fun p978 ↦
 Option.bind
 (obIs (Ob.mk OK.box 138 1 0 [[vs s972]])
 p978.fst)
 fun _ ↦
 Option.bind (chk p978.fst.ver 0) fun _ ↦
 Option.bind (uncons? p978.fst.es) fun p981 ↦
 Option.bind (nil? p981.snd) fun _ ↦
 Option.bind (uncons? p981.fst) fun p983 ↦
 Option.bind (AV.str? p983.fst) fun _ ↦
 Option.bind (nil? p983.snd) fun _ ↦
 Option.bind (nil? p978.snd) fun _ ↦
 some
 (Out.ret
 (AV.tuple
 [AV.agg
 [vu n953, vu n965, vu n977],
 vi 0]),
 []) := by
 intros
 exact (E_in [188] _ _ _).trans (by kernel_rfl)
theorem f31_c0 : ∀ (s987 : ByteArray),
 E cx (Key.own 103) [AV.ptr 0 0 0 0]
 [Ob.mk OK.box 138 1 0 [[vs s987]]] =
 Option.bind (E cx (Key.fn 116) [vs s987, vi 8] []) fun r988 ↦
 Option.bind (ret1 r988) fun v989 ↦
 Option.bind (AV.tup? v989) fun vs990 ↦
 Option.bind (uncons? vs990) fun p991 ↦
 Option.bind (AV.int? IntKind.u64 p991.fst) fun n992 ↦
 Option.bind (uncons? p991.snd) fun p993 ↦
 Option.bind (AV.str? p993.fst) fun s994 ↦
 Option.bind (uncons? p993.snd) fun p995 ↦
 Option.bind (AV.int? IntKind.i64 p995.fst) fun n996 ↦
 Option.bind (nil? p995.snd) fun _ ↦
 Option.bind (E cx (Key.fn 146) [vu n992, vi n996] []) fun r998 ↦
 bif isPan r998 then
 Option.bind (panV 175 r998) fun x999 ↦
 Option.bind (AV.cells? x999) fun cs1000 ↦
 Option.bind (uncons? cs1000) fun p1001 ↦
 Option.bind (AV.int? IntKind.i64 p1001.fst) fun _ ↦
 Option.bind (nil? p1001.snd) fun _ ↦ none
 else
 Option.bind (ret1 r998) fun v1004 ↦
 Option.bind (AV.int? IntKind.u64 v1004) fun n1005 ↦
 some (Out.ret (vu n1005), [Ob.mk OK.box 138 1 0 [[vs s994]]]) := by
 intros
 exact (E_in [188] _ _ _).trans (by kernel_rfl)
theorem f32 : ∀ (r1006 r1007 r1008 : Int),
 E cx (Key.fn 32) [AV.agg [vu r1006, vu r1007, vu r1008]] [] =
 Option.bind
 (E cx (Key.fn 101)
 [AV.list 0 1 [[vu r1006], [vu r1007], [vu r1008]]] [])
 fun r1009 ↦
 Option.bind (ret1 r1009) fun v1010 ↦
 Option.bind (AV.str? v1010) fun s1011 ↦ some (Out.ret (vs s1011), []) := by
 intros
 exact (E_in [188] _ _ _).trans (by kernel_rfl)
end Go.Proofs.Av
