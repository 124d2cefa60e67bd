/- The tree of law 5. -/
import Derived.Test.YtoepfmodbhfckaaAgPQ
set_option maxRecDepth 100000
namespace Go.Proofs.Av
open Go
theorem f5 : ∀ (x0 x1 x2 x3 x4 x5 : Int) (x6 x7 : List (List AV)) (x8 : Bool) (by9 : Int) (proof10 : List (List AV)),
 E cx (Key.fn 5)
 [AV.agg
 [vi x0, vi x1, vi x2, vi x3, vi x4, vi x5, AV.list 0 1 x6,
 AV.list 0 1 x7, vbool x8],
 vi by9, AV.list 0 1 proof10]
 [] =
 Option.bind
 (E cx (Key.fn 28)
 [AV.agg
 [vi x0, vi x1, vi x2, vi x3, vi x4, vi x5,
 AV.list 0 1 x6, AV.list 0 1 x7, vbool x8],
 vi by9, AV.list 0 1 proof10]
 [])
 fun r11 ↦
 Option.bind (ret1 r11) fun v12 ↦
 Option.bind (AV.cells? v12) fun cs13 ↦
 Option.bind (uncons? cs13) fun p14 ↦
 Option.bind (AV.int? IntKind.u64 p14.fst) fun n15 ↦
 Option.bind (uncons? p14.snd) fun p16 ↦
 Option.bind (AV.bool? p16.fst) fun b17 ↦
 Option.bind (uncons? p16.snd) fun p18 ↦
 Option.bind (AV.list? 2 p18.fst) fun es19 ↦
 Option.bind (uncons? p18.snd) fun p20 ↦
 Option.bind (AV.int? IntKind.u64 p20.fst) fun n21 ↦
 Option.bind (uncons? p20.snd) fun p22 ↦
 Option.bind (AV.int? IntKind.u64 p22.fst) fun n23 ↦
 Option.bind (uncons? p22.snd) fun p24 ↦
 Option.bind (AV.int? IntKind.u64 p24.fst) fun n25 ↦
 Option.bind (uncons? p24.snd) fun p26 ↦
 Option.bind (AV.int? IntKind.u64 p26.fst) fun n27 ↦
 Option.bind (uncons? p26.snd) fun p28 ↦
 Option.bind (AV.int? IntKind.u64 p28.fst) fun n29 ↦
 Option.bind (uncons? p28.snd) fun p30 ↦
 Option.bind (AV.int? IntKind.i64 p30.fst) fun n31 ↦
 Option.bind (uncons? p30.snd) fun p32 ↦
 Option.bind (AV.list? 1 p32.fst) fun es33 ↦
 Option.bind (uncons? p32.snd) fun p34 ↦
 Option.bind (AV.bool? p34.fst) fun b35 ↦
 Option.bind (uncons? p34.snd) fun p36 ↦
 Option.bind (AV.list? 2 p36.fst) fun es37 ↦
 Option.bind (nil? p36.snd) fun _ ↦
 Option.bind
 (E cx (Key.fn 26)
 [AV.agg
 [vu n21, vu n23, vu n25, vu n27,
 vu n29, vi n31, AV.list 0 1 es33,
 vbool b35, AV.list 0 2 es37]]
 [])
 fun r39 ↦
 Option.bind (ret1 r39) fun v40 ↦
 Option.bind (AV.tup? v40) fun vs41 ↦
 Option.bind (uncons? vs41) fun p42 ↦
 Option.bind (AV.str? p42.fst) fun s43 ↦
 Option.bind (uncons? p42.snd) fun p44 ↦
 Option.bind (AV.int? IntKind.i64 p44.fst) fun n45 ↦
 Option.bind (nil? p44.snd) fun _ ↦
 Option.bind
 (E cx (Key.fn 29)
 [AV.agg
 [vu n15, vbool b17, AV.list 0 2 es19,
 vu n21, vu n23, vu n25,
 vu n27, vu n29, vi n31,
 AV.list 0 1 es33, vbool b35,
 AV.list 0 2 es37]]
 [])
 fun r47 ↦
 Option.bind (ret1 r47) fun v48 ↦
 Option.bind (AV.tup? v48) fun vs49 ↦
 Option.bind (uncons? vs49) fun p50 ↦
 Option.bind (AV.str? p50.fst) fun s51 ↦
 Option.bind (uncons? p50.snd) fun p52 ↦
 Option.bind (AV.int? IntKind.i64 p52.fst) fun n53 ↦
 Option.bind (nil? p52.snd) fun _ ↦
 bif n45 != 0 then
 some (Out.ret (vbool false), [])
 else
 bif n53 != 0 then
 some (Out.ret (vbool false), [])
 else
 bif
 ((ByteArray.size s43) : Int) !=
 IntKind.wrap IntKind.i64
 (Int.add
 (IntKind.wrap IntKind.i64
 (Int.add
 (IntKind.wrap IntKind.i64
 (Int.add
 (IntKind.wrap IntKind.i64
 (Int.add 48
 (IntKind.wrap IntKind.i64
 (Int.tdiv n31 8))))
 1))
 1))
 (IntKind.wrap IntKind.i64
 (Int.mul 16 ((List.length es37) : Int)))) then
 some (Out.ret (vbool false), [])
 else
 bif
 ((ByteArray.size s51) : Int) !=
 IntKind.wrap IntKind.i64
 (Int.add
 (IntKind.wrap IntKind.i64
 (Int.add 17
 (IntKind.wrap IntKind.i64
 (Int.mul 16 ((List.length es19) : Int)))))
 ((ByteArray.size s43) : Int)) then
 some (Out.ret (vbool false), [])
 else
 Option.bind
 (E cx (Key.fn 26)
 [AV.agg
 [vu n21, vu n23,
 vu n25, vu n27,
 vu n29, vi 0,
 AV.val (Value.slice none 0 0),
 vbool false,
 AV.val (Value.slice none 0 0)]]
 [])
 fun r55 ↦
 Option.bind (ret1 r55) fun v56 ↦
 Option.bind (AV.tup? v56) fun vs57 ↦
 Option.bind (uncons? vs57) fun p58 ↦
 Option.bind (AV.str? p58.fst) fun s59 ↦
 Option.bind (uncons? p58.snd)
 fun p60 ↦
 Option.bind
 (AV.int? IntKind.i64 p60.fst)
 fun n61 ↦
 Option.bind (nil? p60.snd)
 fun _ ↦
 if
 0 ≤
 IntKind.wrap IntKind.i64
 (Int.sub ((ByteArray.size s51) : Int)
 ((ByteArray.size s43) : Int)) then
 if
 IntKind.wrap IntKind.i64
 (Int.sub ((ByteArray.size s51) : Int)
 ((ByteArray.size s43) : Int)) ≤
 ((ByteArray.size s51) : Int) then
 bif
 List.beq
 (ByteArray.toList
 (ByteArray.extract s51
 (Int.toNat
 (IntKind.wrap
 IntKind.i64
 (Int.sub
 ((ByteArray.size s51) : Int)
 ((ByteArray.size s43) : Int))))
 (ByteArray.size s51)))
 (ByteArray.toList s43) then
 bif decide (n61 = 0) then
 bif
 decide
 (((ByteArray.size s59) : Int) =
 50) then
 if 40 ≤ ((ByteArray.size s59) : Int) then
 if
 40 ≤
 ((ByteArray.size s43) : Int) then
 bif
 List.beq
 (ByteArray.toList
 (ByteArray.extract s59
 0 40))
 (ByteArray.toList
 (ByteArray.extract s43
 0 40)) then
 some
 (Out.ret
 (vbool
 true),
 [])
 else
 some
 (Out.ret
 (vbool
 false),
 [])
 else none
 else none
 else
 some
 (Out.ret
 (vbool false),
 [])
 else
 some
 (Out.ret
 (vbool false),
 [])
 else
 some
 (Out.ret
 (vbool false),
 [])
 else none
 else none := by
 intros
 exact (E_ov f24_true [188] _ _ _).trans (by kernel_rfl)
end Go.Proofs.Av
