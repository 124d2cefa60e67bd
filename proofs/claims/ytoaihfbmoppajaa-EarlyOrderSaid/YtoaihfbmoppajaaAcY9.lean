/- A law's tree. -/
import Derived.Test.YtoaihfbmoppajaaAcX
set_option maxRecDepth 100000
namespace Go.Proofs.Av
open Go
theorem f9 : ∀ (raw0 : List (List AV)) (turn1 : Int),
 E cx (Key.fn 9) [AV.list 0 3 raw0, vi turn1] [] =
 Option.bind (E cx (Key.fn 25) [] []) fun r2 ↦
 Option.bind (ret1 r2) fun v3 ↦
 Option.bind (AV.bool? v3) fun b4 ↦
 bif b4 then
 Option.bind
 (E cx (Key.fn 28)
 [vi turn1,
 vi (IntKind.wrap IntKind.i64 (Int.add (if 30 < ((List.length raw0) : Int) then 30 else ((List.length raw0) : Int)) 1))]
 [])
 fun r5 ↦
 Option.bind (ret1 r5) fun v6 ↦
 Option.bind (AV.int? IntKind.i64 v6) fun n7 ↦
 Option.bind
 (E cx (Key.loop 9 [true, true, true, true, true, true, false, true, false])
 [vbool false, AV.list 0 4 [], AV.list 0 4 [], vi 0, AV.list 0 3 raw0,
 vbool true, vi (if 30 < ((List.length raw0) : Int) then 30 else ((List.length raw0) : Int)), vi n7]
 [])
 fun r8 ↦
 Option.bind (asJump r8) fun j9 ↦
 bif JX.is j9.fst (JX.exit 0) then
 Option.bind (uncons? j9.snd.fst) fun p10 ↦
 Option.bind (AV.bool? p10.fst) fun _ ↦
 Option.bind (uncons? p10.snd) fun p12 ↦
 Option.bind (AV.list? 4 p12.fst) fun es13 ↦
 Option.bind (uncons? p12.snd) fun p14 ↦
 Option.bind (AV.list? 4 p14.fst) fun es15 ↦
 Option.bind (uncons? p14.snd) fun p16 ↦
 Option.bind (AV.int? IntKind.i64 p16.fst) fun _ ↦
 Option.bind (nil? p16.snd) fun _ ↦
 Option.bind (nil? j9.snd.snd) fun _ ↦
 Option.bind
 (E cx (Key.fn 31)
 [AV.list 0 4 es13, AV.list 0 4 es15] [])
 fun r20 ↦
 Option.bind (ret1 r20) fun v21 ↦
 Option.bind (AV.bool? v21) fun b22 ↦
 bif b22 then
 Option.bind (E cx (Key.fn 36) [AV.list 0 4 es13] [])
 fun r23 ↦
 Option.bind (ret1 r23) fun v24 ↦
 Option.bind (AV.bool? v24) fun b25 ↦
 bif b25 then
 bif decide (((List.length es13) : Int) = if 30 < ((List.length raw0) : Int) then 30 else ((List.length raw0) : Int)) then
 some (Out.ret (vbool true), [])
 else some (Out.ret (vbool false), [])
 else some (Out.ret (vbool false), [])
 else some (Out.ret (vbool false), [])
 else
 bif JX.is j9.fst JX.ret then
 Option.bind (uncons? j9.snd.fst) fun p26 ↦
 Option.bind (AV.bool? p26.fst) fun b27 ↦
 Option.bind (uncons? p26.snd) fun p28 ↦
 Option.bind (AV.list? 4 p28.fst) fun _ ↦
 Option.bind (uncons? p28.snd) fun p30 ↦
 Option.bind (AV.list? 4 p30.fst) fun _ ↦
 Option.bind (uncons? p30.snd) fun p32 ↦
 Option.bind (AV.int? IntKind.i64 p32.fst) fun _ ↦
 Option.bind (nil? p32.snd) fun _ ↦
 Option.bind (nil? j9.snd.snd) fun _ ↦ some (Out.ret (vbool b27), [])
 else none
 else
 Option.bind
 (E cx (Key.fn 28)
 [vi turn1,
 vi (IntKind.wrap IntKind.i64 (Int.add (if 30 < ((List.length raw0) : Int) then 30 else ((List.length raw0) : Int)) 1))]
 [])
 fun r36 ↦
 Option.bind (ret1 r36) fun v37 ↦
 Option.bind (AV.int? IntKind.i64 v37) fun n38 ↦
 Option.bind
 (E cx (Key.loop 9 [true, true, true, true, true, true, false, true, false])
 [vbool false, AV.list 0 4 [], AV.list 0 4 [], vi 0, AV.list 0 3 raw0,
 vbool false, vi (if 30 < ((List.length raw0) : Int) then 30 else ((List.length raw0) : Int)), vi n38]
 [])
 fun r39 ↦
 Option.bind (asJump r39) fun j40 ↦
 bif JX.is j40.fst (JX.exit 0) then
 Option.bind (uncons? j40.snd.fst) fun p41 ↦
 Option.bind (AV.bool? p41.fst) fun _ ↦
 Option.bind (uncons? p41.snd) fun p43 ↦
 Option.bind (AV.list? 4 p43.fst) fun _ ↦
 Option.bind (uncons? p43.snd) fun p45 ↦
 Option.bind (AV.list? 4 p45.fst) fun _ ↦
 Option.bind (uncons? p45.snd) fun p47 ↦
 Option.bind (AV.int? IntKind.i64 p47.fst) fun _ ↦
 Option.bind (nil? p47.snd) fun _ ↦
 Option.bind (nil? j40.snd.snd) fun _ ↦ some (Out.ret (vbool false), [])
 else
 bif JX.is j40.fst JX.ret then
 Option.bind (uncons? j40.snd.fst) fun p51 ↦
 Option.bind (AV.bool? p51.fst) fun b52 ↦
 Option.bind (uncons? p51.snd) fun p53 ↦
 Option.bind (AV.list? 4 p53.fst) fun _ ↦
 Option.bind (uncons? p53.snd) fun p55 ↦
 Option.bind (AV.list? 4 p55.fst) fun _ ↦
 Option.bind (uncons? p55.snd) fun p57 ↦
 Option.bind (AV.int? IntKind.i64 p57.fst) fun _ ↦
 Option.bind (nil? p57.snd) fun _ ↦
 Option.bind (nil? j40.snd.snd) fun _ ↦ some (Out.ret (vbool b52), [])
 else none := by
  intros
  exact (E_fast _ _ _ _).trans (by kernel_rfl)

theorem f9_l0 : ∀ (b61 : Bool) (l62 l63 : List (List AV)) (x64 : Int) (l65 : List (List AV)) (b66 : Bool) (x67 x68 : Int),
 E cx (Key.loop 9 [true, true, true, true, true, true, false, true, false])
 [vbool b61, AV.list 0 4 l62, AV.list 0 4 l63, vi x64, AV.list 0 3 l65,
 vbool b66, vi x67, vi x68]
 [] =
 bif decide (x64 < x67) then
 if 0 ≤ x64 then
 Option.bind l65[Int.toNat x64]? fun cs69 ↦
 Option.bind (uncons? cs69) fun p70 ↦
 Option.bind (AV.int? IntKind.i64 p70.fst) fun n71 ↦
 Option.bind (uncons? p70.snd) fun p72 ↦
 Option.bind (AV.int? IntKind.i64 p72.fst) fun n73 ↦
 Option.bind (uncons? p72.snd) fun p74 ↦
 Option.bind (AV.int? IntKind.i64 p74.fst) fun n75 ↦
 Option.bind (nil? p74.snd) fun _ ↦
 Option.bind
 (E cx (Key.fn 27)
 [AV.agg [vi n71, vi n73, vi n75]] [])
 fun r77 ↦
 Option.bind (ret1 r77) fun v78 ↦
 Option.bind (AV.cells? v78) fun cs79 ↦
 Option.bind (uncons? cs79) fun p80 ↦
 Option.bind (AV.int? IntKind.i64 p80.fst) fun n81 ↦
 Option.bind (uncons? p80.snd) fun p82 ↦
 Option.bind (AV.int? IntKind.i64 p82.fst) fun _ ↦
 Option.bind (uncons? p82.snd) fun p84 ↦
 Option.bind (AV.int? IntKind.i64 p84.fst) fun n85 ↦
 Option.bind (uncons? p84.snd) fun p86 ↦
 Option.bind (AV.str? p86.fst) fun s87 ↦
 Option.bind (nil? p86.snd) fun _ ↦
 Option.bind
 (E cx (Key.fn 29)
 [AV.list 0 4 l62, vi 100,
 AV.agg [vi n81, vi x64, vi n85, vs s87]]
 [])
 fun r89 ↦
 Option.bind (ret1 r89) fun v90 ↦
 Option.bind (AV.tup? v90) fun vs91 ↦
 Option.bind (uncons? vs91) fun p92 ↦
 Option.bind (AV.list? 4 p92.fst) fun es93 ↦
 Option.bind (uncons? p92.snd) fun p94 ↦
 Option.bind (AV.int? IntKind.i64 p94.fst) fun n95 ↦
 Option.bind (nil? p94.snd) fun _ ↦
 if x67 = 0 then none
 else
 if
 0 ≤
 Int.tmod
 (IntKind.wrap IntKind.i64
 (Int.add
 (IntKind.wrap IntKind.i64
 (Int.sub (IntKind.wrap IntKind.i64 (Int.sub x67 1)) x64))
 x68))
 x67 then
 Option.bind
 l65[Int.toNat
 (Int.tmod
 (IntKind.wrap IntKind.i64
 (Int.add
 (IntKind.wrap IntKind.i64
 (Int.sub (IntKind.wrap IntKind.i64 (Int.sub x67 1)) x64))
 x68))
 x67)]?
 fun cs97 ↦
 Option.bind (uncons? cs97) fun p98 ↦
 Option.bind (AV.int? IntKind.i64 p98.fst) fun n99 ↦
 Option.bind (uncons? p98.snd) fun p100 ↦
 Option.bind (AV.int? IntKind.i64 p100.fst) fun n101 ↦
 Option.bind (uncons? p100.snd) fun p102 ↦
 Option.bind (AV.int? IntKind.i64 p102.fst) fun n103 ↦
 Option.bind (nil? p102.snd) fun _ ↦
 Option.bind
 (E cx (Key.fn 27)
 [AV.agg
 [vi n99, vi n101, vi n103]]
 [])
 fun r105 ↦
 Option.bind (ret1 r105) fun v106 ↦
 Option.bind (AV.cells? v106) fun cs107 ↦
 Option.bind (uncons? cs107) fun p108 ↦
 Option.bind (AV.int? IntKind.i64 p108.fst)
 fun n109 ↦
 Option.bind (uncons? p108.snd) fun p110 ↦
 Option.bind (AV.int? IntKind.i64 p110.fst)
 fun _ ↦
 Option.bind (uncons? p110.snd) fun p112 ↦
 Option.bind (AV.int? IntKind.i64 p112.fst)
 fun n113 ↦
 Option.bind (uncons? p112.snd) fun p114 ↦
 Option.bind (AV.str? p114.fst) fun s115 ↦
 Option.bind (nil? p114.snd) fun _ ↦
 Option.bind
 (E cx
 (Key.fn 29)
 [AV.list 0 4 l63,
 vi 100,
 AV.agg
 [vi n109,
 vi
 (Int.tmod
 (IntKind.wrap IntKind.i64
 (Int.add
 (IntKind.wrap IntKind.i64
 (Int.sub
 (IntKind.wrap
 IntKind.i64
 (Int.sub x67 1))
 x64))
 x68))
 x67),
 vi n113,
 vs s115]]
 [])
 fun r117 ↦
 Option.bind (ret1 r117) fun v118 ↦
 Option.bind (AV.tup? v118)
 fun vs119 ↦
 Option.bind (uncons? vs119)
 fun p120 ↦
 Option.bind
 (AV.list? 4 p120.fst)
 fun es121 ↦
 Option.bind
 (uncons? p120.snd)
 fun p122 ↦
 Option.bind
 (AV.int? IntKind.i64
 p122.fst)
 fun n123 ↦
 Option.bind
 (nil? p122.snd)
 fun _ ↦
 bif n95 != 0 then
 some
 (Out.jump
 JX.ret
 [vbool false,
 AV.list 0 4
 l62,
 AV.list 0 4
 l63,
 vi x64],
 [])
 else
 bif n123 != 0 then
 some
 (Out.jump
 JX.ret
 [vbool false,
 AV.list 0 4
 l62,
 AV.list 0 4
 l63,
 vi x64],
 [])
 else
 E cx
 (Key.loop 9
 [true, true, true, true,
 true, true, false, true,
 false])
 [vbool b61,
 AV.list 0 4
 es93,
 AV.list 0 4
 es121,
 vi
 (IntKind.wrap
 IntKind.i64
 (Int.add x64 1)),
 AV.list 0 3
 l65,
 vbool b66,
 vi x67,
 vi x68]
 []
 else none
 else none
 else
 some
 (Out.jump (JX.exit 0)
 [vbool b61, AV.list 0 4 l62, AV.list 0 4 l63, vi x64],
 []) := by
  intros
  exact (E_fast _ _ _ _).trans (by kernel_rfl)

end Go.Proofs.Av
