/- A law's tree. -/
import Derived.Test.YtoaihfbmoppajaaAcX
set_option maxRecDepth 100000
namespace Go.Proofs.Av
open Go
theorem f10 : ∀ (raw125 ticks126 : List (List AV)),
 E cx (Key.fn 10) [AV.list 0 3 raw125, AV.list 0 1 ticks126] [] =
 Option.bind (E cx (Key.fn 25) [] []) fun r127 ↦
 Option.bind (ret1 r127) fun v128 ↦
 Option.bind (AV.bool? v128) fun b129 ↦
 bif b129 then
 Option.bind (E cx (Key.fn 26) [AV.list 0 3 raw125] []) fun r130 ↦
 Option.bind (ret1 r130) fun v131 ↦
 Option.bind (AV.list? 4 v131) fun es132 ↦
 Option.bind
 (E cx (Key.loop 10 [true, true, true, true, true, true, false, true, false])
 [vbool false, AV.list 0 4 es132, AV.arr 0 4 0 0, vi 0, vi 0,
 AV.list 0 1 ticks126, vbool true, AV.list 0 4 es132]
 [Ob.mk OK.arr 50 4 4 []])
 fun r133 ↦
 Option.bind (asJump r133) fun j134 ↦
 bif JX.is j134.fst (JX.exit 0) then
 Option.bind (uncons? j134.snd.fst) fun p135 ↦
 Option.bind (AV.bool? p135.fst) fun _ ↦
 Option.bind (uncons? p135.snd) fun p137 ↦
 Option.bind (AV.list? 4 p137.fst) fun es138 ↦
 Option.bind (uncons? p137.snd) fun p139 ↦
 Option.bind (AV.arr? 0 p139.fst) fun x140 ↦
 Option.bind (chk x140.fst 4) fun _ ↦
 Option.bind (uncons? p139.snd) fun p142 ↦
 Option.bind (AV.int? IntKind.i64 p142.fst) fun _ ↦
 Option.bind (uncons? p142.snd) fun p144 ↦
 Option.bind (AV.int? IntKind.i64 p144.fst) fun _ ↦
 Option.bind (nil? p144.snd) fun _ ↦
 Option.bind (uncons? j134.snd.snd) fun p147 ↦
 Option.bind (obIs (Ob.mk OK.arr 50 4 4 []) p147.fst) fun _ ↦
 Option.bind (chk p147.fst.ver 4) fun _ ↦
 Option.bind (nil? p147.snd) fun _ ↦
 Option.bind
 (chkLe (Nat.add x140.snd.fst x140.snd.snd)
 (List.length (Ob.mk OK.arr 50 4 4 p147.fst.es).es))
 fun _ ↦
 bif
 ysOk
 (List.drop x140.snd.fst
 (List.take (Nat.add x140.snd.fst x140.snd.snd)
 (Ob.mk OK.arr 50 4 4 p147.fst.es).es)) then
 if
 Nat.mul
 (Nat.add 0
 (List.length
 (List.drop x140.snd.fst
 (List.take (Nat.add x140.snd.fst x140.snd.snd)
 (Ob.mk OK.arr 50 4 4 p147.fst.es).es))))
 40 ≤
 140737488355328 then
 bif ysOk es138 then
 Option.bind
 (chk
 (Nat.add 0
 (List.length
 (List.drop x140.snd.fst
 (List.take (Nat.add x140.snd.fst x140.snd.snd)
 (Ob.mk OK.arr 50 4 4 p147.fst.es).es))))
 (List.length
 (Ob.mk OK.arr 50 4 4
 ([] ++
 List.drop x140.snd.fst
 (List.take (Nat.add x140.snd.fst x140.snd.snd)
 (Ob.mk OK.arr 50 4 4 p147.fst.es).es))).es))
 fun _ ↦
 if
 Nat.mul
 (Nat.add
 (List.length
 (Ob.mk OK.arr 50 4 4
 ([] ++
 List.drop x140.snd.fst
 (List.take (Nat.add x140.snd.fst x140.snd.snd)
 (Ob.mk OK.arr 50 4 4 p147.fst.es).es))).es)
 (List.length es138))
 40 ≤
 140737488355328 then
 Option.bind
 (chkLe
 (Nat.add 0
 (Nat.add
 (List.length
 (Ob.mk OK.arr 50 4 4
 ([] ++
 List.drop x140.snd.fst
 (List.take (Nat.add x140.snd.fst x140.snd.snd)
 (Ob.mk OK.arr 50 4 4 p147.fst.es).es))).es)
 (List.length es138)))
 (List.length
 ((Ob.mk OK.arr 50 4 4
 ([] ++
 List.drop x140.snd.fst
 (List.take (Nat.add x140.snd.fst x140.snd.snd)
 (Ob.mk OK.arr 50 4 4 p147.fst.es).es))).es ++
 es138)))
 fun _ ↦
 Option.bind
 (E cx (Key.fn 31)
 [AV.list 0 4
 (List.drop 0
 (List.take
 (Nat.add 0
 (Nat.add
 (List.length
 (Ob.mk OK.arr 50 4 4
 ([] ++
 List.drop x140.snd.fst
 (List.take (Nat.add x140.snd.fst x140.snd.snd)
 (Ob.mk OK.arr 50 4 4
 p147.fst.es).es))).es)
 (List.length es138)))
 ((Ob.mk OK.arr 50 4 4
 ([] ++
 List.drop x140.snd.fst
 (List.take (Nat.add x140.snd.fst x140.snd.snd)
 (Ob.mk OK.arr 50 4 4
 p147.fst.es).es))).es ++
 es138))),
 AV.list 0 4 es132]
 [])
 fun r154 ↦
 Option.bind (ret1 r154) fun v155 ↦
 Option.bind (AV.bool? v155) fun b156 ↦
 bif b156 then some (Out.ret (vbool true), [])
 else some (Out.ret (vbool false), [])
 else none
 else none
 else none
 else none
 else
 bif JX.is j134.fst JX.ret then
 Option.bind (uncons? j134.snd.fst) fun p157 ↦
 Option.bind (AV.bool? p157.fst) fun b158 ↦
 Option.bind (uncons? p157.snd) fun p159 ↦
 Option.bind (AV.list? 4 p159.fst) fun _ ↦
 Option.bind (uncons? p159.snd) fun p161 ↦
 Option.bind (AV.arr? 0 p161.fst) fun x162 ↦
 Option.bind (chk x162.fst 4) fun _ ↦
 Option.bind (uncons? p161.snd) fun p164 ↦
 Option.bind (AV.int? IntKind.i64 p164.fst) fun _ ↦
 Option.bind (uncons? p164.snd) fun p166 ↦
 Option.bind (AV.int? IntKind.i64 p166.fst) fun _ ↦
 Option.bind (nil? p166.snd) fun _ ↦
 Option.bind (uncons? j134.snd.snd) fun p169 ↦
 Option.bind (obIs (Ob.mk OK.arr 50 4 4 []) p169.fst) fun _ ↦
 Option.bind (chk p169.fst.ver 4) fun _ ↦
 Option.bind (nil? p169.snd) fun _ ↦
 some (Out.ret (vbool b158), [])
 else none
 else
 Option.bind (E cx (Key.fn 26) [AV.list 0 3 raw125] []) fun r173 ↦
 Option.bind (ret1 r173) fun v174 ↦
 Option.bind (AV.list? 4 v174) fun es175 ↦
 Option.bind
 (E cx (Key.loop 10 [true, true, true, true, true, true, false, true, false])
 [vbool false, AV.list 0 4 es175, AV.arr 0 4 0 0, vi 0, vi 0,
 AV.list 0 1 ticks126, vbool false, AV.list 0 4 es175]
 [Ob.mk OK.arr 50 4 4 []])
 fun r176 ↦
 Option.bind (asJump r176) fun j177 ↦
 bif JX.is j177.fst (JX.exit 0) then
 Option.bind (uncons? j177.snd.fst) fun p178 ↦
 Option.bind (AV.bool? p178.fst) fun _ ↦
 Option.bind (uncons? p178.snd) fun p180 ↦
 Option.bind (AV.list? 4 p180.fst) fun _ ↦
 Option.bind (uncons? p180.snd) fun p182 ↦
 Option.bind (AV.arr? 0 p182.fst) fun x183 ↦
 Option.bind (chk x183.fst 4) fun _ ↦
 Option.bind (uncons? p182.snd) fun p185 ↦
 Option.bind (AV.int? IntKind.i64 p185.fst) fun _ ↦
 Option.bind (uncons? p185.snd) fun p187 ↦
 Option.bind (AV.int? IntKind.i64 p187.fst) fun _ ↦
 Option.bind (nil? p187.snd) fun _ ↦
 Option.bind (uncons? j177.snd.snd) fun p190 ↦
 Option.bind (obIs (Ob.mk OK.arr 50 4 4 []) p190.fst) fun _ ↦
 Option.bind (chk p190.fst.ver 4) fun _ ↦
 Option.bind (nil? p190.snd) fun _ ↦
 some (Out.ret (vbool false), [])
 else
 bif JX.is j177.fst JX.ret then
 Option.bind (uncons? j177.snd.fst) fun p194 ↦
 Option.bind (AV.bool? p194.fst) fun b195 ↦
 Option.bind (uncons? p194.snd) fun p196 ↦
 Option.bind (AV.list? 4 p196.fst) fun _ ↦
 Option.bind (uncons? p196.snd) fun p198 ↦
 Option.bind (AV.arr? 0 p198.fst) fun x199 ↦
 Option.bind (chk x199.fst 4) fun _ ↦
 Option.bind (uncons? p198.snd) fun p201 ↦
 Option.bind (AV.int? IntKind.i64 p201.fst) fun _ ↦
 Option.bind (uncons? p201.snd) fun p203 ↦
 Option.bind (AV.int? IntKind.i64 p203.fst) fun _ ↦
 Option.bind (nil? p203.snd) fun _ ↦
 Option.bind (uncons? j177.snd.snd) fun p206 ↦
 Option.bind (obIs (Ob.mk OK.arr 50 4 4 []) p206.fst) fun _ ↦
 Option.bind (chk p206.fst.ver 4) fun _ ↦
 Option.bind (nil? p206.snd) fun _ ↦
 some (Out.ret (vbool b195), [])
 else none := by
  intros
  exact (E_fast _ _ _ _).trans (by kernel_rfl)

theorem f10_l0 : ∀ (b210 : Bool) (l211 : List (List AV)) (n212 : Nat) (x213 x214 : Int) (l215 : List (List AV)) (b216 : Bool)
 (l217 l218 : List (List AV)),
 E cx (Key.loop 10 [true, true, true, true, true, true, false, true, false])
 [vbool b210, AV.list 0 4 l211, AV.arr 0 4 0 n212, vi x213, vi x214,
 AV.list 0 1 l215, vbool b216, AV.list 0 4 l217]
 [Ob.mk OK.arr 50 4 4 l218] =
 bif decide (x214 < ((List.length l215) : Int)) then
 bif decide (x214 < 10) then
 if 0 ≤ x214 then
 Option.bind l215[Int.toNat x214]? fun cs219 ↦
 Option.bind (uncons? cs219) fun p220 ↦
 Option.bind (AV.int? IntKind.i64 p220.fst) fun n221 ↦
 Option.bind (nil? p220.snd) fun _ ↦
 Option.bind (E cx (Key.fn 28) [vi n221, vi 4] []) fun r223 ↦
 Option.bind (ret1 r223) fun v224 ↦
 Option.bind (AV.int? IntKind.i64 v224) fun n225 ↦
 Option.bind
 (E cx (Key.fn 32)
 [AV.list 0 4 l211, vi (IntKind.wrap IntKind.i64 (Int.add x213 n225))] [])
 fun r226 ↦
 Option.bind (ret1 r226) fun v227 ↦
 Option.bind (AV.tup? v227) fun vs228 ↦
 Option.bind (uncons? vs228) fun p229 ↦
 Option.bind (AV.list? 4 p229.fst) fun es230 ↦
 Option.bind (uncons? p229.snd) fun p231 ↦
 Option.bind (AV.list? 4 p231.fst) fun es232 ↦
 Option.bind (nil? p231.snd) fun _ ↦
 Option.bind
 (E cx
 (Key.loop 10
 [true, true, true, true, true, true, false, true, false, false, true, false, false, true, true, false, true,
 false])
 [vbool b210, vi 0, AV.list 0 1 l215, vbool b216,
 AV.list 0 4 l217, AV.arr 0 4 0 n212,
 vi (IntKind.wrap IntKind.i64 (Int.add x213 n225)), vi x214,
 AV.list 0 4 es230, AV.list 0 4 es232]
 [Ob.mk OK.arr 50 4 4 l218])
 fun r234 ↦
 Option.bind (asJump r234) fun j235 ↦
 bif JX.is j235.fst (JX.exit 2) then
 Option.bind (uncons? j235.snd.fst) fun p236 ↦
 Option.bind (AV.bool? p236.fst) fun b237 ↦
 Option.bind (uncons? p236.snd) fun p238 ↦
 Option.bind (AV.int? IntKind.i64 p238.fst) fun _ ↦
 Option.bind (nil? p238.snd) fun _ ↦
 Option.bind (uncons? j235.snd.snd) fun p241 ↦
 Option.bind (obIs (Ob.mk OK.arr 50 4 4 l218) p241.fst)
 fun _ ↦
 Option.bind (chk p241.fst.ver 4) fun _ ↦
 Option.bind (nil? p241.snd) fun _ ↦
 Option.bind
 (E cx (Key.fn 34) [AV.list 0 4 es232] [])
 fun r245 ↦
 Option.bind (ret1 r245) fun v246 ↦
 Option.bind (AV.tup? v246) fun vs247 ↦
 Option.bind (uncons? vs247) fun p248 ↦
 Option.bind (AV.int? IntKind.i64 p248.fst) fun n249 ↦
 Option.bind (uncons? p248.snd) fun p250 ↦
 Option.bind (AV.bool? p250.fst) fun b251 ↦
 bif b251 then
 Option.bind (nil? p250.snd) fun _ ↦
 bif decide (((List.length es232) : Int) > 0) then
 bif decide (n249 ≤ IntKind.wrap IntKind.i64 (Int.add x213 n225)) then
 none
 else
 bif ysOk es230 then
 Option.bind
 (chk n212
 (List.length
 (Ob.mk OK.arr 50 4 4 p241.fst.es).es))
 fun _ ↦
 if
 Nat.mul
 (Nat.add
 (List.length
 (Ob.mk OK.arr 50 4 4
 p241.fst.es).es)
 (List.length es230))
 40 ≤
 140737488355328 then
 E cx
 (Key.loop 10
 [true, true, true, true, true, true, false, true, false])
 [vbool b237, AV.list 0 4 es232,
 AV.arr 0 4 0
 (Nat.add
 (List.length
 (Ob.mk OK.arr 50 4 4
 p241.fst.es).es)
 (List.length es230)),
 vi
 (IntKind.wrap IntKind.i64 (Int.add x213 n225)),
 vi
 (IntKind.wrap IntKind.i64 (Int.add x214 1)),
 AV.list 0 1 l215, vbool b216,
 AV.list 0 4 l217]
 [Ob.mk OK.arr 50 4 4
 ((Ob.mk OK.arr 50 4 4
 p241.fst.es).es ++
 es230)]
 else none
 else none
 else none
 else
 Option.bind (nil? p250.snd) fun _ ↦
 bif decide (((List.length es232) : Int) > 0) then none
 else
 bif ysOk es230 then
 Option.bind
 (chk n212
 (List.length
 (Ob.mk OK.arr 50 4 4 p241.fst.es).es))
 fun _ ↦
 if
 Nat.mul
 (Nat.add
 (List.length
 (Ob.mk OK.arr 50 4 4
 p241.fst.es).es)
 (List.length es230))
 40 ≤
 140737488355328 then
 E cx
 (Key.loop 10
 [true, true, true, true, true, true, false, true, false])
 [vbool b237, AV.list 0 4 es232,
 AV.arr 0 4 0
 (Nat.add
 (List.length
 (Ob.mk OK.arr 50 4 4
 p241.fst.es).es)
 (List.length es230)),
 vi
 (IntKind.wrap IntKind.i64 (Int.add x213 n225)),
 vi (IntKind.wrap IntKind.i64 (Int.add x214 1)),
 AV.list 0 1 l215, vbool b216,
 AV.list 0 4 l217]
 [Ob.mk OK.arr 50 4 4
 ((Ob.mk OK.arr 50 4 4
 p241.fst.es).es ++
 es230)]
 else none
 else none
 else
 bif JX.is j235.fst JX.ret then
 Option.bind (uncons? j235.snd.fst) fun p256 ↦
 Option.bind (AV.bool? p256.fst) fun _ ↦
 Option.bind (uncons? p256.snd) fun p258 ↦
 Option.bind (AV.int? IntKind.i64 p258.fst) fun _ ↦
 Option.bind (nil? p258.snd) fun _ ↦
 Option.bind (uncons? j235.snd.snd) fun p261 ↦
 Option.bind (obIs (Ob.mk OK.arr 50 4 4 l218) p261.fst)
 fun _ ↦
 Option.bind (chk p261.fst.ver 4) fun _ ↦
 Option.bind (nil? p261.snd) fun _ ↦ none
 else none
 else none
 else
 some
 (Out.jump (JX.exit 0)
 [vbool b210, AV.list 0 4 l211, AV.arr 0 4 0 n212, vi x213, vi x214],
 [Ob.mk OK.arr 50 4 4 l218])
 else
 some
 (Out.jump (JX.exit 0)
 [vbool b210, AV.list 0 4 l211, AV.arr 0 4 0 n212, vi x213, vi x214],
 [Ob.mk OK.arr 50 4 4 l218]) := by
  intros
  exact (E_fast _ _ _ _).trans (by kernel_rfl)

theorem f10_l0_l1 : ∀ (b265 : Bool) (x266 : Int) (l267 : List (List AV)) (b268 : Bool) (l269 : List (List AV)) (n270 : Nat) (x271 x272 : Int)
 (l273 l274 l275 : List (List AV)),
 E cx
 (Key.loop 10 [true, true, true, true, true, true, false, true, false, false, true, false, false, true, true, false, true, false])
 [vbool b265, vi x266, AV.list 0 1 l267, vbool b268, AV.list 0 4 l269,
 AV.arr 0 4 0 n270, vi x271, vi x272, AV.list 0 4 l273, AV.list 0 4 l274]
 [Ob.mk OK.arr 50 4 4 l275] =
 bif decide (x266 < ((List.length l273) : Int)) then
 if 0 ≤ x266 then
 Option.bind l273[Int.toNat x266]? fun cs276 ↦
 Option.bind (uncons? cs276) fun p277 ↦
 Option.bind (AV.int? IntKind.i64 p277.fst) fun n278 ↦
 Option.bind (uncons? p277.snd) fun p279 ↦
 Option.bind (AV.int? IntKind.i64 p279.fst) fun _ ↦
 Option.bind (uncons? p279.snd) fun p281 ↦
 Option.bind (AV.int? IntKind.i64 p281.fst) fun _ ↦
 Option.bind (uncons? p281.snd) fun p283 ↦
 Option.bind (AV.str? p283.fst) fun _ ↦
 Option.bind (nil? p283.snd) fun _ ↦
 bif decide (n278 > x271) then
 some
 (Out.jump JX.ret [vbool false, vi x266],
 [Ob.mk OK.arr 50 4 4 l275])
 else
 E cx
 (Key.loop 10
 [true, true, true, true, true, true, false, true, false, false, true, false, false, true, true, false, true, false])
 [vbool b265, vi (IntKind.wrap IntKind.i64 (Int.add x266 1)), AV.list 0 1 l267,
 vbool b268, AV.list 0 4 l269, AV.arr 0 4 0 n270, vi x271,
 vi x272, AV.list 0 4 l273, AV.list 0 4 l274]
 [Ob.mk OK.arr 50 4 4 l275]
 else none
 else
 some
 (Out.jump (JX.exit 2) [vbool b265, vi x266], [Ob.mk OK.arr 50 4 4 l275]) := by
  intros
  exact (E_fast _ _ _ _).trans (by kernel_rfl)

end Go.Proofs.Av
