/- More trees. -/
import Derived.Test.YtoaihfbmoppajaaAcX
set_option maxRecDepth 100000
namespace Go.Proofs.Av
open Go
theorem f29n : ∀ (room1 w2 w3 w4 : Int) (w5 : ByteArray),
 E cx (Key.fn 29)
 [AV.val (Go.Value.slice none 0 0), vi room1,
 AV.agg [vi w2, vi w3, vi w4, vs w5]]
 [] =
 Option.bind (E cx (Key.fn 36) [AV.val (Go.Value.slice none 0 0)] []) fun r6 ↦
 Option.bind (ret1 r6) fun v7 ↦
 Option.bind (AV.bool? v7) fun b8 ↦
 bif b8 then
 Option.bind
 (E cx (Key.fn 43)
 [AV.agg [vi w2, vi w3, vi w4, vs w5]] [])
 fun r9 ↦
 Option.bind (ret1 r9) fun v10 ↦
 Option.bind (AV.bool? v10) fun b11 ↦
 bif b11 then
 Option.bind
 (E cx (Key.fn 44)
 [vi 0,
 AV.func (Go.Fn.func 45) []
 [AV.rop [AV.val (Go.Value.slice none 0 0)],
 AV.rop [vi w2, vi w3, vi w4, vs w5]]]
 [])
 fun r12 ↦
 Option.bind (ret1 r12) fun v13 ↦
 Option.bind (AV.int? IntKind.i64 v13) fun n14 ↦
 bif decide (n14 < 0) then none
 else
 bif decide (0 ≥ room1) then
 some (Out.ret (AV.tuple [AV.val (Go.Value.slice none 0 0), vi 5]), [])
 else none
 else some (Out.ret (AV.tuple [AV.val (Go.Value.slice none 0 0), vi 1]), [])
 else some (Out.ret (AV.tuple [AV.val (Go.Value.slice none 0 0), vi 1]), []) := by
  intros
  exact (E_fast _ _ _ _).trans (by kernel_rfl)

theorem f29n_c0 : ∀ (x15 x16 x17 x18 : Int) (s19 : ByteArray),
 E cx (Key.fn 44)
 [vi x15,
 AV.func (Go.Fn.func 45) []
 [AV.rop [AV.val (Go.Value.slice none 0 0)],
 AV.rop [vi x16, vi x17, vi x18, vs s19]]]
 [] =
 Option.bind
 (E cx (Key.loop 44 [true, true, false, false])
 [vi 0, vi x15,
 AV.func (Go.Fn.func 45) []
 [AV.rop [AV.val (Go.Value.slice none 0 0)],
 AV.rop [vi x16, vi x17, vi x18, vs s19]]]
 [])
 fun r20 ↦
 Option.bind (asJump r20) fun j21 ↦
 bif JX.is j21.fst (JX.exit 0) then
 Option.bind (uncons? j21.snd.fst) fun p22 ↦
 Option.bind (AV.int? IntKind.i64 p22.fst) fun n23 ↦
 Option.bind (uncons? p22.snd) fun p24 ↦
 Option.bind (AV.int? IntKind.i64 p24.fst) fun _ ↦
 Option.bind (nil? p24.snd) fun _ ↦
 Option.bind (nil? j21.snd.snd) fun _ ↦ some (Out.ret (vi n23), [])
 else none := by
  intros
  exact (E_fast _ _ _ _).trans (by kernel_rfl)

theorem f29n_c0_l1 : ∀ (x28 x29 x30 x31 x32 : Int) (s33 : ByteArray),
 E cx (Key.loop 44 [true, true, false, false])
 [vi x28, vi x29,
 AV.func (Go.Fn.func 45) []
 [AV.rop [AV.val (Go.Value.slice none 0 0)],
 AV.rop [vi x30, vi x31, vi x32, vs s33]]]
 [] =
 bif decide (x28 < x29) then
 Option.bind
 (E cx (Key.fn 45)
 [vi
 (IntKind.wrap IntKind.i64
 (ishr IntKind.u64 (IntKind.wrap IntKind.u64 (IntKind.wrap IntKind.i64 (Int.add x28 x29))) 1)),
 AV.rop [AV.val (Go.Value.slice none 0 0)],
 AV.rop [vi x30, vi x31, vi x32, vs s33]]
 [])
 fun r34 ↦
 Option.bind (ret1 r34) fun v35 ↦
 Option.bind (AV.bool? v35) fun b36 ↦
 bif b36 then
 E cx (Key.loop 44 [true, true, false, false])
 [vi x28,
 vi
 (IntKind.wrap IntKind.i64
 (ishr IntKind.u64 (IntKind.wrap IntKind.u64 (IntKind.wrap IntKind.i64 (Int.add x28 x29))) 1)),
 AV.func (Go.Fn.func 45) []
 [AV.rop [AV.val (Go.Value.slice none 0 0)],
 AV.rop [vi x30, vi x31, vi x32, vs s33]]]
 []
 else
 E cx (Key.loop 44 [true, true, false, false])
 [vi
 (IntKind.wrap IntKind.i64
 (Int.add
 (IntKind.wrap IntKind.i64
 (ishr IntKind.u64 (IntKind.wrap IntKind.u64 (IntKind.wrap IntKind.i64 (Int.add x28 x29))) 1))
 1)),
 vi x29,
 AV.func (Go.Fn.func 45) []
 [AV.rop [AV.val (Go.Value.slice none 0 0)],
 AV.rop [vi x30, vi x31, vi x32, vs s33]]]
 []
 else some (Out.jump (JX.exit 0) [vi x28, vi x29], []) := by
  intros
  exact (E_fast _ _ _ _).trans (by kernel_rfl)


theorem f34n : E cx (Key.fn 34) [AV.val (Go.Value.slice none 0 0)] [] =
 some (Out.ret (AV.tuple [vi 0, vbool false]), []) := by
  intros
  exact (E_fast _ _ _ _).trans (by kernel_rfl)


theorem f36n : E cx (Key.fn 36) [AV.val (Go.Value.slice none 0 0)] [] =
 Option.bind
 (E cx (Key.loop 36 [true, false, true, false])
 [vbool false, vi 0, AV.val (Go.Value.slice none 0 0), AV.val (Go.Value.slice none 0 0),
 vi 0]
 [])
 fun r39 ↦
 Option.bind (asJump r39) fun j40 ↦
 bif JX.is j40.fst (JX.exit 0) then
 Option.bind (uncons? j40.snd.fst) fun p41 ↦
 Option.bind (AV.bool? p41.fst) fun _ ↦
 Option.bind (uncons? p41.snd) fun p43 ↦
 Option.bind (AV.int? IntKind.i64 p43.fst) fun _ ↦
 Option.bind (nil? p43.snd) fun _ ↦
 Option.bind (nil? j40.snd.snd) fun _ ↦ some (Out.ret (vbool true), [])
 else
 bif JX.is j40.fst JX.ret then
 Option.bind (uncons? j40.snd.fst) fun p47 ↦
 Option.bind (AV.bool? p47.fst) fun b48 ↦
 Option.bind (uncons? p47.snd) fun p49 ↦
 Option.bind (AV.int? IntKind.i64 p49.fst) fun _ ↦
 Option.bind (nil? p49.snd) fun _ ↦
 Option.bind (nil? j40.snd.snd) fun _ ↦ some (Out.ret (vbool b48), [])
 else none := by
  intros
  exact (E_fast _ _ _ _).trans (by kernel_rfl)

theorem f36n_l0 : ∀ (b53 : Bool) (x54 x55 : Int),
 E cx (Key.loop 36 [true, false, true, false])
 [vbool b53, vi x54, AV.val (Go.Value.slice none 0 0), AV.val (Go.Value.slice none 0 0),
 vi x55]
 [] =
 bif decide (x54 < x55) then none else some (Out.jump (JX.exit 0) [vbool b53, vi x54], []) := by
  intros
  exact (E_fast _ _ _ _).trans (by kernel_rfl)

end Go.Proofs.Av
