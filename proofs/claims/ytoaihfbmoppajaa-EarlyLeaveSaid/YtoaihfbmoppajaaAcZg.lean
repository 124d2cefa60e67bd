/- The document's example: the fixed calls are answered as they must be. -/
import Derived.Test.YtoaihfbmoppajaaAcZf
import Derived.Test.YtoaihfbmoppajaaAcYn
import Derived.Test.YtoaihfbmoppajaaAcY25
namespace Go.Proofs.Av
open Go
abbrev nilS : AV := .val (.slice none 0 0)
theorem n36 : E cx (.fn 36) [nilS] [] = rb true := by
  refine f36n.trans ?_
  rw [show E cx (.loop 36 [true, false, true, false]) [vbool false, vi 0, AV.val (Value.slice none 0 0), AV.val (Value.slice none 0 0), vi 0] [] = some (Out.jump (.exit 0) [vbool false, vi 0], []) from (f36n_l0 _ _ _).trans rfl]
  rfl
theorem n29 (room : Int) (w : W) (hw : may w = false) : RetLI (E cx (.fn 29) [nilS, vi room, w.av] []) (rows []) 1 := by
  refine retNil ((f29n _ _ _ _ _).trans ((goT n36 _ _).trans (goF (by rw [← hw]; exact e43 w) _ _)))
theorem n34 : RetIB (E cx (.fn 34) [nilS] []) 0 false := f34n
abbrev b0 : ByteArray := ByteArray.mk (Array.mk [])
abbrev bx : ByteArray := ByteArray.mk (Array.mk [UInt8.ofNat 120])
abbrev w1 : W := ⟨5, 1, 0, b0⟩
abbrev w2 : W := ⟨5, 2, 0, bx⟩
abbrev w3 : W := ⟨5, 3, 2, b0⟩
abbrev w4 : W := ⟨6, 0, 0, b0⟩
theorem goB' {ρ : Type} {x : Option (Out × Heap)} {n : Int} {b : Bool} (h : RetIB x n b) (k j : Int → Option ρ) : (x.bind fun r => (ret1 r).bind fun v => v.tup?.bind fun vs => (uncons? vs).bind fun p1 => (AV.int? .i64 p1.fst).bind fun n =>
    (uncons? p1.snd).bind fun p2 => (AV.bool? p2.fst).bind fun b => bif b then (nil? p2.snd).bind fun _ => k n else (nil? p2.snd).bind fun _ => j n) = bif b then k n else j n := by
  rw [show x = _ from h]
  cases b <;> rfl
theorem e25 : E cx (.fn 25) [] [] = rb true := by
  refine f25.trans ((goLI (e29 [w1, w3] 3 w2 (by decide)) _).trans ?_)
  rw [show putF [w1, w3] 3 w2 = ([w1, w2, w3], 0) by kernel_rfl]
  refine (goLI (e29 [w1, w2, w3] 4 w4 (by decide)) _).trans ?_
  rw [show putF [w1, w2, w3] 4 w4 = ([w1, w2, w3, w4], 0) by kernel_rfl]
  refine (goLI (e29 [w1, w2, w3] 3 w4 (by decide)) _).trans ?_
  rw [show putF [w1, w2, w3] 3 w4 = ([], 5) by kernel_rfl]
  refine (goLI (e29 [w1, w2, w3] 3 ⟨5, 2, 0, b0⟩ (by decide)) _).trans ?_
  rw [show putF [w1, w2, w3] 3 ⟨5, 2, 0, b0⟩ = ([], 7) by kernel_rfl]
  refine (goLI (n29 3 ⟨-1, 0, 0, b0⟩ (by kernel_rfl)) _).trans ?_
  refine (goLL (e32 [w1, w2, w3, w4] 5 (by decide)) _).trans ?_
  rw [show ripeF [w1, w2, w3, w4] 5 = ([w1, w2, w3], [w4]) by kernel_rfl]
  refine (goB' (e34 [w1, w2, w3] (by decide)) _ _).trans ?_
  rw [show nextF [w1, w2, w3] = (5, true) by kernel_rfl]
  refine (goTt rfl _ _).trans ?_
  refine (goB' n34 (fun _ => _) (fun _ => _)).trans ((goFf rfl _ _).trans ?_)
  refine (goD rfl _ _).trans ((goT (e31 [w1, w2, w3] (by decide)) _ _).trans ?_)
  refine (goD rfl _ _).trans ((goD rfl _ _).trans ((goD rfl _ _).trans ((goD rfl _ _).trans ?_)))
  refine (goT (e31 [w1, w2, w3] (by decide)) _ _).trans ((goT (e31 [w4] (by decide)) _ _).trans ((goD rfl _ _).trans ?_))
  refine (goT (by have := e36 [w1, w2, w3] (by decide); rw [show right [w1, w2, w3] = true by kernel_rfl] at this; exact this) _ _).trans ?_
  refine (goL (e38 [w1, w3] 2 (by decide)) _).trans ?_
  rw [show leaveF [w1, w3] 2 = [w1] by kernel_rfl]
  exact goT (e31 [w1] (by decide)) _ _
end Go.Proofs.Av
