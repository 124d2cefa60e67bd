/- Octets: the fixed calls. -/
import Derived.Test.YtoaihfbmoppajaaAdM
import Derived.Test.YtoaihfbmoppajaaAdYa
namespace Go.Proofs.Av
open Go
abbrev W1 : B := [97, 9, 0, 0, 0, 11, 0, 0, 0, 98, 99]
theorem j13 : joinR [97] [[98, 99], []] = (W1, 0) := by decide
theorem ok13 : okS W1 1 2 := by unfold okS; decide
theorem s13 : splitR W1 (1 : Nat) (2 : Nat) = ([97], [[98, 99], []], 0) := by
  rw [splitR_0 (by omega) (by omega) (by decide) (by decide) ok13]
  decide
theorem s13b : splitR [97, 98, 99, 100] (5 : Nat) (0 : Nat) = ([], [], 3) := splitR_3 (by omega) (by omega) (by decide) (by decide)
theorem f13_true : E cx (.fn 13) [] [] = some (.ret (vbool true), []) := by
  refine f13.trans ?_
  have h1 := c20 [97] [[98, 99], []] (by decide)
  rw [j13] at h1
  refine (goJn h1 _).trans ?_
  have h2 := c22 W1 (f := (1 : Nat)) (m := (2 : Nat)) (by omega) (by omega)
  unfold RS' at h2
  rw [s13] at h2
  refine (goSp h2 _).trans ?_
  refine (goTk (c16 [1, 2, 120] 2) _).trans ?_
  refine (goTk (c16 [97] 2) _).trans ?_
  refine (goTk (c16 [97] 9) _).trans ?_
  have h3 := c22 [97, 98, 99, 100] (f := (5 : Nat)) (m := (0 : Nat)) (by omega) (by omega)
  unfold RS' at h3
  rw [s13b] at h3
  refine (goSp h3 _).trans ?_
  refine (goD rfl _ _).trans ((goQ rfl _ _).trans ((goQ rfl _ _).trans ((goD rfl _ _).trans ?_)))
  refine (goT (c24 [[98, 99], []] [[98, 99], []] (by decide)) _ _).trans ?_
  refine (goD rfl _ _).trans ((goQ rfl _ _).trans ((goD rfl _ _).trans ((goD rfl _ _).trans ((goD rfl _ _).trans ((goD rfl _ _).trans ?_)))))
  refine (goS (c18 513 2) _).trans ?_
  exact goQ rfl _ _
end Go.Proofs.Av
