/- What every law of this seat needs: the table as laid, the door's own heap. -/
import Derived.Test.YtoaihfbmoppajaaDoorAbX
import Derived.Test.YtoaihfbmoppajaaDoorTie
import Derived.Test.YtoaihfbmoppajaaDoorCards
import Derived.ProofKit
import Derived.LaidMore
import Derived.OpenShut
import Derived.Stop.Joined
import Derived.SevenTiedAt
namespace Go.Proofs.Av
open Go Go.ChangeShapes Go.WideShapes Go.ChangeAt Go.RowKit Go.Proofs.YtoaihfbmoppajaaDoor

abbrev laidB : List (String × DataW Unit) := [("mootbell/clock.bounds", Rows.laid_mootbell_clock_bounds)]
theorem own : ownKnob Tryd.prog.godebug = none := by kernel_rfl
theorem lays : laidOutB cx.P = true := by kernel_rfl
theorem u4' : cx.P.underlying 4 = some .bool := Tryd.underlying4
theorem laid_rel {W : World} (h : laidMetH cx.P laidB W) : GRel cx (Old W) W := by
  refine grel_laid laidB (by intro x hx; simp only [List.mem_singleton] at hx; subst hx; rfl) h fun g cs hg => ?_
  change GL g = some cs at hg
  unfold GL at hg
  split at hg
  · rename_i hb
    have := Nat.eq_of_beq_eq_true hb
    subst this
    cases hg
    exact ⟨_, List.mem_singleton.2 rfl, by kernel_rfl, 44, by kernel_rfl, by kernel_rfl⟩
  · cases hg
theorem door_met (os : Os) (args : Array Value) : laidMetH Tryd.prog laidB ((World.doorLaid Tryd.prog 400 os).forCall (fun _ _ => 0) ⟨#[], args, []⟩).memory :=
  laidMetH_of_parts3 (fuel := 8) (laidMet_of_run' 8 (by kernel_rfl) (by kernel_rfl)) (by kernel_rfl) (by kernel_rfl)

end Go.Proofs.Av
