/- The law of slots: the row and its card. -/
import Derived.Test.YtogopainnioiiaaDoorAvZb
import Derived.Test.YtogopainnioiiaaDoorTie
import Derived.Test.YtogopainnioiiaaDoorCards
import Derived.ProofKit
import Derived.LaidMore
import Derived.OpenShut
import Derived.Stop.Joined
import Derived.SevenTiedAt
namespace Go.Proofs.Av
open Go Go.ChangeShapes Go.WideShapes Go.ChangeAt Go.RowKit Go.Proofs.YtogopainnioiiaaDoor

abbrev laidB : List (String × DataW Unit) := [("mootbell/clock.bounds", Rows.laid_mootbell_clock_bounds)]
theorem own : ownKnob Tryd.prog.godebug = none := by kernel_rfl
theorem lays : laidOutB cx.P = true := by kernel_rfl
theorem u4' : cx.P.underlying 4 = some .bool := Tryd.underlying4
theorem laid_rel {W : World} (h : laidMetH cx.P laidB W) : GRel cx (Old W) W := by
  refine grel_laid laidB (by intro x hx; simp only [List.mem_singleton] at hx; subst hx; rfl) h fun g cs hg => ?_
  change GL g = some cs at hg
  unfold GL at hg
  split at hg
  · rename_i hb
    have := Nat.eq_of_beq_eq_true hb
    subst this
    cases hg
    exact ⟨_, List.mem_singleton.2 rfl, by kernel_rfl, 48, by kernel_rfl, by kernel_rfl⟩
  · cases hg
theorem door_met (os : Os) (args : Array Value) : laidMetH Tryd.prog laidB ((World.doorLaid Tryd.prog 400 os).forCall (fun _ _ => 0) ⟨#[], args, []⟩).memory :=
  laidMetH_of_parts3 (fuel := 8) (laidMet_of_run' 8 (by kernel_rfl) (by kernel_rfl)) (by kernel_rfl) (by kernel_rfl)

set_option maxRecDepth 100000 in
theorem lifted4 (os : Os) (started : os.Started) (H : Type) (enc : TypeId × Value → H) :
    ReturnsInHanded {} Tryd.checked os 4 .any (fun w args => (Rows.clockSlotsSpec.pre enc Tryd.prog Tryd.f4 [] false w args ∧ laidMetH Tryd.prog laidB w) ∧ sizedMet enc Tryd.prog Tryd.f4 (OpenSpec.ofChange Rows.clockSlotsSpec) false w args)
      (Rows.clockSlotsSpec.post enc Tryd.prog Tryd.f4 false true false false) := by
  refine returnsInHanded_of_change_and (C := Tryd.checked) (X := fun w _ => laidMetH Tryd.prog laidB w) (fun _ _ _ hh h => h.of_heap hh) own started (by kernel_rfl) Tryd.func4
    (ChangeSpec.witness_shaped (enc := enc) (C := Tryd.checked) (os := os) (X := fun w _ => laidMetH Tryd.prog laidB w) false (World.doorLaid Tryd.prog 400 os) #[.agg #[.int .i64 0, .int .i64 0, .int .i64 0, .int .i64 0, .int .i64 0, .int .i64 0], .int .i64 0] 8 rfl (World.shaped_of_RefB (by kernel_rfl) (by kernel_rfl)) (by kernel_rfl) (by kernel_rfl) (by kernel_rfl) (door_met os _)) ?_
  intro W base args ds gs before hval hW _ _ hL _
  exact law_calls (cx := cx) cx_names lays (tb := 4) rfl u4' rfl (by kernel_rfl)
    (fun ds hl => by
      match ds, hl with
      | [d1, d2], _ => rfl)
    (fun avs hf => law4 avs hf) hval hW (laid_rel hL)

theorem clockSlots_said : Rows.ClockSlotsSaid :=
  OpenClaim.holds_of_wide 4 Tryd.f4 rfl rfl rfl rfl rfl rfl rfl ⟨rfl, rfl, rfl, rfl, rfl⟩ rfl rfl rfl rfl rfl (by kernel_rfl) Tryd.func4 (by kernel_rfl)
    (of_decide_eq_true (by kernel_rfl)) (by unfold Func.isWrapper; first | (rw [if_pos (by decide +kernel)]; kernel_rfl) | (rw [if_neg (by decide +kernel)]; exact ⟨rfl, rfl⟩))
    (fun os started H enc _ => lifted4 os started H enc)
end Go.Proofs.Av
namespace Go.Proofs.YtogopainnioiiaaDoor
open Go.Proofs.Av
theorem clockSlots_card : Rows.ClockSlotsCardSaid :=
  Claim7.holds_tied_plain_at .later [] [.data] true (true, "e1341f2ca68dd37725ff6dcb7f454dce2a87c61729a7af73292a449d23362b3d") false
    clockSlots_said (fun _ h => by cases h) (by kernel_rfl) (fun _ h => by cases h) clockSlots_row_tie rfl ⟨rfl, rfl⟩ (by kernel_rfl) rfl
    (fun f fn hf hfn => by
      obtain rfl : f = 4 := Option.some.inj ((show Tryd.prog.funcNamed "mootbell/mootbelllaw08.ClockSlots" = some 4 by kernel_rfl).symm.trans hf) |>.symm
      obtain rfl : fn = Tryd.f4 := (Option.some.inj (Tryd.func4.symm.trans hfn)).symm
      exact ⟨by kernel_rfl, fun j t ht => by
        rw [Tryd.params4] at ht
        have hm : t ∈ [25, 3] := by simpa using Array.mem_of_getElem? ht
        have hall : ([25, 3].all fun u => !Tryd.prog.wantsStandIn u) = true := by kernel_rfl
        exact (show Tryd.prog.wantsStandIn t = false by simpa using List.all_eq_true.1 hall t hm)⟩)
    (by kernel_rfl)
end Go.Proofs.YtogopainnioiiaaDoor
