/-
  NARROWER THAN 'FOR EVERY INPUT', by the rows' own cells (each row's printed sentence says how): ClockTells: laid · ClockSlots: laid · ClockEpochs: laid · ClockForward: laid · ClockRises: laid · WindowTells: laid · WindowTurns: laid · WindowLater: laid · WindowEdges: laid.
  DERIVED. THE GIVEN ROWS OF THIS SEAT. 9 by the template 'for every input the law returns true; each argument reads behind the call as it read before'; 0 by the template 'total and deterministic' (their statements: YtogopainnioiiaaDoorTotals.lean).
  GIVEN WITH THE SEED: the statements are not yours to turn. If you find one false, say at which input.
  Laid BY PROGRAM, IN A SANDBOX (cutbox-rows.mjs): the forced cells as the released guide's own fill.sh prints them over the translation d16d9bee026abefd… (all of the seat's roots in one cut). By AI agents, Wed Nov 11 2026. No macro, syntax, notation, axiom, sorry.
-/
import Derived.Test.YtogopainnioiiaaDoorChecked
import GoSem.Claim
import GoSem.ClaimJoined
import GoSem.ClaimMapViews
import Derived.JoinedTies
import Derived.KernelRfl
namespace Go.Proofs.YtogopainnioiiaaDoor
/- THE CELL 'sum', in the pinned program and in every row, IS THE sha256 OF THE DUMP (.gsa) THAT YtogopainnioiiaaDoorProg.lean LOADS. Nothing in Lean hashes anything: it is a label: what it is worth is what the hold of that sum in a sandbox is worth. -/
noncomputable def Tryd.pinned : Pinned := { name := "ytogopainnioiiaadoor", sum := "d16d9bee026abefd1ce49025abdafad4306560115e8cb746b1fb7b2ab83a852b", checked := Tryd.checked }
namespace Rows
def none {H : Type} : Left H := { results := [], args := [] }

/- WHAT THE LISTED PACKAGE-LEVEL VARIABLES READ AS WHEN THE CALL BEGINS. Each datum BY PROGRAM (the guide's laid-datum.mjs) off the statement by which the dump's own 'gosem.cut.vars' lays the variable. In a bare row this is a premise. The card (YtogopainnioiiaaDoorCards.lean) ties it to the program's text. -/
def laid_mootbell_clock_bounds {H : Type} : DataW H := .agg [.agg [.lit (.int .i64 1), .lit (.int .i64 1024)], .agg [.lit (.int .i64 1), .lit (.int .i64 32)], .agg [.lit (.int .i64 1), .lit (.int .i64 8)], .agg [.lit (.int .i64 1), .lit (.int .i64 64)], .agg [.lit (.int .i64 1), .lit (.int .i64 1000)], .agg [.lit (.int .i64 1), .lit (.int .i64 64)], .agg [.lit (.int .i64 0), .lit (.int .i64 90)], .agg [.lit (.int .i64 1), .lit (.int .i64 16)]]

/-- 'mootbelllaw08.ClockTells': WHATEVER THE INPUT: true; the input reads as it did. -/
def clockTellsSpec : ChangeSpec := { name := "clockTells", fn := fun _ => fun
  | [d1, d2, d3, d4, d5, d6] => { results := [.lit (.bool true)], args := [d1, d2, d3, d4, d5, d6] }
  | _ => none }
def clockTellsRow : OpenClaim := { program := "ytogopainnioiiaadoor", sum := "d16d9bee026abefd1ce49025abdafad4306560115e8cb746b1fb7b2ab83a852b", func := "mootbell/mootbelllaw08.ClockTells", spec := "clockTells", named := ["mootbell/clock.bounds"], apart := false, laid := [("mootbell/clock.bounds", laid_mootbell_clock_bounds)] }
def ClockTellsSaid : Prop := clockTellsRow.holds Tryd.pinned (OpenSpec.ofChange clockTellsSpec)

/-- ITS FALSE NEIGHBOUR: 'it returns false'. Refute it at one input. -/
def clockTellsWrong : ChangeSpec := { name := "clockTells", fn := fun _ => fun
  | [d1, d2, d3, d4, d5, d6] => { results := [.lit (.bool false)], args := [d1, d2, d3, d4, d5, d6] }
  | _ => none }
def ClockTellsWrongFalsely : Prop := clockTellsRow.holds Tryd.pinned (OpenSpec.ofChange clockTellsWrong)

/-- 'mootbelllaw08.ClockSlots': WHATEVER THE INPUT: true; the input reads as it did. -/
def clockSlotsSpec : ChangeSpec := { name := "clockSlots", fn := fun _ => fun
  | [d1, d2] => { results := [.lit (.bool true)], args := [d1, d2] }
  | _ => none }
def clockSlotsRow : OpenClaim := { program := "ytogopainnioiiaadoor", sum := "d16d9bee026abefd1ce49025abdafad4306560115e8cb746b1fb7b2ab83a852b", func := "mootbell/mootbelllaw08.ClockSlots", spec := "clockSlots", named := ["mootbell/clock.bounds"], apart := false, laid := [("mootbell/clock.bounds", laid_mootbell_clock_bounds)] }
def ClockSlotsSaid : Prop := clockSlotsRow.holds Tryd.pinned (OpenSpec.ofChange clockSlotsSpec)

/-- ITS FALSE NEIGHBOUR: 'it returns false'. Refute it at one input. -/
def clockSlotsWrong : ChangeSpec := { name := "clockSlots", fn := fun _ => fun
  | [d1, d2] => { results := [.lit (.bool false)], args := [d1, d2] }
  | _ => none }
def ClockSlotsWrongFalsely : Prop := clockSlotsRow.holds Tryd.pinned (OpenSpec.ofChange clockSlotsWrong)

/-- 'mootbelllaw08.ClockEpochs': WHATEVER THE INPUT: true; the input reads as it did. -/
def clockEpochsSpec : ChangeSpec := { name := "clockEpochs", fn := fun _ => fun
  | [d1, d2] => { results := [.lit (.bool true)], args := [d1, d2] }
  | _ => none }
def clockEpochsRow : OpenClaim := { program := "ytogopainnioiiaadoor", sum := "d16d9bee026abefd1ce49025abdafad4306560115e8cb746b1fb7b2ab83a852b", func := "mootbell/mootbelllaw08.ClockEpochs", spec := "clockEpochs", named := ["mootbell/clock.bounds"], apart := false, laid := [("mootbell/clock.bounds", laid_mootbell_clock_bounds)] }
def ClockEpochsSaid : Prop := clockEpochsRow.holds Tryd.pinned (OpenSpec.ofChange clockEpochsSpec)

/-- ITS FALSE NEIGHBOUR: 'it returns false'. Refute it at one input. -/
def clockEpochsWrong : ChangeSpec := { name := "clockEpochs", fn := fun _ => fun
  | [d1, d2] => { results := [.lit (.bool false)], args := [d1, d2] }
  | _ => none }
def ClockEpochsWrongFalsely : Prop := clockEpochsRow.holds Tryd.pinned (OpenSpec.ofChange clockEpochsWrong)

/-- 'mootbelllaw08.ClockForward': WHATEVER THE INPUT: true; the input reads as it did. -/
def clockForwardSpec : ChangeSpec := { name := "clockForward", fn := fun _ => fun
  | [d1, d2, d3, d4] => { results := [.lit (.bool true)], args := [d1, d2, d3, d4] }
  | _ => none }
def clockForwardRow : OpenClaim := { program := "ytogopainnioiiaadoor", sum := "d16d9bee026abefd1ce49025abdafad4306560115e8cb746b1fb7b2ab83a852b", func := "mootbell/mootbelllaw08.ClockForward", spec := "clockForward", named := ["mootbell/clock.bounds"], apart := false, laid := [("mootbell/clock.bounds", laid_mootbell_clock_bounds)] }
def ClockForwardSaid : Prop := clockForwardRow.holds Tryd.pinned (OpenSpec.ofChange clockForwardSpec)

/-- ITS FALSE NEIGHBOUR: 'it returns false'. Refute it at one input. -/
def clockForwardWrong : ChangeSpec := { name := "clockForward", fn := fun _ => fun
  | [d1, d2, d3, d4] => { results := [.lit (.bool false)], args := [d1, d2, d3, d4] }
  | _ => none }
def ClockForwardWrongFalsely : Prop := clockForwardRow.holds Tryd.pinned (OpenSpec.ofChange clockForwardWrong)

/-- 'mootbelllaw08.ClockRises': WHATEVER THE INPUT: true; the input reads as it did. -/
def clockRisesSpec : ChangeSpec := { name := "clockRises", fn := fun _ => fun
  | [d1, d2, d3] => { results := [.lit (.bool true)], args := [d1, d2, d3] }
  | _ => none }
def clockRisesRow : OpenClaim := { program := "ytogopainnioiiaadoor", sum := "d16d9bee026abefd1ce49025abdafad4306560115e8cb746b1fb7b2ab83a852b", func := "mootbell/mootbelllaw08.ClockRises", spec := "clockRises", named := ["mootbell/clock.bounds"], apart := false, laid := [("mootbell/clock.bounds", laid_mootbell_clock_bounds)] }
def ClockRisesSaid : Prop := clockRisesRow.holds Tryd.pinned (OpenSpec.ofChange clockRisesSpec)

/-- ITS FALSE NEIGHBOUR: 'it returns false'. Refute it at one input. -/
def clockRisesWrong : ChangeSpec := { name := "clockRises", fn := fun _ => fun
  | [d1, d2, d3] => { results := [.lit (.bool false)], args := [d1, d2, d3] }
  | _ => none }
def ClockRisesWrongFalsely : Prop := clockRisesRow.holds Tryd.pinned (OpenSpec.ofChange clockRisesWrong)

/-- 'mootbelllaw12.WindowTells': WHATEVER THE INPUT: true; the input reads as it did. -/
def windowTellsSpec : ChangeSpec := { name := "windowTells", fn := fun _ => fun
  | [d1, d2, d3, d4] => { results := [.lit (.bool true)], args := [d1, d2, d3, d4] }
  | _ => none }
def windowTellsRow : OpenClaim := { program := "ytogopainnioiiaadoor", sum := "d16d9bee026abefd1ce49025abdafad4306560115e8cb746b1fb7b2ab83a852b", func := "mootbell/mootbelllaw12.WindowTells", spec := "windowTells", unfollowed := true, recurses := true, named := ["mootbell/clock.bounds"], apart := false, laid := [("mootbell/clock.bounds", laid_mootbell_clock_bounds)] }
def WindowTellsSaid : Prop := windowTellsRow.holds Tryd.pinned (OpenSpec.ofChange windowTellsSpec)

/-- ITS FALSE NEIGHBOUR: 'it returns false'. Refute it at one input. -/
def windowTellsWrong : ChangeSpec := { name := "windowTells", fn := fun _ => fun
  | [d1, d2, d3, d4] => { results := [.lit (.bool false)], args := [d1, d2, d3, d4] }
  | _ => none }
def WindowTellsWrongFalsely : Prop := windowTellsRow.holds Tryd.pinned (OpenSpec.ofChange windowTellsWrong)

/-- 'mootbelllaw12.WindowTurns': WHATEVER THE INPUT: true; the input reads as it did. -/
def windowTurnsSpec : ChangeSpec := { name := "windowTurns", fn := fun _ => fun
  | [d1, d2, d3, d4] => { results := [.lit (.bool true)], args := [d1, d2, d3, d4] }
  | _ => none }
def windowTurnsRow : OpenClaim := { program := "ytogopainnioiiaadoor", sum := "d16d9bee026abefd1ce49025abdafad4306560115e8cb746b1fb7b2ab83a852b", func := "mootbell/mootbelllaw12.WindowTurns", spec := "windowTurns", unfollowed := true, recurses := true, named := ["mootbell/clock.bounds"], apart := false, laid := [("mootbell/clock.bounds", laid_mootbell_clock_bounds)] }
def WindowTurnsSaid : Prop := windowTurnsRow.holds Tryd.pinned (OpenSpec.ofChange windowTurnsSpec)

/-- ITS FALSE NEIGHBOUR: 'it returns false'. Refute it at one input. -/
def windowTurnsWrong : ChangeSpec := { name := "windowTurns", fn := fun _ => fun
  | [d1, d2, d3, d4] => { results := [.lit (.bool false)], args := [d1, d2, d3, d4] }
  | _ => none }
def WindowTurnsWrongFalsely : Prop := windowTurnsRow.holds Tryd.pinned (OpenSpec.ofChange windowTurnsWrong)

/-- 'mootbelllaw12.WindowLater': WHATEVER THE INPUT: true; the input reads as it did. -/
def windowLaterSpec : ChangeSpec := { name := "windowLater", fn := fun _ => fun
  | [d1, d2, d3] => { results := [.lit (.bool true)], args := [d1, d2, d3] }
  | _ => none }
def windowLaterRow : OpenClaim := { program := "ytogopainnioiiaadoor", sum := "d16d9bee026abefd1ce49025abdafad4306560115e8cb746b1fb7b2ab83a852b", func := "mootbell/mootbelllaw12.WindowLater", spec := "windowLater", unfollowed := true, recurses := true, named := ["mootbell/clock.bounds"], apart := false, laid := [("mootbell/clock.bounds", laid_mootbell_clock_bounds)] }
def WindowLaterSaid : Prop := windowLaterRow.holds Tryd.pinned (OpenSpec.ofChange windowLaterSpec)

/-- ITS FALSE NEIGHBOUR: 'it returns false'. Refute it at one input. -/
def windowLaterWrong : ChangeSpec := { name := "windowLater", fn := fun _ => fun
  | [d1, d2, d3] => { results := [.lit (.bool false)], args := [d1, d2, d3] }
  | _ => none }
def WindowLaterWrongFalsely : Prop := windowLaterRow.holds Tryd.pinned (OpenSpec.ofChange windowLaterWrong)

/-- 'mootbelllaw12.WindowEdges': WHATEVER THE INPUT: true; the input reads as it did. -/
def windowEdgesSpec : ChangeSpec := { name := "windowEdges", fn := fun _ => fun
  | [d1, d2] => { results := [.lit (.bool true)], args := [d1, d2] }
  | _ => none }
def windowEdgesRow : OpenClaim := { program := "ytogopainnioiiaadoor", sum := "d16d9bee026abefd1ce49025abdafad4306560115e8cb746b1fb7b2ab83a852b", func := "mootbell/mootbelllaw12.WindowEdges", spec := "windowEdges", unfollowed := true, recurses := true, named := ["mootbell/clock.bounds"], apart := false, laid := [("mootbell/clock.bounds", laid_mootbell_clock_bounds)] }
def WindowEdgesSaid : Prop := windowEdgesRow.holds Tryd.pinned (OpenSpec.ofChange windowEdgesSpec)

/-- ITS FALSE NEIGHBOUR: 'it returns false'. Refute it at one input. -/
def windowEdgesWrong : ChangeSpec := { name := "windowEdges", fn := fun _ => fun
  | [d1, d2] => { results := [.lit (.bool false)], args := [d1, d2] }
  | _ => none }
def WindowEdgesWrongFalsely : Prop := windowEdgesRow.holds Tryd.pinned (OpenSpec.ofChange windowEdgesWrong)

/- THE SECOND FORM. 'bulk': how many values and letters a reading holds, each counted each time it is reached (what is shared counts as often as it is met; a slice's spare places count too). A statement '..UptoSaid' is the law's where the arguments, and the package variables that the reading takes, are together of bulk at most 1048576: NARROWER than '..Said'. Prove '..Said' where nothing that the law and all that it calls make is longer than what came in: it says more and counts as full. Else prove '..UptoSaid'. A law counts once. -/
mutual
def uptoBulk {H : Type} : DataW H → Nat
  | .lit (.string bytes) => bytes.length + 1
  | .lit _ => 1
  | .nil => 1
  | .ptr d => uptoBulk d + 1
  | .slice elems spare => uptoBulkAll elems + uptoBulkAll spare + 1
  | .agg parts => uptoBulkAll parts + 1
  | .iface _ d => uptoBulk d + 1
  | .map entries => uptoBulkEntries entries + 1
  | .held _ => 1
def uptoBulkAll {H : Type} : List (DataW H) → Nat
  | [] => 0
  | d :: r => uptoBulk d + uptoBulkAll r
def uptoBulkEntries {H : Type} : List (Lit × DataW H) → Nat
  | [] => 0
  | x :: r => uptoBulkEntry x + uptoBulkEntries r
def uptoBulkEntry {H : Type} : Lit × DataW H → Nat
  | (.string bytes, d) => bytes.length + uptoBulk d + 1
  | (_, d) => uptoBulk d + 1
 end
def uptoSmall : (H : Type) → List (DataW H) → Bool := fun _ ds => decide (uptoBulkAll ds ≤ 1048576)
def OpenSpec.upto (s : _root_.Go.ChangeSpec) : _root_.Go.OpenSpec := { _root_.Go.OpenSpec.ofChange s with cond := some uptoSmall }

/-- 'mootbelllaw08.ClockTells', WHERE WHAT IT READS IS OF BULK AT MOST 1048576: true; the input reads as it did. -/
def clockTellsUptoRow : OpenClaim := { program := "ytogopainnioiiaadoor", sum := "d16d9bee026abefd1ce49025abdafad4306560115e8cb746b1fb7b2ab83a852b", func := "mootbell/mootbelllaw08.ClockTells", spec := "clockTells", named := ["mootbell/clock.bounds"], apart := false, laid := [("mootbell/clock.bounds", laid_mootbell_clock_bounds)], narrowed := true }
def ClockTellsUptoSaid : Prop := clockTellsUptoRow.holds Tryd.pinned (OpenSpec.upto clockTellsSpec)

/-- 'mootbelllaw08.ClockSlots', WHERE WHAT IT READS IS OF BULK AT MOST 1048576: true; the input reads as it did. -/
def clockSlotsUptoRow : OpenClaim := { program := "ytogopainnioiiaadoor", sum := "d16d9bee026abefd1ce49025abdafad4306560115e8cb746b1fb7b2ab83a852b", func := "mootbell/mootbelllaw08.ClockSlots", spec := "clockSlots", named := ["mootbell/clock.bounds"], apart := false, laid := [("mootbell/clock.bounds", laid_mootbell_clock_bounds)], narrowed := true }
def ClockSlotsUptoSaid : Prop := clockSlotsUptoRow.holds Tryd.pinned (OpenSpec.upto clockSlotsSpec)

/-- 'mootbelllaw08.ClockEpochs', WHERE WHAT IT READS IS OF BULK AT MOST 1048576: true; the input reads as it did. -/
def clockEpochsUptoRow : OpenClaim := { program := "ytogopainnioiiaadoor", sum := "d16d9bee026abefd1ce49025abdafad4306560115e8cb746b1fb7b2ab83a852b", func := "mootbell/mootbelllaw08.ClockEpochs", spec := "clockEpochs", named := ["mootbell/clock.bounds"], apart := false, laid := [("mootbell/clock.bounds", laid_mootbell_clock_bounds)], narrowed := true }
def ClockEpochsUptoSaid : Prop := clockEpochsUptoRow.holds Tryd.pinned (OpenSpec.upto clockEpochsSpec)

/-- 'mootbelllaw08.ClockForward', WHERE WHAT IT READS IS OF BULK AT MOST 1048576: true; the input reads as it did. -/
def clockForwardUptoRow : OpenClaim := { program := "ytogopainnioiiaadoor", sum := "d16d9bee026abefd1ce49025abdafad4306560115e8cb746b1fb7b2ab83a852b", func := "mootbell/mootbelllaw08.ClockForward", spec := "clockForward", named := ["mootbell/clock.bounds"], apart := false, laid := [("mootbell/clock.bounds", laid_mootbell_clock_bounds)], narrowed := true }
def ClockForwardUptoSaid : Prop := clockForwardUptoRow.holds Tryd.pinned (OpenSpec.upto clockForwardSpec)

/-- 'mootbelllaw08.ClockRises', WHERE WHAT IT READS IS OF BULK AT MOST 1048576: true; the input reads as it did. -/
def clockRisesUptoRow : OpenClaim := { program := "ytogopainnioiiaadoor", sum := "d16d9bee026abefd1ce49025abdafad4306560115e8cb746b1fb7b2ab83a852b", func := "mootbell/mootbelllaw08.ClockRises", spec := "clockRises", named := ["mootbell/clock.bounds"], apart := false, laid := [("mootbell/clock.bounds", laid_mootbell_clock_bounds)], narrowed := true }
def ClockRisesUptoSaid : Prop := clockRisesUptoRow.holds Tryd.pinned (OpenSpec.upto clockRisesSpec)

/-- 'mootbelllaw12.WindowTells', WHERE WHAT IT READS IS OF BULK AT MOST 1048576: true; the input reads as it did. -/
def windowTellsUptoRow : OpenClaim := { program := "ytogopainnioiiaadoor", sum := "d16d9bee026abefd1ce49025abdafad4306560115e8cb746b1fb7b2ab83a852b", func := "mootbell/mootbelllaw12.WindowTells", spec := "windowTells", unfollowed := true, recurses := true, named := ["mootbell/clock.bounds"], apart := false, laid := [("mootbell/clock.bounds", laid_mootbell_clock_bounds)], narrowed := true }
def WindowTellsUptoSaid : Prop := windowTellsUptoRow.holds Tryd.pinned (OpenSpec.upto windowTellsSpec)

/-- 'mootbelllaw12.WindowTurns', WHERE WHAT IT READS IS OF BULK AT MOST 1048576: true; the input reads as it did. -/
def windowTurnsUptoRow : OpenClaim := { program := "ytogopainnioiiaadoor", sum := "d16d9bee026abefd1ce49025abdafad4306560115e8cb746b1fb7b2ab83a852b", func := "mootbell/mootbelllaw12.WindowTurns", spec := "windowTurns", unfollowed := true, recurses := true, named := ["mootbell/clock.bounds"], apart := false, laid := [("mootbell/clock.bounds", laid_mootbell_clock_bounds)], narrowed := true }
def WindowTurnsUptoSaid : Prop := windowTurnsUptoRow.holds Tryd.pinned (OpenSpec.upto windowTurnsSpec)

/-- 'mootbelllaw12.WindowLater', WHERE WHAT IT READS IS OF BULK AT MOST 1048576: true; the input reads as it did. -/
def windowLaterUptoRow : OpenClaim := { program := "ytogopainnioiiaadoor", sum := "d16d9bee026abefd1ce49025abdafad4306560115e8cb746b1fb7b2ab83a852b", func := "mootbell/mootbelllaw12.WindowLater", spec := "windowLater", unfollowed := true, recurses := true, named := ["mootbell/clock.bounds"], apart := false, laid := [("mootbell/clock.bounds", laid_mootbell_clock_bounds)], narrowed := true }
def WindowLaterUptoSaid : Prop := windowLaterUptoRow.holds Tryd.pinned (OpenSpec.upto windowLaterSpec)

/-- 'mootbelllaw12.WindowEdges', WHERE WHAT IT READS IS OF BULK AT MOST 1048576: true; the input reads as it did. -/
def windowEdgesUptoRow : OpenClaim := { program := "ytogopainnioiiaadoor", sum := "d16d9bee026abefd1ce49025abdafad4306560115e8cb746b1fb7b2ab83a852b", func := "mootbell/mootbelllaw12.WindowEdges", spec := "windowEdges", unfollowed := true, recurses := true, named := ["mootbell/clock.bounds"], apart := false, laid := [("mootbell/clock.bounds", laid_mootbell_clock_bounds)], narrowed := true }
def WindowEdgesUptoSaid : Prop := windowEdgesUptoRow.holds Tryd.pinned (OpenSpec.upto windowEdgesSpec)

end Rows
end Go.Proofs.YtogopainnioiiaaDoor
