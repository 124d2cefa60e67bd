/-
  DERIVED. GIVEN WITH THE SEED: THE CARDS: each row of YtogopainnioiiaaDoorRows.lean that lists a variable, with what it lists TIED to the program's text (the seventh form; the later family's looks); each row that meets fmt, with fmt's text TOLD by the authors' own Lean function (tested against real Go, not proved from fmt's source: count such statements apart). THE CARD IS WHAT COUNTS. Prove the row's statement (the work); the ties are given (YtogopainnioiiaaDoorTie.lean); close each card by the builder's one call (the guide's Derived/Test/ToyasCard.lean, 'card_holds'). Laid BY PROGRAM, IN A SANDBOX (cutbox-door.mjs). By AI agents, Wed Nov 11 2026. No macro, syntax, notation, axiom, sorry.
-/
import Derived.Test.YtogopainnioiiaaDoorRows
import GoSem.ClaimSeven
namespace Go.Proofs.YtogopainnioiiaaDoor
namespace Rows

/-- THE TIED CARD OF 'mootbelllaw08.ClockTells'. -/
def clockTellsCard : Claim7 := { stood := { row := clockTellsRow, standIns := [], harness := (true, "e1341f2ca68dd37725ff6dcb7f454dce2a87c61729a7af73292a449d23362b3d"), looks := false }, kinds := [], alts := [], laidByText := true, laidKinds := [.data], laidTests := true, laidLooks := .later }
def ClockTellsCardSaid : Prop := Claim7.holds Tryd.pinned (.plain (OpenSpec.ofChange clockTellsSpec)) clockTellsCard

/-- THE TIED CARD OF 'mootbelllaw08.ClockSlots'. -/
def clockSlotsCard : Claim7 := { stood := { row := clockSlotsRow, standIns := [], harness := (true, "e1341f2ca68dd37725ff6dcb7f454dce2a87c61729a7af73292a449d23362b3d"), looks := false }, kinds := [], alts := [], laidByText := true, laidKinds := [.data], laidTests := true, laidLooks := .later }
def ClockSlotsCardSaid : Prop := Claim7.holds Tryd.pinned (.plain (OpenSpec.ofChange clockSlotsSpec)) clockSlotsCard

/-- THE TIED CARD OF 'mootbelllaw08.ClockEpochs'. -/
def clockEpochsCard : Claim7 := { stood := { row := clockEpochsRow, standIns := [], harness := (true, "e1341f2ca68dd37725ff6dcb7f454dce2a87c61729a7af73292a449d23362b3d"), looks := false }, kinds := [], alts := [], laidByText := true, laidKinds := [.data], laidTests := true, laidLooks := .later }
def ClockEpochsCardSaid : Prop := Claim7.holds Tryd.pinned (.plain (OpenSpec.ofChange clockEpochsSpec)) clockEpochsCard

/-- THE TIED CARD OF 'mootbelllaw08.ClockForward'. -/
def clockForwardCard : Claim7 := { stood := { row := clockForwardRow, standIns := [], harness := (true, "e1341f2ca68dd37725ff6dcb7f454dce2a87c61729a7af73292a449d23362b3d"), looks := false }, kinds := [], alts := [], laidByText := true, laidKinds := [.data], laidTests := true, laidLooks := .later }
def ClockForwardCardSaid : Prop := Claim7.holds Tryd.pinned (.plain (OpenSpec.ofChange clockForwardSpec)) clockForwardCard

/-- THE TIED CARD OF 'mootbelllaw08.ClockRises'. -/
def clockRisesCard : Claim7 := { stood := { row := clockRisesRow, standIns := [], harness := (true, "e1341f2ca68dd37725ff6dcb7f454dce2a87c61729a7af73292a449d23362b3d"), looks := false }, kinds := [], alts := [], laidByText := true, laidKinds := [.data], laidTests := true, laidLooks := .later }
def ClockRisesCardSaid : Prop := Claim7.holds Tryd.pinned (.plain (OpenSpec.ofChange clockRisesSpec)) clockRisesCard

/-- THE TIED CARD OF 'mootbelllaw12.WindowTells'. -/
def windowTellsCard : Claim7 := { stood := { row := windowTellsRow, standIns := [], harness := (true, "e1341f2ca68dd37725ff6dcb7f454dce2a87c61729a7af73292a449d23362b3d"), looks := false }, kinds := [], alts := [], laidByText := true, laidKinds := [.data], laidTests := true, laidLooks := .later }
def WindowTellsCardSaid : Prop := Claim7.holds Tryd.pinned (.plain (OpenSpec.ofChange windowTellsSpec)) windowTellsCard

/-- THE TIED CARD OF 'mootbelllaw12.WindowTurns'. -/
def windowTurnsCard : Claim7 := { stood := { row := windowTurnsRow, standIns := [], harness := (true, "e1341f2ca68dd37725ff6dcb7f454dce2a87c61729a7af73292a449d23362b3d"), looks := false }, kinds := [], alts := [], laidByText := true, laidKinds := [.data], laidTests := true, laidLooks := .later }
def WindowTurnsCardSaid : Prop := Claim7.holds Tryd.pinned (.plain (OpenSpec.ofChange windowTurnsSpec)) windowTurnsCard

/-- THE TIED CARD OF 'mootbelllaw12.WindowLater'. -/
def windowLaterCard : Claim7 := { stood := { row := windowLaterRow, standIns := [], harness := (true, "e1341f2ca68dd37725ff6dcb7f454dce2a87c61729a7af73292a449d23362b3d"), looks := false }, kinds := [], alts := [], laidByText := true, laidKinds := [.data], laidTests := true, laidLooks := .later }
def WindowLaterCardSaid : Prop := Claim7.holds Tryd.pinned (.plain (OpenSpec.ofChange windowLaterSpec)) windowLaterCard

/-- THE TIED CARD OF 'mootbelllaw12.WindowEdges'. -/
def windowEdgesCard : Claim7 := { stood := { row := windowEdgesRow, standIns := [], harness := (true, "e1341f2ca68dd37725ff6dcb7f454dce2a87c61729a7af73292a449d23362b3d"), looks := false }, kinds := [], alts := [], laidByText := true, laidKinds := [.data], laidTests := true, laidLooks := .later }
def WindowEdgesCardSaid : Prop := Claim7.holds Tryd.pinned (.plain (OpenSpec.ofChange windowEdgesSpec)) windowEdgesCard

/-- THE SECOND FORM's CARD OF 'mootbelllaw08.ClockTells'. -/
def clockTellsUptoCard : Claim7 := { stood := { row := clockTellsUptoRow, standIns := [], harness := (true, "e1341f2ca68dd37725ff6dcb7f454dce2a87c61729a7af73292a449d23362b3d"), looks := false }, kinds := [], alts := [], laidByText := true, laidKinds := [.data], laidTests := true, laidLooks := .later }
def ClockTellsUptoCardSaid : Prop := Claim7.holds Tryd.pinned (.plain (OpenSpec.upto clockTellsSpec)) clockTellsUptoCard

/-- THE SECOND FORM's CARD OF 'mootbelllaw08.ClockSlots'. -/
def clockSlotsUptoCard : Claim7 := { stood := { row := clockSlotsUptoRow, standIns := [], harness := (true, "e1341f2ca68dd37725ff6dcb7f454dce2a87c61729a7af73292a449d23362b3d"), looks := false }, kinds := [], alts := [], laidByText := true, laidKinds := [.data], laidTests := true, laidLooks := .later }
def ClockSlotsUptoCardSaid : Prop := Claim7.holds Tryd.pinned (.plain (OpenSpec.upto clockSlotsSpec)) clockSlotsUptoCard

/-- THE SECOND FORM's CARD OF 'mootbelllaw08.ClockEpochs'. -/
def clockEpochsUptoCard : Claim7 := { stood := { row := clockEpochsUptoRow, standIns := [], harness := (true, "e1341f2ca68dd37725ff6dcb7f454dce2a87c61729a7af73292a449d23362b3d"), looks := false }, kinds := [], alts := [], laidByText := true, laidKinds := [.data], laidTests := true, laidLooks := .later }
def ClockEpochsUptoCardSaid : Prop := Claim7.holds Tryd.pinned (.plain (OpenSpec.upto clockEpochsSpec)) clockEpochsUptoCard

/-- THE SECOND FORM's CARD OF 'mootbelllaw08.ClockForward'. -/
def clockForwardUptoCard : Claim7 := { stood := { row := clockForwardUptoRow, standIns := [], harness := (true, "e1341f2ca68dd37725ff6dcb7f454dce2a87c61729a7af73292a449d23362b3d"), looks := false }, kinds := [], alts := [], laidByText := true, laidKinds := [.data], laidTests := true, laidLooks := .later }
def ClockForwardUptoCardSaid : Prop := Claim7.holds Tryd.pinned (.plain (OpenSpec.upto clockForwardSpec)) clockForwardUptoCard

/-- THE SECOND FORM's CARD OF 'mootbelllaw08.ClockRises'. -/
def clockRisesUptoCard : Claim7 := { stood := { row := clockRisesUptoRow, standIns := [], harness := (true, "e1341f2ca68dd37725ff6dcb7f454dce2a87c61729a7af73292a449d23362b3d"), looks := false }, kinds := [], alts := [], laidByText := true, laidKinds := [.data], laidTests := true, laidLooks := .later }
def ClockRisesUptoCardSaid : Prop := Claim7.holds Tryd.pinned (.plain (OpenSpec.upto clockRisesSpec)) clockRisesUptoCard

/-- THE SECOND FORM's CARD OF 'mootbelllaw12.WindowTells'. -/
def windowTellsUptoCard : Claim7 := { stood := { row := windowTellsUptoRow, standIns := [], harness := (true, "e1341f2ca68dd37725ff6dcb7f454dce2a87c61729a7af73292a449d23362b3d"), looks := false }, kinds := [], alts := [], laidByText := true, laidKinds := [.data], laidTests := true, laidLooks := .later }
def WindowTellsUptoCardSaid : Prop := Claim7.holds Tryd.pinned (.plain (OpenSpec.upto windowTellsSpec)) windowTellsUptoCard

/-- THE SECOND FORM's CARD OF 'mootbelllaw12.WindowTurns'. -/
def windowTurnsUptoCard : Claim7 := { stood := { row := windowTurnsUptoRow, standIns := [], harness := (true, "e1341f2ca68dd37725ff6dcb7f454dce2a87c61729a7af73292a449d23362b3d"), looks := false }, kinds := [], alts := [], laidByText := true, laidKinds := [.data], laidTests := true, laidLooks := .later }
def WindowTurnsUptoCardSaid : Prop := Claim7.holds Tryd.pinned (.plain (OpenSpec.upto windowTurnsSpec)) windowTurnsUptoCard

/-- THE SECOND FORM's CARD OF 'mootbelllaw12.WindowLater'. -/
def windowLaterUptoCard : Claim7 := { stood := { row := windowLaterUptoRow, standIns := [], harness := (true, "e1341f2ca68dd37725ff6dcb7f454dce2a87c61729a7af73292a449d23362b3d"), looks := false }, kinds := [], alts := [], laidByText := true, laidKinds := [.data], laidTests := true, laidLooks := .later }
def WindowLaterUptoCardSaid : Prop := Claim7.holds Tryd.pinned (.plain (OpenSpec.upto windowLaterSpec)) windowLaterUptoCard

/-- THE SECOND FORM's CARD OF 'mootbelllaw12.WindowEdges'. -/
def windowEdgesUptoCard : Claim7 := { stood := { row := windowEdgesUptoRow, standIns := [], harness := (true, "e1341f2ca68dd37725ff6dcb7f454dce2a87c61729a7af73292a449d23362b3d"), looks := false }, kinds := [], alts := [], laidByText := true, laidKinds := [.data], laidTests := true, laidLooks := .later }
def WindowEdgesUptoCardSaid : Prop := Claim7.holds Tryd.pinned (.plain (OpenSpec.upto windowEdgesSpec)) windowEdgesUptoCard
end Rows
end Go.Proofs.YtogopainnioiiaaDoor
