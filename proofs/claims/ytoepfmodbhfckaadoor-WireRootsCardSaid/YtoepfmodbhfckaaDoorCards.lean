/-
  DERIVED. GIVEN WITH THE SEED: THE CARDS: each row of YtoepfmodbhfckaaDoorRows.lean that lists a variable, with what it lists TIED to the program's text (the seventh form; the later family's looks); each row that meets fmt, with fmt's text TOLD by the authors' own Lean function (tested against real Go, not proved from fmt's source: count such statements apart). THE CARD IS WHAT COUNTS. Prove the row's statement (the work); the ties are given (YtoepfmodbhfckaaDoorTie.lean); close each card by the builder's one call (the guide's Derived/Test/ToyasCard.lean, 'card_holds'). Laid BY PROGRAM, IN A SANDBOX (cutbox-door.mjs). By AI agents, Wed Nov 11 2026. No macro, syntax, notation, axiom, sorry.
-/
import Derived.Test.YtoepfmodbhfckaaDoorRows
import GoSem.ClaimSeven
namespace Go.Proofs.YtoepfmodbhfckaaDoor
namespace Rows

/-- THE TIED CARD OF 'mootbelllaw06.WireTells'. -/
def wireTellsCard : Claim7 := { stood := { row := wireTellsRow, standIns := [], harness := (true, "6e6d781352e0f4960c465aae6af642226e018972819bd1d6c17391dd6039fd96"), looks := true }, kinds := [], alts := [], laidByText := true, laidKinds := [.data], laidTests := true, laidLooks := .later }
def WireTellsCardSaid : Prop := Claim7.holds Tryd.pinned (.plain (OpenSpec.ofChange wireTellsSpec)) wireTellsCard

/-- THE TIED CARD OF 'mootbelllaw06.WireRoots'. -/
def wireRootsCard : Claim7 := { stood := { row := wireRootsRow, standIns := [], harness := (true, "6e6d781352e0f4960c465aae6af642226e018972819bd1d6c17391dd6039fd96"), looks := true }, kinds := [], alts := [], laidByText := true, laidKinds := [.data], laidTests := true, laidLooks := .later }
def WireRootsCardSaid : Prop := Claim7.holds Tryd.pinned (.plain (OpenSpec.ofChange wireRootsSpec)) wireRootsCard

/-- THE SECOND FORM's CARD OF 'mootbelllaw06.WireTells'. -/
def wireTellsUptoCard : Claim7 := { stood := { row := wireTellsUptoRow, standIns := [], harness := (true, "6e6d781352e0f4960c465aae6af642226e018972819bd1d6c17391dd6039fd96"), looks := true }, kinds := [], alts := [], laidByText := true, laidKinds := [.data], laidTests := true, laidLooks := .later }
def WireTellsUptoCardSaid : Prop := Claim7.holds Tryd.pinned (.plain (OpenSpec.upto wireTellsSpec)) wireTellsUptoCard

/-- THE SECOND FORM's CARD OF 'mootbelllaw06.WireRoots'. -/
def wireRootsUptoCard : Claim7 := { stood := { row := wireRootsUptoRow, standIns := [], harness := (true, "6e6d781352e0f4960c465aae6af642226e018972819bd1d6c17391dd6039fd96"), looks := true }, kinds := [], alts := [], laidByText := true, laidKinds := [.data], laidTests := true, laidLooks := .later }
def WireRootsUptoCardSaid : Prop := Claim7.holds Tryd.pinned (.plain (OpenSpec.upto wireRootsSpec)) wireRootsUptoCard
end Rows
end Go.Proofs.YtoepfmodbhfckaaDoor
