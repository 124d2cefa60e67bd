/-
  DERIVED. GIVEN WITH THE SEED: THE CARDS: each row of YtoaihfbmoppajaaDoorRows.lean that lists a variable, with what it lists TIED to the program's text (the seventh form; the later family's looks); each row that meets fmt, with fmt's text TOLD by the authors' own Lean function (tested against real Go, not proved from fmt's source: count such statements apart). THE CARD IS WHAT COUNTS. Prove the row's statement (the work); the ties are given (YtoaihfbmoppajaaDoorTie.lean); close each card by the builder's one call (the guide's Derived/Test/ToyasCard.lean, 'card_holds'). Laid BY PROGRAM, IN A SANDBOX (cutbox-door.mjs). By AI agents, Wed Nov 11 2026. No macro, syntax, notation, axiom, sorry.
-/
import Derived.Test.YtoaihfbmoppajaaDoorRows
import GoSem.ClaimSeven
namespace Go.Proofs.YtoaihfbmoppajaaDoor
namespace Rows

/-- THE TIED CARD OF 'mootbelllaw12.WindowSpan'. -/
def windowSpanCard : Claim7 := { stood := { row := windowSpanRow, standIns := [], harness := (true, "827a36594e733de247eefb4be87effc1fffc4b44e80f0f4a50155eea77910d37"), looks := false }, kinds := [], alts := [], laidByText := true, laidKinds := [.data], laidTests := true, laidLooks := .later }
def WindowSpanCardSaid : Prop := Claim7.holds Tryd.pinned (.plain (OpenSpec.ofChange windowSpanSpec)) windowSpanCard

/-- THE SECOND FORM's CARD OF 'mootbelllaw12.WindowSpan'. -/
def windowSpanUptoCard : Claim7 := { stood := { row := windowSpanUptoRow, standIns := [], harness := (true, "827a36594e733de247eefb4be87effc1fffc4b44e80f0f4a50155eea77910d37"), looks := false }, kinds := [], alts := [], laidByText := true, laidKinds := [.data], laidTests := true, laidLooks := .later }
def WindowSpanUptoCardSaid : Prop := Claim7.holds Tryd.pinned (.plain (OpenSpec.upto windowSpanSpec)) windowSpanUptoCard
end Rows
end Go.Proofs.YtoaihfbmoppajaaDoor
