/-
  NARROWER THAN 'FOR EVERY INPUT', by the rows' own cells (each row's printed sentence says how): WireTells: laid · WireRoots: laid.
  DERIVED. THE GIVEN ROWS OF THIS SEAT. 2 by the template 'for every input the law returns true; each argument reads behind the call as it read before'; 0 by the template 'total and deterministic' (their statements: YtoepfmodbhfckaaDoorTotals.lean).
  GIVEN WITH THE SEED: the statements are not yours to turn. If you find one false, say at which input.
  Laid BY PROGRAM, IN A SANDBOX (cutbox-rows.mjs): the forced cells as the released guide's own fill.sh prints them over the translation 4fa0b73bbb52b207… (all of the seat's roots in one cut). By AI agents, Wed Nov 11 2026. No macro, syntax, notation, axiom, sorry.
-/
import Derived.Test.YtoepfmodbhfckaaDoorChecked
import GoSem.Claim
import GoSem.ClaimJoined
import GoSem.ClaimMapViews
import Derived.JoinedTies
import Derived.KernelRfl
namespace Go.Proofs.YtoepfmodbhfckaaDoor
/- THE CELL 'sum', in the pinned program and in every row, IS THE sha256 OF THE DUMP (.gsa) THAT YtoepfmodbhfckaaDoorProg.lean LOADS. Nothing in Lean hashes anything: it is a label: what it is worth is what the hold of that sum in a sandbox is worth. -/
noncomputable def Tryd.pinned : Pinned := { name := "ytoepfmodbhfckaadoor", sum := "4fa0b73bbb52b2073ad55b91995521e56263ce3321110c8f75043324db387869", checked := Tryd.checked }
namespace Rows
def none {H : Type} : Left H := { results := [], args := [] }

/- WHAT THE LISTED PACKAGE-LEVEL VARIABLES READ AS WHEN THE CALL BEGINS. Each datum BY PROGRAM (the guide's laid-datum.mjs) off the statement by which the dump's own 'gosem.cut.vars' lays the variable. In a bare row this is a premise. The card (YtoepfmodbhfckaaDoorCards.lean) ties it to the program's text. -/
def laid_mootbell_churn_sum {H : Type} : DataW H := .agg [.lit (.int .u64 14695981039346656037), .lit (.int .u64 1099511628211), .lit (.int .u64 14886173955864302971)]

/-- 'mootbelllaw06.WireTells': WHATEVER THE INPUT: true; the input reads as it did. -/
def wireTellsSpec : ChangeSpec := { name := "wireTells", fn := fun _ => fun
  | [d1, d2, d3, d4, d5, d6, d7, d8, d9] => { results := [.lit (.bool true)], args := [d1, d2, d3, d4, d5, d6, d7, d8, d9] }
  | _ => none }
def wireTellsRow : OpenClaim := { program := "ytoepfmodbhfckaadoor", sum := "4fa0b73bbb52b2073ad55b91995521e56263ce3321110c8f75043324db387869", func := "mootbell/mootbelllaw06.WireTells", spec := "wireTells", unfollowed := true, recurses := true, named := ["mootbell/churn.sum"], apart := false, laid := [("mootbell/churn.sum", laid_mootbell_churn_sum)] }
def WireTellsSaid : Prop := wireTellsRow.holds Tryd.pinned (OpenSpec.ofChange wireTellsSpec)

/-- ITS FALSE NEIGHBOUR: 'it returns false'. Refute it at one input. -/
def wireTellsWrong : ChangeSpec := { name := "wireTells", fn := fun _ => fun
  | [d1, d2, d3, d4, d5, d6, d7, d8, d9] => { results := [.lit (.bool false)], args := [d1, d2, d3, d4, d5, d6, d7, d8, d9] }
  | _ => none }
def WireTellsWrongFalsely : Prop := wireTellsRow.holds Tryd.pinned (OpenSpec.ofChange wireTellsWrong)

/-- 'mootbelllaw06.WireRoots': WHATEVER THE INPUT: true; the input reads as it did. -/
def wireRootsSpec : ChangeSpec := { name := "wireRoots", fn := fun _ => fun
  | [d1, d2, d3, d4] => { results := [.lit (.bool true)], args := [d1, d2, d3, d4] }
  | _ => none }
def wireRootsRow : OpenClaim := { program := "ytoepfmodbhfckaadoor", sum := "4fa0b73bbb52b2073ad55b91995521e56263ce3321110c8f75043324db387869", func := "mootbell/mootbelllaw06.WireRoots", spec := "wireRoots", unfollowed := true, recurses := true, named := ["mootbell/churn.sum"], apart := false, laid := [("mootbell/churn.sum", laid_mootbell_churn_sum)] }
def WireRootsSaid : Prop := wireRootsRow.holds Tryd.pinned (OpenSpec.ofChange wireRootsSpec)

/-- ITS FALSE NEIGHBOUR: 'it returns false'. Refute it at one input. -/
def wireRootsWrong : ChangeSpec := { name := "wireRoots", fn := fun _ => fun
  | [d1, d2, d3, d4] => { results := [.lit (.bool false)], args := [d1, d2, d3, d4] }
  | _ => none }
def WireRootsWrongFalsely : Prop := wireRootsRow.holds Tryd.pinned (OpenSpec.ofChange wireRootsWrong)

/- THE SECOND FORM. 'bulk': how many values and letters a reading holds, each counted each time it is reached (what is shared counts as often as it is met; a slice's spare places count too). A statement '..UptoSaid' is the law's where the arguments, and the package variables that the reading takes, are together of bulk at most 1048576: NARROWER than '..Said'. Prove '..Said' where nothing that the law and all that it calls make is longer than what came in: it says more and counts as full. Else prove '..UptoSaid'. A law counts once. -/
mutual
def uptoBulk {H : Type} : DataW H → Nat
  | .lit (.string bytes) => bytes.length + 1
  | .lit _ => 1
  | .nil => 1
  | .ptr d => uptoBulk d + 1
  | .slice elems spare => uptoBulkAll elems + uptoBulkAll spare + 1
  | .agg parts => uptoBulkAll parts + 1
  | .iface _ d => uptoBulk d + 1
  | .map entries => uptoBulkEntries entries + 1
  | .held _ => 1
def uptoBulkAll {H : Type} : List (DataW H) → Nat
  | [] => 0
  | d :: r => uptoBulk d + uptoBulkAll r
def uptoBulkEntries {H : Type} : List (Lit × DataW H) → Nat
  | [] => 0
  | x :: r => uptoBulkEntry x + uptoBulkEntries r
def uptoBulkEntry {H : Type} : Lit × DataW H → Nat
  | (.string bytes, d) => bytes.length + uptoBulk d + 1
  | (_, d) => uptoBulk d + 1
 end
def uptoSmall : (H : Type) → List (DataW H) → Bool := fun _ ds => decide (uptoBulkAll ds ≤ 1048576)
def OpenSpec.upto (s : _root_.Go.ChangeSpec) : _root_.Go.OpenSpec := { _root_.Go.OpenSpec.ofChange s with cond := some uptoSmall }

/-- 'mootbelllaw06.WireTells', WHERE WHAT IT READS IS OF BULK AT MOST 1048576: true; the input reads as it did. -/
def wireTellsUptoRow : OpenClaim := { program := "ytoepfmodbhfckaadoor", sum := "4fa0b73bbb52b2073ad55b91995521e56263ce3321110c8f75043324db387869", func := "mootbell/mootbelllaw06.WireTells", spec := "wireTells", unfollowed := true, recurses := true, named := ["mootbell/churn.sum"], apart := false, laid := [("mootbell/churn.sum", laid_mootbell_churn_sum)], narrowed := true }
def WireTellsUptoSaid : Prop := wireTellsUptoRow.holds Tryd.pinned (OpenSpec.upto wireTellsSpec)

/-- 'mootbelllaw06.WireRoots', WHERE WHAT IT READS IS OF BULK AT MOST 1048576: true; the input reads as it did. -/
def wireRootsUptoRow : OpenClaim := { program := "ytoepfmodbhfckaadoor", sum := "4fa0b73bbb52b2073ad55b91995521e56263ce3321110c8f75043324db387869", func := "mootbell/mootbelllaw06.WireRoots", spec := "wireRoots", unfollowed := true, recurses := true, named := ["mootbell/churn.sum"], apart := false, laid := [("mootbell/churn.sum", laid_mootbell_churn_sum)], narrowed := true }
def WireRootsUptoSaid : Prop := wireRootsUptoRow.holds Tryd.pinned (OpenSpec.upto wireRootsSpec)

end Rows
end Go.Proofs.YtoepfmodbhfckaaDoor
