/-
  No cell of these rows narrows 'for every input' (looked for: loops, veiled, ifaces, maps, wideKeys, modest, calm, conditions, laid).
  DERIVED. THE GIVEN ROWS OF THIS SEAT. 21 by the template 'for every input the law returns true; each argument reads behind the call as it read before'; 0 by the template 'total and deterministic' (their statements: YtoepfmodbhfckaaTotals.lean).
  GIVEN WITH THE SEED: the statements are not yours to turn. If you find one false, say at which input.
  Laid BY PROGRAM, IN A SANDBOX (cutbox-rows.mjs): the forced cells as the released guide's own fill.sh prints them over the translation 37801d4a01501269… (all of the seat's roots in one cut). By AI agents, Wed Nov 11 2026. No macro, syntax, notation, axiom, sorry.
-/
import Derived.Test.YtoepfmodbhfckaaChecked
import GoSem.Claim
import GoSem.ClaimJoined
import GoSem.ClaimMapViews
import Derived.JoinedTies
import Derived.KernelRfl
namespace Go.Proofs.Ytoepfmodbhfckaa
/- THE CELL 'sum', in the pinned program and in every row, IS THE sha256 OF THE DUMP (.gsa) THAT YtoepfmodbhfckaaProg.lean LOADS. Nothing in Lean hashes anything: it is a label: what it is worth is what the hold of that sum in a sandbox is worth. -/
noncomputable def Try.pinned : Pinned := { name := "ytoepfmodbhfckaa", sum := "37801d4a01501269212d3b70f936c25c2098f52fde6d6b06d6f02650763f3e5c", checked := Try.checked }
namespace Rows
def none {H : Type} : Left H := { results := [], args := [] }

/-- 'mootbelllaw06.WireBack': WHATEVER THE INPUT: true; the input reads as it did. -/
def wireBackSpec : ChangeSpec := { name := "wireBack", fn := fun _ => fun
  | [d1, d2, d3, d4, d5] => { results := [.lit (.bool true)], args := [d1, d2, d3, d4, d5] }
  | _ => none }
def wireBackRow : OpenClaim := { program := "ytoepfmodbhfckaa", sum := "37801d4a01501269212d3b70f936c25c2098f52fde6d6b06d6f02650763f3e5c", func := "mootbell/mootbelllaw06.WireBack", spec := "wireBack", unfollowed := true, recurses := true, apart := false }
def WireBackSaid : Prop := wireBackRow.holds Try.pinned (OpenSpec.ofChange wireBackSpec)

/-- ITS FALSE NEIGHBOUR: 'it returns false'. Refute it at one input. -/
def wireBackWrong : ChangeSpec := { name := "wireBack", fn := fun _ => fun
  | [d1, d2, d3, d4, d5] => { results := [.lit (.bool false)], args := [d1, d2, d3, d4, d5] }
  | _ => none }
def WireBackWrongFalsely : Prop := wireBackRow.holds Try.pinned (OpenSpec.ofChange wireBackWrong)

/-- 'mootbelllaw06.WireForms': WHATEVER THE INPUT: true; the input reads as it did. -/
def wireFormsSpec : ChangeSpec := { name := "wireForms", fn := fun _ => fun
  | [d1, d2, d3, d4, d5, d6] => { results := [.lit (.bool true)], args := [d1, d2, d3, d4, d5, d6] }
  | _ => none }
def wireFormsRow : OpenClaim := { program := "ytoepfmodbhfckaa", sum := "37801d4a01501269212d3b70f936c25c2098f52fde6d6b06d6f02650763f3e5c", func := "mootbell/mootbelllaw06.WireForms", spec := "wireForms", unfollowed := true, recurses := true, apart := false }
def WireFormsSaid : Prop := wireFormsRow.holds Try.pinned (OpenSpec.ofChange wireFormsSpec)

/-- ITS FALSE NEIGHBOUR: 'it returns false'. Refute it at one input. -/
def wireFormsWrong : ChangeSpec := { name := "wireForms", fn := fun _ => fun
  | [d1, d2, d3, d4, d5, d6] => { results := [.lit (.bool false)], args := [d1, d2, d3, d4, d5, d6] }
  | _ => none }
def WireFormsWrongFalsely : Prop := wireFormsRow.holds Try.pinned (OpenSpec.ofChange wireFormsWrong)

/-- 'mootbelllaw06.WireWithin': WHATEVER THE INPUT: true; the input reads as it did. -/
def wireWithinSpec : ChangeSpec := { name := "wireWithin", fn := fun _ => fun
  | [d1, d2, d3] => { results := [.lit (.bool true)], args := [d1, d2, d3] }
  | _ => none }
def wireWithinRow : OpenClaim := { program := "ytoepfmodbhfckaa", sum := "37801d4a01501269212d3b70f936c25c2098f52fde6d6b06d6f02650763f3e5c", func := "mootbell/mootbelllaw06.WireWithin", spec := "wireWithin", unfollowed := true, recurses := true, apart := false }
def WireWithinSaid : Prop := wireWithinRow.holds Try.pinned (OpenSpec.ofChange wireWithinSpec)

/-- ITS FALSE NEIGHBOUR: 'it returns false'. Refute it at one input. -/
def wireWithinWrong : ChangeSpec := { name := "wireWithin", fn := fun _ => fun
  | [d1, d2, d3] => { results := [.lit (.bool false)], args := [d1, d2, d3] }
  | _ => none }
def WireWithinWrongFalsely : Prop := wireWithinRow.holds Try.pinned (OpenSpec.ofChange wireWithinWrong)

/-- 'mootbelllaw05.TokenTells': WHATEVER THE INPUT: true; the input reads as it did. -/
def tokenTellsSpec : ChangeSpec := { name := "tokenTells", fn := fun _ => fun
  | [d1, d2, d3, d4, d5, d6, d7, d8, d9] => { results := [.lit (.bool true)], args := [d1, d2, d3, d4, d5, d6, d7, d8, d9] }
  | _ => none }
def tokenTellsRow : OpenClaim := { program := "ytoepfmodbhfckaa", sum := "37801d4a01501269212d3b70f936c25c2098f52fde6d6b06d6f02650763f3e5c", func := "mootbell/mootbelllaw05.TokenTells", spec := "tokenTells", unfollowed := true, recurses := true, apart := false }
def TokenTellsSaid : Prop := tokenTellsRow.holds Try.pinned (OpenSpec.ofChange tokenTellsSpec)

/-- ITS FALSE NEIGHBOUR: 'it returns false'. Refute it at one input. -/
def tokenTellsWrong : ChangeSpec := { name := "tokenTells", fn := fun _ => fun
  | [d1, d2, d3, d4, d5, d6, d7, d8, d9] => { results := [.lit (.bool false)], args := [d1, d2, d3, d4, d5, d6, d7, d8, d9] }
  | _ => none }
def TokenTellsWrongFalsely : Prop := tokenTellsRow.holds Try.pinned (OpenSpec.ofChange tokenTellsWrong)

/-- 'mootbelllaw05.TokenBack': WHATEVER THE INPUT: true; the input reads as it did. -/
def tokenBackSpec : ChangeSpec := { name := "tokenBack", fn := fun _ => fun
  | [d1, d2, d3, d4, d5] => { results := [.lit (.bool true)], args := [d1, d2, d3, d4, d5] }
  | _ => none }
def tokenBackRow : OpenClaim := { program := "ytoepfmodbhfckaa", sum := "37801d4a01501269212d3b70f936c25c2098f52fde6d6b06d6f02650763f3e5c", func := "mootbell/mootbelllaw05.TokenBack", spec := "tokenBack", unfollowed := true, recurses := true, apart := false }
def TokenBackSaid : Prop := tokenBackRow.holds Try.pinned (OpenSpec.ofChange tokenBackSpec)

/-- ITS FALSE NEIGHBOUR: 'it returns false'. Refute it at one input. -/
def tokenBackWrong : ChangeSpec := { name := "tokenBack", fn := fun _ => fun
  | [d1, d2, d3, d4, d5] => { results := [.lit (.bool false)], args := [d1, d2, d3, d4, d5] }
  | _ => none }
def TokenBackWrongFalsely : Prop := tokenBackRow.holds Try.pinned (OpenSpec.ofChange tokenBackWrong)

/-- 'mootbelllaw05.TokenMerge': WHATEVER THE INPUT: true; the input reads as it did. -/
def tokenMergeSpec : ChangeSpec := { name := "tokenMerge", fn := fun _ => fun
  | [d1, d2, d3, d4, d5, d6] => { results := [.lit (.bool true)], args := [d1, d2, d3, d4, d5, d6] }
  | _ => none }
def tokenMergeRow : OpenClaim := { program := "ytoepfmodbhfckaa", sum := "37801d4a01501269212d3b70f936c25c2098f52fde6d6b06d6f02650763f3e5c", func := "mootbell/mootbelllaw05.TokenMerge", spec := "tokenMerge", unfollowed := true, recurses := true, apart := false }
def TokenMergeSaid : Prop := tokenMergeRow.holds Try.pinned (OpenSpec.ofChange tokenMergeSpec)

/-- ITS FALSE NEIGHBOUR: 'it returns false'. Refute it at one input. -/
def tokenMergeWrong : ChangeSpec := { name := "tokenMerge", fn := fun _ => fun
  | [d1, d2, d3, d4, d5, d6] => { results := [.lit (.bool false)], args := [d1, d2, d3, d4, d5, d6] }
  | _ => none }
def TokenMergeWrongFalsely : Prop := tokenMergeRow.holds Try.pinned (OpenSpec.ofChange tokenMergeWrong)

/-- 'mootbelllaw05.TokenKeys': WHATEVER THE INPUT: true; the input reads as it did. -/
def tokenKeysSpec : ChangeSpec := { name := "tokenKeys", fn := fun _ => fun
  | [d1, d2, d3] => { results := [.lit (.bool true)], args := [d1, d2, d3] }
  | _ => none }
def tokenKeysRow : OpenClaim := { program := "ytoepfmodbhfckaa", sum := "37801d4a01501269212d3b70f936c25c2098f52fde6d6b06d6f02650763f3e5c", func := "mootbell/mootbelllaw05.TokenKeys", spec := "tokenKeys", unfollowed := true, recurses := true, apart := false }
def TokenKeysSaid : Prop := tokenKeysRow.holds Try.pinned (OpenSpec.ofChange tokenKeysSpec)

/-- ITS FALSE NEIGHBOUR: 'it returns false'. Refute it at one input. -/
def tokenKeysWrong : ChangeSpec := { name := "tokenKeys", fn := fun _ => fun
  | [d1, d2, d3] => { results := [.lit (.bool false)], args := [d1, d2, d3] }
  | _ => none }
def TokenKeysWrongFalsely : Prop := tokenKeysRow.holds Try.pinned (OpenSpec.ofChange tokenKeysWrong)

/-- 'mootbelllaw05.TokenLong': WHATEVER THE INPUT: true; the input reads as it did. -/
def tokenLongSpec : ChangeSpec := { name := "tokenLong", fn := fun _ => fun
  | [d1, d2] => { results := [.lit (.bool true)], args := [d1, d2] }
  | _ => none }
def tokenLongRow : OpenClaim := { program := "ytoepfmodbhfckaa", sum := "37801d4a01501269212d3b70f936c25c2098f52fde6d6b06d6f02650763f3e5c", func := "mootbell/mootbelllaw05.TokenLong", spec := "tokenLong", unfollowed := true, recurses := true, apart := false }
def TokenLongSaid : Prop := tokenLongRow.holds Try.pinned (OpenSpec.ofChange tokenLongSpec)

/-- ITS FALSE NEIGHBOUR: 'it returns false'. Refute it at one input. -/
def tokenLongWrong : ChangeSpec := { name := "tokenLong", fn := fun _ => fun
  | [d1, d2] => { results := [.lit (.bool false)], args := [d1, d2] }
  | _ => none }
def TokenLongWrongFalsely : Prop := tokenLongRow.holds Try.pinned (OpenSpec.ofChange tokenLongWrong)

/-- 'mootbelllaw05.TokenTwice': WHATEVER THE INPUT: true; the input reads as it did. -/
def tokenTwiceSpec : ChangeSpec := { name := "tokenTwice", fn := fun _ => fun
  | [d1, d2] => { results := [.lit (.bool true)], args := [d1, d2] }
  | _ => none }
def tokenTwiceRow : OpenClaim := { program := "ytoepfmodbhfckaa", sum := "37801d4a01501269212d3b70f936c25c2098f52fde6d6b06d6f02650763f3e5c", func := "mootbell/mootbelllaw05.TokenTwice", spec := "tokenTwice", unfollowed := true, recurses := true, apart := false }
def TokenTwiceSaid : Prop := tokenTwiceRow.holds Try.pinned (OpenSpec.ofChange tokenTwiceSpec)

/-- ITS FALSE NEIGHBOUR: 'it returns false'. Refute it at one input. -/
def tokenTwiceWrong : ChangeSpec := { name := "tokenTwice", fn := fun _ => fun
  | [d1, d2] => { results := [.lit (.bool false)], args := [d1, d2] }
  | _ => none }
def TokenTwiceWrongFalsely : Prop := tokenTwiceRow.holds Try.pinned (OpenSpec.ofChange tokenTwiceWrong)

/-- 'mootbelllaw02.BitsTells': WHATEVER THE INPUT: true; the input reads as it did. -/
def bitsTellsSpec : ChangeSpec := { name := "bitsTells", fn := fun _ => fun
  | [d1, d2, d3, d4, d5, d6, d7, d8, d9] => { results := [.lit (.bool true)], args := [d1, d2, d3, d4, d5, d6, d7, d8, d9] }
  | _ => none }
def bitsTellsRow : OpenClaim := { program := "ytoepfmodbhfckaa", sum := "37801d4a01501269212d3b70f936c25c2098f52fde6d6b06d6f02650763f3e5c", func := "mootbell/mootbelllaw02.BitsTells", spec := "bitsTells", unfollowed := true, recurses := true, apart := false }
def BitsTellsSaid : Prop := bitsTellsRow.holds Try.pinned (OpenSpec.ofChange bitsTellsSpec)

/-- ITS FALSE NEIGHBOUR: 'it returns false'. Refute it at one input. -/
def bitsTellsWrong : ChangeSpec := { name := "bitsTells", fn := fun _ => fun
  | [d1, d2, d3, d4, d5, d6, d7, d8, d9] => { results := [.lit (.bool false)], args := [d1, d2, d3, d4, d5, d6, d7, d8, d9] }
  | _ => none }
def BitsTellsWrongFalsely : Prop := bitsTellsRow.holds Try.pinned (OpenSpec.ofChange bitsTellsWrong)

/-- 'mootbelllaw02.BitsBack': WHATEVER THE INPUT: true; the input reads as it did. -/
def bitsBackSpec : ChangeSpec := { name := "bitsBack", fn := fun _ => fun
  | [d1, d2, d3, d4] => { results := [.lit (.bool true)], args := [d1, d2, d3, d4] }
  | _ => none }
def bitsBackRow : OpenClaim := { program := "ytoepfmodbhfckaa", sum := "37801d4a01501269212d3b70f936c25c2098f52fde6d6b06d6f02650763f3e5c", func := "mootbell/mootbelllaw02.BitsBack", spec := "bitsBack", unfollowed := true, recurses := true, apart := false }
def BitsBackSaid : Prop := bitsBackRow.holds Try.pinned (OpenSpec.ofChange bitsBackSpec)

/-- ITS FALSE NEIGHBOUR: 'it returns false'. Refute it at one input. -/
def bitsBackWrong : ChangeSpec := { name := "bitsBack", fn := fun _ => fun
  | [d1, d2, d3, d4] => { results := [.lit (.bool false)], args := [d1, d2, d3, d4] }
  | _ => none }
def BitsBackWrongFalsely : Prop := bitsBackRow.holds Try.pinned (OpenSpec.ofChange bitsBackWrong)

/-- 'mootbelllaw02.BitsForms': WHATEVER THE INPUT: true; the input reads as it did. -/
def bitsFormsSpec : ChangeSpec := { name := "bitsForms", fn := fun _ => fun
  | [d1, d2] => { results := [.lit (.bool true)], args := [d1, d2] }
  | _ => none }
def bitsFormsRow : OpenClaim := { program := "ytoepfmodbhfckaa", sum := "37801d4a01501269212d3b70f936c25c2098f52fde6d6b06d6f02650763f3e5c", func := "mootbell/mootbelllaw02.BitsForms", spec := "bitsForms", unfollowed := true, recurses := true, apart := false }
def BitsFormsSaid : Prop := bitsFormsRow.holds Try.pinned (OpenSpec.ofChange bitsFormsSpec)

/-- ITS FALSE NEIGHBOUR: 'it returns false'. Refute it at one input. -/
def bitsFormsWrong : ChangeSpec := { name := "bitsForms", fn := fun _ => fun
  | [d1, d2] => { results := [.lit (.bool false)], args := [d1, d2] }
  | _ => none }
def BitsFormsWrongFalsely : Prop := bitsFormsRow.holds Try.pinned (OpenSpec.ofChange bitsFormsWrong)

/-- 'mootbelllaw02.BitsUnion': WHATEVER THE INPUT: true; the input reads as it did. -/
def bitsUnionSpec : ChangeSpec := { name := "bitsUnion", fn := fun _ => fun
  | [d1, d2, d3, d4, d5] => { results := [.lit (.bool true)], args := [d1, d2, d3, d4, d5] }
  | _ => none }
def bitsUnionRow : OpenClaim := { program := "ytoepfmodbhfckaa", sum := "37801d4a01501269212d3b70f936c25c2098f52fde6d6b06d6f02650763f3e5c", func := "mootbell/mootbelllaw02.BitsUnion", spec := "bitsUnion", unfollowed := true, recurses := true, apart := false }
def BitsUnionSaid : Prop := bitsUnionRow.holds Try.pinned (OpenSpec.ofChange bitsUnionSpec)

/-- ITS FALSE NEIGHBOUR: 'it returns false'. Refute it at one input. -/
def bitsUnionWrong : ChangeSpec := { name := "bitsUnion", fn := fun _ => fun
  | [d1, d2, d3, d4, d5] => { results := [.lit (.bool false)], args := [d1, d2, d3, d4, d5] }
  | _ => none }
def BitsUnionWrongFalsely : Prop := bitsUnionRow.holds Try.pinned (OpenSpec.ofChange bitsUnionWrong)

/-- 'mootbelllaw02.BitsApart': WHATEVER THE INPUT: true; the input reads as it did. -/
def bitsApartSpec : ChangeSpec := { name := "bitsApart", fn := fun _ => fun
  | [d1, d2, d3] => { results := [.lit (.bool true)], args := [d1, d2, d3] }
  | _ => none }
def bitsApartRow : OpenClaim := { program := "ytoepfmodbhfckaa", sum := "37801d4a01501269212d3b70f936c25c2098f52fde6d6b06d6f02650763f3e5c", func := "mootbell/mootbelllaw02.BitsApart", spec := "bitsApart", unfollowed := true, recurses := true, apart := false }
def BitsApartSaid : Prop := bitsApartRow.holds Try.pinned (OpenSpec.ofChange bitsApartSpec)

/-- ITS FALSE NEIGHBOUR: 'it returns false'. Refute it at one input. -/
def bitsApartWrong : ChangeSpec := { name := "bitsApart", fn := fun _ => fun
  | [d1, d2, d3] => { results := [.lit (.bool false)], args := [d1, d2, d3] }
  | _ => none }
def BitsApartWrongFalsely : Prop := bitsApartRow.holds Try.pinned (OpenSpec.ofChange bitsApartWrong)

/-- 'mootbelllaw02.BitsCount': WHATEVER THE INPUT: true; the input reads as it did. -/
def bitsCountSpec : ChangeSpec := { name := "bitsCount", fn := fun _ => fun
  | [d1, d2] => { results := [.lit (.bool true)], args := [d1, d2] }
  | _ => none }
def bitsCountRow : OpenClaim := { program := "ytoepfmodbhfckaa", sum := "37801d4a01501269212d3b70f936c25c2098f52fde6d6b06d6f02650763f3e5c", func := "mootbell/mootbelllaw02.BitsCount", spec := "bitsCount", unfollowed := true, recurses := true, apart := false }
def BitsCountSaid : Prop := bitsCountRow.holds Try.pinned (OpenSpec.ofChange bitsCountSpec)

/-- ITS FALSE NEIGHBOUR: 'it returns false'. Refute it at one input. -/
def bitsCountWrong : ChangeSpec := { name := "bitsCount", fn := fun _ => fun
  | [d1, d2] => { results := [.lit (.bool false)], args := [d1, d2] }
  | _ => none }
def BitsCountWrongFalsely : Prop := bitsCountRow.holds Try.pinned (OpenSpec.ofChange bitsCountWrong)

/-- 'mootbelllaw07.OracleTells': WHATEVER THE INPUT: true; the input reads as it did. -/
def oracleTellsSpec : ChangeSpec := { name := "oracleTells", fn := fun _ => fun
  | [d1, d2, d3, d4, d5, d6, d7, d8, d9] => { results := [.lit (.bool true)], args := [d1, d2, d3, d4, d5, d6, d7, d8, d9] }
  | _ => none }
def oracleTellsRow : OpenClaim := { program := "ytoepfmodbhfckaa", sum := "37801d4a01501269212d3b70f936c25c2098f52fde6d6b06d6f02650763f3e5c", func := "mootbell/mootbelllaw07.OracleTells", spec := "oracleTells", unfollowed := true, recurses := true, apart := false }
def OracleTellsSaid : Prop := oracleTellsRow.holds Try.pinned (OpenSpec.ofChange oracleTellsSpec)

/-- ITS FALSE NEIGHBOUR: 'it returns false'. Refute it at one input. -/
def oracleTellsWrong : ChangeSpec := { name := "oracleTells", fn := fun _ => fun
  | [d1, d2, d3, d4, d5, d6, d7, d8, d9] => { results := [.lit (.bool false)], args := [d1, d2, d3, d4, d5, d6, d7, d8, d9] }
  | _ => none }
def OracleTellsWrongFalsely : Prop := oracleTellsRow.holds Try.pinned (OpenSpec.ofChange oracleTellsWrong)

/-- 'mootbelllaw07.OracleOne': WHATEVER THE INPUT: true; the input reads as it did. -/
def oracleOneSpec : ChangeSpec := { name := "oracleOne", fn := fun _ => fun
  | [d1, d2, d3, d4, d5, d6] => { results := [.lit (.bool true)], args := [d1, d2, d3, d4, d5, d6] }
  | _ => none }
def oracleOneRow : OpenClaim := { program := "ytoepfmodbhfckaa", sum := "37801d4a01501269212d3b70f936c25c2098f52fde6d6b06d6f02650763f3e5c", func := "mootbell/mootbelllaw07.OracleOne", spec := "oracleOne", unfollowed := true, recurses := true, apart := false }
def OracleOneSaid : Prop := oracleOneRow.holds Try.pinned (OpenSpec.ofChange oracleOneSpec)

/-- ITS FALSE NEIGHBOUR: 'it returns false'. Refute it at one input. -/
def oracleOneWrong : ChangeSpec := { name := "oracleOne", fn := fun _ => fun
  | [d1, d2, d3, d4, d5, d6] => { results := [.lit (.bool false)], args := [d1, d2, d3, d4, d5, d6] }
  | _ => none }
def OracleOneWrongFalsely : Prop := oracleOneRow.holds Try.pinned (OpenSpec.ofChange oracleOneWrong)

/-- 'mootbelllaw07.OracleMore': WHATEVER THE INPUT: true; the input reads as it did. -/
def oracleMoreSpec : ChangeSpec := { name := "oracleMore", fn := fun _ => fun
  | [d1, d2, d3, d4, d5] => { results := [.lit (.bool true)], args := [d1, d2, d3, d4, d5] }
  | _ => none }
def oracleMoreRow : OpenClaim := { program := "ytoepfmodbhfckaa", sum := "37801d4a01501269212d3b70f936c25c2098f52fde6d6b06d6f02650763f3e5c", func := "mootbell/mootbelllaw07.OracleMore", spec := "oracleMore", unfollowed := true, recurses := true, apart := false }
def OracleMoreSaid : Prop := oracleMoreRow.holds Try.pinned (OpenSpec.ofChange oracleMoreSpec)

/-- ITS FALSE NEIGHBOUR: 'it returns false'. Refute it at one input. -/
def oracleMoreWrong : ChangeSpec := { name := "oracleMore", fn := fun _ => fun
  | [d1, d2, d3, d4, d5] => { results := [.lit (.bool false)], args := [d1, d2, d3, d4, d5] }
  | _ => none }
def OracleMoreWrongFalsely : Prop := oracleMoreRow.holds Try.pinned (OpenSpec.ofChange oracleMoreWrong)

/-- 'mootbelllaw07.OracleSign': WHATEVER THE INPUT: true; the input reads as it did. -/
def oracleSignSpec : ChangeSpec := { name := "oracleSign", fn := fun _ => fun
  | [d1, d2, d3] => { results := [.lit (.bool true)], args := [d1, d2, d3] }
  | _ => none }
def oracleSignRow : OpenClaim := { program := "ytoepfmodbhfckaa", sum := "37801d4a01501269212d3b70f936c25c2098f52fde6d6b06d6f02650763f3e5c", func := "mootbell/mootbelllaw07.OracleSign", spec := "oracleSign", unfollowed := true, recurses := true, apart := false }
def OracleSignSaid : Prop := oracleSignRow.holds Try.pinned (OpenSpec.ofChange oracleSignSpec)

/-- ITS FALSE NEIGHBOUR: 'it returns false'. Refute it at one input. -/
def oracleSignWrong : ChangeSpec := { name := "oracleSign", fn := fun _ => fun
  | [d1, d2, d3] => { results := [.lit (.bool false)], args := [d1, d2, d3] }
  | _ => none }
def OracleSignWrongFalsely : Prop := oracleSignRow.holds Try.pinned (OpenSpec.ofChange oracleSignWrong)

/-- 'mootbelllaw07.OracleForged': WHATEVER THE INPUT: true; the input reads as it did. -/
def oracleForgedSpec : ChangeSpec := { name := "oracleForged", fn := fun _ => fun
  | [d1, d2, d3, d4, d5] => { results := [.lit (.bool true)], args := [d1, d2, d3, d4, d5] }
  | _ => none }
def oracleForgedRow : OpenClaim := { program := "ytoepfmodbhfckaa", sum := "37801d4a01501269212d3b70f936c25c2098f52fde6d6b06d6f02650763f3e5c", func := "mootbell/mootbelllaw07.OracleForged", spec := "oracleForged", unfollowed := true, recurses := true, apart := false }
def OracleForgedSaid : Prop := oracleForgedRow.holds Try.pinned (OpenSpec.ofChange oracleForgedSpec)

/-- ITS FALSE NEIGHBOUR: 'it returns false'. Refute it at one input. -/
def oracleForgedWrong : ChangeSpec := { name := "oracleForged", fn := fun _ => fun
  | [d1, d2, d3, d4, d5] => { results := [.lit (.bool false)], args := [d1, d2, d3, d4, d5] }
  | _ => none }
def OracleForgedWrongFalsely : Prop := oracleForgedRow.holds Try.pinned (OpenSpec.ofChange oracleForgedWrong)

/-- 'mootbelllaw07.OracleMerge': WHATEVER THE INPUT: true; the input reads as it did. -/
def oracleMergeSpec : ChangeSpec := { name := "oracleMerge", fn := fun _ => fun
  | [d1, d2, d3, d4] => { results := [.lit (.bool true)], args := [d1, d2, d3, d4] }
  | _ => none }
def oracleMergeRow : OpenClaim := { program := "ytoepfmodbhfckaa", sum := "37801d4a01501269212d3b70f936c25c2098f52fde6d6b06d6f02650763f3e5c", func := "mootbell/mootbelllaw07.OracleMerge", spec := "oracleMerge", unfollowed := true, recurses := true, apart := false }
def OracleMergeSaid : Prop := oracleMergeRow.holds Try.pinned (OpenSpec.ofChange oracleMergeSpec)

/-- ITS FALSE NEIGHBOUR: 'it returns false'. Refute it at one input. -/
def oracleMergeWrong : ChangeSpec := { name := "oracleMerge", fn := fun _ => fun
  | [d1, d2, d3, d4] => { results := [.lit (.bool false)], args := [d1, d2, d3, d4] }
  | _ => none }
def OracleMergeWrongFalsely : Prop := oracleMergeRow.holds Try.pinned (OpenSpec.ofChange oracleMergeWrong)

/- THE SECOND FORM. 'bulk': how many values and letters a reading holds, each counted each time it is reached (what is shared counts as often as it is met; a slice's spare places count too). A statement '..UptoSaid' is the law's where the arguments, and the package variables that the reading takes, are together of bulk at most 1048576: NARROWER than '..Said'. Prove '..Said' where nothing that the law and all that it calls make is longer than what came in: it says more and counts as full. Else prove '..UptoSaid'. A law counts once. -/
mutual
def uptoBulk {H : Type} : DataW H → Nat
  | .lit (.string bytes) => bytes.length + 1
  | .lit _ => 1
  | .nil => 1
  | .ptr d => uptoBulk d + 1
  | .slice elems spare => uptoBulkAll elems + uptoBulkAll spare + 1
  | .agg parts => uptoBulkAll parts + 1
  | .iface _ d => uptoBulk d + 1
  | .map entries => uptoBulkEntries entries + 1
  | .held _ => 1
def uptoBulkAll {H : Type} : List (DataW H) → Nat
  | [] => 0
  | d :: r => uptoBulk d + uptoBulkAll r
def uptoBulkEntries {H : Type} : List (Lit × DataW H) → Nat
  | [] => 0
  | x :: r => uptoBulkEntry x + uptoBulkEntries r
def uptoBulkEntry {H : Type} : Lit × DataW H → Nat
  | (.string bytes, d) => bytes.length + uptoBulk d + 1
  | (_, d) => uptoBulk d + 1
 end
def uptoSmall : (H : Type) → List (DataW H) → Bool := fun _ ds => decide (uptoBulkAll ds ≤ 1048576)
def OpenSpec.upto (s : _root_.Go.ChangeSpec) : _root_.Go.OpenSpec := { _root_.Go.OpenSpec.ofChange s with cond := some uptoSmall }

/-- 'mootbelllaw06.WireBack', WHERE WHAT IT READS IS OF BULK AT MOST 1048576: true; the input reads as it did. -/
def wireBackUptoRow : OpenClaim := { program := "ytoepfmodbhfckaa", sum := "37801d4a01501269212d3b70f936c25c2098f52fde6d6b06d6f02650763f3e5c", func := "mootbell/mootbelllaw06.WireBack", spec := "wireBack", unfollowed := true, recurses := true, apart := false, narrowed := true }
def WireBackUptoSaid : Prop := wireBackUptoRow.holds Try.pinned (OpenSpec.upto wireBackSpec)

/-- 'mootbelllaw06.WireForms', WHERE WHAT IT READS IS OF BULK AT MOST 1048576: true; the input reads as it did. -/
def wireFormsUptoRow : OpenClaim := { program := "ytoepfmodbhfckaa", sum := "37801d4a01501269212d3b70f936c25c2098f52fde6d6b06d6f02650763f3e5c", func := "mootbell/mootbelllaw06.WireForms", spec := "wireForms", unfollowed := true, recurses := true, apart := false, narrowed := true }
def WireFormsUptoSaid : Prop := wireFormsUptoRow.holds Try.pinned (OpenSpec.upto wireFormsSpec)

/-- 'mootbelllaw06.WireWithin', WHERE WHAT IT READS IS OF BULK AT MOST 1048576: true; the input reads as it did. -/
def wireWithinUptoRow : OpenClaim := { program := "ytoepfmodbhfckaa", sum := "37801d4a01501269212d3b70f936c25c2098f52fde6d6b06d6f02650763f3e5c", func := "mootbell/mootbelllaw06.WireWithin", spec := "wireWithin", unfollowed := true, recurses := true, apart := false, narrowed := true }
def WireWithinUptoSaid : Prop := wireWithinUptoRow.holds Try.pinned (OpenSpec.upto wireWithinSpec)

/-- 'mootbelllaw05.TokenTells', WHERE WHAT IT READS IS OF BULK AT MOST 1048576: true; the input reads as it did. -/
def tokenTellsUptoRow : OpenClaim := { program := "ytoepfmodbhfckaa", sum := "37801d4a01501269212d3b70f936c25c2098f52fde6d6b06d6f02650763f3e5c", func := "mootbell/mootbelllaw05.TokenTells", spec := "tokenTells", unfollowed := true, recurses := true, apart := false, narrowed := true }
def TokenTellsUptoSaid : Prop := tokenTellsUptoRow.holds Try.pinned (OpenSpec.upto tokenTellsSpec)

/-- 'mootbelllaw05.TokenBack', WHERE WHAT IT READS IS OF BULK AT MOST 1048576: true; the input reads as it did. -/
def tokenBackUptoRow : OpenClaim := { program := "ytoepfmodbhfckaa", sum := "37801d4a01501269212d3b70f936c25c2098f52fde6d6b06d6f02650763f3e5c", func := "mootbell/mootbelllaw05.TokenBack", spec := "tokenBack", unfollowed := true, recurses := true, apart := false, narrowed := true }
def TokenBackUptoSaid : Prop := tokenBackUptoRow.holds Try.pinned (OpenSpec.upto tokenBackSpec)

/-- 'mootbelllaw05.TokenMerge', WHERE WHAT IT READS IS OF BULK AT MOST 1048576: true; the input reads as it did. -/
def tokenMergeUptoRow : OpenClaim := { program := "ytoepfmodbhfckaa", sum := "37801d4a01501269212d3b70f936c25c2098f52fde6d6b06d6f02650763f3e5c", func := "mootbell/mootbelllaw05.TokenMerge", spec := "tokenMerge", unfollowed := true, recurses := true, apart := false, narrowed := true }
def TokenMergeUptoSaid : Prop := tokenMergeUptoRow.holds Try.pinned (OpenSpec.upto tokenMergeSpec)

/-- 'mootbelllaw05.TokenKeys', WHERE WHAT IT READS IS OF BULK AT MOST 1048576: true; the input reads as it did. -/
def tokenKeysUptoRow : OpenClaim := { program := "ytoepfmodbhfckaa", sum := "37801d4a01501269212d3b70f936c25c2098f52fde6d6b06d6f02650763f3e5c", func := "mootbell/mootbelllaw05.TokenKeys", spec := "tokenKeys", unfollowed := true, recurses := true, apart := false, narrowed := true }
def TokenKeysUptoSaid : Prop := tokenKeysUptoRow.holds Try.pinned (OpenSpec.upto tokenKeysSpec)

/-- 'mootbelllaw05.TokenLong', WHERE WHAT IT READS IS OF BULK AT MOST 1048576: true; the input reads as it did. -/
def tokenLongUptoRow : OpenClaim := { program := "ytoepfmodbhfckaa", sum := "37801d4a01501269212d3b70f936c25c2098f52fde6d6b06d6f02650763f3e5c", func := "mootbell/mootbelllaw05.TokenLong", spec := "tokenLong", unfollowed := true, recurses := true, apart := false, narrowed := true }
def TokenLongUptoSaid : Prop := tokenLongUptoRow.holds Try.pinned (OpenSpec.upto tokenLongSpec)

/-- 'mootbelllaw05.TokenTwice', WHERE WHAT IT READS IS OF BULK AT MOST 1048576: true; the input reads as it did. -/
def tokenTwiceUptoRow : OpenClaim := { program := "ytoepfmodbhfckaa", sum := "37801d4a01501269212d3b70f936c25c2098f52fde6d6b06d6f02650763f3e5c", func := "mootbell/mootbelllaw05.TokenTwice", spec := "tokenTwice", unfollowed := true, recurses := true, apart := false, narrowed := true }
def TokenTwiceUptoSaid : Prop := tokenTwiceUptoRow.holds Try.pinned (OpenSpec.upto tokenTwiceSpec)

/-- 'mootbelllaw02.BitsTells', WHERE WHAT IT READS IS OF BULK AT MOST 1048576: true; the input reads as it did. -/
def bitsTellsUptoRow : OpenClaim := { program := "ytoepfmodbhfckaa", sum := "37801d4a01501269212d3b70f936c25c2098f52fde6d6b06d6f02650763f3e5c", func := "mootbell/mootbelllaw02.BitsTells", spec := "bitsTells", unfollowed := true, recurses := true, apart := false, narrowed := true }
def BitsTellsUptoSaid : Prop := bitsTellsUptoRow.holds Try.pinned (OpenSpec.upto bitsTellsSpec)

/-- 'mootbelllaw02.BitsBack', WHERE WHAT IT READS IS OF BULK AT MOST 1048576: true; the input reads as it did. -/
def bitsBackUptoRow : OpenClaim := { program := "ytoepfmodbhfckaa", sum := "37801d4a01501269212d3b70f936c25c2098f52fde6d6b06d6f02650763f3e5c", func := "mootbell/mootbelllaw02.BitsBack", spec := "bitsBack", unfollowed := true, recurses := true, apart := false, narrowed := true }
def BitsBackUptoSaid : Prop := bitsBackUptoRow.holds Try.pinned (OpenSpec.upto bitsBackSpec)

/-- 'mootbelllaw02.BitsForms', WHERE WHAT IT READS IS OF BULK AT MOST 1048576: true; the input reads as it did. -/
def bitsFormsUptoRow : OpenClaim := { program := "ytoepfmodbhfckaa", sum := "37801d4a01501269212d3b70f936c25c2098f52fde6d6b06d6f02650763f3e5c", func := "mootbell/mootbelllaw02.BitsForms", spec := "bitsForms", unfollowed := true, recurses := true, apart := false, narrowed := true }
def BitsFormsUptoSaid : Prop := bitsFormsUptoRow.holds Try.pinned (OpenSpec.upto bitsFormsSpec)

/-- 'mootbelllaw02.BitsUnion', WHERE WHAT IT READS IS OF BULK AT MOST 1048576: true; the input reads as it did. -/
def bitsUnionUptoRow : OpenClaim := { program := "ytoepfmodbhfckaa", sum := "37801d4a01501269212d3b70f936c25c2098f52fde6d6b06d6f02650763f3e5c", func := "mootbell/mootbelllaw02.BitsUnion", spec := "bitsUnion", unfollowed := true, recurses := true, apart := false, narrowed := true }
def BitsUnionUptoSaid : Prop := bitsUnionUptoRow.holds Try.pinned (OpenSpec.upto bitsUnionSpec)

/-- 'mootbelllaw02.BitsApart', WHERE WHAT IT READS IS OF BULK AT MOST 1048576: true; the input reads as it did. -/
def bitsApartUptoRow : OpenClaim := { program := "ytoepfmodbhfckaa", sum := "37801d4a01501269212d3b70f936c25c2098f52fde6d6b06d6f02650763f3e5c", func := "mootbell/mootbelllaw02.BitsApart", spec := "bitsApart", unfollowed := true, recurses := true, apart := false, narrowed := true }
def BitsApartUptoSaid : Prop := bitsApartUptoRow.holds Try.pinned (OpenSpec.upto bitsApartSpec)

/-- 'mootbelllaw02.BitsCount', WHERE WHAT IT READS IS OF BULK AT MOST 1048576: true; the input reads as it did. -/
def bitsCountUptoRow : OpenClaim := { program := "ytoepfmodbhfckaa", sum := "37801d4a01501269212d3b70f936c25c2098f52fde6d6b06d6f02650763f3e5c", func := "mootbell/mootbelllaw02.BitsCount", spec := "bitsCount", unfollowed := true, recurses := true, apart := false, narrowed := true }
def BitsCountUptoSaid : Prop := bitsCountUptoRow.holds Try.pinned (OpenSpec.upto bitsCountSpec)

/-- 'mootbelllaw07.OracleTells', WHERE WHAT IT READS IS OF BULK AT MOST 1048576: true; the input reads as it did. -/
def oracleTellsUptoRow : OpenClaim := { program := "ytoepfmodbhfckaa", sum := "37801d4a01501269212d3b70f936c25c2098f52fde6d6b06d6f02650763f3e5c", func := "mootbell/mootbelllaw07.OracleTells", spec := "oracleTells", unfollowed := true, recurses := true, apart := false, narrowed := true }
def OracleTellsUptoSaid : Prop := oracleTellsUptoRow.holds Try.pinned (OpenSpec.upto oracleTellsSpec)

/-- 'mootbelllaw07.OracleOne', WHERE WHAT IT READS IS OF BULK AT MOST 1048576: true; the input reads as it did. -/
def oracleOneUptoRow : OpenClaim := { program := "ytoepfmodbhfckaa", sum := "37801d4a01501269212d3b70f936c25c2098f52fde6d6b06d6f02650763f3e5c", func := "mootbell/mootbelllaw07.OracleOne", spec := "oracleOne", unfollowed := true, recurses := true, apart := false, narrowed := true }
def OracleOneUptoSaid : Prop := oracleOneUptoRow.holds Try.pinned (OpenSpec.upto oracleOneSpec)

/-- 'mootbelllaw07.OracleMore', WHERE WHAT IT READS IS OF BULK AT MOST 1048576: true; the input reads as it did. -/
def oracleMoreUptoRow : OpenClaim := { program := "ytoepfmodbhfckaa", sum := "37801d4a01501269212d3b70f936c25c2098f52fde6d6b06d6f02650763f3e5c", func := "mootbell/mootbelllaw07.OracleMore", spec := "oracleMore", unfollowed := true, recurses := true, apart := false, narrowed := true }
def OracleMoreUptoSaid : Prop := oracleMoreUptoRow.holds Try.pinned (OpenSpec.upto oracleMoreSpec)

/-- 'mootbelllaw07.OracleSign', WHERE WHAT IT READS IS OF BULK AT MOST 1048576: true; the input reads as it did. -/
def oracleSignUptoRow : OpenClaim := { program := "ytoepfmodbhfckaa", sum := "37801d4a01501269212d3b70f936c25c2098f52fde6d6b06d6f02650763f3e5c", func := "mootbell/mootbelllaw07.OracleSign", spec := "oracleSign", unfollowed := true, recurses := true, apart := false, narrowed := true }
def OracleSignUptoSaid : Prop := oracleSignUptoRow.holds Try.pinned (OpenSpec.upto oracleSignSpec)

/-- 'mootbelllaw07.OracleForged', WHERE WHAT IT READS IS OF BULK AT MOST 1048576: true; the input reads as it did. -/
def oracleForgedUptoRow : OpenClaim := { program := "ytoepfmodbhfckaa", sum := "37801d4a01501269212d3b70f936c25c2098f52fde6d6b06d6f02650763f3e5c", func := "mootbell/mootbelllaw07.OracleForged", spec := "oracleForged", unfollowed := true, recurses := true, apart := false, narrowed := true }
def OracleForgedUptoSaid : Prop := oracleForgedUptoRow.holds Try.pinned (OpenSpec.upto oracleForgedSpec)

/-- 'mootbelllaw07.OracleMerge', WHERE WHAT IT READS IS OF BULK AT MOST 1048576: true; the input reads as it did. -/
def oracleMergeUptoRow : OpenClaim := { program := "ytoepfmodbhfckaa", sum := "37801d4a01501269212d3b70f936c25c2098f52fde6d6b06d6f02650763f3e5c", func := "mootbell/mootbelllaw07.OracleMerge", spec := "oracleMerge", unfollowed := true, recurses := true, apart := false, narrowed := true }
def OracleMergeUptoSaid : Prop := oracleMergeUptoRow.holds Try.pinned (OpenSpec.upto oracleMergeSpec)

end Rows
end Go.Proofs.Ytoepfmodbhfckaa
