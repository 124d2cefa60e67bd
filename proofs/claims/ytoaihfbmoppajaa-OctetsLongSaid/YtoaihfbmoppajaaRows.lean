/-
  No cell of these rows narrows 'for every input' (looked for: loops, veiled, ifaces, maps, wideKeys, modest, calm, conditions, laid).
  DERIVED. THE GIVEN ROWS OF THIS SEAT. 10 by the template 'for every input the law returns true; each argument reads behind the call as it read before'; 0 by the template 'total and deterministic' (their statements: YtoaihfbmoppajaaTotals.lean).
  GIVEN WITH THE SEED: the statements are not yours to turn. If you find one false, say at which input.
  Laid BY PROGRAM, IN A SANDBOX (cutbox-rows.mjs): the forced cells as the released guide's own fill.sh prints them over the translation 3b6970de21d3ac97… (all of the seat's roots in one cut). By AI agents, Wed Nov 11 2026. No macro, syntax, notation, axiom, sorry.
-/
import Derived.Test.YtoaihfbmoppajaaChecked
import GoSem.Claim
import GoSem.ClaimJoined
import GoSem.ClaimMapViews
import Derived.JoinedTies
import Derived.KernelRfl
namespace Go.Proofs.Ytoaihfbmoppajaa
/- THE CELL 'sum', in the pinned program and in every row, IS THE sha256 OF THE DUMP (.gsa) THAT YtoaihfbmoppajaaProg.lean LOADS. Nothing in Lean hashes anything: it is a label: what it is worth is what the hold of that sum in a sandbox is worth. -/
noncomputable def Try.pinned : Pinned := { name := "ytoaihfbmoppajaa", sum := "3b6970de21d3ac97586a2980588206f6d9bfa92216bde796a0bab7805a7ae1fc", checked := Try.checked }
namespace Rows
def none {H : Type} : Left H := { results := [], args := [] }

/-- 'mootbelllaw01.OctetsTells': WHATEVER THE INPUT: true; the input reads as it did. -/
def octetsTellsSpec : ChangeSpec := { name := "octetsTells", fn := fun _ => fun
  | [d1, d2, d3, d4, d5, d6, d7, d8] => { results := [.lit (.bool true)], args := [d1, d2, d3, d4, d5, d6, d7, d8] }
  | _ => none }
def octetsTellsRow : OpenClaim := { program := "ytoaihfbmoppajaa", sum := "3b6970de21d3ac97586a2980588206f6d9bfa92216bde796a0bab7805a7ae1fc", func := "mootbell/mootbelllaw01.OctetsTells", spec := "octetsTells", unfollowed := true, recurses := true, apart := false }
def OctetsTellsSaid : Prop := octetsTellsRow.holds Try.pinned (OpenSpec.ofChange octetsTellsSpec)

/-- ITS FALSE NEIGHBOUR: 'it returns false'. Refute it at one input. -/
def octetsTellsWrong : ChangeSpec := { name := "octetsTells", fn := fun _ => fun
  | [d1, d2, d3, d4, d5, d6, d7, d8] => { results := [.lit (.bool false)], args := [d1, d2, d3, d4, d5, d6, d7, d8] }
  | _ => none }
def OctetsTellsWrongFalsely : Prop := octetsTellsRow.holds Try.pinned (OpenSpec.ofChange octetsTellsWrong)

/-- 'mootbelllaw01.OctetsLong': WHATEVER THE INPUT: true; the input reads as it did. -/
def octetsLongSpec : ChangeSpec := { name := "octetsLong", fn := fun _ => fun
  | [d1, d2] => { results := [.lit (.bool true)], args := [d1, d2] }
  | _ => none }
def octetsLongRow : OpenClaim := { program := "ytoaihfbmoppajaa", sum := "3b6970de21d3ac97586a2980588206f6d9bfa92216bde796a0bab7805a7ae1fc", func := "mootbell/mootbelllaw01.OctetsLong", spec := "octetsLong", unfollowed := true, recurses := true, apart := false }
def OctetsLongSaid : Prop := octetsLongRow.holds Try.pinned (OpenSpec.ofChange octetsLongSpec)

/-- ITS FALSE NEIGHBOUR: 'it returns false'. Refute it at one input. -/
def octetsLongWrong : ChangeSpec := { name := "octetsLong", fn := fun _ => fun
  | [d1, d2] => { results := [.lit (.bool false)], args := [d1, d2] }
  | _ => none }
def OctetsLongWrongFalsely : Prop := octetsLongRow.holds Try.pinned (OpenSpec.ofChange octetsLongWrong)

/-- 'mootbelllaw01.OctetsBack': WHATEVER THE INPUT: true; the input reads as it did. -/
def octetsBackSpec : ChangeSpec := { name := "octetsBack", fn := fun _ => fun
  | [d1, d2, d3] => { results := [.lit (.bool true)], args := [d1, d2, d3] }
  | _ => none }
def octetsBackRow : OpenClaim := { program := "ytoaihfbmoppajaa", sum := "3b6970de21d3ac97586a2980588206f6d9bfa92216bde796a0bab7805a7ae1fc", func := "mootbell/mootbelllaw01.OctetsBack", spec := "octetsBack", unfollowed := true, recurses := true, apart := false }
def OctetsBackSaid : Prop := octetsBackRow.holds Try.pinned (OpenSpec.ofChange octetsBackSpec)

/-- ITS FALSE NEIGHBOUR: 'it returns false'. Refute it at one input. -/
def octetsBackWrong : ChangeSpec := { name := "octetsBack", fn := fun _ => fun
  | [d1, d2, d3] => { results := [.lit (.bool false)], args := [d1, d2, d3] }
  | _ => none }
def OctetsBackWrongFalsely : Prop := octetsBackRow.holds Try.pinned (OpenSpec.ofChange octetsBackWrong)

/-- 'mootbelllaw01.OctetsSplit': WHATEVER THE INPUT: true; the input reads as it did. -/
def octetsSplitSpec : ChangeSpec := { name := "octetsSplit", fn := fun _ => fun
  | [d1, d2] => { results := [.lit (.bool true)], args := [d1, d2] }
  | _ => none }
def octetsSplitRow : OpenClaim := { program := "ytoaihfbmoppajaa", sum := "3b6970de21d3ac97586a2980588206f6d9bfa92216bde796a0bab7805a7ae1fc", func := "mootbell/mootbelllaw01.OctetsSplit", spec := "octetsSplit", unfollowed := true, recurses := true, apart := false }
def OctetsSplitSaid : Prop := octetsSplitRow.holds Try.pinned (OpenSpec.ofChange octetsSplitSpec)

/-- ITS FALSE NEIGHBOUR: 'it returns false'. Refute it at one input. -/
def octetsSplitWrong : ChangeSpec := { name := "octetsSplit", fn := fun _ => fun
  | [d1, d2] => { results := [.lit (.bool false)], args := [d1, d2] }
  | _ => none }
def OctetsSplitWrongFalsely : Prop := octetsSplitRow.holds Try.pinned (OpenSpec.ofChange octetsSplitWrong)

/-- 'mootbelllaw01.OctetsJoin': WHATEVER THE INPUT: true; the input reads as it did. -/
def octetsJoinSpec : ChangeSpec := { name := "octetsJoin", fn := fun _ => fun
  | [d1, d2, d3, d4, d5, d6] => { results := [.lit (.bool true)], args := [d1, d2, d3, d4, d5, d6] }
  | _ => none }
def octetsJoinRow : OpenClaim := { program := "ytoaihfbmoppajaa", sum := "3b6970de21d3ac97586a2980588206f6d9bfa92216bde796a0bab7805a7ae1fc", func := "mootbell/mootbelllaw01.OctetsJoin", spec := "octetsJoin", unfollowed := true, recurses := true, apart := false }
def OctetsJoinSaid : Prop := octetsJoinRow.holds Try.pinned (OpenSpec.ofChange octetsJoinSpec)

/-- ITS FALSE NEIGHBOUR: 'it returns false'. Refute it at one input. -/
def octetsJoinWrong : ChangeSpec := { name := "octetsJoin", fn := fun _ => fun
  | [d1, d2, d3, d4, d5, d6] => { results := [.lit (.bool false)], args := [d1, d2, d3, d4, d5, d6] }
  | _ => none }
def OctetsJoinWrongFalsely : Prop := octetsJoinRow.holds Try.pinned (OpenSpec.ofChange octetsJoinWrong)

/-- 'mootbelllaw14.EarlyTells': WHATEVER THE INPUT: true; the input reads as it did. -/
def earlyTellsSpec : ChangeSpec := { name := "earlyTells", fn := fun _ => fun
  | [d1, d2, d3, d4, d5, d6, d7] => { results := [.lit (.bool true)], args := [d1, d2, d3, d4, d5, d6, d7] }
  | _ => none }
def earlyTellsRow : OpenClaim := { program := "ytoaihfbmoppajaa", sum := "3b6970de21d3ac97586a2980588206f6d9bfa92216bde796a0bab7805a7ae1fc", func := "mootbell/mootbelllaw14.EarlyTells", spec := "earlyTells", unfollowed := true, recurses := true, apart := false }
def EarlyTellsSaid : Prop := earlyTellsRow.holds Try.pinned (OpenSpec.ofChange earlyTellsSpec)

/-- ITS FALSE NEIGHBOUR: 'it returns false'. Refute it at one input. -/
def earlyTellsWrong : ChangeSpec := { name := "earlyTells", fn := fun _ => fun
  | [d1, d2, d3, d4, d5, d6, d7] => { results := [.lit (.bool false)], args := [d1, d2, d3, d4, d5, d6, d7] }
  | _ => none }
def EarlyTellsWrongFalsely : Prop := earlyTellsRow.holds Try.pinned (OpenSpec.ofChange earlyTellsWrong)

/-- 'mootbelllaw14.EarlyOrder': WHATEVER THE INPUT: true; the input reads as it did. -/
def earlyOrderSpec : ChangeSpec := { name := "earlyOrder", fn := fun _ => fun
  | [d1, d2] => { results := [.lit (.bool true)], args := [d1, d2] }
  | _ => none }
def earlyOrderRow : OpenClaim := { program := "ytoaihfbmoppajaa", sum := "3b6970de21d3ac97586a2980588206f6d9bfa92216bde796a0bab7805a7ae1fc", func := "mootbell/mootbelllaw14.EarlyOrder", spec := "earlyOrder", unfollowed := true, recurses := true, apart := false }
def EarlyOrderSaid : Prop := earlyOrderRow.holds Try.pinned (OpenSpec.ofChange earlyOrderSpec)

/-- ITS FALSE NEIGHBOUR: 'it returns false'. Refute it at one input. -/
def earlyOrderWrong : ChangeSpec := { name := "earlyOrder", fn := fun _ => fun
  | [d1, d2] => { results := [.lit (.bool false)], args := [d1, d2] }
  | _ => none }
def EarlyOrderWrongFalsely : Prop := earlyOrderRow.holds Try.pinned (OpenSpec.ofChange earlyOrderWrong)

/-- 'mootbelllaw14.EarlyOut': WHATEVER THE INPUT: true; the input reads as it did. -/
def earlyOutSpec : ChangeSpec := { name := "earlyOut", fn := fun _ => fun
  | [d1, d2] => { results := [.lit (.bool true)], args := [d1, d2] }
  | _ => none }
def earlyOutRow : OpenClaim := { program := "ytoaihfbmoppajaa", sum := "3b6970de21d3ac97586a2980588206f6d9bfa92216bde796a0bab7805a7ae1fc", func := "mootbell/mootbelllaw14.EarlyOut", spec := "earlyOut", unfollowed := true, recurses := true, apart := false }
def EarlyOutSaid : Prop := earlyOutRow.holds Try.pinned (OpenSpec.ofChange earlyOutSpec)

/-- ITS FALSE NEIGHBOUR: 'it returns false'. Refute it at one input. -/
def earlyOutWrong : ChangeSpec := { name := "earlyOut", fn := fun _ => fun
  | [d1, d2] => { results := [.lit (.bool false)], args := [d1, d2] }
  | _ => none }
def EarlyOutWrongFalsely : Prop := earlyOutRow.holds Try.pinned (OpenSpec.ofChange earlyOutWrong)

/-- 'mootbelllaw14.EarlyLeave': WHATEVER THE INPUT: true; the input reads as it did. -/
def earlyLeaveSpec : ChangeSpec := { name := "earlyLeave", fn := fun _ => fun
  | [d1, d2, d3, d4] => { results := [.lit (.bool true)], args := [d1, d2, d3, d4] }
  | _ => none }
def earlyLeaveRow : OpenClaim := { program := "ytoaihfbmoppajaa", sum := "3b6970de21d3ac97586a2980588206f6d9bfa92216bde796a0bab7805a7ae1fc", func := "mootbell/mootbelllaw14.EarlyLeave", spec := "earlyLeave", unfollowed := true, recurses := true, apart := false }
def EarlyLeaveSaid : Prop := earlyLeaveRow.holds Try.pinned (OpenSpec.ofChange earlyLeaveSpec)

/-- ITS FALSE NEIGHBOUR: 'it returns false'. Refute it at one input. -/
def earlyLeaveWrong : ChangeSpec := { name := "earlyLeave", fn := fun _ => fun
  | [d1, d2, d3, d4] => { results := [.lit (.bool false)], args := [d1, d2, d3, d4] }
  | _ => none }
def EarlyLeaveWrongFalsely : Prop := earlyLeaveRow.holds Try.pinned (OpenSpec.ofChange earlyLeaveWrong)

/-- 'mootbelllaw14.EarlyFull': WHATEVER THE INPUT: true; the input reads as it did. -/
def earlyFullSpec : ChangeSpec := { name := "earlyFull", fn := fun _ => fun
  | [d1, d2, d3] => { results := [.lit (.bool true)], args := [d1, d2, d3] }
  | _ => none }
def earlyFullRow : OpenClaim := { program := "ytoaihfbmoppajaa", sum := "3b6970de21d3ac97586a2980588206f6d9bfa92216bde796a0bab7805a7ae1fc", func := "mootbell/mootbelllaw14.EarlyFull", spec := "earlyFull", unfollowed := true, recurses := true, apart := false }
def EarlyFullSaid : Prop := earlyFullRow.holds Try.pinned (OpenSpec.ofChange earlyFullSpec)

/-- ITS FALSE NEIGHBOUR: 'it returns false'. Refute it at one input. -/
def earlyFullWrong : ChangeSpec := { name := "earlyFull", fn := fun _ => fun
  | [d1, d2, d3] => { results := [.lit (.bool false)], args := [d1, d2, d3] }
  | _ => none }
def EarlyFullWrongFalsely : Prop := earlyFullRow.holds Try.pinned (OpenSpec.ofChange earlyFullWrong)

/- THE SECOND FORM. 'bulk': how many values and letters a reading holds, each counted each time it is reached (what is shared counts as often as it is met; a slice's spare places count too). A statement '..UptoSaid' is the law's where the arguments, and the package variables that the reading takes, are together of bulk at most 1048576: NARROWER than '..Said'. Prove '..Said' where nothing that the law and all that it calls make is longer than what came in: it says more and counts as full. Else prove '..UptoSaid'. A law counts once. -/
mutual
def uptoBulk {H : Type} : DataW H → Nat
  | .lit (.string bytes) => bytes.length + 1
  | .lit _ => 1
  | .nil => 1
  | .ptr d => uptoBulk d + 1
  | .slice elems spare => uptoBulkAll elems + uptoBulkAll spare + 1
  | .agg parts => uptoBulkAll parts + 1
  | .iface _ d => uptoBulk d + 1
  | .map entries => uptoBulkEntries entries + 1
  | .held _ => 1
def uptoBulkAll {H : Type} : List (DataW H) → Nat
  | [] => 0
  | d :: r => uptoBulk d + uptoBulkAll r
def uptoBulkEntries {H : Type} : List (Lit × DataW H) → Nat
  | [] => 0
  | x :: r => uptoBulkEntry x + uptoBulkEntries r
def uptoBulkEntry {H : Type} : Lit × DataW H → Nat
  | (.string bytes, d) => bytes.length + uptoBulk d + 1
  | (_, d) => uptoBulk d + 1
 end
def uptoSmall : (H : Type) → List (DataW H) → Bool := fun _ ds => decide (uptoBulkAll ds ≤ 1048576)
def OpenSpec.upto (s : _root_.Go.ChangeSpec) : _root_.Go.OpenSpec := { _root_.Go.OpenSpec.ofChange s with cond := some uptoSmall }

/-- 'mootbelllaw01.OctetsTells', WHERE WHAT IT READS IS OF BULK AT MOST 1048576: true; the input reads as it did. -/
def octetsTellsUptoRow : OpenClaim := { program := "ytoaihfbmoppajaa", sum := "3b6970de21d3ac97586a2980588206f6d9bfa92216bde796a0bab7805a7ae1fc", func := "mootbell/mootbelllaw01.OctetsTells", spec := "octetsTells", unfollowed := true, recurses := true, apart := false, narrowed := true }
def OctetsTellsUptoSaid : Prop := octetsTellsUptoRow.holds Try.pinned (OpenSpec.upto octetsTellsSpec)

/-- 'mootbelllaw01.OctetsLong', WHERE WHAT IT READS IS OF BULK AT MOST 1048576: true; the input reads as it did. -/
def octetsLongUptoRow : OpenClaim := { program := "ytoaihfbmoppajaa", sum := "3b6970de21d3ac97586a2980588206f6d9bfa92216bde796a0bab7805a7ae1fc", func := "mootbell/mootbelllaw01.OctetsLong", spec := "octetsLong", unfollowed := true, recurses := true, apart := false, narrowed := true }
def OctetsLongUptoSaid : Prop := octetsLongUptoRow.holds Try.pinned (OpenSpec.upto octetsLongSpec)

/-- 'mootbelllaw01.OctetsBack', WHERE WHAT IT READS IS OF BULK AT MOST 1048576: true; the input reads as it did. -/
def octetsBackUptoRow : OpenClaim := { program := "ytoaihfbmoppajaa", sum := "3b6970de21d3ac97586a2980588206f6d9bfa92216bde796a0bab7805a7ae1fc", func := "mootbell/mootbelllaw01.OctetsBack", spec := "octetsBack", unfollowed := true, recurses := true, apart := false, narrowed := true }
def OctetsBackUptoSaid : Prop := octetsBackUptoRow.holds Try.pinned (OpenSpec.upto octetsBackSpec)

/-- 'mootbelllaw01.OctetsSplit', WHERE WHAT IT READS IS OF BULK AT MOST 1048576: true; the input reads as it did. -/
def octetsSplitUptoRow : OpenClaim := { program := "ytoaihfbmoppajaa", sum := "3b6970de21d3ac97586a2980588206f6d9bfa92216bde796a0bab7805a7ae1fc", func := "mootbell/mootbelllaw01.OctetsSplit", spec := "octetsSplit", unfollowed := true, recurses := true, apart := false, narrowed := true }
def OctetsSplitUptoSaid : Prop := octetsSplitUptoRow.holds Try.pinned (OpenSpec.upto octetsSplitSpec)

/-- 'mootbelllaw01.OctetsJoin', WHERE WHAT IT READS IS OF BULK AT MOST 1048576: true; the input reads as it did. -/
def octetsJoinUptoRow : OpenClaim := { program := "ytoaihfbmoppajaa", sum := "3b6970de21d3ac97586a2980588206f6d9bfa92216bde796a0bab7805a7ae1fc", func := "mootbell/mootbelllaw01.OctetsJoin", spec := "octetsJoin", unfollowed := true, recurses := true, apart := false, narrowed := true }
def OctetsJoinUptoSaid : Prop := octetsJoinUptoRow.holds Try.pinned (OpenSpec.upto octetsJoinSpec)

/-- 'mootbelllaw14.EarlyTells', WHERE WHAT IT READS IS OF BULK AT MOST 1048576: true; the input reads as it did. -/
def earlyTellsUptoRow : OpenClaim := { program := "ytoaihfbmoppajaa", sum := "3b6970de21d3ac97586a2980588206f6d9bfa92216bde796a0bab7805a7ae1fc", func := "mootbell/mootbelllaw14.EarlyTells", spec := "earlyTells", unfollowed := true, recurses := true, apart := false, narrowed := true }
def EarlyTellsUptoSaid : Prop := earlyTellsUptoRow.holds Try.pinned (OpenSpec.upto earlyTellsSpec)

/-- 'mootbelllaw14.EarlyOrder', WHERE WHAT IT READS IS OF BULK AT MOST 1048576: true; the input reads as it did. -/
def earlyOrderUptoRow : OpenClaim := { program := "ytoaihfbmoppajaa", sum := "3b6970de21d3ac97586a2980588206f6d9bfa92216bde796a0bab7805a7ae1fc", func := "mootbell/mootbelllaw14.EarlyOrder", spec := "earlyOrder", unfollowed := true, recurses := true, apart := false, narrowed := true }
def EarlyOrderUptoSaid : Prop := earlyOrderUptoRow.holds Try.pinned (OpenSpec.upto earlyOrderSpec)

/-- 'mootbelllaw14.EarlyOut', WHERE WHAT IT READS IS OF BULK AT MOST 1048576: true; the input reads as it did. -/
def earlyOutUptoRow : OpenClaim := { program := "ytoaihfbmoppajaa", sum := "3b6970de21d3ac97586a2980588206f6d9bfa92216bde796a0bab7805a7ae1fc", func := "mootbell/mootbelllaw14.EarlyOut", spec := "earlyOut", unfollowed := true, recurses := true, apart := false, narrowed := true }
def EarlyOutUptoSaid : Prop := earlyOutUptoRow.holds Try.pinned (OpenSpec.upto earlyOutSpec)

/-- 'mootbelllaw14.EarlyLeave', WHERE WHAT IT READS IS OF BULK AT MOST 1048576: true; the input reads as it did. -/
def earlyLeaveUptoRow : OpenClaim := { program := "ytoaihfbmoppajaa", sum := "3b6970de21d3ac97586a2980588206f6d9bfa92216bde796a0bab7805a7ae1fc", func := "mootbell/mootbelllaw14.EarlyLeave", spec := "earlyLeave", unfollowed := true, recurses := true, apart := false, narrowed := true }
def EarlyLeaveUptoSaid : Prop := earlyLeaveUptoRow.holds Try.pinned (OpenSpec.upto earlyLeaveSpec)

/-- 'mootbelllaw14.EarlyFull', WHERE WHAT IT READS IS OF BULK AT MOST 1048576: true; the input reads as it did. -/
def earlyFullUptoRow : OpenClaim := { program := "ytoaihfbmoppajaa", sum := "3b6970de21d3ac97586a2980588206f6d9bfa92216bde796a0bab7805a7ae1fc", func := "mootbell/mootbelllaw14.EarlyFull", spec := "earlyFull", unfollowed := true, recurses := true, apart := false, narrowed := true }
def EarlyFullUptoSaid : Prop := earlyFullUptoRow.holds Try.pinned (OpenSpec.upto earlyFullSpec)

end Rows
end Go.Proofs.Ytoaihfbmoppajaa
