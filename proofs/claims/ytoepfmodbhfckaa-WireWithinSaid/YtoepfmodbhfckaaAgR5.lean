/- The law WireWithin: it returns true at every input and leaves each argument as it was. -/
import Derived.Test.YtoepfmodbhfckaaAgC1
import Derived.Test.YtoepfmodbhfckaaAgQ5
import Derived.Test.YtoepfmodbhfckaaAgHa
import Derived.Stop.Joined
namespace Go.Proofs.Ytoepfmodbhfckaa
open Go Go.ChangeShapes Go.WideShapes Go.ChangeAt Go.RowKit Go.Proofs.Av
theorem wireWithin_runs (avs : List AV) (hf : ArgsFit cx.P Try.f5.params.toList avs) : E cx (.fn 5) avs [] = some (.ret (.val (.bool true)), []) := by
 obtain ⟨a1, as1, rfl, h1, hf⟩ := args_cons hf
 obtain ⟨a2, as2, rfl, h2, hf⟩ := args_cons hf
 obtain ⟨a3, as3, rfl, h3, hf⟩ := args_cons hf
 obtain rfl := args_nil hf
 obtain ⟨x, rfl, g1⟩ := arg_raw h1
 obtain ⟨b, rfl, g2⟩ := arg_int h2
 obtain ⟨q, rfl, g3⟩ := arg_ints h3
 exact c5 x g1 g2 q g3
set_option maxRecDepth 100000 in
theorem lifted5 (os : Os) (started : os.Started) (H : Type) (enc : TypeId × Value → H) :
  ReturnsInHanded {} Try.checked os 5 .any (Rows.wireWithinSpec.pre6 enc Try.prog Try.f5 Rows.wireWithinRow.domain false) (Rows.wireWithinSpec.post enc Try.prog Try.f5 false true false false) := by
 refine returnsInHanded_of_change (C := Try.checked) own started (by kernel_rfl) Try.func5
  (ChangeSpec.witness6 (enc := enc) (C := Try.checked) false ⟨#[], #[.agg #[.int .i64 0, .int .i64 0, .int .i64 0, .int .i64 0, .int .i64 0, .int .i64 0, .slice none 0 0, .slice none 0 0, .bool false], .int .i64 0, .slice none 0 0], []⟩ 8 (by kernel_rfl) (by kernel_rfl) (by kernel_rfl) (by kernel_rfl)) ?_
 intro W base args ds gs before hval hW hcnd _
 exact law_calls (cx := cx) cx_names cx_ext lays (tb := 4) rfl u4 rfl (by kernel_rfl)
  (fun ds hl => by
   match ds, hl with
   | [d1, d2, d3], _ => rfl)
  (fun avs hf => wireWithin_runs avs hf) hval hW no_globals
theorem closed5 : joinedFacts Try.prog 5 Try.f5 Rows.wireWithinSpec Rows.wireWithinRow = true :=
 joined_of (P := Try.prog) (f := 5) (fn := Try.f5) (s := Rows.wireWithinSpec) (c := Rows.wireWithinRow) (by kernel_rfl) k_enter k_lifts rfl k_make rfl (by kernel_rfl) (by kernel_rfl) (by kernel_rfl) (by kernel_rfl)
theorem inst5 : Try.f5.isInstance Try.prog "" [] := instance_of (by kernel_rfl) (by kernel_rfl) (by kernel_rfl)
theorem wrap5 : Try.f5.isWrapper Try.prog false "" := wrapper_of (P := Try.prog) (fn := Try.f5) (by kernel_rfl)
theorem named5 : Try.prog.funcNamed Rows.wireWithinRow.func = some 5 := by kernel_rfl
theorem wireWithin_said : Rows.WireWithinSaid :=
 OpenClaim.holds_of_wide (p := Try.pinned) 5 Try.f5 rfl rfl rfl rfl rfl rfl rfl ⟨rfl, rfl, rfl, rfl, rfl⟩ rfl rfl rfl rfl rfl named5 Try.func5
  closed5 inst5 wrap5
  (fun os started H enc _ => lifted5 os started H enc)
end Go.Proofs.Ytoepfmodbhfckaa
