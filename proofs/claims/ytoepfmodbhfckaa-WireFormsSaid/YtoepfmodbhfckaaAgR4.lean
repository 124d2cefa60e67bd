/- The law WireForms: it returns true at every input and leaves each argument as it was. -/
import Derived.Test.YtoepfmodbhfckaaAgC1
import Derived.Test.YtoepfmodbhfckaaAgQ4
import Derived.Test.YtoepfmodbhfckaaAgHa
import Derived.Stop.Joined
namespace Go.Proofs.Ytoepfmodbhfckaa
open Go Go.ChangeShapes Go.WideShapes Go.ChangeAt Go.RowKit Go.Proofs.Av
theorem wireForms_runs (avs : List AV) (hf : ArgsFit cx.P Try.f4.params.toList avs) : E cx (.fn 4) avs [] = some (.ret (.val (.bool true)), []) := by
 obtain ⟨a1, as1, rfl, h1, hf⟩ := args_cons hf
 obtain ⟨a2, as2, rfl, h2, hf⟩ := args_cons hf
 obtain ⟨a3, as3, rfl, h3, hf⟩ := args_cons hf
 obtain ⟨a4, as4, rfl, h4, hf⟩ := args_cons hf
 obtain ⟨a5, as5, rfl, h5, hf⟩ := args_cons hf
 obtain ⟨a6, as6, rfl, h6, hf⟩ := args_cons hf
 obtain rfl := args_nil hf
 obtain ⟨s, rfl⟩ := arg_str h1
 obtain ⟨x, rfl, g2⟩ := arg_raw h2
 obtain ⟨b, rfl, g3⟩ := arg_int h3
 obtain ⟨q, rfl, g4⟩ := arg_ints h4
 obtain ⟨a, rfl, g5⟩ := arg_int h5
 obtain ⟨c, rfl⟩ := arg_byte h6
 exact c4 s x g2 g3 q g4 g5 c
set_option maxRecDepth 100000 in
theorem lifted4 (os : Os) (started : os.Started) (H : Type) (enc : TypeId × Value → H) :
  ReturnsInHanded {} Try.checked os 4 .any (Rows.wireFormsSpec.pre6 enc Try.prog Try.f4 Rows.wireFormsRow.domain false) (Rows.wireFormsSpec.post enc Try.prog Try.f4 false true false false) := by
 refine returnsInHanded_of_change (C := Try.checked) own started (by kernel_rfl) Try.func4
  (ChangeSpec.witness6 (enc := enc) (C := Try.checked) false ⟨#[], #[.string ⟨#[]⟩, .agg #[.int .i64 0, .int .i64 0, .int .i64 0, .int .i64 0, .int .i64 0, .int .i64 0, .slice none 0 0, .slice none 0 0, .bool false], .int .i64 0, .slice none 0 0, .int .i64 0, .int .u8 0], []⟩ 8 (by kernel_rfl) (by kernel_rfl) (by kernel_rfl) (by kernel_rfl)) ?_
 intro W base args ds gs before hval hW hcnd _
 exact law_calls (cx := cx) cx_names cx_ext lays (tb := 4) rfl u4 rfl (by kernel_rfl)
  (fun ds hl => by
   match ds, hl with
   | [d1, d2, d3, d4, d5, d6], _ => rfl)
  (fun avs hf => wireForms_runs avs hf) hval hW no_globals
theorem closed4 : joinedFacts Try.prog 4 Try.f4 Rows.wireFormsSpec Rows.wireFormsRow = true :=
 joined_of (P := Try.prog) (f := 4) (fn := Try.f4) (s := Rows.wireFormsSpec) (c := Rows.wireFormsRow) (by kernel_rfl) k_enter k_lifts rfl k_make rfl (by kernel_rfl) (by kernel_rfl) (by kernel_rfl) (by kernel_rfl)
theorem inst4 : Try.f4.isInstance Try.prog "" [] := instance_of (by kernel_rfl) (by kernel_rfl) (by kernel_rfl)
theorem wrap4 : Try.f4.isWrapper Try.prog false "" := wrapper_of (P := Try.prog) (fn := Try.f4) (by kernel_rfl)
theorem named4 : Try.prog.funcNamed Rows.wireFormsRow.func = some 4 := by kernel_rfl
theorem wireForms_said : Rows.WireFormsSaid :=
 OpenClaim.holds_of_wide (p := Try.pinned) 4 Try.f4 rfl rfl rfl rfl rfl rfl rfl ⟨rfl, rfl, rfl, rfl, rfl⟩ rfl rfl rfl rfl rfl named4 Try.func4
  closed4 inst4 wrap4
  (fun os started H enc _ => lifted4 os started H enc)
end Go.Proofs.Ytoepfmodbhfckaa
