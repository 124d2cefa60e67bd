/- The law TokenTells: it returns true at every input and leaves each argument as it was. -/
import Derived.Test.YtoepfmodbhfckaaAeC1
import Derived.Test.YtoepfmodbhfckaaAeQ6
import Derived.Test.YtoepfmodbhfckaaAeHa
import Derived.Stop.Joined
namespace Go.Proofs.Ytoepfmodbhfckaa
open Go Go.ChangeShapes Go.WideShapes Go.ChangeAt Go.RowKit Go.Proofs.Av
theorem tokenTells_runs (avs : List AV) (hf : ArgsFit cx.P Try.f6.params.toList avs) : E cx (.fn 6) avs [] = some (.ret (.val (.bool true)), []) := by
  obtain ⟨a1, as1, rfl, h1, hf⟩ := args_cons hf
  obtain ⟨a2, as2, rfl, h2, hf⟩ := args_cons hf
  obtain ⟨a3, as3, rfl, h3, hf⟩ := args_cons hf
  obtain ⟨a4, as4, rfl, h4, hf⟩ := args_cons hf
  obtain ⟨a5, as5, rfl, h5, hf⟩ := args_cons hf
  obtain ⟨a6, as6, rfl, h6, hf⟩ := args_cons hf
  obtain ⟨a7, as7, rfl, h7, hf⟩ := args_cons hf
  obtain ⟨a8, as8, rfl, h8, hf⟩ := args_cons hf
  obtain ⟨a9, as9, rfl, h9, hf⟩ := args_cons hf
  obtain rfl := args_nil hf
  obtain ⟨ft, l, rfl⟩ := arg_tok h1
  obtain ⟨one, rfl, g2⟩ := arg_ints h2
  obtain ⟨two, rfl, g3⟩ := arg_ints h3
  obtain ⟨f, rfl⟩ := arg_bool h4
  obtain ⟨s, rfl⟩ := arg_str h5
  obtain ⟨at', rfl, g6⟩ := arg_int h6
  obtain ⟨c, rfl⟩ := arg_byte h7
  obtain ⟨key, rfl, g8⟩ := arg_u64 h8
  obtain ⟨root, rfl, g9⟩ := arg_u64 h9
  exact c6 ft l one two g2 g3 f s at' g6 c key root
set_option maxRecDepth 100000 in
theorem lifted6 (os : Os) (started : os.Started) (H : Type) (enc : TypeId × Value → H) :
    ReturnsInHanded {} Try.checked os 6 .any (Rows.tokenTellsSpec.pre6 enc Try.prog Try.f6 Rows.tokenTellsRow.domain false) (Rows.tokenTellsSpec.post enc Try.prog Try.f6 false true false false) := by
  refine returnsInHanded_of_change (C := Try.checked) own started (by kernel_rfl) Try.func6
    (ChangeSpec.witness6 (enc := enc) (C := Try.checked) false ⟨#[], #[.agg #[.bool false, .slice none 0 0], .slice none 0 0, .slice none 0 0, .bool false, .string ⟨#[]⟩, .int .i64 0, .int .u8 0, .int .u64 0, .int .u64 0], []⟩ 8 (by kernel_rfl) (by kernel_rfl) (by kernel_rfl) (by kernel_rfl)) ?_
  intro W base args ds gs before hval hW hcnd _
  exact law_calls (cx := cx) cx_names cx_ext lays (tb := 4) rfl u4 rfl (by kernel_rfl)
    (fun ds hl => by
      match ds, hl with
      | [d1, d2, d3, d4, d5, d6, d7, d8, d9], _ => rfl)
    (fun avs hf => tokenTells_runs avs hf) hval hW no_globals

theorem closed6 : joinedFacts Try.prog 6 Try.f6 Rows.tokenTellsSpec Rows.tokenTellsRow = true :=
  joined_of (P := Try.prog) (f := 6) (fn := Try.f6) (s := Rows.tokenTellsSpec) (c := Rows.tokenTellsRow) (by kernel_rfl) k_enter k_lifts rfl k_make rfl (by kernel_rfl) (by kernel_rfl) (by kernel_rfl) (by kernel_rfl)
theorem inst6 : Try.f6.isInstance Try.prog "" [] := instance_of (by kernel_rfl) (by kernel_rfl) (by kernel_rfl)
theorem wrap6 : Try.f6.isWrapper Try.prog false "" := wrapper_of (P := Try.prog) (fn := Try.f6) (by kernel_rfl)
theorem named6 : Try.prog.funcNamed Rows.tokenTellsRow.func = some 6 := by kernel_rfl
theorem tokenTells_said : Rows.TokenTellsSaid :=
  OpenClaim.holds_of_wide (p := Try.pinned) 6 Try.f6 rfl rfl rfl rfl rfl rfl rfl ⟨rfl, rfl, rfl, rfl, rfl⟩ rfl rfl rfl rfl rfl named6 Try.func6
    closed6 inst6 wrap6
    (fun os started H enc _ => lifted6 os started H enc)
end Go.Proofs.Ytoepfmodbhfckaa
