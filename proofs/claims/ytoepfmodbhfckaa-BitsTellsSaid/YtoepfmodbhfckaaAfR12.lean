/- The law BitsTells: it returns true at every input and leaves each argument as it was. -/
import Derived.Test.YtoepfmodbhfckaaAfC0
import Derived.Test.YtoepfmodbhfckaaAfQ12
import Derived.Test.YtoepfmodbhfckaaAfHa
import Derived.Stop.Joined
namespace Go.Proofs.Ytoepfmodbhfckaa
open Go Go.ChangeShapes Go.WideShapes Go.ChangeAt Go.RowKit Go.Proofs.Av
theorem bitsTells_runs (avs : List AV) (hf : ArgsFit cx.P Try.f12.params.toList avs) : E cx (.fn 12) avs [] = some (.ret (.val (.bool true)), []) := by
  obtain ⟨a1, as1, rfl, h1, hf⟩ := args_cons hf
  obtain ⟨a2, as2, rfl, h2, hf⟩ := args_cons hf
  obtain ⟨a3, as3, rfl, h3, hf⟩ := args_cons hf
  obtain ⟨a4, as4, rfl, h4, hf⟩ := args_cons hf
  obtain ⟨a5, as5, rfl, h5, hf⟩ := args_cons hf
  obtain ⟨a6, as6, rfl, h6, hf⟩ := args_cons hf
  obtain ⟨a7, as7, rfl, h7, hf⟩ := args_cons hf
  obtain ⟨a8, as8, rfl, h8, hf⟩ := args_cons hf
  obtain ⟨a9, as9, rfl, h9, hf⟩ := args_cons hf
  obtain rfl := args_nil hf
  obtain ⟨bn, bl, rfl, b1, b2⟩ := arg_bits h1
  obtain ⟨n, rfl, g2⟩ := arg_int h2
  obtain ⟨raw, rfl, g3⟩ := arg_ints h3
  obtain ⟨other, rfl, g4⟩ := arg_ints h4
  obtain ⟨s, rfl⟩ := arg_str h5
  obtain ⟨at', rfl, g6⟩ := arg_int h6
  obtain ⟨c, rfl⟩ := arg_byte h7
  obtain ⟨most, rfl, g8⟩ := arg_int h8
  obtain ⟨i, rfl, g9⟩ := arg_int h9
  exact c12 bn bl b1 b2 n raw other g2 g3 g4 s at' g6 c most g8 i g9
set_option maxRecDepth 100000 in
theorem lifted12 (os : Os) (started : os.Started) (H : Type) (enc : TypeId × Value → H) :
    ReturnsInHanded {} Try.checked os 12 .any (Rows.bitsTellsSpec.pre6 enc Try.prog Try.f12 Rows.bitsTellsRow.domain false) (Rows.bitsTellsSpec.post enc Try.prog Try.f12 false true false false) := by
  refine returnsInHanded_of_change (C := Try.checked) own started (by kernel_rfl) Try.func12
    (ChangeSpec.witness6 (enc := enc) (C := Try.checked) false ⟨#[], #[.agg #[.int .i64 0, .slice none 0 0], .int .i64 0, .slice none 0 0, .slice none 0 0, .string ⟨#[]⟩, .int .i64 0, .int .u8 0, .int .i64 0, .int .i64 0], []⟩ 8 (by kernel_rfl) (by kernel_rfl) (by kernel_rfl) (by kernel_rfl)) ?_
  intro W base args ds gs before hval hW hcnd _
  exact law_calls (cx := cx) cx_names cx_ext lays (tb := 4) rfl u4 rfl (by kernel_rfl)
    (fun ds hl => by
      match ds, hl with
      | [d1, d2, d3, d4, d5, d6, d7, d8, d9], _ => rfl)
    (fun avs hf => bitsTells_runs avs hf) hval hW no_globals

theorem closed12 : joinedFacts Try.prog 12 Try.f12 Rows.bitsTellsSpec Rows.bitsTellsRow = true :=
  joined_of (P := Try.prog) (f := 12) (fn := Try.f12) (s := Rows.bitsTellsSpec) (c := Rows.bitsTellsRow) (by kernel_rfl) k_enter k_lifts rfl k_make rfl (by kernel_rfl) (by kernel_rfl) (by kernel_rfl) (by kernel_rfl)
theorem inst12 : Try.f12.isInstance Try.prog "" [] := instance_of (by kernel_rfl) (by kernel_rfl) (by kernel_rfl)
theorem wrap12 : Try.f12.isWrapper Try.prog false "" := wrapper_of (P := Try.prog) (fn := Try.f12) (by kernel_rfl)
theorem named12 : Try.prog.funcNamed Rows.bitsTellsRow.func = some 12 := by kernel_rfl
theorem bitsTells_said : Rows.BitsTellsSaid :=
  OpenClaim.holds_of_wide (p := Try.pinned) 12 Try.f12 rfl rfl rfl rfl rfl rfl rfl ⟨rfl, rfl, rfl, rfl, rfl⟩ rfl rfl rfl rfl rfl named12 Try.func12
    closed12 inst12 wrap12
    (fun os started H enc _ => lifted12 os started H enc)
end Go.Proofs.Ytoepfmodbhfckaa
