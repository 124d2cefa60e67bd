/- The law OctetsTells: it returns true at every input and leaves each argument as it was. -/
import Derived.Test.YtoaihfbmoppajaaAdC0
import Derived.Test.YtoaihfbmoppajaaAdW3
import Derived.Stop.Joined
namespace Go.Proofs.Ytoaihfbmoppajaa
open Go Go.ChangeShapes Go.WideShapes Go.ChangeAt Go.RowKit Go.Proofs.Av
theorem octetsTells_runs (avs : List AV) (hf : ArgsFit cx.P Try.f3.params.toList avs) : E cx (.fn 3) avs [] = some (.ret (.val (.bool true)), []) := by
  obtain ⟨a1, as1, rfl, h1, hf⟩ := args_cons hf
  obtain ⟨a2, as2, rfl, h2, hf⟩ := args_cons hf
  obtain ⟨a3, as3, rfl, h3, hf⟩ := args_cons hf
  obtain ⟨a4, as4, rfl, h4, hf⟩ := args_cons hf
  obtain ⟨a5, as5, rfl, h5, hf⟩ := args_cons hf
  obtain ⟨a6, as6, rfl, h6, hf⟩ := args_cons hf
  obtain ⟨a7, as7, rfl, h7, hf⟩ := args_cons hf
  obtain ⟨a8, as8, rfl, h8, hf⟩ := args_cons hf
  obtain rfl := args_nil hf
  obtain ⟨w, rfl, g1⟩ := arg_u64 h1
  obtain ⟨n, rfl, g2⟩ := arg_int h2
  obtain ⟨s, rfl⟩ := arg_str h3
  obtain ⟨raw, rfl⟩ := arg_strs h4
  obtain ⟨fixed, rfl, g5⟩ := arg_int h5
  obtain ⟨many, rfl, g6⟩ := arg_int h6
  obtain ⟨a, rfl, g7⟩ := arg_int h7
  obtain ⟨c, rfl⟩ := arg_byte h8
  exact d3 s raw g2 g5 g6 g7
set_option maxRecDepth 100000 in
theorem lifted3 (os : Os) (started : os.Started) (H : Type) (enc : TypeId × Value → H) :
    ReturnsInHanded {} Try.checked os 3 .any (Rows.octetsTellsSpec.pre6 enc Try.prog Try.f3 Rows.octetsTellsRow.domain false) (Rows.octetsTellsSpec.post enc Try.prog Try.f3 false true false false) := by
  refine returnsInHanded_of_change (C := Try.checked) own started (by kernel_rfl) Try.func3
    (ChangeSpec.witness6 (enc := enc) (C := Try.checked) false ⟨#[], #[.int .u64 0, .int .i64 0, .string ⟨#[]⟩, .slice none 0 0, .int .i64 0, .int .i64 0, .int .i64 0, .int .u8 0], []⟩ 8 (by kernel_rfl) (by kernel_rfl) (by kernel_rfl) (by kernel_rfl)) ?_
  intro W base args ds gs before hval hW hcnd _
  exact law_calls (cx := cx) cx_names cx_ext lays (tb := 4) rfl u4 rfl (by kernel_rfl)
    (fun ds hl => by
      match ds, hl with
      | [d1, d2, d3, d4, d5, d6, d7, d8], _ => rfl)
    (fun avs hf => octetsTells_runs avs hf) hval hW no_globals

theorem octetsTells_said : Rows.OctetsTellsSaid :=
  OpenClaim.holds_of_wide 3 Try.f3 rfl rfl rfl rfl rfl rfl rfl ⟨rfl, rfl, rfl, rfl, rfl⟩ rfl rfl rfl rfl rfl (by kernel_rfl) Try.func3 (by kernel_rfl)
    (of_decide_eq_true (by kernel_rfl)) (by unfold Func.isWrapper; first | (rw [if_pos (by decide +kernel)]; kernel_rfl) | (rw [if_neg (by decide +kernel)]; exact ⟨rfl, rfl⟩))
    (fun os started H enc _ => lifted3 os started H enc)
end Go.Proofs.Ytoaihfbmoppajaa
