/- The law OctetsJoin: it returns true at every input and leaves each argument as it was. -/
import Derived.Test.YtoaihfbmoppajaaAdC0
import Derived.Test.YtoaihfbmoppajaaAdW7
import Derived.Stop.Joined
namespace Go.Proofs.Ytoaihfbmoppajaa
open Go Go.ChangeShapes Go.WideShapes Go.ChangeAt Go.RowKit Go.Proofs.Av
theorem octetsJoin_runs (avs : List AV) (hf : ArgsFit cx.P Try.f7.params.toList avs) : E cx (.fn 7) avs [] = some (.ret (.val (.bool true)), []) := by
  obtain ⟨a1, as1, rfl, h1, hf⟩ := args_cons hf
  obtain ⟨a2, as2, rfl, h2, hf⟩ := args_cons hf
  obtain ⟨a3, as3, rfl, h3, hf⟩ := args_cons hf
  obtain ⟨a4, as4, rfl, h4, hf⟩ := args_cons hf
  obtain ⟨a5, as5, rfl, h5, hf⟩ := args_cons hf
  obtain ⟨a6, as6, rfl, h6, hf⟩ := args_cons hf
  obtain rfl := args_nil hf
  obtain ⟨s, rfl⟩ := arg_str h1
  obtain ⟨raw, rfl⟩ := arg_strs h2
  obtain ⟨fixed, rfl, g3⟩ := arg_int h3
  obtain ⟨many, rfl, g4⟩ := arg_int h4
  obtain ⟨a, rfl, g5⟩ := arg_int h5
  obtain ⟨c, rfl⟩ := arg_byte h6
  exact d7 s raw g3 g4 g5
set_option maxRecDepth 100000 in
theorem lifted7 (os : Os) (started : os.Started) (H : Type) (enc : TypeId × Value → H) :
    ReturnsInHanded {} Try.checked os 7 .any (Rows.octetsJoinSpec.pre6 enc Try.prog Try.f7 Rows.octetsJoinRow.domain false) (Rows.octetsJoinSpec.post enc Try.prog Try.f7 false true false false) := by
  refine returnsInHanded_of_change (C := Try.checked) own started (by kernel_rfl) Try.func7
    (ChangeSpec.witness6 (enc := enc) (C := Try.checked) false ⟨#[], #[.string ⟨#[]⟩, .slice none 0 0, .int .i64 0, .int .i64 0, .int .i64 0, .int .u8 0], []⟩ 8 (by kernel_rfl) (by kernel_rfl) (by kernel_rfl) (by kernel_rfl)) ?_
  intro W base args ds gs before hval hW hcnd _
  exact law_calls (cx := cx) cx_names cx_ext lays (tb := 4) rfl u4 rfl (by kernel_rfl)
    (fun ds hl => by
      match ds, hl with
      | [d1, d2, d3, d4, d5, d6], _ => rfl)
    (fun avs hf => octetsJoin_runs avs hf) hval hW no_globals

theorem octetsJoin_said : Rows.OctetsJoinSaid :=
  OpenClaim.holds_of_wide 7 Try.f7 rfl rfl rfl rfl rfl rfl rfl ⟨rfl, rfl, rfl, rfl, rfl⟩ rfl rfl rfl rfl rfl (by kernel_rfl) Try.func7 (by kernel_rfl)
    (of_decide_eq_true (by kernel_rfl)) (by unfold Func.isWrapper; first | (rw [if_pos (by decide +kernel)]; kernel_rfl) | (rw [if_neg (by decide +kernel)]; exact ⟨rfl, rfl⟩))
    (fun os started H enc _ => lifted7 os started H enc)
end Go.Proofs.Ytoaihfbmoppajaa
