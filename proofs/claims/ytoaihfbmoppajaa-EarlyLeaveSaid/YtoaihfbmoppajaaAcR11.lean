/- The law EarlyLeave: it returns true at every input and leaves each argument as it was. -/
import Derived.Test.YtoaihfbmoppajaaAcC0
import Derived.Test.YtoaihfbmoppajaaAcW11
import Derived.Stop.Joined
namespace Go.Proofs.Ytoaihfbmoppajaa
open Go Go.ChangeShapes Go.WideShapes Go.ChangeAt Go.RowKit Go.Proofs.Av
theorem earlyLeave_runs (avs : List AV) (hf : ArgsFit cx.P Try.f11.params.toList avs) : E cx (.fn 11) avs [] = some (.ret (.val (.bool true)), []) := by
  obtain ⟨a, ar, rfl, h1, hf⟩ := args_cons hf
  obtain ⟨b, br, rfl, h2, hf⟩ := args_cons hf
  obtain ⟨c, cr, rfl, h3, hf⟩ := args_cons hf
  obtain ⟨d, dr, rfl, h4, hf⟩ := args_cons hf
  obtain rfl := args_nil hf
  obtain ⟨raw, rfl, g1, g2⟩ := arg_raws h1
  obtain ⟨x, rfl, g3⟩ := arg_int h2
  obtain ⟨y, rfl, g4⟩ := arg_int h3
  obtain ⟨t, rfl, g5⟩ := arg_int h4
  exact law11c raw x y t g1 g2 g3 g4 g5
set_option maxRecDepth 100000 in
theorem lifted11 (os : Os) (started : os.Started) (H : Type) (enc : TypeId × Value → H) :
    ReturnsInHanded {} Try.checked os 11 .any (Rows.earlyLeaveSpec.pre6 enc Try.prog Try.f11 Rows.earlyLeaveRow.domain false) (Rows.earlyLeaveSpec.post enc Try.prog Try.f11 false true false false) := by
  refine returnsInHanded_of_change (C := Try.checked) own started (by kernel_rfl) Try.func11
    (ChangeSpec.witness6 (enc := enc) (C := Try.checked) false ⟨#[], #[.slice none 0 0, .int .i64 0, .int .i64 0, .int .i64 0], []⟩ 8 (by kernel_rfl) (by kernel_rfl) (by kernel_rfl) (by kernel_rfl)) ?_
  intro W base args ds gs before hval hW hcnd _
  exact law_calls (cx := cx) cx_names cx_ext lays (tb := 4) rfl u4 rfl (by kernel_rfl)
    (fun ds hl => by
      match ds, hl with
      | [d1, d2, d3, d4], _ => rfl)
    (fun avs hf => earlyLeave_runs avs hf) hval hW no_globals

theorem earlyLeave_said : Rows.EarlyLeaveSaid :=
  OpenClaim.holds_of_wide 11 Try.f11 rfl rfl rfl rfl rfl rfl rfl ⟨rfl, rfl, rfl, rfl, rfl⟩ rfl rfl rfl rfl rfl (by kernel_rfl) Try.func11 (by kernel_rfl)
    (of_decide_eq_true (by kernel_rfl)) (by unfold Func.isWrapper; first | (rw [if_pos (by decide +kernel)]; kernel_rfl) | (rw [if_neg (by decide +kernel)]; exact ⟨rfl, rfl⟩))
    (fun os started H enc _ => lifted11 os started H enc)
end Go.Proofs.Ytoaihfbmoppajaa
