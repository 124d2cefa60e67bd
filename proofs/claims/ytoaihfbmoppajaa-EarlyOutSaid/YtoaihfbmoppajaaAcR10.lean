/- The law EarlyOut: it returns true at every input and leaves each argument as it was. -/
import Derived.Test.YtoaihfbmoppajaaAcC0
import Derived.Test.YtoaihfbmoppajaaAcW10
import Derived.Stop.Joined
namespace Go.Proofs.Ytoaihfbmoppajaa
open Go Go.ChangeShapes Go.WideShapes Go.ChangeAt Go.RowKit Go.Proofs.Av
theorem earlyOut_runs (avs : List AV) (hf : ArgsFit cx.P Try.f10.params.toList avs) : E cx (.fn 10) avs [] = some (.ret (.val (.bool true)), []) := by
  obtain ⟨a, ar, rfl, h1, hf⟩ := args_cons hf
  obtain ⟨b, br, rfl, h2, hf⟩ := args_cons hf
  obtain rfl := args_nil hf
  obtain ⟨raw, rfl, g1, g2⟩ := arg_raws h1
  obtain ⟨ti, rfl, g4⟩ := arg_ticks h2
  exact law10c raw ti g1 g2 g4
set_option maxRecDepth 100000 in
theorem lifted10 (os : Os) (started : os.Started) (H : Type) (enc : TypeId × Value → H) :
    ReturnsInHanded {} Try.checked os 10 .any (Rows.earlyOutSpec.pre6 enc Try.prog Try.f10 Rows.earlyOutRow.domain false) (Rows.earlyOutSpec.post enc Try.prog Try.f10 false true false false) := by
  refine returnsInHanded_of_change (C := Try.checked) own started (by kernel_rfl) Try.func10
    (ChangeSpec.witness6 (enc := enc) (C := Try.checked) false ⟨#[], #[.slice none 0 0, .slice none 0 0], []⟩ 8 (by kernel_rfl) (by kernel_rfl) (by kernel_rfl) (by kernel_rfl)) ?_
  intro W base args ds gs before hval hW hcnd _
  exact law_calls (cx := cx) cx_names cx_ext lays (tb := 4) rfl u4 rfl (by kernel_rfl)
    (fun ds hl => by
      match ds, hl with
      | [d1, d2], _ => rfl)
    (fun avs hf => earlyOut_runs avs hf) hval hW no_globals

theorem earlyOut_said : Rows.EarlyOutSaid :=
  OpenClaim.holds_of_wide 10 Try.f10 rfl rfl rfl rfl rfl rfl rfl ⟨rfl, rfl, rfl, rfl, rfl⟩ rfl rfl rfl rfl rfl (by kernel_rfl) Try.func10 (by kernel_rfl)
    (of_decide_eq_true (by kernel_rfl)) (by unfold Func.isWrapper; first | (rw [if_pos (by decide +kernel)]; kernel_rfl) | (rw [if_neg (by decide +kernel)]; exact ⟨rfl, rfl⟩))
    (fun os started H enc _ => lifted10 os started H enc)
end Go.Proofs.Ytoaihfbmoppajaa
