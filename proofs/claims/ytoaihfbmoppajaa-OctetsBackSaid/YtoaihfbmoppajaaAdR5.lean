/- The law OctetsBack: it returns true at every input and leaves each argument as it was. -/
import Derived.Test.YtoaihfbmoppajaaAdC0
import Derived.Test.YtoaihfbmoppajaaAdW5
import Derived.Stop.Joined
namespace Go.Proofs.Ytoaihfbmoppajaa
open Go Go.ChangeShapes Go.WideShapes Go.ChangeAt Go.RowKit Go.Proofs.Av
theorem octetsBack_runs (avs : List AV) (hf : ArgsFit cx.P Try.f5.params.toList avs) : E cx (.fn 5) avs [] = some (.ret (.val (.bool true)), []) := by
  obtain ⟨a1, as1, rfl, h1, hf⟩ := args_cons hf
  obtain ⟨a2, as2, rfl, h2, hf⟩ := args_cons hf
  obtain ⟨a3, as3, rfl, h3, hf⟩ := args_cons hf
  obtain rfl := args_nil hf
  obtain ⟨w, rfl, g1⟩ := arg_u64 h1
  obtain ⟨n, rfl, g2⟩ := arg_int h2
  obtain ⟨s, rfl⟩ := arg_str h3
  exact d5 g1 g2 s
set_option maxRecDepth 100000 in
theorem lifted5 (os : Os) (started : os.Started) (H : Type) (enc : TypeId × Value → H) :
    ReturnsInHanded {} Try.checked os 5 .any (Rows.octetsBackSpec.pre6 enc Try.prog Try.f5 Rows.octetsBackRow.domain false) (Rows.octetsBackSpec.post enc Try.prog Try.f5 false true false false) := by
  refine returnsInHanded_of_change (C := Try.checked) own started (by kernel_rfl) Try.func5
    (ChangeSpec.witness6 (enc := enc) (C := Try.checked) false ⟨#[], #[.int .u64 0, .int .i64 0, .string ⟨#[]⟩], []⟩ 8 (by kernel_rfl) (by kernel_rfl) (by kernel_rfl) (by kernel_rfl)) ?_
  intro W base args ds gs before hval hW hcnd _
  exact law_calls (cx := cx) cx_names cx_ext lays (tb := 4) rfl u4 rfl (by kernel_rfl)
    (fun ds hl => by
      match ds, hl with
      | [d1, d2, d3], _ => rfl)
    (fun avs hf => octetsBack_runs avs hf) hval hW no_globals

theorem octetsBack_said : Rows.OctetsBackSaid :=
  OpenClaim.holds_of_wide 5 Try.f5 rfl rfl rfl rfl rfl rfl rfl ⟨rfl, rfl, rfl, rfl, rfl⟩ rfl rfl rfl rfl rfl (by kernel_rfl) Try.func5 (by kernel_rfl)
    (of_decide_eq_true (by kernel_rfl)) (by unfold Func.isWrapper; first | (rw [if_pos (by decide +kernel)]; kernel_rfl) | (rw [if_neg (by decide +kernel)]; exact ⟨rfl, rfl⟩))
    (fun os started H enc _ => lifted5 os started H enc)
end Go.Proofs.Ytoaihfbmoppajaa
