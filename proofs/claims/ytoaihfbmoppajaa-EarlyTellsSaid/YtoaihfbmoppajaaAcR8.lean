/- The law EarlyTells: it returns true at every input and leaves each argument as it was. -/
import Derived.Test.YtoaihfbmoppajaaAcC0
import Derived.Test.YtoaihfbmoppajaaAcW8
import Derived.Stop.Joined
namespace Go.Proofs.Ytoaihfbmoppajaa
open Go Go.ChangeShapes Go.WideShapes Go.ChangeAt Go.RowKit Go.Proofs.Av
theorem earlyTells_runs (avs : List AV) (hf : ArgsFit cx.P Try.f8.params.toList avs) : E cx (.fn 8) avs [] = some (.ret (.val (.bool true)), []) := by
  obtain ⟨a1, as1, rfl, h1, hf⟩ := args_cons hf
  obtain ⟨a2, as2, rfl, h2, hf⟩ := args_cons hf
  obtain ⟨a3, as3, rfl, h3, hf⟩ := args_cons hf
  obtain ⟨a4, as4, rfl, h4, hf⟩ := args_cons hf
  obtain ⟨a5, as5, rfl, h5, hf⟩ := args_cons hf
  obtain ⟨a6, as6, rfl, h6, hf⟩ := args_cons hf
  obtain ⟨a7, as7, rfl, h7, hf⟩ := args_cons hf
  obtain rfl := args_nil hf
  obtain ⟨wild, rfl⟩ := arg_waits h1
  obtain ⟨raw, rfl, g1, g2⟩ := arg_raws h2
  obtain ⟨odd, rfl⟩ := arg_wait h3
  obtain ⟨k, rfl, g3⟩ := arg_r3 h4
  obtain ⟨room, rfl, g4⟩ := arg_int h5
  obtain ⟨tick, rfl, g5⟩ := arg_int h6
  obtain ⟨peer, rfl, g6⟩ := arg_int h7
  exact law8c wild raw odd k room tick peer g1 g2 g3 g4 g5 g6
set_option maxRecDepth 100000 in
theorem lifted8 (os : Os) (started : os.Started) (H : Type) (enc : TypeId × Value → H) :
    ReturnsInHanded {} Try.checked os 8 .any (Rows.earlyTellsSpec.pre6 enc Try.prog Try.f8 Rows.earlyTellsRow.domain false) (Rows.earlyTellsSpec.post enc Try.prog Try.f8 false true false false) := by
  refine returnsInHanded_of_change (C := Try.checked) own started (by kernel_rfl) Try.func8
    (ChangeSpec.witness6 (enc := enc) (C := Try.checked) false ⟨#[], #[.slice none 0 0, .slice none 0 0, .agg #[.int .i64 0, .int .i64 0, .int .i64 0, .string ⟨#[]⟩], .agg #[.int .i64 0, .int .i64 0, .int .i64 0], .int .i64 0, .int .i64 0, .int .i64 0], []⟩ 8 (by kernel_rfl) (by kernel_rfl) (by kernel_rfl) (by kernel_rfl)) ?_
  intro W base args ds gs before hval hW hcnd _
  exact law_calls (cx := cx) cx_names cx_ext lays (tb := 4) rfl u4 rfl (by kernel_rfl)
    (fun ds hl => by
      match ds, hl with
      | [d1, d2, d3, d4, d5, d6, d7], _ => rfl)
    (fun avs hf => earlyTells_runs avs hf) hval hW no_globals

theorem earlyTells_said : Rows.EarlyTellsSaid :=
  OpenClaim.holds_of_wide 8 Try.f8 rfl rfl rfl rfl rfl rfl rfl ⟨rfl, rfl, rfl, rfl, rfl⟩ rfl rfl rfl rfl rfl (by kernel_rfl) Try.func8 (by kernel_rfl)
    (of_decide_eq_true (by kernel_rfl)) (by unfold Func.isWrapper; first | (rw [if_pos (by decide +kernel)]; kernel_rfl) | (rw [if_neg (by decide +kernel)]; exact ⟨rfl, rfl⟩))
    (fun os started H enc _ => lifted8 os started H enc)
end Go.Proofs.Ytoaihfbmoppajaa
