/- The law BitsBack: it returns true at every input and leaves each argument as it was. -/
import Derived.Test.YtoepfmodbhfckaaAfC0
import Derived.Test.YtoepfmodbhfckaaAfQ13
import Derived.Test.YtoepfmodbhfckaaAfHa
import Derived.Stop.Joined
namespace Go.Proofs.Ytoepfmodbhfckaa
open Go Go.ChangeShapes Go.WideShapes Go.ChangeAt Go.RowKit Go.Proofs.Av
theorem bitsBack_runs (avs : List AV) (hf : ArgsFit cx.P Try.f13.params.toList avs) : E cx (.fn 13) avs [] = some (.ret (.val (.bool true)), []) := by
  obtain ⟨a1, as1, rfl, h1, hf⟩ := args_cons hf
  obtain ⟨a2, as2, rfl, h2, hf⟩ := args_cons hf
  obtain ⟨a3, as3, rfl, h3, hf⟩ := args_cons hf
  obtain ⟨a4, as4, rfl, h4, hf⟩ := args_cons hf
  obtain rfl := args_nil hf
  obtain ⟨n, rfl, g1⟩ := arg_int h1
  obtain ⟨raw, rfl, g2⟩ := arg_ints h2
  obtain ⟨m, rfl, g3⟩ := arg_int h3
  obtain ⟨other, rfl, g4⟩ := arg_ints h4
  exact c13 n raw m other g1 g2 g3 g4
set_option maxRecDepth 100000 in
theorem lifted13 (os : Os) (started : os.Started) (H : Type) (enc : TypeId × Value → H) :
    ReturnsInHanded {} Try.checked os 13 .any (Rows.bitsBackSpec.pre6 enc Try.prog Try.f13 Rows.bitsBackRow.domain false) (Rows.bitsBackSpec.post enc Try.prog Try.f13 false true false false) := by
  refine returnsInHanded_of_change (C := Try.checked) own started (by kernel_rfl) Try.func13
    (ChangeSpec.witness6 (enc := enc) (C := Try.checked) false ⟨#[], #[.int .i64 0, .slice none 0 0, .int .i64 0, .slice none 0 0], []⟩ 8 (by kernel_rfl) (by kernel_rfl) (by kernel_rfl) (by kernel_rfl)) ?_
  intro W base args ds gs before hval hW hcnd _
  exact law_calls (cx := cx) cx_names cx_ext lays (tb := 4) rfl u4 rfl (by kernel_rfl)
    (fun ds hl => by
      match ds, hl with
      | [d1, d2, d3, d4], _ => rfl)
    (fun avs hf => bitsBack_runs avs hf) hval hW no_globals

theorem closed13 : joinedFacts Try.prog 13 Try.f13 Rows.bitsBackSpec Rows.bitsBackRow = true :=
  joined_of (P := Try.prog) (f := 13) (fn := Try.f13) (s := Rows.bitsBackSpec) (c := Rows.bitsBackRow) (by kernel_rfl) k_enter k_lifts rfl k_make rfl (by kernel_rfl) (by kernel_rfl) (by kernel_rfl) (by kernel_rfl)
theorem inst13 : Try.f13.isInstance Try.prog "" [] := instance_of (by kernel_rfl) (by kernel_rfl) (by kernel_rfl)
theorem wrap13 : Try.f13.isWrapper Try.prog false "" := wrapper_of (P := Try.prog) (fn := Try.f13) (by kernel_rfl)
theorem named13 : Try.prog.funcNamed Rows.bitsBackRow.func = some 13 := by kernel_rfl
theorem bitsBack_said : Rows.BitsBackSaid :=
  OpenClaim.holds_of_wide (p := Try.pinned) 13 Try.f13 rfl rfl rfl rfl rfl rfl rfl ⟨rfl, rfl, rfl, rfl, rfl⟩ rfl rfl rfl rfl rfl named13 Try.func13
    closed13 inst13 wrap13
    (fun os started H enc _ => lifted13 os started H enc)
end Go.Proofs.Ytoepfmodbhfckaa
