/- The law TokenMerge: it returns true at every input and leaves each argument as it was. -/
import Derived.Test.YtoepfmodbhfckaaAeC0
import Derived.Test.YtoepfmodbhfckaaAeQ8
import Derived.Test.YtoepfmodbhfckaaAeHa
import Derived.Stop.Joined
namespace Go.Proofs.Ytoepfmodbhfckaa
open Go Go.ChangeShapes Go.WideShapes Go.ChangeAt Go.RowKit Go.Proofs.Av
theorem tokenMerge_runs (avs : List AV) (hf : ArgsFit cx.P Try.f8.params.toList avs) : E cx (.fn 8) avs [] = some (.ret (.val (.bool true)), []) := by
  obtain ⟨a1, as1, rfl, h1, hf⟩ := args_cons hf
  obtain ⟨a2, as2, rfl, h2, hf⟩ := args_cons hf
  obtain ⟨a3, as3, rfl, h3, hf⟩ := args_cons hf
  obtain ⟨a4, as4, rfl, h4, hf⟩ := args_cons hf
  obtain ⟨a5, as5, rfl, h5, hf⟩ := args_cons hf
  obtain ⟨a6, as6, rfl, h6, hf⟩ := args_cons hf
  obtain rfl := args_nil hf
  obtain ⟨one, rfl, g1⟩ := arg_ints h1
  obtain ⟨two, rfl, g2⟩ := arg_ints h2
  obtain ⟨three, rfl, g3⟩ := arg_ints h3
  obtain ⟨forged, rfl, g4⟩ := arg_int h4
  obtain ⟨key, rfl, g5⟩ := arg_int h5
  obtain ⟨root, rfl, g6⟩ := arg_int h6
  exact c8 one two three g1 g2 g3 forged key root g4 g5 g6
set_option maxRecDepth 100000 in
theorem lifted8 (os : Os) (started : os.Started) (H : Type) (enc : TypeId × Value → H) :
    ReturnsInHanded {} Try.checked os 8 .any (Rows.tokenMergeSpec.pre6 enc Try.prog Try.f8 Rows.tokenMergeRow.domain false) (Rows.tokenMergeSpec.post enc Try.prog Try.f8 false true false false) := by
  refine returnsInHanded_of_change (C := Try.checked) own started (by kernel_rfl) Try.func8
    (ChangeSpec.witness6 (enc := enc) (C := Try.checked) false ⟨#[], #[.slice none 0 0, .slice none 0 0, .slice none 0 0, .int .i64 0, .int .i64 0, .int .i64 0], []⟩ 8 (by kernel_rfl) (by kernel_rfl) (by kernel_rfl) (by kernel_rfl)) ?_
  intro W base args ds gs before hval hW hcnd _
  exact law_calls (cx := cx) cx_names cx_ext lays (tb := 4) rfl u4 rfl (by kernel_rfl)
    (fun ds hl => by
      match ds, hl with
      | [d1, d2, d3, d4, d5, d6], _ => rfl)
    (fun avs hf => tokenMerge_runs avs hf) hval hW no_globals

theorem closed8 : joinedFacts Try.prog 8 Try.f8 Rows.tokenMergeSpec Rows.tokenMergeRow = true :=
  joined_of (P := Try.prog) (f := 8) (fn := Try.f8) (s := Rows.tokenMergeSpec) (c := Rows.tokenMergeRow) (by kernel_rfl) k_enter k_lifts rfl k_make rfl (by kernel_rfl) (by kernel_rfl) (by kernel_rfl) (by kernel_rfl)
theorem inst8 : Try.f8.isInstance Try.prog "" [] := instance_of (by kernel_rfl) (by kernel_rfl) (by kernel_rfl)
theorem wrap8 : Try.f8.isWrapper Try.prog false "" := wrapper_of (P := Try.prog) (fn := Try.f8) (by kernel_rfl)
theorem named8 : Try.prog.funcNamed Rows.tokenMergeRow.func = some 8 := by kernel_rfl
theorem tokenMerge_said : Rows.TokenMergeSaid :=
  OpenClaim.holds_of_wide (p := Try.pinned) 8 Try.f8 rfl rfl rfl rfl rfl rfl rfl ⟨rfl, rfl, rfl, rfl, rfl⟩ rfl rfl rfl rfl rfl named8 Try.func8
    closed8 inst8 wrap8
    (fun os started H enc _ => lifted8 os started H enc)
end Go.Proofs.Ytoepfmodbhfckaa
