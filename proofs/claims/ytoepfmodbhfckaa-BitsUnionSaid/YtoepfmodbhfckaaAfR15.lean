/- The law BitsUnion: it returns true at every input and leaves each argument as it was. -/
import Derived.Test.YtoepfmodbhfckaaAfC0
import Derived.Test.YtoepfmodbhfckaaAfQ15
import Derived.Test.YtoepfmodbhfckaaAfHa
import Derived.Stop.Joined
namespace Go.Proofs.Ytoepfmodbhfckaa
open Go Go.ChangeShapes Go.WideShapes Go.ChangeAt Go.RowKit Go.Proofs.Av
theorem bitsUnion_runs (avs : List AV) (hf : ArgsFit cx.P Try.f15.params.toList avs) : E cx (.fn 15) avs [] = some (.ret (.val (.bool true)), []) := by
  obtain ⟨a1, as1, rfl, h1, hf⟩ := args_cons hf
  obtain ⟨a2, as2, rfl, h2, hf⟩ := args_cons hf
  obtain ⟨a3, as3, rfl, h3, hf⟩ := args_cons hf
  obtain ⟨a4, as4, rfl, h4, hf⟩ := args_cons hf
  obtain ⟨a5, as5, rfl, h5, hf⟩ := args_cons hf
  obtain rfl := args_nil hf
  obtain ⟨n, rfl, g1⟩ := arg_int h1
  obtain ⟨one, rfl, g2⟩ := arg_ints h2
  obtain ⟨two, rfl, g3⟩ := arg_ints h3
  obtain ⟨three, rfl, g4⟩ := arg_ints h4
  obtain ⟨four, rfl, g5⟩ := arg_ints h5
  exact c15 n one two three four g1 g2 g3 g4 g5
set_option maxRecDepth 100000 in
theorem lifted15 (os : Os) (started : os.Started) (H : Type) (enc : TypeId × Value → H) :
    ReturnsInHanded {} Try.checked os 15 .any (Rows.bitsUnionSpec.pre6 enc Try.prog Try.f15 Rows.bitsUnionRow.domain false) (Rows.bitsUnionSpec.post enc Try.prog Try.f15 false true false false) := by
  refine returnsInHanded_of_change (C := Try.checked) own started (by kernel_rfl) Try.func15
    (ChangeSpec.witness6 (enc := enc) (C := Try.checked) false ⟨#[], #[.int .i64 0, .slice none 0 0, .slice none 0 0, .slice none 0 0, .slice none 0 0], []⟩ 8 (by kernel_rfl) (by kernel_rfl) (by kernel_rfl) (by kernel_rfl)) ?_
  intro W base args ds gs before hval hW hcnd _
  exact law_calls (cx := cx) cx_names cx_ext lays (tb := 4) rfl u4 rfl (by kernel_rfl)
    (fun ds hl => by
      match ds, hl with
      | [d1, d2, d3, d4, d5], _ => rfl)
    (fun avs hf => bitsUnion_runs avs hf) hval hW no_globals

theorem closed15 : joinedFacts Try.prog 15 Try.f15 Rows.bitsUnionSpec Rows.bitsUnionRow = true :=
  joined_of (P := Try.prog) (f := 15) (fn := Try.f15) (s := Rows.bitsUnionSpec) (c := Rows.bitsUnionRow) (by kernel_rfl) k_enter k_lifts rfl k_make rfl (by kernel_rfl) (by kernel_rfl) (by kernel_rfl) (by kernel_rfl)
theorem inst15 : Try.f15.isInstance Try.prog "" [] := instance_of (by kernel_rfl) (by kernel_rfl) (by kernel_rfl)
theorem wrap15 : Try.f15.isWrapper Try.prog false "" := wrapper_of (P := Try.prog) (fn := Try.f15) (by kernel_rfl)
theorem named15 : Try.prog.funcNamed Rows.bitsUnionRow.func = some 15 := by kernel_rfl
theorem bitsUnion_said : Rows.BitsUnionSaid :=
  OpenClaim.holds_of_wide (p := Try.pinned) 15 Try.f15 rfl rfl rfl rfl rfl rfl rfl ⟨rfl, rfl, rfl, rfl, rfl⟩ rfl rfl rfl rfl rfl named15 Try.func15
    closed15 inst15 wrap15
    (fun os started H enc _ => lifted15 os started H enc)
end Go.Proofs.Ytoepfmodbhfckaa
