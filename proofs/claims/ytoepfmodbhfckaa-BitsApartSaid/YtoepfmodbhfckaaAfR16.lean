/- The law BitsApart: it returns true at every input and leaves each argument as it was. -/
import Derived.Test.YtoepfmodbhfckaaAfC0
import Derived.Test.YtoepfmodbhfckaaAfQ16
import Derived.Test.YtoepfmodbhfckaaAfHa
import Derived.Stop.Joined
namespace Go.Proofs.Ytoepfmodbhfckaa
open Go Go.ChangeShapes Go.WideShapes Go.ChangeAt Go.RowKit Go.Proofs.Av
theorem bitsApart_runs (avs : List AV) (hf : ArgsFit cx.P Try.f16.params.toList avs) : E cx (.fn 16) avs [] = some (.ret (.val (.bool true)), []) := by
  obtain ⟨a1, as1, rfl, h1, hf⟩ := args_cons hf
  obtain ⟨a2, as2, rfl, h2, hf⟩ := args_cons hf
  obtain ⟨a3, as3, rfl, h3, hf⟩ := args_cons hf
  obtain rfl := args_nil hf
  obtain ⟨n, rfl, g1⟩ := arg_int h1
  obtain ⟨one, rfl, g2⟩ := arg_ints h2
  obtain ⟨two, rfl, g3⟩ := arg_ints h3
  exact c16 n one two g1 g2 g3
set_option maxRecDepth 100000 in
theorem lifted16 (os : Os) (started : os.Started) (H : Type) (enc : TypeId × Value → H) :
    ReturnsInHanded {} Try.checked os 16 .any (Rows.bitsApartSpec.pre6 enc Try.prog Try.f16 Rows.bitsApartRow.domain false) (Rows.bitsApartSpec.post enc Try.prog Try.f16 false true false false) := by
  refine returnsInHanded_of_change (C := Try.checked) own started (by kernel_rfl) Try.func16
    (ChangeSpec.witness6 (enc := enc) (C := Try.checked) false ⟨#[], #[.int .i64 0, .slice none 0 0, .slice none 0 0], []⟩ 8 (by kernel_rfl) (by kernel_rfl) (by kernel_rfl) (by kernel_rfl)) ?_
  intro W base args ds gs before hval hW hcnd _
  exact law_calls (cx := cx) cx_names cx_ext lays (tb := 4) rfl u4 rfl (by kernel_rfl)
    (fun ds hl => by
      match ds, hl with
      | [d1, d2, d3], _ => rfl)
    (fun avs hf => bitsApart_runs avs hf) hval hW no_globals

theorem closed16 : joinedFacts Try.prog 16 Try.f16 Rows.bitsApartSpec Rows.bitsApartRow = true :=
  joined_of (P := Try.prog) (f := 16) (fn := Try.f16) (s := Rows.bitsApartSpec) (c := Rows.bitsApartRow) (by kernel_rfl) k_enter k_lifts rfl k_make rfl (by kernel_rfl) (by kernel_rfl) (by kernel_rfl) (by kernel_rfl)
theorem inst16 : Try.f16.isInstance Try.prog "" [] := instance_of (by kernel_rfl) (by kernel_rfl) (by kernel_rfl)
theorem wrap16 : Try.f16.isWrapper Try.prog false "" := wrapper_of (P := Try.prog) (fn := Try.f16) (by kernel_rfl)
theorem named16 : Try.prog.funcNamed Rows.bitsApartRow.func = some 16 := by kernel_rfl
theorem bitsApart_said : Rows.BitsApartSaid :=
  OpenClaim.holds_of_wide (p := Try.pinned) 16 Try.f16 rfl rfl rfl rfl rfl rfl rfl ⟨rfl, rfl, rfl, rfl, rfl⟩ rfl rfl rfl rfl rfl named16 Try.func16
    closed16 inst16 wrap16
    (fun os started H enc _ => lifted16 os started H enc)
end Go.Proofs.Ytoepfmodbhfckaa
