/- The law TokenTwice: it returns true at every input and leaves each argument as it was. -/
import Derived.Test.YtoepfmodbhfckaaAeC0
import Derived.Test.YtoepfmodbhfckaaAeQ11
import Derived.Test.YtoepfmodbhfckaaAeHa
import Derived.Stop.Joined
namespace Go.Proofs.Ytoepfmodbhfckaa
open Go Go.ChangeShapes Go.WideShapes Go.ChangeAt Go.RowKit Go.Proofs.Av
theorem tokenTwice_runs (avs : List AV) (hf : ArgsFit cx.P Try.f11.params.toList avs) : E cx (.fn 11) avs [] = some (.ret (.val (.bool true)), []) := by
  obtain ⟨a1, as1, rfl, h1, hf⟩ := args_cons hf
  obtain ⟨a2, as2, rfl, h2, hf⟩ := args_cons hf
  obtain rfl := args_nil hf
  obtain ⟨raw, rfl, g1⟩ := arg_ints h1
  obtain ⟨f, rfl⟩ := arg_bool h2
  exact c11 raw g1 f
set_option maxRecDepth 100000 in
theorem lifted11 (os : Os) (started : os.Started) (H : Type) (enc : TypeId × Value → H) :
    ReturnsInHanded {} Try.checked os 11 .any (Rows.tokenTwiceSpec.pre6 enc Try.prog Try.f11 Rows.tokenTwiceRow.domain false) (Rows.tokenTwiceSpec.post enc Try.prog Try.f11 false true false false) := by
  refine returnsInHanded_of_change (C := Try.checked) own started (by kernel_rfl) Try.func11
    (ChangeSpec.witness6 (enc := enc) (C := Try.checked) false ⟨#[], #[.slice none 0 0, .bool false], []⟩ 8 (by kernel_rfl) (by kernel_rfl) (by kernel_rfl) (by kernel_rfl)) ?_
  intro W base args ds gs before hval hW hcnd _
  exact law_calls (cx := cx) cx_names cx_ext lays (tb := 4) rfl u4 rfl (by kernel_rfl)
    (fun ds hl => by
      match ds, hl with
      | [d1, d2], _ => rfl)
    (fun avs hf => tokenTwice_runs avs hf) hval hW no_globals

theorem closed11 : joinedFacts Try.prog 11 Try.f11 Rows.tokenTwiceSpec Rows.tokenTwiceRow = true :=
  joined_of (P := Try.prog) (f := 11) (fn := Try.f11) (s := Rows.tokenTwiceSpec) (c := Rows.tokenTwiceRow) (by kernel_rfl) k_enter k_lifts rfl k_make rfl (by kernel_rfl) (by kernel_rfl) (by kernel_rfl) (by kernel_rfl)
theorem inst11 : Try.f11.isInstance Try.prog "" [] := instance_of (by kernel_rfl) (by kernel_rfl) (by kernel_rfl)
theorem wrap11 : Try.f11.isWrapper Try.prog false "" := wrapper_of (P := Try.prog) (fn := Try.f11) (by kernel_rfl)
theorem named11 : Try.prog.funcNamed Rows.tokenTwiceRow.func = some 11 := by kernel_rfl
theorem tokenTwice_said : Rows.TokenTwiceSaid :=
  OpenClaim.holds_of_wide (p := Try.pinned) 11 Try.f11 rfl rfl rfl rfl rfl rfl rfl ⟨rfl, rfl, rfl, rfl, rfl⟩ rfl rfl rfl rfl rfl named11 Try.func11
    closed11 inst11 wrap11
    (fun os started H enc _ => lifted11 os started H enc)
end Go.Proofs.Ytoepfmodbhfckaa
