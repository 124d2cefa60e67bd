/- The law TokenBack: it returns true at every input and leaves each argument as it was. -/
import Derived.Test.YtoepfmodbhfckaaAeC0
import Derived.Test.YtoepfmodbhfckaaAeQ7
import Derived.Test.YtoepfmodbhfckaaAeHa
import Derived.Stop.Joined
namespace Go.Proofs.Ytoepfmodbhfckaa
open Go Go.ChangeShapes Go.WideShapes Go.ChangeAt Go.RowKit Go.Proofs.Av
theorem tokenBack_runs (avs : List AV) (hf : ArgsFit cx.P Try.f7.params.toList avs) : E cx (.fn 7) avs [] = some (.ret (.val (.bool true)), []) := by
  obtain ⟨a1, as1, rfl, h1, hf⟩ := args_cons hf
  obtain ⟨a2, as2, rfl, h2, hf⟩ := args_cons hf
  obtain ⟨a3, as3, rfl, h3, hf⟩ := args_cons hf
  obtain ⟨a4, as4, rfl, h4, hf⟩ := args_cons hf
  obtain ⟨a5, as5, rfl, h5, hf⟩ := args_cons hf
  obtain rfl := args_nil hf
  obtain ⟨one, rfl, g1⟩ := arg_ints h1
  obtain ⟨two, rfl, g2⟩ := arg_ints h2
  obtain ⟨a, rfl⟩ := arg_bool h3
  obtain ⟨b, rfl⟩ := arg_bool h4
  obtain ⟨s, rfl⟩ := arg_str h5
  exact c7 one two g1 g2 a b s
set_option maxRecDepth 100000 in
theorem lifted7 (os : Os) (started : os.Started) (H : Type) (enc : TypeId × Value → H) :
    ReturnsInHanded {} Try.checked os 7 .any (Rows.tokenBackSpec.pre6 enc Try.prog Try.f7 Rows.tokenBackRow.domain false) (Rows.tokenBackSpec.post enc Try.prog Try.f7 false true false false) := by
  refine returnsInHanded_of_change (C := Try.checked) own started (by kernel_rfl) Try.func7
    (ChangeSpec.witness6 (enc := enc) (C := Try.checked) false ⟨#[], #[.slice none 0 0, .slice none 0 0, .bool false, .bool false, .string ⟨#[]⟩], []⟩ 8 (by kernel_rfl) (by kernel_rfl) (by kernel_rfl) (by kernel_rfl)) ?_
  intro W base args ds gs before hval hW hcnd _
  exact law_calls (cx := cx) cx_names cx_ext lays (tb := 4) rfl u4 rfl (by kernel_rfl)
    (fun ds hl => by
      match ds, hl with
      | [d1, d2, d3, d4, d5], _ => rfl)
    (fun avs hf => tokenBack_runs avs hf) hval hW no_globals

theorem closed7 : joinedFacts Try.prog 7 Try.f7 Rows.tokenBackSpec Rows.tokenBackRow = true :=
  joined_of (P := Try.prog) (f := 7) (fn := Try.f7) (s := Rows.tokenBackSpec) (c := Rows.tokenBackRow) (by kernel_rfl) k_enter k_lifts rfl k_make rfl (by kernel_rfl) (by kernel_rfl) (by kernel_rfl) (by kernel_rfl)
theorem inst7 : Try.f7.isInstance Try.prog "" [] := instance_of (by kernel_rfl) (by kernel_rfl) (by kernel_rfl)
theorem wrap7 : Try.f7.isWrapper Try.prog false "" := wrapper_of (P := Try.prog) (fn := Try.f7) (by kernel_rfl)
theorem named7 : Try.prog.funcNamed Rows.tokenBackRow.func = some 7 := by kernel_rfl
theorem tokenBack_said : Rows.TokenBackSaid :=
  OpenClaim.holds_of_wide (p := Try.pinned) 7 Try.f7 rfl rfl rfl rfl rfl rfl rfl ⟨rfl, rfl, rfl, rfl, rfl⟩ rfl rfl rfl rfl rfl named7 Try.func7
    closed7 inst7 wrap7
    (fun os started H enc _ => lifted7 os started H enc)
end Go.Proofs.Ytoepfmodbhfckaa
