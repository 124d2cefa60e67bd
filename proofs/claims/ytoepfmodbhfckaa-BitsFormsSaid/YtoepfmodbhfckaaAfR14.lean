/- The law BitsForms: it returns true at every input and leaves each argument as it was. -/
import Derived.Test.YtoepfmodbhfckaaAfC0
import Derived.Test.YtoepfmodbhfckaaAfQ14
import Derived.Test.YtoepfmodbhfckaaAfHa
import Derived.Stop.Joined
namespace Go.Proofs.Ytoepfmodbhfckaa
open Go Go.ChangeShapes Go.WideShapes Go.ChangeAt Go.RowKit Go.Proofs.Av
theorem bitsForms_runs (avs : List AV) (hf : ArgsFit cx.P Try.f14.params.toList avs) : E cx (.fn 14) avs [] = some (.ret (.val (.bool true)), []) := by
  obtain ⟨a1, as1, rfl, h1, hf⟩ := args_cons hf
  obtain ⟨a2, as2, rfl, h2, hf⟩ := args_cons hf
  obtain rfl := args_nil hf
  obtain ⟨s, rfl⟩ := arg_str h1
  obtain ⟨n, rfl, g2⟩ := arg_int h2
  exact c14 s n g2
set_option maxRecDepth 100000 in
theorem lifted14 (os : Os) (started : os.Started) (H : Type) (enc : TypeId × Value → H) :
    ReturnsInHanded {} Try.checked os 14 .any (Rows.bitsFormsSpec.pre6 enc Try.prog Try.f14 Rows.bitsFormsRow.domain false) (Rows.bitsFormsSpec.post enc Try.prog Try.f14 false true false false) := by
  refine returnsInHanded_of_change (C := Try.checked) own started (by kernel_rfl) Try.func14
    (ChangeSpec.witness6 (enc := enc) (C := Try.checked) false ⟨#[], #[.string ⟨#[]⟩, .int .i64 0], []⟩ 8 (by kernel_rfl) (by kernel_rfl) (by kernel_rfl) (by kernel_rfl)) ?_
  intro W base args ds gs before hval hW hcnd _
  exact law_calls (cx := cx) cx_names cx_ext lays (tb := 4) rfl u4 rfl (by kernel_rfl)
    (fun ds hl => by
      match ds, hl with
      | [d1, d2], _ => rfl)
    (fun avs hf => bitsForms_runs avs hf) hval hW no_globals

theorem closed14 : joinedFacts Try.prog 14 Try.f14 Rows.bitsFormsSpec Rows.bitsFormsRow = true :=
  joined_of (P := Try.prog) (f := 14) (fn := Try.f14) (s := Rows.bitsFormsSpec) (c := Rows.bitsFormsRow) (by kernel_rfl) k_enter k_lifts rfl k_make rfl (by kernel_rfl) (by kernel_rfl) (by kernel_rfl) (by kernel_rfl)
theorem inst14 : Try.f14.isInstance Try.prog "" [] := instance_of (by kernel_rfl) (by kernel_rfl) (by kernel_rfl)
theorem wrap14 : Try.f14.isWrapper Try.prog false "" := wrapper_of (P := Try.prog) (fn := Try.f14) (by kernel_rfl)
theorem named14 : Try.prog.funcNamed Rows.bitsFormsRow.func = some 14 := by kernel_rfl
theorem bitsForms_said : Rows.BitsFormsSaid :=
  OpenClaim.holds_of_wide (p := Try.pinned) 14 Try.f14 rfl rfl rfl rfl rfl rfl rfl ⟨rfl, rfl, rfl, rfl, rfl⟩ rfl rfl rfl rfl rfl named14 Try.func14
    closed14 inst14 wrap14
    (fun os started H enc _ => lifted14 os started H enc)
end Go.Proofs.Ytoepfmodbhfckaa
