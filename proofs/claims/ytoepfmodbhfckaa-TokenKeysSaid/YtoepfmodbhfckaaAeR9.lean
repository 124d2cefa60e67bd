/- The law TokenKeys: it returns true at every input and leaves each argument as it was. -/
import Derived.Test.YtoepfmodbhfckaaAeC0
import Derived.Test.YtoepfmodbhfckaaAeQ9
import Derived.Test.YtoepfmodbhfckaaAeHa
import Derived.Stop.Joined
namespace Go.Proofs.Ytoepfmodbhfckaa
open Go Go.ChangeShapes Go.WideShapes Go.ChangeAt Go.RowKit Go.Proofs.Av
theorem tokenKeys_runs (avs : List AV) (hf : ArgsFit cx.P Try.f9.params.toList avs) : E cx (.fn 9) avs [] = some (.ret (.val (.bool true)), []) := by
  obtain ⟨a1, as1, rfl, h1, hf⟩ := args_cons hf
  obtain ⟨a2, as2, rfl, h2, hf⟩ := args_cons hf
  obtain ⟨a3, as3, rfl, h3, hf⟩ := args_cons hf
  obtain rfl := args_nil hf
  obtain ⟨raw, rfl, g1⟩ := arg_ints h1
  obtain ⟨root, rfl, g2⟩ := arg_u64 h2
  obtain ⟨turn, rfl, g3⟩ := arg_int h3
  exact c9 raw g1 root g2 turn g3
set_option maxRecDepth 100000 in
theorem lifted9 (os : Os) (started : os.Started) (H : Type) (enc : TypeId × Value → H) :
    ReturnsInHanded {} Try.checked os 9 .any (Rows.tokenKeysSpec.pre6 enc Try.prog Try.f9 Rows.tokenKeysRow.domain false) (Rows.tokenKeysSpec.post enc Try.prog Try.f9 false true false false) := by
  refine returnsInHanded_of_change (C := Try.checked) own started (by kernel_rfl) Try.func9
    (ChangeSpec.witness6 (enc := enc) (C := Try.checked) false ⟨#[], #[.slice none 0 0, .int .u64 0, .int .i64 0], []⟩ 8 (by kernel_rfl) (by kernel_rfl) (by kernel_rfl) (by kernel_rfl)) ?_
  intro W base args ds gs before hval hW hcnd _
  exact law_calls (cx := cx) cx_names cx_ext lays (tb := 4) rfl u4 rfl (by kernel_rfl)
    (fun ds hl => by
      match ds, hl with
      | [d1, d2, d3], _ => rfl)
    (fun avs hf => tokenKeys_runs avs hf) hval hW no_globals

theorem closed9 : joinedFacts Try.prog 9 Try.f9 Rows.tokenKeysSpec Rows.tokenKeysRow = true :=
  joined_of (P := Try.prog) (f := 9) (fn := Try.f9) (s := Rows.tokenKeysSpec) (c := Rows.tokenKeysRow) (by kernel_rfl) k_enter k_lifts rfl k_make rfl (by kernel_rfl) (by kernel_rfl) (by kernel_rfl) (by kernel_rfl)
theorem inst9 : Try.f9.isInstance Try.prog "" [] := instance_of (by kernel_rfl) (by kernel_rfl) (by kernel_rfl)
theorem wrap9 : Try.f9.isWrapper Try.prog false "" := wrapper_of (P := Try.prog) (fn := Try.f9) (by kernel_rfl)
theorem named9 : Try.prog.funcNamed Rows.tokenKeysRow.func = some 9 := by kernel_rfl
theorem tokenKeys_said : Rows.TokenKeysSaid :=
  OpenClaim.holds_of_wide (p := Try.pinned) 9 Try.f9 rfl rfl rfl rfl rfl rfl rfl ⟨rfl, rfl, rfl, rfl, rfl⟩ rfl rfl rfl rfl rfl named9 Try.func9
    closed9 inst9 wrap9
    (fun os started H enc _ => lifted9 os started H enc)
end Go.Proofs.Ytoepfmodbhfckaa
