/- The law TokenLong: it returns true at every input and leaves each argument as it was. -/
import Derived.Test.YtoepfmodbhfckaaAeC0
import Derived.Test.YtoepfmodbhfckaaAeQ10
import Derived.Test.YtoepfmodbhfckaaAeHa
import Derived.Stop.Joined
namespace Go.Proofs.Ytoepfmodbhfckaa
open Go Go.ChangeShapes Go.WideShapes Go.ChangeAt Go.RowKit Go.Proofs.Av
theorem tokenLong_runs (avs : List AV) (hf : ArgsFit cx.P Try.f10.params.toList avs) : E cx (.fn 10) avs [] = some (.ret (.val (.bool true)), []) := by
  obtain ⟨a1, as1, rfl, h1, hf⟩ := args_cons hf
  obtain ⟨a2, as2, rfl, h2, hf⟩ := args_cons hf
  obtain rfl := args_nil hf
  obtain ⟨n, rfl, g1⟩ := arg_int h1
  obtain ⟨key, rfl, g2⟩ := arg_u64 h2
  exact c10 n g1 key g2
set_option maxRecDepth 100000 in
theorem lifted10 (os : Os) (started : os.Started) (H : Type) (enc : TypeId × Value → H) :
    ReturnsInHanded {} Try.checked os 10 .any (Rows.tokenLongSpec.pre6 enc Try.prog Try.f10 Rows.tokenLongRow.domain false) (Rows.tokenLongSpec.post enc Try.prog Try.f10 false true false false) := by
  refine returnsInHanded_of_change (C := Try.checked) own started (by kernel_rfl) Try.func10
    (ChangeSpec.witness6 (enc := enc) (C := Try.checked) false ⟨#[], #[.int .i64 0, .int .u64 0], []⟩ 8 (by kernel_rfl) (by kernel_rfl) (by kernel_rfl) (by kernel_rfl)) ?_
  intro W base args ds gs before hval hW hcnd _
  exact law_calls (cx := cx) cx_names cx_ext lays (tb := 4) rfl u4 rfl (by kernel_rfl)
    (fun ds hl => by
      match ds, hl with
      | [d1, d2], _ => rfl)
    (fun avs hf => tokenLong_runs avs hf) hval hW no_globals

theorem closed10 : joinedFacts Try.prog 10 Try.f10 Rows.tokenLongSpec Rows.tokenLongRow = true :=
  joined_of (P := Try.prog) (f := 10) (fn := Try.f10) (s := Rows.tokenLongSpec) (c := Rows.tokenLongRow) (by kernel_rfl) k_enter k_lifts rfl k_make rfl (by kernel_rfl) (by kernel_rfl) (by kernel_rfl) (by kernel_rfl)
theorem inst10 : Try.f10.isInstance Try.prog "" [] := instance_of (by kernel_rfl) (by kernel_rfl) (by kernel_rfl)
theorem wrap10 : Try.f10.isWrapper Try.prog false "" := wrapper_of (P := Try.prog) (fn := Try.f10) (by kernel_rfl)
theorem named10 : Try.prog.funcNamed Rows.tokenLongRow.func = some 10 := by kernel_rfl
theorem tokenLong_said : Rows.TokenLongSaid :=
  OpenClaim.holds_of_wide (p := Try.pinned) 10 Try.f10 rfl rfl rfl rfl rfl rfl rfl ⟨rfl, rfl, rfl, rfl, rfl⟩ rfl rfl rfl rfl rfl named10 Try.func10
    closed10 inst10 wrap10
    (fun os started H enc _ => lifted10 os started H enc)
end Go.Proofs.Ytoepfmodbhfckaa
