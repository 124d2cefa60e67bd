/- The law BitsCount: it returns true at every input and leaves each argument as it was. -/
import Derived.Test.YtoepfmodbhfckaaAfC0
import Derived.Test.YtoepfmodbhfckaaAfQ17
import Derived.Test.YtoepfmodbhfckaaAfHa
import Derived.Stop.Joined
namespace Go.Proofs.Ytoepfmodbhfckaa
open Go Go.ChangeShapes Go.WideShapes Go.ChangeAt Go.RowKit Go.Proofs.Av
theorem bitsCount_runs (avs : List AV) (hf : ArgsFit cx.P Try.f17.params.toList avs) : E cx (.fn 17) avs [] = some (.ret (.val (.bool true)), []) := by
  obtain ⟨a1, as1, rfl, h1, hf⟩ := args_cons hf
  obtain ⟨a2, as2, rfl, h2, hf⟩ := args_cons hf
  obtain rfl := args_nil hf
  obtain ⟨n, rfl, g1⟩ := arg_int h1
  obtain ⟨raw, rfl, g2⟩ := arg_ints h2
  exact c17 n raw g1 g2
set_option maxRecDepth 100000 in
theorem lifted17 (os : Os) (started : os.Started) (H : Type) (enc : TypeId × Value → H) :
    ReturnsInHanded {} Try.checked os 17 .any (Rows.bitsCountSpec.pre6 enc Try.prog Try.f17 Rows.bitsCountRow.domain false) (Rows.bitsCountSpec.post enc Try.prog Try.f17 false true false false) := by
  refine returnsInHanded_of_change (C := Try.checked) own started (by kernel_rfl) Try.func17
    (ChangeSpec.witness6 (enc := enc) (C := Try.checked) false ⟨#[], #[.int .i64 0, .slice none 0 0], []⟩ 8 (by kernel_rfl) (by kernel_rfl) (by kernel_rfl) (by kernel_rfl)) ?_
  intro W base args ds gs before hval hW hcnd _
  exact law_calls (cx := cx) cx_names cx_ext lays (tb := 4) rfl u4 rfl (by kernel_rfl)
    (fun ds hl => by
      match ds, hl with
      | [d1, d2], _ => rfl)
    (fun avs hf => bitsCount_runs avs hf) hval hW no_globals

theorem closed17 : joinedFacts Try.prog 17 Try.f17 Rows.bitsCountSpec Rows.bitsCountRow = true :=
  joined_of (P := Try.prog) (f := 17) (fn := Try.f17) (s := Rows.bitsCountSpec) (c := Rows.bitsCountRow) (by kernel_rfl) k_enter k_lifts rfl k_make rfl (by kernel_rfl) (by kernel_rfl) (by kernel_rfl) (by kernel_rfl)
theorem inst17 : Try.f17.isInstance Try.prog "" [] := instance_of (by kernel_rfl) (by kernel_rfl) (by kernel_rfl)
theorem wrap17 : Try.f17.isWrapper Try.prog false "" := wrapper_of (P := Try.prog) (fn := Try.f17) (by kernel_rfl)
theorem named17 : Try.prog.funcNamed Rows.bitsCountRow.func = some 17 := by kernel_rfl
theorem bitsCount_said : Rows.BitsCountSaid :=
  OpenClaim.holds_of_wide (p := Try.pinned) 17 Try.f17 rfl rfl rfl rfl rfl rfl rfl ⟨rfl, rfl, rfl, rfl, rfl⟩ rfl rfl rfl rfl rfl named17 Try.func17
    closed17 inst17 wrap17
    (fun os started H enc _ => lifted17 os started H enc)
end Go.Proofs.Ytoepfmodbhfckaa
