/- The law WireBack: it returns true at every input and leaves each argument as it was. -/
import Derived.Test.YtoepfmodbhfckaaAgC1
import Derived.Test.YtoepfmodbhfckaaAgQ3
import Derived.Test.YtoepfmodbhfckaaAgHa
import Derived.Stop.Joined
namespace Go.Proofs.Ytoepfmodbhfckaa
open Go Go.ChangeShapes Go.WideShapes Go.ChangeAt Go.RowKit Go.Proofs.Av
theorem wireBack_runs (avs : List AV) (hf : ArgsFit cx.P Try.f3.params.toList avs) : E cx (.fn 3) avs [] = some (.ret (.val (.bool true)), []) := by
 obtain ⟨a1, as1, rfl, h1, hf⟩ := args_cons hf
 obtain ⟨a2, as2, rfl, h2, hf⟩ := args_cons hf
 obtain ⟨a3, as3, rfl, h3, hf⟩ := args_cons hf
 obtain ⟨a4, as4, rfl, h4, hf⟩ := args_cons hf
 obtain ⟨a5, as5, rfl, h5, hf⟩ := args_cons hf
 obtain rfl := args_nil hf
 obtain ⟨x, rfl, g1⟩ := arg_raw h1
 obtain ⟨y, rfl, g2⟩ := arg_raw h2
 obtain ⟨b, rfl, g3⟩ := arg_int h3
 obtain ⟨q, rfl, g4⟩ := arg_ints h4
 obtain ⟨r1, r2, r3, rfl, u1, u2, u3⟩ := arg_rec h5
 exact c3 x y g1 g2 g3 q g4 u1 u2 u3
set_option maxRecDepth 100000 in
theorem lifted3 (os : Os) (started : os.Started) (H : Type) (enc : TypeId × Value → H) :
  ReturnsInHanded {} Try.checked os 3 .any (Rows.wireBackSpec.pre6 enc Try.prog Try.f3 Rows.wireBackRow.domain false) (Rows.wireBackSpec.post enc Try.prog Try.f3 false true false false) := by
 refine returnsInHanded_of_change (C := Try.checked) own started (by kernel_rfl) Try.func3
  (ChangeSpec.witness6 (enc := enc) (C := Try.checked) false ⟨#[], #[.agg #[.int .i64 0, .int .i64 0, .int .i64 0, .int .i64 0, .int .i64 0, .int .i64 0, .slice none 0 0, .slice none 0 0, .bool false], .agg #[.int .i64 0, .int .i64 0, .int .i64 0, .int .i64 0, .int .i64 0, .int .i64 0, .slice none 0 0, .slice none 0 0, .bool false], .int .i64 0, .slice none 0 0, .agg #[.int .u64 0, .int .u64 0, .int .u64 0]], []⟩ 8 (by kernel_rfl) (by kernel_rfl) (by kernel_rfl) (by kernel_rfl)) ?_
 intro W base args ds gs before hval hW hcnd _
 exact law_calls (cx := cx) cx_names cx_ext lays (tb := 4) rfl u4 rfl (by kernel_rfl)
  (fun ds hl => by
   match ds, hl with
   | [d1, d2, d3, d4, d5], _ => rfl)
  (fun avs hf => wireBack_runs avs hf) hval hW no_globals
theorem closed3 : joinedFacts Try.prog 3 Try.f3 Rows.wireBackSpec Rows.wireBackRow = true :=
 joined_of (P := Try.prog) (f := 3) (fn := Try.f3) (s := Rows.wireBackSpec) (c := Rows.wireBackRow) (by kernel_rfl) k_enter k_lifts rfl k_make rfl (by kernel_rfl) (by kernel_rfl) (by kernel_rfl) (by kernel_rfl)
theorem inst3 : Try.f3.isInstance Try.prog "" [] := instance_of (by kernel_rfl) (by kernel_rfl) (by kernel_rfl)
theorem wrap3 : Try.f3.isWrapper Try.prog false "" := wrapper_of (P := Try.prog) (fn := Try.f3) (by kernel_rfl)
theorem named3 : Try.prog.funcNamed Rows.wireBackRow.func = some 3 := by kernel_rfl
theorem wireBack_said : Rows.WireBackSaid :=
 OpenClaim.holds_of_wide (p := Try.pinned) 3 Try.f3 rfl rfl rfl rfl rfl rfl rfl ⟨rfl, rfl, rfl, rfl, rfl⟩ rfl rfl rfl rfl rfl named3 Try.func3
  closed3 inst3 wrap3
  (fun os started H enc _ => lifted3 os started H enc)
end Go.Proofs.Ytoepfmodbhfckaa
