/- The law OracleMerge: it returns true at every input and leaves each argument as it was. -/
import Derived.Test.YtoepfmodbhfckaaAiC0
import Derived.Test.YtoepfmodbhfckaaAiQ23
import Derived.Test.YtoepfmodbhfckaaAiHa
import Derived.Stop.Joined
namespace Go.Proofs.Ytoepfmodbhfckaa
open Go Go.ChangeShapes Go.WideShapes Go.ChangeAt Go.RowKit Go.Proofs.Av
theorem oracleMerge_runs (avs:List AV) (hf:ArgsFit cx.P Try.f23.params.toList avs):E cx (.fn 23) avs []=some (.ret (.val (.bool true)),[]):=by
 obtain⟨a1,as1,rfl,h1,hf⟩:=args_cons hf
 obtain⟨a2,as2,rfl,h2,hf⟩:=args_cons hf
 obtain⟨a3,as3,rfl,h3,hf⟩:=args_cons hf
 obtain⟨a4,as4,rfl,h4,hf⟩:=args_cons hf
 obtain rfl:=args_nil hf
 obtain⟨x1,rfl,g1⟩:=arg_ints h1
 obtain⟨x2,rfl,g2⟩:=arg_ints h2
 obtain⟨x3,rfl,g3⟩:=arg_int h3
 obtain⟨x4,rfl,g4⟩:=arg_int h4
 exact law23 x1 x2 x3 x4 g1 g2 g3 g4
set_option maxRecDepth 100000 in
theorem lifted23 (os:Os) (started:os.Started) (H:Type) (enc:TypeId×Value→H):ReturnsInHanded {} Try.checked os 23 .any (Rows.oracleMergeSpec.pre6 enc Try.prog Try.f23 Rows.oracleMergeRow.domain false) (Rows.oracleMergeSpec.post enc Try.prog Try.f23 false true false false):=by
 refine returnsInHanded_of_change (C:=Try.checked) own started (by kernel_rfl) Try.func23
  (ChangeSpec.witness6 (enc:=enc) (C:=Try.checked) false ⟨#[],#[.slice none 0 0,.slice none 0 0,.int .i64 0,.int .i64 0],[]⟩ 8 (by kernel_rfl) (by kernel_rfl) (by kernel_rfl) (by kernel_rfl)) ?_
 intro W base args ds gs before hval hW hcnd _
 exact law_calls (cx:=cx) cx_names cx_ext lays (tb:=4) rfl u4 rfl (by kernel_rfl)
  (fun ds hl=>by
   match ds,hl with
   | [d1,d2,d3,d4],_=>rfl)
  (fun avs hf=>oracleMerge_runs avs hf) hval hW no_globals
theorem closed23:joinedFacts Try.prog 23 Try.f23 Rows.oracleMergeSpec Rows.oracleMergeRow=true :=
 joined_of (P:=Try.prog) (f:=23) (fn:=Try.f23) (s:=Rows.oracleMergeSpec) (c:=Rows.oracleMergeRow) (by kernel_rfl) k_enter k_lifts rfl k_make rfl (by kernel_rfl) (by kernel_rfl) (by kernel_rfl) (by kernel_rfl)
theorem inst23:Try.f23.isInstance Try.prog "" []:=instance_of (by kernel_rfl) (by kernel_rfl) (by kernel_rfl)
theorem wrap23:Try.f23.isWrapper Try.prog false "" :=wrapper_of (P:=Try.prog) (fn:=Try.f23) (by kernel_rfl)
theorem named23:Try.prog.funcNamed Rows.oracleMergeRow.func=some 23:=by kernel_rfl
theorem oracleMerge_said:Rows.OracleMergeSaid :=
 OpenClaim.holds_of_wide (p:=Try.pinned) 23 Try.f23 rfl rfl rfl rfl rfl rfl rfl ⟨rfl,rfl,rfl,rfl,rfl⟩ rfl rfl rfl rfl rfl named23 Try.func23
  closed23 inst23 wrap23
  (fun os started H enc _=>lifted23 os started H enc)
end Go.Proofs.Ytoepfmodbhfckaa
