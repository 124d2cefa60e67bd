/- The law OracleSign: it returns true at every input and leaves each argument as it was. -/
import Derived.Test.YtoepfmodbhfckaaAiC0
import Derived.Test.YtoepfmodbhfckaaAiK21
import Derived.Test.YtoepfmodbhfckaaAiHa
import Derived.Stop.Joined
namespace Go.Proofs.Ytoepfmodbhfckaa
open Go Go.ChangeShapes Go.WideShapes Go.ChangeAt Go.RowKit Go.Proofs.Av
theorem oracleSign_runs (avs:List AV) (hf:ArgsFit cx.P Try.f21.params.toList avs):E cx (.fn 21) avs []=some (.ret (.val (.bool true)),[]):=by
 obtain⟨a1,as1,rfl,h1,hf⟩:=args_cons hf
 obtain⟨a2,as2,rfl,h2,hf⟩:=args_cons hf
 obtain⟨a3,as3,rfl,h3,hf⟩:=args_cons hf
 obtain rfl:=args_nil hf
 obtain⟨x1,rfl,g1⟩:=arg_u64s h1
 obtain⟨x2,rfl,g2⟩:=arg_u64 h2
 obtain⟨x3,rfl,g3⟩:=arg_int h3
 exact law21 x1 x2 x3 g1 g2 g3
set_option maxRecDepth 100000 in
theorem lifted21 (os:Os) (started:os.Started) (H:Type) (enc:TypeId×Value→H):ReturnsInHanded {} Try.checked os 21 .any (Rows.oracleSignSpec.pre6 enc Try.prog Try.f21 Rows.oracleSignRow.domain false) (Rows.oracleSignSpec.post enc Try.prog Try.f21 false true false false):=by
 refine returnsInHanded_of_change (C:=Try.checked) own started (by kernel_rfl) Try.func21
  (ChangeSpec.witness6 (enc:=enc) (C:=Try.checked) false ⟨#[],#[.slice none 0 0,.int .u64 0,.int .i64 0],[]⟩ 8 (by kernel_rfl) (by kernel_rfl) (by kernel_rfl) (by kernel_rfl)) ?_
 intro W base args ds gs before hval hW hcnd _
 exact law_calls (cx:=cx) cx_names cx_ext lays (tb:=4) rfl u4 rfl (by kernel_rfl)
  (fun ds hl=>by
   match ds,hl with
   | [d1,d2,d3],_=>rfl)
  (fun avs hf=>oracleSign_runs avs hf) hval hW no_globals
theorem closed21:joinedFacts Try.prog 21 Try.f21 Rows.oracleSignSpec Rows.oracleSignRow=true :=
 joined_of (P:=Try.prog) (f:=21) (fn:=Try.f21) (s:=Rows.oracleSignSpec) (c:=Rows.oracleSignRow) (by kernel_rfl) k_enter k_lifts rfl k_make rfl (by kernel_rfl) (by kernel_rfl) (by kernel_rfl) (by kernel_rfl)
theorem inst21:Try.f21.isInstance Try.prog "" []:=instance_of (by kernel_rfl) (by kernel_rfl) (by kernel_rfl)
theorem wrap21:Try.f21.isWrapper Try.prog false "" :=wrapper_of (P:=Try.prog) (fn:=Try.f21) (by kernel_rfl)
theorem named21:Try.prog.funcNamed Rows.oracleSignRow.func=some 21:=by kernel_rfl
theorem oracleSign_said:Rows.OracleSignSaid :=
 OpenClaim.holds_of_wide (p:=Try.pinned) 21 Try.f21 rfl rfl rfl rfl rfl rfl rfl ⟨rfl,rfl,rfl,rfl,rfl⟩ rfl rfl rfl rfl rfl named21 Try.func21
  closed21 inst21 wrap21
  (fun os started H enc _=>lifted21 os started H enc)
end Go.Proofs.Ytoepfmodbhfckaa
