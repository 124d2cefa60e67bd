/- The law OracleOne: it returns true at every input and leaves each argument as it was. -/
import Derived.Test.YtoepfmodbhfckaaAiC0
import Derived.Test.YtoepfmodbhfckaaAiK19
import Derived.Test.YtoepfmodbhfckaaAiHa
import Derived.Stop.Joined
namespace Go.Proofs.Ytoepfmodbhfckaa
open Go Go.ChangeShapes Go.WideShapes Go.ChangeAt Go.RowKit Go.Proofs.Av
theorem oracleOne_runs (avs:List AV) (hf:ArgsFit cx.P Try.f19.params.toList avs):E cx (.fn 19) avs []=some (.ret (.val (.bool true)),[]):=by
 obtain⟨a1,as1,rfl,h1,hf⟩:=args_cons hf
 obtain⟨a2,as2,rfl,h2,hf⟩:=args_cons hf
 obtain⟨a3,as3,rfl,h3,hf⟩:=args_cons hf
 obtain⟨a4,as4,rfl,h4,hf⟩:=args_cons hf
 obtain⟨a5,as5,rfl,h5,hf⟩:=args_cons hf
 obtain⟨a6,as6,rfl,h6,hf⟩:=args_cons hf
 obtain rfl:=args_nil hf
 obtain⟨x1,rfl,g1⟩:=arg_ints h1
 obtain⟨x2,rfl,g2⟩:=arg_ints h2
 obtain⟨x3,rfl,g3⟩:=arg_int h3
 obtain⟨x4,rfl,g4⟩:=arg_int h4
 obtain⟨x5,rfl,g5⟩:=arg_ints h5
 obtain⟨x6,rfl,g6⟩:=arg_int h6
 exact law19 x1 x2 x3 x4 x5 x6 g1 g2 g3 g4 g5 g6
set_option maxRecDepth 100000 in
theorem lifted19 (os:Os) (started:os.Started) (H:Type) (enc:TypeId×Value→H):ReturnsInHanded {} Try.checked os 19 .any (Rows.oracleOneSpec.pre6 enc Try.prog Try.f19 Rows.oracleOneRow.domain false) (Rows.oracleOneSpec.post enc Try.prog Try.f19 false true false false):=by
 refine returnsInHanded_of_change (C:=Try.checked) own started (by kernel_rfl) Try.func19
  (ChangeSpec.witness6 (enc:=enc) (C:=Try.checked) false ⟨#[],#[.slice none 0 0,.slice none 0 0,.int .i64 0,.int .i64 0,.slice none 0 0,.int .i64 0],[]⟩ 8 (by kernel_rfl) (by kernel_rfl) (by kernel_rfl) (by kernel_rfl)) ?_
 intro W base args ds gs before hval hW hcnd _
 exact law_calls (cx:=cx) cx_names cx_ext lays (tb:=4) rfl u4 rfl (by kernel_rfl)
  (fun ds hl=>by
   match ds,hl with
   | [d1,d2,d3,d4,d5,d6],_=>rfl)
  (fun avs hf=>oracleOne_runs avs hf) hval hW no_globals
theorem closed19:joinedFacts Try.prog 19 Try.f19 Rows.oracleOneSpec Rows.oracleOneRow=true :=
 joined_of (P:=Try.prog) (f:=19) (fn:=Try.f19) (s:=Rows.oracleOneSpec) (c:=Rows.oracleOneRow) (by kernel_rfl) k_enter k_lifts rfl k_make rfl (by kernel_rfl) (by kernel_rfl) (by kernel_rfl) (by kernel_rfl)
theorem inst19:Try.f19.isInstance Try.prog "" []:=instance_of (by kernel_rfl) (by kernel_rfl) (by kernel_rfl)
theorem wrap19:Try.f19.isWrapper Try.prog false "" :=wrapper_of (P:=Try.prog) (fn:=Try.f19) (by kernel_rfl)
theorem named19:Try.prog.funcNamed Rows.oracleOneRow.func=some 19:=by kernel_rfl
theorem oracleOne_said:Rows.OracleOneSaid :=
 OpenClaim.holds_of_wide (p:=Try.pinned) 19 Try.f19 rfl rfl rfl rfl rfl rfl rfl ⟨rfl,rfl,rfl,rfl,rfl⟩ rfl rfl rfl rfl rfl named19 Try.func19
  closed19 inst19 wrap19
  (fun os started H enc _=>lifted19 os started H enc)
end Go.Proofs.Ytoepfmodbhfckaa
