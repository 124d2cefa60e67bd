/- The law OracleMore: it returns true at every input and leaves each argument as it was. -/
import Derived.Test.YtoepfmodbhfckaaAiC0
import Derived.Test.YtoepfmodbhfckaaAiQ20
import Derived.Test.YtoepfmodbhfckaaAiHa
import Derived.Stop.Joined
namespace Go.Proofs.Ytoepfmodbhfckaa
open Go Go.ChangeShapes Go.WideShapes Go.ChangeAt Go.RowKit Go.Proofs.Av
theorem oracleMore_runs (avs:List AV) (hf:ArgsFit cx.P Try.f20.params.toList avs):E cx (.fn 20) avs []=some (.ret (.val (.bool true)),[]):=by
 obtain⟨a1,as1,rfl,h1,hf⟩:=args_cons hf
 obtain⟨a2,as2,rfl,h2,hf⟩:=args_cons hf
 obtain⟨a3,as3,rfl,h3,hf⟩:=args_cons hf
 obtain⟨a4,as4,rfl,h4,hf⟩:=args_cons hf
 obtain⟨a5,as5,rfl,h5,hf⟩:=args_cons hf
 obtain rfl:=args_nil hf
 obtain⟨x1,rfl,g1⟩:=arg_ints h1
 obtain⟨x2,rfl,g2⟩:=arg_ints h2
 obtain⟨x3,rfl,g3⟩:=arg_ints h3
 obtain⟨x4,rfl,g4⟩:=arg_ints h4
 obtain⟨x5,rfl,g5⟩:=arg_int h5
 exact law20 x1 x2 x3 x4 x5 g1 g2 g3 g4 g5
set_option maxRecDepth 100000 in
theorem lifted20 (os:Os) (started:os.Started) (H:Type) (enc:TypeId×Value→H):ReturnsInHanded {} Try.checked os 20 .any (Rows.oracleMoreSpec.pre6 enc Try.prog Try.f20 Rows.oracleMoreRow.domain false) (Rows.oracleMoreSpec.post enc Try.prog Try.f20 false true false false):=by
 refine returnsInHanded_of_change (C:=Try.checked) own started (by kernel_rfl) Try.func20
  (ChangeSpec.witness6 (enc:=enc) (C:=Try.checked) false ⟨#[],#[.slice none 0 0,.slice none 0 0,.slice none 0 0,.slice none 0 0,.int .i64 0],[]⟩ 8 (by kernel_rfl) (by kernel_rfl) (by kernel_rfl) (by kernel_rfl)) ?_
 intro W base args ds gs before hval hW hcnd _
 exact law_calls (cx:=cx) cx_names cx_ext lays (tb:=4) rfl u4 rfl (by kernel_rfl)
  (fun ds hl=>by
   match ds,hl with
   | [d1,d2,d3,d4,d5],_=>rfl)
  (fun avs hf=>oracleMore_runs avs hf) hval hW no_globals
theorem closed20:joinedFacts Try.prog 20 Try.f20 Rows.oracleMoreSpec Rows.oracleMoreRow=true :=
 joined_of (P:=Try.prog) (f:=20) (fn:=Try.f20) (s:=Rows.oracleMoreSpec) (c:=Rows.oracleMoreRow) (by kernel_rfl) k_enter k_lifts rfl k_make rfl (by kernel_rfl) (by kernel_rfl) (by kernel_rfl) (by kernel_rfl)
theorem inst20:Try.f20.isInstance Try.prog "" []:=instance_of (by kernel_rfl) (by kernel_rfl) (by kernel_rfl)
theorem wrap20:Try.f20.isWrapper Try.prog false "" :=wrapper_of (P:=Try.prog) (fn:=Try.f20) (by kernel_rfl)
theorem named20:Try.prog.funcNamed Rows.oracleMoreRow.func=some 20:=by kernel_rfl
theorem oracleMore_said:Rows.OracleMoreSaid :=
 OpenClaim.holds_of_wide (p:=Try.pinned) 20 Try.f20 rfl rfl rfl rfl rfl rfl rfl ⟨rfl,rfl,rfl,rfl,rfl⟩ rfl rfl rfl rfl rfl named20 Try.func20
  closed20 inst20 wrap20
  (fun os started H enc _=>lifted20 os started H enc)
end Go.Proofs.Ytoepfmodbhfckaa
