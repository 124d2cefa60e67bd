/- The law OracleForged: it returns true at every input and leaves each argument as it was. -/
import Derived.Test.YtoepfmodbhfckaaAiC0
import Derived.Test.YtoepfmodbhfckaaAiQ22
import Derived.Test.YtoepfmodbhfckaaAiHa
import Derived.Stop.Joined
namespace Go.Proofs.Ytoepfmodbhfckaa
open Go Go.ChangeShapes Go.WideShapes Go.ChangeAt Go.RowKit Go.Proofs.Av
theorem oracleForged_runs (avs:List AV) (hf:ArgsFit cx.P Try.f22.params.toList avs):E cx (.fn 22) avs []=some (.ret (.val (.bool true)),[]):=by
 obtain⟨a1,as1,rfl,h1,hf⟩:=args_cons hf
 obtain⟨a2,as2,rfl,h2,hf⟩:=args_cons hf
 obtain⟨a3,as3,rfl,h3,hf⟩:=args_cons hf
 obtain⟨a4,as4,rfl,h4,hf⟩:=args_cons hf
 obtain⟨a5,as5,rfl,h5,hf⟩:=args_cons hf
 obtain rfl:=args_nil hf
 obtain⟨x1,rfl,g1⟩:=arg_pairs h1
 obtain⟨x2,rfl,g2⟩:=arg_ints h2
 obtain⟨x3,rfl,g3⟩:=arg_u64s h3
 obtain⟨x4,rfl,g4⟩:=arg_u64 h4
 obtain⟨x5,rfl,g5⟩:=arg_ints h5
 exact law22 x1 x2 x3 x4 x5 g2 g3 g5
set_option maxRecDepth 100000 in
theorem lifted22 (os:Os) (started:os.Started) (H:Type) (enc:TypeId×Value→H):ReturnsInHanded {} Try.checked os 22 .any (Rows.oracleForgedSpec.pre6 enc Try.prog Try.f22 Rows.oracleForgedRow.domain false) (Rows.oracleForgedSpec.post enc Try.prog Try.f22 false true false false):=by
 refine returnsInHanded_of_change (C:=Try.checked) own started (by kernel_rfl) Try.func22
  (ChangeSpec.witness6 (enc:=enc) (C:=Try.checked) false ⟨#[],#[.slice none 0 0,.slice none 0 0,.slice none 0 0,.int .u64 0,.slice none 0 0],[]⟩ 8 (by kernel_rfl) (by kernel_rfl) (by kernel_rfl) (by kernel_rfl)) ?_
 intro W base args ds gs before hval hW hcnd _
 exact law_calls (cx:=cx) cx_names cx_ext lays (tb:=4) rfl u4 rfl (by kernel_rfl)
  (fun ds hl=>by
   match ds,hl with
   | [d1,d2,d3,d4,d5],_=>rfl)
  (fun avs hf=>oracleForged_runs avs hf) hval hW no_globals
theorem closed22:joinedFacts Try.prog 22 Try.f22 Rows.oracleForgedSpec Rows.oracleForgedRow=true :=
 joined_of (P:=Try.prog) (f:=22) (fn:=Try.f22) (s:=Rows.oracleForgedSpec) (c:=Rows.oracleForgedRow) (by kernel_rfl) k_enter k_lifts rfl k_make rfl (by kernel_rfl) (by kernel_rfl) (by kernel_rfl) (by kernel_rfl)
theorem inst22:Try.f22.isInstance Try.prog "" []:=instance_of (by kernel_rfl) (by kernel_rfl) (by kernel_rfl)
theorem wrap22:Try.f22.isWrapper Try.prog false "" :=wrapper_of (P:=Try.prog) (fn:=Try.f22) (by kernel_rfl)
theorem named22:Try.prog.funcNamed Rows.oracleForgedRow.func=some 22:=by kernel_rfl
theorem oracleForged_said:Rows.OracleForgedSaid :=
 OpenClaim.holds_of_wide (p:=Try.pinned) 22 Try.f22 rfl rfl rfl rfl rfl rfl rfl ⟨rfl,rfl,rfl,rfl,rfl⟩ rfl rfl rfl rfl rfl named22 Try.func22
  closed22 inst22 wrap22
  (fun os started H enc _=>lifted22 os started H enc)
end Go.Proofs.Ytoepfmodbhfckaa
