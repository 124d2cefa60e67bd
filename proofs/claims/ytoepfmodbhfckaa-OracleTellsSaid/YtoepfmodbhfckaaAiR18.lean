/- The law OracleTells: it returns true at every input and leaves each argument as it was. -/
import Derived.Test.YtoepfmodbhfckaaAiC0
import Derived.Test.YtoepfmodbhfckaaAiK18
import Derived.Test.YtoepfmodbhfckaaAiHa
import Derived.Stop.Joined
namespace Go.Proofs.Ytoepfmodbhfckaa
open Go Go.ChangeShapes Go.WideShapes Go.ChangeAt Go.RowKit Go.Proofs.Av
theorem oracleTells_runs (avs:List AV) (hf:ArgsFit cx.P Try.f18.params.toList avs):E cx (.fn 18) avs []=some (.ret (.val (.bool true)),[]):=by
 obtain⟨a1,as1,rfl,h1,hf⟩:=args_cons hf
 obtain⟨a2,as2,rfl,h2,hf⟩:=args_cons hf
 obtain⟨a3,as3,rfl,h3,hf⟩:=args_cons hf
 obtain⟨a4,as4,rfl,h4,hf⟩:=args_cons hf
 obtain⟨a5,as5,rfl,h5,hf⟩:=args_cons hf
 obtain⟨a6,as6,rfl,h6,hf⟩:=args_cons hf
 obtain⟨a7,as7,rfl,h7,hf⟩:=args_cons hf
 obtain⟨a8,as8,rfl,h8,hf⟩:=args_cons hf
 obtain⟨a9,as9,rfl,h9,hf⟩:=args_cons hf
 obtain rfl:=args_nil hf
 obtain⟨x1,rfl,g1⟩:=arg_pairs h1
 obtain⟨x2,rfl,g2⟩:=arg_ints h2
 obtain⟨x3,rfl,g3⟩:=arg_pairs h3
 obtain⟨x4,rfl,g4⟩:=arg_u64s h4
 obtain⟨x5,rfl,g5⟩:=arg_ints h5
 obtain⟨x6,rfl,g6⟩:=arg_u64 h6
 obtain⟨x7,rfl,g7⟩:=arg_ints h7
 obtain⟨x8,rfl⟩:=arg_bool h8
 obtain⟨x9,rfl,g9⟩:=arg_pair h9
 exact law18 x1 x2 x3 x4 x5 x6 x7 x8 x9 g1 g2 g3 g4 g5 g6 g7 g9
set_option maxRecDepth 100000 in
theorem lifted18 (os:Os) (started:os.Started) (H:Type) (enc:TypeId×Value→H):ReturnsInHanded {} Try.checked os 18 .any (Rows.oracleTellsSpec.pre6 enc Try.prog Try.f18 Rows.oracleTellsRow.domain false) (Rows.oracleTellsSpec.post enc Try.prog Try.f18 false true false false):=by
 refine returnsInHanded_of_change (C:=Try.checked) own started (by kernel_rfl) Try.func18
  (ChangeSpec.witness6 (enc:=enc) (C:=Try.checked) false ⟨#[],#[.slice none 0 0,.slice none 0 0,.slice none 0 0,.slice none 0 0,.slice none 0 0,.int .u64 0,.slice none 0 0,.bool false,.agg #[.int .u64 0,.int .u64 0]],[]⟩ 8 (by kernel_rfl) (by kernel_rfl) (by kernel_rfl) (by kernel_rfl)) ?_
 intro W base args ds gs before hval hW hcnd _
 exact law_calls (cx:=cx) cx_names cx_ext lays (tb:=4) rfl u4 rfl (by kernel_rfl)
  (fun ds hl=>by
   match ds,hl with
   | [d1,d2,d3,d4,d5,d6,d7,d8,d9],_=>rfl)
  (fun avs hf=>oracleTells_runs avs hf) hval hW no_globals
theorem closed18:joinedFacts Try.prog 18 Try.f18 Rows.oracleTellsSpec Rows.oracleTellsRow=true :=
 joined_of (P:=Try.prog) (f:=18) (fn:=Try.f18) (s:=Rows.oracleTellsSpec) (c:=Rows.oracleTellsRow) (by kernel_rfl) k_enter k_lifts rfl k_make rfl (by kernel_rfl) (by kernel_rfl) (by kernel_rfl) (by kernel_rfl)
theorem inst18:Try.f18.isInstance Try.prog "" []:=instance_of (by kernel_rfl) (by kernel_rfl) (by kernel_rfl)
theorem wrap18:Try.f18.isWrapper Try.prog false "" :=wrapper_of (P:=Try.prog) (fn:=Try.f18) (by kernel_rfl)
theorem named18:Try.prog.funcNamed Rows.oracleTellsRow.func=some 18:=by kernel_rfl
theorem oracleTells_said:Rows.OracleTellsSaid :=
 OpenClaim.holds_of_wide (p:=Try.pinned) 18 Try.f18 rfl rfl rfl rfl rfl rfl rfl ⟨rfl,rfl,rfl,rfl,rfl⟩ rfl rfl rfl rfl rfl named18 Try.func18
  closed18 inst18 wrap18
  (fun os started H enc _=>lifted18 os started H enc)
end Go.Proofs.Ytoepfmodbhfckaa
