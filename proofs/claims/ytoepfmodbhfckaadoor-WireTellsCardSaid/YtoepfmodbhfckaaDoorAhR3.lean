/- The law WireTells: it returns true at every input and leaves each argument as it was, the tables being as the program's text lays them. -/
import Derived.Test.YtoepfmodbhfckaaDoorAhC0
import Derived.Test.YtoepfmodbhfckaaDoorAhQ3
namespace Go.Proofs.YtoepfmodbhfckaaDoor
open Go Go.ChangeShapes Go.WideShapes Go.ChangeAt Go.RowKit Go.Proofs.Av
theorem wireTells_runs (avs:List AV) (hf:ArgsFit cx.P Tryd.f3.params.toList avs):E cx (.fn 3) avs []=some (.ret (.val (.bool true)),[]):=by
 obtain⟨a1,as1,rfl,h1,hf⟩:=args_cons hf
 obtain⟨a2,as2,rfl,h2,hf⟩:=args_cons hf
 obtain⟨a3,as3,rfl,h3,hf⟩:=args_cons hf
 obtain⟨a4,as4,rfl,h4,hf⟩:=args_cons hf
 obtain⟨a5,as5,rfl,h5,hf⟩:=args_cons hf
 obtain⟨a6,as6,rfl,h6,hf⟩:=args_cons hf
 obtain⟨a7,as7,rfl,h7,hf⟩:=args_cons hf
 obtain⟨a8,as8,rfl,h8,hf⟩:=args_cons hf
 obtain⟨a9,as9,rfl,h9,hf⟩:=args_cons hf
 obtain rfl:=args_nil hf
 obtain⟨d0,d1,d2,d3,d4,rfl,_⟩:=arg_data h1
 obtain⟨v,rfl⟩:=arg_vote h2
 obtain⟨x,rfl,g3⟩:=arg_raw h3
 obtain⟨b,rfl,g4⟩:=arg_int h4
 obtain⟨q,rfl,g5⟩:=arg_ints h5
 obtain⟨r0,r1,r2,rfl,_⟩:=arg_rec h6
 obtain⟨s,rfl⟩:=arg_str h7
 obtain⟨a,rfl,g8⟩:=arg_int h8
 obtain⟨c,rfl⟩:=arg_byte h9
 exact c3 d0 d1 d2 d3 d4 v x g3 g4 q g5 r0 r1 r2 s g8 c
set_option maxRecDepth 100000 in
theorem lifted3 (os:Os) (started:os.Started) (H:Type) (enc:TypeId×Value→H):ReturnsInHanded {} Tryd.checked os 3 .any (fun w args=>(Rows.wireTellsSpec.pre enc Tryd.prog Tryd.f3 [] false w args∧laidMetH Tryd.prog laidB w)∧sizedMet enc Tryd.prog Tryd.f3 (OpenSpec.ofChange Rows.wireTellsSpec) false w args) (Rows.wireTellsSpec.post enc Tryd.prog Tryd.f3 false true false false):=by
 refine returnsInHanded_of_change_and (C:=Tryd.checked) (X:=fun w _=>laidMetH Tryd.prog laidB w) (fun _ _ _ hh h=>h.of_heap hh) own started (by kernel_rfl) Tryd.func3
  (ChangeSpec.witness_shaped (enc:=enc) (C:=Tryd.checked) (os:=os) (X:=fun w _=>laidMetH Tryd.prog laidB w) false (World.doorLaid Tryd.prog 400 os) #[.agg #[.int .u64 0,.int .u64 0,.int .u64 0,.int .u64 0,.int .u64 0],.agg #[.int .u64 0,.int .u64 0,.int .u64 0,.int .u64 0,.int .u64 0,.int .i64 0,.slice none 0 0,.bool false,.slice none 0 0],.agg #[.int .i64 0,.int .i64 0,.int .i64 0,.int .i64 0,.int .i64 0,.int .i64 0,.slice none 0 0,.slice none 0 0,.bool false],.int .i64 0,.slice none 0 0,.agg #[.int .u64 0,.int .u64 0,.int .u64 0],.string ⟨#[]⟩,.int .i64 0,.int .u8 0] 8 rfl (World.shaped_of_RefB (by kernel_rfl) (by kernel_rfl)) (by kernel_rfl) (by kernel_rfl) (by kernel_rfl) (door_met os _)) ?_
 intro W base args ds gs before hval hW _ _ hL _
 exact law_calls (cx:=cx) cx_names cx_ext lays (tb:=4) rfl u4 rfl (by kernel_rfl)
  (fun ds hl=>by
   match ds,hl with
   | [d1,d2,d3,d4,d5,d6,d7,d8,d9],_=>rfl)
  (fun avs hf=>wireTells_runs avs hf) hval hW (laid_rel hL)
theorem wireTells_said:Rows.WireTellsSaid :=
 OpenClaim.holds_of_wide 3 Tryd.f3 rfl rfl rfl rfl rfl rfl rfl ⟨rfl,rfl,rfl,rfl,rfl⟩ rfl rfl rfl rfl rfl (by kernel_rfl) Tryd.func3 (by kernel_rfl)
  (of_decide_eq_true (by kernel_rfl)) (by unfold Func.isWrapper;first | (rw [if_pos (by decide +kernel)];kernel_rfl) | (rw [if_neg (by decide +kernel)];exact⟨rfl,rfl⟩))
  (fun os started H enc _=>lifted3 os started H enc)
theorem wireTells_card:Rows.WireTellsCardSaid :=
 Claim7.holds_tied_plain_at .later [] [.data] true (true, "6e6d781352e0f4960c465aae6af642226e018972819bd1d6c17391dd6039fd96") true
  wireTells_said (fun _ h=>by cases h) (by kernel_rfl) (fun _ h=>by cases h) wireTells_row_tie rfl ⟨rfl,rfl⟩ (by kernel_rfl) rfl
  (fun f fn hf hfn=>by
   obtain rfl:f=3:=Option.some.inj ((show Tryd.prog.funcNamed "mootbell/mootbelllaw06.WireTells" =some 3 by kernel_rfl).symm.trans hf) |>.symm
   obtain rfl:fn=Tryd.f3:=(Option.some.inj (Tryd.func3.symm.trans hfn)).symm
   exact⟨by kernel_rfl,fun j t ht=>by
    rw [Tryd.params3] at ht
    have hm:t∈[24,32,35,3,25,37,9,3,5]:=by simpa using Array.mem_of_getElem? ht
    have hall:([24,32,35,3,25,37,9,3,5].all fun u=> !Tryd.prog.wantsStandIn u)=true:=by kernel_rfl
    exact(show Tryd.prog.wantsStandIn t=false by simpa using List.all_eq_true.1 hall t hm)⟩)
  (by kernel_rfl)
end Go.Proofs.YtoepfmodbhfckaaDoor
