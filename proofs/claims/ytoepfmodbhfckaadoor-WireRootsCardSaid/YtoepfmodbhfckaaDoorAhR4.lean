/- The law WireRoots: it returns true at every input and leaves each argument as it was, the tables being as the program's text lays them. -/
import Derived.Test.YtoepfmodbhfckaaDoorAhC0
import Derived.Test.YtoepfmodbhfckaaDoorAhQ4
namespace Go.Proofs.YtoepfmodbhfckaaDoor
open Go Go.ChangeShapes Go.WideShapes Go.ChangeAt Go.RowKit Go.Proofs.Av
theorem wireRoots_runs (avs:List AV) (hf:ArgsFit cx.P Tryd.f4.params.toList avs):E cx (.fn 4) avs []=some (.ret (.val (.bool true)),[]):=by
 obtain⟨a1,as1,rfl,h1,hf⟩:=args_cons hf
 obtain⟨a2,as2,rfl,h2,hf⟩:=args_cons hf
 obtain⟨a3,as3,rfl,h3,hf⟩:=args_cons hf
 obtain⟨a4,as4,rfl,h4,hf⟩:=args_cons hf
 obtain rfl:=args_nil hf
 obtain⟨d0,d1,d2,d3,d4,rfl,u0,u1,u2,u3,u4⟩:=arg_data h1
 obtain⟨w,rfl,g2⟩:=arg_int h2
 obtain⟨a,rfl,g3⟩:=arg_int h3
 obtain⟨c,rfl⟩:=arg_byte h4
 exact c4 u0 u1 u2 u3 u4 g2 g3 c
set_option maxRecDepth 100000 in
theorem lifted4 (os:Os) (started:os.Started) (H:Type) (enc:TypeId×Value→H):ReturnsInHanded {} Tryd.checked os 4 .any (fun w args=>(Rows.wireRootsSpec.pre enc Tryd.prog Tryd.f4 [] false w args∧laidMetH Tryd.prog laidB w)∧sizedMet enc Tryd.prog Tryd.f4 (OpenSpec.ofChange Rows.wireRootsSpec) false w args) (Rows.wireRootsSpec.post enc Tryd.prog Tryd.f4 false true false false):=by
 refine returnsInHanded_of_change_and (C:=Tryd.checked) (X:=fun w _=>laidMetH Tryd.prog laidB w) (fun _ _ _ hh h=>h.of_heap hh) own started (by kernel_rfl) Tryd.func4
  (ChangeSpec.witness_shaped (enc:=enc) (C:=Tryd.checked) (os:=os) (X:=fun w _=>laidMetH Tryd.prog laidB w) false (World.doorLaid Tryd.prog 400 os) #[.agg #[.int .u64 0,.int .u64 0,.int .u64 0,.int .u64 0,.int .u64 0],.int .i64 0,.int .i64 0,.int .u8 0] 8 rfl (World.shaped_of_RefB (by kernel_rfl) (by kernel_rfl)) (by kernel_rfl) (by kernel_rfl) (by kernel_rfl) (door_met os _)) ?_
 intro W base args ds gs before hval hW _ _ hL _
 exact law_calls (cx:=cx) cx_names cx_ext lays (tb:=4) rfl u4 rfl (by kernel_rfl)
  (fun ds hl=>by
   match ds,hl with
   | [d1,d2,d3,d4],_=>rfl)
  (fun avs hf=>wireRoots_runs avs hf) hval hW (laid_rel hL)
theorem wireRoots_said:Rows.WireRootsSaid :=
 OpenClaim.holds_of_wide 4 Tryd.f4 rfl rfl rfl rfl rfl rfl rfl ⟨rfl,rfl,rfl,rfl,rfl⟩ rfl rfl rfl rfl rfl (by kernel_rfl) Tryd.func4 (by kernel_rfl)
  (of_decide_eq_true (by kernel_rfl)) (by unfold Func.isWrapper;first | (rw [if_pos (by decide +kernel)];kernel_rfl) | (rw [if_neg (by decide +kernel)];exact⟨rfl,rfl⟩))
  (fun os started H enc _=>lifted4 os started H enc)
theorem wireRoots_card:Rows.WireRootsCardSaid :=
 Claim7.holds_tied_plain_at .later [] [.data] true (true, "6e6d781352e0f4960c465aae6af642226e018972819bd1d6c17391dd6039fd96") true
  wireRoots_said (fun _ h=>by cases h) (by kernel_rfl) (fun _ h=>by cases h) wireRoots_row_tie rfl ⟨rfl,rfl⟩ (by kernel_rfl) rfl
  (fun f fn hf hfn=>by
   obtain rfl:f=4:=Option.some.inj ((show Tryd.prog.funcNamed "mootbell/mootbelllaw06.WireRoots" =some 4 by kernel_rfl).symm.trans hf) |>.symm
   obtain rfl:fn=Tryd.f4:=(Option.some.inj (Tryd.func4.symm.trans hfn)).symm
   exact⟨by kernel_rfl,fun j t ht=>by
    rw [Tryd.params4] at ht
    have hm:t∈[24,3,3,5]:=by simpa using Array.mem_of_getElem? ht
    have hall:([24,3,3,5].all fun u=> !Tryd.prog.wantsStandIn u)=true:=by kernel_rfl
    exact(show Tryd.prog.wantsStandIn t=false by simpa using List.all_eq_true.1 hall t hm)⟩)
  (by kernel_rfl)
end Go.Proofs.YtoepfmodbhfckaaDoor
