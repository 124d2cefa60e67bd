/- What every law of this seat needs: the table as laid, the door's own heap; arguments as plain values. -/
import Derived.Test.YtoepfmodbhfckaaDoorAhS
import Derived.Test.YtoepfmodbhfckaaDoorAhW
import Derived.Test.YtoepfmodbhfckaaDoorAzV
import Derived.Test.YtoepfmodbhfckaaDoorTie
import Derived.Test.YtoepfmodbhfckaaDoorCards
import Derived.ProofKit
import Derived.LaidMore
import Derived.OpenShut
import Derived.Stop.Joined
import Derived.SevenTiedAt
namespace Go.Proofs.Av
open Go Go.ChangeShapes Go.WideShapes Go.ChangeAt Go.RowKit Go.Proofs.YtoepfmodbhfckaaDoor
abbrev laidB:List (String×DataW Unit):=[("mootbell/churn.sum",Rows.laid_mootbell_churn_sum)]
theorem own:ownKnob Tryd.prog.godebug=none:=by kernel_rfl
theorem lays:laidOutB cx.P=true:=by kernel_rfl
theorem u3:cx.P.underlying 3=some (.int .i64):=Tryd.underlying3
theorem u4:cx.P.underlying 4=some .bool:=Tryd.underlying4
theorem u22:cx.P.underlying 22=some (.int .u64):=Tryd.underlying22
theorem u5:cx.P.underlying 5=some (.int .u8):=Tryd.underlying5
theorem u9:cx.P.underlying 9=some .string:=Tryd.underlying9
theorem u25:cx.P.underlying 25=some (.slice 3):=Tryd.underlying25
theorem u28:cx.P.underlying 28=some (.slice 98):=Tryd.underlying28
theorem laid_rel {W:World}(h:laidMetH cx.P laidB W):GRel cx (Old W) W:=by
 refine grel_laid laidB (by intro x hx;simp only [List.mem_singleton] at hx;subst hx;rfl) h fun g cs hg=> ?_
 change GL g=some cs at hg
 unfold GL at hg
 cases hb:Nat.beq g 0 with
 |true =>
  rw [hb] at hg
  have:=Nat.eq_of_beq_eq_true hb
  subst this
  cases hg
  exact⟨_,List.mem_singleton.2 rfl,by kernel_rfl,118,by kernel_rfl,by kernel_rfl⟩
 |false =>
  rw [hb] at hg
  cases hg
theorem door_met (os:Os) (args:Array Value):laidMetH Tryd.prog laidB ((World.doorLaid Tryd.prog 400 os).forCall (fun _ _=>0) ⟨#[],args,[]⟩).memory :=
 laidMetH_of_parts3 (fuel:=8) (laidMet_of_run' 8 (by kernel_rfl) (by kernel_rfl)) (by kernel_rfl) (by kernel_rfl)
theorem arg_int {av:AV}(h:ArgFits cx.P 3 av):∃n,av=vi n∧RI n:=by
 obtain⟨n,hn,hw⟩:=fits_int u3 (arg_one (by rw [isAgg,u3]) h)
 cases hn
 exact⟨n,rfl,wf_i64 hw⟩
theorem arg_byte {av:AV}(h:ArgFits cx.P 5 av):∃c:UInt8,av=vb c.toNat:=by
 obtain⟨n,hn,hw⟩:=fits_int u5 (arg_one (by rw [isAgg,u5]) h)
 cases hn
 have h2:=wf_u8 hw
 exact⟨UInt8.ofNat n.toNat,by rw [UInt8.toNat_ofNat',Nat.mod_eq_of_lt (show n.toNat<2 ^ 8 by omega),show((n.toNat:Nat):Int)=n by omega]⟩
theorem arg_str {av:AV}(h:ArgFits cx.P 9 av):∃l,av=vs (mk l):=by
 obtain⟨s,hn,_⟩:=fits_str u9 (arg_one (by rw [isAgg,u9]) h)
 cases hn
 obtain⟨l,rfl⟩:=str_eta s
 exact⟨l,rfl⟩
theorem cells3:cx.P.cellsOf 3=1:=by kernel_rfl
theorem cells98:cx.P.cellsOf 98=2:=by kernel_rfl
theorem fit_ints {x:List AV}(h:Fits cx.P 25 x):∃l:List Int,x=[.list 0 1 (ints l)]∧∀a∈l,RI a:=by
 obtain⟨es,he,hl,hf⟩:=fits_slice u25 h
 obtain⟨l,rfl,h2⟩:=rows_of (fun n=>[vi n]) RI es fun x hx=>by
  obtain⟨n,hn,hw⟩:=fits_int u3 (hf x hx)
  exact⟨n,hn,wf_i64 hw⟩
 rw [cells3] at he
 exact⟨l,he,h2⟩
theorem fit_u64 {x:List AV}(h:Fits cx.P 22 x):∃w:Nat,x=[vu w]∧U8 w:=by
 obtain⟨n,e,w⟩:=fits_int u22 h
 have hw:=wf_u64 w
 refine⟨n.toNat,?_,by unfold U8;omega⟩
 rw [e,show((n.toNat:Nat):Int)=n by omega]
theorem rowPair {x:List AV}(h:Fits cx.P 98 x):∃p:P2,x=encP p∧True:=by
 obtain⟨parts,rfl,hl,hp⟩:=fits_struct Tryd.underlying98 h
 match parts,hl,hp with
 | [p0,p1],_,hp =>
  obtain⟨a,e0,_⟩:=fit_u64 (hp 0 _ p0 rfl rfl)
  obtain⟨b,e1,_⟩:=fit_u64 (hp 1 _ p1 rfl rfl)
  subst e0 e1
  exact⟨(a,b),rfl,trivial⟩
theorem fit_pairs {x:List AV}(h:Fits cx.P 28 x):∃l:List P2,x=[.list 0 2 (prs l)]:=by
 obtain⟨es,he,hl,hf⟩:=fits_slice u28 h
 obtain⟨l,rfl,_⟩:=rows_of encP (fun _=>True) es fun x hx=>rowPair (hf x hx)
 rw [cells98] at he
 exact⟨l,he⟩
theorem arg_ints {av:AV}(h:ArgFits cx.P 25 av):∃l:List Int,av = .list 0 1 (ints l)∧∀a∈l,RI a:=by
 obtain⟨l,e,h2⟩:=fit_ints (arg_one (by rw [isAgg,u25]) h)
 cases e
 exact⟨l,rfl,h2⟩
theorem fit_data {x:List AV}(h:Fits cx.P 24 x):∃a b c d e:Nat,x=[vu a,vu b,vu c,vu d,vu e]∧U8 a∧U8 b∧U8 c∧U8 d∧U8 e:=by
 obtain⟨parts,rfl,hl,hp⟩:=fits_struct Tryd.underlying24 h
 match parts,hl,hp with
 | [p0,p1,p2,p3,p4],_,hp =>
  obtain⟨a,e0,h0⟩:=fit_u64 (hp 0 _ p0 rfl rfl)
  obtain⟨b,e1,h1⟩:=fit_u64 (hp 1 _ p1 rfl rfl)
  obtain⟨c,e2,h2⟩:=fit_u64 (hp 2 _ p2 rfl rfl)
  obtain⟨d,e3,h3⟩:=fit_u64 (hp 3 _ p3 rfl rfl)
  obtain⟨e,e4,h4⟩:=fit_u64 (hp 4 _ p4 rfl rfl)
  subst e0 e1 e2 e3 e4
  exact⟨a,b,c,d,e,rfl,h0,h1,h2,h3,h4⟩
theorem arg_data {av:AV}(h:ArgFits cx.P 24 av):∃a b c d e:Nat,av = .agg [vu a,vu b,vu c,vu d,vu e]∧U8 a∧U8 b∧U8 c∧U8 d∧U8 e:=by
 obtain⟨avs,rfl,hf⟩:=arg_agg (by rw [isAgg,show cx.P.underlying 24=_ from Tryd.underlying24]) h
 obtain⟨a,b,c,d,e,rfl,hh⟩:=fit_data hf
 exact⟨a,b,c,d,e,rfl,hh⟩
theorem arg_rec {av:AV}(h:ArgFits cx.P 37 av):∃a b c:Nat,av = .agg [vu a,vu b,vu c]∧U8 a∧U8 b∧U8 c:=by
 obtain⟨avs,rfl,hf⟩:=arg_agg (by rw [isAgg,show cx.P.underlying 37=_ from Tryd.underlying37]) h
 obtain⟨parts,rfl,hl,hp⟩:=fits_struct Tryd.underlying37 hf
 match parts,hl,hp with
 | [p0,p1,p2],_,hp =>
  obtain⟨a,e0,h0⟩:=fit_u64 (hp 0 _ p0 rfl rfl)
  obtain⟨b,e1,h1⟩:=fit_u64 (hp 1 _ p1 rfl rfl)
  obtain⟨c,e2,h2⟩:=fit_u64 (hp 2 _ p2 rfl rfl)
  subst e0 e1 e2
  exact⟨a,b,c,rfl,h0,h1,h2⟩
theorem fit_bits {x:List AV}(h:Fits cx.P 27 x):∃(n:Int) (l:List Int),x=[vi n,.list 0 1 (ints l)]:=by
 obtain⟨parts,rfl,hl,hp⟩:=fits_struct Tryd.underlying27 h
 match parts,hl,hp with
 | [p0,p1],_,hp =>
  obtain⟨n,e0,_⟩:=fits_int u3 (hp 0 _ p0 rfl rfl)
  obtain⟨l,e1,_⟩:=fit_ints (hp 1 _ p1 rfl rfl)
  subst e0 e1
  exact⟨n,l,rfl⟩
theorem fit_tok {x:List AV}(h:Fits cx.P 30 x):∃(f:Bool) (l:List P2),x=[vbool f,.list 0 2 (prs l)]:=by
 obtain⟨parts,rfl,hl,hp⟩:=fits_struct Tryd.underlying30 h
 match parts,hl,hp with
 | [p0,p1],_,hp =>
  obtain⟨f,e0⟩:=fits_bool u4 (hp 0 _ p0 rfl rfl)
  obtain⟨l,e1⟩:=fit_pairs (hp 1 _ p1 rfl rfl)
  subst e0 e1
  exact⟨f,l,rfl⟩
theorem arg_vote {av:AV}(h:ArgFits cx.P 32 av):∃v:Vt,av = .agg (vC v):=by
 obtain⟨avs,rfl,hf⟩:=arg_agg (by rw [isAgg,show cx.P.underlying 32=_ from Tryd.underlying32]) h
 obtain⟨parts,rfl,hl,hp⟩:=fits_struct Tryd.underlying32 hf
 match parts,hl,hp with
 | [p0,p1,p2],_,hp =>
  obtain⟨a,b,c,d,e,e0,_⟩:=fit_data (hp 0 _ p0 rfl rfl)
  obtain⟨n,l,e1⟩:=fit_bits (hp 1 _ p1 rfl rfl)
  obtain⟨f,q,e2⟩:=fit_tok (hp 2 _ p2 rfl rfl)
  subst e0 e1 e2
  exact⟨⟨a,b,c,d,e,n,l,f,q⟩,rfl⟩
theorem arg_raw {av:AV}(h:ArgFits cx.P 35 av):∃x:Rw,av = .agg (rC x)∧RwOk x:=by
 obtain⟨avs,rfl,hf⟩:=arg_agg (by rw [isAgg,show cx.P.underlying 35=_ from Tryd.underlying35]) h
 obtain⟨parts,rfl,hl,hp⟩:=fits_struct Tryd.underlying35 hf
 match parts,hl,hp with
 | [p0,p1,p2,p3,p4],_,hp =>
  obtain⟨qs,e0,l0,h0⟩:=fits_array Tryd.underlying33 (hp 0 _ p0 rfl rfl)
  obtain⟨ns,f0,f1,f2⟩:=parts_i64 u3 qs h0
  obtain⟨n,e1,w1⟩:=fits_int u3 (hp 1 _ p1 rfl rfl)
  obtain⟨l,e2,h2⟩:=fit_ints (hp 2 _ p2 rfl rfl)
  obtain⟨l',e3,h3⟩:=fit_ints (hp 3 _ p3 rfl rfl)
  obtain⟨b,e4⟩:=fits_bool u4 (hp 4 _ p4 rfl rfl)
  rw [l0] at f1
  match ns,f1,f2,f0 with
  | [a,b1,c,d,e],_,f2,f0 =>
   subst e1 e2 e3 e4
   rw [f0] at e0
   subst e0
   refine⟨⟨a,b1,c,d,e,n,l,l',b⟩,rfl,⟨f2 a (by simp),f2 b1 (by simp),f2 c (by simp),f2 d (by simp),f2 e (by simp),wf_i64 w1,h2,h3⟩⟩
end Go.Proofs.Av
