/- What every law of this seat needs: the setting's facts; arguments as plain lists. -/
import Derived.Test.YtoepfmodbhfckaaAiSb
import Derived.Test.YtoepfmodbhfckaaAzV
import Derived.ProofKit
import Derived.OpenShut
namespace Go.Proofs.Av
open Go Go.ChangeShapes Go.WideShapes Go.ChangeAt Go.RowKit
theorem own:ownKnob Try.prog.godebug=none:=by kernel_rfl
theorem lays:laidOutB cx.P=true:=by kernel_rfl
theorem no_globals {W:World}:GRel cx (Old W) W:=fun g cs hg=>by cases hg
theorem u3:cx.P.underlying 3=some (.int .i64):=Try.underlying3
theorem u4:cx.P.underlying 4=some .bool:=Try.underlying4
theorem u26:cx.P.underlying 26=some (.int .u64):=Try.underlying26
theorem u23:cx.P.underlying 23=some (.slice 3):=Try.underlying23
theorem arg_int {av:AV}(h:ArgFits cx.P 3 av):∃n,av=vi n∧RI n:=by
 obtain⟨n,hn,hw⟩:=fits_int u3 (arg_one (by rw [isAgg,u3]) h)
 cases hn
 exact⟨n,rfl,wf_i64 hw⟩
theorem arg_u64 {av:AV}(h:ArgFits cx.P 26 av):∃w:Nat,av=vu w∧w<18446744073709551616:=by
 obtain⟨n,hn,hw⟩:=fits_int u26 (arg_one (by rw [isAgg,u26]) h)
 cases hn
 have:=wf_u64 hw
 exact⟨n.toNat,by rw [show((n.toNat:Nat):Int)=n by omega],by omega⟩
theorem arg_bool {av:AV}(h:ArgFits cx.P 4 av):∃b,av=vbool b:=by
 obtain⟨b,hn⟩:=fits_bool u4 (arg_one (by rw [isAgg,u4]) h)
 cases hn
 exact⟨b,rfl⟩
theorem cells3:cx.P.cellsOf 3=1:=by kernel_rfl
theorem arg_ints {av:AV}(h:ArgFits cx.P 23 av):∃l:List Int,av = .list 0 1 (ints l)∧∀a∈l,RI a:=by
 obtain⟨es,he,hl,hf⟩:=fits_slice u23 (arg_one (by rw [isAgg,u23]) h)
 cases he
 obtain⟨l,rfl,h2⟩:=rows_of (fun n=>[vi n]) RI es fun x hx=>by
  obtain⟨n,hn,hw⟩:=fits_int u3 (hf x hx)
  exact⟨n,hn,wf_i64 hw⟩
 exact⟨l,by rw [cells3],h2⟩
theorem u34:cx.P.underlying 34=some (.slice 80):=Try.underlying34
theorem cells80:cx.P.cellsOf 80=2:=by kernel_rfl
theorem u65:cx.P.underlying 65=some (.slice 26):=Try.underlying65
theorem cells26:cx.P.cellsOf 26=1:=by kernel_rfl
theorem arg_u64s {av:AV}(h:ArgFits cx.P 65 av):∃l:List Nat,av = .list 0 1 (rowsN l)∧∀a∈l,U8 a:=by
 obtain⟨es,he,hl,hf⟩:=fits_slice u65 (arg_one (by rw [isAgg,u65]) h)
 cases he
 obtain⟨l,rfl,h2⟩:=rows_of (fun(k:Nat)=>[vu (k:Int)]) U8 es fun x hx=>by
  obtain⟨n,hn,hw⟩:=fits_int u26 (hf x hx)
  have:=wf_u64 hw
  exact⟨n.toNat,by rw [hn,show((n.toNat:Nat):Int)=n by omega],by show n.toNat<_;omega⟩
 exact⟨l,by rw [cells26],h2⟩
def PU (p:P2):Prop:=U8 p.1∧U8 p.2
theorem rowPair {x:List AV}(h:Fits cx.P 80 x):∃p:P2,x=encP p∧PU p:=by
 obtain⟨parts,rfl,hl,hp⟩:=fits_struct Try.underlying80 h
 match parts,hl,hp with
 | [p0,p1],_,hp =>
  obtain⟨a,ha,wa⟩:=fits_int u26 (hp 0 _ p0 rfl rfl)
  obtain⟨b,hb,wb⟩:=fits_int u26 (hp 1 _ p1 rfl rfl)
  have h1:=wf_u64 wa
  have h2:=wf_u64 wb
  refine⟨(a.toNat,b.toNat),?_,by show a.toNat<_;omega,by show b.toNat<_;omega⟩
  subst ha hb
  show [vu a,vu b]=[vu ((a.toNat:Nat):Int),vu ((b.toNat:Nat):Int)]
  rw [Int.toNat_of_nonneg h1.1,Int.toNat_of_nonneg h2.1]
theorem arg_pairs {av:AV}(h:ArgFits cx.P 34 av):∃l:List P2,av = .list 0 2 (prs l)∧∀p∈l,PU p:=by
 obtain⟨es,he,hl,hf⟩:=fits_slice u34 (arg_one (by rw [isAgg,u34]) h)
 cases he
 obtain⟨l,rfl,h2⟩:=rows_of encP PU es fun x hx=>rowPair (hf x hx)
 exact⟨l,by rw [cells80],h2⟩
theorem arg_pair {av:AV}(h:ArgFits cx.P 80 av):∃p:P2,av = .agg [vu p.1,vu p.2]∧PU p:=by
 obtain⟨avs,rfl,hf⟩:=arg_agg (by rw [isAgg,show cx.P.underlying 80=_ from Try.underlying80]) h
 obtain⟨p,rfl,hp⟩:=rowPair hf
 exact⟨p,rfl,hp⟩
end Go.Proofs.Av
