/- From an abstract run of a law to what its row asks. -/
import Derived.Test.YtoepfmodbhfckaaAzR
import Derived.Carry
import Derived.RowKit
import Derived.RowKitTokens
namespace Go.Proofs.Av
open Go Go.ChangeShapes Go.RowKit
def isAgg (P:Program) (t:TypeId):Bool:=match P.underlying t with
 |some (.struct _) |some (.array _ _)=>true
 | _=>false
inductive ArgFits (P:Program):TypeId→AV→Prop
 |agg {t:TypeId}{avs:List AV}(h:isAgg P t=true) (hf:Fits P t avs):ArgFits P t (.agg avs)
 |one {t:TypeId}{av:AV}(h:isAgg P t=false) (hf:Fits P t [av]):ArgFits P t av
inductive ArgsFit (P:Program):List TypeId→List AV→Prop
 |nil:ArgsFit P [] []
 |cons {t:TypeId}{ts:List TypeId}{a:AV}{as:List AV}(h:ArgFits P t a) (hs:ArgsFit P ts as):ArgsFit P (t::ts) (a::as)
def typeOk (P:Program) (t:TypeId):Bool:=plainT P 8 t&&layOk P 8 t&&P.readableRec t&&Nat.blt t P.types.size
section
variable {H:Type}{enc:TypeId×Value→H}{P:Program}{w:World}{base:Nat}{r:Reach}
theorem arg_fits {t:TypeId}{v:Value}{d:DataW H}{ps:List MemPlace}(hp:plainT P 8 t=true) (hl:layOk P 8 t=true) (hd:DataW.Trod enc P w 0 (fun _=>true) true t v d ps) (hval:Value.okWide P w r base t v):∃av,Rep (Old w) w Mu.none av v∧ArgFits P t av:=by
 obtain⟨fuel,hf⟩:=hd
 obtain⟨avs,hr,hfit⟩:=trod_fits _ _ _ _ _ _ hp hl hf
 cases ha:isAgg P t with
 |true =>
  have:∃cs,v = .agg cs:=by
   unfold isAgg at ha
   unfold Value.okWide at hval
   split at ha
   ·rename_i h;rw [h] at hval;obtain⟨cs,h,_⟩:=hval;exact⟨cs,h⟩
   ·rename_i h;rw [h] at hval;obtain⟨cs,h,_⟩:=hval;exact⟨cs,h⟩
   ·cases ha
  obtain⟨cs,rfl⟩:=this
  have:=Rep.of_agg hr
  simp only [Value.cells,Array.toArray_toList] at this
  exact⟨.agg avs,this,.agg ha hfit⟩
 |false =>
  have one:∃av,avs=[av]:=by
   cases hfit with
   |bool=>exact⟨_,rfl⟩
   |int=>exact⟨_,rfl⟩
   |float=>exact⟨_,rfl⟩
   |string=>exact⟨_,rfl⟩
   |slice=>exact⟨_,rfl⟩
   |struct h=>simp [isAgg,h] at ha
   |array h=>simp [isAgg,h] at ha
  obtain⟨av,rfl⟩:=one
  refine⟨av,?_,.one ha hfit⟩
  have hv:v.cells.toList=[v]:=by
   cases v<;>first |rfl |skip
   exfalso
   unfold plainT at hp
   unfold Value.okWide at hval
   unfold isAgg at ha
   cases hu:P.underlying t with
   |none=>rw [hu] at hp;cases hp
   |some d =>
    rw [hu] at hp hval ha
    cases d<;>first | (cases hp;done) | (cases ha;done) |skip
    all_goals simp [Cell.okWide,Cell.ok,hu] at hval
  rw [hv] at hr
  obtain⟨u,r',h1,h2,h3⟩:=hr.inv_cons
  cases h1
  exact h2
theorem args_fit:∀ {ts:List TypeId}{vs:List Value}{ds:List (DataW H)}{ps:List MemPlace},ts.all (typeOk P)=true→DataW.TrodAll enc P w 0 (fun _=>true) true ts vs ds ps →
  (∀(j:Nat) t v,ts[j]?=some t→vs[j]?=some v→Value.okWide P w r base t v)→∃avs,Reps (Old w) w Mu.none avs vs∧ArgsFit P ts avs
 | [],[],[],ps,_,h,_=>⟨[],.nil,.nil⟩
 |t::ts,v::vs,d::ds,ps,ht,h,hv=>by
  obtain⟨p,q,h1,h2,_⟩:=h
  simp only [List.all_cons,Bool.and_eq_true,typeOk] at ht
  obtain⟨⟨⟨⟨a,b⟩,_⟩,_⟩,hts⟩:=ht
  obtain⟨av,h3,h4⟩:=arg_fits a b h1 (hv 0 t v rfl rfl)
  obtain⟨avs,h5,h6⟩:=args_fit (ts:=ts) hts h2 fun j t v h h'=>hv (j+1) t v h h'
  exact⟨av::avs,h5.cons h3,.cons h4 h6⟩
 | [],_::_,_,_,_,h,_=>h.elim
 | [],[],_::_,_,_,h,_=>h.elim
 | _::_,[],_,_,_,h,_=>h.elim
 | _::_,_::_,[],_,_,h,_=>h.elim
theorem args_stay (hl:laidOutB P=true) {W W':World}(hb:Below W.heap.size W W') {sp:Nat→Bool}:∀ {ts:List TypeId}{vs:List Value}{ds:List (DataW H)}{ps:List MemPlace},ts.all (typeOk P)=true →
  DataW.TrodAll enc P W 0 (fun _=>true) true ts vs ds ps→(∀p∈ps,p.block<W.heap.size)→(∀p∈ps,sp p.block=true)→DataW.TrodAll enc P W' 0 sp true ts vs ds ps
 | [],[],[],ps,_,h,_,_=>h
 |t::ts,v::vs,d::ds,ps,ht,h,hlt,hsp=>by
  obtain⟨p,q,h1,h2,rfl⟩:=h
  simp only [List.all_cons,Bool.and_eq_true,typeOk] at ht
  obtain⟨⟨⟨_,c⟩,e⟩,hts⟩:=ht
  refine⟨p,q,WideElems.Trod_stays hl c (by simpa using e) h1 (fun x hx=>hb.same (hlt x (List.mem_append_left _ hx))) (fun x hx=>hsp x (List.mem_append_left _ hx)),
   args_stay hl hb hts h2 (fun x hx=>hlt x (List.mem_append_right _ hx)) (fun x hx=>hsp x (List.mem_append_right _ hx)),rfl⟩
 | [],_::_,_,_,_,h,_,_=>h.elim
 | [],[],_::_,_,_,h,_,_=>h.elim
 | _::_,[],_,_,_,h,_,_=>h.elim
 | _::_,_::_,[],_,_,h,_,_=>h.elim
theorem law_calls {cx:Cx}(hn:NamesOk cx.P) (hX:ExtSound cx) (hlay:laidOutB cx.P=true) {f:FuncId}{fn:Func}{s:ChangeSpec}{apart fresh handsOn again:Bool}(hvars:s.vars=[]) {tb:TypeId}(htb:cx.P.underlying tb=some .bool) (hrt:fn.resultTypes= #[tb]) (hts:fn.params.toList.all (typeOk cx.P)=true) (hs:∀(ds:List (DataW H)),ds.length=fn.params.size→s.fn H ds= { results:=[.lit (.bool true)],args:=ds }) (hE:∀avs,ArgsFit cx.P fn.params.toList avs→E cx (.fn f) avs []=some (.ret (.val (.bool true)),[])) {W:World}{args:Array Value}{ds gs:List (DataW H)}{before:List MemPlace}(hval:∀(j:Nat) t v,fn.params[j]?=some t→args[j]?=some v→Value.okWide cx.P W .any base t v) (hW:DataW.Whole enc cx.P fn.params.toList s.vars apart W args.toList ds gs before) (hG:GRel cx (Old W) W):Calls cx.P f args W fun e W'=>∃v,e = .returned v∧s.post enc cx.P fn apart fresh handsOn again W args v W':=by
 have hW':=hW
 obtain⟨p,q,hA,hV,hpq,hfz,hnd⟩:=hW
 have hqs:gs=[]∧q=[]:=by
  rw [hvars] at hV
  cases gs with
  |nil=>exact⟨rfl,hV⟩
  |cons _ _=>exact hV.elim
 obtain⟨rfl,rfl⟩:=hqs
 rw [List.append_nil] at hpq
 subst hpq
 obtain⟨avs,hr,hf⟩:=args_fit hts hA fun j t v h h'=>hval j t v (by simpa using h) (by simpa using h')
 have hlen:ds.length=fn.params.size:=by
  have:∀ {ts:List TypeId}{vs:List Value}{ds:List (DataW H)}{ps:List MemPlace},DataW.TrodAll enc cx.P W 0 (fun _=>true) true ts vs ds ps→ds.length=ts.length:=by
   intro ts
   induction ts with
   |nil=>intro vs ds ps h;cases vs<;>cases ds<;>first |rfl |exact h.elim
   |cons t ts ih =>
    intro vs ds ps h
    cases vs<;>cases ds<;>first |exact h.elim |skip
    obtain⟨_,_,_,h2,_⟩:=h
    simp [ih h2]
  simpa using this hA
 have key:=((E_sound hn hX f avs _ (hE avs hf)).2 (Old W) W args.toList (fun b hb=>hb) hG hr)
 simp only [Array.toArray_toList] at key
 refine key.mono fun e W' ⟨cv,S',he,hcv,hg⟩=>⟨cv,he,?_⟩
 have:=hcv.inv_val
 subst this
 have hbel:Below W.heap.size W W':=⟨hg.os,hg.tape,hg.output.out,hg.le,fun k hk=>hg.ext k hk⟩
 have hsf:=hs ds hlen
 refine⟨ds,[],before,[],before,[],hW',?_,?_,?_,hbel.frame _,fun _=> ?_⟩
 ·rw [List.append_nil,hsf,hrt]
  exact trodAll_mk1 (shut_bool htb true)
 ·rw [List.append_nil,hsf]
  exact args_stay hlay hbel hts hA hW'.lt (fun x hx=>by simpa using hW'.lt x hx)
 ·rw [List.append_nil,hsf,hvars]
  rfl
 ·refine⟨ok_one hrt rfl (okWide_bool_mk htb true),.lit (.bool true)::ds,[],before,⟨before,[],?_,?_,by simp,?_,hnd⟩,fun x hx _=>hx⟩
  ·rw [hrt]
   exact⟨[],before,shut_bool htb true,args_stay hlay hbel hts hA hW'.lt (fun _ _=>rfl),rfl⟩
  ·rw [hvars];rfl
  ·intro b off hm
   rw [←hfz b off hm]
   exact hbel.frozen (hW'.lt _ hm)
end
end Go.Proofs.Av
