/- AiHa -/
import Derived.Test.YtoepfmodbhfckaaAiC0
import Derived.Stop.Joined
import Derived.KernelRfl
set_option maxRecDepth 100000
namespace Go.Proofs.Av
open Go Go.ChangeShapes Go.WideShapes Go.ChangeAt Go.RowKit Go.Proofs.Av
def headSigns:List Char:=['h', 'a', 'r', 'n', 'e', 's', 's', ' ', '6', '0', 'a', '1', '8', 'b', '0', 'e', '1', 'b', '7', '9', '3', 'a', '9', 'a', 'd', '6', '4', 'b', 'f', 'f', '2', '5', 'f', '6', 'a', '4', 'a', '4', '3', '1', 'e', 'd', 'c', 'd', '4', 'd', '1', '1', '1', '6', 'b', '4', '0', '6', 'f', '1', 'b', '1', '2', 'c', 'b', 'c', 'b', '9', '3', '9', '9', 'b', 'c', '3', 'a', '9', ' ', 'c', 'u', 't', ' ', 'a', 't', ' ', 'm', 'o', 'o', 't', 'b', 'e', 'l', 'l', '/', 'm', 'o', 'o', 't', 'b', 'e', 'l', 'l', 'l', 'a', 'w', '0', '6', '.', 'W', 'i', 'r', 'e', 'B', 'a', 'c', 'k', ' ', 'm', 'o', 'o', 't', 'b', 'e', 'l', 'l', '/', 'm', 'o', 'o', 't', 'b', 'e', 'l', 'l', 'l', 'a', 'w', '0', '6', '.', 'W', 'i', 'r', 'e', 'F', 'o', 'r', 'm', 's', ' ', 'm', 'o', 'o', 't', 'b', 'e', 'l', 'l', '/', 'm', 'o', 'o', 't', 'b', 'e', 'l', 'l', 'l', 'a', 'w', '0', '6', '.', 'W', 'i', 'r', 'e', 'W', 'i', 't', 'h', 'i', 'n', ' ', 'm', 'o', 'o', 't', 'b', 'e', 'l', 'l', '/', 'm', 'o', 'o', 't', 'b', 'e', 'l', 'l', 'l', 'a', 'w', '0', '5', '.', 'T', 'o', 'k', 'e', 'n', 'T', 'e', 'l', 'l', 's', ' ', 'm', 'o', 'o', 't', 'b', 'e', 'l', 'l', '/', 'm', 'o', 'o', 't', 'b', 'e', 'l', 'l', 'l', 'a', 'w', '0', '5', '.', 'T', 'o', 'k', 'e', 'n', 'B', 'a', 'c', 'k', ' ', 'm', 'o', 'o', 't', 'b', 'e', 'l', 'l', '/', 'm', 'o', 'o', 't', 'b', 'e', 'l', 'l', 'l', 'a', 'w', '0', '5', '.', 'T', 'o', 'k', 'e', 'n', 'M', 'e', 'r', 'g', 'e', ' ', 'm', 'o', 'o', 't', 'b', 'e', 'l', 'l', '/', 'm', 'o', 'o', 't', 'b', 'e', 'l', 'l', 'l', 'a', 'w', '0', '5', '.', 'T', 'o', 'k', 'e', 'n', 'K', 'e', 'y', 's', ' ', 'm', 'o', 'o', 't', 'b', 'e', 'l', 'l', '/', 'm', 'o', 'o', 't', 'b', 'e', 'l', 'l', 'l', 'a', 'w', '0', '5', '.', 'T', 'o', 'k', 'e', 'n', 'L', 'o', 'n', 'g', ' ', 'm', 'o', 'o', 't', 'b', 'e', 'l', 'l', '/', 'm', 'o', 'o', 't', 'b', 'e', 'l', 'l', 'l', 'a', 'w', '0', '5', '.', 'T', 'o', 'k', 'e', 'n', 'T', 'w', 'i', 'c', 'e', ' ', 'm', 'o', 'o', 't', 'b', 'e', 'l', 'l', '/', 'm', 'o', 'o', 't', 'b', 'e', 'l', 'l', 'l', 'a', 'w', '0', '2', '.', 'B', 'i', 't', 's', 'T', 'e', 'l', 'l', 's', ' ', 'm', 'o', 'o', 't', 'b', 'e', 'l', 'l', '/', 'm', 'o', 'o', 't', 'b', 'e', 'l', 'l', 'l', 'a', 'w', '0', '2', '.', 'B', 'i', 't', 's', 'B', 'a', 'c', 'k', ' ', 'm', 'o', 'o', 't', 'b', 'e', 'l', 'l', '/', 'm', 'o', 'o', 't', 'b', 'e', 'l', 'l', 'l', 'a', 'w', '0', '2', '.', 'B', 'i', 't', 's', 'F', 'o', 'r', 'm', 's', ' ', 'm', 'o', 'o', 't', 'b', 'e', 'l', 'l', '/', 'm', 'o', 'o', 't', 'b', 'e', 'l', 'l', 'l', 'a', 'w', '0', '2', '.', 'B', 'i', 't', 's', 'U', 'n', 'i', 'o', 'n', ' ', 'm', 'o', 'o', 't', 'b', 'e', 'l', 'l', '/', 'm', 'o', 'o', 't', 'b', 'e', 'l', 'l', 'l', 'a', 'w', '0', '2', '.', 'B', 'i', 't', 's', 'A', 'p', 'a', 'r', 't', ' ', 'm', 'o', 'o', 't', 'b', 'e', 'l', 'l', '/', 'm', 'o', 'o', 't', 'b', 'e', 'l', 'l', 'l', 'a', 'w', '0', '2', '.', 'B', 'i', 't', 's', 'C', 'o', 'u', 'n', 't', ' ', 'm', 'o', 'o', 't', 'b', 'e', 'l', 'l', '/', 'm', 'o', 'o', 't', 'b', 'e', 'l', 'l', 'l', 'a', 'w', '0', '7', '.', 'O', 'r', 'a', 'c', 'l', 'e', 'T', 'e', 'l', 'l', 's', ' ', 'm', 'o', 'o', 't', 'b', 'e', 'l', 'l', '/', 'm', 'o', 'o', 't', 'b', 'e', 'l', 'l', 'l', 'a', 'w', '0', '7', '.', 'O', 'r', 'a', 'c', 'l', 'e', 'O', 'n', 'e', ' ', 'm', 'o', 'o', 't', 'b', 'e', 'l', 'l', '/', 'm', 'o', 'o', 't', 'b', 'e', 'l', 'l', 'l', 'a', 'w', '0', '7', '.', 'O', 'r', 'a', 'c', 'l', 'e', 'M', 'o', 'r', 'e', ' ', 'm', 'o', 'o', 't', 'b', 'e', 'l', 'l', '/', 'm', 'o', 'o', 't', 'b', 'e', 'l', 'l', 'l', 'a', 'w', '0', '7', '.', 'O', 'r', 'a', 'c', 'l', 'e', 'S', 'i', 'g', 'n', ' ', 'm', 'o', 'o', 't', 'b', 'e', 'l', 'l', '/', 'm', 'o', 'o', 't', 'b', 'e', 'l', 'l', 'l', 'a', 'w', '0', '7', '.', 'O', 'r', 'a', 'c', 'l', 'e', 'F', 'o', 'r', 'g', 'e', 'd', ' ', 'm', 'o', 'o', 't', 'b', 'e', 'l', 'l', '/', 'm', 'o', 'o', 't', 'b', 'e', 'l', 'l', 'l', 'a', 'w', '0', '7', '.', 'O', 'r', 'a', 'c', 'l', 'e', 'M', 'e', 'r', 'g', 'e']
theorem head_is:Try.prog.initOrder=String.ofList headSigns:=by kernel_rfl
theorem head_list:Try.prog.initOrder.toList=headSigns:=(congrArg String.toList head_is).trans String.toList_ofList
def headWords:List (List Char):=[['c', 'u', 't'],['a', 't'],['m', 'o', 'o', 't', 'b', 'e', 'l', 'l', '/', 'm', 'o', 'o', 't', 'b', 'e', 'l', 'l', 'l', 'a', 'w', '0', '6', '.', 'W', 'i', 'r', 'e', 'B', 'a', 'c', 'k'],['m', 'o', 'o', 't', 'b', 'e', 'l', 'l', '/', 'm', 'o', 'o', 't', 'b', 'e', 'l', 'l', 'l', 'a', 'w', '0', '6', '.', 'W', 'i', 'r', 'e', 'F', 'o', 'r', 'm', 's'],['m', 'o', 'o', 't', 'b', 'e', 'l', 'l', '/', 'm', 'o', 'o', 't', 'b', 'e', 'l', 'l', 'l', 'a', 'w', '0', '6', '.', 'W', 'i', 'r', 'e', 'W', 'i', 't', 'h', 'i', 'n'],['m', 'o', 'o', 't', 'b', 'e', 'l', 'l', '/', 'm', 'o', 'o', 't', 'b', 'e', 'l', 'l', 'l', 'a', 'w', '0', '5', '.', 'T', 'o', 'k', 'e', 'n', 'T', 'e', 'l', 'l', 's'],['m', 'o', 'o', 't', 'b', 'e', 'l', 'l', '/', 'm', 'o', 'o', 't', 'b', 'e', 'l', 'l', 'l', 'a', 'w', '0', '5', '.', 'T', 'o', 'k', 'e', 'n', 'B', 'a', 'c', 'k'],['m', 'o', 'o', 't', 'b', 'e', 'l', 'l', '/', 'm', 'o', 'o', 't', 'b', 'e', 'l', 'l', 'l', 'a', 'w', '0', '5', '.', 'T', 'o', 'k', 'e', 'n', 'M', 'e', 'r', 'g', 'e'],['m', 'o', 'o', 't', 'b', 'e', 'l', 'l', '/', 'm', 'o', 'o', 't', 'b', 'e', 'l', 'l', 'l', 'a', 'w', '0', '5', '.', 'T', 'o', 'k', 'e', 'n', 'K', 'e', 'y', 's'],['m', 'o', 'o', 't', 'b', 'e', 'l', 'l', '/', 'm', 'o', 'o', 't', 'b', 'e', 'l', 'l', 'l', 'a', 'w', '0', '5', '.', 'T', 'o', 'k', 'e', 'n', 'L', 'o', 'n', 'g'],['m', 'o', 'o', 't', 'b', 'e', 'l', 'l', '/', 'm', 'o', 'o', 't', 'b', 'e', 'l', 'l', 'l', 'a', 'w', '0', '5', '.', 'T', 'o', 'k', 'e', 'n', 'T', 'w', 'i', 'c', 'e'],['m', 'o', 'o', 't', 'b', 'e', 'l', 'l', '/', 'm', 'o', 'o', 't', 'b', 'e', 'l', 'l', 'l', 'a', 'w', '0', '2', '.', 'B', 'i', 't', 's', 'T', 'e', 'l', 'l', 's'],['m', 'o', 'o', 't', 'b', 'e', 'l', 'l', '/', 'm', 'o', 'o', 't', 'b', 'e', 'l', 'l', 'l', 'a', 'w', '0', '2', '.', 'B', 'i', 't', 's', 'B', 'a', 'c', 'k'],['m', 'o', 'o', 't', 'b', 'e', 'l', 'l', '/', 'm', 'o', 'o', 't', 'b', 'e', 'l', 'l', 'l', 'a', 'w', '0', '2', '.', 'B', 'i', 't', 's', 'F', 'o', 'r', 'm', 's'],['m', 'o', 'o', 't', 'b', 'e', 'l', 'l', '/', 'm', 'o', 'o', 't', 'b', 'e', 'l', 'l', 'l', 'a', 'w', '0', '2', '.', 'B', 'i', 't', 's', 'U', 'n', 'i', 'o', 'n'],['m', 'o', 'o', 't', 'b', 'e', 'l', 'l', '/', 'm', 'o', 'o', 't', 'b', 'e', 'l', 'l', 'l', 'a', 'w', '0', '2', '.', 'B', 'i', 't', 's', 'A', 'p', 'a', 'r', 't'],['m', 'o', 'o', 't', 'b', 'e', 'l', 'l', '/', 'm', 'o', 'o', 't', 'b', 'e', 'l', 'l', 'l', 'a', 'w', '0', '2', '.', 'B', 'i', 't', 's', 'C', 'o', 'u', 'n', 't'],['m', 'o', 'o', 't', 'b', 'e', 'l', 'l', '/', 'm', 'o', 'o', 't', 'b', 'e', 'l', 'l', 'l', 'a', 'w', '0', '7', '.', 'O', 'r', 'a', 'c', 'l', 'e', 'T', 'e', 'l', 'l', 's'],['m', 'o', 'o', 't', 'b', 'e', 'l', 'l', '/', 'm', 'o', 'o', 't', 'b', 'e', 'l', 'l', 'l', 'a', 'w', '0', '7', '.', 'O', 'r', 'a', 'c', 'l', 'e', 'O', 'n', 'e'],['m', 'o', 'o', 't', 'b', 'e', 'l', 'l', '/', 'm', 'o', 'o', 't', 'b', 'e', 'l', 'l', 'l', 'a', 'w', '0', '7', '.', 'O', 'r', 'a', 'c', 'l', 'e', 'M', 'o', 'r', 'e'],['m', 'o', 'o', 't', 'b', 'e', 'l', 'l', '/', 'm', 'o', 'o', 't', 'b', 'e', 'l', 'l', 'l', 'a', 'w', '0', '7', '.', 'O', 'r', 'a', 'c', 'l', 'e', 'S', 'i', 'g', 'n'],['m', 'o', 'o', 't', 'b', 'e', 'l', 'l', '/', 'm', 'o', 'o', 't', 'b', 'e', 'l', 'l', 'l', 'a', 'w', '0', '7', '.', 'O', 'r', 'a', 'c', 'l', 'e', 'F', 'o', 'r', 'g', 'e', 'd'],['m', 'o', 'o', 't', 'b', 'e', 'l', 'l', '/', 'm', 'o', 'o', 't', 'b', 'e', 'l', 'l', 'l', 'a', 'w', '0', '7', '.', 'O', 'r', 'a', 'c', 'l', 'e', 'M', 'e', 'r', 'g', 'e']]
theorem head_words:behindMainWord (wordsSigns headSigns)=['c', 'u', 't']::headWords.tail:=by kernel_rfl
theorem head_of:behindMainWord (wordsSigns Try.prog.initOrder.toList)=['c', 'u', 't']::headWords.tail:=(congrArg (fun l=>behindMainWord (wordsSigns l)) head_list).trans head_words
theorem m1:(['c', 'u', 't']== "gc".toList||['c', 'u', 't']== "spec".toList)=false:=by decide +kernel
theorem m2 (r:List (List Char)):(['c', 'u', 't']== "cut".toList||(['c', 'u', 't']== "finals".toList&&r.head?==some "cut".toList))=true:=by
 rw [show(['c', 'u', 't']== "cut".toList)=true by decide +kernel]
 rfl
theorem m3:(['c', 'u', 't']== "carried".toList)=false:=by decide +kernel
theorem m3':(['c', 'u', 't'] != "carried".toList)=true:=by decide +kernel
theorem m4:(some ['c', 'u', 't']==some "carried".toList)=false:=by decide +kernel
theorem m5:(some ['c', 'u', 't']==some "cut".toList)=true:=by decide +kernel
theorem strip_cut:∀(os:List String) (r:List (List Char)),(os.all fun o=> !(['c', 'u', 't']==o.toList))=true→stripLifts os (['c', 'u', 't']::r)=([],['c', 'u', 't']::r)
 | [],r,_=>rfl
 |o::os,r,h=>by
  rw [List.all_cons,Bool.and_eq_true] at h
  have h1:(['c', 'u', 't']==o.toList)=false:=by simpa using h.1
  rw [stripLifts,h1]
  exact strip_cut os r h.2
theorem strip_lift (r:List (List Char)):stripLifts liftWords (['c', 'u', 't']::r)=([],['c', 'u', 't']::r):=strip_cut _ r (by decide +kernel)
theorem make_of {P:Program}{r:List (List Char)}(h:behindMainWord (wordsSigns P.initOrder.toList)=['c', 'u', 't']::r):P.make=some .cut:=by
 unfold Program.make
 rw [h]
 simp only []
 rw [m1,m2]
 rfl
theorem enter_of {P:Program}{r:List (List Char)}(h:behindMainWord (wordsSigns P.initOrder.toList)=['c', 'u', 't']::r) (h1:P.laysLater=false) (h2:P.bearsReflect=false) (h3:P.doorFits []=true):P.mayEnter=true:=by
 unfold Program.mayEnter
 rw [h]
 simp only []
 rw [m1,m3,strip_lift,h1,h2,h3,List.head?_cons,m5]
 rfl
theorem lifts_of {P:Program}{r:List (List Char)}(h:behindMainWord (wordsSigns P.initOrder.toList)=['c', 'u', 't']::r):P.liftsFinal=false:=by
 unfold Program.liftsFinal Program.headLifts
 rw [h]
 simp only []
 rw [strip_lift,List.head?_cons,m4,m5]
 rfl
theorem k_make:Try.prog.make=some .cut:=make_of head_of
theorem k_lifts:Try.prog.liftsFinal=false:=lifts_of head_of
theorem k_later:Try.prog.laysLater=false:=by kernel_rfl
theorem k_reflect:Try.prog.bearsReflect=false:=by kernel_rfl
theorem k_door:Try.prog.doorFits []=true:=by kernel_rfl
theorem k_enter:Try.prog.mayEnter=true:=enter_of head_of k_later k_reflect k_door
end Go.Proofs.Av
/-A row's closed facts,where the dump's head is long:part by part. -/
namespace Go.Proofs.Av
open Go
theorem joined_of {P:Program}{f:FuncId}{fn:Func}{s:ChangeSpec}{c:OpenClaim}(a:(c.wf (OpenSpec.ofChange s)&&laidOutB P&&mapsRowed P&&fn.params.all (P.readableRec ·)&&namedTie P c.named s.vars&&(c.stops==[])&&(P.stops==[])&&(c.knobs==[])&&(P.stopKnobs==[])&&(c.inPlace==P.inPlace f)&&(c.unfollowed==P.unfollowed f)&&(c.recurses==P.recurses f)&&(c.named==P.varsNamed f)&&(c.maps==(fn.params.toList++s.plain.varTypes P).any (P.mapsRec ·))&&(c.ifaces==(fn.params.toList++s.plain.varTypes P).any (P.ifacesRec ·))&&(c.mapsOut==P.mapsAmong fn.resultTypes.toList)&&(c.loops==(fn.params.toList++s.plain.varTypes P).any (P.loopsFrom ·))&&(c.wideKeys==(fn.params.toList++s.plain.varTypes P++fn.resultTypes.toList).any (P.wideKeysFrom ·))&&s.vars.all (P.varReadable ·)&&fn.resultTypes.all (fun t=>P.readableRec t&&decide (t<P.types.size))&&(c.ifacesOut==fn.resultTypes.toList.any (P.ifacesRec ·))&&(c.loopsOut==fn.resultTypes.toList.any (P.loopsFrom ·))&&(c.plainKeys==P.plainKeys)&&c.shortTexts.isNone&&P.stopsHeard)=true) (hm:P.mayEnter=true) (hl:P.liftsFinal=false) (hc:c.lifted=false) (hk:P.make=some .cut) (hd:c.make = .cut) (b:(c.kinds==(if c.domain.isEmpty then [] else fn.params.toList.map fun t=>match P.underlying t with |some (.int k)=>some k | _=>none))=true) (b2:(c.pinned==c.pinnedBy)=true) (b3:(c.veiled==(fn.params.toList++s.plain.varTypes P++fn.resultTypes.toList).any (P.veiledRec ·))=true) (b4:c.veiledFits P fn.params.toList (fn.params.toList++s.plain.varTypes P++fn.resultTypes.toList)=true):joinedFacts P f fn s c=true:=by
 unfold joinedFacts
 rw [a,hm,hl,hc,hk,hd,Bool.and_eq_true,Bool.and_eq_true,Bool.and_eq_true,Bool.and_eq_true]
 exact⟨⟨⟨⟨rfl,b⟩,b2⟩,b3⟩,b4⟩
theorem instance_of {P:Program}{fn:Func}(h1:fn.origin= "") (h2:fn.targs.toList.map (P.typeSigns typeSignsDepth)=[]) (h3:fn.name.toList.contains '[' =false):fn.isInstance P "" []:=by
 refine⟨h1,h2,?_⟩
 rw [if_pos rfl]
 exact⟨rfl,h3⟩
theorem wrapper_of {P:Program}{fn:Func}(h:(Check.packageOf fn.name== "main")=false):fn.isWrapper P false "" :=by
 unfold Func.isWrapper
 rw [if_neg (fun e=>by rw [e] at h;simp at h)]
 exact⟨rfl,rfl⟩
end Go.Proofs.Av
