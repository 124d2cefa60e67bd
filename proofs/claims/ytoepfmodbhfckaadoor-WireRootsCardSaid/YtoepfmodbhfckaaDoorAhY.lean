/- The trees of the document's functions. -/
import Derived.Test.YtoepfmodbhfckaaDoorAhX
set_option maxRecDepth 100000
namespace Go.Proofs.Av
open Go
open Option renaming bind→Ω
open Go.IntKind renaming i64→ı
open Go.IntKind renaming u64→υ
theorem f9:∀(v0 v1 v2 v3 v4 v5:Int) (v6:List (List AV)) (v7:Bool) (v8:List (List AV)),E cx (Key.fn 9) [AV.agg [vu v0,vu v1,vu v2,vu v3,vu v4,vi v5,AV.list 0 1 v6,vbool v7,AV.list 0 2 v8]] []=Ω (E cx (Key.fn 30) [AV.agg [vi v5,AV.list 0 1 v6]] []) fun r9↦Ω (ret1 r9) fun v10↦Ω (AV.tup? v10) fun vs11↦Ω (uncons? vs11) fun p12↦Ω (AV.str? p12.fst) fun s13↦Ω (uncons? p12.snd) fun p14↦Ω (AV.int? ı p14.fst) fun n15↦Ω (nil? p14.snd) fun _↦Ω (E cx (Key.fn 31) [AV.agg [vbool v7,AV.list 0 2 v8]] []) fun r17↦Ω (ret1 r17) fun v18↦Ω (AV.tup? v18) fun vs19↦Ω (uncons? vs19) fun p20↦Ω (AV.str? p20.fst) fun s21↦Ω (uncons? p20.snd) fun p22↦Ω (AV.int? ı p22.fst) fun n23↦Ω (nil? p22.snd) fun _↦bif n15 !=0 then some (Out.ret (AV.tuple [vs (ByteArray.mk (Array.mk [])),vi 1]),[]) else bif n23 !=0 then some (Out.ret (AV.tuple [vs (ByteArray.mk (Array.mk [])),vi 1]),[]) else Ω (E cx (Key.fn 33) [AV.agg [vu v0,vu v1,vu v2,vu v3,vu v4]] []) fun r25↦Ω (ret1 r25) fun v26↦Ω (AV.str? v26) fun s27↦Ω (E cx (Key.fn 32) [vs s27,AV.list 0 1 [[vs s13],[vs s21]]] []) fun r28↦Ω (ret1 r28) fun v29↦Ω (AV.tup? v29) fun vs30↦Ω (uncons? vs30) fun p31↦Ω (AV.str? p31.fst) fun s32↦Ω (uncons? p31.snd) fun p33↦Ω (AV.int? ı p33.fst) fun n34↦Ω (nil? p33.snd) fun _↦some (Out.ret (AV.tuple [vs s32,vi n34]),[]):=by
 intros
 exact(E_in [87] _ _ _).trans (by kernel_rfl)
theorem f11:∀(a36:Int) (a37:Bool) (a38:List (List AV)) (a39 a40 a41 a42 a43 a44:Int) (a45:List (List AV)) (a46:Bool) (a47:List (List AV)),E cx (Key.fn 11) [AV.agg [vu a36,vbool a37,AV.list 0 2 a38,vu a39,vu a40,vu a41,vu a42,vu a43,vi a44,AV.list 0 1 a45,vbool a46,AV.list 0 2 a47]] []=Ω (E cx (Key.fn 31) [AV.agg [vbool a37,AV.list 0 2 a38]] []) fun r48↦Ω (ret1 r48) fun v49↦Ω (AV.tup? v49) fun vs50↦Ω (uncons? vs50) fun p51↦Ω (AV.str? p51.fst) fun s52↦Ω (uncons? p51.snd) fun p53↦Ω (AV.int? ı p53.fst) fun n54↦Ω (nil? p53.snd) fun _↦Ω (E cx (Key.fn 9) [AV.agg [vu a39,vu a40,vu a41,vu a42,vu a43,vi a44,AV.list 0 1 a45,vbool a46,AV.list 0 2 a47]] []) fun r56↦Ω (ret1 r56) fun v57↦Ω (AV.tup? v57) fun vs58↦Ω (uncons? vs58) fun p59↦Ω (AV.str? p59.fst) fun s60↦Ω (uncons? p59.snd) fun p61↦Ω (AV.int? ı p61.fst) fun n62↦Ω (nil? p61.snd) fun _↦bif n54 !=0 then some (Out.ret (AV.tuple [vs (ByteArray.mk (Array.mk [])),vi 1]),[]) else bif n62 !=0 then some (Out.ret (AV.tuple [vs (ByteArray.mk (Array.mk [])),vi 1]),[]) else Ω (E cx (Key.fn 38) [vu a36,vi 8] []) fun r64↦Ω (ret1 r64) fun v65↦Ω (AV.str? v65) fun s66↦Ω (E cx (Key.fn 32) [vs s66,AV.list 0 1 [[vs s52],[vs s60]]] []) fun r67↦Ω (ret1 r67) fun v68↦Ω (AV.tup? v68) fun vs69↦Ω (uncons? vs69) fun p70↦Ω (AV.str? p70.fst) fun s71↦Ω (uncons? p70.snd) fun p72↦Ω (AV.int? ı p72.fst) fun n73↦Ω (nil? p72.snd) fun _↦some (Out.ret (AV.tuple [vs s71,vi n73]),[]):=by
 intros
 exact(E_in [87] _ _ _).trans (by kernel_rfl)
noncomputable def q15_0:Int→Option (Out×Heap) :=
 fun n84 ↦
 some
 (Out.ret
 (AV.tuple
 [AV.agg
 [vu 0,vu 0,vu 0,vu 0,vu 0,vi 0,
 AV.val (Value.slice none 0 0),vbool false,AV.val (Value.slice none 0 0)],
 vi n84]),
 [])
theorem f15:∀(s75:ByteArray),E cx (Key.fn 15) [vs s75] []=Ω (E cx (Key.fn 40) [vs s75,vi 40,vi 2] []) fun r76↦Ω (ret1 r76) fun v77↦Ω (AV.tup? v77) fun vs78↦Ω (uncons? vs78) fun p79↦Ω (AV.str? p79.fst) fun s80↦Ω (uncons? p79.snd) fun p81↦Ω (AV.list? 1 p81.fst) fun es82↦Ω (uncons? p81.snd) fun p83↦Ω (AV.int? ı p83.fst) fun n84↦Ω (nil? p83.snd) fun _↦bif n84 !=0 then q15_0 n84 else Ω es82[0]? fun cs86↦Ω (uncons? cs86) fun p87↦Ω (AV.str? p87.fst) fun s88↦Ω (nil? p87.snd) fun _↦Ω (E cx (Key.fn 41) [vs s88,vi 2048] []) fun r90↦Ω (ret1 r90) fun v91↦Ω (AV.tup? v91) fun vs92↦Ω (uncons? vs92) fun p93↦Ω (AV.cells? p93.fst) fun cs94↦Ω (uncons? cs94) fun p95↦Ω (AV.int? ı p95.fst) fun n96↦Ω (uncons? p95.snd) fun p97↦Ω (AV.list? 1 p97.fst) fun es98↦Ω (nil? p97.snd) fun _↦Ω (uncons? p93.snd) fun p100↦Ω (AV.int? ı p100.fst) fun n101↦Ω (nil? p100.snd) fun _↦bif n101 !=0 then q15_0 n101 else Ω es82[1]? fun cs103↦Ω (uncons? cs103) fun p104↦Ω (AV.str? p104.fst) fun s105↦Ω (nil? p104.snd) fun _↦Ω (E cx (Key.fn 42) [vs s105] []) fun r107↦Ω (ret1 r107) fun v108↦Ω (AV.tup? v108) fun vs109↦Ω (uncons? vs109) fun p110↦Ω (AV.cells? p110.fst) fun cs111↦Ω (uncons? cs111) fun p112↦Ω (AV.bool? p112.fst) fun b113↦Ω (uncons? p112.snd) fun p114↦Ω (AV.list? 2 p114.fst) fun es115↦Ω (nil? p114.snd) fun _↦Ω (uncons? p110.snd) fun p117↦Ω (AV.int? ı p117.fst) fun n118↦Ω (nil? p117.snd) fun _↦bif n118 !=0 then q15_0 n118 else Ω (E cx (Key.fn 43) [vs s80,vi 0] []) fun r120↦Ω (ret1 r120) fun v121↦Ω (AV.int? υ v121) fun n122↦Ω (E cx (Key.fn 43) [vs s80,vi 8] []) fun r123↦Ω (ret1 r123) fun v124↦Ω (AV.int? υ v124) fun n125↦Ω (E cx (Key.fn 43) [vs s80,vi 16] []) fun r126↦Ω (ret1 r126) fun v127↦Ω (AV.int? υ v127) fun n128↦Ω (E cx (Key.fn 43) [vs s80,vi 24] []) fun r129↦Ω (ret1 r129) fun v130↦Ω (AV.int? υ v130) fun n131↦Ω (E cx (Key.fn 43) [vs s80,vi 32] []) fun r132↦Ω (ret1 r132) fun v133↦Ω (AV.int? υ v133) fun n134↦some (Out.ret (AV.tuple [AV.agg [vu n122,vu n125,vu n128,vu n131,vu n134,vi n96,AV.list 0 1 es98,vbool b113,AV.list 0 2 es115],vi 0]),[]):=by
 intros
 exact(E_in [87] _ _ _).trans (by kernel_rfl)
noncomputable def q17_0:Int→Option (Out×Heap) :=
 fun n144 ↦
 some
 (Out.ret
 (AV.tuple
 [AV.agg
 [vu 0,vbool false,AV.val (Value.slice none 0 0),vu 0,vu 0,
 vu 0,vu 0,vu 0,vi 0,AV.val (Value.slice none 0 0),
 vbool false,AV.val (Value.slice none 0 0)],
 vi n144]),
 [])
theorem f17:∀(s135:ByteArray),E cx (Key.fn 17) [vs s135] []=Ω (E cx (Key.fn 40) [vs s135,vi 8,vi 2] []) fun r136↦Ω (ret1 r136) fun v137↦Ω (AV.tup? v137) fun vs138↦Ω (uncons? vs138) fun p139↦Ω (AV.str? p139.fst) fun s140↦Ω (uncons? p139.snd) fun p141↦Ω (AV.list? 1 p141.fst) fun es142↦Ω (uncons? p141.snd) fun p143↦Ω (AV.int? ı p143.fst) fun n144↦Ω (nil? p143.snd) fun _↦bif n144 !=0 then q17_0 n144 else Ω es142[0]? fun cs146↦Ω (uncons? cs146) fun p147↦Ω (AV.str? p147.fst) fun s148↦Ω (nil? p147.snd) fun _↦Ω (E cx (Key.fn 42) [vs s148] []) fun r150↦Ω (ret1 r150) fun v151↦Ω (AV.tup? v151) fun vs152↦Ω (uncons? vs152) fun p153↦Ω (AV.cells? p153.fst) fun cs154↦Ω (uncons? cs154) fun p155↦Ω (AV.bool? p155.fst) fun b156↦Ω (uncons? p155.snd) fun p157↦Ω (AV.list? 2 p157.fst) fun es158↦Ω (nil? p157.snd) fun _↦Ω (uncons? p153.snd) fun p160↦Ω (AV.int? ı p160.fst) fun n161↦Ω (nil? p160.snd) fun _↦bif n161 !=0 then q17_0 n161 else Ω es142[1]? fun cs163↦Ω (uncons? cs163) fun p164↦Ω (AV.str? p164.fst) fun s165↦Ω (nil? p164.snd) fun _↦Ω (E cx (Key.fn 15) [vs s165] []) fun r167↦Ω (ret1 r167) fun v168↦Ω (AV.tup? v168) fun vs169↦Ω (uncons? vs169) fun p170↦Ω (AV.cells? p170.fst) fun cs171↦Ω (uncons? cs171) fun p172↦Ω (AV.int? υ p172.fst) fun n173↦Ω (uncons? p172.snd) fun p174↦Ω (AV.int? υ p174.fst) fun n175↦Ω (uncons? p174.snd) fun p176↦Ω (AV.int? υ p176.fst) fun n177↦Ω (uncons? p176.snd) fun p178↦Ω (AV.int? υ p178.fst) fun n179↦Ω (uncons? p178.snd) fun p180↦Ω (AV.int? υ p180.fst) fun n181↦Ω (uncons? p180.snd) fun p182↦Ω (AV.int? ı p182.fst) fun n183↦Ω (uncons? p182.snd) fun p184↦Ω (AV.list? 1 p184.fst) fun es185↦Ω (uncons? p184.snd) fun p186↦Ω (AV.bool? p186.fst) fun b187↦Ω (uncons? p186.snd) fun p188↦Ω (AV.list? 2 p188.fst) fun es189↦Ω (nil? p188.snd) fun _↦Ω (uncons? p170.snd) fun p191↦Ω (AV.int? ı p191.fst) fun n192↦Ω (nil? p191.snd) fun _↦bif n192 !=0 then q17_0 n192 else Ω (E cx (Key.fn 43) [vs s140,vi 0] []) fun r194↦Ω (ret1 r194) fun v195↦Ω (AV.int? υ v195) fun n196↦some (Out.ret (AV.tuple [AV.agg [vu n196,vbool b156,AV.list 0 2 es158,vu n173,vu n175,vu n177,vu n179,vu n181,vi n183,AV.list 0 1 es185,vbool b187,AV.list 0 2 es189],vi 0]),[]):=by
 intros
 exact(E_in [87] _ _ _).trans (by kernel_rfl)
theorem f19:∀(s197:ByteArray),E cx (Key.fn 19) [vs s197] []=bif ((ByteArray.size s197):Int) !=24 then some (Out.ret (AV.tuple [AV.agg [vu 0,vu 0,vu 0],vi 2]),[]) else Ω (E cx (Key.fn 43) [vs s197,vi 0] []) fun r198↦Ω (ret1 r198) fun v199↦Ω (AV.int? υ v199) fun n200↦Ω (E cx (Key.fn 43) [vs s197,vi 8] []) fun r201↦Ω (ret1 r201) fun v202↦Ω (AV.int? υ v202) fun n203↦Ω (E cx (Key.fn 43) [vs s197,vi 16] []) fun r204↦Ω (ret1 r204) fun v205↦Ω (AV.int? υ v205) fun n206↦some (Out.ret (AV.tuple [AV.agg [vu n200,vu n203,vu n206],vi 0]),[]):=by
 intros
 exact(E_in [87] _ _ _).trans (by kernel_rfl)
theorem f22:∀(d207 d208 d209 d210 d211:Int),E cx (Key.fn 22) [AV.agg [vu d207,vu d208,vu d209,vu d210,vu d211]] []=Ω (E cx (Key.fn 51) [AV.agg [vu d207,vu d208,vu d209,vu d210,vu d211]] []) fun r212↦Ω (ret1 r212) fun v213↦Ω (AV.str? v213) fun s214↦Ω (E cx (Key.fn 50) [vs s214] []) fun r215↦Ω (ret1 r215) fun v216↦Ω (AV.int? υ v216) fun n217↦some (Out.ret (vu n217),[]):=by
 intros
 exact(E_in [87] _ _ _).trans (by kernel_rfl)
theorem f23:∀(d218 d219 d220 d221 d222:Int),E cx (Key.fn 23) [AV.agg [vu d218,vu d219,vu d220,vu d221,vu d222]] []=Ω (E cx (Key.fn 33) [AV.agg [vu d218,vu d219,vu d220,vu d221,vu d222]] []) fun r223↦Ω (ret1 r223) fun v224↦Ω (AV.str? v224) fun s225↦Ω (E cx (Key.fn 52) [vs s225] []) fun r226↦Ω (ret1 r226) fun v227↦Ω (AV.int? υ v227) fun n228↦some (Out.ret (vu n228),[]):=by
 intros
 exact(E_in [87] _ _ _).trans (by kernel_rfl)
theorem f25:∀(r229 r230 r231:Int),E cx (Key.fn 25) [AV.agg [vu r229,vu r230,vu r231]] []=Ω (E cx (Key.fn 38) [vu r229,vi 8] []) fun r232↦Ω (ret1 r232) fun v233↦Ω (AV.str? v233) fun s234↦Ω (E cx (Key.fn 38) [vu r230,vi 8] []) fun r235↦Ω (ret1 r235) fun v236↦Ω (AV.str? v236) fun s237↦if((Nat.add (ByteArray.size s234) (ByteArray.size s237)):Int)>9223372036854775807 then none else Ω (E cx (Key.fn 38) [vu r231,vi 8] []) fun r238↦Ω (ret1 r238) fun v239↦Ω (AV.str? v239) fun s240↦if((Nat.add (ByteArray.size (ByteArray.append s234 s237)) (ByteArray.size s240)):Int)>9223372036854775807 then none else some (Out.ret (vs (ByteArray.append (ByteArray.append s234 s237) s240)),[]):=by
 intros
 exact(E_in [87] _ _ _).trans (by kernel_rfl)
theorem f33:∀(d241 d242 d243 d244 d245:Int),E cx (Key.fn 33) [AV.agg [vu d241,vu d242,vu d243,vu d244,vu d245]] []=Ω (E cx (Key.fn 38) [vu d241,vi 8] []) fun r246↦Ω (ret1 r246) fun v247↦Ω (AV.str? v247) fun s248↦Ω (E cx (Key.fn 38) [vu d242,vi 8] []) fun r249↦Ω (ret1 r249) fun v250↦Ω (AV.str? v250) fun s251↦if((Nat.add (ByteArray.size s248) (ByteArray.size s251)):Int)>9223372036854775807 then none else Ω (E cx (Key.fn 38) [vu d243,vi 8] []) fun r252↦Ω (ret1 r252) fun v253↦Ω (AV.str? v253) fun s254↦if((Nat.add (ByteArray.size (ByteArray.append s248 s251)) (ByteArray.size s254)):Int)>9223372036854775807 then none else Ω (E cx (Key.fn 38) [vu d244,vi 8] []) fun r255↦Ω (ret1 r255) fun v256↦Ω (AV.str? v256) fun s257↦if((Nat.add (ByteArray.size (ByteArray.append (ByteArray.append s248 s251) s254)) (ByteArray.size s257)):Int)>9223372036854775807 then none else Ω (E cx (Key.fn 38) [vu d245,vi 8] []) fun r258↦Ω (ret1 r258) fun v259↦Ω (AV.str? v259) fun s260↦if((Nat.add (ByteArray.size (ByteArray.append (ByteArray.append (ByteArray.append s248 s251) s254) s257)) (ByteArray.size s260)):Int)>9223372036854775807 then none else some (Out.ret (vs (ByteArray.append (ByteArray.append (ByteArray.append (ByteArray.append s248 s251) s254) s257) s260)),[]):=by
 intros
 exact(E_in [87] _ _ _).trans (by kernel_rfl)
theorem f43:∀(s261:ByteArray) (i262:Int),E cx (Key.fn 43) [vs s261,vi i262] []=if 0≤i262 then if i262≤((ByteArray.size s261):Int) then Ω (E cx (Key.fn 66) [vs (ByteArray.extract s261 (Int.toNat i262) (ByteArray.size s261)),vi 8] []) fun r263↦Ω (ret1 r263) fun v264↦Ω (AV.tup? v264) fun vs265↦Ω (uncons? vs265) fun p266↦Ω (AV.int? υ p266.fst) fun n267↦Ω (uncons? p266.snd) fun p268↦Ω (AV.str? p268.fst) fun _↦Ω (uncons? p268.snd) fun p270↦Ω (AV.int? ı p270.fst) fun _↦Ω (nil? p270.snd) fun _↦some (Out.ret (vu n267),[]) else none else none:=by
 intros
 exact(E_in [87] _ _ _).trans (by kernel_rfl)
theorem f50:∀(s273:ByteArray),E cx (Key.fn 50) [vs s273] []=Ω (E cx (Key.fn 74) [vu 14695981039346656037,vs s273] []) fun r274↦Ω (ret1 r274) fun v275↦Ω (AV.int? υ v275) fun n276↦some (Out.ret (vu n276),[]):=by
 intros
 exact(E_in [87] _ _ _).trans (by kernel_rfl)
theorem f52:∀(s277:ByteArray),E cx (Key.fn 52) [vs s277] []=Ω (E cx (Key.fn 75) [vu 14695981039346656037,vs s277] []) fun r278↦Ω (ret1 r278) fun v279↦Ω (AV.int? υ v279) fun n280↦some (Out.ret (vu n280),[]):=by
 intros
 exact(E_in [87] _ _ _).trans (by kernel_rfl)
theorem f74:∀(h281:Int) (s282:ByteArray),E cx (Key.fn 74) [vu h281,vs s282] []=Ω (E cx (Key.loop 74 [true,false,true,false]) [vu h281,vi 0,vs s282,vi ((ByteArray.size s282):Int)] []) fun r283↦Ω (asJump r283) fun j284↦bif JX.is j284.fst (JX.exit 0) then Ω (uncons? j284.snd.fst) fun p285↦Ω (AV.int? υ p285.fst) fun n286↦Ω (uncons? p285.snd) fun p287↦Ω (AV.int? ı p287.fst) fun _↦Ω (nil? p287.snd) fun _↦Ω (nil? j284.snd.snd) fun _↦some (Out.ret (vu n286),[]) else none:=by
 intros
 exact(E_in [87] _ _ _).trans (by kernel_rfl)
theorem f74_l0:∀(x291 x292:Int) (s293:ByteArray) (x294:Int),E cx (Key.loop 74 [true,false,true,false]) [vu x291,vi x292,vs s293,vi x294] []=bif decide (x292<x294) then if 0≤x292 then Ω s293[Int.toNat x292]? fun b295↦E cx (Key.loop 74 [true,false,true,false]) [vu (IntKind.wrap υ (Int.mul (ixor υ x291 (IntKind.wrap υ ((UInt8.toNat b295):Int))) 1099511628211)),vi (IntKind.wrap ı (Int.add x292 1)),vs s293,vi x294] [] else none else some (Out.jump (JX.exit 0) [vu x291,vi x292],[]):=by
 intros
 exact(E_in [87] _ _ _).trans (by kernel_rfl)
theorem f75:∀(h296:Int) (s297:ByteArray),E cx (Key.fn 75) [vu h296,vs s297] []=Ω (E cx (Key.loop 75 [true,false,true,false]) [vu h296,vi 0,vs s297] []) fun r298↦Ω (asJump r298) fun j299↦bif JX.is j299.fst (JX.exit 0) then Ω (uncons? j299.snd.fst) fun p300↦Ω (AV.int? υ p300.fst) fun n301↦Ω (uncons? p300.snd) fun p302↦Ω (AV.int? ı p302.fst) fun _↦Ω (nil? p302.snd) fun _↦Ω (nil? j299.snd.snd) fun _↦some (Out.ret (vu n301),[]) else none:=by
 intros
 exact(E_in [87] _ _ _).trans (by kernel_rfl)
theorem f75_l0:∀(x306 x307:Int) (s308:ByteArray),E cx (Key.loop 75 [true,false,true,false]) [vu x306,vi x307,vs s308] []=bif decide (x307<((ByteArray.size s308):Int)) then if 0≤x307 then Ω s308[Int.toNat x307]? fun b309↦E cx (Key.loop 75 [true,false,true,false]) [vu (IntKind.wrap υ (Int.mul (ixor υ x306 (IntKind.wrap υ ((UInt8.toNat b309):Int))) 1099511628211)),vi (IntKind.wrap ı (Int.add x307 1)),vs s308] [] else none else some (Out.jump (JX.exit 0) [vu x306,vi x307],[]):=by
 intros
 exact(E_in [87] _ _ _).trans (by kernel_rfl)
end Go.Proofs.Av
