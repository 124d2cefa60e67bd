/- The orders of pairs by themselves, ahead of what sorts; room for a slice. -/
import Derived.Test.YtoepfmodbhfckaaAeLay
import Derived.Test.YtoepfmodbhfckaaAiLay
import Derived.Test.YtoepfmodbhfckaaAiK19
import Derived.Shelf.SlSortCmp.NoneTotal
set_option maxRecDepth 100000
namespace Go.Proofs.Av
open Go Go.Sort Go.Shelf
open Option renaming bind→Ω
open Go.IntKind renaming i64→ı
open Option renaming bind_some→χ
noncomputable def cxp:Cx:= { P:=Try.prog,G:=fun _=>none,ann:=findA annT,nils:=nilF,eqOk:=eqT,boxes:=boxT,xheap:=xhT,xvals:=xvT,eq_ok:=eqT_ok }
theorem fp165:∀(x1443:Int),E cxp (Key.fn 165) [vu x1443] []=bif x1443 !=x1443 then some (Out.ret (vbool true),[]) else some (Out.ret (vbool false),[]):=by
 intros
 exact(E_in [188] _ _ _).trans (by kernel_rfl)
theorem fp148:∀(x1419 y1420:Int),E cxp (Key.fn 148) [vu x1419,vu y1420] []=Ω (E cxp (Key.fn 165) [vu x1419] []) fun r1421↦Ω (ret1 r1421) fun v1422↦Ω (AV.bool? v1422) fun b1423↦bif b1423 then Ω (E cxp (Key.fn 165) [vu y1420] []) fun r1424↦Ω (ret1 r1424) fun v1425↦Ω (AV.bool? v1425) fun b1426↦bif b1426 then some (Out.ret (vi 0),[]) else some (Out.ret (vi (-1)),[]) else Ω (E cxp (Key.fn 165) [vu y1420] []) fun r1427↦Ω (ret1 r1427) fun v1428↦Ω (AV.bool? v1428) fun b1429↦bif b1429 then some (Out.ret (vi 1),[]) else bif decide (x1419<y1420) then some (Out.ret (vi (-1)),[]) else bif decide (x1419>y1420) then some (Out.ret (vi 1),[]) else some (Out.ret (vi 0),[]):=by
 intros
 exact(E_in [188] _ _ _).trans (by kernel_rfl)
theorem fp147_l0:∀(x1410 x1411 x1412:Int) (l1413:List (List AV)) (x1414:Int),E cxp (Key.loop 147 [true,true,false,true,false]) [vi x1410,vi x1411,vi x1412,AV.list 0 1 l1413,vi x1414] []=bif decide (x1411<x1414) then if 0≤x1411 then Ω l1413[Int.toNat x1411]? fun cs1415↦Ω (uncons? cs1415) fun p1416↦Ω (AV.int? ı p1416.fst) fun n1417↦Ω (nil? p1416.snd) fun _↦bif n1417 !=x1412 then some (Out.jump JX.ret [vi n1417,vi x1411],[]) else E cxp (Key.loop 147 [true,true,false,true,false]) [vi x1410,vi (IntKind.wrap ı (Int.add x1411 1)),vi x1412,AV.list 0 1 l1413,vi x1414] [] else none else some (Out.jump (JX.exit 0) [vi x1410,vi x1411],[]):=by
 intros
 exact(E_in [188] _ _ _).trans (by kernel_rfl)
theorem fp147:∀(vals1395:List (List AV)),E cxp (Key.fn 147) [AV.list 0 1 vals1395] []=Ω (E cxp (Key.loop 147 [true,true,false,true,false]) [vi 0,vi 0,vi 0,AV.list 0 1 vals1395,vi ((List.length vals1395):Int)] []) fun r1396↦Ω (asJump r1396) fun j1397↦bif JX.is j1397.fst (JX.exit 0) then Ω (uncons? j1397.snd.fst) fun p1398↦Ω (AV.int? ı p1398.fst) fun _↦Ω (uncons? p1398.snd) fun p1400↦Ω (AV.int? ı p1400.fst) fun _↦Ω (nil? p1400.snd) fun _↦Ω (nil? j1397.snd.snd) fun _↦some (Out.ret (vi 0),[]) else bif JX.is j1397.fst JX.ret then Ω (uncons? j1397.snd.fst) fun p1404↦Ω (AV.int? ı p1404.fst) fun n1405↦Ω (uncons? p1404.snd) fun p1406↦Ω (AV.int? ı p1406.fst) fun _↦Ω (nil? p1406.snd) fun _↦Ω (nil? j1397.snd.snd) fun _↦some (Out.ret (vi n1405),[]) else none:=by
 intros
 exact(E_in [188] _ _ _).trans (by kernel_rfl)
theorem fp109:∀(a1240 a1241 b1242 b1243:Int),E cxp (Key.fn 109) [AV.agg [vu a1240,vu a1241],AV.agg [vu b1242,vu b1243]] []=bif decide (a1240=b1242)&&(decide (a1241=b1243)&&true) then some (Out.ret (vi 0),[]) else Ω (E cxp (Key.fn 148) [vu a1240,vu b1242] []) fun r1244↦Ω (ret1 r1244) fun v1245↦Ω (AV.int? ı v1245) fun n1246↦Ω (E cxp (Key.fn 148) [vu a1241,vu b1243] []) fun r1247↦Ω (ret1 r1247) fun v1248↦Ω (AV.int? ı v1248) fun n1249↦Ω (E cxp (Key.fn 147) [AV.list 0 1 [[vi n1246],[vi n1249]]] []) fun r1250↦Ω (ret1 r1250) fun v1251↦Ω (AV.int? ı v1251) fun n1252↦some (Out.ret (vi n1252),[]):=by
 intros
 exact(E_in [188] _ _ _).trans (by kernel_rfl)
theorem cp165 (x:Int):E cxp (Key.fn 165) [vu x] []=rb false:=(fp165 x).trans (goE rfl _ _)
theorem cp148 (x y:Int):E cxp (Key.fn 148) [vu x,vu y] []=some (Out.ret (vi (cmpI x y)),[]):=by
 refine(fp148 x y).trans ((goF (cp165 x) _ _).trans ((goF (cp165 y) _ _).trans ?_))
 unfold cmpI
 by_cases h1:x<y
 ·rw [if_pos h1];exact goD h1 _ _
 ·rw [if_neg h1]
  refine(goDn h1 _ _).trans ?_
  by_cases h2:x>y
  ·rw [if_pos h2];exact goD h2 _ _
  ·rw [if_neg h2];exact goDn h2 _ _
theorem cp147 (a b:Int):E cxp (Key.fn 147) [.list 0 1 [[vi a],[vi b]]] []=some (Out.ret (vi (if a=0 then b else a)),[]):=by
 refine(fp147 _).trans ?_
 have e2:E cxp (Key.loop 147 [true,true,false,true,false]) [vi 0,vi (IntKind.wrap .i64 (Int.add (IntKind.wrap .i64 (Int.add 0 1)) 1)),vi 0,.list 0 1 [[vi a],[vi b]],vi 2] []=some (Out.jump (.exit 0) [vi 0,vi 2],[]) :=
  (fp147_l0 _ _ _ _ _).trans (goDn (by decide) _ _)
 have e1:E cxp (Key.loop 147 [true,true,false,true,false]) [vi 0,vi (IntKind.wrap .i64 (Int.add 0 1)),vi 0,.list 0 1 [[vi a],[vi b]],vi 2] []=if b=0 then some (Out.jump (.exit 0) [vi 0,vi 2],[]) else some (Out.jump .ret [vi b,vi 1],[]):=by
  refine(fp147_l0 _ _ _ _ _).trans ((goD (by decide) _ _).trans ((goY (by decide) _ _).trans ?_))
  by_cases hb:b=0
  ·subst hb
   rw [if_pos rfl]
   exact e2
  ·rw [if_neg hb]
   exact goEn (a:=b) (b:=0) hb _ _
 have e0:E cxp (Key.loop 147 [true,true,false,true,false]) [vi 0,vi 0,vi 0,.list 0 1 [[vi a],[vi b]],vi 2] []=if a=0 then(if b=0 then some (Out.jump (.exit 0) [vi 0,vi 2],[]) else some (Out.jump .ret [vi b,vi 1],[])) else some (Out.jump .ret [vi a,vi 0],[]):=by
  refine(fp147_l0 _ _ _ _ _).trans ((goD (by decide) _ _).trans ((goY (by decide) _ _).trans ?_))
  by_cases ha:a=0
  ·subst ha
   rw [if_pos rfl]
   exact e1
  ·rw [if_neg ha]
   exact goEn (a:=a) (b:=0) ha _ _
 show(Ω (E cxp (Key.loop 147 [true,true,false,true,false]) [vi 0,vi 0,vi 0,.list 0 1 [[vi a],[vi b]],vi 2] []) _)=_
 rw [e0]
 by_cases ha:a=0
 ·rw [if_pos ha,if_pos ha]
  by_cases hb:b=0
  ·rw [if_pos hb,hb];rfl
  ·rw [if_neg hb];rfl
 ·rw [if_neg ha,if_neg ha];rfl
theorem cp109 (p q:P2):E cxp (Key.fn 109) [.agg [vu p.1,vu p.2],.agg [vu q.1,vu q.2]] []=some (Out.ret (vi (ordI p q)),[]):=by
 refine(fp109 _ _ _ _).trans ?_
 obtain⟨a,b⟩:=p
 obtain⟨c,d⟩:=q
 simp only
 by_cases h:a=c∧b=d
 ·obtain⟨rfl,rfl⟩:=h
  simp [ordI]
 ·have h1:(decide ((a:Int)=(c:Int))&&(decide ((b:Int)=(d:Int))&&true))=false:=by
   simp
   omega
  rw [h1]
  refine(goI (cp148 _ _) _).trans ((goI (cp148 _ _) _).trans ((goI (cp147 _ _) _).trans ?_))
  have h2:(if cmpI (a:Int) (c:Int)=0 then cmpI (b:Int) (d:Int) else cmpI (a:Int) (c:Int))=ordI (a,b) (c,d):=by
   have e:∀x y:Nat,cmpI (x:Int) (y:Int)=if x<y then -1 else if y<x then 1 else 0:=fun x y=>by
    unfold cmpI
    simp only [Int.ofNat_lt,gt_iff_lt]
   rw [e,e]
   unfold ordI ltP
   rcases Nat.lt_trichotomy a c with h1 |h1 |h1<;>rcases Nat.lt_trichotomy b d with h3 |h3 |h3 <;>
    simp [h1,h3,Nat.lt_asymm,Nat.ne_of_lt,Nat.ne_of_gt]<;>omega
  rw [h2]
theorem cxp_ext:ExtSound cxp:=⟨fun f e h=>(by cases h),fun f G h=>(by cases h),fun f ru h=>(by cases h)⟩
theorem cxp_names:NamesOk cxp.P:=cx_names
def encV (p:Nat×Nat):List Value:=[.int .u64 (p.1:Int),.int .u64 (p.2:Int)]
theorem rep_pair {S:Nat→Prop}{w:World}{μ:Mu}(p:Nat×Nat):Rep S w μ (.agg [vu p.1,vu p.2]) (.agg (encV p).toArray):=by
 refine .agg _ rfl fun j v u hv hu=> ?_
 match j,hv,hu with
 | 0,hv,hu=>cases hv;cases hu;exact .val _
 | 1,hv,hu=>cases hv;cases hu;exact .val _
theorem grown_world {S S':Nat→Prop}{w w':World}(h:Grown cxp S w S' w'):∃q os',w'=grow (w.drewN q) os':=by
 refine⟨w'.drawn-w.drawn,w'.heap.extract w.heap.size w'.heap.size,?_⟩
 have h1:w'.heap=w.heap++w'.heap.extract w.heap.size w'.heap.size:=by
  apply Array.ext_getElem?
  intro b
  by_cases hb:b<w.heap.size
  ·rw [Array.getElem?_append_left hb]
   exact h.ext b hb
  ·rw [Array.getElem?_append_right (by omega),Array.getElem?_extract]
   by_cases hb2:b<w'.heap.size
   ·rw [if_pos (by omega)]
    congr 1
    omega
   ·rw [Array.getElem?_eq_none (by omega),if_neg (by omega)]
 obtain⟨heap,tape,drawn,os,output⟩:=w
 obtain⟨heap',tape',drawn',os',output'⟩:=w'
 have h2:=h.os
 have h3:=h.tape
 have h4:=h.output.out
 have h5:=h.output.drawn (fun _=>⟨rfl,rfl⟩)
 simp only at h1 h2 h3 h4 h5
 subst h2 h3 h4
 unfold grow World.drewN
 simp only
 rw [←h1]
 congr 1
 omega
theorem lays_order (blk off size:Nat) (w:World):CmpLays Try.prog 109 #[] encV 2 ordI blk off size w:=by
 intro m os dk _ x y
 have h:=(E_sound cxp_names cxp_ext 109 [.agg [vu x.1,vu x.2],.agg [vu y.1,vu y.2]] (vi (ordI x y)) (cp109 x y)).2 (fun _=>False) (sortWorldK encV 2 w blk off m dk os) [.agg (encV x).toArray,.agg (encV y).toArray] (fun b hb=>hb.elim) (fun g cs hg=>by cases hg) (.cons (rep_pair x) (.cons (rep_pair y) .nil))
 rw [Array.append_empty]
 refine h.mono fun e w' ⟨cv,S',g1,g2,g3⟩=> ?_
 rw [g2.inv_val] at g1
 exact⟨g1,grown_world g3⟩
theorem ltOf_ord (x y:Nat×Nat):ltOf ordI x y=ltP x y:=by
 unfold ltOf
 have:=ordI_neg x y
 cases h:ltP x y with
 |true=>exact decide_eq_true (this.2 h)
 |false=>exact decide_eq_false fun hh=>by rw [this.1 hh] at h;cases h
theorem ltP_iff (x y:Nat×Nat):ltP x y=true↔x.1<y.1∨x.1=y.1∧x.2<y.2:=by
 unfold ltP
 simp
theorem swoP:SWO (ltOf ordI) where
 irrefl x:=by
  rw [ltOf_ord]
  cases h:ltP x x with
  |false=>rfl
  |true=>have:=(ltP_iff x x).1 h;omega
 trans x y z h1 h2:=by
  rw [ltOf_ord,ltP_iff] at *
  omega
 ntrans x y z h1 h2:=by
  rw [ltOf_ord] at *
  cases h:ltP x z with
  |false=>rfl
  |true =>
   have a:=(ltP_iff x z).1 h
   have b:¬(x.1<y.1∨x.1=y.1∧x.2<y.2):=fun hh=>by rw [(ltP_iff x y).2 hh] at h1;cases h1
   have c:¬(y.1<z.1∨y.1=z.1∧y.2<z.2):=fun hh=>by rw [(ltP_iff y z).2 hh] at h2;cases h2
   omega
theorem totP (x y:Nat×Nat) (h1:ltOf ordI x y=false) (h2:ltOf ordI y x=false):x=y:=by
 rw [ltOf_ord] at h1 h2
 have b:¬(x.1<y.1∨x.1=y.1∧x.2<y.2):=fun hh=>by rw [(ltP_iff x y).2 hh] at h1;cases h1
 have c:¬(y.1<x.1∨y.1=x.1∧y.2<x.2):=fun hh=>by rw [(ltP_iff y x).2 hh] at h2;cases h2
 exact Prod.ext (by omega) (by omega)
theorem decP_eq (e:List AV) (x:Nat×Nat) (h:decP e=some x):e=encP x:=by
 unfold decP at h
 split at h
 ·cases h
  rfl
 ·cases h
theorem fp134:∀(a642 a643 b644 b645:Int),E cxp (Key.fn 134) [AV.agg [vu a642,vu a643],AV.agg [vu b644,vu b645]] []=Ω (E cxp (Key.fn 148) [vu a642,vu b644] []) fun r646↦Ω (ret1 r646) fun v647↦Ω (AV.int? ı v647) fun n648↦Ω (E cxp (Key.fn 148) [vu a643,vu b645] []) fun r649↦Ω (ret1 r649) fun v650↦Ω (AV.int? ı v650) fun n651↦Ω (E cxp (Key.fn 147) [AV.list 0 1 [[vi n648],[vi n651]]] []) fun r652↦Ω (ret1 r652) fun v653↦Ω (AV.int? ı v653) fun n654↦some (Out.ret (vi n654),[]):=by
 intros
 exact(E_in [188] _ _ _).trans (by kernel_rfl)
theorem ord_cmp (a b c d:Nat):(if cmpI (a:Int) (c:Int)=0 then cmpI (b:Int) (d:Int) else cmpI (a:Int) (c:Int))=ordI (a,b) (c,d):=by
 have e:∀x y:Nat,cmpI (x:Int) (y:Int)=if x<y then -1 else if y<x then 1 else 0:=fun x y=>by
  unfold cmpI
  simp only [Int.ofNat_lt,gt_iff_lt]
 rw [e,e]
 unfold ordI ltP
 rcases Nat.lt_trichotomy a c with h1 |h1 |h1<;>rcases Nat.lt_trichotomy b d with h3 |h3 |h3 <;>
  simp [h1,h3,Nat.lt_asymm,Nat.ne_of_lt,Nat.ne_of_gt]<;>omega
theorem cp134 (p q:P2):E cxp (Key.fn 134) [.agg [vu p.1,vu p.2],.agg [vu q.1,vu q.2]] []=some (Out.ret (vi (ordI p q)),[]):=by
 refine(fp134 _ _ _ _).trans ?_
 obtain⟨a,b⟩:=p
 obtain⟨c,d⟩:=q
 refine(goI (cp148 _ _) _).trans ((goI (cp148 _ _) _).trans ((goI (cp147 _ _) _).trans ?_))
 rw [ord_cmp]
theorem lays_order2 (blk off size:Nat) (w:World):CmpLays Try.prog 134 #[] encV 2 ordI blk off size w:=by
 intro m os dk _ x y
 have h:=(E_sound cxp_names cxp_ext 134 [.agg [vu x.1,vu x.2],.agg [vu y.1,vu y.2]] (vi (ordI x y)) (cp134 x y)).2 (fun _=>False) (sortWorldK encV 2 w blk off m dk os) [.agg (encV x).toArray,.agg (encV y).toArray] (fun b hb=>hb.elim) (fun g cs hg=>by cases hg) (.cons (rep_pair x) (.cons (rep_pair y) .nil))
 rw [Array.append_empty]
 refine h.mono fun e w' ⟨cv,S',g1,g2,g3⟩=> ?_
 rw [g2.inv_val] at g1
 exact⟨g1,grown_world g3⟩
theorem fact113:Fact cx 113:=⟨Try.f113,Try.func113,by kernel_rfl,by kernel_rfl⟩
theorem leP_ord:(fun x y=> !(ltOf ordI) y x)=leP:=by
 funext x y
 rw [ltOf_ord]
 rfl
theorem info34 (q:TypeId×Nat×List AV×Nat) (h:sliceInfo cx 34=some q):q.2.1=2:=by
 have e:(sliceInfo cx 34).map (fun q=>q.2.1)=some 2:=by kernel_rfl
 rw [h] at e
 exact Option.some.inj e
theorem turn_either {cx:Cx}{t:TypeId}{Z1 Z2:List AV→List (List AV)→Option (List (List AV))}{als:List AV}{h:Heap}{av:AV}{h':Heap}(hx:turnV cx t (fun rest es=>match Z1 rest es with |some x=>some x |none=>Z2 rest es) als h (fun v h=>some (v,h))=some (av,h')):turnV cx t Z1 als h (fun v h=>some (v,h))=some (av,h')∨turnV cx t Z2 als h (fun v h=>some (v,h))=some (av,h'):=by
 unfold turnV at hx ⊢
 split at hx
 ·rename_i x rest
  obtain⟨q,h1,hx⟩:=bind_some_iff hx
  simp only [h1,χ]
  split at hx
  ·obtain⟨zs,h4,hx⟩:=bind_some_iff hx
   dsimp only at h4
   split at h4
   ·rename_i h5
    cases h4
    left
    simp only [h5,χ]
    exact hx
   ·right
    simp only [h4,χ]
    exact hx
  ·rename_i r0 ver off len _
   obtain⟨o,h4,hx⟩:=bind_some_iff hx
   obtain⟨u5,h5,hx⟩:=bind_some_iff hx
   obtain⟨u6,h6,hx⟩:=bind_some_iff hx
   simp only [h4,h5,h6,χ]
   split at hx
   ·obtain⟨u7,h7,hx⟩:=bind_some_iff hx
    simp only [h7,χ]
    split at hx
    case isFalse=>cases hx
    rename_i hbig
    simp only [hbig,if_true]
    obtain⟨zs,h8,hx⟩:=bind_some_iff hx
    dsimp only at h8
    split at h8
    ·rename_i h9
     cases h8
     left
     simp only [h9,χ]
     exact hx
    ·right
     simp only [h8,χ]
     exact hx
   ·cases hx
  ·cases hx
 ·cases hx
theorem turn109:Fact cx 113∧∀(K:Kf) (N:Nat) (S:Nat→Prop) (μ:Mu) (env:Env) (h:Heap) (tmps:Array Value) (w:World) (als:List AV) (vs:List Value) (av:AV) (h':Heap),St cx K N S μ env h tmps w→Reps S w μ als vs →
  turnV cx 34 sortP als h (fun v h=>some (v,h))=some (av,h')→Calls cx.P 113 vs.toArray w fun e w'=>∃cv S' μ',e = .returned cv∧Rep S' w' μ' av cv∧St cx K N S' μ' env h' tmps w':=turn_ok (cx:=cx) (f:=113) fact113 (t:=34) (some 109) (dec:=decP) (enc:=encP) (encV:=encV) (le:=leP) (k:=2) (by decide) info34 decP_eq (fun x=>rfl) (fun x=>rfl)
 (fun p cap w=>AnyF.slices_SortFunc_none sort113 p cap (.func (.func 109) #[] #[]) w)
 (fun blk off cap d w hH hblk hsz=>by
  have h:=AnyQ.slices_SortFunc_total sort113 2 Try.isAgg80 Try.sizeOf80 encV (fun _=>rfl) (fun x v hv=>by simp [encV] at hv;rcases hv with rfl |rfl<;>rfl) ordI swoP 109 #[] blk off cap d w
   (enters_of Try.func109 (by kernel_rfl) rfl) (lays_order blk off d.size w) hH hblk hsz totP
  rw [leP_ord] at h
  exact h)
theorem turn134:Fact cx 113∧∀(K:Kf) (N:Nat) (S:Nat→Prop) (μ:Mu) (env:Env) (h:Heap) (tmps:Array Value) (w:World) (als:List AV) (vs:List Value) (av:AV) (h':Heap),St cx K N S μ env h tmps w→Reps S w μ als vs →
  turnV cx 34 sortPo als h (fun v h=>some (v,h))=some (av,h')→Calls cx.P 113 vs.toArray w fun e w'=>∃cv S' μ',e = .returned cv∧Rep S' w' μ' av cv∧St cx K N S' μ' env h' tmps w':=turn_ok (cx:=cx) (f:=113) fact113 (t:=34) (some 134) (dec:=decP) (enc:=encP) (encV:=encV) (le:=leP) (k:=2) (by decide) info34 decP_eq (fun x=>rfl) (fun x=>rfl)
 (fun p cap w=>AnyF.slices_SortFunc_none sort113 p cap (.func (.func 134) #[] #[]) w)
 (fun blk off cap d w hH hblk hsz=>by
  have h:=AnyQ.slices_SortFunc_total sort113 2 Try.isAgg80 Try.sizeOf80 encV (fun _=>rfl) (fun x v hv=>by simp [encV] at hv;rcases hv with rfl |rfl<;>rfl) ordI swoP 134 #[] blk off cap d w
   (enters_of Try.func134 (by kernel_rfl) rfl) (lays_order2 blk off d.size w) hH hblk hsz totP
  rw [leP_ord] at h
  exact h)
theorem ext113:Fact cx 113∧∀(K:Kf) (N:Nat) (S:Nat→Prop) (μ:Mu) (env:Env) (h:Heap) (tmps:Array Value) (w:World) (als:List AV) (vs:List Value) (av:AV) (h':Heap),St cx K N S μ env h tmps w→Reps S w μ als vs→turnV cx 34 sortPP als h (fun v h=>some (v,h))=some (av,h')→Calls cx.P 113 vs.toArray w fun e w'=>∃cv S' μ',e = .returned cv∧Rep S' w' μ' av cv∧St cx K N S' μ' env h' tmps w':=by
 refine⟨fact113,fun K N S μ env h tmps w als vs av h' st hr ht=> ?_⟩
 rcases turn_either (Z1:=sortP) (Z2:=sortPo) ht with h1 |h1
 ·exact turn109.2 K N S μ env h tmps w als vs av h' st hr h1
 ·exact turn134.2 K N S μ env h tmps w als vs av h' st hr h1
theorem fact158:Fact cx 158:=⟨Try.f158,Try.func158,by kernel_rfl,by kernel_rfl⟩
theorem q34:sliceInfo cx 34=some (80,2,[vu 0,vu 0],16):=by kernel_rfl
section
variable {cx:Cx}{K:Kf}{N:Nat}{S:Nat→Prop}{μ:Mu}{env:Env}{h:Heap}{tmps:Array Value}{w:World}
theorem St.room (st:St cx K N S μ env h tmps w) (t sz:Nat) {w':World}{C:Nat}{cur:Array Value}(hle:w.heap.size≤w'.heap.size) (h1:w'.os=w.os) (h2:w'.tape=w.tape) (h3:OutD cx w w') (hb:∀b,b<w.heap.size→w'.heap[b]?=w.heap[b]?) (hc:w'.heap[w.heap.size]?=some (.cells cur t)) (hsz:cur.size=C*sz):St cx K N S (μ.updO h.length (some (w.heap.size,sz,C))) env (h++[⟨.arr,t,sz,sz,[]⟩]) tmps w':=by
 refine st.step (w':=w') (kill:=none) (o:=⟨.arr,t,sz,sz,[]⟩) (x:=some (w.heap.size,sz,C)) hle h1 h2 h3 (fun b hbb _=>hb b hbb) (fun r hr=>by cases hr) rfl (fun hx=>by cases hx) (fun b s C' hx=> ?_)
 cases hx
 exact⟨rfl,.inr (Nat.le_refl _),_,hc,hsz,by simp,fun k e he=>by simp at he,fun k j e a he=>by simp at he⟩
end
theorem ext158:Fact cx 158∧∀(K:Kf) (N:Nat) (S:Nat→Prop) (μ:Mu) (env:Env) (h:Heap) (tmps:Array Value) (w:World) (als:List AV) (vs:List Value) (av:AV) (h':Heap),St cx K N S μ env h tmps w→Reps S w μ als vs→freshV cx 34 growP als h (fun v h=>some (v,h))=some (av,h')→Calls cx.P 158 vs.toArray w fun e w'=>∃cv S' μ',e = .returned cv∧Rep S' w' μ' av cv∧St cx K N S' μ' env h' tmps w':=by
 refine⟨fact158,fun K N S μ env h tmps w als vs av h' st hr ht=> ?_⟩
 unfold freshV at ht
 rw [q34,χ] at ht
 obtain⟨ys,h1,ht⟩:=bind_some_iff ht
 unfold growP at h1
 split at h1
 case h_2=>cases h1
 rename_i n
 split at h1
 case isFalse=>cases h1
 rename_i hn0
 split at h1
 case isFalse=>cases h1
 rename_i hn1
 cases h1
 obtain⟨v1,r1,rfl,g1,g2⟩:=hr.inv_cons
 obtain⟨v2,r2,rfl,g3,g4⟩:=g2.inv_cons
 have:=g4.inv_nil
 subst this
 rw [g1.inv_val,g3.inv_val]
 have ht':some (AV.arr h.length 2 0 0,h++[Ob.mk .arr 80 2 2 []])=some (av,h'):=ht
 cases ht'
 obtain⟨m,rfl⟩:∃m:Nat,n=(m:Int):=⟨n.toNat,by omega⟩
 by_cases hm:m=0
 ·subst hm
  refine(Any8.slices_Grow_room grow158 none 0 0 0 w (by omega) (by omega) (by omega) (by omega)).mono fun e w' ⟨e1,e2⟩=> ?_
  subst e2
  have hx:=st.step (w':=w') (kill:=none) (o:=⟨.arr,80,2,2,[]⟩) (x:=none) (Nat.le_refl _) rfl rfl (OutD.refl _) (fun _ _ _=>rfl) (fun r hr=>by cases hr) rfl (fun _=>rfl) (fun b s C hx=>by cases hx)
  exact⟨_,S,_,e1,.anil,hx⟩
 ·obtain⟨i,z,i1,i2,i3,i4,i5,i6,i7,i8,i9⟩:=sliceInfo_spec q34
  have i7':(2:Nat)=i.size:=i7
  have i9':(16:Nat)=i.bytes:=i9
  refine(Any8.slices_Grow_grow grow158 i z i2 i3 i5 none 0 0 m [] w (by omega) (by omega) (by rw [←i9'];omega) (by omega) (by simp) (fun _=>rfl) (fun a h=>by cases h)).mono fun e w' ⟨e1,e2⟩=> ?_
  have hG:0+m≤grownCap w (0+m) 0 80:=grownCap_ge w _ _ _
  generalize hGG:grownCap w (0+m) 0 80=G at hG
  have e1':e = .returned (.slice (some ⟨w.heap.size,0,none⟩) 0 G):=by rw [←hGG];exact e1
  have e2':w'=w.drew.alloc (.cells (#[]++Builtin.zeroCells z.cells (0+m-0)++Builtin.zeroCells z.cells (G-(0+m))) 80):=by rw [←hGG];exact e2
  clear e1 e2
  have hsz:(#[]++Builtin.zeroCells z.cells (0+m-0)++Builtin.zeroCells z.cells (G-(0+m))).size=G*2:=by
   simp only [Array.size_append,size_zeroCells,i4,←i7',List.size_toArray,List.length_nil]
   omega
  generalize (#[]++Builtin.zeroCells z.cells (0+m-0)++Builtin.zeroCells z.cells (G-(0+m)))=cur at hsz e2'
  subst e2'
  have hx:=st.room (w':=w.drew.alloc (.cells cur 80)) 80 2 (C:=G) (cur:=cur) (by show _≤(w.heap.push _).size;simp) rfl rfl ⟨rfl,fun _=>Nat.le_succ _⟩ (fun b hb=>heap_alloc_old w.drew _ hb) (heap_alloc_new w.drew _) hsz
  refine⟨_,S,_,e1',?_,hx⟩
  exact Rep.arr (S:=S) (w:=w.drew.alloc (.cells cur 80)) (μ:=μ.updO h.length (some (w.heap.size,2,G))) (r:=h.length) (ver:=2) (off:=0) (len:=0) w.heap.size G (by simp [Mu.updO,Mu.upd]) (by omega)
end Go.Proofs.Av
