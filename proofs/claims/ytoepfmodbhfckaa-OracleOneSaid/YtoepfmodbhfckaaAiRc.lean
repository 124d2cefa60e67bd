/- Check: a set of keys, by the rule. -/
import Derived.Test.YtoepfmodbhfckaaAiRh
set_option maxRecDepth 100000
namespace Go.Proofs.Av
open Go Go.ChangeMaps Go.MapKept
open Option renaming bind→Ω
def MapO (o:Obj) (kl:List Int) (n:Nat):Prop:=∃D:DataW Unit,(∀(w:World) (b:Nat),w.heap[b]?=some o→w.ownsMap Try.prog 26 unitElem b n D)∧(∀x:Int,Maps.has D (.int .u64 x)=kl.contains x)∧Maps.size D=many kl∧Maps.Tidy D
theorem mapO_new:MapO (.map #[] 0) [] 0:=by
 refine⟨.map [],fun w b hb=> ?_,fun x=>rfl,rfl,⟨_,rfl,.nil⟩⟩
 obtain⟨es,clock,h1,h2,h3,h4⟩:=World.ownsMap_made (H:=Unit) w Try.prog 26 unitElem
 have h5:(w.alloc (.map #[] 0)).heap[w.heap.size]?=some (.map #[] 0):=by show(w.heap.push _)[_]?=_;simp
 rw [h5] at h1
 cases h1
 exact⟨#[],0,hb,h2,h3,h4⟩
theorem mapO_put {w w':World}{b n:Nat}{o:Obj}{kl:List Int}{x:Int}{D:DataW Unit}(hb:w.heap[b]?=some o) (h2:∀x:Int,Maps.has D (.int .u64 x)=kl.contains x) (h3:Maps.size D=many kl) (h4:Maps.Tidy D) (g1:w'.ownsMap Try.prog 26 unitElem b (n+1) (D.put (.int .u64 x) (.agg []))) (g2:w.mapTurned w' b):∃o',w'= { w with heap:=w.heap.setIfInBounds b o' }∧MapO o' (x::kl) (n+1):=by
 obtain⟨es,clock,es',clock',q1,rfl⟩:=g2
 refine⟨.map es' clock',rfl,D.put (.int .u64 x) (.agg []),fun w2 b2 hb2=> ?_,fun y=> ?_,?_,?_⟩
 ·obtain⟨es2,clock2,q2,q3,q4,q5⟩:=g1
  have:(setBlock w b (.map es' clock')).heap[b]?=some (.map es' clock'):=heap_setBlock_same q1 _
  rw [this] at q2
  cases q2
  exact⟨_,_,hb2,q3,q4,q5⟩
 ·rw [List.contains_cons]
  by_cases hxy:y=x
  ·subst hxy
   rw [Maps.has_put_same h4.isMap (show WideAt.IsKeyLit (Lit.int .u64 y) from trivial)]
   simp
  ·rw [Maps.has_put_other (by intro e;cases e;exact hxy rfl),h2]
   simp [hxy]
 ·rw [Maps.size_put h4,h2,h3]
  rfl
 ·exact Maps.Tidy.put h4 (show WideAt.IsKeyLit (Lit.int .u64 x) from trivial) _
theorem many_perm {l l':List Int}(h:l.Perm l'):many l=many l':=by
 induction h with
 |nil=>rfl
 |cons x hp ih =>
  have e:∀a b:List Int,a.Perm b→a.contains x=b.contains x:=fun a b hab=>by
   rw [Bool.eq_iff_iff]
   simp [hab.mem_iff]
  simp only [many,e _ _ hp,ih]
 |swap x y l =>
  simp only [many,List.contains_cons]
  by_cases hxy:x=y
  ·subst hxy
   rfl
  ·have h1:(x==y)=false:=by simpa using hxy
   have h2:(y==x)=false:=by simpa using Ne.symm hxy
   rw [h1,h2]
   simp only [Bool.false_or]
   split<;>split<;>rfl
 |trans _ _ ih1 ih2=>exact ih1.trans ih2
def B1 (fk fp:Nat) (ks ps:List (List AV)) (root:Int) (fg:Bool):Ob:=Ob.mk OK.box 115 4 0 [[AV.list fk 1 ks,vu root,vbool fg,AV.list fp 2 ps]]
theorem p89a:∀(F:EF) (fl:Nat) (tb:List (List AV)) (fk fp:Nat) (ks ps:List (List AV)) (root:Int) (fg:Bool),pieceF cx0 F 89 89 Try.f89.body [false] [0,3,4] [(0,AV.list fl 2 tb),(1,AV.agg [AV.list fk 1 ks,vu root,vbool fg,AV.list fp 2 ps])] []=some (JX.normal,[AV.list fl 2 tb,AV.ptr 0 0 0 0,vbool false],[B1 fk fp ks ps root fg]):=by
 intros
 kernel_rfl
theorem p89b:∀(F:EF) (fl:Nat) (tb:List (List AV)) (fk fp:Nat) (ks ps:List (List AV)) (root:Int) (fg:Bool),pieceF cx0 F 89 89 Try.f89.body [true,false] [0,3,4,5,6] [(0,AV.list fl 2 tb),(3,AV.ptr 0 0 0 0),(4,vbool false)] [B1 fk fp ks ps root fg]=Ω (F (Key.fn 42) [AV.agg [vbool fg,AV.list 0 2 ps],vu root] []) fun r0↦Ω (ret1 r0) fun v1↦Ω (AV.tup? v1) fun vs2↦Ω (uncons? vs2) fun p3↦Ω (AV.list? 1 p3.fst) fun es4↦Ω (uncons? p3.snd) fun p5↦Ω (AV.bool? p5.fst) fun b6↦bif b6 then Ω (nil? p5.snd) fun x7↦some (JX.normal,[AV.list fl 2 tb,AV.ptr 0 0 0 0,vbool false,AV.list 0 1 es4,vbool true],[B1 fk fp ks ps root fg]) else Ω (nil? p5.snd) fun x8↦some (JX.normal,[AV.list fl 2 tb,AV.ptr 0 0 0 0,vbool false,AV.list 0 1 es4,vbool false],[B1 fk fp ks ps root fg]):=by
 intros
 kernel_rfl
theorem p89c:∀(F:EF) (fl:Nat) (tb:List (List AV)) (fk fp:Nat) (ks ps:List (List AV)) (root:Int) (fg:Bool) (fr:Nat) (rs:List (List AV)) (ok:Bool),pieceF cx0 F 89 89 Try.f89.body [true,true,false] [0,3,4,5] [(0,AV.list fl 2 tb),(3,AV.ptr 0 0 0 0),(4,vbool false),(5,AV.list fr 1 rs),(6,vbool ok)] [B1 fk fp ks ps root fg]=bif !ok then some (JX.ret,[AV.list fl 2 tb,AV.ptr 0 0 0 0,vbool false,AV.list fr 1 rs],[B1 fk fp ks ps root fg]) else bif decide (fg=false) then bif decide (fg=false) then bif decide (fg=false) then bif decide (fg=false) then bif decide (((List.length ks:Nat):Int)=0) then bif fg then some (JX.ret,[AV.list fl 2 tb,AV.ptr 0 0 0 0,vbool false,AV.list fr 1 rs],[B1 fk fp ks ps root fg]) else some (JX.ret,[AV.list fl 2 tb,AV.ptr 0 0 0 0,vbool false,AV.list fr 1 rs],[B1 fk fp ks ps root fg]) else bif fg then some (JX.ret,[AV.list fl 2 tb,AV.ptr 0 0 0 0,vbool false,AV.list fr 1 rs],[B1 fk fp ks ps root fg]) else bif ((List.length rs:Nat):Int) !=((List.length ks:Nat):Int) then some (JX.ret,[AV.list fl 2 tb,AV.ptr 0 0 0 0,vbool false,AV.list fr 1 rs],[B1 fk fp ks ps root fg]) else some (JX.normal,[AV.list fl 2 tb,AV.ptr 0 0 0 0,vbool false,AV.list fr 1 rs],[B1 fk fp ks ps root fg]) else bif fg then some (JX.ret,[AV.list fl 2 tb,AV.ptr 0 0 0 0,vbool false,AV.list fr 1 rs],[B1 fk fp ks ps root fg]) else none else bif decide (fg=false) then none else bif fg then some (JX.ret,[AV.list fl 2 tb,AV.ptr 0 0 0 0,vbool false,AV.list fr 1 rs],[B1 fk fp ks ps root fg]) else none else bif decide (fg=false) then none else bif decide (fg=false) then none else bif fg then some (JX.ret,[AV.list fl 2 tb,AV.ptr 0 0 0 0,vbool false,AV.list fr 1 rs],[B1 fk fp ks ps root fg]) else none else bif decide (fg=false) then none else bif decide (fg=false) then none else bif decide (fg=false) then none else bif fg then some (JX.ret,[AV.list fl 2 tb,AV.ptr 0 0 0 0,vbool false,AV.list fr 1 rs],[B1 fk fp ks ps root fg]) else none:=by
 intros
 kernel_rfl
theorem p89e:∀(F:EF) (fl:Nat) (tb:List (List AV)) (fk fp:Nat) (ks ps:List (List AV)) (root:Int) (fg:Bool) (fr:Nat) (rs:List (List AV)) (z:Nat),pieceO cx0 F 89 Try.f89.body [true,true,true,false] 1 1 [0,3,4,5,7] [(43,AV.val (Value.map (some z))),(0,AV.list fl 2 tb),(3,AV.ptr 0 0 0 0),(4,vbool false),(5,AV.list fr 1 rs)] [B1 fk fp ks ps root fg]=some (JX.normal,[AV.list fl 2 tb,AV.ptr 0 0 0 0,vbool false,AV.list fr 1 rs,AV.val (Value.map (some z))],[B1 fk fp ks ps root fg]):=by
 intros
 kernel_rfl
theorem p89g:∀(F:EF) (fl:Nat) (tb:List (List AV)) (fk fp:Nat) (ks ps:List (List AV)) (root:Int) (fg:Bool) (fr:Nat) (rs:List (List AV)) (z:Nat),pieceF cx0 F 89 89 Try.f89.body [true,true,true,true,false,false] [0,3,4,5,7,45,46,47] [(0,AV.list fl 2 tb),(3,AV.ptr 0 0 0 0),(4,vbool false),(5,AV.list fr 1 rs),(7,AV.val (Value.map (some z)))] [B1 fk fp ks ps root fg]=some (JX.normal,[AV.list fl 2 tb,AV.ptr 0 0 0 0,vbool false,AV.list fr 1 rs,AV.val (Value.map (some z)),AV.list fk 1 ks,vi ↑(List.length ks),vi 0],[B1 fk fp ks ps root fg]):=by
 intros
 kernel_rfl
theorem p89h:∀(F:EF) (fl:Nat) (tb:List (List AV)) (fk fp:Nat) (ks ps:List (List AV)) (root:Int) (fg:Bool) (fr:Nat) (rs:List (List AV)) (z fq:Nat) (ls:List (List AV)) (m i:Int),pieceF cx0 F 89 89 Try.f89.body [true,true,true,true,false,true,false,false,false] [0,3,4,5,7,45,46,47,48] [(0,AV.list fl 2 tb),(3,AV.ptr 0 0 0 0),(4,vbool false),(5,AV.list fr 1 rs),(7,AV.val (Value.map (some z))),(45,AV.list fq 1 ls),(46,vi m),(47,vi i)] [B1 fk fp ks ps root fg]=bif decide (i<m) then some (JX.normal,[AV.list fl 2 tb,AV.ptr 0 0 0 0,vbool false,AV.list fr 1 rs,AV.val (Value.map (some z)),AV.list fq 1 ls,vi m,vi i,vbool true],[B1 fk fp ks ps root fg]) else some (JX.normal,[AV.list fl 2 tb,AV.ptr 0 0 0 0,vbool false,AV.list fr 1 rs,AV.val (Value.map (some z)),AV.list fq 1 ls,vi m,vi i,vbool false],[B1 fk fp ks ps root fg]):=by
 intros
 kernel_rfl
theorem p89i:∀(F:EF) (fl:Nat) (tb:List (List AV)) (fk fp:Nat) (ks ps:List (List AV)) (root:Int) (fg:Bool) (fr:Nat) (rs:List (List AV)) (z fq:Nat) (ls:List (List AV)) (m i:Int) (q:Bool),pieceF cx0 F 89 89 Try.f89.body [true,true,true,true,false,true,false,false,true,false] [0,3,4,5,7,45,46,47] [(0,AV.list fl 2 tb),(3,AV.ptr 0 0 0 0),(4,vbool false),(5,AV.list fr 1 rs),(7,AV.val (Value.map (some z))),(45,AV.list fq 1 ls),(46,vi m),(47,vi i),(48,vbool q)] [B1 fk fp ks ps root fg]=bif q then some (JX.normal,[AV.list fl 2 tb,AV.ptr 0 0 0 0,vbool false,AV.list fr 1 rs,AV.val (Value.map (some z)),AV.list fq 1 ls,vi m,vi i],[B1 fk fp ks ps root fg]) else some (JX.exit 0,[AV.list fl 2 tb,AV.ptr 0 0 0 0,vbool false,AV.list fr 1 rs,AV.val (Value.map (some z)),AV.list fq 1 ls,vi m,vi i],[B1 fk fp ks ps root fg]):=by
 intros
 kernel_rfl
theorem p89j:∀(F:EF) (fl:Nat) (tb:List (List AV)) (fk fp:Nat) (ks ps:List (List AV)) (root:Int) (fg:Bool) (fr:Nat) (rs:List (List AV)) (z fq:Nat) (ls:List (List AV)) (m i:Int),pieceF cx0 F 89 89 Try.f89.body [true,true,true,true,false,true,false,false,true,true,false,false,false] [0,3,4,5,7,45,46,47,9] [(0,AV.list fl 2 tb),(3,AV.ptr 0 0 0 0),(4,vbool false),(5,AV.list fr 1 rs),(7,AV.val (Value.map (some z))),(45,AV.list fq 1 ls),(46,vi m),(47,vi i)] [B1 fk fp ks ps root fg]=if 0≤i then Ω ls[Int.toNat i]? fun cs9↦Ω (uncons? cs9) fun p10↦Ω (AV.int? IntKind.u64 p10.fst) fun n11↦Ω (nil? p10.snd) fun x12↦some (JX.normal,[AV.list fl 2 tb,AV.ptr 0 0 0 0,vbool false,AV.list fr 1 rs,AV.val (Value.map (some z)),AV.list fq 1 ls,vi m,vi i,vu n11],[B1 fk fp ks ps root fg]) else none:=by
 intros
 kernel_rfl
theorem p89k:∀(F:EF) (fl:Nat) (tb:List (List AV)) (fk fp:Nat) (ks ps:List (List AV)) (root:Int) (fg:Bool) (fr:Nat) (rs:List (List AV)) (z fq:Nat) (ls:List (List AV)) (m i x:Int),pieceO cx0 F 89 Try.f89.body [true,true,true,true,false,true,false,false,true,true,false,false,true] 0 3 [0,3,4,5,7,45,46,47,51,52,53] [(0,AV.list fl 2 tb),(3,AV.ptr 0 0 0 0),(4,vbool false),(5,AV.list fr 1 rs),(7,AV.val (Value.map (some z))),(45,AV.list fq 1 ls),(46,vi m),(47,vi i),(9,vu x)] [B1 fk fp ks ps root fg]=some (JX.normal,[AV.list fl 2 tb,AV.ptr 0 0 0 0,vbool false,AV.list fr 1 rs,AV.val (Value.map (some z)),AV.list fq 1 ls,vi m,vi i,AV.val (Value.map (some z)),vu x,AV.agg []],[B1 fk fp ks ps root fg]):=by
 intros
 kernel_rfl
theorem p89l:∀(F:EF) (fl:Nat) (tb:List (List AV)) (fk fp:Nat) (ks ps:List (List AV)) (root:Int) (fg:Bool) (fr:Nat) (rs:List (List AV)) (z fq:Nat) (ls:List (List AV)) (m i:Int),pieceF cx0 F 89 89 Try.f89.body [true,true,true,true,false,true,false,false,true,true,true] [0,3,4,5,7,45,46,47] [(0,AV.list fl 2 tb),(3,AV.ptr 0 0 0 0),(4,vbool false),(5,AV.list fr 1 rs),(7,AV.val (Value.map (some z))),(45,AV.list fq 1 ls),(46,vi m),(47,vi i)] [B1 fk fp ks ps root fg]=some (JX.normal,[AV.list fl 2 tb,AV.ptr 0 0 0 0,vbool false,AV.list fr 1 rs,AV.val (Value.map (some z)),AV.list fq 1 ls,vi m,vi (IntKind.wrap IntKind.i64 (Int.add i 1))],[B1 fk fp ks ps root fg]):=by
 intros
 kernel_rfl
theorem p89m:∀(F:EF) (fl:Nat) (tb:List (List AV)) (fk fp:Nat) (ks ps:List (List AV)) (root:Int) (fg:Bool) (fr:Nat) (rs:List (List AV)) (z:Nat),pieceO cx0 F 89 Try.f89.body [true,true,true,true,true,false,false] 0 5 [0,3,4,5,7,58,59] [(0,AV.list fl 2 tb),(3,AV.ptr 0 0 0 0),(4,vbool false),(5,AV.list fr 1 rs),(7,AV.val (Value.map (some z)))] [B1 fk fp ks ps root fg]=Ω (F (Key.fn 83) [AV.list 0 2 tb] []) fun r13↦Ω (ret1 r13) fun v14↦Ω (AV.bool? v14) fun b15↦bif b15 then some (JX.normal,[AV.list fl 2 tb,AV.ptr 0 0 0 0,vbool false,AV.list fr 1 rs,AV.val (Value.map (some z)),vbool false,AV.val (Value.map (some z))],[B1 fk fp ks ps root fg]) else some (JX.normal,[AV.list fl 2 tb,AV.ptr 0 0 0 0,vbool false,AV.list fr 1 rs,AV.val (Value.map (some z)),vbool true,AV.val (Value.tuple (Array.mk []))],[B1 fk fp ks ps root fg]):=by
 intros
 kernel_rfl
theorem p89m2:∀(F:EF) (fl:Nat) (tb:List (List AV)) (fk fp:Nat) (ks ps:List (List AV)) (root:Int) (fg:Bool) (fr:Nat) (rs:List (List AV)) (z:Nat),pieceF cx0 F 89 89 Try.f89.body [true,true,true,true,true,false,false] [0,3,4,7,64] [(0,AV.list fl 2 tb),(3,AV.ptr 0 0 0 0),(4,vbool false),(5,AV.list fr 1 rs),(7,AV.val (Value.map (some z)))] [B1 fk fp ks ps root fg]=Ω (F (Key.fn 83) [AV.list 0 2 tb] []) fun r16↦Ω (ret1 r16) fun v17↦Ω (AV.bool? v17) fun b18↦bif b18 then none else some (JX.normal,[AV.list fl 2 tb,AV.ptr 0 0 0 0,vbool false,AV.val (Value.map (some z)),vbool true],[B1 fk fp ks ps root fg]):=by
 intros
 kernel_rfl
theorem p89n:∀(F:EF) (fl:Nat) (tb:List (List AV)) (fk fp:Nat) (ks ps:List (List AV)) (root:Int) (fg:Bool) (fr:Nat) (rs:List (List AV)) (z:Nat) (n:Int),pieceO cx0 F 89 Try.f89.body [true,true,true,true,true,false,false] 6 4 [0,3,4,7,64] [(60,vi n),(0,AV.list fl 2 tb),(3,AV.ptr 0 0 0 0),(4,vbool false),(5,AV.list fr 1 rs),(7,AV.val (Value.map (some z))),(58,vbool false)] [B1 fk fp ks ps root fg]=bif n != ↑(List.length rs) then some (JX.normal,[AV.list fl 2 tb,AV.ptr 0 0 0 0,vbool false,AV.val (Value.map (some z)),vbool true],[B1 fk fp ks ps root fg]) else some (JX.normal,[AV.list fl 2 tb,AV.ptr 0 0 0 0,vbool false,AV.val (Value.map (some z)),vbool false],[B1 fk fp ks ps root fg]):=by
 intros
 kernel_rfl
theorem p89o:∀(F:EF) (fl:Nat) (tb:List (List AV)) (fk fp:Nat) (ks ps:List (List AV)) (root:Int) (fg:Bool) (z:Nat) (q:Bool),pieceF cx0 F 89 89 Try.f89.body [true,true,true,true,true,false,true] [0,3,4,7] [(0,AV.list fl 2 tb),(3,AV.ptr 0 0 0 0),(4,vbool false),(7,AV.val (Value.map (some z))),(64,vbool q)] [B1 fk fp ks ps root fg]=bif q then some (JX.ret,[AV.list fl 2 tb,AV.ptr 0 0 0 0,vbool false,AV.val (Value.map (some z))],[B1 fk fp ks ps root fg]) else some (JX.normal,[AV.list fl 2 tb,AV.ptr 0 0 0 0,vbool false,AV.val (Value.map (some z))],[B1 fk fp ks ps root fg]):=by
 intros
 kernel_rfl
theorem p89p:∀(F:EF) (fl:Nat) (tb:List (List AV)) (fk fp:Nat) (ks ps:List (List AV)) (root:Int) (fg:Bool) (z:Nat),pieceF cx0 F 89 89 Try.f89.body [true,true,true,true,true,true,false,false] [0,3,4,7,67,68,69] [(0,AV.list fl 2 tb),(3,AV.ptr 0 0 0 0),(4,vbool false),(7,AV.val (Value.map (some z)))] [B1 fk fp ks ps root fg]=some (JX.normal,[AV.list fl 2 tb,AV.ptr 0 0 0 0,vbool false,AV.val (Value.map (some z)),AV.list fp 2 ps,vi ↑(List.length ps),vi 0],[B1 fk fp ks ps root fg]):=by
 intros
 kernel_rfl
theorem p89q:∀(F:EF) (fl:Nat) (tb:List (List AV)) (fk fp:Nat) (ks ps:List (List AV)) (root:Int) (fg:Bool) (z fq:Nat) (ls:List (List AV)) (m i:Int),pieceF cx0 F 89 89 Try.f89.body [true,true,true,true,true,true,false,true,false,false,false] [0,3,4,7,67,68,69,70] [(0,AV.list fl 2 tb),(3,AV.ptr 0 0 0 0),(4,vbool false),(7,AV.val (Value.map (some z))),(67,AV.list fq 2 ls),(68,vi m),(69,vi i)] [B1 fk fp ks ps root fg]=bif decide (i<m) then some (JX.normal,[AV.list fl 2 tb,AV.ptr 0 0 0 0,vbool false,AV.val (Value.map (some z)),AV.list fq 2 ls,vi m,vi i,vbool true],[B1 fk fp ks ps root fg]) else some (JX.normal,[AV.list fl 2 tb,AV.ptr 0 0 0 0,vbool false,AV.val (Value.map (some z)),AV.list fq 2 ls,vi m,vi i,vbool false],[B1 fk fp ks ps root fg]):=by
 intros
 kernel_rfl
theorem p89r:∀(F:EF) (fl:Nat) (tb:List (List AV)) (fk fp:Nat) (ks ps:List (List AV)) (root:Int) (fg:Bool) (z fq:Nat) (ls:List (List AV)) (m i:Int) (q:Bool),pieceF cx0 F 89 89 Try.f89.body [true,true,true,true,true,true,false,true,false,false,true,false] [0,3,4,7,67,68,69] [(0,AV.list fl 2 tb),(3,AV.ptr 0 0 0 0),(4,vbool false),(7,AV.val (Value.map (some z))),(67,AV.list fq 2 ls),(68,vi m),(69,vi i),(70,vbool q)] [B1 fk fp ks ps root fg]=bif q then some (JX.normal,[AV.list fl 2 tb,AV.ptr 0 0 0 0,vbool false,AV.val (Value.map (some z)),AV.list fq 2 ls,vi m,vi i],[B1 fk fp ks ps root fg]) else some (JX.exit 2,[AV.list fl 2 tb,AV.ptr 0 0 0 0,vbool false,AV.val (Value.map (some z)),AV.list fq 2 ls,vi m,vi i],[B1 fk fp ks ps root fg]):=by
 intros
 kernel_rfl
theorem p89s:∀(F:EF) (fl:Nat) (tb:List (List AV)) (fk fp:Nat) (ks ps:List (List AV)) (root:Int) (fg:Bool) (z fq:Nat) (ls:List (List AV)) (m i:Int),pieceF cx0 F 89 89 Try.f89.body [true,true,true,true,true,true,false,true,false,false,true,true,false,false,false] [0,3,4,7,67,68,69,11] [(0,AV.list fl 2 tb),(3,AV.ptr 0 0 0 0),(4,vbool false),(7,AV.val (Value.map (some z))),(67,AV.list fq 2 ls),(68,vi m),(69,vi i)] [B1 fk fp ks ps root fg]=if 0≤i then Ω ls[Int.toNat i]? fun cs19↦Ω (uncons? cs19) fun p20↦Ω (AV.int? IntKind.u64 p20.fst) fun n21↦Ω (uncons? p20.snd) fun p22↦Ω (AV.int? IntKind.u64 p22.fst) fun n23↦Ω (nil? p22.snd) fun x24↦some (JX.normal,[AV.list fl 2 tb,AV.ptr 0 0 0 0,vbool false,AV.val (Value.map (some z)),AV.list fq 2 ls,vi m,vi i,AV.ptr 1 0 0 0],[B1 fk fp ks ps root fg,Ob.mk OK.box 80 2 0 [[vu n21,vu n23]]]) else none:=by
 intros
 kernel_rfl
theorem p89t:∀(F:EF) (fl:Nat) (tb:List (List AV)) (fk fp:Nat) (ks ps:List (List AV)) (root:Int) (fg:Bool) (z fq:Nat) (ls:List (List AV)) (m i x y:Int),pieceO cx0 F 89 Try.f89.body [true,true,true,true,true,true,false,true,false,false,true,true,false,false,true,false] 0 3 [0,3,4,7,67,68,69,11,74,76] [(0,AV.list fl 2 tb),(3,AV.ptr 0 0 0 0),(4,vbool false),(7,AV.val (Value.map (some z))),(67,AV.list fq 2 ls),(68,vi m),(69,vi i),(11,AV.ptr 1 0 0 0)] [B1 fk fp ks ps root fg,Ob.mk OK.box 80 2 0 [[vu x,vu y]]]=some (JX.normal,[AV.list fl 2 tb,AV.ptr 0 0 0 0,vbool false,AV.val (Value.map (some z)),AV.list fq 2 ls,vi m,vi i,AV.ptr 1 0 0 0,AV.val (Value.map (some z)),vu x],[B1 fk fp ks ps root fg,Ob.mk OK.box 80 2 0 [[vu x,vu y]]]):=by
 intros
 kernel_rfl
theorem p89u:∀(F:EF) (fl:Nat) (tb:List (List AV)) (fk fp:Nat) (ks ps:List (List AV)) (root:Int) (fg:Bool) (z fq:Nat) (ls:List (List AV)) (m i x y:Int) (ok:Bool),pieceO cx0 F 89 Try.f89.body [true,true,true,true,true,true,false,true,false,false,true,true,false,false,true,false] 4 6 [0,3,4,7,67,68,69,11,13] [(77,AV.tuple [AV.agg [],vbool ok]),(0,AV.list fl 2 tb),(3,AV.ptr 0 0 0 0),(4,vbool false),(7,AV.val (Value.map (some z))),(67,AV.list fq 2 ls),(68,vi m),(69,vi i),(11,AV.ptr 1 0 0 0)] [B1 fk fp ks ps root fg,Ob.mk OK.box 80 2 0 [[vu x,vu y]]]=some (JX.normal,[AV.list fl 2 tb,AV.ptr 0 0 0 0,vbool false,AV.val (Value.map (some z)),AV.list fq 2 ls,vi m,vi i,AV.ptr 1 0 0 0,vbool ok],[B1 fk fp ks ps root fg,Ob.mk OK.box 80 2 0 [[vu x,vu y]],Ob.mk OK.box 166 0 0 [[]]]):=by
 intros
 kernel_rfl
theorem p89v:∀(F:EF) (fl:Nat) (tb:List (List AV)) (fk fp:Nat) (ks ps:List (List AV)) (root:Int) (fg:Bool) (z fq:Nat) (ls:List (List AV)) (m i x y:Int) (ok:Bool),pieceF cx0 F 89 89 Try.f89.body [true,true,true,true,true,true,false,true,false,false,true,true,false,false,true,true,false] [0,3,4,7,67,68,69,87] [(0,AV.list fl 2 tb),(3,AV.ptr 0 0 0 0),(4,vbool false),(7,AV.val (Value.map (some z))),(67,AV.list fq 2 ls),(68,vi m),(69,vi i),(11,AV.ptr 1 0 0 0),(13,vbool ok)] [B1 fk fp ks ps root fg,Ob.mk OK.box 80 2 0 [[vu x,vu y]]]=bif !ok then some (JX.normal,[AV.list fl 2 tb,AV.ptr 0 0 0 0,vbool false,AV.val (Value.map (some z)),AV.list fq 2 ls,vi m,vi i,vbool true],[B1 fk fp ks ps root fg,Ob.mk OK.box 80 2 0 [[vu x,vu y]]]) else Ω (F (Key.fn 138) [AV.list 0 2 tb,AV.agg [vu x,vu y]] []) fun r25↦Ω (ret1 r25) fun v26↦Ω (AV.bool? v26) fun b27↦bif b27 then some (JX.normal,[AV.list fl 2 tb,AV.ptr 0 0 0 0,vbool false,AV.val (Value.map (some z)),AV.list fq 2 ls,vi m,vi i,vbool false],[B1 fk fp ks ps root fg,Ob.mk OK.box 80 2 0 [[vu x,vu y]]]) else some (JX.normal,[AV.list fl 2 tb,AV.ptr 0 0 0 0,vbool false,AV.val (Value.map (some z)),AV.list fq 2 ls,vi m,vi i,vbool true],[B1 fk fp ks ps root fg,Ob.mk OK.box 80 2 0 [[vu x,vu y]]]):=by
 intros
 kernel_rfl
theorem p89w:∀(F:EF) (fl:Nat) (tb:List (List AV)) (fk fp:Nat) (ks ps:List (List AV)) (root:Int) (fg:Bool) (z fq:Nat) (ls:List (List AV)) (m i:Int) (q:Bool),pieceF cx0 F 89 89 Try.f89.body [true,true,true,true,true,true,false,true,false,false,true,true,false,false,true,true,true] [0,3,4,7,67,68,69] [(0,AV.list fl 2 tb),(3,AV.ptr 0 0 0 0),(4,vbool false),(7,AV.val (Value.map (some z))),(67,AV.list fq 2 ls),(68,vi m),(69,vi i),(87,vbool q)] [B1 fk fp ks ps root fg]=bif q then some (JX.ret,[AV.list fl 2 tb,AV.ptr 0 0 0 0,vbool false,AV.val (Value.map (some z)),AV.list fq 2 ls,vi m,vi i],[B1 fk fp ks ps root fg]) else some (JX.normal,[AV.list fl 2 tb,AV.ptr 0 0 0 0,vbool false,AV.val (Value.map (some z)),AV.list fq 2 ls,vi m,vi i],[B1 fk fp ks ps root fg]):=by
 intros
 kernel_rfl
theorem p89x:∀(F:EF) (fl:Nat) (tb:List (List AV)) (fk fp:Nat) (ks ps:List (List AV)) (root:Int) (fg:Bool) (z fq:Nat) (ls:List (List AV)) (m i:Int),pieceF cx0 F 89 89 Try.f89.body [true,true,true,true,true,true,false,true,false,false,true,true,true] [0,3,4,7,67,68,69] [(0,AV.list fl 2 tb),(3,AV.ptr 0 0 0 0),(4,vbool false),(7,AV.val (Value.map (some z))),(67,AV.list fq 2 ls),(68,vi m),(69,vi i)] [B1 fk fp ks ps root fg]=some (JX.normal,[AV.list fl 2 tb,AV.ptr 0 0 0 0,vbool false,AV.val (Value.map (some z)),AV.list fq 2 ls,vi m,vi (IntKind.wrap IntKind.i64 (Int.add i 1))],[B1 fk fp ks ps root fg]):=by
 intros
 kernel_rfl
theorem p89y:∀(F:EF) (fl:Nat) (tb:List (List AV)) (fk fp:Nat) (ks ps:List (List AV)) (root:Int) (fg:Bool),pieceF cx0 F 89 89 Try.f89.body [true,true,true,true,true,true,true,false] [4] [(0,AV.list fl 2 tb),(3,AV.ptr 0 0 0 0),(4,vbool false)] [B1 fk fp ks ps root fg]=some (JX.normal,[vbool true],[B1 fk fp ks ps root fg]):=by
 intros
 kernel_rfl
noncomputable def bd89:Code:=(Try.f89.body).getD .skip
theorem b89:Try.f89.body=some bd89:=by kernel_rfl
theorem n89:Try.f89.ntmps=89:=by kernel_rfl
noncomputable def cd (p:List Bool):Code:=(sub p bd89).getD .skip
def regId:Code→Nat
 | .region id _ _=>id
 | _=>0
def opAt (c:Code) (i:Nat):Oper:=((opsAt c).toList.drop i).headD default
theorem sA:sub [false] bd89=some (cd [false]):=by kernel_rfl
theorem sB:sub [true,false] bd89=some (cd [true,false]):=by kernel_rfl
theorem sC:sub [true,true,false] bd89=some (cd [true,true,false]):=by kernel_rfl
theorem sE:sub [true,true,true,false] bd89=some (cd [true,true,true,false]):=by kernel_rfl
theorem sG:sub [true,true,true,true,false,false] bd89=some (cd [true,true,true,true,false,false]):=by kernel_rfl
theorem sH:sub [true,true,true,true,false,true,false,false,false] bd89=some (cd [true,true,true,true,false,true,false,false,false]):=by kernel_rfl
theorem sI:sub [true,true,true,true,false,true,false,false,true,false] bd89=some (cd [true,true,true,true,false,true,false,false,true,false]):=by kernel_rfl
theorem sJ:sub [true,true,true,true,false,true,false,false,true,true,false,false,false] bd89=some (cd [true,true,true,true,false,true,false,false,true,true,false,false,false]):=by kernel_rfl
theorem sKk:sub [true,true,true,true,false,true,false,false,true,true,false,false,true] bd89=some (cd [true,true,true,true,false,true,false,false,true,true,false,false,true]):=by kernel_rfl
theorem sL:sub [true,true,true,true,false,true,false,false,true,true,true] bd89=some (cd [true,true,true,true,false,true,false,false,true,true,true]):=by kernel_rfl
theorem sM:sub [true,true,true,true,true,false,false] bd89=some (cd [true,true,true,true,true,false,false]):=by kernel_rfl
theorem sO:sub [true,true,true,true,true,false,true] bd89=some (cd [true,true,true,true,true,false,true]):=by kernel_rfl
theorem sPp:sub [true,true,true,true,true,true,false,false] bd89=some (cd [true,true,true,true,true,true,false,false]):=by kernel_rfl
theorem sQ:sub [true,true,true,true,true,true,false,true,false,false,false] bd89=some (cd [true,true,true,true,true,true,false,true,false,false,false]):=by kernel_rfl
theorem sR:sub [true,true,true,true,true,true,false,true,false,false,true,false] bd89=some (cd [true,true,true,true,true,true,false,true,false,false,true,false]):=by kernel_rfl
theorem sSs:sub [true,true,true,true,true,true,false,true,false,false,true,true,false,false,false] bd89=some (cd [true,true,true,true,true,true,false,true,false,false,true,true,false,false,false]):=by kernel_rfl
theorem sT:sub [true,true,true,true,true,true,false,true,false,false,true,true,false,false,true,false] bd89=some (cd [true,true,true,true,true,true,false,true,false,false,true,true,false,false,true,false]):=by kernel_rfl
theorem sV:sub [true,true,true,true,true,true,false,true,false,false,true,true,false,false,true,true,false] bd89=some (cd [true,true,true,true,true,true,false,true,false,false,true,true,false,false,true,true,false]):=by kernel_rfl
theorem sW:sub [true,true,true,true,true,true,false,true,false,false,true,true,false,false,true,true,true] bd89=some (cd [true,true,true,true,true,true,false,true,false,false,true,true,false,false,true,true,true]):=by kernel_rfl
theorem sX:sub [true,true,true,true,true,true,false,true,false,false,true,true,true] bd89=some (cd [true,true,true,true,true,true,false,true,false,false,true,true,true]):=by kernel_rfl
theorem sY:sub [true,true,true,true,true,true,true,false] bd89=some (cd [true,true,true,true,true,true,true,false]):=by kernel_rfl
theorem gE:(cd [true,true,true,false]) = .region (regId (cd [true,true,true,false])) (opsAt (cd [true,true,true,false])) false:=by kernel_rfl
theorem gKk:(cd [true,true,true,true,false,true,false,false,true,true,false,false,true]) = .region (regId (cd [true,true,true,true,false,true,false,false,true,true,false,false,true])) (opsAt (cd [true,true,true,true,false,true,false,false,true,true,false,false,true])) false:=by kernel_rfl
theorem gM:(cd [true,true,true,true,true,false,false]) = .region (regId (cd [true,true,true,true,true,false,false])) (opsAt (cd [true,true,true,true,true,false,false])) false:=by kernel_rfl
theorem gT:(cd [true,true,true,true,true,true,false,true,false,false,true,true,false,false,true,false]) = .region (regId (cd [true,true,true,true,true,true,false,true,false,false,true,true,false,false,true,false])) (opsAt (cd [true,true,true,true,true,true,false,true,false,false,true,true,false,false,true,false])) false:=by kernel_rfl
theorem sh89:bd89 = .seq (cd [false]) (.seq (cd [true,false]) (.seq (cd [true,true,false]) (.seq (cd [true,true,true,false]) (.seq (.seq (cd [true,true,true,true,false,false]) (.block 0 (.loop (.seq (cd [true,true,true,true,false,true,false,false,false]) (.seq (cd [true,true,true,true,false,true,false,false,true,false]) (.seq (.block 1 (.seq (cd [true,true,true,true,false,true,false,false,true,true,false,false,false]) (cd [true,true,true,true,false,true,false,false,true,true,false,false,true]))) (cd [true,true,true,true,false,true,false,false,true,true,true]))))))) (.seq (.seq (cd [true,true,true,true,true,false,false]) (cd [true,true,true,true,true,false,true])) (.seq (.seq (cd [true,true,true,true,true,true,false,false]) (.block 2 (.loop (.seq (cd [true,true,true,true,true,true,false,true,false,false,false]) (.seq (cd [true,true,true,true,true,true,false,true,false,false,true,false]) (.seq (.block 3 (.seq (cd [true,true,true,true,true,true,false,true,false,false,true,true,false,false,false]) (.seq (cd [true,true,true,true,true,true,false,true,false,false,true,true,false,false,true,false]) (.seq (cd [true,true,true,true,true,true,false,true,false,false,true,true,false,false,true,true,false]) (cd [true,true,true,true,true,true,false,true,false,false,true,true,false,false,true,true,true]))))) (cd [true,true,true,true,true,true,false,true,false,false,true,true,true]))))))) (.seq (cd [true,true,true,true,true,true,true,false]) .ret))))))):=by kernel_rfl
theorem eKk:(opsAt (cd [true,true,true,true,false,true,false,false,true,true,false,false,true])).toList=((opsAt (cd [true,true,true,true,false,true,false,false,true,true,false,false,true])).toList.drop 0).take 3++[opAt (cd [true,true,true,true,false,true,false,false,true,true,false,false,true]) 3]:=by kernel_rfl
theorem oKk:(opAt (cd [true,true,true,true,false,true,false,false,true,true,false,false,true]) 3).guard=none∧(opAt (cd [true,true,true,true,false,true,false,false,true,true,false,false,true]) 3).op=Op.mapUpdate 165 (.tmp 51) (.tmp 52) (.tmp 53)∧(opAt (cd [true,true,true,true,false,true,false,false,true,true,false,false,true]) 3).dst=none:=⟨by kernel_rfl,by kernel_rfl,by kernel_rfl⟩
theorem eT:(opsAt (cd [true,true,true,true,true,true,false,true,false,false,true,true,false,false,true,false])).toList=((opsAt (cd [true,true,true,true,true,true,false,true,false,false,true,true,false,false,true,false])).toList.drop 0).take 3++(opAt (cd [true,true,true,true,true,true,false,true,false,false,true,true,false,false,true,false]) 3::(((opsAt (cd [true,true,true,true,true,true,false,true,false,false,true,true,false,false,true,false])).toList.drop 4).take 6++[])):=by kernel_rfl
theorem oT:(opAt (cd [true,true,true,true,true,true,false,true,false,false,true,true,false,false,true,false]) 3).guard=none∧(opAt (cd [true,true,true,true,true,true,false,true,false,false,true,true,false,false,true,false]) 3).op=Op.lookup 165 (.tmp 74) (.tmp 76) true∧(opAt (cd [true,true,true,true,true,true,false,true,false,false,true,true,false,false,true,false]) 3).dst=some 77:=⟨by kernel_rfl,by kernel_rfl,by kernel_rfl⟩
theorem eE:(opsAt (cd [true,true,true,false])).toList=(opAt (cd [true,true,true,false]) 0::(((opsAt (cd [true,true,true,false])).toList.drop 1).take 1++[])):=by kernel_rfl
theorem oE:(opAt (cd [true,true,true,false]) 0).guard=none∧(opAt (cd [true,true,true,false]) 0).op=Op.makeMap 165 none∧(opAt (cd [true,true,true,false]) 0).dst=some 43:=⟨by kernel_rfl,by kernel_rfl,by kernel_rfl⟩
theorem eM:(opsAt (cd [true,true,true,true,true,false,false])).toList=((opsAt (cd [true,true,true,true,true,false,false])).toList.drop 0).take 5++(opAt (cd [true,true,true,true,true,false,false]) 5::(((opsAt (cd [true,true,true,true,true,false,false])).toList.drop 6).take 4++[])):=by kernel_rfl
theorem oM:(opAt (cd [true,true,true,true,true,false,false]) 5).guard=some (3,false)∧(opAt (cd [true,true,true,true,true,false,false]) 5).op=Op.call { callee:=Callee.builtin Builtin.len,args:= #[.tmp 59],argTypes:= #[165] }∧(opAt (cd [true,true,true,true,true,false,false]) 5).dst=some 60∧gslot (opsAt (cd [true,true,true,true,true,false,false])) 3=some 58:=⟨by kernel_rfl,by kernel_rfl,by kernel_rfl,by kernel_rfl⟩
theorem r89 (q:Bool) (h:Heap):resultsOf cx0 [(4,vbool q)] h Try.f89.results.toList=some [vbool q]:=by kernel_rfl
theorem fact89:Fact cx 89:=⟨Try.f89,Try.func89,by kernel_rfl,by kernel_rfl⟩
section
variable {F:EF}{K:Kf}{S:Nat→Prop}{μ:Mu}{env:Env}{h:Heap}{a:Act}{w:World}{Q:Exit→Act→World→Prop}
theorem pw (hF:FnSound cx F) (hK:∀r x,K.fix r=some x→r<cx0.held 89) {p:List Bool}{code:Code}(hp:sub p bd89=some code) (st:St cx0 K 89 S μ env h a.tmps w) (hd:a.defers=[]) {ls:List Nat}{e:JX}{vs:List AV}{h':Heap}(hr:pieceF cx0 (rets F) 89 89 Try.f89.body p ls env h=some (e,vs,h')) (hQ:∀S' μ' a' w',a'.defers=[]→St cx0 K 89 S' μ' (ls.zip vs) h' a'.tmps w'→Q e.toExit a' w'):code.wp cx.P Q a w:=by
 have hN:=n89
 refine wp_mono (piece_wp hF Try.func89 b89 hp hK (ls:=ls) (e:=e) (vs:=vs) (h':=h') (by rw [hN];exact st) hd (by rw [hN];exact hr)) fun X a1 w1 ⟨g1,g2,S1,μ1,st1⟩=> ?_
 rw [hN] at st1
 subst g1
 exact hQ S1 μ1 a1 w1 g2 st1
theorem pws (hF:FnSound cx F) (hK:∀r x,K.fix r=some x→r<cx0.held 89) {p:List Bool}{code y:Code}(hp:sub p bd89=some code) (st:St cx0 K 89 S μ env h a.tmps w) (hd:a.defers=[]) {ls:List Nat}{vs:List AV}{h':Heap}(hr:pieceF cx0 (rets F) 89 89 Try.f89.body p ls env h=some (.normal,vs,h')) (hQ:∀S' μ' a' w',a'.defers=[]→St cx0 K 89 S' μ' (ls.zip vs) h' a'.tmps w'→y.wp cx.P Q a' w'):(Code.seq code y).wp cx.P Q a w :=
 wp_seq (pw hF hK hp st hd hr hQ)
theorem pwx (hF:FnSound cx F) (hK:∀r x,K.fix r=some x→r<cx0.held 89) {p:List Bool}{code y:Code}(hp:sub p bd89=some code) (st:St cx0 K 89 S μ env h a.tmps w) (hd:a.defers=[]) {ls:List Nat}{e:JX}{vs:List AV}{h':Heap}(hr:pieceF cx0 (rets F) 89 89 Try.f89.body p ls env h=some (e,vs,h')) (he:e.toExit ≠ .normal) (hQ:∀S' μ' a' w',a'.defers=[]→St cx0 K 89 S' μ' (ls.zip vs) h' a'.tmps w'→Q e.toExit a' w'):(Code.seq code y).wp cx.P Q a w:=by
 refine wp_seq (pw hF hK hp st hd hr fun S' μ' a' w' hd' st'=> ?_)
 have:=hQ S' μ' a' w' hd' st'
 cases e<;>first |exact absurd rfl he |exact this
theorem pwo (hF:FnSound cx F) {p:List Bool}{id:Nat}{ops:Array Oper}(hp:sub p bd89=some (.region id ops false)) (st:St cx0 K 89 S μ env h a.tmps w) {i n:Nat}{ls:List Nat}{vs:List AV}{h':Heap}(hr:pieceO cx0 (rets F) 89 Try.f89.body p i n ls env h=some (.normal,vs,h')) {tl:List Oper}(hQ:∀S' μ' a' w',a'.defers=a.defers→St cx0 K 89 S' μ' (ls.zip vs) h' a'.tmps w'→wpList cx.P ops Q tl a' w'):wpList cx.P ops Q ((ops.toList.drop i).take n++tl) a w:=by
 have hN:=n89
 refine pieceO_wp hF b89 hp (by rw [hN];exact st) (e := .normal) (ls:=ls) (vs:=vs) (h':=h') (by rw [hN];exact hr) rfl fun S' μ' a' w' hd' st'=> ?_
 rw [hN] at st'
 exact hQ S' μ' a' w' hd' st'
theorem fin89 (hO:K.O0=fun _=>False) {q:Bool}(st:St cx0 K 89 S μ env h a.tmps w) (h4:look env 4=some (vbool q)) (hd:a.defers=[]):bodyPost cx.P Try.f89 (Post cx K.S0 K.w0 (vbool q)) .ret a w:=by
 have st':St cx0 K 89 S μ [(4,vbool q)] h a.tmps w:=st.envSub fun t v hv=>by
  unfold look at hv
  split at hv
  ·rename_i hb
   have:=Nat.eq_of_beq_eq_true hb
   subst this
   cases hv
   exact⟨_,h4,Wk.refl _⟩
  ·cases hv
 obtain⟨y,g1,g2⟩:=post_fin (vs':=[vbool q]) st' hO (r89 q h) rfl
 exact⟨hd,y,g1,post_up g2⟩
theorem St.putV {d:Nat}{v:AV}{c:Value}(st:St cx0 K 89 S μ env h a.tmps w) (hd:d<89) (hr:Rep S w μ v c):St cx0 K 89 S μ ((d,v)::env) h (a.put (some d) c).tmps w:=st.put hd hr
end
section
variable {F:EF}{fl:Nat}{tb:List (List AV)}{fk fp:Nat}{ks ps:List (List AV)}{root:Int}{fg:Bool}{fr:Nat}{rs:List (List AV)}
theorem fixL {K:Kf}(hK:∀r x,K.fix r=some x→r<cx0.held 89) (w1:World) (z:Nat):∀r x,(K.late w1 z).fix r=some x→r<cx0.held 89:=hK
abbrev env1 (fl:Nat) (tb:List (List AV)) (fr:Nat) (rs:List (List AV)) (z:Nat) (fk:Nat) (ks:List (List AV)) (i:Nat):Env :=
 [(0,AV.list fl 2 tb),(3,AV.ptr 0 0 0 0),(4,vbool false),(5,AV.list fr 1 rs),(7,AV.val (.map (some z))),(45,AV.list fk 1 ks),(46,vi ((ks.length:Nat):Int)),(47,vi ((i:Nat):Int))]
theorem look_left {e1 e2:Env}{t:Nat}{v:AV}:look e1 t=some v→look (e1++e2) t=some v:=by
 induction e1 with
 |nil=>intro h;cases h
 |cons p r ih =>
  intro h
  obtain⟨s,x⟩:=p
  unfold look at h
  show(match Nat.beq s t with |true=>some x |false=>look (r++e2) t)=some v
  split at h
  ·rename_i hb;rw [hb];exact h
  ·rename_i hb;rw [hb];exact ih h
theorem St.left {cx:Cx}{K:Kf}{N:Nat}{S:Nat→Prop}{μ:Mu}{h:Heap}{tmps:Array Value}{w:World}{e1:Env}(e2:Env) (st:St cx K N S μ (e1++e2) h tmps w):St cx K N S μ e1 h tmps w:=st.envSub fun t v hv=>⟨v,look_left hv,Wk.refl _⟩
theorem wfU {n:Int}(h0:0≤n) (h1:n<18446744073709551616):(Lit.int .u64 n).wf=true:=by
 have e1:IntKind.u64.min=0:=rfl
 have e2:IntKind.u64.max=18446744073709551615:=rfl
 simp [Lit.wf]
 omega
def Inv1 (K:Kf) (wm:World) (fl:Nat) (tb:List (List AV)) (fk fp:Nat) (ks ps:List (List AV)) (root:Int) (fg:Bool) (fr:Nat) (rs:List (List AV)) (kl:List Int) (i:Nat) (a:Act) (w:World):Prop :=
 a.defers=[]∧i≤ks.length∧∃S μ o,MapO o (kl.take i).reverse i∧St cx0 (K.late { wm with heap:=wm.heap.push o } wm.heap.size) 89 S μ
  (env1 fl tb fr rs wm.heap.size fk ks i) [B1 fk fp ks ps root fg] a.tmps w
theorem keysU_get {ks:List (List AV)}:∀ {kl:List Int},keysU ks=some kl→kl.length=ks.length∧∀(i:Nat) (e:List AV),ks[i]?=some e→∃n:Int,e=[vu n]∧kl[i]?=some n∧0≤n∧n<18446744073709551616:=by
 induction ks with
 |nil=>intro kl h;cases h;exact⟨rfl,fun i e h=>by simp at h⟩
 |cons k r ih =>
  intro kl h
  unfold keysU at h
  split at h
  ·rename_i h0;cases h0
  ·rename_i n r' h0
   cases h0
   split at h
   ·rename_i hn
    obtain⟨l,h1,h2⟩:=bind_some_iff h
    cases h2
    obtain⟨g1,g2⟩:=ih h1
    refine⟨by simp [g1],fun i e hi=> ?_⟩
    cases i with
    |zero=>cases hi;exact⟨n,rfl,rfl,hn.1,hn.2⟩
    |succ i=>exact g2 i e (by simpa using hi)
   ·cases h
  ·cases h
theorem loop1 (hF:FnSound cx F) {K:Kf}(hK:∀r x,K.fix r=some x→r<cx0.held 89) (wm:World) (hS0:¬K.S0 wm.heap.size) {kl:List Int}(hkl:keysU ks=some kl) (hl:ks.length≤1000000) {Q:Exit→Act→World→Prop}{a:Act}{w:World}(h0:Inv1 K wm fl tb fk fp ks ps root fg fr rs kl 0 a w) (hQ:∀a' w',Inv1 K wm fl tb fk fp ks ps root fg fr rs kl ks.length a' w'→Q .normal a' w'):(Code.block 0 (.loop (.seq (cd [true,true,true,true,false,true,false,false,false]) (.seq (cd [true,true,true,true,false,true,false,false,true,false]) (.seq (.block 1 (.seq (cd [true,true,true,true,false,true,false,false,true,true,false,false,false]) (cd [true,true,true,true,false,true,false,false,true,true,false,false,true]))) (cd [true,true,true,true,false,true,false,false,true,true,true])))))).wp cx.P Q a w:=by
 refine wp_block (wp_loop (fun a w=>∃i,Inv1 K wm fl tb fk fp ks ps root fg fr rs kl i a w) (fun a _=>ks.length-(intOf (a.tmps.getD 47 undef)).toNat) ⟨0,h0⟩ ?_)
 rintro a w ⟨i,hd,hi,S,μ,o,hm,st⟩
 have hz:wm.heap.size<(wm.heap.push o).size:=by simp
 have m47:=st.slot (t:=47) (v := .int .i64 i) rfl
 by_cases hlt:i<ks.length
 ·refine pws hF (fixL hK _ _) sH st hd ((p89h _ fl tb fk fp ks ps root fg fr rs _ fk ks (ks.length:Int) (i:Int)).trans (by rw [decide_eq_true (show(i:Int)<(ks.length:Int) by omega)];rfl)) fun S1 μ1 a1 w1 hd1 st1=> ?_
  refine pws hF (fixL hK _ _) sI st1 hd1 (p89i _ fl tb fk fp ks ps root fg fr rs _ fk ks (ks.length:Int) (i:Int) true) fun S2 μ2 a2 w2 hd2 st2=> ?_
  refine wp_seq (wp_block ?_)
  obtain⟨n,he,hn,hn0,hn1⟩:=(keysU_get hkl).2 i _ (List.getElem?_eq_getElem hlt)
  refine pws hF (fixL hK _ _) sJ st2 hd2 ((p89j _ fl tb fk fp ks ps root fg fr rs _ fk ks (ks.length:Int) (i:Int)).trans (by
   rw [if_pos (by omega),show Int.toNat (i:Int)=i from rfl,List.getElem?_eq_getElem hlt,he];rfl)) fun S3 μ3 a3 w3 hd3 st3=> ?_
  rw [gKk]
  refine wp_region_list ?_
  rw [eKk]
  refine pwo hF (sKk.trans (congrArg some gKk)) st3 (p89k _ fl tb fk fp ks ps root fg fr rs _ fk ks (ks.length:Int) (i:Int) n) fun S4 μ4 a4 w4 hd4 st4=> ?_
  obtain⟨D,q1,q2,q3,q4⟩:=hm
  have hat:w4.heap[wm.heap.size]?=some o:=(st4.lateAt hz).trans (by show(wm.heap.push o)[_]?=_;simp)
  have v51:=st4.slot (t:=51) (v := .map (some wm.heap.size)) rfl
  have v52:=st4.slot (t:=52) (v := .int .u64 n) rfl
  have v53:a4.tmps.getD 53 undef = .agg #[]:=by
   obtain⟨vs,g1,g2⟩:=(st4.env 53 (AV.agg []) rfl).inv_agg
   have g3:=g2.inv_nil
   rw [g1]
   congr 1
   exact Array.toList_eq_nil_iff.1 g3
  have hwf:=wfU hn0 hn1
  refine wpList_mapUpdate_in w4 oKk.1 (.tmp 51) (.tmp 52) (.tmp 53) 165 oKk.2.1 26 166 (Maps.int_keyed Try.underlying26) Try.underlying165 unitElem wm.heap.size i D v51 (q1 w4 _ hat) (by unfold maxLen;omega) (.int .u64 n) (.agg #[]) (.int .u64 n) v52 v53 (Maps.keyOf_int_mk Try.underlying26 hwf) (.agg []) [] unitElem_mk ?_
  intro w5 g1 g2
  obtain⟨o',e5,hm'⟩:=mapO_put hat q2 q3 q4 g1 g2
  rw [oKk.2.2]
  have st5:=st4.turnLate hz hS0 o'
  rw [←e5] at st5
  have e6:(wm.heap.push o).setIfInBounds wm.heap.size o'=wm.heap.push o':=by
   apply Array.ext_getElem?
   intro b
   by_cases hb:b=wm.heap.size
   ·subst hb;simp
   ·rw [Array.getElem?_setIfInBounds_ne (Ne.symm hb),Array.getElem?_push,Array.getElem?_push,if_neg hb,if_neg hb]
  simp only [e6] at st5
  have st5':St cx0 (K.late { wm with heap:=wm.heap.push o' } wm.heap.size) 89 S4 μ4 (env1 fl tb fr rs wm.heap.size fk ks i) [B1 fk fp ks ps root fg] a4.tmps w5:=St.left [(51,AV.val (.map (some wm.heap.size))),(52,vu n),(53,AV.agg [])] st5
  show((cd [true,true,true,true,false,true,false,false,true,true,true])).wp cx.P _ a4 w5
  refine pw hF (fixL hK _ _) sL st5' (hd4.trans hd3) (p89l _ fl tb fk fp ks ps root fg fr rs _ fk ks (ks.length:Int) (i:Int)) fun S6 μ6 a6 w6 hd6 st6=> ?_
  have ei:IntKind.wrap .i64 (Int.add (i:Int) 1)=((i+1:Nat):Int):=(wrapI (n:=(i:Int)+1) (by omega) (by omega)).trans (by omega)
  rw [ei] at st6
  have m47':=st6.slot (t:=47) (v := .int .i64 ((i+1:Nat):Int)) rfl
  refine⟨⟨i+1,hd6,by omega,S6,μ6,o',?_,st6⟩,?_⟩
  ·have:(kl.take (i+1)).reverse=n::(kl.take i).reverse:=by
    have hlk:i<kl.length:=by rw [(keysU_get hkl).1];exact hlt
    rw [List.take_add_one,hn]
    simp
   rw [this]
   exact hm'
  ·rw [m47,m47']
   show ks.length-(((i+1:Nat):Int)).toNat<ks.length-((i:Int)).toNat
   omega
 ·have hie:i=ks.length:=by omega
  subst hie
  refine pws hF (fixL hK _ _) sH st hd ((p89h _ fl tb fk fp ks ps root fg fr rs _ fk ks (ks.length:Int) (ks.length:Int)).trans (by rw [decide_eq_false (by omega)];rfl)) fun S1 μ1 a1 w1 hd1 st1=> ?_
  refine pwx hF (fixL hK _ _) sI st1 hd1 (p89i _ fl tb fk fp ks ps root fg fr rs _ fk ks (ks.length:Int) (ks.length:Int) false) (by intro h;cases h) fun S2 μ2 a2 w2 hd2 st2=> ?_
  exact hQ a2 w2 ⟨hd2,Nat.le_refl _,S2,μ2,o,hm,st2⟩
end
section
variable {F:EF}{fl:Nat}{tb:List (List AV)}{fk fp:Nat}{ks ps:List (List AV)}{root:Int}{fg:Bool}{fr:Nat}{rs:List (List AV)}
abbrev env2 (fl:Nat) (tb:List (List AV)) (z:Nat) (fp:Nat) (ps:List (List AV)) (i:Nat):Env :=
 [(0,AV.list fl 2 tb),(3,AV.ptr 0 0 0 0),(4,vbool false),(7,AV.val (.map (some z))),(67,AV.list fp 2 ps),(68,vi ((ps.length:Nat):Int)),(69,vi ((i:Nat):Int))]
def Inv2 (F:EF) (v:AV) (K:Kf) (wm:World) (fl:Nat) (tb:List (List AV)) (fk fp:Nat) (ks ps:List (List AV)) (root:Int) (fg:Bool) (kl:List Int) (i:Nat) (a:Act) (w:World):Prop :=
 a.defers=[]∧i≤ps.length∧∃S μ o n,MapO o kl.reverse n∧allL 138 tb kl (ps.drop i) F=some v∧St cx0 (K.late { wm with heap:=wm.heap.push o } wm.heap.size) 89 S μ (env2 fl tb wm.heap.size fp ps i) [B1 fk fp ks ps root fg] a.tmps w
theorem lowEnv {m:Nat}:∀ {env:Env},(∀p∈env,lowR m p.2)→∀t v,look env t=some v→lowR m v
 | [],_,t,v,h=>by cases h
 | (s,x)::r,he,t,v,h=>by
  unfold look at h
  split at h
  ·cases h;exact he (s,x) (List.mem_cons_self ..)
  ·exact lowEnv (fun p hp=>he p (List.mem_cons_of_mem _ hp)) t v h
theorem allL_cons {fh:Nat}{kl:List Int}{e:List AV}{r:List (List AV)}{v:AV}(hv:allL fh tb kl (e::r) F=some v):∃x y:Int,e=[vu x,vu y]∧(if 0≤x∧x<18446744073709551616 then cond (kl.contains x) ((callB F fh [.list 0 2 tb,.agg [vu x,vu y]]).bind fun h=>cond h (allL fh tb kl r F) (some (vbool false))) (some (vbool false)) else none)=some v:=by
 generalize hps:e::r=q at hv
 unfold allL at hv
 split at hv
 ·cases hps
 ·rename_i x y r' 
  cases hps
  exact⟨x,y,rfl,hv⟩
 ·cases hv
theorem callB_inv {F:EF}{f:Nat}{args:List AV}{b:Bool}(h:callB F f args=some b):F (.fn f) args []=some (.ret (vbool b),[]):=by
 unfold callB at h
 obtain⟨r,h1,h⟩:=bind_some_iff h
 obtain⟨v,h2,h⟩:=bind_some_iff h
 have h3:=ret1_eq h2
 subst h3
 have h4:=wk_bool h
 subst h4
 exact h1
theorem b1_low {m:Nat}:∀e∈(B1 fk fp ks ps root fg).es,∀v∈e,lowR m v:=by
 intro e he v hv
 have he':e∈[[AV.list fk 1 ks,vu root,vbool fg,AV.list fp 2 ps]]:=he
 simp only [List.mem_cons,List.not_mem_nil,or_false] at he'
 subst he'
 simp only [List.mem_cons,List.not_mem_nil,or_false] at hv
 rcases hv with rfl |rfl |rfl |rfl
 ·exact lowR_list
 ·exact lowR_val _
 ·exact lowR_val _
 ·exact lowR_list
theorem contains_rev (l:List Int) (x:Int):l.reverse.contains x=l.contains x:=by
 rw [Bool.eq_iff_iff]
 simp
theorem loop2 (hF:FnSound cx F) {K:Kf}(hK:∀r x,K.fix r=some x→r<cx0.held 89) (hK0:∀r,K.fix r=none) (wm:World) {kl:List Int}(hl:ps.length≤4000000) {v:AV}{Q:Exit→Act→World→Prop}{a:Act}{w:World}(h0:Inv2 F v K wm fl tb fk fp ks ps root fg kl 0 a w) (hQ:∀a' w',v=vbool true→Inv2 F v K wm fl tb fk fp ks ps root fg kl ps.length a' w'→Q .normal a' w') (hR:∀S μ o env h a' w',v=vbool false→a'.defers=[]→look env 4=some (vbool false)→St cx0 (K.late { wm with heap:=wm.heap.push o } wm.heap.size) 89 S μ env h a'.tmps w'→Q .ret a' w'):(Code.block 2 (.loop (.seq (cd [true,true,true,true,true,true,false,true,false,false,false]) (.seq (cd [true,true,true,true,true,true,false,true,false,false,true,false]) (.seq (.block 3 (.seq (cd [true,true,true,true,true,true,false,true,false,false,true,true,false,false,false]) (.seq (cd [true,true,true,true,true,true,false,true,false,false,true,true,false,false,true,false]) (.seq (cd [true,true,true,true,true,true,false,true,false,false,true,true,false,false,true,true,false]) (cd [true,true,true,true,true,true,false,true,false,false,true,true,false,false,true,true,true]))))) (cd [true,true,true,true,true,true,false,true,false,false,true,true,true])))))).wp cx.P Q a w:=by
 refine wp_block (wp_loop (fun a w=>∃i,Inv2 F v K wm fl tb fk fp ks ps root fg kl i a w) (fun a _=>ps.length-(intOf (a.tmps.getD 69 undef)).toNat) ⟨0,h0⟩ ?_)
 rintro a w ⟨i,hd,hi,S,μ,o,n,hm,hv,st⟩
 have hz:wm.heap.size<(wm.heap.push o).size:=by simp
 have m69:=st.slot (t:=69) (v := .int .i64 i) rfl
 by_cases hlt:i<ps.length
 ·refine pws hF (fixL hK _ _) sQ st hd ((p89q _ fl tb fk fp ks ps root fg _ fp ps (ps.length:Int) (i:Int)).trans (by rw [decide_eq_true (show(i:Int)<(ps.length:Int) by omega)];rfl)) fun S1 μ1 a1 w1 hd1 st1=> ?_
  refine pws hF (fixL hK _ _) sR st1 hd1 (p89r _ fl tb fk fp ks ps root fg _ fp ps (ps.length:Int) (i:Int) true) fun S2 μ2 a2 w2 hd2 st2=> ?_
  refine wp_seq (wp_block ?_)
  have hdrop:ps.drop i=ps[i]::ps.drop (i+1):=List.drop_eq_getElem_cons hlt
  rw [hdrop] at hv
  obtain⟨x,y,he,hv'⟩:=allL_cons hv
  clear hv
  split at hv'
  case isFalse=>cases hv'
  rename_i hx
  refine pws hF (fixL hK _ _) sSs st2 hd2 ((p89s _ fl tb fk fp ks ps root fg _ fp ps (ps.length:Int) (i:Int)).trans (by
   rw [if_pos (by omega),show Int.toNat (i:Int)=i from rfl,List.getElem?_eq_getElem hlt,he];rfl)) fun S3 μ3 a3 w3 hd3 st3=> ?_
  refine wp_seq ?_
  rw [gT]
  refine wp_region_list ?_
  rw [eT]
  refine pwo hF (sT.trans (congrArg some gT)) st3 (p89t _ fl tb fk fp ks ps root fg _ fp ps (ps.length:Int) (i:Int) x y) fun S4 μ4 a4 w4 hd4 st4=> ?_
  obtain⟨D,q1,q2,q3,q4⟩:=hm
  have hat:w4.heap[wm.heap.size]?=some o:=(st4.lateAt hz).trans (by show(wm.heap.push o)[_]?=_;simp)
  have v74:=st4.slot (t:=74) (v := .map (some wm.heap.size)) rfl
  have v76:=st4.slot (t:=76) (v := .int .u64 x) rfl
  refine wpList_lookup_own_unit w4 oT.1 (.tmp 74) (.tmp 76) 165 oT.2.1 26 166 (Maps.int_keyed Try.underlying26) Try.underlying165 (Try.zeroValue166 w4) wm.heap.size n D v74 (q1 w4 _ hat) (.int .u64 x) (.int .u64 x) v76 (Maps.keyOf_int_mk Try.underlying26 (wfU hx.1 hx.2)) ?_
  rw [oT.2.2,q2,contains_rev]
  have st5:=st4.putV (d:=77) (v:=AV.tuple [AV.agg [],vbool (kl.contains x)]) (c := .tuple #[.agg #[],.bool (kl.contains x)]) (by omega) (.tuple _ rfl fun j p q hp hq=>by
   match j,hp,hq with
   | 0,hp,hq=>cases hp;cases hq;exact .agg _ rfl fun j v u hv hu=>by simp at hv
   | 1,hp,hq=>cases hp;cases hq;exact .val _)
  have st5':St cx0 (K.late { wm with heap:=wm.heap.push o } wm.heap.size) 89 S4 μ4 ((77,AV.tuple [AV.agg [],vbool (kl.contains x)])::(env2 fl tb wm.heap.size fp ps i++[(11,AV.ptr 1 0 0 0)])) [B1 fk fp ks ps root fg,Ob.mk OK.box 80 2 0 [[vu x,vu y]]] _ w4:=St.left [(74,AV.val (.map (some wm.heap.size))),(76,vu x)] st5
  refine pwo hF (sT.trans (congrArg some gT)) st5' (p89u _ fl tb fk fp ks ps root fg _ fp ps (ps.length:Int) (i:Int) x y (kl.contains x)) fun S6 μ6 a6 w6 hd6 st6=> ?_
  have hd6':a6.defers=[]:=hd6.trans (hd4.trans hd3)
  have st6':St cx0 (K.late { wm with heap:=wm.heap.push o } wm.heap.size) 89 S6 μ6 (env2 fl tb wm.heap.size fp ps i++[(11,AV.ptr 1 0 0 0),(13,vbool (kl.contains x))]) ([B1 fk fp ks ps root fg,Ob.mk OK.box 80 2 0 [[vu x,vu y]]]++[Ob.mk OK.box 166 0 0 [[]]]) a6.tmps w6:=st6
  have st7:=st6'.drop (lowEnv (by
   intro p hp
   have hp':p∈[(0,AV.list fl 2 tb),(3,AV.ptr 0 0 0 0),(4,vbool false),(7,AV.val (.map (some wm.heap.size))),(67,AV.list fp 2 ps),(68,vi ((ps.length:Nat):Int)),(69,vi ((i:Nat):Int)),(11,AV.ptr 1 0 0 0),(13,vbool (kl.contains x))]:=hp
   simp only [List.mem_cons,List.not_mem_nil,or_false] at hp'
   rcases hp' with rfl |rfl |rfl |rfl |rfl |rfl |rfl |rfl |rfl<;>first |exact lowR_val _ |exact lowR_list |exact lowR_ptr (by simp))) (by
   intro ob hob
   simp only [List.mem_cons,List.not_mem_nil,or_false] at hob
   rcases hob with rfl |rfl
   ·exact b1_low
   ·intro e he v hv
    have he':e∈[[vu x,vu y]]:=he
    simp only [List.mem_cons,List.not_mem_nil,or_false] at he'
    subst he'
    simp only [List.mem_cons,List.not_mem_nil,or_false] at hv
    rcases hv with rfl |rfl<;>exact lowR_val _) (fun r x hx=>by
   have:K.fix r=some x:=hx
   rw [hK0] at this
   cases this)
  obtain⟨q,hq1,hq2⟩:∃q:Bool,pieceF cx0 (rets F) 89 89 Try.f89.body [true,true,true,true,true,true,false,true,false,false,true,true,false,false,true,true,false] [0,3,4,7,67,68,69,87]
    (env2 fl tb wm.heap.size fp ps i++[(11,AV.ptr 1 0 0 0),(13,vbool (kl.contains x))]) [B1 fk fp ks ps root fg,Ob.mk OK.box 80 2 0 [[vu x,vu y]]] =
    some (.normal,[AV.list fl 2 tb,AV.ptr 0 0 0 0,vbool false,AV.val (.map (some wm.heap.size)),AV.list fp 2 ps,vi (ps.length:Int),vi (i:Int),vbool q],[B1 fk fp ks ps root fg,Ob.mk OK.box 80 2 0 [[vu x,vu y]]]) ∧
    (if q then v=vbool false else allL 138 tb kl (ps.drop (i+1)) F=some v):=by
   have ht:=p89v (rets F) fl tb fk fp ks ps root fg wm.heap.size fp ps (ps.length:Int) (i:Int) x y (kl.contains x)
   cases hc:kl.contains x with
   |false =>
    rw [hc] at ht hv'
    exact⟨true,ht,by cases hv';rfl⟩
   |true =>
    rw [hc] at ht hv'
    obtain⟨hb,g1,g2⟩:=bind_some_iff hv'
    have g3:=rets_ret (callB_inv g1)
    cases hb with
    |false=>exact⟨true,ht.trans (by simp only [Bool.not_true,cond_false];rw [g3];rfl),by cases g2;rfl⟩
    |true=>exact⟨false,ht.trans (by simp only [Bool.not_true,cond_false];rw [g3];rfl),g2⟩
  show(Code.seq (cd [true,true,true,true,true,true,false,true,false,false,true,true,false,false,true,true,false]) (cd [true,true,true,true,true,true,false,true,false,false,true,true,false,false,true,true,true])).wp cx.P _ a6 w6
  refine pws hF (fixL hK _ _) sV st7 hd6' hq1 fun S8 μ8 a8 w8 hd8 st8=> ?_
  have st8':St cx0 (K.late { wm with heap:=wm.heap.push o } wm.heap.size) 89 S8 μ8 (env2 fl tb wm.heap.size fp ps i++[(87,vbool q)]) ([B1 fk fp ks ps root fg]++[Ob.mk OK.box 80 2 0 [[vu x,vu y]]]) a8.tmps w8:=st8
  have st9:=st8'.drop (lowEnv (by
   intro p hp
   have hp':p∈[(0,AV.list fl 2 tb),(3,AV.ptr 0 0 0 0),(4,vbool false),(7,AV.val (.map (some wm.heap.size))),(67,AV.list fp 2 ps),(68,vi ((ps.length:Nat):Int)),(69,vi ((i:Nat):Int)),(87,vbool q)]:=hp
   simp only [List.mem_cons,List.not_mem_nil,or_false] at hp'
   rcases hp' with rfl |rfl |rfl |rfl |rfl |rfl |rfl |rfl<;>first |exact lowR_val _ |exact lowR_list |exact lowR_ptr (by simp))) (by
   intro ob hob
   simp only [List.mem_cons,List.not_mem_nil,or_false] at hob
   subst hob
   exact b1_low) (fun r x hx=>by
   have:K.fix r=some x:=hx
   rw [hK0] at this
   cases this)
  cases q with
  |true =>
   refine pw hF (fixL hK _ _) sW st9 hd8 (p89w _ fl tb fk fp ks ps root fg _ fp ps (ps.length:Int) (i:Int) true) fun S10 μ10 a10 w10 hd10 st10=> ?_
   exact hR S10 μ10 o _ _ a10 w10 hq2 hd10 rfl st10
  |false =>
   refine pw hF (fixL hK _ _) sW st9 hd8 (p89w _ fl tb fk fp ks ps root fg _ fp ps (ps.length:Int) (i:Int) false) fun S10 μ10 a10 w10 hd10 st10=> ?_
   show((cd [true,true,true,true,true,true,false,true,false,false,true,true,true])).wp cx.P _ a10 w10
   refine pw hF (fixL hK _ _) sX st10 hd10 (p89x _ fl tb fk fp ks ps root fg _ fp ps (ps.length:Int) (i:Int)) fun S11 μ11 a11 w11 hd11 st11=> ?_
   have ei:IntKind.wrap .i64 (Int.add (i:Int) 1)=((i+1:Nat):Int):=(wrapI (n:=(i:Int)+1) (by omega) (by omega)).trans (by omega)
   rw [ei] at st11
   have m69':=st11.slot (t:=69) (v := .int .i64 ((i+1:Nat):Int)) rfl
   refine⟨⟨i+1,hd11,by omega,S11,μ11,o,n,⟨D,q1,q2,q3,q4⟩,hq2,st11⟩,?_⟩
   rw [m69,m69']
   show ps.length-(((i+1:Nat):Int)).toNat<ps.length-((i:Int)).toNat
   omega
 ·have hie:i=ps.length:=by omega
  subst hie
  refine pws hF (fixL hK _ _) sQ st hd ((p89q _ fl tb fk fp ks ps root fg _ fp ps (ps.length:Int) (ps.length:Int)).trans (by rw [decide_eq_false (by omega)];rfl)) fun S1 μ1 a1 w1 hd1 st1=> ?_
  refine pwx hF (fixL hK _ _) sR st1 hd1 (p89r _ fl tb fk fp ks ps root fg _ fp ps (ps.length:Int) (ps.length:Int) false) (by intro h;cases h) fun S2 μ2 a2 w2 hd2 st2=> ?_
  have hv2:v=vbool true:=by
   rw [List.drop_length] at hv
   cases hv
   rfl
  exact hQ a2 w2 hv2 ⟨hd2,Nat.le_refl _,S2,μ2,o,n,hm,hv,st2⟩
end
theorem keysC_inv {F:EF}{f:Nat}{args:List AV}{q:List (List AV)×Bool}(h:keysC F f args=some q):∃a,F (.fn f) args []=some (.ret (.tuple [a,vbool q.2]),[])∧a.list? 1=some q.1:=by
 unfold keysC at h
 obtain⟨r,h1,h6⟩:=bind_some_iff h
 obtain⟨v,h2,h7⟩:=bind_some_iff h6
 clear h h6
 have h3:=ret1_eq h2
 subst h3
 split at h7
 ·rename_i a b
  obtain⟨es,h4,h5⟩:=bind_some_iff h7
  cases h5
  exact⟨a,h1,h4⟩
 ·cases h7
theorem rul89 {F:EF}(hF:FnSound cx F) {args:List AV}{v:AV}(hG:checkG 42 83 138 F args=some v):Fact cx 89∧∀S w vals,(∀b,S b→b<w.heap.size)→GRel cx S w→Reps S w Mu.none args vals→Calls cx.P 89 vals.toArray w (Post cx S w v):=by
 refine⟨fact89,fun S w vals hS hGr hr=> ?_⟩
 unfold checkG at hG
 split at hG
 case h_2=>cases hG
 rename_i fl tb fk ks root fg fp ps
 obtain⟨q,h1,hG1⟩:=bind_some_iff hG
 obtain⟨kl,h2,hG2⟩:=bind_some_iff hG1
 clear hG hG1
 split at hG2
 case isFalse=>cases hG2
 rename_i hl
 obtain⟨hl1,hl2,hl3⟩:=hl
 obtain⟨rs,ok⟩:=q
 obtain⟨ra,hk1,hk2⟩:=keysC_inv h1
 have st0:=numbered_st (cx:=cx0) (N:=89) hS hGr hr (by simp)
 have hN:=n89
 refine calls_of_wp Try.func89 b89 ?_
 rw [hN]
 have hst:∃K:Kf,K=⟨w,S,fun _=>False,Mu.none⟩:=⟨_,rfl⟩
 obtain⟨K,hKe⟩:=hst
 rw [←hKe] at st0
 have hK:∀r x,K.fix r=some x→r<cx0.held 89:=fun r x h=>by rw [hKe] at h;cases h
 have hK0:∀r,K.fix r=none:=fun r=>by rw [hKe];rfl
 have hO:K.O0=fun _=>False:=by rw [hKe]
 have fin:∀ {qv:Bool}{S':Nat→Prop}{μ':Mu}{env:Env}{h:Heap}{a':Act}{w':World},v=vbool qv→St cx0 K 89 S' μ' env h a'.tmps w'→look env 4=some (vbool qv)→a'.defers=[]→bodyPost cx.P Try.f89 (Post cx S w v) .ret a' w':=by
  intro qv S' μ' env h a' w' hv st h4 hd
  have:=fin89 hO st h4 hd
  rw [hKe] at this
  rw [hv]
  exact this
 rw [sh89]
 refine pws hF hK sA (a:=⟨_,[]⟩) st0 rfl (p89a _ fl tb fk fp ks ps root fg) fun S1 μ1 a1 w1 hd1 st1=> ?_
 refine pws hF hK sB st1 hd1 ((p89b _ fl tb fk fp ks ps root fg).trans (by
  rw [rets_ret hk1]
  show Ω (AV.list? 1 ra) _=some (JX.normal,[AV.list fl 2 tb,AV.ptr 0 0 0 0,vbool false,AV.list 0 1 rs,vbool ok],[B1 fk fp ks ps root fg])
  rw [hk2]
  cases ok<;>rfl)) fun S2 μ2 a2 w2 hd2 st2=> ?_
 have hC:pieceF cx0 (rets F) 89 89 Try.f89.body [true,true,false] [0,3,4,5] [(0,AV.list fl 2 tb),(3,AV.ptr 0 0 0 0),(4,vbool false),(5,AV.list 0 1 rs),(6,vbool ok)] [B1 fk fp ks ps root fg] =
   some (cond (!ok||(fg||(decide (ks.length=0)||decide (rs.length≠ks.length)))) JX.ret JX.normal,[AV.list fl 2 tb,AV.ptr 0 0 0 0,vbool false,AV.list 0 1 rs],[B1 fk fp ks ps root fg]):=by
  refine(p89c _ fl tb fk fp ks ps root fg 0 rs ok).trans ?_
  cases ok with
  |false=>rfl
  |true =>
   cases fg with
   |true=>rfl
   |false =>
    by_cases e1:ks.length=0
    ·rw [decide_eq_true (show((ks.length:Nat):Int)=0 by omega),decide_eq_true e1];rfl
    ·rw [decide_eq_false (show ¬((ks.length:Nat):Int)=0 by omega),decide_eq_false e1]
     by_cases e2:rs.length=ks.length
     ·rw [show(((rs.length:Nat):Int) !=((ks.length:Nat):Int))=false by simp [e2],show decide (rs.length≠ks.length)=false from decide_eq_false (by simp [e2])];rfl
     ·rw [show(((rs.length:Nat):Int) !=((ks.length:Nat):Int))=true by simp;omega,show decide (rs.length≠ks.length)=true from decide_eq_true e2];rfl
 cases hc:(!ok||(fg||(decide (ks.length=0)||decide (rs.length≠ks.length)))) with
 |true =>
  rw [hc] at hC hG2
  refine pwx hF hK sC st2 hd2 hC (by intro h;cases h) fun S3 μ3 a3 w3 hd3 st3=> ?_
  exact fin (by cases hG2;rfl) st3 rfl hd3
 |false =>
  rw [hc] at hC hG2
  simp only [cond_false] at hG2
  obtain⟨rt,hrt,hG3⟩:=bind_some_iff hG2
  refine pws hF hK sC st2 hd2 hC fun S3 μ3 a3 wm hd3 st3=> ?_
  refine wp_seq ?_
  rw [gE]
  refine wp_region_list ?_
  rw [eE]
  refine wpList_plain oE.1 fun K' hK'=> ?_
  unfold Oper.wp
  have hrun:(execOp a3.eval (opAt (cd [true,true,true,false]) 0)).run cx.P wm = .ok (.value (.map (some wm.heap.size))) (wm.alloc (.map #[] 0)):=by
   unfold execOp
   rw [oE.2.1]
   rfl
  rw [hrun,Oper.upon_value,oE.2.2]
  refine hK' _ _ ?_
  have hS0:¬K.S0 wm.heap.size:=fun h=>by
   have h':S wm.heap.size:=by rw [hKe] at h;exact h
   have:=hS _ h'
   have hle:=st3.le
   rw [hKe] at hle
   have hle':w.heap.size≤wm.heap.size:=hle
   omega
  have st4:=(st3.late0 (.map #[] 0)).putV (d:=43) (v:=AV.val (.map (some wm.heap.size))) (c := .map (some wm.heap.size)) (by omega) (.val _)
  refine pwo hF (sE.trans (congrArg some gE)) st4 (p89e _ fl tb fk fp ks ps root fg 0 rs wm.heap.size) fun S5 μ5 a5 w5 hd5 st5=> ?_
  have hd5':a5.defers=[]:=hd5.trans hd3
  show(Code.seq (.seq (cd [true,true,true,true,false,false]) _) _).wp cx.P _ a5 w5
  refine wp_seq (pws hF (fixL hK _ _) sG st5 hd5' (p89g _ fl tb fk fp ks ps root fg 0 rs wm.heap.size) fun S6 μ6 a6 w6 hd6 st6=> ?_)
  refine loop1 (fl:=fl) (tb:=tb) (fk:=fk) (fp:=fp) (ks:=ks) (ps:=ps) (root:=root) (fg:=fg) (fr:=0) (rs:=rs) hF hK wm hS0 h2 hl1 ⟨hd6,Nat.zero_le _,S6,μ6,_,mapO_new,st6⟩ ?_
  rintro a7 w7 ⟨hd7,_,S7,μ7,o,hm,st7⟩
  rw [show kl.take ks.length=kl by rw [←(keysU_get h2).1];exact List.take_length] at hm
  have hz:wm.heap.size<(wm.heap.push o).size:=by simp
  have st7':St cx0 (K.late { wm with heap:=wm.heap.push o } wm.heap.size) 89 S7 μ7 [(0,AV.list fl 2 tb),(3,AV.ptr 0 0 0 0),(4,vbool false),(5,AV.list 0 1 rs),(7,AV.val (.map (some wm.heap.size)))] [B1 fk fp ks ps root fg] a7.tmps w7 :=
   St.left [(45,AV.list fk 1 ks),(46,vi ((ks.length:Nat):Int)),(47,vi ((ks.length:Nat):Int))] st7
  have hM:∀Q:Exit→Act→World→Prop,(∀S' μ' a' w',a'.defers=[]→St cx0 (K.late { wm with heap:=wm.heap.push o } wm.heap.size) 89 S' μ' [(0,AV.list fl 2 tb),(3,AV.ptr 0 0 0 0),(4,vbool false),(7,AV.val (.map (some wm.heap.size))),(64,vbool (!rt||decide (many kl≠rs.length)))] [B1 fk fp ks ps root fg] a'.tmps w'→Q .normal a' w') →
    ((cd [true,true,true,true,true,false,false])).wp cx.P Q a7 w7:=by
   intro Q hQ
   have hcb:=rets_ret (callB_inv hrt)
   cases rt with
   |false =>
    have hm2:pieceF cx0 (rets F) 89 89 Try.f89.body [true,true,true,true,true,false,false] [0,3,4,7,64] [(0,AV.list fl 2 tb),(3,AV.ptr 0 0 0 0),(4,vbool false),(5,AV.list 0 1 rs),(7,AV.val (.map (some wm.heap.size)))] [B1 fk fp ks ps root fg] =
      some (.normal,[AV.list fl 2 tb,AV.ptr 0 0 0 0,vbool false,AV.val (.map (some wm.heap.size)),vbool true],[B1 fk fp ks ps root fg]):=(p89m2 _ fl tb fk fp ks ps root fg 0 rs wm.heap.size).trans (by rw [hcb];rfl)
    exact pw hF (fixL hK _ _) sM st7' hd7 hm2 fun S8 μ8 a8 w8 hd8 st8=>hQ S8 μ8 a8 w8 hd8 st8
   |true =>
    have hm1:pieceO cx0 (rets F) 89 Try.f89.body [true,true,true,true,true,false,false] 0 5 [0,3,4,5,7,58,59] [(0,AV.list fl 2 tb),(3,AV.ptr 0 0 0 0),(4,vbool false),(5,AV.list 0 1 rs),(7,AV.val (.map (some wm.heap.size)))] [B1 fk fp ks ps root fg] =
      some (.normal,[AV.list fl 2 tb,AV.ptr 0 0 0 0,vbool false,AV.list 0 1 rs,AV.val (.map (some wm.heap.size)),vbool false,AV.val (.map (some wm.heap.size))],[B1 fk fp ks ps root fg]):=(p89m _ fl tb fk fp ks ps root fg 0 rs wm.heap.size).trans (by rw [hcb];rfl)
    rw [gM]
    refine wp_region_list ?_
    rw [eM]
    refine pwo hF (sM.trans (congrArg some gM)) st7' (hm1) fun S8 μ8 a8 w8 hd8 st8=> ?_
    obtain⟨D,q1,q2,q3,q4⟩:=hm
    have hat:w8.heap[wm.heap.size]?=some o:=(st8.lateAt hz).trans (by show(wm.heap.push o)[_]?=_;simp)
    have v58:=st8.slot (t:=58) (v := .bool false) rfl
    have v59:=st8.slot (t:=59) (v := .map (some wm.heap.size)) rfl
    have hw:Region.wanted (opAt (cd [true,true,true,true,true,false,false]) 5) (yielded (opsAt (cd [true,true,true,true,true,false,false])) a8.tmps)=true:=by
     unfold Region.wanted
     rw [oM.1]
     simp only [yielded_of oM.2.2.2 (getD_some v58 (by simp [undef]))]
     rfl
    refine wpList_step fun K' hK'=> ?_
    rw [if_pos hw]
    unfold Oper.wp
    have hlen:(Builtin.len_ #[165] (opAt (cd [true,true,true,true,true,false,false]) 5).type #[.map (some wm.heap.size)]).run cx.P w8 = .ok (.int .i64 (Maps.size D)) w8:=(q1 w8 _ hat).len Try.underlying165 (opAt (cd [true,true,true,true,true,false,false]) 5).type
    have ev:a8.eval (.tmp 59) = .map (some wm.heap.size):=v59
    simp [execOp,oM.2.1,resolve,invoke,builtin,ev,hlen,Result.andThen]
    rw [Oper.upon_value,oM.2.2.1]
    refine hK' _ _ ?_
    rw [q3,many_perm (List.reverse_perm kl)]
    have st9:=st8.putV (d:=60) (v:=vi ((many kl:Nat):Int)) (c := .int .i64 ((many kl:Nat):Int)) (by omega) (.val _)
    have st9':St cx0 (K.late { wm with heap:=wm.heap.push o } wm.heap.size) 89 S8 μ8 [(60,vi ((many kl:Nat):Int)),(0,AV.list fl 2 tb),(3,AV.ptr 0 0 0 0),(4,vbool false),(5,AV.list 0 1 rs),(7,AV.val (.map (some wm.heap.size))),(58,vbool false)] [B1 fk fp ks ps root fg] _ w8 :=
     St.left [(59,AV.val (.map (some wm.heap.size)))] st9
    have hn:pieceO cx0 (rets F) 89 Try.f89.body [true,true,true,true,true,false,false] 6 4 [0,3,4,7,64] [(60,vi ((many kl:Nat):Int)),(0,AV.list fl 2 tb),(3,AV.ptr 0 0 0 0),(4,vbool false),(5,AV.list 0 1 rs),(7,AV.val (.map (some wm.heap.size))),(58,vbool false)] [B1 fk fp ks ps root fg] =
      some (.normal,[AV.list fl 2 tb,AV.ptr 0 0 0 0,vbool false,AV.val (.map (some wm.heap.size)),vbool (decide (many kl≠rs.length))],[B1 fk fp ks ps root fg]):=by
     refine(p89n _ fl tb fk fp ks ps root fg 0 rs wm.heap.size _).trans ?_
     by_cases e:many kl=rs.length
     ·rw [show(((many kl:Nat):Int) !=((rs.length:Nat):Int))=false by simp [e],show decide (many kl≠rs.length)=false from decide_eq_false (by simp [e])];rfl
     ·rw [show(((many kl:Nat):Int) !=((rs.length:Nat):Int))=true by simp;omega,show decide (many kl≠rs.length)=true from decide_eq_true e];rfl
    refine pwo hF (sM.trans (congrArg some gM)) st9' hn fun S10 μ10 a10 w10 hd10 st10=> ?_
    exact hQ S10 μ10 a10 w10 (hd10.trans (hd8.trans hd7)) st10
  show(Code.seq (.seq (cd [true,true,true,true,true,false,false]) (cd [true,true,true,true,true,false,true])) _).wp cx.P _ a7 w7
  refine wp_seq (wp_seq (hM _ fun S8 μ8 a8 w8 hd8 st8=> ?_))
  cases hc2:(!rt||decide (many kl≠rs.length)) with
  |true =>
   rw [hc2] at st8 hG3
   refine pw hF (fixL hK _ _) sO st8 hd8 (p89o _ fl tb fk fp ks ps root fg wm.heap.size true) fun S9 μ9 a9 w9 hd9 st9=> ?_
   exact fin (qv:=false) (by cases hG3;rfl) (st_forget rfl rfl st3 st9) rfl hd9
  |false =>
   rw [hc2] at st8 hG3
   simp only [cond_false] at hG3
   refine pw hF (fixL hK _ _) sO st8 hd8 (p89o _ fl tb fk fp ks ps root fg wm.heap.size false) fun S9 μ9 a9 w9 hd9 st9=> ?_
   show(Code.seq (.seq (cd [true,true,true,true,true,true,false,false]) _) _).wp cx.P _ a9 w9
   refine wp_seq (pws hF (fixL hK _ _) sPp st9 hd9 (p89p _ fl tb fk fp ks ps root fg wm.heap.size) fun S10 μ10 a10 w10 hd10 st10=> ?_)
   refine loop2 (fl:=fl) (tb:=tb) (fk:=fk) (fp:=fp) (ks:=ks) (ps:=ps) (root:=root) (fg:=fg) hF hK hK0 wm (kl:=kl) hl3 (v:=v) ⟨hd10,Nat.zero_le _,S10,μ10,o,_,hm,hG3,st10⟩ ?_ ?_
   ·rintro a11 w11 hv ⟨hd11,_,S11,μ11,o2,n2,hm2,_,st11⟩
    show(Code.seq (cd [true,true,true,true,true,true,true,false]) .ret).wp cx.P _ a11 w11
    refine pws hF (fixL hK _ _) sY (env:=[(0,AV.list fl 2 tb),(3,AV.ptr 0 0 0 0),(4,vbool false)]) (St.left [(7,AV.val (.map (some wm.heap.size))),(67,AV.list fp 2 ps),(68,vi ((ps.length:Nat):Int)),(69,vi ((ps.length:Nat):Int))] st11) hd11 (p89y _ fl tb fk fp ks ps root fg) fun S12 μ12 a12 w12 hd12 st12=> ?_
    exact wp_ret (fin (qv:=true) hv (st_forget rfl rfl st3 st12) rfl hd12)
   ·intro S11 μ11 o2 env h a11 w11 hv hd11 h4 st11
    exact fin (qv:=false) hv (st_forget rfl rfl st3 st11) h4 hd11
end Go.Proofs.Av
