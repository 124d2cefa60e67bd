/- Bits read off a text: a range over a function, walked. -/
import Derived.RangeFuncBox
import Derived.RangeFuncLeaves
import Derived.Shelf.Abstract
import Derived.WalkKit
import Derived.OwnWalkIn
import Derived.TacticsInMore
import Derived.LoopNIn
import Derived.LoopIn
import Derived.Maps.AppendAt
import Derived.Laws.Rows
import Derived.Test.YtoepfmodbhfckaaDoorRows
import Derived.KernelRfl
namespace Go.Proofs.Av
open Go Go.RowKit Go.Shelf
attribute [local go_sem] Oper.semAt_some
set_option maxHeartbeats 1000000 in
theorem set_in (F:Fence) (n:Nat) (h5:F.fn 86) (hro:F.round=none) (s:ByteArray) (m:Int) (w:World):CallsIn F n Tryd.prog 86 #[.string s,.int .i64 m] w fun e w'=>e = .returned (.func (.func 89) #[] #[.pointer (some ⟨w.heap.size+1,0,none⟩),.pointer (some ⟨w.heap.size,0,none⟩)])∧w'=(w.alloc (.cells #[.string s] 9)).alloc (.cells #[.int .i64 m] 3):=by
 refine callsIn_of_wp Tryd.func86 rfl h5 ?_ hro
 simp only [Tryd.ntmps86,List.size_toArray,List.length_cons,List.length_nil,Nat.reduceAdd,Nat.reduceSub,Array.replicate_succ,Array.replicate_zero,List.push_toArray,List.append_toArray,List.nil_append,List.cons_append]
 gi_wp2
 go_ret
 exact⟨rfl,rfl⟩
def bitS (s:ByteArray) (i:Nat):Bool:=decide (bits .and .u8 ((((s[i/8]?).getD 0).toNat:Int)/2 ^ (i%8)) 1=1)
def onS (s:ByteArray) (k:Nat):List Int:=((List.range k).filter (bitS s)).map fun(i:Nat)=>(i:Int)
theorem onS_succ (s:ByteArray) (k:Nat):onS s (k+1)=if bitS s k then onS s k++[(k:Int)] else onS s k:=by
 unfold onS
 rw [List.range_succ,List.filter_append,List.map_append]
 cases h:bitS s k<;>simp [h]
theorem onS_prefix (s:ByteArray) {k m:Nat}(h:k≤m):onS s k <+:onS s m:=by
 unfold onS
 obtain⟨d,rfl⟩:=Nat.exists_eq_add_of_le h
 rw [List.range_add,List.filter_append,List.map_append]
 exact List.prefix_append _ _
theorem bit_iff {s:ByteArray}{k:Nat}(hlt:k/8<s.size):(bits .and .u8 (((s[k/8]'hlt).toNat:Int)/2 ^ (k%8)) 1=1)↔bitS s k=true:=by
 have e2:s[k/8]?=some (s[k/8]'hlt):=getElem?_pos s (k/8) hlt
 unfold bitS
 rw [e2,decide_eq_true_eq]
 rfl
set_option maxRecDepth 100000 in
set_option maxHeartbeats 2000000 in
theorem set1_in (F:Fence) (n:Nat) (h6:F.fn 89) (hro:F.round=none) (hn:1≤n) (l Bn Bs m:Nat) (s:ByteArray) (hm:m≤8*s.size) (hm64:m≤9223372036854775807) (Kp:World→World→Prop) (hKp:∀A C,Kp A C→C.heap[Bs]?=A.heap[Bs]?) (J Jx:List Int→World→Prop) (hY:∀pre x W,J pre W→pre.length<(onS s m).length→YieldAt F (n-1) Tryd.prog l #[.int .i64 x] W fun e W'=>(e = .returned (.bool true)∧J (pre++[x]) W'∧Kp W W')∨(e = .returned (.bool false)∧Jx (pre++[x]) W')) (W:World) (hBn:W.cell? ⟨Bn,0,none⟩=some (.int .i64 m)) (hBs:W.cell? ⟨Bs,0,none⟩=some (.string s)) (h0:J [] W):CallsIn F n Tryd.prog 89 #[.func (.yield l) #[] #[],.pointer (some ⟨Bn,0,none⟩),.pointer (some ⟨Bs,0,none⟩)] W fun e W'=>(∃v,e = .returned v)∧((∃ys,ys=onS s m∧J ys W')∨(∃pre,pre <+:onS s m∧Jx pre W')):=by
 refine callsIn_of_wp Tryd.func89 rfl h6 ?_ hro
 simp only [Tryd.ntmps89,List.size_toArray,List.length_cons,List.length_nil,Nat.reduceAdd,Nat.reduceSub,Array.replicate_succ,Array.replicate_zero,List.push_toArray,List.append_toArray,List.nil_append,List.cons_append]
 gi_wp2
 gi_loopw [6] (fun i wr=>∃k:Nat,k≤m∧i = .int .i64 k∧J (onS s k) wr∧wr.heap[Bs]?=W.heap[Bs]?)
  (fun i _=>m-(intOf i).toNat)
 case atStart=>exact⟨0,Nat.zero_le _,rfl,(by simpa [onS] using h0),rfl⟩
 case round =>
  obtain⟨k,hk,rfl,hJs,hnx⟩:=hrel
  have hcs:wr.cell? ⟨Bs,0,none⟩=some (.string s):=(World.cell?_of_block hnx).trans hBs
  by_cases hlt:k<m
  ·have hidx:k/8<s.size:=by omega
   by_cases hb:bits .and .u8 (((s[k/8]'hidx).toNat:Int)/2 ^ (k%8)) 1=1
   ·have hbs:=(bit_iff hidx).1 hb
    have hlen:(onS s k).length<(onS s m).length:=by
     have h1:=(onS_prefix s (show k+1≤m by omega)).length_le
     rw [onS_succ,if_pos hbs,List.length_append] at h1
     simp at h1
     omega
    obtain⟨fn,tmps,assign,body,hy,hR⟩:=hY _ (k:Int) wr hJs hlen
    gi_wp2
    ·refine hR.mono ?_
     rintro e W3 (⟨rfl,hJ3,hk3⟩ |⟨rfl,hJx3⟩)
     ·gi_wp2
      go_roundw
      case rel=>exact⟨k+1,by omega,by simp,by rw [onS_succ,if_pos hbs];exact hJ3,(hKp _ _ hk3).trans hnx⟩
      case measure=>simp [intOf];omega
     ·gi_wp2
      refine bodyPost_ret (results_none rfl _ _ _) rfl ?_
      exact⟨⟨_,rfl⟩,.inr ⟨_,by have:=onS_prefix s (show k+1≤m by omega);rw [onS_succ,if_pos hbs] at this;exact this,hJx3⟩⟩
   ·have hbs:¬bitS s k=true:=fun h=>hb ((bit_iff hidx).2 h)
    gi_wp2
    refine⟨fun _ h=>(by cases h),?_⟩
    gi_wp2
    go_roundw
    case rel=>exact⟨k+1,by omega,by simp,by rw [onS_succ,if_neg hbs];exact hJs,hnx⟩
    case measure=>simp [intOf];omega
  ·gi_wp2
   go_end0
   exact⟨⟨_,rfl⟩,.inl ⟨_,by rw [show k=m by omega],hJs⟩⟩
def Boxed2 (W:World) (B:Nat) (t:TypeId) (a v:Value):Prop:=W.heap[B]?=some (.cells #[a,v] t (0,0))
theorem Boxed2.lt {W:World}{B:Nat}{t:TypeId}{a v:Value}(h:Boxed2 W B t a v):B<W.heap.size:=(Array.getElem?_eq_some_iff.1 h).1
theorem Boxed2.cell0 {W:World}{B:Nat}{t:TypeId}{a v:Value}(h:Boxed2 W B t a v):W.cell? ⟨B,0,none⟩=some a:=by simp [World.cell?,show W.heap[B]?=_ from h]
theorem Boxed2.cell1 {W:World}{B:Nat}{t:TypeId}{a v:Value}(h:Boxed2 W B t a v):W.cell? ⟨B,1,none⟩=some v:=by simp [World.cell?,show W.heap[B]?=_ from h]
theorem Boxed2.frozen0 {W:World}{B:Nat}{t:TypeId}{a v:Value}(h:Boxed2 W B t a v):W.frozen? ⟨B,0,none⟩=false:=by simp [World.frozen?,show W.heap[B]?=_ from h]
theorem Boxed2.frozen1 {W:World}{B:Nat}{t:TypeId}{a v:Value}(h:Boxed2 W B t a v):W.frozen? ⟨B,1,none⟩=false:=by simp [World.frozen?,show W.heap[B]?=_ from h]
theorem Boxed2.new (W:World) (t:TypeId) (a v:Value):Boxed2 (W.alloc (.cells #[a,v] t)) W.heap.size t a v:=World.alloc_heap_new W _
theorem Boxed2.kept {W W':World}{row:Option Nat}{B:Nat}{t:TypeId}{a v:Value}(h:Boxed2 W B t a v) (hg:W.grownBy W' row) (hne:some B≠row):Boxed2 W' B t a v:=(hg.block B h.lt hne).trans h
theorem Boxed2.alloc {W:World}{B:Nat}{t:TypeId}{a v:Value}(h:Boxed2 W B t a v) (o:Obj):Boxed2 (W.alloc o) B t a v:=h.kept (World.grownBy_alloc W o none) (by simp)
theorem Boxed2.set0 {W:World}{B:Nat}{t:TypeId}{a v:Value}(a':Value) (h:Boxed2 W B t a v):Boxed2 (W.setCell ⟨B,0,none⟩ a') B t a' v:=by
 obtain⟨hlt,hk⟩:=Array.getElem?_eq_some_iff.1 h
 show(W.heap.modify B _)[B]?=_
 rw [Array.getElem?_eq_getElem (by rw [Array.size_modify];exact hlt),Array.getElem_modify_self,hk]
 rfl
theorem Boxed2.set1 {W:World}{B:Nat}{t:TypeId}{a v:Value}(v':Value) (h:Boxed2 W B t a v):Boxed2 (W.setCell ⟨B,1,none⟩ v') B t a v':=by
 obtain⟨hlt,hk⟩:=Array.getElem?_eq_some_iff.1 h
 show(W.heap.modify B _)[B]?=_
 rw [Array.getElem?_eq_getElem (by rw [Array.size_modify];exact hlt),Array.getElem_modify_self,hk]
 rfl
theorem grownBy_set1 (W:World) (b:Nat) (v:Value):W.grownBy (W.setCell ⟨b,1,none⟩ v) (some b) :=
 ⟨rfl,rfl,rfl,(KeepsWalks.setCell W _ v).size,fun k _ hk=>Below.heap_setCell _ _ _ k (fun e=>hk (by rw [e]))⟩
theorem Boxed2.not_row {W:World}{B:Nat}{t e:TypeId}{a u:Value}(h:Boxed2 W B t a u) (hte:t≠e) {base size k:Nat}{v:Value}{xs:List Value}(hr:W.ownsRow base e size v k xs):some B≠v.ownBlock:=by
 rcases hr.2 with⟨rfl,_⟩ |⟨g,cap,cur,rfl,_,hgb,_⟩
 ·simp [Value.ownBlock]
 ·intro e'
  obtain rfl:B=g:=by simpa [Value.ownBlock] using e'
  have:=(show W.heap[B]?=_ from h).symm.trans hgb
  simp at this
  exact hte this.2
theorem cells_not_row {W:World}{B:Nat}{t e:TypeId}{cs:Array Value}(h:W.heap[B]?=some (.cells cs t (0,0))) (hte:t≠e) {base size k:Nat}{v:Value}{xs:List Value}(hr:W.ownsRow base e size v k xs):some B≠v.ownBlock:=by
 rcases hr.2 with⟨rfl,_⟩ |⟨g,cap,cur,rfl,_,hgb,_⟩
 ·simp [Value.ownBlock]
 ·intro e'
  obtain rfl:B=g:=by simpa [Value.ownBlock] using e'
  have:=h.symm.trans hgb
  simp at this
  exact hte this.2
structure OfI (w:World) (s:ByteArray) (m:Int) (pre:List Int) (W:World):Prop where
 row:∃v,Boxed2 W (w.heap.size+1) 27 (.int .i64 m) v∧W.ownsRow w.heap.size 3 1 v pre.length (pre.map (Value.int .i64))
 res:Boxed2 W w.heap.size 27 (.int .i64 0) (.slice none 0 0)
 below:Below w.heap.size w W
 txt:W.heap[w.heap.size+1+1]?=some (.cells #[.string s] 9 (0,0))
theorem ofI_own (w:World) (s:ByteArray) (m:Int) (B:Nat) (hB:w.heap.size≤B):OwnFrom B (OfI w s m):=by
 rintro pre X Y row ⟨⟨v,hv,hr⟩,h4,hb,hs⟩ hg hrow
 have nc:∀ {k:Nat}{cs:Array Value}{t:TypeId},X.heap[k]?=some (.cells cs t (0,0))→some k≠row:=fun {k cs t} hk e=>by
  obtain⟨_,o,ho,hc⟩:=hrow k e.symm
  rw [hk] at ho;cases ho;cases hc
 refine⟨⟨v,hv.kept hg (nc hv),hr.kept hg ?_⟩,h4.kept hg (nc h4),hb.grown hg hb.size fun k e=> ?_,(hg.block _ (Array.getElem?_eq_some_iff.1 hs).1 (nc hs)).trans hs⟩
 ·rcases hr.2 with⟨rfl,_⟩ |⟨g,cap,cur,rfl,_,hgb,_⟩
  ·exact .inl rfl
  ·exact .inr fun e'=>nc hgb (by simpa [Value.ownBlock] using e')
 ·have:=(hrow k e).1
  omega
theorem Boxed2.appended {W w1:World}{n₀ B B4 Bs:Nat}{t e:TypeId}{size:Nat}{a v v' a4 v4:Value}{k m:Nat}{xs ys:List Value}{tmp:Obj}{cs:Array Value}{ts:TypeId}(hv:Boxed2 W B t a v) (hte:t≠e) (h4:Boxed2 W B4 t a4 v4) (hne4:B4≠B) (hs:W.heap[Bs]?=some (.cells cs ts (0,0))) (hts:ts≠e) (hneS:Bs≠B) (hrow:W.ownsRow n₀ e size v k xs) (hn₀:n₀≤W.heap.size) (hB:n₀≤B) (hown':w1.ownsRow n₀ e size v' m ys) (hgrow:(W.alloc tmp).grownBy w1 v.ownBlock):Boxed2 w1 B t a v∧Boxed2 (w1.setCell ⟨B,1,none⟩ v') B t a v'∧(w1.setCell ⟨B,1,none⟩ v').ownsRow n₀ e size v' m ys∧KeepsOthers W (w1.setCell ⟨B,1,none⟩ v')∧Below n₀ W (w1.setCell ⟨B,1,none⟩ v')∧Boxed2 (w1.setCell ⟨B,1,none⟩ v') B4 t a4 v4∧(w1.setCell ⟨B,1,none⟩ v').heap[Bs]?=W.heap[Bs]?:=by
 have hv1:Boxed2 w1 B t a v:=(hv.alloc tmp).kept hgrow (hv.not_row hte hrow)
 have h41:Boxed2 w1 B4 t a4 v4:=(h4.alloc tmp).kept hgrow (h4.not_row hte hrow)
 refine⟨hv1,hv1.set1 v',hown'.kept (grownBy_set1 w1 B v') (.inr (hv1.not_row hte hown').symm),?_,?_,h41.kept (grownBy_set1 w1 B v') (fun e=>hne4 (Option.some.inj e)),?_⟩
 ·refine((KeepsOthers.alloc W tmp).trans (KeepsOthers.of_grownBy hgrow fun j o ej hj=> ?_)).trans (KeepsOthers.setCell _ _ _)
  rcases(hrow.alloc tmp).2 with⟨rfl,_⟩ |⟨g,cap,cur,rfl,_,hgb,_⟩
  ·simp [Value.ownBlock] at ej
  ·obtain rfl:g=j:=by simpa [Value.ownBlock] using ej
   rw [hgb] at hj;cases hj;rfl
 ·refine(((Below.refl n₀ W).alloc hn₀ tmp).grown hgrow (by simp;omega) fun j ej=> ?_).setCell (p:=⟨B,1,none⟩) hB v'
  rcases hrow.2 with⟨rfl,_⟩ |⟨g,cap,cur,rfl,hb,_,_⟩
  ·simp [Value.ownBlock] at ej
  ·obtain rfl:g=j:=by simpa [Value.ownBlock] using ej
   exact hb
 ·have hlt:Bs<W.heap.size:=(Array.getElem?_eq_some_iff.1 hs).1
  have e1:(W.alloc tmp).heap[Bs]?=W.heap[Bs]?:=(World.grownBy_alloc W tmp none).block Bs hlt (by simp)
  have e2:w1.heap[Bs]?=(W.alloc tmp).heap[Bs]?:=hgrow.block Bs (by simp;omega) (cells_not_row hs hts hrow)
  have hlt1:Bs<w1.heap.size:=(Array.getElem?_eq_some_iff.1 (e2.trans (e1.trans hs))).1
  exact((grownBy_set1 w1 B v').block Bs hlt1 (fun e=>hneS (Option.some.inj e))).trans (e2.trans e1)
set_option maxHeartbeats 1000000 in
theorem set1_stops (F:Fence) (n:Nat) (h6:F.fn 89) (hro:F.round=none) (hn:1≤n) (Bn Bs m:Nat) (s:ByteArray) (hm:m≤8*s.size) (hm64:m≤9223372036854775807) (Kp:World→World→Prop) (hKp:∀A C,Kp A C→C.heap[Bs]?=A.heap[Bs]?) (w:World) (hBn0:Bn<w.heap.size) (hBs0:Bs<w.heap.size)
  (hBn:w.cell? ⟨Bn,0,none⟩=some (.int .i64 m)) (hBs:w.cell? ⟨Bs,0,none⟩=some (.string s)) :
  SeqStopsK F n Tryd.prog 89 #[.pointer (some ⟨Bn,0,none⟩),.pointer (some ⟨Bs,0,none⟩)] (fun x:Int=> #[Value.int .i64 x]) Kp (fun ys=>ys=onS s m) (fun pre=>pre <+:onS s m) (onS s m).length w:=fun l J Jx W hW _ _ hY h0 =>
 set1_in F n h6 hro hn l Bn Bs m s hm hm64 Kp hKp J Jx hY W ((hW.cell (p:=⟨Bn,0,none⟩) hBn0).trans hBn) ((hW.cell (p:=⟨Bs,0,none⟩) hBs0).trans hBs) h0
theorem info3:(Tryd.prog.info? 3).map (fun i=>(i.zero,i.size,i.bytes))=some (some (.int .i64 0),1,8):=by kernel_rfl
theorem onS_len (s:ByteArray) (m:Nat):(onS s m).length≤m:=by
 unfold onS
 rw [List.length_map]
 exact Nat.le_trans (List.length_filter_le _ _) (by simp)
set_option maxRecDepth 100000 in
set_option maxHeartbeats 2000000 in
theorem of_in (F:Fence) (n:Nat) (h3:F.fn 81) (h4:F.fn 86) (h5:F.fn 89) (hro:F.round=none) (hn:3≤n) (s:ByteArray) (m:Nat) (hm:m≤8*s.size) (hm64:m≤1000000) (w:World):CallsIn F n Tryd.prog 81 #[.string s,.int .i64 m] w fun e W'=>∃v,e = .returned (.agg #[.int .i64 m,v])∧W'.ownsRow w.heap.size 3 1 v (onS s m).length ((onS s m).map (Value.int .i64))∧Below w.heap.size w W':=by
 have h1:1≤n:=by omega
 have hol:=onS_len s m
 have hml:1000001≤maxLen:=by decide
 obtain⟨i0,hi,hz0,hz1,hz2⟩:=info_parts info3
 refine callsIn_of_wp_marks Tryd.func81 rfl h3 ?_ hro
 simp only [Tryd.ntmps81,List.size_toArray,List.length_cons,List.length_nil,Nat.reduceAdd,Nat.reduceSub,Array.replicate_succ,Array.replicate_zero,List.push_toArray,List.append_toArray,List.nil_append,List.cons_append]
 gi_wp2_with (gi_at_call 86;refine(set_in F (n-1) h4 hro _ _ _).mono ?_;rintro e w' ⟨rfl,rfl⟩)
 have b4:=(((Boxed2.new w 27 (.int .i64 0) (.slice none 0 0)).alloc (.cells #[.int .i64 m,.slice none 0 0] 27)).alloc (.cells #[.string s] 9)).alloc (.cells #[.int .i64 m] 3)
 have b5:=((Boxed2.new (w.alloc (.cells #[.int .i64 0,.slice none 0 0] 27)) 27 (.int .i64 m) (.slice none 0 0)).alloc (.cells #[.string s] 9)).alloc (.cells #[.int .i64 m] 3)
 have bs:=(Boxed.new ((w.alloc (.cells #[.int .i64 0,.slice none 0 0] 27)).alloc (.cells #[.int .i64 m,.slice none 0 0] 27)) 9 (.string s)).alloc (.cells #[.int .i64 m] 3)
 have bn:=Boxed.new (((w.alloc (.cells #[.int .i64 0,.slice none 0 0] 27)).alloc (.cells #[.int .i64 m,.slice none 0 0] 27)).alloc (.cells #[.string s] 9)) 3 (.int .i64 m)
 have hB0:Below w.heap.size w ((((w.alloc (.cells #[.int .i64 0,.slice none 0 0] 27)).alloc (.cells #[.int .i64 m,.slice none 0 0] 27)).alloc (.cells #[.string s] 9)).alloc (.cells #[.int .i64 m] 3)) :=
  ((((Below.refl _ w).alloc (Nat.le_refl _) _).alloc (by simp) _).alloc (by simp;omega) _).alloc (by simp;omega) _
 simp only [World.size_alloc] at b5 bs bn
 refine wpIn_rangeFunc_ownG hro h1 (gf:=89) (lb:= #[.pointer (some ⟨w.heap.size+1+1+1,0,none⟩),.pointer (some ⟨w.heap.size+1+1,0,none⟩)]) rfl h5 (enters_of Tryd.func89 (by kernel_rfl) rfl)
  (set1_stops F (n-1) h5 hro (by omega) (w.heap.size+1+1+1) (w.heap.size+1+1) m s hm (by omega) (fun A C=>Below w.heap.size A C∧C.heap[w.heap.size+1+1]?=A.heap[w.heap.size+1+1]?) (fun _ _ h=>h.2) _ (by simp) (by simp) bn.cell bs.cell)
  (fun {A B C} h k=>⟨h.1.trans k.1,k.2.trans h.2⟩) ?kb (Below.refl _ _) (fun _=>rfl)
  (OfI w s m) (fun _ _ _=>False) (ofI_own w s m _ (by simp;omega)) (fun _ _ _ _ _ hs _ _=>hs)
  ⟨⟨_,b5,World.ownsRow_nil _ _ _ _⟩,b4,hB0,bs⟩
  (fun x=> { tmps:= #[.string s,.int .i64 m,undef,undef,.pointer (some ⟨w.heap.size,0,none⟩),.pointer (some ⟨w.heap.size+1,0,none⟩),.int .i64 x,.int .i64 m,.agg #[.int .i64 m,.slice none 0 0],.string s,.int .i64 m,
   .func (.func 89) #[] #[.pointer (some ⟨w.heap.size+1+1+1,0,none⟩),.pointer (some ⟨w.heap.size+1+1,0,none⟩)],.int .i64 x,undef,undef,undef,undef,undef,undef,undef],defers:=[] }) ?assign ?body ?done ?stop
 case kb =>
  intro W l o o' hl hk hc hw
  simp only [World.size_alloc] at hl
  exact⟨belowK_b (w:=w) (Nat.le_refl _) W l o o' (by omega) hk hc hw,World.putObj_heap_other (by omega)⟩
 case assign =>
  intro l x W K hK
  gi_wp2
  exact hK
 case body =>
  rintro l pre x W ⟨⟨v,hv,hrow⟩,h4,hB,hs⟩ hlt
  have hc:=hv.cell1
  gi_wp2_with (gi_at_builtin;refine wpListIn_append_own _ rfl _ _ 25 rfl w.heap.size 3 i0 (.int .i64 0) 1 8 Tryd.underlying25 hi hz0 hz1 hz2 rfl (by decide) _ _ _ rfl (hrow.alloc _) ⟨W.heap.size,0,none⟩ 1 1 [.int .i64 x] rfl rfl (cell_one_new _ _ _) (by simp [Value.oneCell']) (by omega) (by omega) (by have:=hB.size;simp;omega) ?_;intro v' w1 hown' hgrow _;obtain⟨g',cap',rfl⟩:=ownsRow_succ hown';obtain⟨hv1,hv2,hr2,hk2,hb2,h42,hs2⟩:=hv.appended (by decide) h4 (by omega) hs (by decide) (by omega) hrow hB.size (by omega) hown' hgrow;have hc1:=hv1.cell1;have hf1:=hv1.frozen1)
  exact⟨hk2.from _,⟨hb2,hs2⟩,⟨⟨_,hv2,by simpa using hr2⟩,h42,hB.trans hb2,hs2.trans hs⟩⟩
 case done =>
  rintro D ys W hD rfl ⟨⟨v,hv,hrow⟩,h4,hB,hs⟩ hK
  simp only [World.size_alloc] at hD
  have hc0:=hv.cell0
  have hc1:=hv.cell1
  have r0:=h4.frozen0
  have r1:=h4.frozen1
  have q0:=h4.cell0
  have q1:=h4.cell1
  have fin:∀a:Act,a.tmps.getD 4 undef = .pointer (some ⟨w.heap.size,0,none⟩)→a.defers=[{ target:=Target.collected D,args:= #[] }] →
    bodyPostM F n Tryd.prog Tryd.f81 (fun e W'=>∃v,e = .returned (.agg #[.int .i64 m,v])∧W'.ownsRow w.heap.size 3 1 v (onS s m).length ((onS s m).map (Value.int .i64))∧Below w.heap.size w W') Exit.ret a
     ((W.setCell ⟨w.heap.size,0,none⟩ (.int .i64 m)).setCell ⟨w.heap.size,1,none⟩ v):=by
   rintro⟨tmps,defers⟩ ht rfl
   have hK2:=((KeepsOthers.setCell W ⟨w.heap.size,0,none⟩ (.int .i64 m)).trans (KeepsOthers.setCell _ ⟨w.heap.size,1,none⟩ v)).same D _ hK rfl
   have b2:=(h4.set0 (.int .i64 m)).set1 v
   have o1:=hrow.kept (grownBy_setCell' W w.heap.size (.int .i64 m)) (.inr (h4.not_row (by decide) hrow).symm)
   have o2:=o1.kept (grownBy_set1 _ w.heap.size v) (.inr ((h4.set0 (.int .i64 m)).not_row (by decide) o1).symm)
   have bl:=(hB.setCell (p:=⟨w.heap.size,0,none⟩) (Nat.le_refl _) (.int .i64 m)).setCell (p:=⟨w.heap.size,1,none⟩) (Nat.le_refl _) v
   refine⟨by simp,.inl ⟨_,_,rfl,run_takeDeferred hK2,?_⟩⟩
   exact⟨_,results_cell_row rfl _ _ w.heap.size 27 #[.int .i64 m,v] (0,0) _ ht ((World.putObj_heap_other (by omega)).trans b2) Tryd.underlying27 rfl (by kernel_rfl),v,rfl,ownsRow_putObj o2 _ hK2 rfl,bl.trans (belowK_b (w:=w) (Nat.le_refl _) _ D _ _ (by omega) hK2 rfl rfl)⟩
  rcases hrow.2 with⟨rfl,h0⟩ |⟨g,cap,cur,rfl,hgb⟩
  ·gi_wp2
   exact fin _ rfl rfl
  ·gi_wp2
   exact fin _ rfl rfl
 case stop =>
  rintro D c pre W _ _ h _
  exact h.elim
end Go.Proofs.Av
