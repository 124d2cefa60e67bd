/- Drawn regions by the evaluator; weakened states; what a piece of code leaves alone. -/
import Derived.Test.YtoepfmodbhfckaaAzNp
namespace Go.Proofs.Av
open Go
structure Later (cx:Cx) (w w':World):Prop where
 ext:Ext w w'
 le:w.heap.size≤w'.heap.size
 os:w'.os=w.os
 tape:w'.tape=w.tape
 output:OutD cx w w'
section
variable {cx:Cx}{F:EF}{K:Kf}{N:Nat}{S:Nat→Prop}{μ:Mu}{env:Env}{h:Heap}{a:Act}{w:World}
theorem St.later {tmps:Array Value}(st:St cx K N S μ env h tmps w) {w':World}(hl:Later cx w w'):St cx K N S μ env h tmps w' :=
 st.ext hl.ext hl.le hl.os hl.tape hl.output (fun _ h=>h) (fun _ h => .inl h) fun b hb=>Nat.lt_of_lt_of_le (st.slt b hb) hl.le
theorem Later.trans {w1 w2 w3:World}(h:Later cx w1 w2) (k:Later cx w2 w3):Later cx w1 w3 :=
 ⟨fun b hb=>(k.ext b (Nat.lt_of_lt_of_le hb h.le)).trans (h.ext b hb),Nat.le_trans h.le k.le,k.os.trans h.os,k.tape.trans h.tape,k.output.trans h.output⟩
theorem later_drawn (w:World):Later cx w { w with drawn:=w.drawn+1 }:=⟨fun _ _=>rfl,Nat.le_refl _,rfl,rfl,⟨rfl,fun _=>Nat.le_succ _⟩⟩
theorem later_refl (w:World):Later cx w w:=⟨Ext.refl w,Nat.le_refl _,rfl,rfl,OutD.refl _⟩
theorem region_wp (hF:FnSound cx F) (hO:OP cx F) (hX:ExtSound cx) (st:St cx K N S μ env h a.tmps w) {f:FuncId}{p:List Bool}{id:Nat}{ops:Array Oper}{draw:Bool}{e:JX}{env':Env}{h':Heap}(hr:run cx F f N (.region id ops draw) p env h (fun e env h=>some (e,env,h))=some (e,env',h')) {Q:Exit→Act→World→Prop}(hq:∀S' μ' a' w',St cx K N S' μ' env' h' a'.tmps w'→a'.defers=a.defers→Q e.toExit a' w'):(Code.region id ops draw).wp cx.P Q a w:=by
 cases draw with
 |false =>
  simp only [run] at hr
  exact wp_region_list (runOps_wp hF hO hX st hr hq)
 |true =>
  simp only [run] at hr
  cases hc0:upOk cx false ops with
  |true =>
   rw [hc0] at hr
   simp only [cond_true] at hr
   exact region_up hF hO hX (st.later (later_drawn w)) (fun hx=>by cases hx) hc0 hr hq
  |false =>
  rw [hc0] at hr
  simp only [cond_false] at hr
  cases hc:anyOk cx.P cx.turns false ops with
  |true =>
   rw [hc] at hr
   simp only [cond_true] at hr
   obtain⟨⟨env1,h1⟩,h2,h3,_⟩:=runAny_pkl (G:=fun _=>F) (fun _ _ _ r hr=>⟨0,fun _ _=>hr⟩) cx N false [] [] ops ops.toList env h _ (fun x=>some (JX.normal,x.1,x.2)) _ hr
   cases h2
   exact region_any hF hO hX (st.later (later_drawn w)) hc (fun hx=>by cases hx) (h3 _ fun x=>some x) hq
  |false =>
   rw [hc] at hr
   simp only [cond_false] at hr
   cases hc1:upOk cx true ops with
   |true =>
    rw [hc1] at hr
    simp only [cond_true] at hr
    exact region_up hF hO hX (st.later (later_drawn w)) (fun _=>rfl) hc1 hr hq
   |false =>
   rw [hc1] at hr
   simp only [cond_false] at hr
   generalize cx.flt f p=fl at hr
   cases fl with
   |true =>
    simp only [cond_true] at hr
    exact region_float hF hO hX (st.later (later_drawn w)) hr hq
   |false =>
   simp only [cond_false] at hr
   cases hc2:anyOk cx.P cx.turns true ops with
   |false =>
    rw [hc2] at hr
    simp only [cond_false] at hr
    exact region_float hF hO hX (st.later (later_drawn w)) hr hq
   |true =>
    rw [hc2] at hr
    simp only [cond_true] at hr
    obtain⟨⟨env1,h1⟩,h2,h3,_⟩:=runAny_pkl (G:=fun _=>F) (fun _ _ _ r hr=>⟨0,fun _ _=>hr⟩) cx N true h _ ops _ env h _ (fun x=>runOps cx F N false ops (ops.toList.drop (tailAt cx.turns ops)) x.1 x.2 fun e env h=>some (e,env,h)) _ hr
    exact region_tail hF hO hX (st.later (later_drawn w)) hc2 (h3 _ fun x=>some x) h2 hq
end
end Go.Proofs.Av
