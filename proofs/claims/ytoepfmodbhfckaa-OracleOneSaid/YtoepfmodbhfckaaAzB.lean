/- What abstract values say of values in memory, and that it lasts. -/
import Derived.Test.YtoepfmodbhfckaaAzA
namespace Go.Proofs.Av
open Go
abbrev Mu:=Nat→Option (Nat×Nat×Nat)
def Mu.none:Mu:=fun _=>Option.none
inductive Rep (S:Nat→Prop) (w:World):Mu→AV→Value→Prop
 |val {μ:Mu}(v:Value):Rep S w μ (.val v) v
 | list {μ : Mu} {fl sz : Nat} {es : List (List AV)} (b off cap : Nat) (f : Nat → Nat → Value) (hS : S b)
   (hlen:∀e,e∈es→e.length=sz)
   (hc:∀i j,i<es.length→j<sz→w.cell? ⟨b,off+i*sz+j,Option.none⟩=some (f i j))
   (hr:∀(i j:Nat) (e:List AV) (v:AV),es[i]?=some e→e[j]?=some v→Rep S w Mu.none v (f i j))
   (hcap:es.length≤cap) (hfull:fl=1→cap=es.length):Rep S w μ (.list fl sz es) (.slice (some ⟨b,off,Option.none⟩) es.length cap)
 |nil {μ:Mu}{fl sz:Nat}:Rep S w μ (.list fl sz []) (.slice Option.none 0 0)
 |empty {μ:Mu}{fl sz:Nat}(a:Addr) (cap:Nat) (hfull:fl=1→cap=0):Rep S w μ (.list fl sz []) (.slice (some a) 0 cap)
 | rop {μ : Mu} {cs : List AV} (b off : Nat) (f : Nat → Value) (hS : S b) (hc : ∀ j, j < cs.length → w.cell? ⟨b, off + j, Option.none⟩ = some (f j))
   (hr:∀(j:Nat) (v:AV),cs[j]?=some v→Rep S w Mu.none v (f j)):Rep S w μ (.rop cs) (.pointer (some ⟨b,off,Option.none⟩))
 |ptr {μ:Mu}{r ver i j:Nat}(b sz C:Nat) (h:μ r=some (b,sz,C)):Rep S w μ (.ptr r ver i j) (.pointer (some ⟨b,i*sz+j,Option.none⟩))
 |arr0 {μ:Mu}{r ver off:Nat}(a:Addr) (h:0<off):Rep S w μ (.arr r ver off 0) (.slice (some a) 0 0)
 |anil {μ:Mu}{r ver:Nat}:Rep S w μ (.arr r ver 0 0) (.slice Option.none 0 0)
 |arr {μ:Mu}{r ver off len:Nat}(b cap:Nat) (h:μ r=some (b,ver,off+cap)) (hcap:len≤cap):Rep S w μ (.arr r ver off len) (.slice (some ⟨b,off*ver,Option.none⟩) len cap)
 |agg {μ:Mu}{cs:List AV}(vs:Array Value) (hl:vs.size=cs.length) (hr:∀(j:Nat) (v:AV) (u:Value),cs[j]?=some v→vs[j]?=some u→Rep S w μ v u):Rep S w μ (.agg cs) (.agg vs)
 |tuple {μ:Mu}{cs:List AV}(vs:Array Value) (hl:vs.size=cs.length) (hr:∀(j:Nat) (v:AV) (u:Value),cs[j]?=some v→vs[j]?=some u→Rep S w μ v u):Rep S w μ (.tuple cs) (.tuple vs)
 |iface {μ:Mu}{t:TypeId}{a:AV}{v:Value}(h:Rep S w μ a v):Rep S w μ (.iface t a) (.iface t v)
 | func {μ : Mu} {fn : Fn} {fs cs : List AV} (us vs : Array Value) (hu : us.size = fs.length) (hl : vs.size = cs.length)
   (hf:∀(j:Nat) (v:AV) (u:Value),fs[j]?=some v→us[j]?=some u→Rep S w μ v u) (hr:∀(j:Nat) (v:AV) (u:Value),cs[j]?=some v→vs[j]?=some u→Rep S w μ v u):Rep S w μ (.func fn fs cs) (.func fn us vs)
def Reps (S:Nat→Prop) (w:World) (μ:Mu) (as:List AV) (vs:List Value):Prop :=
 vs.length=as.length∧∀(j:Nat) (v:AV) (u:Value),as[j]?=some v→vs[j]?=some u→Rep S w μ v u
theorem Reps.nil {S:Nat→Prop}{w:World}{μ:Mu}:Reps S w μ [] []:=⟨rfl,fun j v u h=>by simp at h⟩
theorem Reps.cons {S:Nat→Prop}{w:World}{μ:Mu}{a:AV}{as:List AV}{v:Value}{vs:List Value}(h:Rep S w μ a v) (hs:Reps S w μ as vs):Reps S w μ (a::as) (v::vs):=by
 refine⟨by simp [hs.1],fun j x y hx hy=> ?_⟩
 cases j with
 |zero=>simp at hx hy;subst hx;subst hy;exact h
 |succ j=>exact hs.2 j x y (by simpa using hx) (by simpa using hy)
theorem Reps.inv_cons {S:Nat→Prop}{w:World}{μ:Mu}{a:AV}{as:List AV}{vs:List Value}(h:Reps S w μ (a::as) vs):∃v r,vs=v::r∧Rep S w μ a v∧Reps S w μ as r:=by
 obtain⟨hl,hr⟩:=h
 cases vs with
 |nil=>simp at hl
 |cons v r=>exact⟨v,r,rfl,hr 0 a v (by simp) (by simp),by simpa using hl,fun j x y hx hy=>hr (j+1) x y (by simpa using hx) (by simpa using hy)⟩
theorem Reps.inv_nil {S:Nat→Prop}{w:World}{μ:Mu}{vs:List Value}(h:Reps S w μ [] vs):vs=[]:=by
 have:=h.1
 simpa using this
theorem Reps.append {S:Nat→Prop}{w:World}{μ:Mu}{as bs:List AV}{vs us:List Value}(h:Reps S w μ as vs) (k:Reps S w μ bs us):Reps S w μ (as++bs) (vs++us):=by
 induction as generalizing vs with
 |nil=>rw [h.inv_nil];exact k
 |cons a as ih =>
  obtain⟨v,r,rfl,h1,h2⟩:=h.inv_cons
  exact(ih h2).cons h1
theorem Reps.take {S:Nat→Prop}{w:World}{μ:Mu}{as:List AV}{vs:List Value}(h:Reps S w μ as vs) (n:Nat):Reps S w μ (as.take n) (vs.take n) :=
 ⟨by simp [h.1],fun j v u hv hu=>by
  rw [List.getElem?_take] at hv hu
  split at hv
  ·rename_i hj;simp only [hj,if_true] at hu;exact h.2 j v u hv hu
  ·cases hv⟩
theorem Reps.drop {S:Nat→Prop}{w:World}{μ:Mu}{as:List AV}{vs:List Value}(h:Reps S w μ as vs) (n:Nat):Reps S w μ (as.drop n) (vs.drop n) :=
 ⟨by simp [h.1],fun j v u hv hu=>by
  rw [List.getElem?_drop] at hv hu
  exact h.2 _ v u hv hu⟩
theorem Reps.get {S:Nat→Prop}{w:World}{μ:Mu}{as:List AV}{vs:List Value}(h:Reps S w μ as vs) {j:Nat}{a:AV}(ha:as[j]?=some a):∃v,vs[j]?=some v∧Rep S w μ a v:=by
 have hj:j<vs.length:=by
  have:=(List.getElem?_eq_some_iff.1 ha).1
  rw [h.1];exact this
 exact⟨vs[j],List.getElem?_eq_getElem hj,h.2 j a _ ha (List.getElem?_eq_getElem hj)⟩
def Ext (w w':World):Prop:=∀b,b<w.heap.size→w'.heap[b]?=w.heap[b]?
theorem Ext.refl (w:World):Ext w w:=fun _ _=>rfl
theorem cell_of_block {w w':World}{b:Nat}(h:w'.heap[b]?=w.heap[b]?) (o:Nat) (s:Option Nat):w'.cell? ⟨b,o,s⟩=w.cell? ⟨b,o,s⟩:=by
 unfold World.cell?
 simp only [h]
theorem Rep.mono {S S':Nat→Prop}{w w':World}(hS:∀b,S b→S' b) (hw:∀b,S b→w'.heap[b]?=w.heap[b]?) {μ:Mu}{a:AV}{v:Value}(h:Rep S w μ a v):∀ {μ':Mu},(∀r x,μ r=some x→μ' r=some x)→Rep S' w' μ' a v:=by
 induction h with
 |val v=>exact fun _ => .val v
 |list b off cap f hs hlen hc hr hcap hfull ih =>
  intro μ' _
  exact .list b off cap f (hS b hs) hlen (fun i j hi hj=>by rw [cell_of_block (hw b hs)];exact hc i j hi hj) (fun i j e v he hv=>ih i j e v he hv (fun _ _ h=>h)) hcap hfull
 |nil=>exact fun _ => .nil
 |empty a cap hf=>exact fun _ => .empty a cap hf
 |rop b off f hs hc hr ih =>
  intro μ' _
  exact .rop b off f (hS b hs) (fun j hj=>by rw [cell_of_block (hw b hs)];exact hc j hj) (fun j v hv=>ih j v hv (fun _ _ h=>h))
 |ptr b sz C h=>exact fun hμ => .ptr b sz C (hμ _ _ h)
 |arr0 a h=>exact fun _ => .arr0 a h
 |anil=>exact fun _ => .anil
 |arr b cap h hcap=>exact fun hμ => .arr b cap (hμ _ _ h) hcap
 |agg vs hl hr ih=>exact fun hμ => .agg vs hl fun j v u h1 h2=>ih j v u h1 h2 hμ
 |tuple vs hl hr ih=>exact fun hμ => .tuple vs hl fun j v u h1 h2=>ih j v u h1 h2 hμ
 |iface h ih=>exact fun hμ => .iface (ih hμ)
 |func us vs hu hl hf hr ihf ihr=>exact fun hμ => .func us vs hu hl (fun j v u h1 h2=>ihf j v u h1 h2 hμ) (fun j v u h1 h2=>ihr j v u h1 h2 hμ)
theorem Reps.mono {S S':Nat→Prop}{w w':World}(hS:∀b,S b→S' b) (hw:∀b,S b→w'.heap[b]?=w.heap[b]?) {μ μ':Mu}(hμ:∀r x,μ r=some x→μ' r=some x) {as:List AV}{vs:List Value}(h:Reps S w μ as vs):Reps S' w' μ' as vs :=
 ⟨h.1,fun j v u h1 h2=>(h.2 j v u h1 h2).mono hS hw hμ⟩
theorem Rep.inv_val {S:Nat→Prop}{w:World}{μ:Mu}{v u:Value}(h:Rep S w μ (.val v) u):u=v:=by cases h;rfl
theorem Rep.inv_agg {S:Nat→Prop}{w:World}{μ:Mu}{cs:List AV}{u:Value}(h:Rep S w μ (.agg cs) u):∃vs:Array Value,u = .agg vs∧Reps S w μ cs vs.toList:=by
 cases h with
 |agg vs hl hr=>exact⟨vs,rfl,by simpa using hl,fun j v u h1 h2=>hr j v u h1 (by simpa using h2)⟩
theorem Rep.inv_tuple {S:Nat→Prop}{w:World}{μ:Mu}{cs:List AV}{u:Value}(h:Rep S w μ (.tuple cs) u):∃vs:Array Value,u = .tuple vs∧Reps S w μ cs vs.toList:=by
 cases h with
 |tuple vs hl hr=>exact⟨vs,rfl,by simpa using hl,fun j v u h1 h2=>hr j v u h1 (by simpa using h2)⟩
theorem Rep.of_agg {S:Nat→Prop}{w:World}{μ:Mu}{cs:List AV}{vs:List Value}(h:Reps S w μ cs vs):Rep S w μ (.agg cs) (.agg vs.toArray) :=
 .agg _ (by simpa using h.1) fun j v u h1 h2=>h.2 j v u h1 (by simpa using h2)
theorem Rep.of_tuple {S:Nat→Prop}{w:World}{μ:Mu}{cs:List AV}{vs:List Value}(h:Reps S w μ cs vs):Rep S w μ (.tuple cs) (.tuple vs.toArray) :=
 .tuple _ (by simpa using h.1) fun j v u h1 h2=>h.2 j v u h1 (by simpa using h2)
theorem reps_vals {S:Nat→Prop}{w:World}{μ:Mu}(vs:List Value):Reps S w μ (vs.map .val) vs:=by
 induction vs with
 |nil=>exact .nil
 |cons v vs ih=>exact ih.cons (.val v)
theorem rep_ofValue {S:Nat→Prop}{w:World}{μ:Mu}(v:Value):Rep S w μ (.ofValue v) v:=by
 unfold AV.ofValue
 split
 ·rename_i cs
  have:=Rep.of_agg (S:=S) (w:=w) (μ:=μ) (reps_vals cs.toList)
  simpa using this
 ·exact .val v
theorem Rep.cells {S:Nat→Prop}{w:World}{μ:Mu}{a:AV}{v:Value}(h:Rep S w μ a v):Reps S w μ a.cells v.cells.toList:=by
 cases h<;>first
  | (rename_i vs hl hr;exact⟨by simpa [Value.cells,AV.cells] using hl,fun j x y h1 h2=>hr j x y h1 (by simpa [Value.cells] using h2)⟩)
  |skip
 case val =>
  unfold AV.cells Value.cells
  cases v<;>first
   |exact reps_vals _
   |exact Reps.nil.cons (.val _)
 all_goals exact Reps.nil.cons (by first |exact .empty _ _ ‹_› | (constructor<;>assumption) |exact .list _ _ _ _ ‹_› ‹_› ‹_› ‹_› ‹_› ‹_›)
end Go.Proofs.Av
