/- Operations that only read: what the machine does is what the evaluator says. -/
import Derived.Test.YtoepfmodbhfckaaAzC
import Derived.WalkKit
import Derived.Laws.Small
namespace Go.Proofs.Av
open Go
section
variable {S:Nat→Prop}{w:World}{μ:Mu}
def Wk (a b:AV):Prop:=∀(S:Nat→Prop) (w:World) (μ:Mu) (v:Value),Rep S w μ a v→Rep S w μ b v
theorem Wk.refl (a:AV):Wk a a:=fun _ _ _ _ h=>h
def Wks (as bs:List AV):Prop:=∀(S:Nat→Prop) (w:World) (μ:Mu) (vs:List Value),Reps S w μ as vs→Reps S w μ bs vs
theorem Wks.refl (a:List AV):Wks a a:=fun _ _ _ _ h=>h
theorem Wks.cons {a b:AV}{as bs:List AV}(h:Wk a b) (hs:Wks as bs):Wks (a::as) (b::bs):=by
 intro S w μ vs hv
 obtain⟨v,r,rfl,h1,h2⟩:=hv.inv_cons
 exact(hs _ _ _ _ h2).cons (h _ _ _ _ h1)
theorem wk_int {k:IntKind}{v:AV}{n:Int}(h:v.int? k=some n):v = .val (.int k n):=by
 unfold AV.int? at h
 split at h
 ·split at h
  ·rename_i hk;cases h;rw [hk]
  ·cases h
 ·cases h
theorem wk_bool {v:AV}{b:Bool}(h:v.bool?=some b):v = .val (.bool b):=by
 unfold AV.bool? at h
 split at h
 ·cases h;rfl
 ·cases h
theorem wk_str {v:AV}{b:ByteArray}(h:v.str?=some b):v = .val (.string b):=by
 unfold AV.str? at h
 split at h
 ·cases h;rfl
 ·cases h
theorem wk_float {k:FloatKind}{v:AV}{n:Nat}(h:v.float? k=some n):v = .val (.float k n):=by
 unfold AV.float? at h
 split at h
 ·split at h
  ·rename_i hk;cases h;rw [hk]
  ·cases h
 ·cases h
theorem wk_flag (fl fl' sz:Nat) (es:List (List AV)) (h:fl'=0∨fl'=2):Wk (.list fl sz es) (.list fl' sz es):=by
 intro S w μ u hu
 cases hu with
 |list b off cap f hS hlen hc hr hcap hfull=>exact .list b off cap f hS hlen hc hr hcap (fun h=>by omega)
 |nil=>exact .nil
 |empty a cap hf=>exact .empty a cap (fun h=>by omega)
theorem wk_list {v:AV}{sz:Nat}{es:List (List AV)}(h:v.list? sz=some es):Wk v (.list 0 sz es):=by
 unfold AV.list? at h
 split at h
 ·split at h
  ·rename_i hs
   cases h
   rw [hs]
   exact wk_flag _ _ _ _ (.inl rfl)
  ·cases h
 ·cases h
  intro S w μ u hu
  rw [hu.inv_val]
  exact .nil
 ·cases h
theorem wk_cells {v:AV}{cs:List AV}(h:v.cells?=some cs):v = .agg cs:=by
 unfold AV.cells? at h
 split at h
 ·cases h;rfl
 ·cases h
theorem wk_tup {v:AV}{cs:List AV}(h:v.tup?=some cs):v = .tuple cs:=by
 unfold AV.tup? at h
 split at h
 ·cases h;rfl
 ·cases h
theorem uncons_eq {α:Type}{l:List α}{p:α×List α}(h:uncons? l=some p):l=p.1::p.2:=by
 unfold uncons? at h
 split at h
 ·cases h
 ·cases h;rfl
theorem nil_eq {α:Type}{l:List α}{u:Unit}(h:nil? l=some u):l=[]:=by
 unfold nil? at h
 split at h
 ·rfl
 ·cases h
theorem bind_some_iff {α β:Type}{x:Option α}{f:α→Option β}{b:β}(h:x.bind f=some b):∃a,x=some a∧f a=some b:=by
 cases x with
 |none=>cases h
 |some a=>exact⟨a,rfl,h⟩
theorem normCell_wk {z:Sh}{v a:AV}(h:normCell z v some=some a):Wk v a:=by
 unfold normCell at h
 split at h
 ·obtain⟨n,h1,h2⟩:=bind_some_iff h;cases h2;rw [wk_int h1];exact Wk.refl _
 ·obtain⟨n,h1,h2⟩:=bind_some_iff h;cases h2;rw [wk_bool h1];exact Wk.refl _
 ·obtain⟨n,h1,h2⟩:=bind_some_iff h;cases h2;rw [wk_str h1];exact Wk.refl _
 ·obtain⟨n,h1,h2⟩:=bind_some_iff h;cases h2;rw [wk_float h1];exact Wk.refl _
 ·obtain⟨n,h1,h2⟩:=bind_some_iff h;cases h2;exact wk_list h1
 ·cases h;exact Wk.refl _
theorem Pk.some {α:Type}{X:(ρ:Type)→(α→Option ρ)→Option ρ}(hX:Pk X) {ρ:Type}{c:α→Option ρ}{r:ρ}(h:X ρ c=some r):∃a,c a=some r∧X α Option.some=Option.some a:=by
 obtain⟨a,h1,h2⟩:=hX ρ c r h
 exact⟨a,h1,h2 α _⟩
theorem normCells_wk:∀ {zs:List Sh}{cs as:List AV},normCells zs cs some=some as→Wks cs as
 | [],cs,as,h=>by
  simp only [normCells] at h
  obtain⟨u,h1,h2⟩:=bind_some_iff h
  cases h2
  rw [nil_eq h1]
  exact Wks.refl _
 |z::zs,cs,as,h=>by
  simp only [normCells] at h
  obtain⟨p,h1,h2⟩:=bind_some_iff h
  obtain⟨x,h3,h4⟩:=(normCell_pk z p.1).some h2
  obtain⟨r,h5,h6⟩:=(normCells_pk zs p.2).some h3
  cases h5
  rw [uncons_eq h1]
  exact Wks.cons (normCell_wk h4) (normCells_wk h6)
theorem splitB_eq {v a:AV}(h:splitB v some=some a):a=v:=by
 unfold splitB at h
 split at h
 ·rename_i b
  cases b<;>(simp at h;exact h.symm)
 ·cases h;rfl
theorem normZ_wk {z:Sv}{v a:AV}(h:normZ z v some=some a):Wk v a:=by
 unfold normZ at h
 split at h
 ·obtain⟨cs,h1,h2⟩:=bind_some_iff h
  obtain⟨as,h3,h4⟩:=(normCells_pk _ cs).some h2
  cases h3
  rw [wk_cells h1]
  intro S w μ u hu
  obtain⟨vs,rfl,hvs⟩:=hu.inv_agg
  have:=Rep.of_agg (normCells_wk h4 S w μ _ hvs)
  simpa using this
 ·obtain⟨b,h1,h2⟩:=bind_some_iff h
  rw [wk_bool h1]
  cases b<;>(simp at h2;rw [←h2];exact Wk.refl _)
 ·exact normCell_wk h
theorem normTup_wk:∀ {zs:List Sv}{cs as:List AV},normTup zs cs some=some as→Wks cs as
 | [],cs,as,h=>by
  simp only [normTup] at h
  obtain⟨u,h1,h2⟩:=bind_some_iff h
  cases h2
  rw [nil_eq h1]
  exact Wks.refl _
 |z::zs,cs,as,h=>by
  simp only [normTup] at h
  obtain⟨p,h1,h2⟩:=bind_some_iff h
  obtain⟨x,h3,h4⟩:=(normZ_pk z p.1).some h2
  obtain⟨r,h5,h6⟩:=(normTup_pk zs p.2).some h3
  cases h5
  rw [uncons_eq h1]
  exact Wks.cons (normZ_wk h4) (normTup_wk h6)
theorem normR_wk {zs:Option (List Sv)}{z:Sv}{v a:AV}(h:normR zs z v some=some a):Wk v a:=by
 unfold normR at h
 split at h
 ·obtain⟨cs,h1,h2⟩:=bind_some_iff h
  obtain⟨as,h3,h4⟩:=(normTup_pk _ cs).some h2
  cases h3
  rw [wk_tup h1]
  intro S w μ u hu
  obtain⟨vs,rfl,hvs⟩:=hu.inv_tuple
  have:=Rep.of_tuple (normTup_wk h4 S w μ _ hvs)
  simpa using this
 ·exact normZ_wk h
theorem wk1_wk (a:AV):Wk a a.wk1:=by
 unfold AV.wk1
 split
 ·exact wk_flag _ _ _ _ (.inl rfl)
 ·exact Wk.refl _
theorem wks_map (f:AV→AV) (hf:∀a,Wk a (f a)):∀as:List AV,Wks as (as.map f)
 | []=>Wks.refl _
 |a::as=>Wks.cons (hf a) (wks_map f hf as)
theorem wk_wk (a:AV):Wk a a.wk:=by
 unfold AV.wk
 split
 ·intro S w μ u hu
  obtain⟨vs,rfl,hvs⟩:=hu.inv_agg
  have:=Rep.of_agg (wks_map _ wk1_wk _ S w μ _ hvs)
  simpa using this
 ·exact wk1_wk _
end
def EnvRel (S:Nat→Prop) (w:World) (μ:Mu) (env:Env) (tmps:Array Value):Prop:=∀t v,look env t=some v→Rep S w μ v (tmps.getD t undef)
def GRel (cx:Cx) (S:Nat→Prop) (w:World):Prop:=∀g cs,cx.G g=some cs→Rep S w Mu.none (.rop cs) (.pointer (some ⟨g,0,none⟩))
def Ob.mu (o:Ob) (μ:Mu):Mu:=match o.k with
 | .box=>μ
 | _=>Mu.none
structure ObRel (S:Nat→Prop) (w:World) (μ:Mu) (r:Nat) (o:Ob):Prop where
 ex:∃b vs t C,μ r=some (b,o.sz,C)∧w.heap[b]?=some (.cells vs t (0,0))∧(o.k = .ro→S b)∧(o.k ≠ .ro→¬S b)∧o.es.length*o.sz≤vs.size∧(o.k = .arr→vs.size=C*o.sz∧t=o.t) ∧
  (∀(i:Nat) (e:List AV),o.es[i]?=some e→e.length=o.sz) ∧
  (∀(i j:Nat) (e:List AV) (v:AV),o.es[i]?=some e→e[j]?=some v→∃u,vs[i*o.sz+j]?=some u∧Rep S w (o.mu μ) v u)
def ObR (S:Nat→Prop) (w:World) (μ:Mu) (r:Nat) (o:Ob):Prop :=
 (o.k = .dead∧o.es=[]∧∀b s C,μ r=some (b,s,C)→b<w.heap.size∧s=o.sz)∨(o.k = .arr∧o.es=[]∧μ r=none)∨(o.k ≠ .dead∧ObRel S w μ r o)
def HRel (S:Nat→Prop) (w:World) (μ:Mu) (h:Heap):Prop:=∀r o,h[r]?=some o→ObR S w μ r o
theorem HRel.solid {S:Nat→Prop}{w:World}{μ:Mu}{h:Heap}(hH:HRel S w μ h) {r i:Nat}{o:Ob}{e:List AV}(ho:h[r]?=some o) (he:o.es[i]?=some e):ObRel S w μ r o:=by
 rcases hH r o ho with⟨_,h1,_⟩ |⟨_,h1,_⟩ |⟨_,h1⟩
 ·rw [h1] at he;simp at he
 ·rw [h1] at he;simp at he
 ·exact h1
theorem HRel.sz {S:Nat→Prop}{w:World}{μ:Mu}{h:Heap}(hH:HRel S w μ h) {r b s C:Nat}{o:Ob}(ho:h[r]?=some o) (hm:μ r=some (b,s,C)):s=o.sz:=by
 rcases hH r o ho with⟨_,_,h1⟩ |⟨_,_,h1⟩ |⟨_,h1⟩
 ·exact(h1 b s C hm).2
 ·rw [h1] at hm;cases hm
 ·obtain⟨b',vs,t,C',h2,h3,_⟩:=h1.ex
  rw [hm] at h2
  cases h2
  rfl
theorem HRel.lt {S:Nat→Prop}{w:World}{μ:Mu}{h:Heap}(hH:HRel S w μ h) {r b:Nat}{s:Nat×Nat}{o:Ob}(ho:h[r]?=some o) (hm:μ r=some (b,s)):b<w.heap.size:=by
 rcases hH r o ho with⟨_,_,h1⟩ |⟨_,_,h1⟩ |⟨_,h1⟩
 ·exact(h1 b s.1 s.2 hm).1
 ·rw [h1] at hm;cases hm
 ·obtain⟨b',vs,t,C,h2,h3,_⟩:=h1.ex
  rw [hm] at h2
  cases h2
  exact(Array.getElem?_eq_some_iff.1 h3).1
theorem Mu.none_le (μ:Mu):∀r x,Mu.none r=some x→μ r=some x:=fun r x h=>by cases h
theorem Rep.of_none {S:Nat→Prop}{w:World}{μ:Mu}{a:AV}{v:Value}(h:Rep S w Mu.none a v):Rep S w μ a v:=h.mono (fun _ h=>h) (fun _ _=>rfl) (Mu.none_le μ)
section
variable {cx:Cx}{S:Nat→Prop}{w:World}{μ:Mu}{env:Env}{a:Act}
theorem opnd_sem (hE:EnvRel S w μ env a.tmps) (hG:GRel cx S w) {x:Operand}{av:AV}(h:opnd cx env x=some av):Rep S w μ av (a.eval x):=by
 cases x with
 |tmp t=>exact hE t av h
 |const v=>cases h;exact rep_ofValue v
 |global g =>
  obtain⟨cs,h1,h2⟩:=bind_some_iff h
  cases h2
  exact(hG g cs h1).of_none
 |func f=>cases h;exact .func #[] #[] rfl rfl (fun j v u h=>by simp at h) (fun j v u h=>by simp at h)
theorem opnds_sem (hE:EnvRel S w μ env a.tmps) (hG:GRel cx S w):∀ {xs:List Operand}{as:List AV},opnds cx env xs=some as→Reps S w μ as (xs.map a.eval)
 | [],as,h=>by cases h;exact .nil
 |x::xs,as,h=>by
  simp only [opnds] at h
  obtain⟨v,h1,h2⟩:=bind_some_iff h
  obtain⟨vs,h3,h4⟩:=bind_some_iff h2
  cases h4
  exact(opnds_sem hE hG h3).cons (opnd_sem hE hG h1)
def RunsTo (P:Program) (w:World) (s:Sem Value) (v:Value):Prop:=∀w',Ext w w'→s.run P w' = .ok v w'
theorem ibin_sem {P:Program}{op:BinOp}{k:IntKind}{x y:Int}{av:AV}(h:ibin op k x y some=some av) (t:TypeId) (w':World):∃v,av = .val v∧(binOp op t (.int k x) (.int k y)).run P w' = .ok v w':=by
  cases op<;>simp only [ibin] at h<;>first
    | (cases h;done)
    | (cases h;exact⟨_,rfl,by simp only [binOp,ne_eq,not_true_eq_false,if_false];rfl⟩)
    | (split at h
       · cases h
       · rename_i hy
         cases h;exact⟨_,rfl,by simp [binOp,Op.intDiv,hy]⟩)
theorem sbin_sem {P:Program}{op:BinOp}{x y:ByteArray}{av:AV}(h:sbin op x y some=some av) (t:TypeId) (w':World):∃v,av = .val v∧(binOp op t (.string x) (.string y)).run P w' = .ok v w':=by
  cases op<;>simp only [sbin] at h<;>first
    | (cases h;done)
    | (cases h;exact⟨_,rfl,rfl⟩)
    | (split at h
       · cases h
       · rename_i hy
         cases h
         refine⟨_,rfl,?_⟩
         have hy':¬((x.size+y.size:Nat):Int)>IntKind.i64.max:=by
           have:IntKind.i64.max=9223372036854775807:=by decide
           rw [this];exact hy
         simp only [binOp,Op.stringOp]
         rw [if_neg hy'];rfl)
theorem binV_sem {op:BinOp}{t:TypeId}{x y av:AV}{u v:Value}(hx:Rep S w μ x u) (hy:Rep S w μ y v) (h:binV cx op t x y some=some av) (w':World) (ox oy:Operand):∃r,av = .val r∧(do eqGuard op t ox oy u v;binOp op t u v:Sem Value).run cx.P w' = .ok r w':=by
 unfold binV at h
 split at h
 ·rw [hx.inv_val,hy.inv_val]
  rename_i k n k' m
  have hg:(eqGuard op t ox oy (.int k n) (.int k' m)).run cx.P w' = .ok () w':=by unfold eqGuard;cases op<;>simp
  simp only [Sem.run_bind,hg,Result.andThen_ok]
  split at h
  ·split at h
   ·cases h
   ·rename_i hm;cases h;exact⟨_,rfl,by simp [binOp,Op.shift,hm,ishl]⟩
  ·split at h
   ·cases h
   ·rename_i hm;cases h;exact⟨_,rfl,by simp [binOp,Op.shift,hm,ishr]⟩
  ·split at h
   ·rename_i hk
    subst hk
    exact ibin_sem h t w'
   ·cases h
 ·rw [hx.inv_val,hy.inv_val]
  rename_i n m
  have hg:(eqGuard op t ox oy (.string n) (.string m)).run cx.P w' = .ok () w':=by unfold eqGuard;cases op<;>simp
  simp only [Sem.run_bind,hg,Result.andThen_ok]
  exact sbin_sem h t w'
 ·rw [hx.inv_val,hy.inv_val]
  rename_i n m
  have hg:(eqGuard op t ox oy (.bool n) (.bool m)).run cx.P w' = .ok () w':=by unfold eqGuard;cases op<;>simp
  simp only [Sem.run_bind,hg,Result.andThen_ok]
  obtain⟨d,h1,h2⟩:=bind_some_iff h
  split at h2
  ·split at h2
   ·cases h2;exact⟨_,rfl,run_eql_bool w' t n m h1⟩
   ·cases h2;exact⟨_,rfl,run_neq_bool w' t n m h1⟩
   ·cases h2
  ·cases h2
 ·cases h
theorem unV_sem {op:UnOp}{x av:AV}{u:Value}(hx:Rep S w μ x u) (h:unV op x some=some av) (w':World):∃r,av = .val r∧(Op.unary op u).run cx.P w' = .ok r w':=by
 unfold unV at h
 split at h
 ·rw [hx.inv_val];cases h;exact⟨_,rfl,by simp [Op.unary,Op.intArith]⟩
 ·rw [hx.inv_val];cases h;exact⟨_,rfl,by simp [Op.unary,Op.intBits,ixor]⟩
 ·rw [hx.inv_val];cases h;exact⟨_,rfl,by simp [Op.unary]⟩
 ·cases h
theorem convV_sem {s d:TypeId}{x av:AV}{u:Value}(hx:Rep S w μ x u) (h:convV cx s d x some=some av) (w':World):∃r,av = .val r∧(convert s d u).run cx.P w' = .ok r w':=by
 unfold convV at h
 obtain⟨d1,h1,h⟩:=bind_some_iff h
 obtain⟨d2,h2,h⟩:=bind_some_iff h
 split at h
 ·rw [hx.inv_val];cases h
  refine⟨_,rfl,?_⟩
  unfold convert
  simp [run_underlying h1,run_underlying h2,Conv.intToInt]
 ·rw [hx.inv_val];cases h
  refine⟨_,rfl,?_⟩
  unfold convert
  cases d1<;>simp [run_underlying h1,run_underlying h2]
 ·cases h
end
end Go.Proofs.Av
