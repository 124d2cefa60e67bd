/- From a row's reading of the arguments to abstract values. -/
import Derived.Test.YtoepfmodbhfckaaAzQ
import Derived.ChangeArms
import Derived.OpenShut
namespace Go.Proofs.Av
open Go
inductive Fits (P:Program):TypeId→List AV→Prop
 |bool {t:TypeId}(h:P.underlying t=some .bool) (b:Bool):Fits P t [.val (.bool b)]
 |int {t:TypeId}{k:IntKind}(h:P.underlying t=some (.int k)) (n:Int) (hw:(Lit.int k n).wf=true):Fits P t [.val (.int k n)]
 |float {t:TypeId}{k:FloatKind}(h:P.underlying t=some (.float k)) (n:Nat) (hw:(Lit.float k n).wf=true):Fits P t [.val (.float k n)]
 |string {t:TypeId}(h:P.underlying t=some .string) (s:ByteArray) (hs:s.size≤maxLen):Fits P t [.val (.string s)]
 |slice {t e:TypeId}(h:P.underlying t=some (.slice e)) (es:List (List AV)) (hl:es.length≤maxLen) (he:∀x,x∈es→Fits P e x) (hn:∀x,x∈es→x.length=P.cellsOf e):Fits P t [.list 0 (P.cellsOf e) es]
 | struct {t : TypeId} {fs : Array Field} (h : P.underlying t = some (.struct fs)) (parts : List (List AV)) (hl : parts.length = fs.size)
   (hp:∀(i:Nat) (f:Field) (p:List AV),fs[i]?=some f→parts[i]?=some p→Fits P f.type p):Fits P t parts.flatten
 |array {t:TypeId}{n:Nat}{e:TypeId}(h:P.underlying t=some (.array n e)) (parts:List (List AV)) (hl:parts.length=n) (hp:∀p,p∈parts→Fits P e p):Fits P t parts.flatten
def plainT (P:Program):Nat→TypeId→Bool
 | 0,_=>false
 |n+1,t=>match P.underlying t with
  |some .bool |some (.int _) |some .string=>true
  |some (.slice e)=>plainT P n e
  |some (.array _ e)=>plainT P n e
  |some (.struct fs)=>fs.toList.all fun f=>plainT P n f.type
  | _=>false
def contig (P:Program):Nat→List Field→Option Nat
 |o,[]=>some o
 |o,f::fs=>match Nat.beq f.offset o with
  |true=>contig P (o+P.cellsOf f.type) fs
  |false=>none
def layOk (P:Program):Nat→TypeId→Bool
 | 0,_=>false
 |n+1,t=>match P.underlying t with
  |some (.slice e)=>Nat.ble 1 (P.cellsOf e)&&layOk P n e
  |some (.array k e)=>Nat.beq (P.cellsOf t) (k*P.cellsOf e)&&layOk P n e
  |some (.struct fs)=>(match contig P 0 fs.toList with |some o=>Nat.beq o (P.cellsOf t) |none=>false)&&fs.toList.all fun f=>layOk P n f.type
  | _=>true
section
variable {H:Type}{enc:TypeId×Value→H}{P:Program}{w:World}
def Old (w:World):Nat→Prop:=fun b=>b<w.heap.size
theorem reps_flatten {S:Nat→Prop}{μ:Mu}{parts:List (List AV)}:∀ {rows:List (List Value)},rows.length=parts.length→(∀(i:Nat) (p:List AV) (r:List Value),parts[i]?=some p→rows[i]?=some r→Reps S w μ p r)→Reps S w μ parts.flatten rows.flatten:=by
  induction parts with
  | nil => intro rows hl h; have : rows = [] := by simpa using hl
           subst this;exact .nil
  | cons p parts ih =>
    intro rows hl h
    cases rows with
    |nil=>simp at hl
    |cons r rows=>exact(h 0 p r rfl rfl).append (ih (by simpa using hl) fun i q s hq hs=>h (i+1) q s hq hs)
theorem chop:∀(n sz:Nat) (cs:List Value),cs.length=n*sz→((List.range n).map fun i=>(cs.drop (i*sz)).take sz).flatten=cs
 | 0,sz,cs,h=>by simp at h;subst h;rfl
 |n+1,sz,cs,h=>by
  rw [List.range_succ_eq_map]
  simp only [List.map_cons,List.map_map,List.flatten_cons,Nat.zero_mul,List.drop_zero]
  rw [Nat.add_mul,Nat.one_mul] at h
  have ih:=chop n sz (cs.drop sz) (by simp;omega)
  have e:((List.range n).map ((fun i=>(cs.drop (i*sz)).take sz) ∘ Nat.succ))=(List.range n).map fun i=>((cs.drop sz).drop (i*sz)).take sz:=by
   apply List.map_congr_left
   intro i _
   simp only [Function.comp,List.drop_drop]
   congr 2
   rw [Nat.succ_mul];omega
  rw [e,ih]
  exact List.take_append_drop sz cs
theorem chop_fields:∀ {fs:List Field}{o n:Nat}{cs:List Value},contig P o fs=some n→cs.length=n→(fs.map fun f=>(cs.drop f.offset).take (P.cellsOf f.type)).flatten=cs.drop o
 | [],o,n,cs,h,hl=>by simp only [contig] at h;cases h;simp [←hl]
 |f::fs,o,n,cs,h,hl=>by
  simp only [contig] at h
  split at h
  ·rename_i hb
   have:=Nat.eq_of_beq_eq_true hb
   simp only [List.map_cons,List.flatten_cons]
   rw [chop_fields h hl,this,←List.drop_drop]
   exact List.take_append_drop _ _
  ·cases h
theorem mapM_some {α β:Type}{f:α→Option β}:∀ {xs:List α}{ys:List β},xs.mapM f=some ys→∀x,x∈xs→∃y,f x=some y
 | [],ys,h,x,hx=>by cases hx
 |a::xs,ys,h,x,hx=>by
  simp only [List.mapM_cons,Option.pure_def,Option.bind_eq_bind] at h
  obtain⟨y,h1,h⟩:=bind_some_iff h
  obtain⟨r,h2,h⟩:=bind_some_iff h
  rcases List.mem_cons.1 hx with rfl |hx
  ·exact⟨y,h1⟩
  ·exact mapM_some h2 x hx
theorem cells_get {base:Nat}{a:Addr}{n:Nat}{cs:List Value}(h:w.cells? base a n=some cs):cs.length=n∧∀j,j<n→w.cell? (a.add j)=cs[j]?:=by
 unfold World.cells? at h
 split at h
 ·obtain⟨h1,h2⟩:=mapM_get h
  refine⟨by simpa using h1,fun j hj=> ?_⟩
  have hjl:j<cs.length:=by rw [h1];simpa using hj
  obtain⟨x,hx,hv⟩:=h2 j cs[j] (List.getElem?_eq_getElem hjl)
  simp [hj] at hx
  subst hx
  rw [hv,List.getElem?_eq_getElem hjl]
 ·cases h
theorem cell_old {a:Addr}{v:Value}(h:w.cell? a=some v):a.block<w.heap.size∧a.spot=none:=by
 unfold World.cell? at h
 split at h
 ·rename_i hb
  split at h
  ·cases h
  ·rename_i hs
   exact⟨(Array.getElem?_eq_some_iff.1 hb).1,by simpa using hs⟩
 ·cases h
theorem choose_list {α β:Type}{R:Nat→α→β→Prop}:∀(xs:List α),(∀(i:Nat) (x:α),xs[i]?=some x→∃y,R i x y)→∃ys:List β,ys.length=xs.length∧∀(i:Nat) (x:α) (y:β),xs[i]?=some x→ys[i]?=some y→R i x y:=by
 intro xs
 induction xs generalizing R with
 |nil=>intro _;exact⟨[],rfl,fun i x y h=>by simp at h⟩
 |cons x xs ih =>
  intro h
  obtain⟨y,hy⟩:=h 0 x rfl
  obtain⟨ys,h1,h2⟩:=ih (R:=fun i=>R (i+1)) fun i z hz=>h (i+1) z (by simpa using hz)
  refine⟨y::ys,by simp [h1],fun i a b ha hb=> ?_⟩
  cases i with
  |zero=>simp at ha hb;subst ha;subst hb;exact hy
  |succ i=>exact h2 i a b (by simpa using ha) (by simpa using hb)
theorem trod_fits {sp:Nat→Bool}{held:Bool}:∀(fuel n m:Nat) (t:TypeId) (cs:List Value) (x:DataW H×List MemPlace),plainT P n t=true→layOk P m t=true→DataW.trod enc P w 0 sp held fuel t cs=some x →
  ∃avs,Reps (Old w) w Mu.none avs cs∧Fits P t avs
 | 0,n,m,t,cs,x,hp,hl,h=>by cases h
 |fuel+1,0,m,t,cs,x,hp,hl,h=>by cases hp
 |fuel+1,n+1,0,t,cs,x,hp,hl,h=>by cases hl
 |fuel+1,n+1,m+1,t,cs,x,hp,hl,h=>by
  simp only [plainT] at hp
  simp only [layOk] at hl
  cases hu:P.underlying t with
  |none=>rw [hu] at hp;cases hp
  |some d =>
   rw [hu] at hp hl
   cases d<;>simp only at hp hl<;>try (cases hp;done)
   case bool =>
    obtain⟨b,rfl,_⟩:=DataW.trod_bool hu h
    exact⟨[.val (.bool b)],Reps.nil.cons (.val _),.bool hu _⟩
   case int k =>
    obtain⟨z,rfl,_,hw⟩:=DataW.trod_int hu h
    exact⟨[.val (.int k z)],Reps.nil.cons (.val _),.int hu _ hw⟩
   case string =>
    obtain⟨z,rfl,_,hw⟩:=DataW.trod_string hu h
    exact⟨[.val (.string z)],Reps.nil.cons (.val _),.string hu _ hw⟩
   case slice e =>
    simp only [Bool.and_eq_true] at hl
    have h1:1≤P.cellsOf e:=Nat.le_of_ble_eq_true hl.1
    rcases DataW.trod_slice hu h with⟨rfl,_⟩ |⟨a,len,cap,elems,rest,m',hf,rfl,_,_,hlc,hcm,hlen,hel,_,_⟩
    ·exact⟨[.list 0 (P.cellsOf e) []],Reps.nil.cons .nil,.slice hu [] (Nat.zero_le _) (fun x hx=>by cases hx) (fun x hx=>by cases hx)⟩
    ·cases hf
     have all:∀i,i<len→∃(cs:List Value) (avs:List AV),w.cells? 0 (a.add (i*P.cellsOf e)) (P.cellsOf e)=some cs∧Reps (Old w) w Mu.none avs cs∧Fits P e avs:=by
      intro i hi
      have:=hel i hi
      rw [List.getElem?_eq_getElem (by omega)] at this
      obtain⟨cs,hc,ht⟩:=bind_some_iff this
      obtain⟨avs,hr,hfit⟩:=trod_fits fuel n m e cs _ hp hl.2 ht
      exact⟨cs,avs,hc,hr,hfit⟩
     obtain⟨avss,hal,hav⟩:=choose_list (R:=fun i _ avs=>∃cs,w.cells? 0 (a.add (i*P.cellsOf e)) (P.cellsOf e)=some cs∧Reps (Old w) w Mu.none avs cs∧Fits P e avs) (List.range len) (by
      intro i x hx
      have hi:i<len:=by have:=(List.getElem?_eq_some_iff.1 hx).1;simpa using this
      obtain⟨cs,avs,h⟩:=all i hi
      exact⟨avs,cs,h⟩)
     simp only [List.length_range] at hal
     have hav':∀(i:Nat) (avs:List AV),avss[i]?=some avs→∃cs,w.cells? 0 (a.add (i*P.cellsOf e)) (P.cellsOf e)=some cs∧Reps (Old w) w Mu.none avs cs∧Fits P e avs:=by
      intro i avs hi
      have:i<len:=by rw [←hal];exact(List.getElem?_eq_some_iff.1 hi).1
      exact hav i i avs (by simp [this]) hi
     have hfits:Fits P t [.list 0 (P.cellsOf e) avss]:=by
      refine .slice hu avss (by omega) (fun x hx=> ?_) (fun x hx=> ?_)
      ·obtain⟨i,hi⟩:=List.getElem?_of_mem hx
       obtain⟨cs,_,_,h⟩:=hav' i x hi
       exact h
      ·obtain⟨i,hi⟩:=List.getElem?_of_mem hx
       obtain⟨cs,hc,hr,_⟩:=hav' i x hi
       rw [←hr.1,(cells_get hc).1]
     refine⟨[.list 0 (P.cellsOf e) avss],Reps.nil.cons ?_,hfits⟩
     by_cases h0:len=0
     ·have:avss=[]:=List.eq_nil_of_length_eq_zero (by omega)
      subst this
      subst h0
      exact .empty a cap (fun h=>by cases h)
     ·have hb:a.block<w.heap.size∧a.spot=none:=by
       obtain⟨cs,avs,hc,_,_⟩:=all 0 (by omega)
       obtain⟨h2,h3⟩:=cells_get hc
       have h3:=h3 0 (by omega)
       rw [List.getElem?_eq_getElem (by omega)] at h3
       simp only [Nat.zero_mul,Addr.add,if_true] at h3
       exact cell_old h3
      obtain⟨ab,ao,as⟩:=a
      obtain⟨hb,hs⟩:=hb
      simp only at hb hs
      subst hs
      rw [←hal]
      refine .list ab ao cap (fun i j=>(w.cell? ⟨ab,ao+i*P.cellsOf e+j,none⟩).getD .nilFunc) hb (fun x hx=> ?_) (fun i j hi hj=> ?_) (fun i j x v hx hv=> ?_) (by omega) (fun h=>by cases h)
      ·obtain⟨i,hi⟩:=List.getElem?_of_mem hx
       obtain⟨cs,hc,hr,_⟩:=hav' i x hi
       rw [←hr.1,(cells_get hc).1]
      ·obtain⟨cs,avs,hc,_,_⟩:=all i (by omega)
       obtain⟨h2,h3⟩:=cells_get hc
       have h3:=h3 j hj
       rw [List.getElem?_eq_getElem (by omega)] at h3
       rw [add_plain,add_plain] at h3
       rw [h3];rfl
      ·obtain⟨cs,hc,hr,_⟩:=hav' i x hx
       obtain⟨u,hu,hv2⟩:=hr.get hv
       obtain⟨h2,h3⟩:=cells_get hc
       have hj:j<P.cellsOf e:=by rw [←h2];exact(List.getElem?_eq_some_iff.1 hu).1
       have h3:=h3 j hj
       rw [hu,add_plain,add_plain] at h3
       rw [h3]
       exact hv2
   case array k e =>
    simp only [Bool.and_eq_true] at hl
    have h1:=Nat.eq_of_beq_eq_true hl.1
    obtain⟨xs,m',hf,_,hcl,hxl,hel⟩:=DataW.trod_array hu h
    cases hf
    obtain⟨avss,hal,hav⟩:=choose_list (R:=fun i _ avs=>Reps (Old w) w Mu.none avs ((cs.drop (i*P.cellsOf e)).take (P.cellsOf e))∧Fits P e avs) (List.range k) (by
     intro i x hx
     have hi:i<k:=by have:=(List.getElem?_eq_some_iff.1 hx).1;simpa using this
     have:=hel i hi
     rw [List.getElem?_eq_getElem (by omega)] at this
     exact trod_fits fuel n m e _ _ hp hl.2 this)
    simp only [List.length_range] at hal
    have hav':∀(i:Nat) (avs:List AV),avss[i]?=some avs→Reps (Old w) w Mu.none avs ((cs.drop (i*P.cellsOf e)).take (P.cellsOf e))∧Fits P e avs:=by
     intro i avs hi
     have:i<k:=by rw [←hal];exact(List.getElem?_eq_some_iff.1 hi).1
     exact hav i i avs (by simp [this]) hi
    refine⟨avss.flatten,?_,.array hu avss hal fun p hp=> ?_⟩
    ·have:=chop k (P.cellsOf e) cs (by rw [hcl,h1])
     rw [←this]
     refine reps_flatten (by simp [hal]) fun i p r hp hr=> ?_
     have hi:i<k:=by rw [←hal];exact(List.getElem?_eq_some_iff.1 hp).1
     simp [hi] at hr
     subst hr
     exact(hav' i p hp).1
    ·obtain⟨i,hi⟩:=List.getElem?_of_mem hp
     exact(hav' i p hi).2
   case struct fs =>
    simp only [Bool.and_eq_true] at hl
    obtain⟨xs,m',hf,_,hcl,hxl,hel⟩:=DataW.trod_struct hu h
    cases hf
    obtain⟨avss,hal,hav⟩:=choose_list (R:=fun i (f:Field) avs=>Reps (Old w) w Mu.none avs ((cs.drop f.offset).take (P.cellsOf f.type))∧Fits P f.type avs) fs.toList (by
     intro i f hx
     have hi:i<fs.size:=by have:=(List.getElem?_eq_some_iff.1 hx).1;simpa using this
     have:=hel i f (by simpa using hx)
     rw [List.getElem?_eq_getElem (by omega)] at this
     have hm:f∈fs.toList:=List.mem_of_getElem? hx
     exact trod_fits fuel n m f.type _ _ (List.all_eq_true.1 hp f hm) (List.all_eq_true.1 hl.2 f hm) this)
    simp only [Array.length_toList] at hal
    refine⟨avss.flatten,?_,.struct hu avss hal fun i f p hf hp=>(hav i f p (by simpa using hf) hp).2⟩
    have hc:contig P 0 fs.toList=some (P.cellsOf t):=by
     cases hc:contig P 0 fs.toList with
     |none=>rw [hc] at hl;cases hl.1
     |some o=>rw [hc] at hl;rw [Nat.eq_of_beq_eq_true hl.1]
    have:=chop_fields hc hcl
    rw [List.drop_zero] at this
    rw [←this]
    refine reps_flatten (by simp [hal]) fun i p r hp hr=> ?_
    simp only [List.getElem?_map,Option.map_eq_some_iff] at hr
    obtain⟨f,hf,rfl⟩:=hr
    exact(hav i f p hf hp).1
end
end Go.Proofs.Av
