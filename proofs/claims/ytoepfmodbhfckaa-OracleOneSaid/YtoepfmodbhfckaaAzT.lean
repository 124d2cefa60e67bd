/- What the tables laid by the program's text are, as abstract cells. -/
import Derived.Test.YtoepfmodbhfckaaAzS
import Derived.LaidMore
namespace Go.Proofs.Av
open Go
def datAV {H:Type}(P:Program):Nat→TypeId→DataW H→Option (List AV)
 | 0,_,_=>none
 |n+1,t,d=>match P.underlying t,d with
  |some .bool,.lit (.bool b)=>some [.val (.bool b)]
  |some (.int k),.lit (.int _ z)=>some [.val (.int k z)]
  |some .string,.lit (.string l)=>some [.val (.string ⟨l.toArray⟩)]
  |some (.slice e),.nil=>some [.list 0 (P.cellsOf e) []]
  |some (.slice e),.slice elems _=>match Nat.ble 1 (P.cellsOf e) with
   |true=>(elems.mapM (datAV P n e)).map fun es=>[.list 0 (P.cellsOf e) es]
   |false=>none
  |some (.array k e),.agg parts=>match Nat.beq (P.cellsOf t) (k*P.cellsOf e) with
   |true=>(parts.mapM (datAV P n e)).map List.flatten
   |false=>none
  |some (.struct fs),.agg parts=>match contig P 0 fs.toList with
   |some o=>match Nat.beq o (P.cellsOf t) with
    |true=>((fs.toList.zip parts).mapM fun x=>datAV P n x.1.type x.2).map List.flatten
    |false=>none
   |none=>none
  | _,_=>none
section
variable {H:Type}{enc:TypeId×Value→H}{P:Program}{w:World}{sp:Nat→Bool}{held:Bool}
theorem slice_rep {a:Addr}{len cap sz:Nat}{avss:List (List AV)}(h1:1≤sz) (hal:avss.length=len) (hlc:len≤cap) (hav:∀(i:Nat) (avs:List AV),avss[i]?=some avs→∃cs,w.cells? 0 (a.add (i*sz)) sz=some cs∧Reps (Old w) w Mu.none avs cs):Rep (Old w) w Mu.none (.list 0 sz avss) (.slice (some a) len cap):=by
 subst hal
 by_cases h0:avss.length=0
 ·have:avss=[]:=List.eq_nil_of_length_eq_zero h0
  subst this
  exact .empty a cap (fun h=>by cases h)
 ·have hb:a.block<w.heap.size∧a.spot=none:=by
   obtain⟨cs,hc,_⟩:=hav 0 _ (List.getElem?_eq_getElem (by omega))
   obtain⟨h2,h3⟩:=cells_get hc
   have h3:=h3 0 (by omega)
   rw [List.getElem?_eq_getElem (by omega)] at h3
   simp only [Nat.zero_mul,Addr.add,if_true] at h3
   exact cell_old h3
  obtain⟨ab,ao,as⟩:=a
  obtain⟨hb,hs⟩:=hb
  simp only at hb hs
  subst hs
  refine .list ab ao cap (fun i j=>(w.cell? ⟨ab,ao+i*sz+j,none⟩).getD .nilFunc) hb (fun x hx=> ?_) (fun i j hi hj=> ?_) (fun i j x v hx hv=> ?_) hlc (fun h=>by cases h)
  ·obtain⟨i,hi⟩:=List.getElem?_of_mem hx
   obtain⟨cs,hc,hr⟩:=hav i x hi
   rw [←hr.1,(cells_get hc).1]
  ·obtain⟨cs,hc,_⟩:=hav i _ (List.getElem?_eq_getElem hi)
   obtain⟨h2,h3⟩:=cells_get hc
   have h3:=h3 j hj
   rw [List.getElem?_eq_getElem (by omega),add_plain,add_plain] at h3
   rw [h3];rfl
  ·obtain⟨cs,hc,hr⟩:=hav i x hx
   obtain⟨u,hu,hv2⟩:=hr.get hv
   obtain⟨h2,h3⟩:=cells_get hc
   have hj:j<sz:=by rw [←h2];exact(List.getElem?_eq_some_iff.1 hu).1
   have h3:=h3 j hj
   rw [hu,add_plain,add_plain] at h3
   rw [h3]
   exact hv2
theorem trod_dat:∀(fuel n:Nat) (t:TypeId) (cs:List Value) (d:DataW H) (ps:List MemPlace) (avs:List AV),datAV P n t d=some avs→DataW.trod enc P w 0 sp held fuel t cs=some (d,ps)→Reps (Old w) w Mu.none avs cs
 | 0,n,t,cs,d,ps,avs,hd,h=>by cases h
 |fuel+1,0,t,cs,d,ps,avs,hd,h=>by cases hd
 |fuel+1,n+1,t,cs,d,ps,avs,hd,h=>by
  simp only [datAV] at hd
  split at hd
  ·rename_i hu
   cases hd
   obtain⟨b,rfl,hx⟩:=DataW.trod_bool hu h
   cases hx
   exact Reps.nil.cons (.val _)
  ·rename_i hu
   cases hd
   obtain⟨z,rfl,hx,hw⟩:=DataW.trod_int hu h
   cases hx
   exact Reps.nil.cons (.val _)
  ·rename_i hu
   cases hd
   obtain⟨z,rfl,hx,hw⟩:=DataW.trod_string hu h
   cases hx
   exact Reps.nil.cons (.val _)
  ·rename_i e hu
   cases hd
   rcases DataW.trod_slice hu h with⟨rfl,_⟩ |⟨a,len,cap,elems,rest,m',hf,rfl,hx,_⟩
   ·exact Reps.nil.cons .nil
   ·cases hx
  ·rename_i e elems0 sp0 hu
   split at hd
   ·rename_i h1
    have h1:=Nat.le_of_ble_eq_true h1
    obtain⟨es,hm,hd⟩:=Option.map_eq_some_iff.1 hd
    subst hd
    rcases DataW.trod_slice hu h with⟨rfl,hx⟩ |⟨a,len,cap,elems,rest,m',hf,rfl,hx,_,hlc,hcm,hlen,hel,_,_⟩
    ·cases hx
    ·cases hf
     cases hx
     have hml:=mapM_some_length hm
     simp only [List.length_map] at hml
     refine Reps.nil.cons (slice_rep h1 (by omega) hlc fun i avs hi=> ?_)
     have hil:i<elems.length:=by rw [←hml];exact(List.getElem?_eq_some_iff.1 hi).1
     have hb:=hel i (by omega)
     rw [List.getElem?_eq_getElem hil] at hb
     obtain⟨cs,hc,ht⟩:=bind_some_iff hb
     have:=mapM_some_get hm i (elems[i]).1 (by simp [hil])
     rw [hi] at this
     exact⟨cs,hc,trod_dat fuel n e cs _ _ avs this ht⟩
   ·cases hd
  ·rename_i k e parts hu
   split at hd
   ·rename_i h1
    have h1:=Nat.eq_of_beq_eq_true h1
    obtain⟨es,hm,hd⟩:=Option.map_eq_some_iff.1 hd
    subst hd
    obtain⟨xs,m',hf,hx,hcl,hxl,hel⟩:=DataW.trod_array hu h
    cases hf
    cases hx
    have hml:=mapM_some_length hm
    simp only [List.length_map] at hml
    have:=chop k (P.cellsOf e) cs (by rw [hcl,h1])
    rw [←this]
    refine reps_flatten (by simp;omega) fun i p r hp hr=> ?_
    have hi:i<k:=by rw [←hxl,←hml];exact(List.getElem?_eq_some_iff.1 hp).1
    simp [hi] at hr
    subst hr
    have hb:=hel i hi
    rw [List.getElem?_eq_getElem (by omega)] at hb
    have:=mapM_some_get hm i (xs[i]'(by omega)).1 (by simp [show i<xs.length by omega])
    rw [hp] at this
    exact trod_dat fuel n e _ _ _ p this hb
   ·cases hd
  ·rename_i fs parts hu
   split at hd
   ·rename_i o hc
    split at hd
    ·rename_i ho
     have ho:=Nat.eq_of_beq_eq_true ho
     subst ho
     obtain⟨es,hm,hd⟩:=Option.map_eq_some_iff.1 hd
     subst hd
     obtain⟨xs,m',hf,hx,hcl,hxl,hel⟩:=DataW.trod_struct hu h
     cases hf
     cases hx
     have hml:=mapM_some_length hm
     simp only [List.length_map,List.length_zip,Array.length_toList,hxl,Nat.min_self] at hml
     have:=chop_fields hc hcl
     rw [List.drop_zero] at this
     rw [←this]
     refine reps_flatten (by simp [hml]) fun i p r hp hr=> ?_
     have hi:i<fs.size:=by rw [←hml];exact(List.getElem?_eq_some_iff.1 hp).1
     simp only [List.getElem?_map,Option.map_eq_some_iff] at hr
     obtain⟨f,hf,rfl⟩:=hr
     have hb:=hel i f (by simpa using hf)
     have hix:i<xs.length:=by omega
     rw [List.getElem?_eq_getElem hix] at hb
     have:=mapM_some_get hm i (f,(xs[i]).1) (by
      rw [List.getElem?_zip_eq_some]
      exact⟨hf,by simp [hix]⟩)
     rw [hp] at this
     exact trod_dat fuel n f.type _ _ _ p this hb
    ·cases hd
   ·cases hd
  ·cases hd
theorem rop_of_var {n:String}{g:Nat}{vs:Array Value}{avs:List AV}(hg:P.globalNamed n=some g) (hv:w.var? P n=some vs) (hr:Reps (Old w) w Mu.none avs vs.toList):Rep (Old w) w Mu.none (.rop avs) (.pointer (some ⟨g,0,none⟩)):=by
 have hS:g<w.heap.size:=by
  simp only [World.var?,hg,Option.bind_some] at hv
  split at hv
  ·rename_i h;exact(Array.getElem?_eq_some_iff.1 h).1
  ·cases hv
 refine .rop g 0 (fun j=>(vs[j]?).getD .nilFunc) hS (fun j hj=> ?_) (fun j v hv2=> ?_)
 ·have:=World.var?_cell hg hv j
  rw [Nat.zero_add,this]
  have hjl:j<vs.size:=by have:=hr.1;simp at this;omega
  simp [hjl]
 ·obtain⟨u,hu,h2⟩:=hr.get hv2
  have:vs[j]?=some u:=by simpa using hu
  simp only [this,Option.getD_some]
  exact h2
theorem grel_laid {cx:Cx}(laid:List (String×DataW Unit)) (hf:∀x∈laid,x.2.handleName?.isNone=true) (h:laidMetH cx.P laid w) (hG:∀g cs,cx.G g=some cs→∃x∈laid,cx.P.globalNamed x.1=some g∧∃t,(cx.P.globals[g]?).map (·.type)=some t∧datAV cx.P 8 t x.2=some cs):GRel cx (Old w) w:=by
 have hfl:(laid.filter fun x=>x.2.handleName?.isSome)=[]:=by
  rw [List.filter_eq_nil_iff]
  intro x hx hs
  have:=hf x hx
  cases hh:x.2.handleName?<;>simp [hh] at this hs
 unfold laidMetH at h
 rw [hfl] at h
 obtain⟨ps,hl,_⟩:=h
 have all:∀(laid:List (String×DataW Unit)) (ps:List MemPlace),DataW.LaidVars cx.P w laid ps→∀x∈laid,∃g t cs fuel p sp held,cx.P.globalNamed x.1=some g∧(cx.P.globals[g]?).map (·.type)=some t∧w.var? cx.P x.1=some cs ∧
   DataW.trod (fun _=>()) cx.P w 0 sp held fuel t cs.toList=some (x.2,p):=by
  intro laid
  induction laid with
  |nil=>intro ps _ x hx;cases hx
  |cons y laid ih =>
   intro ps h x hx
   obtain⟨n,d⟩:=y
   obtain⟨g,t,cs,fuel,p,q,h1,h2,h3,h4,h5,_⟩:=h
   rcases List.mem_cons.1 hx with rfl |hx
   ·exact⟨g,t,cs,fuel,p,_,_,h1,h2,h3,h4⟩
   ·exact ih q h5 x hx
 intro g cs hg
 obtain⟨x,hx,h1,t,h2,h3⟩:=hG g cs hg
 obtain⟨g',t',vs,fuel,p,sp,held,k1,k2,k3,k4⟩:=all laid ps hl x hx
 rw [h1] at k1
 cases k1
 rw [h2] at k2
 cases k2
 exact rop_of_var h1 k3 (trod_dat fuel 8 t _ _ _ cs h3 k4)
end
end Go.Proofs.Av
