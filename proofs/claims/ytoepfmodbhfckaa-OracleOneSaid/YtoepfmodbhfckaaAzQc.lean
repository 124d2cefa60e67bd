/- Regions whose order is drawn: what is asked of them, so that each order comes to the same. -/
import Derived.StillTail
namespace Go.Proofs.Av
open Go
open Nat renaming eq_of_beq_eq_true→ε
structure QR where
 dst:Option Nat
 looks:List Nat
 deps:List Nat
 free:Bool
 eff:Bool
def freeOp (o:Oper):Bool:=match o.op with
 | .move _ | .assign _ | .pick .. | .binOp .. | .unOp .. | .makeInterface .. | .makeFunc .. | .build .. | .field .. | .index .. | .extract .. | .slice .. | .fieldAddr .. | .nilCheck .. =>true
 | .buildSlice _ n _=>Nat.blt 0 n
 | .call { callee := .builtin b,.. }=>match b with
  | .len | .max | .min=>true
  | _=>false
 | _=>false
def effOp (tf:FuncId→Bool) (o:Oper):Bool:=match o.op with
 | .alloc _ | .box .. | .store .. | .makeSlice .. =>true
 | .buildSlice _ n _=>Nat.beq n 0
 | .call { callee := .builtin b,.. }=>match b with
  | .append | .copy | .clear=>true
  | _=>false
 | .call { callee := .value (.func f),.. }=>tf f
 | .call { callee := .value (.tmp _),args,.. }=>args.isEmpty
 | _=>false
def addOp (af:FuncId→Bool) (o:Oper):Bool:=match o.op with
 | .alloc _ | .box .. | .makeSlice .. =>true
 | .call { callee := .value (.func f),.. }=>af f
 | _=>false
def loose (tf:FuncId→Bool) (md:Bool) (o:Oper):Bool:=cond md (!effOp tf o) (freeOp o)
def qr (tf:FuncId→Bool) (md:Bool) (ops:Array Oper) (o:Oper):QR:=⟨o.dst,o.looksAt ops,(o.after.toList.filter (Region.binds .any)).map (·.on),loose tf md o,effOp tf o⟩
def findE:List (Nat×Nat)→Nat→Option Nat
 | [],_=>none
 | (d,e)::r,s=>match Nat.beq d s with
  |true=>some e
  |false=>findE r s
def dIs (s:Nat):Option Nat→Bool
 |some d=>Nat.beq d s
 |none=>false
theorem dIs_eq {s:Nat}{d:Option Nat}(h:dIs s d=true):d=some s:=by
 cases d with
 |none=>cases h
 |some d=>rw [ε (show Nat.beq d s=true from h)]
def qlook (D:List Nat) (r:QR) (rs:List QR) (k:Nat) (ear:List (Nat×Nat)) (deps:List Nat) (s:Nat):Bool:=match findE ear s with
 |some e=>deps.any (Nat.beq e)
 |none=> !(D.any (Nat.beq s))||(dIs s r.dst||rs.any fun r'=>dIs s r'.dst&&r'.deps.any (Nat.beq k))
def qnew:Option Nat→Bool
 |none=>true
 |some _=>false
def qgo (D:List Nat):List QR→Nat→List (Nat×Nat)→Bool
 | [],_,_=>true
 |r::rs,k,ear=>r.deps.all (fun e=>Nat.blt e k)&&(r.looks.all (qlook D r rs k ear r.deps)&&match r.dst with
  |none=>qgo D rs (k+1) ear
  |some d=>qnew (findE ear d)&&qgo D rs (k+1) ((d,k)::ear))
def qdsts (L:List QR):List Nat:=L.filterMap (·.dst)
def isSel (o:Oper):Bool:=match o.op with | .select .. =>false | _=>true
def qall (ops:Array Oper) (L:List QR):Bool:=ops.toList.all isSel&&qgo (qdsts L) L 0 []
def ancOk:List QR→Nat→List Nat→Bool
 | [],_,_=>true
 | _::_,0,_=>false
 |r::rs,k+1,m=>cond (m.any (Nat.beq k)) (ancOk rs k (r.deps++m)) (r.free&&ancOk rs k m)
def descOk:List QR→Nat→List Nat→Bool
 | [],_,_=>true
 |r::rs,k,m=>cond (r.deps.any fun d=>m.any (Nat.beq d)) (descOk rs (k+1) (k::m)) (r.free&&descOk rs (k+1) m)
def ordGo:List QR→List QR→Nat→Bool
 | [],_,_=>true
 |r::rs,pre,k=>cond r.eff (!r.free&&(ancOk pre k r.deps&&descOk rs (k+1) [k])) true&&ordGo rs (r::pre) (k+1)
def anyOk (P:Program) (tf:FuncId→Bool) (md:Bool) (ops:Array Oper):Bool :=
 P.follows .mixedOrders&&(qall ops (ops.toList.map (qr tf md ops))&&ordGo (ops.toList.map (qr tf md ops)) [] 0)
def ancAll:List QR→Nat→List Nat→Bool
 | [],_,_=>true
 | _::_,0,_=>false
 |r::rs,k+1,m=>m.any (Nat.beq k)&&ancAll rs k (r.deps++m)
def isPanCall (pf:FuncId→Bool) (o:Oper):Bool:=match o.op with
 | .call { callee := .value (.func f),.. }=>pf f
 | _=>false
def noG (o:Oper):Bool:=match o.guard with
 |none=>true
 |some _=>false
structure QGood (L:List QR) (j:Nat) (r:QR):Prop where
 deps:∀e∈r.deps,e<j
 looks:∀s∈r.looks,(∀(i:Nat) (r':QR),L[i]?=some r'→r'.dst≠some s)∨(∃(e:Nat) (r':QR),L[e]?=some r'∧r'.dst=some s∧e∈r.deps)∨∃(e:Nat) (r':QR),L[e]?=some r'∧r'.dst=some s∧(j∈r'.deps∨e=j)
 up:∀d,r.dst=some d→∀(i:Nat) (r':QR),i<j→L[i]?=some r'→r'.dst≠some d
theorem findE_mem:∀(l:List (Nat×Nat)) (s e:Nat),findE l s=some e→(s,e)∈l
 | [],s,e,h=>by cases h
 | (d,e')::r,s,e,h=>by
  simp only [findE] at h
  split at h
  ·rename_i hb
   cases h
   rw [ε hb]
   exact List.mem_cons_self ..
  ·exact List.mem_cons_of_mem _ (findE_mem r s e h)
theorem findE_some:∀(l:List (Nat×Nat)) (s e:Nat),(s,e)∈l→findE l s≠none
 | [],s,e,h=>by cases h
 | (d,e')::r,s,e,h=>by
  simp only [findE]
  split
  ·simp
  ·rename_i hb
   rcases List.mem_cons.1 h with h |h
   ·cases h
    rw [Nat.beq_refl] at hb
    cases hb
   ·exact findE_some r s e h
theorem qgo_spec (L:List QR):∀(l:List QR) (k:Nat) (ear:List (Nat×Nat)),L.drop k=l →
  (∀d e,(d,e)∈ear→e<k∧∃r,L[e]?=some r∧r.dst=some d) →
  (∀(e:Nat) (r:QR) (d:Nat),e<k→L[e]?=some r→r.dst=some d→findE ear d≠none) →
  qgo (qdsts L) l k ear=true→∀(j:Nat) (r:QR),k≤j→L[j]?=some r→QGood L j r
 | [],k,ear,hl,h1,h2,hq,j,r,hj,hr=>by
  have:L[j]?=(L.drop k)[j-k]?:=by rw [List.getElem?_drop];congr 1;omega
  rw [this,hl] at hr
  cases hr
 |r0::rs,k,ear,hl,h1,h2,hq,j,r,hj,hr=>by
  have hk:L[k]?=some r0:=by
   have:L[k]?=(L.drop k)[0]?:=by rw [List.getElem?_drop];rfl
   rw [this,hl];rfl
  have hl':L.drop (k+1)=rs:=by
   rw [←List.drop_drop (i:=1) (j:=k),hl]<;>rfl
  simp only [qgo,Bool.and_eq_true,List.all_eq_true] at hq
  obtain⟨q1,q2,q3⟩:=hq
  have good:QGood L k r0:=by
   refine⟨fun e he=>by simpa [Nat.blt_eq] using q1 e he,fun s hs=> ?_,fun d hd i r' hi hr' hd'=> ?_⟩
   ·have:=q2 s hs
    unfold qlook at this
    split at this
    ·rename_i e he
     obtain⟨hek,r',hr',hd'⟩:=h1 _ _ (findE_mem _ _ _ he)
     obtain⟨x,hx,hxe⟩:=List.any_eq_true.1 this
     rw [←ε hxe] at hx
     exact .inr (.inl ⟨e,r',hr',hd',hx⟩)
    ·simp only [Bool.or_eq_true] at this
     rcases this with this |this |this
     ·refine .inl fun i r' hi hd=> ?_
      rw [Bool.not_eq_true',Bool.eq_false_iff] at this
      exact this (List.any_eq_true.2 ⟨s,List.mem_filterMap.2 ⟨r',List.mem_of_getElem? hi,hd⟩,Nat.beq_refl s⟩)
     ·exact .inr (.inr ⟨k,r0,hk,dIs_eq this,.inr rfl⟩)
     ·obtain⟨r',hm,hx⟩:=List.any_eq_true.1 this
      simp only [Bool.and_eq_true] at hx
      obtain⟨i,hi⟩:=List.mem_iff_getElem?.1 hm
      obtain⟨y,hy,hye⟩:=List.any_eq_true.1 hx.2
      rw [←ε hye] at hy
      rw [←hl',List.getElem?_drop] at hi
      exact .inr (.inr ⟨_,r',hi,dIs_eq hx.1,.inl hy⟩)
   ·rw [hd] at q3
    simp only [Bool.and_eq_true] at q3
    have:=h2 i r' d hi hr' hd'
    cases hx:findE ear d with
    |none=>exact this hx
    |some e=>rw [hx] at q3;cases q3.1
  rcases Nat.lt_or_ge k j with hkj |hkj
  ·cases hd:r0.dst with
   |none =>
    rw [hd] at q3
    refine qgo_spec L rs (k+1) ear hl' (fun d e he=> ?_) (fun e r d he hr hd'=> ?_) q3 j r hkj hr
    ·obtain⟨a,b⟩:=h1 d e he
     exact⟨by omega,b⟩
    ·by_cases hek:e=k
     ·subst hek
      rw [hk] at hr
      cases hr
      rw [hd] at hd'
      cases hd'
     ·exact h2 e r d (by omega) hr hd'
   |some d0 =>
    rw [hd] at q3
    simp only [Bool.and_eq_true] at q3
    refine qgo_spec L rs (k+1) ((d0,k)::ear) hl' (fun d e he=> ?_) (fun e r d he hr hd'=> ?_) q3.2 j r hkj hr
    ·rcases List.mem_cons.1 he with h |h
     ·cases h
      exact⟨by omega,r0,hk,hd⟩
     ·obtain⟨a,b⟩:=h1 d e h
      exact⟨by omega,b⟩
    ·by_cases hek:e=k
     ·subst hek
      rw [hk] at hr
      cases hr
      rw [hd] at hd'
      cases hd'
      exact findE_some _ _ e (List.mem_cons_self ..)
     ·simp only [findE]
      split
      ·simp
      ·exact h2 e r d (by omega) hr hd'
  ·have:j=k:=by omega
   subst this
   rw [hk] at hr
   cases hr
   exact good
section
variable {tf:FuncId→Bool}{md:Bool}{ops:Array Oper}
theorem recs_get (j:Nat):(ops.toList.map (qr tf md ops))[j]?=(ops[j]?).map (qr tf md ops):=by simp
theorem deps_mem {o:Oper}{e:Nat}:e∈(qr tf md ops o).deps↔∃x∈o.after,Region.binds .any x=true∧x.on=e:=by
 simp only [qr,List.mem_map,List.mem_filter,Array.mem_toList_iff]
 constructor
 ·rintro⟨x,⟨h1,h2⟩,h3⟩;exact⟨x,h1,h2,h3⟩
 ·rintro⟨x,h1,h2,h3⟩;exact⟨x,⟨h1,h2⟩,h3⟩
def QOk (tf:FuncId→Bool) (md:Bool) (ops:Array Oper):Prop:=∀(j:Nat) (o:Oper),ops[j]?=some o→QGood (ops.toList.map (qr tf md ops)) j (qr tf md ops o)
theorem qall_ok (h:qall ops (ops.toList.map (qr tf md ops))=true):Region.noSelect ops=true∧QOk tf md ops:=by
 simp only [qall,Bool.and_eq_true] at h
 refine⟨?_,fun j o ho=>qgo_spec _ _ 0 [] rfl (fun d e he=>by cases he) (fun e r d he=>by omega) h.2 j _ (Nat.zero_le _) (by rw [recs_get,ho];rfl)⟩
 rw [Region.noSelect,←Array.all_toList]
 exact h.1
theorem QOk.dep (h:QOk tf md ops) {j:Nat}{oj:Oper}(hj:ops[j]?=some oj) (e:Edge) (he:e∈oj.after) (hb:Region.binds .any e=true):e.on<j:=by
 exact(h j oj hj).deps e.on (deps_mem.2 ⟨e,he,hb,rfl⟩)
def Waits (ops:Array Oper) (i j:Nat):Prop:=∃o,ops[j]?=some o∧∃e∈o.after,Region.binds .any e=true∧e.on=i
inductive Path (ops:Array Oper):Nat→Nat→Prop
 |one {i j:Nat}(h:Waits ops i j):Path ops i j
 |more {i k j:Nat}(h:Path ops i k) (g:Waits ops k j):Path ops i j
theorem Path.trans {i j k:Nat}(h:Path ops i j) (g:Path ops j k):Path ops i k:=by
 induction g with
 |one g=>exact .more h g
 |more _ g ih=>exact .more ih g
def Closed (ops:Array Oper) (listed:Array Bool):Prop:=∀i j,Waits ops i j→listed.getD j false=true→listed.getD i false=true
theorem Closed.path {listed:Array Bool}(h:Closed ops listed) {i j:Nat}(p:Path ops i j):listed.getD j false=true→listed.getD i false=true:=by
 induction p with
 |one g=>exact h _ _ g
 |more _ g ih=>exact fun hj=>ih (h _ _ g hj)
theorem Closed.ready {listed:Array Bool}(h:Closed ops listed) {i j:Nat}(p:Path ops i j) (hr:j∈Region.ready .any ops listed):listed.getD i false=true:=by
 obtain⟨_,o,ho,hall⟩:=mem_ready.1 hr
 cases p with
 |one g =>
  obtain⟨o',ho',e,he,hb,rfl⟩:=g
  rw [ho] at ho'
  cases ho'
  exact hall e he hb
 |more q g =>
  obtain⟨o',ho',e,he,hb,rfl⟩:=g
  rw [ho] at ho'
  cases ho'
  exact h.path q (hall e he hb)
theorem waits_of {j i:Nat}{r:QR}(hj:(ops.toList.map (qr tf md ops))[j]?=some r) (h:i∈r.deps):Waits ops i j:=by
 rw [recs_get] at hj
 cases ho:ops[j]? with
 |none=>rw [ho] at hj;cases hj
 |some o =>
  rw [ho] at hj
  cases hj
  obtain⟨x,hx,hb,hon⟩:=deps_mem.1 h
  exact⟨o,ho,x,hx,hb,hon⟩
theorem ancOk_spec {e:Nat}:∀(pre:List QR) (k:Nat) (m:List Nat),(∀i,i<k→(ops.toList.map (qr tf md ops))[i]?=pre[k-1-i]?)→pre.length=k→(∀x∈m,Path ops x e)→ancOk pre k m=true →
  ∀i r,i<k→(ops.toList.map (qr tf md ops))[i]?=some r→r.free=false→Path ops i e
 | [],k,m,hp,hl,hm,h,i,r,hi,hr,hf=>by simp at hl;omega
 |r0::rs,0,m,hp,hl,hm,h,i,r,hi,hr,hf=>by omega
 |r0::rs,k+1,m,hp,hl,hm,h,i,r,hi,hr,hf=>by
  have h0:(ops.toList.map (qr tf md ops))[k]?=some r0:=by rw [hp k (by omega),show k+1-1-k=0 by omega];rfl
  have hp':∀i,i<k→(ops.toList.map (qr tf md ops))[i]?=rs[k-1-i]?:=fun i hi=>by
   rw [hp i (by omega),show k+1-1-i=(k-1-i)+1 by omega];rfl
  have hl':rs.length=k:=by simpa using hl
  simp only [ancOk] at h
  cases hk:m.any (Nat.beq k) with
  |true =>
   rw [hk] at h
   simp only [cond_true] at h
   obtain⟨x,hx,hxe⟩:=List.any_eq_true.1 hk
   rw [←ε hxe] at hx
   by_cases hik:i=k
   ·subst hik;exact hm i hx
   ·refine ancOk_spec rs k _ hp' hl' (fun y hy=> ?_) h i r (by omega) hr hf
    rcases List.mem_append.1 hy with hy |hy
    ·exact(Path.one (waits_of h0 hy)).trans (hm k hx)
    ·exact hm y hy
  |false =>
   rw [hk] at h
   simp only [cond_false,Bool.and_eq_true] at h
   by_cases hik:i=k
   ·subst hik
    rw [h0] at hr
    cases hr
    rw [hf] at h
    cases h.1
   ·exact ancOk_spec rs k _ hp' hl' hm h.2 i r (by omega) hr hf
theorem ancAll_spec {e:Nat}:∀(pre:List QR) (k:Nat) (m:List Nat),(∀i,i<k→(ops.toList.map (qr tf md ops))[i]?=pre[k-1-i]?)→pre.length=k→(∀x∈m,Path ops x e)→ancAll pre k m=true →
  ∀i,i<k→Path ops i e
 | [],k,m,hp,hl,hm,h,i,hi=>by simp at hl;omega
 |r0::rs,0,m,hp,hl,hm,h,i,hi=>by omega
 |r0::rs,k+1,m,hp,hl,hm,h,i,hi=>by
  have h0:(ops.toList.map (qr tf md ops))[k]?=some r0:=by rw [hp k (by omega),show k+1-1-k=0 by omega];rfl
  have hp':∀i,i<k→(ops.toList.map (qr tf md ops))[i]?=rs[k-1-i]?:=fun i hi=>by
   rw [hp i (by omega),show k+1-1-i=(k-1-i)+1 by omega];rfl
  have hl':rs.length=k:=by simpa using hl
  simp only [ancAll,Bool.and_eq_true] at h
  obtain⟨x,hx,hxe⟩:=List.any_eq_true.1 h.1
  rw [←ε hxe] at hx
  by_cases hik:i=k
  ·subst hik;exact hm i hx
  ·refine ancAll_spec rs k _ hp' hl' (fun y hy=> ?_) h.2 i (by omega)
   rcases List.mem_append.1 hy with hy |hy
   ·exact(Path.one (waits_of h0 hy)).trans (hm k hx)
   ·exact hm y hy
theorem descOk_spec {e:Nat}:∀(rs:List QR) (k:Nat) (m:List Nat),(ops.toList.map (qr tf md ops)).drop k=rs→(∀x∈m,x=e∨Path ops e x)→descOk rs k m=true →
  ∀i r,k≤i→(ops.toList.map (qr tf md ops))[i]?=some r→r.free=false→Path ops e i
 | [],k,m,hp,hm,h,i,r,hi,hr,hf=>by
  have:(ops.toList.map (qr tf md ops))[i]?=((ops.toList.map (qr tf md ops)).drop k)[i-k]?:=by rw [List.getElem?_drop];congr 1;omega
  rw [this,hp] at hr
  cases hr
 |r0::rs,k,m,hp,hm,h,i,r,hi,hr,hf=>by
  have h0:(ops.toList.map (qr tf md ops))[k]?=some r0:=by
   have:(ops.toList.map (qr tf md ops))[k]?=((ops.toList.map (qr tf md ops)).drop k)[0]?:=by rw [List.getElem?_drop];rfl
   rw [this,hp];rfl
  have hp':(ops.toList.map (qr tf md ops)).drop (k+1)=rs:=by
   rw [←List.drop_drop (i:=1) (j:=k),hp]<;>rfl
  simp only [descOk] at h
  cases hk:r0.deps.any (fun d=>m.any (Nat.beq d)) with
  |true =>
   rw [hk] at h
   simp only [cond_true] at h
   obtain⟨d,hd,hdm⟩:=List.any_eq_true.1 hk
   obtain⟨x,hx,hxe⟩:=List.any_eq_true.1 hdm
   rw [←ε hxe] at hx
   have hp0:Path ops e k:=by
    rcases hm d hx with rfl |hq
    ·exact .one (waits_of h0 hd)
    ·exact .more hq (waits_of h0 hd)
   by_cases hik:i=k
   ·subst hik;exact hp0
   ·refine descOk_spec rs (k+1) _ hp' (fun y hy=> ?_) h i r (by omega) hr hf
    rcases List.mem_cons.1 hy with rfl |hy
    ·exact .inr hp0
    ·exact hm y hy
  |false =>
   rw [hk] at h
   simp only [cond_false,Bool.and_eq_true] at h
   by_cases hik:i=k
   ·subst hik
    rw [h0] at hr
    cases hr
    rw [hf] at h
    cases h.1
   ·exact descOk_spec rs (k+1) _ hp' hm h.2 i r (by omega) hr hf
def OrdOk (tf:FuncId→Bool) (md:Bool) (ops:Array Oper):Prop:=∀e o,ops[e]?=some o→effOp tf o=true→loose tf md o=false∧(∀i oi,i<e→ops[i]?=some oi→loose tf md oi=false→Path ops i e) ∧
 ∀i oi,e<i→ops[i]?=some oi→loose tf md oi=false→Path ops e i
theorem ordGo_spec:∀(rs pre:List QR) (k:Nat),(ops.toList.map (qr tf md ops)).drop k=rs→(∀i,i<k→(ops.toList.map (qr tf md ops))[i]?=pre[k-1-i]?)→pre.length=k→ordGo rs pre k=true →
  ∀e r,k≤e→(ops.toList.map (qr tf md ops))[e]?=some r→r.eff=true→r.free=false∧(∀i ri,i<e→(ops.toList.map (qr tf md ops))[i]?=some ri→ri.free=false→Path ops i e) ∧
   ∀i ri,e<i→(ops.toList.map (qr tf md ops))[i]?=some ri→ri.free=false→Path ops e i
 | [],pre,k,hd,hp,hl,h,e,r,he,hr,hf=>by
  have:(ops.toList.map (qr tf md ops))[e]?=((ops.toList.map (qr tf md ops)).drop k)[e-k]?:=by rw [List.getElem?_drop];congr 1;omega
  rw [this,hd] at hr
  cases hr
 |r0::rs,pre,k,hd,hp,hl,h,e,r,he,hr,hf=>by
  have h0:(ops.toList.map (qr tf md ops))[k]?=some r0:=by
   have:(ops.toList.map (qr tf md ops))[k]?=((ops.toList.map (qr tf md ops)).drop k)[0]?:=by rw [List.getElem?_drop];rfl
   rw [this,hd];rfl
  have hd':(ops.toList.map (qr tf md ops)).drop (k+1)=rs:=by
   rw [←List.drop_drop (i:=1) (j:=k),hd]<;>rfl
  simp only [ordGo,Bool.and_eq_true] at h
  by_cases hek:e=k
  ·subst hek
   rw [h0] at hr
   cases hr
   have h1:=h.1
   rw [hf] at h1
   simp only [cond_true,Bool.and_eq_true,Bool.not_eq_true'] at h1
   refine⟨h1.1,ancOk_spec pre e _ hp hl (fun x hx => .one (waits_of h0 hx)) h1.2.1,fun i ri hi=>descOk_spec rs (e+1) _ hd' (fun x hx => .inl (by simpa using hx)) h1.2.2 i ri hi⟩
  ·refine ordGo_spec rs (r0::pre) (k+1) hd' (fun i hi=> ?_) (by simp [hl]) h.2 e r (by omega) hr hf
   by_cases hik:i=k
   ·subst hik
    rw [h0,show i+1-1-i=0 by omega];rfl
   ·rw [hp i (by omega),show k+1-1-i=(k-1-i)+1 by omega];rfl
theorem anyOk_spec {P:Program}(h:anyOk P tf md ops=true):P.follows .mixedOrders=true∧Region.noSelect ops=true∧QOk tf md ops∧OrdOk tf md ops:=by
 simp only [anyOk,Bool.and_eq_true] at h
 obtain⟨h1,h2,h3⟩:=h
 refine⟨h1,(qall_ok h2).1,(qall_ok h2).2,fun e o ho hf=> ?_⟩
 have key:=ordGo_spec _ [] 0 rfl (fun i hi=>by omega) rfl h3 e (qr tf md ops o) (Nat.zero_le _) (by rw [recs_get,ho];rfl) hf
 exact⟨key.1,fun i oi hi hoi hfi=>key.2.1 i (qr tf md ops oi) hi (by rw [recs_get,hoi];rfl) hfi,fun i oi hi hoi hfi=>key.2.2 i (qr tf md ops oi) hi (by rw [recs_get,hoi];rfl) hfi⟩
end
def tailR:List QR→List Oper→Nat→Nat
 |r::pre,o::os,n=>cond (noG o&&ancAll pre pre.length r.deps) (tailR pre os (n+1)) n
 | _,_,n=>n
def tailAt (tf:FuncId→Bool) (ops:Array Oper):Nat:=ops.size-tailR (ops.toList.map (qr tf true ops)).reverse ops.toList.reverse 0
theorem tailR_spec {tf:FuncId→Bool}{ops:Array Oper}:∀(pre:List QR) (os:List Oper) (n:Nat),(ops.toList.map (qr tf true ops)).reverse.drop n=pre→ops.toList.reverse.drop n=os →
  ∀j,ops.size-tailR pre os n≤j→j<ops.size-n→∃o,ops[j]?=some o∧o.guard=none∧∀i,i<j→Path ops i j
 |r::pre,o::os,n,hp,ho,j,h1,h2=>by
  have hlen:(r::pre).length=ops.size-n:=by rw [←hp];simp
  have hr:(ops.toList.map (qr tf true ops))[ops.size-n-1]?=some r:=by
   have:=congrArg (fun l=>l[0]?) hp
   simp only [List.getElem?_drop,List.getElem?_cons_zero,Nat.add_zero] at this
   rw [List.getElem?_reverse (by simp;simp at hlen;omega)] at this
   rw [←this]
   congr 1
   simp
   omega
  have hoo:ops[ops.size-n-1]?=some o:=by
   have:=congrArg (fun l=>l[0]?) ho
   simp only [List.getElem?_drop,List.getElem?_cons_zero,Nat.add_zero] at this
   rw [List.getElem?_reverse (by simp;simp at hlen;omega)] at this
   rw [←this]
   simp
   congr 1
   omega
  have hp':(ops.toList.map (qr tf true ops)).reverse.drop (n+1)=pre:=by
   rw [←List.drop_drop,hp];rfl
  have ho':ops.toList.reverse.drop (n+1)=os:=by
   rw [←List.drop_drop,ho];rfl
  have hpl:pre.length=ops.size-n-1:=by simp at hlen;omega
  unfold tailR at h1
  cases hc:(noG o&&ancAll pre pre.length r.deps) with
  |false=>rw [hc] at h1;simp only [cond_false] at h1;omega
  |true =>
   rw [hc] at h1
   simp only [cond_true] at h1
   by_cases hj:j<ops.size-(n+1)
   ·exact tailR_spec pre os (n+1) hp' ho' j h1 hj
   ·have hje:j=ops.size-n-1:=by omega
    subst hje
    simp only [Bool.and_eq_true] at hc
    refine⟨o,hoo,?_,?_⟩
    ·have:=hc.1
     unfold noG at this
     split at this
     ·assumption
     ·cases this
    ·have h4:=hc.2
     rw [hpl] at h4
     refine ancAll_spec (tf:=tf) (md:=true) pre (ops.size-n-1) r.deps (fun i hi=> ?_) hpl (fun x hx => .one (waits_of hr hx)) h4
     have:=congrArg (fun l=>l[ops.size-n-1-1-i]?) hp'
     simp only [List.getElem?_drop] at this
     rw [List.getElem?_reverse (by simp;omega)] at this
     rw [←this]
     congr 1
     simp
     omega
 | [],os,n,hp,ho,j,h1,h2=>by
  have:=congrArg List.length hp
  simp at this
  omega
 |r::pre,[],n,hp,ho,j,h1,h2=>by
  have:=congrArg List.length ho
  simp at this
  omega
theorem tailAt_spec {tf:FuncId→Bool}{ops:Array Oper}{j:Nat}(h1:tailAt tf ops≤j) (h2:j<ops.size):∃o,ops[j]?=some o∧o.guard=none∧∀i,i<j→Path ops i j :=
 tailR_spec _ _ 0 rfl rfl j h1 (by simpa using h2)
def isFloat (o:Oper):Bool:=match o.op,o.dst,o.guard with
 | .alloc _,some _,none=>(o.after.toList.filter (Region.binds .any)).isEmpty
 | _,_,_=>false
def floatIn:List Oper→Nat→Option Nat
 | [],_=>none
 |o::r,z=>cond (isFloat o) (some z) (floatIn r (z+1))
def anchors (tf:FuncId→Bool):List Oper→Nat→Nat→List Nat
 | _,_,0=>[]
 | [],_,_=>[]
 |o::r,k,n+1=>cond (loose tf false o) (anchors tf r (k+1) n) (k::anchors tf r (k+1) n)
def anchorOp (A:List Nat) (o:Oper):Oper:= { o with after:=(o.after.toList++A.map fun i=>(⟨i,.data⟩:Edge)).toArray }
def anchor (tf:FuncId→Bool) (ops:Array Oper) (z:Nat):Array Oper:=(ops.toList.modify z (anchorOp (anchors tf ops.toList 0 z))).toArray
def behind (A:List Nat) (z:Nat) (r:QR):Bool:=r.deps.any (Nat.blt z)||(r.deps.any (Nat.beq z)&&A.all fun i=>r.deps.any (Nat.beq i))
def floatOk (P:Program) (tf:FuncId→Bool) (ops:Array Oper) (z:Nat):Bool :=
 anyOk P tf false (anchor tf ops z)&&(qall ops (ops.toList.map (qr tf false ops))&&((ops.toList.map (qr tf false ops)).drop (z+1)).all (behind (anchors tf ops.toList 0 z) z))
theorem anchors_spec {tf:FuncId→Bool}:∀ {l:List Oper}{k n i:Nat},i∈anchors tf l k n↔k≤i∧i<k+n∧∃o,l[i-k]?=some o∧loose tf false o=false
 |l,k,0,i=>by
  have:anchors tf l k 0=[]:=by cases l<;>rfl
  rw [this]
  constructor
  ·intro h;cases h
  ·rintro⟨h1,h2,_⟩;omega
 | [],k,n+1,i=>by
  constructor
  ·intro h;cases h
  ·rintro⟨_,_,o,h,_⟩;simp at h
 |o::r,k,n+1,i=>by
  have ih:=anchors_spec (tf:=tf) (l:=r) (k:=k+1) (n:=n) (i:=i)
  have back:∀ {P:Oper→Prop},(k+1≤i∧i<k+1+n∧∃o',r[i-(k+1)]?=some o'∧P o')→(k≤i∧i<k+(n+1)∧∃o',(o::r)[i-k]?=some o'∧P o'):=by
   rintro P ⟨h1,h2,o',h3,h4⟩
   refine⟨by omega,by omega,o',?_,h4⟩
   rw [show i-k=(i-(k+1))+1 by omega]
   simpa using h3
  have forth:∀ {P:Oper→Prop},i≠k→(k≤i∧i<k+(n+1)∧∃o',(o::r)[i-k]?=some o'∧P o')→(k+1≤i∧i<k+1+n∧∃o',r[i-(k+1)]?=some o'∧P o'):=by
   rintro P hne ⟨h1,h2,o',h3,h4⟩
   refine⟨by omega,by omega,o',?_,h4⟩
   rw [show i-k=(i-(k+1))+1 by omega] at h3
   simpa using h3
  simp only [anchors]
  cases hl:loose tf false o with
  |true =>
   simp only [cond_true]
   constructor
   ·intro h;exact back (ih.1 h)
   ·intro h
    by_cases hik:i=k
    ·subst hik
     obtain⟨_,_,o',h3,h4⟩:=h
     simp at h3
     subst h3
     rw [hl] at h4
     cases h4
    ·exact ih.2 (forth hik h)
  |false =>
   simp only [cond_false,List.mem_cons]
   constructor
   ·rintro(rfl |h)
    ·exact⟨Nat.le_refl _,by omega,o,by simp,hl⟩
    ·exact back (ih.1 h)
   ·intro h
    by_cases hik:i=k
    ·exact .inl hik
    ·exact .inr (ih.2 (forth hik h))
theorem anchor_size (tf:FuncId→Bool) (ops:Array Oper) (z:Nat):(anchor tf ops z).size=ops.size:=by simp [anchor]
theorem anchor_ne {tf:FuncId→Bool}{ops:Array Oper}{z j:Nat}(h:j≠z):(anchor tf ops z)[j]?=ops[j]?:=by
 unfold anchor
 rw [List.getElem?_toArray,List.getElem?_modify,Array.getElem?_toList]
 have hz:¬z=j:=fun e=>h e.symm
 cases ops[j]? with
 |none=>rfl
 |some o=>simp [hz]
theorem anchor_self {tf:FuncId→Bool}{ops:Array Oper}{z:Nat}{o:Oper}(h:ops[z]?=some o):(anchor tf ops z)[z]?=some (anchorOp (anchors tf ops.toList 0 z) o):=by
 unfold anchor
 rw [List.getElem?_toArray,List.getElem?_modify,Array.getElem?_toList,h]
 simp
theorem anchor_dst {tf:FuncId→Bool}{ops:Array Oper}{z j:Nat}:((anchor tf ops z)[j]?).bind (·.dst)=(ops[j]?).bind (·.dst):=by
 by_cases h:j=z
 ·subst h
  cases ho:ops[j]? with
  |none =>
   have:ops.size≤j:=Array.getElem?_eq_none_iff.1 ho
   rw [Array.getElem?_eq_none (by rw [anchor_size];exact this)]
  |some o=>rw [anchor_self ho];rfl
 ·rw [anchor_ne h]
theorem isFloat_spec {o:Oper}(h:isFloat o=true):(∃t,o.op = .alloc t)∧(∃d,o.dst=some d)∧o.guard=none∧∀x∈o.after,¬Region.binds .any x=true:=by
 unfold isFloat at h
 split at h
 ·rename_i t d h1 h2 h3
  refine⟨⟨t,h1⟩,⟨d,h2⟩,h3,fun x hx hb=> ?_⟩
  have:x∈o.after.toList.filter (Region.binds .any):=List.mem_filter.2 ⟨by simpa using hx,hb⟩
  rw [List.isEmpty_iff.1 h] at this
  cases this
 ·cases h
theorem floatIn_spec:∀ {l:List Oper}{k z:Nat},floatIn l k=some z→k≤z∧∃o,l[z-k]?=some o∧isFloat o=true
 | [],k,z,h=>by cases h
 |o::r,k,z,h=>by
  unfold floatIn at h
  cases hf:isFloat o with
  |true =>
   rw [hf] at h
   cases h
   exact⟨Nat.le_refl _,o,by simp,hf⟩
  |false =>
   rw [hf] at h
   obtain⟨h1,o',h2,h3⟩:=floatIn_spec h
   refine⟨by omega,o',?_,h3⟩
   rw [show z-k=(z-(k+1))+1 by omega]
   simpa using h2
structure FloatOk (P:Program) (tf:FuncId→Bool) (ops:Array Oper) (z:Nat):Prop where
 follows:P.follows .mixedOrders=true
 qa:QOk tf false (anchor tf ops z)
 od:OrdOk tf false (anchor tf ops z)
 q:QOk tf false ops
 back:∀ {listed:Array Bool},Closed ops listed→∀(k:Nat) (o:Oper),z<k→ops[k]?=some o→(∀e∈o.after,Region.binds .any e=true→listed.getD e.on false=true) →
  listed.getD z false=true∧∀i∈anchors tf ops.toList 0 z,listed.getD i false=true
theorem floatOk_spec {P:Program}{tf:FuncId→Bool}{ops:Array Oper}{z:Nat}(h:floatOk P tf ops z=true):FloatOk P tf ops z:=by
 simp only [floatOk,Bool.and_eq_true] at h
 obtain⟨h1,h2,h3⟩:=h
 obtain⟨a1,_,a2,a3⟩:=anyOk_spec h1
 have q:=(qall_ok h2).2
 refine⟨a1,a2,a3,q,fun {listed} hcl k=> ?_⟩
 induction k using Nat.strongRecOn with
 | _ k ih =>
  intro o hk ho hall
  have hb:=List.all_eq_true.1 h3 (qr tf false ops o) (by
   refine List.mem_iff_getElem?.2 ⟨k-(z+1),?_⟩
   rw [List.getElem?_drop,show z+1+(k-(z+1))=k by omega,recs_get,ho]
   rfl)
  have dep:∀x,x∈(qr tf false ops o).deps→listed.getD x false=true∧x<k:=fun x hx=>by
   obtain⟨e,he,hbe,rfl⟩:=deps_mem.1 hx
   exact⟨hall e he hbe,q.dep ho e he hbe⟩
  unfold behind at hb
  rw [Bool.or_eq_true,Bool.and_eq_true] at hb
  rcases hb with hb |⟨hb1,hb2⟩
  ·obtain⟨x,hx,hzx⟩:=List.any_eq_true.1 hb
   obtain⟨d1,d2⟩:=dep x hx
   have hzx:z<x:=by
    have:Nat.ble (z+1) x=true:=hzx
    exact Nat.le_of_ble_eq_true this
   have hks:=(Array.getElem?_eq_some_iff.1 ho).1
   have hox:ops[x]?=some ops[x]:=Array.getElem?_eq_getElem (by omega)
   exact ih x d2 _ hzx hox fun e he hbe=>hcl e.on x ⟨_,hox,e,he,hbe,rfl⟩ d1
  ·refine⟨?_,fun i hi=> ?_⟩
   ·obtain⟨x,hx,hzx⟩:=List.any_eq_true.1 hb1
    have:z=x:=ε hzx
    rw [this]
    exact(dep x hx).1
   ·obtain⟨x,hx,hix⟩:=List.any_eq_true.1 (List.all_eq_true.1 hb2 i hi)
    have:i=x:=ε hix
    rw [this]
    exact(dep x hx).1
end Go.Proofs.Av
