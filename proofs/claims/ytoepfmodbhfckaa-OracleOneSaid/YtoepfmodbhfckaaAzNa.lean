/- One operation, seen as a value and what objects it leaves; it may be given more to see. -/
import Derived.Test.YtoepfmodbhfckaaAzM
namespace Go.Proofs.Av
open Go
open Option renaming bind_some→χ
variable {ρ:Type}
theorem Pk.nat {α:Type}{X:(ρ:Type)→(α→Option ρ)→Option ρ}(h:Pk X) (c:α→Option ρ):X ρ c=(X α Option.some).bind c:=by
 cases hx:X α Option.some with
 |none =>
  cases hy:X ρ c with
  |none=>rfl
  |some r =>
   obtain⟨a,_,h2⟩:=h ρ c r hy
   rw [h2 α Option.some] at hx
   cases hx
 |some a =>
  obtain⟨a',h1,h2⟩:=h α Option.some a hx
  cases h1
  exact h2 ρ c
theorem obind_assoc {α β:Type}(x:Option α) (f:α→Option β) (g:β→Option ρ):(x.bind f).bind g=x.bind fun a=>(f a).bind g:=by cases x<;>rfl
theorem Pk.nat2 {X:(ρ:Type)→(AV→Heap→Option ρ)→Option ρ}(h:Pk (fun ρ (c:AV×Heap→Option ρ)=>X ρ fun v h=>c (v,h))) (c:AV→Heap→Option ρ):X ρ c=(X (AV×Heap) fun v h=>Option.some (v,h)).bind fun p=>c p.1 p.2 :=
 Pk.nat h fun p=>c p.1 p.2
theorem ask_pk (F:EF) (key:Key) (args:List AV) (h:Heap):Pk (fun _ρ c=>(F key args h).bind c):=Pk.optbind _
theorem callV_pk (cx:Cx) (F:EF) (q:Bool) (t:TypeId) (fv:AV) (args:List AV) (h:Heap):Pk (fun ρ c=>callV (ρ:=ρ) cx F q t fv args h c):=fun ρ c r hr =>
 let ⟨a,h1,h2,_⟩:=callV_pkl (F:=F) (G:=fun _=>F) (fun _ _ _ _r hr=>⟨0,fun _ _=>hr⟩) cx q t fv args h ρ c r hr
 ⟨a,h1,h2⟩
theorem callX_pk (cx:Cx) (F:EF) (q q2:Bool) (t:TypeId) (fv:AV) (args:List AV) (h:Heap):Pk (fun ρ (c:JX×AV×Heap→Option ρ)=>callX (ρ:=ρ) cx F q q2 t fv args h fun e v h=>c (e,v,h)):=fun ρ c r hr =>
 let ⟨a,h1,h2,_⟩:=callX_pkl (F:=F) (G:=fun _=>F) (fun _ _ _ _r hr=>⟨0,fun _ _=>hr⟩) cx q q2 t fv args h ρ c r hr
 ⟨a,h1,h2⟩
theorem callX_true {cx:Cx}{F:EF}{q:Bool}{t:TypeId}{fv:AV}{args:List AV}{h:Heap}(c:JX→AV→Heap→Option ρ):callX cx F q true t fv args h c=(callX cx F q true t fv args h fun e v h=>onN e (some (v,h))).bind fun p=>c .normal p.1 p.2:=by
 unfold callX
 cases he:(fnOf fv).bind cx.ext with
 |some e =>
  cases q with
  |true=>rfl
  |false=>exact(extV_pk cx e fv args h).nat2 fun v h=>c .normal v h
 |none =>
  simp only
  cases ho:(fnOf fv).bind cx.own with
  |some o =>
   cases q with
   |true=>rfl
   |false =>
    have pk:Pk (fun ρ (c:AV×Heap→Option ρ)=>ownV (ρ:=ρ) cx F o fv args h fun v h=>c (v,h)):=fun ρ c r hr =>
     let ⟨a,h1,h2,_⟩:=ownV_pkl (F:=F) (G:=fun _=>F) (fun _ _ _ r hr=>⟨0,fun _ _=>hr⟩) cx o fv args h ρ c r hr
     ⟨a,h1,h2⟩
    simp only [cond_false]
    cases hp:(fnOf fv).bind cx.pans with
    |some T=>rfl
    |none=>exact pk.nat2 fun v h=>c .normal v h
  |none =>
   simp only
   cases hp:(fnOf fv).bind cx.pans with
   |some T=>rfl
   |none =>
    cases hc:(true&&(q|| !frzOf cx fv)) with
    |true =>
     simp only [cond_true]
     rw [(callV_pk cx F false t fv args h).nat,(callV_pk cx F false t fv args h).nat (fun v=>onN JX.normal (some (v,h))),obind_assoc]
     rfl
    |false =>
     simp only [cond_false]
     have pk:Pk (fun ρ (c:AV×Heap→Option ρ)=>callW (ρ:=ρ) cx F t fv args h fun v h=>c (v,h)):=fun ρ c r hr =>
      let ⟨a,h1,h2,_⟩:=callW_pkl (F:=F) (G:=fun _=>F) (fun _ _ _ r hr=>⟨0,fun _ _=>hr⟩) cx t fv args h ρ c r hr
      ⟨a,h1,h2⟩
     exact pk.nat2 fun v h=>c .normal v h
theorem frz_no {cx:Cx}{q:Bool}{fv:AV}{A B:Prop}(hq:q=true∨(A∧B∧frzOf cx fv=false)):(true&&(q|| !frzOf cx fv))=true:=by
 rcases hq with rfl |⟨_,_,h2⟩
 ·rfl
 ·rw [h2]
  cases q<;>rfl
theorem callX_same {cx:Cx}{F:EF}{q:Bool}{t:TypeId}{fv:AV}{args:List AV}{h h1:Heap}{v:AV}(hq:q=true∨((fnOf fv).bind cx.ext=none∧(fnOf fv).bind cx.own=none∧frzOf cx fv=false)) (hs:callX cx F q true t fv args h (fun e v h=>onN e (some (v,h)))=some (v,h1)):h1=h:=by
 unfold callX at hs
 split at hs
 ·rename_i he
  rcases hq with rfl |⟨h2,_⟩
  ·cases hs
  ·rw [h2] at he;cases he
 ·split at hs
  ·rename_i he
   rcases hq with rfl |⟨_,h2,_⟩
   ·cases hs
   ·rw [h2] at he;cases he
  ·split at hs
   ·cases hs
   ·rw [frz_no hq,cond_true,(callV_pk cx F false t fv args h).nat] at hs
    obtain⟨x,h2,h3⟩:=bind_some_iff hs
    cases h3
    rfl
def stepV (cx:Cx) (F:EF) (o:Oper) (e:Env) (h:Heap):Option (AV×Heap) :=
 match o.op with
 | .alloc t=>cond (cx.rows t) none ((cx.zero t).bind fun z=>(cx.size t).bind fun n=>match Nat.beq (zcells z).length n with
  |true=>some (.ptr h.length 0 0 0,h++[⟨.box,t,n,0,[(zcells z).map .val]⟩])
  |false=>none)
 | .box t x=>(opnd cx e x).bind fun v=>some (.ptr h.length 0 0 0,h++[⟨.box,t,v.cells.length,0,[v.cells]⟩])
 | .store t a x=>(opnd cx e a).bind fun p=>(opnd cx e x).bind fun v=>(storeV cx t p v h some).bind fun h=>some (.val undef,h)
 | .buildSlice t len parts=>cond (cx.thaw o.dst t) none <| (cx.P.underlying t).bind fun d=>match d with
  | .slice e'=>(cx.zero e').bind fun z=>(cx.size e').bind fun s=>(parts? cx e parts.toList).bind fun ps =>
   match Nat.beq (zcells z).length s&&(Nat.blt 0 s&&(Nat.blt 0 len&&(Nat.ble (len*s) 16777216&&Nat.beq ps.length len))) with
   |true=>(rowsP s 0 ps some).bind fun rows=>cond (cx.made o.dst t) none (some (.list 1 s rows,h))
   |false=>none
  | _=>none
 | .makeSlice t l n=>(opnd cx e l).bind fun lv=>(opnd cx e n).bind fun nv=>makeV cx t lv nv h fun v h=>some (v,h)
 | .call { callee := .builtin .append,args,argTypes }=>(opnds cx e args.toList).bind fun vs=>bins cx .append argTypes.toList vs h fun v h=>some (v,h)
 | .call { callee := .builtin .copy,args,argTypes }=>(opnds cx e args.toList).bind fun vs=>bins cx .copy argTypes.toList vs h fun v h=>some (v,h)
 | .call { callee := .builtin .clear,args,argTypes }=>(opnds cx e args.toList).bind fun vs=>bins cx .clear argTypes.toList vs h fun v h=>some (v,h)
 | .call { callee := .value f,args,argTypes:=_ }=>(opnd cx e f).bind fun fv=>(opnds cx e args.toList).bind fun vs=>callX cx F (true&& !turnFn f args) true o.type fv vs h fun e v h=>onN e (some (v,h))
 |op=>(evalA cx op e h some).bind fun v=>some (v,h)
set_option maxHeartbeats 2000000 in
theorem stepOp_V (cx:Cx) (F:EF) (N:Nat) (o:Oper) (e:Env) (h:Heap) (c:JX→Env→Heap→Option ρ):stepOp cx F N true o e h c=(stepV cx F o e h).bind fun p=>putK N o.dst p.1 e fun e=>c .normal e p.2:=by
  unfold stepOp stepV
  have hev:∀op,evalA cx op e h (fun v=>putK N o.dst v e fun env=>c .normal env h)=((evalA cx op e h some).bind fun v=>some (v,h)).bind fun p=>putK N o.dst p.1 e fun e=>c .normal e p.2:=fun op=>by
    rw [(evalA_pk cx op e h).nat]
    simp only [obind_assoc,χ]
  cases hop:o.op<;>first
    |exact hev _
    |skip
  case alloc t =>
    simp only
    cases hrw:cx.rows t with
    |true=>rfl
    |false =>
    simp only [obind_assoc,cond_false]
    congr 1;funext z;congr 1;funext n
    cases Nat.beq (zcells z).length n<;>rfl
  case box t x=>simp only [obind_assoc,χ]
  case store t a x =>
    simp only [obind_assoc,χ]
    congr 1;funext p;congr 1;funext v
    exact(storeV_pk cx t p v h).nat _
  case buildSlice t len parts =>
    simp only
    cases hth:cx.thaw o.dst t with
    |true=>rfl
    |false =>
    simp only [obind_assoc,cond_false]
    congr 1;funext d
    cases d<;>first
      |rfl
      |skip
    simp only [obind_assoc]
    congr 1;funext z;congr 1;funext s;congr 1;funext ps
    cases (Nat.beq (zcells z).length s&&(Nat.blt 0 s&&(Nat.blt 0 len&&(Nat.ble (len*s) 16777216&&Nat.beq ps.length len))))
    · rfl
    · simp only
      rw [(rowsP_pk s ps 0).nat]
      simp only [obind_assoc]
      congr 1;funext rows
      cases cx.made o.dst t<;>rfl
  case call cl =>
    obtain⟨callee,args,ts⟩:=cl
    cases callee<;>first
      |exact hev _
      |skip
    case builtin b =>
      cases b<;>first
        |exact hev _
        | (simp only [obind_assoc]
           congr 1;funext vs
           exact(bins_pk cx _ ts.toList vs h).nat2 _)
    simp only [obind_assoc]
    congr 1;funext fv;congr 1;funext vs
    rw [callX_true]
  case panic x =>
    show((opnd cx e x).bind fun v=>_)=none
    cases opnd cx e x with
    |none=>rfl
    |some v=>cases v<;>rfl
  case makeSlice t l n =>
    simp only [obind_assoc]
    congr 1;funext lv;congr 1;funext nv
    exact(makeV_pk cx t lv nv h).nat2 _
def oneV (cx:Cx) (F:EF) (ops:Array Oper) (o:Oper) (e:Env) (h:Heap):Option (AV×Heap) :=
 match o.guard with
 |none=>stepV cx F o e h
 |some (j,want)=>(gslot ops j).bind fun d=>(look e d).bind fun v=>match v with
  | .val (.bool b)=>cond (b==want) (stepV cx F o e h) (some (.val undef,h))
  | .val (.tuple _)=>some (.val undef,h)
  | _=>none
theorem runOps_one (cx:Cx) (F:EF) (N:Nat) (ops:Array Oper) (o:Oper) (e:Env) (h:Heap) (c:JX→Env→Heap→Option ρ):runOps cx F N true ops [o] e h c=(oneV cx F ops o e h).bind fun p=>putK N o.dst p.1 e fun e=>c .normal e p.2:=by
 simp only [runOps,oneV,stepOp_V]
 cases o.guard with
 |none=>rfl
 |some jw =>
  obtain⟨j,want⟩:=jw
  simp only [obind_assoc]
  congr 1;funext d;congr 1;funext v
  cases v<;>first
   |rfl
   |skip
  rename_i x
  cases x<;>first
   |rfl
   |skip
  rename_i b
  cases hb:(b==want)<;>simp only [hb,cond_true,cond_false]<;>rfl
theorem bind_up {α β:Type}{x0 x:Option α}{f0 f:α→Option β}{r:β}(h:x0.bind f0=some r) (hx:∀a,x0=some a→x=some a) (hf:∀a,f0 a=some r→f a=some r):x.bind f=some r:=by
 obtain⟨a,h1,h2⟩:=bind_some_iff h
 rw [hx a h1]
 exact hf a h2
section up
variable {cx:Cx}{e0 e:Env}(hE:∀t v,look e0 t=some v→look e t=some v)
include hE
theorem opnd_up {x:Operand}{v:AV}(h:opnd cx e0 x=some v):opnd cx e x=some v:=by
 cases x<;>first
  |exact hE _ _ h
  |exact h
theorem opnds_up:∀ {l:List Operand}{vs:List AV},opnds cx e0 l=some vs→opnds cx e l=some vs
 | [],vs,h=>h
 |x::xs,vs,h=>by
  simp only [opnds] at h ⊢
  exact bind_up h (fun _=>opnd_up hE) fun _ h=>bind_up h (fun _=>opnds_up) fun _ h=>h
theorem parts_up:∀ {l:List (Nat×Operand)}{vs:List (Nat×AV)},parts? cx e0 l=some vs→parts? cx e l=some vs
 | [],vs,h=>h
 | (i,x)::xs,vs,h=>by
  simp only [parts?] at h ⊢
  exact bind_up h (fun _=>opnd_up hE) fun _ h=>bind_up h (fun _=>parts_up) fun _ h=>h
theorem oopnd_up {x:Option Operand}{v:Option AV}(h:oopnd cx e0 x=some v):oopnd cx e x=some v:=by
 cases x with
 |none=>exact h
 |some x =>
  simp only [oopnd] at h ⊢
  exact bind_up h (fun _=>opnd_up hE) fun _ h=>h
theorem evalA_up {op:Op}{h:Heap}{c:AV→Option ρ}{r:ρ}(hs:evalA cx op e0 h c=some r):evalA cx op e h c=some r:=by
  unfold evalA at hs ⊢
  split at hs<;>first
    |exact bind_up hs (fun _=>opnd_up hE) fun _ h=>h
    |exact bind_up hs (fun _=>opnd_up hE) fun _ h=>bind_up h (fun _=>opnd_up hE) fun _ h=>h
    |exact bind_up hs (fun _=>opnds_up hE) fun _ h=>h
    |exact bind_up hs (fun _=>opnds_up hE) fun _ h=>bind_up h (fun _=>opnds_up hE) fun _ h=>h
    |exact bind_up hs (fun _=>parts_up hE) fun _ h=>h
    |exact bind_up hs (fun _=>opnd_up hE) fun _ h=>bind_up h (fun _=>oopnd_up hE) fun _ h=>bind_up h (fun _=>oopnd_up hE) fun _ h=>bind_up h (fun _=>oopnd_up hE) fun _ h=>h
    | (cases hs;done)
    | (refine bind_up hs (fun _=>opnd_up hE) fun v h=> ?_
       split at h
       · rename_i t
         cases t
         · exact bind_up h (fun _=>opnd_up hE) fun _ h=>h
         · exact bind_up h (fun _=>opnd_up hE) fun _ h=>h
       · cases h)
theorem stepV_up {F:EF}{o:Oper}{h:Heap}{p:AV×Heap}(hs:stepV cx F o e0 h=some p):stepV cx F o e h=some p:=by
 unfold stepV at hs ⊢
 split at hs<;>first
  |exact hs
  |exact bind_up hs (fun _ h=>evalA_up hE h) fun _ h=>h
  |exact bind_up hs (fun _=>opnd_up hE) fun _ h=>h
  |exact bind_up hs (fun _=>opnd_up hE) fun _ h=>bind_up h (fun _=>opnd_up hE) fun _ h=>h
  |exact bind_up hs (fun _=>opnd_up hE) fun _ h=>bind_up h (fun _=>opnds_up hE) fun _ h=>h
  |exact bind_up hs (fun _=>opnds_up hE) fun _ h=>h
  |skip
 rename_i t len parts hop
 cases hth:cx.thaw o.dst t with
 |true=>rw [hth] at hs;cases hs
 |false =>
 rw [hth] at hs
 rw [cond_false] at hs ⊢
 refine bind_up hs (fun _ h=>h) fun d h=> ?_
 split at h
 ·exact bind_up h (fun _ h=>h) fun _ h=>bind_up h (fun _ h=>h) fun _ h=>bind_up h (fun _=>parts_up hE) fun _ h=>h
 ·cases h
theorem oneV_up {F:EF}{ops:Array Oper}{o:Oper}{h:Heap}{p:AV×Heap}(hs:oneV cx F ops o e0 h=some p):oneV cx F ops o e h=some p:=by
 unfold oneV at hs ⊢
 cases hg:o.guard with
 |none=>rw [hg] at hs;exact stepV_up hE hs
 |some jw =>
  obtain⟨j,want⟩:=jw
  rw [hg] at hs
  refine bind_up hs (fun _ h=>h) fun d h=>bind_up h (fun _ h=>hE _ _ h) fun v h=> ?_
  split at h
  ·rename_i b
   cases hb:(b==want) with
   |true =>
    simp only [hb,cond_true] at h ⊢
    exact stepV_up hE h
   |false =>
    simp only [hb,cond_false] at h ⊢
    exact h
  ·exact h
  ·cases h
end up
theorem evalA_free {cx:Cx}{o:Oper}{e:Env}{h h':Heap}{c:AV→Option ρ}(hf:freeOp o=true):evalA cx o.op e h c=evalA cx o.op e h' c:=by
 unfold freeOp at hf
 cases hop:o.op<;>rw [hop] at hf<;>first
  |rfl
  | (cases hf;done)
  |skip
 rename_i cl
 obtain⟨callee,args,ts⟩:=cl
 cases callee<;>first
  |rfl
  |cases hf
theorem stepV_free {cx:Cx}{F:EF}{o:Oper}{e:Env}{h h' h1:Heap}{v:AV}(hf:freeOp o=true) (hs:stepV cx F o e h=some (v,h1)):h1=h∧stepV cx F o e h'=some (v,h'):=by
 have hev:((evalA cx o.op e h some).bind fun v=>some (v,h))=some (v,h1)→h1=h∧((evalA cx o.op e h' some).bind fun v=>some (v,h'))=some (v,h'):=fun hs=>by
  obtain⟨v',h2,h3⟩:=bind_some_iff hs
  cases h3
  rw [evalA_free (h':=h') hf] at h2
  rw [h2]
  first |exact⟨rfl,rfl⟩ |exact⟨rfl,trivial⟩ |exact⟨trivial,trivial⟩ |trivial
 unfold stepV at hs ⊢
 unfold freeOp at hf
 cases hop:o.op<;>rw [hop] at hf hs hev<;>first
  |exact hev hs
  | (cases hf;done)
  |skip
 case buildSlice t len parts =>
  cases hth:cx.thaw o.dst t with
  |true=>simp only [hth,cond_true] at hs;cases hs
  |false =>
  simp only [hth,cond_false] at hs ⊢
  obtain⟨d,h2,hs⟩:=bind_some_iff hs
  simp only [h2,χ]
  split at hs
  ·obtain⟨z,h3,hs⟩:=bind_some_iff hs
   obtain⟨s,h4,hs⟩:=bind_some_iff hs
   obtain⟨ps,h5,hs⟩:=bind_some_iff hs
   simp only [h3,h4,h5,χ]
   split at hs
   ·rename_i hc
    obtain⟨rows,h6,hs⟩:=bind_some_iff hs
    cases hmk:cx.made o.dst t with
    |true=>rw [hmk] at hs;cases hs
    |false =>
    rw [hmk] at hs
    cases hs
    simp only [h6,χ,cond_false]
    first |exact⟨rfl,rfl⟩ |exact⟨rfl,trivial⟩ |exact⟨trivial,trivial⟩ |trivial
   ·cases hs
  ·cases hs
 case call cl =>
  obtain⟨callee,args,ts⟩:=cl
  cases callee<;>first
   |exact hev hs
   |skip
  case builtin b =>
   cases b<;>first
    |exact hev hs
    |cases hf
  all_goals cases hf
theorem stepV_same {cx:Cx}{F:EF}{o:Oper}{e:Env}{h h1:Heap}{v:AV}(hf:effOp cx.turns o=false) (hs:stepV cx F o e h=some (v,h1)):h1=h:=by
 have hev:∀op,((evalA cx op e h some).bind fun v=>some (v,h))=some (v,h1)→h1=h:=fun op hs=>by
  obtain⟨v',h2,h3⟩:=bind_some_iff hs
  cases h3
  rfl
 unfold stepV at hs
 unfold effOp at hf
 cases hop:o.op<;>rw [hop] at hf hs<;>first
  |exact hev _ hs
  | (cases hf;done)
  |skip
 case buildSlice t len parts =>
  cases hth:cx.thaw o.dst t with
  |true=>simp only [hth,cond_true] at hs;cases hs
  |false =>
  simp only [hth,cond_false] at hs
  obtain⟨d,h2,hs⟩:=bind_some_iff hs
  split at hs
  ·obtain⟨z,h3,hs⟩:=bind_some_iff hs
   obtain⟨s,h4,hs⟩:=bind_some_iff hs
   obtain⟨ps,h5,hs⟩:=bind_some_iff hs
   split at hs
   ·obtain⟨rows,h6,hs⟩:=bind_some_iff hs
    cases hmk:cx.made o.dst t with
    |true=>rw [hmk] at hs;cases hs
    |false=>rw [hmk] at hs;cases hs;rfl
   ·cases hs
  ·cases hs
 case call cl =>
  obtain⟨callee,args,ts⟩:=cl
  cases callee<;>first
   |exact hev _ hs
   |skip
  case builtin b =>
   cases b<;>first
    |exact hev _ hs
    |cases hf
  rename_i fo
  obtain⟨fv,h2,hs⟩:=bind_some_iff hs
  obtain⟨vs,h3,hs⟩:=bind_some_iff hs
  refine callX_same ?_ hs
  cases fo with
  |tmp _ =>
   have hf':args.isEmpty=false:=hf
   exact .inl (by simp only [turnFn,hf',Bool.not_false,Bool.and_self])
  |const _=>exact .inl rfl
  |global _=>exact .inl rfl
  |func g =>
   cases h2
   right
   simp only [fnOf,χ]
   have hf':cx.turns g=false:=hf
   unfold Cx.turns at hf'
   cases he:cx.ext g with
   |some _=>rw [he] at hf';cases hf'
   |none =>
    rw [he] at hf'
    cases hw:cx.own g with
    |some _=>rw [hw] at hf';cases hf'
    |none =>
     rw [hw] at hf'
     refine⟨rfl,rfl,?_⟩
     simp only at hf'
     split at hf'
     ·cases hf'
     ·exact(Bool.or_eq_false_iff.1 hf').1
theorem oneV_free {cx:Cx}{F:EF}{ops:Array Oper}{o:Oper}{e:Env}{h h' h1:Heap}{v:AV}(hf:freeOp o=true) (hs:oneV cx F ops o e h=some (v,h1)):h1=h∧oneV cx F ops o e h'=some (v,h'):=by
 unfold oneV at hs ⊢
 cases hg:o.guard with
 |none=>rw [hg] at hs;exact stepV_free hf hs
 |some jw =>
  obtain⟨j,want⟩:=jw
  rw [hg] at hs
  obtain⟨d,h2,hs⟩:=bind_some_iff hs
  obtain⟨x,h3,hs⟩:=bind_some_iff hs
  simp only [h2,h3,χ]
  split at hs
  ·rename_i b
   cases hb:(b==want) with
   |true =>
    simp only [hb,cond_true] at hs ⊢
    exact stepV_free hf hs
   |false =>
    simp only [hb,cond_false] at hs ⊢
    cases hs
    exact⟨rfl,rfl⟩
  ·cases hs
   exact⟨rfl,rfl⟩
  ·cases hs
theorem oneV_same {cx:Cx}{F:EF}{ops:Array Oper}{o:Oper}{e:Env}{h h1:Heap}{v:AV}(hf:effOp cx.turns o=false) (hs:oneV cx F ops o e h=some (v,h1)):h1=h:=by
 unfold oneV at hs
 cases hg:o.guard with
 |none=>rw [hg] at hs;exact stepV_same hf hs
 |some jw =>
  obtain⟨j,want⟩:=jw
  rw [hg] at hs
  obtain⟨d,h2,hs⟩:=bind_some_iff hs
  obtain⟨x,h3,hs⟩:=bind_some_iff hs
  split at hs
  ·rename_i b
   cases hb:(b==want) with
   |true =>
    simp only [hb,cond_true] at hs
    exact stepV_same hf hs
   |false =>
    simp only [hb,cond_false] at hs
    cases hs
    rfl
  ·cases hs
   rfl
  ·cases hs
theorem freeOp_eff {tf:FuncId→Bool}{o:Oper}(h:freeOp o=true):effOp tf o=false:=by
 unfold freeOp at h
 unfold effOp
 cases hop:o.op<;>rw [hop] at h<;>first
  |rfl
  | (cases h;done)
  |skip
 case buildSlice t n ps =>
  cases n with
  |zero=>cases h
  |succ n=>rfl
 case call cl =>
  obtain⟨callee,args,ts⟩:=cl
  cases callee<;>first
   | (cases h;done)
   |skip
  case builtin b=>cases b<;>first |rfl |cases h
section
variable {h l:Heap}
def HLe (h hh:Heap):Prop:=∀(r:Nat) (o:Ob),h[r]?=some o→∃o',hh[r]?=some o'∧o'.ver=o.ver∧o'.sz=o.sz∧(o'=o∨(o.k = .dead∧o.es=[]))
theorem HLe.app (h l:Heap):HLe h (h++l):=fun r o hr=>⟨o,by rw [List.getElem?_append_left (List.getElem?_eq_some_iff.1 hr).1];exact hr,rfl,rfl,.inl rfl⟩
theorem get_mono {hh:Heap}(hle:HLe h hh) {r:Nat}{o:Ob}(hr:h[r]?=some o) (hn:o.k ≠ .dead∨o.es≠[]):hh[r]?=some o:=by
 obtain⟨o',h1,_,_,h2⟩:=hle r o hr
 rcases h2 with rfl |⟨h2,h3⟩
 ·exact h1
 ·rcases hn with hn |hn
  ·exact absurd h2 hn
  ·exact absurd h3 hn
theorem es_ne {o:Ob}{i:Nat}{cs:List AV}(h:o.es[i]?=some cs):o.es≠[]:=fun he=>by rw [he] at h;simp at h
theorem cellsAt_mono {hh:Heap}(hle:HLe h hh) (cx:Cx) {p:AV}{c:List AV→Option ρ}{r:ρ}(hs:cellsAt cx h p c=some r):cellsAt cx hh p c=some r:=by
 cases p<;>first
  |exact hs
  | (cases hs;done)
  |skip
 simp only [cellsAt] at hs ⊢
 obtain⟨o,h1,h2⟩:=bind_some_iff hs
 obtain⟨_,_,h3⟩:=bind_some_iff h2
 obtain⟨cs,h4,_⟩:=bind_some_iff h3
 simp only [get_mono hle h1 (.inr (es_ne h4)),χ]
 exact h2
theorem indexAddrV_mono {hh:Heap}(hle:HLe h hh) (cx:Cx) {t:TypeId}{x ix:AV}{c:AV→Option ρ}{r:ρ}(hs:indexAddrV cx h t x ix c=some r):indexAddrV cx hh t x ix c=some r:=by
 unfold indexAddrV at hs ⊢
 split at hs
 ·obtain⟨d,h1,hs⟩:=bind_some_iff hs
  simp only [h1,χ]
  split at hs
  ·rename_i len elem
   split at hs
   ·rename_i h0
    split at hs
    ·rename_i h2
     obtain⟨s,h3,hs⟩:=bind_some_iff hs
     simp only [h0,h2,if_true,h3,χ]
     cases hrw:cx.rows t with
     |false=>rw [hrw] at hs;exact hs
     |true =>
      rw [hrw,cond_true] at hs
      rw [cond_true]
      unfold rowOff at hs ⊢
      split at hs
      ·obtain⟨o,h4,hs⟩:=bind_some_iff hs
       obtain⟨o',g1,_,g3,_⟩:=hle _ o h4
       simp only [g1,g3,χ]
       exact hs
      ·cases hs
    ·cases hs
   ·cases hs
  ·split at hs
   ·exact hs
   ·split at hs
    ·rename_i h0
     split at hs
     ·rename_i h2
      obtain⟨o,h3,h4⟩:=bind_some_iff hs
      obtain⟨o',g1,_,g3,_⟩:=hle _ o h3
      simp only [h0,h2,if_true,g1,g3,χ]
      exact h4
     ·cases hs
    ·cases hs
   ·cases hs
  ·cases hs
 ·cases hs
theorem yRows_mono {hh:Heap}(hle:HLe h hh) {sz:Nat}{y:AV}{r:List (List AV)}(hs:yRows h sz y=some r):yRows hh sz y=some r:=by
 unfold yRows at hs ⊢
 split at hs
 ·exact hs
 ·exact hs
 ·obtain⟨o,h1,h2⟩:=bind_some_iff hs
  obtain⟨_,_,h3⟩:=bind_some_iff h2
  obtain⟨_,_,h4⟩:=bind_some_iff h3
  have hk:o.k ≠ .dead:=fun hk=>by rw [hk] at h4;cases h4
  simp only [get_mono hle h1 (.inl hk),χ]
  exact h2
 ·cases hs
theorem bytesV_mono {hh:Heap}(hle:HLe h hh) (cx:Cx) {s d:TypeId}{x:AV}{c:AV→Option ρ}{r:ρ}(hs:bytesV cx h s d x c=some r):bytesV cx hh s d x c=some r:=by
 unfold bytesV at hs ⊢
 obtain⟨d1,h1,hs⟩:=bind_some_iff hs
 simp only [h1,χ]
 split at hs
 ·obtain⟨d2,h2,hs⟩:=bind_some_iff hs
  simp only [h2,χ]
  split at hs
  ·obtain⟨d3,h3,hs⟩:=bind_some_iff hs
   simp only [h3,χ]
   split at hs
   ·obtain⟨ys,h4,hs⟩:=bind_some_iff hs
    simp only [yRows_mono hle h4,χ]
    exact hs
   ·cases hs
  ·cases hs
 ·cases hs
theorem convH_mono {hh:Heap}(hle:HLe h hh) (cx:Cx) {s d:TypeId}{x:AV}{c:AV→Option ρ}{r:ρ}(hs:convH cx h s d x c=some r):convH cx hh s d x c=some r:=by
 unfold convH at hs ⊢
 split at hs
 ·exact bytesV_mono hle cx hs
 ·exact bytesV_mono hle cx hs
 ·exact hs
theorem evalA_mono {hh:Heap}(hle:HLe h hh) (cx:Cx) {op:Op}{e:Env}{c:AV→Option ρ}{r:ρ}(hs:evalA cx op e h c=some r):evalA cx op e hh c=some r:=by
 cases op<;>first
  |exact hs
  |skip
 case load t x =>
  simp only [evalA] at hs ⊢
  obtain⟨p,h1,h2⟩:=bind_some_iff hs
  simp only [h1,χ]
  exact cellsAt_mono hle cx h2
 case convert s d x =>
  simp only [evalA] at hs ⊢
  obtain⟨p,h1,h2⟩:=bind_some_iff hs
  simp only [h1,χ]
  exact convH_mono hle cx h2
 case indexAddr t x i =>
  simp only [evalA] at hs ⊢
  obtain⟨p,h1,h2⟩:=bind_some_iff hs
  obtain⟨q,h3,h4⟩:=bind_some_iff h2
  simp only [h1,h3,χ]
  exact indexAddrV_mono hle cx h4
 case call cl =>
  obtain⟨callee,args,ts⟩:=cl
  cases callee<;>exact hs
theorem mapM_mono {α β:Type}{f g:α→Option β}(hfg:∀x y,f x=some y→g x=some y):∀ {l:List α}{r:List β},l.mapM f=some r→l.mapM g=some r
 | [],r,h=>h
 |x::xs,r,h=>by
  rw [List.mapM_cons] at h ⊢
  obtain⟨y,h1,h⟩:=bind_some_iff h
  obtain⟨ys,h2,h3⟩:=bind_some_iff h
  have h4:=mapM_mono hfg h2
  show(g x).bind _=_
  rw [hfg x y h1]
  show(List.mapM g xs).bind _=_
  rw [h4]
  exact h3
theorem view_mono {hh:Heap}(hle:HLe h hh):∀(n:Nat) {v v':AV},view h n v=some v'→view hh n v=some v'
 | 0,v,v',hs=>by cases hs
 |n+1,v,v',hs=>by
  have ih:=fun(l2:List AV) r (hr:l2.mapM (view h n)=some r)=>mapM_mono (f:=view h n) (g:=view hh n) (fun x y hy=>view_mono hle n hy) hr
  cases v<;>simp only [view] at hs ⊢ <;>first
   |exact hs
   |skip
  case ptr r ver i j =>
   obtain⟨o,h1,hs⟩:=bind_some_iff hs
   obtain⟨u,h2,hs⟩:=bind_some_iff hs
   obtain⟨cs,h3,hs⟩:=bind_some_iff hs
   simp only [get_mono hle h1 (.inr (es_ne h3)),h2,h3,χ]
   split at hs
   ·rename_i hk
    obtain⟨cs',h4,hs⟩:=bind_some_iff hs
    simp only [ih _ _ h4,χ]
    exact hs
   ·exact hs
  case arr r ver off len =>
   obtain⟨o,h1,hs⟩:=bind_some_iff hs
   obtain⟨_,_,h4⟩:=bind_some_iff hs
   have hk:o.k ≠ .dead:=fun hk=>by rw [hk] at h4;cases h4
   simp only [get_mono hle h1 (.inl hk),χ]
   exact hs
  case agg cs =>
   obtain⟨cs',h4,hs⟩:=bind_some_iff hs
   simp only [ih _ _ h4,χ]
   exact hs
  case tuple cs =>
   obtain⟨cs',h4,hs⟩:=bind_some_iff hs
   simp only [ih _ _ h4,χ]
   exact hs
  case iface t x =>
   obtain⟨x',h4,hs⟩:=bind_some_iff hs
   simp only [view_mono hle n h4,χ]
   exact hs
  case func fn fs cs =>
   obtain⟨fs',h4,hs⟩:=bind_some_iff hs
   obtain⟨cs',h5,hs⟩:=bind_some_iff hs
   simp only [ih _ _ h4,ih _ _ h5,χ]
   exact hs
theorem viewArg_mono {hh:Heap}(hle:HLe h hh) {v v':AV}(hs:viewArg h v=some v'):viewArg hh v=some v':=by
 unfold viewArg at hs ⊢
 obtain⟨x,h1,hs⟩:=bind_some_iff hs
 simp only [view_mono hle 5 h1,χ]
 exact hs
theorem viewArgs_mono {hh:Heap}(hle:HLe h hh):∀ {vs vs':List AV},viewArgs h vs=some vs'→viewArgs hh vs=some vs'
 | [],vs',hs=>hs
 |v::vs,vs',hs=>by
  simp only [viewArgs] at hs ⊢
  obtain⟨x,h1,hs⟩:=bind_some_iff hs
  obtain⟨xs,h2,hs⟩:=bind_some_iff hs
  simp only [viewArg_mono hle h1,viewArgs_mono hle h2,χ]
  exact hs
theorem callV_mono {hh:Heap}(hle:HLe h hh) (cx:Cx) {F:EF}{q:Bool}{t:TypeId}{fv:AV}{args:List AV}{c:AV→Option ρ}{r:ρ}(hs:callV cx F q t fv args h c=some r):callV cx F q t fv args hh c=some r:=by
 unfold callV at hs ⊢
 obtain⟨g,h1,hs⟩:=bind_some_iff hs
 obtain⟨as,h2,hs⟩:=bind_some_iff hs
 simp only [viewArg_mono hle h1,viewArgs_mono hle h2,χ]
 exact hs
theorem callX_mono {hh:Heap}(hle:HLe h hh) {cx:Cx}{F:EF}{q:Bool}{t:TypeId}{fv:AV}{args:List AV}{h1:Heap}{v:AV}(hq:q=true∨((fnOf fv).bind cx.ext=none∧(fnOf fv).bind cx.own=none∧frzOf cx fv=false)) (hs:callX cx F q true t fv args h (fun e v h=>onN e (some (v,h)))=some (v,h1)):callX cx F q true t fv args hh (fun e v h=>onN e (some (v,h)))=some (v,hh):=by
 unfold callX at hs ⊢
 cases he:(fnOf fv).bind cx.ext with
 |some e =>
  rw [he] at hs
  rcases hq with rfl |⟨h2,_⟩
  ·cases hs
  ·rw [h2] at he;cases he
 |none =>
  rw [he] at hs
  simp only at hs ⊢
  cases ho:(fnOf fv).bind cx.own with
  |some e =>
   rw [ho] at hs
   rcases hq with rfl |⟨_,h2,_⟩
   ·cases hs
   ·rw [h2] at ho;cases ho
  |none =>
   rw [ho] at hs
   simp only at hs ⊢
   cases hp:(fnOf fv).bind cx.pans with
   |some T=>rw [hp] at hs;cases hs
   |none =>
   have hqq:=frz_no hq
   rw [hp] at hs
   simp only at hs ⊢
   rw [hqq,cond_true] at hs ⊢
   rw [(callV_pk cx F false t fv args h).nat] at hs
   rw [(callV_pk cx F false t fv args hh).nat]
   obtain⟨x,h2,h3⟩:=bind_some_iff hs
   cases h3
   rw [callV_mono hle cx h2]
   rfl
theorem stepV_mono {hh:Heap}(hle:HLe h hh) {cx:Cx}{F:EF}{o:Oper}{e:Env}{h1:Heap}{v:AV}(hf:effOp cx.turns o=false) (hs:stepV cx F o e h=some (v,h1)):stepV cx F o e hh=some (v,hh):=by
 have hev:∀op,((evalA cx op e h some).bind fun v=>some (v,h))=some (v,h1)→((evalA cx op e hh some).bind fun v=>some (v,hh))=some (v,hh):=fun op hs=>by
  obtain⟨v',h2,h3⟩:=bind_some_iff hs
  cases h3
  rw [evalA_mono hle cx h2]
  rfl
 unfold stepV at hs ⊢
 unfold effOp at hf
 cases hop:o.op<;>rw [hop] at hf hs<;>first
  |exact hev _ hs
  | (cases hf;done)
  |skip
 case buildSlice t len parts =>
  cases hth:cx.thaw o.dst t with
  |true=>simp only [hth,cond_true] at hs;cases hs
  |false =>
  simp only [hth,cond_false] at hs ⊢
  obtain⟨d,h2,hs⟩:=bind_some_iff hs
  simp only [h2,χ]
  split at hs
  ·obtain⟨z,h3,hs⟩:=bind_some_iff hs
   obtain⟨s,h4,hs⟩:=bind_some_iff hs
   obtain⟨ps,h5,hs⟩:=bind_some_iff hs
   simp only [h3,h4,h5,χ]
   split at hs
   ·rename_i hb
    obtain⟨rows,h6,hs⟩:=bind_some_iff hs
    cases hmk:cx.made o.dst t with
    |true=>rw [hmk] at hs;cases hs
    |false =>
    rw [hmk] at hs
    cases hs
    simp only [h6,χ,cond_false]
   ·cases hs
  ·cases hs
 case call cl =>
  obtain⟨callee,args,ts⟩:=cl
  cases callee<;>first
   |exact hev _ hs
   |skip
  case builtin b =>
   cases b<;>first
    |exact hev _ hs
    |cases hf
  rename_i fo
  simp only at hs ⊢
  obtain⟨fv,h2,hs⟩:=bind_some_iff hs
  obtain⟨vs,h3,hs⟩:=bind_some_iff hs
  simp only [h2,h3,χ]
  refine callX_mono hle ?_ hs
  cases fo with
  |tmp _ =>
   have hf':args.isEmpty=false:=hf
   exact .inl (by simp only [turnFn,hf',Bool.not_false,Bool.and_self])
  |const _=>exact .inl rfl
  |global _=>exact .inl rfl
  |func g =>
   cases h2
   right
   simp only [fnOf,χ]
   have hf':cx.turns g=false:=hf
   unfold Cx.turns at hf'
   cases he:cx.ext g with
   |some _=>rw [he] at hf';cases hf'
   |none =>
    rw [he] at hf'
    cases hw:cx.own g with
    |some _=>rw [hw] at hf';cases hf'
    |none =>
     rw [hw] at hf'
     refine⟨rfl,rfl,?_⟩
     simp only at hf'
     split at hf'
     ·cases hf'
     ·exact(Bool.or_eq_false_iff.1 hf').1
theorem oneV_mono {hh:Heap}(hle:HLe h hh) {cx:Cx}{F:EF}{ops:Array Oper}{o:Oper}{e:Env}{h1:Heap}{v:AV}(hf:effOp cx.turns o=false) (hs:oneV cx F ops o e h=some (v,h1)):oneV cx F ops o e hh=some (v,hh):=by
 unfold oneV at hs ⊢
 cases hg:o.guard with
 |none=>rw [hg] at hs;exact stepV_mono hle hf hs
 |some jw =>
  obtain⟨j,want⟩:=jw
  rw [hg] at hs
  simp only at hs ⊢
  obtain⟨d,h2,hs⟩:=bind_some_iff hs
  obtain⟨x,h3,hs⟩:=bind_some_iff hs
  simp only [h2,h3,χ]
  split at hs
  ·rename_i b
   cases hb:(b==want) with
   |true =>
    simp only [hb,cond_true] at hs ⊢
    exact stepV_mono hle hf hs
   |false =>
    simp only [hb,cond_false] at hs ⊢
    cases hs
    rfl
  ·cases hs
   rfl
  ·cases hs
theorem stepV_add {cx:Cx}{F:EF}{o:Oper}{e:Env}{h1:Heap}{v:AV}(hf:addOp cx.adds o=true) (hs:stepV cx F o e h=some (v,h1)):∃x,h1=h++x:=by
 unfold stepV at hs
 unfold addOp at hf
 cases hop:o.op<;>rw [hop] at hf hs<;>first
  | (cases hf;done)
  |skip
 case alloc t =>
  simp only at hs
  cases hrw:cx.rows t with
  |true=>rw [hrw] at hs;cases hs
  |false =>
  rw [hrw,cond_false] at hs
  obtain⟨z,h2,hs⟩:=bind_some_iff hs
  obtain⟨n,h3,hs⟩:=bind_some_iff hs
  split at hs
  ·cases hs;exact⟨_,rfl⟩
  ·cases hs
 case box t x =>
  simp only at hs
  obtain⟨z,h2,hs⟩:=bind_some_iff hs
  cases hs;exact⟨_,rfl⟩
 case makeSlice t a b =>
  simp only at hs
  obtain⟨z,h2,hs⟩:=bind_some_iff hs
  obtain⟨y,h3,hs⟩:=bind_some_iff hs
  unfold makeV at hs
  obtain⟨q,h4,hs⟩:=bind_some_iff hs
  split at hs
  ·split at hs
   ·split at hs
    ·split at hs
     ·cases hs;exact⟨_,rfl⟩
     ·cases hs
    ·cases hs
   ·cases hs
  ·cases hs
 case call cl =>
  obtain⟨callee,args,ts⟩:=cl
  cases callee<;>first
   | (cases hf;done)
   |skip
  rename_i fo
  cases fo<;>first
   | (cases hf;done)
   |skip
  rename_i g
  simp only at hs
  obtain⟨fv,h2,hs⟩:=bind_some_iff hs
  obtain⟨vs,h3,hs⟩:=bind_some_iff hs
  cases h2
  have hf':cx.adds g=true:=hf
  unfold Cx.adds at hf'
  cases he:cx.ext g with
  |none =>
   rw [he] at hf'
   simp only [Bool.and_eq_true,Option.isNone_iff_eq_none,Bool.not_eq_true'] at hf'
   obtain⟨w1,w2,_,w4⟩:=hf'
   have hh:=callX_same (.inr ⟨by simpa [fnOf] using he,by simpa [fnOf] using w1,by simpa [frzOf,fnOf] using w4⟩) hs
   exact⟨[],by rw [hh,List.append_nil]⟩
  |some e =>
   unfold callX at hs
   simp only [fnOf,χ] at hs
   rw [he] at hs
   simp only [turnFn,Bool.not_true,Bool.and_false,cond_false] at hs
   unfold extV at hs
   obtain⟨p,h4,hs⟩:=bind_some_iff hs
   cases e with
   |turn t Z=>rw [he] at hf';cases hf'
   |fresh t Y =>
    simp only at hs
    unfold freshV at hs
    obtain⟨q,h5,hs⟩:=bind_some_iff hs
    obtain⟨ys,h6,hs⟩:=bind_some_iff hs
    cases hy:ysOk ys with
    |false=>rw [hy] at hs;cases hs
    |true =>
     rw [hy] at hs
     simp only [cond_true] at hs
     unfold appFin at hs
     split at hs
     ·cases hs;exact⟨_,rfl⟩
     ·cases hs
   |clone t =>
    simp only at hs
    unfold cloneV at hs
    split at hs
    ·obtain⟨q,h5,hs⟩:=bind_some_iff hs
     obtain⟨ys,h6,hs⟩:=bind_some_iff hs
     cases hy:ysOk ys with
     |false=>rw [hy] at hs;cases hs
     |true =>
      rw [hy] at hs
      simp only [cond_true] at hs
      unfold appFin at hs
      split at hs
      ·cases hs;exact⟨_,rfl⟩
      ·cases hs
    ·cases hs
theorem oneV_add {cx:Cx}{F:EF}{ops:Array Oper}{o:Oper}{e:Env}{h1:Heap}{v:AV}(hf:addOp cx.adds o=true) (hs:oneV cx F ops o e h=some (v,h1)):∃x,h1=h++x:=by
 unfold oneV at hs
 cases hg:o.guard with
 |none=>rw [hg] at hs;exact stepV_add hf hs
 |some jw =>
  obtain⟨j,want⟩:=jw
  rw [hg] at hs
  obtain⟨d,h2,hs⟩:=bind_some_iff hs
  obtain⟨x,h3,hs⟩:=bind_some_iff hs
  split at hs
  ·rename_i b
   cases hb:(b==want) with
   |true =>
    simp only [hb,cond_true] at hs
    exact stepV_add hf hs
   |false =>
    simp only [hb,cond_false] at hs
    cases hs
    exact⟨[],by simp⟩
  ·cases hs
   exact⟨[],by simp⟩
  ·cases hs
theorem set_new {x:Heap}{r:Nat}{o:Ob}(hr:h.length≤r):∃y,(h++x).set r o=h++y:=⟨x.set (r-h.length) o,by rw [List.set_append,if_neg (by omega)]⟩
theorem kill_new {x:Heap}{r:Nat}(hr:h.length≤r):∃y,killH (h++x) (some r)=h++y:=by
 unfold killH
 simp only
 split
 ·exact set_new hr
 ·exact⟨x,rfl⟩
theorem appFin_new {x:Heap}{q:TypeId×Nat×List AV×Nat}{kill:Option Nat}{es ys:List (List AV)}{v:AV}{h1:Heap}(hk:∀r,kill=some r→h.length≤r) (hs:appFin q (h++x) kill es ys (fun v h=>some (v,h))=some (v,h1)):∃y,h1=h++y:=by
 unfold appFin at hs
 split at hs
 ·cases hs
  cases kill with
  |none=>exact⟨_,List.append_assoc ..⟩
  |some r =>
   obtain⟨y,hy⟩:=kill_new (x:=x) (hk r rfl)
   exact⟨_,by rw [hy,List.append_assoc]⟩
 ·cases hs
theorem bins_new {cx:Cx}{b:Builtin}{ts:List TypeId}{a:AV}{vs:List AV}{x h1:Heap}{v:AV}(ha:newRef h.length a=true) (hs:bins cx b ts (a::vs) (h++x) (fun v h=>some (v,h))=some (v,h1)):∃y,h1=h++y:=by
 have harr:∀r ver off len,a = .arr r ver off len→h.length≤r:=fun r ver off len e=>by
  subst e
  exact Nat.le_of_ble_eq_true ha
 unfold bins at hs
 split at hs
 ·rename_i t1 x1 he
  cases he
  split at hs
  ·unfold clearV at hs
   obtain⟨q,g1,hs⟩:=bind_some_iff hs
   split at hs
   ·obtain⟨o,g2,hs⟩:=bind_some_iff hs
    obtain⟨_,g3,hs⟩:=bind_some_iff hs
    obtain⟨_,g4,hs⟩:=bind_some_iff hs
    split at hs
    ·obtain⟨_,g5,hs⟩:=bind_some_iff hs
     cases hz:q.2.2.1.all AV.one with
     |false=>rw [hz] at hs;cases hs
     |true =>
      rw [hz] at hs
      cases hs
      exact set_new (harr _ _ _ _ rfl)
    ·cases hs
   ·cases hs
  ·cases hs
 ·rename_i t1 t2 x1 y1 he
  cases he
  split at hs
  ·unfold appendV at hs
   obtain⟨q,g1,hs⟩:=bind_some_iff hs
   obtain⟨ys,g2,hs⟩:=bind_some_iff hs
   cases hy:ysOk ys with
   |false=>rw [hy] at hs;cases hs
   |true =>
    rw [hy] at hs
    simp only [cond_true] at hs
    split at hs
    ·exact appFin_new (fun r hr=>by cases hr) hs
    ·obtain⟨_,g3,hs⟩:=bind_some_iff hs
     obtain⟨o,g4,hs⟩:=bind_some_iff hs
     obtain⟨_,g5,hs⟩:=bind_some_iff hs
     obtain⟨_,g6,hs⟩:=bind_some_iff hs
     obtain⟨_,g7,hs⟩:=bind_some_iff hs
     split at hs
     ·obtain⟨_,g8,hs⟩:=bind_some_iff hs
      exact appFin_new (fun r hr=>by cases hr;exact harr _ _ _ _ rfl) hs
     ·cases hs
    ·cases hs
  ·unfold copyV at hs
   obtain⟨q,g1,hs⟩:=bind_some_iff hs
   obtain⟨ys,g2,hs⟩:=bind_some_iff hs
   cases hy:ysOk ys with
   |false=>rw [hy] at hs;cases hs
   |true =>
    rw [hy] at hs
    simp only [cond_true] at hs
    split at hs
    ·obtain⟨o,g4,hs⟩:=bind_some_iff hs
     obtain⟨_,g5,hs⟩:=bind_some_iff hs
     obtain⟨_,g6,hs⟩:=bind_some_iff hs
     split at hs
     ·obtain⟨_,g8,hs⟩:=bind_some_iff hs
      cases hs
      exact set_new (harr _ _ _ _ rfl)
     ·cases hs
    ·cases hs
  ·cases hs
 ·cases hs
theorem opnds_head {cx:Cx}{e:Env}{x:Operand}{a:AV}:∀ {l:List Operand}{vs:List AV},l[0]?=some x→opnd cx e x=some a→opnds cx e l=some vs→∃r,vs=a::r
 | [],vs,h,_,_=>by cases h
 |y::ys,vs,h,ha,hs=>by
  cases h
  simp only [opnds,ha,χ] at hs
  obtain⟨r,_,hs⟩:=bind_some_iff hs
  cases hs
  exact⟨r,rfl⟩
theorem storeV_new {cx:Cx}{t:TypeId}{a w:AV}{x h1:Heap}(hf:newRef h.length a=true) (hs:storeV cx t a w (h++x) some=some h1):∃y,h1=h++y:=by
 unfold storeV at hs
 split at hs
 ·have hle:=Nat.le_of_ble_eq_true hf
  obtain⟨o',g3,hs⟩:=bind_some_iff hs
  obtain⟨_,g4,hs⟩:=bind_some_iff hs
  obtain⟨cs,g5,hs⟩:=bind_some_iff hs
  obtain⟨n,g6,hs⟩:=bind_some_iff hs
  split at hs
  ·split at hs
   ·split at hs
    ·obtain⟨cs',g7,_⟩:=(spliceK_pk _ _ _).some hs
     cases g7
     exact set_new hle
    ·cases hs
   ·split at hs
    ·obtain⟨z,g8,hs⟩:=bind_some_iff hs
     obtain⟨cs1,g9,_⟩:=(normCells_pk z cs).some hs
     obtain⟨cs',g7,_⟩:=(spliceK_pk _ _ _).some g9
     cases g7
     exact set_new hle
    ·cases hs
   ·cases hs
   ·cases hs
  ·cases hs
 ·cases hs
theorem stepV_new {cx:Cx}{F:EF}{o:Oper}{e:Env}{x h1:Heap}{v:AV}(hf:tgtOk cx e h.length o=true) (hs:stepV cx F o e (h++x)=some (v,h1)):∃y,h1=h++y:=by
 unfold tgtOk at hf
 split at hf
 ·rename_i xo ht
  split at hf
  ·rename_i a ha
   unfold tgtOp at ht
   unfold stepV at hs
   cases hop:o.op<;>rw [hop] at ht hs<;>first
    | (cases ht;done)
    |skip
   case store t p y =>
    cases ht
    simp only at hs
    simp only [ha,χ] at hs
    obtain⟨w,g1,hs⟩:=bind_some_iff hs
    obtain⟨h2,g2,hs⟩:=bind_some_iff hs
    cases hs
    exact storeV_new hf g2
   case call cl =>
    obtain⟨callee,args,ts⟩:=cl
    cases callee<;>first
     | (cases ht;done)
     |skip
    rename_i b
    cases b<;>first
     | (cases ht;done)
     |skip
    all_goals
     simp only at ht hs
     obtain⟨vs,g1,hs⟩:=bind_some_iff hs
     obtain⟨r,rfl⟩:=opnds_head (by simpa using ht) ha g1
     exact bins_new hf hs
  ·cases hf
 ·cases hf
theorem oneV_new {cx:Cx}{F:EF}{ops:Array Oper}{o:Oper}{e:Env}{x h1:Heap}{v:AV}(hf:tgtOk cx e h.length o=true) (hs:oneV cx F ops o e (h++x)=some (v,h1)):∃y,h1=h++y:=by
 unfold oneV at hs
 cases hg:o.guard with
 |none=>rw [hg] at hs;exact stepV_new hf hs
 |some jw =>
  obtain⟨j,want⟩:=jw
  rw [hg] at hs
  obtain⟨d,h2,hs⟩:=bind_some_iff hs
  obtain⟨u,h3,hs⟩:=bind_some_iff hs
  split at hs
  ·rename_i b
   cases hb:(b==want) with
   |true =>
    simp only [hb,cond_true] at hs
    exact stepV_new hf hs
   |false =>
    simp only [hb,cond_false] at hs
    cases hs
    exact⟨x,rfl⟩
  ·cases hs
   exact⟨x,rfl⟩
  ·cases hs
end
end Go.Proofs.Av
