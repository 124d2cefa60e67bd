/- Functions that are told by rules: search by halves with a label, and a check by a set. -/
import Derived.Test.YtoepfmodbhfckaaAzD
namespace Go.Proofs.Av
open Go
def LimF (F:EF) (Gn:Nat→EF):Prop:=∀key args h r,F key args h=some r→∃n,∀m,n≤m→Gn m key args h=some r
def LimG {α:Type}(X:EF→Option α):Prop:=∀(F:EF) (Gn:Nat→EF),LimF F Gn→∀v,X F=some v→∃n,∀m,n≤m→X (Gn m)=some v
theorem LimG.const {α:Type}(x:Option α):LimG (fun _=>x):=fun F Gn h v hv=>⟨0,fun _ _=>hv⟩
theorem LimG.call (key:Key) (args:List AV) (h:Heap):LimG (fun F=>F key args h):=fun F Gn hl v hv=>hl _ _ _ _ hv
theorem LimG.bind {α β:Type}{X:EF→Option α}{Y:α→EF→Option β}(hX:LimG X) (hY:∀a,LimG (Y a)):LimG (fun F=>(X F).bind fun a=>Y a F):=by
 intro F Gn hl v hv
 cases hx:X F with
 |none=>simp [hx] at hv
 |some a =>
  simp only [hx,Option.bind_some] at hv
  obtain⟨n1,h1⟩:=hX F Gn hl a hx
  obtain⟨n2,h2⟩:=hY a F Gn hl v hv
  exact⟨max n1 n2,fun m hm=>by simp only [h1 m (by omega),Option.bind_some];exact h2 m (by omega)⟩
theorem LimG.ite {α:Type}{p:Prop} [Decidable p] {X Y:EF→Option α}(hX:LimG X) (hY:LimG Y):LimG (fun F=>if p then X F else Y F):=by
 by_cases h:p
 ·simp only [h,if_true];exact hX
 ·simp only [h,if_false];exact hY
theorem LimG.cond {α:Type}{b:Bool}{X Y:EF→Option α}(hX:LimG X) (hY:LimG Y):LimG (fun F=>cond b (X F) (Y F)):=by
 cases b
 ·exact hY
 ·exact hX
def callI (F:EF) (f:Nat) (args:List AV):Option Int:=(F (.fn f) args []).bind fun r=>(ret1 r).bind fun v=>v.int? .i64
def callB (F:EF) (f:Nat) (args:List AV):Option Bool:=(F (.fn f) args []).bind fun r=>(ret1 r).bind fun v=>v.bool?
theorem callI_lim (f:Nat) (args:List AV):LimG (fun F=>callI F f args):=LimG.bind (LimG.call _ _ _) fun _=>LimG.const _
theorem callB_lim (f:Nat) (args:List AV):LimG (fun F=>callB F f args):=LimG.bind (LimG.call _ _ _) fun _=>LimG.const _
def asU2:List AV→Option Unit
 | [.val (.int .u64 _),.val (.int .u64 _)]=>some ()
 | _=>none
def hasL (f:Nat) (es:List (List AV)) (p:AV):Nat→Nat→Nat→EF→Option AV
 | 0,_,_=>fun _=>none
 |n+1,i,j=>fun F=>if i=j then some (vbool false) else(es[(i+j)/2]?).bind fun c=>(asU2 c).bind fun _=>(callI F f [.agg c,p]).bind fun o =>
  if o<0 then hasL f es p n ((i+j)/2+1) j F else if o>0 then hasL f es p n i ((i+j)/2) F else some (vbool true)
theorem hasL_lim (f:Nat) (es:List (List AV)) (p:AV):∀n i j,LimG (hasL f es p n i j)
 | 0,_,_=>LimG.const _
 |n+1,i,j=>LimG.ite (LimG.const _) (LimG.bind (LimG.const _) fun _=>LimG.bind (LimG.const _) fun _=>LimG.bind (callI_lim _ _) fun _=>LimG.ite (hasL_lim f es p n _ _) (LimG.ite (hasL_lim f es p n _ _) (LimG.const _)))
def hasG (f:Nat) (F:EF):List AV→Option AV
 | [.list _ 2 es,.agg [.val a,.val b]]=>if es.length≤4000000 then hasL f es (.agg [.val a,.val b]) (es.length+1) 0 es.length F else none
 | _=>none
theorem hasG_lim (f:Nat) (args:List AV):LimG (fun F=>hasG f F args):=by
 unfold hasG
 split
 ·exact LimG.ite (hasL_lim _ _ _ _ _ _) (LimG.const _)
 ·exact LimG.const _
def hasRule (f:Nat):Rule:=⟨hasG f,fun F Gn hl args v hv=>hasG_lim f args F Gn hl v hv⟩
def keysU:List (List AV)→Option (List Int)
 | []=>some []
 | [.val (.int .u64 n)]::r=>if 0≤n∧n<18446744073709551616 then(keysU r).bind fun l=>some (n::l) else none
 | _::_=>none
def many:List Int→Nat
 | []=>0
 |k::r=>if r.contains k then many r else many r+1
def allL (fh:Nat) (tb:List (List AV)) (ks:List Int):List (List AV)→EF→Option AV
 | []=>fun _=>some (vbool true)
 | [.val (.int .u64 a),.val (.int .u64 b)]::r=>fun F=>if 0≤a∧a<18446744073709551616 then cond (ks.contains a) ((callB F fh [.list 0 2 tb,.agg [vu a,vu b]]).bind fun h=>cond h (allL fh tb ks r F) (some (vbool false))) (some (vbool false)) else none
 | _::_=>fun _=>none
theorem allL_lim (fh:Nat) (tb:List (List AV)) (ks:List Int):∀ps,LimG (allL fh tb ks ps):=by
 intro ps
 induction ps with
 |nil=>exact LimG.const _
 |cons p r ih =>
  unfold allL
  split
  ·exact LimG.const _
  ·rename_i h
   cases h
   exact LimG.ite (LimG.cond (LimG.bind (callB_lim _ _) fun _=>LimG.cond ih (LimG.const _)) (LimG.const _)) (LimG.const _)
  ·exact LimG.const _
def keysC (F:EF) (f:Nat) (args:List AV):Option (List (List AV)×Bool):=(F (.fn f) args []).bind fun r=>(ret1 r).bind fun v=>match v with
 | .tuple [a,.val (.bool b)]=>(a.list? 1).bind fun es=>some (es,b)
 | _=>none
theorem keysC_lim (f:Nat) (args:List AV):LimG (fun F=>keysC F f args):=LimG.bind (LimG.call _ _ _) fun _=>LimG.const _
def checkG (fk fr fh:Nat) (F:EF):List AV→Option AV
 | [.list _ 2 tb,.agg [.list _ 1 ks,.val (.int .u64 root),.val (.bool fg),.list _ 2 ps]] =>
  (keysC F fk [.agg [vbool fg,.list 0 2 ps],vu root]).bind fun q=>(keysU ks).bind fun kl=>if ks.length≤1000000∧tb.length≤4000000∧ps.length≤4000000 then
   (cond (!q.2||(fg||(decide (ks.length=0)||decide (q.1.length≠ks.length)))) (some (vbool false)) ((callB F fr [.list 0 2 tb]).bind fun rt =>
    cond (!rt||decide (many kl≠q.1.length)) (some (vbool false)) (allL fh tb kl ps F))) else none
 | _=>none
theorem checkG_lim (fk fr fh:Nat) (args:List AV):LimG (fun F=>checkG fk fr fh F args):=by
 unfold checkG
 split
 ·exact LimG.bind (keysC_lim _ _) fun _=>LimG.bind (LimG.const _) fun _=>LimG.ite (LimG.cond (LimG.const _) (LimG.bind (callB_lim _ _) fun _=>LimG.cond (LimG.const _) (allL_lim _ _ _ _))) (LimG.const _)
 ·exact LimG.const _
def checkRule (fk fr fh:Nat):Rule:=⟨checkG fk fr fh,fun F Gn hl args v hv=>checkG_lim fk fr fh args F Gn hl v hv⟩
end Go.Proofs.Av
