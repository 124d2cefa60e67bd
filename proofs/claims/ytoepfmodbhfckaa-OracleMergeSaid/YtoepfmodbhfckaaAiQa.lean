/- Steps for the laws on tables and signatures. -/
import Derived.Test.YtoepfmodbhfckaaAiPa
set_option maxRecDepth 100000
namespace Go.Proofs.Av
open Go
theorem goAg {ρ:Type}{x:Option (Out×Heap)}{f:Bool}{W:List (List AV)}(h:x=some (Out.ret (.agg [vbool f,.list 0 2 W]),[])) (k:Bool→List (List AV)→Option ρ):(x.bind fun r=>(ret1 r).bind fun v=>(AV.cells? v).bind fun cs=>(uncons? cs).bind fun p=>(AV.bool? p.fst).bind fun b=>(uncons? p.snd).bind fun q=>(AV.list? 2 q.fst).bind fun es=>(nil? q.snd).bind fun _=>k b es)=k f W:=by rw [h];rfl
theorem goNb {ρ:Type}(k j:Option ρ):(bif !true then k else j)=j:=rfl
theorem goNf {ρ:Type}(k j:Option ρ):(bif !false then k else j)=k:=rfl
theorem goTb {ρ:Type}(k j:Option ρ):(bif true then k else j)=k:=rfl
theorem goFb {ρ:Type}(k j:Option ρ):(bif false then k else j)=j:=rfl
theorem goR1 {ρ:Type}{x:Option (Out×Heap)}{es:List (List AV)}(h:x=some (Out.ret (.list 0 1 es),[])) (k:List (List AV)→Option ρ):(x.bind fun r=>(ret1 r).bind fun v=>(AV.list? 1 v).bind fun es=>k es)=k es:=by rw [h];rfl
theorem clip (n L:Nat):(if(n:Int)<(L:Int) then(n:Int) else(L:Int))=((min n L:Nat):Int):=by
 split<;>omega
theorem take_min {α:Type}(n:Nat) (l:List α):l.take (min n l.length)=l.take n:=by
 by_cases h:n≤l.length
 ·rw [Nat.min_eq_left h]
 ·rw [Nat.min_eq_right (by omega),List.take_length,List.take_of_length_le (by omega)]
theorem clipN (ks:List Nat) (n:Nat):List.drop 0 (List.take (Int.toNat ((min n ks.length:Nat):Int)) (rowsN ks))=rowsN (ks.take n):=by
 rw [List.drop_zero,show Int.toNat ((min n ks.length:Nat):Int)=min n ks.length from rfl,←rowsN_len ks,take_min]
 exact List.map_take.symm
theorem clipP (l:List P2) (n:Nat):List.drop 0 (List.take (Int.toNat ((min n l.length:Nat):Int)) (prs l))=prs (l.take n):=by
 rw [List.drop_zero,show Int.toNat ((min n l.length:Nat):Int)=min n l.length from rfl,←prs_len l,take_min]
 exact List.map_take.symm
theorem sigR_ok (r:Nat) (ks:List Nat) (h:ks.length≤49):sigR r ks=(false,sgn r ks,0):=by unfold sigR;rw [if_pos (by omega)]
theorem t93 (r:Nat) (ks:List Nat) (h:ks.length≤49):RTok (E cx (Key.fn 93) [vu r,.list 0 1 (rowsN ks)] []) false (sgn r ks) 0:=by
 have:=c93 r ks h
 rwa [sigR_ok r ks h] at this
theorem sgn_pw (r:Nat) (ks:List Nat):PW (sgn r ks):=sorted_pw _
theorem sgn_right (r:Nat) (ks:List Nat) (h:ks.length≤2048):rightT (sgn r ks)=true:=rightT_of (by rw [sgn_len];exact h) (sgn_pw r ks)
theorem mergeR_two (f g:Bool) (a b:List P2) (ha:rightT a=true) (hb:rightT b=true) (hl:a.length+b.length≤2048):mergeR [(f,a),(g,b)]=(f||g,sorted (a++b),0):=by
 unfold mergeR
 rw [if_pos (by unfold allR;simp [ha,hb])]
 have e:cat [(f,a),(g,b)]=a++b:=by simp [cat]
 rw [e,if_pos (by simp;omega)]
 simp [anyF']
theorem t45 (f g:Bool) (a b:List P2) (ha:rightT a=true) (hb:rightT b=true) (hl:a.length+b.length≤2048):RTok (E cx (Key.fn 45) [.list 0 2 [[vbool f,.list 0 2 (prs a)],[vbool g,.list 0 2 (prs b)]]] []) (f||g) (sorted (a++b)) 0:=by
 have:=c45 [(f,a),(g,b)] (by simp) (by simp;omega)
 rwa [mergeR_two f g a b ha hb hl] at this
theorem sgn_U8 {r:Nat}{ks:List Nat}(hk:∀k∈ks,U8 k):∀p∈sgn r ks,U8 p.1:=fun p hp=>hk _ (sgn_mem.1 hp).1
theorem sorted_U8 {a b:List P2}(ha:∀p∈a,U8 p.1) (hb:∀p∈b,U8 p.1):∀p∈sorted (a++b),U8 p.1:=fun p hp=>by
 rcases List.mem_append.1 ((sorted_perm (a++b)).mem_iff.1 hp) with h |h
 ·exact ha p h
 ·exact hb p h
theorem tokP_U8 (raw:List Int):∀p∈tokP raw,U8 p.1:=fun p hp=>(tokP_inU raw p hp).1
theorem take_U8 {ks:List Nat}(n:Nat) (hk:∀k∈ks,U8 k):∀k∈ks.take n,U8 k:=fun k h=>hk k (List.mem_of_mem_take h)
end Go.Proofs.Av
