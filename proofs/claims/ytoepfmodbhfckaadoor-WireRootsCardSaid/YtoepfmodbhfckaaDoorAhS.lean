/- slices.Clone and bits.of: what is told of them is so. -/
import Derived.Test.YtoepfmodbhfckaaDoorAhM
import Derived.Test.YtoepfmodbhfckaaDoorAzW
import Derived.Test.YtoepfmodbhfckaaDoorAzU
import Derived.ProofKit
import Derived.WalkKit
import Derived.Lib.Walk
import Derived.Lib.SliceRun
namespace Go.Proofs.Av
open Go Go.RowKit Go.Sort Go.Shelf
theorem wpList_append_run {P:Program}{w:World}{ops:Array Oper}{rest:List Oper}{o:Oper}{a:Act}{Q:Exit→Act→World→Prop}(hgd:o.guard=none) (s x:Operand) (t:TypeId) (ho:o.op = .call { callee := .builtin .append,args:= #[s,x],argTypes:= #[t,t] }) (v u:Value) (hs:a.eval s=v) (hx:a.eval x=u) (r:Value) (w':World) (hr:(Builtin.append_ #[t,t] o.type #[v,u]).run P w = .ok r w') (h:wpList P ops Q rest (a.put o.dst r) w'):wpList P ops Q (o::rest) a w :=
 wpList_plain hgd fun _ hK=>by
  unfold Oper.wp execOp
  simp only [ho,resolve,invoke,builtin,Sem.run_bind,Sem.run_pure,Result.andThen_ok,List.map_toArray,List.map_cons,List.map_nil,hs,hx,hr]
  exact hK _ _ h
set_option maxHeartbeats 1000000 in
theorem clone_nil (w:World):Calls Tryd.prog 78 #[.slice none 0 0] w fun x w'=>x = .returned (.slice none 0 0)∧w'=w:=by
 have q25:∀(w:World) (a:Option Addr) (n c n' c':Nat),(binOp .eql 25 (.slice a n c) (.slice none n' c')).run Tryd.prog w = .ok (.bool a.isNone) w:=fun w a n c n' c'=>Lib.run_eql_slice_nil w _ _ a n c n' c' Tryd.underlying25
 go_enter Tryd.func78,Tryd.ntmps78
 go_wp2
 go_ret
 exact⟨rfl,rfl⟩
set_option maxHeartbeats 1000000 in
theorem clone_row (w:World) (a:Addr) (n c:Nat) (r:Value) (w':World) (hr:(Builtin.append_ #[25,25] 25 #[.slice (some ⟨w.heap.size,0,none⟩) 0 0,.slice (some a) n c]).run Tryd.prog (w.alloc (.cells #[] 3)) = .ok r w'):Calls Tryd.prog 78 #[.slice (some a) n c] w fun x w''=>x = .returned r∧w''=w':=by
 have q25:∀(w:World) (a:Option Addr) (n c n' c':Nat),(binOp .eql 25 (.slice a n c) (.slice none n' c')).run Tryd.prog w = .ok (.bool a.isNone) w:=fun w a n c n' c'=>Lib.run_eql_slice_nil w _ _ a n c n' c' Tryd.underlying25
 have u25:∀w,Sem.run Tryd.prog (underlying 25) w = .ok (TypeDesc.slice 3) w:=run_underlying Tryd.underlying25
 go_enter Tryd.func78,Tryd.ntmps78
 go_wp2_with (at_builtin;refine wpList_append_run rfl _ _ 25 rfl _ _ rfl rfl r w' hr ?_)
 go_wp2
 go_ret
 exact⟨rfl,rfl⟩
theorem clone_runs:CloneRuns Tryd.prog 78 25 3:=⟨25,clone_nil,fun w a n c r w' hr=>clone_row w a n c r w' hr⟩
theorem fact78:Fact cx 78:=⟨Tryd.f78,Tryd.func78,by kernel_rfl,by kernel_rfl⟩
theorem fact81:Fact cx 81:=⟨Tryd.f81,Tryd.func81,by kernel_rfl,by kernel_rfl⟩
theorem cx_ext:ExtSound cx:=by
 refine⟨fun f e h=> ?_,fun f G h=> ?_⟩
 ·have h':(match Nat.beq f 78 with |true=>some (ExtF.clone 25) |false=>none)=some e:=h
  cases hf:Nat.beq f 78 with
  |true =>
   rw [hf] at h'
   cases h'
   have:=Nat.eq_of_beq_eq_true hf
   subst this
   exact ext_clone fact78 Tryd.underlying25 clone_runs
  |false =>
   rw [hf] at h'
   cases h'
 ·have h':(bif Nat.beq f 81 then some ofG else none)=some G:=h
  cases hf:Nat.beq f 81 with
  |true =>
   rw [hf] at h'
   cases h'
   have:=Nat.eq_of_beq_eq_true hf
   subst this
   exact fun args v hv=>⟨fact81,fun S w vals hS _ hr=>of_calls rfl (fun h=>by cases h) args v hv S w vals hS hr⟩
  |false =>
   rw [hf] at h'
   cases h'
end Go.Proofs.Av
