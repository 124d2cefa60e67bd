/- slices.Clone and slices.Sort at ints: what is told of them is so. -/
import Derived.Test.YtoepfmodbhfckaaAeLay2
import Derived.Test.YtoepfmodbhfckaaAzW
import Derived.Test.YtoepfmodbhfckaaAzU
import Derived.ProofKit
import Derived.WalkKit
import Derived.Lib.Walk
import Derived.Lib.SliceRun
namespace Go.Proofs.Av
open Go Go.RowKit Go.Sort Go.Shelf
theorem wpList_append_run {P : Program} {w : World} {ops : Array Oper} {rest : List Oper} {o : Oper} {a : Act} {Q : Exit → Act → World → Prop} (hgd : o.guard = none) (s x : Operand) (t : TypeId)
  (ho : o.op = .call { callee := .builtin .append, args := #[s, x], argTypes := #[t, t] }) (v u : Value) (hs : a.eval s = v) (hx : a.eval x = u) (r : Value) (w' : World)
  (hr : (Builtin.append_ #[t, t] o.type #[v, u]).run P w = .ok r w') (h : wpList P ops Q rest (a.put o.dst r) w') : wpList P ops Q (o :: rest) a w :=
 wpList_plain hgd fun _ hK => by
  unfold Oper.wp execOp
  simp only [ho, resolve, invoke, builtin, Sem.run_bind, Sem.run_pure, Result.andThen_ok, List.map_toArray, List.map_cons, List.map_nil, hs, hx, hr]
  exact hK _ _ h
set_option maxHeartbeats 1000000 in
theorem clone_nil (w : World) : Calls Try.prog 119 #[.slice none 0 0] w fun x w' => x = .returned (.slice none 0 0) ∧ w' = w := by
 have q23 : ∀ (w : World) (a : Option Addr) (n c n' c' : Nat), (binOp .eql 23 (.slice a n c) (.slice none n' c')).run Try.prog w = .ok (.bool a.isNone) w := fun w a n c n' c' => Lib.run_eql_slice_nil w _ _ a n c n' c' Try.underlying23
 go_enter Try.func119, Try.ntmps119
 go_wp2
 go_ret
 exact ⟨rfl, rfl⟩
set_option maxHeartbeats 1000000 in
theorem clone_row (w : World) (a : Addr) (n c : Nat) (r : Value) (w' : World) (hr : (Builtin.append_ #[23, 23] 23 #[.slice (some ⟨w.heap.size, 0, none⟩) 0 0, .slice (some a) n c]).run Try.prog (w.alloc (.cells #[] 3)) = .ok r w') :
  Calls Try.prog 119 #[.slice (some a) n c] w fun x w'' => x = .returned r ∧ w'' = w' := by
 have q23 : ∀ (w : World) (a : Option Addr) (n c n' c' : Nat), (binOp .eql 23 (.slice a n c) (.slice none n' c')).run Try.prog w = .ok (.bool a.isNone) w := fun w a n c n' c' => Lib.run_eql_slice_nil w _ _ a n c n' c' Try.underlying23
 have u23 : ∀ w, Sem.run Try.prog (underlying 23) w = .ok (TypeDesc.slice 3) w := run_underlying Try.underlying23
 go_enter Try.func119, Try.ntmps119
 go_wp2_with (at_builtin; refine wpList_append_run rfl _ _ 23 rfl _ _ rfl rfl r w' hr ?_)
 go_wp2
 go_ret
 exact ⟨rfl, rfl⟩
theorem clone_runs : CloneRuns Try.prog 119 23 3 := ⟨23, clone_nil, fun w a n c r w' hr => clone_row w a n c r w' hr⟩
def encVN (n : Int) : List Value := [.int .i64 n]
theorem flat1 (d : Array Int) (t : Nat) (h : t < d.size) : (flatK encVN 1 d)[t]! = Value.int .i64 d[t]! := by
 rw [get_flatK _ _ _ _ (by omega), Nat.div_one, Nat.mod_one]
 rfl
theorem putRow1 (w : World) (blk off : Nat) (d : Array Int) : putRowK encVN 1 w blk off d = putRow (Value.int .i64) w blk off d := by
 unfold putRowK putRow
 have : putCells id off (flatK encVN 1 d) = putCells (Value.int .i64) off d := by
  funext c
  unfold putCells
  rw [size_flatK, Nat.mul_one]
  congr 1
  funext k x
  by_cases hk : off ≤ k ∧ k < off + d.size
  ·rw [if_pos hk, if_pos hk]
   exact flat1 d (k - off) (by omega)
  ·rw [if_neg hk, if_neg hk]
 rw [this]
theorem holds1 {w : World} {blk off : Nat} {d : Array Int} (h : HoldsK encVN 1 w blk off d) : Holds (Value.int .i64) w blk off d := by
 intro j hj
 have := h j (by rw [size_flatK, Nat.mul_one]; exact hj)
 rw [show id (flatK encVN 1 d)[j]! = Value.int .i64 d[j]! from flat1 d j hj] at this
 exact this
end Go.Proofs.Av
