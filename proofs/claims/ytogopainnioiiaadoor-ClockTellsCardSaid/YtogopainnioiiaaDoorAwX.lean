/- The program's functions, as the abstract evaluator sees them: the setting. -/
import Derived.Test.YtogopainnioiiaaDoorAwT
import Derived.Test.YtogopainnioiiaaDoorAwFa
import Derived.Test.YtogopainnioiiaaDoorRows
import Derived.KernelRfl
namespace Go.Proofs.Av
open Go
def GL : Nat → Option (List AV) := fun g => match Nat.beq g 0 with
  | true => some ([1, 1024, 1, 32, 1, 8, 1, 64, 1, 1000, 1, 64, 0, 90, 1, 16].map fun n => .val (.int .i64 n))
  | false => none
def pathEq : List Bool → List Bool → Bool
  | [], [] => true
  | true :: a, true :: b => pathEq a b
  | false :: a, false :: b => pathEq a b
  | _, _ => false
def findP (p : List Bool) : List (List Bool × LAnn) → Option LAnn
  | [] => none
  | (q, a) :: r => match pathEq p q with
    | true => some a
    | false => findP p r
def findA (l : List (Nat × List (List Bool × LAnn))) (f : Nat) (p : List Bool) : Option LAnn := match l with
  | [] => none
  | (g, x) :: r => match Nat.beq f g with
    | true => findP p x
    | false => findA r f p
noncomputable def annT : List (Nat × List (List Bool × LAnn)) := [(3, [([true, true, true, false, true, false], .live [12, 50] [4, 5, 13, 48, 49]),
 ([true, true, true, false, true, false, false, true, true, false, false, true, true, true, false], .live [12, 77] [4, 5, 13, 16, 48, 49, 50, 75, 76])]),
(8, [([true, true, true, false, true, false], .live [8, 40] [2, 3, 9, 10, 38, 39]),
 ([true, true, true, false, true, false, false, true, true, false, false, true, true, false], .live [8, 77] [2, 3, 9, 10, 12, 38, 39, 40, 75, 76])]),
(15, [([true, false, true, false], .unroll 9 [1, 2, 21, 22])]),
(37, [([true, true, true, true, true, false, false], .live [8] [1, 2, 4, 5, 6, 9]),
 ([true, true, true, true, true, true, false], .live [4, 5, 6, 9] [1, 2, 8])]),
(42, [([true, true, false, false], .live [5, 6] [1])])]
noncomputable def cx : Cx := ⟨Tryd.prog, GL, findA annT⟩

theorem cx_names : NamesOk cx.P := by
  have h : (Tryd.prog.funcs.toList.all fun fn => !(fn.name == "runtime.NumGoroutine")) = true := by kernel_rfl
  intro f fn hf
  have hm : fn ∈ Tryd.prog.funcs.toList := by
    have : fn ∈ Tryd.prog.funcs := Array.mem_of_getElem? hf
    simpa using this
  have := List.all_eq_true.1 h fn hm
  simpa using this
end Go.Proofs.Av
