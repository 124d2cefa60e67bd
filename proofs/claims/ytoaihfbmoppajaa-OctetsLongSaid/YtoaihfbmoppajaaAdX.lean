/- The program's functions, as the abstract evaluator sees them: the setting. -/
import Derived.Test.YtoaihfbmoppajaaAyU
import Derived.Test.YtoaihfbmoppajaaAyFa
import Derived.Test.YtoaihfbmoppajaaRows
import Derived.KernelRfl
namespace Go.Proofs.Av
open Go
def pathEq : List Bool → List Bool → Bool
  | [], [] => true
  | true :: a, true :: b => pathEq a b
  | false :: a, false :: b => pathEq a b
  | _, _ => false
def findP {α : Type} (p : List Bool) : List (List Bool × α) → Option α
  | [] => none
  | (q, a) :: r => match pathEq p q with
    | true => some a
    | false => findP p r
def findA {α : Type} (l : List (Nat × List (List Bool × α))) (f : Nat) (p : List Bool) : Option α := match l with
  | [] => none
  | (g, x) :: r => match Nat.beq f g with
    | true => findP p x
    | false => findA r f p
noncomputable def annT : List (Nat × List (List Bool × LAnn)) := [(3, [([true, true, true, true, true, false, true, false], .unroll 5 [0, 4, 5, 6, 7, 16, 17, 18, 19, 20, 58, 59, 60]),
 ([true, true, true, true, true, true, true, true, true, true, true, false, true, false], .unroll 5 [4, 5, 16, 17, 18, 19, 20, 157, 158, 159]),
 ([true, true, true, true, true, true, true, true, true, true, true, false, true, false, false, true, true, false, false, true, true, false], .unroll 5 [4, 5, 16, 17, 18, 19, 20, 36, 157, 158, 159, 177, 178, 179])]),
(4, [([true, true, true, true, false, true, false], .unroll 6 [4, 5, 6, 7, 41, 42, 43])]),
(6, [([true, true, true, true, true, true, true, false, true, false], .live [13, 14] [5, 6, 7, 8, 9, 10, 11, 12])]),
(8, [([true, true, false, true, false], .unroll 3 [4, 5, 6, 9, 10, 14, 15, 44, 45, 46]),
 ([true, true, false, true, false, false, true, true, false, false, true, false, true, false], .unroll 3 [4, 5, 6, 9, 10, 14, 15, 17, 44, 45, 46, 53, 54, 55]),
 ([true, true, false, true, false, false, true, true, false, false, true, false, true, false, false, true, true, false, false, true, true, false], .unroll 3 [4, 5, 6, 9, 10, 14, 15, 17, 19, 44, 45, 46, 53, 54, 55, 62, 63, 64]),
 ([true, true, false, true, false, false, true, true, false, false, true, true, false, true, false], .unroll 3 [4, 5, 6, 9, 10, 14, 15, 17, 44, 45, 46, 96, 97, 98])]),
(9, [([true, true, true, true, true, true, false, true, false], .live [4, 8, 9, 10] [0, 5, 6, 7])]),
(10, [([true, true, true, true, true, true, false, true, false], .live [4, 7, 8, 9, 10] [1, 5, 6]),
 ([true, true, true, true, true, true, false, true, false, false, true, false, false, true, true, false, true, false], .live [4, 13] [1, 5, 6, 8, 9, 10, 11, 12])]),
(11, [([true, true, true, true, true, true, false, true, false], .live [13, 14] [2, 3, 8, 9, 10, 11, 12]),
 ([true, true, true, true, true, true, true, false, true, false], .live [8, 15] [2, 3, 9, 10, 11, 12, 13])]),
(12, [([true, true, true, true, true, false, true, false], .live [10, 11] [2, 7, 8, 9])]),
(14, [([true, true, false, true, false], .live [3, 4] [0])]),
(16, [([true, true, false, true, false], .live [4, 7] [0, 1])]),
(18, [([true, true, true, false, true, false], .live [17] [0, 5, 16])]),
(19, [([true, true, false, true, false], .live [5, 6] [0, 1])]),
(20, [([true, true, true, true, false, true, false], .live [4, 5, 6, 7, 8, 27] [25, 26])]),
(21, [([true, true, true, true, true, false, true, false], .live [4, 5, 6, 7, 8, 9] [1])]),
(22, [([true, true, true, false, true, false], .live [17] [0, 1, 6, 7, 8, 9, 16])]),
(23, [([true, true, true, true, true, false, true, false], .live [6, 7, 8, 9, 10] [0, 1, 2])]),
(24, [([true, true, false, true, false], .live [4, 5] [0, 1])]),
(26, [([true, true, false, true, false], .live [3, 4] [0])]),
(30, [([true, true, true, true, false, true, false], .live [6, 7, 9, 10] [0, 1, 5])]),
(31, [([true, true, false, true, false], .live [4, 5] [0, 1])]),
(33, [([true, true, true, true, false, true, false], .live [7, 8, 9] [0, 1, 6])]),
(36, [([true, false, true, false], .live [2, 7] [0, 5, 6])]),
(37, [([true, false, true, false], .live [2, 3] [0])]),
(39, [([true, true, true, false, true, false], .live [6, 7] [0, 1, 5])]),
(40, [([true, true, false, true, false], .live [3, 4] [0])]),
(42, [([true, true, true, true, true, true, true, false, true, false], .live [8, 9, 50] [0, 2, 7, 49]),
 ([true, true, true, true, true, true, true, true, true, false, true, false], .live [14] [0, 2, 7, 8])]),
(44, [([true, true, false, false], .live [5, 6] [1])]),
(50, [([true, true, true, false, true, false], .live [5, 6] [0, 1])]),
(53, [([true, false, true, false], .live [4, 8] [0, 1, 7])])]
noncomputable def nilT : List (Nat × List (List Bool × List (Nat × Bool × TypeId))) := [(10, [([true, true, true, true, true, true, false, true, false], [(8, true, 47)])]),
(14, [([true, true, false, true, false], [(3, true, 23)])]),
(19, [([true, true, false, true, false], [(5, true, 35)])]),
(23, [([true, true, true, true, true, false, true, false], [(7, false, 23), (9, true, 23)])]),
(33, [([true, true, true, true, false, true, false], [(7, true, 47), (8, true, 47)])]),
(39, [([true, true, true, false, true, false], [(6, true, 47)])]),
(42, [([true, true, true, true, true, true, true, false, true, false], [(8, true, 27)])]),
(30, [([true, true, true, true, false, true, false], [(6, false, 47)])]),
(9, [([true, true, true, true, true, true, false, true, false], [(8, false, 47), (9, false, 47), (10, false, 47)])]),
(26, [([true, true, false, true, false], [(3, false, 47)])])]
noncomputable def nilF (f : Nat) (p : List Bool) : List (Nat × Bool × TypeId) := match findA nilT f p with
  | some l => l
  | none => []
def ownT : Nat → Option Own := fun f => match Nat.beq f 50 with
  | true => some ⟨2, .arr 0 4 0 0, [⟨.arr, 50, 4, 4, []⟩, ⟨.box, 3, 1, 0, [[.val (.int .i64 0)]]⟩]⟩
  | false => none
def eqT : TypeId → Bool := fun t => Nat.beq t 50
theorem eqT_ok (t : TypeId) (h : eqT t = true) : Try.prog.eqGuardType Try.prog.depth t = false ∧ Try.prog.stoodInHeld t = false := by
  have := Nat.eq_of_beq_eq_true h
  subst this
  exact ⟨by kernel_rfl, by kernel_rfl⟩
def panT : Nat → Option TypeId := fun f => match Nat.beq f 52 || Nat.beq f 42 with
  | true => some 72
  | false => none
def dfrT : Nat → Option Nat := fun f => match Nat.beq f 22 with
  | true => some 41
  | false => none
def fixT : Nat → Nat := fun f => match Nat.beq f 22 || Nat.beq f 41 with
  | true => 3
  | false => 0
def boxT (f : Nat) (p : List Bool) : List (Nat × TypeId) := match Nat.beq f 22 with
  | true => [(7, 23)]
  | false => []
def madeT (d : Option Nat) (t : TypeId) : Bool := match d with
  | some 44 => Nat.beq t 27
  | _ => false
noncomputable def cx : Cx := { P := Try.prog, G := fun _ => none, ann := findA annT, own := ownT, nils := nilF, eqOk := eqT, pans := panT, dfr := dfrT, fixn := fixT, boxes := boxT, made := madeT, eq_ok := eqT_ok }

theorem cx_names : NamesOk cx.P := by
  have h : (Try.prog.funcs.toList.all fun fn => !(fn.name == "runtime.NumGoroutine")) = true := by kernel_rfl
  intro f fn hf
  have hm : fn ∈ Try.prog.funcs.toList := by
    have : fn ∈ Try.prog.funcs := Array.mem_of_getElem? hf
    simpa using this
  have := List.all_eq_true.1 h fn hm
  simpa using this
end Go.Proofs.Av
