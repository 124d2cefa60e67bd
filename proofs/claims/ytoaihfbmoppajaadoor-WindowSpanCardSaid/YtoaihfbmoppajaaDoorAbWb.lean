/- What the window's laws ask ahead of all else; the law of edges. -/
import Derived.Test.YtoaihfbmoppajaaDoorAbWa
namespace Go.Proofs.Av
open Go
abbrev c28 : Ch := ⟨1, 4, 1, 1, 10, 2, 3, 0, 1, 0⟩
theorem e28 : E cx (.fn 4) [] [] = rb true := by
  rw [f4]
  rw [show E cx (.fn 10) [AV.agg [vi 1, vi 4, vi 1, vi 1, vi 10, vi 2, vi 3, vi 0, vi 1, vu 0], vi 4] [] = pr (38, 0) from (e30 c28 4).trans (congrArg pr (by decide))]
  rw [show E cx (.fn 11) [AV.agg [vi 1, vi 4, vi 1, vi 1, vi 10, vi 2, vi 3, vi 0, vi 1, vu 0], vi 4] [] = pr (81, 0) from (e32 c28 4).trans (congrArg pr (by decide))]
  rw [show E cx (.fn 8) [AV.agg [vi 1, vi 4, vi 1, vi 1, vi 10, vi 2, vi 3, vi 0, vi 1, vu 0], vi 38] [] = pr3 (0, 4, 0) from (e36 c28 38).trans (congrArg pr3 (by decide))]
  rw [show E cx (.fn 8) [AV.agg [vi 1, vi 4, vi 1, vi 1, vi 10, vi 2, vi 3, vi 0, vi 1, vu 0], vi 42] [] = pr3 (1, 4, 0) from (e36 c28 42).trans (congrArg pr3 (by decide))]
  rw [show E cx (.fn 9) [AV.agg [vi 1, vi 4, vi 1, vi 1, vi 10, vi 2, vi 3, vi 0, vi 1, vu 0], vi 82, vi 4] [] = pr (2, 0) from (e34 c28 82 4).trans (congrArg pr (by decide))]
  rw [show E cx (.fn 9) [AV.agg [vi 1, vi 4, vi 1, vi 1, vi 10, vi 2, vi 3, vi 0, vi 1, vu 0], vi 37, vi 4] [] = pr (0, 0) from (e34 c28 37 4).trans (congrArg pr (by decide))]
  rw [show E cx (.fn 9) [AV.agg [vi 1, vi 4, vi 1, vi 1, vi 10, vi 2, vi 3, vi 0, vi 1, vu 0], vi 38, vi 4] [] = pr (1, 0) from (e34 c28 38 4).trans (congrArg pr (by decide))]
  rw [show E cx (.fn 10) [AV.agg [vi 1, vi 4, vi 1, vi 1, vi 10, vi 2, vi 3, vi 0, vi 1, vu 0], vi 1099511627776] [] = pr (0, 8) from (e30 c28 1099511627776).trans (congrArg pr (by decide))]
  rw [show E cx (.fn 9) [AV.agg [vi 1, vi 4, vi 1, vi 1, vi 10, vi 2, vi 3, vi 0, vi 1, vu 0], vi 1099511627777, vi 0] [] = pr (0, 1) from (e34 c28 1099511627777 0).trans (congrArg pr (by decide))]
  rfl
theorem wi64 {n m : Int} (h : n = m) (h1 : -9223372036854775808 ≤ m) (h2 : m ≤ 9223372036854775807) : IntKind.wrap IntKind.i64 n = m := by rw [h]; exact wr_id h1 h2
theorem nb0 : ((0 : Int) != 0) = false := rfl
theorem nb8 : ((8 : Int) != 0) = true := rfl
theorem ok_of_le {c : Ch} (hc : c.fit) {s : Int} (h0 : 0 ≤ s) (h1 : s ≤ M / c.c5) : okS c s := ⟨hc, h0, (le_M_div hc.2.2.2.2.1.1).1 h1⟩
end Go.Proofs.Av
