/- The laws' arguments told apart, and the law of slots. -/
import Derived.Test.YtoaihfbmoppajaaDoorAbZa
namespace Go.Proofs.Av
open Go
section
variable {P : Program}
theorem parts_row {e : TypeId} (he : P.underlying e = some (.int .i64)) : ∀ (parts : List (List AV)), (∀ p ∈ parts, Fits P e p) → ∃ ns : List Int, parts.flatten = ns.map vi ∧ ns.length = parts.length ∧ ∀ x ∈ ns, RI x
  | [], _ => ⟨[], rfl, rfl, fun x h => by cases h⟩
  | p :: ps, h => by
    obtain ⟨n, rfl, hn⟩ := fits_i64 he (h p (List.mem_cons_self ..))
    obtain ⟨ns, h1, h2, h3⟩ := parts_row he ps fun q hq => h q (List.mem_cons_of_mem _ hq)
    refine ⟨n :: ns, by simp [h1], by simp [h2], fun x hx => ?_⟩
    rcases List.mem_cons.1 hx with rfl | hx
    · exact hn
    · exact h3 x hx
theorem fits_row {t e : TypeId} {k : Nat} {avs : List AV} (hu : P.underlying t = some (.array k e)) (he : P.underlying e = some (.int .i64)) (h : Fits P t avs) : ∃ ns : List Int, avs = ns.map vi ∧ ns.length = k ∧ ∀ x ∈ ns, RI x := by
  cases h with
  | array h' parts hl hp =>
    rw [hu] at h'
    cases h'
    obtain ⟨ns, h1, h2, h3⟩ := parts_row he parts hp
    exact ⟨ns, h1, h2.trans hl, h3⟩
  | bool h' => rw [hu] at h'; cases h'
  | int h' => rw [hu] at h'; cases h'
  | float h' => rw [hu] at h'; cases h'
  | string h' => rw [hu] at h'; cases h'
  | slice h' => rw [hu] at h'; cases h'
  | struct h' => rw [hu] at h'; cases h'
end
theorem u25 : cx.P.underlying 22 = some (.array 6 3) := Tryd.underlying22
theorem u3 : cx.P.underlying 3 = some (.int .i64) := Tryd.underlying3
theorem arg_row {av : AV} (h : ArgFits cx.P 22 av) : ∃ n0 n1 n2 n3 n4 n5, av = .agg [vi n0, vi n1, vi n2, vi n3, vi n4, vi n5] ∧ RI n0 ∧ RI n1 ∧ RI n2 ∧ RI n3 ∧ RI n4 ∧ RI n5 := by
  cases h with
  | agg _ hf =>
    obtain ⟨ns, rfl, hl, hr⟩ := fits_row u25 u3 hf
    match ns, hl, hr with
    | [n0, n1, n2, n3, n4, n5], _, hr =>
      exact ⟨n0, n1, n2, n3, n4, n5, rfl, hr _ (by simp), hr _ (by simp), hr _ (by simp), hr _ (by simp), hr _ (by simp), hr _ (by simp)⟩
  | one h => rw [isAgg, u25] at h; cases h
theorem arg_int {av : AV} (h : ArgFits cx.P 3 av) : ∃ n, av = vi n ∧ RI n := by
  cases h with
  | agg h => rw [isAgg, u3] at h; cases h
  | one _ hf =>
    obtain ⟨n, h, hr⟩ := fits_i64 u3 hf
    cases h
    exact ⟨n, rfl, hr⟩
theorem args_cons {P : Program} {t : TypeId} {ts : List TypeId} {avs : List AV} (h : ArgsFit P (t :: ts) avs) : ∃ a rs, avs = a :: rs ∧ ArgFits P t a ∧ ArgsFit P ts rs := by
  cases h with
  | cons h hs => exact ⟨_, _, rfl, h, hs⟩
theorem args_nil {P : Program} {avs : List AV} (h : ArgsFit P [] avs) : avs = [] := by cases h; rfl

end Go.Proofs.Av
