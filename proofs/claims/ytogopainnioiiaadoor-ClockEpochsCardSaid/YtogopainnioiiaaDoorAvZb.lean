/- The laws' arguments told apart, and the law of slots. -/
import Derived.Test.YtogopainnioiiaaDoorAvZa
import Derived.Test.YtogopainnioiiaaDoorAvY4
namespace Go.Proofs.Av
open Go
section
variable {P : Program}
theorem parts_row {e : TypeId} (he : P.underlying e = some (.int .i64)) : ∀ (parts : List (List AV)), (∀ p ∈ parts, Fits P e p) → ∃ ns : List Int, parts.flatten = ns.map vi ∧ ns.length = parts.length ∧ ∀ x ∈ ns, RI x
  | [], _ => ⟨[], rfl, rfl, fun x h => by cases h⟩
  | p :: ps, h => by
    obtain ⟨n, rfl, hn⟩ := fits_i64 he (h p (List.mem_cons_self ..))
    obtain ⟨ns, h1, h2, h3⟩ := parts_row he ps fun q hq => h q (List.mem_cons_of_mem _ hq)
    refine ⟨n :: ns, by simp [h1], by simp [h2], fun x hx => ?_⟩
    rcases List.mem_cons.1 hx with rfl | hx
    · exact hn
    · exact h3 x hx
theorem fits_row {t e : TypeId} {k : Nat} {avs : List AV} (hu : P.underlying t = some (.array k e)) (he : P.underlying e = some (.int .i64)) (h : Fits P t avs) : ∃ ns : List Int, avs = ns.map vi ∧ ns.length = k ∧ ∀ x ∈ ns, RI x := by
  cases h with
  | array h' parts hl hp =>
    rw [hu] at h'
    cases h'
    obtain ⟨ns, h1, h2, h3⟩ := parts_row he parts hp
    exact ⟨ns, h1, h2.trans hl, h3⟩
  | bool h' => rw [hu] at h'; cases h'
  | int h' => rw [hu] at h'; cases h'
  | float h' => rw [hu] at h'; cases h'
  | string h' => rw [hu] at h'; cases h'
  | slice h' => rw [hu] at h'; cases h'
  | struct h' => rw [hu] at h'; cases h'
end
theorem u25 : cx.P.underlying 25 = some (.array 6 3) := Tryd.underlying25
theorem u3 : cx.P.underlying 3 = some (.int .i64) := Tryd.underlying3
theorem arg_row {av : AV} (h : ArgFits cx.P 25 av) : ∃ n0 n1 n2 n3 n4 n5, av = .agg [vi n0, vi n1, vi n2, vi n3, vi n4, vi n5] ∧ RI n0 ∧ RI n1 ∧ RI n2 ∧ RI n3 ∧ RI n4 ∧ RI n5 := by
  cases h with
  | agg _ hf =>
    obtain ⟨ns, rfl, hl, hr⟩ := fits_row u25 u3 hf
    match ns, hl, hr with
    | [n0, n1, n2, n3, n4, n5], _, hr =>
      exact ⟨n0, n1, n2, n3, n4, n5, rfl, hr _ (by simp), hr _ (by simp), hr _ (by simp), hr _ (by simp), hr _ (by simp), hr _ (by simp)⟩
  | one h => rw [isAgg, u25] at h; cases h
theorem arg_int {av : AV} (h : ArgFits cx.P 3 av) : ∃ n, av = vi n ∧ RI n := by
  cases h with
  | agg h => rw [isAgg, u3] at h; cases h
  | one _ hf =>
    obtain ⟨n, h, hr⟩ := fits_i64 u3 hf
    cases h
    exact ⟨n, rfl, hr⟩
theorem args_cons {P : Program} {t : TypeId} {ts : List TypeId} {avs : List AV} (h : ArgsFit P (t :: ts) avs) : ∃ a rs, avs = a :: rs ∧ ArgFits P t a ∧ ArgsFit P ts rs := by
  cases h with
  | cons h hs => exact ⟨_, _, rfl, h, hs⟩
theorem args_nil {P : Program} {avs : List AV} (h : ArgsFit P [] avs) : avs = [] := by cases h; rfl

theorem law4 (avs : List AV) (h : ArgsFit cx.P [25, 3] avs) : E cx (.fn 4) avs [] = rb true := by
  obtain ⟨a, rs, rfl, h1, h⟩ := args_cons h
  obtain ⟨b, rs, rfl, h2, h⟩ := args_cons h
  obtain rfl := args_nil h
  obtain ⟨n0, n1, n2, n3, n4, n5, rfl, r0, r1, r2, r3, r4, r5⟩ := arg_row h1
  obtain ⟨x, rfl, rx⟩ := arg_int h2
  obtain ⟨c, hc, _, hE⟩ := chain_ex r0 r1 r2 r3 r4 r5 0
  rw [f4]
  simp only [e12, hE, bind_rb, ret1_r, bool_vb, Option.bind_some, cond_t, cells_agg, uncons_c, int_vi, int_vu, nil_n]
  rw [e17 rx (by omega)]
  have hp := pk_range (c := x) (n := 1099511627777) (by omega)
  generalize pk x 1099511627777 = t at hp
  obtain ⟨ht0, ht1⟩ := hp
  have hM : M = 1099511627776 := rfl
  simp only [Option.bind_some, ret1_r, int_vi, e18, e20, bind_pr, tup_t, uncons_c, nil_n]
  have g5 := hc.2.2.2.2.1
  have hs : slotOf c t = (t / c.c5, 0) := if_pos ⟨hc, ht0, by omega⟩
  rw [hs]
  have s0 : 0 ≤ t / c.c5 := Int.ediv_nonneg ht0 (by omega)
  have s1 : t / c.c5 ≤ t := Int.ediv_le_self _ ht0
  have s2 : t / c.c5 * c.c5 ≤ t := Int.ediv_mul_le _ (by omega)
  have s3 : t < (t / c.c5 + 1) * c.c5 := Int.lt_ediv_add_one_mul_self _ (by omega)
  generalize t / c.c5 = s at s0 s1 s2 s3
  have hst : startOf c s = (s * c.c5, 0) := (if_pos ⟨hc, s0⟩).trans (if_pos (by omega))
  have m0 : 0 ≤ s * c.c5 := Int.mul_nonneg s0 (by omega)
  have hsl : slotOf c (s * c.c5) = (s, 0) := by
    refine (if_pos ⟨hc, m0, by omega⟩).trans ?_
    rw [Int.mul_ediv_cancel _ (by omega)]
  rw [Int.add_mul, Int.one_mul] at s3
  have hw : IntKind.wrap .i64 (Int.add s 1) = s + 1 := wr_id (n := s + 1) (by omega) (by omega)
  simp only [hst, hsl, hw]
  have w2 : IntKind.wrap .i64 (Int.sub t (s * c.c5)) = t - s * c.c5 := wr_id (n := t - s * c.c5) (by omega) (by omega)
  have w3 : IntKind.wrap .i64 (Int.mul s c.c5) = s * c.c5 := wr_id (n := s * c.c5) (by omega) (by omega)
  have w4 : IntKind.wrap .i64 (Int.add (s * c.c5) c.c5) = s * c.c5 + c.c5 := wr_id (n := s * c.c5 + c.c5) (by omega) (by omega)
  rw [w2, w3, w4]
  have hst2 : startOf c (s + 1) = if s * c.c5 + c.c5 ≤ M then (s * c.c5 + c.c5, 0) else (0, 8) := by
    refine (if_pos ⟨hc, by omega⟩).trans ?_
    rw [Int.add_mul, Int.one_mul]
  rw [hst2]
  have b1 : ((0 : Int) != 0) = false := rfl
  have b2 : (s != s) = false := by simp
  have b3 : (s * c.c5 != s * c.c5) = false := by simp
  rw [b1, b2, b3, decide_eq_false (show ¬ s * c.c5 > t by omega), decide_eq_false (show ¬ t - s * c.c5 ≥ c.c5 by omega)]
  by_cases h5 : s * c.c5 + c.c5 ≤ M
  · rw [if_pos h5]
    simp only [cond_f, b1]
    rw [decide_eq_true s3]
    simp [rb]
  · rw [if_neg h5, decide_eq_true (show s * c.c5 + c.c5 > 1099511627776 by omega)]
    rfl
end Go.Proofs.Av
