/- Picks, chains and what the law asks ahead; arguments told apart. -/
import Derived.Test.YtoaihfbmoppajaaDoorAbZ
namespace Go.Proofs.Av
open Go

def pk (c n : Int) : Int := if c < 0 then (-(c + 1)) % n else c % n
theorem pk_range {c n : Int} (hn : 0 < n) : 0 ≤ pk c n ∧ pk c n < n := by
  unfold pk
  split
  · exact ⟨Int.emod_nonneg _ (by omega), Int.emod_lt_of_pos _ hn⟩
  · exact ⟨Int.emod_nonneg _ (by omega), Int.emod_lt_of_pos _ hn⟩
theorem e17 {c n : Int} (hc : RI c) (hn : 0 < n) : E cx (.fn 12) [vi c, vi n] [] = some (Out.ret (vi (pk c n)), []) := by
  rw [f12]
  have h0 : ¬ n = 0 := by omega
  obtain ⟨h1, h2⟩ := hc
  by_cases h : c < 0
  · rw [decide_eq_true h]
    simp only [cond_t, h0, if_false, pk, h, if_true]
    rw [show Int.add c 1 = c + 1 from rfl, wr_id (n := c + 1) (by omega) (by omega), show Int.sub 0 (c + 1) = -(c + 1) by show 0 - (c + 1) = _; omega, wr_id (by omega) (by omega), Int.tmod_eq_emod_of_nonneg (by omega)]
  · rw [decide_eq_false h]
    simp only [cond_f, h0, if_false, pk, h, if_true]
    rw [Int.tmod_eq_emod_of_nonneg (by omega)]
theorem wr_RI (n : Int) : RI (IntKind.wrap .i64 n) := by
  simp only [IntKind.wrap, IntKind.bits, IntKind.signed, Bool.true_and]
  split <;> simp_all <;> omega
theorem bind_pr (p : Int × Int) {β : Type} (f : Out × Heap → Option β) : Option.bind (pr p) f = f (Out.ret (AV.tuple [vi p.1, vi p.2]), []) := rfl
theorem bind_rb (b : Bool) {β : Type} (f : Out × Heap → Option β) : Option.bind (rb b) f = f (Out.ret (vbool b), []) := rfl
theorem chain_ex {n0 n1 n2 n3 n4 n5 : Int} (h0 : RI n0) (h1 : RI n1) (h2 : RI n2) (h3 : RI n3) (h4 : RI n4) (h5 : RI n5) (seed : Int) :
    ∃ c : Ch, c.fit ∧ c.c10 = seed ∧ E cx (.fn 5) [AV.agg [vi n0, vi n1, vi n2, vi n3, vi n4, vi n5], vu seed] [] = some (Out.ret c.av, []) := by
  have p1 := pk_range (c := n0) (n := 60) (by omega)
  have p2 := pk_range (c := n1) (n := 6) (by omega)
  have p3 := pk_range (c := IntKind.wrap .i64 (Int.tdiv n1 8)) (n := 4) (by omega)
  have p4 := pk_range (c := n3) (n := 9) (by omega)
  have p5 := pk_range (c := n2) (n := 12) (by omega)
  have p6 := pk_range (c := IntKind.wrap .i64 (Int.tdiv n2 16)) (n := 1 + pk n2 12 + 1) (by omega)
  have p7 := pk_range (c := n4) (n := 8) (by omega)
  have p8 := pk_range (c := n5) (n := 12) (by omega)
  have p9 := pk_range (c := IntKind.wrap .i64 (Int.tdiv n5 16)) (n := 4) (by omega)
  refine ⟨⟨1 + pk n0 60, 1 + pk n1 6, 1 + pk (IntKind.wrap .i64 (Int.tdiv n1 8)) 4, 1 + pk n3 9, 1 + pk n2 12, pk (IntKind.wrap .i64 (Int.tdiv n2 16)) (1 + pk n2 12 + 1), 1 + pk n4 8, pk n5 12, 1 + pk (IntKind.wrap .i64 (Int.tdiv n5 16)) 4, seed⟩, ?_, rfl, ?_⟩
  · unfold Ch.fit
    simp only
    omega
  · rw [f5]
    simp only [e17 h2 (show (0 : Int) < 12 by omega), e17 h0 (show (0 : Int) < 60 by omega), e17 h1 (show (0 : Int) < 6 by omega), e17 (wr_RI _) (show (0 : Int) < 4 by omega), e17 h3 (show (0 : Int) < 9 by omega),
      e17 h4 (show (0 : Int) < 8 by omega), e17 h5 (show (0 : Int) < 12 by omega), Option.bind_some, ret1_r, int_vi]
    have add (x : Int) (h : 0 ≤ x ∧ x < 100) : IntKind.wrap .i64 (Int.add 1 x) = 1 + x := by rw [show Int.add 1 x = 1 + x from rfl]; exact wr_id (by omega) (by omega)
    rw [add (pk n2 12) (by omega), show Int.add (1 + pk n2 12) 1 = 1 + pk n2 12 + 1 from rfl, wr_id (n := 1 + pk n2 12 + 1) (by omega) (by omega), e17 (wr_RI _) (by omega)]
    simp only [Option.bind_some, ret1_r, int_vi]
    rw [add (pk n0 60) (by omega), add (pk n1 6) (by omega), add (pk (IntKind.wrap .i64 (Int.tdiv n1 8)) 4) (by omega), add (pk n3 9) (by omega), add (pk n4 8) (by omega), add (pk (IntKind.wrap .i64 (Int.tdiv n5 16)) 4) (by omega)]

section
variable (c1 c2 c3 c4 c5 c6 c7 c8 c9 c10 : Int)
theorem l15 : E cx (.fn 13) [.agg [vi c1, vi c2, vi c3, vi c4, vi c5, vi c6, vi c7, vi c8, vi c9, vu c10]] [] = rb (decide (Ch.mk c1 c2 c3 c4 c5 c6 c7 c8 c9 c10).fit) := e15 ⟨c1, c2, c3, c4, c5, c6, c7, c8, c9, c10⟩
theorem l18 (t : Int) : E cx (.fn 7) [.agg [vi c1, vi c2, vi c3, vi c4, vi c5, vi c6, vi c7, vi c8, vi c9, vu c10], vi t] [] = pr (slotOf ⟨c1, c2, c3, c4, c5, c6, c7, c8, c9, c10⟩ t) := e18 ⟨c1, c2, c3, c4, c5, c6, c7, c8, c9, c10⟩ t
theorem l20 (t : Int) : E cx (.fn 19) [.agg [vi c1, vi c2, vi c3, vi c4, vi c5, vi c6, vi c7, vi c8, vi c9, vu c10], vi t] [] = pr (startOf ⟨c1, c2, c3, c4, c5, c6, c7, c8, c9, c10⟩ t) := e20 ⟨c1, c2, c3, c4, c5, c6, c7, c8, c9, c10⟩ t
end
/-! ### Arguments -/
section
variable {P : Program}
theorem fits_i64 {t : TypeId} {avs : List AV} (hu : P.underlying t = some (.int .i64)) (h : Fits P t avs) : ∃ n, avs = [vi n] ∧ RI n := by
  cases h <;> first
    | (rename_i k n hw h'; rw [hu] at h'; cases h'; exact ⟨n, rfl, bounds_i64 hw⟩)
    | (rename_i h'; rw [hu] at h'; cases h'; done)
    | (rename_i h' _; rw [hu] at h'; cases h'; done)
    | (rename_i h' _ _; rw [hu] at h'; cases h'; done)
    | (rename_i h' _ _ _; rw [hu] at h'; cases h'; done)
    | (rename_i h' _ _ _ _; rw [hu] at h'; cases h'; done)
    | skip
end
end Go.Proofs.Av
