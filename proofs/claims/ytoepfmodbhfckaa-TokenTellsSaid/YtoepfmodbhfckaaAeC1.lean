/- Tokens as arguments. -/
import Derived.Test.YtoepfmodbhfckaaAeC0
namespace Go.Proofs.Av
open Go Go.ChangeShapes Go.WideShapes Go.ChangeAt Go.RowKit
theorem u34 : cx.P.underlying 34 = some (.slice 80) := Try.underlying34
theorem cells80 : cx.P.cellsOf 80 = 2 := by kernel_rfl
theorem rowPair {x : List AV} (h : Fits cx.P 80 x) : ∃ p : P2, x = encP p ∧ True := by
  obtain ⟨parts, rfl, hl, hp⟩ := fits_struct Try.underlying80 h
  match parts, hl, hp with
  | [p0, p1], _, hp =>
    obtain ⟨a, ha, wa⟩ := fits_int u26 (hp 0 _ p0 rfl rfl)
    obtain ⟨b, hb, wb⟩ := fits_int u26 (hp 1 _ p1 rfl rfl)
    have h1 := wf_u64 wa
    have h2 := wf_u64 wb
    refine ⟨(a.toNat, b.toNat), ?_, trivial⟩
    subst ha hb
    show [vu a, vu b] = [vu ((a.toNat : Nat) : Int), vu ((b.toNat : Nat) : Int)]
    rw [Int.toNat_of_nonneg h1.1, Int.toNat_of_nonneg h2.1]
theorem arg_tok {av : AV} (h : ArgFits cx.P 36 av) : ∃ (f : Bool) (l : List P2), av = .agg [vbool f, .list 0 2 (prs l)] := by
  obtain ⟨avs, rfl, hf⟩ := arg_agg (by rw [isAgg, show cx.P.underlying 36 = _ from Try.underlying36]) h
  obtain ⟨parts, rfl, hl, hp⟩ := fits_struct Try.underlying36 hf
  match parts, hl, hp with
  | [p0, p1], _, hp =>
    obtain ⟨f, ha⟩ := fits_bool u4 (hp 0 _ p0 rfl rfl)
    obtain ⟨es, hb, _, he⟩ := fits_slice u34 (hp 1 _ p1 rfl rfl)
    obtain ⟨l, rfl, _⟩ := rows_of encP (fun _ => True) es fun x hx => rowPair (he x hx)
    subst ha hb
    exact ⟨f, l, by rw [cells80]; rfl⟩
end Go.Proofs.Av
