/- Arguments of Wire's laws as plain values. -/
import Derived.Test.YtoepfmodbhfckaaAgC0
namespace Go.Proofs.Av
open Go Go.ChangeShapes Go.WideShapes Go.ChangeAt Go.RowKit
theorem arg_raw {av : AV} (h : ArgFits cx.P 25 av) : ∃ x : Rw, av = .agg (rC x) ∧ RwOk x := by
 obtain ⟨avs, rfl, hf⟩ := arg_agg (by rw [isAgg, show cx.P.underlying 25 = _ from Try.underlying25]) h
 obtain ⟨parts, rfl, hl, hp⟩ := fits_struct Try.underlying25 hf
 match parts, hl, hp with
 | [p0, p1, p2, p3, p4], _, hp =>
  obtain ⟨qs, e0, l0, h0⟩ := fits_array Try.underlying22 (hp 0 _ p0 rfl rfl)
  obtain ⟨ns, f0, f1, f2⟩ := parts_i64 u3 qs h0
  obtain ⟨n, e1, w1⟩ := fits_int u3 (hp 1 _ p1 rfl rfl)
  obtain ⟨es, e2, _, he⟩ := fits_slice u23 (hp 2 _ p2 rfl rfl)
  obtain ⟨es', e3, _, he'⟩ := fits_slice u23 (hp 3 _ p3 rfl rfl)
  obtain ⟨b, e4⟩ := fits_bool u4 (hp 4 _ p4 rfl rfl)
  obtain ⟨l, rfl, h2⟩ := rows_of (fun n => [vi n]) RI es fun x hx => by
   obtain ⟨n, hn, hw⟩ := fits_int u3 (he x hx)
   exact ⟨n, hn, wf_i64 hw⟩
  obtain ⟨l', rfl, h3⟩ := rows_of (fun n => [vi n]) RI es' fun x hx => by
   obtain ⟨n, hn, hw⟩ := fits_int u3 (he' x hx)
   exact ⟨n, hn, wf_i64 hw⟩
  rw [l0] at f1
  match ns, f1, f2, f0 with
  | [a, b1, c, d, e], _, f2, f0 =>
   subst e1 e2 e3 e4
   rw [f0] at e0
   subst e0
   refine ⟨⟨a, b1, c, d, e, n, l, l', b⟩, by rw [cells3]; rfl, ⟨f2 a (by simp), f2 b1 (by simp), f2 c (by simp), f2 d (by simp), f2 e (by simp), wf_i64 w1, h2, h3⟩⟩
theorem arg_rec {av : AV} (h : ArgFits cx.P 28 av) : ∃ a b c : Nat, av = .agg [vu a, vu b, vu c] ∧ U8 a ∧ U8 b ∧ U8 c := by
 obtain ⟨avs, rfl, hf⟩ := arg_agg (by rw [isAgg, show cx.P.underlying 28 = _ from Try.underlying28]) h
 obtain ⟨parts, rfl, hl, hp⟩ := fits_struct Try.underlying28 hf
 match parts, hl, hp with
 | [p0, p1, p2], _, hp =>
  obtain ⟨n0, e0, w0⟩ := fits_int u26 (hp 0 _ p0 rfl rfl)
  obtain ⟨n1, e1, w1⟩ := fits_int u26 (hp 1 _ p1 rfl rfl)
  obtain ⟨n2, e2, w2⟩ := fits_int u26 (hp 2 _ p2 rfl rfl)
  have h0 := wf_u64 w0
  have h1 := wf_u64 w1
  have h2 := wf_u64 w2
  subst e0 e1 e2
  refine ⟨n0.toNat, n1.toNat, n2.toNat, ?_, ?_, ?_, ?_⟩
  ·rw [show ((n0.toNat : Nat) : Int) = n0 by omega, show ((n1.toNat : Nat) : Int) = n1 by omega, show ((n2.toNat : Nat) : Int) = n2 by omega]
   rfl
  ·unfold U8; omega
  ·unfold U8; omega
  ·unfold U8; omega
end Go.Proofs.Av
