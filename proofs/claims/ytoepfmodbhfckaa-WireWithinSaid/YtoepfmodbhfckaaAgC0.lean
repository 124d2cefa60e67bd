/- What every law of this seat needs: the setting's facts; arguments as plain lists. -/
import Derived.Test.YtoepfmodbhfckaaAgS
import Derived.Test.YtoepfmodbhfckaaAgP
import Derived.ProofKit
import Derived.OpenShut
namespace Go.Proofs.Av
open Go Go.ChangeShapes Go.WideShapes Go.ChangeAt Go.RowKit
theorem own : ownKnob Try.prog.godebug = none := by kernel_rfl
theorem lays : laidOutB cx.P = true := by kernel_rfl
theorem no_globals {W : World} : GRel cx (Old W) W := fun g cs hg => by cases hg
theorem u3 : cx.P.underlying 3 = some (.int .i64) := Try.underlying3
theorem u4 : cx.P.underlying 4 = some .bool := Try.underlying4
theorem u26 : cx.P.underlying 26 = some (.int .u64) := Try.underlying26
theorem u5 : cx.P.underlying 5 = some (.int .u8) := Try.underlying5
theorem u9 : cx.P.underlying 9 = some .string := Try.underlying9
theorem u23 : cx.P.underlying 23 = some (.slice 3) := Try.underlying23
theorem arg_int {av : AV} (h : ArgFits cx.P 3 av) : ∃ n, av = vi n ∧ RI n := by
 obtain ⟨n, hn, hw⟩ := fits_int u3 (arg_one (by rw [isAgg, u3]) h)
 cases hn
 exact ⟨n, rfl, wf_i64 hw⟩
theorem arg_u64 {av : AV} (h : ArgFits cx.P 26 av) : ∃ w : Nat, av = vu w ∧ w < 18446744073709551616 := by
 obtain ⟨n, hn, hw⟩ := fits_int u26 (arg_one (by rw [isAgg, u26]) h)
 cases hn
 have := wf_u64 hw
 exact ⟨n.toNat, by rw [show ((n.toNat : Nat) : Int) = n by omega], by omega⟩
theorem arg_bool {av : AV} (h : ArgFits cx.P 4 av) : ∃ b, av = vbool b := by
 obtain ⟨b, hn⟩ := fits_bool u4 (arg_one (by rw [isAgg, u4]) h)
 cases hn
 exact ⟨b, rfl⟩
theorem arg_byte {av : AV} (h : ArgFits cx.P 5 av) : ∃ c : UInt8, av = vb c.toNat := by
 obtain ⟨n, hn, hw⟩ := fits_int u5 (arg_one (by rw [isAgg, u5]) h)
 cases hn
 have h2 := wf_u8 hw
 exact ⟨UInt8.ofNat n.toNat, by rw [UInt8.toNat_ofNat', Nat.mod_eq_of_lt (show n.toNat < 2 ^ 8 by omega), show ((n.toNat : Nat) : Int) = n by omega]⟩
theorem arg_str {av : AV} (h : ArgFits cx.P 9 av) : ∃ l, av = vs (mk l) := by
 obtain ⟨s, hn, _⟩ := fits_str u9 (arg_one (by rw [isAgg, u9]) h)
 cases hn
 obtain ⟨l, rfl⟩ := str_eta s
 exact ⟨l, rfl⟩
theorem cells3 : cx.P.cellsOf 3 = 1 := by kernel_rfl
theorem arg_ints {av : AV} (h : ArgFits cx.P 23 av) : ∃ l : List Int, av = .list 0 1 (ints l) ∧ ∀ a ∈ l, RI a := by
 obtain ⟨es, he, hl, hf⟩ := fits_slice u23 (arg_one (by rw [isAgg, u23]) h)
 cases he
 obtain ⟨l, rfl, h2⟩ := rows_of (fun n => [vi n]) RI es fun x hx => by
  obtain ⟨n, hn, hw⟩ := fits_int u3 (hf x hx)
  exact ⟨n, hn, wf_i64 hw⟩
 exact ⟨l, by rw [cells3], h2⟩
theorem arg_bits {av : AV} (h : ArgFits cx.P 33 av) : ∃ (n : Int) (l : List Int), av = bA n l ∧ RI n ∧ ∀ a ∈ l, RI a := by
 obtain ⟨avs, rfl, hf⟩ := arg_agg (by rw [isAgg, show cx.P.underlying 33 = _ from Try.underlying33]) h
 obtain ⟨parts, rfl, hl, hp⟩ := fits_struct Try.underlying33 hf
 match parts, hl, hp with
 | [p0, p1], _, hp =>
  obtain ⟨n, ha, wn⟩ := fits_int u3 (hp 0 _ p0 rfl rfl)
  obtain ⟨es, hb, _, he⟩ := fits_slice u23 (hp 1 _ p1 rfl rfl)
  obtain ⟨l, rfl, h2⟩ := rows_of (fun n => [vi n]) RI es fun x hx => by
   obtain ⟨n, hn, hw⟩ := fits_int u3 (he x hx)
   exact ⟨n, hn, wf_i64 hw⟩
  subst ha hb
  exact ⟨n, l, by rw [cells3]; rfl, wf_i64 wn, h2⟩
end Go.Proofs.Av
