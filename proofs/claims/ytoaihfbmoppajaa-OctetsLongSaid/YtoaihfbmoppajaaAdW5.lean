/- OctetsBack: the law's tree is true. -/
import Derived.Test.YtoaihfbmoppajaaAdY5
namespace Go.Proofs.Av
open Go
/-- A text cut to so many bytes. -/
theorem cut_ext (s : B) (n : Nat) : ∃ m : Nat, (if (n : Int) < ((ByteArray.size (mk s) : Nat) : Int) then (n : Int) else ((ByteArray.size (mk s) : Nat) : Int)) = m ∧ m ≤ s.length ∧ ByteArray.extract (mk s) 0 (Int.toNat (m : Int)) = mk (s.take n) := by
  obtain ⟨m, h1, h2, h3⟩ := min_take s (n := n)
  refine ⟨m, h1, h2, ?_⟩
  rw [ext_mk, Int.toNat_natCast, List.drop_zero, h3]
theorem shlr {w k : Nat} (hw : w < 18446744073709551616) (h1 : 1 ≤ k) (h8 : k ≤ 8) : ishr .u64 (ishl .u64 (w : Int) (64 - 8 * k : Nat)) (64 - 8 * k : Nat) = ((w % 256 ^ k : Nat) : Int) := by
  unfold ishl ishr
  rw [Int.toNat_natCast, show IntKind.u64.bits = 64 from rfl, Nat.min_eq_left (by omega)]
  have e1 : IntKind.wrap .u64 ((w : Int) * 2 ^ (64 - 8 * k)) = ((w * 2 ^ (64 - 8 * k) % 18446744073709551616 : Nat) : Int) := by
    simp only [IntKind.wrap, IntKind.bits, IntKind.signed, Bool.false_and]
    rw [show (w : Int) * 2 ^ (64 - 8 * k) = ((w * 2 ^ (64 - 8 * k) : Nat) : Int) by rw [Int.natCast_mul, Int.natCast_pow]; rfl]
    rfl
  rw [e1, show (2 : Int) ^ (64 - 8 * k) = ((2 ^ (64 - 8 * k) : Nat) : Int) by rw [Int.natCast_pow]; rfl, Int.fdiv_eq_ediv_of_nonneg _ (Int.natCast_nonneg _), ← Int.natCast_ediv]
  congr 1
  have e2 : (18446744073709551616 : Nat) = 256 ^ k * 2 ^ (64 - 8 * k) := by
    rw [show (256 : Nat) = 2 ^ 8 by decide, ← Nat.pow_mul, ← Nat.pow_add, show 8 * k + (64 - 8 * k) = 64 by omega]
  rw [e2, Nat.mul_mod_mul_right, Nat.mul_div_cancel _ (Nat.two_pow_pos _)]
theorem d5 {w : Nat} (hw : w < 18446744073709551616) {n : Int} (hn : RI n) (s : B) : E cx (Key.fn 5) [vu w, vi n, vs (mk s)] [] = rb true := by
  refine (f5 w n (mk s)).trans ?_
  refine (goI (c15 hn (by omega)) _).trans ?_
  obtain ⟨hp0, hp1⟩ := pickI_lt (c := n) (n := 8) (by omega)
  generalize pickI n 8 = p at hp0 hp1
  obtain ⟨k, hk⟩ : ∃ k : Nat, 1 + p = k := ⟨(1 + p).toNat, by omega⟩
  have hw1 : IntKind.wrap .i64 (Int.add 1 p) = (k : Int) := (wr_add (by omega) (by omega)).trans hk
  obtain ⟨m, c1, c2, c3⟩ := cut_ext s 20
  have c1' : (if (20 : Int) < ((ByteArray.size (mk s) : Nat) : Int) then (20 : Int) else ((ByteArray.size (mk s) : Nat) : Int)) = m := c1
  have e2 : q5_2 (mk s) = m := c1
  have e3 : q5_3 (mk s) = mk (s.take 20) := by unfold q5_3; rw [e2, c3]
  have e1 : IntKind.wrap .i64 (q5_1 p) = (64 - 8 * k : Nat) := by
    unfold q5_1 q5_0
    rw [hw1, wr_mul (by omega) (by omega), wr_sub (by omega) (by omega)]
    omega
  rw [c1', e2, e3, hw1, e1]
  refine (goY (by omega) _ _).trans ((goY (by show (m : Int) ≤ (s.length : Int); omega) _ _).trans ?_)
  have hput := c18 w k
  rw [putI_ok (by omega) (by omega), Int.toNat_natCast] at hput
  refine (goS hput _).trans ?_
  have hpl := put_len w k
  generalize hx : s.take 20 = x
  have hxl : x.length ≤ 20 := by rw [← hx, List.length_take]; omega
  refine (goN (nobig (by show (put w k).length + x.length ≤ _; omega)) _ _).trans ?_
  rw [app_mk]
  have htk := c16 (put w k ++ x) k
  rw [takeR_3 (by omega) (by simp [hpl]; omega), Int.toNat_natCast, show (put w k ++ x).take k = put w k by rw [List.take_append_of_le_length (by omega), List.take_of_length_le (by omega)],
    show (put w k ++ x).drop k = x by rw [List.drop_append_of_le_length (by omega), List.drop_eq_nil_iff.2 (by omega), List.nil_append], val_put] at htk
  refine (goTk htk _).trans ?_
  refine (goE (by show ((put w k).length : Int) = k; omega) _ _).trans ((goE rfl _ _).trans ((goQn rfl _ _).trans ((goN (by omega) _ _).trans ((goN (by omega) _ _).trans ?_))))
  refine (goE (shlr hw (by omega) (by omega)).symm _ _).trans ?_
  by_cases hlt : (x.length : Int) < k
  · have ht := c16 x k
    rw [takeR_2 (by omega) hlt] at ht
    refine (goTk ht _).trans ?_
    refine (goD (by show (x.length : Int) < k; omega) _ _).trans ((goD rfl _ _).trans ((goD rfl _ _).trans ?_))
    exact goQ rfl _ _
  · have ht := c16 x k
    rw [takeR_3 (by omega) hlt, Int.toNat_natCast] at ht
    refine (goTk ht _).trans ?_
    refine (goDn (by show ¬ (x.length : Int) < k; omega) _ _).trans ((goD rfl _ _).trans ?_)
    have hp2 := c18 (val (x.take k)) k
    have hl : (x.take k).length = k := by rw [List.length_take]; omega
    have hpv := put_val (x.take k)
    rw [hl] at hpv
    rw [putI_ok (by omega) (by omega), Int.toNat_natCast, hpv] at hp2
    refine (goS hp2 _).trans ?_
    refine (goN (nobig (by show (x.take k).length + (x.drop k).length ≤ _; rw [List.length_drop]; omega)) _ _).trans ?_
    have e : ByteArray.append (mk (x.take k)) (mk (x.drop k)) = mk x := by rw [app_mk, List.take_append_drop]
    show (bif List.beq (ByteArray.toList (ByteArray.append (mk (x.take k)) (mk (x.drop k)))) (ByteArray.toList (mk x)) then rb true else rb false) = rb true
    rw [e]
    exact goQ rfl _ _
end Go.Proofs.Av
