/- EarlyTells: at every input it comes to true. -/
import Derived.Test.YtoaihfbmoppajaaAcZg
import Derived.Test.YtoaihfbmoppajaaAcY8
namespace Go.Proofs.Av
open Go
theorem putF_len (q : List W) (r : Int) (w : W) (h : q.length ≤ 1000) : (putF q r w).1.length ≤ 1000000 := by
  unfold putF
  cases right q && may w <;> simp only [cond_true, cond_false] <;> (try simp)
  cases twice q w <;> simp only [cond_true, cond_false] <;> (try simp)
  cases decide ((q.length : Int) ≥ r) <;> simp only [cond_true, cond_false] <;> (try simp)
  rw [ins_len]; omega
theorem ripeF_len (q : List W) (t : Int) (h : q.length ≤ 1000) : (ripeF q t).1.length ≤ 1000000 ∧ (ripeF q t).2.length ≤ 1000000 := by
  unfold ripeF
  cases right q
  · simp
  · simp only [cond_true]
    have h1 := List.length_filter_le (fAt t) q
    have h2 := List.length_filter_le (fun w => !fAt t w) q
    omega
theorem leaveF_len (q : List W) (p : Int) (h : q.length ≤ 1000) : (leaveF q p).length ≤ 1000000 := by
  unfold leaveF
  cases right q
  · simp
  · simp only [cond_true]
    have h1 := List.length_filter_le (fP p) q
    omega
theorem law8c (wild : List W) (raw : List R3) (odd : W) (k : R3) (room tick peer : Int) (hraw : ∀ r ∈ raw, r.ok) (hB : raw.length ≤ 9223372036854775807) (hk : k.ok) (hroom : RI room) (htick : RI tick) (hpeer : RI peer) :
    E cx (.fn 8) [lq wild, .list 0 3 (raws raw), odd.av, .agg k.row, vi room, vi tick, vi peer] [] = rb true := by
  have hR : (rows wild).length = wild.length := by simp
  have hm : (0 : Int) ≤ if 40 < ((rows wild).length : Int) then 40 else ((rows wild).length : Int) := by split <;> omega
  have hm2 : (if 40 < ((rows wild).length : Int) then 40 else ((rows wild).length : Int)) ≤ ((rows wild).length : Int) := by split <;> omega
  refine (f8 _ _ _ _ _ _ _ _ _ _ _ _).trans ((goT e25 _ _).trans ((goY hm _ _).trans ((goY hm2 _ _).trans ?_)))
  obtain ⟨q1, hq1, hl1⟩ : ∃ q1 : List W, List.drop 0 (List.take (Int.toNat (if 40 < ((rows wild).length : Int) then 40 else ((rows wild).length : Int))) (rows wild)) = rows q1 ∧ q1.length ≤ 1000 := by
    refine ⟨wild.take (Int.toNat (if 40 < ((rows wild).length : Int) then 40 else ((rows wild).length : Int))), by rw [List.drop_zero, take_rows], ?_⟩
    rw [List.length_take]
    have : Int.toNat (if 40 < ((rows wild).length : Int) then 40 else ((rows wild).length : Int)) ≤ 40 := by split <;> omega
    omega
  rw [hq1]
  refine (goL (e26 raw hraw hB) _).trans ?_
  have hl2 : (queueF raw).length ≤ 1000 := Nat.le_trans (queue_len raw) (by omega)
  generalize queueF raw = q2 at hl2
  refine (goR (e27 k hk) _).trans ((goI (e28 hroom (by omega)) _).trans ?_)
  refine (goLI (e29 q1 room odd hl1) _).trans ((goLI (e30 q1 room odd hl1) _).trans ((goE rfl _ _).trans ((goT (e31 _ (putF_len q1 room odd hl1)) _ _).trans ?_)))
  refine (goLI (e29 q1 (pk room 35) odd hl1) _).trans ((goLI (e30 q1 (pk room 35) odd hl1) _).trans ((goE rfl _ _).trans ((goT (e31 _ (putF_len q1 (pk room 35) odd hl1)) _ _).trans ?_)))
  refine (goI (e28 hroom (by omega)) _).trans ?_
  refine (goLI (e29 q1 room (waitOf k) hl1) _).trans ((goLI (e30 q1 room (waitOf k) hl1) _).trans ((goE rfl _ _).trans ((goT (e31 _ (putF_len q1 room (waitOf k) hl1)) _ _).trans ?_)))
  refine (goLI (e29 q1 (pk room 35) (waitOf k) hl1) _).trans ((goLI (e30 q1 (pk room 35) (waitOf k) hl1) _).trans ((goE rfl _ _).trans ((goT (e31 _ (putF_len q1 (pk room 35) (waitOf k) hl1)) _ _).trans ?_)))
  refine (goI (e28 htick (by omega)) _).trans ?_
  refine (goLL (e32 q1 tick hl1) _).trans ((goLL (e33 q1 tick hl1) _).trans ((goT (e31 _ (ripeF_len q1 tick hl1).1) _ _).trans ((goT (e31 _ (ripeF_len q1 tick hl1).2) _ _).trans ?_)))
  refine (goLL (e32 q1 (pk tick 8) hl1) _).trans ((goLL (e33 q1 (pk tick 8) hl1) _).trans ((goT (e31 _ (ripeF_len q1 (pk tick 8) hl1).1) _ _).trans ((goT (e31 _ (ripeF_len q1 (pk tick 8) hl1).2) _ _).trans ?_)))
  have hn4 := e34 q1 hl1
  have hn5 := e35 q1 hl1
  have hr6 := e36 q1 (by omega)
  have hr7 := e37 q1 (by omega)
  generalize (nextF q1).1 = nx at hn4 hn5
  generalize (nextF q1).2 = bx at hn4 hn5
  generalize right q1 = br at hr6 hr7
  clear hq1 hm hm2 hR
  cases bx <;> cases br <;>
  (first | refine (goB' hn4 _ _).trans ((goTt rfl _ _).trans ?_) | refine (goB' hn4 _ _).trans ((goFf rfl _ _).trans ?_)) <;>
  (first | refine (goB' hn5 _ _).trans ((goTt rfl _ _).trans ?_) | refine (goB' hn5 _ _).trans ((goFf rfl _ _).trans ?_)) <;>
  refine (goE rfl _ _).trans ?_ <;>
  (first | refine (goT hr6 _ _).trans ((goT hr7 _ _).trans ?_) | refine (goF hr6 _ _).trans ((goF hr7 _ _).trans ?_)) <;>
  clear hn4 hn5 hr6 hr7
  all_goals
    refine (goL (e38 q1 peer hl1) _).trans ((goL (e39 q1 peer hl1) _).trans ((goT (e31 _ (leaveF_len q1 peer hl1)) _ _).trans ?_))
    refine (goI (e28 hpeer (by omega)) _).trans ((goL (e38 q1 (pk peer 4) hl1) _).trans ((goI (e28 hpeer (by omega)) _).trans ((goL (e39 q1 (pk peer 4) hl1) _).trans ((goT (e31 _ (leaveF_len q1 (pk peer 4) hl1)) _ _).trans ?_))))
    refine (goR (e27 k hk) _).trans ((goI (e28 hroom (by omega)) _).trans ?_)
    refine (goLI (e29 q2 room odd hl2) _).trans ((goLI (e30 q2 room odd hl2) _).trans ((goE rfl _ _).trans ((goT (e31 _ (putF_len q2 room odd hl2)) _ _).trans ?_)))
    refine (goLI (e29 q2 (pk room 35) odd hl2) _).trans ((goLI (e30 q2 (pk room 35) odd hl2) _).trans ((goE rfl _ _).trans ((goT (e31 _ (putF_len q2 (pk room 35) odd hl2)) _ _).trans ?_)))
    refine (goI (e28 hroom (by omega)) _).trans ?_
    refine (goLI (e29 q2 room (waitOf k) hl2) _).trans ((goLI (e30 q2 room (waitOf k) hl2) _).trans ((goE rfl _ _).trans ((goT (e31 _ (putF_len q2 room (waitOf k) hl2)) _ _).trans ?_)))
    refine (goLI (e29 q2 (pk room 35) (waitOf k) hl2) _).trans ((goLI (e30 q2 (pk room 35) (waitOf k) hl2) _).trans ((goE rfl _ _).trans ((goT (e31 _ (putF_len q2 (pk room 35) (waitOf k) hl2)) _ _).trans ?_)))
    refine (goI (e28 htick (by omega)) _).trans ?_
    refine (goLL (e32 q2 tick hl2) _).trans ((goLL (e33 q2 tick hl2) _).trans ((goT (e31 _ (ripeF_len q2 tick hl2).1) _ _).trans ((goT (e31 _ (ripeF_len q2 tick hl2).2) _ _).trans ?_)))
    refine (goLL (e32 q2 (pk tick 8) hl2) _).trans ((goLL (e33 q2 (pk tick 8) hl2) _).trans ((goT (e31 _ (ripeF_len q2 (pk tick 8) hl2).1) _ _).trans ((goT (e31 _ (ripeF_len q2 (pk tick 8) hl2).2) _ _).trans ?_)))
    have hn4 := e34 q2 hl2
    have hn5 := e35 q2 hl2
    have hr6 := e36 q2 (by omega)
    have hr7 := e37 q2 (by omega)
    generalize (nextF q2).1 = nx at hn4 hn5
    generalize (nextF q2).2 = bx at hn4 hn5
    generalize right q2 = br at hr6 hr7
    cases bx <;> cases br <;>
    (first | refine (goB' hn4 _ _).trans ((goTt rfl _ _).trans ?_) | refine (goB' hn4 _ _).trans ((goFf rfl _ _).trans ?_)) <;>
    (first | refine (goB' hn5 _ _).trans ((goTt rfl _ _).trans ?_) | refine (goB' hn5 _ _).trans ((goFf rfl _ _).trans ?_)) <;>
    refine (goE rfl _ _).trans ?_ <;>
    (first | refine (goT hr6 _ _).trans ((goT hr7 _ _).trans ?_) | refine (goF hr6 _ _).trans ((goF hr7 _ _).trans ?_)) <;>
    clear hn4 hn5 hr6 hr7
    all_goals
      refine (goL (e38 q2 peer hl2) _).trans ((goL (e39 q2 peer hl2) _).trans ((goT (e31 _ (leaveF_len q2 peer hl2)) _ _).trans ?_))
      refine (goI (e28 hpeer (by omega)) _).trans ((goL (e38 q2 (pk peer 4) hl2) _).trans ((goI (e28 hpeer (by omega)) _).trans ((goL (e39 q2 (pk peer 4) hl2) _).trans ((goT (e31 _ (leaveF_len q2 (pk peer 4) hl2)) _ _).trans ?_))))
      rfl
end Go.Proofs.Av
