/- Tokens: the law of long tokens. -/
import Derived.Test.YtoepfmodbhfckaaAePQ
import Derived.Test.YtoepfmodbhfckaaAeY10
namespace Go.Proofs.Av
open Go
/-- The pairs, as far as they are laid. -/
def lngS (key k j : Nat) : List P2 := (List.range k).map fun i => if i < j then (key, i / 2) else (0, 0)
theorem lngS_len (key k j : Nat) : (lngS key k j).length = k := by simp [lngS]
theorem lngS_get {key k j i : Nat} (hi : i < k) : (lngS key k j)[i]? = some (if i < j then (key, i / 2) else (0, 0)) := by simp [lngS, hi]
theorem lngS_set {key k j : Nat} (hj : j < k) : (lngS key k j).set j (key, j / 2) = lngS key k (j + 1) := by
  apply List.ext_getElem?
  intro i
  rw [List.getElem?_set]
  by_cases hi : i < k
  · rw [lngS_get hi, lngS_get hi, lngS_len]
    by_cases h : j = i
    · subst h
      rw [if_pos rfl, if_pos hj, if_pos (Nat.lt_succ_self j)]
    · rw [if_neg h]
      have : (i < j + 1) ↔ (i < j) := by omega
      simp only [this]
  · rw [List.getElem?_eq_none (l := lngS key k j) (by rw [lngS_len]; omega), List.getElem?_eq_none (l := lngS key k (j + 1)) (by rw [lngS_len]; omega), lngS_len, if_neg (by omega)]
theorem lngS_zero (key k : Nat) : prs (lngS key k 0) = List.replicate k [vu 0, vu 0] := by
  apply List.ext_getElem?
  intro i
  rw [List.getElem?_replicate]
  by_cases hi : i < k
  · rw [prs_get (lngS_get hi), if_pos hi]; rfl
  · rw [if_neg hi, List.getElem?_eq_none (by rw [prs_len, lngS_len]; omega)]
abbrev lng (key k : Nat) : List P2 := lngS key k k
theorem loop10 (key k : Nat) (hk : k ≤ 4000) : ∀ (d j : Nat), j + d = k →
    E cx (Key.loop 10 [true, true, true, true, false, true, false]) [vi j, vu key, vbool true, vi k, .ptr 1 0 0 0] [⟨.arr, 80, 2, 2, prs (lngS key k j)⟩, ⟨.box, 36, 2, 0, [[vbool false, .arr 0 2 0 k]]⟩] =
      some (Out.jump (.exit 0) [vi k], [⟨.arr, 80, 2, 2, prs (lng key k)⟩, ⟨.box, 36, 2, 0, [[vbool false, .arr 0 2 0 k]]⟩])
  | 0, j, hj => by
    have : j = k := by omega
    subst this
    exact (f10_l0 _ _ _ _ _ _ _).trans (goDn (by omega) _ _)
  | d + 1, j, hj => by
    have ih := loop10 key k hk d (j + 1) (by omega)
    have hw : IntKind.wrap .i64 (Int.tdiv (j : Int) 2) = ((j / 2 : Nat) : Int) := by
      rw [show Int.tdiv (j : Int) 2 = ((j / 2 : Nat) : Int) from rfl]; exact wr_id (by omega) (by omega)
    have hw2 : IntKind.wrap .u64 ((j / 2 : Nat) : Int) = ((j / 2 : Nat) : Int) := wu_id (by omega) (by omega)
    have hs : List.set (prs (lngS key k j)) (Nat.add 0 (Int.toNat (j : Int))) [vu key, vu ((j / 2 : Nat) : Int)] = prs (lngS key k (j + 1)) := by
      rw [Int.toNat_natCast, show Nat.add 0 j = j from Nat.zero_add j, ← lngS_set (by omega)]
      exact (List.map_set (f := encP) (l := lngS key k j) (i := j) (a := (key, j / 2))).symm
    refine (f10_l0 _ _ _ _ _ _ _).trans ((goD (by omega) _ _).trans ((goY (by omega) _ _).trans ((goY (by omega) _ _).trans ((goPn (n := j) rfl (lngS_get (by omega)) _).trans ?_))))
    rw [hw, hw2, hs, wS (by omega)]
    exact ih
theorem lng_pw (key k : Nat) : PW (lng key k) := by
  unfold lng lngS
  rw [PW, List.pairwise_map]
  refine List.Pairwise.imp_of_mem ?_ List.pairwise_lt_range
  intro a b ha hb hab
  rw [List.mem_range] at ha hb
  rw [if_pos ha, if_pos hb, leP_iff]
  exact .inr ⟨rfl, Nat.div_le_div_right (Nat.le_of_lt hab)⟩
theorem lng_srt (key k : Nat) : srtB (lng key k) = true := srtB_t ((srt_pw _).2 (lng_pw key k))
theorem lng_right (key k : Nat) : rightT (lng key k) = decide (k ≤ 2048) := by
  unfold rightT
  rw [lngS_len, lng_srt, Bool.and_true]
theorem db_zero : ∀ d, db d (List.replicate (16 * d) 0) = List.replicate d (0, 0)
  | 0 => rfl
  | d + 1 => by
    have h8 : (List.replicate (16 * (d + 1)) (0 : UInt8)).take 8 = List.replicate 8 0 := by rw [List.take_replicate, Nat.min_eq_left (by omega)]
    have h9 : ((List.replicate (16 * (d + 1)) (0 : UInt8)).drop 8).take 8 = List.replicate 8 0 := by rw [List.drop_replicate, List.take_replicate, Nat.min_eq_left (by omega)]
    have h10 : (List.replicate (16 * (d + 1)) (0 : UInt8)).drop 16 = List.replicate (16 * d) 0 := by rw [List.drop_replicate]; congr 1
    show (val ((List.replicate (16 * (d + 1)) (0 : UInt8)).take 8), val (((List.replicate (16 * (d + 1)) (0 : UInt8)).drop 8).take 8)) :: db d ((List.replicate (16 * (d + 1)) (0 : UInt8)).drop 16) = _
    rw [h8, h9, h10, db_zero d]
    rfl
theorem zero_pw (k : Nat) : PW (List.replicate k ((0, 0) : P2)) := List.pairwise_replicate.2 (.inr ((leP_iff _ _).2 (.inr ⟨rfl, Nat.le_refl _⟩)))
theorem numsOf_zero : ∀ n : Nat, numsOf (List.replicate n [vb 0]) = some (List.replicate n 0)
  | 0 => rfl
  | n + 1 => by
    rw [List.replicate_succ]
    show (Option.bind (numsOf (List.replicate n [vb 0])) fun ns => some ((0 : Int) :: ns)) = _
    rw [numsOf_zero n]
    rfl
theorem str_zero (n : Nat) : Go.strOfNums (List.replicate n 0) = mk (List.replicate n 0) := by
  unfold Go.strOfNums
  rw [List.map_replicate]
  rfl
theorem c10 (n : Int) (hn : RI n) (key : Nat) (_hkey : key < 18446744073709551616) : E cx (Key.fn 10) [vi n, vu key] [] = rb true := by
  have hp := pickI_lt (c := n) (n := 16) (by omega)
  obtain ⟨k, hk⟩ : ∃ k : Nat, IntKind.wrap .i64 (Int.add 2040 (pickI n 16)) = k := ⟨(2040 + pickI n 16).toNat, (wr_add (a := 2040) (b := pickI n 16) (by omega) (by omega)).trans (by omega)⟩
  have hk2 : (k : Int) = 2040 + pickI n 16 := hk.symm.trans (wr_add (a := 2040) (b := pickI n 16) (by omega) (by omega))
  have g := loop10 key k (by omega) k 0 (by omega)
  rw [lngS_zero] at g
  have hd2 : IntKind.wrap .i64 (Int.tdiv (k : Int) 2) = ((k / 2 : Nat) : Int) := by
    rw [show Int.tdiv (k : Int) 2 = ((k / 2 : Nat) : Int) from rfl]; exact wr_id (by omega) (by omega)
  have hm : IntKind.wrap .i64 (Int.mul 16 (k : Int)) = ((16 * k : Nat) : Int) := (wr_mul (a := 16) (b := (k : Int)) (by omega) (by omega)).trans (by omega)
  have hl : (prs (lng key k)).length = k := by rw [prs_len, lngS_len]
  have hz : Nat.add 0 k = k := Nat.zero_add k
  refine (f10 _ _).trans ((goI (c48 hn (by omega)) _).trans ?_)
  rw [hk, Int.toNat_natCast, hd2, hm, Int.toNat_natCast, Int.toNat_natCast]
  refine (goY (by omega) _ _).trans ((goY (Int.le_refl _) _ _).trans ((goY (show Int.mul 16 (k : Int) ≤ 281474976710656 by show 16 * (k : Int) ≤ _; omega) _ _).trans ((congrArg (fun o => Option.bind o _) g).trans ?_)))
  have hcut : List.drop 0 (List.take (Nat.add 0 k) (prs (lng key k))) = prs (lng key k) := by rw [hz, List.drop_zero, List.take_of_length_le (by omega)]
  have hb : Nat.beq (prs (lng key k)).length 0 = false := by
    rw [hl]
    cases h : Nat.beq k 0 with
    | false => rfl
    | true => have := Nat.eq_of_beq_eq_true h; omega
  -- what each call tells
  have e38 := c38 false (lng key k) (by rw [lngS_len]; omega)
  have e45 := c45 [(false, (lng key k).take (k / 2)), (false, (lng key k).drop (k / 2))] (by simp) (fun t ht => by
    simp at ht
    rcases ht with rfl | rfl
    · show ((lng key k).take (k / 2)).length ≤ _
      rw [List.length_take, lngS_len]; omega
    · show ((lng key k).drop (k / 2)).length ≤ _
      rw [List.length_drop, lngS_len]; omega)
  have hcat : cat [(false, (lng key k).take (k / 2)), (false, (lng key k).drop (k / 2))] = lng key k := by
    show (lng key k).take (k / 2) ++ ((lng key k).drop (k / 2) ++ []) = _
    rw [List.append_nil, List.take_append_drop]
  have hall : allR [(false, (lng key k).take (k / 2)), (false, (lng key k).drop (k / 2))] = true := by
    show (rightT ((lng key k).take (k / 2)) && (rightT ((lng key k).drop (k / 2)) && true)) = true
    rw [rightT_of (by rw [List.length_take, lngS_len]; omega) ((lng_pw key k).sublist (List.take_sublist ..)), rightT_of (by rw [List.length_drop, lngS_len]; omega) ((lng_pw key k).sublist (List.drop_sublist ..))]
    rfl
  have hmer : mergeR [(false, (lng key k).take (k / 2)), (false, (lng key k).drop (k / 2))] = if k ≤ 2048 then (false, lng key k, 0) else (false, [], 4) := by
    unfold mergeR
    rw [hall, if_pos rfl, hcat, lngS_len, sorted_of (lng_pw key k)]
    rfl
  rw [hmer] at e45
  have e49 := c49 (0 :: List.replicate (16 * k) 0) (by rw [List.length_cons, List.length_replicate]; omega)
  have hdec : decR (0 :: List.replicate (16 * k) 0) = if k ≤ 2048 then (false, List.replicate k (0, 0), 0) else (false, [], 4) := by
    rw [decR_cons, List.length_replicate, if_pos (by omega), if_neg (by decide), show 16 * k / 16 = k by omega, db_zero]
    unfold decP2
    rw [srtB_t ((srt_pw _).2 (zero_pw k)), if_pos rfl, List.length_replicate]
    by_cases h : k ≤ 2048
    · rw [if_pos h, if_neg (by omega)]; rfl
    · rw [if_neg h, if_pos (by omega)]
  rw [hdec] at e49
  have e40 := c40 false (lng key k) (by rw [lngS_len]; omega)
  rw [lng_right] at e40
  have henc : encR false (lng key k) = if k ≤ 2048 then (encB false (lng key k), 0) else ([], 1) := by
    unfold encR
    rw [lng_right]
    by_cases h : k ≤ 2048 <;> simp [h]
  rw [henc] at e38
  show (bif Nat.beq (prs (lng key k)).length 0 then none else Option.bind (chkLe (Nat.add 0 k) (prs (lng key k)).length) fun _ => _) = _
  rw [hb, cond_false, hcut, hl]
  refine (goLe (by omega) _).trans ((goJn e38 _).trans ((goY (by omega) _ _).trans ((goY (by omega) _ _).trans ((goY (by omega) _ _).trans ((goY (by omega) _ _).trans ?_)))))
  have t1 : List.drop 0 (List.take (k / 2) (prs (lng key k))) = prs ((lng key k).take (k / 2)) := by rw [List.drop_zero]; exact (List.map_take ..).symm
  have t2 : List.drop (k / 2) (List.take k (prs (lng key k))) = prs ((lng key k).drop (k / 2)) := by
    rw [List.take_of_length_le (by omega)]; exact (List.map_drop ..).symm
  rw [t1, t2]
  refine (goTok e45 _).trans ((goY (by omega) _ _).trans ((goY (Int.le_refl _) _ _).trans ((goY (show Int.mul 1 ((16 * k : Nat) : Int) ≤ 281474976710656 by show 1 * ((16 * k : Nat) : Int) ≤ _; omega) _ _).trans ?_)))
  have hy : ∀ (a b c : Ob), yRows [a, b, c, Ob.mk OK.arr 5 1 1 (List.replicate (16 * k) [vb 0])] 1 (AV.arr 3 1 0 (16 * k)) = some (List.replicate (16 * k) [vb 0]) := fun a b c => by
    show (Option.bind (chkLe (0 + 16 * k) (List.replicate (16 * k) [vb 0]).length) fun _ => some (List.drop 0 (List.take (0 + 16 * k) (List.replicate (16 * k) [vb 0])))) = _
    rw [Nat.zero_add, show chkLe (16 * k) (List.replicate (16 * k) [vb 0]).length = some () from if_pos (by rw [List.length_replicate]; exact Nat.le_refl _), Option.bind_some, List.drop_zero, List.take_of_length_le (by rw [List.length_replicate]; exact Nat.le_refl _)]
  rw [hy, Option.bind_some, numsOf_zero, Option.bind_some, str_zero, show ByteArray.append (ByteArray.mk (Array.mk [UInt8.ofNat 0])) (mk (List.replicate (16 * k) 0)) = mk (0 :: List.replicate (16 * k) 0) from app_mk [0] _]
  refine (goN (by
    show ¬ (((1 + (List.replicate (16 * k) (0 : UInt8)).length : Nat) : Int) > 9223372036854775807)
    rw [List.length_replicate]; omega) _ _).trans ((goTok e49 _).trans ?_)
  by_cases h : k ≤ 2048
  · rw [decide_eq_true h] at e40
    simp only [if_pos h]
    refine (goD (by omega) _ _).trans ((goT e40 _ _).trans ((goD (by first | trivial | rfl | simp) _ _).trans ((goD ?_ _ _).trans ((goD (by first | trivial | rfl | simp) _ _).trans ((goT ((c47 false false _ _ (by rw [lngS_len]; omega)).trans (by rw [decide_eq_true ⟨rfl, rfl⟩])) _ _).trans ((goD (by first | trivial | rfl | simp) _ _).trans (goD ?_ _ _)))))))
    · show (((encB false (lng key k)).length : Nat) : Int) = IntKind.wrap .i64 (Int.add 1 ((16 * k : Nat) : Int))
      rw [show IntKind.wrap .i64 (Int.add 1 ((16 * k : Nat) : Int)) = 1 + ((16 * k : Nat) : Int) from wr_add (by omega) (by omega)]
      unfold encB
      rw [List.length_cons, ebs_len, lngS_len]
      omega
    · rw [prs_len, List.length_replicate]
  · rw [decide_eq_false h] at e40
    simp only [if_neg h]
    exact (goDn (by omega) _ _).trans ((goF e40 _ _).trans ((goD (by first | trivial | rfl | simp) _ _).trans ((goQ (a := []) (b := []) rfl _ _).trans ((goD (by first | trivial | rfl | simp) _ _).trans ((goD (by first | trivial | rfl | simp) _ _).trans ((goD (by first | trivial | rfl | simp) _ _).trans (goD (by first | trivial | rfl | simp) _ _)))))))
end Go.Proofs.Av
