/- OctetsLong: the law's tree is true. -/
import Derived.Test.YtoaihfbmoppajaaAdW3
import Derived.Test.YtoaihfbmoppajaaAdY4
namespace Go.Proofs.Av
open Go
variable {ρ : Type}
/-- Both Joins tell the same. -/
theorem goJJ (f : B) (P : List B) (hf : f.length ≤ 1000000) (F1 F2 K : Option ρ) :
    ((E cx (Key.fn 20) [vs (mk f), .list 0 1 (rowsB P)] []).bind fun r => (ret1 r).bind fun v => v.tup?.bind fun vs => (uncons? vs).bind fun p2 => (AV.str? p2.fst).bind fun s => (uncons? p2.snd).bind fun p3 => (AV.int? .i64 p3.fst).bind fun e => (nil? p3.snd).bind fun _ =>
      (E cx (Key.fn 21) [Av.vs (mk f), .list 0 1 (rowsB P)] []).bind fun r => (ret1 r).bind fun v => v.tup?.bind fun vs => (uncons? vs).bind fun p2 => (AV.str? p2.fst).bind fun s' => (uncons? p2.snd).bind fun p3 => (AV.int? .i64 p3.fst).bind fun e' => (nil? p3.snd).bind fun _ =>
      bif !List.beq (ByteArray.toList s) (ByteArray.toList s') then F1 else bif e != e' then F2 else K) = K := by
  refine (goJn (c20 f P hf) _).trans ((goJn (c21 f P hf) _).trans ((goQn rfl _ _).trans (goE rfl _ _)))
theorem d4 {n part : Int} (h1 : RI n) (h2 : RI part) : E cx (Key.fn 4) [vi n, vi part] [] = rb true := by
  refine (f4 n part).trans ?_
  refine (goI (c15 h1 (n := 50) (by omega)) _).trans ?_
  obtain ⟨hp0, hp1⟩ := pickI_lt (c := n) (n := 50) (by omega)
  generalize pickI n 50 = p at hp0 hp1
  obtain ⟨a, ha⟩ : ∃ a : Nat, 65500 + p = a := ⟨(65500 + p).toNat, by omega⟩
  have hw : IntKind.wrap .i64 (Int.add 65500 p) = (a : Int) := (wr_add (by omega) (by omega)).trans ha
  have q0 : q4_0 p = a := hw
  have q1 : q4_1 p = bytesI (List.replicate a 0) := by unfold q4_1; rw [q0]; simp [bytesI]
  rw [hw, q0, q1, Int.toNat_natCast]
  refine (goY (by omega) _ _).trans ((goY (Int.le_refl _) _ _).trans ((goY (by show 1 * (a : Int) ≤ _; omega) _ _).trans ?_))
  rw [yRows_arr (by simp [bytesI])]
  show ((numsOf (bytesI (List.replicate a 0))).bind _) = _
  rw [numsOf_bytes]
  show (Option.bind (E cx (Key.fn 15) [vi part, vi 60] []) _) = _
  refine (goI (c15 h2 (n := 60) (by omega)) _).trans ?_
  obtain ⟨hq0, hq1⟩ := pickI_lt (c := part) (n := 60) (by omega)
  obtain ⟨b, hb⟩ : ∃ b : Nat, pickI part 60 = b := ⟨(pickI part 60).toNat, by omega⟩
  rw [hb] at hq0 hq1 ⊢
  refine (goY (by omega) _ _).trans ((goY (Int.le_refl _) _ _).trans ((goY (by show 1 * (b : Int) ≤ _; omega) _ _).trans ?_))
  rw [Int.toNat_natCast]
  have e2 : (List.replicate b [vb 0] : List (List AV)) = bytesI (List.replicate b 0) := by simp [bytesI]
  rw [e2]
  have ey : yRows [⟨.arr, 5, 1, 1, bytesI (List.replicate a 0)⟩, ⟨.arr, 5, 1, 1, bytesI (List.replicate b 0)⟩] 1 (.arr 1 1 0 b) = some (bytesI (List.replicate b 0)) := yRows_arr (by simp [bytesI])
  rw [ey]
  show ((numsOf (bytesI (List.replicate b 0))).bind _) = _
  rw [numsOf_bytes]
  have sA : Go.strOfNums (List.replicate a 0) = mk (List.replicate a 0) := by rw [strOf]; simp
  have sB : Go.strOfNums (List.replicate b 0) = mk (List.replicate b 0) := by rw [strOf]; simp
  have lA : (List.replicate a (0 : UInt8)).length ≤ 65600 := by rw [List.length_replicate]; omega
  have lB : (List.replicate b (0 : UInt8)).length ≤ 60 := by rw [List.length_replicate]; omega
  show (Option.bind (E cx (Key.fn 20) [vs (Go.strOfNums (List.replicate a 0)), .list 0 1 []] []) _) = _
  rw [sA, sB]
  generalize List.replicate a (0 : UInt8) = A at lA
  generalize List.replicate b (0 : UInt8) = B' at lB
  refine (goJJ A [] (by omega) _ _ _).trans ?_
  refine (goJJ A [B'] (by omega) _ _ _).trans ?_
  refine (goJJ A [B', B'] (by omega) _ _ _).trans ?_
  refine (goJJ A [[], [], [], [], [], [], [], []] (by omega) _ _ _).trans ?_
  refine (goJJ A [[], [], [], [], [], [], [], [], []] (by omega) _ _ _).trans ?_
  refine (goJn (c20 [] [A, B'] (by decide)) _).trans ((goJn (c21 [] [A, B'] (by decide)) _).trans ?_)
  have hbig : ¬ ((Nat.add (ByteArray.size (mk A)) (ByteArray.size (mk B')) : Nat) : Int) > 9223372036854775807 := nobig (by show A.length + B'.length ≤ _; omega)
  refine (goN hbig _ _).trans ?_
  rw [app_mk]
  have r1 : RI (A.length : Int) := ⟨by omega, by omega⟩
  have r2 : RI (0 : Int) := ⟨by omega, by omega⟩
  refine (goSp (c22 (A ++ B') r1 r2) _).trans ((goN hbig _ _).trans ((goSp (c23 (A ++ B') r1 r2) _).trans ?_))
  refine (goQ rfl _ _).trans ((goD rfl _ _).trans ((goQ rfl _ _).trans ((goD rfl _ _).trans ?_)))
  have h := c24 (splitR (A ++ B') A.length 0).2.1 (splitR (A ++ B') A.length 0).2.1 (by have := splitR_len (A ++ B') r1 r2; omega)
  rw [decide_eq_true rfl] at h
  exact goT h _ _
end Go.Proofs.Av
