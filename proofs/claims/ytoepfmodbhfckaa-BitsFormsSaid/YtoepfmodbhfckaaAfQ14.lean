/- Bits: law 14: what is read of bytes has these bytes, and none else. -/
import Derived.Test.YtoepfmodbhfckaaAfPP
import Derived.Test.YtoepfmodbhfckaaAfY14
namespace Go.Proofs.Av
open Go
theorem goEz {ρ : Type} {a : Int} (h : a = 0) (k j : Option ρ) : (bif a != 0 then k else j) = j := goE h k j
theorem loop14 (t : B) (ht : t.length ≤ 1000) (ks : List Int) (hk : ks.length ≤ 1000) : ∀ (rest : List Int) (i : Nat), ks.drop i = rest → i + rest.length = ks.length →
    E cx (Key.loop 14 [true, true, true, false, true, false]) [vbool false, vi i, vbool true, vs (mk t), .list 0 1 (ints ks), vi ks.length] [] = some (Out.jump (.exit 0) [vbool false, vi ks.length], [])
  | [], i, hd, hi => by
    simp only [List.length_nil, Nat.add_zero] at hi
    subst hi
    exact (f14_l0 _ _ _ _ _ _).trans (goDn (by omega) _ _)
  | k :: rest, i, hd, hi => by
    obtain ⟨hp, hd', hlt⟩ := drop_cons' hd
    simp only [List.length_cons] at hi
    have ih := loop14 t ht ks hk rest (i + 1) hd' (by omega)
    have q0 : q14_l0_0 false i true (mk t) (ints ks) ks.length = some (Out.jump (.exit 0) [vbool false, vi ks.length], []) := by
      unfold q14_l0_0
      rw [wS (by omega)]
      exact ih
    have u := c73 t ht k
    have v := c75 t ht k
    have ul := unl_len t k
    have vl := unv_len t k
    have q1 : q14_l0_1 (unvO t k).2.2 (unvO t k).1 i (ints (unvO t k).2.1) false true (mk t) (ints ks) ks.length = some (Out.jump (.exit 0) [vbool false, vi ks.length], []) := by
      unfold q14_l0_1
      by_cases h : (unvO t k).2.2 = 0
      · exact (goEz h _ _).trans q0
      · obtain ⟨h1, h2⟩ := unv_err h
        rw [h1, h2]
        exact (goEn h _ _).trans ((goEz rfl _ _).trans ((goDn (by simp) _ _).trans q0))
    have q2 : q14_l0_2 (unlO t k).2.2 (unlO t k).1 i (ints (unlO t k).2.1) (unvO t k).2.2 (unvO t k).1 (ints (unvO t k).2.1) false true (mk t) (ints ks) ks.length = some (Out.jump (.exit 0) [vbool false, vi ks.length], []) := by
      unfold q14_l0_2
      by_cases h : (unlO t k).2.2 = 0
      · exact (goEz h _ _).trans q1
      · obtain ⟨h1, h2⟩ := unl_err h
        rw [h1, h2]
        exact (goEn h _ _).trans ((goEz rfl _ _).trans ((goDn (by simp) _ _).trans q1))
    have q3 : q14_l0_3 (mk t) k i (unlO t k).2.2 (unlO t k).1 (ints (unlO t k).2.1) false true (ints ks) ks.length = some (Out.jump (.exit 0) [vbool false, vi ks.length], []) := by
      unfold q14_l0_3
      refine (goRB v _).trans ?_
      by_cases h : (unvO t k).2.2 = 0
      · obtain ⟨h1, h2, h3⟩ := unv_ok h
        have g := c58 (unvO t k).1 (unvO t k).2.1 (by omega)
        rw [h1] at g
        have g2 := c60 (unvO t k).1 (unvO t k).2.1 (by omega)
        rw [h3] at g2
        exact (goD h _ _).trans ((goJn g _).trans ((goEz rfl _ _).trans ((goQn rfl _ _).trans ((goE h2 _ _).trans ((goT g2 _ _).trans q2)))))
      · exact (goDn h _ _).trans q2
    refine (f14_l0 _ _ _ _ _ _).trans ((goD (by omega) _ _).trans ((goY (by omega) _ _).trans ((go1 (n := i) rfl hp _).trans ((goRB u _).trans ?_))))
    by_cases h : (unlO t k).2.2 = 0
    · obtain ⟨h1, h2, h3⟩ := unl_ok h
      have g := c56 (unlO t k).1 (unlO t k).2.1 (by omega)
      rw [h1] at g
      have g2 := c60 (unlO t k).1 (unlO t k).2.1 (by omega)
      rw [h3] at g2
      exact (goD h _ _).trans ((goJn g _).trans ((goEz rfl _ _).trans ((goQn rfl _ _).trans ((goDn (by omega) _ _).trans ((goT g2 _ _).trans q3)))))
    · exact (goDn h _ _).trans q3
theorem c14 (s : B) (n : Int) (hn : RI n) : E cx (Key.fn 14) [vs (mk s), vi n] [] = rb true := by
  have hmin : (if 300 < ((ByteArray.size (mk s) : Nat) : Int) then 300 else ((ByteArray.size (mk s) : Nat) : Int)) = ((min s.length 300 : Nat) : Int) := by
    rw [sz_mk]
    split <;> omega
  refine (f14 _ _).trans ?_
  rw [hmin, Int.toNat_natCast, ext_mk, List.drop_zero, sz_mk, sz_mk]
  have hl : (s.take (min s.length 300)).length = min s.length 300 := by rw [List.length_take]; omega
  rw [hl]
  generalize s.take (min s.length 300) = t at hl
  have hle : min s.length 300 ≤ 300 := by omega
  have hle2 : min s.length 300 ≤ s.length := by omega
  generalize min s.length 300 = m at hl hle hle2
  have hw : IntKind.wrap .i64 (Int.mul 8 (m : Int)) = ((8 * m : Nat) : Int) := (wr_mul (a := 8) (b := (m : Int)) (by omega) (by omega)).trans (by omega)
  rw [hw]
  have hw2 : IntKind.wrap .i64 (Int.add ((8 * m : Nat) : Int) 9) = ((8 * m + 9 : Nat) : Int) := wr_add (a := ((8 * m : Nat) : Int)) (b := 9) (by omega) (by omega)
  rw [hw2]
  refine (goY (by omega) _ _).trans ((goY (by omega) _ _).trans ((goI (c64 hn (by omega)) _).trans ?_))
  have g := loop14 t (by omega) [n, ((8 * m : Nat) : Int), pickI n ((8 * m + 9 : Nat) : Int)] (by simp) _ 0 rfl (by simp)
  exact (congrArg (fun o => Option.bind o _) g).trans rfl
end Go.Proofs.Av
