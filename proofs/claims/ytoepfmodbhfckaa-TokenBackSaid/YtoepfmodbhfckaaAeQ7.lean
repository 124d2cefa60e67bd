/- Tokens: the law that what is written is read. -/
import Derived.Test.YtoepfmodbhfckaaAePQ
import Derived.Test.YtoepfmodbhfckaaAeY7
namespace Go.Proofs.Av
open Go
theorem c7 (one two : List Int) (h1 : ∀ a ∈ one, RI a) (h2 : ∀ a ∈ two, RI a) (a b : Bool) (s : B) : E cx (Key.fn 7) [.list 0 1 (ints one), .list 0 1 (ints two), vbool a, vbool b, vs (mk s)] [] = rb true := by
  have ra := tokP_right one
  have rb' := tokP_right two
  have ua := tokP_inU one
  have ub := tokP_inU two
  have la := tokP_len one
  have lb := tokP_len two
  have e1 : E cx (Key.fn 38) [.agg [vbool a, .list 0 2 (prs (tokP one))]] [] = RJ (encB a (tokP one)) 0 := (c38 a _ (by omega)).trans (by rw [encR_ok ra])
  have e2 : E cx (Key.fn 38) [.agg [vbool b, .list 0 2 (prs (tokP two))]] [] = RJ (encB b (tokP two)) 0 := (c38 b _ (by omega)).trans (by rw [encR_ok rb'])
  have d1 := c49 (encB a (tokP one)) (by rw [encB_len]; omega)
  rw [decR_enc a _ ra ua] at d1
  have s1 := c47 a a (tokP one) (tokP one) (by omega)
  rw [decide_eq_true ⟨rfl, rfl⟩] at s1
  have s2 := c47 a b (tokP one) (tokP two) (by omega)
  have tail : (bif decide ((0 : Int) = 0) then bif decide ((0 : Int) = 0) then bif decide ((0 : Int) = 0) then
      Option.bind (E cx (Key.fn 47) [.agg [vbool a, .list 0 2 (prs (tokP one))], .agg [vbool a, .list 0 2 (prs (tokP one))]] []) fun r => (ret1 r).bind fun v => v.bool?.bind fun b760 => bif b760 then
        bif List.beq (ByteArray.toList (mk (encB a (tokP one)))) (ByteArray.toList (mk (encB b (tokP two)))) then
          Option.bind (E cx (Key.fn 47) [.agg [vbool a, .list 0 2 (prs (tokP one))], .agg [vbool b, .list 0 2 (prs (tokP two))]] []) fun r => (ret1 r).bind fun v => v.bool?.bind fun b763 => bif b763 then
            bif decide (((ByteArray.size (mk (encB a (tokP one))) : Nat) : Int) = IntKind.wrap .i64 (Int.add 1 (IntKind.wrap .i64 (Int.mul 16 ((prs (tokP one)).length : Int))))) then some (Out.ret (vbool true), []) else some (Out.ret (vbool false), [])
            else some (Out.ret (vbool false), [])
        else
          Option.bind (E cx (Key.fn 47) [.agg [vbool a, .list 0 2 (prs (tokP one))], .agg [vbool b, .list 0 2 (prs (tokP two))]] []) fun r => (ret1 r).bind fun v => v.bool?.bind fun b763 => bif b763 then some (Out.ret (vbool false), []) else
            bif decide (((ByteArray.size (mk (encB a (tokP one))) : Nat) : Int) = IntKind.wrap .i64 (Int.add 1 (IntKind.wrap .i64 (Int.mul 16 ((prs (tokP one)).length : Int))))) then some (Out.ret (vbool true), []) else some (Out.ret (vbool false), [])
      else some (Out.ret (vbool false), [])
      else some (Out.ret (vbool false), []) else some (Out.ret (vbool false), []) else some (Out.ret (vbool false), ([] : Heap))) = rb true := by
    have hlen : ((ByteArray.size (mk (encB a (tokP one))) : Nat) : Int) = IntKind.wrap .i64 (Int.add 1 (IntKind.wrap .i64 (Int.mul 16 ((prs (tokP one)).length : Int)))) := by
      rw [prs_len, wr_mul (a := 16) (by omega) (by omega), wr_add (a := 1) (by omega) (by omega)]
      show (((encB a (tokP one)).length : Nat) : Int) = _
      rw [encB_len]
      omega
    refine (goD rfl _ _).trans ((goD rfl _ _).trans ((goD rfl _ _).trans ((goT s1 _ _).trans ?_)))
    by_cases he : encB a (tokP one) = encB b (tokP two)
    · rw [decide_eq_true (encB_inj ra rb' ua ub he)] at s2
      exact (goQ he _ _).trans ((goT s2 _ _).trans (goD hlen _ _))
    · rw [decide_eq_false (fun h => he (by rw [h.1, h.2]))] at s2
      exact (goQf he _ _).trans ((goF s2 _ _).trans (goD hlen _ _))
  refine (f7 _ _ _ _ _).trans ?_
  refine (goA (c37 one h1 a) _).trans ?_
  refine (goA (c37 two h2 b) _).trans ?_
  refine (goJn e1 _).trans ?_
  refine (goJn e2 _).trans ?_
  refine (goTok d1 _).trans ?_
  obtain ⟨m, hm, hm1, hm2⟩ : ∃ m : Nat, (if (100 : Int) < ((ByteArray.size (mk s) : Nat) : Int) then (100 : Int) else ((ByteArray.size (mk s) : Nat) : Int)) = m ∧ m ≤ s.length ∧ m ≤ 100 := by
    by_cases h : (100 : Int) < ((ByteArray.size (mk s) : Nat) : Int)
    · exact ⟨100, if_pos h, by have : (100 : Int) < (s.length : Int) := h; omega, Nat.le_refl _⟩
    · exact ⟨s.length, if_neg h, Nat.le_refl _, by have : ¬ (100 : Int) < (s.length : Int) := h; omega⟩
  rw [hm]
  have hx : ByteArray.extract (mk s) 0 (Int.toNat (m : Int)) = mk (s.take m) := by
    rw [ext_mk, Int.toNat_natCast, List.drop_zero]
  rw [hx]
  refine (goY (by omega) _ _).trans ((goY (by show (m : Int) ≤ (s.length : Int); omega) _ _).trans ?_)
  have hsl : (s.take m).length ≤ 100 := by rw [List.length_take]; omega
  have d2 := c49 (s.take m) (by omega)
  refine (goTok d2 _).trans ?_
  by_cases h0 : (decR (s.take m)).2.2 = 0
  · have hq : decR (s.take m) = ((decR (s.take m)).1, (decR (s.take m)).2.1, 0) := by rw [← h0]
    obtain ⟨rq, hq2⟩ := decR_right hq
    have hll := rightT_len rq
    have e3 : E cx (Key.fn 38) [.agg [vbool (decR (s.take m)).1, .list 0 2 (prs (decR (s.take m)).2.1)]] [] = RJ (s.take m) 0 := (c38 _ _ (by omega)).trans (by rw [encR_ok rq, hq2])
    refine (goD h0 _ _).trans ((goJn e3 _).trans ?_)
    refine (goE rfl _ _).trans ((goY (by omega) _ _).trans ((goY (by show (m : Int) ≤ (s.length : Int); omega) _ _).trans ((goQn rfl _ _).trans ?_)))
    exact tail
  · refine (goDn h0 _ _).trans ?_
    exact tail
end Go.Proofs.Av
