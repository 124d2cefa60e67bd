/- Bits: law 13: Unlist undoes List, Unvector Vector. -/
import Derived.Test.YtoepfmodbhfckaaAfPP
import Derived.Test.YtoepfmodbhfckaaAfY13
namespace Go.Proofs.Av
open Go
theorem c13 (n : Int) (raw : List Int) (m : Int) (other : List Int) (hn : RI n) (hr : ∀ r ∈ raw, RI r) (hm : RI m) (ho : ∀ r ∈ other, RI r) :
    E cx (Key.fn 13) [vi n, .list 0 1 (ints raw), vi m, .list 0 1 (ints other)] [] = rb true := by
  obtain ⟨_, _, ra⟩ := raw_eq (n := n) (below := 200) (by omega) (by omega) raw
  obtain ⟨_, _, rm⟩ := raw_eq (n := m) (below := 200) (by omega) (by omega) other
  have hcl := cN_lt (n := n) (below := 200) (by omega)
  have e1 := c55n hn (below := 200) (by omega) (by omega) hr
  have e2 := c55n hm (below := 200) (by omega) (by omega) ho
  generalize cN n 200 = c at ra hcl e1
  generalize kN n 200 raw = k at ra e1
  generalize cN m 200 = c' at rm e2
  generalize kN m 200 other = k' at rm e2
  have u1 := RB_cong (c73 (lstB c k) (lst_small ra) c) (unl_lst ra.1 ra.2.1 ra.2.2 (by omega))
  have u2 := RB_cong (c75 (vecB c k) (vec_small ra) c) (unv_vec ra.1 ra.2.1 ra.2.2)
  have u3 := RB_cong (c73 (lstB c k) (lst_small ra) ((c : Int) - 1)) (unl_long ra.2.2 (by omega))
  have hw : IntKind.wrap .i64 (Int.sub (c : Int) 1) = (c : Int) - 1 := wr_sub (by omega) (by omega)
  have same : E cx (Key.fn 67) [bA c (zs k), bA c (zs k)] [] = rb true := by rw [c67n ra, decide_eq_true ⟨rfl, rfl⟩]
  have q0 : q13_0 (mk (lstB c k)) c (mk (vecB c k)) = rb true := by
    unfold q13_0
    rw [sz_mk, sz_mk, lst_len, vec_len, wdiv (by omega), wS (by omega), show IntKind.wrap .i64 (Int.add (c : Int) 7) = ((c + 7 : Nat) : Int) from wr_add (a := (c : Int)) (b := 7) (by omega) (by omega), wdiv (by omega)]
    exact (goD rfl _ _).trans (goD rfl _ _)
  have q1 : q13_1 c c' (mk (lstB c k)) (mk (vecB c k)) (mk (vecB c' k')) (ints (zs k)) (ints (zs k')) = rb true := by
    unfold q13_1
    by_cases hc : c = c'
    · subst hc
      refine (goE rfl _ _).trans ?_
      by_cases hk : k = k'
      · subst hk
        exact (goQ rfl _ _).trans ((goT same _ _).trans q0)
      · exact (goQf (fun h => hk ((vec_inj ra.2.1 ra.2.2 rm.2.1 rm.2.2).1 h)) _ _).trans ((goF ((c67n ra).trans (by rw [decide_eq_false fun h => hk h.2])) _ _).trans q0)
    · exact (goEn (by omega) _ _).trans q0
  refine (f13 _ _ _ _).trans ?_
  refine (goBA e1 _).trans ((goBA e2 _).trans ((goJn (c56n ra) _).trans ((goJn (c56n rm) _).trans ((goJn (c58n ra) _).trans ((goJn (c58n rm) _).trans ((goRB u1 _).trans ((goRB u2 _).trans ?_)))))))
  rw [hw]
  refine (goRB u3 _).trans ?_
  refine (goD rfl _ _).trans ((goD rfl _ _).trans ((goD rfl _ _).trans ((goD rfl _ _).trans ((goD rfl _ _).trans ((goD rfl _ _).trans ((goT same _ _).trans ((goT same _ _).trans ((goD rfl _ _).trans ?_))))))))
  by_cases h : lstB c k = lstB c' k'
  · have h2 := (lst_inj ra.1 rm.1 ra.2.1 ra.2.2 rm.2.1 rm.2.2).1 h
    exact (goQ h _ _).trans ((goT ((c67n ra).trans (by rw [decide_eq_true h2])) _ _).trans q1)
  · exact (goQf h _ _).trans ((goF ((c67n ra).trans (by rw [decide_eq_false fun h2 => h ((lst_inj ra.1 rm.1 ra.2.1 ra.2.2 rm.2.1 rm.2.2).2 h2)])) _ _).trans q1)
end Go.Proofs.Av
