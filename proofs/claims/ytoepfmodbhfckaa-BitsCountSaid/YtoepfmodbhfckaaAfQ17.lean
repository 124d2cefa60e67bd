/- Bits: law 17: as many bits are set as there are On. -/
import Derived.Test.YtoepfmodbhfckaaAfPP
import Derived.Test.YtoepfmodbhfckaaAfY17
namespace Go.Proofs.Av
open Go
theorem un_none {k : List Int} (hk : k.Pairwise (· < ·)) (n : Int) : unB k [(n, [])] = k := int_ext (un_sorted _ _) hk fun x => by rw [un_mem]; simp
theorem c17 (n : Int) (raw : List Int) (hn : RI n) (hr : ∀ r ∈ raw, RI r) : E cx (Key.fn 17) [vi n, .list 0 1 (ints raw)] [] = rb true := by
  obtain ⟨_, _, ra⟩ := raw_eq (n := n) (below := 200) (by omega) (by omega) raw
  have e1 := c55n hn (below := 200) (by omega) (by omega) hr
  generalize cN n 200 = c at ra e1
  generalize kN n 200 raw = k at ra e1
  have hl := ra.len
  have r0 : Rt c [] := ⟨ra.1, .nil, fun x hx => by cases hx⟩
  have hr0 : rightB c [] = true := r0.right
  have same : E cx (Key.fn 67) [bA c (zs k), bA c (zs k)] [] = rb true := by rw [c67n ra, decide_eq_true ⟨rfl, rfl⟩]
  have hal : alikeB c (zs k) ((c : Int), []) = true := alike_iff.2 ⟨ra.right, hr0, rfl⟩
  have u := w65 c (zs k) (by omega) [[vi c, .val (.slice none 0 0)]] [((c : Int), [])] ⟨rfl, fun i t ht => by
    match i, ht with
    | 0, ht => cases ht; exact ⟨_, rfl, rfl⟩⟩ (by simp) (by simp)
  rw [unO_of ra.right (by simpa using hal), un_none (ofNat_pw ra.2.1)] at u
  have hzl : (ints (zs k)).length = k.length := by rw [ints_len, List.length_map]
  have hkl : k.length ≤ 2048 := by rw [List.length_map] at hl; exact hl
  refine (f17 _ _).trans ?_
  refine (goBA e1 _).trans ((goJn (c56n ra) _).trans ((goJn (c58n ra) _).trans ((goRB u _).trans ((goD rfl _ _).trans ((goD rfl _ _).trans ((goD rfl _ _).trans ((goI (c77 _ (lst_small ra)) _).trans ?_)))))))
  rw [hzl, wS (by omega), cnt_lst ra.2.1 ra.2.2]
  refine (goD rfl _ _).trans ((goI (c77 _ (vec_small ra)) _).trans ?_)
  rw [cnt_vec ra.2.1 ra.2.2]
  refine (goD rfl _ _).trans ((goT same _ _).trans ?_)
  refine (goT ((n68 c c (zs k)).trans ((c68n ra r0).trans (congrArg rb (disN.2 fun x _ h => by cases h)))) _ _).trans ?_
  exact goT ((n70 c c (zs k)).trans ((c70n r0 ra).trans (congrArg rb (subN.2 fun x h => by cases h)))) _ _
end Go.Proofs.Av
