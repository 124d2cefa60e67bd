/- Bits: law 15: Union does not hang on the order of its arguments. -/
import Derived.Test.YtoepfmodbhfckaaAfPP
import Derived.Test.YtoepfmodbhfckaaAfY15
namespace Go.Proofs.Av
open Go
theorem c15 (n : Int) (one two three four : List Int) (hn : RI n) (h1 : ∀ r ∈ one, RI r) (h2 : ∀ r ∈ two, RI r) (h3 : ∀ r ∈ three, RI r) (h4 : ∀ r ∈ four, RI r) :
    E cx (Key.fn 15) [vi n, .list 0 1 (ints one), .list 0 1 (ints two), .list 0 1 (ints three), .list 0 1 (ints four)] [] = rb true := by
  obtain ⟨_, _, ra⟩ := raw_eq (n := n) (below := 60) (by omega) (by omega) one
  obtain ⟨_, _, rm⟩ := raw_eq (n := n) (below := 60) (by omega) (by omega) two
  obtain ⟨_, _, rc⟩ := raw_eq (n := n) (below := 60) (by omega) (by omega) three
  obtain ⟨_, _, rd⟩ := raw_eq (n := n) (below := 60) (by omega) (by omega) four
  have e1 := c55n hn (below := 60) (by omega) (by omega) h1
  have e2 := c55n hn (below := 60) (by omega) (by omega) h2
  have e3 := c55n hn (below := 60) (by omega) (by omega) h3
  have e4 := c55n hn (below := 60) (by omega) (by omega) h4
  generalize cN n 60 = N at ra rm rc rd e1 e2 e3 e4
  generalize kN n 60 one = a at ra e1
  generalize kN n 60 two = b at rm e2
  generalize kN n 60 three = c at rc e3
  generalize kN n 60 four = d at rd e4
  have hK1 : ∀ x ∈ [b, c], Rt N x := fun x hx => by
    simp at hx
    rcases hx with rfl | rfl
    · exact rm
    · exact rc
  have hK2 : ∀ x ∈ [a, b], Rt N x := fun x hx => by
    simp at hx
    rcases hx with rfl | rfl
    · exact ra
    · exact rm
  have hK3 : ∀ x ∈ [b], Rt N x := fun x hx => by simp at hx; subst hx; exact rm
  have hK4 : ∀ x ∈ [c], Rt N x := fun x hx => by simp at hx; subst hx; exact rc
  have hK5 : ∀ x ∈ ([] : List (List Nat)), Rt N x := fun x hx => by cases hx
  have u1 := c65n ra hK1 (by simp)
  have u2 := c65n rc hK2 (by simp)
  have u3 := c65n ra hK3 (by simp)
  have r3 := (un_nat ra hK3).2
  have u4 := c65n r3 hK4 (by simp)
  have u5 := c65n ra hK5 (by simp)
  have r1 := (un_nat ra hK1).2
  have r2 := (un_nat rc hK2).2
  have r4 := (un_nat r3 hK4).2
  have r5 := (un_nat ra hK5).2
  have m1 : ∀ x, x ∈ unN a [b, c] N ↔ x ∈ a ∨ x ∈ b ∨ x ∈ c := fun x => by rw [unN_mem ra hK1]; simp
  have m2 : ∀ x, x ∈ unN c [a, b] N ↔ x ∈ c ∨ x ∈ a ∨ x ∈ b := fun x => by rw [unN_mem rc hK2]; simp
  have m3 : ∀ x, x ∈ unN a [b] N ↔ x ∈ a ∨ x ∈ b := fun x => by rw [unN_mem ra hK3]; simp
  have m4 : ∀ x, x ∈ unN (unN a [b] N) [c] N ↔ (x ∈ a ∨ x ∈ b) ∨ x ∈ c := fun x => by rw [unN_mem r3 hK4, m3]; simp
  have m5 : ∀ x, x ∈ unN a [] N ↔ x ∈ a := fun x => by rw [unN_mem ra hK5]; simp
  have hlen := unN_len ra hK1
  simp only [List.flatten_cons, List.flatten_nil, List.append_nil, List.length_append] at hlen
  have v2 : unN a [b, c] N = unN c [a, b] N := nat_ext r1.2.1 r2.2.1 fun x => by rw [m1, m2]; exact ⟨fun h => h.elim (fun h => .inr (.inl h)) fun h => h.elim (fun h => .inr (.inr h)) .inl, fun h => h.elim (fun h => .inr (.inr h)) fun h => h.elim .inl fun h => .inr (.inl h)⟩
  have v4 : unN a [b, c] N = unN (unN a [b] N) [c] N := nat_ext r1.2.1 r4.2.1 fun x => by rw [m1, m4, or_assoc]
  have v5 : unN a [] N = a := nat_ext r5.2.1 ra.2.1 fun x => m5 x
  generalize unN c [a, b] N = v at u2 r2 m2 v2
  generalize unN a [b] N = w at u3 r3 m3 u4 r4 m4 v4
  generalize unN w [c] N = y at u4 r4 m4 v4
  generalize unN a [] N = z at u5 r5 m5 v5
  generalize unN a [b, c] N = u at u1 r1 m1 v2 v4 hlen
  have la := ra.len
  have lb := rm.len
  have lc := rc.len
  have lu := r1.len
  simp only [List.length_map] at la lb lc lu
  have q0 : q15_0 (ints (zs u)) (ints (zs a)) (ints (zs b)) (ints (zs c)) = rb true := by
    unfold q15_0
    have z1 : ∀ k : List Nat, (ints (zs k)).length = k.length := fun k => by rw [ints_len, List.length_map]
    rw [z1, z1, z1, z1, wr_add (a := (a.length : Int)) (b := (b.length : Int)) (by omega) (by omega), wr_add (a := (a.length : Int) + (b.length : Int)) (b := (c.length : Int)) (by omega) (by omega)]
    exact goD (by omega) _ _
  have s1 : E cx (Key.fn 67) [bA N (zs u), bA N (zs v)] [] = rb true := (c67n r1).trans (by rw [decide_eq_true ⟨rfl, v2⟩])
  have s2 : E cx (Key.fn 67) [bA N (zs u), bA N (zs y)] [] = rb true := (c67n r1).trans (by rw [decide_eq_true ⟨rfl, v4⟩])
  have s3 : E cx (Key.fn 67) [bA N (zs z), bA N (zs a)] [] = rb true := (c67n r5).trans (by rw [decide_eq_true ⟨rfl, v5⟩])
  have t1 : E cx (Key.fn 70) [bA N (zs a), bA N (zs u)] [] = rb true := (c70n ra r1).trans (by rw [subN.2 fun x hx => (m1 x).2 (.inl hx)])
  have t2 : E cx (Key.fn 70) [bA N (zs b), bA N (zs u)] [] = rb true := (c70n rm r1).trans (by rw [subN.2 fun x hx => (m1 x).2 (.inr (.inl hx))])
  have t3 : E cx (Key.fn 70) [bA N (zs c), bA N (zs u)] [] = rb true := (c70n rc r1).trans (by rw [subN.2 fun x hx => (m1 x).2 (.inr (.inr hx))])
  have q1 : ¬ (subB (zs u) (zs d) = true) → q15_1 0 0 0 0 0 N (ints (zs u)) N (ints (zs v)) N (ints (zs y)) N (ints (zs z)) N (ints (zs a)) N (ints (zs b)) N (ints (zs c)) N (ints (zs d)) = rb true := fun h => by
    unfold q15_1
    have hs : subB (zs u) (zs d) = false := by simpa using h
    exact (goD rfl _ _).trans ((goD rfl _ _).trans ((goD rfl _ _).trans ((goD rfl _ _).trans ((goD rfl _ _).trans ((goT s1 _ _).trans ((goT s2 _ _).trans ((goT s3 _ _).trans ((goT t1 _ _).trans ((goT t2 _ _).trans ((goT t3 _ _).trans ((goF ((c70n r1 rd).trans (by rw [hs])) _ _).trans q0)))))))))))
  refine (f15 _ _ _ _ _).trans ?_
  refine (goBA e1 _).trans ((goBA e2 _).trans ((goBA e3 _).trans ((goBA e4 _).trans ((goRB u1 _).trans ((goRB u2 _).trans ((goRB u3 _).trans ((goRB u4 _).trans ?_)))))))
  have u5' : RB (E cx (Key.fn 65) [bA N (zs a), .val (.slice none 0 0)] []) (N, zs z, 0) := by rw [n65]; exact u5
  refine (goRB u5' _).trans ?_
  cases ha : subB (zs a) (zs d) with
  | false => exact (goF ((c70n ra rd).trans (by rw [ha])) _ _).trans (q1 fun h => by rw [subN.2 fun x hx => subN.1 h x ((m1 x).2 (.inl hx))] at ha; cases ha)
  | true =>
    refine (goT ((c70n ra rd).trans (by rw [ha])) _ _).trans ?_
    cases hb : subB (zs b) (zs d) with
    | false => exact (goF ((c70n rm rd).trans (by rw [hb])) _ _).trans (q1 fun h => by rw [subN.2 fun x hx => subN.1 h x ((m1 x).2 (.inr (.inl hx)))] at hb; cases hb)
    | true =>
      refine (goT ((c70n rm rd).trans (by rw [hb])) _ _).trans ?_
      cases hc : subB (zs c) (zs d) with
      | false => exact (goF ((c70n rc rd).trans (by rw [hc])) _ _).trans (q1 fun h => by rw [subN.2 fun x hx => subN.1 h x ((m1 x).2 (.inr (.inr hx)))] at hc; cases hc)
      | true =>
        have hs : subB (zs u) (zs d) = true := subN.2 fun x hx => ((m1 x).1 hx).elim (subN.1 ha x) fun h => h.elim (subN.1 hb x) (subN.1 hc x)
        exact (goT ((c70n rc rd).trans (by rw [hc])) _ _).trans ((goD rfl _ _).trans ((goD rfl _ _).trans ((goD rfl _ _).trans ((goD rfl _ _).trans ((goD rfl _ _).trans ((goT s1 _ _).trans ((goT s2 _ _).trans ((goT s3 _ _).trans ((goT t1 _ _).trans ((goT t2 _ _).trans ((goT t3 _ _).trans ((goT ((c70n r1 rd).trans (by rw [hs])) _ _).trans q0))))))))))))
end Go.Proofs.Av
