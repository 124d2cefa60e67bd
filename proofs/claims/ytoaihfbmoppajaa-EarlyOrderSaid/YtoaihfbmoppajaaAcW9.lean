/- EarlyOrder: at every input it comes to true. -/
import Derived.Test.YtoaihfbmoppajaaAcW12
import Derived.Test.YtoaihfbmoppajaaAcY9
namespace Go.Proofs.Av
open Go
/-- Two strictly rising lists of the same members are the same. -/
theorem sorted_ext : ∀ {a b : List W}, a.Pairwise lt → b.Pairwise lt → (∀ x, x ∈ a ↔ x ∈ b) → a = b
  | [], [], _, _, _ => rfl
  | [], y :: b, _, _, h => by have := (h y).2 (List.mem_cons_self ..); cases this
  | x :: a, [], _, _, h => by have := (h x).1 (List.mem_cons_self ..); cases this
  | x :: a, y :: b, ha, hb, h => by
    obtain ⟨a1, a2⟩ := List.pairwise_cons.1 ha
    obtain ⟨b1, b2⟩ := List.pairwise_cons.1 hb
    have hxy : x = y := by
      rcases List.mem_cons.1 ((h x).1 (List.mem_cons_self ..)) with h1 | h1
      · exact h1
      · rcases List.mem_cons.1 ((h y).2 (List.mem_cons_self ..)) with h2 | h2
        · exact h2.symm
        · exact absurd (b1 x h1) (lt_asym (a1 y h2))
    subst hxy
    refine congrArg _ (sorted_ext a2 b2 fun z => ?_)
    constructor
    · intro hz
      rcases List.mem_cons.1 ((h z).1 (List.mem_cons_of_mem _ hz)) with h1 | h1
      · subst h1; exact absurd (a1 z hz) (lt_irr z)
      · exact h1
    · intro hz
      rcases List.mem_cons.1 ((h z).2 (List.mem_cons_of_mem _ hz)) with h1 | h1
      · subst h1; exact absurd (b1 z hz) (lt_irr z)
      · exact h1
def mk (r : R3) (j : Nat) : W := ⟨(waitOf r).a, (j : Int), (waitOf r).p, (waitOf r).d⟩
theorem mk_may (r : R3) (j : Nat) : may (mk r j) = true := by
  have := wait_may r
  simp [may, mk] at this ⊢
  exact this.1
def rot (n k i : Nat) : Nat := (n - 1 - i + k) % n
theorem rot_lt {n k i : Nat} (hn : 0 < n) : rot n k i < n := Nat.mod_lt _ hn
theorem rot_rot {n k j : Nat} (hj : j < n) (hk : k ≤ n) : rot n k (rot n k j) = j := by
  unfold rot
  have hn : 0 < n := by omega
  rcases Nat.lt_or_ge (n - 1 - j + k) n with h | h
  · rw [Nat.mod_eq_of_lt h]
    have : n - 1 - (n - 1 - j + k) + k = j := by omega
    rw [this, Nat.mod_eq_of_lt hj]
  · have h1 : (n - 1 - j + k) % n = n - 1 - j + k - n := by rw [Nat.mod_eq_sub_mod h, Nat.mod_eq_of_lt (by omega)]
    rw [h1]
    have : n - 1 - (n - 1 - j + k - n) + k = j + n := by omega
    rw [this, Nat.add_mod_right, Nat.mod_eq_of_lt hj]
theorem rot_inj {n k i j : Nat} (hi : i < n) (hj : j < n) (hk : k ≤ n) (h : rot n k i = rot n k j) : i = j := by
  rw [← rot_rot hi hk, h, rot_rot hj hk]
theorem mem_ins {q : List W} {w x : W} : x ∈ ins q w ↔ x = w ∨ x ∈ q := by
  unfold ins
  have := List.take_append_drop (cnt (fLt w) q) q
  constructor
  · intro h
    rcases List.mem_append.1 h with h | h
    · exact .inr (List.mem_of_mem_take h)
    · rcases List.mem_cons.1 h with h | h
      · exact .inl h
      · exact .inr (List.mem_of_mem_drop h)
  · rintro (h | h)
    · subst h; simp
    · rw [← this] at h
      rcases List.mem_append.1 h with h | h
      · exact List.mem_append_left _ h
      · exact List.mem_append_right _ (List.mem_cons_of_mem _ h)
/-- One more comes in: those that wait have other numbers. -/
theorem put_new {q : List W} {w : W} (hq : right q = true) (hw : may w = true) (hl : q.length < 100) (hne : ∀ v ∈ q, v.s ≠ w.s) : putF q 100 w = (ins q w, 0) ∧ right (ins q w) = true := by
  have ht : twice q w = false := by
    rw [twice_any w hq]
    rw [List.any_eq_false]
    intro v hv
    have := hne v hv
    simp [same, this]
  refine ⟨?_, ins_right hq hw ht⟩
  simp [putF, hq, hw, ht, show ¬ ((q.length : Int) ≥ 100) by omega]
abbrev P9 : List Bool := [true, true, true, true, true, true, false, true, false]
theorem l9 (l : List R3) (hok : ∀ r ∈ l, r.ok) (ok : Bool) (N k : Nat) (hN : N ≤ 30) (hNl : N ≤ l.length) (hk : k ≤ N) : ∀ (n i : Nat) (a b : List W), n + i = N → right a = true → right b = true → a.length = i → b.length = i →
    (∀ x, x ∈ a ↔ ∃ (j : Nat) (h : j < l.length), j < i ∧ x = mk l[j] j) → (∀ x, x ∈ b ↔ ∃ (j : Nat) (h : rot N k j < l.length), j < i ∧ x = mk l[rot N k j] (rot N k j)) →
    ∃ (a' b' : List W), E cx (.loop 9 P9) [vbool false, lq a, lq b, vi (i : Int), .list 0 3 (raws l), vbool ok, vi (N : Int), vi (k : Int)] [] = some (Out.jump (.exit 0) [vbool false, lq a', lq b', vi (N : Int)], []) ∧
      right a' = true ∧ right b' = true ∧ a'.length = N ∧ b'.length = N ∧
      (∀ x, x ∈ a' ↔ ∃ (j : Nat) (h : j < l.length), j < N ∧ x = mk l[j] j) ∧ (∀ x, x ∈ b' ↔ ∃ (j : Nat) (h : rot N k j < l.length), j < N ∧ x = mk l[rot N k j] (rot N k j))
  | 0, i, a, b, hn, ha, hb, la, lb, ma, mb => by
    have : i = N := by omega
    subst this
    exact ⟨a, b, (f9_l0 _ _ _ _ _ _ _ _).trans (goDn (by omega) _ _), ha, hb, la, lb, ma, mb⟩
  | n + 1, i, a, b, hn, ha, hb, la, lb, ma, mb => by
    have hi : i < N := by omega
    have hil : i < l.length := by omega
    have hv : l[i]? = some l[i] := List.getElem?_eq_getElem hil
    have hr := rot_lt (n := N) (k := k) (i := i) (by omega)
    have hrl : rot N k i < l.length := by omega
    have hv2 : l[rot N k i]? = some l[rot N k i] := List.getElem?_eq_getElem hrl
    have h1 := hok _ (List.getElem_mem hil)
    have h2 := hok _ (List.getElem_mem hrl)
    have w1 : IntKind.wrap .i64 (Int.sub (N : Int) 1) = (N : Int) - 1 := wr_sub (a := (N : Int)) (b := 1) (by omega) (by omega)
    have w2 : IntKind.wrap .i64 (Int.sub ((N : Int) - 1) (i : Int)) = (N : Int) - 1 - i := wr_sub (a := (N : Int) - 1) (b := (i : Int)) (by omega) (by omega)
    have w3 : IntKind.wrap .i64 (Int.add ((N : Int) - 1 - i) (k : Int)) = (N : Int) - 1 - i + k := wr_add (a := (N : Int) - 1 - i) (b := (k : Int)) (by omega) (by omega)
    have w4 : Int.tmod ((N : Int) - 1 - i + k) (N : Int) = (rot N k i : Int) := by
      rw [Int.tmod_eq_emod_of_nonneg (by omega)]
      unfold rot
      rw [Int.natCast_emod]
      congr 1
      omega
    have hw : IntKind.wrap .i64 (Int.add (i : Int) 1) = ((i + 1 : Nat) : Int) := by rw [wr_add (a := (i : Int)) (b := 1) (by omega) (by omega)]; omega
    obtain ⟨p1, r1⟩ := put_new (q := a) (w := mk l[i] i) ha (mk_may _ _) (by omega) (fun v hv => by
      obtain ⟨j, hj, hji, rfl⟩ := (ma v).1 hv
      simp only [mk]
      omega)
    obtain ⟨p2, r2⟩ := put_new (q := b) (w := mk l[rot N k i] (rot N k i)) hb (mk_may _ _) (by omega) (fun v hv => by
      obtain ⟨j, hj, hji, rfl⟩ := (mb v).1 hv
      simp only [mk]
      intro he
      have := rot_inj (n := N) (k := k) (i := j) (j := i) (by omega) hi hk (by omega)
      omega)
    obtain ⟨a', b', g⟩ := l9 l hok ok N k hN hNl hk n (i + 1) (ins a (mk l[i] i)) (ins b (mk l[rot N k i] (rot N k i))) (by omega) r1 r2 (by rw [ins_len, la]) (by rw [ins_len, lb])
      (fun x => by
        rw [mem_ins, ma x]
        constructor
        · rintro (rfl | ⟨j, hj, hji, rfl⟩)
          · exact ⟨i, hil, by omega, rfl⟩
          · exact ⟨j, hj, by omega, rfl⟩
        · rintro ⟨j, hj, hji, rfl⟩
          by_cases hji2 : j = i
          · subst hji2; exact .inl rfl
          · exact .inr ⟨j, hj, by omega, rfl⟩)
      (fun x => by
        rw [mem_ins, mb x]
        constructor
        · rintro (rfl | ⟨j, hj, hji, rfl⟩)
          · exact ⟨i, hrl, by omega, rfl⟩
          · exact ⟨j, hj, by omega, rfl⟩
        · rintro ⟨j, hj, hji, rfl⟩
          by_cases hji2 : j = i
          · subst hji2; exact .inl rfl
          · exact .inr ⟨j, hj, by omega, rfl⟩)
    refine ⟨a', b', (f9_l0 _ _ _ _ _ _ _ _).trans ((goD (by omega) _ _).trans ((goY (by omega) _ _).trans ((go3 rfl hv _).trans ((goR (e27 _ h1) _).trans ((goLI (e29 a 100 (mk l[i] i) (by omega)) _).trans ((goN (by omega) _ _).trans ?_)))))), g.2⟩
    rw [w1, w2, w3, w4, hw]
    refine (goY (by omega) _ _).trans ((go3 rfl hv2 _).trans ((goR (e27 _ h2) _).trans ((goLI (e29 b 100 (mk l[rot N k i] (rot N k i)) (by omega)) _).trans ?_)))
    rw [p1, p2]
    exact (goE rfl _ _).trans ((goE rfl _ _).trans g.1)
theorem law9c (raw : List R3) (turn : Int) (hraw : ∀ r ∈ raw, r.ok) (hB : raw.length ≤ 9223372036854775807) (ht : RI turn) :
    E cx (.fn 9) [.list 0 3 (raws raw), vi turn] [] = rb true := by
  have hR : (raws raw).length = raw.length := by simp
  obtain ⟨N, hN, hN2, hNl⟩ : ∃ N : Nat, (if 30 < (((raws raw).length : Nat) : Int) then 30 else (((raws raw).length : Nat) : Int)) = (N : Int) ∧ N ≤ 30 ∧ N ≤ raw.length := by
    rw [hR]
    by_cases h : 30 < (raw.length : Int)
    · exact ⟨30, by rw [if_pos h]; rfl, by omega, by omega⟩
    · exact ⟨raw.length, if_neg h, by omega, Nat.le_refl _⟩
  refine (f9 _ _).trans ((goT e25 _ _).trans ?_)
  rw [hN]
  have hw : IntKind.wrap .i64 (Int.add (N : Int) 1) = ((N + 1 : Nat) : Int) := by rw [wr_add (a := (N : Int)) (b := 1) (by omega) (by omega)]; omega
  rw [hw]
  have hp := pk_range (c := turn) (n := ((N + 1 : Nat) : Int)) (by omega)
  have he := e28 (n := ((N + 1 : Nat) : Int)) ht (by omega)
  generalize pk turn ((N + 1 : Nat) : Int) = kk at hp he
  obtain ⟨k, rfl⟩ := Int.eq_ofNat_of_zero_le hp.1
  obtain ⟨a, b, g1, g2, g3, g4, g5, g6, g7⟩ := l9 raw hraw true N k hN2 hNl (by omega) N 0 [] [] rfl rfl rfl rfl rfl (fun x => ⟨fun h => (by cases h), fun h => (by obtain ⟨j, _, h, _⟩ := h; omega)⟩) (fun x => ⟨fun h => (by cases h), fun h => (by obtain ⟨j, _, h, _⟩ := h; omega)⟩)
  have hab : a = b := sorted_ext (right_iff.1 g2).2 (right_iff.1 g3).2 fun x => by
    rw [g6 x, g7 x]
    constructor
    · rintro ⟨j, hj, hjN, rfl⟩
      have h2 := rot_rot (n := N) (k := k) hjN (by omega)
      refine ⟨rot N k j, by rw [h2]; exact hj, rot_lt (by omega), ?_⟩
      simp only [h2]
    · rintro ⟨j, hj, hjN, rfl⟩
      exact ⟨rot N k j, hj, rot_lt (by omega), rfl⟩
  subst hab
  refine (goI he _).trans ?_
  rw [show E cx (.loop 9 [true, true, true, true, true, true, false, true, false]) [vbool false, AV.list 0 4 [], AV.list 0 4 [], vi 0, AV.list 0 3 (raws raw), vbool true, vi (N : Int), vi (k : Int)] [] = _ from g1]
  refine Eq.trans (b := Option.bind (E cx (.fn 31) [lq a, lq a] []) _) rfl ((goT (e31 a (by omega)) _ _).trans ((goT (by have := e36 a (by omega); rw [g2] at this; exact this) _ _).trans ((goD (by simp [g4]) _ _).trans rfl)))
end Go.Proofs.Av
