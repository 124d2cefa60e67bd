/- Bits in closed form: the program's functions and the document's, and what they have to do with each other. -/
import Derived.Test.YtoepfmodbhfckaaAfZ
namespace Go.Proofs.Av
open Go
/- Bits: which are right, what is set, what is the same. -/
section
theorem wS {i : Nat} (h : i < 9223372036854775807) : IntKind.wrap .i64 (Int.add (i : Int) 1) = ((i + 1 : Nat) : Int) := wr_add (b := 1) (by omega) (by omega)
theorem wP {i : Nat} (h : i < 9223372036854775807) : IntKind.wrap .i64 (Int.sub ((i + 1 : Nat) : Int) 1) = (i : Int) := (wr_sub (b := 1) (by omega) (by omega)).trans (by omega)
theorem ints_len (l : List Int) : (ints l).length = l.length := by simp [ints]
theorem drop_cons' {α : Type} {l r : List α} {i : Nat} {p : α} (h : l.drop i = p :: r) : l[i]? = some p ∧ l.drop (i + 1) = r ∧ i < l.length := by
  refine ⟨?_, ?_, ?_⟩
  · have := congrArg (fun l => l[0]?) h; simpa using this
  · rw [← List.drop_drop, h]; rfl
  · have := congrArg List.length h; simp at this; omega
def pickI (c n : Int) : Int := if c < 0 then (-(c + 1)).tmod n else c.tmod n
theorem c64 {c n : Int} (hc : RI c) (hn : 0 < n) : E cx (Key.fn 64) [vi c, vi n] [] = some (Out.ret (vi (pickI c n)), []) := by
  refine (f64 c n).trans ?_
  unfold pickI
  by_cases h : c < 0
  · refine (goD h _ _).trans ((goN (by omega) _ _).trans ?_)
    rw [wr_add (by omega) (by omega), show Int.sub 0 (c + 1) = 0 - (c + 1) from rfl, show (0 : Int) - (c + 1) = -(c + 1) by omega, wr_id (by omega) (by omega), if_pos h]
  · refine (goDn h _ _).trans ((goN (by omega) _ _).trans ?_)
    rw [if_neg h]
theorem pickI_lt {c n : Int} (hn : 0 < n) : 0 ≤ pickI c n ∧ pickI c n < n := by
  unfold pickI
  split
  · rw [Int.tmod_eq_emod_of_nonneg (by omega)]
    exact ⟨Int.emod_nonneg _ (by omega), Int.emod_lt_of_pos _ hn⟩
  · rw [Int.tmod_eq_emod_of_nonneg (by omega)]
    exact ⟨Int.emod_nonneg _ (by omega), Int.emod_lt_of_pos _ hn⟩
abbrev bB (n : Int) (l : List Int) : Ob := ⟨.box, 33, 2, 0, [[vi n, .list 0 1 (ints l)]]⟩
abbrev bA (n : Int) (l : List Int) : AV := .agg [vi n, .list 0 1 (ints l)]
/-- Rising, above p, below n. -/
def upB (n : Int) : Int → List Int → Bool
  | _, [] => true
  | p, x :: r => decide (p < x) && (decide (x < n) && upB n x r)
def rightB (n : Int) (l : List Int) : Bool := decide (0 ≤ n) && (decide (n ≤ 2048) && upB n (-1) l)
theorem loop60 (b : Bool) (n : Int) (l : List Int) (hl : l.length ≤ 4000000) : ∀ (rest : List Int) (i : Nat) (p : Int), l.drop i = rest → i + rest.length = l.length →
    (upB n p rest = true ∧ ∃ q : Int, E cx (Key.loop 60 [true, true, true, false, true, false]) [vbool b, vi p, vi i, .ptr 0 0 0 0, .list 0 1 (ints l), vi l.length] [bB n l] = some (Out.jump (.exit 0) [vbool b, vi q, vi l.length], [bB n l])) ∨
    (upB n p rest = false ∧ ∃ q k : Int, E cx (Key.loop 60 [true, true, true, false, true, false]) [vbool b, vi p, vi i, .ptr 0 0 0 0, .list 0 1 (ints l), vi l.length] [bB n l] = some (Out.jump .ret [vbool false, vi q, vi k], [bB n l]))
  | [], i, p, hd, hi => by
    simp only [List.length_nil, Nat.add_zero] at hi
    subst hi
    exact .inl ⟨rfl, p, (f60_l0 _ _ _ _ _ _ _).trans (goDn (by omega) _ _)⟩
  | x :: rest, i, p, hd, hi => by
    obtain ⟨hp, hd', hlt⟩ := drop_cons' hd
    simp only [List.length_cons] at hi
    have go : ∀ {R}, (bif decide (x ≤ p) then q60_l0_0 p i n (ints l) else bif decide (x ≥ n) then q60_l0_0 p i n (ints l) else
        E cx (Key.loop 60 [true, true, true, false, true, false]) [vbool b, vi x, vi (i + 1 : Nat), .ptr 0 0 0 0, .list 0 1 (ints l), vi l.length] [bB n l]) = R →
        E cx (Key.loop 60 [true, true, true, false, true, false]) [vbool b, vi p, vi i, .ptr 0 0 0 0, .list 0 1 (ints l), vi l.length] [bB n l] = R := fun {R} h => by
      refine (f60_l0 _ _ _ _ _ _ _).trans ((goD (by omega) _ _).trans ((goY (by omega) _ _).trans ((go1 (n := i) rfl hp _).trans ?_)))
      rw [wS (by omega)]
      exact h
    have hu : upB n p (x :: rest) = (decide (p < x) && (decide (x < n) && upB n x rest)) := rfl
    by_cases h1 : p < x
    · by_cases h2 : x < n
      · rw [hu, decide_eq_true h1, decide_eq_true h2, Bool.true_and, Bool.true_and]
        rcases loop60 b n l hl rest (i + 1) x hd' (by omega) with ⟨g1, q, g2⟩ | ⟨g1, q, k, g2⟩
        · exact .inl ⟨g1, q, go ((goDn (by omega) _ _).trans ((goDn (by omega) _ _).trans g2))⟩
        · exact .inr ⟨g1, q, k, go ((goDn (by omega) _ _).trans ((goDn (by omega) _ _).trans g2))⟩
      · exact .inr ⟨by rw [hu, decide_eq_false h2, Bool.false_and, Bool.and_false], p, i, go ((goDn (by omega) _ _).trans (goD (by omega) _ _))⟩
    · exact .inr ⟨by rw [hu, decide_eq_false h1, Bool.false_and], p, i, go (goD (by omega) _ _)⟩
theorem c60 (n : Int) (l : List Int) (hl : l.length ≤ 4000000) : E cx (Key.fn 60) [bA n l] [] = rb (rightB n l) := by
  refine (f60 _ _).trans ?_
  unfold rightB
  by_cases h1 : n < 0
  · rw [decide_eq_false (show ¬ 0 ≤ n by omega)]
    exact goD h1 _ _
  · rw [decide_eq_true (show 0 ≤ n by omega)]
    refine (goDn h1 _ _).trans ?_
    by_cases h2 : n > 2048
    · rw [decide_eq_false (show ¬ n ≤ 2048 by omega)]
      exact goD h2 _ _
    · rw [decide_eq_true (show n ≤ 2048 by omega)]
      refine (goDn h2 _ _).trans ?_
      rw [ints_len]
      show (Option.bind (E cx (Key.loop 60 [true, true, true, false, true, false]) [vbool false, vi (-1), vi ((0 : Nat) : Int), .ptr 0 0 0 0, .list 0 1 (ints l), vi l.length] [bB n l]) _) = _
      rcases loop60 false n l hl l 0 (-1) rfl (by omega) with ⟨g1, q, g2⟩ | ⟨g1, q, k, g2⟩
      · rw [g2, g1]; rfl
      · rw [g2, g1]; rfl
theorem loop61 (b : Bool) (n : Int) (l : List Int) (hl : l.length ≤ 4000000) : ∀ (rest : List Int) (i : Nat) (p : Int), l.drop i = rest → i + rest.length = l.length → (i = 0 → p = -1) → (∀ j, i = j + 1 → l[j]? = some p ∧ 0 ≤ p) →
    (upB n p rest = true ∧ E cx (Key.loop 61 [true, true, false, true, false]) [vbool b, vi i, .ptr 0 0 0 0] [bB n l] = some (Out.jump (.exit 0) [vbool b, vi l.length], [bB n l])) ∨
    (upB n p rest = false ∧ ∃ k : Int, E cx (Key.loop 61 [true, true, false, true, false]) [vbool b, vi i, .ptr 0 0 0 0] [bB n l] = some (Out.jump .ret [vbool false, vi k], [bB n l]))
  | [], i, p, hd, hi, h0, hj => by
    simp only [List.length_nil, Nat.add_zero] at hi
    subst hi
    exact .inl ⟨rfl, (f61_l0 _ _ _ _).trans (goDn (by rw [ints_len]; omega) _ _)⟩
  | x :: rest, i, p, hd, hi, h0, hj => by
    obtain ⟨hp, hd', hlt⟩ := drop_cons' hd
    simp only [List.length_cons] at hi
    have hu : upB n p (x :: rest) = (decide (p < x) && (decide (x < n) && upB n x rest)) := rfl
    have hpm : -1 ≤ p := by
      cases i with
      | zero => rw [h0 rfl]; omega
      | succ j => have := (hj j rfl).2; omega
    have start : ∀ {R}, (bif decide (x < 0) then q61_l0_0 i n (ints l) else bif decide (x ≥ n) then q61_l0_0 i n (ints l) else bif decide (x ≤ p) then q61_l0_0 i n (ints l) else q61_l0_1 b i n (ints l)) = R →
        E cx (Key.loop 61 [true, true, false, true, false]) [vbool b, vi i, .ptr 0 0 0 0] [bB n l] = R := fun {R} h => by
      refine (f61_l0 _ _ _ _).trans ((goD (by rw [ints_len]; omega) _ _).trans ((goY (by omega) _ _).trans ((go1 (n := i) rfl hp _).trans ?_)))
      by_cases hx0 : x < 0
      · exact (goD hx0 _ _).trans ((goD hx0 _ _).symm.trans h)
      · refine (goDn hx0 _ _).trans ((goY (by omega) _ _).trans ((go1 (n := i) rfl hp _).trans ?_))
        have h := (goDn hx0 _ _).symm.trans h
        by_cases hxn : x ≥ n
        · exact (goD hxn _ _).trans ((goD hxn _ _).symm.trans h)
        · refine (goDn hxn _ _).trans ?_
          have h := (goDn hxn _ _).symm.trans h
          cases i with
          | zero =>
            refine (goDn (by omega) _ _).trans ?_
            have hpz := h0 rfl
            exact (goDn (by omega) _ _).symm.trans h
          | succ j =>
            refine (goD (by omega) _ _).trans ((goY (by omega) _ _).trans ((go1 (n := j + 1) rfl hp _).trans ?_))
            rw [wP (by omega)]
            refine (goY (by omega) _ _).trans ((go1 (n := j) rfl (hj j rfl).1 _).trans ?_)
            exact h
    by_cases h1 : p < x
    · by_cases h2 : x < n
      · rw [hu, decide_eq_true h1, decide_eq_true h2, Bool.true_and, Bool.true_and]
        have nx : q61_l0_1 b i n (ints l) = E cx (Key.loop 61 [true, true, false, true, false]) [vbool b, vi (i + 1 : Nat), .ptr 0 0 0 0] [bB n l] := by
          unfold q61_l0_1
          rw [wS (by omega)]
        rcases loop61 b n l hl rest (i + 1) x hd' (by omega) (fun h => by omega) (fun j hjj => ⟨by rw [show j = i by omega]; exact hp, by omega⟩) with ⟨g1, g2⟩ | ⟨g1, k, g2⟩
        · exact .inl ⟨g1, start ((goDn (by omega) _ _).trans ((goDn (by omega) _ _).trans ((goDn (by omega) _ _).trans (nx.trans g2))))⟩
        · exact .inr ⟨g1, k, start ((goDn (by omega) _ _).trans ((goDn (by omega) _ _).trans ((goDn (by omega) _ _).trans (nx.trans g2))))⟩
      · refine .inr ⟨by rw [hu, decide_eq_false h2, Bool.false_and, Bool.and_false], i, start ?_⟩
        by_cases hx0 : x < 0
        · exact goD hx0 _ _
        · exact (goDn hx0 _ _).trans (goD (by omega) _ _)
    · refine .inr ⟨by rw [hu, decide_eq_false h1, Bool.false_and], i, start ?_⟩
      by_cases hx0 : x < 0
      · exact goD hx0 _ _
      · refine (goDn hx0 _ _).trans ?_
        by_cases hxn : x ≥ n
        · exact goD hxn _ _
        · exact (goDn hxn _ _).trans (goD (by omega) _ _)
theorem c61 (n : Int) (l : List Int) (hl : l.length ≤ 4000000) : E cx (Key.fn 61) [bA n l] [] = rb (rightB n l) := by
  refine (f61 _ _).trans ?_
  unfold rightB
  by_cases h1 : n < 0
  · rw [decide_eq_false (show ¬ 0 ≤ n by omega)]
    exact goD h1 _ _
  · rw [decide_eq_true (show 0 ≤ n by omega)]
    refine (goDn h1 _ _).trans ?_
    by_cases h2 : n > 2048
    · rw [decide_eq_false (show ¬ n ≤ 2048 by omega)]
      exact goD h2 _ _
    · rw [decide_eq_true (show n ≤ 2048 by omega)]
      refine (goDn h2 _ _).trans ?_
      show (Option.bind (E cx (Key.loop 61 [true, true, false, true, false]) [vbool false, vi ((0 : Nat) : Int), .ptr 0 0 0 0] [bB n l]) _) = _
      rcases loop61 false n l hl l 0 (-1) rfl (by omega) (fun _ => rfl) (fun j h => by omega) with ⟨g1, g2⟩ | ⟨g1, k, g2⟩
      · rw [g2, g1]; rfl
      · rw [g2, g1]; rfl
theorem loop122 (b : Bool) (n x : Int) (l : List Int) (hl : l.length ≤ 4000000) : ∀ (rest : List Int) (i : Nat), l.drop i = rest → i + rest.length = l.length →
    (¬ x ∈ rest ∧ E cx (Key.loop 122 [true, false, true, false]) [vbool b, vi i, vi x, .ptr 0 0 0 0] [bB n l] = some (Out.jump (.exit 0) [vbool b, vi l.length], [bB n l])) ∨
    (x ∈ rest ∧ ∃ k : Int, E cx (Key.loop 122 [true, false, true, false]) [vbool b, vi i, vi x, .ptr 0 0 0 0] [bB n l] = some (Out.jump .ret [vbool true, vi k], [bB n l]))
  | [], i, hd, hi => by
    simp only [List.length_nil, Nat.add_zero] at hi
    subst hi
    exact .inl ⟨by simp, (f122_l0 _ _ _ _ _).trans (goDn (by rw [ints_len]; omega) _ _)⟩
  | y :: rest, i, hd, hi => by
    obtain ⟨hp, hd', hlt⟩ := drop_cons' hd
    simp only [List.length_cons] at hi
    have go : ∀ {R}, (bif decide (y = x) then some (Out.jump .ret [vbool true, vi i], [bB n l]) else E cx (Key.loop 122 [true, false, true, false]) [vbool b, vi (i + 1 : Nat), vi x, .ptr 0 0 0 0] [bB n l]) = R →
        E cx (Key.loop 122 [true, false, true, false]) [vbool b, vi i, vi x, .ptr 0 0 0 0] [bB n l] = R := fun {R} h => by
      refine (f122_l0 _ _ _ _ _).trans ((goD (by rw [ints_len]; omega) _ _).trans ((goY (by omega) _ _).trans ((go1 (n := i) rfl hp _).trans ?_)))
      rw [wS (by omega)]
      exact h
    by_cases hy : y = x
    · exact .inr ⟨by rw [hy]; exact List.mem_cons_self .., i, go (goD hy _ _)⟩
    · rcases loop122 b n x l hl rest (i + 1) hd' (by omega) with ⟨g1, g2⟩ | ⟨g1, k, g2⟩
      · exact .inl ⟨fun h => (List.mem_cons.1 h).elim (fun h => hy h.symm) g1, go ((goDn hy _ _).trans g2)⟩
      · exact .inr ⟨List.mem_cons_of_mem _ g1, k, go ((goDn hy _ _).trans g2)⟩
theorem c122 (n x : Int) (l : List Int) (hl : l.length ≤ 4000000) : E cx (Key.fn 122) [bA n l, vi x] [] = rb (decide (x ∈ l)) := by
  refine (f122 _ _ _).trans ?_
  show (Option.bind (E cx (Key.loop 122 [true, false, true, false]) [vbool false, vi ((0 : Nat) : Int), vi x, .ptr 0 0 0 0] [bB n l]) _) = _
  rcases loop122 false n x l hl l 0 rfl (by omega) with ⟨g1, g2⟩ | ⟨g1, k, g2⟩
  · rw [g2, decide_eq_false g1]; rfl
  · rw [g2, decide_eq_true g1]; rfl
theorem c63 (n x : Int) (l : List Int) (hl : l.length ≤ 4000000) : E cx (Key.fn 63) [bA n l, vi x] [] = rb (rightB n l && decide (x ∈ l)) := by
  refine (f63 _ _ _).trans ((goB (c61 n l hl) _).trans ?_)
  cases rightB n l with
  | false => rfl
  | true =>
    refine (goB (c122 n x l hl) _).trans ?_
    cases decide (x ∈ l) <;> rfl
theorem c123 (n m : Int) (l k : List Int) (hl : l.length ≤ 4000000) (hk : k.length ≤ 4000000) : E cx (Key.fn 123) [bA n l, bA m k] [] = rb (rightB n l && (rightB m k && decide (n = m))) := by
  refine (f123 _ _ _ _).trans ((goB (c60 n l hl) _).trans ?_)
  cases rightB n l with
  | false => rfl
  | true =>
    refine (goB (c60 m k hk) _).trans ?_
    cases rightB m k with
    | false => rfl
    | true => cases h : decide (n = m) <;> simp []
theorem c126 (n m : Int) (l k : List Int) (hl : l.length ≤ 4000000) (hk : k.length ≤ 4000000) : E cx (Key.fn 126) [bA n l, bA m k] [] = rb (rightB n l && (rightB m k && decide (n = m))) := by
  refine (f126 _ _ _ _).trans ((goB (c61 n l hl) _).trans ?_)
  cases rightB n l with
  | false =>
    refine (goB (c61 m k hk) _).trans ?_
    cases rightB m k <;> rfl
  | true =>
    refine (goB (c61 m k hk) _).trans ?_
    cases rightB m k with
    | false => rfl
    | true => cases h : decide (n = m) <;> simp []
end
/- Bits: the same. -/
section
theorem loop67 (b0 : Bool) (n m : Int) (a b : List Int) (hab : a.length = b.length) (hl : a.length ≤ 4000000) : ∀ (d i : Nat), i + d = a.length →
    (a.drop i = b.drop i ∧ E cx (Key.loop 67 [true, true, false, true, false]) [vbool b0, vi i, .ptr 0 0 0 0, .ptr 1 0 0 0] [bB n a, bB m b] = some (Out.jump (.exit 0) [vbool b0, vi a.length], [bB n a, bB m b])) ∨
    (a.drop i ≠ b.drop i ∧ ∃ k : Nat, E cx (Key.loop 67 [true, true, false, true, false]) [vbool b0, vi i, .ptr 0 0 0 0, .ptr 1 0 0 0] [bB n a, bB m b] = some (Out.jump .ret [vbool false, vi k], [bB n a, bB m b]))
  | 0, i, hd => by
    refine .inl ⟨by rw [List.drop_eq_nil_of_le (by omega), List.drop_eq_nil_of_le (by omega)], (f67_l0 _ _ _ _ _ _).trans ((goDn (by rw [ints_len]; omega) _ _).trans (by rw [show i = a.length by omega]))⟩
  | d + 1, i, hd => by
    have hp : a[i]? = some a[i] := List.getElem?_eq_getElem (by omega)
    have hq : b[i]? = some b[i] := List.getElem?_eq_getElem (by omega)
    have ha : a.drop i = a[i] :: a.drop (i + 1) := List.drop_eq_getElem_cons (by omega)
    have hb : b.drop i = b[i] :: b.drop (i + 1) := List.drop_eq_getElem_cons (by omega)
    have go : ∀ {R}, (bif a[i] != b[i] then some (Out.jump .ret [vbool false, vi i], [bB n a, bB m b]) else
        E cx (Key.loop 67 [true, true, false, true, false]) [vbool b0, vi (i + 1 : Nat), .ptr 0 0 0 0, .ptr 1 0 0 0] [bB n a, bB m b]) = R →
        E cx (Key.loop 67 [true, true, false, true, false]) [vbool b0, vi i, .ptr 0 0 0 0, .ptr 1 0 0 0] [bB n a, bB m b] = R := fun {R} h => by
      refine (f67_l0 _ _ _ _ _ _).trans ((goD (by rw [ints_len]; omega) _ _).trans ((goY (by omega) _ _).trans ((go1 (n := i) rfl hp _).trans ((goY (by omega) _ _).trans ((go1 (n := i) rfl hq _).trans ?_)))))
      rw [wS (by omega)]
      exact h
    rw [ha, hb]
    by_cases he : a[i] = b[i]
    · rcases loop67 b0 n m a b hab hl d (i + 1) (by omega) with ⟨g1, g2⟩ | ⟨g1, k, g2⟩
      · exact .inl ⟨by rw [he, g1], go ((goE he _ _).trans g2)⟩
      · exact .inr ⟨fun h => g1 (List.cons.inj h).2, k, go ((goE he _ _).trans g2)⟩
    · exact .inr ⟨fun h => he (List.cons.inj h).1, i, go (goEn he _ _)⟩
theorem c67 (n m : Int) (a b : List Int) (hl : a.length ≤ 4000000) : E cx (Key.fn 67) [bA n a, bA m b] [] = rb (decide (n = m ∧ a = b)) := by
  refine (f67 _ _ _ _).trans ?_
  rw [ints_len, ints_len]
  by_cases hn : n = m
  · refine (goE hn _ _).trans ?_
    by_cases hab : a.length = b.length
    · refine (goE (by omega) _ _).trans ?_
      show (Option.bind (E cx (Key.loop 67 [true, true, false, true, false]) [vbool false, vi ((0 : Nat) : Int), .ptr 0 0 0 0, .ptr 1 0 0 0] [bB n a, bB m b]) _) = _
      rcases loop67 false n m a b hab hl a.length 0 (by omega) with ⟨g1, g2⟩ | ⟨g1, k, g2⟩
      · rw [g2, decide_eq_true (show n = m ∧ a = b from ⟨hn, g1⟩)]
        rfl
      · rw [g2, decide_eq_false (show ¬ (n = m ∧ a = b) from fun h => g1 h.2)]
        rfl
    · rw [decide_eq_false fun h => hab (by rw [h.2])]
      exact goEn (by omega) _ _
  · rw [decide_eq_false fun h => hn h.1]
    exact goEn hn _ _
end
/- Bits: search by halves, Has. -/
section
theorem c176 (x : Int) : E cx (Key.fn 176) [vi x] [] = rb false := (f176 x).trans (goE rfl _ _)
theorem c153 (x y : Int) : E cx (Key.fn 153) [vi x, vi y] [] = rb (decide (x < y)) := by
  refine (f153 _ _).trans ((goF (c176 x) _ _).trans ?_)
  unfold q153_0
  cases h : decide (x < y) <;> rfl
theorem half {i j : Nat} (h : i + j < 4611686018427387904) : IntKind.wrap .i64 (ishr .u64 (IntKind.wrap .u64 (IntKind.wrap .i64 (Int.add (i : Int) (j : Int)))) 1) = (((i + j) / 2 : Nat) : Int) := by
  rw [wr_add (by omega) (by omega), wu_id (by omega) (by omega)]
  have : ishr .u64 ((i : Int) + (j : Int)) 1 = (((i + j) / 2 : Nat) : Int) := by
    unfold ishr
    rw [show (1 : Int).toNat = 1 from rfl, show IntKind.u64.bits = 64 from rfl, show min 1 64 = 1 from rfl, Int.fdiv_eq_ediv_of_nonneg _ (by decide)]
    show ((i : Int) + j) / 2 = _
    omega
  rw [this]
  exact wr_id (by omega) (by omega)
theorem loop121 (l : List Int) (x : Int) (hl : l.length ≤ 4000000) : ∀ (d i j : Nat), j - i ≤ d → i ≤ j → j ≤ l.length →
    ∃ k : Nat, k ≤ l.length ∧ E cx (Key.loop 121 [true, true, true, false, false]) [vi i, vi j, .list 0 1 (ints l), vi x, vi l.length] [] = some (Out.jump (.exit 0) [vi k, vi k], []) ∧
      (l.Pairwise (· < ·) → (∀ a v, a < i → l[a]? = some v → v < x) → (∀ a v, j ≤ a → l[a]? = some v → x ≤ v) → (∀ a v, a < k → l[a]? = some v → v < x) ∧ (∀ a v, k ≤ a → l[a]? = some v → x ≤ v))
  | 0, i, j, hd, hij, hj => by
    obtain rfl : i = j := by omega
    exact ⟨i, hj, (f121_l0 _ _ _ _ _).trans (goDn (by omega) _ _), fun _ h1 h2 => ⟨h1, h2⟩⟩
  | d + 1, i, j, hd, hij, hj => by
    by_cases h : i < j
    · have hm : (i + j) / 2 < l.length := by omega
      have hp : l[(i + j) / 2]? = some l[(i + j) / 2] := List.getElem?_eq_getElem hm
      have start : ∀ {R}, (bif decide (l[(i + j) / 2] < x) then E cx (Key.loop 121 [true, true, true, false, false]) [vi ((i + j) / 2 + 1 : Nat), vi j, .list 0 1 (ints l), vi x, vi l.length] [] else
          E cx (Key.loop 121 [true, true, true, false, false]) [vi i, vi ((i + j) / 2 : Nat), .list 0 1 (ints l), vi x, vi l.length] []) = R →
          E cx (Key.loop 121 [true, true, true, false, false]) [vi i, vi j, .list 0 1 (ints l), vi x, vi l.length] [] = R := fun {R} hh => by
        refine (f121_l0 _ _ _ _ _).trans ((goD (by omega) _ _).trans ?_)
        rw [half (by omega)]
        refine (goY (by omega) _ _).trans ((go1 (n := (i + j) / 2) rfl hp _).trans ((goB (c153 _ _) _).trans ?_))
        rw [wS (by omega)]
        exact hh
      by_cases hx : l[(i + j) / 2] < x
      · obtain ⟨k, hk, g1, g2⟩ := loop121 l x hl d ((i + j) / 2 + 1) j (by omega) (by omega) hj
        refine ⟨k, hk, start ((goD hx _ _).trans g1), fun hp' h1 h2 => g2 hp' (fun a v ha hv => ?_) h2⟩
        by_cases hai : a = (i + j) / 2
        · subst hai
          rw [hp] at hv
          cases hv
          exact hx
        · obtain ⟨hal, rfl⟩ := List.getElem?_eq_some_iff.1 hv
          have := List.pairwise_iff_getElem.1 hp' a ((i + j) / 2) hal hm (by omega)
          omega
      · obtain ⟨k, hk, g1, g2⟩ := loop121 l x hl d i ((i + j) / 2) (by omega) (by omega) (by omega)
        refine ⟨k, hk, start ((goDn hx _ _).trans g1), fun hp' h1 h2 => g2 hp' h1 (fun a v ha hv => ?_)⟩
        by_cases hai : a = (i + j) / 2
        · subst hai
          rw [hp] at hv
          cases hv
          omega
        · obtain ⟨hal, rfl⟩ := List.getElem?_eq_some_iff.1 hv
          have := List.pairwise_iff_getElem.1 hp' ((i + j) / 2) a hm hal (by omega)
          omega
    · exact ⟨j, hj, (f121_l0 _ _ _ _ _).trans ((goDn (by omega) _ _).trans (by rw [show i = j by omega])), fun _ h1 h2 => ⟨fun a v ha hv => h1 a v (by omega) hv, h2⟩⟩
theorem up_pw : ∀ {n p : Int} {l : List Int}, upB n p l = true → l.Pairwise (· < ·) ∧ ∀ x ∈ l, p < x ∧ x < n
  | n, p, [], _ => ⟨.nil, by simp⟩
  | n, p, x :: r, h => by
    have h' : (decide (p < x) && (decide (x < n) && upB n x r)) = true := h
    simp only [Bool.and_eq_true, decide_eq_true_eq] at h'
    obtain ⟨h1, h2, h3⟩ := h'
    obtain ⟨g1, g2⟩ := up_pw h3
    refine ⟨.cons (fun y hy => (g2 y hy).1) g1, fun y hy => ?_⟩
    rcases List.mem_cons.1 hy with rfl | hy
    · exact ⟨h1, h2⟩
    · have := g2 y hy
      exact ⟨by omega, this.2⟩
theorem c154 (x : Int) : E cx (Key.fn 154) [vi x] [] = rb false := (f154 x).trans (goE rfl _ _)
theorem c121 (l : List Int) (x : Int) (hl : l.length ≤ 4000000) : ∃ (k : Nat) (b : Bool), E cx (Key.fn 121) [.list 0 1 (ints l), vi x] [] = some (Out.ret (.tuple [vi k, vbool b]), []) ∧ (l.Pairwise (· < ·) → b = decide (x ∈ l)) := by
  obtain ⟨k, hk, g1, g2⟩ := loop121 l x hl l.length 0 l.length (by omega) (by omega) (Nat.le_refl _)
  have start : ∀ {R}, (bif decide ((k : Int) < (l.length : Int)) then (if (0 : Int) ≤ (k : Int) then Option.bind (ints l)[Int.toNat (k : Int)]? fun cs => Option.bind (uncons? cs) fun p => Option.bind (AV.int? .i64 p.fst) fun n => Option.bind (nil? p.snd) fun _ =>
      bif decide (n = x) then some (Out.ret (.tuple [vi k, vbool true]), []) else if (0 : Int) ≤ (k : Int) then Option.bind (ints l)[Int.toNat (k : Int)]? fun cs => Option.bind (uncons? cs) fun p => Option.bind (AV.int? .i64 p.fst) fun n1 => Option.bind (nil? p.snd) fun _ =>
      Option.bind (E cx (Key.fn 154) [vi n1] []) fun r => Option.bind (ret1 r) fun v => Option.bind v.bool? fun b => bif b then Option.bind (E cx (Key.fn 154) [vi x] []) fun r => Option.bind (ret1 r) fun v => Option.bind v.bool? fun b => bif b then some (Out.ret (.tuple [vi k, vbool true]), []) else some (Out.ret (.tuple [vi k, vbool false]), []) else some (Out.ret (.tuple [vi k, vbool false]), []) else none else none)
      else some (Out.ret (.tuple [vi k, vbool false]), ([] : Heap))) = R → E cx (Key.fn 121) [.list 0 1 (ints l), vi x] [] = R := fun {R} h => by
    refine (f121 _ _).trans ?_
    rw [ints_len]
    show (Option.bind (E cx (Key.loop 121 [true, true, true, false, false]) [vi ((0 : Nat) : Int), vi (l.length : Int), .list 0 1 (ints l), vi x, vi l.length] []) _) = _
    rw [g1]
    exact h
  have lo : l.Pairwise (· < ·) → (∀ a v, a < k → l[a]? = some v → v < x) ∧ (∀ a v, k ≤ a → l[a]? = some v → x ≤ v) := fun hp => g2 hp (fun a v ha => by omega) (fun a v ha hv => by have := (List.getElem?_eq_some_iff.1 hv).1; omega)
  by_cases hkl : k < l.length
  · have hp : l[k]? = some l[k] := List.getElem?_eq_getElem hkl
    by_cases hx : l[k] = x
    · exact ⟨k, true, start ((goD (by omega) _ _).trans ((goY (by omega) _ _).trans ((go1 (n := k) rfl hp _).trans (goD hx _ _)))), fun _ => (decide_eq_true (by rw [← hx]; exact List.getElem_mem _)).symm⟩
    · refine ⟨k, false, start ((goD (by omega) _ _).trans ((goY (by omega) _ _).trans ((go1 (n := k) rfl hp _).trans ((goDn hx _ _).trans ((goY (by omega) _ _).trans ((go1 (n := k) rfl hp _).trans (goF (c154 _) _ _))))))), fun hpw => (decide_eq_false fun hm => ?_).symm⟩
      obtain ⟨a, ha⟩ := List.mem_iff_getElem?.1 hm
      obtain ⟨l1, l2⟩ := lo hpw
      by_cases hak : a < k
      · have := l1 a x hak ha; omega
      · obtain ⟨hal, hax⟩ := List.getElem?_eq_some_iff.1 ha
        have hkx := l2 k l[k] (Nat.le_refl _) hp
        by_cases hak2 : a = k
        · subst hak2; exact hx hax
        · have := List.pairwise_iff_getElem.1 hpw k a hkl hal (by omega)
          omega
  · refine ⟨k, false, start (goDn (by omega) _ _), fun hpw => (decide_eq_false fun hm => ?_).symm⟩
    obtain ⟨a, ha⟩ := List.mem_iff_getElem?.1 hm
    have := (lo hpw).1 a x (by have := (List.getElem?_eq_some_iff.1 ha).1; omega) ha
    omega
theorem c62 (n x : Int) (l : List Int) (hl : l.length ≤ 4000000) : E cx (Key.fn 62) [bA n l, vi x] [] = rb (rightB n l && decide (x ∈ l)) := by
  obtain ⟨k, b, g1, g2⟩ := c121 l x hl
  refine (f62 _ _ _).trans ?_
  rw [g1]
  have hr := c60 n l hl
  cases hrr : rightB n l with
  | false =>
    rw [hrr] at hr
    cases b with
    | true => exact goF hr _ _
    | false => exact goF hr _ _
  | true =>
    rw [hrr] at hr
    have hup : upB n (-1) l = true := by
      unfold rightB at hrr
      simp only [Bool.and_eq_true] at hrr
      exact hrr.2.2
    have hb := g2 (up_pw hup).1
    rw [Bool.true_and, ← hb]
    cases b with
    | true => exact goT hr _ _
    | false => exact goT hr _ _
end
/- Bits: numbers sorted; doubles left out. -/
section
def srtN (l : List Int) : List Int := l.mergeSort leN
theorem sortN_ints (l : List Int) : sortN [] (ints l) = some (ints (srtN l)) := by
  unfold sortN sortZ
  show cond true (sortBy decN encN leN (ints l)) none = _
  unfold sortBy
  have : (ints l).mapM decN = some l := by
    induction l with
    | nil => rfl
    | cons p l ih =>
      show ((p :: l).map fun n => [vi n]).mapM decN = _
      rw [List.map_cons, List.mapM_cons]
      have ih' : (l.map fun n => [vi n]).mapM decN = some l := ih
      rw [ih']
      rfl
  simp only [cond_true, this]
  rfl
theorem leN_iff (x y : Int) : leN x y = true ↔ x ≤ y := decide_eq_true_iff
theorem srtN_pw (l : List Int) : (srtN l).Pairwise (· ≤ ·) := by
  have := List.pairwise_mergeSort (le := leN) (fun a b c h1 h2 => by rw [leN_iff] at *; omega) (fun a b => by
    cases h : leN a b with
    | true => rfl
    | false =>
      rw [Bool.false_or, leN_iff]
      have : ¬ a ≤ b := fun hh => by rw [(leN_iff a b).2 hh] at h; cases h
      omega) l
  exact this.imp fun h => (leN_iff _ _).1 h
theorem srtN_perm (l : List Int) : (srtN l).Perm l := List.mergeSort_perm l leN
/-- Neighbours that are the same, but one. -/
def cmpc : List Int → List Int
  | [] => []
  | [x] => [x]
  | x :: y :: r => if x = y then cmpc (y :: r) else x :: cmpc (y :: r)
theorem cmpc_mem : ∀ {l : List Int} {x : Int}, x ∈ cmpc l ↔ x ∈ l
  | [], x => Iff.rfl
  | [y], x => Iff.rfl
  | a :: b :: r, x => by
    unfold cmpc
    have ih := cmpc_mem (l := b :: r) (x := x)
    split
    · rename_i h
      subst h
      rw [ih]
      simp
    · simp only [List.mem_cons] at ih ⊢
      rw [ih]
theorem cmpc_head : ∀ {a : Int} {r : List Int}, (∀ y ∈ r, a ≤ y) → ∀ x ∈ cmpc r, a ≤ x := fun h x hx => h x (cmpc_mem.1 hx)
theorem cmpc_pw : ∀ {l : List Int}, l.Pairwise (· ≤ ·) → (cmpc l).Pairwise (· < ·)
  | [], _ => .nil
  | [y], _ => List.pairwise_singleton ..
  | a :: b :: r, h => by
    obtain ⟨h1, h2⟩ := List.pairwise_cons.1 h
    unfold cmpc
    split
    · exact cmpc_pw h2
    · rename_i hne
      refine .cons (fun x hx => ?_) (cmpc_pw h2)
      have hx' := cmpc_mem.1 hx
      have hab := h1 b (by simp)
      obtain ⟨h3, _⟩ := List.pairwise_cons.1 h2
      rcases List.mem_cons.1 hx' with rfl | hx'
      · omega
      · have := h3 x hx'
        omega
end
/- Bits: slices.Compact. -/
section
theorem cmpc_snoc : ∀ (xs : List Int) (x y : Int), cmpc (xs ++ [x, y]) = if x = y then cmpc (xs ++ [x]) else cmpc (xs ++ [x]) ++ [y]
  | [], x, y => by
    show cmpc [x, y] = _
    unfold cmpc
    by_cases h : x = y
    · rw [if_pos h, if_pos h, h]; rfl
    · rw [if_neg h, if_neg h]; rfl
  | [a], x, y => by
    show cmpc (a :: x :: [y]) = if x = y then cmpc (a :: x :: []) else cmpc (a :: x :: []) ++ [y]
    simp only [cmpc]
    by_cases h1 : a = x <;> by_cases h2 : x = y <;> simp [h1, h2]
  | a :: b :: r, x, y => by
    have ih := cmpc_snoc (b :: r) x y
    simp only [List.cons_append] at ih
    show cmpc (a :: b :: (r ++ [x, y])) = if x = y then cmpc (a :: b :: (r ++ [x])) else cmpc (a :: b :: (r ++ [x])) ++ [y]
    rw [cmpc, cmpc, ih]
    by_cases h1 : a = b <;> by_cases h2 : x = y <;> simp [h1, h2]
theorem cmpc_take {l : List Int} {m : Nat} (h0 : 0 < m) (hm : m < l.length) : cmpc (l.take (m + 1)) = if l[m - 1] = l[m] then cmpc (l.take m) else cmpc (l.take m) ++ [l[m]] := by
  obtain ⟨k, rfl⟩ : ∃ k, m = k + 1 := ⟨m - 1, by omega⟩
  have e1 : l.take (k + 1) = l.take k ++ [l[k]] := by rw [List.take_add_one, List.getElem?_eq_getElem (by omega)]; rfl
  have e2 : l.take (k + 1 + 1) = l.take k ++ [l[k], l[k + 1]] := by rw [List.take_add_one, e1, List.getElem?_eq_getElem hm]; exact List.append_assoc _ _ _
  rw [e2, e1, cmpc_snoc]
  rfl
theorem cmpc_le : ∀ l : List Int, (cmpc l).length ≤ l.length
  | [] => Nat.le_refl _
  | [x] => Nat.le_refl _
  | x :: y :: r => by
    have := cmpc_le (y :: r)
    unfold cmpc
    split
    · simp only [List.length_cons] at this ⊢; omega
    · simp only [List.length_cons] at this ⊢; omega
theorem go1m {ρ : Type} {l : List Int} {i : Int} {n o : Nat} {r : Int} (hn : i = n) (h : l[o + n]? = some r) (k : Int → Option ρ) : ((nth (ints l) (Nat.add o (Int.toNat i))).bind fun cs => (uncons? cs).bind fun p => (AV.int? .i64 p.fst).bind fun s => (nil? p.snd).bind fun _ => k s) = k r := by
  subst hn
  have : nth (ints l) (Nat.add o (Int.toNat (n : Int))) = some [vi r] := by
    rw [nth_eq, Int.toNat_natCast]
    show (ints l)[o + n]? = _
    simp [ints, h]
  rw [this]
  rfl
theorem loop125i (l : List Int) (hl : l.length ≤ 4000000) (k0 : Nat) (hk0 : 0 < k0) : ∀ (d k2 k : Nat) (A : List Int), k0 + k2 + d = l.length → 0 < k2 → k < k0 + k2 → A.length = l.length → A.take k = cmpc (l.take (k0 + k2)) → k = (cmpc (l.take (k0 + k2))).length →
    (∀ j, k0 + k2 - 1 ≤ j → A[j]? = l[j]?) →
    ∃ A' : List Int, E cx (Key.loop 125 [true, true, false, true, false, false, true, false, false, true, false, true, false, true, false]) [vi k, vi k2, .arr 0 1 0 l.length, .arr 0 1 k0 (l.length - k0)] [⟨.arr, 3, 1, 1, ints A⟩] =
      some (Out.jump (.exit 2) [vi (cmpc l).length, vi (l.length - k0 : Nat)], [⟨.arr, 3, 1, 1, ints A'⟩]) ∧ A'.length = l.length ∧ A'.take (cmpc l).length = cmpc l
  | 0, k2, k, A, hd, h2, hk, hA, ht, hkl, hj => by
    have hfull : l.take (k0 + k2) = l := List.take_of_length_le (by omega)
    rw [hfull] at ht hkl
    refine ⟨A, (f125o_l0_l1 _ _ _ _ _ _).trans ((goDn (by omega) _ _).trans ?_), hA, by rw [← hkl]; exact ht⟩
    rw [hkl, show k2 = l.length - k0 by omega]
  | d + 1, k2, k, A, hd, h2, hk, hA, ht, hkl, hj => by
    have hm : k0 + k2 < l.length := by omega
    have g1 : A[k0 + k2]? = some l[k0 + k2] := by rw [hj _ (by omega)]; exact List.getElem?_eq_getElem hm
    have g2 : A[k0 + (k2 - 1)]? = some l[k0 + k2 - 1] := by rw [hj _ (by omega), show k0 + (k2 - 1) = k0 + k2 - 1 by omega]; exact List.getElem?_eq_getElem (by omega)
    have wp : IntKind.wrap .i64 (Int.sub (k2 : Int) 1) = ((k2 - 1 : Nat) : Int) := (wr_sub (b := 1) (by omega) (by omega)).trans (by omega)
    have hct := cmpc_take (l := l) (m := k0 + k2) (by omega) hm
    refine ?_
    have start : ∀ {R}, (bif l[k0 + k2] != l[k0 + k2 - 1] then E cx (Key.loop 125 [true, true, false, true, false, false, true, false, false, true, false, true, false, true, false]) [vi (k + 1 : Nat), vi (k2 + 1 : Nat), .arr 0 1 0 l.length, .arr 0 1 k0 (l.length - k0)] [⟨.arr, 3, 1, 1, ints (A.set k l[k0 + k2])⟩] else
        E cx (Key.loop 125 [true, true, false, true, false, false, true, false, false, true, false, true, false, true, false]) [vi k, vi (k2 + 1 : Nat), .arr 0 1 0 l.length, .arr 0 1 k0 (l.length - k0)] [⟨.arr, 3, 1, 1, ints A⟩]) = R →
        E cx (Key.loop 125 [true, true, false, true, false, false, true, false, false, true, false, true, false, true, false]) [vi k, vi k2, .arr 0 1 0 l.length, .arr 0 1 k0 (l.length - k0)] [⟨.arr, 3, 1, 1, ints A⟩] = R := fun {R} h => by
      refine (f125o_l0_l1 _ _ _ _ _ _).trans ((goD (by omega) _ _).trans ((goY (by omega) _ _).trans ((goY (by omega) _ _).trans ((go1m (n := k2) (o := k0) rfl g1 _).trans ?_))))
      rw [wp]
      refine (goY (by omega) _ _).trans ((goY (by omega) _ _).trans ((go1m (n := k2 - 1) (o := k0) rfl g2 _).trans ?_))
      by_cases hne : l[k0 + k2] = l[k0 + k2 - 1]
      · refine (goE hne _ _).trans ?_
        rw [wS (by omega)]
        exact (goE hne _ _).symm.trans h
      · refine (goEn hne _ _).trans ((goY (by omega) _ _).trans ((goY (by omega) _ _).trans ((go1m (n := k2) (o := k0) rfl g1 _).trans ((goY (by omega) _ _).trans ((goY (by omega) _ _).trans ?_)))))
        have hkA : A[0 + k]? = some A[k] := by rw [Nat.zero_add]; exact List.getElem?_eq_getElem (by omega)
        refine (go1m (n := k) (o := 0) rfl hkA _).trans ?_
        rw [wS (by omega), wS (by omega)]
        have hset : List.set (ints A) (Nat.add 0 (Int.toNat (k : Int))) [vi l[k0 + k2]] = ints (A.set k l[k0 + k2]) := by
          rw [Int.toNat_natCast, show Nat.add 0 k = k from Nat.zero_add k]
          simp [ints, List.map_set]
        rw [hset]
        exact (goEn hne _ _).symm.trans h
    by_cases hne : l[k0 + k2] = l[k0 + k2 - 1]
    · have hct' : cmpc (l.take (k0 + (k2 + 1))) = cmpc (l.take (k0 + k2)) := by
        rw [show k0 + (k2 + 1) = k0 + k2 + 1 by omega, hct, if_pos hne.symm]
      obtain ⟨A', q1, q2, q3⟩ := loop125i l hl k0 hk0 d (k2 + 1) k A (by omega) (by omega) (by omega) hA (by rw [hct']; exact ht) (by rw [hct']; exact hkl) (fun j hjj => hj j (by omega))
      exact ⟨A', start ((goE hne _ _).trans q1), q2, q3⟩
    · have hct' : cmpc (l.take (k0 + (k2 + 1))) = cmpc (l.take (k0 + k2)) ++ [l[k0 + k2]] := by
        rw [show k0 + (k2 + 1) = k0 + k2 + 1 by omega, hct, if_neg (fun h => hne h.symm)]
      obtain ⟨A', q1, q2, q3⟩ := loop125i l hl k0 hk0 d (k2 + 1) (k + 1) (A.set k l[k0 + k2]) (by omega) (by omega) (by omega) (by simp; exact hA) (by
        rw [hct', ← ht, List.take_add_one, List.getElem?_set_self (by omega)]
        rw [List.take_set_of_le (Nat.le_refl _)]
        rfl) (by rw [hct', List.length_append, ← hkl]; rfl) (fun j hjj => by rw [List.getElem?_set_ne (by omega)]; exact hj j (by omega))
      exact ⟨A', start ((goEn hne _ _).trans q1), q2, q3⟩
end
/- Bits: slices.Compact, whole. -/
section
theorem ints_take (l : List Int) (n : Nat) : (ints l).take n = ints (l.take n) := by simp [ints]
theorem loop125 (l : List Int) (hl : l.length ≤ 4000000) : ∀ (d i : Nat), i + d = l.length → 0 < i → cmpc (l.take i) = l.take i →
    (cmpc l = l ∧ E cx (Key.loop 125 [true, true, false, true, false]) [.val (.slice none 0 0), vi i, .arr 0 1 0 l.length] [⟨.arr, 3, 1, 1, ints l⟩] = some (Out.jump (.exit 0) [.val (.slice none 0 0), vi l.length], [⟨.arr, 3, 1, 1, ints l⟩])) ∨
    (∃ (k : Int) (es : List (List AV)), es.take (cmpc l).length = ints (cmpc l) ∧ es.length = l.length ∧ E cx (Key.loop 125 [true, true, false, true, false]) [.val (.slice none 0 0), vi i, .arr 0 1 0 l.length] [⟨.arr, 3, 1, 1, ints l⟩] = some (Out.jump .ret [.arr 0 1 0 (cmpc l).length, vi k], [⟨.arr, 3, 1, 1, es⟩]))
  | 0, i, hd, h0, ht => by
    have hfull : l.take i = l := List.take_of_length_le (by omega)
    rw [hfull] at ht
    exact .inl ⟨ht, (f125o_l0 _ _ _).trans ((goDn (by omega) _ _).trans (by rw [show i = l.length by omega]))⟩
  | d + 1, i, hd, h0, ht => by
    have hm : i < l.length := by omega
    have g1 : l[i]? = some l[i] := List.getElem?_eq_getElem hm
    have g2 : l[i - 1]? = some l[i - 1] := List.getElem?_eq_getElem (by omega)
    have wp : IntKind.wrap .i64 (Int.sub (i : Int) 1) = ((i - 1 : Nat) : Int) := (wr_sub (b := 1) (by omega) (by omega)).trans (by omega)
    have hct := cmpc_take (l := l) (m := i) h0 hm
    have hcl := cmpc_le l
    by_cases he : l[i] = l[i - 1]
    · right
      have htk : (l.take i).length = i := by rw [List.length_take]; omega
      have hct' : cmpc (l.take (i + 1)) = l.take i := by rw [hct, if_pos he.symm, ht]
      obtain ⟨A', q1, q2, q3⟩ := loop125i l hl i h0 d 1 i l (by omega) (by omega) (by omega) rfl hct'.symm (by rw [hct', htk]) (fun j hj => rfl)
      have hlA : (ints A').length = l.length := by rw [ints_len, q2]
      refine ⟨((cmpc l).length : Int), (ints A').take (Nat.add 0 (cmpc l).length) ++ List.replicate (Nat.sub l.length (cmpc l).length) [vi 0] ++ (ints A').drop (Nat.add (Nat.add 0 (cmpc l).length) (Nat.sub l.length (cmpc l).length)), ?_, ?_, ?_⟩
      · rw [show Nat.add 0 (cmpc l).length = (cmpc l).length from Nat.zero_add _, List.append_assoc, List.take_append_of_le_length (by rw [List.length_take]; omega), List.take_take, Nat.min_self, ints_take, q3]
      · simp only [List.length_append, List.length_take, List.length_replicate, List.length_drop]
        rw [hlA]
        show min (0 + (cmpc l).length) l.length + (l.length - (cmpc l).length) + (l.length - (0 + (cmpc l).length + (l.length - (cmpc l).length))) = l.length
        omega
      · refine (f125o_l0 _ _ _).trans ((goD (by omega) _ _).trans ((goY (by omega) _ _).trans ((goY (by omega) _ _).trans ((go1m (n := i) (o := 0) rfl (by rw [Nat.zero_add]; exact g1) _).trans ?_))))
        rw [wp]
        refine (goY (by omega) _ _).trans ((goY (by omega) _ _).trans ((go1m (n := i - 1) (o := 0) rfl (by rw [Nat.zero_add]; exact g2) _).trans ?_))
        refine (goD he _ _).trans ((goY (by omega) _ _).trans ((goY (by omega) _ _).trans ?_))
        rw [Int.toNat_natCast]
        show (Option.bind (E cx (Key.loop 125 [true, true, false, true, false, false, true, false, false, true, false, true, false, true, false]) [vi i, vi ((1 : Nat) : Int), .arr 0 1 0 l.length, .arr 0 1 (0 + i) (l.length - i)] [⟨.arr, 3, 1, 1, ints l⟩]) _) = _
        rw [Nat.zero_add, q1]
        simp only [Option.bind_some, asJump, JX.is, Nat.beq_refl, cond_true, uncons?, nil?, AV.int?, chk, obIs, if_true, and_self]
        rw [Int.toNat_natCast]
        refine (goY (by omega) _ _).trans ((goY (by omega) _ _).trans ?_)
        refine (goLe (by rw [hlA]; show 0 + (cmpc l).length + (l.length - (cmpc l).length) ≤ _; omega) _).trans ?_
        refine (goY (by omega) _ _).trans ((goY (by omega) _ _).trans ?_)
        rfl
    · have hct' : cmpc (l.take (i + 1)) = l.take (i + 1) := by
        rw [hct, if_neg (fun h => he h.symm), ht, List.take_add_one, g1]
        rfl
      have nx : ∀ {R}, E cx (Key.loop 125 [true, true, false, true, false]) [.val (.slice none 0 0), vi (i + 1 : Nat), .arr 0 1 0 l.length] [⟨.arr, 3, 1, 1, ints l⟩] = R → E cx (Key.loop 125 [true, true, false, true, false]) [.val (.slice none 0 0), vi i, .arr 0 1 0 l.length] [⟨.arr, 3, 1, 1, ints l⟩] = R := fun {R} h => by
        refine (f125o_l0 _ _ _).trans ((goD (by omega) _ _).trans ((goY (by omega) _ _).trans ((goY (by omega) _ _).trans ((go1m (n := i) (o := 0) rfl (by rw [Nat.zero_add]; exact g1) _).trans ?_))))
        rw [wp]
        refine (goY (by omega) _ _).trans ((goY (by omega) _ _).trans ((go1m (n := i - 1) (o := 0) rfl (by rw [Nat.zero_add]; exact g2) _).trans ?_))
        refine (goDn he _ _).trans ?_
        rw [wS (by omega)]
        exact h
      rcases loop125 l hl d (i + 1) (by omega) (by omega) hct' with ⟨q1, q2⟩ | ⟨k, es, q1, q2, q3⟩
      · exact .inl ⟨q1, nx q2⟩
      · exact .inr ⟨k, es, q1, q2, nx q3⟩
theorem c125 (l : List Int) (hl : l.length ≤ 4000000) : ∃ es : List (List AV), es.take (cmpc l).length = ints (cmpc l) ∧ es.length = l.length ∧
    E cx (Key.own 125) [.arr 0 1 0 l.length] [⟨.arr, 3, 1, 1, ints l⟩] = some (Out.ret (.arr 0 1 0 (cmpc l).length), [⟨.arr, 3, 1, 1, es⟩]) := by
  by_cases h2 : l.length < 2
  · have hc : cmpc l = l := by
      match l, h2 with
      | [], _ => rfl
      | [x], _ => rfl
      | x :: y :: r, h => simp at h; omega
    refine ⟨ints l, ?_, ints_len l, (f125o _ _).trans ((goD (by omega) _ _).trans (by rw [hc]))⟩
    rw [hc, List.take_of_length_le (by rw [ints_len]; exact Nat.le_refl _)]
  · have h1 : cmpc (l.take 1) = l.take 1 := by
      match l with
      | [] => rfl
      | [x] => rfl
      | x :: y :: r => rfl
    have key := loop125 l hl (l.length - 1) 1 (by omega) (by omega) h1
    have start : ∀ {R}, _ = R → E cx (Key.own 125) [.arr 0 1 0 l.length] [⟨.arr, 3, 1, 1, ints l⟩] = R := fun {R} h => (f125o _ _).trans ((goDn (by omega) _ _).trans h)
    rcases key with ⟨q1, q2⟩ | ⟨k, es, q1, q2, q3⟩
    · refine ⟨ints l, ?_, ints_len l, start ?_⟩
      · rw [q1, List.take_of_length_le (by rw [ints_len]; exact Nat.le_refl _)]
      · show (Option.bind (E cx (Key.loop 125 [true, true, false, true, false]) [.val (.slice none 0 0), vi ((1 : Nat) : Int), .arr 0 1 0 l.length] [⟨.arr, 3, 1, 1, ints l⟩]) _) = _
        rw [q2, q1]
        rfl
    · refine ⟨es, q1, q2, start ?_⟩
      show (Option.bind (E cx (Key.loop 125 [true, true, false, true, false]) [.val (.slice none 0 0), vi ((1 : Nat) : Int), .arr 0 1 0 l.length] [⟨.arr, 3, 1, 1, ints l⟩]) _) = _
      rw [q3]
      rfl
end
/- Bits: Union. -/
section
abbrev T3 := Int × List Int
abbrev brow (t : T3) : List AV := [vi t.1, .list 0 1 (ints t.2)]
abbrev brs (L : List T3) : List (List AV) := L.map brow
theorem brs_len (L : List T3) : (brs L).length = L.length := by simp [brs]
theorem goBr {ρ : Type} {L : List T3} {i : Int} {n : Nat} {t : T3} (hn : i = n) (h : L[n]? = some t) (k : Int → List (List AV) → Option ρ) :
    ((brs L)[Int.toNat i]?.bind fun cs => (uncons? cs).bind fun p1 => (AV.int? .i64 p1.fst).bind fun a => (uncons? p1.snd).bind fun p2 => (AV.list? 1 p2.fst).bind fun b => (nil? p2.snd).bind fun _ => k a b) = k t.1 (ints t.2) := by
  subst hn
  have : (brs L)[n]? = some (brow t) := by simp [brs, h]
  rw [Int.toNat_natCast, this]
  rfl
theorem ysOk_ints (l : List Int) : ysOk (ints l) = true := by
  unfold ysOk
  rw [List.all_eq_true]
  intro e he
  obtain ⟨p, _, rfl⟩ := List.mem_map.1 he
  rfl
abbrev catB (L : List T3) : List Int := L.flatMap (·.2)
def alikeB (n : Int) (l : List Int) (t : T3) : Bool := rightB n l && (rightB t.1 t.2 && decide (n = t.1))
/-- Rows of bits, some of which may be nil. -/
def RwB (W0 : List (List AV)) (L : List T3) : Prop := W0.length = L.length ∧ ∀ (i : Nat) (t : T3), L[i]? = some t → ∃ a, W0[i]? = some [vi t.1, a] ∧ a.list? 1 = some (ints t.2)
theorem rw_brs (L : List T3) : RwB (brs L) L := ⟨brs_len L, fun i t h => ⟨_, by rw [List.getElem?_map, h]; rfl, rfl⟩⟩
theorem goRw {ρ : Type} {W0 : List (List AV)} {i : Int} {n : Nat} {t : T3} (hn : i = n) (h : ∃ a, W0[n]? = some [vi t.1, a] ∧ a.list? 1 = some (ints t.2)) (k : Int → List (List AV) → Option ρ) :
    (W0[Int.toNat i]?.bind fun cs => (uncons? cs).bind fun p1 => (AV.int? .i64 p1.fst).bind fun a => (uncons? p1.snd).bind fun p2 => (AV.list? 1 p2.fst).bind fun b => (nil? p2.snd).bind fun _ => k a b) = k t.1 (ints t.2) := by
  subst hn
  obtain ⟨a, h1, h2⟩ := h
  rw [Int.toNat_natCast, h1]
  show (Option.bind (AV.list? 1 a) fun b => k t.1 b) = _
  rw [h2]
  rfl
theorem loop65 (n : Int) (l : List Int) (hl : l.length ≤ 4000) (W0 : List (List AV)) (L : List T3) (hR : RwB W0 L) (hL : L.length ≤ 1000) (hb : ∀ t ∈ L, t.2.length ≤ 4000) : ∀ (rest : List T3) (i : Nat) (o : List Int), L.drop i = rest → i + rest.length = L.length → o.length ≤ 4000 * (i + 1) →
    ((∀ t ∈ rest, alikeB n l t = true) ∧ E cx (Key.loop 65 [true, true, true, false, true, false]) [vi 0, .arr 2 1 0 o.length, vi i, .ptr 0 0 0 0, .ptr 1 0 0 0, .list 0 2 W0, vi L.length] [bB n l, ⟨.box, 33, 2, 0, [[vi 0, .val (.slice none 0 0)]]⟩, ⟨.arr, 3, 1, 1, ints o⟩] =
      some (Out.jump (.exit 0) [vi 0, .arr 2 1 0 (o ++ catB rest).length, vi L.length], [bB n l, ⟨.box, 33, 2, 0, [[vi 0, .val (.slice none 0 0)]]⟩, ⟨.arr, 3, 1, 1, ints (o ++ catB rest)⟩])) ∨
    ((∃ t ∈ rest, alikeB n l t = false) ∧ ∃ (k m : Nat) (o' : List Int), E cx (Key.loop 65 [true, true, true, false, true, false]) [vi 0, .arr 2 1 0 o.length, vi i, .ptr 0 0 0 0, .ptr 1 0 0 0, .list 0 2 W0, vi L.length] [bB n l, ⟨.box, 33, 2, 0, [[vi 0, .val (.slice none 0 0)]]⟩, ⟨.arr, 3, 1, 1, ints o⟩] =
      some (Out.jump .ret [vi 1, .arr 2 1 0 m, vi k], [bB n l, ⟨.box, 33, 2, 0, [[vi 0, .val (.slice none 0 0)]]⟩, ⟨.arr, 3, 1, 1, ints o'⟩]))
  | [], i, o, hd, hi, ho => by
    simp only [List.length_nil, Nat.add_zero] at hi
    subst hi
    refine .inl ⟨by simp, (f65_l0 _ _ _ _ _ _ _ _ _).trans ((goDn (by omega) _ _).trans ?_)⟩
    simp [catB]
  | t :: rest, i, o, hd, hi, ho => by
    obtain ⟨hp, hd', hlt⟩ := drop_cons' hd
    simp only [List.length_cons] at hi
    have htl := hb t (List.mem_of_getElem? hp)
    have c := c123 n t.1 l t.2 (by omega) (by omega)
    have hol : (o ++ t.2).length = o.length + t.2.length := List.length_append
    have go : ∀ {R}, (bif alikeB n l t then E cx (Key.loop 65 [true, true, true, false, true, false]) [vi 0, .arr 2 1 0 (o ++ t.2).length, vi (i + 1 : Nat), .ptr 0 0 0 0, .ptr 1 0 0 0, .list 0 2 W0, vi L.length] [bB n l, ⟨.box, 33, 2, 0, [[vi 0, .val (.slice none 0 0)]]⟩, ⟨.arr, 3, 1, 1, ints (o ++ t.2)⟩] else
        some (Out.jump .ret [vi 1, .arr 2 1 0 o.length, vi i], [bB n l, ⟨.box, 33, 2, 0, [[vi 0, .val (.slice none 0 0)]]⟩, ⟨.arr, 3, 1, 1, ints o⟩])) = R →
        E cx (Key.loop 65 [true, true, true, false, true, false]) [vi 0, .arr 2 1 0 o.length, vi i, .ptr 0 0 0 0, .ptr 1 0 0 0, .list 0 2 W0, vi L.length] [bB n l, ⟨.box, 33, 2, 0, [[vi 0, .val (.slice none 0 0)]]⟩, ⟨.arr, 3, 1, 1, ints o⟩] = R := fun {R} h => by
      refine (f65_l0 _ _ _ _ _ _ _ _ _).trans ((goD (by omega) _ _).trans ((goY (by omega) _ _).trans ((goRw (n := i) rfl (hR.2 i t hp) _).trans ((goB c _).trans ?_))))
      cases ha : alikeB n l t with
      | false =>
        rw [ha] at h
        have ha' : (rightB n l && (rightB t.1 t.2 && decide (n = t.1))) = false := ha
        rw [ha']
        exact h
      | true =>
        rw [ha] at h
        have ha' : (rightB n l && (rightB t.1 t.2 && decide (n = t.1))) = true := ha
        rw [ha', ysOk_ints, wS (by omega)]
        have happ : ints o ++ ints t.2 = ints (o ++ t.2) := by simp [ints]
        have hla : Nat.add (ints o).length (ints t.2).length = (o ++ t.2).length := by rw [ints_len, ints_len, hol]; rfl
        show (Option.bind (chk o.length (ints o).length) fun _ => if Nat.mul (Nat.add (ints o).length (ints t.2).length) 8 ≤ 140737488355328 then
          E cx (Key.loop 65 [true, true, true, false, true, false]) [vi 0, .arr 2 1 0 (Nat.add (ints o).length (ints t.2).length), vi (i + 1 : Nat), .ptr 0 0 0 0, .ptr 1 0 0 0, .list 0 2 W0, vi L.length] [bB n l, ⟨.box, 33, 2, 0, [[vi 0, .val (.slice none 0 0)]]⟩, ⟨.arr, 3, 1, 1, ints o ++ ints t.2⟩] else none) = _
        rw [hla, happ]
        refine (goCk (ints_len o).symm _).trans ((goY (by rw [hol]; show (o.length + t.2.length) * 8 ≤ _; omega) _ _).trans ?_)
        exact h
    cases ha : alikeB n l t with
    | false =>
      rw [ha] at go
      exact .inr ⟨⟨t, List.mem_cons_self .., ha⟩, i, o.length, o, go rfl⟩
    | true =>
      rw [ha] at go
      rcases loop65 n l hl W0 L hR hL hb rest (i + 1) (o ++ t.2) hd' (by omega) (by omega) with ⟨q1, q2⟩ | ⟨⟨t', q1, q2⟩, k, m, o', q3⟩
      · refine .inl ⟨fun t' ht' => ?_, go (q2.trans ?_)⟩
        · rcases List.mem_cons.1 ht' with rfl | ht'
          · exact ha
          · exact q1 t' ht'
        · simp [catB]
      · exact .inr ⟨⟨t', List.mem_cons_of_mem _ q1, q2⟩, k, m, o', go q3⟩
end
/- Bits: Union, whole. -/
section
theorem catB_len {L : List T3} (hb : ∀ t ∈ L, t.2.length ≤ 4000) : (catB L).length ≤ 4000 * L.length := by
  induction L with
  | nil => simp [catB]
  | cons t L ih =>
    have h1 := hb t (List.mem_cons_self ..)
    have h2 := ih fun u hu => hb u (List.mem_cons_of_mem _ hu)
    simp only [catB, List.flatMap_cons, List.length_append, List.length_cons] at h2 ⊢
    omega
/-- The union's octets. -/
def unB (l : List Int) (L : List T3) : List Int := cmpc (srtN (l ++ catB L))
theorem w65_t (n : Int) (l : List Int) (hl : l.length ≤ 4000) (W0 : List (List AV)) (L : List T3) (hR : RwB W0 L) (hL : L.length ≤ 900) (hb : ∀ t ∈ L, t.2.length ≤ 4000) (hr : rightB n l = true) (ha : ∀ t ∈ L, alikeB n l t = true) :
    E cx (Key.fn 65) [bA n l, .list 0 2 W0] [] = some (Out.ret (.tuple [bA n (unB l L), vi 0]), []) := by
  have hlen : (l ++ catB L).length ≤ 4000 * 901 := by
    have := catB_len hb
    rw [List.length_append]
    omega
  obtain ⟨es, e1, e2, e3⟩ := c125 (srtN (l ++ catB L)) (by rw [(srtN_perm _).length_eq]; omega)
  rw [(srtN_perm _).length_eq] at e3
  refine (f65 _ _ _).trans ((goB (c60 n l (by omega)) _).trans ?_)
  rw [hr, ysOk_ints]
  have h0 : Nat.add 0 (ints l).length = l.length := by rw [ints_len]; exact Nat.zero_add _
  show (if Nat.mul (Nat.add 0 (ints l).length) 8 ≤ 140737488355328 then _ else none) = _
  rw [h0]
  refine (goY (show l.length * 8 ≤ _ by omega) _ _).trans ?_
  rcases loop65 n l hl W0 L hR (by omega) hb L 0 l rfl (by omega) (by omega) with ⟨_, q⟩ | ⟨⟨t, ht, q⟩, _⟩
  · have q' : E cx (Key.loop 65 [true, true, true, false, true, false]) [vi 0, .arr 2 1 0 l.length, vi 0, .ptr 0 0 0 0, .ptr 1 0 0 0, .list 0 2 W0, vi (W0.length : Nat)] [bB n l, ⟨.box, 33, 2, 0, [[vi 0, .val (.slice none 0 0)]]⟩, ⟨.arr, 3, 1, 1, [] ++ ints l⟩] = some (Out.jump (.exit 0) [vi 0, .arr 2 1 0 (l ++ catB L).length, vi L.length], [bB n l, ⟨.box, 33, 2, 0, [[vi 0, .val (.slice none 0 0)]]⟩, ⟨.arr, 3, 1, 1, ints (l ++ catB L)⟩]) := by
      rw [hR.1]; exact q
    refine (congrArg (fun o => Option.bind o _) q').trans ?_
    show (Option.bind (chkLe (Nat.add 0 (l ++ catB L).length) (ints (l ++ catB L)).length) fun _ => if (l ++ catB L).length ≤ 4611686018427387903 then
      (sortN [] (List.drop 0 (List.take (Nat.add 0 (l ++ catB L).length) (ints (l ++ catB L))))).bind fun zs => (E cx (Key.own 125) [AV.arr 0 1 0 (l ++ catB L).length] [Ob.mk OK.arr 3 1 1 (List.take 0 (ints (l ++ catB L)) ++ zs ++ List.drop (Nat.add 0 (l ++ catB L).length) (ints (l ++ catB L)))]).bind _ else none) = _
    have hz : Nat.add 0 (l ++ catB L).length = (ints (l ++ catB L)).length := by rw [ints_len]; exact Nat.zero_add _
    rw [hz]
    refine (goLe (Nat.le_refl _) _).trans ((goY (by omega) _ _).trans ?_)
    rw [List.take_length, List.drop_zero, sortN_ints, List.take_zero, List.drop_length, Option.bind_some, List.nil_append, List.append_nil, e3]
    have hz2 : Nat.add 0 (cmpc (srtN (l ++ catB L))).length = (cmpc (srtN (l ++ catB L))).length := Nat.zero_add _
    have hle : (cmpc (srtN (l ++ catB L))).length ≤ es.length := by
      have := congrArg List.length e1
      rw [List.length_take, ints_len] at this
      omega
    show (Option.bind (chkLe (Nat.add 0 (cmpc (srtN (l ++ catB L))).length) es.length) fun _ => some (Out.ret (.tuple [.agg [vi n, .list 0 1 (List.drop 0 (List.take (Nat.add 0 (cmpc (srtN (l ++ catB L))).length) es))], vi 0]), [])) = _
    rw [hz2]
    refine (goLe hle _).trans ?_
    rw [e1]
    rfl
  · rw [ha t ht] at q; cases q
theorem w65_f (n : Int) (l : List Int) (hl : l.length ≤ 4000) (W0 : List (List AV)) (L : List T3) (hR : RwB W0 L) (hL : L.length ≤ 900) (hb : ∀ t ∈ L, t.2.length ≤ 4000) (h : rightB n l = false ∨ ∃ t ∈ L, alikeB n l t = false) :
    E cx (Key.fn 65) [bA n l, .list 0 2 W0] [] = some (Out.ret (.tuple [.agg [vi 0, .val (.slice none 0 0)], vi 1]), []) := by
  refine (f65 _ _ _).trans ((goB (c60 n l (by omega)) _).trans ?_)
  cases hr : rightB n l with
  | false => rfl
  | true =>
    obtain ⟨t0, ht0, hf⟩ : ∃ t ∈ L, alikeB n l t = false := by
      rcases h with h | h
      · rw [h] at hr; cases hr
      · exact h
    rw [ysOk_ints]
    have h0 : Nat.add 0 (ints l).length = l.length := by rw [ints_len]; exact Nat.zero_add _
    show (if Nat.mul (Nat.add 0 (ints l).length) 8 ≤ 140737488355328 then _ else none) = _
    rw [h0]
    refine (goY (show l.length * 8 ≤ _ by omega) _ _).trans ?_
    rcases loop65 n l hl W0 L hR (by omega) hb L 0 l rfl (by omega) (by omega) with ⟨q, _⟩ | ⟨_, k, m, o', q⟩
    · rw [q t0 ht0] at hf; cases hf
    · have q' : E cx (Key.loop 65 [true, true, true, false, true, false]) [vi 0, .arr 2 1 0 l.length, vi 0, .ptr 0 0 0 0, .ptr 1 0 0 0, .list 0 2 W0, vi (W0.length : Nat)] [bB n l, ⟨.box, 33, 2, 0, [[vi 0, .val (.slice none 0 0)]]⟩, ⟨.arr, 3, 1, 1, [] ++ ints l⟩] = some (Out.jump .ret [vi 1, .arr 2 1 0 m, vi k], [bB n l, ⟨.box, 33, 2, 0, [[vi 0, .val (.slice none 0 0)]]⟩, ⟨.arr, 3, 1, 1, ints o'⟩]) := by
        rw [hR.1]; exact q
      exact (congrArg (fun o => Option.bind o _) q').trans rfl
end
/- Bits: Disjoint. -/
section
abbrev fn128 (m : Int) (k : List Int) : AV := .func (Fn.func 128) [] [AV.rop [vi m, .list 0 1 (ints k)]]
theorem c128 (m x : Int) (k : List Int) (hk : k.length ≤ 4000000) : E cx (Key.fn 128) [vi x, .rop [vi m, .list 0 1 (ints k)]] [] = rb (rightB m k && decide (x ∈ k)) := by
  refine (f128 _ _ _).trans ((goB (c62 m x k hk) _).trans ?_)
  cases (rightB m k && decide (x ∈ k)) <;> rfl
theorem loop156 (m : Int) (k : List Int) (hk : k.length ≤ 4000000) (l : List Int) (hl : l.length ≤ 4000000) : ∀ (rest : List Int) (i : Nat) (r : Int), l.drop i = rest → i + rest.length = l.length →
    ((∀ x ∈ rest, (rightB m k && decide (x ∈ k)) = false) ∧ ∃ i' : Nat, E cx (Key.loop 156 [true, false, true, false]) [vi r, vi i, .list 0 1 (ints l), fn128 m k, vi l.length] [] = some (Out.jump (.exit 0) [vi r, vi i'], [])) ∨
    ((∃ x ∈ rest, (rightB m k && decide (x ∈ k)) = true) ∧ ∃ i' : Nat, E cx (Key.loop 156 [true, false, true, false]) [vi r, vi i, .list 0 1 (ints l), fn128 m k, vi l.length] [] = some (Out.jump .ret [vi i', vi i'], []))
  | [], i, r, hd, hi => .inl ⟨by simp, i, by
      simp only [List.length_nil, Nat.add_zero] at hi
      exact (f68_c0_c1_l2 _ _ _ _ _ _).trans (goDn (by omega) _ _)⟩
  | y :: rest, i, r, hd, hi => by
    obtain ⟨hp, hd', hlt⟩ := drop_cons' hd
    simp only [List.length_cons] at hi
    have go : ∀ {R}, (bif (rightB m k && decide (y ∈ k)) then some (Out.jump .ret [vi i, vi i], []) else E cx (Key.loop 156 [true, false, true, false]) [vi r, vi (i + 1 : Nat), .list 0 1 (ints l), fn128 m k, vi l.length] []) = R →
        E cx (Key.loop 156 [true, false, true, false]) [vi r, vi i, .list 0 1 (ints l), fn128 m k, vi l.length] [] = R := fun {R} h => by
      refine (f68_c0_c1_l2 _ _ _ _ _ _).trans ((goD (by omega) _ _).trans ((goY (by omega) _ _).trans ((go1 (n := i) rfl hp _).trans ((goB (c128 m y k hk) _).trans ?_))))
      rw [wS (by omega)]
      exact h
    cases hy : (rightB m k && decide (y ∈ k)) with
    | true =>
      rw [hy] at go
      exact .inr ⟨⟨y, List.mem_cons_self .., hy⟩, i, go rfl⟩
    | false =>
      rw [hy] at go
      rcases loop156 m k hk l hl rest (i + 1) r hd' (by omega) with ⟨g1, i', g2⟩ | ⟨⟨x, g1, g2⟩, i', g3⟩
      · refine .inl ⟨fun x hx => ?_, i', go g2⟩
        rcases List.mem_cons.1 hx with rfl | hx
        · exact hy
        · exact g1 x hx
      · exact .inr ⟨⟨x, List.mem_cons_of_mem _ g1, g2⟩, i', go g3⟩
theorem c127 (m : Int) (k : List Int) (hk : k.length ≤ 4000000) (l : List Int) (hl : l.length ≤ 4000000) : E cx (Key.fn 127) [.list 0 1 (ints l), fn128 m k] [] = rb (l.any fun x => rightB m k && decide (x ∈ k)) := by
  refine (f68_c0 _ _ _).trans ?_
  rcases loop156 m k hk l hl l 0 0 rfl (by omega) with ⟨g1, i, g2⟩ | ⟨⟨x, g1, g2⟩, i, g3⟩
  · have h : (l.any fun x => rightB m k && decide (x ∈ k)) = false := List.any_eq_false.2 fun x hx => by rw [g1 x hx]; exact Bool.false_ne_true
    rw [h]
    have e : E cx (Key.fn 156) [.list 0 1 (ints l), fn128 m k] [] = some (Out.ret (vi (-1)), []) := by
      refine (f68_c0_c1 _ _ _).trans ?_
      rw [ints_len]
      exact (congrArg (fun o => Option.bind o _) g2).trans rfl
    exact (goI e _).trans rfl
  · have h : (l.any fun x => rightB m k && decide (x ∈ k)) = true := List.any_eq_true.2 ⟨x, g1, g2⟩
    rw [h]
    have e : E cx (Key.fn 156) [.list 0 1 (ints l), fn128 m k] [] = some (Out.ret (vi i), []) := by
      refine (f68_c0_c1 _ _ _).trans ?_
      rw [ints_len]
      exact (congrArg (fun o => Option.bind o _) g3).trans rfl
    exact (goI e _).trans (goD (by omega) _ _)
theorem c68 (n m : Int) (l k : List Int) (hl : l.length ≤ 4000000) (hk : k.length ≤ 4000000) : E cx (Key.fn 68) [bA n l, bA m k] [] = rb (rightB n l && (rightB m k && decide (n = m)) && !(l.any fun x => rightB m k && decide (x ∈ k))) := by
  refine (f68 _ _ _ _).trans ((goB (c123 n m l k hl hk) _).trans ?_)
  cases (rightB n l && (rightB m k && decide (n = m))) with
  | false => rfl
  | true =>
    refine (goB (c127 m k hk l hl) _).trans ?_
    cases (l.any fun x => rightB m k && decide (x ∈ k)) <;> rfl
end
/- Bits: Subset. -/
section
abbrev fn129 (m : Int) (k : List Int) : AV := .func (Fn.func 129) [] [AV.rop [vi m, .list 0 1 (ints k)]]
theorem c129 (m x : Int) (k : List Int) (hk : k.length ≤ 4000000) : E cx (Key.fn 129) [vi x, .rop [vi m, .list 0 1 (ints k)]] [] = rb (!(rightB m k && decide (x ∈ k))) := by
  refine (f129 _ _ _).trans ((goB (c62 m x k hk) _).trans ?_)
  cases (rightB m k && decide (x ∈ k)) <;> rfl
theorem loop156s (m : Int) (k : List Int) (hk : k.length ≤ 4000000) (l : List Int) (hl : l.length ≤ 4000000) : ∀ (rest : List Int) (i : Nat) (r : Int), l.drop i = rest → i + rest.length = l.length →
    ((∀ x ∈ rest, (!(rightB m k && decide (x ∈ k))) = false) ∧ ∃ i' : Nat, E cx (Key.loop 156 [true, false, true, false]) [vi r, vi i, .list 0 1 (ints l), fn129 m k, vi l.length] [] = some (Out.jump (.exit 0) [vi r, vi i'], [])) ∨
    ((∃ x ∈ rest, (!(rightB m k && decide (x ∈ k))) = true) ∧ ∃ i' : Nat, E cx (Key.loop 156 [true, false, true, false]) [vi r, vi i, .list 0 1 (ints l), fn129 m k, vi l.length] [] = some (Out.jump .ret [vi i', vi i'], []))
  | [], i, r, hd, hi => .inl ⟨by simp, i, by
      simp only [List.length_nil, Nat.add_zero] at hi
      exact (f70_c0_c1_l2 _ _ _ _ _ _).trans (goDn (by omega) _ _)⟩
  | y :: rest, i, r, hd, hi => by
    obtain ⟨hp, hd', hlt⟩ := drop_cons' hd
    simp only [List.length_cons] at hi
    have go : ∀ {R}, (bif (!(rightB m k && decide (y ∈ k))) then some (Out.jump .ret [vi i, vi i], []) else E cx (Key.loop 156 [true, false, true, false]) [vi r, vi (i + 1 : Nat), .list 0 1 (ints l), fn129 m k, vi l.length] []) = R →
        E cx (Key.loop 156 [true, false, true, false]) [vi r, vi i, .list 0 1 (ints l), fn129 m k, vi l.length] [] = R := fun {R} h => by
      refine (f70_c0_c1_l2 _ _ _ _ _ _).trans ((goD (by omega) _ _).trans ((goY (by omega) _ _).trans ((go1 (n := i) rfl hp _).trans ((goB (c129 m y k hk) _).trans ?_))))
      rw [wS (by omega)]
      exact h
    cases hy : (!(rightB m k && decide (y ∈ k))) with
    | true =>
      rw [hy] at go
      exact .inr ⟨⟨y, List.mem_cons_self .., hy⟩, i, go rfl⟩
    | false =>
      rw [hy] at go
      rcases loop156s m k hk l hl rest (i + 1) r hd' (by omega) with ⟨g1, i', g2⟩ | ⟨⟨x, g1, g2⟩, i', g3⟩
      · refine .inl ⟨fun x hx => ?_, i', go g2⟩
        rcases List.mem_cons.1 hx with rfl | hx
        · exact hy
        · exact g1 x hx
      · exact .inr ⟨⟨x, List.mem_cons_of_mem _ g1, g2⟩, i', go g3⟩
theorem c127s (m : Int) (k : List Int) (hk : k.length ≤ 4000000) (l : List Int) (hl : l.length ≤ 4000000) : E cx (Key.fn 127) [.list 0 1 (ints l), fn129 m k] [] = rb (l.any fun x => !(rightB m k && decide (x ∈ k))) := by
  refine (f70_c0 _ _ _).trans ?_
  rcases loop156s m k hk l hl l 0 0 rfl (by omega) with ⟨g1, i, g2⟩ | ⟨⟨x, g1, g2⟩, i, g3⟩
  · have h : (l.any fun x => !(rightB m k && decide (x ∈ k))) = false := List.any_eq_false.2 fun x hx => by rw [g1 x hx]; exact Bool.false_ne_true
    rw [h]
    have e : E cx (Key.fn 156) [.list 0 1 (ints l), fn129 m k] [] = some (Out.ret (vi (-1)), []) := by
      refine (f70_c0_c1 _ _ _).trans ?_
      rw [ints_len]
      exact (congrArg (fun o => Option.bind o _) g2).trans rfl
    exact (goI e _).trans rfl
  · have h : (l.any fun x => !(rightB m k && decide (x ∈ k))) = true := List.any_eq_true.2 ⟨x, g1, g2⟩
    rw [h]
    have e : E cx (Key.fn 156) [.list 0 1 (ints l), fn129 m k] [] = some (Out.ret (vi i), []) := by
      refine (f70_c0_c1 _ _ _).trans ?_
      rw [ints_len]
      exact (congrArg (fun o => Option.bind o _) g3).trans rfl
    exact (goI e _).trans (goD (by omega) _ _)
theorem c70 (n m : Int) (l k : List Int) (hl : l.length ≤ 4000000) (hk : k.length ≤ 4000000) : E cx (Key.fn 70) [bA n l, bA m k] [] = rb (rightB n l && (rightB m k && decide (n = m)) && !(l.any fun x => !(rightB m k && decide (x ∈ k)))) := by
  refine (f70 _ _ _ _).trans ((goB (c123 n m l k hl hk) _).trans ?_)
  cases (rightB n l && (rightB m k && decide (n = m))) with
  | false => rfl
  | true =>
    refine (goB (c127s m k hk l hl) _).trans ?_
    cases (l.any fun x => !(rightB m k && decide (x ∈ k))) <;> rfl
end
/- Bits: the documents' Disjoint and Subset. -/
section
theorem loop69 (n m : Int) (k : List Int) (hk : k.length ≤ 4000000) (l : List Int) (hl : l.length ≤ 4000000) : ∀ (rest : List Int) (i : Nat) (b : Bool), l.drop i = rest → i + rest.length = l.length →
    ∃ i' : Nat, E cx (Key.loop 69 [true, true, false, true, false]) [vbool b, vi i, .ptr 0 0 0 0, .ptr 1 0 0 0] [bB n l, bB m k] = some (Out.jump (.exit 0) [vbool (b && rest.all fun x => !decide (x ∈ k)), vi i'], [bB n l, bB m k])
  | [], i, b, hd, hi => ⟨i, by
      simp only [List.length_nil, Nat.add_zero] at hi
      rw [List.all_nil, Bool.and_true]
      exact (f69_l0 _ _ _ _ _ _).trans (goDn (by rw [ints_len]; omega) _ _)⟩
  | y :: rest, i, b, hd, hi => by
    obtain ⟨hp, hd', hlt⟩ := drop_cons' hd
    simp only [List.length_cons] at hi
    obtain ⟨i', h⟩ := loop69 n m k hk l hl rest (i + 1) (b && !decide (y ∈ k)) hd' (by omega)
    refine ⟨i', (f69_l0 _ _ _ _ _ _).trans ((goD (by rw [ints_len]; omega) _ _).trans ((goY (by omega) _ _).trans ((go1 (n := i) rfl hp _).trans ((goB (c122 m y k hk) _).trans ?_))))⟩
    unfold q69_l0_2 q69_l0_1 q69_l0_0
    rw [wS (by omega), List.all_cons, ← Bool.and_assoc, ← h]
    cases b <;> cases decide (y ∈ k) <;> rfl
theorem c69 (n m : Int) (l k : List Int) (hl : l.length ≤ 4000000) (hk : k.length ≤ 4000000) : E cx (Key.fn 69) [bA n l, bA m k] [] = rb (rightB n l && (rightB m k && decide (n = m)) && l.all fun x => !decide (x ∈ k)) := by
  refine (f69 _ _ _ _).trans ((goB (c126 n m l k hl hk) _).trans ?_)
  cases (rightB n l && (rightB m k && decide (n = m))) with
  | false =>
    obtain ⟨i, g⟩ := loop69 n m k hk l hl l 0 false rfl (by omega)
    exact (congrArg (fun o => Option.bind o _) g).trans rfl
  | true =>
    obtain ⟨i, g⟩ := loop69 n m k hk l hl l 0 true rfl (by omega)
    exact (congrArg (fun o => Option.bind o _) g).trans rfl
theorem loop71 (n m : Int) (k : List Int) (hk : k.length ≤ 4000000) (l : List Int) (hl : l.length ≤ 4000000) : ∀ (rest : List Int) (i : Nat) (b : Bool), l.drop i = rest → i + rest.length = l.length →
    ∃ i' : Nat, E cx (Key.loop 71 [true, true, false, true, false]) [vbool b, vi i, .ptr 0 0 0 0, .ptr 1 0 0 0] [bB n l, bB m k] = some (Out.jump (.exit 0) [vbool (b && rest.all fun x => decide (x ∈ k)), vi i'], [bB n l, bB m k])
  | [], i, b, hd, hi => ⟨i, by
      simp only [List.length_nil, Nat.add_zero] at hi
      rw [List.all_nil, Bool.and_true]
      exact (f71_l0 _ _ _ _ _ _).trans (goDn (by rw [ints_len]; omega) _ _)⟩
  | y :: rest, i, b, hd, hi => by
    obtain ⟨hp, hd', hlt⟩ := drop_cons' hd
    simp only [List.length_cons] at hi
    obtain ⟨i', h⟩ := loop71 n m k hk l hl rest (i + 1) (b && decide (y ∈ k)) hd' (by omega)
    refine ⟨i', (f71_l0 _ _ _ _ _ _).trans ((goD (by rw [ints_len]; omega) _ _).trans ((goY (by omega) _ _).trans ((go1 (n := i) rfl hp _).trans ((goB (c122 m y k hk) _).trans ?_))))⟩
    unfold q71_l0_1 q71_l0_0
    rw [wS (by omega), List.all_cons, ← Bool.and_assoc, ← h]
    cases b <;> cases decide (y ∈ k) <;> rfl
theorem c71 (n m : Int) (l k : List Int) (hl : l.length ≤ 4000000) (hk : k.length ≤ 4000000) : E cx (Key.fn 71) [bA n l, bA m k] [] = rb (rightB n l && (rightB m k && decide (n = m)) && l.all fun x => decide (x ∈ k)) := by
  refine (f71 _ _ _ _).trans ((goB (c126 n m l k hl hk) _).trans ?_)
  cases (rightB n l && (rightB m k && decide (n = m))) with
  | false =>
    obtain ⟨i, g⟩ := loop71 n m k hk l hl l 0 false rfl (by omega)
    exact (congrArg (fun o => Option.bind o _) g).trans rfl
  | true =>
    obtain ⟨i, g⟩ := loop71 n m k hk l hl l 0 true rfl (by omega)
    exact (congrArg (fun o => Option.bind o _) g).trans rfl
end
/- Bits: the document's Union, its loops. -/
section
abbrev b0 (m : Int) : Ob := ⟨.box, 33, 2, 0, [[vi m, .val (.slice none 0 0)]]⟩
theorem loop66c (x m : Int) (n : Int) (c : Nat) (o : List (List AV)) (L : List T3) (hL : L.length ≤ 1000) (hb : ∀ t ∈ L, t.2.length ≤ 4000) : ∀ (rest : List T3) (i : Nat) (b : Bool), L.drop i = rest → i + rest.length = L.length →
    ∃ i' : Nat, E cx (Key.loop 66 [true, true, true, false, true, false, false, true, false, false, true, false, true, false]) [vbool b, vi i, .list 0 2 (brs L), .ptr 0 0 0 0, .ptr 1 0 0 0, vi x] [b0 m, ⟨.box, 33, 2, 0, [[vi n, .arr 2 1 0 c]]⟩, ⟨.arr, 3, 1, 1, o⟩] =
      some (Out.jump (.exit 4) [vbool (b || rest.any fun t => decide (x ∈ t.2)), vi i'], [b0 m, ⟨.box, 33, 2, 0, [[vi n, .arr 2 1 0 c]]⟩, ⟨.arr, 3, 1, 1, o⟩])
  | [], i, b, hd, hi => ⟨i, by
      simp only [List.length_nil, Nat.add_zero] at hi
      rw [List.any_nil, Bool.or_false]
      exact (f66_l1_l2 _ _ _ _ _ _ _ _).trans (goDn (by rw [brs_len]; omega) _ _)⟩
  | t :: rest, i, b, hd, hi => by
    obtain ⟨hp, hd', hlt⟩ := drop_cons' hd
    simp only [List.length_cons] at hi
    have htl := hb t (List.mem_of_getElem? hp)
    obtain ⟨i', h⟩ := loop66c x m n c o L hL hb rest (i + 1) (b || decide (x ∈ t.2)) hd' (by omega)
    refine ⟨i', (f66_l1_l2 _ _ _ _ _ _ _ _).trans ((goD (by rw [brs_len]; omega) _ _).trans ((goY (by omega) _ _).trans ((goBr (n := i) rfl hp _).trans ((goB (c122 t.1 x t.2 (by omega)) _).trans ?_))))⟩
    unfold q66_l1_l2_1 q66_l1_l2_0
    rw [wS (by omega), List.any_cons, ← Bool.or_assoc, ← h]
    cases b <;> cases decide (x ∈ t.2) <;> rfl
theorem loop66a (r m : Int) (t0 : T3) (L : List T3) (h0 : L[0]? = some t0) (hL : L.length ≤ 1000) (hb : ∀ t ∈ L, t.2.length ≤ 4000) : ∀ (rest : List T3) (i : Nat), L.drop i = rest → i + rest.length = L.length →
    ((∀ t ∈ rest, alikeB t0.1 t0.2 t = true) ∧ E cx (Key.loop 66 [true, false, true, false]) [vi r, vi i, .list 0 2 (brs L), .ptr 0 0 0 0] [b0 m] = some (Out.jump (.exit 0) [vi r, vi L.length], [b0 m])) ∨
    ((∃ t ∈ rest, alikeB t0.1 t0.2 t = false) ∧ ∃ i' : Nat, E cx (Key.loop 66 [true, false, true, false]) [vi r, vi i, .list 0 2 (brs L), .ptr 0 0 0 0] [b0 m] = some (Out.jump .ret [vi 1, vi i'], [b0 0]))
  | [], i, hd, hi => .inl ⟨by simp, by
      simp only [List.length_nil, Nat.add_zero] at hi
      subst hi
      exact (f66_l0 _ _ _ _).trans (goDn (by rw [brs_len]; omega) _ _)⟩
  | t :: rest, i, hd, hi => by
    obtain ⟨hp, hd', hlt⟩ := drop_cons' hd
    simp only [List.length_cons] at hi
    have htl := hb t (List.mem_of_getElem? hp)
    have ht0 := hb t0 (List.mem_of_getElem? h0)
    have go : ∀ {R}, (bif alikeB t0.1 t0.2 t then E cx (Key.loop 66 [true, false, true, false]) [vi r, vi (i + 1 : Nat), .list 0 2 (brs L), .ptr 0 0 0 0] [b0 m] else some (Out.jump .ret [vi 1, vi i], [b0 0])) = R →
        E cx (Key.loop 66 [true, false, true, false]) [vi r, vi i, .list 0 2 (brs L), .ptr 0 0 0 0] [b0 m] = R := fun {R} h => by
      refine (f66_l0 _ _ _ _).trans ((goD (by rw [brs_len]; omega) _ _).trans ((goBr (i := 0) (n := 0) rfl h0 _).trans ((goY (by omega) _ _).trans ((goBr (n := i) rfl hp _).trans ((goB (c126 t0.1 t.1 t0.2 t.2 (by omega) (by omega)) _).trans ?_)))))
      rw [wS (by omega)]
      exact h
    cases ha : alikeB t0.1 t0.2 t with
    | false =>
      rw [ha] at go
      exact .inr ⟨⟨t, List.mem_cons_self .., ha⟩, i, go rfl⟩
    | true =>
      rw [ha] at go
      rcases loop66a r m t0 L h0 hL hb rest (i + 1) hd' (by omega) with ⟨g1, g2⟩ | ⟨⟨t', g1, g2⟩, k, g3⟩
      · refine .inl ⟨fun t' ht' => ?_, go g2⟩
        rcases List.mem_cons.1 ht' with rfl | ht'
        · exact ha
        · exact g1 t' ht'
      · exact .inr ⟨⟨t', List.mem_cons_of_mem _ g1, g2⟩, k, go g3⟩
end
/- Bits: the document's Union, whole. -/
section
/-- The places from x on, d of them, that one of the rows holds. -/
def unD (L : List T3) (x : Int) : Nat → List Int
  | 0 => []
  | d + 1 => (bif L.any fun t => decide (x ∈ t.2) then [x] else []) ++ unD L (x + 1) d
theorem loop66b (m : Int) (n : Int) (hn : n ≤ 1000000) (L : List T3) (hL : L.length ≤ 1000) (hb : ∀ t ∈ L, t.2.length ≤ 4000) : ∀ (d : Nat) (x : Int) (o : List Int), x + d = n → 0 ≤ x → (o.length : Int) ≤ x →
    E cx (Key.loop 66 [true, true, true, false, true, false]) [vi x, .list 0 2 (brs L), .ptr 0 0 0 0, .ptr 1 0 0 0] [b0 m, ⟨.box, 33, 2, 0, [[vi n, .arr 2 1 0 o.length]]⟩, ⟨.arr, 3, 1, 1, ints o⟩] =
      some (Out.jump (.exit 2) [vi n], [b0 m, ⟨.box, 33, 2, 0, [[vi n, .arr 2 1 0 (o ++ unD L x d).length]]⟩, ⟨.arr, 3, 1, 1, ints (o ++ unD L x d)⟩])
  | 0, x, o, hx, h0, ho => by
    have : x = n := by omega
    subst this
    unfold unD
    rw [List.append_nil]
    exact (f66_l1 _ _ _ _ _ _).trans (goDn (by omega) _ _)
  | d + 1, x, o, hx, h0, ho => by
    obtain ⟨i', g⟩ := loop66c x m n o.length (ints o) L hL hb L 0 false rfl (by omega)
    rw [Bool.false_or] at g
    refine (f66_l1 _ _ _ _ _ _).trans ((goD (by omega) _ _).trans ((congrArg (fun o => Option.bind o _) g).trans ?_))
    unfold unD
    cases hc : L.any fun t => decide (x ∈ t.2) with
    | true =>
      have e := loop66b m n hn L hL hb d (x + 1) (o ++ [x]) (by omega) (by omega) (by simp; omega)
      have hw : IntKind.wrap .i64 (Int.add x 1) = x + 1 := wr_add (by omega) (by omega)
      show (Option.bind (chk o.length (ints o).length) fun _ => if Nat.mul (Nat.add (ints o).length 1) 8 ≤ 140737488355328 then
        E cx (Key.loop 66 [true, true, true, false, true, false]) [vi (IntKind.wrap .i64 (Int.add x 1)), .list 0 2 (brs L), .ptr 0 0 0 0, .ptr 1 0 0 0] [b0 m, ⟨.box, 33, 2, 0, [[vi n, .arr 2 1 0 (Nat.add (ints o).length 1)]]⟩, ⟨.arr, 3, 1, 1, ints o ++ [[vi x]]⟩] else none) = _
      rw [hw]
      have hla : Nat.add (ints o).length 1 = (o ++ [x]).length := by rw [ints_len, List.length_append]; rfl
      have happ : ints o ++ [[vi x]] = ints (o ++ [x]) := by simp [ints]
      rw [hla, happ]
      refine (goCk (ints_len o).symm _).trans ((goY (by rw [List.length_append]; show (o.length + 1) * 8 ≤ _; omega) _ _).trans (e.trans ?_))
      simp [List.append_assoc]
    | false =>
      have e := loop66b m n hn L hL hb d (x + 1) o (by omega) (by omega) (by omega)
      have hw : IntKind.wrap .i64 (Int.add x 1) = x + 1 := wr_add (by omega) (by omega)
      show E cx (Key.loop 66 [true, true, true, false, true, false]) [vi (IntKind.wrap .i64 (Int.add x 1)), .list 0 2 (brs L), .ptr 0 0 0 0, .ptr 1 0 0 0] [b0 m, ⟨.box, 33, 2, 0, [[vi n, .arr 2 1 0 o.length]]⟩, ⟨.arr, 3, 1, 1, ints o⟩] = _
      rw [hw]
      exact e.trans (by simp)
theorem c66_t (t0 : T3) (L : List T3) (h0 : L[0]? = some t0) (hL : L.length ≤ 1000) (hb : ∀ t ∈ L, t.2.length ≤ 4000) (ha : ∀ t ∈ L, alikeB t0.1 t0.2 t = true) (hn : t0.1 ≤ 1000000) (hn0 : 0 ≤ t0.1) :
    E cx (Key.fn 66) [.list 0 2 (brs L)] [] = some (Out.ret (.tuple [bA t0.1 (unD L 0 t0.1.toNat), vi 0]), []) := by
  refine (f66 _).trans ?_
  rcases loop66a 0 0 t0 L h0 hL hb L 0 rfl (by omega) with ⟨_, g⟩ | ⟨⟨t, ht, g⟩, _⟩
  · refine (congrArg (fun o => Option.bind o _) g).trans ?_
    refine (goBr (i := 0) (n := 0) rfl h0 _).trans ?_
    refine (congrArg (fun o => Option.bind o _) (loop66b 0 t0.1 hn L hL hb t0.1.toNat 0 [] (by omega) (by omega) (by simp))).trans ?_
    rw [List.nil_append]
    have hz : Nat.add 0 (unD L 0 t0.1.toNat).length = (ints (unD L 0 t0.1.toNat)).length := by rw [ints_len]; exact Nat.zero_add _
    show (Option.bind (chkLe (Nat.add 0 (unD L 0 t0.1.toNat).length) (ints (unD L 0 t0.1.toNat)).length) fun _ => some (Out.ret (.tuple [.agg [vi t0.1, .list 0 1 (List.drop 0 (List.take (Nat.add 0 (unD L 0 t0.1.toNat).length) (ints (unD L 0 t0.1.toNat))))], vi 0]), [])) = _
    rw [hz]
    refine (goLe (Nat.le_refl _) _).trans ?_
    rw [List.take_length]
    rfl
  · rw [ha t ht] at g; cases g
theorem c66_f (t0 : T3) (L : List T3) (h0 : L[0]? = some t0) (hL : L.length ≤ 1000) (hb : ∀ t ∈ L, t.2.length ≤ 4000) (ha : ∃ t ∈ L, alikeB t0.1 t0.2 t = false) :
    E cx (Key.fn 66) [.list 0 2 (brs L)] [] = some (Out.ret (.tuple [.agg [vi 0, .val (.slice none 0 0)], vi 1]), []) := by
  refine (f66 _).trans ?_
  rcases loop66a 0 0 t0 L h0 hL hb L 0 rfl (by omega) with ⟨g, _⟩ | ⟨_, k, g⟩
  · obtain ⟨t, h1, h2⟩ := ha
    rw [g t h1] at h2; cases h2
  · exact (congrArg (fun o => Option.bind o _) g).trans rfl
end
/- Bits: octets out of places, the loop of 118. -/
section
abbrev bys (o : List Int) : List (List AV) := o.map fun b => [vb b]
def putB (o : List Int) (p : Nat) : List Int := o.set (p / 8) (ior .u8 (o.getD (p / 8) 0) (ishl .u8 1 ((p % 8 : Nat) : Int)))
theorem putB_len (o : List Int) (p : Nat) : (putB o p).length = o.length := by simp [putB]
theorem nth_bys {o : List Int} {k : Nat} (h : k < o.length) : nth (bys o) k = some [vb (o.getD k 0)] := by
  rw [nth_eq]; simp [bys, h]
theorem goNb {ρ : Type} {o : List Int} {k : Nat} (h : k < o.length) (f : Int → Option ρ) : ((nth (bys o) k).bind fun cs => (uncons? cs).bind fun p => (AV.int? .u8 p.fst).bind fun s => (nil? p.snd).bind fun _ => f s) = f (o.getD k 0) := by rw [nth_bys h]; rfl
theorem loop118 (l : List Nat) (hl : l.length ≤ 4000000) (n : Nat) (hn : n ≤ 1000000) (hp : ∀ p ∈ l, p < 8 * n) : ∀ (rest : List Nat) (i : Nat) (o : List Int), l.drop i = rest → i + rest.length = l.length → o.length = n →
    E cx (Key.loop 118 [true, true, false, true, false]) [vi i, .arr 0 1 0 n, .list 0 1 (ints (l.map Int.ofNat)), vi l.length] [⟨.arr, 5, 1, 1, bys o⟩] = some (Out.jump (.exit 0) [vi l.length], [⟨.arr, 5, 1, 1, bys (rest.foldl putB o)⟩])
  | [], i, o, hd, hi, ho => by
    simp only [List.length_nil, Nat.add_zero] at hi
    subst hi
    exact (f118_l0 _ _ _ _ _).trans (goDn (by omega) _ _)
  | y :: rest, i, o, hd, hi, ho => by
    obtain ⟨hq, hd', hlt⟩ := drop_cons' hd
    simp only [List.length_cons] at hi
    have hy := hp y (List.mem_of_getElem? hq)
    have hq' : (l.map Int.ofNat)[i]? = some (y : Int) := by rw [List.getElem?_map, hq]; rfl
    have ih := loop118 l hl n hn hp rest (i + 1) (putB o y) hd' (by omega) ((putB_len o y).trans ho)
    have hw : IntKind.wrap .i64 (Int.tdiv (y : Int) 8) = ((y / 8 : Nat) : Int) := by
      rw [show Int.tdiv (y : Int) 8 = ((y / 8 : Nat) : Int) from rfl]
      exact wr_id (by omega) (by omega)
    refine (f118_l0 _ _ _ _ _).trans ((goD (by omega) _ _).trans ((goY (by omega) _ _).trans ((go1 (n := i) rfl hq' _).trans ?_)))
    rw [hw, Int.toNat_natCast, show Nat.add 0 (y / 8) = y / 8 from Nat.zero_add _, show Int.tmod (y : Int) 8 = ((y % 8 : Nat) : Int) from rfl, wS (by omega)]
    have hk : y / 8 < o.length := by omega
    refine (goY (by omega) _ _).trans ((goY (by omega) _ _).trans ((goNb hk _).trans ((goN (show ¬ (((y % 8 : Nat) : Int) < 0) by omega) _ _).trans ((goY (by omega) _ _).trans ((goY (by omega) _ _).trans ((goNb hk _).trans ?_))))))
    refine Eq.trans ?_ ih
    simp [putB, bys, List.map_set]
end
/- Bits: octets out of places, 118 whole. -/
section
theorem foldB_len (l : List Nat) : ∀ o : List Int, (l.foldl putB o).length = o.length := by
  induction l with
  | nil => intro o; rfl
  | cons p l ih => intro o; rw [List.foldl_cons, ih, putB_len]
theorem c118 (l : List Nat) (hl : l.length ≤ 4000000) (n : Nat) (hn : n ≤ 1000000) (hp : ∀ p ∈ l, p < 8 * n) :
    E cx (Key.fn 118) [vi n, .list 0 1 (ints (l.map Int.ofNat))] [] = some (Out.ret (.list 0 1 (bys (l.foldl putB (List.replicate n 0)))), []) := by
  have hlen : (l.foldl putB (List.replicate n 0)).length = n := by rw [foldB_len, List.length_replicate]
  have hbl : (bys (l.foldl putB (List.replicate n 0))).length = n := by rw [List.length_map, hlen]
  have g := loop118 l hl n hn hp l 0 (List.replicate n 0) rfl (by omega) (List.length_replicate ..)
  have hb0 : bys (List.replicate n 0) = List.replicate n [vb 0] := by simp [bys]
  rw [hb0] at g
  refine (f118 _ _).trans ((goY (by omega) _ _).trans ((goY (Int.le_refl _) _ _).trans ((goY (show Int.mul 1 n ≤ _ by show (1 : Int) * n ≤ _; omega) _ _).trans ?_)))
  rw [Int.toNat_natCast, ints_len, List.length_map]
  refine (congrArg (fun o => Option.bind o _) g).trans ?_
  show (Option.bind (chkLe (Nat.add 0 n) (bys (l.foldl putB (List.replicate n 0))).length) fun _ => some (Out.ret (.list 0 1 (List.drop 0 (List.take (Nat.add 0 n) (bys (l.foldl putB (List.replicate n 0)))))), [])) = _
  rw [show Nat.add 0 n = n from Nat.zero_add n]
  refine (goLe (Nat.le_of_eq hbl.symm) _).trans ?_
  rw [List.take_of_length_le (Nat.le_of_eq hbl)]
  rfl
end
/- Bits: the document's octets, the loop of 120. -/
section
def addB (o : List Int) (p : Nat) : List Int := o.set (p / 8) (IntKind.wrap .u8 (o.getD (p / 8) 0 + ishl .u8 1 ((p % 8 : Nat) : Int)))
theorem addB_len (o : List Int) (p : Nat) : (addB o p).length = o.length := by simp [addB]
def stB (l : List Int) (m : Int) (o : List Int) (x : Nat) : List Int := bif decide ((x : Int) = m) || decide ((x : Int) ∈ l) then addB o x else o
theorem stB_len (l : List Int) (m : Int) (o : List Int) (x : Nat) : (stB l m o x).length = o.length := by
  unfold stB; cases (decide ((x : Int) = m) || decide ((x : Int) ∈ l)) <;> simp [addB_len]
/-- d steps of the loop, from x on. -/
def runB (l : List Int) (m : Int) : Nat → Nat → List Int → List Int
  | 0, _, o => o
  | d + 1, x, o => runB l m d (x + 1) (stB l m o x)
theorem loop120 (c m : Int) (l : List Int) (hl : l.length ≤ 4000000) (n : Nat) (hn : n ≤ 1000000) : ∀ (d x : Nat) (o : List Int), x + d = 8 * n → o.length = n →
    E cx (Key.loop 120 [true, true, false, true, false]) [vi x, vi n, vi m, .ptr 0 0 0 0, .arr 1 1 0 n] [bB c l, ⟨.arr, 5, 1, 1, bys o⟩] = some (Out.jump (.exit 0) [vi (8 * n : Nat)], [bB c l, ⟨.arr, 5, 1, 1, bys (runB l m d x o)⟩])
  | 0, x, o, hx, ho => by
    have hw : IntKind.wrap .i64 (Int.mul 8 (n : Int)) = ((8 * n : Nat) : Int) := by
      rw [show Int.mul 8 (n : Int) = ((8 * n : Nat) : Int) from rfl]; exact wr_id (by omega) (by omega)
    have : x = 8 * n := by omega
    subst this
    refine (f120_l0 _ _ _ _ _ _ _).trans ?_
    rw [hw]
    exact goDn (by omega) _ _
  | d + 1, x, o, hx, ho => by
    have hw : IntKind.wrap .i64 (Int.mul 8 (n : Int)) = ((8 * n : Nat) : Int) := by
      rw [show Int.mul 8 (n : Int) = ((8 * n : Nat) : Int) from rfl]; exact wr_id (by omega) (by omega)
    have hw2 : IntKind.wrap .i64 (Int.tdiv (x : Int) 8) = ((x / 8 : Nat) : Int) := by
      rw [show Int.tdiv (x : Int) 8 = ((x / 8 : Nat) : Int) from rfl]; exact wr_id (by omega) (by omega)
    have ih := loop120 c m l hl n hn d (x + 1) (stB l m o x) (by omega) ((stB_len _ _ _ _).trans ho)
    have hk : x / 8 < o.length := by omega
    have hq : q120_l0_0 x n (bys o) n m c (ints l) = E cx (Key.loop 120 [true, true, false, true, false]) [vi (x + 1 : Nat), vi n, vi m, .ptr 0 0 0 0, .arr 1 1 0 n] [bB c l, ⟨.arr, 5, 1, 1, bys (addB o x)⟩] := by
      unfold q120_l0_0
      rw [hw2, Int.toNat_natCast, show Nat.add 0 (x / 8) = x / 8 from Nat.zero_add _, show Int.tmod (x : Int) 8 = ((x % 8 : Nat) : Int) from rfl, wS (by omega)]
      refine (goY (by omega) _ _).trans ((goY (by omega) _ _).trans ((goNb hk _).trans ((goN (show ¬ (((x % 8 : Nat) : Int) < 0) by omega) _ _).trans ((goY (by omega) _ _).trans ((goY (by omega) _ _).trans ((goNb hk _).trans ?_))))))
      simp [addB, bys, List.map_set, bB]
    refine (f120_l0 _ _ _ _ _ _ _).trans ?_
    rw [hw]
    refine (goD (by omega) _ _).trans ?_
    unfold runB
    refine Eq.trans ?_ ih
    by_cases h1 : (x : Int) = m
    · refine (goD h1 _ _).trans (hq.trans ?_)
      unfold stB
      rw [decide_eq_true h1]; rfl
    · refine (goDn h1 _ _).trans ((goB (c122 c x l hl) _).trans ?_)
      unfold stB
      rw [decide_eq_false h1, Bool.false_or]
      cases decide ((x : Int) ∈ l) with
      | true => exact hq
      | false => rw [wS (by omega)]; rfl
end
/- Bits: the document's octets, 120 whole. -/
section
theorem runB_len (l : List Int) (m : Int) : ∀ (d x : Nat) (o : List Int), (runB l m d x o).length = o.length
  | 0, _, _ => rfl
  | d + 1, x, o => by unfold runB; rw [runB_len l m d, stB_len]
theorem numsOf_bys : ∀ o : List Int, numsOf (bys o) = some o
  | [] => rfl
  | b :: o => by
    show (Option.bind (numsOf (bys o)) fun ns => some (b :: ns)) = _
    rw [numsOf_bys o]; rfl
theorem c120 (c m : Int) (l : List Int) (hl : l.length ≤ 4000000) (n : Nat) (hn : n ≤ 1000000) :
    E cx (Key.fn 120) [bA c l, vi n, vi m] [] = some (Out.ret (vs (Go.strOfNums (runB l m (8 * n) 0 (List.replicate n 0)))), []) := by
  have hlen : (runB l m (8 * n) 0 (List.replicate n 0)).length = n := by rw [runB_len, List.length_replicate]
  have hbl : (bys (runB l m (8 * n) 0 (List.replicate n 0))).length = n := by rw [List.length_map, hlen]
  have g := loop120 c m l hl n hn (8 * n) 0 (List.replicate n 0) (by omega) (List.length_replicate ..)
  have hb0 : bys (List.replicate n 0) = List.replicate n [vb 0] := by simp [bys]
  rw [hb0] at g
  refine (f120 _ _ _ _).trans ((goY (by omega) _ _).trans ((goY (Int.le_refl _) _ _).trans ((goY (show Int.mul 1 n ≤ _ by show (1 : Int) * n ≤ _; omega) _ _).trans ?_)))
  rw [Int.toNat_natCast]
  refine (congrArg (fun o => Option.bind o _) g).trans ?_
  show (Option.bind (Option.bind (chkLe (0 + n) (bys (runB l m (8 * n) 0 (List.replicate n 0))).length) fun _ => some (List.drop 0 (List.take (0 + n) (bys (runB l m (8 * n) 0 (List.replicate n 0)))))) fun ys => (numsOf ys).bind fun ns => some (Out.ret (vs (Go.strOfNums ns)), ([] : Heap))) = _
  rw [Nat.zero_add, show chkLe n (bys (runB l m (8 * n) 0 (List.replicate n 0))).length = some () from if_pos (Nat.le_of_eq hbl.symm), Option.bind_some, Option.bind_some, List.take_of_length_le (Nat.le_of_eq hbl), List.drop_zero, numsOf_bys]
  rfl
end
/- Bits: the documents of List and Vector, 57 and 59. -/
section
theorem c57_t (c : Nat) (hc : c ≤ 4000000) (l : List Int) (hl : l.length ≤ 4000000) (h : rightB c l = true) :
    E cx (Key.fn 57) [bA c l] [] = some (Out.ret (.tuple [vs (Go.strOfNums (runB l c (8 * (c / 8 + 1)) 0 (List.replicate (c / 8 + 1) 0))), vi 0]), []) := by
  refine (f57 _ _).trans ((goB (c61 c l hl) _).trans ?_)
  rw [h, show Int.tdiv (c : Int) 8 = ((c / 8 : Nat) : Int) from rfl, wr_id (n := ((c / 8 : Nat) : Int)) (by omega) (by omega), wS (by omega)]
  exact (congrArg (fun o => Option.bind o _) (c120 c c l hl (c / 8 + 1) (by omega))).trans rfl
theorem c57_f (c : Int) (l : List Int) (hl : l.length ≤ 4000000) (h : rightB c l = false) : E cx (Key.fn 57) [bA c l] [] = some (Out.ret (.tuple [vs (ByteArray.mk (Array.mk [])), vi 1]), []) := by
  refine (f57 _ _).trans ((goB (c61 c l hl) _).trans ?_)
  rw [h]; rfl
theorem c59_t (c : Nat) (hc : c ≤ 4000000) (l : List Int) (hl : l.length ≤ 4000000) (h : rightB c l = true) :
    E cx (Key.fn 59) [bA c l] [] = some (Out.ret (.tuple [vs (Go.strOfNums (runB l (-1) (8 * ((c + 7) / 8)) 0 (List.replicate ((c + 7) / 8) 0))), vi 0]), []) := by
  refine (f59 _ _).trans ((goB (c61 c l hl) _).trans ?_)
  rw [h, wr_add (a := (c : Int)) (b := 7) (by omega) (by omega), show Int.tdiv ((c : Int) + 7) 8 = (((c + 7) / 8 : Nat) : Int) from rfl, wr_id (n := (((c + 7) / 8 : Nat) : Int)) (by omega) (by omega)]
  exact (congrArg (fun o => Option.bind o _) (c120 c (-1) l hl ((c + 7) / 8) (by omega))).trans rfl
theorem c59_f (c : Int) (l : List Int) (hl : l.length ≤ 4000000) (h : rightB c l = false) : E cx (Key.fn 59) [bA c l] [] = some (Out.ret (.tuple [vs (ByteArray.mk (Array.mk [])), vi 1]), []) := by
  refine (f59 _ _).trans ((goB (c61 c l hl) _).trans ?_)
  rw [h]; rfl
end
/- Bits: Vector, 58. -/
section
theorem c58_t (c : Nat) (hc : c ≤ 4000000) (l : List Nat) (hl : l.length ≤ 4000000) (hp : ∀ p ∈ l, p < c) (h : rightB c (l.map Int.ofNat) = true) :
    E cx (Key.fn 58) [bA c (l.map Int.ofNat)] [] = some (Out.ret (.tuple [vs (Go.strOfNums (l.foldl putB (List.replicate ((c + 7) / 8) 0))), vi 0]), []) := by
  refine (f58 _ _).trans ((goB (c60 c _ (by rw [List.length_map]; omega)) _).trans ?_)
  have hw : IntKind.wrap .i64 (Int.sub (IntKind.wrap .i64 (Int.add (c : Int) 8)) 1) = ((c + 7 : Nat) : Int) := by
    rw [wr_add (a := (c : Int)) (b := 8) (by omega) (by omega)]
    exact (wr_sub (a := (c : Int) + 8) (b := 1) (by omega) (by omega)).trans (by omega)
  rw [h, hw, show Int.tdiv ((c + 7 : Nat) : Int) 8 = (((c + 7) / 8 : Nat) : Int) from rfl, wr_id (n := (((c + 7) / 8 : Nat) : Int)) (by omega) (by omega)]
  refine (congrArg (fun o => Option.bind o _) (c118 l hl ((c + 7) / 8) (by omega) (fun p q => by have := hp p q; omega))).trans ?_
  show (Option.bind (numsOf (bys _)) fun ns => some (Out.ret (.tuple [vs (Go.strOfNums ns), vi 0]), ([] : Heap))) = _
  rw [numsOf_bys]
  rfl
theorem c58_f (c : Int) (l : List Int) (hl : l.length ≤ 4000000) (h : rightB c l = false) : E cx (Key.fn 58) [bA c l] [] = some (Out.ret (.tuple [vs (ByteArray.mk (Array.mk [])), vi 1]), []) := by
  refine (f58 _ _).trans ((goB (c60 c l hl) _).trans ?_)
  rw [h]; rfl
end
/- Bits: raw bits. -/
section
theorem c55_q0 (x N m : Int) (c : Nat) (o : List (List AV)) (raw : List Int) (i : Nat) (hi : i < 40) :
    q55_l0_l1_0 i (ints raw) x m N c o = E cx (Key.loop 55 [true, true, false, true, false, false, true, false, false, true, false, true, false]) [vbool true, vi (i + 1 : Nat), .list 0 1 (ints raw), .ptr 0 0 0 0, .ptr 1 0 0 0, vi x] [b0 m, ⟨.box, 33, 2, 0, [[vi N, .arr 2 1 0 c]]⟩, ⟨.arr, 3, 1, 1, o⟩] := by
  unfold q55_l0_l1_0
  rw [wS (by omega)]
theorem loop55b (x N m : Int) (hN : 0 < N) (c : Nat) (o : List (List AV)) (raw : List Int) (hr : ∀ r ∈ raw, RI r) : ∀ (rest : List Int) (i : Nat) (b : Bool), (raw.take 40).drop i = rest → i + rest.length = (raw.take 40).length →
    ∃ i' : Nat, E cx (Key.loop 55 [true, true, false, true, false, false, true, false, false, true, false, true, false]) [vbool b, vi i, .list 0 1 (ints raw), .ptr 0 0 0 0, .ptr 1 0 0 0, vi x] [b0 m, ⟨.box, 33, 2, 0, [[vi N, .arr 2 1 0 c]]⟩, ⟨.arr, 3, 1, 1, o⟩] =
      some (Out.jump (.exit 2) [vbool (b || rest.any fun r => decide (pickI r N = x)), vi i'], [b0 m, ⟨.box, 33, 2, 0, [[vi N, .arr 2 1 0 c]]⟩, ⟨.arr, 3, 1, 1, o⟩])
  | [], i, b, hd, hi => ⟨i, by
      simp only [List.length_nil, Nat.add_zero, List.length_take] at hi
      rw [List.any_nil, Bool.or_false]
      refine (f55_l0_l1 _ _ _ _ _ _ _ _).trans ?_
      by_cases h : (i : Int) < ((ints raw).length : Int)
      · rw [ints_len] at h
        exact (goD (by rw [ints_len]; exact h) _ _).trans ((goDn (by omega) _ _).trans rfl)
      · exact (goDn h _ _).trans rfl⟩
  | r :: rest, i, b, hd, hi => by
    obtain ⟨hp, hd', hlt⟩ := drop_cons' hd
    simp only [List.length_cons, List.length_take] at hi
    have h40 : i < 40 := by omega
    have hp' : raw[i]? = some r := by
      rw [List.getElem?_take] at hp
      rwa [if_pos h40] at hp
    have hlr : i < raw.length := (List.getElem?_eq_some_iff.1 hp').1
    obtain ⟨i', h⟩ := loop55b x N m hN c o raw hr rest (i + 1) (b || decide (pickI r N = x)) hd' (by rw [List.length_take]; omega)
    refine ⟨i', (f55_l0_l1 _ _ _ _ _ _ _ _).trans ((goD (by rw [ints_len]; omega) _ _).trans ((goD (by omega) _ _).trans ?_))⟩
    rw [List.any_cons, ← Bool.or_assoc, ← h]
    cases b with
    | true =>
      show q55_l0_l1_0 i (ints raw) x m N c (o) = _
      exact (c55_q0 x N m c o raw i h40).trans rfl
    | false =>
      refine (goD rfl _ _).trans ((goD rfl _ _).trans ((goD rfl _ _).trans ((goY (show 0 ≤ (i : Int) by omega) _ _).trans ((go1 (n := i) rfl hp' _).trans ((goD rfl _ _).trans ((goD rfl _ _).trans ((goD rfl _ _).trans ((goD rfl _ _).trans ((goI (c64 (hr r (List.mem_of_getElem? hp')) hN) _).trans ((goD rfl _ _).trans ?_))))))))))
      unfold q55_l0_l1_2
      refine (goD rfl _ _).trans ?_
      rw [Bool.false_or]
      cases hx : decide (pickI r N = x) with
      | true =>
        rw [cond_true, cond_false]
        exact c55_q0 x N m c o raw i h40
      | false =>
        rw [cond_false, cond_false]
        show E cx (Key.loop 55 [true, true, false, true, false, false, true, false, false, true, false, true, false]) [vbool false, vi (IntKind.wrap .i64 (Int.add i 1)), .list 0 1 (ints raw), .ptr 0 0 0 0, .ptr 1 0 0 0, vi x] [b0 m, ⟨.box, 33, 2, 0, [[vi N, .arr 2 1 0 c]]⟩, ⟨.arr, 3, 1, 1, o⟩] = _
        rw [wS (by omega)]
/-- The places from x on, d of them, that one of the raw numbers tells. -/
def rwD (raw : List Int) (N x : Int) : Nat → List Int
  | 0 => []
  | d + 1 => (bif (raw.take 40).any fun r => decide (pickI r N = x) then [x] else []) ++ rwD raw N (x + 1) d
theorem loop55 (N m : Int) (hN : 0 < N) (hN2 : N ≤ 2048) (raw : List Int) (hr : ∀ r ∈ raw, RI r) : ∀ (d : Nat) (x : Int) (o : List Int), x + d = N → 0 ≤ x → (o.length : Int) ≤ x →
    E cx (Key.loop 55 [true, true, false, true, false]) [vi x, .list 0 1 (ints raw), .ptr 0 0 0 0, .ptr 1 0 0 0] [b0 m, ⟨.box, 33, 2, 0, [[vi N, .arr 2 1 0 o.length]]⟩, ⟨.arr, 3, 1, 1, ints o⟩] =
      some (Out.jump (.exit 0) [vi N], [b0 m, ⟨.box, 33, 2, 0, [[vi N, .arr 2 1 0 (o ++ rwD raw N x d).length]]⟩, ⟨.arr, 3, 1, 1, ints (o ++ rwD raw N x d)⟩])
  | 0, x, o, hx, h0, ho => by
    have : x = N := by omega
    subst this
    unfold rwD
    rw [List.append_nil]
    exact (f55_l0 _ _ _ _ _ _).trans (goDn (by omega) _ _)
  | d + 1, x, o, hx, h0, ho => by
    obtain ⟨i', g⟩ := loop55b x N m hN o.length (ints o) raw hr (raw.take 40) 0 false rfl (by omega)
    rw [Bool.false_or] at g
    refine (f55_l0 _ _ _ _ _ _).trans ((goD (by omega) _ _).trans ((goD (by omega) _ _).trans ((congrArg (fun o => Option.bind o _) g).trans ?_)))
    unfold rwD
    cases hc : (raw.take 40).any fun r => decide (pickI r N = x) with
    | true =>
      have e := loop55 N m hN hN2 raw hr d (x + 1) (o ++ [x]) (by omega) (by omega) (by simp; omega)
      have hw : IntKind.wrap .i64 (Int.add x 1) = x + 1 := wr_add (by omega) (by omega)
      show (Option.bind (chk o.length (ints o).length) fun _ => if Nat.mul (Nat.add (ints o).length 1) 8 ≤ 140737488355328 then
        E cx (Key.loop 55 [true, true, false, true, false]) [vi (IntKind.wrap .i64 (Int.add x 1)), .list 0 1 (ints raw), .ptr 0 0 0 0, .ptr 1 0 0 0] [b0 m, ⟨.box, 33, 2, 0, [[vi N, .arr 2 1 0 (Nat.add (ints o).length 1)]]⟩, ⟨.arr, 3, 1, 1, ints o ++ [[vi x]]⟩] else none) = _
      rw [hw]
      have hla : Nat.add (ints o).length 1 = (o ++ [x]).length := by rw [ints_len, List.length_append]; rfl
      have happ : ints o ++ [[vi x]] = ints (o ++ [x]) := by simp [ints]
      rw [hla, happ]
      refine (goCk (ints_len o).symm _).trans ((goY (by rw [List.length_append]; show (o.length + 1) * 8 ≤ _; omega) _ _).trans (e.trans ?_))
      simp [List.append_assoc]
    | false =>
      have e := loop55 N m hN hN2 raw hr d (x + 1) o (by omega) (by omega) (by omega)
      have hw : IntKind.wrap .i64 (Int.add x 1) = x + 1 := wr_add (by omega) (by omega)
      show E cx (Key.loop 55 [true, true, false, true, false]) [vi (IntKind.wrap .i64 (Int.add x 1)), .list 0 1 (ints raw), .ptr 0 0 0 0, .ptr 1 0 0 0] [b0 m, ⟨.box, 33, 2, 0, [[vi N, .arr 2 1 0 o.length]]⟩, ⟨.arr, 3, 1, 1, ints o⟩] = _
      rw [hw]
      exact e.trans (by simp)
/-- The raw bits: where none may be, none are. -/
def rawL (N : Int) (raw : List Int) : List Int := rwD raw N 0 N.toNat
theorem c55 {n below : Int} {raw : List Int} (hn : RI n) (hb : 0 < below) (hb2 : below ≤ 2048) (hr : ∀ r ∈ raw, RI r) : E cx (Key.fn 55) [vi n, vi below, .list 0 1 (ints raw)] [] = some (Out.ret (bA (pickI n below) (rawL (pickI n below) raw)), []) := by
  have hp := pickI_lt (c := n) hb
  refine (f55 _ _ _).trans ((goI (c64 hn hb) _).trans ?_)
  have key : E cx (Key.loop 55 [true, true, false, true, false]) [vi 0, .list 0 1 (ints raw), .ptr 0 0 0 0, .ptr 1 0 0 0] [b0 0, ⟨.box, 33, 2, 0, [[vi (pickI n below), .arr 2 1 0 0]]⟩, ⟨.arr, 3, 1, 1, []⟩] =
      some (Out.jump (.exit 0) [vi (pickI n below)], [b0 0, ⟨.box, 33, 2, 0, [[vi (pickI n below), .arr 2 1 0 (rawL (pickI n below) raw).length]]⟩, ⟨.arr, 3, 1, 1, ints (rawL (pickI n below) raw)⟩]) := by
    by_cases h0 : pickI n below = 0
    · rw [h0]
      exact (f55_l0 _ _ _ _ _ _).trans (goDn (by omega) _ _)
    · exact loop55 (pickI n below) 0 (by omega) (by omega) raw hr (pickI n below).toNat 0 [] (by omega) (by omega) (by simp)
  refine (congrArg (fun o => Option.bind o _) key).trans ?_
  have hz : Nat.add 0 (rawL (pickI n below) raw).length = (ints (rawL (pickI n below) raw)).length := by rw [ints_len]; exact Nat.zero_add _
  show (Option.bind (chkLe (Nat.add 0 (rawL (pickI n below) raw).length) (ints (rawL (pickI n below) raw)).length) fun _ => some (Out.ret (.agg [vi (pickI n below), .list 0 1 (List.drop 0 (List.take (Nat.add 0 (rawL (pickI n below) raw).length) (ints (rawL (pickI n below) raw))))]), [])) = _
  rw [hz]
  refine (goLe (Nat.le_refl _) _).trans ?_
  rw [List.take_length]
  rfl
theorem rwD_mem (raw : List Int) (N : Int) : ∀ (d : Nat) (x y : Int), y ∈ rwD raw N x d ↔ (x ≤ y ∧ y < x + d ∧ ∃ r ∈ raw.take 40, pickI r N = y)
  | 0, x, y => by simp [rwD]; intro _ _; omega
  | d + 1, x, y => by
    simp only [rwD, List.mem_append, rwD_mem raw N d (x + 1) y]
    constructor
    · rintro (h | ⟨h1, h2, h3⟩)
      · cases hc : (raw.take 40).any fun r => decide (pickI r N = x) with
        | false => rw [hc] at h; cases h
        | true =>
          rw [hc] at h
          simp at h
          subst h
          obtain ⟨r, hr, he⟩ := List.any_eq_true.1 hc
          exact ⟨by omega, by omega, r, hr, of_decide_eq_true he⟩
      · exact ⟨by omega, by omega, h3⟩
    · rintro ⟨h1, h2, r, h3, h4⟩
      by_cases hxy : x = y
      · subst hxy
        have : ((raw.take 40).any fun r => decide (pickI r N = x)) = true := List.any_eq_true.2 ⟨r, h3, decide_eq_true h4⟩
        rw [this]
        exact .inl (by simp)
      · exact .inr ⟨by omega, by omega, r, h3, h4⟩
theorem rwD_sorted (raw : List Int) (N : Int) : ∀ (d : Nat) (x : Int), (rwD raw N x d).Pairwise (· < ·)
  | 0, x => .nil
  | d + 1, x => by
    unfold rwD
    refine List.pairwise_append.2 ⟨?_, rwD_sorted raw N d (x + 1), fun a ha b hb => ?_⟩
    · cases (raw.take 40).any fun r => decide (pickI r N = x) <;> simp
    · have h2 := (rwD_mem raw N d (x + 1) b).1 hb
      cases hc : (raw.take 40).any fun r => decide (pickI r N = x) with
      | false => rw [hc] at ha; cases ha
      | true => rw [hc] at ha; simp at ha; omega
theorem rawL_mem {N : Int} (hN : 0 < N) {raw : List Int} {y : Int} : y ∈ rawL N raw ↔ ∃ r ∈ raw.take 40, pickI r N = y := by
  unfold rawL
  rw [rwD_mem]
  constructor
  · exact fun ⟨_, _, h⟩ => h
  · rintro ⟨r, h1, h2⟩
    have := pickI_lt (c := r) hN
    exact ⟨by omega, by omega, r, h1, h2⟩
theorem rawL_lt {N : Int} {raw : List Int} {y : Int} (hy : y ∈ rawL N raw) : 0 ≤ y ∧ y < N := by
  obtain ⟨h1, h2, _⟩ := (rwD_mem raw N _ _ y).1 hy
  exact ⟨h1, by omega⟩
theorem rawL_sorted (N : Int) (raw : List Int) : (rawL N raw).Pairwise (· < ·) := rwD_sorted _ _ _ _
end
/- Bits: octets out of bits, and bits off octets, in plain words. -/
section
/-- A number out of its lowest bits. -/
def byN (Q : Nat → Bool) : Nat → Nat
  | 0 => 0
  | j + 1 => byN Q j + (bif Q j then 2 ^ j else 0)
theorem byN_lt (Q : Nat → Bool) : ∀ n, byN Q n < 2 ^ n
  | 0 => by simp [byN]
  | n + 1 => by
    have := byN_lt Q n
    unfold byN
    rw [Nat.pow_succ]
    cases Q n <;> simp <;> omega
theorem byN_congr {Q Q' : Nat → Bool} : ∀ {n : Nat}, (∀ j < n, Q j = Q' j) → byN Q n = byN Q' n
  | 0, _ => rfl
  | n + 1, h => by
    unfold byN
    rw [byN_congr (n := n) fun j hj => h j (by omega), h n (by omega)]
theorem byN_test (Q : Nat → Bool) : ∀ (n j : Nat), (byN Q n).testBit j = (decide (j < n) && Q j)
  | 0, j => by simp [byN]
  | n + 1, j => by
    have hlt := byN_lt Q n
    have ih := byN_test Q n
    unfold byN
    cases hq : Q n with
    | false =>
      simp only [cond_false, Nat.add_zero, ih]
      by_cases h : j = n
      · subst h; simp [hq]
      · have : (j < n + 1) ↔ (j < n) := by omega
        simp [this]
    | true =>
      simp only [cond_true]
      rw [Nat.add_comm]
      rcases Nat.lt_trichotomy j n with h | h | h
      · rw [Nat.testBit_two_pow_add_gt h, ih]
        have : j < n + 1 := by omega
        simp [h, this]
      · subst h
        rw [Nat.testBit_two_pow_add_eq, ih]
        simp [hq]
      · have : ¬ j < n + 1 := by omega
        rw [Nat.testBit_lt_two_pow]
        · simp [this]
        · have : 2 ^ (n + 1) ≤ 2 ^ j := Nat.pow_le_pow_right (by omega) (by omega)
          rw [Nat.pow_succ] at this
          omega
theorem byN_self (a : Nat) : ∀ n, a < 2 ^ n → byN a.testBit n = a := fun n h => Nat.eq_of_testBit_eq fun j => by
  rw [byN_test]
  by_cases hj : j < n
  · simp [hj]
  · have : a < 2 ^ j := Nat.lt_of_lt_of_le h (Nat.pow_le_pow_right (by omega) (by omega))
    simp [hj, Nat.testBit_lt_two_pow this]
theorem byN_or (Q : Nat → Bool) (i : Nat) (n : Nat) (hi : i < n) : byN Q n ||| 2 ^ i = byN (fun j => Q j || decide (j = i)) n := Nat.eq_of_testBit_eq fun j => by
  rw [Nat.testBit_or, byN_test, byN_test, Nat.testBit_two_pow]
  by_cases h : j = i
  · subst h; simp [hi]
  · have : ¬ i = j := fun e => h e.symm
    simp [h, this]
theorem byN_add (Q : Nat → Bool) (i : Nat) (hq : Q i = false) : ∀ n, byN (fun j => Q j || decide (j = i)) n = byN Q n + (if i < n then 2 ^ i else 0)
  | 0 => by simp [byN]
  | n + 1 => by
    unfold byN
    rw [byN_add Q i hq n]
    rcases Nat.lt_trichotomy i n with h | h | h
    · have h1 : ¬ n = i := by omega
      have h2 : i < n + 1 := by omega
      simp [h, h1, h2]
      omega
    · subst h
      simp [hq]
    · have h1 : ¬ n = i := by omega
      have h2 : ¬ i < n + 1 := by omega
      have h3 : ¬ i < n := by omega
      simp [h1, h2, h3]
theorem ofInt_nat (a : Nat) : BitVec.ofInt 8 (a : Int) = BitVec.ofNat 8 a := by
  apply BitVec.eq_of_toNat_eq
  simp []
theorem ior_nat {a b : Nat} (ha : a < 256) (hb : b < 256) : ior .u8 (a : Int) (b : Int) = ((a ||| b : Nat) : Int) := by
  have hab : a ||| b < 2 ^ 8 := Nat.or_lt_two_pow ha hb
  unfold ior
  rw [show IntKind.bits .u8 = 8 from rfl, ofInt_nat, ofInt_nat, BitVec.toNat_or, BitVec.toNat_ofNat, BitVec.toNat_ofNat, w8, Nat.mod_eq_of_lt (a := a) (by omega), Nat.mod_eq_of_lt (a := b) (by omega)]
  omega
theorem ishl_one {i : Nat} (hi : i < 8) : ishl .u8 1 (i : Int) = ((2 ^ i : Nat) : Int) := by
  unfold ishl
  rw [Int.toNat_natCast, show IntKind.bits .u8 = 8 from rfl, Nat.min_eq_left (by omega), w8]
  have : 2 ^ i < 2 ^ 8 := Nat.pow_lt_pow_right (by omega) hi
  have e : (1 : Int) * 2 ^ i = ((2 ^ i : Nat) : Int) := by simp
  rw [e]
  have h2 : 2 ^ i < 256 := this
  generalize 2 ^ i = y at h2 ⊢
  omega
/-- Octets: bit by bit. -/
def tabB (n : Nat) (P : Nat → Bool) : List Int := (List.range n).map fun k => ((byN (fun j => P (8 * k + j)) 8 : Nat) : Int)
theorem tabB_len (n : Nat) (P : Nat → Bool) : (tabB n P).length = n := by simp [tabB]
theorem tabB_get {n : Nat} {P : Nat → Bool} {k : Nat} (hk : k < n) : (tabB n P)[k]? = some ((byN (fun j => P (8 * k + j)) 8 : Nat) : Int) := by
  simp [tabB, hk]
theorem tabB_getD {n : Nat} {P : Nat → Bool} {k : Nat} (hk : k < n) : (tabB n P).getD k 0 = ((byN (fun j => P (8 * k + j)) 8 : Nat) : Int) := by
  rw [List.getD_eq_getElem?_getD, tabB_get hk]; rfl
theorem tabB_congr {n : Nat} {P P' : Nat → Bool} (h : ∀ i < 8 * n, P i = P' i) : tabB n P = tabB n P' := by
  unfold tabB
  apply List.map_congr_left
  intro k hk
  rw [List.mem_range] at hk
  rw [byN_congr fun j hj => h (8 * k + j) (by omega)]
theorem tabB_zero (n : Nat) : List.replicate n (0 : Int) = tabB n fun _ => false := by
  apply List.ext_getElem?
  intro k
  by_cases hk : k < n
  · rw [tabB_get hk, List.getElem?_replicate, if_pos hk]
    rfl
  · rw [List.getElem?_eq_none (by simp; omega), List.getElem?_eq_none (by rw [tabB_len]; omega)]
/-- One octet is turned. -/
theorem tabB_set {n : Nat} {P : Nat → Bool} {p : Nat} (_hp : p < 8 * n) {x : Int} (hx : x = ((byN (fun j => P (8 * (p / 8) + j) || decide (j = p % 8)) 8 : Nat) : Int)) : (tabB n P).set (p / 8) x = tabB n fun y => P y || decide (y = p) := by
  apply List.ext_getElem?
  intro k
  rw [List.getElem?_set]
  by_cases hk : k < n
  · rw [tabB_get hk, tabB_get hk, tabB_len]
    by_cases h : p / 8 = k
    · subst h
      rw [if_pos rfl, if_pos hk, hx]
      congr 2
      apply byN_congr
      intro j hj
      have : (8 * (p / 8) + j = p) ↔ (j = p % 8) := by omega
      simp [this]
    · rw [if_neg h]
      congr 2
      apply byN_congr
      intro j hj
      have : ¬ (8 * k + j = p) := by omega
      simp [this]
  · rw [List.getElem?_eq_none (l := tabB n P) (by rw [tabB_len]; omega), List.getElem?_eq_none (l := tabB n _) (by rw [tabB_len]; omega)]
    split
    · rw [if_neg (by rw [tabB_len]; omega)]
    · rfl
theorem put_tab {n : Nat} {P : Nat → Bool} {p : Nat} (hp : p < 8 * n) : putB (tabB n P) p = tabB n fun y => P y || decide (y = p) := by
  unfold putB
  refine tabB_set hp ?_
  rw [tabB_getD (by omega), ishl_one (by omega), ior_nat (byN_lt _ 8) (show 2 ^ (p % 8) < 2 ^ 8 from Nat.pow_lt_pow_right (by omega) (by omega)), byN_or _ _ _ (by omega)]
theorem add_tab {n : Nat} {P : Nat → Bool} {p : Nat} (hp : p < 8 * n) (hP : P p = false) : addB (tabB n P) p = tabB n fun y => P y || decide (y = p) := by
  unfold addB
  refine tabB_set hp ?_
  have h0 : P (8 * (p / 8) + p % 8) = false := by rw [show 8 * (p / 8) + p % 8 = p by omega]; exact hP
  have e := byN_add (fun j => P (8 * (p / 8) + j)) (p % 8) h0 8
  have hlt := byN_lt (fun j => P (8 * (p / 8) + j) || decide (j = p % 8)) 8
  rw [if_pos (by omega)] at e
  rw [tabB_getD (by omega), ishl_one (by omega), w8, e]
  rw [e] at hlt
  omega
theorem fold_tab (n : Nat) : ∀ (l : List Nat) (P : Nat → Bool), (∀ p ∈ l, p < 8 * n) → l.foldl putB (tabB n P) = tabB n fun y => P y || decide (y ∈ l)
  | [], P, _ => by simp
  | p :: l, P, h => by
    rw [List.foldl_cons, put_tab (h p (List.mem_cons_self ..)), fold_tab n l _ fun q hq => h q (List.mem_cons_of_mem _ hq)]
    congr 1
    funext y
    by_cases h1 : y = p <;> simp [h1]
theorem fold_zero (n : Nat) (l : List Nat) (h : ∀ p ∈ l, p < 8 * n) : l.foldl putB (List.replicate n 0) = tabB n fun y => decide (y ∈ l) := by
  rw [tabB_zero, fold_tab n l _ h]
  simp
theorem run_tab (l : List Int) (m : Int) (n : Nat) : ∀ (d x : Nat), x + d = 8 * n →
    runB l m d x (tabB n fun y => decide (y < x) && (decide ((y : Int) = m) || decide ((y : Int) ∈ l))) = tabB n fun y => decide ((y : Int) = m) || decide ((y : Int) ∈ l)
  | 0, x, hx => by
    unfold runB
    apply tabB_congr
    intro i hi
    have : i < x := by omega
    simp [this]
  | d + 1, x, hx => by
    unfold runB
    rw [← run_tab l m n d (x + 1) (by omega)]
    congr 1
    unfold stB
    cases h : decide ((x : Int) = m) || decide ((x : Int) ∈ l) with
    | true =>
      rw [cond_true, add_tab (by omega) (by simp)]
      congr 1
      funext y
      rcases Nat.lt_trichotomy y x with h1 | h1 | h1
      · have h2 : y < x + 1 := by omega
        have h3 : ¬ y = x := by omega
        simp [h1, h2, h3]
      · subst h1
        simp only [Nat.lt_irrefl, decide_false, Bool.false_and, Bool.false_or, decide_true, Nat.lt_add_one, Bool.true_and]
        exact h.symm
      · have h2 : ¬ y < x + 1 := by omega
        have h3 : ¬ y = x := by omega
        have h4 : ¬ y < x := by omega
        simp [h2, h3, h4]
    | false =>
      rw [cond_false]
      congr 1
      funext y
      rcases Nat.lt_trichotomy y x with h1 | h1 | h1
      · have h2 : y < x + 1 := by omega
        simp [h1, h2]
      · subst h1
        simp only [Nat.lt_irrefl, decide_false, Bool.false_and, Nat.lt_add_one, decide_true, Bool.true_and]
        exact h.symm
      · have h2 : ¬ y < x + 1 := by omega
        have h4 : ¬ y < x := by omega
        simp [h2, h4]
theorem run_zero (l : List Int) (m : Int) (n : Nat) : runB l m (8 * n) 0 (List.replicate n 0) = tabB n fun y => decide ((y : Int) = m) || decide ((y : Int) ∈ l) := by
  rw [tabB_zero, ← run_tab l m n (8 * n) 0 (by omega)]
  congr 1
/-! ### Texts -/
/-- A text of n octets, bit by bit. -/
def txB (n : Nat) (P : Nat → Bool) : B := (List.range n).map fun k => UInt8.ofNat (byN (fun j => P (8 * k + j)) 8)
theorem txB_len (n : Nat) (P : Nat → Bool) : (txB n P).length = n := by simp [txB]
theorem txB_get {n : Nat} {P : Nat → Bool} {k : Nat} (hk : k < n) : (txB n P)[k]? = some (UInt8.ofNat (byN (fun j => P (8 * k + j)) 8)) := by
  simp [txB, hk]
theorem str_tab (n : Nat) (P : Nat → Bool) : Go.strOfNums (tabB n P) = mk (txB n P) := by
  unfold Go.strOfNums tabB txB
  rw [List.map_map]
  rfl
theorem txB_congr {n : Nat} {P P' : Nat → Bool} (h : ∀ i < 8 * n, P i = P' i) : txB n P = txB n P' := by
  unfold txB
  apply List.map_congr_left
  intro k hk
  rw [List.mem_range] at hk
  rw [byN_congr fun j hj => h (8 * k + j) (by omega)]
/-- Is bit i of the text set? -/
def bitT (t : B) (i : Nat) : Bool := (t.getD (i / 8) 0).toNat.testBit (i % 8)
theorem bitT_tx {n : Nat} {P : Nat → Bool} {i : Nat} (hi : i < 8 * n) : bitT (txB n P) i = P i := by
  unfold bitT
  rw [List.getD_eq_getElem?_getD, txB_get (k := i / 8) (by omega), Option.getD_some, UInt8.toNat_ofNat', Nat.mod_eq_of_lt (byN_lt _ 8), byN_test]
  rw [show 8 * (i / 8) + i % 8 = i by omega]
  have : i % 8 < 8 := by omega
  simp [this]
theorem tx_bits (t : B) : txB t.length (bitT t) = t := by
  apply List.ext_getElem?
  intro k
  by_cases hk : k < t.length
  · rw [txB_get hk, List.getElem?_eq_getElem hk]
    congr 1
    have hb : t[k].toNat < 2 ^ 8 := t[k].toNat_lt
    have e : byN (fun j => bitT t (8 * k + j)) 8 = t[k].toNat := by
      rw [← byN_self t[k].toNat 8 hb]
      apply byN_congr
      intro j hj
      unfold bitT
      rw [show (8 * k + j) / 8 = k by omega, show (8 * k + j) % 8 = j by omega, List.getD_eq_getElem?_getD, List.getElem?_eq_getElem hk]
      rfl
    rw [e]
    exact UInt8.ofNat_toNat
  · rw [List.getElem?_eq_none (by rw [txB_len]; omega), List.getElem?_eq_none (by omega)]
theorem tx_eq {n : Nat} {P P' : Nat → Bool} : txB n P = txB n P' ↔ ∀ i < 8 * n, P i = P' i := by
  constructor
  · intro h i hi
    rw [← bitT_tx (P := P) hi, h, bitT_tx hi]
  · exact txB_congr
theorem bitT_ge {t : B} {i : Nat} (h : 8 * t.length ≤ i) : bitT t i = false := by
  unfold bitT
  rw [List.getD_eq_getElem?_getD, List.getElem?_eq_none (by omega)]
  simp
theorem t_eq {t t' : B} (hl : t.length = t'.length) (h : ∀ i < 8 * t.length, bitT t i = bitT t' i) : t = t' := by
  rw [← tx_bits t, ← tx_bits t', ← hl]
  exact txB_congr h
theorem bitS_mk (t : B) (i : Nat) : bitS (mk t) i = bitT t i := by
  unfold bitS bitT
  rw [get_mk, List.getD_eq_getElem?_getD]
  have hb : ((t[i / 8]?).getD 0).toNat < 256 := ((t[i / 8]?).getD 0).toNat_lt
  generalize ((t[i / 8]?).getD 0).toNat = a at hb
  rw [Nat.testBit_eq_decide_div_mod_eq]
  have e1 : ((a : Int) / 2 ^ (i % 8)) = ((a / 2 ^ (i % 8) : Nat) : Int) := by simp
  rw [e1]
  generalize hc : a / 2 ^ (i % 8) = c
  have hc2 : c < 256 := by rw [← hc]; exact Nat.lt_of_le_of_lt (Nat.div_le_self ..) hb
  have e2 : bits .and .u8 (c : Int) 1 = ((c % 2 : Nat) : Int) := by
    unfold bits
    show IntKind.wrap .u8 (((BitVec.ofInt 8 (c : Int) &&& BitVec.ofInt 8 1).toNat : Nat) : Int) = _
    rw [ofInt_nat, show ((1 : Int)) = ((1 : Nat) : Int) from rfl, ofInt_nat, BitVec.toNat_and, BitVec.toNat_ofNat, BitVec.toNat_ofNat, w8, Nat.mod_eq_of_lt (a := c) (by omega), Nat.mod_eq_of_lt (a := 1) (by omega), Nat.and_one_is_mod]
    omega
  rw [e2]
  congr 1
  apply propext
  omega
/-- The bits that are set below k. -/
def onT (t : B) (k : Nat) : List Nat := (List.range k).filter (bitT t)
theorem onS_mk (t : B) (k : Nat) : onS (mk t) k = (onT t k).map Int.ofNat := by
  unfold onS onT
  rw [show bitS (mk t) = bitT t from funext (bitS_mk t)]
  rfl
theorem onT_mem {t : B} {k i : Nat} : i ∈ onT t k ↔ i < k ∧ bitT t i = true := by simp [onT]
theorem onT_sorted (t : B) (k : Nat) : (onT t k).Pairwise (· < ·) := List.Pairwise.filter _ List.pairwise_lt_range
theorem onT_succ (t : B) (k : Nat) : onT t (k + 1) = onT t k ++ (bif bitT t k then [k] else []) := by
  unfold onT
  rw [List.range_succ, List.filter_append]
  cases h : bitT t k <;> simp [h]
/-- Lists that rise are told by what is in them. -/
theorem sorted_ext {α : Type} {lt : α → α → Prop} (irr : ∀ a, ¬ lt a a) (tr : ∀ a b c, lt a b → lt b c → lt a c) : ∀ {l l' : List α}, l.Pairwise lt → l'.Pairwise lt → (∀ x, x ∈ l ↔ x ∈ l') → l = l'
  | [], [], _, _, _ => rfl
  | [], b :: l', _, _, h => by have := (h b).2 (List.mem_cons_self ..); cases this
  | a :: l, [], _, _, h => by have := (h a).1 (List.mem_cons_self ..); cases this
  | a :: l, b :: l', h1, h2, h => by
    rw [List.pairwise_cons] at h1 h2
    have hab : a = b := by
      rcases List.mem_cons.1 ((h a).1 (List.mem_cons_self ..)) with e | e
      · exact e
      · rcases List.mem_cons.1 ((h b).2 (List.mem_cons_self ..)) with e' | e'
        · exact e'.symm
        · exact absurd (tr _ _ _ (h1.1 b e') (h2.1 a e)) (irr a)
    subst hab
    congr 1
    refine sorted_ext irr tr h1.2 h2.2 fun x => ⟨fun hx => ?_, fun hx => ?_⟩
    · rcases List.mem_cons.1 ((h x).1 (List.mem_cons_of_mem _ hx)) with e | e
      · subst e; exact absurd (h1.1 x hx) (irr x)
      · exact e
    · rcases List.mem_cons.1 ((h x).2 (List.mem_cons_of_mem _ hx)) with e | e
      · subst e; exact absurd (h2.1 x hx) (irr x)
      · exact e
theorem nat_ext {l l' : List Nat} (h1 : l.Pairwise (· < ·)) (h2 : l'.Pairwise (· < ·)) (h : ∀ x, x ∈ l ↔ x ∈ l') : l = l' := sorted_ext (fun a => Nat.lt_irrefl a) (fun _ _ _ => Nat.lt_trans) h1 h2 h
theorem int_ext {l l' : List Int} (h1 : l.Pairwise (· < ·)) (h2 : l'.Pairwise (· < ·)) (h : ∀ x, x ∈ l ↔ x ∈ l') : l = l' := sorted_ext (fun a => Int.lt_irrefl a) (fun _ _ _ => Int.lt_trans) h1 h2 h
/-- A number's bit, by shifting. -/
theorem shr_bit {b j : Nat} (hj : j < 8) : Int.tmod (ishr .u8 (b : Int) (j : Int)) 2 = (bif b.testBit j then 1 else 0 : Int) := by
  unfold ishr
  rw [Int.toNat_natCast, show IntKind.bits .u8 = 8 from rfl, Nat.min_eq_left (by omega), Nat.testBit_eq_decide_div_mod_eq]
  have e : Int.fdiv (b : Int) (2 ^ j) = ((b / 2 ^ j : Nat) : Int) := by
    rw [show ((2 : Int) ^ j) = ((2 ^ j : Nat) : Int) by simp]
    rw [Int.fdiv_eq_ediv_of_nonneg _ (Int.natCast_nonneg _)]
    simp
  rw [e]
  generalize b / 2 ^ j = c
  rw [show Int.tmod (c : Int) 2 = ((c % 2 : Nat) : Int) from rfl]
  by_cases h : c % 2 = 1
  · simp [h]
  · have : c % 2 = 0 := by omega
    simp [this]
theorem shr_nat {b j : Nat} (hj : j < 8) : ishr .u8 (b : Int) (j : Int) = ((b / 2 ^ j : Nat) : Int) := by
  unfold ishr
  rw [Int.toNat_natCast, show IntKind.bits .u8 = 8 from rfl, Nat.min_eq_left (by omega)]
  rw [show ((2 : Int) ^ j) = ((2 ^ j : Nat) : Int) by simp]
  rw [Int.fdiv_eq_ediv_of_nonneg _ (Int.natCast_nonneg _)]
  simp
end
/- Bits: bits read off octets: 131 and 132. -/
section
theorem pw_up : ∀ {n p : Int} {l : List Int}, l.Pairwise (· < ·) → (∀ x ∈ l, p < x ∧ x < n) → upB n p l = true
  | n, p, [], _, _ => rfl
  | n, p, x :: l, h1, h2 => by
    rw [List.pairwise_cons] at h1
    have hx := h2 x (List.mem_cons_self ..)
    unfold upB
    rw [decide_eq_true hx.1, decide_eq_true hx.2, pw_up h1.2 fun y hy => ⟨h1.1 y hy, (h2 y (List.mem_cons_of_mem _ hy)).2⟩]
    rfl
theorem right_iff {n : Int} {l : List Int} : rightB n l = true ↔ 0 ≤ n ∧ n ≤ 2048 ∧ l.Pairwise (· < ·) ∧ ∀ x ∈ l, 0 ≤ x ∧ x < n := by
  unfold rightB
  simp only [Bool.and_eq_true, decide_eq_true_eq]
  constructor
  · rintro ⟨h1, h2, h3⟩
    have := up_pw h3
    exact ⟨h1, h2, this.1, fun x hx => by have := this.2 x hx; omega⟩
  · rintro ⟨h1, h2, h3, h4⟩
    exact ⟨h1, h2, pw_up h3 fun x hx => by have := h4 x hx; omega⟩
theorem ofNat_pw {l : List Nat} (h : l.Pairwise (· < ·)) : (l.map Int.ofNat).Pairwise (· < ·) := List.pairwise_map.2 (List.Pairwise.imp (R := fun a b : Nat => a < b) (fun {a b} (hab : a < b) => show (a : Int) < (b : Int) by omega) h)
theorem right_on (t : B) {n : Nat} (hn : n ≤ 2048) : rightB n ((onT t n).map Int.ofNat) = true := right_iff.2 ⟨by omega, by omega, ofNat_pw (onT_sorted t n), fun x hx => by
  obtain ⟨y, hy, rfl⟩ := List.mem_map.1 hx
  have := (onT_mem.1 hy).1
  exact ⟨Int.natCast_nonneg y, show (y : Int) < (n : Int) by omega⟩⟩
/-- Numbers that are right are not below 0. -/
theorem right_nat {n : Int} {l : List Int} (h : rightB n l = true) : ∃ (m : Nat) (k : List Nat), n = m ∧ l = k.map Int.ofNat ∧ m ≤ 2048 ∧ k.Pairwise (· < ·) ∧ ∀ x ∈ k, x < m := by
  obtain ⟨h1, h2, h3, h4⟩ := right_iff.1 h
  refine ⟨n.toNat, l.map Int.toNat, by omega, ?_, by omega, ?_, ?_⟩
  · rw [List.map_map]
    conv => lhs; rw [← List.map_id l]
    apply List.map_congr_left
    intro x hx
    have := (h4 x hx).1
    show x = ((x.toNat : Nat) : Int)
    omega
  · rw [List.pairwise_map]
    refine List.Pairwise.imp_of_mem ?_ h3
    intro a b ha hb hab
    have := h4 a ha
    have := h4 b hb
    show a.toNat < b.toNat
    omega
  · intro x hx
    obtain ⟨y, hy, rfl⟩ := List.mem_map.1 hx
    have := h4 y hy
    omega
theorem onT_len (t : B) (n : Nat) : (onT t n).length ≤ n := by
  unfold onT
  exact Nat.le_trans (List.length_filter_le ..) (Nat.le_of_eq List.length_range)
theorem goBit {ρ : Type} {b j : Nat} (hj : j < 8) {c : Bool} (h : b.testBit j = c) (k k' : Option ρ) : (bif decide (Int.tmod (ishr .u8 (b : Int) (j : Int)) 2 = 1) then k else k') = bif c then k else k' := by
  rw [shr_bit hj, h]
  cases c <;> rfl
theorem goBit0 {ρ : Type} {b j : Nat} (hj : j < 8) {c : Bool} (h : b.testBit j = c) (k k' : Option ρ) : (bif decide (Int.tmod (ishr .u8 (b : Int) (j : Int)) 2 = 0) then k else k') = bif c then k' else k := by
  rw [shr_bit hj, h]
  cases c <;> rfl
theorem bitT_get {t : B} {i : Nat} {b : UInt8} (h : t[i / 8]? = some b) : b.toNat.testBit (i % 8) = bitT t i := by
  unfold bitT
  rw [List.getD_eq_getElem?_getD, h]
  rfl
theorem wdiv {x : Nat} (hx : x ≤ 1000000000) : IntKind.wrap .i64 (Int.tdiv (x : Int) 8) = ((x / 8 : Nat) : Int) := by
  rw [show Int.tdiv (x : Int) 8 = ((x / 8 : Nat) : Int) from rfl]
  exact wr_id (by omega) (by omega)
theorem loop132 (m : Int) (t : B) (n : Nat) (hn : n ≤ 1000000) (ht : n ≤ 8 * t.length) : ∀ (d x : Nat), x + d = n →
    E cx (Key.loop 132 [true, true, false, true, false]) [vi x, vs (mk t), vi n, .ptr 0 0 0 0, .ptr 1 0 0 0] [b0 m, ⟨.box, 33, 2, 0, [[vi n, .arr 2 1 0 (onT t x).length]]⟩, ⟨.arr, 3, 1, 1, ints ((onT t x).map Int.ofNat)⟩] =
      some (Out.jump (.exit 0) [vi n], [b0 m, ⟨.box, 33, 2, 0, [[vi n, .arr 2 1 0 (onT t n).length]]⟩, ⟨.arr, 3, 1, 1, ints ((onT t n).map Int.ofNat)⟩])
  | 0, x, hx => by
    have : x = n := by omega
    subst this
    exact (f132_l0 _ _ _ _ _ _ _).trans (goDn (by omega) _ _)
  | d + 1, x, hx => by
    have ih := loop132 m t n hn ht d (x + 1) (by omega)
    have hk : x / 8 < t.length := by omega
    have hl := onT_len t x
    obtain ⟨b, hb⟩ : ∃ b, t[x / 8]? = some b := ⟨t[x / 8], List.getElem?_eq_getElem hk⟩
    refine (f132_l0 _ _ _ _ _ _ _).trans ((goD (by omega) _ _).trans ?_)
    rw [wdiv (by omega), show Int.tmod (x : Int) 8 = ((x % 8 : Nat) : Int) from rfl, wS (by omega)]
    refine (goY (by omega) _ _).trans ((goG (n := x / 8) rfl hb _).trans ((goN (show ¬ (((x % 8 : Nat) : Int) < 0) by omega) _ _).trans ((goBit (by omega) (bitT_get hb) _ _).trans ?_)))
    rw [onT_succ] at ih
    cases hc : bitT t x with
    | true =>
      rw [hc] at ih
      have happ : ints ((onT t x).map Int.ofNat) ++ [[vi x]] = ints ((onT t x ++ [x]).map Int.ofNat) := by simp [ints]
      have hla : Nat.add (ints ((onT t x).map Int.ofNat)).length 1 = (onT t x ++ [x]).length := by rw [ints_len, List.length_map, List.length_append]; rfl
      show (Option.bind (chk (onT t x).length (ints ((onT t x).map Int.ofNat)).length) fun _ => if Nat.mul (Nat.add (ints ((onT t x).map Int.ofNat)).length 1) 8 ≤ 140737488355328 then
        E cx (Key.loop 132 [true, true, false, true, false]) [vi (x + 1 : Nat), vs (mk t), vi n, .ptr 0 0 0 0, .ptr 1 0 0 0] [b0 m, ⟨.box, 33, 2, 0, [[vi n, .arr 2 1 0 (Nat.add (ints ((onT t x).map Int.ofNat)).length 1)]]⟩, ⟨.arr, 3, 1, 1, ints ((onT t x).map Int.ofNat) ++ [[vi x]]⟩] else none) = _
      rw [hla, happ]
      exact (goCk (by rw [ints_len, List.length_map]) _).trans ((goY (by rw [List.length_append]; show ((onT t x).length + 1) * 8 ≤ _; omega) _ _).trans ih)
    | false =>
      rw [hc] at ih
      rw [cond_false, List.append_nil] at ih
      exact ih
theorem c132 (t : B) (n : Nat) (hn : n ≤ 1000000) (ht : n ≤ 8 * t.length) : E cx (Key.fn 132) [vs (mk t), vi n] [] = some (Out.ret (bA n ((onT t n).map Int.ofNat)), []) := by
  refine (f132 _ _).trans ?_
  refine (congrArg (fun o => Option.bind o _) (loop132 0 t n hn ht n 0 (by omega))).trans ?_
  have hz : Nat.add 0 (onT t n).length = (ints ((onT t n).map Int.ofNat)).length := by rw [ints_len, List.length_map]; exact Nat.zero_add _
  show (Option.bind (chkLe (Nat.add 0 (onT t n).length) (ints ((onT t n).map Int.ofNat)).length) fun _ => some (Out.ret (.agg [vi n, .list 0 1 (List.drop 0 (List.take (Nat.add 0 (onT t n).length) (ints ((onT t n).map Int.ofNat))))]), [])) = _
  rw [hz]
  refine (goLe (Nat.le_refl _) _).trans ?_
  rw [List.take_length]
  rfl
theorem c131 (t : B) (n : Nat) (hn : n ≤ 1000000) (ht : n ≤ 8 * t.length) : E cx (Key.fn 131) [vs (mk t), vi n] [] = some (Out.ret (bA n ((onT t n).map Int.ofNat)), []) := by
  refine (E_unfold cx _ _ _).trans ?_
  show ((ofG [vs (mk t), .val (.int .i64 (.ofNat n))]).bind fun v => some (Out.ret v, ([] : Heap))) = _
  have hG : ofG [vs (mk t), .val (.int .i64 (.ofNat n))] = some (bA n ((onT t n).map Int.ofNat)) := by
    show (if n ≤ 8 * (mk t).size ∧ n ≤ 1000000 then some (AV.agg [vi n, .list 0 1 ((onS (mk t) n).map fun i => [vi i])]) else none) = _
    rw [if_pos ⟨ht, hn⟩, onS_mk]
  rw [hG]
  rfl
end
/- Bits: Unlist, 73, and the document's, 74. -/
set_option maxRecDepth 20000
section
def len8 (n : Nat) : Nat := if n = 0 then 0 else n.log2 + 1
noncomputable def tbl8 : B := (List.range 256).map fun n => UInt8.ofNat (len8 n)
theorem f130' : ∀ x : Int, E cx (Key.fn 130) [vb x] [] = if 0 ≤ x then Option.bind (mk tbl8)[Int.toNat x]? fun b => some (Out.ret (vi (IntKind.wrap .i64 (b.toNat : Int))), []) else none := fun x => (f130 x).trans (by kernel_rfl)
theorem log2_lt8 {n : Nat} (h : n < 256) : n.log2 < 8 := by
  by_cases h0 : n = 0
  · subst h0; decide
  · exact (Nat.log2_lt h0).2 h
theorem c130 {n : Nat} (hn : n < 256) (h0 : n ≠ 0) : E cx (Key.fn 130) [vb n] [] = some (Out.ret (vi (n.log2 + 1 : Nat)), []) := by
  have hl := log2_lt8 hn
  have hb : tbl8[n]? = some (UInt8.ofNat (n.log2 + 1)) := by
    unfold tbl8
    rw [List.getElem?_map, List.getElem?_range hn]
    show some (UInt8.ofNat (len8 n)) = _
    unfold len8
    rw [if_neg h0]
  refine (f130' _).trans ((goY (by omega) _ _).trans ((goG (n := n) rfl hb _).trans ?_))
  rw [UInt8.toNat_ofNat', Nat.mod_eq_of_lt (show n.log2 + 1 < 2 ^ 8 by omega), wr_id (by omega) (by omega)]
theorem log2_top {n : Nat} (h0 : n ≠ 0) : n.testBit n.log2 = true ∧ ∀ j, n.log2 < j → n.testBit j = false := by
  have h1 := Nat.log2_self_le h0
  have h2 := Nat.lt_log2_self (n := n)
  constructor
  · rw [Nat.testBit_eq_decide_div_mod_eq]
    have : n / 2 ^ n.log2 = 1 := by
      rw [Nat.pow_succ] at h2
      exact Nat.div_eq_of_lt_le (by omega) (by omega)
    rw [this]
    rfl
  · intro j hj
    apply Nat.testBit_lt_two_pow
    exact Nat.lt_of_lt_of_le h2 (Nat.pow_le_pow_right (by omega) (by omega))
/-- The last bit that is set, where the last octet is 'b'. -/
def topB (t : B) (b : UInt8) : Nat := 8 * (t.length - 1) + b.toNat.log2
theorem topB_bit {t : B} {b : UInt8} (hb : t[t.length - 1]? = some b) (h0 : b.toNat ≠ 0) : bitT t (topB t b) = true ∧ (∀ i, topB t b < i → bitT t i = false) ∧ topB t b < 8 * t.length := by
  have hl := log2_lt8 b.toNat_lt
  have hlt := (List.getElem?_eq_some_iff.1 hb).1
  obtain ⟨h1, h2⟩ := log2_top h0
  unfold topB
  refine ⟨?_, fun i hi => ?_, by omega⟩
  · rw [← bitT_get (b := b) (by rw [show (8 * (t.length - 1) + b.toNat.log2) / 8 = t.length - 1 by omega]; exact hb), show (8 * (t.length - 1) + b.toNat.log2) % 8 = b.toNat.log2 by omega]
    exact h1
  · by_cases h8 : 8 * t.length ≤ i
    · exact bitT_ge h8
    · rw [← bitT_get (b := b) (by rw [show i / 8 = t.length - 1 by omega]; exact hb)]
      exact h2 _ (by omega)
/-- Bits, or an error. -/
def RB (x : Option (Out × Heap)) (r : Int × List Int × Int) : Prop := ∃ a, x = some (Out.ret (.tuple [.agg [vi r.1, a], vi r.2.2]), []) ∧ a.list? 1 = some (ints r.2.1)
theorem RB_of {x : Option (Out × Heap)} {n e : Int} {l : List Int} (h : x = some (Out.ret (.tuple [bA n l, vi e]), [])) : RB x (n, l, e) := ⟨_, h, rfl⟩
theorem RB_nil {x : Option (Out × Heap)} {e : Int} (h : x = some (Out.ret (.tuple [.agg [vi 0, .val (.slice none 0 0)], vi e]), [])) : RB x (0, [], e) := ⟨_, h, rfl⟩
/-- What is read of a list's octets. -/
def unlO (t : B) (most : Int) : Int × List Int × Int := match t[t.length - 1]? with
  | none => (0, [], 2)
  | some b => bif decide (b.toNat = 0) then (0, [], 2) else bif decide ((topB t b : Int) > most) || decide ((topB t b : Int) > 2048) then (0, [], 4) else (topB t b, (onT t (topB t b)).map Int.ofNat, 0)
theorem sz_mk (t : B) : ((ByteArray.size (mk t) : Nat) : Int) = (t.length : Int) := rfl
theorem c73 (t : B) (ht : t.length ≤ 1000) (most : Int) : RB (E cx (Key.fn 73) [vs (mk t), vi most] []) (unlO t most) := by
  unfold unlO
  cases hb : t[t.length - 1]? with
  | none =>
    have h0 : t.length = 0 := by
      have := List.getElem?_eq_none_iff.1 hb
      omega
    refine RB_nil ((f73 _ _).trans ?_)
    rw [sz_mk, h0]
    exact goD (show IntKind.wrap .i64 (Int.sub ((0 : Nat) : Int) 1) < 0 by decide) _ _
  | some b =>
    simp only
    have hlt := (List.getElem?_eq_some_iff.1 hb).1
    have hw : IntKind.wrap .i64 (Int.sub (t.length : Int) 1) = ((t.length - 1 : Nat) : Int) := (wr_sub (b := 1) (by omega) (by omega)).trans (by omega)
    have hl := log2_lt8 b.toNat_lt
    by_cases h0 : b.toNat = 0
    · rw [decide_eq_true h0]
      refine RB_nil ((f73 _ _).trans ?_)
      rw [sz_mk, hw]
      exact (goDn (by omega) _ _).trans ((goY (by omega) _ _).trans ((goG (n := t.length - 1) rfl hb _).trans (goD (by omega) _ _)))
    · rw [decide_eq_false h0, cond_false]
      have hw2 : IntKind.wrap .i64 (Int.sub (IntKind.wrap .i64 (Int.add (IntKind.wrap .i64 (Int.mul ((t.length - 1 : Nat) : Int) 8)) ((b.toNat.log2 + 1 : Nat) : Int))) 1) = (topB t b : Int) := by
        rw [wr_mul (a := ((t.length - 1 : Nat) : Int)) (b := 8) (by omega) (by omega), wr_add (a := ((t.length - 1 : Nat) : Int) * 8) (by omega) (by omega)]
        exact (wr_sub (b := 1) (by omega) (by omega)).trans (by unfold topB; omega)
      have go : ∀ {R}, (bif decide ((topB t b : Int) > most) then q73_1 else bif decide ((topB t b : Int) > 2048) then q73_1 else
          Option.bind (E cx (Key.fn 131) [vs (mk t), vi (topB t b)] []) fun r => Option.bind (ret1 r) fun v => Option.bind (AV.cells? v) fun cs => Option.bind (uncons? cs) fun p => Option.bind (AV.int? .i64 p.fst) fun n => Option.bind (uncons? p.snd) fun p => Option.bind (AV.list? 1 p.fst) fun es => Option.bind (nil? p.snd) fun _ =>
            some (Out.ret (.tuple [.agg [vi n, .list 0 1 es], vi 0]), [])) = R → E cx (Key.fn 73) [vs (mk t), vi most] [] = R := fun {R} h => by
        refine (f73 _ _).trans ?_
        rw [sz_mk, hw]
        refine (goDn (by omega) _ _).trans ((goY (by omega) _ _).trans ((goG (n := t.length - 1) rfl hb _).trans ((goDn (by omega) _ _).trans ((goY (by omega) _ _).trans ((goG (n := t.length - 1) rfl hb _).trans ((goI (c130 b.toNat_lt h0) _).trans ?_))))))
        rw [hw2]
        exact h
      by_cases h1 : (topB t b : Int) > most
      · rw [decide_eq_true h1]
        exact RB_nil (go (goD h1 _ _))
      · by_cases h2 : (topB t b : Int) > 2048
        · rw [decide_eq_true h2, Bool.or_true]
          exact RB_nil (go ((goDn h1 _ _).trans (goD h2 _ _)))
        · rw [decide_eq_false h1, decide_eq_false h2]
          have h3 := (topB_bit hb h0).2.2
          exact RB_of (go ((goDn h1 _ _).trans ((goDn h2 _ _).trans ((congrArg (fun o => Option.bind o _) (c131 t (topB t b) (by omega) (by omega))).trans rfl))))
theorem loop74 (t : B) (ht : t.length ≤ 1000) (most m : Int) (p : Nat) (hp : bitT t p = true) (hpl : p < 8 * t.length) (hu : ∀ i, p < i → bitT t i = false) : ∀ (d : Nat), p + d < 8 * t.length →
    E cx (Key.loop 74 [true, true, true, false, false]) [vi (p + d : Nat), vs (mk t), vi most, .ptr 0 0 0 0] [b0 m] = some (Out.jump (.exit 0) [vi p], [b0 m]) := by
  intro d
  induction d with
  | zero =>
    intro hd
    obtain ⟨b, hb⟩ : ∃ b, t[p / 8]? = some b := ⟨t[p / 8]'(by omega), List.getElem?_eq_getElem (by omega)⟩
    refine (f74_l0 _ _ _ _).trans ?_
    rw [Nat.add_zero, wdiv (by omega), show Int.tmod (p : Int) 8 = ((p % 8 : Nat) : Int) from rfl]
    exact (goY (by omega) _ _).trans ((goG (n := p / 8) rfl hb _).trans ((goN (show ¬ (((p % 8 : Nat) : Int) < 0) by omega) _ _).trans ((goBit0 (by omega) ((bitT_get hb).trans hp) _ _).trans rfl)))
  | succ d ih =>
    intro hd
    obtain ⟨b, hb⟩ : ∃ b, t[(p + (d + 1)) / 8]? = some b := ⟨t[(p + (d + 1)) / 8]'(by omega), List.getElem?_eq_getElem (by omega)⟩
    refine (f74_l0 _ _ _ _).trans ?_
    rw [wdiv (by omega), show Int.tmod ((p + (d + 1) : Nat) : Int) 8 = (((p + (d + 1)) % 8 : Nat) : Int) from rfl]
    refine (goY (by omega) _ _).trans ((goG (n := (p + (d + 1)) / 8) rfl hb _).trans ((goN (show ¬ ((((p + (d + 1)) % 8 : Nat) : Int) < 0) by omega) _ _).trans ((goBit0 (by omega) ((bitT_get hb).trans (hu _ (by omega))) _ _).trans ?_)))
    show E cx (Key.loop 74 [true, true, true, false, false]) [vi (IntKind.wrap .i64 (Int.sub ((p + d + 1 : Nat) : Int) 1)), vs (mk t), vi most, .ptr 0 0 0 0] [b0 m] = _
    rw [wP (by omega)]
    exact ih (by omega)
theorem c74 (t : B) (ht : t.length ≤ 1000) (most : Int) : RB (E cx (Key.fn 74) [vs (mk t), vi most] []) (unlO t most) := by
  unfold unlO
  cases hb : t[t.length - 1]? with
  | none =>
    have h0 : t.length = 0 := by
      have := List.getElem?_eq_none_iff.1 hb
      omega
    refine RB_nil ((f74 _ _).trans ?_)
    rw [sz_mk, h0]
    exact goD rfl _ _
  | some b =>
    simp only
    have hlt := (List.getElem?_eq_some_iff.1 hb).1
    have hw : IntKind.wrap .i64 (Int.sub (t.length : Int) 1) = ((t.length - 1 : Nat) : Int) := (wr_sub (b := 1) (by omega) (by omega)).trans (by omega)
    have hl := log2_lt8 b.toNat_lt
    by_cases h0 : b.toNat = 0
    · rw [decide_eq_true h0]
      refine RB_nil ((f74 _ _).trans ?_)
      rw [sz_mk, hw]
      exact (goDn (by omega) _ _).trans ((goY (by omega) _ _).trans ((goG (n := t.length - 1) rfl hb _).trans (goD (by omega) _ _)))
    · rw [decide_eq_false h0, cond_false]
      obtain ⟨t1, t2, t3⟩ := topB_bit hb h0
      have g := loop74 t ht most 0 (topB t b) t1 t3 t2 (8 * t.length - 1 - topB t b) (by omega)
      have hw2 : IntKind.wrap .i64 (Int.sub (IntKind.wrap .i64 (Int.mul 8 (t.length : Int))) 1) = ((topB t b + (8 * t.length - 1 - topB t b) : Nat) : Int) := by
        rw [wr_mul (a := 8) (b := (t.length : Int)) (by omega) (by omega)]
        exact (wr_sub (b := 1) (by omega) (by omega)).trans (by omega)
      have go : ∀ {R}, (bif decide ((topB t b : Int) > most) then q74_1 else bif decide ((topB t b : Int) > 2048) then q74_1 else
          Option.bind (E cx (Key.fn 132) [vs (mk t), vi (topB t b)] []) fun r => Option.bind (ret1 r) fun v => Option.bind (AV.cells? v) fun cs => Option.bind (uncons? cs) fun p => Option.bind (AV.int? .i64 p.fst) fun n => Option.bind (uncons? p.snd) fun p => Option.bind (AV.list? 1 p.fst) fun es => Option.bind (nil? p.snd) fun _ =>
            some (Out.ret (.tuple [.agg [vi n, .list 0 1 es], vi 0]), [])) = R → E cx (Key.fn 74) [vs (mk t), vi most] [] = R := fun {R} h => by
        refine (f74 _ _).trans ?_
        rw [sz_mk, hw, hw2]
        exact (goDn (by omega) _ _).trans ((goY (by omega) _ _).trans ((goG (n := t.length - 1) rfl hb _).trans ((goDn (by omega) _ _).trans ((congrArg (fun o => Option.bind o _) g).trans h))))
      by_cases h1 : (topB t b : Int) > most
      · rw [decide_eq_true h1]
        exact RB_nil (go (goD h1 _ _))
      · by_cases h2 : (topB t b : Int) > 2048
        · rw [decide_eq_true h2, Bool.or_true]
          exact RB_nil (go ((goDn h1 _ _).trans (goD h2 _ _)))
        · rw [decide_eq_false h1, decide_eq_false h2]
          exact RB_of (go ((goDn h1 _ _).trans ((goDn h2 _ _).trans ((congrArg (fun o => Option.bind o _) (c132 t (topB t b) (by omega) (by omega))).trans rfl))))
end
/- Bits: Unvector 75, the document's 76, turned 72, set 77; List and Vector in plain words. -/
section
/-- The octets of a list, and of a vector. -/
def lstB (c : Nat) (l : List Nat) : B := txB (c / 8 + 1) fun y => decide (y = c) || decide (y ∈ l)
def vecB (c : Nat) (l : List Nat) : B := txB ((c + 7) / 8) fun y => decide (y ∈ l)
def lstO (n : Int) (l : List Int) : B × Int := bif rightB n l then (lstB n.toNat (l.map Int.toNat), 0) else ([], 1)
def vecO (n : Int) (l : List Int) : B × Int := bif rightB n l then (vecB n.toNat (l.map Int.toNat), 0) else ([], 1)
theorem mem_ofNat {y : Nat} {k : List Nat} : ((y : Int) ∈ k.map Int.ofNat) ↔ y ∈ k := by
  constructor
  · intro h
    obtain ⟨z, hz, e⟩ := List.mem_map.1 h
    have : z = y := by
      have : (z : Int) = y := e
      omega
    rwa [← this]
  · exact fun h => List.mem_map_of_mem h
theorem toNat_ofNat (k : List Nat) : (k.map Int.ofNat).map Int.toNat = k := by
  rw [List.map_map]
  conv => rhs; rw [← List.map_id k]
  exact List.map_congr_left fun x _ => Int.toNat_natCast x
theorem c57 (n : Int) (l : List Int) (hl : l.length ≤ 4000000) : E cx (Key.fn 57) [bA n l] [] = RJ (lstO n l).1 (lstO n l).2 := by
  unfold lstO
  cases h : rightB n l with
  | false => exact c57_f n l hl h
  | true =>
    obtain ⟨m, k, rfl, rfl, h1, h2, h3⟩ := right_nat h
    refine (c57_t m (by omega) _ hl h).trans ?_
    rw [run_zero, str_tab, cond_true, toNat_ofNat, Int.toNat_natCast]
    unfold lstB
    have : (fun y : Nat => decide ((y : Int) = m) || decide ((y : Int) ∈ k.map Int.ofNat)) = fun y => decide (y = m) || decide (y ∈ k) := by
      funext y
      have e : ((y : Int) = m) ↔ y = m := by omega
      simp only [mem_ofNat, e]
    rw [this]
theorem c59 (n : Int) (l : List Int) (hl : l.length ≤ 4000000) : E cx (Key.fn 59) [bA n l] [] = RJ (vecO n l).1 (vecO n l).2 := by
  unfold vecO
  cases h : rightB n l with
  | false => exact c59_f n l hl h
  | true =>
    obtain ⟨m, k, rfl, rfl, h1, h2, h3⟩ := right_nat h
    refine (c59_t m (by omega) _ hl h).trans ?_
    rw [run_zero, str_tab, cond_true, toNat_ofNat, Int.toNat_natCast]
    unfold vecB
    have : (fun y : Nat => decide ((y : Int) = -1) || decide ((y : Int) ∈ k.map Int.ofNat)) = fun y => decide (y ∈ k) := by
      funext y
      have e : ¬ ((y : Int) = -1) := by omega
      simp only [mem_ofNat, e, decide_false, Bool.false_or]
    rw [this]
theorem c58 (n : Int) (l : List Int) (hl : l.length ≤ 4000000) : E cx (Key.fn 58) [bA n l] [] = RJ (vecO n l).1 (vecO n l).2 := by
  unfold vecO
  cases h : rightB n l with
  | false => exact c58_f n l hl h
  | true =>
    obtain ⟨m, k, rfl, rfl, h1, h2, h3⟩ := right_nat h
    rw [List.length_map] at hl
    refine (c58_t m (by omega) k hl h3 h).trans ?_
    rw [fold_zero _ _ (fun p hp => by have := h3 p hp; omega), str_tab, cond_true, toNat_ofNat, Int.toNat_natCast]
    rfl
/-! ### Unvector -/
def overB (t : B) (n : Nat) : Bool := (List.range (8 * t.length)).any fun i => decide (n ≤ i) && bitT t i
theorem overB_f {t : B} {n : Nat} : overB t n = false ↔ ∀ i, n ≤ i → bitT t i = false := by
  unfold overB
  rw [List.any_eq_false]
  constructor
  · intro h i hi
    by_cases h8 : 8 * t.length ≤ i
    · exact bitT_ge h8
    · have := h i (List.mem_range.2 (by omega))
      rw [decide_eq_true hi, Bool.true_and] at this
      simpa using this
  · intro h i _
    by_cases hi : n ≤ i
    · rw [h i hi]; simp
    · simp [hi]
def unvO (t : B) (n : Int) : Int × List Int × Int := bif decide (n < 0) || decide (n > 2048) then (0, [], 1) else bif !decide (t.length = (n.toNat + 7) / 8) then (0, [], 2) else bif overB t n.toNat then (0, [], 2) else (n, (onT t n.toNat).map Int.ofNat, 0)
theorem over_last {t : B} {n : Nat} {b : UInt8} (h8 : 0 < n % 8) (hlen : t.length = (n + 7) / 8) (hb : t[t.length - 1]? = some b) : overB t n = !decide (b.toNat / 2 ^ (n % 8) = 0) := by
  have hlt := b.toNat_lt
  by_cases h0 : b.toNat / 2 ^ (n % 8) = 0
  · rw [decide_eq_true h0]
    refine overB_f.2 fun i hi => ?_
    by_cases hi8 : 8 * t.length ≤ i
    · exact bitT_ge hi8
    · rw [← bitT_get (b := b) (by rw [show i / 8 = t.length - 1 by omega]; exact hb)]
      have hp : 0 < 2 ^ (n % 8) := Nat.pow_pos (by omega)
      have h1 : b.toNat < 2 ^ (n % 8) := by
        rcases Nat.div_eq_zero_iff.1 h0 with h | h
        · omega
        · exact h
      exact Nat.testBit_lt_two_pow (Nat.lt_of_lt_of_le h1 (Nat.pow_le_pow_right (by omega) (by omega)))
  · rw [decide_eq_false h0]
    cases ho : overB t n with
    | true => rfl
    | false =>
      have h1 := (log2_top h0).1
      rw [Nat.testBit_div_two_pow] at h1
      generalize hj : n % 8 + (b.toNat / 2 ^ (n % 8)).log2 = j at h1
      have hj' : (b.toNat / 2 ^ (n % 8)).log2 + n % 8 = j := by omega
      have hj8 : j < 8 := by
        apply Nat.lt_of_not_le
        intro hc
        have : b.toNat < 2 ^ j := Nat.lt_of_lt_of_le (show b.toNat < 2 ^ 8 from hlt) (Nat.pow_le_pow_right (by omega) hc)
        first
          | (rw [Nat.testBit_lt_two_pow this] at h1; cases h1)
          | (rw [hj'] at h1; rw [Nat.testBit_lt_two_pow this] at h1; cases h1)
      have := overB_f.1 ho (8 * (t.length - 1) + j) (by omega)
      rw [← bitT_get (b := b) (by rw [show (8 * (t.length - 1) + j) / 8 = t.length - 1 by omega]; exact hb), show (8 * (t.length - 1) + j) % 8 = j by omega] at this
      first
        | (rw [this] at h1; cases h1)
        | (rw [hj'] at h1; rw [this] at h1; cases h1)
theorem c75 (t : B) (ht : t.length ≤ 1000) (n : Int) : RB (E cx (Key.fn 75) [vs (mk t), vi n] []) (unvO t n) := by
  unfold unvO
  by_cases h1 : n < 0
  · rw [decide_eq_true h1]
    exact RB_nil ((f75 _ _).trans (goD h1 _ _))
  · by_cases h2 : n > 2048
    · rw [decide_eq_true h2, Bool.or_true]
      exact RB_nil ((f75 _ _).trans ((goDn h1 _ _).trans (goD h2 _ _)))
    · rw [decide_eq_false h1, decide_eq_false h2, Bool.or_false, cond_false]
      obtain ⟨m, rfl⟩ : ∃ m : Nat, n = m := ⟨n.toNat, by omega⟩
      rw [Int.toNat_natCast]
      have hw : IntKind.wrap .i64 (Int.tdiv (IntKind.wrap .i64 (Int.sub (IntKind.wrap .i64 (Int.add (m : Int) 8)) 1)) 8) = (((m + 7) / 8 : Nat) : Int) := by
        rw [wr_add (a := (m : Int)) (b := 8) (by omega) (by omega), show IntKind.wrap .i64 (Int.sub ((m : Int) + 8) 1) = ((m + 7 : Nat) : Int) from (wr_sub (a := (m : Int) + 8) (b := 1) (by omega) (by omega)).trans (by omega)]
        exact wdiv (by omega)
      by_cases h3 : t.length = (m + 7) / 8
      · rw [decide_eq_true h3, Bool.not_true, cond_false]
        have ok : q75_2 (mk t) m = some (Out.ret (.tuple [bA m ((onT t m).map Int.ofNat), vi 0]), []) := by
          unfold q75_2
          exact (congrArg (fun o => Option.bind o _) (c131 t m (by omega) (by omega))).trans rfl
        have start : ∀ {R}, (bif decide (((m % 8 : Nat) : Int) > 0) then if 0 ≤ IntKind.wrap .i64 (Int.sub ((ByteArray.size (mk t) : Nat) : Int) 1) then
            Option.bind (mk t)[Int.toNat (IntKind.wrap .i64 (Int.sub ((ByteArray.size (mk t) : Nat) : Int) 1))]? fun b => if ((m % 8 : Nat) : Int) < 0 then none else bif ishr .u8 (b.toNat : Int) ((m % 8 : Nat) : Int) != 0 then q75_1 else q75_2 (mk t) m else none
            else q75_2 (mk t) m) = R → E cx (Key.fn 75) [vs (mk t), vi m] [] = R := fun {R} h => by
          refine (f75 _ _).trans ((goDn h1 _ _).trans ((goDn h2 _ _).trans ?_))
          rw [hw]
          exact (goE (by rw [sz_mk, h3]) _ _).trans h
        by_cases h8 : 0 < m % 8
        · have hw2 : IntKind.wrap .i64 (Int.sub (t.length : Int) 1) = ((t.length - 1 : Nat) : Int) := (wr_sub (b := 1) (by omega) (by omega)).trans (by omega)
          obtain ⟨b, hb⟩ : ∃ b, t[t.length - 1]? = some b := ⟨t[t.length - 1]'(by omega), List.getElem?_eq_getElem (by omega)⟩
          rw [over_last h8 h3 hb]
          have go : ∀ {R}, (bif ((b.toNat / 2 ^ (m % 8) : Nat) : Int) != 0 then q75_1 else q75_2 (mk t) m) = R → E cx (Key.fn 75) [vs (mk t), vi m] [] = R := fun {R} h => by
            refine start ((goD (by omega) _ _).trans ?_)
            rw [sz_mk, hw2]
            refine (goY (by omega) _ _).trans ((goG (n := t.length - 1) rfl hb _).trans ((goN (show ¬ (((m % 8 : Nat) : Int) < 0) by omega) _ _).trans ?_))
            rw [shr_nat (by omega)]
            exact h
          by_cases h0 : b.toNat / 2 ^ (m % 8) = 0
          · rw [decide_eq_true h0]
            exact RB_of (go ((goE (by omega) _ _).trans ok))
          · rw [decide_eq_false h0]
            exact RB_nil (go (goEn (by omega) _ _))
        · have ho : overB t m = false := overB_f.2 fun i hi => bitT_ge (by omega)
          rw [ho]
          exact RB_of (start ((goDn (by omega) _ _).trans ok))
      · rw [decide_eq_false h3]
        refine RB_nil ((f75 _ _).trans ((goDn h1 _ _).trans ((goDn h2 _ _).trans ?_)))
        rw [hw, sz_mk]
        exact goEn (by omega) _ _
theorem c76 (t : B) (_ht : t.length ≤ 1000) (n : Int) : RB (E cx (Key.fn 76) [vs (mk t), vi n] []) (unvO t n) := by
  unfold unvO
  by_cases h1 : n < 0
  · rw [decide_eq_true h1]
    exact RB_nil ((f76 _ _).trans (goD h1 _ _))
  · by_cases h2 : n > 2048
    · rw [decide_eq_true h2, Bool.or_true]
      exact RB_nil ((f76 _ _).trans ((goDn h1 _ _).trans (goD h2 _ _)))
    · rw [decide_eq_false h1, decide_eq_false h2, Bool.or_false, cond_false]
      obtain ⟨m, rfl⟩ : ∃ m : Nat, n = m := ⟨n.toNat, by omega⟩
      rw [Int.toNat_natCast]
      have hw : IntKind.wrap .i64 (Int.tdiv (IntKind.wrap .i64 (Int.add (m : Int) 7)) 8) = (((m + 7) / 8 : Nat) : Int) := by
        rw [show IntKind.wrap .i64 (Int.add (m : Int) 7) = ((m + 7 : Nat) : Int) from wr_add (a := (m : Int)) (b := 7) (by omega) (by omega)]
        exact wdiv (by omega)
      by_cases h3 : t.length = (m + 7) / 8
      · rw [decide_eq_true h3, Bool.not_true, cond_false]
        have hr := right_on t (n := m) (by omega)
        have hl : ((onT t m).map Int.ofNat).length ≤ 4000000 := by
          have := onT_len t m
          rw [List.length_map]; omega
        have g := c59 (m : Int) ((onT t m).map Int.ofNat) hl
        have hv : vecO (m : Int) ((onT t m).map Int.ofNat) = (vecB m (onT t m), 0) := by
          unfold vecO
          rw [hr, cond_true, toNat_ofNat, Int.toNat_natCast]
        rw [hv] at g
        have go : ∀ {R}, (bif !List.beq (ByteArray.toList (mk (vecB m (onT t m)))) (ByteArray.toList (mk t)) then q76_1 else some (Out.ret (.tuple [bA m ((onT t m).map Int.ofNat), vi 0]), [])) = R → E cx (Key.fn 76) [vs (mk t), vi m] [] = R := fun {R} h => by
          refine (f76 _ _).trans ((goDn h1 _ _).trans ((goDn h2 _ _).trans ?_))
          rw [hw]
          refine (goE (by rw [sz_mk, h3]) _ _).trans ((congrArg (fun o => Option.bind o _) (c132 t m (by omega) (by omega))).trans ?_)
          show (Option.bind (E cx (Key.fn 59) [bA m ((onT t m).map Int.ofNat)] []) fun r => Option.bind (ret1 r) fun v => Option.bind (AV.tup? v) fun vs => Option.bind (uncons? vs) fun p => Option.bind (AV.str? p.fst) fun s => Option.bind (uncons? p.snd) fun p => Option.bind (AV.int? .i64 p.fst) fun _ => Option.bind (nil? p.snd) fun _ =>
            bif !List.beq (ByteArray.toList s) (ByteArray.toList (mk t)) then q76_1 else some (Out.ret (.tuple [bA m ((onT t m).map Int.ofNat), vi 0]), [])) = _
          exact (goJn g _).trans h
        have hq : vecB m (onT t m) = t ↔ overB t m = false := by
          rw [overB_f]
          constructor
          · intro h i hi
            by_cases h8 : 8 * t.length ≤ i
            · exact bitT_ge h8
            · rw [← h]
              unfold vecB
              rw [bitT_tx (by omega)]
              have : ¬ i ∈ onT t m := fun h => by have := (onT_mem.1 h).1; omega
              simp [this]
          · intro h
            conv => rhs; rw [← tx_bits t]
            unfold vecB
            rw [← h3]
            apply txB_congr
            intro i hi
            by_cases hm : i < m
            · cases hb : bitT t i with
              | true => exact decide_eq_true (onT_mem.2 ⟨hm, hb⟩)
              | false => exact decide_eq_false fun h => by rw [(onT_mem.1 h).2] at hb; cases hb
            · rw [h i (by omega)]
              exact decide_eq_false fun h => hm (onT_mem.1 h).1
        cases ho : overB t m with
        | false => exact RB_of (go (goQn (hq.2 ho) _ _))
        | true => exact RB_nil (go (goQt (fun h => by rw [hq.1 h] at ho; cases ho) _ _))
      · rw [decide_eq_false h3]
        refine RB_nil ((f76 _ _).trans ((goDn h1 _ _).trans ((goDn h2 _ _).trans ?_)))
        rw [hw, sz_mk]
        exact goEn (by omega) _ _
/-! ### A byte in place of one -/
def trn (t : B) (a : Int) (c : UInt8) : B := bif decide (t.length = 0) then t else t.take (pickI a t.length).toNat ++ [c] ++ t.drop ((pickI a t.length).toNat + 1)
theorem c72 (t : B) (ht : t.length ≤ 1000) (a : Int) (ha : RI a) (c : UInt8) : E cx (Key.fn 72) [vs (mk t), vi a, vb c.toNat] [] = some (Out.ret (vs (mk (trn t a c))), []) := by
  unfold trn
  by_cases h0 : t.length = 0
  · rw [decide_eq_true h0]
    refine (f72 _ _ _).trans ?_
    rw [sz_mk]
    exact goD (by omega) _ _
  · rw [decide_eq_false h0, cond_false]
    have hp := pickI_lt (c := a) (n := (t.length : Int)) (by omega)
    obtain ⟨k, hk⟩ : ∃ k : Nat, pickI a t.length = k := ⟨(pickI a t.length).toNat, by omega⟩
    rw [hk] at hp ⊢
    have hs : Go.strOfNums [(c.toNat : Int)] = mk [c] := by
      unfold Go.strOfNums
      simp
    refine (f72 _ _ _).trans ?_
    rw [sz_mk]
    refine (goDn (by omega) _ _).trans ((goI (c64 ha (by omega)) _).trans ?_)
    rw [hk, wS (by omega), Int.toNat_natCast, Int.toNat_natCast, hs, ext_mk, app_mk, ext_mk, app_mk]
    have h1 : ((t.take k).drop 0).length ≤ 1000 := by simp; omega
    have h2 : (((t.take k).drop 0 ++ [c]).length : Int) ≤ 1001 := by rw [List.length_append]; simp; omega
    refine (goY (by omega) _ _).trans ((goY (by omega) _ _).trans ((goN (show ¬ (((((t.take k).drop 0).length + 1 : Nat) : Int) > 9223372036854775807) by omega) _ _).trans ((goY (by omega) _ _).trans ((goY (by omega) _ _).trans ((goN (show ¬ ((((((t.take k).drop 0 ++ [c]).length + ((t.take t.length).drop (k + 1)).length : Nat)) : Int) > 9223372036854775807) by
      have : ((t.take t.length).drop (k + 1)).length ≤ 1000 := by simp; omega
      omega) _ _).trans ?_)))))
    rw [List.drop_zero, show (ByteArray.size (mk t)) = t.length from rfl, List.take_length]
/-! ### How many are set -/
def cntT (t : B) : Nat := (onT t (8 * t.length)).length
theorem onT_cnt (t : B) (i : Nat) : (onT t (i + 1)).length = (onT t i).length + (bif bitT t i then 1 else 0) := by
  rw [onT_succ, List.length_append]
  cases bitT t i <;> rfl
theorem loop77b (t : B) (ht : t.length ≤ 1000) (i : Nat) (hi : i < t.length) : ∀ (d k : Nat), k + d = 8 →
    E cx (Key.loop 77 [true, true, false, true, false, false, true, false, false, true, false]) [vi (onT t (8 * i + k)).length, vi k, vs (mk t), vi i] [] = some (Out.jump (.exit 2) [vi (onT t (8 * (i + 1))).length, vi 8], [])
  | 0, k, hk => by
    have : k = 8 := by omega
    subst this
    exact (f77_l0_l1 _ _ _ _).trans ((goDn (by omega) _ _).trans rfl)
  | d + 1, k, hk => by
    have ih := loop77b t ht i hi d (k + 1) (by omega)
    obtain ⟨b, hb⟩ : ∃ b, t[i]? = some b := ⟨t[i], List.getElem?_eq_getElem hi⟩
    have hl := onT_len t (8 * i + k)
    have hbt : b.toNat.testBit k = bitT t (8 * i + k) := by
      have := bitT_get (t := t) (i := 8 * i + k) (b := b) (by rw [show (8 * i + k) / 8 = i by omega]; exact hb)
      rwa [show (8 * i + k) % 8 = k by omega] at this
    refine (f77_l0_l1 _ _ _ _).trans ((goD (by omega) _ _).trans ((goY (by omega) _ _).trans ((goG (n := i) rfl hb _).trans ((goN (show ¬ ((k : Int) < 0) by omega) _ _).trans ?_))))
    rw [shr_bit (by omega), hbt, wS (by omega)]
    have e : IntKind.wrap .i64 (Int.add ((onT t (8 * i + k)).length : Int) (IntKind.wrap .i64 (bif bitT t (8 * i + k) then 1 else 0))) = ((onT t (8 * i + (k + 1))).length : Int) := by
      rw [show 8 * i + (k + 1) = 8 * i + k + 1 by omega, onT_cnt]
      cases bitT t (8 * i + k) with
      | true => rw [cond_true, wr_id (n := 1) (by omega) (by omega)]; exact (wr_add (b := 1) (by omega) (by omega)).trans (by simp)
      | false => rw [cond_false, wr_id (n := 0) (by omega) (by omega)]; exact (wr_add (b := 0) (by omega) (by omega)).trans (by simp)
    rw [e]
    exact ih
theorem loop77 (t : B) (ht : t.length ≤ 1000) : ∀ (d i : Nat), i + d = t.length →
    E cx (Key.loop 77 [true, true, false, true, false]) [vi (onT t (8 * i)).length, vi i, vs (mk t)] [] = some (Out.jump (.exit 0) [vi (cntT t), vi t.length], [])
  | 0, i, hi => by
    have : i = t.length := by omega
    subst this
    refine (f77_l0 _ _ _).trans ?_
    rw [sz_mk]
    exact goDn (by omega) _ _
  | d + 1, i, hi => by
    have ih := loop77 t ht d (i + 1) (by omega)
    refine (f77_l0 _ _ _).trans ?_
    rw [sz_mk]
    refine (goD (by omega) _ _).trans ((congrArg (fun o => Option.bind o _) (loop77b t ht i (by omega) 8 0 (by omega))).trans ?_)
    show E cx (Key.loop 77 [true, true, false, true, false]) [vi (onT t (8 * (i + 1))).length, vi (IntKind.wrap .i64 (Int.add (i : Int) 1)), vs (mk t)] [] = _
    rw [wS (by omega)]
    exact ih
theorem c77 (t : B) (ht : t.length ≤ 1000) : E cx (Key.fn 77) [vs (mk t)] [] = some (Out.ret (vi (cntT t)), []) :=
  (f77 _).trans ((congrArg (fun o => Option.bind o _) (loop77 t ht t.length 0 (by omega))).trans rfl)
end
/- Bits: laws of octets in plain words. -/
section
theorem raw_right {N : Int} (h0 : 0 ≤ N) (h1 : N ≤ 2048) (raw : List Int) : rightB N (rawL N raw) = true := right_iff.2 ⟨h0, h1, rawL_sorted N raw, fun _ hx => rawL_lt hx⟩
/-- Unlike ones among so many. -/
theorem nodup_len {α : Type} [DecidableEq α] : ∀ {l k : List α}, l.Nodup → (∀ x ∈ l, x ∈ k) → l.length ≤ k.length
  | [], k, _, _ => Nat.zero_le _
  | a :: l, k, h, hs => by
    rw [List.nodup_cons] at h
    have ha := hs a (List.mem_cons_self ..)
    have := nodup_len (l := l) (k := k.erase a) h.2 fun x hx => (List.mem_erase_of_ne (fun e => by subst e; exact h.1 hx)).2 (hs x (List.mem_cons_of_mem _ hx))
    rw [List.length_erase_of_mem ha] at this
    have hpos : 0 < k.length := List.length_pos_of_mem ha
    simp only [List.length_cons]
    omega
theorem raw_len (N : Int) (raw : List Int) : (rawL N raw).length ≤ 40 := by
  by_cases hN : 0 < N
  · have h : (rawL N raw).length ≤ ((raw.take 40).map fun r => pickI r N).length := nodup_len ((rawL_sorted N raw).imp fun h => by omega) fun x hx => by
      obtain ⟨r, h1, h2⟩ := (rawL_mem hN).1 hx
      exact List.mem_map.2 ⟨r, h1, h2⟩
    rw [List.length_map, List.length_take] at h
    omega
  · unfold rawL
    rw [show N.toNat = 0 by omega]
    exact Nat.zero_le _
theorem lst_len (c : Nat) (k : List Nat) : (lstB c k).length = c / 8 + 1 := txB_len ..
theorem vec_len (c : Nat) (k : List Nat) : (vecB c k).length = (c + 7) / 8 := txB_len ..
theorem lst_bit {c : Nat} {k : List Nat} (i : Nat) (hk : ∀ x ∈ k, x < c) : bitT (lstB c k) i = (decide (i = c) || decide (i ∈ k)) := by
  by_cases hi : i < 8 * (c / 8 + 1)
  · exact bitT_tx hi
  · rw [bitT_ge (by rw [lst_len]; omega)]
    have h1 : ¬ i = c := by omega
    have h2 : ¬ i ∈ k := fun h => by have := hk i h; omega
    simp [h1, h2]
theorem vec_bit {c : Nat} {k : List Nat} (i : Nat) (hk : ∀ x ∈ k, x < c) : bitT (vecB c k) i = decide (i ∈ k) := by
  by_cases hi : i < 8 * ((c + 7) / 8)
  · exact bitT_tx hi
  · rw [bitT_ge (by rw [vec_len]; omega)]
    have h2 : ¬ i ∈ k := fun h => by have := hk i h; omega
    simp [h2]
theorem lst_last {c : Nat} {k : List Nat} (hk : ∀ x ∈ k, x < c) : ∃ b, (lstB c k)[(lstB c k).length - 1]? = some b ∧ b.toNat ≠ 0 ∧ topB (lstB c k) b = c := by
  have hl := lst_len c k
  obtain ⟨b, hb⟩ : ∃ b, (lstB c k)[(lstB c k).length - 1]? = some b := ⟨(lstB c k)[(lstB c k).length - 1]'(by omega), List.getElem?_eq_getElem (by omega)⟩
  have hc : bitT (lstB c k) c = true := by rw [lst_bit c hk]; simp
  have h0 : b.toNat ≠ 0 := fun h => by
    rw [← bitT_get (b := b) (by rw [show c / 8 = (lstB c k).length - 1 by omega]; exact hb), h] at hc
    simp at hc
  refine ⟨b, hb, h0, ?_⟩
  obtain ⟨t1, t2, _⟩ := topB_bit hb h0
  rcases Nat.lt_trichotomy (topB (lstB c k) b) c with h | h | h
  · rw [t2 c h] at hc; cases hc
  · exact h
  · rw [lst_bit _ hk] at t1
    have h1 : ¬ topB (lstB c k) b = c := by omega
    have h2 : ¬ topB (lstB c k) b ∈ k := fun h => by have := hk _ h; omega
    simp [h1, h2] at t1
theorem onT_lst {c : Nat} {k : List Nat} (hs : k.Pairwise (· < ·)) (hk : ∀ x ∈ k, x < c) : onT (lstB c k) c = k := nat_ext (onT_sorted _ _) hs fun x => by
  rw [onT_mem, lst_bit x hk]
  constructor
  · rintro ⟨h1, h2⟩
    have : ¬ x = c := by omega
    simpa [this] using h2
  · intro h
    exact ⟨hk x h, by simp [h]⟩
theorem onT_vec {c : Nat} {k : List Nat} (hs : k.Pairwise (· < ·)) (hk : ∀ x ∈ k, x < c) : onT (vecB c k) c = k := nat_ext (onT_sorted _ _) hs fun x => by
  rw [onT_mem, vec_bit x hk]
  constructor
  · rintro ⟨h1, h2⟩
    simpa using h2
  · intro h
    exact ⟨hk x h, by simp [h]⟩
theorem unl_lst {c : Nat} {k : List Nat} (hc : c ≤ 2048) (hs : k.Pairwise (· < ·)) (hk : ∀ x ∈ k, x < c) {most : Int} (hm : (c : Int) ≤ most) : unlO (lstB c k) most = (↑c, k.map Int.ofNat, 0) := by
  obtain ⟨b, h1, h2, h3⟩ := lst_last hk
  unfold unlO
  rw [h1]
  show (bif decide (b.toNat = 0) then _ else _) = _
  rw [decide_eq_false h2, h3, decide_eq_false (show ¬ ((c : Int) > most) by omega), decide_eq_false (show ¬ ((c : Int) > 2048) by omega), onT_lst hs hk]
  rfl
theorem unl_long {c : Nat} {k : List Nat} (hk : ∀ x ∈ k, x < c) {most : Int} (hm : most < (c : Int)) : unlO (lstB c k) most = (0, [], 4) := by
  obtain ⟨b, h1, h2, h3⟩ := lst_last hk
  unfold unlO
  rw [h1]
  show (bif decide (b.toNat = 0) then _ else _) = _
  rw [decide_eq_false h2, h3, decide_eq_true (show ((c : Int) > most) by omega)]
  rfl
theorem unv_vec {c : Nat} {k : List Nat} (hc : c ≤ 2048) (hs : k.Pairwise (· < ·)) (hk : ∀ x ∈ k, x < c) : unvO (vecB c k) c = (↑c, k.map Int.ofNat, 0) := by
  unfold unvO
  have ho : overB (vecB c k) c = false := overB_f.2 fun i hi => by
    rw [vec_bit i hk]
    exact decide_eq_false fun h => by have := hk i h; omega
  rw [decide_eq_false (show ¬ ((c : Int) < 0) by omega), decide_eq_false (show ¬ ((c : Int) > 2048) by omega), Int.toNat_natCast, vec_len, decide_eq_true rfl, ho, onT_vec hs hk]
  rfl
theorem ofNat_inj {k k' : List Nat} (h : k.map Int.ofNat = k'.map Int.ofNat) : k = k' := by
  rw [← toNat_ofNat k, h, toNat_ofNat]
theorem lst_inj {c c' : Nat} {k k' : List Nat} (hc : c ≤ 2048) (hc' : c' ≤ 2048) (hs : k.Pairwise (· < ·)) (hk : ∀ x ∈ k, x < c) (hs' : k'.Pairwise (· < ·)) (hk' : ∀ x ∈ k', x < c') : lstB c k = lstB c' k' ↔ c = c' ∧ k = k' := by
  constructor
  · intro h
    have h1 := unl_lst hc hs hk (most := 2048) (by omega)
    rw [h, unl_lst hc' hs' hk' (most := 2048) (by omega)] at h1
    simp only [Prod.mk.injEq] at h1
    exact ⟨by omega, (ofNat_inj h1.2.1).symm⟩
  · rintro ⟨rfl, rfl⟩; rfl
theorem vec_inj {c : Nat} {k k' : List Nat} (hs : k.Pairwise (· < ·)) (hk : ∀ x ∈ k, x < c) (hs' : k'.Pairwise (· < ·)) (hk' : ∀ x ∈ k', x < c) : vecB c k = vecB c k' ↔ k = k' := by
  constructor
  · intro h
    rw [← onT_vec hs hk, h, onT_vec hs' hk']
  · rintro rfl; rfl
/-- What is read of octets has these octets. -/
theorem unl_ok {t : B} {most : Int} (h : (unlO t most).2.2 = 0) : lstO (unlO t most).1 (unlO t most).2.1 = (t, 0) ∧ (unlO t most).1 ≤ most ∧ rightB (unlO t most).1 (unlO t most).2.1 = true := by
  unfold unlO at h ⊢
  cases hb : t[t.length - 1]? with
  | none => rw [hb] at h; cases h
  | some b =>
    rw [hb] at h
    simp only at h ⊢
    by_cases h0 : b.toNat = 0
    · rw [decide_eq_true h0] at h; cases h
    · rw [decide_eq_false h0, cond_false] at h ⊢
      by_cases h1 : (topB t b : Int) > most
      · rw [decide_eq_true h1] at h; cases h
      · by_cases h2 : (topB t b : Int) > 2048
        · rw [decide_eq_true h2, Bool.or_true] at h; cases h
        · rw [decide_eq_false h1, decide_eq_false h2, Bool.or_false, cond_false]
          obtain ⟨t1, t2, t3⟩ := topB_bit hb h0
          have hr := right_on t (n := topB t b) (by omega)
          refine ⟨?_, by omega, hr⟩
          show lstO (topB t b : Int) ((onT t (topB t b)).map Int.ofNat) = _
          unfold lstO
          rw [hr, cond_true, toNat_ofNat, Int.toNat_natCast]
          have hk : ∀ x ∈ onT t (topB t b), x < topB t b := fun x hx => (onT_mem.1 hx).1
          have hl : t.length = topB t b / 8 + 1 := by
            have := log2_lt8 b.toNat_lt
            unfold topB
            omega
          congr 1
          refine t_eq (by rw [lst_len, hl]) fun i hi => ?_
          rw [lst_bit i hk]
          rcases Nat.lt_trichotomy i (topB t b) with h | h | h
          · have hne : ¬ i = topB t b := by omega
            simp [hne, onT_mem, h]
          · rw [h, t1]; simp
          · have hne : ¬ i = topB t b := by omega
            have hnl : ¬ i < topB t b := by omega
            simp [hne, onT_mem, hnl, t2 i h]
theorem unl_err {t : B} {most : Int} (h : (unlO t most).2.2 ≠ 0) : (unlO t most).1 = 0 ∧ (unlO t most).2.1 = [] := by
  unfold unlO at h ⊢
  cases hb : t[t.length - 1]? with
  | none => exact ⟨rfl, rfl⟩
  | some b =>
    rw [hb] at h
    simp only at h ⊢
    cases h0 : decide (b.toNat = 0) with
    | true => exact ⟨rfl, rfl⟩
    | false =>
      rw [h0] at h
      rw [cond_false] at h ⊢
      cases hd : (decide ((topB t b : Int) > most) || decide ((topB t b : Int) > 2048)) with
      | true => exact ⟨rfl, rfl⟩
      | false => rw [hd] at h; exact absurd rfl h
theorem unv_ok {t : B} {n : Int} (h : (unvO t n).2.2 = 0) : vecO (unvO t n).1 (unvO t n).2.1 = (t, 0) ∧ (unvO t n).1 = n ∧ rightB (unvO t n).1 (unvO t n).2.1 = true := by
  unfold unvO at h ⊢
  cases h1 : (decide (n < 0) || decide (n > 2048)) with
  | true => rw [h1] at h; cases h
  | false =>
    rw [h1] at h
    rw [cond_false] at h ⊢
    simp only [Bool.or_eq_false_iff, decide_eq_false_iff_not] at h1
    by_cases h2 : t.length = (n.toNat + 7) / 8
    · rw [decide_eq_true h2, Bool.not_true, cond_false] at h ⊢
      cases h3 : overB t n.toNat with
      | true => rw [h3] at h; cases h
      | false =>
        obtain ⟨m, rfl⟩ : ∃ m : Nat, n = m := ⟨n.toNat, by omega⟩
        rw [Int.toNat_natCast] at h2 h3 ⊢
        have hr := right_on t (n := m) (by omega)
        rw [cond_false]
        refine ⟨?_, rfl, hr⟩
        show vecO (m : Int) ((onT t m).map Int.ofNat) = _
        unfold vecO
        rw [hr, cond_true, toNat_ofNat, Int.toNat_natCast]
        congr 1
        refine t_eq (by rw [vec_len, h2]) fun i hi => ?_
        rw [vec_bit i fun x hx => (onT_mem.1 hx).1]
        by_cases him : i < m
        · simp [onT_mem, him]
        · rw [overB_f.1 h3 i (by omega)]
          simp [onT_mem, him]
    · rw [decide_eq_false h2] at h; cases h
theorem unv_err {t : B} {n : Int} (h : (unvO t n).2.2 ≠ 0) : (unvO t n).1 = 0 ∧ (unvO t n).2.1 = [] := by
  unfold unvO at h ⊢
  cases h1 : (decide (n < 0) || decide (n > 2048)) with
  | true => exact ⟨rfl, rfl⟩
  | false =>
    rw [h1] at h
    rw [cond_false] at h ⊢
    cases h2 : !decide (t.length = (n.toNat + 7) / 8) with
    | true => exact ⟨rfl, rfl⟩
    | false =>
      rw [h2] at h
      rw [cond_false] at h ⊢
      cases h3 : overB t n.toNat with
      | true => exact ⟨rfl, rfl⟩
      | false => rw [h3] at h; exact absurd rfl h
theorem onO_len {t : B} {n : Nat} : ((onT t n).map Int.ofNat).length ≤ n := by rw [List.length_map]; exact onT_len t n
theorem right_len {n : Int} {l : List Int} (h : rightB n l = true) : l.length ≤ 2048 := by
  obtain ⟨m, k, rfl, rfl, h1, h2, h3⟩ := right_nat h
  have := nodup_len (l := k) (k := List.range m) (h2.imp fun h => by omega) fun x hx => List.mem_range.2 (h3 x hx)
  rw [List.length_range] at this
  rw [List.length_map]
  omega
theorem unl_len (t : B) (most : Int) : (unlO t most).2.1.length ≤ 2048 := by
  by_cases h : (unlO t most).2.2 = 0
  · exact right_len (unl_ok h).2.2
  · rw [(unl_err h).2]; exact Nat.zero_le _
theorem unv_len (t : B) (n : Int) : (unvO t n).2.1.length ≤ 2048 := by
  by_cases h : (unvO t n).2.2 = 0
  · exact right_len (unv_ok h).2.2
  · rw [(unv_err h).2]; exact Nat.zero_le _
theorem cnt_lst {c : Nat} {k : List Nat} (hs : k.Pairwise (· < ·)) (hk : ∀ x ∈ k, x < c) : cntT (lstB c k) = k.length + 1 := by
  have : onT (lstB c k) (8 * (lstB c k).length) = k ++ [c] := nat_ext (onT_sorted _ _) (List.pairwise_append.2 ⟨hs, List.pairwise_singleton .., fun a ha b hb => by
    have := hk a ha
    simp at hb
    omega⟩) fun x => by
    rw [onT_mem, lst_bit x hk, lst_len]
    simp only [List.mem_append, List.mem_singleton, Bool.or_eq_true, decide_eq_true_eq]
    constructor
    · rintro ⟨_, h | h⟩
      · exact .inr h
      · exact .inl h
    · rintro (h | h)
      · have := hk x h
        exact ⟨by omega, .inr h⟩
      · exact ⟨by omega, .inl h⟩
  unfold cntT
  rw [this, List.length_append]
  rfl
theorem cnt_vec {c : Nat} {k : List Nat} (hs : k.Pairwise (· < ·)) (hk : ∀ x ∈ k, x < c) : cntT (vecB c k) = k.length := by
  have : onT (vecB c k) (8 * (vecB c k).length) = k := nat_ext (onT_sorted _ _) hs fun x => by
    rw [onT_mem, vec_bit x hk, vec_len]
    simp only [decide_eq_true_eq]
    constructor
    · rintro ⟨_, h⟩; exact h
    · intro h
      have := hk x h
      exact ⟨by omega, h⟩
  unfold cntT
  rw [this]
end
/- Bits: List, 56. -/
section
theorem c56 (n : Int) (l : List Int) (hl : l.length ≤ 4000000) : E cx (Key.fn 56) [bA n l] [] = RJ (lstO n l).1 (lstO n l).2 := by
  unfold lstO
  refine (f56 _ _).trans ((goB (c60 n l hl) _).trans ?_)
  cases h : rightB n l with
  | false => rfl
  | true =>
    obtain ⟨m, k, rfl, rfl, h1, h2, h3⟩ := right_nat h
    have hl := right_len h
    rw [List.length_map] at hl
    have hcl : (k.map Int.ofNat).length = k.length := List.length_map ..
    have e1 : Nat.add 0 (ints (k.map Int.ofNat)).length = k.length := by rw [ints_len, List.length_map]; exact Nat.zero_add _
    have e2 : ints (k.map Int.ofNat) ++ [[vi m]] = ints ((k ++ [m]).map Int.ofNat) := by simp [ints]
    have e3 : IntKind.wrap .i64 (Int.add (IntKind.wrap .i64 (Int.tdiv (m : Int) 8)) 1) = ((m / 8 + 1 : Nat) : Int) := by rw [wdiv (by omega), wS (by omega)]
    have hl2 : (k ++ [m]).length = k.length + 1 := by rw [List.length_append]; rfl
    rw [ysOk_ints, cond_true, cond_true, e1]
    refine (goY (show Nat.mul k.length 8 ≤ _ by show k.length * 8 ≤ _; omega) _ _).trans ?_
    have e4 : (Ob.mk OK.arr 3 1 1 ([] ++ ints (k.map Int.ofNat))).es = ints (k.map Int.ofNat) := rfl
    rw [e4, e2, e3]
    have e5 : (ints (k.map Int.ofNat)).length = k.length := by rw [ints_len, List.length_map]
    rw [e5]
    refine (goCk rfl _).trans ((goY (show Nat.mul (Nat.add k.length 1) 8 ≤ _ by show (k.length + 1) * 8 ≤ _; omega) _ _).trans ?_)
    have e6 : Nat.add 0 (Nat.add k.length 1) = (ints ((k ++ [m]).map Int.ofNat)).length := by rw [ints_len, List.length_map, hl2]; exact Nat.zero_add _
    rw [e6]
    refine (goLe (Nat.le_refl _) _).trans ?_
    rw [List.take_length, List.drop_zero]
    refine (congrArg (fun o => Option.bind o _) (c118 (k ++ [m]) (by rw [hl2]; omega) (m / 8 + 1) (by omega) (fun p hp => ?_))).trans ?_
    · rcases List.mem_append.1 hp with hp | hp
      · have := h3 p hp; omega
      · simp at hp; omega
    · show (Option.bind (numsOf (bys _)) fun ns => some (Out.ret (.tuple [vs (Go.strOfNums ns), vi 0]), ([] : Heap))) = _
      rw [numsOf_bys, fold_zero (m / 8 + 1) (k ++ [m]) (fun p hp => by
        rcases List.mem_append.1 hp with hp | hp
        · have := h3 p hp; omega
        · simp at hp; omega), Option.bind_some, str_tab, toNat_ofNat, Int.toNat_natCast]
      have : (fun y => decide (y ∈ k ++ [m])) = fun y => decide (y = m) || decide (y ∈ k) := by
        funext y
        by_cases h : y = m <;> simp [h]
      unfold lstB
      rw [this]
      rfl
end
/- Bits: laws of unions in plain words. -/
section
theorem un_mem {l : List Int} {L : List T3} {x : Int} : x ∈ unB l L ↔ x ∈ l ∨ ∃ t ∈ L, x ∈ t.2 := by
  unfold unB catB
  rw [cmpc_mem, (srtN_perm _).mem_iff, List.mem_append, List.mem_flatMap]
theorem un_sorted (l : List Int) (L : List T3) : (unB l L).Pairwise (· < ·) := cmpc_pw (srtN_pw _)
theorem unD_mem (L : List T3) : ∀ (d : Nat) (x y : Int), y ∈ unD L x d ↔ (x ≤ y ∧ y < x + d ∧ ∃ t ∈ L, y ∈ t.2)
  | 0, x, y => by simp [unD]; intro _ _; omega
  | d + 1, x, y => by
    simp only [unD, List.mem_append, unD_mem L d (x + 1) y]
    constructor
    · rintro (h | ⟨h1, h2, h3⟩)
      · cases hc : L.any fun t => decide (x ∈ t.2) with
        | false => rw [hc] at h; cases h
        | true =>
          rw [hc] at h
          simp at h
          subst h
          obtain ⟨r, hr, he⟩ := List.any_eq_true.1 hc
          exact ⟨by omega, by omega, r, hr, of_decide_eq_true he⟩
      · exact ⟨by omega, by omega, h3⟩
    · rintro ⟨h1, h2, r, h3, h4⟩
      by_cases hxy : x = y
      · subst hxy
        have : (L.any fun t => decide (x ∈ t.2)) = true := List.any_eq_true.2 ⟨r, h3, decide_eq_true h4⟩
        rw [this]
        exact .inl (by simp)
      · exact .inr ⟨by omega, by omega, r, h3, h4⟩
theorem unD_sorted (L : List T3) : ∀ (d : Nat) (x : Int), (unD L x d).Pairwise (· < ·)
  | 0, x => .nil
  | d + 1, x => by
    unfold unD
    refine List.pairwise_append.2 ⟨?_, unD_sorted L d (x + 1), fun a ha b hb => ?_⟩
    · cases L.any fun t => decide (x ∈ t.2) <;> simp
    · have h2 := (unD_mem L d (x + 1) b).1 hb
      cases hc : L.any fun t => decide (x ∈ t.2) with
      | false => rw [hc] at ha; cases ha
      | true => rw [hc] at ha; simp at ha; omega
theorem alike_iff {n : Int} {l : List Int} {t : T3} : alikeB n l t = true ↔ rightB n l = true ∧ rightB t.1 t.2 = true ∧ n = t.1 := by
  unfold alikeB
  simp only [Bool.and_eq_true, decide_eq_true_eq]
theorem un_right {n : Int} {l : List Int} {L : List T3} (h : rightB n l = true) (ha : ∀ t ∈ L, alikeB n l t = true) : rightB n (unB l L) = true := by
  obtain ⟨h1, h2, h3, h4⟩ := right_iff.1 h
  refine right_iff.2 ⟨h1, h2, un_sorted l L, fun x hx => ?_⟩
  rcases un_mem.1 hx with hx | ⟨t, ht, hx⟩
  · exact h4 x hx
  · obtain ⟨_, g2, g3⟩ := alike_iff.1 (ha t ht)
    have := (right_iff.1 g2).2.2.2 x hx
    omega
theorem un_eq {n : Int} {l : List Int} {L : List T3} (h : rightB n l = true) (ha : ∀ t ∈ L, alikeB n l t = true) : unD ((n, l) :: L) 0 n.toNat = unB l L := int_ext (unD_sorted _ _ _) (un_sorted l L) fun x => by
  rw [unD_mem, un_mem]
  constructor
  · rintro ⟨_, _, t, ht, hx⟩
    rcases List.mem_cons.1 ht with rfl | ht
    · exact .inl hx
    · exact .inr ⟨t, ht, hx⟩
  · intro hx
    have hr := (right_iff.1 (un_right h ha)).2.2.2 x (un_mem.2 hx)
    refine ⟨by omega, by omega, ?_⟩
    rcases hx with hx | ⟨t, ht, hx⟩
    · exact ⟨(n, l), List.mem_cons_self .., hx⟩
    · exact ⟨t, List.mem_cons_of_mem _ ht, hx⟩
/-- What Union tells. -/
def unO (n : Int) (l : List Int) (L : List T3) : Int × List Int × Int := bif rightB n l && L.all (alikeB n l) then (n, unB l L, 0) else (0, [], 1)
theorem w65 (n : Int) (l : List Int) (hl : l.length ≤ 4000) (W0 : List (List AV)) (L : List T3) (hR : RwB W0 L) (hL : L.length ≤ 900) (hb : ∀ t ∈ L, t.2.length ≤ 4000) : RB (E cx (Key.fn 65) [bA n l, .list 0 2 W0] []) (unO n l L) := by
  unfold unO
  cases hr : rightB n l with
  | false => exact RB_nil (w65_f n l hl W0 L hR hL hb (.inl hr))
  | true =>
    cases ha : L.all (alikeB n l) with
    | true => exact RB_of (w65_t n l hl W0 L hR hL hb hr fun t ht => List.all_eq_true.1 ha t ht)
    | false =>
      rw [List.all_eq_false] at ha
      obtain ⟨t, h1, h2⟩ := ha
      exact RB_nil (w65_f n l hl W0 L hR hL hb (.inr ⟨t, h1, by simpa using h2⟩))
theorem c65 (n : Int) (l : List Int) (hl : l.length ≤ 4000) (L : List T3) (hL : L.length ≤ 900) (hb : ∀ t ∈ L, t.2.length ≤ 4000) : RB (E cx (Key.fn 65) [bA n l, .list 0 2 (brs L)] []) (unO n l L) := w65 n l hl _ L (rw_brs L) hL hb
theorem c66 (n : Int) (l : List Int) (hl : l.length ≤ 4000) (L : List T3) (hL : L.length ≤ 900) (hb : ∀ t ∈ L, t.2.length ≤ 4000) : RB (E cx (Key.fn 66) [.list 0 2 (brs ((n, l) :: L))] []) (unO n l L) := by
  have hL' : ((n, l) :: L).length ≤ 1000 := by simp; omega
  have hb' : ∀ t ∈ (n, l) :: L, t.2.length ≤ 4000 := fun t ht => by
    rcases List.mem_cons.1 ht with rfl | ht
    · exact hl
    · exact hb t ht
  have hself : alikeB n l (n, l) = rightB n l := by
    unfold alikeB
    cases rightB n l <;> simp
  unfold unO
  cases hr : rightB n l with
  | false => exact RB_nil (c66_f (n, l) _ rfl hL' hb' ⟨(n, l), List.mem_cons_self .., by rw [hself]; exact hr⟩)
  | true =>
    cases ha : L.all (alikeB n l) with
    | true =>
      have ha' : ∀ t ∈ L, alikeB n l t = true := fun t ht => List.all_eq_true.1 ha t ht
      obtain ⟨h1, h2, _⟩ := right_iff.1 hr
      have := c66_t (n, l) _ rfl hL' hb' (fun t ht => by
        rcases List.mem_cons.1 ht with rfl | ht
        · rw [hself]; exact hr
        · exact ha' t ht) (by show n ≤ _; omega) h1
      rw [show ((n, l) : T3).1 = n from rfl, un_eq hr ha'] at this
      exact RB_of this
    | false =>
      rw [List.all_eq_false] at ha
      obtain ⟨t, h1, h2⟩ := ha
      exact RB_nil (c66_f (n, l) _ rfl hL' hb' ⟨t, List.mem_cons_of_mem _ h1, by simpa using h2⟩)
theorem unO_of {n : Int} {l : List Int} {L : List T3} (h : rightB n l = true) (ha : ∀ t ∈ L, alikeB n l t = true) : unO n l L = (n, unB l L, 0) := by
  unfold unO
  rw [h, List.all_eq_true.2 ha]
  rfl
theorem unO_len (n : Int) (l : List Int) (L : List T3) : (unO n l L).2.1.length ≤ 2048 := by
  unfold unO
  cases hr : rightB n l with
  | false => exact Nat.zero_le _
  | true =>
    cases ha : L.all (alikeB n l) with
    | true => exact right_len (un_right hr fun t ht => List.all_eq_true.1 ha t ht)
    | false => exact Nat.zero_le _
/-- Disjoint and Subset, of two that are right and of one length. -/
def disB (l k : List Int) : Bool := l.all fun x => !decide (x ∈ k)
def subB (l k : List Int) : Bool := l.all fun x => decide (x ∈ k)
theorem disB_iff {l k : List Int} : disB l k = true ↔ ∀ x ∈ l, ¬ x ∈ k := by simp [disB]
theorem subB_iff {l k : List Int} : subB l k = true ↔ ∀ x ∈ l, x ∈ k := by simp [subB]
theorem dis_eq {l k : List Int} {m : Int} (h : rightB m k = true) : (!(l.any fun x => rightB m k && decide (x ∈ k))) = disB l k := by
  rw [h]
  unfold disB
  rw [List.not_any_eq_all_not]
  simp
theorem sub_eq {l k : List Int} {m : Int} (h : rightB m k = true) : (!(l.any fun x => !(rightB m k && decide (x ∈ k)))) = subB l k := by
  rw [h]
  unfold subB
  rw [List.not_any_eq_all_not]
  simp
/-- As many as both, just if none is in both. -/
theorem un_two_len {l k : List Int} (hl : l.Pairwise (· < ·)) (hk : k.Pairwise (· < ·)) (n : Int) : (unB l [(n, k)]).length ≤ l.length + k.length ∧ (disB l k = true ↔ (unB l [(n, k)]).length = l.length + k.length) := by
  have nd : ∀ {l : List Int}, l.Pairwise (· < ·) → l.Nodup := fun h => h.imp fun h => by omega
  have hm : ∀ x, x ∈ unB l [(n, k)] ↔ x ∈ l ∨ x ∈ k := fun x => by rw [un_mem]; simp
  have h1 : (unB l [(n, k)]).length ≤ (l ++ k).length := nodup_len (nd (un_sorted _ _)) fun x hx => List.mem_append.2 ((hm x).1 hx)
  rw [List.length_append] at h1
  refine ⟨h1, ?_⟩
  rw [disB_iff]
  constructor
  · intro hd
    have : (l ++ k).length ≤ (unB l [(n, k)]).length := nodup_len (List.nodup_append.2 ⟨nd hl, nd hk, fun a ha b hb e => hd a ha (e ▸ hb)⟩) fun x hx => (hm x).2 (List.mem_append.1 hx)
    rw [List.length_append] at this
    omega
  · intro he x hxl hxk
    have h3 : (unB l [(n, k)]).length ≤ (l ++ k.erase x).length := nodup_len (nd (un_sorted _ _)) fun y hy => by
      rcases (hm y).1 hy with h | h
      · exact List.mem_append.2 (.inl h)
      · by_cases e : y = x
        · subst e; exact List.mem_append.2 (.inl hxl)
        · exact List.mem_append.2 (.inr ((List.mem_erase_of_ne e).2 h))
    rw [List.length_append, List.length_erase_of_mem hxk] at h3
    have := List.length_pos_of_mem hxk
    omega
theorem un_len_le (l : List Int) (L : List T3) : (unB l L).length ≤ (l ++ catB L).length := nodup_len ((un_sorted l L).imp fun h => by omega) fun x hx => by
  rw [List.mem_append]
  rcases un_mem.1 hx with h | ⟨t, h1, h2⟩
  · exact .inl h
  · exact .inr (List.mem_flatMap.2 ⟨t, h1, h2⟩)
end
/- Bits: slices that are nil. -/
section
abbrev bN (n : Int) : AV := .agg [vi n, .val (.slice none 0 0)]
theorem n56 (n : Int) : E cx (Key.fn 56) [bN n] [] = E cx (Key.fn 56) [bA n []] [] := E_norm (by kernel_rfl) (by kernel_rfl)
theorem n68 (n m : Int) (l : List Int) : E cx (Key.fn 68) [bA n l, bN m] [] = E cx (Key.fn 68) [bA n l, bA m []] [] := E_norm (by kernel_rfl) (by kernel_rfl)
theorem n70 (n m : Int) (l : List Int) : E cx (Key.fn 70) [bN m, bA n l] [] = E cx (Key.fn 70) [bA m [], bA n l] [] := E_norm (by kernel_rfl) (by kernel_rfl)
theorem n65 (n : Int) (l : List Int) : E cx (Key.fn 65) [bA n l, .val (.slice none 0 0)] [] = E cx (Key.fn 65) [bA n l, .list 0 2 (brs [])] [] := E_norm (by kernel_rfl) (by kernel_rfl)
end
end Go.Proofs.Av
