/- Tokens: the law of tokens that are put together with themselves. -/
import Derived.Test.YtoepfmodbhfckaaAePQ
import Derived.Test.YtoepfmodbhfckaaAeY11
namespace Go.Proofs.Av
open Go
def dup (l : List P2) : List P2 := l.flatMap fun p => [p, p]
theorem dup_cons (p : P2) (l : List P2) : dup (p :: l) = p :: p :: dup l := rfl
theorem dup_len : ∀ l : List P2, (dup l).length = 2 * l.length
  | [] => rfl
  | p :: l => by rw [dup_cons]; simp only [List.length_cons, dup_len l]; omega
theorem dup_mem {q : P2} : ∀ {l : List P2}, q ∈ dup l → q ∈ l
  | [], h => h
  | p :: l, h => by
    rw [dup_cons] at h
    rcases List.mem_cons.1 h with rfl | h
    · exact List.mem_cons_self ..
    · rcases List.mem_cons.1 h with rfl | h
      · exact List.mem_cons_self ..
      · exact List.mem_cons_of_mem _ (dup_mem h)
theorem leP_refl (p : P2) : leP p p = true := (leP_iff p p).2 (.inr ⟨rfl, Nat.le_refl _⟩)
theorem dup_pw : ∀ {l : List P2}, PW l → PW (dup l)
  | [], _ => .nil
  | p :: l, h => by
    obtain ⟨h1, h2⟩ := List.pairwise_cons.1 h
    rw [dup_cons]
    refine .cons (fun q hq => ?_) (.cons (fun q hq => h1 q (dup_mem hq)) (dup_pw h2))
    rcases List.mem_cons.1 hq with rfl | hq
    · exact leP_refl _
    · exact h1 q (dup_mem hq)
theorem dup_perm : ∀ (l : List P2), (l ++ l).Perm (dup l)
  | [] => .nil
  | p :: l => by
    rw [dup_cons]
    show (p :: (l ++ p :: l)).Perm _
    exact .cons _ ((List.perm_middle).trans (.cons _ (dup_perm l)))
theorem dup_get : ∀ (l : List P2) (i : Nat), (dup l)[2 * i]? = l[i]? ∧ (dup l)[2 * i + 1]? = l[i]?
  | [], i => ⟨rfl, rfl⟩
  | p :: l, 0 => ⟨rfl, rfl⟩
  | p :: l, i + 1 => by
    rw [dup_cons]
    have := dup_get l i
    exact ⟨by rw [show 2 * (i + 1) = 2 * i + 1 + 1 by omega]; exact this.1, by rw [show 2 * (i + 1) + 1 = 2 * i + 1 + 1 + 1 by omega]; exact this.2⟩
theorem keys_dup {l : List P2} {r : Nat} (h : l ≠ []) : (keysR (dup l) r) = ([], false) := by
  cases l with
  | nil => exact absurd rfl h
  | cons p l =>
    unfold keysR
    rw [dup_cons]
    have : keysGo r none (p :: p :: dup l) = false := by
      show (decide (p.2 = r) && (!decide (none = some p) && (decide (p.2 = r) && (!decide (some p = some p) && keysGo r (some p) (dup l))))) = false
      rw [decide_eq_true (show some p = some p from rfl)]
      cases decide (p.2 = r) <;> simp
    rw [this, Bool.and_false]
    rfl
theorem loop11 (b0 b1 f f2 f3 : Bool) (t n : List P2) (ht : t.length ≤ 30) : ∀ (d i : Nat), i + d = t.length →
    E cx (Key.loop 11 [true, true, true, true, true, true, false, true, false]) [vbool b0, vi i, vbool b1, .ptr 0 0 0 0, .ptr 1 0 0 0] [⟨.box, 36, 2, 0, [[vbool f, .list 0 2 (prs t)]]⟩, ⟨.box, 36, 2, 0, [[vbool f2, .list 0 2 (prs (dup t))]]⟩, ⟨.box, 36, 2, 0, [[vbool f3, .list 0 2 (prs n)]]⟩] =
      some (Out.jump (.exit 0) [vbool b0, vi t.length], [⟨.box, 36, 2, 0, [[vbool f, .list 0 2 (prs t)]]⟩, ⟨.box, 36, 2, 0, [[vbool f2, .list 0 2 (prs (dup t))]]⟩, ⟨.box, 36, 2, 0, [[vbool f3, .list 0 2 (prs n)]]⟩])
  | 0, i, hd => (f11_l0 _ _ _ _ _ _ _ _ _).trans ((goDn (by rw [prs_len]; omega) _ _).trans (by rw [show i = t.length by omega]))
  | d + 1, i, hd => by
    have hp : t[i]? = some t[i] := List.getElem?_eq_getElem (by omega)
    obtain ⟨g1, g2⟩ := dup_get t i
    rw [hp] at g1 g2
    have hk := c42 f2 (dup t) t[i].2 (by rw [dup_len]; omega)
    rw [keys_dup (by intro h; rw [h] at hd; simp at hd)] at hk
    have e1 : IntKind.wrap .i64 (Int.mul 2 (i : Int)) = ((2 * i : Nat) : Int) := (wr_mul (a := 2) (by omega) (by omega)).trans (by omega)
    have eq : (decide ((t[i].1 : Int) = (t[i].1 : Int)) && (decide ((t[i].2 : Int) = (t[i].2 : Int)) && true)) = true := by simp
    refine (f11_l0 _ _ _ _ _ _ _ _ _).trans ((goD (by rw [prs_len]; omega) _ _).trans ((goY (by omega) _ _).trans ((goPr (n := i) rfl hp _).trans ?_)))
    refine (goKy hk _).trans ?_
    rw [e1, wS (by omega)]
    show (if (0 : Int) ≤ ((2 * i : Nat) : Int) then _ else none) = _
    refine (goY (show (0 : Int) ≤ ((2 * i : Nat) : Int) by omega) _ _).trans ?_
    refine (goPr (n := 2 * i) rfl g1 _).trans ?_
    refine (goY (by omega) _ _).trans ?_
    refine (goPr (n := i) rfl hp _).trans ?_
    rw [eq]
    show (if (0 : Int) ≤ ((2 * i + 1 : Nat) : Int) then _ else none) = _
    refine (goY (show (0 : Int) ≤ ((2 * i + 1 : Nat) : Int) by omega) _ _).trans ?_
    refine (goPr (n := 2 * i + 1) rfl g2 _).trans ?_
    refine (goY (by omega) _ _).trans ?_
    refine (goPr (n := i) rfl hp _).trans ?_
    rw [eq, wS (by omega)]
    exact loop11 b0 b1 f f2 f3 t n ht d (i + 1) (by omega)
theorem c11 (raw : List Int) (h1 : ∀ a ∈ raw, RI a) (f : Bool) : E cx (Key.fn 11) [.list 0 1 (ints raw), vbool f] [] = rb true := by
  have ra := tokP_right raw
  have la := tokP_len raw
  have pa := tokP_pw raw
  generalize htt : tokP raw = t at ra la pa
  have all1 : allR [(f, t)] = true := by show (rightT t && true) = true; rw [ra]; rfl
  have all2 : allR [(f, t), (f, t)] = true := by show (rightT t && (rightT t && true)) = true; rw [ra]; rfl
  have m1 := c45 [(f, t)] (by simp) (by simp; omega)
  rw [mergeR_ok all1 (by simp; omega)] at m1
  have e1 : sorted (cat [(f, t)]) = t := by
    rw [show cat [(f, t)] = t by simp [cat]]
    exact sorted_of pa
  have x1 : anyF' [(f, t)] = f := by simp [anyF']
  rw [e1, x1] at m1
  have m2 := c45 [(f, t), (f, t)] (by simp) (by simp; omega)
  rw [mergeR_ok all2 (by simp; omega)] at m2
  have e2 : sorted (cat [(f, t), (f, t)]) = dup t := by
    rw [show cat [(f, t), (f, t)] = t ++ t by simp [cat]]
    exact pw_uniq (sorted_pw _) (dup_pw pa) ((sorted_perm _).trans (dup_perm t))
  have x2 : anyF' [(f, t), (f, t)] = f := by simp [anyF']
  rw [e2, x2] at m2
  have s := c47 f f t t (by omega)
  rw [decide_eq_true ⟨rfl, rfl⟩] at s
  have hc := c37 raw h1 f
  rw [htt] at hc
  refine (f11 _ _).trans ?_
  refine (goA hc _).trans ?_
  refine (goTok m2 _).trans ?_
  refine (goTok m1 _).trans ?_
  refine (goE rfl _ _).trans ((goE rfl _ _).trans ((goT s _ _).trans ?_))
  rw [prs_len, prs_len, dup_len]
  refine (goE ((wr_mul (a := 2) (by omega) (by omega)).trans (by omega)).symm _ _).trans ?_
  rw [decide_eq_true (show f = f from rfl)]
  have g := loop11 false true f f f t t la t.length 0 (by omega)
  show (Option.bind (E cx (Key.loop 11 [true, true, true, true, true, true, false, true, false]) [vbool false, vi ((0 : Nat) : Int), vbool true, .ptr 0 0 0 0, .ptr 1 0 0 0] [⟨.box, 36, 2, 0, [[vbool f, .list 0 2 (prs t)]]⟩, ⟨.box, 36, 2, 0, [[vbool f, .list 0 2 (prs (dup t))]]⟩, ⟨.box, 36, 2, 0, [[vbool f, .list 0 2 (prs t)]]⟩]) _) = _
  rw [g]
  rfl
end Go.Proofs.Av
