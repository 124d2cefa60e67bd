/- Which queues are right: the program's loop and the document's. Two queues compared. -/
import Derived.Test.YtoaihfbmoppajaaAcZ
namespace Go.Proofs.Av
open Go
abbrev P36 : List Bool := [true, false, true, false]
abbrev P31 : List Bool := [true, true, false, true, false]
theorem len_ri {α : Type} (q : List α) (h : q.length ≤ 1000000) : RI (q.length : Int) := by constructor <;> omega
def aheadOf (pre : List W) (w : W) : Bool := match pre.getLast? with
  | none => true
  | some v => decide (lt v w)
def tailOk (pre suf : List W) : Bool := match suf with
  | [] => true
  | w :: r => may w && (aheadOf pre w && rightFrom w r)
theorem tail_next (pre : List W) (w : W) (r : List W) : tailOk (pre ++ [w]) r = rightFrom w r := by
  cases r with
  | nil => rfl
  | cons v r => simp [tailOk, rightFrom, aheadOf]
theorem tail_all (q : List W) : tailOk [] q = right q := by
  cases q with
  | nil => rfl
  | cons w r => simp [tailOk, right, aheadOf]
def exitOr (b : Bool) (c : Bool) (n : Int) : Option (Out × Heap) := bif c then some (Out.jump (.exit 0) [vbool b, vi n], []) else some (Out.jump .ret [vbool false, vi n], [])
theorem last_get {pre suf : List W} {v : W} (h : pre.getLast? = some v) : 0 < pre.length ∧ (pre ++ suf)[pre.length - 1]? = some v := by
  cases pre with
  | nil => cases h
  | cons a l =>
    have hp : 0 < (a :: l).length := by simp
    refine ⟨hp, ?_⟩
    rw [List.getElem?_append_left (by omega), ← List.getLast?_eq_getElem?]
    exact h
theorem l36 (b : Bool) : ∀ (suf pre : List W), (pre ++ suf).length ≤ 1000000 → ∃ n : Int, E cx (.loop 36 P36) [vbool b, vi (pre.length : Int), lq (pre ++ suf), lq (pre ++ suf), vi ((pre ++ suf).length : Int)] [] = exitOr b (tailOk pre suf) n
  | [], pre, hB => by
    refine ⟨pre.length, (f36_l0 _ _ _ _ _).trans ((goDn (by simp) _ _).trans ?_)⟩
    simp [exitOr, tailOk]
  | w :: r, pre, hB => by
    have hi : (pre ++ w :: r)[pre.length]? = some w := by simp
    have hl : (pre ++ w :: r).length = pre.length + (r.length + 1) := by simp
    have e0 : pre ++ w :: r = (pre ++ [w]) ++ r := by simp
    have next : ∃ n : Int, E cx (.loop 36 P36) [vbool b, vi (IntKind.wrap .i64 (Int.add (pre.length : Int) 1)), lq (pre ++ w :: r), lq (pre ++ w :: r), vi ((pre ++ w :: r).length : Int)] [] = exitOr b (rightFrom w r) n := by
      have h1 : (pre.length : Int) + 1 ≤ 1000001 := by omega
      obtain ⟨n, hn⟩ := l36 b r (pre ++ [w]) (by rw [← e0]; exact hB)
      rw [tail_next] at hn
      refine ⟨n, ?_⟩
      rw [wr_add (a := (pre.length : Int)) (b := 1) (by omega) (by omega), e0]
      have h2 : (((pre ++ [w]).length : Nat) : Int) = (pre.length : Int) + 1 := by simp
      rw [← h2]
      exact hn
    cases hm : may w with
    | false =>
      refine ⟨pre.length, (f36_l0 _ _ _ _ _).trans ((goD (by rw [hl]; omega) _ _).trans ((goY (by omega) _ _).trans ((goW rfl hi _).trans ?_)))⟩
      refine (goF (by rw [← hm]; exact e43 w) _ _).trans ?_
      simp [exitOr, tailOk, hm]
    | true =>
      cases hg : pre.getLast? with
      | none =>
        have hp : pre = [] := by simpa using hg
        obtain ⟨n, hn⟩ := next
        refine ⟨n, (f36_l0 _ _ _ _ _).trans ((goD (by rw [hl]; omega) _ _).trans ((goY (by omega) _ _).trans ((goW rfl hi _).trans ?_)))⟩
        refine (goT (by rw [← hm]; exact e43 w) _ _).trans ((goDn (by subst hp; simp) _ _).trans (hn.trans ?_))
        simp [exitOr, tailOk, hm, aheadOf, hg]
      | some v =>
        obtain ⟨h0, hv⟩ := last_get (suf := w :: r) hg
        have hw : IntKind.wrap .i64 (Int.sub (pre.length : Int) 1) = (pre.length : Int) - 1 := wr_sub (a := (pre.length : Int)) (b := 1) (by omega) (by omega)
        cases hlt : decide (lt v w) with
        | true =>
          obtain ⟨n, hn⟩ := next
          refine ⟨n, (f36_l0 _ _ _ _ _).trans ((goD (by rw [hl]; omega) _ _).trans ((goY (by omega) _ _).trans ((goW rfl hi _).trans ?_)))⟩
          refine (goT (by rw [← hm]; exact e43 w) _ _).trans ((goD (by omega) _ _).trans ((goY (by rw [hw]; omega) _ _).trans ((goW (i := pre.length - 1) (by rw [hw]; omega) hv _).trans ?_)))
          refine (goF (by have := e46 v w; rw [hlt] at this; exact this) _ _).trans (hn.trans ?_)
          simp only [exitOr, tailOk, hm, aheadOf, hg, hlt, Bool.true_and]
        | false =>
          refine ⟨pre.length, (f36_l0 _ _ _ _ _).trans ((goD (by rw [hl]; omega) _ _).trans ((goY (by omega) _ _).trans ((goW rfl hi _).trans ?_)))⟩
          refine (goT (by rw [← hm]; exact e43 w) _ _).trans ((goD (by omega) _ _).trans ((goY (by rw [hw]; omega) _ _).trans ((goW (i := pre.length - 1) (by rw [hw]; omega) hv _).trans ?_)))
          refine (goT (by have := e46 v w; rw [hlt] at this; exact this) _ _).trans ?_
          simp only [exitOr, tailOk, hm, aheadOf, hg, hlt, Bool.true_and, Bool.false_and, cond_false]
theorem e36 (q : List W) (h : q.length ≤ 1000000) : E cx (.fn 36) [lq q] [] = rb (right q) := by
  obtain ⟨n, hn⟩ := l36 false q [] (by simpa using h)
  rw [tail_all] at hn
  refine (f36 _).trans ?_
  have e : ((rows q).length : Int) = (q.length : Int) := by simp
  rw [e]
  simp only [List.nil_append, List.length_nil] at hn
  rw [show E cx (.loop 36 [true, false, true, false]) [vbool false, vi 0, AV.list 0 4 (rows q), AV.list 0 4 (rows q), vi (q.length : Int)] [] = _ from hn]
  cases right q <;> rfl
theorem l37 (b : Bool) : ∀ (suf pre : List W), (pre ++ suf).length ≤ 1000000 → ∃ n : Int, E cx (.loop 37 P36) [vbool b, vi (pre.length : Int), lq (pre ++ suf)] [] = exitOr b (tailOk pre suf) n
  | [], pre, hB => by
    refine ⟨pre.length, (f37_l0 _ _ _).trans ((goDn (by simp) _ _).trans ?_)⟩
    simp [exitOr, tailOk]
  | w :: r, pre, hB => by
    have hi : (pre ++ w :: r)[pre.length]? = some w := by simp
    have hl : (pre ++ w :: r).length = pre.length + (r.length + 1) := by simp
    have e0 : pre ++ w :: r = (pre ++ [w]) ++ r := by simp
    have hlr : ((rows (pre ++ w :: r)).length : Int) = (pre.length : Int) + (r.length + 1) := by simp
    have next : ∃ n : Int, E cx (.loop 37 P36) [vbool b, vi (IntKind.wrap .i64 (Int.add (pre.length : Int) 1)), lq (pre ++ w :: r)] [] = exitOr b (rightFrom w r) n := by
      have h1 : (pre.length : Int) + 1 ≤ 1000001 := by omega
      obtain ⟨n, hn⟩ := l37 b r (pre ++ [w]) (by rw [← e0]; exact hB)
      rw [tail_next] at hn
      refine ⟨n, ?_⟩
      rw [wr_add (a := (pre.length : Int)) (b := 1) (by omega) (by omega), e0]
      have h2 : (((pre ++ [w]).length : Nat) : Int) = (pre.length : Int) + 1 := by simp
      rw [← h2]
      exact hn
    by_cases ha : w.a < 0
    · refine ⟨pre.length, (f37_l0 _ _ _).trans ((goD (by rw [hlr]; omega) _ _).trans ((goY (by omega) _ _).trans ((goW rfl hi _).trans ((goD ha _ _).trans ?_))))⟩
      simp [exitOr, tailOk, may, show ¬ (0 ≤ w.a) by omega]
    · by_cases hs : w.s < 0
      · refine ⟨pre.length, (f37_l0 _ _ _).trans ((goD (by rw [hlr]; omega) _ _).trans ((goY (by omega) _ _).trans ((goW rfl hi _).trans ((goDn ha _ _).trans ((goY (by omega) _ _).trans ((goW rfl hi _).trans ((goD hs _ _).trans ?_)))))))⟩
        simp [exitOr, tailOk, may, show ¬ (0 ≤ w.s) by omega]
      · have hm : may w = true := by simp [may]; omega
        cases hg : pre.getLast? with
        | none =>
          have hp : pre = [] := by simpa using hg
          obtain ⟨n, hn⟩ := next
          refine ⟨n, (f37_l0 _ _ _).trans ((goD (by rw [hlr]; omega) _ _).trans ((goY (by omega) _ _).trans ((goW rfl hi _).trans ((goDn ha _ _).trans ((goY (by omega) _ _).trans ((goW rfl hi _).trans ((goDn hs _ _).trans ?_)))))))⟩
          refine (goDn (by subst hp; simp) _ _).trans (hn.trans ?_)
          simp [exitOr, tailOk, hm, aheadOf, hg]
        | some v =>
          obtain ⟨h0, hv⟩ := last_get (suf := w :: r) hg
          have hw : IntKind.wrap .i64 (Int.sub (pre.length : Int) 1) = (pre.length : Int) - 1 := wr_sub (a := (pre.length : Int)) (b := 1) (by omega) (by omega)
          cases hlt : decide (lt v w) with
          | true =>
            obtain ⟨n, hn⟩ := next
            refine ⟨n, (f37_l0 _ _ _).trans ((goD (by rw [hlr]; omega) _ _).trans ((goY (by omega) _ _).trans ((goW rfl hi _).trans ((goDn ha _ _).trans ((goY (by omega) _ _).trans ((goW rfl hi _).trans ((goDn hs _ _).trans ?_)))))))⟩
            refine (goD (by omega) _ _).trans ((goY (by rw [hw]; omega) _ _).trans ((goW (i := pre.length - 1) (by rw [hw]; omega) hv _).trans ((goY (by omega) _ _).trans ((goW rfl hi _).trans ?_))))
            refine (goT (by have := e47 v w; rw [hlt] at this; exact this) _ _).trans (hn.trans ?_)
            simp only [exitOr, tailOk, hm, aheadOf, hg, hlt, Bool.true_and]
          | false =>
            refine ⟨pre.length, (f37_l0 _ _ _).trans ((goD (by rw [hlr]; omega) _ _).trans ((goY (by omega) _ _).trans ((goW rfl hi _).trans ((goDn ha _ _).trans ((goY (by omega) _ _).trans ((goW rfl hi _).trans ((goDn hs _ _).trans ?_)))))))⟩
            refine (goD (by omega) _ _).trans ((goY (by rw [hw]; omega) _ _).trans ((goW (i := pre.length - 1) (by rw [hw]; omega) hv _).trans ((goY (by omega) _ _).trans ((goW rfl hi _).trans ?_))))
            refine (goF (by have := e47 v w; rw [hlt] at this; exact this) _ _).trans ?_
            simp only [exitOr, tailOk, hm, aheadOf, hg, hlt, Bool.true_and, Bool.false_and, cond_false]
theorem e37 (q : List W) (h : q.length ≤ 1000000) : E cx (.fn 37) [lq q] [] = rb (right q) := by
  obtain ⟨n, hn⟩ := l37 false q [] (by simpa using h)
  rw [tail_all] at hn
  refine (f37 _).trans ?_
  simp only [List.nil_append, List.length_nil] at hn
  rw [show E cx (.loop 37 [true, false, true, false]) [vbool false, vi 0, AV.list 0 4 (rows q)] [] = _ from hn]
  cases right q <;> rfl
/-! ### Two that are the same -/
theorem l31 (b : Bool) (q : List W) (hB : q.length ≤ 1000000) : ∀ (n i : Nat), n + i = q.length → E cx (.loop 31 P31) [vbool b, vi (i : Int), lq q, lq q] [] = some (Out.jump (.exit 0) [vbool b, vi (q.length : Int)], [])
  | 0, i, hi => by
    refine (f31_l0 _ _ _ _).trans ((goDn (by simp; omega) _ _).trans ?_)
    rw [show i = q.length by omega]
  | n + 1, i, hi => by
    have hlt : i < q.length := by omega
    have hq : q[i]? = some q[i] := List.getElem?_eq_getElem hlt
    refine (f31_l0 _ _ _ _).trans ((goD (by simp; omega) _ _).trans ((goY (by omega) _ _).trans ((goW rfl hq _).trans ((goY (by omega) _ _).trans ((goW rfl hq _).trans ((goFf (by
      have hb : List.beq (ByteArray.toList q[i].d) (ByteArray.toList q[i].d) = true := beq_self_eq_true (q[i].d.toList)
      simp [hb]) _ _).trans ?_))))))
    rw [wr_add (a := (i : Int)) (b := 1) (by omega) (by omega)]
    exact l31 b q hB n (i + 1) (by omega)
theorem e31 (q : List W) (h : q.length ≤ 1000000) : E cx (.fn 31) [lq q, lq q] [] = rb true := by
  refine (f31 _ _).trans ((goE rfl _ _).trans ?_)
  rw [show E cx (.loop 31 [true, true, false, true, false]) [vbool false, vi 0, AV.list 0 4 (rows q), AV.list 0 4 (rows q)] [] = _ from l31 false q h q.length 0 (by omega)]
  rfl
end Go.Proofs.Av
