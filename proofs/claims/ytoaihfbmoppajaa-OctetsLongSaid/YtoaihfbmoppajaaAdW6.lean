/- OctetsSplit: the law's tree is true. -/
import Derived.Test.YtoaihfbmoppajaaAdW5
import Derived.Test.YtoaihfbmoppajaaAdY6
namespace Go.Proofs.Av
open Go
theorem sum_loop {x W X2 : B} {P : List B} {b863 : Bool} {x867 x870 : Int} {l869 : List (List AV)} (hP : P.length ≤ 8) (hf : P.flatten.length ≤ 65536) : ∀ (rest : List B) (i t : Nat), P.drop i = rest → i + rest.length = P.length → t + rest.flatten.length ≤ 1000000 →
    E cx q6_2 [vi t, vi i, vbool b863, vs (mk x), .list 0 1 (rowsB P), vs (mk W), vi x867, vs (mk X2), .list 0 1 l869, vi x870] [] = some (Out.jump (.exit 0) [vi (t + rest.flatten.length : Nat), vi P.length], [])
  | [], i, t, hd, hi, ht => by
    simp only [List.length_nil, Nat.add_zero] at hi
    subst hi
    exact (f6_l0 _ _ _ _ _ _ _ _ _ _).trans (goDn (by rw [rows_len]; omega) _ _)
  | p :: rest, i, t, hd, hi, ht => by
    obtain ⟨hp, hd', hlt⟩ := drop_cons hd
    simp only [List.length_cons] at hi
    have hfl : (p :: rest).flatten.length = p.length + rest.flatten.length := by simp
    refine (f6_l0 _ _ _ _ _ _ _ _ _ _).trans ((goD (by rw [rows_len]; omega) _ _).trans ((goY (by omega) _ _).trans ((goP (n := i) rfl hp _).trans ?_)))
    have e : IntKind.wrap .i64 (Int.add (t : Int) ((ByteArray.size (mk p) : Nat) : Int)) = ((t + p.length : Nat) : Int) := wr_add (b := (p.length : Int)) (by omega) (by omega)
    rw [e, wr_add (by omega) (by omega), hfl]
    have ih := sum_loop (x := x) (W := W) (X2 := X2) (b863 := b863) (x867 := x867) (x870 := x870) (l869 := l869) hP hf rest (i + 1) (t + p.length) hd' (by omega) (by omega)
    rw [show t + (p.length + rest.flatten.length) = t + p.length + rest.flatten.length by omega]
    exact ih
theorem d6 (s : B) (raw : List B) : E cx (Key.fn 6) [vs (mk s), .list 0 1 (rowsB raw)] [] = rb true := by
  refine (f6 (mk s) (rowsB raw)).trans ?_
  obtain ⟨m, c1, c2, c3⟩ := cut_ext s 30
  have c1' : (if (30 : Int) < ((ByteArray.size (mk s) : Nat) : Int) then (30 : Int) else ((ByteArray.size (mk s) : Nat) : Int)) = m := c1
  have e0 : q6_0 (mk s) = m := c1
  have e1 : q6_1 (mk s) = mk (s.take 30) := by unfold q6_1; rw [e0, c3]
  rw [c1', e0, e1]
  refine (goY (by omega) _ _).trans ((goY (by show (m : Int) ≤ (s.length : Int); omega) _ _).trans ?_)
  generalize hx : s.take 30 = x
  have hxl : x.length ≤ 30 := by rw [← hx, List.length_take]; omega
  rw [c14 raw]
  generalize hP : partsR raw = P
  have hP1 : P.length ≤ 6 := hP ▸ partsR_len raw
  have hP2 : P.flatten.length ≤ 120 := hP ▸ partsR_flat raw
  have hj := c20 x P (by omega)
  rw [joinR_ok (by omega) (by omega)] at hj
  refine (goJn hj _).trans ?_
  have hs := c22 (joined x P) (f := (x.length : Int)) (m := (P.length : Int)) (by omega) (by omega)
  unfold RS' at hs
  rw [split_joined (by omega) (by omega)] at hs
  show (Option.bind (E cx (Key.fn 22) [vs (mk (joined x P)), vi (x.length : Nat), vi ((List.length (rowsB P) : Nat) : Int)] []) _) = _
  rw [rows_len]
  refine (goSp hs _).trans ?_
  have hl := sum_loop (x := x) (W := joined x P) (X2 := x) (b863 := true) (x867 := 0) (x870 := 0) (l869 := rowsB P) (P := P) (by omega) (by omega) P 0 (x.length + 4 * P.length) rfl (by omega) (by omega)
  have hw : IntKind.wrap .i64 (Int.add ((ByteArray.size (mk x) : Nat) : Int) (IntKind.wrap .i64 (Int.mul 4 ((P.length : Nat) : Int)))) = ((x.length + 4 * P.length : Nat) : Int) := w42 (f := x.length) (by omega) (by omega)
  rw [hw]
  show (Option.bind (E cx q6_2 [vi (x.length + 4 * P.length : Nat), vi ((0 : Nat) : Int), vbool true, vs (mk x), .list 0 1 (rowsB P), vs (mk (joined x P)), vi 0, vs (mk x), .list 0 1 (rowsB P), vi 0] []) _) = _
  rw [hl]
  show (bif decide ((0 : Int) = 0) then bif decide ((0 : Int) = 0) then bif List.beq (ByteArray.toList (mk x)) (ByteArray.toList (mk x)) then
      Option.bind (E cx (Key.fn 24) [.list 0 1 (rowsB P), .list 0 1 (rowsB P)] []) fun r => Option.bind (ret1 r) fun v => Option.bind (AV.bool? v) fun b => bif b then
        bif decide (((joined x P).length : Int) = ((x.length + 4 * P.length + P.flatten.length : Nat) : Int)) then rb true else rb false else rb false else rb false else rb false else rb false) = rb true
  have hT := c24 P P (by omega)
  rw [decide_eq_true rfl] at hT
  refine (goD rfl _ _).trans ((goD rfl _ _).trans ((goQ rfl _ _).trans ((goT hT _ _).trans (goD ?_ _ _))))
  rw [joined_len]
end Go.Proofs.Av
