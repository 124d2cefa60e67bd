/- OctetsTells: the law's tree is true. -/
import Derived.Test.YtoaihfbmoppajaaAdW7
import Derived.Test.YtoaihfbmoppajaaAdY3
namespace Go.Proofs.Av
open Go
variable {ρ : Type}
theorem splitR_len (s : B) {f m : Int} (hf : RI f) (hm : RI m) : (splitR s f m).2.1.length ≤ 8 := by
  by_cases h1 : f < 0 ∨ f > 65536 ∨ m < 0 ∨ m > 8
  · rw [splitR_1 h1]; decide
  obtain ⟨f, rfl⟩ : ∃ n : Nat, f = n := ⟨f.toNat, by omega⟩
  obtain ⟨m, rfl⟩ : ∃ n : Nat, m = n := ⟨m.toNat, by omega⟩
  rcases split_cases s (f := f) (m := m) (by omega) (by omega) with ⟨_, _, _, h⟩ | ⟨e, _, h⟩
  · rw [h]
    show (pieces s f m m).length ≤ 8
    rw [pieces_len]
    omega
  · rw [h]; exact Nat.zero_le _
/-- Both Splits tell the same. -/
theorem goPair (u : ByteArray) {f m : Int} (hf : RI f) (hm : RI m) (F1 F2 J K : Option ρ) :
    ((E cx (Key.fn 22) [vs u, vi f, vi m] []).bind fun r => (ret1 r).bind fun v => v.tup?.bind fun vs => (uncons? vs).bind fun p1 => (AV.str? p1.fst).bind fun s => (uncons? p1.snd).bind fun p2 => (AV.list? 1 p2.fst).bind fun l => (uncons? p2.snd).bind fun p3 =>
      (AV.int? .i64 p3.fst).bind fun e => (nil? p3.snd).bind fun _ =>
      (E cx (Key.fn 23) [Av.vs u, vi f, vi m] []).bind fun r => (ret1 r).bind fun v => v.tup?.bind fun vs => (uncons? vs).bind fun p1 => (AV.str? p1.fst).bind fun s' => (uncons? p1.snd).bind fun p2 => (AV.list? 1 p2.fst).bind fun l' => (uncons? p2.snd).bind fun p3 =>
      (AV.int? .i64 p3.fst).bind fun e' => (nil? p3.snd).bind fun _ =>
      bif !List.beq (ByteArray.toList s) (ByteArray.toList s') then F1 else bif e != e' then F2 else
      (E cx (Key.fn 24) [.list 0 1 l, .list 0 1 l'] []).bind fun r => (ret1 r).bind fun v => v.bool?.bind fun b => bif b then K else J) = K := by
  obtain ⟨y, rfl⟩ := str_eta u
  refine (goSp (c22 y hf hm) _).trans ((goSp (c23 y hf hm) _).trans ((goQn rfl _ _).trans ((goE rfl _ _).trans ?_)))
  have h := c24 (splitR y f m).2.1 (splitR y f m).2.1 (by have := splitR_len y hf hm; omega)
  rw [decide_eq_true rfl] at h
  exact goT h _ _
/-- Both Takes, and both Puts. -/
theorem goTP (u : ByteArray) (w : Nat) (n : Int) (F1 F2 F3 F4 K : Option ρ) :
    ((E cx (Key.fn 16) [vs u, vi n] []).bind fun r => (ret1 r).bind fun v => v.tup?.bind fun vs => (uncons? vs).bind fun p1 => (AV.int? .u64 p1.fst).bind fun a => (uncons? p1.snd).bind fun p2 => (AV.str? p2.fst).bind fun s => (uncons? p2.snd).bind fun p3 =>
      (AV.int? .i64 p3.fst).bind fun e => (nil? p3.snd).bind fun _ =>
      (E cx (Key.fn 17) [Av.vs u, vi n] []).bind fun r => (ret1 r).bind fun v => v.tup?.bind fun vs => (uncons? vs).bind fun p1 => (AV.int? .u64 p1.fst).bind fun a' => (uncons? p1.snd).bind fun p2 => (AV.str? p2.fst).bind fun s' => (uncons? p2.snd).bind fun p3 =>
      (AV.int? .i64 p3.fst).bind fun e' => (nil? p3.snd).bind fun _ =>
      (E cx (Key.fn 18) [vu w, vi n] []).bind fun r => (ret1 r).bind fun v => v.str?.bind fun t =>
      (E cx (Key.fn 19) [vu w, vi n] []).bind fun r => (ret1 r).bind fun v => v.str?.bind fun t' =>
      bif !List.beq (ByteArray.toList t) (ByteArray.toList t') then F1 else bif a != a' then F2 else bif !List.beq (ByteArray.toList s) (ByteArray.toList s') then F3 else bif e != e' then F4 else K) = K := by
  obtain ⟨y, rfl⟩ := str_eta u
  refine (goTk (c16 y n) _).trans ((goTk (c17 y n) _).trans ((goS (c18 w n) _).trans ((goS (c19 w n) _).trans ?_)))
  exact (goQn rfl _ _).trans ((goE rfl _ _).trans ((goQn rfl _ _).trans (goE rfl _ _)))
theorem d3 {w : Nat} (s : B) (raw : List B) {n fixed many a c : Int} (h0 : RI n) (h1 : RI fixed) (h2 : RI many) (h3 : RI a) : E cx (Key.fn 3) [vu w, vi n, vs (mk s), .list 0 1 (rowsB raw), vi fixed, vi many, vi a, vb c] [] = rb true := by
  refine (f3 w n (mk s) (rowsB raw) fixed many a c).trans ?_
  obtain ⟨m, c1, c2, c3⟩ := cut_ext s 200
  have c1' : (if (200 : Int) < ((ByteArray.size (mk s) : Nat) : Int) then (200 : Int) else ((ByteArray.size (mk s) : Nat) : Int)) = m := c1
  have e4 : q3_4 (mk s) = m := c1
  have e5 : q3_5 (mk s) = mk (s.take 200) := by unfold q3_5; rw [e4, c3]
  refine (goY (by rw [c1']; omega) _ _).trans ((goY (by rw [e4]; show (m : Int) ≤ (s.length : Int); omega) _ _).trans ?_)
  rw [c14 raw]
  have hP1 := partsR_len raw
  have hP2 := partsR_flat raw
  generalize partsR raw = P at hP1 hP2
  refine (goI (c15 h1 (n := 30) (by omega)) _).trans ((goI (c15 h0 (n := 10) (by omega)) _).trans ?_)
  obtain ⟨hk0, hk1⟩ := pickI_lt (c := fixed) (n := 30) (by omega)
  obtain ⟨k, hk⟩ : ∃ k : Nat, pickI fixed 30 = k := ⟨(pickI fixed 30).toNat, by omega⟩
  rw [hk] at hk0 hk1 ⊢
  refine (goTP _ w n _ _ _ _ _).trans ((goTP _ w _ _ _ _ _ _).trans ?_)
  generalize hx : s.take 200 = x at e5
  have hxl : x.length ≤ 200 := by rw [← hx, List.length_take]; omega
  obtain ⟨m2, b1, b2, b3⟩ := cut_ext x k
  have e7 : q3_7 k (mk s) = m2 := by unfold q3_7; rw [e5]; exact b1
  have e8 : q3_8 (mk s) k = mk (x.take k) := by unfold q3_8; rw [e5, e7, b3]
  have b1' : (if (k : Int) < ((ByteArray.size (q3_5 (mk s)) : Nat) : Int) then (k : Int) else ((ByteArray.size (q3_5 (mk s)) : Nat) : Int)) = m2 := by rw [e5]; exact b1
  have hm2 : (m2 : Int) ≤ ((ByteArray.size (q3_5 (mk s)) : Nat) : Int) := by rw [e5]; show (m2 : Int) ≤ (x.length : Int); omega
  have hj1 := c20 (x.take k) P (by rw [List.length_take]; omega)
  have hj2 := c21 (x.take k) P (by rw [List.length_take]; omega)
  have hXl : (x.take k).length ≤ 30 := by rw [List.length_take]; omega
  rw [joinR_ok (by omega) (by omega)] at hj1 hj2
  rw [← e8] at hj1 hj2
  refine (goY (by rw [b1']; omega) _ _).trans ((goY (by rw [e7]; exact hm2) _ _).trans ((goJn hj1 _).trans ?_))
  refine (goY (by rw [b1']; omega) _ _).trans ((goY (by rw [e7]; exact hm2) _ _).trans ((goJn hj2 _).trans ?_))
  refine (goQn rfl _ _).trans ((goE rfl _ _).trans ?_)
  have hyl := joined_len (x.take k) P
  show (bif decide ((((joined (x.take k) P).length : Nat) : Int) > 0) then _ else _) = _
  have hyj : (x.take k) ++ hs ((x.take k).length + 4 * P.length) P ++ P.flatten = joined (x.take k) P := rfl
  rw [hyj]
  generalize joined (x.take k) P = y at hyl
  obtain ⟨hn0, hn1⟩ := pickI_lt (c := many) (n := 9) (by omega)
  have r1 : RI (pickI many 9) := ⟨by omega, by omega⟩
  have r2 : RI (k : Int) := ⟨by omega, by omega⟩
  have r3 : RI (q3_7 k (mk s)) := by rw [e7]; exact ⟨by omega, by omega⟩
  have r4 : RI ((List.length (rowsB P) : Nat) : Int) := by rw [rows_len]; exact ⟨by omega, by omega⟩
  have hc := c15 h2 (n := 9) (by omega)
  have big : ¬ ((q3_6 (mk y) (mk s) : Nat) : Int) > 9223372036854775807 := by
    unfold q3_6
    rw [e5]
    exact nobig (by show y.length + x.length ≤ _; omega)
  by_cases h0 : ((y.length : Nat) : Int) > 0
  · refine (goD h0 _ _).trans ?_
    obtain ⟨hp0, hp1⟩ := pickI_lt (c := a) (n := (y.length : Int)) (by omega)
    refine (goI (c15 h3 (n := (y.length : Int)) (by omega)) _).trans ?_
    obtain ⟨i, hi⟩ : ∃ i : Nat, pickI a (y.length : Int) = i := ⟨(pickI a (y.length : Int)).toNat, by omega⟩
    rw [hi] at hp0 hp1 ⊢
    have hw : IntKind.wrap .i64 (Int.add (i : Int) 1) = ((i + 1 : Nat) : Int) := wr_add (by omega) (by omega)
    refine (goY (by omega) _ _).trans ((goY (by show (i : Int) ≤ (y.length : Int); omega) _ _).trans ?_)
    have hti : (y.take i).length = i := by rw [List.length_take]; omega
    refine (goN (by rw [ext_mk, Int.toNat_natCast, List.drop_zero]; exact nobig (by show (y.take i).length + 1 ≤ _; omega)) _ _).trans ?_
    refine (goY (by rw [hw]; omega) _ _).trans ((goY (by rw [hw]; show ((i + 1 : Nat) : Int) ≤ (y.length : Int); omega) _ _).trans ?_)
    refine (goN (by
      unfold q3_2 q3_1 q3_0
      rw [ext_mk, ext_mk, Int.toNat_natCast, List.drop_zero, hw, Int.toNat_natCast, strOf1, app_mk]
      exact nobig (by show (y.take i ++ [UInt8.ofNat c.toNat]).length + ((y.take y.length).drop (i + 1)).length ≤ _; rw [List.length_append, List.length_drop, List.take_length]; simp; omega)) _ _).trans ?_
    refine (goN big _ _).trans ?_
    refine (goI hc _).trans ((goPair _ h1 h2 _ _ _ _).trans ((goPair _ r3 r4 _ _ _ _).trans ((goPair _ r2 r1 _ _ _ _).trans ?_)))
    refine (goI hc _).trans ((goPair _ h1 h2 _ _ _ _).trans ((goPair _ r3 r4 _ _ _ _).trans ((goPair _ r2 r1 _ _ _ _).trans ?_)))
    refine (goI hc _).trans ((goPair _ h1 h2 _ _ _ _).trans ((goPair _ r3 r4 _ _ _ _).trans ((goPair _ r2 r1 _ _ _ _).trans ?_)))
    exact (goI hc _).trans ((goPair _ h1 h2 _ _ _ _).trans ((goPair _ r3 r4 _ _ _ _).trans (goPair _ r2 r1 _ _ _ _)))
  · refine (goDn h0 _ _).trans ((goN big _ _).trans ?_)
    refine (goI hc _).trans ((goPair _ h1 h2 _ _ _ _).trans ((goPair _ r3 r4 _ _ _ _).trans ((goPair _ r2 r1 _ _ _ _).trans ?_)))
    refine (goI hc _).trans ((goPair _ h1 h2 _ _ _ _).trans ((goPair _ r3 r4 _ _ _ _).trans ((goPair _ r2 r1 _ _ _ _).trans ?_)))
    refine (goI hc _).trans ((goPair _ h1 h2 _ _ _ _).trans ((goPair _ r3 r4 _ _ _ _).trans ((goPair _ r2 r1 _ _ _ _).trans ?_)))
    exact (goI hc _).trans ((goPair _ h1 h2 _ _ _ _).trans ((goPair _ r3 r4 _ _ _ _).trans (goPair _ r2 r1 _ _ _ _)))
end Go.Proofs.Av
