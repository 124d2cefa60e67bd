/- OctetsJoin: the law's tree is true. -/
import Derived.Test.YtoaihfbmoppajaaAdW6
import Derived.Test.YtoaihfbmoppajaaAdY7
namespace Go.Proofs.Av
open Go
/-- What is done behind the first part. -/
noncomputable def T7 (s875 : ByteArray) (es883 : List (List AV)) (n886 at879 c880 : Int) : Option (Out × Heap) :=
 if 0 ≤ if n886 < ((ByteArray.size (q7_10 s875)) : Int) then
 n886 else ((ByteArray.size (q7_10 s875)) : Int) then
 if (q7_11 n886 s875) ≤ ((ByteArray.size (q7_10 s875)) : Int) then
 Option.bind (E cx (Key.fn 20) [vs (q7_12 s875 n886), AV.list 0 1 es883] []) fun r935 ↦
 Option.bind (ret1 r935) fun v936 ↦
 Option.bind (AV.tup? v936) fun vs937 ↦
 Option.bind (uncons? vs937) fun p938 ↦
 Option.bind (AV.str? p938.fst) fun s939 ↦
 Option.bind (uncons? p938.snd) fun p940 ↦
 Option.bind (AV.int? IntKind.i64 p940.fst) fun n941 ↦
 Option.bind (nil? p940.snd) fun _ ↦
 bif n941 != 0 then
 some (Out.ret (vbool false), []) else
 bif decide (((ByteArray.size s939) : Int) = 0) then
 some (Out.ret (vbool true), []) else Option.bind (E cx (Key.fn 15) [vi at879, vi ((ByteArray.size s939) : Int)] []) fun r943 ↦
 Option.bind (ret1 r943) fun v944 ↦
 Option.bind (AV.int? IntKind.i64 v944) fun n945 ↦
 if 0 ≤ n945 then
 if n945 ≤ ((ByteArray.size s939) : Int) then
 if ((Nat.add (ByteArray.size (ByteArray.extract s939 0 (Int.toNat n945))) (ByteArray.size (Go.strOfNums [c880]))) : Int) > 9223372036854775807 then
 none else
 if 0 ≤ IntKind.wrap IntKind.i64 (Int.add n945 1) then
 if IntKind.wrap IntKind.i64 (Int.add n945 1) ≤ ((ByteArray.size s939) : Int) then
 if ((Nat.add (ByteArray.size (q7_7 s939 n945 c880)) (ByteArray.size (q7_4 s939 n945))) : Int) > 9223372036854775807 then
 none else Option.bind (E cx (Key.fn 22) [vs (q7_8 s939 n945 c880), vi (q7_11 n886 s875), vi ((List.length es883) : Int)] []) fun r946 ↦
 Option.bind (ret1 r946) fun v947 ↦
 Option.bind (AV.tup? v947) fun vs948 ↦
 Option.bind (uncons? vs948) fun p949 ↦
 Option.bind (AV.str? p949.fst) fun s950 ↦
 Option.bind (uncons? p949.snd) fun p951 ↦
 Option.bind (AV.list? 1 p951.fst) fun es952 ↦
 Option.bind (uncons? p951.snd) fun p953 ↦
 Option.bind (AV.int? IntKind.i64 p953.fst) fun n954 ↦
 Option.bind (nil? p953.snd) fun _ ↦
 bif n954 != 0 then
 bif !List.beq (ByteArray.toList (q7_8 s939 n945 c880)) (ByteArray.toList s939) then
 bif List.beq (ByteArray.toList s950) (q7_0) then
 bif decide (((List.length es952) : Int) = 0) then
 some (Out.ret (vbool true), []) else some (Out.ret (vbool false), []) else some (Out.ret (vbool false), []) else some (Out.ret (vbool false), []) else
 bif List.beq (ByteArray.toList (q7_8 s939 n945 c880)) (ByteArray.toList s939) then
 if 0 ≤ if n886 < ((ByteArray.size (q7_10 s875)) : Int) then
 n886 else ((ByteArray.size (q7_10 s875)) : Int) then
 if (q7_11 n886 s875) ≤ ((ByteArray.size (q7_10 s875)) : Int) then
 bif List.beq (ByteArray.toList s950) (ByteArray.toList (q7_12 s875 n886)) then
 Option.bind (E cx (Key.fn 24) [AV.list 0 1 es952, AV.list 0 1 es883] []) fun r956 ↦
 Option.bind (ret1 r956) fun v957 ↦
 Option.bind (AV.bool? v957) fun b958 ↦
 bif b958 then
 some (Out.ret (vbool true), []) else some (Out.ret (vbool false), []) else some (Out.ret (vbool false), []) else none else none else
 if 0 ≤ if n886 < ((ByteArray.size (q7_10 s875)) : Int) then
 n886 else ((ByteArray.size (q7_10 s875)) : Int) then
 if (q7_11 n886 s875) ≤ ((ByteArray.size (q7_10 s875)) : Int) then
 bif List.beq (ByteArray.toList s950) (ByteArray.toList (q7_12 s875 n886)) then
 Option.bind (E cx (Key.fn 24) [AV.list 0 1 es952, AV.list 0 1 es883] []) fun r959 ↦
 Option.bind (ret1 r959) fun v960 ↦
 Option.bind (AV.bool? v960) fun b961 ↦
 bif b961 then
 some (Out.ret (vbool false), []) else some (Out.ret (vbool true), []) else some (Out.ret (vbool true), []) else none else none else none else none else none else none else none else none
theorem goQn2 {ρ : Type} {u v : ByteArray} (h : u = v) (k j : Option ρ) : (bif !List.beq (ByteArray.toList u) (ByteArray.toList v) then k else j) = j := by
  obtain ⟨l, rfl⟩ := str_eta v
  subst h
  exact goQn rfl k j
theorem split_cases (z : B) {f m : Nat} (hf : f ≤ 65536) (hm : m ≤ 8) : (¬ z.length > 65536 ∧ ¬ z.length < f + 4 * m ∧ okS z f m ∧ splitR z f m = (z.take f, pieces z f m m, 0)) ∨ ∃ e : Int, e ≠ 0 ∧ splitR z f m = ([], [], e) := by
  by_cases h2 : z.length > 65536
  · exact .inr ⟨4, by omega, splitR_4 hf hm h2⟩
  by_cases h3 : z.length < f + 4 * m
  · exact .inr ⟨3, by omega, splitR_3 hf hm h2 h3⟩
  by_cases hok : okS z f m
  · exact .inl ⟨h2, h3, hok, splitR_0 hf hm h2 h3 hok⟩
  · exact .inr ⟨2, by omega, splitR_2 hf hm h2 h3 hok⟩
/-- What is split is joined again. -/
theorem split_back {z : B} {f m : Nat} (hm : m ≤ 8) (h2 : ¬ z.length > 65536) (h3 : ¬ z.length < f + 4 * m) (hok : okS z f m) : joinR (z.take f) (pieces z f m m) = (z, 0) :=
  (back_join hm (by omega) (by omega) hok.2.2).1 hok
theorem strOf1 {c : Int} : Go.strOfNums [c] = mk [UInt8.ofNat c.toNat] := rfl
theorem t7 {s : B} {P : List B} {k : Nat} {a c : Int} (hk : k ≤ 30) (hP1 : P.length ≤ 6) (hP2 : P.flatten.length ≤ 120) (ha : RI a) : T7 (mk s) (rowsB P) k a c = rb true := by
  unfold T7
  obtain ⟨m, c1, c2, c3⟩ := cut_ext s 200
  have e9 : q7_9 (mk s) = m := c1
  have e10 : q7_10 (mk s) = mk (s.take 200) := by unfold q7_10; rw [e9, c3]
  generalize hx : s.take 200 = x at e10
  have hxl : x.length ≤ 200 := by rw [← hx, List.length_take]; omega
  obtain ⟨m2, b1, b2, b3⟩ := cut_ext x k
  have e11 : q7_11 k (mk s) = m2 := by unfold q7_11; rw [e10]; exact b1
  have e12 : q7_12 (mk s) k = mk (x.take k) := by unfold q7_12; rw [e10, e11, b3]
  have b1' : (if (k : Int) < ((ByteArray.size (q7_10 (mk s)) : Nat) : Int) then (k : Int) else ((ByteArray.size (q7_10 (mk s)) : Nat) : Int)) = m2 := by rw [e10]; exact b1
  rw [b1', e11, e12, e10]
  have hm2 : (m2 : Int) ≤ ((ByteArray.size (mk x) : Nat) : Int) := by show (m2 : Int) ≤ (x.length : Int); omega
  refine (goY (by omega) _ _).trans ((goY hm2 _ _).trans ?_)
  generalize hX : x.take k = X at b3
  have hXl : X.length = m2 := by
    have := congrArg ByteArray.size b3
    rw [ext_mk, Int.toNat_natCast, List.drop_zero] at this
    have h2 : (x.take m2).length = X.length := this
    rw [← h2, List.length_take, Nat.min_eq_left b2]
  have hXb : X.length ≤ 30 := by rw [← hX, List.length_take]; omega
  have hj := c20 X P (by omega)
  rw [joinR_ok (by omega) (by omega)] at hj
  refine (goJn hj _).trans ((goE rfl _ _).trans ?_)
  show (bif decide ((((joined X P).length : Nat) : Int) = 0) then _ else _) = _
  by_cases h0 : (((joined X P).length : Nat) : Int) = 0
  · exact goD h0 _ _
  refine (goDn h0 _ _).trans ?_
  have hyl := joined_len X P
  generalize hy : joined X P = y at hyl h0
  have hyj : X ++ hs (X.length + 4 * P.length) P ++ P.flatten = y := hy
  obtain ⟨hp0, hp1⟩ := pickI_lt (c := a) (n := (y.length : Int)) (by omega)
  rw [hyj]
  refine (goI (c15 ha (n := (y.length : Int)) (by omega)) _).trans ?_
  obtain ⟨i, hi⟩ : ∃ i : Nat, pickI a (y.length : Int) = i := ⟨(pickI a (y.length : Int)).toNat, by omega⟩
  rw [hi] at hp0 hp1 ⊢
  generalize hu : UInt8.ofNat c.toNat = u
  have hw : IntKind.wrap .i64 (Int.add (i : Int) 1) = ((i + 1 : Nat) : Int) := wr_add (by omega) (by omega)
  have q5 : q7_7 (mk y) i c = mk (y.take i ++ [u]) := by unfold q7_7; rw [ext_mk, strOf1, Int.toNat_natCast, List.drop_zero, app_mk, hu]
  have q3 : q7_4 (mk y) i = mk (y.drop (i + 1)) := by
    unfold q7_4 q7_2
    rw [hw, Int.toNat_natCast, ext_mk]
    show mk ((y.take y.length).drop (i + 1)) = _
    rw [List.take_length]
  have q6 : q7_8 (mk y) i c = mk (y.take i ++ [u] ++ y.drop (i + 1)) := by unfold q7_8; rw [q5, q3, app_mk]
  rw [q6, q5, q3, hw, ext_mk, strOf1, Int.toNat_natCast, List.drop_zero]
  refine (goY (by omega) _ _).trans ((goY (by show (i : Int) ≤ (y.length : Int); omega) _ _).trans ?_)
  have hti : (y.take i).length = i := by rw [List.length_take]; omega
  refine (goN (nobig (by show (y.take i).length + 1 ≤ _; omega)) _ _).trans ?_
  refine (goY (by omega) _ _).trans ((goY (by show ((i + 1 : Nat) : Int) ≤ (y.length : Int); omega) _ _).trans ?_)
  refine (goN (nobig (by show (y.take i ++ [u]).length + (y.drop (i + 1)).length ≤ _; rw [List.length_append, List.length_drop]; simp; omega)) _ _).trans ?_
  generalize hz : y.take i ++ [u] ++ y.drop (i + 1) = z
  rw [rows_len]
  have hs := c22 z (f := (m2 : Int)) (m := (P.length : Int)) (by omega) (by omega)
  unfold RS' at hs
  have hsy : splitR y m2 P.length = (X, P, 0) := by
    rw [← hy, ← hXl]
    exact split_joined (by omega) (by omega)
  have hT := c24 (pieces z m2 P.length P.length) P (by rw [pieces_len]; omega)
  rcases split_cases z (f := m2) (m := P.length) (by omega) (by omega) with ⟨g1, g2, g3, g4⟩ | ⟨e, g1, g2⟩
  · rw [g4] at hs
    refine (goSp hs _).trans ((goE rfl _ _).trans ?_)
    by_cases hzy : z = y
    · refine (goQ hzy _ _).trans ((goY (by omega) _ _).trans ((goY hm2 _ _).trans ?_))
      have hh := hsy
      rw [← hzy, g4] at hh
      refine (goQ (congrArg (·.1) hh) _ _).trans ?_
      rw [decide_eq_true (congrArg (·.2.1) hh)] at hT
      exact goT hT _ _
    · refine (goQf hzy _ _).trans ((goY (by omega) _ _).trans ((goY hm2 _ _).trans ?_))
      by_cases hb : z.take m2 = X
      · refine (goQ hb _ _).trans ?_
        by_cases hq : pieces z m2 P.length P.length = P
        · have hbk := split_back (by omega) g1 g2 g3
          rw [hb, hq, joinR_ok (by omega) (by omega)] at hbk
          exact absurd ((congrArg (·.1) hbk).symm.trans hyj) hzy
        · rw [decide_eq_false hq] at hT
          exact goF hT _ _
      · exact goQf hb _ _
  · rw [g2] at hs
    refine (goSp hs _).trans ((goEn g1 _ _).trans ?_)
    have hzy : ¬ z = y := fun h => by
      rw [h, hsy] at g2
      exact g1 (congrArg (·.2.2) g2).symm
    refine (goQt hzy _ _).trans ?_
    refine Eq.trans (goQ (a := []) (b := []) rfl _ _) ?_
    exact goD rfl _ _
theorem d7 (s : B) (raw : List B) {fixed many a c : Int} (h1 : RI fixed) (h2 : RI many) (h3 : RI a) : E cx (Key.fn 7) [vs (mk s), .list 0 1 (rowsB raw), vi fixed, vi many, vi a, vb c] [] = rb true := by
  refine (f7 (mk s) (rowsB raw) fixed many a c).trans ?_
  obtain ⟨m, c1, c2, c3⟩ := cut_ext s 200
  have c1' : (if (200 : Int) < ((ByteArray.size (mk s) : Nat) : Int) then (200 : Int) else ((ByteArray.size (mk s) : Nat) : Int)) = m := c1
  have e9 : q7_9 (mk s) = m := c1
  have e10 : q7_10 (mk s) = mk (s.take 200) := by unfold q7_10; rw [e9, c3]
  refine (goY (by rw [c1']; omega) _ _).trans ((goY (by rw [e9]; show (m : Int) ≤ (s.length : Int); omega) _ _).trans ?_)
  rw [c14 raw]
  have hP1 := partsR_len raw
  have hP2 := partsR_flat raw
  generalize partsR raw = P at hP1 hP2
  refine (goI (c15 h1 (n := 30) (by omega)) _).trans ((goI (c15 h2 (n := 9) (by omega)) _).trans ?_)
  obtain ⟨hk0, hk1⟩ := pickI_lt (c := fixed) (n := 30) (by omega)
  obtain ⟨hm0, hm1⟩ := pickI_lt (c := many) (n := 9) (by omega)
  obtain ⟨k, hk⟩ : ∃ k : Nat, pickI fixed 30 = k := ⟨(pickI fixed 30).toNat, by omega⟩
  obtain ⟨n, hn⟩ : ∃ n : Nat, pickI many 9 = n := ⟨(pickI many 9).toNat, by omega⟩
  rw [hk] at hk0 hk1 ⊢
  rw [hn] at hm0 hm1 ⊢
  have tail := t7 (s := s) (P := P) (k := k) (a := a) (c := c) (by omega) hP1 hP2 h3
  generalize hx : s.take 200 = x at e10
  have hs := c22 x (f := (k : Int)) (m := (n : Int)) (by omega) (by omega)
  unfold RS' at hs
  have hs' : RS (E cx (Key.fn 22) [vs (q7_10 (mk s)), vi k, vi n] []) (splitR x k n).1 (splitR x k n).2.1 (splitR x k n).2.2 := by rw [e10]; exact hs
  rcases split_cases x (f := k) (m := n) (by omega) (by omega) with ⟨g1, g2, g3, g4⟩ | ⟨e, g1, g2⟩
  · rw [g4] at hs'
    refine (goSp hs' _).trans ((goD rfl _ _).trans ?_)
    have hl : (x.take k).length = k := by rw [List.length_take]; omega
    have hj := c20 (x.take k) (pieces x k n n) (by omega)
    rw [split_back (by omega) g1 g2 g3] at hj
    refine (goJn hj _).trans ((goE rfl _ _).trans ?_)
    refine (goQn2 e10.symm _ _).trans ?_
    refine (goE (by show (((x.take k).length : Nat) : Int) = k; omega) _ _).trans ((goE (by rw [rows_len, pieces_len]) _ _).trans ?_)
    exact tail
  · rw [g2] at hs'
    refine (goSp hs' _).trans ((goDn g1 _ _).trans ?_)
    exact tail
end Go.Proofs.Av
