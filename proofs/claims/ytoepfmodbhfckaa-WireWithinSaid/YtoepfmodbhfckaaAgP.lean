/- What bytes are undoes what makes them, and the other way round: votes, aggregates, records. -/
import Derived.Test.YtoepfmodbhfckaaAgW
set_option maxRecDepth 100000
namespace Go.Proofs.Av
open Go
def U8 (w : Nat) : Prop := w < 18446744073709551616
theorem wB_cons (w : Nat) (l : List Nat) : wB (w :: l) = put w 8 ++ wB l := rfl
theorem n8_z {w : Nat} (r : B) (h : U8 w) : n8 (put w 8 ++ r) 0 = w := by
 unfold n8
 rw [List.drop_zero, take_put, val_put8 h]
theorem n8_s (w : Nat) (r : B) (i : Nat) : n8 (put w 8 ++ r) (8 + i) = n8 r i := by
 unfold n8
 rw [← List.drop_drop, drop_put]
theorem put_n8 {s : B} {i : Nat} (h : i + 8 ≤ s.length) : put (n8 s i) 8 = (s.drop i).take 8 := by
 unfold n8
 have hl : ((s.drop i).take 8).length = 8 := by simp; omega
 have := put_val ((s.drop i).take 8)
 rw [hl] at this
 exact this
theorem n8_lt (s : B) (i : Nat) : U8 (n8 s i) := by
 unfold U8 n8
 have h := val_lt ((s.drop i).take 8)
 have hl : ((s.drop i).take 8).length ≤ 8 := by simp; omega
 have : 256 ^ ((s.drop i).take 8).length ≤ 256 ^ 8 := Nat.pow_le_pow_right (by omega) hl
 omega
theorem cut8 {s : B} {i : Nat} (_h : i + 8 ≤ s.length) : s.drop i = (s.drop i).take 8 ++ s.drop (i + 8) := by
 rw [← List.drop_drop, List.take_append_drop]
theorem wB_n8 : ∀ (d i : Nat) (s : B), i + 8 * d = s.length → wB ((List.range d).map fun k => n8 s (i + 8 * k)) = s.drop i
 | 0, i, s, h => by
  rw [List.drop_of_length_le (by omega)]
  rfl
 | d + 1, i, s, h => by
  rw [List.range_succ_eq_map, List.map_cons, List.map_map, wB_cons]
  have ih := wB_n8 d (i + 8) s (by omega)
  have he : ((fun k => n8 s (i + 8 * k)) ∘ Nat.succ) = fun k => n8 s (i + 8 + 8 * k) := by
   funext k
   show n8 s (i + 8 * (k + 1)) = _
   congr 1
   omega
  rw [he, ih, Nat.mul_zero, Nat.add_zero, put_n8 (by omega)]
  exact (cut8 (by omega)).symm
structure VOk (v : Vt) : Prop where
 a : U8 v.a
 b : U8 v.b
 c : U8 v.c
 d : U8 v.d
 e : U8 v.e
 right : rightB v.n v.on = true
 tok : rightT v.p = true
 inu : inU v.p
theorem right_k {n : Int} {l : List Int} (h : rightB n l = true) : n.toNat ≤ 2048 ∧ ((n.toNat : Nat) : Int) = n ∧ (l.map Int.toNat).Pairwise (· < ·) ∧ (∀ x ∈ l.map Int.toNat, x < n.toNat) ∧ (l.map Int.toNat).map Int.ofNat = l := by
 obtain ⟨h1, h2, h3, h4⟩ := right_iff.1 h
 refine ⟨by omega, by omega, ?_, ?_, ?_⟩
 ·rw [List.pairwise_map]
  exact h3.imp_of_mem fun {a b} ha hb hab => by have := h4 a ha; have := h4 b hb; omega
 ·intro x hx
  obtain ⟨y, hy, rfl⟩ := List.mem_map.1 hx
  have := h4 y hy
  omega
 ·rw [List.map_map]
  have : ∀ (k : List Int), (∀ y ∈ k, 0 ≤ y) → k.map (Int.ofNat ∘ Int.toNat) = k := fun k hk => by
   induction k with
   | nil => rfl
   | cons a k ih =>
    have := hk a (List.mem_cons_self ..)
    rw [List.map_cons, ih fun y hy => hk y (List.mem_cons_of_mem _ hy)]
    congr 1
    show ((a.toNat : Nat) : Int) = a
    omega
  exact this l fun y hy => (h4 y hy).1
theorem joined2_len (x a b : B) : (joined x [a, b]).length = x.length + 8 + (a.length + b.length) := by
 rw [joined_len]
 simp
theorem joinR2 {x a b : B} (h : (joined x [a, b]).length ≤ 65536) : joinR x [a, b] = (joined x [a, b], 0) := by
 rw [joined_len] at h
 exact joinR_ok (by simp) h
theorem split2 {x a b : B} {f : Nat} (hf : x.length = f) (h : (joined x [a, b]).length ≤ 65536) (h6 : f ≤ 65536) : (splitR (joined x [a, b]) f 2).2.2 = 0 ∧ (joined x [a, b]).take f = x ∧ piece (joined x [a, b]) f 2 0 = a ∧ piece (joined x [a, b]) f 2 1 = b := by
 rw [joined_len] at h
 have hsp : splitR (joined x [a, b]) f 2 = (x, [a, b], 0) := by
  have := split_joined (x := x) (P := [a, b]) (by simp) h
  rw [hf] at this
  exact this
 have h0 : (splitR (joined x [a, b]) f 2).2.2 = 0 := by rw [hsp]
 obtain ⟨_, _, _, h4⟩ := split_ok (f := f) (m := 2) h6 (by omega) h0
 have h4' : splitR (joined x [a, b]) f 2 = ((joined x [a, b]).take f, pieces (joined x [a, b]) f 2 2, 0) := h4
 rw [pieces2, hsp] at h4'
 simp only [Prod.mk.injEq, List.cons.injEq, and_true] at h4'
 exact ⟨h0, h4'.1.symm, h4'.2.1.symm, h4'.2.2.symm⟩
def voteB (v : Vt) : B := joined (datB v) [lstB v.n.toNat (v.on.map Int.toNat), encB v.f v.p]
theorem lstO_ok {n : Int} {l : List Int} (h : rightB n l = true) : lstO n l = (lstB n.toNat (l.map Int.toNat), 0) := by
 unfold lstO
 rw [h]
 rfl
theorem lst_len' {n : Int} {l : List Int} (_h : rightB n l = true) : (lstB n.toNat (l.map Int.toNat)).length = n.toNat / 8 + 1 := lst_len _ _
theorem vote_size {v : Vt} (hr : rightB v.n v.on = true) (ht : rightT v.p = true) : (voteB v).length = 48 + (v.n.toNat / 8 + 1) + (1 + 16 * v.p.length) ∧ (voteB v).length ≤ 40000 := by
 have h1 := (right_k hr).1
 have h2 := rightT_len ht
 have h3 : (voteB v).length = _ := joined2_len (datB v) (lstB v.n.toNat (v.on.map Int.toNat)) (encB v.f v.p)
 rw [datB_len, lst_len, encB_len] at h3
 omega
theorem voteR_ok {v : Vt} (hr : rightB v.n v.on = true) (ht : rightT v.p = true) : voteR v = (voteB v, 0) := by
 have hl := lstO_ok hr
 have he := encR_ok (f := v.f) ht
 rw [voteR_3 (by rw [hl]; simp) (by rw [he]; simp), hl, he]
 have h6 := (vote_size hr ht).2
 exact joinR2 (x := datB v) (a := lstB v.n.toNat (v.on.map Int.toNat)) (b := encB v.f v.p) (by unfold voteB at h6; omega)
theorem n8_5 {a b c d e : Nat} (ha : U8 a) (hb : U8 b) (hc : U8 c) (hd : U8 d) (he : U8 e) : n8 (wB [a, b, c, d, e]) 0 = a ∧ n8 (wB [a, b, c, d, e]) 8 = b ∧ n8 (wB [a, b, c, d, e]) 16 = c ∧ n8 (wB [a, b, c, d, e]) 24 = d ∧ n8 (wB [a, b, c, d, e]) 32 = e := by
 simp only [wB_cons]
 refine ⟨n8_z _ ha, ?_, ?_, ?_, ?_⟩
 ·rw [show (8 : Nat) = 8 + 0 from rfl, n8_s, n8_z _ hb]
 ·rw [show (16 : Nat) = 8 + (8 + 0) from rfl, n8_s, n8_s, n8_z _ hc]
 ·rw [show (24 : Nat) = 8 + (8 + (8 + 0)) from rfl, n8_s, n8_s, n8_s, n8_z _ hd]
 ·rw [show (32 : Nat) = 8 + (8 + (8 + (8 + 0))) from rfl, n8_s, n8_s, n8_s, n8_s, n8_z _ he]
theorem unv_vote {v : Vt} (h : VOk v) : unvR (voteB v) = (v, 0) := by
 have hs := (vote_size h.right h.tok).2
 obtain ⟨h0, q1, q2, q3⟩ := split2 (x := datB v) (a := lstB v.n.toNat (v.on.map Int.toNat)) (b := encB v.f v.p) (f := 40) (datB_len v) (by unfold voteB at hs; omega) (by omega)
 have h0' : (splitR (voteB v) 40 2).2.2 = 0 := h0
 rw [unvR_2 (by rw [h0']; simp)]
 unfold voteB
 rw [q1, q2, q3]
 obtain ⟨r1, r2, r3, r4, r5⟩ := right_k h.right
 have hu := unl_lst (most := 2048) r1 r3 r4 (by omega)
 have hd := decR_enc v.f v.p h.tok h.inu
 rw [unvP_3 (by rw [hu]; simp) (by rw [hd]; simp), hu, hd, r5, r2]
 obtain ⟨e1, e2, e3, e4, e5⟩ := n8_5 h.a h.b h.c h.d h.e
 unfold datB
 rw [e1, e2, e3, e4, e5]
theorem voteB_inj {v w : Vt} (hv : VOk v) (hw : VOk w) (h : voteB v = voteB w) : v = w := by
 have h1 := unv_vote hv
 rw [h, unv_vote hw] at h1
 exact (congrArg Prod.fst h1).symm
theorem n8_take {s : B} {i k : Nat} (h : i + 8 ≤ k) : n8 (s.take k) i = n8 s i := by
 unfold n8
 rw [List.drop_take, List.take_take, Nat.min_eq_left (by omega)]
structure VOk' (v : Vt) : Prop where
 a : U8 v.a
 b : U8 v.b
 c : U8 v.c
 d : U8 v.d
 e : U8 v.e
 right : rightB v.n v.on = true
 tok : rightT v.p = true
theorem vote_unv {s : B} (h : (unvR s).2 = 0) : VOk' (unvR s).1 ∧ voteR (unvR s).1 = (s, 0) := by
 by_cases h1 : (splitR s 40 2).2.2 ≠ 0
 ·rw [unvR_1 h1] at h; exact absurd h h1
 rw [unvR_2 h1] at h ⊢
 have h1' : (splitR s 40 2).2.2 = 0 := by simpa using h1
 obtain ⟨k1, k2, k3, k4⟩ := split_ok (f := 40) (m := 2) (by omega) (by omega) h1'
 by_cases h2 : (unlO (piece s 40 2 0) 2048).2.2 ≠ 0
 ·rw [unvP_1 h2] at h; exact absurd h h2
 by_cases h3 : (decR (piece s 40 2 1)).2.2 ≠ 0
 ·rw [unvP_2 h2 h3] at h; exact absurd h h3
 rw [unvP_3 h2 h3]
 obtain ⟨u1, u2, u3⟩ := unl_ok (t := piece s 40 2 0) (most := 2048) (by simpa using h2)
 obtain ⟨d1, d2⟩ := decR_right (l := piece s 40 2 1) (f := (decR (piece s 40 2 1)).1) (q := (decR (piece s 40 2 1)).2.1) (by
  have h3' : (decR (piece s 40 2 1)).2.2 = 0 := by simpa using h3
  rw [← h3'])
 refine ⟨⟨n8_lt _ _, n8_lt _ _, n8_lt _ _, n8_lt _ _, n8_lt _ _, u3, d1⟩, ?_⟩
 have he := encR_ok (f := (decR (piece s 40 2 1)).1) d1
 rw [voteR_3 (by simp only; rw [u1]; simp) (by simp only; rw [he]; simp)]
 simp only
 rw [u1, he, d2]
 have hb := (back_join (s := s) (f := 40) (m := 2) (by omega) (by omega) k1 k3.2.2).1 k3
 rw [pieces2] at hb
 have hd : ∀ (x1 x2 x3 x4 : _) , datB (⟨n8 (s.take 40) 0, n8 (s.take 40) 8, n8 (s.take 40) 16, n8 (s.take 40) 24, n8 (s.take 40) 32, x1, x2, x3, x4⟩ : Vt) = s.take 40 := fun _ _ _ _ => by
  have := wB_n8 5 0 (s.take 40) (by simp; omega)
  rw [List.drop_zero] at this
  exact this
 rw [hd]
 exact hb
def aggB (a : Ag) : B := joined (wB [a.by0]) [encB a.g a.q, voteB a.v]
structure AOk (a : Ag) : Prop where
 by0 : U8 a.by0
 tok : rightT a.q = true
 inu : inU a.q
 v : VOk a.v
 size : (aggB a).length ≤ 65536
theorem agg_len (a : Ag) : (aggB a).length = 16 + (1 + 16 * a.q.length) + (voteB a.v).length := by
 have h3 : (aggB a).length = _ := joined2_len (wB [a.by0]) (encB a.g a.q) (voteB a.v)
 rw [wB_len, encB_len] at h3
 simp only [List.length_cons, List.length_nil] at h3
 omega
theorem aggR_ok {a : Ag} (h : AOk a) : aggR a = (aggB a, 0) := by
 have he := encR_ok (f := a.g) h.tok
 have hv := voteR_ok h.v.right h.v.tok
 rw [aggR_3 (by rw [he]; simp) (by rw [hv]; simp), he, hv]
 exact joinR2 h.size
theorem una_agg {a : Ag} (h : AOk a) : unaR (aggB a) = (a, 0) := by
 obtain ⟨h0, q1, q2, q3⟩ := split2 (x := wB [a.by0]) (a := encB a.g a.q) (b := voteB a.v) (f := 8) (wB_len _) h.size (by omega)
 have h0' : (splitR (aggB a) 8 2).2.2 = 0 := h0
 have q2' : piece (aggB a) 8 2 0 = _ := q2
 have q3' : piece (aggB a) 8 2 1 = _ := q3
 have hd := decR_enc a.g a.q h.tok h.inu
 have hu := unv_vote h.v
 rw [unaR_2 (by rw [h0']; simp), unaP_3 (by rw [q2', hd]; simp) (by rw [q3', hu]; simp), q2', q3', hd, hu]
 have hn : n8 (aggB a) 0 = a.by0 := by
  rw [← n8_take (k := 8) (by omega)]
  have q1' : (aggB a).take 8 = _ := q1
  rw [q1', wB_cons]
  exact n8_z _ h.by0
 rw [hn]
theorem agg_una {s : B} (h : (unaR s).2 = 0) : aggR (unaR s).1 = (s, 0) := by
 by_cases h1 : (splitR s 8 2).2.2 ≠ 0
 ·rw [unaR_1 h1] at h; exact absurd h h1
 rw [unaR_2 h1] at h ⊢
 have h1' : (splitR s 8 2).2.2 = 0 := by simpa using h1
 obtain ⟨k1, k2, k3, k4⟩ := split_ok (f := 8) (m := 2) (by omega) (by omega) h1'
 by_cases h2 : (decR (piece s 8 2 0)).2.2 ≠ 0
 ·rw [unaP_1 h2] at h; exact absurd h h2
 by_cases h3 : (unvR (piece s 8 2 1)).2 ≠ 0
 ·rw [unaP_2 h2 h3] at h; exact absurd h h3
 rw [unaP_3 h2 h3]
 obtain ⟨_, v2⟩ := vote_unv (s := piece s 8 2 1) (by simpa using h3)
 obtain ⟨d1, d2⟩ := decR_right (l := piece s 8 2 0) (f := (decR (piece s 8 2 0)).1) (q := (decR (piece s 8 2 0)).2.1) (by
  have h2' : (decR (piece s 8 2 0)).2.2 = 0 := by simpa using h2
  rw [← h2'])
 have he := encR_ok (f := (decR (piece s 8 2 0)).1) d1
 rw [aggR_3 (by simp only; rw [he]; simp) (by simp only; rw [v2]; simp)]
 simp only
 rw [he, v2, d2]
 have hb := (back_join (s := s) (f := 8) (m := 2) (by omega) (by omega) k1 k3.2.2).1 k3
 rw [pieces2] at hb
 have hw : wB [n8 s 0] = s.take 8 := by
  rw [wB_cons, put_n8 (by omega), List.drop_zero]
  exact List.append_nil _
 rw [hw]
 exact hb
theorem rec_len (a b c : Nat) : (recB a b c).length = 24 := wB_len _
theorem unr_rec {a b c : Nat} (ha : U8 a) (hb : U8 b) (hc : U8 c) : unrR (recB a b c) = (a, b, c, 0) := by
 rw [unrR_2 (by rw [rec_len]; simp)]
 unfold recB
 simp only [wB_cons]
 rw [n8_z _ ha, show (8 : Nat) = 8 + 0 from rfl, n8_s, n8_z _ hb, show (16 : Nat) = 8 + (8 + 0) from rfl, n8_s, n8_s, n8_z _ hc]
theorem rec_unr {s : B} (h : s.length = 24) : recB (n8 s 0) (n8 s 8) (n8 s 16) = s := by
 have := wB_n8 3 0 s (by omega)
 rw [List.drop_zero] at this
 exact this
theorem pk_lt {c n : Int} (hn : 0 < n) (h2 : n < 1000) : pk c n < 1000 ∧ ((pk c n : Nat) : Int) = pickI c n := by
 have := pickI_lt (c := c) hn
 unfold pk
 omega
theorem pk_u8 {c n : Int} (hn : 0 < n) (h2 : n < 1000) : U8 (pk c n) := by
 have := (pk_lt (c := c) hn h2).1
 unfold U8
 omega
theorem raw_ok (x : Rw) : VOk (rawV x) := by
 have hp := pickI_lt (c := x.n) (n := 40) (by omega)
 exact ⟨pk_u8 (by omega) (by omega), pk_u8 (by omega) (by omega), pk_u8 (by omega) (by omega), pk_u8 (by omega) (by omega), pk_u8 (by omega) (by omega), raw_right hp.1 (by omega) _, tokP_right _, tokP_inU _⟩
theorem raw_size (x : Rw) : (voteB (rawV x)).length ≤ 600 := by
 have hp := pickI_lt (c := x.n) (n := 40) (by omega)
 have h1 := (vote_size (raw_ok x).right (raw_ok x).tok).1
 have h2 := tokP_len x.ps
 have h3 : (rawV x).p = tokP x.ps := rfl
 have h4 : (rawV x).n = pickI x.n 40 := rfl
 rw [h3, h4] at h1
 omega
theorem rawA_ok (x : Rw) (by' : Int) (q : List Int) : AOk (rawA x by' q) ∧ (aggB (rawA x by' q)).length ≤ 1200 := by
 have h1 := raw_size x
 have h2 := tokP_len q
 have h3 := agg_len (rawA x by' q)
 have h4 : (rawA x by' q).v = rawV x := rfl
 have h5 : (rawA x by' q).q = tokP q := rfl
 rw [h4, h5] at h3
 exact ⟨⟨pk_u8 (by omega) (by omega), tokP_right _, tokP_inU _, raw_ok x, by omega⟩, by omega⟩
theorem raw_on (x : Rw) : (rawV x).on.length ≤ 4000000 ∧ (rawV x).p.length ≤ 4000000 := by
 have h1 := raw_len (pickI x.n 40) x.on
 have h2 := tokP_len x.ps
 exact ⟨by show (rawL _ _).length ≤ _; omega, by show (tokP _).length ≤ _; omega⟩
end Go.Proofs.Av
