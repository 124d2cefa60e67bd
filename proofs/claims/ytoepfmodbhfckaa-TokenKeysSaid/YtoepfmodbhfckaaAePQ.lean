/- Tokens: what is written is read; what the law calls ahead answers yes. -/
import Derived.Test.YtoepfmodbhfckaaAeMM
import Derived.Test.YtoepfmodbhfckaaAeYa
namespace Go.Proofs.Av
open Go
/- Tokens: what is written is read; what the law calls ahead answers yes. -/
section
def inU (l : List P2) : Prop := ∀ p ∈ l, p.1 < 18446744073709551616 ∧ p.2 < 18446744073709551616
theorem take_put (w : Nat) (r : B) : (put w 8 ++ r).take 8 = put w 8 := by
  rw [List.take_append_of_le_length (by rw [put_len]; omega), List.take_of_length_le (by rw [put_len]; omega)]
theorem drop_put (w : Nat) (r : B) : (put w 8 ++ r).drop 8 = r := by
  rw [List.drop_append_of_le_length (by rw [put_len]; omega), List.drop_of_length_le (by rw [put_len]; omega)]
  rfl
theorem val_put8 {w : Nat} (h : w < 18446744073709551616) : val (put w 8) = w := by
  rw [val_put]
  exact Nat.mod_eq_of_lt h
theorem db_ebs : ∀ (l : List P2), inU l → db l.length (ebs l) = l
  | [], _ => rfl
  | p :: l, h => by
    have h1 := h p (List.mem_cons_self ..)
    rw [ebs_cons]
    show (val ((eb p ++ ebs l).take 8), val (((eb p ++ ebs l).drop 8).take 8)) :: db l.length ((eb p ++ ebs l).drop 16) = _
    have e : eb p ++ ebs l = put p.1 8 ++ (put p.2 8 ++ ebs l) := by simp [eb]
    have e16 : (eb p ++ ebs l).drop 16 = ebs l := by
      rw [List.drop_append_of_le_length (by rw [eb_len]; omega), List.drop_of_length_le (by rw [eb_len]; omega)]
      rfl
    rw [e16, e, take_put, drop_put, take_put, val_put8 h1.1, val_put8 h1.2, db_ebs l fun q hq => h q (List.mem_cons_of_mem _ hq)]
theorem decR_enc (f : Bool) (l : List P2) (hr : rightT l = true) (hu : inU l) : decR (encB f l) = (f, l, 0) := by
  have hl := rightT_len hr
  have hs : srtB l = true := by
    unfold rightT at hr
    simp only [Bool.and_eq_true] at hr
    exact hr.2
  have h16 : (ebs l).length % 16 = 0 := by rw [ebs_len]; omega
  have h17 : (ebs l).length / 16 = l.length := by rw [ebs_len]; omega
  show decR (fB f :: ebs l) = _
  rw [decR_cons, if_pos h16, h17, db_ebs l hu]
  have hb : ¬ (fB f).toNat > 1 := by cases f <;> decide
  have hd : decide ((fB f).toNat = 1) = f := by cases f <;> rfl
  rw [if_neg hb, hd]
  unfold decP2
  rw [hs, if_pos rfl, if_neg (by omega)]
theorem mergeR_ok {L : List T2} (h1 : allR L = true) (h2 : (cat L).length ≤ 2048) : mergeR L = (anyF' L, sorted (cat L), 0) := by
  unfold mergeR
  rw [h1, if_pos rfl, if_pos h2]
theorem encR_ok {f : Bool} {l : List P2} (h : rightT l = true) : encR f l = (encB f l, 0) := by
  unfold encR
  rw [h, if_pos rfl]
section
variable {ρ : Type} {x : Option (Out × Heap)}
theorem goA {f : Bool} {l : List P2} (h : x = some (Out.ret (.agg [vbool f, .list 0 2 (prs l)]), [])) (k : Bool → List (List AV) → Option ρ) :
    (x.bind fun r => (ret1 r).bind fun v => (AV.cells? v).bind fun cs => (uncons? cs).bind fun p => (AV.bool? p.fst).bind fun b => (uncons? p.snd).bind fun q => (AV.list? 2 q.fst).bind fun es => (nil? q.snd).bind fun _ => k b es) = k f (prs l) := by rw [h]; rfl
theorem goKt {r : List Nat × Bool} (h : RK x r) (hr : r.2 = true) (_k : List (List AV) → Bool → AV × List AV → Option ρ) (k1 k2 : List (List AV) → AV × List AV → Option ρ) :
    (x.bind fun r => (ret1 r).bind fun v => v.tup?.bind fun vs => (uncons? vs).bind fun p => (AV.list? 1 p.fst).bind fun es => (uncons? p.snd).bind fun q => (AV.bool? q.fst).bind fun b => bif b then k1 es q else k2 es q) = k1 (rowsN r.1) (vbool r.2, []) := by
  refine (goKy h _).trans ?_
  rw [hr]
  rfl
end
theorem right1 (p : P2) : rightT [p] = true := rightT_of (by simp) (List.pairwise_singleton ..)
theorem right0 : rightT [] = true := rightT_of (by simp) .nil
theorem c38n : E cx (Key.fn 38) [.agg [vbool false, .val (.slice none 0 0)]] [] = RJ [0] 0 :=
  (E_norm (args' := [.agg [vbool false, .list 0 2 (prs [])]]) (by kernel_rfl) (by kernel_rfl)).trans ((c38 false [] (by simp)).trans (by rw [encR_ok right0]; rfl))
theorem notRight : rightT [(2, 0), (1, 0)] = false := by
  cases h : rightT [(2, 0), (1, 0)] with
  | false => rfl
  | true =>
    have := rightT_pw h
    have h2 := (List.pairwise_cons.1 this).1 (1, 0) (by simp)
    exact absurd h2 (by decide)
theorem c45x : RTok' (E cx (Key.fn 45) [.list 0 2 [[vbool false, .list 1 2 (prs [(2, 0), (1, 0)])]]] []) (false, [], 1) := by
  have h0 : E cx (Key.loop 149 [true, false, true, false]) [vi 0, vi 0, .list 0 2 [[vbool false, .list 1 2 (prs [(2, 0), (1, 0)])]], .func (Fn.func 112) [] [], vi 1] [] = some (Out.jump .ret [vi 0, vi 0], []) := by
    refine (f45_c0_c1_l2 _ _ _ _).trans ?_
    show (Option.bind (E cx (Key.fn 112) [.agg [vbool false, .list 0 2 (prs [(2, 0), (1, 0)])]] []) _) = _
    refine (goB (c112 false [(2, 0), (1, 0)] (by simp)) _).trans ?_
    rw [notRight]
    rfl
  have h1 : E cx (Key.fn 149) [.list 0 2 [[vbool false, .list 1 2 (prs [(2, 0), (1, 0)])]], .func (Fn.func 112) [] []] [] = some (Out.ret (vi 0), []) := by
    refine (f45_c0_c1 _).trans ?_
    show (Option.bind (E cx (Key.loop 149 [true, false, true, false]) [vi 0, vi 0, .list 0 2 [[vbool false, .list 1 2 (prs [(2, 0), (1, 0)])]], .func (Fn.func 112) [] [], vi 1] []) _) = _
    rw [h0]
    rfl
  have h2 : E cx (Key.fn 111) [.list 0 2 [[vbool false, .list 1 2 (prs [(2, 0), (1, 0)])]], .func (Fn.func 112) [] []] [] = rb true := (f45_c0 _).trans (goI h1 _)
  exact ⟨_, (f45 _).trans (goT h2 _ _), rfl⟩
theorem merge0 : mergeR [(false, [(2, 7)]), (false, [(1, 9)])] = (false, [(1, 9), (2, 7)], 0) := by
  rw [mergeR_ok (by show (rightT [(2, 7)] && (rightT [(1, 9)] && true)) = true; rw [right1, right1]; rfl) (by decide)]
  have : sorted (cat [(false, [(2, 7)]), (false, [(1, 9)])]) = [(1, 9), (2, 7)] := by
    refine (sorted_congr (b := [(1, 9), (2, 7)]) (List.Perm.swap _ _ _)).trans (sorted_of ?_)
    exact .cons (by intro a ha; simp at ha; subst ha; decide) (List.pairwise_singleton ..)
  rw [this]
  rfl
theorem pw0 : PW [(1, 9), (2, 7)] := .cons (by intro a ha; simp at ha; subst ha; decide) (List.pairwise_singleton ..)
theorem right2 : rightT [(1, 9), (2, 7)] = true := rightT_of (by simp) pw0
theorem f36_true : E cx (Key.fn 36) [] [] = rb true := by
  refine f36.trans ?_
  refine (goA (c51 2 7) _).trans ?_
  refine (goA (c51 1 9) _).trans ?_
  have m := c45 [(false, [(2, 7)]), (false, [(1, 9)])] (by simp) (by simp)
  rw [merge0] at m
  refine (goTok m _).trans ?_
  refine (goJn c38n _).trans ?_
  refine (goJn ((c38 false [(1, 9), (2, 7)] (by simp)).trans (by rw [encR_ok right2]) : _ = RJ (encB false [(1, 9), (2, 7)]) 0) _).trans ?_
  have d := c49 (encB false [(1, 9), (2, 7)]) (by decide)
  rw [decR_enc false _ right2 (by intro p hp; simp at hp; rcases hp with rfl | rfl <;> decide)] at d
  refine (goTok d _).trans ?_
  have d2 := c49 [2] (by decide)
  rw [show decR [2] = tok0 from rfl] at d2
  refine (goTok d2 _).trans ?_
  refine (goA (c51 2 7) _).trans ?_
  have k1 := c42 false [(2, 7)] 7 (by simp)
  rw [show keysR [(2, 7)] 7 = ([2], true) by unfold keysR; rw [right1]; rfl] at k1
  refine (goKy k1 _).trans ?_
  have k2 := c42 false [(1, 9), (2, 7)] 7 (by simp)
  rw [show keysR [(1, 9), (2, 7)] 7 = ([], false) by unfold keysR; rw [right2]; rfl] at k2
  refine (goKy k2 _).trans ?_
  refine (goTok c45x _).trans ?_
  have s1 := c47 false false [(1, 9), (2, 7)] [(1, 9), (2, 7)] (by simp)
  rw [decide_eq_true ⟨rfl, rfl⟩] at s1
  refine (goD rfl _ _).trans ?_
  refine (goT s1 _ _).trans ?_
  refine (goD rfl _ _).trans ?_
  refine (goQ (a := [0]) (b := [0]) rfl _ _).trans ?_
  refine (goD rfl _ _).trans ?_
  refine (goD (show ((List.length (encB false [(1, 9), (2, 7)]) : Nat) : Int) = (33 : Int) by decide) _ _).trans ?_
  refine (goD rfl _ _).trans ?_
  refine (goT s1 _ _).trans ?_
  refine (goD rfl _ _).trans ?_
  have w := c44 [2] [2] (by simp)
  rw [decide_eq_true rfl] at w
  refine (goT w _ _).trans ?_
  refine (goD rfl _ _).trans ?_
  have r := c40 false [(1, 9), (2, 7)] (by simp)
  rw [right2] at r
  exact goT r _ _
end
/- Tokens: what is read has these bytes; what is unlike has unlike ones. -/
section
theorem pairOf_lt (a : Int) : (pairOf a).1 < 12 ∧ (pairOf a).2 < 3 := by
  have h1 := pickI_lt (c := a) (n := 12) (by omega)
  have h2 := pickI_lt (c := Int.tdiv a 16) (n := 3) (by omega)
  unfold pairOf
  constructor
  · show (pickI a 12).toNat < 12
    omega
  · show (pickI (Int.tdiv a 16) 3).toNat < 3
    omega
theorem insR_mem {p q : P2} {l : List P2} (h : q ∈ insR p l) : q = p ∨ q ∈ l := by
  unfold insR at h
  rcases List.mem_append.1 h with h | h
  · exact .inr (List.mem_of_mem_take h)
  · rcases List.mem_cons.1 h with h | h
    · exact .inl h
    · exact .inr (List.mem_of_mem_drop h)
theorem tokL_all (P : P2 → Prop) (hP : ∀ a, P (pairOf a)) : ∀ (r : List Int) (o : List P2), (∀ q ∈ o, P q) → ∀ q ∈ tokL r o, P q
  | [], o, h => h
  | a :: r, o, h => tokL_all P hP r _ fun q hq => by
    rcases insR_mem hq with rfl | hq
    · exact hP a
    · exact h q hq
theorem tokP_inU (raw : List Int) : inU (tokP raw) :=
  tokL_all (fun q => q.1 < 18446744073709551616 ∧ q.2 < 18446744073709551616) (fun a => ⟨by have := pairOf_lt a; omega, by have := pairOf_lt a; omega⟩) _ [] (by simp)
theorem ebs_db : ∀ (d : Nat) (l : B), l.length = 16 * d → ebs (db d l) = l
  | 0, l, h => by
    obtain rfl : l = [] := List.length_eq_zero_iff.1 (by omega)
    rfl
  | d + 1, l, h => by
    show ebs ((val (l.take 8), val ((l.drop 8).take 8)) :: db d (l.drop 16)) = _
    rw [ebs_cons, ebs_db d (l.drop 16) (by rw [List.length_drop]; omega)]
    show put (val (l.take 8)) 8 ++ put (val ((l.drop 8).take 8)) 8 ++ l.drop 16 = l
    have h1 : (l.take 8).length = 8 := by rw [List.length_take]; omega
    have h2 : ((l.drop 8).take 8).length = 8 := by rw [List.length_take, List.length_drop]; omega
    have e1 := put_val (l.take 8)
    rw [h1] at e1
    have e2 := put_val ((l.drop 8).take 8)
    rw [h2] at e2
    rw [e1, e2, List.append_assoc]
    have e3 : l.drop 16 = (l.drop 8).drop 8 := by rw [List.drop_drop]
    rw [e3, List.take_append_drop, List.take_append_drop]
theorem decR_right {l : B} {f : Bool} {q : List P2} (h : decR l = (f, q, 0)) : rightT q = true ∧ encB f q = l := by
  cases l with
  | nil => cases h
  | cons b r =>
    rw [decR_cons] at h
    by_cases h16 : r.length % 16 = 0
    · rw [if_pos h16] at h
      by_cases hb : b.toNat > 1
      · rw [if_pos hb] at h; cases h
      · rw [if_neg hb] at h
        unfold decP2 at h
        by_cases hs : srtB (db (r.length / 16) r) = true
        · rw [if_pos hs] at h
          by_cases hl : (db (r.length / 16) r).length > 2048
          · rw [if_pos hl] at h; cases h
          · rw [if_neg hl] at h
            cases h
            constructor
            · unfold rightT
              rw [hs, decide_eq_true (by omega)]
              rfl
            · unfold encB
              rw [ebs_db _ _ (by omega)]
              congr 1
              have hb' := b.toNat_lt
              rcases Nat.lt_or_ge b.toNat 1 with h0 | h1
              · have : b = 0 := UInt8.toNat.inj (by show b.toNat = 0; omega)
                subst this
                rfl
              · have : b = 1 := UInt8.toNat.inj (by show b.toNat = 1; omega)
                subst this
                rfl
        · rw [if_neg hs] at h; cases h
    · rw [if_neg h16] at h; cases h
theorem encB_inj {f g : Bool} {a b : List P2} (ha : rightT a = true) (hb : rightT b = true) (ua : inU a) (ub : inU b) (h : encB f a = encB g b) : f = g ∧ a = b := by
  have h1 := decR_enc f a ha ua
  rw [h, decR_enc g b hb ub] at h1
  cases h1
  exact ⟨rfl, rfl⟩
theorem encB_len (f : Bool) (l : List P2) : (encB f l).length = 1 + 16 * l.length := by
  show (ebs l).length + 1 = _
  rw [ebs_len]
  omega
end
end Go.Proofs.Av
