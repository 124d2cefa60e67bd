/- Queues: what their functions tell, in plain lists. Steps by which trees are taken apart. -/
import Derived.Test.YtoaihfbmoppajaaAcY
namespace Go.Proofs.Av
open Go
variable {ρ : Type} {x : Option (Out × Heap)}
theorem wr_id {n : Int} (h1 : -9223372036854775808 ≤ n) (h2 : n ≤ 9223372036854775807) : IntKind.wrap .i64 n = n := by
  simp only [IntKind.wrap, IntKind.bits, IntKind.signed, Bool.true_and]
  split <;> simp_all <;> omega
theorem wr_add {a b : Int} (h1 : -9223372036854775808 ≤ a + b) (h2 : a + b ≤ 9223372036854775807) : IntKind.wrap .i64 (Int.add a b) = a + b := wr_id (n := a + b) h1 h2
theorem wr_sub {a b : Int} (h1 : -9223372036854775808 ≤ a - b) (h2 : a - b ≤ 9223372036854775807) : IntKind.wrap .i64 (Int.sub a b) = a - b := wr_id (n := a - b) h1 h2
abbrev rb (b : Bool) : Option (Out × Heap) := some (Out.ret (vbool b), [])
abbrev RI (n : Int) : Prop := -9223372036854775808 ≤ n ∧ n ≤ 9223372036854775807
theorem goB {b : Bool} (h : x = rb b) (k : Bool → Option ρ) : (x.bind fun r => (ret1 r).bind fun v => v.bool?.bind fun b => k b) = k b := by rw [h]; rfl
theorem goT (h : x = rb true) (k j : Option ρ) : (x.bind fun r => (ret1 r).bind fun v => v.bool?.bind fun b => bif b then k else j) = k := by rw [h]; rfl
theorem goF (h : x = rb false) (k j : Option ρ) : (x.bind fun r => (ret1 r).bind fun v => v.bool?.bind fun b => bif b then k else j) = j := by rw [h]; rfl
theorem goI {n : Int} (h : x = some (Out.ret (vi n), [])) (k : Int → Option ρ) : (x.bind fun r => (ret1 r).bind fun v => (v.int? .i64).bind fun n => k n) = k n := by rw [h]; rfl
theorem goN {p : Prop} [Decidable p] (h : ¬ p) (k j : Option ρ) : (if p then k else j) = j := if_neg h
theorem goY {p : Prop} [Decidable p] (h : p) (k j : Option ρ) : (if p then k else j) = k := if_pos h
theorem goD {p : Prop} [Decidable p] (h : p) (k j : Option ρ) : (bif decide p then k else j) = k := by rw [decide_eq_true h]; rfl
theorem goDn {p : Prop} [Decidable p] (h : ¬ p) (k j : Option ρ) : (bif decide p then k else j) = j := by rw [decide_eq_false h]; rfl
theorem goE {a b : Int} (h : a = b) (k j : Option ρ) : (bif a != b then k else j) = j := by rw [h, show (b != b) = false by simp]; rfl
theorem goEn {a b : Int} (h : a ≠ b) (k j : Option ρ) : (bif a != b then k else j) = k := by rw [show (a != b) = true by simp [h]]; rfl
theorem goTt {b : Bool} (h : b = true) (k j : Option ρ) : (bif b then k else j) = k := by rw [h]; rfl
theorem goFf {b : Bool} (h : b = false) (k j : Option ρ) : (bif b then k else j) = j := by rw [h]; rfl
theorem goLe {a b : Nat} (h : a ≤ b) (k : Option ρ) : ((chkLe a b).bind fun _ => k) = k := by rw [show chkLe a b = some () from if_pos h]; rfl
theorem goCk {a b : Nat} (h : a = b) (k : Option ρ) : ((chk a b).bind fun _ => k) = k := by rw [show chk a b = some () from if_pos h]; rfl
theorem cond_ret (b x : Bool) : (bif b then some (Out.ret (vbool x), ([] : Heap)) else some (Out.ret (vbool false), [])) = rb (b && x) := by cases b <;> rfl
theorem cond_ret' (b x : Bool) : (bif b then some (Out.ret (vbool true), ([] : Heap)) else some (Out.ret (vbool x), [])) = rb (b || x) := by cases b <;> rfl
theorem cond_id (b : Bool) : (bif b then some (Out.ret (vbool true), ([] : Heap)) else some (Out.ret (vbool false), [])) = rb b := by cases b <;> rfl

/-- One that waits. -/
structure W where
  (a s p : Int) (d : ByteArray)
abbrev W.row (w : W) : List AV := [vi w.a, vi w.s, vi w.p, vs w.d]
abbrev W.av (w : W) : AV := .agg w.row
abbrev rows (q : List W) : List (List AV) := q.map W.row
abbrev lq (q : List W) : AV := .list 0 4 (rows q)
/-- An element. -/
theorem goW {q : List W} {n : Int} {i : Nat} {w : W} (hn : n = i) (h : q[i]? = some w) (k : Int → Int → Int → ByteArray → Option ρ) : ((rows q)[Int.toNat n]?.bind fun cs => (uncons? cs).bind fun p1 => (AV.int? .i64 p1.fst).bind fun n1 =>
    (uncons? p1.snd).bind fun p2 => (AV.int? .i64 p2.fst).bind fun n2 => (uncons? p2.snd).bind fun p3 => (AV.int? .i64 p3.fst).bind fun n3 => (uncons? p3.snd).bind fun p4 => (AV.str? p4.fst).bind fun s => (nil? p4.snd).bind fun _ => k n1 n2 n3 s) = k w.a w.s w.p w.d := by
  subst hn
  have : (rows q)[Int.toNat (i : Int)]? = some w.row := by simp [rows, h]
  rw [this]
  rfl
theorem goR {w : W} (h : x = some (Out.ret w.av, [])) (k : Int → Int → Int → ByteArray → Option ρ) : (x.bind fun r => (ret1 r).bind fun v => v.cells?.bind fun cs => (uncons? cs).bind fun p1 => (AV.int? .i64 p1.fst).bind fun n1 =>
    (uncons? p1.snd).bind fun p2 => (AV.int? .i64 p2.fst).bind fun n2 => (uncons? p2.snd).bind fun p3 => (AV.int? .i64 p3.fst).bind fun n3 => (uncons? p3.snd).bind fun p4 => (AV.str? p4.fst).bind fun s => (nil? p4.snd).bind fun _ => k n1 n2 n3 s) = k w.a w.s w.p w.d := by rw [h]; rfl
/-- A slice and a number, two slices, a slice: handed back. -/
def RetLI (x : Option (Out × Heap)) (l : List (List AV)) (e : Int) : Prop := ∃ a, x = some (Out.ret (.tuple [a, vi e]), []) ∧ a.list? 4 = some l
def RetLL (x : Option (Out × Heap)) (l m : List (List AV)) : Prop := ∃ a b, x = some (Out.ret (.tuple [a, b]), []) ∧ a.list? 4 = some l ∧ b.list? 4 = some m
def RetL (x : Option (Out × Heap)) (l : List (List AV)) : Prop := ∃ a, x = some (Out.ret a, []) ∧ a.list? 4 = some l
def RetIB (x : Option (Out × Heap)) (n : Int) (b : Bool) : Prop := x = some (Out.ret (.tuple [vi n, vbool b]), [])
theorem goLI {l : List (List AV)} {e : Int} (h : RetLI x l e) (k : List (List AV) → Int → Option ρ) : (x.bind fun r => (ret1 r).bind fun v => v.tup?.bind fun vs => (uncons? vs).bind fun p1 => (AV.list? 4 p1.fst).bind fun l =>
    (uncons? p1.snd).bind fun p2 => (AV.int? .i64 p2.fst).bind fun n => (nil? p2.snd).bind fun _ => k l n) = k l e := by
  obtain ⟨a, rfl, h⟩ := h
  simp only [Option.bind_some, ret1, AV.tup?, uncons?, h, AV.int?, if_true, nil?]
theorem goLL {l m : List (List AV)} (h : RetLL x l m) (k : List (List AV) → List (List AV) → Option ρ) : (x.bind fun r => (ret1 r).bind fun v => v.tup?.bind fun vs => (uncons? vs).bind fun p1 => (AV.list? 4 p1.fst).bind fun l =>
    (uncons? p1.snd).bind fun p2 => (AV.list? 4 p2.fst).bind fun n => (nil? p2.snd).bind fun _ => k l n) = k l m := by
  obtain ⟨a, b, rfl, h, h2⟩ := h
  simp only [Option.bind_some, ret1, AV.tup?, uncons?, h, h2, nil?]
theorem goL {l : List (List AV)} (h : RetL x l) (k : List (List AV) → Option ρ) : (x.bind fun r => (ret1 r).bind fun v => (AV.list? 4 v).bind fun l => k l) = k l := by
  obtain ⟨a, rfl, h⟩ := h
  simp only [Option.bind_some, ret1, h]
theorem goIB {n : Int} {b : Bool} (h : RetIB x n b) (k : Int → Bool → Option ρ) : (x.bind fun r => (ret1 r).bind fun v => v.tup?.bind fun vs => (uncons? vs).bind fun p1 => (AV.int? .i64 p1.fst).bind fun n =>
    (uncons? p1.snd).bind fun p2 => (AV.bool? p2.fst).bind fun b => (nil? p2.snd).bind fun _ => k n b) = k n b := by
  rw [show x = _ from h]
  rfl

/-! ### The functions of one, and of two -/
def may (w : W) : Bool := decide (w.a ≥ 0) && decide (w.s ≥ 0)
def lt (v w : W) : Prop := v.a < w.a ∨ v.a = w.a ∧ v.s < w.s
instance (v w : W) : Decidable (lt v w) := by unfold lt; infer_instance
theorem lt_trans {u v w : W} (h : lt u v) (g : lt v w) : lt u w := by unfold lt at *; omega
theorem lt_irr (v : W) : ¬ lt v v := by unfold lt; omega
theorem lt_asym {v w : W} (h : lt v w) : ¬ lt w v := by unfold lt at *; omega
theorem e43 (w : W) : E cx (.fn 43) [w.av] [] = rb (may w) := by
  unfold W.av W.row
  rw [f43]
  simp only [cond_ret, cond_id, Bool.and_true]
  rfl
theorem e46 (v w : W) : E cx (.fn 46) [v.av, w.av] [] = rb (!decide (lt v w)) := by
  unfold W.av W.row
  rw [f46]
  simp only [cond_ret, cond_id, cond_ret', Bool.and_true]
  congr 4
  have h : (!decide (lt v w)) = true ↔ ¬ lt v w := by simp
  rw [Bool.eq_iff_iff, h]
  simp only [Bool.or_eq_true, Bool.and_eq_true, decide_eq_true_eq]
  unfold lt
  omega
theorem e47 (v w : W) : E cx (.fn 47) [v.av, w.av] [] = rb (decide (lt v w)) := by
  unfold W.av W.row
  rw [f47]
  simp only [cond_ret, cond_id, cond_ret', Bool.and_true]
  congr 4
  have h : decide (lt v w) = true ↔ lt v w := by simp
  rw [Bool.eq_iff_iff, h]
  simp only [Bool.or_eq_true, Bool.and_eq_true, decide_eq_true_eq]
  unfold lt
  exact Iff.rfl
/-- A raw number, one of n. -/
def pk (c n : Int) : Int := if c < 0 then (0 - (c + 1)) % n else c % n
theorem e28 {c n : Int} (hc : RI c) (hn : 0 < n) : E cx (.fn 28) [vi c, vi n] [] = some (Out.ret (vi (pk c n)), []) := by
  rw [f28]
  have h0 : ¬ n = 0 := by omega
  obtain ⟨h1, h2⟩ := hc
  unfold pk
  by_cases h : c < 0
  · rw [goD h, if_neg h0, if_pos h, wr_add (a := c) (b := 1) (by omega) (by omega), wr_sub (a := 0) (b := c + 1) (by omega) (by omega), Int.tmod_eq_emod_of_nonneg (by omega)]
  · rw [goDn h, if_neg h0, if_neg h, Int.tmod_eq_emod_of_nonneg (by omega)]
theorem pk_range {c n : Int} (hn : 0 < n) : 0 ≤ pk c n ∧ pk c n < n := by
  unfold pk
  split
  · exact ⟨Int.emod_nonneg _ (by omega), Int.emod_lt_of_pos _ hn⟩
  · exact ⟨Int.emod_nonneg _ (by omega), Int.emod_lt_of_pos _ hn⟩

/-! ### A queue that is right -/
def rightFrom : W → List W → Bool
  | _, [] => true
  | v, w :: r => may w && (decide (lt v w) && rightFrom w r)
def right : List W → Bool
  | [] => true
  | w :: r => may w && rightFrom w r
theorem right_iff : ∀ {q : List W}, right q = true ↔ (∀ w ∈ q, may w = true) ∧ q.Pairwise lt
  | [] => by simp [right]
  | [w] => by simp [right, rightFrom]
  | v :: w :: r => by
    have ih := right_iff (q := w :: r)
    have : right (v :: w :: r) = (may v && (decide (lt v w) && right (w :: r))) := by
      simp only [right, rightFrom]
      cases may v <;> cases may w <;> cases decide (lt v w) <;> rfl
    rw [this]
    simp only [Bool.and_eq_true, decide_eq_true_eq, ih, List.mem_cons, List.pairwise_cons, forall_eq_or_imp]
    constructor
    · rintro ⟨h1, h2, ⟨h3, h4⟩, h5, h6⟩
      exact ⟨⟨h1, h3, h4⟩, ⟨h2, fun u hu => lt_trans h2 (h5 u hu)⟩, h5, h6⟩
    · rintro ⟨⟨h1, h3, h4⟩, ⟨h2, _⟩, h5, h6⟩
      exact ⟨h1, h2, ⟨h3, h4⟩, h5, h6⟩
end Go.Proofs.Av
