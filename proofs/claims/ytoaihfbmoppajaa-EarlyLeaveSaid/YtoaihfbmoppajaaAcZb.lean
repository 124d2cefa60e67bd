/- The search by halves; where one belongs in a queue; Put. -/
import Derived.Test.YtoaihfbmoppajaaAcZa
namespace Go.Proofs.Av
open Go
abbrev P44 : List Bool := [true, true, false, false]
abbrev mid (x y : Int) : Int := IntKind.wrap .i64 (ishr .u64 (IntKind.wrap .u64 (IntKind.wrap .i64 (Int.add x y))) 1)
theorem mid_eq {i j : Nat} (h : i + j ≤ 4000000) : mid (i : Int) (j : Int) = ((i + j) / 2 : Nat) := by
  unfold mid
  rw [wr_add (a := (i : Int)) (b := (j : Int)) (by omega) (by omega)]
  have h1 : IntKind.wrap .u64 ((i : Int) + j) = (i : Int) + j := by
    simp only [IntKind.wrap, IntKind.bits, IntKind.signed, Bool.false_and]
    simp
    omega
  rw [h1]
  have h2 : ishr .u64 ((i : Int) + j) 1 = (((i + j) / 2 : Nat) : Int) := by
    show ((i : Int) + j).fdiv (2 ^ (min (Int.toNat 1) 64)) = _
    rw [show (2 : Int) ^ (min (Int.toNat 1) 64) = 2 from rfl, Int.fdiv_eq_ediv_of_nonneg _ (by omega)]
    omega
  rw [h2]
  exact wr_id (by omega) (by omega)
theorem search {L : Int → Int → Option (Out × Heap)} {P : Int → Option (Out × Heap)} {p : Nat → Bool} {n m : Nat} (hn : n ≤ 1000000) (hP : ∀ i, i < n → P (i : Int) = rb (p i))
    (hL : ∀ x y, L x y = bif decide (x < y) then ((P (mid x y)).bind fun r => (ret1 r).bind fun v => v.bool?.bind fun b => bif b then L x (mid x y) else L (IntKind.wrap .i64 (Int.add (mid x y) 1)) y) else some (Out.jump (.exit 0) [vi x, vi y], []))
    (h0 : ∀ i, i < m → p i = false) (h1 : ∀ i, m ≤ i → i < n → p i = true) : ∀ (d i j : Nat), j - i ≤ d → i ≤ m → m ≤ j → j ≤ n → L (i : Int) (j : Int) = some (Out.jump (.exit 0) [vi (m : Int), vi (m : Int)], [])
  | d, i, j, hd, hi, hj, hjn => by
    rw [hL]
    by_cases hij : i < j
    · refine (goD (by omega) _ _).trans ?_
      have hmid : mid (i : Int) (j : Int) = ((i + j) / 2 : Nat) := mid_eq (by omega)
      have hk1 : i ≤ (i + j) / 2 := by omega
      have hk2 : (i + j) / 2 < j := by omega
      rw [hmid]
      cases d with
      | zero => omega
      | succ d =>
        cases hp : p ((i + j) / 2) with
        | true =>
          refine (goT (by rw [← hp]; exact hP _ (by omega)) _ _).trans ?_
          refine search hn hP hL h0 h1 d i ((i + j) / 2) (by omega) hi ?_ (by omega)
          rcases Nat.lt_or_ge ((i + j) / 2) m with h | h
          · rw [h0 _ h] at hp; cases hp
          · exact h
        | false =>
          refine (goF (by rw [← hp]; exact hP _ (by omega)) _ _).trans ?_
          rw [wr_add (a := (((i + j) / 2 : Nat) : Int)) (b := 1) (by omega) (by omega)]
          refine search hn hP hL h0 h1 d ((i + j) / 2 + 1) j (by omega) ?_ hj hjn
          rcases Nat.lt_or_ge ((i + j) / 2) m with h | h
          · exact h
          · rw [h1 _ h (by omega)] at hp; cases hp
    · refine (goDn (by omega) _ _).trans ?_
      rw [show i = m by omega, show j = m by omega]
/-- How many stand ahead, if they all do at first, and none behind. -/
def cnt (f : W → Bool) : List W → Nat
  | [] => 0
  | w :: r => bif f w then cnt f r + 1 else 0
theorem cnt_le (f : W → Bool) : ∀ (q : List W), cnt f q ≤ q.length
  | [] => Nat.le_refl _
  | w :: r => by
    simp only [cnt]
    have := cnt_le f r
    cases f w <;> simp <;> omega
theorem cnt_lo {f : W → Bool} : ∀ {q : List W} {i : Nat} {w : W}, i < cnt f q → q[i]? = some w → f w = true
  | v :: r, 0, w, h, hw => by
    cases hw
    simp only [cnt] at h
    cases hf : f v with
    | true => rfl
    | false => rw [hf] at h; simp at h
  | v :: r, i + 1, w, h, hw => by
    simp only [cnt] at h
    cases hf : f v with
    | true => rw [hf] at h; exact cnt_lo (i := i) (by simpa using h) (by simpa using hw)
    | false => rw [hf] at h; simp at h
/-- .. if what is behind one that is not ahead is not ahead. -/
def Cut (f : W → Bool) (q : List W) : Prop := q.Pairwise fun v w => f v = false → f w = false
theorem cnt_hi {f : W → Bool} : ∀ {q : List W} {i : Nat} {w : W}, Cut f q → cnt f q ≤ i → q[i]? = some w → f w = false
  | v :: r, i, w, hc, h, hw => by
    simp only [cnt] at h
    cases hf : f v with
    | true =>
      rw [hf] at h
      cases i with
      | zero => simp at h
      | succ i => exact cnt_hi (i := i) (List.pairwise_cons.1 hc).2 (by simpa using h) (by simpa using hw)
    | false =>
      cases i with
      | zero => cases hw; exact hf
      | succ i => exact (List.pairwise_cons.1 hc).1 w (List.mem_of_getElem? (by simpa using hw)) hf
theorem cnt_take {f : W → Bool} : ∀ {q : List W}, Cut f q → q.take (cnt f q) = q.filter f ∧ q.drop (cnt f q) = q.filter fun w => !f w
  | [], _ => ⟨rfl, rfl⟩
  | v :: r, hc => by
    obtain ⟨h1, h2⟩ := List.pairwise_cons.1 hc
    obtain ⟨i1, i2⟩ := cnt_take h2
    cases hf : f v with
    | true => simp [cnt, hf, i1, i2]
    | false =>
      have h3 : ∀ w ∈ r, f w = false := fun w hw => h1 w hw hf
      have h4 : r.filter f = [] := List.filter_eq_nil_iff.2 fun w hw => by rw [h3 w hw]; simp
      have h5 : (r.filter fun w => !f w) = r := List.filter_eq_self.2 fun w hw => by rw [h3 w hw]; rfl
      simp [cnt, hf, h4, h5]
theorem cut_of {f : W → Bool} {q : List W} (hq : right q = true) (h : ∀ v w, lt v w → f v = false → f w = false) : Cut f q :=
  (right_iff.1 hq).2.imp fun h1 => h _ _ h1
def fLt (w : W) (v : W) : Bool := decide (lt v w)
def fAt (t : Int) (v : W) : Bool := decide (v.a ≤ t)
theorem fLt_cut {w : W} {q : List W} (hq : right q = true) : Cut (fLt w) q := cut_of hq fun u v h h1 => by
  simp only [fLt, decide_eq_false_iff_not] at *
  exact fun h2 => h1 (lt_trans h h2)
theorem fAt_cut {t : Int} {q : List W} (hq : right q = true) : Cut (fAt t) q := cut_of hq fun u v h h1 => by
  simp only [fAt, decide_eq_false_iff_not] at *
  unfold lt at h
  omega
/-- The search for where one belongs. -/
theorem e45 (q : List W) (w : W) (i : Nat) (v : W) (hv : q[i]? = some v) : E cx (.fn 45) [vi (i : Int), .rop [lq q], .rop w.row] [] = rb (!decide (lt v w)) := by
  refine (f45 _ _ _ _ _ _).trans ((goY (by omega) _ _).trans ((goW rfl hv _).trans ?_))
  cases h : decide (lt v w) with
  | true => exact (goF (by have := e46 v w; rw [h] at this; exact this) _ _)
  | false => exact (goT (by have := e46 v w; rw [h] at this; exact this) _ _)
theorem e44p (q : List W) (w : W) (hB : q.length ≤ 1000000) (hq : right q = true) :
    E cx (.fn 44) [vi (q.length : Int), .func (.func 45) [] [.rop [lq q], .rop w.row]] [] = some (Out.ret (vi (cnt (fLt w) q : Int)), []) := by
  refine (f29_c0 _ _ _ _ _ _).trans ?_
  have h := search (L := fun x y => E cx (.loop 44 P44) [vi x, vi y, .func (.func 45) [] [.rop [lq q], .rop w.row]] []) (P := fun z => E cx (.fn 45) [vi z, .rop [lq q], .rop w.row] [])
    (p := fun i => match q[i]? with | some v => !decide (lt v w) | none => true) (n := q.length) (m := cnt (fLt w) q) hB
    (fun i hi => by
      have hv : q[i]? = some q[i] := List.getElem?_eq_getElem hi
      simp only [hv]
      exact e45 q w i _ hv)
    (fun x y => f29_c0_l1 _ _ _ _ _ _ _)
    (fun i hi => by
      have hv : q[i]? = some (q[i]'(Nat.lt_of_lt_of_le hi (cnt_le _ _))) := List.getElem?_eq_getElem _
      simp only [hv]
      have := cnt_lo hi hv
      simp only [fLt] at this
      rw [this]; rfl)
    (fun i hi hn => by
      have hv : q[i]? = some q[i] := List.getElem?_eq_getElem hn
      simp only [hv]
      have := cnt_hi (fLt_cut hq) hi hv
      simp only [fLt] at this
      rw [this]; rfl) q.length 0 q.length (by omega) (Nat.zero_le _) (cnt_le _ _) (Nat.le_refl _)
  rw [show E cx (.loop 44 [true, true, false, false]) [vi 0, vi (q.length : Int), AV.func (Fn.func 45) [] [AV.rop [AV.list 0 4 (rows q)], AV.rop [vi w.a, vi w.s, vi w.p, vs w.d]]] [] = _ from h]
  rfl
theorem e48 (q : List W) (t : Int) (i : Nat) (v : W) (hv : q[i]? = some v) : E cx (.fn 48) [vi (i : Int), .rop [lq q], .rop [vi t]] [] = rb (!decide (v.a ≤ t)) := by
  refine (f48 _ _ _).trans ((goY (by omega) _ _).trans ((goW rfl hv _).trans ?_))
  by_cases h : v.a ≤ t
  · rw [decide_eq_true h]; exact goDn (by omega) _ _
  · rw [decide_eq_false h]; exact goD (by omega) _ _
theorem e44r (q : List W) (t : Int) (hB : q.length ≤ 1000000) (hq : right q = true) :
    E cx (.fn 44) [vi (q.length : Int), .func (.func 48) [] [.rop [lq q], .rop [vi t]]] [] = some (Out.ret (vi (cnt (fAt t) q : Int)), []) := by
  refine (f32_c0 _ _ _).trans ?_
  have h := search (L := fun x y => E cx (.loop 44 P44) [vi x, vi y, .func (.func 48) [] [.rop [lq q], .rop [vi t]]] []) (P := fun z => E cx (.fn 48) [vi z, .rop [lq q], .rop [vi t]] [])
    (p := fun i => match q[i]? with | some v => !decide (v.a ≤ t) | none => true) (n := q.length) (m := cnt (fAt t) q) hB
    (fun i hi => by
      have hv : q[i]? = some q[i] := List.getElem?_eq_getElem hi
      simp only [hv]
      exact e48 q t i _ hv)
    (fun x y => f32_c0_l1 _ _ _ _)
    (fun i hi => by
      have hv : q[i]? = some (q[i]'(Nat.lt_of_lt_of_le hi (cnt_le _ _))) := List.getElem?_eq_getElem _
      simp only [hv]
      have := cnt_lo hi hv
      simp only [fAt] at this
      rw [this]; rfl)
    (fun i hi hn => by
      have hv : q[i]? = some q[i] := List.getElem?_eq_getElem hn
      simp only [hv]
      have := cnt_hi (fAt_cut hq) hi hv
      simp only [fAt] at this
      rw [this]; rfl) q.length 0 q.length (by omega) (Nat.zero_le _) (cnt_le _ _) (Nat.le_refl _)
  rw [show E cx (.loop 44 [true, true, false, false]) [vi 0, vi (q.length : Int), AV.func (Fn.func 48) [] [AV.rop [AV.list 0 4 (rows q)], AV.rop [vi t]]] [] = _ from h]
  rfl
end Go.Proofs.Av
