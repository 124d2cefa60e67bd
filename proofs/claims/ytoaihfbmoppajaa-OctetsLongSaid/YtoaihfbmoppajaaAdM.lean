/- Octets, in closed form: steps, numbers as bytes, Put, Take, Join, Split, and the document's. -/
import Derived.Test.YtoaihfbmoppajaaAdY
namespace Go.Proofs.Av
open Go
/- Octets: steps by which trees are taken apart; texts as lists of bytes; numbers as bytes. -/
section
variable {ρ : Type} {x : Option (Out × Heap)}
theorem wr_id {n : Int} (h1 : -9223372036854775808 ≤ n) (h2 : n ≤ 9223372036854775807) : IntKind.wrap .i64 n = n := by
  simp only [IntKind.wrap, IntKind.bits, IntKind.signed, Bool.true_and]
  split <;> simp_all <;> omega
theorem wr_add {a b : Int} (h1 : -9223372036854775808 ≤ a + b) (h2 : a + b ≤ 9223372036854775807) : IntKind.wrap .i64 (Int.add a b) = a + b := wr_id (n := a + b) h1 h2
theorem wr_sub {a b : Int} (h1 : -9223372036854775808 ≤ a - b) (h2 : a - b ≤ 9223372036854775807) : IntKind.wrap .i64 (Int.sub a b) = a - b := wr_id (n := a - b) h1 h2
theorem wr_mul {a b : Int} (h1 : -9223372036854775808 ≤ a * b) (h2 : a * b ≤ 9223372036854775807) : IntKind.wrap .i64 (Int.mul a b) = a * b := wr_id (n := a * b) h1 h2
theorem wu_id {n : Int} (h1 : 0 ≤ n) (h2 : n < 18446744073709551616) : IntKind.wrap .u64 n = n := by
  simp only [IntKind.wrap, IntKind.bits, IntKind.signed, Bool.false_and]
  simp
  omega
theorem w8 {n : Int} : IntKind.wrap .u8 n = n % 256 := by
  simp only [IntKind.wrap, IntKind.bits, IntKind.signed, Bool.false_and]
  simp
abbrev rb (b : Bool) : Option (Out × Heap) := some (Out.ret (vbool b), [])
abbrev RI (n : Int) : Prop := -9223372036854775808 ≤ n ∧ n ≤ 9223372036854775807
theorem goB {b : Bool} (h : x = rb b) (k : Bool → Option ρ) : (x.bind fun r => (ret1 r).bind fun v => v.bool?.bind fun b => k b) = k b := by rw [h]; rfl
theorem goT (h : x = rb true) (k j : Option ρ) : (x.bind fun r => (ret1 r).bind fun v => v.bool?.bind fun b => bif b then k else j) = k := by rw [h]; rfl
theorem goF (h : x = rb false) (k j : Option ρ) : (x.bind fun r => (ret1 r).bind fun v => v.bool?.bind fun b => bif b then k else j) = j := by rw [h]; rfl
theorem goI {n : Int} (h : x = some (Out.ret (vi n), [])) (k : Int → Option ρ) : (x.bind fun r => (ret1 r).bind fun v => (v.int? .i64).bind fun n => k n) = k n := by rw [h]; rfl
theorem goU {n : Int} (h : x = some (Out.ret (vu n), [])) (k : Int → Option ρ) : (x.bind fun r => (ret1 r).bind fun v => (v.int? .u64).bind fun n => k n) = k n := by rw [h]; rfl
theorem goN {p : Prop} [Decidable p] (h : ¬ p) (k j : Option ρ) : (if p then k else j) = j := if_neg h
theorem goY {p : Prop} [Decidable p] (h : p) (k j : Option ρ) : (if p then k else j) = k := if_pos h
theorem goD {p : Prop} [Decidable p] (h : p) (k j : Option ρ) : (bif decide p then k else j) = k := by rw [decide_eq_true h]; rfl
theorem goDn {p : Prop} [Decidable p] (h : ¬ p) (k j : Option ρ) : (bif decide p then k else j) = j := by rw [decide_eq_false h]; rfl
theorem goE {a b : Int} (h : a = b) (k j : Option ρ) : (bif a != b then k else j) = j := by rw [h, show (b != b) = false by simp]; rfl
theorem goEn {a b : Int} (h : a ≠ b) (k j : Option ρ) : (bif a != b then k else j) = k := by rw [show (a != b) = true by simp [h]]; rfl
theorem goLe {a b : Nat} (h : a ≤ b) (k : Option ρ) : ((chkLe a b).bind fun _ => k) = k := by rw [show chkLe a b = some () from if_pos h]; rfl
theorem goCk {a b : Nat} (h : a = b) (k : Option ρ) : ((chk a b).bind fun _ => k) = k := by rw [show chk a b = some () from if_pos h]; rfl

/-! ### Texts -/
abbrev B := List UInt8
abbrev mk (l : B) : ByteArray := ByteArray.mk (Array.mk l)
theorem str_eta (s : ByteArray) : ∃ l, s = mk l := ⟨s.data.toList, rfl⟩
theorem toList_mk (l : B) : ByteArray.toList (mk l) = l := by rw [ByteArray.toList_eq]
theorem ext_mk (l : B) (a b : Nat) : ByteArray.extract (mk l) a b = mk ((l.take b).drop a) := by
  have h : (ByteArray.extract (mk l) a b).data.toList = (l.take b).drop a := by
    rw [ByteArray.data_extract, Array.toList_extract, List.extract_eq_take_drop, ← List.drop_take]
  exact show ByteArray.mk (Array.mk (ByteArray.extract (mk l) a b).data.toList) = _ by rw [h]
theorem app_mk (a b : B) : ByteArray.append (mk a) (mk b) = mk (a ++ b) := by
  have h : (ByteArray.append (mk a) (mk b)).data.toList = a ++ b := by
    show (mk a ++ mk b).data.toList = _
    rw [ByteArray.data_append]
    simp
  exact show ByteArray.mk (Array.mk (ByteArray.append (mk a) (mk b)).data.toList) = _ by rw [h]
theorem get_mk (l : B) (i : Nat) : (mk l)[i]? = l[i]? := by
  by_cases h : i < l.length
  · rw [getElem?_pos (mk l) i h, List.getElem?_eq_getElem h]
    rfl
  · rw [getElem?_neg (mk l) i h, List.getElem?_eq_none (by omega)]
theorem beq_mk (a b : B) : List.beq (ByteArray.toList (mk a)) (ByteArray.toList (mk b)) = decide (a = b) := by
  rw [toList_mk, toList_mk]
  show (a == b) = _
  by_cases h : a = b <;> simp [h]
theorem goQ {a b : B} (h : a = b) (k j : Option ρ) : (bif List.beq (ByteArray.toList (mk a)) (ByteArray.toList (mk b)) then k else j) = k := by rw [beq_mk, decide_eq_true h]; rfl
theorem goQf {a b : B} (h : ¬ a = b) (k j : Option ρ) : (bif List.beq (ByteArray.toList (mk a)) (ByteArray.toList (mk b)) then k else j) = j := by rw [beq_mk, decide_eq_false h]; rfl
theorem goQn {a b : B} (h : a = b) (k j : Option ρ) : (bif !List.beq (ByteArray.toList (mk a)) (ByteArray.toList (mk b)) then k else j) = j := by rw [beq_mk, decide_eq_true h]; rfl
theorem goQt {a b : B} (h : ¬ a = b) (k j : Option ρ) : (bif !List.beq (ByteArray.toList (mk a)) (ByteArray.toList (mk b)) then k else j) = k := by rw [beq_mk, decide_eq_false h]; rfl
theorem goS {l : B} (h : x = some (Out.ret (vs (mk l)), [])) (k : ByteArray → Option ρ) : (x.bind fun r => (ret1 r).bind fun v => v.str?.bind fun s => k s) = k (mk l) := by rw [h]; rfl
theorem goG {l : B} {i : Int} {n : Nat} {b : UInt8} (hn : i = n) (h : l[n]? = some b) (k : UInt8 → Option ρ) : ((mk l)[Int.toNat i]?.bind fun b => k b) = k b := by
  subst hn
  rw [get_mk, Int.toNat_natCast, h]
  rfl
/-- A number, a text, an error's number. -/
abbrev RT (w : Int) (l : B) (e : Int) : Option (Out × Heap) := some (Out.ret (.tuple [vu w, vs (mk l), vi e]), [])
abbrev RJ (l : B) (e : Int) : Option (Out × Heap) := some (Out.ret (.tuple [vs (mk l), vi e]), [])
abbrev row (p : B) : List AV := [vs (mk p)]
abbrev rowsB (l : List B) : List (List AV) := l.map row
def RS (x : Option (Out × Heap)) (l : B) (ps : List B) (e : Int) : Prop := ∃ a, x = some (Out.ret (.tuple [vs (mk l), a, vi e]), []) ∧ a.list? 1 = some (rowsB ps)
theorem goTk {w : Int} {l : B} {e : Int} (h : x = RT w l e) (k : Int → ByteArray → Int → Option ρ) : (x.bind fun r => (ret1 r).bind fun v => v.tup?.bind fun vs => (uncons? vs).bind fun p1 => (AV.int? .u64 p1.fst).bind fun n =>
    (uncons? p1.snd).bind fun p2 => (AV.str? p2.fst).bind fun s => (uncons? p2.snd).bind fun p3 => (AV.int? .i64 p3.fst).bind fun e => (nil? p3.snd).bind fun _ => k n s e) = k w (mk l) e := by rw [h]; rfl
theorem goJn {l : B} {e : Int} (h : x = RJ l e) (k : ByteArray → Int → Option ρ) : (x.bind fun r => (ret1 r).bind fun v => v.tup?.bind fun vs => (uncons? vs).bind fun p2 => (AV.str? p2.fst).bind fun s =>
    (uncons? p2.snd).bind fun p3 => (AV.int? .i64 p3.fst).bind fun e => (nil? p3.snd).bind fun _ => k s e) = k (mk l) e := by rw [h]; rfl
theorem goSp {l : B} {ps : List B} {e : Int} (h : RS x l ps e) (k : ByteArray → List (List AV) → Int → Option ρ) : (x.bind fun r => (ret1 r).bind fun v => v.tup?.bind fun vs => (uncons? vs).bind fun p1 => (AV.str? p1.fst).bind fun s =>
    (uncons? p1.snd).bind fun p2 => (AV.list? 1 p2.fst).bind fun l => (uncons? p2.snd).bind fun p3 => (AV.int? .i64 p3.fst).bind fun e => (nil? p3.snd).bind fun _ => k s l e) = k (mk l) (rowsB ps) e := by
  obtain ⟨a, rfl, h⟩ := h
  simp only [Option.bind_some, ret1, AV.tup?, uncons?, h, AV.str?, AV.int?, if_true, nil?]
/-- An element of parts. -/
theorem goP {ps : List B} {i : Int} {n : Nat} {p : B} (hn : i = n) (h : ps[n]? = some p) (k : ByteArray → Option ρ) : ((rowsB ps)[Int.toNat i]?.bind fun cs => (uncons? cs).bind fun p => (AV.str? p.fst).bind fun s => (nil? p.snd).bind fun _ => k s) = k (mk p) := by
  subst hn
  have : (rowsB ps)[Int.toNat (n : Int)]? = some (row p) := by simp [rowsB, h]
  rw [this]
  rfl
abbrev ints (l : List Int) : List (List AV) := l.map fun n => [vi n]
theorem go1 {l : List Int} {i : Int} {n : Nat} {r : Int} (hn : i = n) (h : l[n]? = some r) (k : Int → Option ρ) : ((ints l)[Int.toNat i]?.bind fun cs => (uncons? cs).bind fun p => (AV.int? .i64 p.fst).bind fun s => (nil? p.snd).bind fun _ => k s) = k r := by
  subst hn
  have : (ints l)[Int.toNat (n : Int)]? = some [vi r] := by simp [ints, h]
  rw [this]
  rfl
theorem go1n {l : List Int} {i : Int} {n : Nat} {r : Int} (hn : i = n) (h : l[n]? = some r) (k : Int → Option ρ) : ((nth (ints l) (Nat.add 0 (Int.toNat i))).bind fun cs => (uncons? cs).bind fun p => (AV.int? .i64 p.fst).bind fun s => (nil? p.snd).bind fun _ => k s) = k r := by
  subst hn
  have : nth (ints l) (Nat.add 0 (Int.toNat (n : Int))) = some [vi r] := by
    rw [nth_eq]
    show (ints l)[0 + n]? = _
    rw [Nat.zero_add]
    simp [ints, h]
  rw [this]
  rfl

/-! ### Numbers as bytes -/
def val : B → Nat
  | [] => 0
  | b :: r => b.toNat + 256 * val r
def put (w : Nat) : Nat → B
  | 0 => []
  | n + 1 => UInt8.ofNat (w % 256) :: put (w / 256) n
theorem put_len (w n : Nat) : (put w n).length = n := by
  induction n generalizing w with
  | zero => rfl
  | succ n ih => simp [put, ih]
theorem val_put (w n : Nat) : val (put w n) = w % 256 ^ n := by
  induction n generalizing w with
  | zero => simp [put, val, Nat.mod_one]
  | succ n ih =>
    simp only [put, val, ih]
    rw [Nat.pow_succ, Nat.mul_comm (256 ^ n) 256, Nat.mod_mul]
    simp
theorem put_val (l : B) : put (val l) l.length = l := by
  induction l with
  | nil => rfl
  | cons b l ih =>
    simp only [List.length_cons, put, val]
    have hb := b.toNat_lt
    rw [show (b.toNat + 256 * val l) % 256 = b.toNat by omega, show (b.toNat + 256 * val l) / 256 = val l by omega, ih]
    simp
theorem val_lt (l : B) : val l < 256 ^ l.length := by
  induction l with
  | nil => simp [val]
  | cons b l ih =>
    simp only [List.length_cons, val, Nat.pow_succ]
    have hb := b.toNat_lt
    omega
theorem put_get (w n i : Nat) (hi : i < n) : (put w n)[i]? = some (UInt8.ofNat (w / 256 ^ i % 256)) := by
  induction n generalizing w i with
  | zero => omega
  | succ n ih =>
    cases i with
    | zero => simp [put]
    | succ i =>
      simp only [put, List.getElem?_cons_succ]
      rw [ih (w / 256) i (by omega), Nat.div_div_eq_div_mul, Nat.pow_succ, Nat.mul_comm (256 ^ i)]
theorem val_snoc (l : B) (b : UInt8) : val (l ++ [b]) = val l + b.toNat * 256 ^ l.length := by
  induction l with
  | nil => simp [val]
  | cons a l ih =>
    simp only [List.cons_append, val, ih, List.length_cons, Nat.pow_succ, Nat.mul_add]
    rw [Nat.mul_comm (256 ^ l.length) 256, Nat.mul_left_comm]
    omega
theorem val_take_succ {l : B} {k : Nat} {b : UInt8} (h : l[k]? = some b) : val (l.take (k + 1)) = val (l.take k) + b.toNat * 256 ^ k := by
  have hk := (List.getElem?_eq_some_iff.1 h).1
  rw [List.take_add_one, h]
  simp only [Option.toList_some]
  rw [val_snoc, List.length_take, Nat.min_eq_left (by omega)]
end
/- Octets: Put and Take, and the document's. -/
section
abbrev bytesI (l : List Int) : List (List AV) := l.map fun n => [vb n]
theorem numsOf_bytes : ∀ (l : List Int), numsOf (bytesI l) = some l
  | [] => rfl
  | a :: l => by
    show ((uncons? [vb a]).bind fun p => (nil? p.2).bind fun _ => (p.1.int? .u8).bind fun n => (numsOf (bytesI l)).bind fun ns => some (n :: ns)) = _
    rw [numsOf_bytes l]
    rfl
theorem strOf (l : List Int) : Go.strOfNums l = mk (l.map fun n => UInt8.ofNat n.toNat) := rfl
theorem yRows_arr {es : List (List AV)} {n : Nat} (h : es.length = n) : yRows [⟨.arr, 5, 1, 1, es⟩] 1 (.arr 0 1 0 n) = some es := by
  show ((chkLe (0 + n) es.length).bind fun _ => some ((es.take (0 + n)).drop 0)) = _
  rw [goLe (by omega), Nat.zero_add, List.drop_zero, List.take_of_length_le (by omega)]
theorem shr8 (w : Nat) {i : Nat} (hi : i ≤ 8) : ishr .u64 (w : Int) (IntKind.wrap .i64 (Int.mul 8 i)) = ((w / 256 ^ i : Nat) : Int) := by
  rw [wr_mul (by omega) (by omega)]
  unfold ishr
  have h1 : (8 * (i : Int)).toNat = 8 * i := by omega
  rw [h1, show IntKind.u64.bits = 64 from rfl, Nat.min_eq_left (by omega)]
  rw [show (2 : Int) ^ (8 * i) = ((256 ^ i : Nat) : Int) by rw [Int.natCast_pow]; rw [Int.pow_mul]; rfl]
  rw [Int.fdiv_eq_ediv_of_nonneg _ (Int.natCast_nonneg _)]
  exact (Int.natCast_ediv _ _).symm
theorem put_loop (w : Nat) (n : Nat) (hn : n ≤ 8) : ∀ (d i : Nat) (l : List Int), d + i = n → l.length = n →
    ∃ l', E cx (Key.loop 18 [true, true, true, false, true, false]) [vi i, vu w, .arr 0 1 0 n, vi n] [⟨.arr, 5, 1, 1, bytesI l⟩] = some (Out.jump (.exit 0) [vi n], [⟨.arr, 5, 1, 1, bytesI l'⟩]) ∧ l'.length = n ∧
      (∀ j, j < i → l'[j]? = l[j]?) ∧ ∀ j, i ≤ j → j < n → l'[j]? = some ((w / 256 ^ j % 256 : Nat) : Int)
  | 0, i, l, hd, hl => by
    have : i = n := by omega
    subst this
    exact ⟨l, (f18_l0 i w i i (bytesI l)).trans (goDn (by omega) _ _), hl, fun j _ => rfl, fun j h1 h2 => by omega⟩
  | d + 1, i, l, hd, hl => by
    have hi : i < l.length := by omega
    have hm : IntKind.wrap .i64 (Int.mul 8 i) = 8 * i := wr_mul (by omega) (by omega)
    obtain ⟨l', h1, h2, h3, h4⟩ := put_loop w n hn d (i + 1) (l.set i ((w / 256 ^ i % 256 : Nat) : Int)) (by omega) (by simp [hl])
    refine ⟨l', (f18_l0 i w n n (bytesI l)).trans ?_, h2, fun j hj => ?_, fun j hj1 hj2 => ?_⟩
    · refine (goD (by omega) _ _).trans ?_
      refine (goN (by rw [hm]; omega) _ _).trans ?_
      refine (goY (by omega) _ _).trans ?_
      refine (goY (by omega) _ _).trans ?_
      have e0 : nth (bytesI l) (Nat.add 0 (Int.toNat (i : Int))) = some [vb l[i]] := by
        rw [nth_eq]
        show (bytesI l)[0 + i]? = _
        rw [Nat.zero_add]
        simp [bytesI, hi]
      rw [e0]
      have e1 : IntKind.wrap .i64 (Int.add i 1) = ((i + 1 : Nat) : Int) := wr_add (by omega) (by omega)
      have e2 : List.set (bytesI l) (Nat.add 0 (Int.toNat (i : Int))) [vb (IntKind.wrap .u8 (ishr .u64 (w : Int) (IntKind.wrap .i64 (Int.mul 8 i))))] = bytesI (l.set i ((w / 256 ^ i % 256 : Nat) : Int)) := by
        rw [shr8 w (by omega), w8]
        show List.set (bytesI l) (0 + i) _ = _
        rw [Nat.zero_add]
        simp only [bytesI, List.map_set]
        rfl
      show E cx _ [vi (IntKind.wrap .i64 (Int.add i 1)), vu w, .arr 0 1 0 n, vi n] [⟨.arr, 5, 1, 1, List.set (bytesI l) (Nat.add 0 (Int.toNat (i : Int))) [vb (IntKind.wrap .u8 (ishr .u64 (w : Int) (IntKind.wrap .i64 (Int.mul 8 i))))]⟩] = _
      rw [e1, e2]
      exact h1
    · rw [h3 j (by omega), List.getElem?_set_ne (by omega)]
    · by_cases hij : j = i
      · subst hij
        rw [h3 j (by omega), List.getElem?_set_self hi]
      · exact h4 j (by omega) hj2
/-- Put. -/
def putI (w : Nat) (n : Int) : B := if n < 1 ∨ n > 8 then [] else put w n.toNat
theorem putI_lo {w : Nat} {n : Int} (h : n < 1 ∨ n > 8) : putI w n = [] := if_pos h
theorem putI_ok {w : Nat} {n : Int} (h1 : ¬ n < 1) (h2 : ¬ n > 8) : putI w n = put w n.toNat := if_neg (by omega)
theorem map_put {l' : List Int} {w n : Nat} (hl : l'.length = n) (h : ∀ j, j < n → l'[j]? = some ((w / 256 ^ j % 256 : Nat) : Int)) : (l'.map fun n => UInt8.ofNat n.toNat) = put w n := by
  apply List.ext_getElem?
  intro j
  by_cases hj : j < n
  · rw [put_get w n j hj, List.getElem?_map, h j hj]
    rfl
  · rw [List.getElem?_eq_none (by simp; omega), List.getElem?_eq_none (by rw [put_len]; omega)]
theorem c18 (w : Nat) (n : Int) : E cx (Key.fn 18) [vu w, vi n] [] = some (Out.ret (vs (mk (putI w n))), []) := by
  refine (f18 w n).trans ?_
  by_cases h1 : n < 1
  · rw [putI_lo (.inl h1)]
    exact goD h1 _ _
  · refine (goDn h1 _ _).trans ?_
    by_cases h2 : n > 8
    · rw [putI_lo (.inr h2)]
      exact goD h2 _ _
    · rw [putI_ok h1 h2]
      refine (goDn h2 _ _).trans ?_
      refine (goY (by omega) _ _).trans ?_
      refine (goY (Int.le_refl _) _ _).trans ?_
      refine (goY (by show 1 * n ≤ _; omega) _ _).trans ?_
      obtain ⟨m, rfl⟩ : ∃ m : Nat, n = m := ⟨n.toNat, by omega⟩
      obtain ⟨l', g1, g2, _, g4⟩ := put_loop w m (by omega) m 0 (List.replicate m 0) rfl (by simp)
      have e : (List.replicate (Int.toNat (m : Int)) [vb 0] : List (List AV)) = bytesI (List.replicate m 0) := by simp [bytesI]
      rw [e]
      show (Option.bind (E cx _ [vi ((0 : Nat) : Int), vu w, .arr 0 1 0 m, vi m] _) _) = _
      rw [g1]
      show ((yRows [⟨.arr, 5, 1, 1, bytesI l'⟩] 1 (.arr 0 1 0 m)).bind fun ys => (numsOf ys).bind fun ns => some (Out.ret (vs (Go.strOfNums ns)), [])) = _
      rw [yRows_arr (by simp [bytesI, g2])]
      show ((numsOf (bytesI l')).bind fun ns => some (Out.ret (vs (Go.strOfNums ns)), [])) = _
      rw [numsOf_bytes]
      show some (Out.ret (vs (Go.strOfNums l')), []) = _
      rw [strOf, map_put g2 fun j hj => g4 j (by omega) hj]
      rfl
/-- The document's. -/
theorem rput_loop (w : Nat) (n : Int) (hn : n ≤ 8) : ∀ (d i : Nat) (l : List Int), (d : Int) + i = max n i → l.length = i → i ≤ 8 → (∀ j, j < i → l[j]? = some ((w / 256 ^ j % 256 : Nat) : Int)) →
    ∃ l', E cx (Key.loop 19 [true, true, false, true, false]) [.arr 0 1 0 i, vi i, vu w, vi n] [⟨.arr, 5, 1, 1, bytesI l⟩] = some (Out.jump (.exit 0) [.arr 0 1 0 (d + i), vi (d + i : Nat)], [⟨.arr, 5, 1, 1, bytesI l'⟩]) ∧ l'.length = d + i ∧
      ∀ j, j < d + i → l'[j]? = some ((w / 256 ^ j % 256 : Nat) : Int)
  | 0, i, l, hd, hl, hi, hj => by
    refine ⟨l, (f19_l0 i i w n (bytesI l)).trans ((goDn (by omega) _ _).trans ?_), by omega, fun j hj' => hj j (by omega)⟩
    rw [Nat.zero_add]
  | d + 1, i, l, hd, hl, hi, hj => by
    have hm : IntKind.wrap .i64 (Int.mul 8 i) = 8 * i := wr_mul (by omega) (by omega)
    obtain ⟨l', h1, h2, h3⟩ := rput_loop w n hn d (i + 1) (l ++ [((w / 256 ^ i % 256 : Nat) : Int)]) (by omega) (by simp [hl]) (by omega) fun j hj' => by
      by_cases hji : j = i
      · subst hji
        rw [List.getElem?_append_right (by omega), hl]
        simp
      · rw [List.getElem?_append_left (by omega)]
        exact hj j (by omega)
    have hdi : d + 1 + i = d + (i + 1) := by omega
    rw [hdi]
    refine ⟨l', (f19_l0 i i w n (bytesI l)).trans ?_, h2, h3⟩
    refine (goD (by omega) _ _).trans ?_
    refine (goD (by omega) _ _).trans ?_
    refine (goN (by rw [hm]; omega) _ _).trans ?_
    refine (goCk (by show i = (bytesI l).length; simp [bytesI, hl]) _).trans ?_
    have hlen : (bytesI l).length = i := by simp [bytesI, hl]
    refine (goY (by show Nat.mul (Nat.add (bytesI l).length 1) 1 ≤ _; rw [hlen]; show (i + 1) * 1 ≤ _; omega) _ _).trans ?_
    have e1 : IntKind.wrap .i64 (Int.add i 1) = ((i + 1 : Nat) : Int) := wr_add (by omega) (by omega)
    have e2 : (bytesI l ++ [[vb (IntKind.wrap .u8 (Int.tmod (ishr .u64 (w : Int) (IntKind.wrap .i64 (Int.mul 8 i))) 256))]]) = bytesI (l ++ [((w / 256 ^ i % 256 : Nat) : Int)]) := by
      rw [shr8 w (by omega), w8]
      simp only [bytesI, List.map_append, List.map_cons, List.map_nil]
      congr 4
      rw [Int.tmod_eq_emod_of_nonneg (Int.natCast_nonneg _)]
      generalize w / 256 ^ i = z
      omega
    show E cx _ [.arr 0 1 0 (Nat.add (bytesI l).length 1), vi (IntKind.wrap .i64 (Int.add i 1)), vu w, vi n] [⟨.arr, 5, 1, 1, bytesI l ++ [[vb (IntKind.wrap .u8 (Int.tmod (ishr .u64 (w : Int) (IntKind.wrap .i64 (Int.mul 8 i))) 256))]]⟩] = _
    rw [e1, e2, hlen]
    exact h1
theorem c19 (w : Nat) (n : Int) : E cx (Key.fn 19) [vu w, vi n] [] = some (Out.ret (vs (mk (putI w n))), []) := by
  refine (f19 w n).trans ?_
  by_cases h2 : n > 8
  · have e : E cx (Key.loop 19 [true, true, false, true, false]) [.arr 0 1 0 0, vi 0, vu w, vi n] [⟨.arr, 5, 1, 1, []⟩] = some (Out.jump (.exit 0) [.arr 0 1 0 0, vi 0], [⟨.arr, 5, 1, 1, []⟩]) := by
      refine (f19_l0 0 0 w n []).trans ?_
      refine (goD (by omega) _ _).trans ?_
      exact goDn (by omega) _ _
    rw [e]
    rw [putI_lo (.inr h2)]
    rfl
  · obtain ⟨l', g1, g2, g3⟩ := rput_loop w n (by omega) n.toNat 0 [] (by omega) rfl (by omega) fun j hj => by omega
    show (Option.bind (E cx _ [.arr 0 1 0 0, vi ((0 : Nat) : Int), vu w, vi n] [⟨.arr, 5, 1, 1, bytesI []⟩]) _) = _
    rw [g1]
    show ((yRows [⟨.arr, 5, 1, 1, bytesI l'⟩] 1 (.arr 0 1 0 (n.toNat + 0))).bind fun ys => (numsOf ys).bind fun ns => some (Out.ret (vs (Go.strOfNums ns)), [])) = _
    rw [yRows_arr (by simp [bytesI, g2])]
    show ((numsOf (bytesI l')).bind fun ns => some (Out.ret (vs (Go.strOfNums ns)), [])) = _
    rw [numsOf_bytes]
    show some (Out.ret (vs (Go.strOfNums l')), []) = _
    rw [strOf, map_put g2 g3]
    by_cases h1 : n < 1
    · rw [putI_lo (.inl h1), show n.toNat + 0 = 0 by omega]
      rfl
    · rw [putI_ok h1 h2]
      rfl
end
/- Octets: Take, and the document's; numbers; texts compared; picks; raw parts. -/
section
theorem p64 {i : Nat} (hi : i ≤ 7) : 256 ^ i * 256 ≤ 18446744073709551616 := by
  have : 256 ^ i ≤ 256 ^ 7 := Nat.pow_le_pow_right (by decide) hi
  have e : (256 : Nat) ^ 7 = 72057594037927936 := by decide
  omega
theorem shl8 {w : Nat} (hw : w * 256 < 18446744073709551616) : ishl .u64 (w : Int) 8 = ((w * 256 : Nat) : Int) := by
  unfold ishl
  show IntKind.wrap .u64 ((w : Int) * 256) = _
  rw [show (w : Int) * 256 = ((w * 256 : Nat) : Int) by omega]
  exact wu_id (by omega) (by omega)
theorem ior8 {w : Nat} (hw : w * 256 < 18446744073709551616) (b : UInt8) : ior .u64 (ishl .u64 (w : Int) 8) (IntKind.wrap .u64 ((b.toNat : Nat) : Int)) = ((w * 256 + b.toNat : Nat) : Int) := by
  have hb := b.toNat_lt
  have h2 : w * 256 + b.toNat = (w * 256 ||| b.toNat) := by
    have := Nat.two_pow_add_eq_or_of_lt (i := 8) (b := b.toNat) (by omega) w
    rw [show (2 : Nat) ^ 8 = 256 by decide] at this
    rw [Nat.mul_comm]
    exact this
  rw [shl8 hw, wu_id (by omega) (by omega)]
  unfold ior
  rw [h2]
  have h3 : (BitVec.ofInt IntKind.u64.bits ((w * 256 : Nat) : Int) ||| BitVec.ofInt IntKind.u64.bits ((b.toNat : Nat) : Int)).toNat = (w * 256 ||| b.toNat) := by
    rw [BitVec.toNat_or, BitVec.ofInt_natCast, BitVec.ofInt_natCast, BitVec.toNat_ofNat, BitVec.toNat_ofNat]
    show (w * 256 % 2 ^ 64 ||| b.toNat % 2 ^ 64) = _
    rw [Nat.mod_eq_of_lt (by omega), Nat.mod_eq_of_lt (by omega)]
  rw [h3]
  exact wu_id (by omega) (by omega)
theorem take_loop (l : B) (n : Int) : ∀ (k w : Nat), k ≤ l.length → w * 256 ^ k + 256 ^ k ≤ 18446744073709551616 → k ≤ 8 →
    E cx (Key.loop 16 [true, true, false, true, false]) [vu w, vi ((k : Int) - 1), vs (mk l), vi n] [] = some (Out.jump (.exit 1) [vu ((w * 256 ^ k + val (l.take k) : Nat) : Int), vi (-1)], [])
  | 0, w, hk, hw, h8 => by
    refine (f16_l0 _ _ _ _).trans ((goDn (by omega) _ _).trans ?_)
    simp [val]
  | k + 1, w, hk, hw, h8 => by
    have hb : l[k]? = some l[k] := List.getElem?_eq_getElem (by omega)
    have hpos : 1 ≤ 256 ^ k := Nat.one_le_pow _ _ (by omega)
    have hp : 256 ^ (k + 1) = 256 ^ k * 256 := Nat.pow_succ ..
    rw [hp, ← Nat.mul_assoc] at hw
    have hw1 : w * 256 ≤ w * 256 * 256 ^ k := Nat.le_mul_of_pos_right _ (by omega)
    have e3 : w * 256 ^ k * 256 = w * 256 * 256 ^ k := by rw [Nat.mul_assoc, Nat.mul_comm (256 ^ k) 256, ← Nat.mul_assoc]
    rw [e3] at hw
    have hlt : w * 256 < 18446744073709551616 := by omega
    have hbt := l[k].toNat_lt
    refine (f16_l0 _ _ _ _).trans ((goD (by omega) _ _).trans ?_)
    refine (goY (by omega) _ _).trans ?_
    refine (goG (n := k) (by omega) hb _).trans ?_
    rw [ior8 hlt, wr_sub (by omega) (by omega)]
    have ih := take_loop l n k (w * 256 + l[k].toNat) (by omega) (by
      rw [Nat.add_mul]
      have : l[k].toNat * 256 ^ k + 256 ^ k ≤ 256 * 256 ^ k := by
        rw [show l[k].toNat * 256 ^ k + 256 ^ k = (l[k].toNat + 1) * 256 ^ k by rw [Nat.add_mul, Nat.one_mul]]
        exact Nat.mul_le_mul_right _ (by omega)
      omega) (by omega)
    rw [show ((k + 1 : Nat) : Int) - 1 - 1 = (k : Int) - 1 by omega, ih]
    congr 5
    rw [val_take_succ hb, Nat.add_mul, hp, ← Nat.mul_assoc, e3]
    omega
/-- Take. -/
def takeR (l : B) (n : Int) : Nat × B × Int := if n < 1 ∨ n > 8 then (0, [], 1) else if (l.length : Int) < n then (0, [], 3) else (val (l.take n.toNat), l.drop n.toNat, 0)
theorem takeR_1 {l : B} {n : Int} (h : n < 1 ∨ n > 8) : takeR l n = (0, [], 1) := if_pos h
theorem takeR_2 {l : B} {n : Int} (h : ¬ (n < 1 ∨ n > 8)) (h2 : (l.length : Int) < n) : takeR l n = (0, [], 3) := (if_neg h).trans (if_pos h2)
theorem takeR_3 {l : B} {n : Int} (h : ¬ (n < 1 ∨ n > 8)) (h2 : ¬ (l.length : Int) < n) : takeR l n = (val (l.take n.toNat), l.drop n.toNat, 0) := (if_neg h).trans (if_neg h2)
abbrev RT' (r : Nat × B × Int) : Option (Out × Heap) := RT r.1 r.2.1 r.2.2
theorem c16 (l : B) (n : Int) : E cx (Key.fn 16) [vs (mk l), vi n] [] = RT' (takeR l n) := by
  refine (f16 (mk l) n).trans ?_
  by_cases h1 : n < 1
  · rw [takeR_1 (.inl h1)]; exact goD h1 _ _
  refine (goDn h1 _ _).trans ?_
  by_cases h2 : n > 8
  · rw [takeR_1 (.inr h2)]; exact goD h2 _ _
  refine (goDn h2 _ _).trans ?_
  by_cases h3 : (l.length : Int) < n
  · rw [takeR_2 (by omega) h3]; exact goD h3 _ _
  refine (goDn h3 _ _).trans ?_
  rw [takeR_3 (by omega) h3]
  obtain ⟨m, rfl⟩ : ∃ m : Nat, n = m := ⟨n.toNat, by omega⟩
  have h := take_loop l m m 0 (by omega) (by
    have : 256 ^ m ≤ 256 ^ 8 := Nat.pow_le_pow_right (by decide) (by omega)
    have e : (256 : Nat) ^ 8 = 18446744073709551616 := by decide
    omega) (by omega)
  rw [Nat.zero_mul, Nat.zero_add] at h
  rw [wr_sub (by omega) (by omega)]
  show (Option.bind (E cx _ [vu ((0 : Nat) : Int), vi ((m : Int) - 1), vs (mk l), vi m] []) _) = _
  rw [h]
  show (if (0 : Int) ≤ (m : Int) then if (m : Int) ≤ ((ByteArray.size (mk l) : Nat) : Int) then some (Out.ret (AV.tuple [vu (val (l.take m)), vs (ByteArray.extract (mk l) (Int.toNat (m : Int)) (ByteArray.size (mk l))), vi 0]), []) else none else none) = _
  rw [goY (by omega), goY (by show (m : Int) ≤ (l.length : Int); omega), ext_mk]
  show some (Out.ret (AV.tuple [vu (val (l.take m)), vs (mk ((l.take l.length).drop m)), vi 0]), []) = _
  rw [List.take_length]
  rfl
theorem num_loop (l : B) (h8 : l.length ≤ 8) : ∀ (d i : Nat), d + i = l.length →
    E cx (Key.loop 40 [true, true, false, true, false]) [vu (val (l.take i)), vi i, vs (mk l)] [] = some (Out.jump (.exit 0) [vu (val l), vi l.length], [])
  | 0, i, hd => by
    refine (f40_l0 _ _ _).trans ((goDn (by show ¬ (i : Int) < (l.length : Int); omega) _ _).trans ?_)
    rw [List.take_of_length_le (by omega), show i = l.length by omega]
  | d + 1, i, hd => by
    have hb : l[i]? = some l[i] := List.getElem?_eq_getElem (by omega)
    have hm : IntKind.wrap .i64 (Int.mul 8 i) = 8 * i := wr_mul (by omega) (by omega)
    have hbt := l[i].toNat_lt
    refine (f40_l0 _ _ _).trans ((goD (by show (i : Int) < (l.length : Int); omega) _ _).trans ?_)
    refine (goY (by omega) _ _).trans ?_
    refine (goG (n := i) rfl hb _).trans ?_
    refine (goN (by rw [hm]; omega) _ _).trans ?_
    have hv := val_lt (l.take i)
    rw [List.length_take, Nat.min_eq_left (by omega)] at hv
    have hp := p64 (i := i) (by omega)
    have hbp : l[i].toNat * 256 ^ i ≤ 255 * 256 ^ i := Nat.mul_le_mul_right _ (by omega)
    have e1 : ishl .u64 (IntKind.wrap .u64 ((l[i].toNat : Nat) : Int)) (IntKind.wrap .i64 (Int.mul 8 i)) = ((l[i].toNat * 256 ^ i : Nat) : Int) := by
      rw [hm, wu_id (by omega) (by omega)]
      unfold ishl
      rw [show (8 * (i : Int)).toNat = 8 * i by omega, show IntKind.u64.bits = 64 from rfl, Nat.min_eq_left (by omega), Int.pow_mul]
      show IntKind.wrap .u64 ((l[i].toNat : Int) * (256 : Int) ^ i) = _
      have e : (l[i].toNat : Int) * (256 : Int) ^ i = ((l[i].toNat * 256 ^ i : Nat) : Int) := by
        rw [Int.natCast_mul, Int.natCast_pow]; rfl
      rw [e]
      exact wu_id (Int.natCast_nonneg _) (by omega)
    have e2 : IntKind.wrap .u64 (Int.add (val (l.take i)) ((l[i].toNat * 256 ^ i : Nat) : Int)) = ((val (l.take (i + 1)) : Nat) : Int) := by
      rw [val_take_succ hb]
      show IntKind.wrap .u64 ((val (l.take i) : Int) + ((l[i].toNat * 256 ^ i : Nat) : Int)) = _
      rw [← Int.natCast_add]
      exact wu_id (Int.natCast_nonneg _) (by omega)
    rw [e1, e2, wr_add (by omega) (by omega)]
    exact num_loop l h8 d (i + 1) (by omega)
theorem c40 (l : B) (h8 : l.length ≤ 8) : E cx (Key.fn 40) [vs (mk l)] [] = some (Out.ret (vu (val l)), []) := by
  refine (f40 (mk l)).trans ?_
  have := num_loop l h8 l.length 0 (by omega)
  rw [List.take_zero] at this
  show (Option.bind (E cx _ [vu (val ([] : B)), vi ((0 : Nat) : Int), vs (mk l)] []) _) = _
  rw [this]
  rfl
theorem c17 (l : B) (n : Int) : E cx (Key.fn 17) [vs (mk l), vi n] [] = RT' (takeR l n) := by
  refine (f17 (mk l) n).trans ?_
  by_cases h1 : n < 1
  · rw [takeR_1 (.inl h1)]; exact goD h1 _ _
  refine (goDn h1 _ _).trans ?_
  by_cases h2 : n > 8
  · rw [takeR_1 (.inr h2)]; exact goD h2 _ _
  refine (goDn h2 _ _).trans ?_
  by_cases h3 : (l.length : Int) < n
  · rw [takeR_2 (by omega) h3]; exact goD h3 _ _
  refine (goDn h3 _ _).trans ?_
  rw [takeR_3 (by omega) h3]
  obtain ⟨m, rfl⟩ : ∃ m : Nat, n = m := ⟨n.toNat, by omega⟩
  have hl : (m : Int) ≤ ((ByteArray.size (mk l) : Nat) : Int) := by show (m : Int) ≤ (l.length : Int); omega
  refine (goY (by omega) _ _).trans ((goY hl _ _).trans ?_)
  rw [ext_mk]
  show (Option.bind (E cx (Key.fn 40) [vs (mk ((l.take m).drop 0))] []) _) = _
  rw [List.drop_zero]
  refine (goU (c40 (l.take m) (by rw [List.length_take]; omega)) _).trans ?_
  refine (goY (by omega) _ _).trans ((goY hl _ _).trans ?_)
  rw [ext_mk]
  show some (Out.ret (AV.tuple [vu (val (l.take m)), vs (mk ((l.take l.length).drop m)), vi 0]), []) = _
  rw [List.take_length]
  rfl
/-! ### Texts compared -/
theorem texts_loop (b0 : Bool) (a b : List B) (hab : a.length = b.length) (hl : a.length ≤ 1000) : ∀ (d i : Nat), d + i = a.length → (∀ j, j < i → a[j]? = b[j]?) →
    (a = b ∧ E cx (Key.loop 24 [true, true, false, true, false]) [vbool b0, vi i, .list 0 1 (rowsB a), .list 0 1 (rowsB b)] [] = some (Out.jump (.exit 0) [vbool b0, vi a.length], [])) ∨
    (a ≠ b ∧ ∃ j : Int, E cx (Key.loop 24 [true, true, false, true, false]) [vbool b0, vi i, .list 0 1 (rowsB a), .list 0 1 (rowsB b)] [] = some (Out.jump .ret [vbool false, vi j], []))
  | 0, i, hd, hj => by
    left
    refine ⟨List.ext_getElem? fun j => ?_, ?_⟩
    · by_cases hji : j < i
      · exact hj j hji
      · rw [List.getElem?_eq_none (by omega), List.getElem?_eq_none (by omega)]
    · refine (f24_l0 _ _ _ _).trans ((goDn (by simp [rowsB]; omega) _ _).trans ?_)
      rw [show i = a.length by omega]
  | d + 1, i, hd, hj => by
    have ha : a[i]? = some a[i] := List.getElem?_eq_getElem (by omega)
    have hb : b[i]? = some (b[i]'(by omega)) := List.getElem?_eq_getElem (by omega)
    have head : E cx (Key.loop 24 [true, true, false, true, false]) [vbool b0, vi i, .list 0 1 (rowsB a), .list 0 1 (rowsB b)] [] =
        (bif !List.beq (ByteArray.toList (mk a[i])) (ByteArray.toList (mk (b[i]'(by omega)))) then some (Out.jump .ret [vbool false, vi i], [])
          else E cx (Key.loop 24 [true, true, false, true, false]) [vbool b0, vi (IntKind.wrap .i64 (Int.add i 1)), .list 0 1 (rowsB a), .list 0 1 (rowsB b)] []) := by
      refine (f24_l0 _ _ _ _).trans ((goD (by simp [rowsB]; omega) _ _).trans ?_)
      refine (goY (by omega) _ _).trans ((goP (n := i) rfl ha _).trans ?_)
      exact (goY (by omega) _ _).trans (goP (n := i) rfl hb _)
    rw [head, wr_add (by omega) (by omega)]
    by_cases hab' : a[i] = b[i]'(by omega)
    · rw [goQn hab']
      exact texts_loop b0 a b hab hl d (i + 1) (by omega) fun j hj' => by
        by_cases hji : j = i
        · subst hji; rw [ha, hb, hab']
        · exact hj j (by omega)
    · right
      exact ⟨fun h => hab' (by subst h; rfl), i, goQt hab' _ _⟩
theorem c24 (a b : List B) (hl : a.length ≤ 1000) : E cx (Key.fn 24) [.list 0 1 (rowsB a), .list 0 1 (rowsB b)] [] = rb (decide (a = b)) := by
  refine (f24 _ _).trans ?_
  by_cases hab : a.length = b.length
  · refine (goE (by simp [rowsB, hab]) _ _).trans ?_
    rcases texts_loop false a b hab hl a.length 0 (by omega) fun j hj => by omega with ⟨h1, h2⟩ | ⟨h1, j, h2⟩
    · show (Option.bind (E cx _ [vbool false, vi ((0 : Nat) : Int), .list 0 1 (rowsB a), .list 0 1 (rowsB b)] []) _) = _
      rw [h2, decide_eq_true h1]
      rfl
    · show (Option.bind (E cx _ [vbool false, vi ((0 : Nat) : Int), .list 0 1 (rowsB a), .list 0 1 (rowsB b)] []) _) = _
      rw [h2, decide_eq_false h1]
      rfl
  · rw [decide_eq_false (fun h => hab (by rw [h]))]
    exact goEn (by simp [rowsB]; omega) _ _
/-! ### Picks -/
def pickI (c n : Int) : Int := if c < 0 then (-(c + 1)).tmod n else c.tmod n
theorem c15 {c n : Int} (hc : RI c) (hn : 0 < n) : E cx (Key.fn 15) [vi c, vi n] [] = some (Out.ret (vi (pickI c n)), []) := by
  refine (f15 c n).trans ?_
  unfold pickI
  by_cases h : c < 0
  · refine (goD h _ _).trans ((goN (by omega) _ _).trans ?_)
    rw [wr_add (by omega) (by omega), show Int.sub 0 (c + 1) = 0 - (c + 1) from rfl, show (0 : Int) - (c + 1) = -(c + 1) by omega, wr_id (by omega) (by omega), if_pos h]
  · refine (goDn h _ _).trans ((goN (by omega) _ _).trans ?_)
    rw [if_neg h]
theorem pickI_lt {c n : Int} (hn : 0 < n) : 0 ≤ pickI c n ∧ pickI c n < n := by
  unfold pickI
  split
  · rw [Int.tmod_eq_emod_of_nonneg (by omega)]
    exact ⟨Int.emod_nonneg _ (by omega), Int.emod_lt_of_pos _ hn⟩
  · rw [Int.tmod_eq_emod_of_nonneg (by omega)]
    exact ⟨Int.emod_nonneg _ (by omega), Int.emod_lt_of_pos _ hn⟩
end
/- Octets: raw parts; Join, and the document's. -/
section
/-! ### Raw parts -/
def partsR (raw : List B) : List B := (raw.take 6).map (·.take 20)
theorem min_take (l : B) {n : Nat} : ∃ m : Nat, (if (n : Int) < ((ByteArray.size (mk l) : Nat) : Int) then (n : Int) else ((ByteArray.size (mk l) : Nat) : Int)) = m ∧ m ≤ l.length ∧ l.take m = l.take n := by
  show ∃ m : Nat, (if (n : Int) < (l.length : Int) then (n : Int) else (l.length : Int)) = m ∧ _
  by_cases h : (n : Int) < (l.length : Int)
  · exact ⟨n, by rw [if_pos h], by omega, rfl⟩
  · exact ⟨l.length, by rw [if_neg h], Nat.le_refl _, by rw [List.take_length, List.take_of_length_le (by omega)]⟩
theorem parts_loop (raw : List B) : ∀ (d i : Nat), d + i = min raw.length 6 →
    E cx (Key.loop 14 [true, true, false, true, false]) [.arr 0 1 0 i, vi i, .list 0 1 (rowsB raw)] [⟨.arr, 9, 1, 1, rowsB ((raw.take i).map (·.take 20))⟩] =
      some (Out.jump (.exit 0) [.arr 0 1 0 (d + i), vi (d + i : Nat)], [⟨.arr, 9, 1, 1, rowsB ((raw.take (d + i)).map (·.take 20))⟩])
  | 0, i, hd => by
    rw [Nat.zero_add]
    refine (f14_l0 _ _ _ _).trans ?_
    by_cases h : i < raw.length
    · refine (goD (by simp [rowsB]; omega) _ _).trans ?_
      exact goDn (by omega) _ _
    · exact goDn (by simp [rowsB]; omega) _ _
  | d + 1, i, hd => by
    have hr : raw[i]? = some (raw[i]'(by omega)) := List.getElem?_eq_getElem (by omega)
    obtain ⟨m, h1, h2, h3⟩ := min_take (raw[i]'(by omega)) (n := 20)
    have hlen : (rowsB ((raw.take i).map (·.take 20))).length = i := by simp [rowsB]; omega
    refine (f14_l0 _ _ _ _).trans ((goD (by simp [rowsB]; omega) _ _).trans ((goD (by omega) _ _).trans ?_))
    refine (goY (by omega) _ _).trans ((goP (n := i) rfl hr _).trans ?_)
    refine (goY (by omega) _ _).trans ((goP (n := i) rfl hr _).trans ?_)
    have h1' : (if (20 : Int) < ((ByteArray.size (mk (raw[i]'(by omega))) : Nat) : Int) then (20 : Int) else ((ByteArray.size (mk (raw[i]'(by omega))) : Nat) : Int)) = m := h1
    rw [h1']
    refine (goY (by omega) _ _).trans ((goY (by show (m : Int) ≤ ((raw[i]'(by omega)).length : Int); omega) _ _).trans ?_)
    refine (goCk (by show i = (rowsB _).length; rw [hlen]) _).trans ?_
    refine (goY (by show Nat.mul (Nat.add (rowsB _).length 1) 16 ≤ _; rw [hlen]; show (i + 1) * 16 ≤ _; omega) _ _).trans ?_
    have e2 : rowsB ((raw.take i).map (·.take 20)) ++ [[vs (ByteArray.extract (mk (raw[i]'(by omega))) 0 (Int.toNat (m : Int)))]] = rowsB ((raw.take (i + 1)).map (·.take 20)) := by
      have e3 : raw.take (i + 1) = raw.take i ++ [raw[i]'(by omega)] := by rw [List.take_add_one, hr]; rfl
      rw [ext_mk, Int.toNat_natCast, List.drop_zero, h3, e3]
      simp only [rowsB, List.map_append, List.map_cons, List.map_nil]
    show E cx _ [.arr 0 1 0 (Nat.add (rowsB ((raw.take i).map (·.take 20))).length 1), vi (IntKind.wrap .i64 (Int.add i 1)), .list 0 1 (rowsB raw)] [⟨.arr, 9, 1, 1, rowsB ((raw.take i).map (·.take 20)) ++ [[vs (ByteArray.extract (mk (raw[i]'(by omega))) 0 (Int.toNat (m : Int)))]]⟩] = _
    rw [e2, hlen, wr_add (by omega) (by omega), show d + 1 + i = d + (i + 1) by omega]
    exact parts_loop raw d (i + 1) (by omega)
theorem c14 (raw : List B) : E cx (Key.fn 14) [.list 0 1 (rowsB raw)] [] = some (Out.ret (.list 0 1 (rowsB (partsR raw))), []) := by
  refine (f14 _).trans ?_
  have h := parts_loop raw (min raw.length 6) 0 (by omega)
  show (Option.bind (E cx _ [.arr 0 1 0 0, vi ((0 : Nat) : Int), .list 0 1 (rowsB raw)] [⟨.arr, 9, 1, 1, rowsB ((raw.take 0).map (·.take 20))⟩]) _) = _
  rw [h]
  have e : raw.take (min raw.length 6 + 0) = raw.take 6 := by
    rw [Nat.add_zero]
    by_cases h : raw.length ≤ 6
    · rw [Nat.min_eq_left h, List.take_length, List.take_of_length_le h]
    · rw [Nat.min_eq_right (by omega)]
  show ((chkLe (Nat.add 0 (min raw.length 6 + 0)) (rowsB ((raw.take (min raw.length 6 + 0)).map (·.take 20))).length).bind fun _ =>
    some (Out.ret (.list 0 1 (List.drop 0 (List.take (Nat.add 0 (min raw.length 6 + 0)) (rowsB ((raw.take (min raw.length 6 + 0)).map (·.take 20)))))), [])) = _
  rw [e]
  have hlen : (rowsB (partsR raw)).length = min raw.length 6 := by simp [rowsB, partsR]; omega
  refine (goLe (by show 0 + (min raw.length 6 + 0) ≤ (rowsB (partsR raw)).length; omega) _).trans ?_
  show some (Out.ret (.list 0 1 (List.drop 0 (List.take (0 + (min raw.length 6 + 0)) (rowsB (partsR raw))))), []) = _
  rw [List.drop_zero, List.take_of_length_le (by omega)]
theorem partsR_len (raw : List B) : (partsR raw).length ≤ 6 := by simp [partsR]; omega
theorem partsR_flat (raw : List B) : (partsR raw).flatten.length ≤ 120 := by
  have h : ∀ l : List B, (∀ p ∈ l, p.length ≤ 20) → l.flatten.length ≤ 20 * l.length := by
    intro l
    induction l with
    | nil => simp
    | cons a l ih =>
      intro h
      have h1 := h a (List.mem_cons_self ..)
      have h2 := ih fun p hp => h p (List.mem_cons_of_mem _ hp)
      simp only [List.flatten_cons, List.length_append, List.length_cons]
      omega
  have := h (partsR raw) (fun p hp => by
    obtain ⟨q, _, rfl⟩ := List.mem_map.1 hp
    rw [List.length_take]
    omega)
  have := partsR_len raw
  omega

/-! ### Join -/
/-- Where parts begin, as bytes. -/
def hs : Nat → List B → B
  | _, [] => []
  | t, p :: r => put t 4 ++ hs (t + p.length) r
theorem put4 (t : Nat) : putI t 4 = put t 4 := putI_ok (by omega) (by omega)
theorem drop_cons {α : Type} {l r : List α} {i : Nat} {p : α} (h : l.drop i = p :: r) : l[i]? = some p ∧ l.drop (i + 1) = r ∧ i < l.length := by
  have h1 : l[i]? = some p := by
    have : l[i]? = (l.drop i)[0]? := by rw [List.getElem?_drop]; rfl
    rw [this, h]; rfl
  refine ⟨h1, ?_, (List.getElem?_eq_some_iff.1 h1).1⟩
  rw [← List.drop_drop (i := 1) (j := i), h] <;> rfl
theorem nobig {a b : Nat} (h : a + b ≤ 4000000) : ¬ ((Nat.add a b : Nat) : Int) > 9223372036854775807 := by
  show ¬ ((a + b : Nat) : Int) > _
  omega
theorem join_loop (P : List B) (s0 : ByteArray) (x0 : Int) (hP : P.length ≤ 8) : ∀ (rest : List B) (i t : Nat) (head body : B), P.drop i = rest → i + rest.length = P.length → t ≤ 65536 → body.length ≤ t → head.length + 4 * rest.length ≤ 2000000 →
    (t + rest.flatten.length ≤ 65536 → E cx (Key.loop 20 [true, true, true, true, false, true, false]) [vs s0, vi x0, vi t, vs (mk head), vs (mk body), vi i, .list 0 1 (rowsB P), vi P.length] [] =
        some (Out.jump (.exit 0) [vs s0, vi x0, vi (t + rest.flatten.length : Nat), vs (mk (head ++ hs t rest)), vs (mk (body ++ rest.flatten)), vi P.length], [])) ∧
    (¬ t + rest.flatten.length ≤ 65536 → ∃ (a : Int) (h b : ByteArray) (j : Int), E cx (Key.loop 20 [true, true, true, true, false, true, false]) [vs s0, vi x0, vi t, vs (mk head), vs (mk body), vi i, .list 0 1 (rowsB P), vi P.length] [] =
        some (Out.jump .ret [vs (mk []), vi 4, vi a, vs h, vs b, vi j], []))
  | [], i, t, head, body, hd, hil, ht, hb, hh => by
    simp only [List.length_nil] at hil
    refine ⟨fun _ => ?_, fun h => absurd ht (by simpa using h)⟩
    refine (f20_l0 _ _ _ _ _ _ _ _).trans ((goDn (by omega) _ _).trans ?_)
    simp [hs, ← hil]
  | p :: rest, i, t, head, body, hd, hil, ht, hb, hh => by
    simp only [List.length_cons] at hil
    obtain ⟨hp, hd', hi⟩ := drop_cons hd
    have hflat : (p :: rest).flatten.length = p.length + rest.flatten.length := by simp
    simp only [List.length_cons] at hh
    have head0 : E cx (Key.loop 20 [true, true, true, true, false, true, false]) [vs s0, vi x0, vi t, vs (mk head), vs (mk body), vi i, .list 0 1 (rowsB P), vi P.length] [] =
        (bif decide (((ByteArray.size (mk p) : Nat) : Int) > IntKind.wrap .i64 (Int.sub 65536 t)) then some (Out.jump .ret [vs (mk []), vi 4, vi t, vs (mk head), vs (mk body), vi i], [])
          else Option.bind (E cx (Key.fn 18) [vu (IntKind.wrap .u64 t), vi 4] []) fun r => Option.bind (ret1 r) fun v => Option.bind (AV.str? v) fun s =>
            if ((Nat.add (ByteArray.size (mk head)) (ByteArray.size s) : Nat) : Int) > 9223372036854775807 then none else
            if ((Nat.add (ByteArray.size (mk body)) (ByteArray.size (mk p)) : Nat) : Int) > 9223372036854775807 then none else
            E cx (Key.loop 20 [true, true, true, true, false, true, false]) [vs s0, vi x0, vi (IntKind.wrap .i64 (Int.add t ((ByteArray.size (mk p) : Nat) : Int))), vs (ByteArray.append (mk head) s), vs (ByteArray.append (mk body) (mk p)), vi (IntKind.wrap .i64 (Int.add i 1)), .list 0 1 (rowsB P), vi P.length] []) := by
      refine (f20_l0 _ _ _ _ _ _ _ _).trans ((goD (by omega) _ _).trans ((goY (by omega) _ _).trans ?_))
      exact goP (n := i) rfl hp _
    rw [wr_sub (by omega) (by omega)] at head0
    by_cases hf : t + p.length ≤ 65536
    · have hn : ¬ ((ByteArray.size (mk p) : Nat) : Int) > 65536 - t := by show ¬ (p.length : Int) > 65536 - t; omega
      rw [goDn hn, wu_id (by omega) (by omega)] at head0
      have hput := c18 t 4
      rw [put4] at hput
      rw [goS hput] at head0
      have h4 := put_len t 4
      rw [goN (nobig (by show head.length + (put t 4).length ≤ _; omega)), goN (nobig (by show body.length + p.length ≤ _; omega)), app_mk, app_mk] at head0
      have e1 : IntKind.wrap .i64 (Int.add t ((ByteArray.size (mk p) : Nat) : Int)) = ((t + p.length : Nat) : Int) := wr_add (b := (p.length : Int)) (by omega) (by omega)
      rw [e1, wr_add (a := (i : Int)) (b := 1) (by omega) (by omega)] at head0
      have ih := join_loop P s0 x0 hP rest (i + 1) (t + p.length) (head ++ put t 4) (body ++ p) hd' (by omega) hf (by simp; omega) (by simp [h4]; omega)
      rw [hflat, head0]
      refine ⟨fun h => ?_, fun h => ?_⟩
      · have := ih.1 (by omega)
        rw [show ((i : Int) + 1) = ((i + 1 : Nat) : Int) by omega, this]
        simp only [hs, List.flatten_cons, List.append_assoc, Nat.add_assoc]
      · have := ih.2 (by omega)
        rw [show ((i : Int) + 1) = ((i + 1 : Nat) : Int) by omega]
        exact this
    · have hn : ((ByteArray.size (mk p) : Nat) : Int) > 65536 - t := by show (p.length : Int) > 65536 - t; omega
      rw [goD hn] at head0
      rw [hflat, head0]
      exact ⟨fun h => by omega, fun _ => ⟨_, _, _, _, rfl⟩⟩
/-- Join. -/
def joinR (f : B) (P : List B) : B × Int := if P.length ≤ 8 ∧ f.length + 4 * P.length + P.flatten.length ≤ 65536 then (f ++ hs (f.length + 4 * P.length) P ++ P.flatten, 0) else ([], 4)
theorem joinR_ok {f : B} {P : List B} (h1 : P.length ≤ 8) (h2 : f.length + 4 * P.length + P.flatten.length ≤ 65536) : joinR f P = (f ++ hs (f.length + 4 * P.length) P ++ P.flatten, 0) := if_pos ⟨h1, h2⟩
theorem joinR_no {f : B} {P : List B} (h : ¬ (P.length ≤ 8 ∧ f.length + 4 * P.length + P.flatten.length ≤ 65536)) : joinR f P = ([], 4) := if_neg h
abbrev RJ' (r : B × Int) : Option (Out × Heap) := RJ r.1 r.2
theorem hs_len : ∀ (t : Nat) (P : List B), (hs t P).length = 4 * P.length
  | _, [] => rfl
  | t, p :: r => by
    simp only [hs, List.length_append, put_len, hs_len, List.length_cons]
    omega
theorem rows_len (P : List B) : (rowsB P).length = P.length := by simp [rowsB]
theorem c20 (f : B) (P : List B) (hf : f.length ≤ 1000000) : E cx (Key.fn 20) [vs (mk f), .list 0 1 (rowsB P)] [] = RJ' (joinR f P) := by
  refine (f20 (mk f) (rowsB P)).trans ?_
  rw [rows_len]
  by_cases h1 : (P.length : Int) > 8
  · rw [joinR_no (by omega)]
    exact goD h1 _ _
  refine (goDn h1 _ _).trans ?_
  have e1 : IntKind.wrap .i64 (Int.add ((ByteArray.size (mk f) : Nat) : Int) (IntKind.wrap .i64 (Int.mul 4 (P.length : Int)))) = ((f.length + 4 * P.length : Nat) : Int) := by
    rw [wr_mul (by omega) (by omega)]
    exact wr_add (a := (f.length : Int)) (by omega) (by omega)
  rw [e1]
  by_cases h2 : ((f.length + 4 * P.length : Nat) : Int) > 65536
  · rw [joinR_no (by omega)]
    exact goD h2 _ _
  refine (goDn h2 _ _).trans ?_
  have hl := join_loop P (mk []) 0 (by omega) P 0 (f.length + 4 * P.length) f [] rfl (by omega) (by omega) (by simp) (by omega)
  show (Option.bind (E cx _ [vs (mk []), vi 0, vi (f.length + 4 * P.length : Nat), vs (mk f), vs (mk []), vi ((0 : Nat) : Int), .list 0 1 (rowsB P), vi P.length] []) _) = _
  by_cases h3 : f.length + 4 * P.length + P.flatten.length ≤ 65536
  · rw [hl.1 h3, joinR_ok (by omega) h3]
    show (if ((Nat.add (ByteArray.size (mk (f ++ hs (f.length + 4 * P.length) P))) (ByteArray.size (mk ([] ++ P.flatten))) : Nat) : Int) > 9223372036854775807 then none else
      some (Out.ret (AV.tuple [vs (ByteArray.append (mk (f ++ hs (f.length + 4 * P.length) P)) (mk ([] ++ P.flatten))), vi 0]), [])) = _
    rw [goN (nobig (by
      show (f ++ hs (f.length + 4 * P.length) P).length + ([] ++ P.flatten).length ≤ _
      rw [List.length_append, hs_len, List.nil_append]
      omega)), app_mk, List.nil_append]
  · obtain ⟨a, h, b, j, he⟩ := hl.2 h3
    rw [he, joinR_no (by omega)]
    rfl
theorem rjoin_loop (P : List B) (s0 : ByteArray) (x0 : Int) (hP : P.length ≤ 8) : ∀ (rest : List B) (i t : Nat) (head body : B), P.drop i = rest → i + rest.length = P.length → t + 65536 * rest.length ≤ 2000000 → body.length ≤ t → head.length + 4 * rest.length ≤ 2000000 →
    ((∀ p ∈ rest, p.length ≤ 65536) → E cx (Key.loop 21 [true, true, true, true, true, false, true, false]) [vs s0, vi x0, vi t, vs (mk head), vs (mk body), vi i, .list 0 1 (rowsB P)] [] =
        some (Out.jump (.exit 0) [vs s0, vi x0, vi (t + rest.flatten.length : Nat), vs (mk (head ++ hs t rest)), vs (mk (body ++ rest.flatten)), vi P.length], [])) ∧
    (¬ (∀ p ∈ rest, p.length ≤ 65536) → ∃ (a : Int) (h b : ByteArray) (j : Int), E cx (Key.loop 21 [true, true, true, true, true, false, true, false]) [vs s0, vi x0, vi t, vs (mk head), vs (mk body), vi i, .list 0 1 (rowsB P)] [] =
        some (Out.jump .ret [vs (mk []), vi 4, vi a, vs h, vs b, vi j], []))
  | [], i, t, head, body, hd, hil, ht, hb, hh => by
    simp only [List.length_nil] at hil
    refine ⟨fun _ => ?_, fun h => absurd (fun p hp => by cases hp) h⟩
    refine (f21_l0 _ _ _ _ _ _ _).trans ((goDn (by rw [rows_len]; omega) _ _).trans ?_)
    simp [hs, ← hil]
  | p :: rest, i, t, head, body, hd, hil, ht, hb, hh => by
    simp only [List.length_cons] at hil
    obtain ⟨hp, hd', hi⟩ := drop_cons hd
    have hflat : (p :: rest).flatten.length = p.length + rest.flatten.length := by simp
    simp only [List.length_cons] at hh ht
    have hall : (∀ q ∈ p :: rest, q.length ≤ 65536) ↔ p.length ≤ 65536 ∧ ∀ q ∈ rest, q.length ≤ 65536 := by simp
    rw [hall]
    have head0 : E cx (Key.loop 21 [true, true, true, true, true, false, true, false]) [vs s0, vi x0, vi t, vs (mk head), vs (mk body), vi i, .list 0 1 (rowsB P)] [] =
        (bif decide (((ByteArray.size (mk p) : Nat) : Int) > 65536) then some (Out.jump .ret [vs (mk []), vi 4, vi t, vs (mk head), vs (mk body), vi i], [])
          else Option.bind (E cx (Key.fn 19) [vu (IntKind.wrap .u64 t), vi 4] []) fun r => Option.bind (ret1 r) fun v => Option.bind (AV.str? v) fun s =>
            if ((Nat.add (ByteArray.size (mk head)) (ByteArray.size s) : Nat) : Int) > 9223372036854775807 then none else
            if ((Nat.add (ByteArray.size (mk body)) (ByteArray.size (mk p)) : Nat) : Int) > 9223372036854775807 then none else
            E cx (Key.loop 21 [true, true, true, true, true, false, true, false]) [vs s0, vi x0, vi (IntKind.wrap .i64 (Int.add t ((ByteArray.size (mk p) : Nat) : Int))), vs (ByteArray.append (mk head) s), vs (ByteArray.append (mk body) (mk p)), vi (IntKind.wrap .i64 (Int.add i 1)), .list 0 1 (rowsB P)] []) := by
      refine (f21_l0 _ _ _ _ _ _ _).trans ((goD (by rw [rows_len]; omega) _ _).trans ((goY (by omega) _ _).trans ((goP (n := i) rfl hp _).trans ?_)))
      congr 1
      congr 1
      funext r
      congr 1
      funext v
      congr 1
      funext s
      congr 1
      refine (goY (by omega) _ _).trans ((goP (n := i) rfl hp _).trans ?_)
      congr 1
      exact (goY (by omega) _ _).trans (goP (n := i) rfl hp _)
    by_cases hf : p.length ≤ 65536
    · have hn : ¬ ((ByteArray.size (mk p) : Nat) : Int) > 65536 := by show ¬ (p.length : Int) > 65536; omega
      rw [goDn hn, wu_id (by omega) (by omega)] at head0
      have hput := c19 t 4
      rw [put4] at hput
      rw [goS hput] at head0
      have h4 := put_len t 4
      rw [goN (nobig (by show head.length + (put t 4).length ≤ _; omega)), goN (nobig (by show body.length + p.length ≤ _; omega)), app_mk, app_mk] at head0
      have e1 : IntKind.wrap .i64 (Int.add t ((ByteArray.size (mk p) : Nat) : Int)) = ((t + p.length : Nat) : Int) := wr_add (b := (p.length : Int)) (by omega) (by omega)
      rw [e1, wr_add (a := (i : Int)) (b := 1) (by omega) (by omega)] at head0
      have ih := rjoin_loop P s0 x0 hP rest (i + 1) (t + p.length) (head ++ put t 4) (body ++ p) hd' (by omega) (by omega) (by simp; omega) (by simp [h4]; omega)
      rw [hflat, head0]
      refine ⟨fun h => ?_, fun h => ?_⟩
      · have := ih.1 h.2
        rw [show ((i : Int) + 1) = ((i + 1 : Nat) : Int) by omega, this]
        simp only [hs, List.flatten_cons, List.append_assoc, Nat.add_assoc]
      · have := ih.2 fun h' => h ⟨hf, h'⟩
        rw [show ((i : Int) + 1) = ((i + 1 : Nat) : Int) by omega]
        exact this
    · have hn : ((ByteArray.size (mk p) : Nat) : Int) > 65536 := by show (p.length : Int) > 65536; omega
      rw [goD hn] at head0
      rw [head0]
      exact ⟨fun h => absurd h.1 hf, fun _ => ⟨_, _, _, _, rfl⟩⟩
theorem flat_ge {p : B} : ∀ {P : List B}, p ∈ P → p.length ≤ P.flatten.length
  | q :: P, h => by
    simp only [List.flatten_cons, List.length_append]
    rcases List.mem_cons.1 h with rfl | h
    · omega
    · have := flat_ge h
      omega
theorem c21 (f : B) (P : List B) (hf : f.length ≤ 1000000) : E cx (Key.fn 21) [vs (mk f), .list 0 1 (rowsB P)] [] = RJ' (joinR f P) := by
  refine (f21 (mk f) (rowsB P)).trans ?_
  rw [rows_len]
  by_cases h1 : (P.length : Int) > 8
  · rw [joinR_no (by omega)]
    exact goD h1 _ _
  refine (goDn h1 _ _).trans ?_
  by_cases h2 : ((ByteArray.size (mk f) : Nat) : Int) > 65536
  · have : (f.length : Int) > 65536 := h2
    rw [joinR_no (by omega)]
    exact goD h2 _ _
  refine (goDn h2 _ _).trans ?_
  have h2' : ¬ (f.length : Int) > 65536 := h2
  have e1 : IntKind.wrap .i64 (Int.add ((ByteArray.size (mk f) : Nat) : Int) (IntKind.wrap .i64 (Int.mul 4 (P.length : Int)))) = ((f.length + 4 * P.length : Nat) : Int) := by
    rw [wr_mul (by omega) (by omega)]
    exact wr_add (a := (f.length : Int)) (by omega) (by omega)
  rw [e1]
  have hl := rjoin_loop P (mk []) 0 (by omega) P 0 (f.length + 4 * P.length) f [] rfl (by omega) (by omega) (by simp) (by omega)
  show (Option.bind (E cx _ [vs (mk []), vi 0, vi (f.length + 4 * P.length : Nat), vs (mk f), vs (mk []), vi ((0 : Nat) : Int), .list 0 1 (rowsB P)] []) _) = _
  by_cases h3 : ∀ p ∈ P, p.length ≤ 65536
  · rw [hl.1 h3]
    show (bif decide (((f.length + 4 * P.length + P.flatten.length : Nat) : Int) > 65536) then some (Out.ret (AV.tuple [vs (mk []), vi 4]), []) else
      if ((Nat.add (ByteArray.size (mk (f ++ hs (f.length + 4 * P.length) P))) (ByteArray.size (mk ([] ++ P.flatten))) : Nat) : Int) > 9223372036854775807 then none else
      some (Out.ret (AV.tuple [vs (ByteArray.append (mk (f ++ hs (f.length + 4 * P.length) P)) (mk ([] ++ P.flatten))), vi 0]), [])) = _
    by_cases h4 : f.length + 4 * P.length + P.flatten.length ≤ 65536
    · rw [joinR_ok (by omega) h4, goDn (by omega), goN (nobig (by
        show (f ++ hs (f.length + 4 * P.length) P).length + ([] ++ P.flatten).length ≤ _
        rw [List.length_append, hs_len, List.nil_append]
        omega)), app_mk, List.nil_append]
    · rw [joinR_no (by omega), goD (by omega)]
  · obtain ⟨a, h, b, j, he⟩ := hl.2 h3
    rw [he, joinR_no (fun h => h3 fun p hp => by have := flat_ge hp; omega)]
    rfl
end
/- Octets: where parts are; Split. -/
section
def off (s : B) (f i : Nat) : Nat := val ((s.drop (f + 4 * i)).take 4)
def edge (s : B) (f m i : Nat) : Nat := if i < m then off s f i else s.length
def okS (s : B) (f m : Nat) : Prop := (m = 0 → f = s.length) ∧ (0 < m → off s f 0 = f + 4 * m) ∧ ∀ k, k < m → edge s f m k ≤ edge s f m (k + 1)
def piece (s : B) (f m k : Nat) : B := (s.take (edge s f m (k + 1))).drop (edge s f m k)
theorem off_lt (s : B) (f i : Nat) : off s f i < 4294967296 := by
  have h := val_lt ((s.drop (f + 4 * i)).take 4)
  have h2 : 256 ^ ((s.drop (f + 4 * i)).take 4).length ≤ 256 ^ 4 := Nat.pow_le_pow_right (by decide) (by rw [List.length_take]; omega)
  have e : (256 : Nat) ^ 4 = 4294967296 := by decide
  unfold off
  omega
abbrev L42a : Key := Key.loop 42 [true, true, true, true, true, true, true, false, true, false]
abbrev L42b : Key := Key.loop 42 [true, true, true, true, true, true, true, true, true, false, true, false]
abbrev Pan2 (e : Int) : JX := .pan (.iface 72 (.agg [vi e]))
/-- What is left to read, ahead of a round. -/
abbrev left (s : B) (f m i : Nat) : B := (s.take (f + 4 * m)).drop (f + 4 * i)
theorem take_left {s : B} {f m i : Nat} (hi : i < m) (hs : f + 4 * m ≤ s.length) : takeR (left s f m i) 4 = (off s f i, left s f m (i + 1), 0) := by
  have hl : (left s f m i).length = 4 * m - 4 * i := by
    rw [List.length_drop, List.length_take, Nat.min_eq_left hs]; omega
  rw [takeR_3 (by omega) (by omega)]
  have e1 : (left s f m i).take 4 = (s.drop (f + 4 * i)).take 4 := by
    unfold left
    rw [List.drop_take, List.take_take, Nat.min_eq_left (by omega)]
  have e2 : (left s f m i).drop 4 = left s f m (i + 1) := by
    unfold left
    rw [List.drop_drop]
    congr 1
  show (val ((left s f m i).take 4), (left s f m i).drop 4, (0 : Int)) = _
  rw [e1, e2]
  rfl
theorem head42 {s s1 : B} {f m i n : Nat} {l : List Int} {x71 x72 : Int} (hi : i < m) (hm : m ≤ 8) (hs : f + 4 * m ≤ s.length) :
    E cx L42a [.arr 0 1 0 n, vs (mk (left s f m i)), vi i, vs (mk s1), vi x71, vi x72, vi m] [⟨.arr, 3, 1, 1, ints l⟩] =
      (bif decide ((i : Int) > 0) then (chk n (List.length (ints l))).bind fun _ => if Nat.mul (Nat.add (List.length (ints l)) 1) 8 ≤ 140737488355328 then
          bif decide ((i : Int) > 0) then E cx L42a [.arr 0 1 0 (Nat.add (List.length (ints l)) 1), vs (mk (left s f m (i + 1))), vi (IntKind.wrap .i64 (Int.add i 1)), vs (mk s1), vi x71, vi x72, vi m] [⟨.arr, 3, 1, 1, ints l ++ [[vi (IntKind.wrap .i64 (off s f i))]]⟩]
          else bif decide (IntKind.wrap .i64 (off s f i) = x72) then E cx L42a [.arr 0 1 0 (Nat.add (List.length (ints l)) 1), vs (mk (left s f m (i + 1))), vi (IntKind.wrap .i64 (Int.add i 1)), vs (mk s1), vi x71, vi x72, vi m] [⟨.arr, 3, 1, 1, ints l ++ [[vi (IntKind.wrap .i64 (off s f i))]]⟩]
            else some (Out.jump (Pan2 2) [.arr 0 1 0 (Nat.add (List.length (ints l)) 1), vs (mk (left s f m (i + 1))), vi i], [⟨.arr, 3, 1, 1, ints l ++ [[vi (IntKind.wrap .i64 (off s f i))]]⟩])
          else none
        else bif decide ((i : Int) > 0) then E cx L42a [.arr 0 1 0 n, vs (mk (left s f m (i + 1))), vi (IntKind.wrap .i64 (Int.add i 1)), vs (mk s1), vi x71, vi x72, vi m] [⟨.arr, 3, 1, 1, ints l⟩]
          else bif decide (IntKind.wrap .i64 (off s f i) = x72) then E cx L42a [.arr 0 1 0 n, vs (mk (left s f m (i + 1))), vi (IntKind.wrap .i64 (Int.add i 1)), vs (mk s1), vi x71, vi x72, vi m] [⟨.arr, 3, 1, 1, ints l⟩]
            else some (Out.jump (Pan2 2) [.arr 0 1 0 n, vs (mk (left s f m (i + 1))), vi i], [⟨.arr, 3, 1, 1, ints l⟩])) := by
  refine (f42_l0 _ _ _ _ _ _ _ _).trans ((goD (by omega) _ _).trans ?_)
  have hc := c16 (left s f m i) 4
  rw [take_left hi hs] at hc
  exact goTk hc _
theorem w64 {s : B} {f i : Nat} : IntKind.wrap .i64 (off s f i) = ((off s f i : Nat) : Int) := wr_id (by omega) (by have := off_lt s f i; omega)
theorem ints_len (l : List Int) : (ints l).length = l.length := by simp [ints]
theorem loop42a {s s1 : B} {f m : Nat} {x71 x72 : Int} (hm : m ≤ 8) (hs : f + 4 * m ≤ s.length) : ∀ (d i : Nat) (l : List Int), d + i = m → 1 ≤ i → l.length = i →
    ∃ l' r', E cx L42a [.arr 0 1 0 i, vs (mk (left s f m i)), vi i, vs (mk s1), vi x71, vi x72, vi m] [⟨.arr, 3, 1, 1, ints l⟩] = some (Out.jump (.exit 0) [.arr 0 1 0 m, vs (mk r'), vi m], [⟨.arr, 3, 1, 1, ints l'⟩]) ∧
      l'.length = m ∧ (∀ j, j < i → l'[j]? = l[j]?) ∧ ∀ j, i ≤ j → j < m → l'[j]? = some ((off s f j : Nat) : Int)
  | 0, i, l, hd, hi, hl => by
    have : i = m := by omega
    subst this
    exact ⟨l, _, (f42_l0 _ _ _ _ _ _ _ _).trans (goDn (by omega) _ _), hl, fun _ _ => rfl, fun j h1 h2 => by omega⟩
  | d + 1, i, l, hd, hi, hl => by
    obtain ⟨l', r', h1, h2, h3, h4⟩ := loop42a (s := s) (s1 := s1) (f := f) (m := m) (x71 := x71) (x72 := x72) hm hs d (i + 1) (l ++ [((off s f i : Nat) : Int)]) (by omega) (by omega) (by simp [hl])
    refine ⟨l', r', ?_, h2, fun j hj => ?_, fun j hj1 hj2 => ?_⟩
    · refine (head42 (by omega) hm hs).trans ((goD (by omega) _ _).trans ?_)
      rw [ints_len, hl]
      refine (goCk rfl _).trans ((goY (by show (i + 1) * 8 ≤ _; omega) _ _).trans ((goD (by omega) _ _).trans ?_))
      rw [w64, wr_add (by omega) (by omega)]
      have e : ints l ++ [[vi ((off s f i : Nat) : Int)]] = ints (l ++ [((off s f i : Nat) : Int)]) := by simp [ints]
      rw [e]
      exact h1
    · rw [h3 j (by omega), List.getElem?_append_left (by omega)]
    · by_cases hij : j = i
      · subst hij
        rw [h3 j (by omega), List.getElem?_append_right (by omega), hl]
        simp
      · exact h4 j (by omega) hj2
/-- All of the first loop. -/
theorem loop42 {s s1 : B} {f m : Nat} {x71 : Int} (hm : m ≤ 8) (hs : f + 4 * m ≤ s.length) :
    ((0 < m → off s f 0 = f + 4 * m) → ∃ l' r', E cx L42a [.arr 0 1 0 1, vs (mk (left s f m 0)), vi 0, vs (mk s1), vi x71, vi (f + 4 * m : Nat), vi m] [⟨.arr, 3, 1, 1, ints [((f + 4 * m : Nat) : Int)]⟩] =
        some (Out.jump (.exit 0) [.arr 0 1 0 (max 1 m), vs (mk r'), vi m], [⟨.arr, 3, 1, 1, ints l'⟩]) ∧ l'.length = max 1 m ∧ l'[0]? = some ((f + 4 * m : Nat) : Int) ∧ ∀ j, 1 ≤ j → j < m → l'[j]? = some ((off s f j : Nat) : Int)) ∧
    (¬ (0 < m → off s f 0 = f + 4 * m) → ∃ l' r', E cx L42a [.arr 0 1 0 1, vs (mk (left s f m 0)), vi 0, vs (mk s1), vi x71, vi (f + 4 * m : Nat), vi m] [⟨.arr, 3, 1, 1, ints [((f + 4 * m : Nat) : Int)]⟩] =
        some (Out.jump (Pan2 2) [.arr 0 1 0 1, vs (mk r'), vi 0], [⟨.arr, 3, 1, 1, ints l'⟩])) := by
  by_cases h0 : m = 0
  · subst h0
    refine ⟨fun _ => ⟨_, _, (f42_l0 _ _ _ _ _ _ _ _).trans (goDn (by omega) _ _), rfl, rfl, fun j h1 h2 => by omega⟩, fun h => absurd (fun h0 => by omega) h⟩
  · have hd := head42 (s := s) (s1 := s1) (f := f) (m := m) (i := 0) (n := 1) (l := [((f + 4 * m : Nat) : Int)]) (x71 := x71) (x72 := (f + 4 * m : Nat)) (by omega) hm hs
    rw [goDn (by omega), goDn (by omega), w64] at hd
    by_cases h1 : off s f 0 = f + 4 * m
    · refine ⟨fun _ => ?_, fun h => absurd (fun _ => h1) h⟩
      rw [goD (by rw [h1]), wr_add (by omega) (by omega)] at hd
      obtain ⟨l', r', g1, g2, g3, g4⟩ := loop42a (s := s) (s1 := s1) (f := f) (m := m) (x71 := x71) (x72 := (f + 4 * m : Nat)) hm hs (m - 1) 1 [((f + 4 * m : Nat) : Int)] (by omega) (Nat.le_refl _) rfl
      refine ⟨l', r', ?_, by rw [g2]; omega, by rw [g3 0 (by omega)]; rfl, g4⟩
      rw [show max 1 m = m by omega]
      exact hd.trans g1
    · refine ⟨fun h => absurd (h (by omega)) h1, fun _ => ?_⟩
      rw [goDn (by omega)] at hd
      exact ⟨_, _, hd⟩
/-- The second one: edges rise. -/
theorem loop42b {s1 : B} {x88 x89 : Int} {L : List Int} {n : Nat} {g : Nat → Int} (hn : n ≤ 20) (hL : ∀ k, k < n → L[k]? = some (g k)) : ∀ (d i : Nat), d + i = n → 1 ≤ i →
    ((∀ k, i ≤ k → k < n → g (k - 1) ≤ g k) → E cx L42b [vi i, vs (mk s1), vi x88, vi x89, .arr 1 1 0 n] [⟨.dead, 3, 1, 1, []⟩, ⟨.arr, 3, 1, 1, ints L⟩] = some (Out.jump (.exit 2) [vi n], [⟨.dead, 3, 1, 1, []⟩, ⟨.arr, 3, 1, 1, ints L⟩])) ∧
    (¬ (∀ k, i ≤ k → k < n → g (k - 1) ≤ g k) → ∃ j : Int, E cx L42b [vi i, vs (mk s1), vi x88, vi x89, .arr 1 1 0 n] [⟨.dead, 3, 1, 1, []⟩, ⟨.arr, 3, 1, 1, ints L⟩] = some (Out.jump (Pan2 2) [vi j], [⟨.dead, 3, 1, 1, []⟩, ⟨.arr, 3, 1, 1, ints L⟩]))
  | 0, i, hd, hi => by
    refine ⟨fun _ => (f42_l1 _ _ _ _ _ _).trans ((goDn (by omega) _ _).trans ?_), fun h => absurd (fun k h1 h2 => by omega) h⟩
    rw [show i = n by omega]
  | d + 1, i, hd, hi => by
    have head : E cx L42b [vi i, vs (mk s1), vi x88, vi x89, .arr 1 1 0 n] [⟨.dead, 3, 1, 1, []⟩, ⟨.arr, 3, 1, 1, ints L⟩] =
        (bif decide (g (i - 1) ≤ g i) then E cx L42b [vi (i + 1 : Nat), vs (mk s1), vi x88, vi x89, .arr 1 1 0 n] [⟨.dead, 3, 1, 1, []⟩, ⟨.arr, 3, 1, 1, ints L⟩]
          else some (Out.jump (Pan2 2) [vi i], [⟨.dead, 3, 1, 1, []⟩, ⟨.arr, 3, 1, 1, ints L⟩])) := by
      refine (f42_l1 _ _ _ _ _ _).trans ((goD (by omega) _ _).trans ?_)
      rw [wr_sub (by omega) (by omega), wr_add (by omega) (by omega)]
      refine (goY (by omega) _ _).trans ((goY (by omega) _ _).trans ((go1n (n := i - 1) (by omega) (hL (i - 1) (by omega)) _).trans ?_))
      refine (goY (by omega) _ _).trans ((goY (by omega) _ _).trans ((go1n (n := i) rfl (hL i (by omega)) _).trans ?_))
      rfl
    have ih := loop42b (s1 := s1) (x88 := x88) (x89 := x89) hn hL d (i + 1) (by omega) (by omega)
    rw [head]
    by_cases hle : g (i - 1) ≤ g i
    · rw [goD hle]
      refine ⟨fun h => ih.1 fun k h1 h2 => h k (by omega) h2, fun h => ih.2 fun h' => h fun k h1 h2 => ?_⟩
      by_cases hk : k = i
      · subst hk; exact hle
      · exact h' k (by omega) h2
    · rw [goDn hle]
      exact ⟨fun h => absurd (h i (Nat.le_refl _) (by omega)) hle, fun _ => ⟨_, rfl⟩⟩
end
/- Octets: Split. -/
section
abbrev panR (e : Int) : Option (Out × Heap) := some (Out.jump (Pan2 e) [], [])
/-- The edges, as the code lists them. -/
def gE (s : B) (f m k : Nat) : Int := if k = 0 then ((f + 4 * m : Nat) : Int) else if k < m then ((off s f k : Nat) : Int) else (s.length : Int)
theorem gE_edge {s : B} {f m : Nat} (h0 : 0 < m → off s f 0 = f + 4 * m) (h1 : m = 0 → f = s.length) {k : Nat} (hk : k ≤ m) : gE s f m k = ((edge s f m k : Nat) : Int) := by
  unfold gE edge
  by_cases hk0 : k = 0
  · subst hk0
    rw [if_pos rfl]
    by_cases hm : 0 < m
    · rw [if_pos hm, h0 hm]
    · rw [if_neg hm, h1 (by omega)]
      omega
  · rw [if_neg hk0]
    by_cases hm : k < m
    · rw [if_pos hm, if_pos hm]
    · rw [if_neg hm, if_neg hm]
theorem left0 (s : B) (f m : Nat) : ByteArray.extract (mk s) f (f + 4 * m) = mk (left s f m 0) := by
  rw [ext_mk]
  unfold left
  rfl
/-- The tail of it, behind the first loop. -/
theorem tail42 {s : B} {f m : Nat} (hm : m ≤ 8) (hf : f ≤ 65536) (hs : f + 4 * m ≤ s.length) (hs2 : s.length ≤ 65536) (h0 : 0 < m → off s f 0 = f + 4 * m) {l' : List Int} {r' : B} (g2 : l'.length = max 1 m) (g3 : l'[0]? = some ((f + 4 * m : Nat) : Int)) (g4 : ∀ j, 1 ≤ j → j < m → l'[j]? = some ((off s f j : Nat) : Int)) :
    (okS s f m → ∃ L, (∀ k, k ≤ m → L[k]? = some ((edge s f m k : Nat) : Int)) ∧
      E cx L42b [vi 1, vs (mk s), vi m, vi (f + 4 * m : Nat), .arr 1 1 0 (max 1 m + 1)] [⟨.dead, 3, 1, 1, []⟩, ⟨.arr, 3, 1, 1, ints l' ++ [[vi s.length]]⟩] = some (Out.jump (.exit 2) [vi (max 1 m + 1 : Nat)], [⟨.dead, 3, 1, 1, []⟩, ⟨.arr, 3, 1, 1, ints L⟩]) ∧ L.length = max 1 m + 1) ∧
    (¬ okS s f m → (∃ j : Int, E cx L42b [vi 1, vs (mk s), vi m, vi (f + 4 * m : Nat), .arr 1 1 0 (max 1 m + 1)] [⟨.dead, 3, 1, 1, []⟩, ⟨.arr, 3, 1, 1, ints l' ++ [[vi s.length]]⟩] = some (Out.jump (Pan2 2) [vi j], [⟨.dead, 3, 1, 1, []⟩, ⟨.arr, 3, 1, 1, ints l' ++ [[vi s.length]]⟩])) ∨
      (m = 0 ∧ f ≠ s.length ∧ E cx L42b [vi 1, vs (mk s), vi m, vi (f + 4 * m : Nat), .arr 1 1 0 (max 1 m + 1)] [⟨.dead, 3, 1, 1, []⟩, ⟨.arr, 3, 1, 1, ints l' ++ [[vi s.length]]⟩] = some (Out.jump (.exit 2) [vi (max 1 m + 1 : Nat)], [⟨.dead, 3, 1, 1, []⟩, ⟨.arr, 3, 1, 1, ints l' ++ [[vi s.length]]⟩]))) := by
  have eL : ints l' ++ [[vi (s.length : Int)]] = ints (l' ++ [(s.length : Int)]) := by simp [ints]
  have hL : ∀ k, k < max 1 m + 1 → (l' ++ [(s.length : Int)])[k]? = some (gE s f m k) := fun k hk => by
    unfold gE
    by_cases hk0 : k = 0
    · subst hk0
      rw [if_pos rfl, List.getElem?_append_left (by omega), g3]
    · rw [if_neg hk0]
      by_cases hkm : k < m
      · rw [if_pos hkm, List.getElem?_append_left (by omega), g4 k (by omega) hkm]
      · rw [if_neg hkm, List.getElem?_append_right (by omega), show k - l'.length = 0 by omega]
        rfl
  have hb := loop42b (s1 := s) (x88 := m) (x89 := (f + 4 * m : Nat)) (by omega) hL (max 1 m) 1 (by omega) (Nat.le_refl _)
  rw [eL]
  have rise : m ≠ 0 → ((∀ k, 1 ≤ k → k < max 1 m + 1 → gE s f m (k - 1) ≤ gE s f m k) ↔ ∀ k, k < m → edge s f m k ≤ edge s f m (k + 1)) := fun hm0 => by
    have e : ∀ k, k ≤ m → gE s f m k = ((edge s f m k : Nat) : Int) := fun k hk => gE_edge h0 (fun h => absurd h hm0) hk
    constructor
    · intro h k hk
      have := h (k + 1) (by omega) (by omega)
      rw [Nat.add_sub_cancel, e k (by omega), e (k + 1) (by omega)] at this
      omega
    · intro h k h1 h2
      have := h (k - 1) (by omega)
      rw [show k - 1 + 1 = k by omega] at this
      rw [e (k - 1) (by omega), e k (by omega)]
      omega
  refine ⟨fun hok => ⟨l' ++ [(s.length : Int)], fun k hk => ?_, ?_, by simp [g2]⟩, fun hno => ?_⟩
  · rw [hL k (by omega), gE_edge h0 hok.1 hk]
  · refine hb.1 ?_
    by_cases hm0 : m = 0
    · subst hm0
      intro k h1 h2
      have : k = 1 := by omega
      subst this
      have := hok.1 rfl
      unfold gE
      simp
      omega
    · exact (rise hm0).2 hok.2.2
  · by_cases hm0 : m = 0
    · right
      refine ⟨hm0, fun he => hno ⟨fun _ => he, h0, fun k hk => by omega⟩, hb.1 ?_⟩
      subst hm0
      intro k h1 h2
      have : k = 1 := by omega
      subst this
      unfold gE
      simp
      omega
    · left
      exact hb.2 fun h => hno ⟨fun h => absurd h hm0, h0, (rise hm0).1 h⟩
theorem c42_bad (s : B) {f m : Int} (hf : RI f) (hm : RI m) (h : f < 0 ∨ f > 65536 ∨ m < 0 ∨ m > 8) : E cx (Key.fn 42) [vs (mk s), vi f, vi m] [] = panR 1 := by
  refine (f42 (mk s) f m).trans ?_
  by_cases h1 : f ≥ 0
  · refine (goD h1 _ _).trans ?_
    by_cases h2 : f ≤ 65536
    · refine (goD h2 _ _).trans ?_
      by_cases h3 : m ≥ 0
      · refine (goD h3 _ _).trans ?_
        exact goDn (by omega) _ _
      · exact goDn h3 _ _
    · exact goDn h2 _ _
  · exact goDn h1 _ _
theorem c42_long (s : B) {f m : Nat} (hf : f ≤ 65536) (hm : m ≤ 8) (h : s.length > 65536) : E cx (Key.fn 42) [vs (mk s), vi f, vi m] [] = panR 4 := by
  refine (f42 (mk s) f m).trans ((goD (by omega) _ _).trans ((goD (by omega) _ _).trans ((goD (by omega) _ _).trans ((goD (by omega) _ _).trans ?_))))
  exact goDn (by show ¬ (s.length : Int) ≤ 65536; omega) _ _
theorem w42 {f m : Nat} (hf : f ≤ 65536) (hm : m ≤ 8) : IntKind.wrap .i64 (Int.add (f : Int) (IntKind.wrap .i64 (Int.mul 4 (m : Int)))) = ((f + 4 * m : Nat) : Int) := by
  rw [wr_mul (by omega) (by omega), wr_add (by omega) (by omega)]
  omega
theorem c42_short (s : B) {f m : Nat} (hf : f ≤ 65536) (hm : m ≤ 8) (h : ¬ s.length > 65536) (h2 : s.length < f + 4 * m) : E cx (Key.fn 42) [vs (mk s), vi f, vi m] [] = panR 3 := by
  refine (f42 (mk s) f m).trans ((goD (by omega) _ _).trans ((goD (by omega) _ _).trans ((goD (by omega) _ _).trans ((goD (by omega) _ _).trans ?_))))
  refine (goD (by show (s.length : Int) ≤ 65536; omega) _ _).trans ?_
  rw [w42 hf hm]
  exact goDn (by show ¬ (s.length : Int) ≥ ((f + 4 * m : Nat) : Int); omega) _ _
theorem c42_rest (s : B) {f m : Nat} (hf : f ≤ 65536) (hm : m ≤ 8) (h : ¬ s.length > 65536) (h2 : ¬ s.length < f + 4 * m) :
    (okS s f m → ∃ L, E cx (Key.fn 42) [vs (mk s), vi f, vi m] [] = some (Out.ret (.list 0 1 (ints L)), []) ∧ ∀ k, k ≤ m → L[k]? = some ((edge s f m k : Nat) : Int)) ∧
    (¬ okS s f m → E cx (Key.fn 42) [vs (mk s), vi f, vi m] [] = panR 2) := by
  have hd := (f42 (mk s) f m).trans ((goD (by omega) _ _).trans ((goD (by omega) _ _).trans ((goD (by omega) _ _).trans ((goD (by omega) _ _).trans (goD (by show (s.length : Int) ≤ 65536; omega) _ _)))))
  rw [w42 hf hm] at hd
  have hd := hd.trans ((goD (by show (s.length : Int) ≥ ((f + 4 * m : Nat) : Int); omega) _ _).trans ((goY (by omega) _ _).trans ((goY (by show ((f + 4 * m : Nat) : Int) ≤ (s.length : Int); omega) _ _).trans ((goY (by omega) _ _).trans (goY (by omega) _ _)))))
  rw [Int.toNat_natCast, Int.toNat_natCast, left0] at hd
  have hl := loop42 (s := s) (s1 := s) (f := f) (m := m) (x71 := m) hm (by omega)
  by_cases h0 : 0 < m → off s f 0 = f + 4 * m
  · obtain ⟨l', r', g1, g2, g3, g4⟩ := hl.1 h0
    have g1' : E cx (Key.loop 42 [true, true, true, true, true, true, true, false, true, false]) [.arr 0 1 0 1, vs (mk (left s f m 0)), vi 0, vs (mk s), vi m, vi (f + 4 * m : Nat), vi m] [⟨.arr, 3, 1, 1, [[vi (f + 4 * m : Nat)]]⟩] = _ := g1
    rw [g1'] at hd
    have ht := tail42 hm hf (by omega) (by omega) h0 g2 g3 g4 (r' := r')
    have hlen : (ints l').length = max 1 m := by rw [ints_len, g2]
    have hd2 : E cx (Key.fn 42) [vs (mk s), vi f, vi m] [] = ((chk 0 0).bind fun _ => (chk (max 1 m) (ints l').length).bind fun _ => if Nat.mul (Nat.add (ints l').length 1) 8 ≤ 140737488355328 then
        Option.bind (E cx L42b [vi 1, vs (mk s), vi m, vi (f + 4 * m : Nat), .arr 1 1 0 (Nat.add (ints l').length 1)] [⟨.dead, 3, 1, 1, []⟩, ⟨.arr, 3, 1, 1, ints l' ++ [[vi s.length]]⟩]) _ else none) := hd
    rw [goCk rfl, goCk hlen.symm, hlen, goY (by show (max 1 m + 1) * 8 ≤ _; omega)] at hd2
    have fin : ∀ L : List Int, L.length = max 1 m + 1 → E cx L42b [vi 1, vs (mk s), vi m, vi (f + 4 * m : Nat), .arr 1 1 0 (max 1 m + 1)] [⟨.dead, 3, 1, 1, []⟩, ⟨.arr, 3, 1, 1, ints l' ++ [[vi s.length]]⟩] = some (Out.jump (.exit 2) [vi (max 1 m + 1 : Nat)], [⟨.dead, 3, 1, 1, []⟩, ⟨.arr, 3, 1, 1, ints L⟩]) →
        E cx (Key.fn 42) [vs (mk s), vi f, vi m] [] = (bif decide ((m : Int) > 0) then some (Out.ret (.list 0 1 (ints L)), []) else bif decide (((f + 4 * m : Nat) : Int) = (s.length : Int)) then some (Out.ret (.list 0 1 (ints L)), []) else panR 2) := fun L hLl he => by
      have he' : E cx L42b [vi 1, vs (mk s), vi m, vi (f + 4 * m : Nat), .arr 1 1 0 (Nat.add (max 1 m) 1)] [⟨.dead, 3, 1, 1, []⟩, ⟨.arr, 3, 1, 1, ints l' ++ [[vi s.length]]⟩] = _ := he
      rw [he'] at hd2
      have hd3 : E cx (Key.fn 42) [vs (mk s), vi f, vi m] [] = (bif decide ((m : Int) > 0) then (chkLe (0 + (max 1 m + 1)) (ints L).length).bind fun _ => some (Out.ret (.list 0 1 (List.drop 0 (List.take (0 + (max 1 m + 1)) (ints L)))), [])
          else bif decide (((f + 4 * m : Nat) : Int) = (s.length : Int)) then (chkLe (0 + (max 1 m + 1)) (ints L).length).bind fun _ => some (Out.ret (.list 0 1 (List.drop 0 (List.take (0 + (max 1 m + 1)) (ints L)))), []) else panR 2) := by
        rw [← hlen]
        rw [← hlen] at hd2
        exact hd2
      have hi : (ints L).length = max 1 m + 1 := by rw [ints_len, hLl]
      rw [goLe (by omega), List.drop_zero, List.take_of_length_le (by omega)] at hd3
      exact hd3
    refine ⟨fun hok => ?_, fun hno => ?_⟩
    · obtain ⟨L, k1, k2, k3⟩ := ht.1 hok
      refine ⟨L, (fin L k3 k2).trans ?_, k1⟩
      by_cases hm0 : (m : Int) > 0
      · exact goD hm0 _ _
      · refine (goDn hm0 _ _).trans (goD ?_ _ _)
        have := hok.1 (by omega)
        omega
    · rcases ht.2 hno with ⟨j, he⟩ | ⟨hm0, hne, he⟩
      · have he' : E cx L42b [vi 1, vs (mk s), vi m, vi (f + 4 * m : Nat), .arr 1 1 0 (Nat.add (max 1 m) 1)] [⟨.dead, 3, 1, 1, []⟩, ⟨.arr, 3, 1, 1, ints l' ++ [[vi s.length]]⟩] = _ := he
        rw [he'] at hd2
        exact hd2
      · have e : ints l' ++ [[vi (s.length : Int)]] = ints (l' ++ [(s.length : Int)]) := by simp [ints]
        have := fin (l' ++ [(s.length : Int)]) (by simp [g2]) (by rw [← e]; exact he)
        refine this.trans ((goDn (by omega) _ _).trans (goDn (by omega) _ _))
  · obtain ⟨l', r', g1⟩ := hl.2 h0
    have g1' : E cx (Key.loop 42 [true, true, true, true, true, true, true, false, true, false]) [.arr 0 1 0 1, vs (mk (left s f m 0)), vi 0, vs (mk s), vi m, vi (f + 4 * m : Nat), vi m] [⟨.arr, 3, 1, 1, [[vi (f + 4 * m : Nat)]]⟩] = _ := g1
    rw [g1'] at hd
    exact ⟨fun hok => absurd hok.2.1 h0, fun _ => hd⟩
end
/- Octets: Split, in all. -/
section
noncomputable section
open Classical
def pieces (s : B) (f m n : Nat) : List B := (List.range n).map (piece s f m)
def splitR (s : B) (f m : Int) : B × List B × Int :=
  if f < 0 ∨ f > 65536 ∨ m < 0 ∨ m > 8 then ([], [], 1) else if s.length > 65536 then ([], [], 4) else if s.length < f.toNat + 4 * m.toNat then ([], [], 3) else
  if okS s f.toNat m.toNat then (s.take f.toNat, pieces s f.toNat m.toNat m.toNat, 0) else ([], [], 2)
theorem splitR_1 {s : B} {f m : Int} (h : f < 0 ∨ f > 65536 ∨ m < 0 ∨ m > 8) : splitR s f m = ([], [], 1) := if_pos h
theorem splitR_4 {s : B} {f m : Nat} (hf : f ≤ 65536) (hm : m ≤ 8) (h : s.length > 65536) : splitR s f m = ([], [], 4) := (if_neg (by omega)).trans (if_pos h)
theorem splitR_3 {s : B} {f m : Nat} (hf : f ≤ 65536) (hm : m ≤ 8) (h : ¬ s.length > 65536) (h2 : s.length < f + 4 * m) : splitR s f m = ([], [], 3) :=
  (if_neg (by omega)).trans ((if_neg h).trans (if_pos (by simpa using h2)))
theorem splitR_0 {s : B} {f m : Nat} (hf : f ≤ 65536) (hm : m ≤ 8) (h : ¬ s.length > 65536) (h2 : ¬ s.length < f + 4 * m) (hok : okS s f m) : splitR s f m = (s.take f, pieces s f m m, 0) :=
  (if_neg (by omega)).trans ((if_neg h).trans ((if_neg (by simpa using h2)).trans (if_pos (by simpa using hok))))
theorem splitR_2 {s : B} {f m : Nat} (hf : f ≤ 65536) (hm : m ≤ 8) (h : ¬ s.length > 65536) (h2 : ¬ s.length < f + 4 * m) (hok : ¬ okS s f m) : splitR s f m = ([], [], 2) :=
  (if_neg (by omega)).trans ((if_neg h).trans ((if_neg (by simpa using h2)).trans (if_neg (by simpa using hok))))
end
def RS' (x : Option (Out × Heap)) (r : B × List B × Int) : Prop := RS x r.1 r.2.1 r.2.2
theorem edge_le {s : B} {f m : Nat} (h : ∀ k, k < m → edge s f m k ≤ edge s f m (k + 1)) : ∀ (d k : Nat), k + d = m → edge s f m k ≤ s.length
  | 0, k, hk => by
    unfold edge
    rw [if_neg (by omega)]
    exact Nat.le_refl _
  | d + 1, k, hk => by
    have h1 := h k (by omega)
    have h2 := edge_le h d (k + 1) (by omega)
    omega
theorem pieces_succ (s : B) (f m n : Nat) : pieces s f m (n + 1) = pieces s f m n ++ [piece s f m n] := by
  unfold pieces
  rw [List.range_succ, List.map_append]
  rfl
theorem pieces_len (s : B) (f m n : Nat) : (pieces s f m n).length = n := by simp [pieces]
abbrev L22 : Key := Key.loop 22 [true, true, true, false, true, false]
theorem loop22 {s : B} {f m : Nat} {L : List Int} {x148 : Int} {s151 : ByteArray} (hm : m ≤ 8) (hs2 : s.length ≤ 65536) (hL : ∀ k, k ≤ m → L[k]? = some ((edge s f m k : Nat) : Int)) (hr : ∀ k, k < m → edge s f m k ≤ edge s f m (k + 1)) : ∀ (d i : Nat), d + i = m →
    E cx L22 [vi i, vs (mk s), vi x148, .ptr 0 0 0 0, .ptr 1 0 0 0, .ptr 2 0 0 0, .list 0 1 (ints L), vi m] [⟨.box, 9, 1, 0, [[vs s151]]⟩, ⟨.box, 23, 1, 0, [[.arr 3 1 0 i]]⟩, ⟨.box, 28, 1, 0, [[vi 0]]⟩, ⟨.arr, 9, 1, 1, rowsB (pieces s f m i)⟩] =
      some (Out.jump (.exit 0) [vi m], [⟨.box, 9, 1, 0, [[vs s151]]⟩, ⟨.box, 23, 1, 0, [[.arr 3 1 0 m]]⟩, ⟨.box, 28, 1, 0, [[vi 0]]⟩, ⟨.arr, 9, 1, 1, rowsB (pieces s f m m)⟩])
  | 0, i, hd => by
    have : i = m := by omega
    subst this
    exact (f22_l0 _ _ _ _ _ _ _ _ _).trans (goDn (by omega) _ _)
  | d + 1, i, hd => by
    have e1 := edge_le hr (m - i) i (by omega)
    have e2 := edge_le hr (m - (i + 1)) (i + 1) (by omega)
    have e3 := hr i (by omega)
    have hlen : (rowsB (pieces s f m i)).length = i := by rw [rows_len, pieces_len]
    refine (f22_l0 _ _ _ _ _ _ _ _ _).trans ((goD (by omega) _ _).trans ((goY (by omega) _ _).trans ((go1 (n := i) rfl (hL i (by omega)) _).trans ?_)))
    rw [wr_add (by omega) (by omega)]
    refine (goY (by omega) _ _).trans ((go1 (n := i + 1) (by omega) (hL (i + 1) (by omega)) _).trans ?_)
    refine (goY (by omega) _ _).trans ((goY (by show ((edge s f m (i + 1) : Nat) : Int) ≤ (s.length : Int); omega) _ _).trans ((goY (by omega) _ _).trans ((goY (by omega) _ _).trans ?_)))
    refine (goCk (by show i = (rowsB _).length; rw [hlen]) _).trans ((goY (by show Nat.mul (Nat.add (rowsB _).length 1) 16 ≤ _; rw [hlen]; show (i + 1) * 16 ≤ _; omega) _ _).trans ?_)
    have ep : rowsB (pieces s f m i) ++ [[vs (ByteArray.extract (mk s) (Int.toNat ((edge s f m i : Nat) : Int)) (Int.toNat ((edge s f m (i + 1) : Nat) : Int)))]] = rowsB (pieces s f m (i + 1)) := by
      rw [ext_mk, Int.toNat_natCast, Int.toNat_natCast, pieces_succ]
      simp only [rowsB, List.map_append, List.map_cons, List.map_nil]
      rfl
    show E cx L22 [vi ((i : Int) + 1), vs (mk s), vi x148, .ptr 0 0 0 0, .ptr 1 0 0 0, .ptr 2 0 0 0, .list 0 1 (ints L), vi m] [⟨.box, 9, 1, 0, [[vs s151]]⟩, ⟨.box, 23, 1, 0, [[.arr 3 1 0 (Nat.add (rowsB (pieces s f m i)).length 1)]]⟩, ⟨.box, 28, 1, 0, [[vi 0]]⟩,
      ⟨.arr, 9, 1, 1, rowsB (pieces s f m i) ++ [[vs (ByteArray.extract (mk s) (Int.toNat ((edge s f m i : Nat) : Int)) (Int.toNat ((edge s f m (i + 1) : Nat) : Int)))]]⟩] = _
    rw [ep, hlen]
    exact loop22 hm hs2 hL hr d (i + 1) (by omega)
theorem panRS {s : B} {f m : Int} {e : Int} (h : E cx (Key.fn 42) [vs (mk s), vi f, vi m] [] = panR e) : RS (E cx (Key.fn 22) [vs (mk s), vi f, vi m] []) [] [] e := by
  refine ⟨AV.val (Value.slice none 0 0), ?_, rfl⟩
  refine (f22 (mk s) f m).trans ?_
  rw [h]
  rfl
theorem c22 (s : B) {f m : Int} (hf : RI f) (hm : RI m) : RS' (E cx (Key.fn 22) [vs (mk s), vi f, vi m] []) (splitR s f m) := by
  unfold RS'
  by_cases h1 : f < 0 ∨ f > 65536 ∨ m < 0 ∨ m > 8
  · rw [splitR_1 h1]
    exact panRS (c42_bad s hf hm h1)
  obtain ⟨f, rfl⟩ : ∃ n : Nat, f = n := ⟨f.toNat, by omega⟩
  obtain ⟨m, rfl⟩ : ∃ n : Nat, m = n := ⟨m.toNat, by omega⟩
  have hf' : f ≤ 65536 := by omega
  have hm' : m ≤ 8 := by omega
  by_cases h2 : s.length > 65536
  · rw [splitR_4 hf' hm' h2]
    exact panRS (c42_long s hf' hm' h2)
  by_cases h3 : s.length < f + 4 * m
  · rw [splitR_3 hf' hm' h2 h3]
    exact panRS (c42_short s hf' hm' h2 h3)
  have hr := c42_rest s hf' hm' h2 h3
  by_cases hok : okS s f m
  · obtain ⟨L, g1, g2⟩ := hr.1 hok
    rw [splitR_0 hf' hm' h2 h3 hok]
    have hl := loop22 (s := s) (f := f) (m := m) (L := L) (x148 := f) (s151 := mk []) hm' (by omega) g2 hok.2.2 m 0 (by omega)
    refine ⟨.list 0 1 (rowsB (pieces s f m m)), ?_, rfl⟩
    refine (f22 (mk s) f m).trans ?_
    rw [g1]
    show (Option.bind (E cx L22 [vi ((0 : Nat) : Int), vs (mk s), vi f, .ptr 0 0 0 0, .ptr 1 0 0 0, .ptr 2 0 0 0, .list 0 1 (ints L), vi m] [⟨.box, 9, 1, 0, [[vs (mk [])]]⟩, ⟨.box, 23, 1, 0, [[.arr 3 1 0 0]]⟩, ⟨.box, 28, 1, 0, [[vi 0]]⟩, ⟨.arr, 9, 1, 1, rowsB (pieces s f m 0)⟩]) _) = _
    rw [hl]
    show (if (0 : Int) ≤ (f : Int) then if (f : Int) ≤ (s.length : Int) then (chkLe (0 + m) (rowsB (pieces s f m m)).length).bind fun _ => some (Out.ret (AV.tuple [vs (ByteArray.extract (mk s) 0 (Int.toNat (f : Int))), .list 0 1 (List.drop 0 (List.take (0 + m) (rowsB (pieces s f m m)))), vi 0]), []) else none else none) = _
    have hlen : (rowsB (pieces s f m m)).length = m := by rw [rows_len, pieces_len]
    rw [goY (by omega), goY (by omega), goLe (by omega), List.drop_zero, List.take_of_length_le (by omega), ext_mk, Int.toNat_natCast, List.drop_zero]
  · rw [splitR_2 hf' hm' h2 h3 hok]
    exact panRS (hr.2 hok)
end
/- Octets: the document's Split is the same. -/
section
theorem app_drop {l : B} {a b c : Nat} (h1 : a ≤ b) (h2 : b ≤ c) : (l.take b).drop a ++ (l.take c).drop b = (l.take c).drop a := by
  have e : l.take b = (l.take c).take b := by rw [List.take_take, Nat.min_eq_left h2]
  rw [e]
  generalize l.take c = l'
  have : l'.drop a = (l'.take b ++ l'.drop b).drop a := by rw [List.take_append_drop]
  rw [this, List.drop_append]
  by_cases hb : b ≤ l'.length
  · rw [List.length_take, Nat.min_eq_left hb, Nat.sub_eq_zero_of_le h1, List.drop_zero]
  · rw [show l'.drop b = [] from List.drop_eq_nil_iff.2 (by omega)]
    simp
theorem flat_pieces {s : B} {f m : Nat} (hr : ∀ k, k < m → edge s f m k ≤ edge s f m (k + 1)) : ∀ (n : Nat), n ≤ m → edge s f m 0 ≤ edge s f m n ∧ (pieces s f m n).flatten = (s.take (edge s f m n)).drop (edge s f m 0)
  | 0, _ => by
    refine ⟨Nat.le_refl _, ?_⟩
    rw [show pieces s f m 0 = [] from rfl, List.flatten_nil]
    exact (List.drop_eq_nil_iff.2 (by rw [List.length_take]; omega)).symm
  | n + 1, hn => by
    obtain ⟨h1, h2⟩ := flat_pieces hr n (by omega)
    have h3 := hr n (by omega)
    refine ⟨Nat.le_trans h1 h3, ?_⟩
    rw [pieces_succ, List.flatten_append, h2]
    simp only [List.flatten_cons, List.flatten_nil, List.append_nil]
    exact app_drop h1 h3
theorem flat_all {s : B} {f m : Nat} (hr : ∀ k, k < m → edge s f m k ≤ edge s f m (k + 1)) : (pieces s f m m).flatten = s.drop (edge s f m 0) := by
  rw [(flat_pieces hr m (Nat.le_refl _)).2]
  rw [show edge s f m m = s.length from if_neg (by omega), List.take_length]
def pl (s : B) (f m j : Nat) : Nat → List B
  | 0 => []
  | d + 1 => piece s f m j :: pl s f m (j + 1) d
theorem pl_pieces (s : B) (f m : Nat) : ∀ (d j : Nat), pieces s f m (j + d) = pieces s f m j ++ pl s f m j d
  | 0, j => by simp [pl]
  | d + 1, j => by
    rw [show j + (d + 1) = (j + 1) + d by omega, pl_pieces s f m d (j + 1), pieces_succ]
    simp [pl]
theorem piece_len {s : B} {f m : Nat} (hr : ∀ k, k < m → edge s f m k ≤ edge s f m (k + 1)) {k : Nat} (hk : k < m) : edge s f m k + (piece s f m k).length = edge s f m (k + 1) := by
  have h1 := hr k hk
  have h2 := edge_le hr (m - (k + 1)) (k + 1) (by omega)
  unfold piece
  rw [List.length_drop, List.length_take]
  omega
theorem hs_left {s : B} {f m : Nat} (hs : f + 4 * m ≤ s.length) (hr : ∀ k, k < m → edge s f m k ≤ edge s f m (k + 1)) : ∀ (d j : Nat), j + d = m → Av.hs (edge s f m j) (pl s f m j d) = left s f m j
  | 0, j, hj => by
    simp only [pl, Av.hs]
    exact (List.drop_eq_nil_iff.2 (by rw [List.length_take]; omega)).symm
  | d + 1, j, hj => by
    simp only [pl, Av.hs]
    rw [piece_len hr (by omega), hs_left hs hr d (j + 1) (by omega)]
    have e1 : edge s f m j = off s f j := if_pos (by omega)
    have hl : ((s.drop (f + 4 * j)).take 4).length = 4 := by rw [List.length_take, List.length_drop]; omega
    have e2 : put (edge s f m j) 4 = (s.drop (f + 4 * j)).take 4 := by
      rw [e1]
      have := put_val ((s.drop (f + 4 * j)).take 4)
      rw [hl] at this
      exact this
    rw [e2]
    unfold left
    have e3 : (s.take (f + 4 * m)).drop (f + 4 * (j + 1)) = ((s.take (f + 4 * m)).drop (f + 4 * j)).drop 4 := by rw [List.drop_drop]; congr 1
    have e4 : (s.drop (f + 4 * j)).take 4 = ((s.take (f + 4 * m)).drop (f + 4 * j)).take 4 := by rw [List.drop_take, List.take_take, Nat.min_eq_left (by omega)]
    rw [e3, e4, List.take_append_drop]
/-- What was split is joined again just if all is as it may be. -/
theorem back_join {s : B} {f m : Nat} (hm : m ≤ 8) (hs : f + 4 * m ≤ s.length) (hs2 : s.length ≤ 65536) (hr : ∀ k, k < m → edge s f m k ≤ edge s f m (k + 1)) :
    (okS s f m → joinR (s.take f) (pieces s f m m) = (s, 0)) ∧ (¬ okS s f m → (joinR (s.take f) (pieces s f m m)).2 ≠ 0 ∨ (joinR (s.take f) (pieces s f m m)).1 ≠ s) := by
  have hfl : (s.take f).length = f := by rw [List.length_take]; omega
  have hfa := flat_all hr
  have he0 := edge_le hr m 0 (by omega)
  refine ⟨fun hok => ?_, fun hno => ?_⟩
  · have he : edge s f m 0 = f + 4 * m := by
      by_cases h0 : 0 < m
      · rw [show edge s f m 0 = off s f 0 from if_pos h0]; exact hok.2.1 h0
      · rw [show edge s f m 0 = s.length from if_neg h0, hok.1 (by omega)]; omega
    have hhs := hs_left hs hr m 0 (by omega)
    have hpl := pl_pieces s f m m 0
    rw [Nat.zero_add, show pieces s f m 0 = [] from rfl, List.nil_append] at hpl
    rw [joinR_ok (by rw [pieces_len]; exact hm) (by rw [hfl, pieces_len, hfa, List.length_drop]; omega)]
    rw [hfl, pieces_len, hfa, ← he, hpl, hhs, he]
    congr 1
    have e1 : s.take f ++ left s f m 0 = s.take (f + 4 * m) := by
      have := app_drop (l := s) (a := 0) (b := f) (c := f + 4 * m) (by omega) (by omega)
      show s.take f ++ (s.take (f + 4 * m)).drop (f + 4 * 0) = _
      rw [Nat.mul_zero, Nat.add_zero]
      simpa using this
    rw [e1, List.take_append_drop]
  · by_cases hj : (s.take f).length + 4 * (pieces s f m m).length + (pieces s f m m).flatten.length ≤ 65536
    · right
      rw [joinR_ok (by rw [pieces_len]; exact hm) hj]
      intro he
      have hl := congrArg List.length he
      simp only [List.length_append, hs_len, hfl, pieces_len, hfa, List.length_drop] at hl
      refine hno ⟨fun h0 => ?_, fun h0 => ?_, hr⟩
      · rw [show edge s f m 0 = s.length from if_neg (by omega)] at hl
        omega
      · rw [← show edge s f m 0 = off s f 0 from if_pos h0]
        omega
    · left
      rw [joinR_no (fun h => hj h.2)]
      show (4 : Int) ≠ 0
      omega
abbrev L23 : Key := Key.loop 23 [true, true, true, true, true, false, true, false]
theorem num_at {s : B} {a : Nat} (h : a + 4 ≤ s.length) : E cx (Key.fn 40) [vs (ByteArray.extract (mk s) a (a + 4))] [] = some (Out.ret (vu (val ((s.drop a).take 4))), []) := by
  rw [ext_mk]
  have e : (s.take (a + 4)).drop a = (s.drop a).take 4 := by rw [List.drop_take]; congr 1; omega
  rw [e]
  exact c40 _ (by rw [List.length_take]; omega)
theorem wsz {s : B} (hs2 : s.length ≤ 65536) : IntKind.wrap .u64 ((ByteArray.size (mk s) : Nat) : Int) = (s.length : Int) := wu_id (n := (s.length : Int)) (by omega) (by omega)
theorem loop23 {s : B} {f m : Nat} {s241 : ByteArray} {l242 : List (List AV)} {x243 : Int} (hm : m ≤ 8) (hf : f ≤ 65536) (hs : f + 4 * m ≤ s.length) (hs2 : s.length ≤ 65536) : ∀ (d i : Nat), d + i = m →
    ((∀ k, i ≤ k → k < m → edge s f m k ≤ edge s f m (k + 1) ∧ edge s f m (k + 1) ≤ s.length) → E cx L23 [vs s241, .list 0 1 l242, vi x243, .arr 0 1 0 i, vi i, vs (mk s), vi f, vi m] [⟨.arr, 9, 1, 1, rowsB (pieces s f m i)⟩] =
      some (Out.jump (.exit 0) [vs s241, .list 0 1 l242, vi x243, .arr 0 1 0 m, vi m], [⟨.arr, 9, 1, 1, rowsB (pieces s f m m)⟩])) ∧
    (¬ (∀ k, i ≤ k → k < m → edge s f m k ≤ edge s f m (k + 1) ∧ edge s f m (k + 1) ≤ s.length) → ∃ (n : Nat) (j : Int) (es : List (List AV)), E cx L23 [vs s241, .list 0 1 l242, vi x243, .arr 0 1 0 i, vi i, vs (mk s), vi f, vi m] [⟨.arr, 9, 1, 1, rowsB (pieces s f m i)⟩] =
      some (Out.jump .ret [vs (mk []), .val (.slice none 0 0), vi 2, .arr 0 1 0 n, vi j], [⟨.arr, 9, 1, 1, es⟩]))
  | 0, i, hd => by
    have : i = m := by omega
    subst this
    exact ⟨fun _ => (f23_l0 _ _ _ _ _ _ _ _ _).trans (goDn (by omega) _ _), fun h => absurd (fun k h1 h2 => by omega) h⟩
  | d + 1, i, hd => by
    have hlen : (rowsB (pieces s f m i)).length = i := by rw [rows_len, pieces_len]
    have e0 : edge s f m i = off s f i := if_pos (by omega)
    have hw : IntKind.wrap .i64 (Int.add (f : Int) (IntKind.wrap .i64 (Int.mul 4 (i : Int)))) = ((f + 4 * i : Nat) : Int) := w42 hf (by omega)
    have hw4 : IntKind.wrap .i64 (Int.add ((f + 4 * i : Nat) : Int) 4) = ((f + 4 * i + 4 : Nat) : Int) := wr_add (by omega) (by omega)
    have hw8 : IntKind.wrap .i64 (Int.add ((f + 4 * i : Nat) : Int) 8) = ((f + 4 * i + 8 : Nat) : Int) := wr_add (by omega) (by omega)
    have hoff := off_lt s f i
    have head : E cx L23 [vs s241, .list 0 1 l242, vi x243, .arr 0 1 0 i, vi i, vs (mk s), vi f, vi m] [⟨.arr, 9, 1, 1, rowsB (pieces s f m i)⟩] =
        (bif decide (((edge s f m i : Nat) : Int) > ((edge s f m (i + 1) : Nat) : Int)) then some (Out.jump .ret [vs (mk []), .val (.slice none 0 0), vi 2, .arr 0 1 0 i, vi i], [⟨.arr, 9, 1, 1, rowsB (pieces s f m i)⟩])
         else bif decide (((edge s f m (i + 1) : Nat) : Int) > (s.length : Int)) then some (Out.jump .ret [vs (mk []), .val (.slice none 0 0), vi 2, .arr 0 1 0 i, vi i], [⟨.arr, 9, 1, 1, rowsB (pieces s f m i)⟩])
         else E cx L23 [vs s241, .list 0 1 l242, vi x243, .arr 0 1 0 (i + 1), vi (i + 1 : Nat), vs (mk s), vi f, vi m] [⟨.arr, 9, 1, 1, rowsB (pieces s f m (i + 1))⟩]) := by
      have ep : ∀ a b : Nat, a = edge s f m i → b = edge s f m (i + 1) → rowsB (pieces s f m i) ++ [[vs (ByteArray.extract (mk s) (Int.toNat (a : Int)) (Int.toNat (b : Int)))]] = rowsB (pieces s f m (i + 1)) := fun a b ha hb => by
        rw [ext_mk, Int.toNat_natCast, Int.toNat_natCast, pieces_succ, ha, hb]
        simp only [rowsB, List.map_append, List.map_cons, List.map_nil]
        rfl
      have fin : ∀ (a b : Nat), a = edge s f m i → b = edge s f m (i + 1) → a ≤ b → b ≤ s.length →
          (if (0 : Int) ≤ (b : Int) then if (b : Int) ≤ ((ByteArray.size (mk s) : Nat) : Int) then if (0 : Int) ≤ (a : Int) then if (a : Int) ≤ ((Int.toNat (b : Int) : Nat) : Int) then
            (chk i (List.length (Ob.mk OK.arr 9 1 1 (rowsB (pieces s f m i))).es)).bind fun _ => if Nat.mul (Nat.add (List.length (Ob.mk OK.arr 9 1 1 (rowsB (pieces s f m i))).es) 1) 16 ≤ 140737488355328 then
              E cx L23 [vs s241, .list 0 1 l242, vi x243, .arr 0 1 0 (Nat.add (List.length (Ob.mk OK.arr 9 1 1 (rowsB (pieces s f m i))).es) 1), vi (IntKind.wrap .i64 (Int.add (i : Int) 1)), vs (mk s), vi f, vi m] [⟨.arr, 9, 1, 1, (Ob.mk OK.arr 9 1 1 (rowsB (pieces s f m i))).es ++ [[vs (ByteArray.extract (mk s) (Int.toNat (a : Int)) (Int.toNat (b : Int)))]]⟩]
            else none else none else none else none else none) =
          E cx L23 [vs s241, .list 0 1 l242, vi x243, .arr 0 1 0 (i + 1), vi (i + 1 : Nat), vs (mk s), vi f, vi m] [⟨.arr, 9, 1, 1, rowsB (pieces s f m (i + 1))⟩] := fun a b ha hb hab hbs => by
        refine (goY (by omega) _ _).trans ((goY (by show (b : Int) ≤ (s.length : Int); omega) _ _).trans ((goY (by omega) _ _).trans ((goY (by omega) _ _).trans ?_)))
        refine (goCk hlen.symm _).trans ((goY (by show Nat.mul (Nat.add (rowsB _).length 1) 16 ≤ _; rw [hlen]; show (i + 1) * 16 ≤ _; omega) _ _).trans ?_)
        show E cx L23 [vs s241, .list 0 1 l242, vi x243, .arr 0 1 0 (Nat.add (rowsB (pieces s f m i)).length 1), vi (IntKind.wrap .i64 (Int.add (i : Int) 1)), vs (mk s), vi f, vi m] [⟨.arr, 9, 1, 1, rowsB (pieces s f m i) ++ [[vs (ByteArray.extract (mk s) (Int.toNat (a : Int)) (Int.toNat (b : Int)))]]⟩] = _
        rw [ep a b ha hb, hlen, wr_add (by omega) (by omega)]
        rfl
      refine (f23_l0 _ _ _ _ _ _ _ _ _).trans ((goD (by omega) _ _).trans ?_)
      rw [hw, hw4, hw8]
      refine (goY (by omega) _ _).trans ((goY (by show ((f + 4 * i + 4 : Nat) : Int) ≤ (s.length : Int); omega) _ _).trans ((goY (by omega) _ _).trans ((goY (by omega) _ _).trans ?_)))
      rw [Int.toNat_natCast, Int.toNat_natCast]
      refine (goU (num_at (by omega)) _).trans ?_
      rw [wr_add (a := (i : Int)) (b := 1) (by omega) (by omega)]
      by_cases hi1 : i + 1 < m
      · have e1 : edge s f m (i + 1) = off s f (i + 1) := if_pos hi1
        refine (goD (by omega) _ _).trans ?_
        refine (goY (by omega) _ _).trans ((goY (by show ((f + 4 * i + 8 : Nat) : Int) ≤ (s.length : Int); omega) _ _).trans ((goY (by omega) _ _).trans ((goY (by omega) _ _).trans ?_)))
        rw [Int.toNat_natCast]
        refine (goU (num_at (s := s) (a := f + 4 * i + 4) (by omega)) _).trans ?_
        rw [wsz hs2]
        have eoff : val ((s.drop (f + 4 * i + 4)).take 4) = edge s f m (i + 1) := by rw [e1]; rfl
        have eoff0 : val ((s.drop (f + 4 * i)).take 4) = edge s f m i := by rw [e0]; rfl
        rw [eoff, eoff0]
        by_cases c1 : ((edge s f m i : Nat) : Int) > ((edge s f m (i + 1) : Nat) : Int)
        · exact (goD c1 _ _).trans (goD c1 _ _).symm
        refine (goDn c1 _ _).trans (Eq.trans ?_ (goDn c1 _ _).symm)
        by_cases c2 : ((edge s f m (i + 1) : Nat) : Int) > (s.length : Int)
        · exact (goD c2 _ _).trans (goD c2 _ _).symm
        refine (goDn c2 _ _).trans (Eq.trans ?_ (goDn c2 _ _).symm)
        have := fin _ _ rfl rfl (by omega) (by omega)
        rw [wr_add (by omega) (by omega)] at this
        exact this
      · have e1 : edge s f m (i + 1) = s.length := if_neg hi1
        have eoff0 : val ((s.drop (f + 4 * i)).take 4) = edge s f m i := by rw [e0]; rfl
        refine (goDn (by omega) _ _).trans ?_
        rw [wsz hs2, e1, eoff0]
        by_cases c1 : ((edge s f m i : Nat) : Int) > (s.length : Int)
        · exact (goD c1 _ _).trans (goD c1 _ _).symm
        refine (goDn c1 _ _).trans (Eq.trans ?_ (goDn c1 _ _).symm)
        refine (goDn (by omega) _ _).trans (Eq.trans ?_ (goDn (by omega) _ _).symm)
        have := fin _ _ rfl e1.symm (by omega) (Nat.le_refl _)
        rw [wr_add (by omega) (by omega)] at this
        refine Eq.trans ?_ this
        exact (goY (by omega) _ _).symm
    have ih := loop23 (s241 := s241) (l242 := l242) (x243 := x243) hm hf hs hs2 d (i + 1) (by omega)
    rw [head]
    by_cases c1 : ((edge s f m i : Nat) : Int) > ((edge s f m (i + 1) : Nat) : Int)
    · rw [goD c1]
      exact ⟨fun h => by have := (h i (Nat.le_refl _) (by omega)).1; omega, fun _ => ⟨_, _, _, rfl⟩⟩
    rw [goDn c1]
    by_cases c2 : ((edge s f m (i + 1) : Nat) : Int) > (s.length : Int)
    · rw [goD c2]
      exact ⟨fun h => by have := (h i (Nat.le_refl _) (by omega)).2; omega, fun _ => ⟨_, _, _, rfl⟩⟩
    rw [goDn c2]
    refine ⟨fun h => ih.1 fun k h1 h2 => h k (by omega) h2, fun h => ih.2 fun h' => h fun k h1 h2 => ?_⟩
    by_cases hk : k = i
    · subst hk; exact ⟨by omega, by omega⟩
    · exact h' k (by omega) h2
theorem c23 (s : B) {f m : Int} (hf : RI f) (hm : RI m) : RS' (E cx (Key.fn 23) [vs (mk s), vi f, vi m] []) (splitR s f m) := by
  unfold RS'
  have bad : ∀ {e : Int}, E cx (Key.fn 23) [vs (mk s), vi f, vi m] [] = some (Out.ret (AV.tuple [vs (mk []), .val (.slice none 0 0), vi e]), []) → RS (E cx (Key.fn 23) [vs (mk s), vi f, vi m] []) [] [] e := fun h => ⟨_, h, rfl⟩
  by_cases h1 : f < 0
  · rw [splitR_1 (.inl h1)]; exact bad ((f23 (mk s) f m).trans (goD h1 _ _))
  by_cases h2 : f > 65536
  · rw [splitR_1 (.inr (.inl h2))]; exact bad ((f23 (mk s) f m).trans ((goDn h1 _ _).trans (goD h2 _ _)))
  by_cases h3 : m < 0
  · rw [splitR_1 (.inr (.inr (.inl h3)))]; exact bad ((f23 (mk s) f m).trans ((goDn h1 _ _).trans ((goDn h2 _ _).trans (goD h3 _ _))))
  by_cases h4 : m > 8
  · rw [splitR_1 (.inr (.inr (.inr h4)))]; exact bad ((f23 (mk s) f m).trans ((goDn h1 _ _).trans ((goDn h2 _ _).trans ((goDn h3 _ _).trans (goD h4 _ _)))))
  obtain ⟨f, rfl⟩ : ∃ n : Nat, f = n := ⟨f.toNat, by omega⟩
  obtain ⟨m, rfl⟩ : ∃ n : Nat, m = n := ⟨m.toNat, by omega⟩
  have hf' : f ≤ 65536 := by omega
  have hm' : m ≤ 8 := by omega
  have hd := (f23 (mk s) f m).trans ((goDn h1 _ _).trans ((goDn h2 _ _).trans ((goDn h3 _ _).trans (goDn h4 _ _))))
  by_cases h5 : s.length > 65536
  · rw [splitR_4 hf' hm' h5]
    exact bad (hd.trans (goD (by show (s.length : Int) > 65536; omega) _ _))
  have hd := hd.trans (goDn (by show ¬ (s.length : Int) > 65536; omega) _ _)
  rw [w42 hf' hm'] at hd
  by_cases h6 : s.length < f + 4 * m
  · rw [splitR_3 hf' hm' h5 h6]
    exact bad (hd.trans (goD (by show (s.length : Int) < ((f + 4 * m : Nat) : Int); omega) _ _))
  have hd := hd.trans (goDn (by show ¬ (s.length : Int) < ((f + 4 * m : Nat) : Int); omega) _ _)
  have hl := loop23 (s := s) (f := f) (m := m) (s241 := mk []) (l242 := []) (x243 := 0) hm' hf' (by omega) (by omega) m 0 (by omega)
  by_cases hall : ∀ k, 0 ≤ k → k < m → edge s f m k ≤ edge s f m (k + 1) ∧ edge s f m (k + 1) ≤ s.length
  · have hr : ∀ k, k < m → edge s f m k ≤ edge s f m (k + 1) := fun k hk => (hall k (by omega) hk).1
    have hb := back_join hm' (by omega) (by omega) hr
    have g := hl.1 hall
    have g' : E cx (Key.loop 23 [true, true, true, true, true, false, true, false]) [vs (ByteArray.mk (Array.mk [])), .list 0 1 [], vi 0, .arr 0 1 0 0, vi 0, vs (mk s), vi f, vi m] [⟨.arr, 9, 1, 1, []⟩] = _ := g
    rw [g'] at hd
    have hlen : (rowsB (pieces s f m m)).length = m := by rw [rows_len, pieces_len]
    have hd2 : E cx (Key.fn 23) [vs (mk s), vi f, vi m] [] = (if (0 : Int) ≤ (f : Int) then if (f : Int) ≤ (s.length : Int) then (chkLe (0 + m) (rowsB (pieces s f m m)).length).bind fun _ =>
        (E cx (Key.fn 21) [vs (ByteArray.extract (mk s) 0 (Int.toNat (f : Int))), .list 0 1 (List.drop 0 (List.take (0 + m) (rowsB (pieces s f m m))))] []).bind _ else none else none) := hd
    rw [goY (by omega), goY (by omega), goLe (by omega), List.drop_zero, List.take_of_length_le (by omega), ext_mk, Int.toNat_natCast, List.drop_zero, c21 (s.take f) (pieces s f m m) (by rw [List.length_take]; omega)] at hd2
    have hd3 : E cx (Key.fn 23) [vs (mk s), vi f, vi m] [] = (bif (joinR (s.take f) (pieces s f m m)).2 != 0 then some (Out.ret (AV.tuple [vs (mk []), .val (.slice none 0 0), vi 2]), []) else
        bif !List.beq (ByteArray.toList (mk (joinR (s.take f) (pieces s f m m)).1)) (ByteArray.toList (mk s)) then some (Out.ret (AV.tuple [vs (mk []), .val (.slice none 0 0), vi 2]), []) else
        if (0 : Int) ≤ (f : Int) then if (f : Int) ≤ (s.length : Int) then (chkLe (0 + m) (rowsB (pieces s f m m)).length).bind fun _ => some (Out.ret (AV.tuple [vs (mk (s.take f)), .list 0 1 (List.drop 0 (List.take (0 + m) (rowsB (pieces s f m m)))), vi 0]), []) else none else none) := hd2
    by_cases hok : okS s f m
    · have e := hb.1 hok
      rw [splitR_0 hf' hm' h5 h6 hok]
      refine ⟨.list 0 1 (rowsB (pieces s f m m)), ?_, rfl⟩
      rw [e, goE rfl, goQn rfl, goY (by omega), goY (by omega), goLe (by omega), List.drop_zero, List.take_of_length_le (l := rowsB (pieces s f m m)) (by omega)] at hd3
      exact hd3
    · rw [splitR_2 hf' hm' h5 h6 hok]
      refine bad (hd3.trans ?_)
      by_cases c1 : (joinR (s.take f) (pieces s f m m)).2 = 0
      · rw [goE c1]
        refine goQt (fun h => ?_) _ _
        rcases hb.2 hok with h2 | h2
        · exact h2 c1
        · exact h2 h
      · exact goEn c1 _ _
  · obtain ⟨n, j, es, g⟩ := hl.2 hall
    have g' : E cx (Key.loop 23 [true, true, true, true, true, false, true, false]) [vs (ByteArray.mk (Array.mk [])), .list 0 1 [], vi 0, .arr 0 1 0 0, vi 0, vs (mk s), vi f, vi m] [⟨.arr, 9, 1, 1, []⟩] = _ := g
    rw [g'] at hd
    rw [splitR_2 hf' hm' h5 h6 fun hok => hall fun k _ hk => ⟨hok.2.2 k hk, edge_le hok.2.2 (m - (k + 1)) (k + 1) (by omega)⟩]
    exact ⟨.list 0 1 [], hd, rfl⟩
end
/- Octets: Split undoes Join, and Join Split (plain lists). -/
section
theorem hs_get : ∀ (t : Nat) (P : List B) (i : Nat), i < P.length → ((hs t P).drop (4 * i)).take 4 = put (t + ((P.take i).flatten).length) 4
  | t, [], i, hi => by simp at hi
  | t, p :: r, 0, hi => by
    simp only [hs, Nat.mul_zero, List.drop_zero, List.take_zero, List.flatten_nil, List.length_nil, Nat.add_zero]
    rw [List.take_append_of_le_length (by rw [put_len]; omega), List.take_of_length_le (by rw [put_len]; omega)]
  | t, p :: r, i + 1, hi => by
    have ih := hs_get (t + p.length) r i (by simpa using hi)
    simp only [hs, List.take_succ_cons, List.flatten_cons, List.length_append]
    rw [List.drop_append, put_len, List.drop_eq_nil_iff.2 (by rw [put_len]; omega), List.nil_append, show 4 * (i + 1) - 4 = 4 * i by omega, ih, Nat.add_assoc]
theorem flat_split {P : List B} {i : Nat} {p : B} (h : P[i]? = some p) : P.flatten = (P.take i).flatten ++ (p ++ (P.drop (i + 1)).flatten) := by
  have hi := (List.getElem?_eq_some_iff.1 h).1
  have e : P = P.take i ++ (p :: P.drop (i + 1)) := by
    have h2 : P.drop i = p :: P.drop (i + 1) := by
      rw [List.drop_eq_getElem_cons hi]
      rw [(List.getElem?_eq_some_iff.1 h).2]
    rw [← h2, List.take_append_drop]
  have e2 := congrArg List.flatten e
  rw [List.flatten_append, List.flatten_cons] at e2
  exact e2
theorem flat_take_succ {P : List B} {i : Nat} {p : B} (h : P[i]? = some p) : ((P.take (i + 1)).flatten).length = ((P.take i).flatten).length + p.length := by
  rw [List.take_add_one, h, List.flatten_append]
  simp
abbrev joined (x : B) (P : List B) : B := x ++ hs (x.length + 4 * P.length) P ++ P.flatten
theorem joined_len (x : B) (P : List B) : (joined x P).length = x.length + 4 * P.length + P.flatten.length := by
  simp only [joined, List.length_append, hs_len]
theorem join_off {x : B} {P : List B} (h : x.length + 4 * P.length + P.flatten.length ≤ 65536) {i : Nat} (hi : i < P.length) : off (joined x P) x.length i = x.length + 4 * P.length + ((P.take i).flatten).length := by
  have hfl : ((P.take i).flatten).length ≤ P.flatten.length := by
    rw [flat_split (List.getElem?_eq_getElem hi)]
    simp
  unfold off
  have e : ((joined x P).drop (x.length + 4 * i)).take 4 = ((hs (x.length + 4 * P.length) P).drop (4 * i)).take 4 := by
    unfold joined
    rw [List.append_assoc, List.drop_append, List.drop_eq_nil_iff.2 (show x.length ≤ x.length + 4 * i by omega), List.nil_append, show x.length + 4 * i - x.length = 4 * i by omega,
      List.drop_append_of_le_length (by rw [hs_len]; omega), List.take_append_of_le_length (by rw [List.length_drop, hs_len]; omega)]
  rw [e, hs_get _ _ _ hi, val_put]
  have : (256 : Nat) ^ 4 = 4294967296 := by decide
  exact Nat.mod_eq_of_lt (by omega)
theorem join_edge {x : B} {P : List B} (h : x.length + 4 * P.length + P.flatten.length ≤ 65536) {i : Nat} (hi : i ≤ P.length) : edge (joined x P) x.length P.length i = x.length + 4 * P.length + ((P.take i).flatten).length := by
  unfold edge
  by_cases hlt : i < P.length
  · rw [if_pos hlt, join_off h hlt]
  · rw [if_neg hlt, joined_len, show i = P.length by omega, List.take_length]
theorem join_ok {x : B} {P : List B} (h : x.length + 4 * P.length + P.flatten.length ≤ 65536) : okS (joined x P) x.length P.length := by
  refine ⟨fun h0 => ?_, fun h0 => ?_, fun k hk => ?_⟩
  · have : P = [] := List.eq_nil_of_length_eq_zero h0
    subst this
    simp [joined, hs]
  · rw [join_off h h0]
    simp
  · rw [join_edge h (by omega), join_edge h (by omega), flat_take_succ (List.getElem?_eq_getElem hk)]
    omega
theorem join_pieces {x : B} {P : List B} (h : x.length + 4 * P.length + P.flatten.length ≤ 65536) : pieces (joined x P) x.length P.length P.length = P := by
  apply List.ext_getElem?
  intro i
  by_cases hi : i < P.length
  · have hp := List.getElem?_eq_getElem hi
    unfold pieces
    rw [List.getElem?_map, List.getElem?_range hi, hp]
    show some (piece _ _ _ i) = _
    congr 1
    unfold piece
    rw [join_edge h (by omega), join_edge h (by omega), flat_take_succ hp]
    have hl : (x ++ hs (x.length + 4 * P.length) P).length = x.length + 4 * P.length := by rw [List.length_append, hs_len]
    have e : joined x P = (x ++ hs (x.length + 4 * P.length) P) ++ ((P.take i).flatten ++ (P[i] ++ (P.drop (i + 1)).flatten)) := by
      unfold joined
      rw [← flat_split hp]
    rw [e]
    generalize hA : x ++ hs (x.length + 4 * P.length) P = A at hl
    generalize (P.take i).flatten = C
    generalize (P.drop (i + 1)).flatten = D
    rw [← hl]
    have e2 : A ++ (C ++ (P[i] ++ D)) = ((A ++ C) ++ P[i]) ++ D := by simp
    rw [e2, List.take_append_of_le_length (by simp), List.take_of_length_le (by simp), List.drop_append_of_le_length (by simp), List.drop_eq_nil_iff.2 (by simp), List.nil_append]
  · rw [List.getElem?_eq_none (by rw [pieces_len]; omega), List.getElem?_eq_none (by omega)]
theorem join_take (x : B) (P : List B) : (joined x P).take x.length = x := by
  unfold joined
  rw [List.append_assoc, List.take_append_of_le_length (Nat.le_refl _), List.take_of_length_le (Nat.le_refl _)]
theorem split_joined {x : B} {P : List B} (hP : P.length ≤ 8) (h : x.length + 4 * P.length + P.flatten.length ≤ 65536) : splitR (joined x P) x.length P.length = (x, P, 0) := by
  have hl := joined_len x P
  rw [splitR_0 (by omega) hP (by omega) (by omega) (join_ok h), join_pieces h, join_take]
end
end Go.Proofs.Av
