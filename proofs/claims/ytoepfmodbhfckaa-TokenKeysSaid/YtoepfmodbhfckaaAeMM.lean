/- Tokens in closed form: steps, numbers as bytes, order, Merge, Encode, Decode, Keys, raw tokens, and the document's. -/
import Derived.Test.YtoepfmodbhfckaaAeY
namespace Go.Proofs.Av
open Go
/- Octets: steps by which trees are taken apart; texts as lists of bytes; numbers as bytes. -/
section
variable {ρ : Type} {x : Option (Out × Heap)}
theorem wr_id {n : Int} (h1 : -9223372036854775808 ≤ n) (h2 : n ≤ 9223372036854775807) : IntKind.wrap .i64 n = n := by
  simp only [IntKind.wrap, IntKind.bits, IntKind.signed, Bool.true_and]
  split <;> simp_all <;> omega
theorem wr_add {a b : Int} (h1 : -9223372036854775808 ≤ a + b) (h2 : a + b ≤ 9223372036854775807) : IntKind.wrap .i64 (Int.add a b) = a + b := wr_id (n := a + b) h1 h2
theorem wr_sub {a b : Int} (h1 : -9223372036854775808 ≤ a - b) (h2 : a - b ≤ 9223372036854775807) : IntKind.wrap .i64 (Int.sub a b) = a - b := wr_id (n := a - b) h1 h2
theorem wr_mul {a b : Int} (h1 : -9223372036854775808 ≤ a * b) (h2 : a * b ≤ 9223372036854775807) : IntKind.wrap .i64 (Int.mul a b) = a * b := wr_id (n := a * b) h1 h2
theorem wu_id {n : Int} (h1 : 0 ≤ n) (h2 : n < 18446744073709551616) : IntKind.wrap .u64 n = n := by
  simp only [IntKind.wrap, IntKind.bits, IntKind.signed, Bool.false_and]
  simp
  omega
theorem w8 {n : Int} : IntKind.wrap .u8 n = n % 256 := by
  simp only [IntKind.wrap, IntKind.bits, IntKind.signed, Bool.false_and]
  simp
abbrev rb (b : Bool) : Option (Out × Heap) := some (Out.ret (vbool b), [])
abbrev RI (n : Int) : Prop := -9223372036854775808 ≤ n ∧ n ≤ 9223372036854775807
theorem goB {b : Bool} (h : x = rb b) (k : Bool → Option ρ) : (x.bind fun r => (ret1 r).bind fun v => v.bool?.bind fun b => k b) = k b := by rw [h]; rfl
theorem goT (h : x = rb true) (k j : Option ρ) : (x.bind fun r => (ret1 r).bind fun v => v.bool?.bind fun b => bif b then k else j) = k := by rw [h]; rfl
theorem goF (h : x = rb false) (k j : Option ρ) : (x.bind fun r => (ret1 r).bind fun v => v.bool?.bind fun b => bif b then k else j) = j := by rw [h]; rfl
theorem goI {n : Int} (h : x = some (Out.ret (vi n), [])) (k : Int → Option ρ) : (x.bind fun r => (ret1 r).bind fun v => (v.int? .i64).bind fun n => k n) = k n := by rw [h]; rfl
theorem goU {n : Int} (h : x = some (Out.ret (vu n), [])) (k : Int → Option ρ) : (x.bind fun r => (ret1 r).bind fun v => (v.int? .u64).bind fun n => k n) = k n := by rw [h]; rfl
theorem goN {p : Prop} [Decidable p] (h : ¬ p) (k j : Option ρ) : (if p then k else j) = j := if_neg h
theorem goY {p : Prop} [Decidable p] (h : p) (k j : Option ρ) : (if p then k else j) = k := if_pos h
theorem goD {p : Prop} [Decidable p] (h : p) (k j : Option ρ) : (bif decide p then k else j) = k := by rw [decide_eq_true h]; rfl
theorem goDn {p : Prop} [Decidable p] (h : ¬ p) (k j : Option ρ) : (bif decide p then k else j) = j := by rw [decide_eq_false h]; rfl
theorem goE {a b : Int} (h : a = b) (k j : Option ρ) : (bif a != b then k else j) = j := by rw [h, show (b != b) = false by simp]; rfl
theorem goEn {a b : Int} (h : a ≠ b) (k j : Option ρ) : (bif a != b then k else j) = k := by rw [show (a != b) = true by simp [h]]; rfl
theorem goLe {a b : Nat} (h : a ≤ b) (k : Option ρ) : ((chkLe a b).bind fun _ => k) = k := by rw [show chkLe a b = some () from if_pos h]; rfl
theorem goCk {a b : Nat} (h : a = b) (k : Option ρ) : ((chk a b).bind fun _ => k) = k := by rw [show chk a b = some () from if_pos h]; rfl

/-! ### Texts -/
abbrev B := List UInt8
abbrev mk (l : B) : ByteArray := ByteArray.mk (Array.mk l)
theorem str_eta (s : ByteArray) : ∃ l, s = mk l := ⟨s.data.toList, rfl⟩
theorem toList_mk (l : B) : ByteArray.toList (mk l) = l := by rw [ByteArray.toList_eq]
theorem ext_mk (l : B) (a b : Nat) : ByteArray.extract (mk l) a b = mk ((l.take b).drop a) := by
  have h : (ByteArray.extract (mk l) a b).data.toList = (l.take b).drop a := by
    rw [ByteArray.data_extract, Array.toList_extract, List.extract_eq_take_drop, ← List.drop_take]
  exact show ByteArray.mk (Array.mk (ByteArray.extract (mk l) a b).data.toList) = _ by rw [h]
theorem app_mk (a b : B) : ByteArray.append (mk a) (mk b) = mk (a ++ b) := by
  have h : (ByteArray.append (mk a) (mk b)).data.toList = a ++ b := by
    show (mk a ++ mk b).data.toList = _
    rw [ByteArray.data_append]
    simp
  exact show ByteArray.mk (Array.mk (ByteArray.append (mk a) (mk b)).data.toList) = _ by rw [h]
theorem get_mk (l : B) (i : Nat) : (mk l)[i]? = l[i]? := by
  by_cases h : i < l.length
  · rw [getElem?_pos (mk l) i h, List.getElem?_eq_getElem h]
    rfl
  · rw [getElem?_neg (mk l) i h, List.getElem?_eq_none (by omega)]
theorem beq_mk (a b : B) : List.beq (ByteArray.toList (mk a)) (ByteArray.toList (mk b)) = decide (a = b) := by
  rw [toList_mk, toList_mk]
  show (a == b) = _
  by_cases h : a = b <;> simp [h]
theorem goQ {a b : B} (h : a = b) (k j : Option ρ) : (bif List.beq (ByteArray.toList (mk a)) (ByteArray.toList (mk b)) then k else j) = k := by rw [beq_mk, decide_eq_true h]; rfl
theorem goQf {a b : B} (h : ¬ a = b) (k j : Option ρ) : (bif List.beq (ByteArray.toList (mk a)) (ByteArray.toList (mk b)) then k else j) = j := by rw [beq_mk, decide_eq_false h]; rfl
theorem goQn {a b : B} (h : a = b) (k j : Option ρ) : (bif !List.beq (ByteArray.toList (mk a)) (ByteArray.toList (mk b)) then k else j) = j := by rw [beq_mk, decide_eq_true h]; rfl
theorem goQt {a b : B} (h : ¬ a = b) (k j : Option ρ) : (bif !List.beq (ByteArray.toList (mk a)) (ByteArray.toList (mk b)) then k else j) = k := by rw [beq_mk, decide_eq_false h]; rfl
theorem goS {l : B} (h : x = some (Out.ret (vs (mk l)), [])) (k : ByteArray → Option ρ) : (x.bind fun r => (ret1 r).bind fun v => v.str?.bind fun s => k s) = k (mk l) := by rw [h]; rfl
theorem goG {l : B} {i : Int} {n : Nat} {b : UInt8} (hn : i = n) (h : l[n]? = some b) (k : UInt8 → Option ρ) : ((mk l)[Int.toNat i]?.bind fun b => k b) = k b := by
  subst hn
  rw [get_mk, Int.toNat_natCast, h]
  rfl
/-- A number, a text, an error's number. -/
abbrev RT (w : Int) (l : B) (e : Int) : Option (Out × Heap) := some (Out.ret (.tuple [vu w, vs (mk l), vi e]), [])
abbrev RJ (l : B) (e : Int) : Option (Out × Heap) := some (Out.ret (.tuple [vs (mk l), vi e]), [])
abbrev row (p : B) : List AV := [vs (mk p)]
abbrev rowsB (l : List B) : List (List AV) := l.map row
def RS (x : Option (Out × Heap)) (l : B) (ps : List B) (e : Int) : Prop := ∃ a, x = some (Out.ret (.tuple [vs (mk l), a, vi e]), []) ∧ a.list? 1 = some (rowsB ps)
theorem goTk {w : Int} {l : B} {e : Int} (h : x = RT w l e) (k : Int → ByteArray → Int → Option ρ) : (x.bind fun r => (ret1 r).bind fun v => v.tup?.bind fun vs => (uncons? vs).bind fun p1 => (AV.int? .u64 p1.fst).bind fun n =>
    (uncons? p1.snd).bind fun p2 => (AV.str? p2.fst).bind fun s => (uncons? p2.snd).bind fun p3 => (AV.int? .i64 p3.fst).bind fun e => (nil? p3.snd).bind fun _ => k n s e) = k w (mk l) e := by rw [h]; rfl
theorem goJn {l : B} {e : Int} (h : x = RJ l e) (k : ByteArray → Int → Option ρ) : (x.bind fun r => (ret1 r).bind fun v => v.tup?.bind fun vs => (uncons? vs).bind fun p2 => (AV.str? p2.fst).bind fun s =>
    (uncons? p2.snd).bind fun p3 => (AV.int? .i64 p3.fst).bind fun e => (nil? p3.snd).bind fun _ => k s e) = k (mk l) e := by rw [h]; rfl
theorem goSp {l : B} {ps : List B} {e : Int} (h : RS x l ps e) (k : ByteArray → List (List AV) → Int → Option ρ) : (x.bind fun r => (ret1 r).bind fun v => v.tup?.bind fun vs => (uncons? vs).bind fun p1 => (AV.str? p1.fst).bind fun s =>
    (uncons? p1.snd).bind fun p2 => (AV.list? 1 p2.fst).bind fun l => (uncons? p2.snd).bind fun p3 => (AV.int? .i64 p3.fst).bind fun e => (nil? p3.snd).bind fun _ => k s l e) = k (mk l) (rowsB ps) e := by
  obtain ⟨a, rfl, h⟩ := h
  simp only [Option.bind_some, ret1, AV.tup?, uncons?, h, AV.str?, AV.int?, if_true, nil?]
/-- An element of parts. -/
theorem goP {ps : List B} {i : Int} {n : Nat} {p : B} (hn : i = n) (h : ps[n]? = some p) (k : ByteArray → Option ρ) : ((rowsB ps)[Int.toNat i]?.bind fun cs => (uncons? cs).bind fun p => (AV.str? p.fst).bind fun s => (nil? p.snd).bind fun _ => k s) = k (mk p) := by
  subst hn
  have : (rowsB ps)[Int.toNat (n : Int)]? = some (row p) := by simp [rowsB, h]
  rw [this]
  rfl
abbrev ints (l : List Int) : List (List AV) := l.map fun n => [vi n]
theorem go1 {l : List Int} {i : Int} {n : Nat} {r : Int} (hn : i = n) (h : l[n]? = some r) (k : Int → Option ρ) : ((ints l)[Int.toNat i]?.bind fun cs => (uncons? cs).bind fun p => (AV.int? .i64 p.fst).bind fun s => (nil? p.snd).bind fun _ => k s) = k r := by
  subst hn
  have : (ints l)[Int.toNat (n : Int)]? = some [vi r] := by simp [ints, h]
  rw [this]
  rfl
theorem go1n {l : List Int} {i : Int} {n : Nat} {r : Int} (hn : i = n) (h : l[n]? = some r) (k : Int → Option ρ) : ((nth (ints l) (Nat.add 0 (Int.toNat i))).bind fun cs => (uncons? cs).bind fun p => (AV.int? .i64 p.fst).bind fun s => (nil? p.snd).bind fun _ => k s) = k r := by
  subst hn
  have : nth (ints l) (Nat.add 0 (Int.toNat (n : Int))) = some [vi r] := by
    rw [nth_eq]
    show (ints l)[0 + n]? = _
    rw [Nat.zero_add]
    simp [ints, h]
  rw [this]
  rfl

/-! ### Numbers as bytes -/
def val : B → Nat
  | [] => 0
  | b :: r => b.toNat + 256 * val r
def put (w : Nat) : Nat → B
  | 0 => []
  | n + 1 => UInt8.ofNat (w % 256) :: put (w / 256) n
theorem put_len (w n : Nat) : (put w n).length = n := by
  induction n generalizing w with
  | zero => rfl
  | succ n ih => simp [put, ih]
theorem val_put (w n : Nat) : val (put w n) = w % 256 ^ n := by
  induction n generalizing w with
  | zero => simp [put, val, Nat.mod_one]
  | succ n ih =>
    simp only [put, val, ih]
    rw [Nat.pow_succ, Nat.mul_comm (256 ^ n) 256, Nat.mod_mul]
    simp
theorem put_val (l : B) : put (val l) l.length = l := by
  induction l with
  | nil => rfl
  | cons b l ih =>
    simp only [List.length_cons, put, val]
    have hb := b.toNat_lt
    rw [show (b.toNat + 256 * val l) % 256 = b.toNat by omega, show (b.toNat + 256 * val l) / 256 = val l by omega, ih]
    simp
theorem val_lt (l : B) : val l < 256 ^ l.length := by
  induction l with
  | nil => simp [val]
  | cons b l ih =>
    simp only [List.length_cons, val, Nat.pow_succ]
    have hb := b.toNat_lt
    omega
theorem put_get (w n i : Nat) (hi : i < n) : (put w n)[i]? = some (UInt8.ofNat (w / 256 ^ i % 256)) := by
  induction n generalizing w i with
  | zero => omega
  | succ n ih =>
    cases i with
    | zero => simp [put]
    | succ i =>
      simp only [put, List.getElem?_cons_succ]
      rw [ih (w / 256) i (by omega), Nat.div_div_eq_div_mul, Nat.pow_succ, Nat.mul_comm (256 ^ i)]
theorem val_snoc (l : B) (b : UInt8) : val (l ++ [b]) = val l + b.toNat * 256 ^ l.length := by
  induction l with
  | nil => simp [val]
  | cons a l ih =>
    simp only [List.cons_append, val, ih, List.length_cons, Nat.pow_succ, Nat.mul_add]
    rw [Nat.mul_comm (256 ^ l.length) 256, Nat.mul_left_comm]
    omega
theorem val_take_succ {l : B} {k : Nat} {b : UInt8} (h : l[k]? = some b) : val (l.take (k + 1)) = val (l.take k) + b.toNat * 256 ^ k := by
  have hk := (List.getElem?_eq_some_iff.1 h).1
  rw [List.take_add_one, h]
  simp only [Option.toList_some]
  rw [val_snoc, List.length_take, Nat.min_eq_left (by omega)]
end
/- Octets: Put and Take, and the document's. -/
section
abbrev bytesI (l : List Int) : List (List AV) := l.map fun n => [vb n]
theorem numsOf_bytes : ∀ (l : List Int), numsOf (bytesI l) = some l
  | [] => rfl
  | a :: l => by
    show ((uncons? [vb a]).bind fun p => (nil? p.2).bind fun _ => (p.1.int? .u8).bind fun n => (numsOf (bytesI l)).bind fun ns => some (n :: ns)) = _
    rw [numsOf_bytes l]
    rfl
theorem strOf (l : List Int) : Go.strOfNums l = mk (l.map fun n => UInt8.ofNat n.toNat) := rfl
theorem yRows_arr {es : List (List AV)} {n : Nat} (h : es.length = n) : yRows [⟨.arr, 5, 1, 1, es⟩] 1 (.arr 0 1 0 n) = some es := by
  show ((chkLe (0 + n) es.length).bind fun _ => some ((es.take (0 + n)).drop 0)) = _
  rw [goLe (by omega), Nat.zero_add, List.drop_zero, List.take_of_length_le (by omega)]
theorem shr8 (w : Nat) {i : Nat} (hi : i ≤ 8) : ishr .u64 (w : Int) (IntKind.wrap .i64 (Int.mul 8 i)) = ((w / 256 ^ i : Nat) : Int) := by
  rw [wr_mul (by omega) (by omega)]
  unfold ishr
  have h1 : (8 * (i : Int)).toNat = 8 * i := by omega
  rw [h1, show IntKind.u64.bits = 64 from rfl, Nat.min_eq_left (by omega)]
  rw [show (2 : Int) ^ (8 * i) = ((256 ^ i : Nat) : Int) by rw [Int.natCast_pow]; rw [Int.pow_mul]; rfl]
  rw [Int.fdiv_eq_ediv_of_nonneg _ (Int.natCast_nonneg _)]
  exact (Int.natCast_ediv _ _).symm
theorem put_loop (w : Nat) (n : Nat) (hn : n ≤ 8) : ∀ (d i : Nat) (l : List Int), d + i = n → l.length = n →
    ∃ l', E cx (Key.loop 106 [true, true, true, false, true, false]) [vi i, vu w, .arr 0 1 0 n, vi n] [⟨.arr, 5, 1, 1, bytesI l⟩] = some (Out.jump (.exit 0) [vi n], [⟨.arr, 5, 1, 1, bytesI l'⟩]) ∧ l'.length = n ∧
      (∀ j, j < i → l'[j]? = l[j]?) ∧ ∀ j, i ≤ j → j < n → l'[j]? = some ((w / 256 ^ j % 256 : Nat) : Int)
  | 0, i, l, hd, hl => by
    have : i = n := by omega
    subst this
    exact ⟨l, (f106_l0 i w i i (bytesI l)).trans (goDn (by omega) _ _), hl, fun j _ => rfl, fun j h1 h2 => by omega⟩
  | d + 1, i, l, hd, hl => by
    have hi : i < l.length := by omega
    have hm : IntKind.wrap .i64 (Int.mul 8 i) = 8 * i := wr_mul (by omega) (by omega)
    obtain ⟨l', h1, h2, h3, h4⟩ := put_loop w n hn d (i + 1) (l.set i ((w / 256 ^ i % 256 : Nat) : Int)) (by omega) (by simp [hl])
    refine ⟨l', (f106_l0 i w n n (bytesI l)).trans ?_, h2, fun j hj => ?_, fun j hj1 hj2 => ?_⟩
    · refine (goD (by omega) _ _).trans ?_
      refine (goN (by rw [hm]; omega) _ _).trans ?_
      refine (goY (by omega) _ _).trans ?_
      refine (goY (by omega) _ _).trans ?_
      have e0 : nth (bytesI l) (Nat.add 0 (Int.toNat (i : Int))) = some [vb l[i]] := by
        rw [nth_eq]
        show (bytesI l)[0 + i]? = _
        rw [Nat.zero_add]
        simp [bytesI, hi]
      rw [e0]
      have e1 : IntKind.wrap .i64 (Int.add i 1) = ((i + 1 : Nat) : Int) := wr_add (by omega) (by omega)
      have e2 : List.set (bytesI l) (Nat.add 0 (Int.toNat (i : Int))) [vb (IntKind.wrap .u8 (ishr .u64 (w : Int) (IntKind.wrap .i64 (Int.mul 8 i))))] = bytesI (l.set i ((w / 256 ^ i % 256 : Nat) : Int)) := by
        rw [shr8 w (by omega), w8]
        show List.set (bytesI l) (0 + i) _ = _
        rw [Nat.zero_add]
        simp only [bytesI, List.map_set]
        rfl
      show E cx _ [vi (IntKind.wrap .i64 (Int.add i 1)), vu w, .arr 0 1 0 n, vi n] [⟨.arr, 5, 1, 1, List.set (bytesI l) (Nat.add 0 (Int.toNat (i : Int))) [vb (IntKind.wrap .u8 (ishr .u64 (w : Int) (IntKind.wrap .i64 (Int.mul 8 i))))]⟩] = _
      rw [e1, e2]
      exact h1
    · rw [h3 j (by omega), List.getElem?_set_ne (by omega)]
    · by_cases hij : j = i
      · subst hij
        rw [h3 j (by omega), List.getElem?_set_self hi]
      · exact h4 j (by omega) hj2
/-- Put. -/
def putI (w : Nat) (n : Int) : B := if n < 1 ∨ n > 8 then [] else put w n.toNat
theorem putI_lo {w : Nat} {n : Int} (h : n < 1 ∨ n > 8) : putI w n = [] := if_pos h
theorem putI_ok {w : Nat} {n : Int} (h1 : ¬ n < 1) (h2 : ¬ n > 8) : putI w n = put w n.toNat := if_neg (by omega)
theorem map_put {l' : List Int} {w n : Nat} (hl : l'.length = n) (h : ∀ j, j < n → l'[j]? = some ((w / 256 ^ j % 256 : Nat) : Int)) : (l'.map fun n => UInt8.ofNat n.toNat) = put w n := by
  apply List.ext_getElem?
  intro j
  by_cases hj : j < n
  · rw [put_get w n j hj, List.getElem?_map, h j hj]
    rfl
  · rw [List.getElem?_eq_none (by simp; omega), List.getElem?_eq_none (by rw [put_len]; omega)]
theorem c106 (w : Nat) (n : Int) : E cx (Key.fn 106) [vu w, vi n] [] = some (Out.ret (vs (mk (putI w n))), []) := by
  refine (f106 w n).trans ?_
  by_cases h1 : n < 1
  · rw [putI_lo (.inl h1)]
    exact goD h1 _ _
  · refine (goDn h1 _ _).trans ?_
    by_cases h2 : n > 8
    · rw [putI_lo (.inr h2)]
      exact goD h2 _ _
    · rw [putI_ok h1 h2]
      refine (goDn h2 _ _).trans ?_
      refine (goY (by omega) _ _).trans ?_
      refine (goY (Int.le_refl _) _ _).trans ?_
      refine (goY (by show 1 * n ≤ _; omega) _ _).trans ?_
      obtain ⟨m, rfl⟩ : ∃ m : Nat, n = m := ⟨n.toNat, by omega⟩
      obtain ⟨l', g1, g2, _, g4⟩ := put_loop w m (by omega) m 0 (List.replicate m 0) rfl (by simp)
      have e : (List.replicate (Int.toNat (m : Int)) [vb 0] : List (List AV)) = bytesI (List.replicate m 0) := by simp [bytesI]
      rw [e]
      show (Option.bind (E cx _ [vi ((0 : Nat) : Int), vu w, .arr 0 1 0 m, vi m] _) _) = _
      rw [g1]
      show ((yRows [⟨.arr, 5, 1, 1, bytesI l'⟩] 1 (.arr 0 1 0 m)).bind fun ys => (numsOf ys).bind fun ns => some (Out.ret (vs (Go.strOfNums ns)), [])) = _
      rw [yRows_arr (by simp [bytesI, g2])]
      show ((numsOf (bytesI l')).bind fun ns => some (Out.ret (vs (Go.strOfNums ns)), [])) = _
      rw [numsOf_bytes]
      show some (Out.ret (vs (Go.strOfNums l')), []) = _
      rw [strOf, map_put g2 fun j hj => g4 j (by omega) hj]
      rfl
/-- The document's. -/
theorem rput_loop (w : Nat) (n : Int) (hn : n ≤ 8) : ∀ (d i : Nat) (l : List Int), (d : Int) + i = max n i → l.length = i → i ≤ 8 → (∀ j, j < i → l[j]? = some ((w / 256 ^ j % 256 : Nat) : Int)) →
    ∃ l', E cx (Key.loop 107 [true, true, false, true, false]) [.arr 0 1 0 i, vi i, vu w, vi n] [⟨.arr, 5, 1, 1, bytesI l⟩] = some (Out.jump (.exit 0) [.arr 0 1 0 (d + i), vi (d + i : Nat)], [⟨.arr, 5, 1, 1, bytesI l'⟩]) ∧ l'.length = d + i ∧
      ∀ j, j < d + i → l'[j]? = some ((w / 256 ^ j % 256 : Nat) : Int)
  | 0, i, l, hd, hl, hi, hj => by
    refine ⟨l, (f107_l0 i i w n (bytesI l)).trans ((goDn (by omega) _ _).trans ?_), by omega, fun j hj' => hj j (by omega)⟩
    rw [Nat.zero_add]
  | d + 1, i, l, hd, hl, hi, hj => by
    have hm : IntKind.wrap .i64 (Int.mul 8 i) = 8 * i := wr_mul (by omega) (by omega)
    obtain ⟨l', h1, h2, h3⟩ := rput_loop w n hn d (i + 1) (l ++ [((w / 256 ^ i % 256 : Nat) : Int)]) (by omega) (by simp [hl]) (by omega) fun j hj' => by
      by_cases hji : j = i
      · subst hji
        rw [List.getElem?_append_right (by omega), hl]
        simp
      · rw [List.getElem?_append_left (by omega)]
        exact hj j (by omega)
    have hdi : d + 1 + i = d + (i + 1) := by omega
    rw [hdi]
    refine ⟨l', (f107_l0 i i w n (bytesI l)).trans ?_, h2, h3⟩
    refine (goD (by omega) _ _).trans ?_
    refine (goD (by omega) _ _).trans ?_
    refine (goN (by rw [hm]; omega) _ _).trans ?_
    refine (goCk (by show i = (bytesI l).length; simp [bytesI, hl]) _).trans ?_
    have hlen : (bytesI l).length = i := by simp [bytesI, hl]
    refine (goY (by show Nat.mul (Nat.add (bytesI l).length 1) 1 ≤ _; rw [hlen]; show (i + 1) * 1 ≤ _; omega) _ _).trans ?_
    have e1 : IntKind.wrap .i64 (Int.add i 1) = ((i + 1 : Nat) : Int) := wr_add (by omega) (by omega)
    have e2 : (bytesI l ++ [[vb (IntKind.wrap .u8 (Int.tmod (ishr .u64 (w : Int) (IntKind.wrap .i64 (Int.mul 8 i))) 256))]]) = bytesI (l ++ [((w / 256 ^ i % 256 : Nat) : Int)]) := by
      rw [shr8 w (by omega), w8]
      simp only [bytesI, List.map_append, List.map_cons, List.map_nil]
      congr 4
      rw [Int.tmod_eq_emod_of_nonneg (Int.natCast_nonneg _)]
      generalize w / 256 ^ i = z
      omega
    show E cx _ [.arr 0 1 0 (Nat.add (bytesI l).length 1), vi (IntKind.wrap .i64 (Int.add i 1)), vu w, vi n] [⟨.arr, 5, 1, 1, bytesI l ++ [[vb (IntKind.wrap .u8 (Int.tmod (ishr .u64 (w : Int) (IntKind.wrap .i64 (Int.mul 8 i))) 256))]]⟩] = _
    rw [e1, e2, hlen]
    exact h1
theorem c107 (w : Nat) (n : Int) : E cx (Key.fn 107) [vu w, vi n] [] = some (Out.ret (vs (mk (putI w n))), []) := by
  refine (f107 w n).trans ?_
  by_cases h2 : n > 8
  · have e : E cx (Key.loop 107 [true, true, false, true, false]) [.arr 0 1 0 0, vi 0, vu w, vi n] [⟨.arr, 5, 1, 1, []⟩] = some (Out.jump (.exit 0) [.arr 0 1 0 0, vi 0], [⟨.arr, 5, 1, 1, []⟩]) := by
      refine (f107_l0 0 0 w n []).trans ?_
      refine (goD (by omega) _ _).trans ?_
      exact goDn (by omega) _ _
    rw [e]
    rw [putI_lo (.inr h2)]
    rfl
  · obtain ⟨l', g1, g2, g3⟩ := rput_loop w n (by omega) n.toNat 0 [] (by omega) rfl (by omega) fun j hj => by omega
    show (Option.bind (E cx _ [.arr 0 1 0 0, vi ((0 : Nat) : Int), vu w, vi n] [⟨.arr, 5, 1, 1, bytesI []⟩]) _) = _
    rw [g1]
    show ((yRows [⟨.arr, 5, 1, 1, bytesI l'⟩] 1 (.arr 0 1 0 (n.toNat + 0))).bind fun ys => (numsOf ys).bind fun ns => some (Out.ret (vs (Go.strOfNums ns)), [])) = _
    rw [yRows_arr (by simp [bytesI, g2])]
    show ((numsOf (bytesI l')).bind fun ns => some (Out.ret (vs (Go.strOfNums ns)), [])) = _
    rw [numsOf_bytes]
    show some (Out.ret (vs (Go.strOfNums l')), []) = _
    rw [strOf, map_put g2 g3]
    by_cases h1 : n < 1
    · rw [putI_lo (.inl h1), show n.toNat + 0 = 0 by omega]
      rfl
    · rw [putI_ok h1 h2]
      rfl
end
/- Octets: Take, and the document's; numbers; texts compared; picks; raw parts. -/
section
theorem p64 {i : Nat} (hi : i ≤ 7) : 256 ^ i * 256 ≤ 18446744073709551616 := by
  have : 256 ^ i ≤ 256 ^ 7 := Nat.pow_le_pow_right (by decide) hi
  have e : (256 : Nat) ^ 7 = 72057594037927936 := by decide
  omega
theorem shl8 {w : Nat} (hw : w * 256 < 18446744073709551616) : ishl .u64 (w : Int) 8 = ((w * 256 : Nat) : Int) := by
  unfold ishl
  show IntKind.wrap .u64 ((w : Int) * 256) = _
  rw [show (w : Int) * 256 = ((w * 256 : Nat) : Int) by omega]
  exact wu_id (by omega) (by omega)
theorem ior8 {w : Nat} (hw : w * 256 < 18446744073709551616) (b : UInt8) : ior .u64 (ishl .u64 (w : Int) 8) (IntKind.wrap .u64 ((b.toNat : Nat) : Int)) = ((w * 256 + b.toNat : Nat) : Int) := by
  have hb := b.toNat_lt
  have h2 : w * 256 + b.toNat = (w * 256 ||| b.toNat) := by
    have := Nat.two_pow_add_eq_or_of_lt (i := 8) (b := b.toNat) (by omega) w
    rw [show (2 : Nat) ^ 8 = 256 by decide] at this
    rw [Nat.mul_comm]
    exact this
  rw [shl8 hw, wu_id (by omega) (by omega)]
  unfold ior
  rw [h2]
  have h3 : (BitVec.ofInt IntKind.u64.bits ((w * 256 : Nat) : Int) ||| BitVec.ofInt IntKind.u64.bits ((b.toNat : Nat) : Int)).toNat = (w * 256 ||| b.toNat) := by
    rw [BitVec.toNat_or, BitVec.ofInt_natCast, BitVec.ofInt_natCast, BitVec.toNat_ofNat, BitVec.toNat_ofNat]
    show (w * 256 % 2 ^ 64 ||| b.toNat % 2 ^ 64) = _
    rw [Nat.mod_eq_of_lt (by omega), Nat.mod_eq_of_lt (by omega)]
  rw [h3]
  exact wu_id (by omega) (by omega)
theorem take_loop (l : B) (n : Int) : ∀ (k w : Nat), k ≤ l.length → w * 256 ^ k + 256 ^ k ≤ 18446744073709551616 → k ≤ 8 →
    E cx (Key.loop 116 [true, true, false, true, false]) [vu w, vi ((k : Int) - 1), vs (mk l), vi n] [] = some (Out.jump (.exit 1) [vu ((w * 256 ^ k + val (l.take k) : Nat) : Int), vi (-1)], [])
  | 0, w, hk, hw, h8 => by
    refine (f116_l0 _ _ _ _).trans ((goDn (by omega) _ _).trans ?_)
    simp [val]
  | k + 1, w, hk, hw, h8 => by
    have hb : l[k]? = some l[k] := List.getElem?_eq_getElem (by omega)
    have hpos : 1 ≤ 256 ^ k := Nat.one_le_pow _ _ (by omega)
    have hp : 256 ^ (k + 1) = 256 ^ k * 256 := Nat.pow_succ ..
    rw [hp, ← Nat.mul_assoc] at hw
    have hw1 : w * 256 ≤ w * 256 * 256 ^ k := Nat.le_mul_of_pos_right _ (by omega)
    have e3 : w * 256 ^ k * 256 = w * 256 * 256 ^ k := by rw [Nat.mul_assoc, Nat.mul_comm (256 ^ k) 256, ← Nat.mul_assoc]
    rw [e3] at hw
    have hlt : w * 256 < 18446744073709551616 := by omega
    have hbt := l[k].toNat_lt
    refine (f116_l0 _ _ _ _).trans ((goD (by omega) _ _).trans ?_)
    refine (goY (by omega) _ _).trans ?_
    refine (goG (n := k) (by omega) hb _).trans ?_
    rw [ior8 hlt, wr_sub (by omega) (by omega)]
    have ih := take_loop l n k (w * 256 + l[k].toNat) (by omega) (by
      rw [Nat.add_mul]
      have : l[k].toNat * 256 ^ k + 256 ^ k ≤ 256 * 256 ^ k := by
        rw [show l[k].toNat * 256 ^ k + 256 ^ k = (l[k].toNat + 1) * 256 ^ k by rw [Nat.add_mul, Nat.one_mul]]
        exact Nat.mul_le_mul_right _ (by omega)
      omega) (by omega)
    rw [show ((k + 1 : Nat) : Int) - 1 - 1 = (k : Int) - 1 by omega, ih]
    congr 5
    rw [val_take_succ hb, Nat.add_mul, hp, ← Nat.mul_assoc, e3]
    omega
/-- Take. -/
def takeR (l : B) (n : Int) : Nat × B × Int := if n < 1 ∨ n > 8 then (0, [], 1) else if (l.length : Int) < n then (0, [], 3) else (val (l.take n.toNat), l.drop n.toNat, 0)
theorem takeR_1 {l : B} {n : Int} (h : n < 1 ∨ n > 8) : takeR l n = (0, [], 1) := if_pos h
theorem takeR_2 {l : B} {n : Int} (h : ¬ (n < 1 ∨ n > 8)) (h2 : (l.length : Int) < n) : takeR l n = (0, [], 3) := (if_neg h).trans (if_pos h2)
theorem takeR_3 {l : B} {n : Int} (h : ¬ (n < 1 ∨ n > 8)) (h2 : ¬ (l.length : Int) < n) : takeR l n = (val (l.take n.toNat), l.drop n.toNat, 0) := (if_neg h).trans (if_neg h2)
abbrev RT' (r : Nat × B × Int) : Option (Out × Heap) := RT r.1 r.2.1 r.2.2
theorem c116 (l : B) (n : Int) : E cx (Key.fn 116) [vs (mk l), vi n] [] = RT' (takeR l n) := by
  refine (f116 (mk l) n).trans ?_
  by_cases h1 : n < 1
  · rw [takeR_1 (.inl h1)]; exact goD h1 _ _
  refine (goDn h1 _ _).trans ?_
  by_cases h2 : n > 8
  · rw [takeR_1 (.inr h2)]; exact goD h2 _ _
  refine (goDn h2 _ _).trans ?_
  by_cases h3 : (l.length : Int) < n
  · rw [takeR_2 (by omega) h3]; exact goD h3 _ _
  refine (goDn h3 _ _).trans ?_
  rw [takeR_3 (by omega) h3]
  obtain ⟨m, rfl⟩ : ∃ m : Nat, n = m := ⟨n.toNat, by omega⟩
  have h := take_loop l m m 0 (by omega) (by
    have : 256 ^ m ≤ 256 ^ 8 := Nat.pow_le_pow_right (by decide) (by omega)
    have e : (256 : Nat) ^ 8 = 18446744073709551616 := by decide
    omega) (by omega)
  rw [Nat.zero_mul, Nat.zero_add] at h
  rw [wr_sub (by omega) (by omega)]
  show (Option.bind (E cx _ [vu ((0 : Nat) : Int), vi ((m : Int) - 1), vs (mk l), vi m] []) _) = _
  rw [h]
  show (if (0 : Int) ≤ (m : Int) then if (m : Int) ≤ ((ByteArray.size (mk l) : Nat) : Int) then some (Out.ret (AV.tuple [vu (val (l.take m)), vs (ByteArray.extract (mk l) (Int.toNat (m : Int)) (ByteArray.size (mk l))), vi 0]), []) else none else none) = _
  rw [goY (by omega), goY (by show (m : Int) ≤ (l.length : Int); omega), ext_mk]
  show some (Out.ret (AV.tuple [vu (val (l.take m)), vs (mk ((l.take l.length).drop m)), vi 0]), []) = _
  rw [List.take_length]
  rfl
theorem num_loop (l : B) (h8 : l.length ≤ 8) : ∀ (d i : Nat), d + i = l.length →
    E cx (Key.loop 152 [true, true, false, true, false]) [vu (val (l.take i)), vi i, vs (mk l)] [] = some (Out.jump (.exit 0) [vu (val l), vi l.length], [])
  | 0, i, hd => by
    refine (f152_l0 _ _ _).trans ((goDn (by show ¬ (i : Int) < (l.length : Int); omega) _ _).trans ?_)
    rw [List.take_of_length_le (by omega), show i = l.length by omega]
  | d + 1, i, hd => by
    have hb : l[i]? = some l[i] := List.getElem?_eq_getElem (by omega)
    have hm : IntKind.wrap .i64 (Int.mul 8 i) = 8 * i := wr_mul (by omega) (by omega)
    have hbt := l[i].toNat_lt
    refine (f152_l0 _ _ _).trans ((goD (by show (i : Int) < (l.length : Int); omega) _ _).trans ?_)
    refine (goY (by omega) _ _).trans ?_
    refine (goG (n := i) rfl hb _).trans ?_
    refine (goN (by rw [hm]; omega) _ _).trans ?_
    have hv := val_lt (l.take i)
    rw [List.length_take, Nat.min_eq_left (by omega)] at hv
    have hp := p64 (i := i) (by omega)
    have hbp : l[i].toNat * 256 ^ i ≤ 255 * 256 ^ i := Nat.mul_le_mul_right _ (by omega)
    have e1 : ishl .u64 (IntKind.wrap .u64 ((l[i].toNat : Nat) : Int)) (IntKind.wrap .i64 (Int.mul 8 i)) = ((l[i].toNat * 256 ^ i : Nat) : Int) := by
      rw [hm, wu_id (by omega) (by omega)]
      unfold ishl
      rw [show (8 * (i : Int)).toNat = 8 * i by omega, show IntKind.u64.bits = 64 from rfl, Nat.min_eq_left (by omega), Int.pow_mul]
      show IntKind.wrap .u64 ((l[i].toNat : Int) * (256 : Int) ^ i) = _
      have e : (l[i].toNat : Int) * (256 : Int) ^ i = ((l[i].toNat * 256 ^ i : Nat) : Int) := by
        rw [Int.natCast_mul, Int.natCast_pow]; rfl
      rw [e]
      exact wu_id (Int.natCast_nonneg _) (by omega)
    have e2 : IntKind.wrap .u64 (Int.add (val (l.take i)) ((l[i].toNat * 256 ^ i : Nat) : Int)) = ((val (l.take (i + 1)) : Nat) : Int) := by
      rw [val_take_succ hb]
      show IntKind.wrap .u64 ((val (l.take i) : Int) + ((l[i].toNat * 256 ^ i : Nat) : Int)) = _
      rw [← Int.natCast_add]
      exact wu_id (Int.natCast_nonneg _) (by omega)
    rw [e1, e2, wr_add (by omega) (by omega)]
    exact num_loop l h8 d (i + 1) (by omega)
theorem c152 (l : B) (h8 : l.length ≤ 8) : E cx (Key.fn 152) [vs (mk l)] [] = some (Out.ret (vu (val l)), []) := by
  refine (f152 (mk l)).trans ?_
  have := num_loop l h8 l.length 0 (by omega)
  rw [List.take_zero] at this
  show (Option.bind (E cx _ [vu (val ([] : B)), vi ((0 : Nat) : Int), vs (mk l)] []) _) = _
  rw [this]
  rfl
theorem c117 (l : B) (n : Int) : E cx (Key.fn 117) [vs (mk l), vi n] [] = RT' (takeR l n) := by
  refine (f117 (mk l) n).trans ?_
  by_cases h1 : n < 1
  · rw [takeR_1 (.inl h1)]; exact goD h1 _ _
  refine (goDn h1 _ _).trans ?_
  by_cases h2 : n > 8
  · rw [takeR_1 (.inr h2)]; exact goD h2 _ _
  refine (goDn h2 _ _).trans ?_
  by_cases h3 : (l.length : Int) < n
  · rw [takeR_2 (by omega) h3]; exact goD h3 _ _
  refine (goDn h3 _ _).trans ?_
  rw [takeR_3 (by omega) h3]
  obtain ⟨m, rfl⟩ : ∃ m : Nat, n = m := ⟨n.toNat, by omega⟩
  have hl : (m : Int) ≤ ((ByteArray.size (mk l) : Nat) : Int) := by show (m : Int) ≤ (l.length : Int); omega
  refine (goY (by omega) _ _).trans ((goY hl _ _).trans ?_)
  rw [ext_mk]
  show (Option.bind (E cx (Key.fn 152) [vs (mk ((l.take m).drop 0))] []) _) = _
  rw [List.drop_zero]
  refine (goU (c152 (l.take m) (by rw [List.length_take]; omega)) _).trans ?_
  refine (goY (by omega) _ _).trans ((goY hl _ _).trans ?_)
  rw [ext_mk]
  show some (Out.ret (AV.tuple [vu (val (l.take m)), vs (mk ((l.take l.length).drop m)), vi 0]), []) = _
  rw [List.take_length]
  rfl
/-! ### Texts compared -/
def pickI (c n : Int) : Int := if c < 0 then (-(c + 1)).tmod n else c.tmod n
theorem c48 {c n : Int} (hc : RI c) (hn : 0 < n) : E cx (Key.fn 48) [vi c, vi n] [] = some (Out.ret (vi (pickI c n)), []) := by
  refine (f48 c n).trans ?_
  unfold pickI
  by_cases h : c < 0
  · refine (goD h _ _).trans ((goN (by omega) _ _).trans ?_)
    rw [wr_add (by omega) (by omega), show Int.sub 0 (c + 1) = 0 - (c + 1) from rfl, show (0 : Int) - (c + 1) = -(c + 1) by omega, wr_id (by omega) (by omega), if_pos h]
  · refine (goDn h _ _).trans ((goN (by omega) _ _).trans ?_)
    rw [if_neg h]
theorem pickI_lt {c n : Int} (hn : 0 < n) : 0 ≤ pickI c n ∧ pickI c n < n := by
  unfold pickI
  split
  · rw [Int.tmod_eq_emod_of_nonneg (by omega)]
    exact ⟨Int.emod_nonneg _ (by omega), Int.emod_lt_of_pos _ hn⟩
  · rw [Int.tmod_eq_emod_of_nonneg (by omega)]
    exact ⟨Int.emod_nonneg _ (by omega), Int.emod_lt_of_pos _ hn⟩
end
/- Tokens: pairs, their order, and which tokens are right. -/
section
section
variable {ρ : Type} {x : Option (Out × Heap)}
abbrev P2 := Nat × Nat
abbrev prs (l : List P2) : List (List AV) := l.map encP
theorem prs_len (l : List P2) : (prs l).length = l.length := by simp [prs]
theorem prs_get {l : List P2} {n : Nat} {p : P2} (h : l[n]? = some p) : (prs l)[n]? = some (encP p) := by simp [prs, h]
theorem goPr {l : List P2} {i : Int} {n : Nat} {p : P2} (hn : i = n) (h : l[n]? = some p) (k : Int → Int → Option ρ) :
    ((prs l)[Int.toNat i]?.bind fun cs => (uncons? cs).bind fun p1 => (AV.int? .u64 p1.fst).bind fun a => (uncons? p1.snd).bind fun p2 => (AV.int? .u64 p2.fst).bind fun b => (nil? p2.snd).bind fun _ => k a b) = k p.1 p.2 := by
  subst hn
  rw [Int.toNat_natCast, prs_get h]
  rfl
theorem goPn {l : List P2} {i : Int} {n : Nat} {p : P2} (hn : i = n) (h : l[n]? = some p) (k : Int → Int → Option ρ) :
    ((nth (prs l) (Nat.add 0 (Int.toNat i))).bind fun cs => (uncons? cs).bind fun p1 => (AV.int? .u64 p1.fst).bind fun a => (uncons? p1.snd).bind fun p2 => (AV.int? .u64 p2.fst).bind fun b => (nil? p2.snd).bind fun _ => k a b) = k p.1 p.2 := by
  subst hn
  rw [Int.toNat_natCast, nth_eq, show Nat.add 0 n = n from Nat.zero_add n, prs_get h]
  rfl
theorem wS {i : Nat} (h : i < 9223372036854775807) : IntKind.wrap .i64 (Int.add (i : Int) 1) = ((i + 1 : Nat) : Int) := wr_add (b := 1) (by omega) (by omega)
theorem wP {i : Nat} (h : i < 9223372036854775807) : IntKind.wrap .i64 (Int.sub ((i + 1 : Nat) : Int) 1) = (i : Int) := (wr_sub (b := 1) (by omega) (by omega)).trans (by omega)
end
theorem c165 (x : Int) : E cx (Key.fn 165) [vu x] [] = rb false := (f165 x).trans (goE rfl _ _)
def cmpI (x y : Int) : Int := if x < y then -1 else if x > y then 1 else 0
theorem c148 (x y : Int) : E cx (Key.fn 148) [vu x, vu y] [] = some (Out.ret (vi (cmpI x y)), []) := by
  refine (f148 x y).trans ((goF (c165 x) _ _).trans ((goF (c165 y) _ _).trans ?_))
  unfold cmpI
  by_cases h1 : x < y
  · rw [if_pos h1]; exact goD h1 _ _
  · rw [if_neg h1]
    refine (goDn h1 _ _).trans ?_
    by_cases h2 : x > y
    · rw [if_pos h2]; exact goD h2 _ _
    · rw [if_neg h2]; exact goDn h2 _ _
theorem c147 (a b : Int) : E cx (Key.fn 147) [.list 0 1 [[vi a], [vi b]]] [] = some (Out.ret (vi (if a = 0 then b else a)), []) := by
  refine (f147 _).trans ?_
  have e2 : E cx (Key.loop 147 [true, true, false, true, false]) [vi 0, vi (IntKind.wrap .i64 (Int.add (IntKind.wrap .i64 (Int.add 0 1)) 1)), vi 0, .list 0 1 [[vi a], [vi b]], vi 2] [] = some (Out.jump (.exit 0) [vi 0, vi 2], []) :=
    (f147_l0 _ _ _ _ _).trans (goDn (by decide) _ _)
  have e1 : E cx (Key.loop 147 [true, true, false, true, false]) [vi 0, vi (IntKind.wrap .i64 (Int.add 0 1)), vi 0, .list 0 1 [[vi a], [vi b]], vi 2] [] = if b = 0 then some (Out.jump (.exit 0) [vi 0, vi 2], []) else some (Out.jump .ret [vi b, vi 1], []) := by
    refine (f147_l0 _ _ _ _ _).trans ((goD (by decide) _ _).trans ((goY (by decide) _ _).trans ?_))
    by_cases hb : b = 0
    · subst hb
      rw [if_pos rfl]
      exact e2
    · rw [if_neg hb]
      exact goEn (a := b) (b := 0) hb _ _
  have e0 : E cx (Key.loop 147 [true, true, false, true, false]) [vi 0, vi 0, vi 0, .list 0 1 [[vi a], [vi b]], vi 2] [] = if a = 0 then (if b = 0 then some (Out.jump (.exit 0) [vi 0, vi 2], []) else some (Out.jump .ret [vi b, vi 1], [])) else some (Out.jump .ret [vi a, vi 0], []) := by
    refine (f147_l0 _ _ _ _ _).trans ((goD (by decide) _ _).trans ((goY (by decide) _ _).trans ?_))
    by_cases ha : a = 0
    · subst ha
      rw [if_pos rfl]
      exact e1
    · rw [if_neg ha]
      exact goEn (a := a) (b := 0) ha _ _
  show (Option.bind (E cx (Key.loop 147 [true, true, false, true, false]) [vi 0, vi 0, vi 0, .list 0 1 [[vi a], [vi b]], vi 2] []) _) = _
  rw [e0]
  by_cases ha : a = 0
  · rw [if_pos ha, if_pos ha]
    by_cases hb : b = 0
    · rw [if_pos hb, hb]; rfl
    · rw [if_neg hb]; rfl
  · rw [if_neg ha, if_neg ha]; rfl
def ordI (p q : P2) : Int := if p = q then 0 else if ltP p q then -1 else 1
theorem c109 (p q : P2) : E cx (Key.fn 109) [.agg [vu p.1, vu p.2], .agg [vu q.1, vu q.2]] [] = some (Out.ret (vi (ordI p q)), []) := by
  refine (f109 _ _ _ _).trans ?_
  obtain ⟨a, b⟩ := p
  obtain ⟨c, d⟩ := q
  simp only
  by_cases h : a = c ∧ b = d
  · obtain ⟨rfl, rfl⟩ := h
    simp [ordI]
  · have h1 : (decide ((a : Int) = (c : Int)) && (decide ((b : Int) = (d : Int)) && true)) = false := by
      simp
      omega
    rw [h1]
    refine (goI (c148 _ _) _).trans ((goI (c148 _ _) _).trans ((goI (c147 _ _) _).trans ?_))
    have h2 : (if cmpI (a : Int) (c : Int) = 0 then cmpI (b : Int) (d : Int) else cmpI (a : Int) (c : Int)) = ordI (a, b) (c, d) := by
      have e : ∀ x y : Nat, cmpI (x : Int) (y : Int) = if x < y then -1 else if y < x then 1 else 0 := fun x y => by
        unfold cmpI
        simp only [Int.ofNat_lt, gt_iff_lt]
      rw [e, e]
      unfold ordI ltP
      rcases Nat.lt_trichotomy a c with h1 | h1 | h1 <;> rcases Nat.lt_trichotomy b d with h3 | h3 | h3 <;>
        simp [h1, h3, Nat.lt_asymm, Nat.ne_of_lt, Nat.ne_of_gt] <;> omega
    rw [h2]
theorem c105 (p q : P2) : E cx (Key.fn 105) [.agg [vu p.1, vu p.2], .agg [vu q.1, vu q.2]] [] = rb (ltP p q) := by
  refine (f105 _ _ _ _).trans ?_
  obtain ⟨a, b⟩ := p
  obtain ⟨c, d⟩ := q
  simp only [ltP]
  by_cases h1 : a < c
  · refine (goD (by omega) _ _).trans ?_
    simp [h1]
  · refine (goDn (by omega) _ _).trans ?_
    by_cases h2 : a = c
    · refine (goD (by omega) _ _).trans ?_
      by_cases h3 : b < d
      · refine (goD (by omega) _ _).trans ?_
        simp [h2, h3]
      · refine (goDn (by omega) _ _).trans ?_
        simp [h2, h3]
    · refine (goDn (by omega) _ _).trans ?_
      simp [h1, h2]
theorem ordI_neg (p q : P2) : ordI p q < 0 ↔ ltP p q = true := by
  unfold ordI
  by_cases h : p = q
  · subst h
    simp [ltP]
  · rw [if_neg h]
    cases ltP p q <;> simp
end
/- Tokens: which are right. -/
section
/-- Two neighbours stand in their order. -/
def okAt (l : List P2) (j : Nat) : Prop := ∀ p q, l[j]? = some p → l[j + 1]? = some q → ltP q p = false
def srtI (l : List P2) : Prop := ∀ j, okAt l j
open Classical in
noncomputable def srtB (l : List P2) : Bool := decide (srtI l)
open Classical in
theorem srtB_t {l : List P2} (h : srtI l) : srtB l = true := by unfold srtB; exact decide_eq_true h
open Classical in
theorem srtB_f {l : List P2} (h : ¬ srtI l) : srtB l = false := by unfold srtB; exact decide_eq_false h
theorem okAt_ge {l : List P2} {j : Nat} (h : l.length ≤ j + 1) : okAt l j := fun p q hp hq => by
  rw [List.getElem?_eq_none h] at hq
  cases hq
theorem loop108 (l : List P2) (b : Bool) (hl : l.length ≤ 4000000) : ∀ i, i < l.length →
    ((∀ j, j < i → okAt l j) ∧ E cx (Key.loop 108 [true, false, true, false]) [vbool b, vi i, .list 0 2 (prs l), .func (Fn.func 109) [] []] [] = some (Out.jump (.exit 0) [vbool b, vi 0], [])) ∨
    ((∃ j, j < i ∧ ¬ okAt l j) ∧ ∃ k : Nat, E cx (Key.loop 108 [true, false, true, false]) [vbool b, vi i, .list 0 2 (prs l), .func (Fn.func 109) [] []] [] = some (Out.jump .ret [vbool false, vi k], []))
  | 0, hi => .inl ⟨fun j hj => by omega, (f40_c0_l1 _ _ _).trans (goDn (by omega) _ _)⟩
  | i + 1, hi => by
    have hp : l[i]? = some l[i] := List.getElem?_eq_getElem (by omega)
    have hq : l[i + 1]? = some l[i + 1] := List.getElem?_eq_getElem hi
    have go : ∀ {R}, (bif decide (ordI l[i + 1] l[i] < 0) then some (Out.jump JX.ret [vbool false, vi ((i + 1 : Nat) : Int)], []) else
        E cx (Key.loop 108 [true, false, true, false]) [vbool b, vi (IntKind.wrap .i64 (Int.sub ((i + 1 : Nat) : Int) 1)), .list 0 2 (prs l), .func (Fn.func 109) [] []] []) = R →
        E cx (Key.loop 108 [true, false, true, false]) [vbool b, vi (i + 1 : Nat), .list 0 2 (prs l), .func (Fn.func 109) [] []] [] = R := fun {R} h => by
      refine (f40_c0_l1 _ _ _).trans ((goD (by omega) _ _).trans ((goY (by omega) _ _).trans ((goPr (n := i + 1) rfl hq _).trans ?_)))
      rw [wP (by omega)]
      refine (goY (by omega) _ _).trans ((goPr (n := i) rfl hp _).trans ((goI (c109 _ _) _).trans ?_))
      rw [wP (by omega)] at h
      exact h
    cases hb : ltP l[i + 1] l[i] with
    | true =>
      exact .inr ⟨⟨i, by omega, fun h => by rw [h _ _ hp hq] at hb; cases hb⟩, i + 1, go (goD ((ordI_neg _ _).2 hb) _ _)⟩
    | false =>
      have hn : ¬ ordI l[i + 1] l[i] < 0 := fun h => by rw [(ordI_neg _ _).1 h] at hb; cases hb
      have hok : okAt l i := fun p q h1 h2 => by
        rw [hp] at h1; rw [hq] at h2
        cases h1; cases h2
        exact hb
      rcases loop108 l b hl i (by omega) with ⟨g1, g2⟩ | ⟨⟨j, g1, g2⟩, k, g3⟩
      · refine .inl ⟨fun j hj => ?_, go ((goDn hn _ _).trans ?_)⟩
        · by_cases hji : j = i
          · subst hji; exact hok
          · exact g1 j (by omega)
        · rw [wP (by omega)]; exact g2
      · refine .inr ⟨⟨j, by omega, g2⟩, k, go ((goDn hn _ _).trans ?_)⟩
        rw [wP (by omega)]; exact g3
theorem c108 (l : List P2) (hl : l.length ≤ 4000000) : E cx (Key.fn 108) [.list 0 2 (prs l), .func (Fn.func 109) [] []] [] = rb (srtB l) := by
  refine (f40_c0 _).trans ?_
  rw [prs_len]
  cases hll : l.length with
  | zero =>
    have e : E cx (Key.loop 108 [true, false, true, false]) [vbool false, vi (IntKind.wrap .i64 (Int.sub ((0 : Nat) : Int) 1)), .list 0 2 (prs l), .func (Fn.func 109) [] []] [] = some (Out.jump (.exit 0) [vbool false, vi (-1)], []) :=
      (f40_c0_l1 _ _ _).trans (goDn (by decide) _ _)
    rw [e, srtB_t fun j => okAt_ge (by omega)]
    rfl
  | succ n =>
    rw [wP (by omega)]
    rcases loop108 l false hl n (by omega) with ⟨g1, g2⟩ | ⟨⟨j, g1, g2⟩, k, g3⟩
    · rw [g2, srtB_t fun j => by
        by_cases hj : j < n
        · exact g1 j hj
        · exact okAt_ge (by omega)]
      rfl
    · rw [g3, srtB_f fun h => g2 (h j)]
      rfl
theorem loop110 (l : List P2) (b : Bool) (hl : l.length ≤ 4000000) : ∀ (d i : Nat), i + 1 + d = l.length →
    ((∀ j, i ≤ j → okAt l j) ∧ E cx (Key.loop 110 [true, false, true, false]) [vbool b, vi (i + 1 : Nat), .list 0 2 (prs l)] [] = some (Out.jump (.exit 0) [vbool b, vi l.length], [])) ∨
    ((∃ j, i ≤ j ∧ ¬ okAt l j) ∧ ∃ k : Nat, E cx (Key.loop 110 [true, false, true, false]) [vbool b, vi (i + 1 : Nat), .list 0 2 (prs l)] [] = some (Out.jump .ret [vbool false, vi k], []))
  | 0, i, hd => .inl ⟨fun j hj => okAt_ge (by omega), (f110_l0 _ _ _).trans ((goDn (by rw [prs_len]; omega) _ _).trans (by rw [show i + 1 = l.length by omega]))⟩
  | d + 1, i, hd => by
    have hp : l[i]? = some l[i] := List.getElem?_eq_getElem (by omega)
    have hq : l[i + 1]? = some l[i + 1] := List.getElem?_eq_getElem (by omega)
    have go : ∀ {R}, (bif ltP l[i + 1] l[i] then some (Out.jump JX.ret [vbool false, vi ((i + 1 : Nat) : Int)], []) else
        E cx (Key.loop 110 [true, false, true, false]) [vbool b, vi (i + 1 + 1 : Nat), .list 0 2 (prs l)] []) = R →
        E cx (Key.loop 110 [true, false, true, false]) [vbool b, vi (i + 1 : Nat), .list 0 2 (prs l)] [] = R := fun {R} h => by
      refine (f110_l0 _ _ _).trans ((goD (by rw [prs_len]; omega) _ _).trans ((goY (by omega) _ _).trans ((goPr (n := i + 1) rfl hq _).trans ?_)))
      rw [wP (by omega)]
      refine (goY (by omega) _ _).trans ((goPr (n := i) rfl hp _).trans ((goB (c105 _ _) _).trans ?_))
      rw [wS (by omega)]
      exact h
    cases hb : ltP l[i + 1] l[i] with
    | true =>
      rw [hb] at go
      exact .inr ⟨⟨i, by omega, fun h => by rw [h _ _ hp hq] at hb; cases hb⟩, i + 1, go rfl⟩
    | false =>
      rw [hb] at go
      have hok : okAt l i := fun p q h1 h2 => by
        rw [hp] at h1; rw [hq] at h2
        cases h1; cases h2
        exact hb
      rcases loop110 l b hl d (i + 1) (by omega) with ⟨g1, g2⟩ | ⟨⟨j, g1, g2⟩, k, g3⟩
      · refine .inl ⟨fun j hj => ?_, go g2⟩
        by_cases hji : j = i
        · subst hji; exact hok
        · exact g1 j (by omega)
      · exact .inr ⟨⟨j, by omega, g2⟩, k, go g3⟩
theorem c110 (l : List P2) (hl : l.length ≤ 4000000) : E cx (Key.fn 110) [.list 0 2 (prs l)] [] = rb (srtB l) := by
  refine (f110 _).trans ?_
  cases hll : l.length with
  | zero =>
    have e : E cx (Key.loop 110 [true, false, true, false]) [vbool false, vi 1, .list 0 2 (prs l)] [] = some (Out.jump (.exit 0) [vbool false, vi 1], []) :=
      (f110_l0 _ _ _).trans (goDn (by rw [prs_len, hll]; decide) _ _)
    rw [e, srtB_t fun j => okAt_ge (by omega)]
    rfl
  | succ n =>
    rcases loop110 l false hl n 0 (by omega) with ⟨g1, g2⟩ | ⟨⟨j, g1, g2⟩, k, g3⟩
    · show (Option.bind (E cx (Key.loop 110 [true, false, true, false]) [vbool false, vi (0 + 1 : Nat), .list 0 2 (prs l)] []) _) = _
      rw [g2, srtB_t fun j => g1 j (by omega)]
      rfl
    · show (Option.bind (E cx (Key.loop 110 [true, false, true, false]) [vbool false, vi (0 + 1 : Nat), .list 0 2 (prs l)] []) _) = _
      rw [g3, srtB_f fun h => g2 (h j)]
      rfl
/-- A token that may be. -/
noncomputable def rightT (l : List P2) : Bool := decide (l.length ≤ 2048) && srtB l
theorem c40 (f : Bool) (l : List P2) (hl : l.length ≤ 4000000) : E cx (Key.fn 40) [.agg [vbool f, .list 0 2 (prs l)]] [] = rb (rightT l) := by
  refine (f40 _ _).trans ?_
  unfold rightT
  by_cases h : l.length ≤ 2048
  · refine (goD (by rw [prs_len]; omega) _ _).trans ((goB (c108 l hl) _).trans ?_)
    rw [decide_eq_true h]
    cases srtB l <;> rfl
  · refine (goDn (by rw [prs_len]; omega) _ _).trans ?_
    rw [decide_eq_false h]
    rfl
theorem c41 (f : Bool) (l : List P2) (hl : l.length ≤ 4000000) : E cx (Key.fn 41) [.agg [vbool f, .list 0 2 (prs l)]] [] = rb (rightT l) := by
  refine (f41 _ _).trans ((goB (c110 l hl) _).trans ?_)
  unfold rightT
  cases srtB l with
  | false => rw [Bool.and_false]; rfl
  | true =>
    by_cases h : l.length ≤ 2048
    · rw [decide_eq_true h]
      exact goD (by rw [prs_len]; omega) _ _
    · rw [decide_eq_false h]
      exact goDn (by rw [prs_len]; omega) _ _
theorem c112 (f : Bool) (l : List P2) (hl : l.length ≤ 4000000) : E cx (Key.fn 112) [.agg [vbool f, .list 0 2 (prs l)]] [] = rb (!rightT l) := by
  refine (f112 _ _).trans ((goB (c40 f l hl) _).trans ?_)
  cases rightT l <;> rfl
end
/- Tokens: put together. -/
section
abbrev T2 := Bool × List P2
abbrev trow (t : T2) : List AV := [vbool t.1, .list 0 2 (prs t.2)]
abbrev trs (L : List T2) : List (List AV) := L.map trow
theorem trs_len (L : List T2) : (trs L).length = L.length := by simp [trs]
section
variable {ρ : Type}
theorem goTr {L : List T2} {i : Int} {n : Nat} {t : T2} (hn : i = n) (h : L[n]? = some t) (k : Bool → List (List AV) → Option ρ) :
    ((trs L)[Int.toNat i]?.bind fun cs => (uncons? cs).bind fun p1 => (AV.bool? p1.fst).bind fun a => (uncons? p1.snd).bind fun p2 => (AV.list? 2 p2.fst).bind fun b => (nil? p2.snd).bind fun _ => k a b) = k t.1 (prs t.2) := by
  subst hn
  have : (trs L)[n]? = some (trow t) := by simp [trs, h]
  rw [Int.toNat_natCast, this]
  rfl
end
theorem loop149 (L : List T2) (x0 : Int) (hL : L.length ≤ 4000000) (hb : ∀ t ∈ L, t.2.length ≤ 4000000) : ∀ (d i : Nat), i + d = L.length →
    ((∀ t, t ∈ L.drop i → rightT t.2 = true) ∧ E cx (Key.loop 149 [true, false, true, false]) [vi x0, vi i, .list 0 2 (trs L), .func (Fn.func 112) [] [], vi L.length] [] = some (Out.jump (.exit 0) [vi x0, vi L.length], [])) ∨
    ((∃ t, t ∈ L.drop i ∧ rightT t.2 = false) ∧ ∃ k : Nat, E cx (Key.loop 149 [true, false, true, false]) [vi x0, vi i, .list 0 2 (trs L), .func (Fn.func 112) [] [], vi L.length] [] = some (Out.jump .ret [vi k, vi k], []))
  | 0, i, hd => by
    refine .inl ⟨fun t ht => (by rw [List.drop_eq_nil_of_le (by omega)] at ht; cases ht), (f45_c0_c1_l2 _ _ _ _).trans ((goDn (by omega) _ _).trans (by rw [show i = L.length by omega]))⟩
  | d + 1, i, hd => by
    have hp : L[i]? = some L[i] := List.getElem?_eq_getElem (by omega)
    have hdr : L.drop i = L[i] :: L.drop (i + 1) := List.drop_eq_getElem_cons (by omega)
    have hm : L[i].2.length ≤ 4000000 := hb _ (List.getElem_mem _)
    have go : ∀ {R}, (bif !rightT L[i].2 then some (Out.jump JX.ret [vi (i : Int), vi (i : Int)], []) else
        E cx (Key.loop 149 [true, false, true, false]) [vi x0, vi (i + 1 : Nat), .list 0 2 (trs L), .func (Fn.func 112) [] [], vi L.length] []) = R →
        E cx (Key.loop 149 [true, false, true, false]) [vi x0, vi i, .list 0 2 (trs L), .func (Fn.func 112) [] [], vi L.length] [] = R := fun {R} h => by
      refine (f45_c0_c1_l2 _ _ _ _).trans ((goD (by omega) _ _).trans ((goY (by omega) _ _).trans ((goTr (n := i) rfl hp _).trans ((goB (c112 _ _ hm) _).trans ?_))))
      rw [wS (by omega)]
      exact h
    cases hr : rightT L[i].2 with
    | false =>
      rw [hr] at go
      exact .inr ⟨⟨L[i], by rw [hdr]; exact List.mem_cons_self .., hr⟩, i, go rfl⟩
    | true =>
      rw [hr] at go
      rcases loop149 L x0 hL hb d (i + 1) (by omega) with ⟨g1, g2⟩ | ⟨⟨t, g1, g2⟩, k, g3⟩
      · refine .inl ⟨fun t ht => ?_, go g2⟩
        rw [hdr] at ht
        rcases List.mem_cons.1 ht with rfl | ht
        · exact hr
        · exact g1 t ht
      · exact .inr ⟨⟨t, by rw [hdr]; exact List.mem_cons_of_mem _ g1, g2⟩, k, go g3⟩
noncomputable def allR (L : List T2) : Bool := L.all fun t => rightT t.2
theorem c111 (L : List T2) (hL : L.length ≤ 4000000) (hb : ∀ t ∈ L, t.2.length ≤ 4000000) : E cx (Key.fn 111) [.list 0 2 (trs L), .func (Fn.func 112) [] []] [] = rb (!allR L) := by
  refine (f45_c0 _).trans ?_
  have key : ∃ n : Int, E cx (Key.fn 149) [.list 0 2 (trs L), .func (Fn.func 112) [] []] [] = some (Out.ret (vi n), []) ∧ decide (n ≥ 0) = !allR L := by
    rcases loop149 L 0 hL hb L.length 0 (by omega) with ⟨g1, g2⟩ | ⟨⟨t, g1, g2⟩, k, g3⟩
    · refine ⟨-1, (f45_c0_c1 _).trans ?_, ?_⟩
      · rw [trs_len]
        show (Option.bind (E cx (Key.loop 149 [true, false, true, false]) [vi 0, vi ((0 : Nat) : Int), .list 0 2 (trs L), .func (Fn.func 112) [] [], vi L.length] []) _) = _
        rw [g2]
        rfl
      · have : allR L = true := List.all_eq_true.2 fun t ht => g1 t ht
        rw [this]
        rfl
    · refine ⟨k, (f45_c0_c1 _).trans ?_, ?_⟩
      · rw [trs_len]
        show (Option.bind (E cx (Key.loop 149 [true, false, true, false]) [vi 0, vi ((0 : Nat) : Int), .list 0 2 (trs L), .func (Fn.func 112) [] [], vi L.length] []) _) = _
        rw [g3]
        rfl
      · have : allR L = false := by
          cases h : allR L with
          | false => rfl
          | true => rw [List.all_eq_true.1 h t g1] at g2; cases g2
        rw [this]
        exact decide_eq_true (by omega)
  obtain ⟨n, g1, g2⟩ := key
  refine (goI g1 _).trans ?_
  rw [g2]
  cases allR L <;> rfl
/-- A token that is told: with pairs, however they lie, and an error's number. -/
def RTok (x : Option (Out × Heap)) (f : Bool) (l : List P2) (e : Int) : Prop := ∃ a, x = some (Out.ret (.tuple [.agg [vbool f, a], vi e]), []) ∧ a.list? 2 = some (prs l)
theorem goTok {ρ : Type} {x : Option (Out × Heap)} {f : Bool} {l : List P2} {e : Int} (h : RTok x f l e) (k : Bool → List (List AV) → Int → Option ρ) :
    (x.bind fun r => (ret1 r).bind fun v => v.tup?.bind fun vs => (uncons? vs).bind fun p1 => (AV.cells? p1.fst).bind fun cs => (uncons? cs).bind fun p2 => (AV.bool? p2.fst).bind fun b => (uncons? p2.snd).bind fun p3 => (AV.list? 2 p3.fst).bind fun l =>
      (nil? p3.snd).bind fun _ => (uncons? p1.snd).bind fun p4 => (AV.int? .i64 p4.fst).bind fun e => (nil? p4.snd).bind fun _ => k b l e) = k f (prs l) e := by
  obtain ⟨a, rfl, ha⟩ := h
  show (Option.bind (AV.list? 2 a) fun l => k f l e) = _
  rw [ha]
  rfl
theorem ysOk_prs (l : List P2) : ysOk (prs l) = true := by
  unfold ysOk
  rw [List.all_eq_true]
  intro e he
  obtain ⟨p, _, rfl⟩ := List.mem_map.1 he
  rfl
/-- All pairs, one list behind the other. -/
abbrev cat (L : List T2) : List P2 := L.flatMap (·.2)
def anyF' (L : List T2) : Bool := L.any (·.1)
theorem loop45 (L : List T2) (x0 : Int) (hL : L.length ≤ 4000000) (hb : ∀ t ∈ L, t.2.length ≤ 4000000) : ∀ (rest : List T2) (i : Nat) (f : Bool) (o : List P2), L.drop i = rest → i + rest.length = L.length → o.length ≤ 2048 →
    (o.length + (cat rest).length ≤ 2048 ∧ E cx (Key.loop 45 [true, true, false, true, false]) [vi x0, vi i, .ptr 0 0 0 0, .list 0 2 (trs L), vi L.length] [⟨.box, 36, 2, 0, [[vbool f, .arr 1 2 0 o.length]]⟩, ⟨.arr, 80, 2, 2, prs o⟩] =
      some (Out.jump (.exit 0) [vi x0, vi L.length], [⟨.box, 36, 2, 0, [[vbool (f || anyF' rest), .arr 1 2 0 (o ++ cat rest).length]]⟩, ⟨.arr, 80, 2, 2, prs (o ++ cat rest)⟩])) ∨
    (¬ o.length + (cat rest).length ≤ 2048 ∧ ∃ k : Nat, E cx (Key.loop 45 [true, true, false, true, false]) [vi x0, vi i, .ptr 0 0 0 0, .list 0 2 (trs L), vi L.length] [⟨.box, 36, 2, 0, [[vbool f, .arr 1 2 0 o.length]]⟩, ⟨.arr, 80, 2, 2, prs o⟩] =
      some (Out.jump .ret [vi 4, vi k], [⟨.box, 36, 2, 0, [[vbool false, .val (.slice none 0 0)]]⟩, ⟨.dead, 80, 2, 2, []⟩]))
  | [], i, f, o, hd, hi, ho => by
    refine .inl ⟨by simp [cat]; omega, (f45_l3 _ _ _ _ _ _ _).trans ((goDn (by simp at hi; omega) _ _).trans ?_)⟩
    simp only [List.length_nil, Nat.add_zero] at hi
    simp [cat, anyF', hi]
  | t :: rest, i, f, o, hd, hi, ho => by
    obtain ⟨hp, hd', hlt⟩ : L[i]? = some t ∧ L.drop (i + 1) = rest ∧ i < L.length := by
      refine ⟨?_, ?_, ?_⟩
      · have := congrArg (fun l => l[0]?) hd; simpa using this
      · rw [← List.drop_drop, hd]; rfl
      · simp at hi; omega
    simp only [List.length_cons] at hi
    have htl := hb t (List.mem_of_getElem? hp)
    have hol : (o ++ t.2).length = o.length + t.2.length := List.length_append
    have happ : prs o ++ prs t.2 = prs (o ++ t.2) := by simp [prs]
    have go : ∀ {R}, (bif decide (((o.length + t.2.length : Nat) : Int) > 2048) then some (Out.jump .ret [vi 4, vi i], [⟨.box, 36, 2, 0, [[vbool false, .val (.slice none 0 0)]]⟩, ⟨.dead, 80, 2, 2, []⟩]) else
        E cx (Key.loop 45 [true, true, false, true, false]) [vi x0, vi (i + 1 : Nat), .ptr 0 0 0 0, .list 0 2 (trs L), vi L.length] [⟨.box, 36, 2, 0, [[vbool (f || t.1), .arr 1 2 0 (o ++ t.2).length]]⟩, ⟨.arr, 80, 2, 2, prs (o ++ t.2)⟩]) = R →
        E cx (Key.loop 45 [true, true, false, true, false]) [vi x0, vi i, .ptr 0 0 0 0, .list 0 2 (trs L), vi L.length] [⟨.box, 36, 2, 0, [[vbool f, .arr 1 2 0 o.length]]⟩, ⟨.arr, 80, 2, 2, prs o⟩] = R := fun {R} h => by
      refine (f45_l3 _ _ _ _ _ _ _).trans ((goD (by omega) _ _).trans ((goY (by omega) _ _).trans ((goTr (n := i) rfl hp _).trans ?_)))
      rw [ysOk_prs, wS (by omega)]
      have hl1 : (prs o).length = o.length := prs_len o
      have hl2 : (prs t.2).length = t.2.length := prs_len t.2
      have ha : Nat.add (List.length (prs o)) (List.length (prs t.2)) = o.length + t.2.length := by rw [hl1, hl2]; rfl
      rw [show (Ob.mk OK.arr 80 2 2 (prs o)).es = prs o from rfl, ha, happ]
      rw [hol] at h
      have hbig : Nat.mul (o.length + t.2.length) 16 ≤ 140737488355328 := by show (o.length + t.2.length) * 16 ≤ _; omega
      cases f with
      | true => exact (goCk hl1.symm _).trans ((goY hbig _ _).trans h)
      | false => cases hf : t.1 with
        | true => rw [hf] at h; exact (goCk hl1.symm _).trans ((goY hbig _ _).trans h)
        | false => rw [hf] at h; exact (goCk hl1.symm _).trans ((goY hbig _ _).trans h)
    have hcat : (cat (t :: rest)).length = t.2.length + (cat rest).length := by simp [cat]
    by_cases hbig : o.length + t.2.length ≤ 2048
    · rcases loop45 L x0 hL hb rest (i + 1) (f || t.1) (o ++ t.2) hd' (by omega) (by omega) with ⟨g1, g2⟩ | ⟨g1, k, g2⟩
      · refine .inl ⟨by omega, go ((goDn (by omega) _ _).trans (g2.trans ?_))⟩
        simp [cat, anyF', Bool.or_assoc]
      · exact .inr ⟨by omega, k, go ((goDn (by omega) _ _).trans g2)⟩
    · exact .inr ⟨by omega, i, go (goD (by omega) _ _)⟩
def sorted (l : List P2) : List P2 := l.mergeSort leP
theorem decP_enc (p : P2) : decP (encP p) = some p := rfl
theorem sortP_prs (l : List P2) : sortP [.func (Fn.func 109) [] []] (prs l) = some (prs (sorted l)) := by
  unfold sortP sortZ
  show cond true (sortBy decP encP leP (prs l)) none = _
  unfold sortBy
  have : (prs l).mapM decP = some l := by
    induction l with
    | nil => rfl
    | cons p l ih =>
      show ((p :: l).map encP).mapM decP = _
      rw [List.map_cons, List.mapM_cons, decP_enc]
      have ih' : (l.map encP).mapM decP = some l := ih
      rw [ih']
      rfl
  simp only [cond_true, this]
  rfl
/-- Tokens put together: the token, and the error's number. -/
noncomputable def mergeR (L : List T2) : Bool × List P2 × Int := if allR L then (if (cat L).length ≤ 2048 then (anyF' L, sorted (cat L), 0) else (false, [], 4)) else (false, [], 1)
abbrev RTok' (x : Option (Out × Heap)) (r : Bool × List P2 × Int) : Prop := RTok x r.1 r.2.1 r.2.2
theorem c45 (L : List T2) (hL : L.length ≤ 4000000) (hb : ∀ t ∈ L, t.2.length ≤ 4000000) : RTok' (E cx (Key.fn 45) [.list 0 2 (trs L)] []) (mergeR L) := by
  unfold mergeR
  cases hr : allR L with
  | false =>
    refine ⟨.val (.slice none 0 0), (f45 _).trans ((goB (c111 L hL hb) _).trans ?_), rfl⟩
    rw [hr]
    rfl
  | true =>
    rw [if_pos rfl]
    have h0 : ∀ {R}, _ = R → E cx (Key.fn 45) [.list 0 2 (trs L)] [] = R := fun {R} h => (f45 _).trans ((goB (c111 L hL hb) _).trans h)
    rw [hr] at h0
    rcases loop45 L 0 hL hb L 0 false [] rfl (by omega) (by simp) with ⟨g1, g2⟩ | ⟨g1, k, g2⟩
    · have hc : (cat L).length ≤ 2048 := by simpa using g1
      rw [if_pos hc]
      refine ⟨.list 0 2 (prs (sorted (cat L))), h0 ?_, rfl⟩
      rw [trs_len]
      show (Option.bind (E cx (Key.loop 45 [true, true, false, true, false]) [vi 0, vi ((0 : Nat) : Int), .ptr 0 0 0 0, .list 0 2 (trs L), vi L.length] [⟨.box, 36, 2, 0, [[vbool false, .arr 1 2 0 ([] : List P2).length]]⟩, ⟨.arr, 80, 2, 2, prs []⟩]) _) = _
      rw [g2]
      simp only [List.nil_append, Bool.false_or]
      have hl : (prs (cat L)).length = (cat L).length := prs_len _
      have e1 : List.drop 0 (List.take (Nat.add 0 (cat L).length) (prs (cat L))) = prs (cat L) := by
        rw [List.drop_zero, show Nat.add 0 (cat L).length = (cat L).length from Nat.zero_add _, List.take_of_length_le (by omega)]
      have e2 : List.take 0 (prs (cat L)) ++ prs (sorted (cat L)) ++ List.drop (Nat.add 0 (cat L).length) (prs (cat L)) = prs (sorted (cat L)) := by
        rw [show Nat.add 0 (cat L).length = (cat L).length from Nat.zero_add _, List.drop_eq_nil_of_le (by omega)]
        simp
      have hls : (prs (sorted (cat L))).length = (cat L).length := by simp [sorted, prs]
      have e3 : List.drop 0 (List.take (Nat.add 0 (cat L).length) (prs (sorted (cat L)))) = prs (sorted (cat L)) := by
        rw [List.drop_zero, show Nat.add 0 (cat L).length = (cat L).length from Nat.zero_add _, List.take_of_length_le (by omega)]
      refine (goLe (a := Nat.add 0 (cat L).length) (b := (prs (cat L)).length) (by show 0 + _ ≤ _; omega) _).trans ((goY (by show (cat L).length ≤ _; omega) _ _).trans ?_)
      show (Option.bind (sortP [.func (Fn.func 109) [] []] (List.drop 0 (List.take (Nat.add 0 (cat L).length) (prs (cat L))))) fun zs => _) = _
      rw [e1, sortP_prs]
      show (Option.bind (chkLe (Nat.add 0 (cat L).length) (List.length (List.take 0 (prs (cat L)) ++ prs (sorted (cat L)) ++ List.drop (Nat.add 0 (cat L).length) (prs (cat L))))) fun _ =>
        some (Out.ret (.tuple [.agg [vbool (anyF' L), .list 0 2 (List.drop 0 (List.take (Nat.add 0 (cat L).length) (List.take 0 (prs (cat L)) ++ prs (sorted (cat L)) ++ List.drop (Nat.add 0 (cat L).length) (prs (cat L)))))], vi 0]), [])) = _
      rw [e2, e3]
      exact goLe (by show 0 + _ ≤ _; omega) _
    · have hc : ¬ (cat L).length ≤ 2048 := by simpa using g1
      rw [if_neg hc]
      refine ⟨.val (.slice none 0 0), h0 ?_, rfl⟩
      rw [trs_len]
      show (Option.bind (E cx (Key.loop 45 [true, true, false, true, false]) [vi 0, vi ((0 : Nat) : Int), .ptr 0 0 0 0, .list 0 2 (trs L), vi L.length] [⟨.box, 36, 2, 0, [[vbool false, .arr 1 2 0 ([] : List P2).length]]⟩, ⟨.arr, 80, 2, 2, prs []⟩]) _) = _
      rw [g2]
      rfl
end
/- Tokens: put together by the document. -/
section
theorem leP_iff (x y : P2) : leP x y = true ↔ x.1 < y.1 ∨ x.1 = y.1 ∧ x.2 ≤ y.2 := by
  simp only [leP, ltP, Bool.not_eq_true', Bool.or_eq_false_iff, Bool.and_eq_false_iff, decide_eq_false_iff_not]
  omega
theorem leP_trans (a b c : P2) (h1 : leP a b = true) (h2 : leP b c = true) : leP a c = true := by
  rw [leP_iff] at *
  omega
theorem leP_total (a b : P2) : (leP a b || leP b a) = true := by
  rw [Bool.or_eq_true, leP_iff, leP_iff]
  omega
theorem leP_anti (a b : P2) (h1 : leP a b = true) (h2 : leP b a = true) : a = b := by
  rw [leP_iff] at *
  exact Prod.ext (by omega) (by omega)
theorem leP_not {a b : P2} (h : leP a b = false) : leP b a = true := by
  have := leP_total a b
  rw [h] at this
  simpa using this
abbrev PW (l : List P2) : Prop := l.Pairwise fun a b => leP a b = true
theorem srt_pw (l : List P2) : srtI l ↔ PW l := by
  constructor
  · intro h
    induction l with
    | nil => exact .nil
    | cons a l ih =>
      have ih' := ih fun j p q hp hq => h (j + 1) p q (by simpa using hp) (by simpa using hq)
      refine List.Pairwise.cons (fun b hb => ?_) ih'
      cases l with
      | nil => cases hb
      | cons c l =>
        have hac : leP a c = true := by
          have := h 0 a c rfl rfl
          simp [leP, this]
        rcases List.mem_cons.1 hb with rfl | hb
        · exact hac
        · exact leP_trans _ _ _ hac ((List.pairwise_cons.1 ih').1 b hb)
  · intro h j p q hp hq
    have hj := (List.getElem?_eq_some_iff.1 hq).1
    have := List.pairwise_iff_getElem.1 h j (j + 1) (by omega) hj (by omega)
    rw [(List.getElem?_eq_some_iff.1 hp).2, (List.getElem?_eq_some_iff.1 hq).2] at this
    simpa [leP] using this
theorem sorted_pw (l : List P2) : PW (sorted l) := List.pairwise_mergeSort leP_trans leP_total l
theorem sorted_perm (l : List P2) : (sorted l).Perm l := List.mergeSort_perm l leP
theorem sorted_of {l : List P2} (h : PW l) : sorted l = l := List.mergeSort_of_pairwise h
theorem pw_uniq {a b : List P2} (ha : PW a) (hb : PW b) (h : a.Perm b) : a = b := List.Perm.eq_of_pairwise (fun x y _ _ h1 h2 => leP_anti x y h1 h2) ha hb h
theorem sorted_congr {a b : List P2} (h : a.Perm b) : sorted a = sorted b := pw_uniq (sorted_pw a) (sorted_pw b) ((sorted_perm a).trans (h.trans (sorted_perm b).symm))
/-- Two lists in order, put together. -/
def twoR : List P2 → List P2 → List P2
  | a, [] => a
  | a, q :: b => a.takeWhile (leP · q) ++ q :: twoR (a.dropWhile (leP · q)) b
theorem twoR_perm : ∀ (a b : List P2), (twoR a b).Perm (a ++ b)
  | a, [] => by simp [twoR]
  | a, q :: b => by
    have ih := twoR_perm (a.dropWhile (leP · q)) b
    have e : a = a.takeWhile (leP · q) ++ a.dropWhile (leP · q) := List.takeWhile_append_dropWhile.symm
    show (a.takeWhile (leP · q) ++ q :: twoR (a.dropWhile (leP · q)) b).Perm _
    have h1 : (a.takeWhile (leP · q) ++ q :: twoR (a.dropWhile (leP · q)) b).Perm (a.takeWhile (leP · q) ++ q :: (a.dropWhile (leP · q) ++ b)) := (List.Perm.cons q ih).append_left _
    refine h1.trans ?_
    conv => rhs; rw [e, List.append_assoc]
    exact List.Perm.append_left _ List.perm_middle.symm
theorem twoR_pw : ∀ (a b : List P2), PW a → PW b → PW (twoR a b)
  | a, [], ha, hb => ha
  | a, q :: b, ha, hb => by
    have hdr : PW (a.dropWhile (leP · q)) := ha.sublist (List.dropWhile_sublist _)
    obtain ⟨hq, hb'⟩ := List.pairwise_cons.1 hb
    have ih := twoR_pw (a.dropWhile (leP · q)) b hdr hb'
    have big : ∀ x ∈ a.dropWhile (leP · q), leP q x = true := by
      intro x hx
      cases hd : a.dropWhile (leP · q) with
      | nil => rw [hd] at hx; cases hx
      | cons y r =>
        have hy : leP y q = false := by
          have := List.head?_dropWhile_not (leP · q) a
          rw [hd] at this
          simpa using this
        rw [hd] at hx hdr
        rcases List.mem_cons.1 hx with rfl | hx
        · exact leP_not hy
        · exact leP_trans _ _ _ (leP_not hy) ((List.pairwise_cons.1 hdr).1 x hx)
    have up : ∀ x ∈ twoR (a.dropWhile (leP · q)) b, leP q x = true := fun x hx => by
      rcases List.mem_append.1 ((twoR_perm _ _).mem_iff.1 hx) with h | h
      · exact big x h
      · exact hq x h
    show PW (a.takeWhile (leP · q) ++ q :: twoR (a.dropWhile (leP · q)) b)
    have lo : ∀ x ∈ a.takeWhile (leP · q), leP x q = true := fun x hx => by
      have := List.all_eq_true.1 (List.all_takeWhile (p := (leP · q)) (l := a)) x hx
      exact this
    refine List.pairwise_append.2 ⟨ha.sublist (List.takeWhile_sublist _), List.pairwise_cons.2 ⟨up, ih⟩, fun x hx y hy => ?_⟩
    rcases List.mem_cons.1 hy with rfl | hy
    · exact lo x hx
    · exact leP_trans _ _ _ (lo x hx) (up y hy)
theorem twoR_eq {a b : List P2} (ha : PW a) (hb : PW b) : twoR a b = sorted (a ++ b) := pw_uniq (twoR_pw a b ha hb) (sorted_pw _) ((twoR_perm a b).trans (sorted_perm _).symm)
theorem prs_app (a b : List P2) : prs a ++ prs b = prs (a ++ b) := by simp [prs]
theorem loop114i (a b : List P2) (k : Nat) (q : P2) (hk : b[k]? = some q) (hla : a.length ≤ 1000000) : ∀ (d i : Nat) (o : List P2), i + d = a.length → o.length ≤ 2000000 + i →
    E cx (Key.loop 114 [true, true, true, false, true, false, false, true, false, false, false, false]) [.arr 0 2 0 o.length, vi i, .list 0 2 (prs a), .list 0 2 (prs b), vi k] [⟨.arr, 80, 2, 2, prs o⟩] =
      some (Out.jump (.exit 2) [.arr 0 2 0 (o ++ (a.drop i).takeWhile (leP · q)).length, vi (i + ((a.drop i).takeWhile (leP · q)).length : Nat)], [⟨.arr, 80, 2, 2, prs (o ++ (a.drop i).takeWhile (leP · q))⟩])
  | 0, i, o, hd, ho => by
    refine (f114_l0_l1 _ _ _ _ _ _).trans ((goDn (by rw [prs_len]; omega) _ _).trans ?_)
    rw [List.drop_eq_nil_of_le (by omega)]
    simp
  | d + 1, i, o, hd, ho => by
    have hp : a[i]? = some a[i] := List.getElem?_eq_getElem (by omega)
    have hdr : a.drop i = a[i] :: a.drop (i + 1) := List.drop_eq_getElem_cons (by omega)
    refine (f114_l0_l1 _ _ _ _ _ _).trans ((goD (by rw [prs_len]; omega) _ _).trans ((goY (by omega) _ _).trans ((goPr (n := k) rfl hk _).trans ((goY (by omega) _ _).trans ((goPr (n := i) rfl hp _).trans ((goB (c105 _ _) _).trans ?_))))))
    rw [hdr]
    cases hb : ltP q a[i] with
    | true =>
      have : leP a[i] q = false := by simp [leP, hb]
      rw [List.takeWhile_cons, this]
      simp
    | false =>
      have hle : leP a[i] q = true := by simp [leP, hb]
      have hl : (prs o).length = o.length := prs_len o
      refine (show _ = _ from cond_false _ _).trans ?_
      refine (goY (by omega) _ _).trans ?_
      refine (goPr (n := i) rfl hp _).trans ?_
      refine (goCk hl.symm _).trans ?_
      have hbig : Nat.mul (Nat.add (prs o).length 1) 16 ≤ 140737488355328 := by rw [hl]; show (o.length + 1) * 16 ≤ _; omega
      refine (goY hbig _ _).trans ?_
      rw [wS (by omega)]
      have ih := loop114i a b k q hk hla d (i + 1) (o ++ [a[i]]) (by omega) (by simp; omega)
      rw [List.takeWhile_cons, hle]
      simp only [if_true]
      have e1 : o ++ a[i] :: (a.drop (i + 1)).takeWhile (leP · q) = o ++ [a[i]] ++ (a.drop (i + 1)).takeWhile (leP · q) := by simp
      rw [e1]
      have e2 : i + (a[i] :: (a.drop (i + 1)).takeWhile (leP · q)).length = i + 1 + ((a.drop (i + 1)).takeWhile (leP · q)).length := by rw [List.length_cons, Nat.add_comm _ 1, ← Nat.add_assoc]
      rw [e2]
      refine Eq.trans ?_ ih
      have e3 : (o ++ [a[i]]).length = Nat.add (prs o).length 1 := by rw [hl]; simp
      rw [e3]
      have e4 : prs (o ++ [a[i]]) = prs o ++ [[vu (a[i].1 : Int), vu (a[i].2 : Int)]] := by simp [prs, encP]
      rw [e4]
theorem loop114 (a b : List P2) (hla : a.length ≤ 1000000) (hlb : b.length ≤ 1000000) : ∀ (rest : List P2) (k i : Nat) (o : List P2), b.drop k = rest → k + rest.length = b.length → i ≤ a.length → o.length = i + k →
    ∃ (i' : Nat) (o' : List P2), i' ≤ a.length ∧ o'.length = i' + b.length ∧ o' ++ a.drop i' = o ++ twoR (a.drop i) rest ∧ E cx (Key.loop 114 [true, true, true, false, true, false]) [.arr 0 2 0 o.length, vi i, vi k, .list 0 2 (prs a), .list 0 2 (prs b)] [⟨.arr, 80, 2, 2, prs o⟩] =
      some (Out.jump (.exit 0) [.arr 0 2 0 o'.length, vi i', vi b.length], [⟨.arr, 80, 2, 2, prs o'⟩])
  | [], k, i, o, hd, hk, hi, ho => by
    simp only [List.length_nil, Nat.add_zero] at hk
    subst hk
    exact ⟨i, o, hi, ho, rfl, (f114_l0 _ _ _ _ _ _).trans (goDn (by rw [prs_len]; omega) _ _)⟩
  | q :: rest, k, i, o, hd, hk, hi, ho => by
    simp only [List.length_cons] at hk
    have hq : b[k]? = some q := by have := congrArg (fun l => l[0]?) hd; simpa using this
    have hd' : b.drop (k + 1) = rest := by rw [← List.drop_drop, hd]; rfl
    generalize htk : (a.drop i).takeWhile (leP · q) = tk
    have hsplit : a.drop i = tk ++ (a.drop i).dropWhile (leP · q) := by rw [← htk]; exact List.takeWhile_append_dropWhile.symm
    have htl : i + tk.length ≤ a.length := by
      have := congrArg List.length hsplit
      simp at this
      omega
    have hdw : (a.drop i).dropWhile (leP · q) = a.drop (i + tk.length) := by
      rw [← List.drop_drop]
      conv => rhs; rw [hsplit]
      simp
    obtain ⟨i', o', g1, g2, g3, g4⟩ := loop114 a b hla hlb rest (k + 1) (i + tk.length) (o ++ tk ++ [q]) hd' (by omega) htl (by simp; omega)
    refine ⟨i', o', g1, g2, ?_, ?_⟩
    · rw [g3]
      show _ = o ++ ((a.drop i).takeWhile (leP · q) ++ q :: twoR ((a.drop i).dropWhile (leP · q)) rest)
      rw [htk, hdw]
      simp
    · refine (f114_l0 _ _ _ _ _ _).trans ((goD (by rw [prs_len]; omega) _ _).trans ?_)
      rw [loop114i a b k q hq hla (a.length - i) i o (by omega) (by omega), htk]
      have hl : (prs (o ++ tk)).length = (o ++ tk).length := prs_len _
      simp only [Option.bind_some, asJump, JX.is, Nat.beq_refl, cond_true, uncons?, nil?, AV.arr?, AV.int?, chk, obIs, if_true, and_self]
      refine (goY (by omega) _ _).trans ?_
      refine (goPr (n := k) rfl hq _).trans ?_
      refine (goCk hl.symm _).trans ?_
      have hbig : Nat.mul (Nat.add (prs (o ++ tk)).length 1) 16 ≤ 140737488355328 := by
        rw [hl]
        show ((o ++ tk).length + 1) * 16 ≤ _
        simp
        omega
      refine (goY hbig _ _).trans ?_
      · rw [wS (by omega)]
        refine Eq.trans ?_ g4
        have e3 : (o ++ tk ++ [q]).length = Nat.add (prs (o ++ tk)).length 1 := by rw [hl]; simp; omega
        rw [e3]
        have e4 : prs (o ++ tk ++ [q]) = prs (o ++ tk) ++ [[vu (q.1 : Int), vu (q.2 : Int)]] := by simp [prs, encP]
        rw [e4]
theorem c114 (a b : List P2) (hla : a.length ≤ 1000000) (hlb : b.length ≤ 1000000) : E cx (Key.fn 114) [.list 0 2 (prs a), .list 0 2 (prs b)] [] = some (Out.ret (.list 0 2 (prs (twoR a b))), []) := by
  refine (f114 _ _).trans ?_
  obtain ⟨i', o', g1, g2, g3, g4⟩ := loop114 a b hla hlb b 0 0 [] rfl (by omega) (by omega) rfl
  show (Option.bind (E cx (Key.loop 114 [true, true, true, false, true, false]) [.arr 0 2 0 ([] : List P2).length, vi ((0 : Nat) : Int), vi ((0 : Nat) : Int), .list 0 2 (prs a), .list 0 2 (prs b)] [⟨.arr, 80, 2, 2, prs []⟩]) _) = _
  rw [g4]
  have hl : (prs o').length = o'.length := prs_len _
  have hal : (prs a).length = a.length := prs_len _
  have hd : List.drop (Int.toNat (i' : Int)) (List.take (prs a).length (prs a)) = prs (a.drop i') := by
    rw [List.take_length, Int.toNat_natCast, prs, prs, List.map_drop]
  have hdl : (prs (a.drop i')).length = a.length - i' := by rw [prs_len]; simp
  simp only [Option.bind_some, asJump, JX.is, Nat.beq_refl, cond_true, uncons?, nil?, AV.arr?, AV.int?, chk, obIs, if_true, and_self]
  refine (goY (by omega) _ _).trans ?_
  refine (goY (by rw [hal]; omega) _ _).trans ?_
  show (bif ysOk (List.drop (Int.toNat (i' : Int)) (List.take (prs a).length (prs a))) then _ else _) = _
  rw [hd, ysOk_prs]
  refine (goCk hl.symm _).trans ?_
  have hbig : Nat.mul (Nat.add (prs o').length (prs (a.drop i')).length) 16 ≤ 140737488355328 := by
    rw [hl, hdl]
    show (o'.length + (a.length - i')) * 16 ≤ _
    omega
  refine (goY hbig _ _).trans ?_
  have hlen : (prs o' ++ prs (a.drop i')).length = Nat.add (prs o').length (prs (a.drop i')).length := List.length_append
  refine (goLe (by show 0 + _ ≤ _; rw [Nat.zero_add]; exact Nat.le_of_eq hlen.symm) _).trans ?_
  show some (Out.ret (.list 0 2 (List.drop 0 (List.take (Nat.add 0 (Nat.add (prs o').length (prs (a.drop i')).length)) (prs o' ++ prs (a.drop i'))))), []) = _
  rw [List.drop_zero, show Nat.add 0 (Nat.add (prs o').length (prs (a.drop i')).length) = Nat.add (prs o').length (prs (a.drop i')).length from Nat.zero_add _, ← hlen, List.take_length, prs_app, g3]
  rfl
end
/- Tokens: put together by the document; what is the same; how often a pair is there. -/
section
theorem drop_cons' {α : Type} {l r : List α} {i : Nat} {p : α} (h : l.drop i = p :: r) : l[i]? = some p ∧ l.drop (i + 1) = r ∧ i < l.length := by
  refine ⟨?_, ?_, ?_⟩
  · have := congrArg (fun l => l[0]?) h; simpa using this
  · rw [← List.drop_drop, h]; rfl
  · have := congrArg List.length h; simp at this; omega
theorem loop46a (L : List T2) (x0 : Int) (b0 : Bool) (hL : L.length ≤ 4000000) (hb : ∀ t ∈ L, t.2.length ≤ 1000000) : ∀ (rest : List T2) (i : Nat), L.drop i = rest → i + rest.length = L.length →
    (allR rest = true ∧ E cx (Key.loop 46 [true, false, true, false]) [vi x0, vi i, .list 0 2 (trs L), .ptr 0 0 0 0] [⟨.box, 36, 2, 0, [[vbool b0, .val (.slice none 0 0)]]⟩] = some (Out.jump (.exit 0) [vi x0, vi L.length], [⟨.box, 36, 2, 0, [[vbool b0, .val (.slice none 0 0)]]⟩])) ∨
    (allR rest = false ∧ ∃ k : Nat, E cx (Key.loop 46 [true, false, true, false]) [vi x0, vi i, .list 0 2 (trs L), .ptr 0 0 0 0] [⟨.box, 36, 2, 0, [[vbool b0, .val (.slice none 0 0)]]⟩] = some (Out.jump .ret [vi 1, vi k], [⟨.box, 36, 2, 0, [[vbool false, .val (.slice none 0 0)]]⟩]))
  | [], i, hd, hi => by
    simp only [List.length_nil, Nat.add_zero] at hi
    subst hi
    exact .inl ⟨rfl, (f46_l0 _ _ _ _).trans (goDn (by rw [trs_len]; omega) _ _)⟩
  | t :: rest, i, hd, hi => by
    obtain ⟨hp, hd', hlt⟩ := drop_cons' hd
    simp only [List.length_cons] at hi
    have htl := hb t (List.mem_of_getElem? hp)
    have go : ∀ {R}, (bif rightT t.2 then E cx (Key.loop 46 [true, false, true, false]) [vi x0, vi (i + 1 : Nat), .list 0 2 (trs L), .ptr 0 0 0 0] [⟨.box, 36, 2, 0, [[vbool b0, .val (.slice none 0 0)]]⟩] else
        some (Out.jump .ret [vi 1, vi (i : Nat)], [⟨.box, 36, 2, 0, [[vbool false, .val (.slice none 0 0)]]⟩])) = R →
        E cx (Key.loop 46 [true, false, true, false]) [vi x0, vi i, .list 0 2 (trs L), .ptr 0 0 0 0] [⟨.box, 36, 2, 0, [[vbool b0, .val (.slice none 0 0)]]⟩] = R := fun {R} h => by
      refine (f46_l0 _ _ _ _).trans ((goD (by rw [trs_len]; omega) _ _).trans ((goY (by omega) _ _).trans ((goTr (n := i) rfl hp _).trans ((goB (c41 t.1 t.2 (by omega)) _).trans ?_))))
      rw [wS (by omega)]
      exact h
    have hall : allR (t :: rest) = (rightT t.2 && allR rest) := rfl
    cases hr : rightT t.2 with
    | false => rw [hr] at go hall; exact .inr ⟨hall, i, go rfl⟩
    | true =>
      rw [hr] at go hall
      rcases loop46a L x0 b0 hL hb rest (i + 1) hd' (by omega) with ⟨g1, g2⟩ | ⟨g1, k, g2⟩
      · exact .inl ⟨by rw [hall, g1]; rfl, go g2⟩
      · exact .inr ⟨by rw [hall, g1]; rfl, k, go g2⟩
theorem rightT_len {l : List P2} (h : rightT l = true) : l.length ≤ 2048 := by
  unfold rightT at h
  simp only [Bool.and_eq_true, decide_eq_true_eq] at h
  exact h.1
theorem rightT_pw {l : List P2} (h : rightT l = true) : PW l := by
  unfold rightT at h
  simp only [Bool.and_eq_true, decide_eq_true_eq] at h
  refine (srt_pw l).1 ?_
  by_cases hs : srtI l
  · exact hs
  · have := h.2
    rw [srtB_f hs] at this
    cases this
theorem rightT_of {l : List P2} (h1 : l.length ≤ 2048) (h2 : PW l) : rightT l = true := by
  unfold rightT
  rw [decide_eq_true h1, srtB_t ((srt_pw l).2 h2)]
  rfl
theorem loop46b (L : List T2) (x0 : Int) (b0 : Bool) (hL : L.length ≤ 4000000) : ∀ (rest : List T2) (i : Nat) (f : Bool) (o : List P2), L.drop i = rest → i + rest.length = L.length → o.length ≤ 2048 → PW o → allR rest = true →
    (o.length + (cat rest).length ≤ 2048 ∧ E cx (Key.loop 46 [true, true, true, false, true, false]) [vi x0, vi i, .list 0 2 (trs L), .ptr 0 0 0 0, .ptr 1 0 0 0] [⟨.box, 36, 2, 0, [[vbool b0, .val (.slice none 0 0)]]⟩, ⟨.box, 36, 2, 0, [[vbool f, .list 0 2 (prs o)]]⟩] =
      some (Out.jump (.exit 2) [vi x0, vi L.length], [⟨.box, 36, 2, 0, [[vbool b0, .val (.slice none 0 0)]]⟩, ⟨.box, 36, 2, 0, [[vbool (f || anyF' rest), .list 0 2 (prs (sorted (o ++ cat rest)))]]⟩])) ∨
    (¬ o.length + (cat rest).length ≤ 2048 ∧ ∃ (k : Nat) (f' : Bool) (o' : List P2), E cx (Key.loop 46 [true, true, true, false, true, false]) [vi x0, vi i, .list 0 2 (trs L), .ptr 0 0 0 0, .ptr 1 0 0 0] [⟨.box, 36, 2, 0, [[vbool b0, .val (.slice none 0 0)]]⟩, ⟨.box, 36, 2, 0, [[vbool f, .list 0 2 (prs o)]]⟩] =
      some (Out.jump .ret [vi 4, vi k], [⟨.box, 36, 2, 0, [[vbool false, .val (.slice none 0 0)]]⟩, ⟨.box, 36, 2, 0, [[vbool f', .list 0 2 (prs o')]]⟩]))
  | [], i, f, o, hd, hi, ho, hpw, hall => by
    simp only [List.length_nil, Nat.add_zero] at hi
    subst hi
    refine .inl ⟨by simp [cat]; omega, (f46_l1 _ _ _ _ _ _).trans ((goDn (by rw [trs_len]; omega) _ _).trans ?_)⟩
    have : o ++ cat [] = o := by simp [cat]
    rw [this, sorted_of hpw]
    simp [anyF']
  | t :: rest, i, f, o, hd, hi, ho, hpw, hall => by
    obtain ⟨hp, hd', hlt⟩ := drop_cons' hd
    simp only [List.length_cons] at hi
    obtain ⟨hr, hall'⟩ : rightT t.2 = true ∧ allR rest = true := by
      have : (rightT t.2 && allR rest) = true := hall
      simpa using this
    have htl := rightT_len hr
    have htw := twoR_eq hpw (rightT_pw hr)
    have hsl : (sorted (o ++ t.2)).length = o.length + t.2.length := by simp [sorted]
    have go : ∀ {R}, (bif decide (((o.length + t.2.length : Nat) : Int) > 2048) then some (Out.jump .ret [vi 4, vi i], [⟨.box, 36, 2, 0, [[vbool false, .val (.slice none 0 0)]]⟩, ⟨.box, 36, 2, 0, [[vbool (f || t.1), .list 0 2 (prs (sorted (o ++ t.2)))]]⟩]) else
        E cx (Key.loop 46 [true, true, true, false, true, false]) [vi x0, vi (i + 1 : Nat), .list 0 2 (trs L), .ptr 0 0 0 0, .ptr 1 0 0 0] [⟨.box, 36, 2, 0, [[vbool b0, .val (.slice none 0 0)]]⟩, ⟨.box, 36, 2, 0, [[vbool (f || t.1), .list 0 2 (prs (sorted (o ++ t.2)))]]⟩]) = R →
        E cx (Key.loop 46 [true, true, true, false, true, false]) [vi x0, vi i, .list 0 2 (trs L), .ptr 0 0 0 0, .ptr 1 0 0 0] [⟨.box, 36, 2, 0, [[vbool b0, .val (.slice none 0 0)]]⟩, ⟨.box, 36, 2, 0, [[vbool f, .list 0 2 (prs o)]]⟩] = R := fun {R} h => by
      refine (f46_l1 _ _ _ _ _ _).trans ((goD (by rw [trs_len]; omega) _ _).trans ?_)
      have c := c114 o t.2 (by omega) (by omega)
      rw [htw] at c
      have cl : (prs (sorted (o ++ t.2))).length = o.length + t.2.length := by rw [prs_len, hsl]
      have fin : ∀ (g : Bool), (f || t.1) = g → ((E cx (Key.fn 114) [.list 0 2 (prs o), .list 0 2 (prs t.2)] []).bind fun r => (ret1 r).bind fun v => (AV.list? 2 v).bind fun es => bif decide (((List.length es : Nat) : Int) > 2048) then some (Out.jump .ret [vi 4, vi i], [⟨.box, 36, 2, 0, [[vbool false, .val (.slice none 0 0)]]⟩, ⟨.box, 36, 2, 0, [[vbool g, .list 0 2 es]]⟩]) else
          E cx (Key.loop 46 [true, true, true, false, true, false]) [vi x0, vi (IntKind.wrap .i64 (Int.add (i : Int) 1)), .list 0 2 (trs L), .ptr 0 0 0 0, .ptr 1 0 0 0] [⟨.box, 36, 2, 0, [[vbool b0, .val (.slice none 0 0)]]⟩, ⟨.box, 36, 2, 0, [[vbool g, .list 0 2 es]]⟩]) = R := fun g hg => by
        subst hg
        rw [c, wS (by omega)]
        show (bif decide (((List.length (prs (sorted (o ++ t.2))) : Nat) : Int) > 2048) then _ else _) = R
        rw [cl]
        exact h
      cases f with
      | true =>
        simp only [decide_false, cond_true, cond_false, Bool.true_eq_false]
        refine (goY (show 0 ≤ (i : Int) by omega) _ _).trans ?_
        refine (goTr (n := i) rfl hp _).trans ?_
        exact fin true rfl
      | false =>
        simp only [decide_true, cond_true, cond_false]
        refine (goY (show 0 ≤ (i : Int) by omega) _ _).trans ?_
        refine (goTr (n := i) rfl hp _).trans ?_
        cases hf : t.1 with
        | true =>
          refine (goY (show 0 ≤ (i : Int) by omega) _ _).trans ?_
          refine (goTr (n := i) rfl hp _).trans ?_
          exact fin true (by rw [hf]; rfl)
        | false =>
          refine (goY (show 0 ≤ (i : Int) by omega) _ _).trans ?_
          refine (goTr (n := i) rfl hp _).trans ?_
          exact fin false (by rw [hf]; rfl)
    have hcat : (cat (t :: rest)).length = t.2.length + (cat rest).length := by simp [cat]
    by_cases hbig : o.length + t.2.length ≤ 2048
    · rcases loop46b L x0 b0 hL rest (i + 1) (f || t.1) (sorted (o ++ t.2)) hd' (by omega) (by omega) (sorted_pw _) hall' with ⟨g1, g2⟩ | ⟨g1, k, f', o', g2⟩
      · refine .inl ⟨by omega, go ((goDn (by omega) _ _).trans (g2.trans ?_))⟩
        have e : sorted (sorted (o ++ t.2) ++ cat rest) = sorted (o ++ cat (t :: rest)) := by
          refine sorted_congr ?_
          have : o ++ cat (t :: rest) = o ++ t.2 ++ cat rest := by simp [cat]
          rw [this]
          exact (sorted_perm _).append_right _
        rw [e]
        simp [anyF', Bool.or_assoc]
      · exact .inr ⟨by omega, k, f', o', go ((goDn (by omega) _ _).trans g2)⟩
    · exact .inr ⟨by omega, i, _, _, go (goD (by omega) _ _)⟩
theorem c46 (L : List T2) (hL : L.length ≤ 4000000) (hb : ∀ t ∈ L, t.2.length ≤ 1000000) : RTok' (E cx (Key.fn 46) [.list 0 2 (trs L)] []) (mergeR L) := by
  unfold mergeR
  rcases loop46a L 0 false hL hb L 0 rfl (by omega) with ⟨g1, g2⟩ | ⟨g1, k, g2⟩
  · rw [g1]
    simp only [if_true]
    rcases loop46b L 0 false hL L 0 false [] rfl (by omega) (by simp) .nil g1 with ⟨q1, q2⟩ | ⟨q1, k, f', o', q2⟩
    · have hc : (cat L).length ≤ 2048 := by simpa using q1
      rw [if_pos hc]
      refine ⟨.list 0 2 (prs (sorted (cat L))), (f46 _).trans ?_, rfl⟩
      show (Option.bind (E cx (Key.loop 46 [true, false, true, false]) [vi 0, vi ((0 : Nat) : Int), .list 0 2 (trs L), .ptr 0 0 0 0] [⟨.box, 36, 2, 0, [[vbool false, .val (.slice none 0 0)]]⟩]) _) = _
      rw [g2]
      show (Option.bind (E cx (Key.loop 46 [true, true, true, false, true, false]) [vi 0, vi ((0 : Nat) : Int), .list 0 2 (trs L), .ptr 0 0 0 0, .ptr 1 0 0 0] [⟨.box, 36, 2, 0, [[vbool false, .val (.slice none 0 0)]]⟩, ⟨.box, 36, 2, 0, [[vbool false, .list 0 2 (prs [])]]⟩]) _) = _
      rw [q2]
      rfl
    · have hc : ¬ (cat L).length ≤ 2048 := by simpa using q1
      rw [if_neg hc]
      refine ⟨.val (.slice none 0 0), (f46 _).trans ?_, rfl⟩
      show (Option.bind (E cx (Key.loop 46 [true, false, true, false]) [vi 0, vi ((0 : Nat) : Int), .list 0 2 (trs L), .ptr 0 0 0 0] [⟨.box, 36, 2, 0, [[vbool false, .val (.slice none 0 0)]]⟩]) _) = _
      rw [g2]
      show (Option.bind (E cx (Key.loop 46 [true, true, true, false, true, false]) [vi 0, vi ((0 : Nat) : Int), .list 0 2 (trs L), .ptr 0 0 0 0, .ptr 1 0 0 0] [⟨.box, 36, 2, 0, [[vbool false, .val (.slice none 0 0)]]⟩, ⟨.box, 36, 2, 0, [[vbool false, .list 0 2 (prs [])]]⟩]) _) = _
      rw [q2]
      rfl
  · rw [g1]
    refine ⟨.val (.slice none 0 0), (f46 _).trans ?_, rfl⟩
    show (Option.bind (E cx (Key.loop 46 [true, false, true, false]) [vi 0, vi ((0 : Nat) : Int), .list 0 2 (trs L), .ptr 0 0 0 0] [⟨.box, 36, 2, 0, [[vbool false, .val (.slice none 0 0)]]⟩]) _) = _
    rw [g2]
    rfl
theorem pairEq (p q : P2) : (decide ((p.1 : Int) = (q.1 : Int)) && (decide ((p.2 : Int) = (q.2 : Int)) && true)) = decide (p = q) := by
  obtain ⟨a, b⟩ := p
  obtain ⟨c, d⟩ := q
  by_cases h1 : a = c <;> by_cases h2 : b = d <;> simp [h1, h2, Int.ofNat_inj]
theorem loop47 (b0 f1 f2 : Bool) (a b : List P2) (hab : a.length = b.length) (hl : a.length ≤ 4000000) : ∀ (d i : Nat), i + d = a.length →
    (a.drop i = b.drop i ∧ E cx (Key.loop 47 [true, true, false, true, false]) [vbool b0, vi i, .ptr 0 0 0 0, .ptr 1 0 0 0] [⟨.box, 36, 2, 0, [[vbool f1, .list 0 2 (prs a)]]⟩, ⟨.box, 36, 2, 0, [[vbool f2, .list 0 2 (prs b)]]⟩] =
      some (Out.jump (.exit 0) [vbool b0, vi a.length], [⟨.box, 36, 2, 0, [[vbool f1, .list 0 2 (prs a)]]⟩, ⟨.box, 36, 2, 0, [[vbool f2, .list 0 2 (prs b)]]⟩])) ∨
    (a.drop i ≠ b.drop i ∧ ∃ k : Nat, E cx (Key.loop 47 [true, true, false, true, false]) [vbool b0, vi i, .ptr 0 0 0 0, .ptr 1 0 0 0] [⟨.box, 36, 2, 0, [[vbool f1, .list 0 2 (prs a)]]⟩, ⟨.box, 36, 2, 0, [[vbool f2, .list 0 2 (prs b)]]⟩] =
      some (Out.jump .ret [vbool false, vi k], [⟨.box, 36, 2, 0, [[vbool f1, .list 0 2 (prs a)]]⟩, ⟨.box, 36, 2, 0, [[vbool f2, .list 0 2 (prs b)]]⟩]))
  | 0, i, hd => by
    refine .inl ⟨by rw [List.drop_eq_nil_of_le (by omega), List.drop_eq_nil_of_le (by omega)], (f47_l0 _ _ _ _ _ _).trans ((goDn (by rw [prs_len]; omega) _ _).trans (by rw [show i = a.length by omega]))⟩
  | d + 1, i, hd => by
    have hp : a[i]? = some a[i] := List.getElem?_eq_getElem (by omega)
    have hq : b[i]? = some b[i] := List.getElem?_eq_getElem (by omega)
    have ha : a.drop i = a[i] :: a.drop (i + 1) := List.drop_eq_getElem_cons (by omega)
    have hb : b.drop i = b[i] :: b.drop (i + 1) := List.drop_eq_getElem_cons (by omega)
    have go : ∀ {R}, (bif !decide (a[i] = b[i]) then some (Out.jump .ret [vbool false, vi i], [⟨.box, 36, 2, 0, [[vbool f1, .list 0 2 (prs a)]]⟩, ⟨.box, 36, 2, 0, [[vbool f2, .list 0 2 (prs b)]]⟩]) else
        E cx (Key.loop 47 [true, true, false, true, false]) [vbool b0, vi (i + 1 : Nat), .ptr 0 0 0 0, .ptr 1 0 0 0] [⟨.box, 36, 2, 0, [[vbool f1, .list 0 2 (prs a)]]⟩, ⟨.box, 36, 2, 0, [[vbool f2, .list 0 2 (prs b)]]⟩]) = R →
        E cx (Key.loop 47 [true, true, false, true, false]) [vbool b0, vi i, .ptr 0 0 0 0, .ptr 1 0 0 0] [⟨.box, 36, 2, 0, [[vbool f1, .list 0 2 (prs a)]]⟩, ⟨.box, 36, 2, 0, [[vbool f2, .list 0 2 (prs b)]]⟩] = R := fun {R} h => by
      refine (f47_l0 _ _ _ _ _ _).trans ((goD (by rw [prs_len]; omega) _ _).trans ((goY (by omega) _ _).trans ((goPr (n := i) rfl hp _).trans ((goY (by omega) _ _).trans ((goPr (n := i) rfl hq _).trans ?_)))))
      rw [pairEq, wS (by omega)]
      exact h
    rw [ha, hb]
    by_cases he : a[i] = b[i]
    · rw [decide_eq_true he] at go
      rcases loop47 b0 f1 f2 a b hab hl d (i + 1) (by omega) with ⟨g1, g2⟩ | ⟨g1, k, g2⟩
      · exact .inl ⟨by rw [he, g1], go g2⟩
      · exact .inr ⟨fun h => g1 (List.cons.inj h).2, k, go g2⟩
    · rw [decide_eq_false he] at go
      exact .inr ⟨fun h => he (List.cons.inj h).1, i, go rfl⟩
theorem c47 (f1 f2 : Bool) (a b : List P2) (hl : a.length ≤ 4000000) : E cx (Key.fn 47) [.agg [vbool f1, .list 0 2 (prs a)], .agg [vbool f2, .list 0 2 (prs b)]] [] = rb (decide (f1 = f2 ∧ a = b)) := by
  refine (f47 _ _ _ _).trans ?_
  rw [prs_len, prs_len]
  by_cases hf : f1 = f2
  · rw [decide_eq_true hf]
    by_cases hab : a.length = b.length
    · refine (goE (a := (a.length : Int)) (b := (b.length : Int)) (by omega) _ _).trans ?_
      show (Option.bind (E cx (Key.loop 47 [true, true, false, true, false]) [vbool false, vi ((0 : Nat) : Int), .ptr 0 0 0 0, .ptr 1 0 0 0] [⟨.box, 36, 2, 0, [[vbool f1, .list 0 2 (prs a)]]⟩, ⟨.box, 36, 2, 0, [[vbool f2, .list 0 2 (prs b)]]⟩]) _) = _
      rcases loop47 false f1 f2 a b hab hl a.length 0 (by omega) with ⟨g1, g2⟩ | ⟨g1, k, g2⟩
      · rw [g2, decide_eq_true ⟨hf, g1⟩]
        rfl
      · rw [g2, decide_eq_false fun h => g1 h.2]
        rfl
    · rw [decide_eq_false fun h => hab (by rw [h.2])]
      exact goEn (a := (a.length : Int)) (b := (b.length : Int)) (by omega) _ _
  · rw [decide_eq_false hf, decide_eq_false fun h => hf h.1]
    rfl
theorem loop53 (f : Bool) (l : List P2) (p : P2) (hl : l.length ≤ 4000000) : ∀ (d i n : Nat), i + d = l.length → n ≤ i →
    E cx (Key.loop 53 [true, true, false, true, false]) [vi n, vi i, .ptr 0 0 0 0, .ptr 1 0 0 0] [⟨.box, 36, 2, 0, [[vbool f, .list 0 2 (prs l)]]⟩, ⟨.box, 80, 2, 0, [[vu p.1, vu p.2]]⟩] =
      some (Out.jump (.exit 0) [vi (n + (l.drop i).count p : Nat), vi l.length], [⟨.box, 36, 2, 0, [[vbool f, .list 0 2 (prs l)]]⟩, ⟨.box, 80, 2, 0, [[vu p.1, vu p.2]]⟩])
  | 0, i, n, hd, hn => by
    rw [List.drop_eq_nil_of_le (by omega)]
    exact (f53_l0 _ _ _ _ _ _).trans ((goDn (by rw [prs_len]; omega) _ _).trans (by rw [show i = l.length by omega]; rfl))
  | d + 1, i, n, hd, hn => by
    have hp : l[i]? = some l[i] := List.getElem?_eq_getElem (by omega)
    have ha : l.drop i = l[i] :: l.drop (i + 1) := List.drop_eq_getElem_cons (by omega)
    refine (f53_l0 _ _ _ _ _ _).trans ((goD (by rw [prs_len]; omega) _ _).trans ((goY (by omega) _ _).trans ((goPr (n := i) rfl hp _).trans ?_)))
    rw [pairEq, wS (by omega), wS (by omega), ha]
    by_cases he : l[i] = p
    · rw [decide_eq_true he, List.count_cons, beq_iff_eq.2 he]
      refine (loop53 f l p hl d (i + 1) (n + 1) (by omega) (by omega)).trans ?_
      simp only [if_true]
      rw [show n + 1 + (l.drop (i + 1)).count p = n + ((l.drop (i + 1)).count p + 1) by omega]
    · rw [decide_eq_false he, List.count_cons]
      have hb : (l[i] == p) = false := beq_eq_false_iff_ne.2 he
      rw [hb]
      exact loop53 f l p hl d (i + 1) n (by omega) (by omega)
theorem c53 (f : Bool) (l : List P2) (p : P2) (hl : l.length ≤ 4000000) : E cx (Key.fn 53) [.agg [vbool f, .list 0 2 (prs l)], .agg [vu p.1, vu p.2]] [] = some (Out.ret (vi (l.count p : Nat)), []) := by
  refine (f53 _ _ _ _).trans ?_
  show (Option.bind (E cx (Key.loop 53 [true, true, false, true, false]) [vi ((0 : Nat) : Int), vi ((0 : Nat) : Int), .ptr 0 0 0 0, .ptr 1 0 0 0] [⟨.box, 36, 2, 0, [[vbool f, .list 0 2 (prs l)]]⟩, ⟨.box, 80, 2, 0, [[vu p.1, vu p.2]]⟩]) _) = _
  rw [loop53 f l p hl l.length 0 0 (by omega) (by omega), Nat.zero_add]
  rfl
end
/- Tokens: Encode, and the document's. -/
section
def eb (p : P2) : B := put p.1 8 ++ put p.2 8
theorem eb_len (p : P2) : (eb p).length = 16 := by simp [eb, put_len]
def ebs (l : List P2) : B := l.flatMap eb
theorem ebs_cons (p : P2) (l : List P2) : ebs (p :: l) = eb p ++ ebs l := by simp [ebs]
theorem ebs_app (a b : List P2) : ebs (a ++ b) = ebs a ++ ebs b := by simp [ebs]
theorem ebs_len : ∀ (l : List P2), (ebs l).length = 16 * l.length
  | [] => rfl
  | p :: l => by rw [ebs_cons, List.length_append, eb_len, ebs_len l, List.length_cons]; omega
abbrev fB (f : Bool) : UInt8 := if f then 1 else 0
def encB (f : Bool) (l : List P2) : B := fB f :: ebs l
noncomputable def encR (f : Bool) (l : List P2) : B × Int := if rightT l then (encB f l, 0) else ([], 1)
abbrev RJ2 (r : B × Int) : Option (Out × Heap) := RJ r.1 r.2
abbrev rowsU (l : B) : List (List AV) := l.map fun b => [vb (b.toNat : Int)]
theorem strRows_mk (l : B) : strRows (mk l) = rowsU l := rfl
theorem rowsU_app (a b : B) : rowsU a ++ rowsU b = rowsU (a ++ b) := by simp [rowsU]
theorem rowsU_len (l : B) : (rowsU l).length = l.length := by simp [rowsU]
theorem ysOk_rowsU (l : B) : ysOk (rowsU l) = true := by
  unfold ysOk
  rw [List.all_eq_true]
  intro e he
  obtain ⟨p, _, rfl⟩ := List.mem_map.1 he
  rfl
theorem rowsU_bytes (l : B) : rowsU l = bytesI (l.map fun b => (b.toNat : Int)) := by simp [rowsU, bytesI]
theorem strOf_back (l : B) : Go.strOfNums (l.map fun b => (b.toNat : Int)) = mk l := by
  rw [strOf, List.map_map]
  congr 1
  refine (List.map_congr_left fun b _ => ?_).trans (List.map_id _)
  simp
theorem loop38 (b : Bool) (l : List P2) (l0 : List (List AV)) (hl : l.length ≤ 2048) : ∀ (rest : List P2) (i : Nat) (o : B), l.drop i = rest → o.length = 1 + 16 * i → i + rest.length = l.length →
    E cx (Key.loop 38 [true, true, true, true, false, true, false]) [.arr 1 1 0 o.length, vi i, .list 0 2 (prs l), vi l.length] [⟨.box, 36, 2, 0, [[vbool b, .list 0 2 l0]]⟩, ⟨.arr, 5, 1, 1, rowsU o⟩] =
      some (Out.jump (.exit 0) [.arr 1 1 0 (o ++ ebs rest).length, vi l.length], [⟨.box, 36, 2, 0, [[vbool b, .list 0 2 l0]]⟩, ⟨.arr, 5, 1, 1, rowsU (o ++ ebs rest)⟩])
  | [], i, o, hd, ho, hi => by
    simp only [List.length_nil, Nat.add_zero] at hi
    subst hi
    refine (f38_l0 _ _ _ _ _ _ _).trans ((goDn (by omega) _ _).trans ?_)
    simp [ebs]
  | p :: rest, i, o, hd, ho, hi => by
    obtain ⟨hp, hd', hlt⟩ := drop_cons' hd
    simp only [List.length_cons] at hi
    have h8 : ∀ w, putI w 8 = put w 8 := fun w => putI_ok (by omega) (by omega)
    refine (f38_l0 _ _ _ _ _ _ _).trans ((goD (by omega) _ _).trans ((goY (by omega) _ _).trans ((goPr (n := i) rfl hp _).trans ?_)))
    refine (goS (c106 p.1 8) _).trans ?_
    rw [strRows_mk, h8, ysOk_rowsU]
    refine (goCk (by rw [rowsU_len]) _).trans ?_
    have e1 : Nat.add (List.length (rowsU o)) (List.length (rowsU (put p.1 8))) = (o ++ put p.1 8).length := by rw [rowsU_len, rowsU_len, List.length_append]; rfl
    have l1 : (o ++ put p.1 8).length = o.length + 8 := by rw [List.length_append, put_len]
    refine (goY (by show Nat.mul (Nat.add (List.length (rowsU o)) (List.length (rowsU (put p.1 8)))) 1 ≤ _; rw [e1, l1]; show (o.length + 8) * 1 ≤ _; omega) _ _).trans ?_
    refine (goS (c106 p.2 8) _).trans ?_
    rw [strRows_mk, h8, ysOk_rowsU]
    show (Option.bind (chk (Nat.add (List.length (rowsU o)) (List.length (rowsU (put p.1 8)))) (List.length (rowsU o ++ rowsU (put p.1 8)))) fun _ => if Nat.mul (Nat.add (List.length (rowsU o ++ rowsU (put p.1 8))) (List.length (rowsU (put p.2 8)))) 1 ≤ 140737488355328 then
      E cx (Key.loop 38 [true, true, true, true, false, true, false]) [.arr 1 1 0 (Nat.add (List.length (rowsU o ++ rowsU (put p.1 8))) (List.length (rowsU (put p.2 8)))), vi (IntKind.wrap .i64 (Int.add i 1)), .list 0 2 (prs l), vi l.length] [⟨.box, 36, 2, 0, [[vbool b, .list 0 2 l0]]⟩, ⟨.arr, 5, 1, 1, rowsU o ++ rowsU (put p.1 8) ++ rowsU (put p.2 8)⟩] else none) = _
    rw [e1, rowsU_app, rowsU_app]
    have e2 : Nat.add (List.length (rowsU (o ++ put p.1 8))) (List.length (rowsU (put p.2 8))) = (o ++ eb p).length := by rw [rowsU_len, rowsU_len]; simp [eb, put_len]
    have l2 : (o ++ eb p).length = o.length + 16 := by rw [List.length_append, eb_len]
    rw [e2, wS (by omega), List.append_assoc]
    refine (goCk (by rw [rowsU_len]) _).trans ?_
    refine (goY (by rw [l2]; show (o.length + 16) * 1 ≤ _; omega) _ _).trans ?_
    refine (loop38 b l l0 hl rest (i + 1) (o ++ eb p) hd' (by omega) (by omega)).trans ?_
    rw [ebs_cons, List.append_assoc]
theorem c38 (f : Bool) (l : List P2) (hl : l.length ≤ 4000000) : E cx (Key.fn 38) [.agg [vbool f, .list 0 2 (prs l)]] [] = RJ2 (encR f l) := by
  refine (f38 _ _).trans ((goB (c40 f l hl) _).trans ?_)
  unfold encR
  cases hr : rightT l with
  | false => rfl
  | true =>
    have hll := rightT_len hr
    have g := loop38 f l (prs l) hll l 0 [fB f] rfl rfl (by omega)
    have key : (Option.bind (yRows [⟨.box, 36, 2, 0, [[vbool f, .list 0 2 (prs l)]]⟩, ⟨.arr, 5, 1, 1, rowsU (encB f l)⟩] 1 (.arr 1 1 0 (encB f l).length)) fun ys => Option.bind (numsOf ys) fun ns => some (Out.ret (AV.tuple [vs (Go.strOfNums ns), vi 0]), ([] : Heap))) = RJ (encB f l) 0 := by
      show (Option.bind ((chkLe (0 + (encB f l).length) (rowsU (encB f l)).length).bind fun _ => some (((rowsU (encB f l)).take (0 + (encB f l).length)).drop 0)) fun ys => Option.bind (numsOf ys) fun ns => some (Out.ret (AV.tuple [vs (Go.strOfNums ns), vi 0]), ([] : Heap))) = _
      rw [goLe (by rw [rowsU_len]; omega), Option.bind_some, Nat.zero_add, List.drop_zero, List.take_of_length_le (by rw [rowsU_len]; omega), rowsU_bytes, numsOf_bytes, Option.bind_some, strOf_back]
    rw [prs_len]
    cases f with
    | true =>
      show (Option.bind (E cx (Key.loop 38 [true, true, true, true, false, true, false]) [.arr 1 1 0 [fB true].length, vi ((0 : Nat) : Int), .list 0 2 (prs l), vi l.length] [⟨.box, 36, 2, 0, [[vbool true, .list 0 2 (prs l)]]⟩, ⟨.arr, 5, 1, 1, rowsU [fB true]⟩]) _) = _
      rw [g]
      exact key
    | false =>
      show (Option.bind (E cx (Key.loop 38 [true, true, true, true, false, true, false]) [.arr 1 1 0 [fB false].length, vi ((0 : Nat) : Int), .list 0 2 (prs l), vi l.length] [⟨.box, 36, 2, 0, [[vbool false, .list 0 2 (prs l)]]⟩, ⟨.arr, 5, 1, 1, rowsU [fB false]⟩]) _) = _
      rw [g]
      exact key
theorem loop39 (b : Bool) (l : List P2) (hl : l.length ≤ 2048) : ∀ (rest : List P2) (i : Nat) (o : B), l.drop i = rest → o.length = 1 + 16 * i → i + rest.length = l.length →
    E cx (Key.loop 39 [true, true, true, true, true, false, true, false]) [vs (mk o), vi i, .ptr 0 0 0 0] [⟨.box, 36, 2, 0, [[vbool b, .list 0 2 (prs l)]]⟩] =
      some (Out.jump (.exit 0) [vs (mk (o ++ ebs rest)), vi l.length], [⟨.box, 36, 2, 0, [[vbool b, .list 0 2 (prs l)]]⟩])
  | [], i, o, hd, ho, hi => by
    simp only [List.length_nil, Nat.add_zero] at hi
    subst hi
    refine (f39_l0 _ _ _ _).trans ((goDn (by rw [prs_len]; omega) _ _).trans ?_)
    simp [ebs]
  | p :: rest, i, o, hd, ho, hi => by
    obtain ⟨hp, hd', hlt⟩ := drop_cons' hd
    simp only [List.length_cons] at hi
    have h8 : ∀ w, putI w 8 = put w 8 := fun w => putI_ok (by omega) (by omega)
    refine (f39_l0 _ _ _ _).trans ((goD (by rw [prs_len]; omega) _ _).trans ((goY (by omega) _ _).trans ((goPr (n := i) rfl hp _).trans ?_)))
    refine (goS (c107 p.1 8) _).trans ?_
    rw [h8, app_mk]
    have l1 : (o ++ put p.1 8).length = o.length + 8 := by rw [List.length_append, put_len]
    have l0 : (put p.1 8).length = 8 := put_len _ _
    have l2 : (put p.2 8).length = 8 := put_len _ _
    refine (goN (by show ¬ ((o.length + (put p.1 8).length : Nat) : Int) > _; omega) _ _).trans ?_
    refine (goY (by omega) _ _).trans ((goPr (n := i) rfl hp _).trans ?_)
    refine (goS (c107 p.2 8) _).trans ?_
    rw [h8, app_mk]
    refine (goN (by show ¬ (((o ++ put p.1 8).length + (put p.2 8).length : Nat) : Int) > _; omega) _ _).trans ?_
    rw [wS (by omega), List.append_assoc]
    refine (loop39 b l hl rest (i + 1) (o ++ eb p) hd' (by rw [List.length_append, eb_len]; omega) (by omega)).trans ?_
    rw [ebs_cons, List.append_assoc]
theorem c39 (f : Bool) (l : List P2) (hl : l.length ≤ 4000000) : E cx (Key.fn 39) [.agg [vbool f, .list 0 2 (prs l)]] [] = RJ2 (encR f l) := by
  refine (f39 _ _).trans ((goB (c41 f l hl) _).trans ?_)
  unfold encR
  cases hr : rightT l with
  | false => rfl
  | true =>
    have hll := rightT_len hr
    have g := loop39 f l hll l 0 [fB f] rfl rfl (by omega)
    cases f with
    | true =>
      show (Option.bind (E cx (Key.loop 39 [true, true, true, true, true, false, true, false]) [vs (mk [fB true]), vi ((0 : Nat) : Int), .ptr 0 0 0 0] [⟨.box, 36, 2, 0, [[vbool true, .list 0 2 (prs l)]]⟩]) _) = _
      rw [g]
      rfl
    | false =>
      show (Option.bind (E cx (Key.loop 39 [true, true, true, true, true, false, true, false]) [vs (mk [fB false]), vi ((0 : Nat) : Int), .ptr 0 0 0 0] [⟨.box, 36, 2, 0, [[vbool false, .list 0 2 (prs l)]]⟩]) _) = _
      rw [g]
      rfl
end
/- Tokens: Decode, and the document's. -/
section
def db : Nat → B → List P2
  | 0, _ => []
  | d + 1, l => (val (l.take 8), val ((l.drop 8).take 8)) :: db d (l.drop 16)
theorem db_len : ∀ (d : Nat) (l : B), (db d l).length = d
  | 0, _ => rfl
  | d + 1, l => by simp [db, db_len d]
abbrev tok0 : Bool × List P2 × Int := (false, [], 2)
noncomputable def decP2 (f : Bool) (q : List P2) : Bool × List P2 × Int := if srtB q then if q.length > 2048 then (false, [], 4) else (f, q, 0) else tok0
noncomputable def decR : B → Bool × List P2 × Int
  | [] => tok0
  | b :: r => if r.length % 16 = 0 then if b.toNat > 1 then tok0 else decP2 (decide (b.toNat = 1)) (db (r.length / 16) r) else tok0
theorem decR_cons (b : UInt8) (r : B) : decR (b :: r) = if r.length % 16 = 0 then if b.toNat > 1 then tok0 else decP2 (decide (b.toNat = 1)) (db (r.length / 16) r) else tok0 := rfl
theorem take8 {l : B} (h : 8 ≤ l.length) : takeR l 8 = (val (l.take 8), l.drop 8, 0) := takeR_3 (by omega) (by omega)
theorem own115 {l : B} (h : 8 ≤ l.length) : E cx (Key.own 115) [.ptr 0 0 0 0] [⟨.box, 9, 1, 0, [[vs (mk l)]]⟩] = some (Out.ret (vu (val (l.take 8))), [⟨.box, 9, 1, 0, [[vs (mk (l.drop 8))]]⟩]) := by
  refine (f49_l0_c1 _).trans ?_
  rw [c116, take8 h]
  rfl
theorem loop49 (b : Bool) : ∀ (d : Nat) (l : B) (o : List P2), l.length = 16 * d → o.length + d ≤ 1000000 →
    E cx (Key.loop 49 [true, true, true, true, true, false, false]) [.ptr 0 0 0 0, .ptr 1 0 0 0, .func (Fn.func 115) [] [.ptr 1 0 0 0]] [⟨.box, 36, 2, 0, [[vbool b, .arr 2 2 0 o.length]]⟩, ⟨.box, 9, 1, 0, [[vs (mk l)]]⟩, ⟨.arr, 80, 2, 2, prs o⟩] =
      some (Out.jump (.exit 0) [], [⟨.box, 36, 2, 0, [[vbool b, .arr 2 2 0 (o ++ db d l).length]]⟩, ⟨.box, 9, 1, 0, [[vs (mk [])]]⟩, ⟨.arr, 80, 2, 2, prs (o ++ db d l)⟩])
  | 0, l, o, hl, ho => by
    obtain rfl : l = [] := List.length_eq_zero_iff.1 (by omega)
    refine (f49_l0 _ _ _ _).trans ((goQn rfl _ _).trans ?_)
    simp [db]
  | d + 1, l, o, hl, ho => by
    have h8 : 8 ≤ l.length := by omega
    have h8' : 8 ≤ (l.drop 8).length := by rw [List.length_drop]; omega
    refine (f49_l0 _ _ _ _).trans ((goQt (b := []) (fun h => by rw [h] at hl; simp at hl) _ _).trans ?_)
    rw [own115 h8]
    show (Option.bind (E cx (Key.own 115) [.ptr 0 0 0 0] [⟨.box, 9, 1, 0, [[vs (mk (l.drop 8))]]⟩]) _) = _
    rw [own115 h8', List.drop_drop]
    show (Option.bind (chk o.length (List.length (prs o))) fun _ => if Nat.mul (Nat.add (List.length (prs o)) 1) 16 ≤ 140737488355328 then
      E cx (Key.loop 49 [true, true, true, true, true, false, false]) [.ptr 0 0 0 0, .ptr 1 0 0 0, .func (Fn.func 115) [] [.ptr 1 0 0 0]] [⟨.box, 36, 2, 0, [[vbool b, .arr 2 2 0 (Nat.add (List.length (prs o)) 1)]]⟩, ⟨.box, 9, 1, 0, [[vs (mk (l.drop (8 + 8)))]]⟩, ⟨.arr, 80, 2, 2, prs o ++ prs [(val (l.take 8), val ((l.drop 8).take 8))]⟩] else none) = _
    rw [prs_len, prs_app]
    refine (goCk rfl _).trans ((goY (by show (o.length + 1) * 16 ≤ _; omega) _ _).trans ?_)
    have e : Nat.add o.length 1 = (o ++ [(val (l.take 8), val ((l.drop 8).take 8))]).length := by simp
    rw [e]
    refine (loop49 b d (l.drop 16) (o ++ [(val (l.take 8), val ((l.drop 8).take 8))]) (by rw [List.length_drop]; omega) (by simp; omega)).trans ?_
    rw [List.append_assoc]
    rfl
theorem view0 {q : List P2} : List.drop 0 (List.take (Nat.add 0 q.length) (prs q)) = prs q := by
  rw [List.drop_zero, show Nat.add 0 q.length = q.length from Nat.zero_add _, ← prs_len q, List.take_length]
theorem dec_tail (f : Bool) (q : List P2) (hq : q.length ≤ 1000000) {x : Option (Out × Heap)} (hx : x = rb (srtB q)) :
    RTok' (Option.bind (chkLe (Nat.add 0 q.length) (List.length (prs q))) fun _ => Option.bind x fun r => (ret1 r).bind fun v => v.bool?.bind fun b =>
      bif b then bif decide ((q.length : Int) > 2048) then some (Out.ret (.tuple [.agg [vbool false, .val (.slice none 0 0)], vi 4]), []) else
        Option.bind (chkLe (Nat.add 0 q.length) (List.length (prs q))) fun _ => some (Out.ret (.tuple [.agg [vbool f, .list 0 2 (List.drop 0 (List.take (Nat.add 0 q.length) (prs q)))], vi 0]), [])
      else some (Out.ret (.tuple [.agg [vbool false, .val (.slice none 0 0)], vi 2]), [])) (decP2 f q) := by
  unfold decP2
  rw [goLe (by rw [prs_len]; exact Nat.le_of_eq (Nat.zero_add _)), goB hx]
  cases hs : srtB q with
  | false => exact ⟨_, rfl, rfl⟩
  | true =>
    simp only [cond_true, if_true]
    by_cases hl : q.length > 2048
    · rw [if_pos hl]
      exact ⟨_, goD (by omega) _ _, rfl⟩
    · rw [if_neg hl]
      refine ⟨.list 0 2 (prs q), (goDn (by omega) _ _).trans ?_, rfl⟩
      rw [goLe (by rw [prs_len]; exact Nat.le_of_eq (Nat.zero_add _)), view0]
theorem tmod16 (n : Nat) : Int.tmod ((n : Nat) : Int) 16 = ((n % 16 : Nat) : Int) := by
  rw [Int.tmod_eq_emod_of_nonneg (Int.natCast_nonneg _)]; omega
theorem RTok'_of {x : Option (Out × Heap)} {y : Option (Out × Heap)} {r : Bool × List P2 × Int} (h : x = y) (k : RTok' y r) : RTok' x r := by rw [h]; exact k
theorem c49 (l : B) (hl : l.length ≤ 1000000) : RTok' (E cx (Key.fn 49) [vs (mk l)] []) (decR l) := by
  refine RTok'_of (f49 (mk l)) ?_
  have hm : Int.tmod (((ByteArray.size (mk l) : Nat) : Int)) 16 = ((l.length % 16 : Nat) : Int) := tmod16 l.length
  rw [hm]
  cases l with
  | nil => exact ⟨_, goEn (by decide) _ _, rfl⟩
  | cons b r =>
    have hlen : (b :: r).length = r.length + 1 := rfl
    by_cases h16 : r.length % 16 = 0
    · refine RTok'_of ((goE (by rw [hlen]; omega) _ _).trans ((goG (i := 0) (n := 0) rfl rfl _))) ?_
      rw [decR_cons]
      rw [if_pos h16]
      by_cases hb : b.toNat > 1
      · rw [if_pos hb]
        exact ⟨_, goD (by omega) _ _, rfl⟩
      · rw [if_neg hb]
        refine RTok'_of ((goDn (by omega) _ _).trans ((goG (i := 0) (n := 0) rfl rfl _))) ?_
        have ext : ByteArray.extract (mk (b :: r)) 1 (ByteArray.size (mk (b :: r))) = mk r := by
          rw [ext_mk]
          show mk (((b :: r).take (b :: r).length).drop 1) = _
          rw [List.take_length]
          rfl
        have hdl := db_len (r.length / 16) r
        by_cases h1 : b.toNat = 1
        · rw [decide_eq_true h1]
          refine RTok'_of (goD (by omega) _ _) ?_
          refine RTok'_of (goY (by show (1 : Int) ≤ ((r.length + 1 : Nat) : Int); omega) _ _) ?_
          rw [ext]
          have g := loop49 true (r.length / 16) r [] (by omega) (by simp; omega)
          show RTok' (Option.bind (E cx (Key.loop 49 [true, true, true, true, true, false, false]) [.ptr 0 0 0 0, .ptr 1 0 0 0, .func (Fn.func 115) [] [.ptr 1 0 0 0]] [⟨.box, 36, 2, 0, [[vbool true, .arr 2 2 0 ([] : List P2).length]]⟩, ⟨.box, 9, 1, 0, [[vs (mk r)]]⟩, ⟨.arr, 80, 2, 2, prs []⟩]) _) _
          rw [g]
          simp only [List.nil_append]
          refine dec_tail true _ (by omega) ?_
          rw [view0]
          exact c108 _ (by omega)
        · rw [decide_eq_false h1]
          refine RTok'_of (goDn (by omega) _ _) ?_
          refine RTok'_of (goY (by show (1 : Int) ≤ ((r.length + 1 : Nat) : Int); omega) _ _) ?_
          rw [ext]
          have g := loop49 false (r.length / 16) r [] (by omega) (by simp; omega)
          show RTok' (Option.bind (E cx (Key.loop 49 [true, true, true, true, true, false, false]) [.ptr 0 0 0 0, .ptr 1 0 0 0, .func (Fn.func 115) [] [.ptr 1 0 0 0]] [⟨.box, 36, 2, 0, [[vbool false, .arr 2 2 0 ([] : List P2).length]]⟩, ⟨.box, 9, 1, 0, [[vs (mk r)]]⟩, ⟨.arr, 80, 2, 2, prs []⟩]) _) _
          rw [g]
          simp only [List.nil_append]
          refine dec_tail false _ (by omega) ?_
          rw [view0]
          exact c108 _ (by omega)
    · rw [decR_cons]
      rw [if_neg h16]
      exact ⟨_, goEn (by rw [hlen]; omega) _ _, rfl⟩
theorem loop50 (b1 b : Bool) (w : B) (hw : w.length ≤ 1000000) : ∀ (d i : Nat) (o : List P2), i + 16 * d = w.length → o.length + d ≤ 1000000 →
    E cx (Key.loop 50 [true, true, true, false, true, false]) [vi i, vs (mk w), .ptr 0 0 0 0, .ptr 1 0 0 0] [⟨.box, 36, 2, 0, [[vbool b1, .val (.slice none 0 0)]]⟩, ⟨.box, 36, 2, 0, [[vbool b, .arr 2 2 0 o.length]]⟩, ⟨.arr, 80, 2, 2, prs o⟩] =
      some (Out.jump (.exit 0) [vi w.length], [⟨.box, 36, 2, 0, [[vbool b1, .val (.slice none 0 0)]]⟩, ⟨.box, 36, 2, 0, [[vbool b, .arr 2 2 0 (o ++ db d (w.drop i)).length]]⟩, ⟨.arr, 80, 2, 2, prs (o ++ db d (w.drop i))⟩])
  | 0, i, o, hl, ho => by
    refine (f50_l0 _ _ _ _ _ _).trans ((goDn (by show ¬ (i : Int) < (w.length : Int); omega) _ _).trans ?_)
    rw [show i = w.length by omega]
    simp [db]
  | d + 1, i, o, hl, ho => by
    have hs : ((ByteArray.size (mk w) : Nat) : Int) = (w.length : Int) := rfl
    have hs' : ByteArray.size (mk w) = w.length := rfl
    have h8 : 8 ≤ (w.drop i).length := by rw [List.length_drop]; omega
    have h8' : 8 ≤ (w.drop (i + 8)).length := by rw [List.length_drop]; omega
    have w8 : IntKind.wrap .i64 (Int.add (i : Int) 8) = ((i + 8 : Nat) : Int) := wr_add (b := 8) (by omega) (by omega)
    have w16 : IntKind.wrap .i64 (Int.add (i : Int) 16) = ((i + 16 : Nat) : Int) := wr_add (b := 16) (by omega) (by omega)
    have ex : ∀ j : Nat, ByteArray.extract (mk w) (Int.toNat (j : Int)) (ByteArray.size (mk w)) = mk (w.drop j) := fun j => by
      rw [ext_mk, hs', List.take_length, Int.toNat_natCast]
    refine (f50_l0 _ _ _ _ _ _).trans ((goD (by rw [hs]; omega) _ _).trans ((goY (by omega) _ _).trans ((goY (by rw [hs]; omega) _ _).trans ?_)))
    rw [ex i, c117, take8 h8, w8]
    refine (goTk rfl (fun (n : Int) _ _ => _)).trans ?_
    refine (goY (by omega) _ _).trans ((goY (by rw [hs]; omega) _ _).trans ?_)
    rw [ex (i + 8), c117, take8 h8', w16]
    refine (goTk rfl (fun (n : Int) _ _ => _)).trans ?_
    show (Option.bind (chk o.length (List.length (prs o))) fun _ => if Nat.mul (Nat.add (List.length (prs o)) 1) 16 ≤ 140737488355328 then
      E cx (Key.loop 50 [true, true, true, false, true, false]) [vi (i + 16 : Nat), vs (mk w), .ptr 0 0 0 0, .ptr 1 0 0 0] [⟨.box, 36, 2, 0, [[vbool b1, .val (.slice none 0 0)]]⟩, ⟨.box, 36, 2, 0, [[vbool b, .arr 2 2 0 (Nat.add (List.length (prs o)) 1)]]⟩, ⟨.arr, 80, 2, 2, prs o ++ prs [(val ((w.drop i).take 8), val ((w.drop (i + 8)).take 8))]⟩] else none) = _
    rw [prs_len, prs_app]
    refine (goCk rfl _).trans ((goY (by show (o.length + 1) * 16 ≤ _; omega) _ _).trans ?_)
    have e : Nat.add o.length 1 = (o ++ [(val ((w.drop i).take 8), val ((w.drop (i + 8)).take 8))]).length := by simp
    rw [e]
    refine (loop50 b1 b w hw d (i + 16) (o ++ [(val ((w.drop i).take 8), val ((w.drop (i + 8)).take 8))]) (by omega) (by simp; omega)).trans ?_
    have e3 : db (d + 1) (w.drop i) = [(val ((w.drop i).take 8), val ((w.drop (i + 8)).take 8))] ++ db d (w.drop (i + 16)) := by simp [db, List.drop_drop]
    rw [List.append_assoc, e3]
theorem c50 (l : B) (hl : l.length ≤ 1000000) : RTok' (E cx (Key.fn 50) [vs (mk l)] []) (decR l) := by
  refine RTok'_of (f50 (mk l)) ?_
  have hm : Int.tmod (((ByteArray.size (mk l) : Nat) : Int)) 16 = ((l.length % 16 : Nat) : Int) := tmod16 l.length
  rw [hm]
  cases l with
  | nil => exact ⟨_, goEn (by decide) _ _, rfl⟩
  | cons b r =>
    have hlen : (b :: r).length = r.length + 1 := rfl
    by_cases h16 : r.length % 16 = 0
    · refine RTok'_of ((goE (by rw [hlen]; omega) _ _).trans ((goG (i := 0) (n := 0) rfl rfl _))) ?_
      rw [decR_cons]
      rw [if_pos h16]
      by_cases hb : b.toNat > 1
      · rw [if_pos hb]
        exact ⟨_, goD (by omega) _ _, rfl⟩
      · rw [if_neg hb]
        refine RTok'_of ((goDn (by omega) _ _).trans ((goG (i := 0) (n := 0) rfl rfl _))) ?_
        have hdl := db_len (r.length / 16) r
        by_cases h1 : b.toNat = 1
        · rw [decide_eq_true h1]
          refine RTok'_of (goD (by omega) _ _) ?_
          have g := loop50 false true (b :: r) hl (r.length / 16) 1 [] (by rw [hlen]; omega) (by simp; omega)
          show RTok' (Option.bind (E cx (Key.loop 50 [true, true, true, false, true, false]) [vi ((1 : Nat) : Int), vs (mk (b :: r)), .ptr 0 0 0 0, .ptr 1 0 0 0] [⟨.box, 36, 2, 0, [[vbool false, .val (.slice none 0 0)]]⟩, ⟨.box, 36, 2, 0, [[vbool true, .arr 2 2 0 ([] : List P2).length]]⟩, ⟨.arr, 80, 2, 2, prs []⟩]) _) _
          rw [g]
          simp only [List.nil_append, List.drop_succ_cons, List.drop_zero]
          refine dec_tail true _ (by omega) ?_
          rw [view0]
          exact c110 _ (by omega)
        · rw [decide_eq_false h1]
          refine RTok'_of (goDn (by omega) _ _) ?_
          have g := loop50 false false (b :: r) hl (r.length / 16) 1 [] (by rw [hlen]; omega) (by simp; omega)
          show RTok' (Option.bind (E cx (Key.loop 50 [true, true, true, false, true, false]) [vi ((1 : Nat) : Int), vs (mk (b :: r)), .ptr 0 0 0 0, .ptr 1 0 0 0] [⟨.box, 36, 2, 0, [[vbool false, .val (.slice none 0 0)]]⟩, ⟨.box, 36, 2, 0, [[vbool false, .arr 2 2 0 ([] : List P2).length]]⟩, ⟨.arr, 80, 2, 2, prs []⟩]) _) _
          rw [g]
          simp only [List.nil_append, List.drop_succ_cons, List.drop_zero]
          refine dec_tail false _ (by omega) ?_
          rw [view0]
          exact c110 _ (by omega)
    · rw [decR_cons]
      rw [if_neg h16]
      exact ⟨_, goEn (by rw [hlen]; omega) _ _, rfl⟩
end
/- Tokens: Keys, the document's; Words; One. -/
section
def pvAt (l : List P2) (i : Nat) : Option P2 := if i = 0 then none else l[i - 1]?
def keysGo (r : Nat) : Option P2 → List P2 → Bool
  | _, [] => true
  | pv, p :: rest => decide (p.2 = r) && (!decide (pv = some p) && keysGo r (some p) rest)
def keysL (l : List P2) : List Nat := l.map (·.1)
noncomputable def keysR (l : List P2) (r : Nat) : List Nat × Bool := if rightT l && keysGo r none l then (keysL l, true) else ([], false)
abbrev rowsN (l : List Nat) : List (List AV) := l.map fun (k : Nat) => [vu (k : Int)]
theorem rowsN_len (l : List Nat) : (rowsN l).length = l.length := by simp [rowsN]
theorem rowsN_app (a b : List Nat) : rowsN a ++ rowsN b = rowsN (a ++ b) := by simp [rowsN]
def RK (x : Option (Out × Heap)) (r : List Nat × Bool) : Prop := ∃ a, x = some (Out.ret (.tuple [a, vbool r.2]), []) ∧ a.list? 1 = some (rowsN r.1)
section
variable {ρ : Type} {x : Option (Out × Heap)}
theorem goKy {r : List Nat × Bool} (h : RK x r) (k : List (List AV) → Bool → AV × List AV → Option ρ) :
    (x.bind fun r => (ret1 r).bind fun v => v.tup?.bind fun vs => (uncons? vs).bind fun p => (AV.list? 1 p.fst).bind fun es => (uncons? p.snd).bind fun q => (AV.bool? q.fst).bind fun b => k es b q) = k (rowsN r.1) r.2 (vbool r.2, []) := by
  obtain ⟨a, rfl, ha⟩ := h
  show (Option.bind (AV.list? 1 a) fun es => k es r.2 (vbool r.2, [])) = _
  rw [ha]
  rfl
theorem goRn {l : List Nat} {i : Int} {n : Nat} {w : Nat} (hn : i = n) (h : l[n]? = some w) (k : Int → Option ρ) :
    ((rowsN l)[Int.toNat i]?.bind fun cs => (uncons? cs).bind fun p1 => (AV.int? .u64 p1.fst).bind fun a => (nil? p1.snd).bind fun _ => k a) = k w := by
  subst hn
  have : (rowsN l)[n]? = some [vu w] := by simp [rowsN, h]
  rw [Int.toNat_natCast, this]
  rfl
end
theorem pv_succ {l : List P2} {i : Nat} : pvAt l (i + 1) = l[i]? := by simp [pvAt]
theorem loop42 (b0 b : Bool) (r : Nat) (l : List P2) (hl : l.length ≤ 2048) : ∀ (rest : List P2) (i : Nat) (o : List Nat), l.drop i = rest → i + rest.length = l.length → o.length = i →
    (keysGo r (pvAt l i) rest = true ∧ E cx (Key.loop 42 [true, true, false, true, false]) [.arr 1 1 0 o.length, vbool b0, vi i, vu r, .ptr 0 0 0 0, .list 0 2 (prs l), vi l.length] [⟨.box, 36, 2, 0, [[vbool b, .list 0 2 (prs l)]]⟩, ⟨.arr, 26, 1, 1, rowsN o⟩] =
      some (Out.jump (.exit 0) [.arr 1 1 0 (o ++ keysL rest).length, vbool b0, vi l.length], [⟨.box, 36, 2, 0, [[vbool b, .list 0 2 (prs l)]]⟩, ⟨.arr, 26, 1, 1, rowsN (o ++ keysL rest)⟩])) ∨
    (keysGo r (pvAt l i) rest = false ∧ ∃ (k : Nat) (rs : List (List AV)), E cx (Key.loop 42 [true, true, false, true, false]) [.arr 1 1 0 o.length, vbool b0, vi i, vu r, .ptr 0 0 0 0, .list 0 2 (prs l), vi l.length] [⟨.box, 36, 2, 0, [[vbool b, .list 0 2 (prs l)]]⟩, ⟨.arr, 26, 1, 1, rowsN o⟩] =
      some (Out.jump .ret [.val (.slice none 0 0), vbool false, vi k], [⟨.box, 36, 2, 0, [[vbool b, .list 0 2 (prs l)]]⟩, ⟨.arr, 26, 1, 1, rs⟩]))
  | [], i, o, hd, hi, ho => by
    simp only [List.length_nil, Nat.add_zero] at hi
    refine .inl ⟨rfl, (f42_l0 _ _ _ _ _ _ _ _ _).trans ((goDn (by omega) _ _).trans ?_)⟩
    simp [keysL, hi]
  | p :: rest, i, o, hd, hi, ho => by
    obtain ⟨hp, hd', hlt⟩ := drop_cons' hd
    simp only [List.length_cons] at hi
    have hgo : keysGo r (pvAt l i) (p :: rest) = (decide (p.2 = r) && (!decide (pvAt l i = some p) && keysGo r (some p) rest)) := rfl
    have tl : ∀ {R}, E cx (Key.loop 42 [true, true, false, true, false]) [.arr 1 1 0 (o ++ [p.1]).length, vbool b0, vi (i + 1 : Nat), vu r, .ptr 0 0 0 0, .list 0 2 (prs l), vi l.length] [⟨.box, 36, 2, 0, [[vbool b, .list 0 2 (prs l)]]⟩, ⟨.arr, 26, 1, 1, rowsN (o ++ [p.1])⟩] = R →
        (Option.bind (chk o.length (List.length (rowsN o))) fun _ => if Nat.mul (Nat.add (List.length (rowsN o)) 1) 8 ≤ 140737488355328 then
          E cx (Key.loop 42 [true, true, false, true, false]) [.arr 1 1 0 (Nat.add (List.length (rowsN o)) 1), vbool b0, vi (IntKind.wrap .i64 (Int.add (i : Int) 1)), vu r, .ptr 0 0 0 0, .list 0 2 (prs l), vi l.length] [⟨.box, 36, 2, 0, [[vbool b, .list 0 2 (prs l)]]⟩, ⟨.arr, 26, 1, 1, rowsN o ++ rowsN [p.1]⟩] else none) = R := fun {R} h => by
      rw [rowsN_len, rowsN_app, wS (by omega)]
      refine (goCk rfl _).trans ((goY (by show (o.length + 1) * 8 ≤ _; omega) _ _).trans ?_)
      have e : Nat.add o.length 1 = (o ++ [p.1]).length := by simp
      rw [e]
      exact h
    have go : ∀ {R}, (bif !(decide (p.2 = r) && !decide (pvAt l i = some p)) then some (Out.jump .ret [.val (.slice none 0 0), vbool false, vi i], [⟨.box, 36, 2, 0, [[vbool b, .list 0 2 (prs l)]]⟩, ⟨.arr, 26, 1, 1, rowsN o⟩]) else
        E cx (Key.loop 42 [true, true, false, true, false]) [.arr 1 1 0 (o ++ [p.1]).length, vbool b0, vi (i + 1 : Nat), vu r, .ptr 0 0 0 0, .list 0 2 (prs l), vi l.length] [⟨.box, 36, 2, 0, [[vbool b, .list 0 2 (prs l)]]⟩, ⟨.arr, 26, 1, 1, rowsN (o ++ [p.1])⟩]) = R →
        E cx (Key.loop 42 [true, true, false, true, false]) [.arr 1 1 0 o.length, vbool b0, vi i, vu r, .ptr 0 0 0 0, .list 0 2 (prs l), vi l.length] [⟨.box, 36, 2, 0, [[vbool b, .list 0 2 (prs l)]]⟩, ⟨.arr, 26, 1, 1, rowsN o⟩] = R := fun {R} h => by
      refine (f42_l0 _ _ _ _ _ _ _ _ _).trans ((goD (by omega) _ _).trans ((goY (by omega) _ _).trans ((goPr (n := i) rfl hp _).trans ?_)))
      by_cases h1 : p.2 = r
      · refine (goE (by omega) _ _).trans ?_
        rw [decide_eq_true h1] at h
        cases i with
        | zero =>
          refine (goDn (by omega) _ _).trans ?_
          exact tl h
        | succ j =>
          have hq : l[j]? = some l[j] := List.getElem?_eq_getElem (by omega)
          refine (goD (by omega) _ _).trans ?_
          rw [wP (by omega)]
          refine (goY (by omega) _ _).trans ((goPr (n := j) rfl hq _).trans ?_)
          rw [pairEq]
          rw [pv_succ, hq] at h
          by_cases h2 : l[j] = p
          · rw [decide_eq_true h2]
            rw [decide_eq_true (show some l[j] = some p by rw [h2])] at h
            exact h
          · rw [decide_eq_false h2]
            rw [decide_eq_false (fun h3 : some l[j] = some p => h2 (Option.some.inj h3))] at h
            exact tl h
      · refine (goEn (by omega) _ _).trans ?_
        rw [decide_eq_false h1] at h
        exact h
    cases hc : (decide (p.2 = r) && !decide (pvAt l i = some p)) with
    | false =>
      rw [hc] at go
      refine .inr ⟨?_, i, _, go rfl⟩
      rw [hgo, ← Bool.and_assoc, hc]
      rfl
    | true =>
      rw [hc] at go
      rw [hgo, ← Bool.and_assoc, hc, Bool.true_and]
      rcases loop42 b0 b r l hl rest (i + 1) (o ++ [p.1]) hd' (by omega) (by simp; omega) with ⟨g1, g2⟩ | ⟨g1, k, rs, g2⟩
      · rw [pv_succ, hp] at g1
        refine .inl ⟨g1, go (g2.trans ?_)⟩
        have e : o ++ [p.1] ++ keysL rest = o ++ keysL (p :: rest) := by simp [keysL]
        rw [e]
      · rw [pv_succ, hp] at g1
        exact .inr ⟨g1, k, rs, go g2⟩
theorem RK_of {x y : Option (Out × Heap)} {r : List Nat × Bool} (h : x = y) (k : RK y r) : RK x r := by rw [h]; exact k
theorem viewN {q : List Nat} : List.drop 0 (List.take (Nat.add 0 q.length) (rowsN q)) = rowsN q := by
  rw [List.drop_zero, show Nat.add 0 q.length = q.length from Nat.zero_add _, ← rowsN_len q, List.take_length]
theorem c42 (f : Bool) (l : List P2) (r : Nat) (hl : l.length ≤ 4000000) : RK (E cx (Key.fn 42) [.agg [vbool f, .list 0 2 (prs l)], vu r] []) (keysR l r) := by
  refine RK_of ((f42 _ _ _).trans (goB (c40 f l hl) _)) ?_
  unfold keysR
  cases hr : rightT l with
  | false => exact ⟨_, rfl, rfl⟩
  | true =>
    have hll := rightT_len hr
    rw [prs_len]
    show RK (Option.bind (E cx (Key.loop 42 [true, true, false, true, false]) [.arr 1 1 0 ([] : List Nat).length, vbool false, vi ((0 : Nat) : Int), vu r, .ptr 0 0 0 0, .list 0 2 (prs l), vi l.length] [⟨.box, 36, 2, 0, [[vbool f, .list 0 2 (prs l)]]⟩, ⟨.arr, 26, 1, 1, rowsN []⟩]) _) _
    rcases loop42 false f r l hll l 0 [] rfl (by omega) rfl with ⟨g1, g2⟩ | ⟨g1, k, rs, g2⟩
    · have g1' : keysGo r none l = true := g1
      rw [g2, g1']
      refine ⟨.list 0 1 (rowsN (keysL l)), ?_, rfl⟩
      simp only [List.nil_append]
      show (Option.bind (chkLe (Nat.add 0 (keysL l).length) (List.length (rowsN (keysL l)))) fun _ => some (Out.ret (.tuple [.list 0 1 (List.drop 0 (List.take (Nat.add 0 (keysL l).length) (rowsN (keysL l)))), vbool true]), ([] : Heap))) = _
      rw [goLe (by rw [rowsN_len]; exact Nat.le_of_eq (Nat.zero_add _)), viewN]
      rfl
    · have g1' : keysGo r none l = false := g1
      rw [g2, g1']
      exact ⟨_, rfl, rfl⟩
theorem loop44 (b0 : Bool) (a b : List Nat) (hab : a.length = b.length) (hl : a.length ≤ 4000000) : ∀ (d i : Nat), i + d = a.length →
    (a.drop i = b.drop i ∧ E cx (Key.loop 44 [true, true, false, true, false]) [vbool b0, vi i, .list 0 1 (rowsN a), .list 0 1 (rowsN b)] [] = some (Out.jump (.exit 0) [vbool b0, vi a.length], [])) ∨
    (a.drop i ≠ b.drop i ∧ ∃ k : Nat, E cx (Key.loop 44 [true, true, false, true, false]) [vbool b0, vi i, .list 0 1 (rowsN a), .list 0 1 (rowsN b)] [] = some (Out.jump .ret [vbool false, vi k], []))
  | 0, i, hd => by
    refine .inl ⟨by rw [List.drop_eq_nil_of_le (by omega), List.drop_eq_nil_of_le (by omega)], (f44_l0 _ _ _ _).trans ((goDn (by rw [rowsN_len]; omega) _ _).trans (by rw [show i = a.length by omega]))⟩
  | d + 1, i, hd => by
    have hp : a[i]? = some a[i] := List.getElem?_eq_getElem (by omega)
    have hq : b[i]? = some b[i] := List.getElem?_eq_getElem (by omega)
    have ha : a.drop i = a[i] :: a.drop (i + 1) := List.drop_eq_getElem_cons (by omega)
    have hb : b.drop i = b[i] :: b.drop (i + 1) := List.drop_eq_getElem_cons (by omega)
    have go : ∀ {R}, (bif (a[i] : Int) != (b[i] : Int) then some (Out.jump .ret [vbool false, vi i], []) else
        E cx (Key.loop 44 [true, true, false, true, false]) [vbool b0, vi (i + 1 : Nat), .list 0 1 (rowsN a), .list 0 1 (rowsN b)] []) = R →
        E cx (Key.loop 44 [true, true, false, true, false]) [vbool b0, vi i, .list 0 1 (rowsN a), .list 0 1 (rowsN b)] [] = R := fun {R} h => by
      refine (f44_l0 _ _ _ _).trans ((goD (by rw [rowsN_len]; omega) _ _).trans ((goY (by omega) _ _).trans ((goRn (n := i) rfl hp _).trans ((goY (by omega) _ _).trans ((goRn (n := i) rfl hq _).trans ?_)))))
      rw [wS (by omega)]
      exact h
    rw [ha, hb]
    by_cases he : a[i] = b[i]
    · rcases loop44 b0 a b hab hl d (i + 1) (by omega) with ⟨g1, g2⟩ | ⟨g1, k, g2⟩
      · exact .inl ⟨by rw [he, g1], go ((goE (by omega) _ _).trans g2)⟩
      · exact .inr ⟨fun h => g1 (List.cons.inj h).2, k, go ((goE (by omega) _ _).trans g2)⟩
    · exact .inr ⟨fun h => he (List.cons.inj h).1, i, go (goEn (by omega) _ _)⟩
theorem c44 (a b : List Nat) (hl : a.length ≤ 4000000) : E cx (Key.fn 44) [.list 0 1 (rowsN a), .list 0 1 (rowsN b)] [] = rb (decide (a = b)) := by
  refine (f44 _ _).trans ?_
  rw [rowsN_len, rowsN_len]
  by_cases hab : a.length = b.length
  · refine (goE (by omega) _ _).trans ?_
    show (Option.bind (E cx (Key.loop 44 [true, true, false, true, false]) [vbool false, vi ((0 : Nat) : Int), .list 0 1 (rowsN a), .list 0 1 (rowsN b)] []) _) = _
    rcases loop44 false a b hab hl a.length 0 (by omega) with ⟨g1, g2⟩ | ⟨g1, k, g2⟩
    · rw [g2, decide_eq_true (show a = b from g1)]
      rfl
    · rw [g2, decide_eq_false (show ¬ a = b from g1)]
      rfl
  · rw [decide_eq_false fun h => hab (by rw [h])]
    exact goEn (by omega) _ _
theorem c51 (a b : Nat) : E cx (Key.fn 51) [vu a, vu b] [] = some (Out.ret (.agg [vbool false, .list 0 2 (prs [(a, b)])]), []) := f51 _ _
theorem c52 (a b : Nat) : E cx (Key.fn 52) [vu a, vu b] [] = some (Out.ret (.agg [vbool false, .list 0 2 (prs [(a, b)])]), []) := f52 _ _
end
/- Tokens: the document's Keys. -/
section
theorem loop43 (b0 b : Bool) (r : Nat) (l : List P2) (hl : l.length ≤ 2048) : ∀ (rest : List P2) (i : Nat) (o : List Nat), l.drop i = rest → i + rest.length = l.length → o.length = i → (∀ q, pvAt l i = some q → q.2 = r) →
    (keysGo r (pvAt l i) rest = true ∧ E cx (Key.loop 43 [true, true, true, true, false, true, false]) [.val (.slice none 0 0), vbool b0, .arr 1 1 0 o.length, vi i, vu r, .ptr 0 0 0 0] [⟨.box, 36, 2, 0, [[vbool b, .list 0 2 (prs l)]]⟩, ⟨.arr, 26, 1, 1, rowsN o⟩] =
      some (Out.jump (.exit 0) [.val (.slice none 0 0), vbool b0, .arr 1 1 0 (o ++ keysL rest).length, vi l.length], [⟨.box, 36, 2, 0, [[vbool b, .list 0 2 (prs l)]]⟩, ⟨.arr, 26, 1, 1, rowsN (o ++ keysL rest)⟩])) ∨
    (keysGo r (pvAt l i) rest = false ∧ ∃ (k n : Nat) (rs : List (List AV)), E cx (Key.loop 43 [true, true, true, true, false, true, false]) [.val (.slice none 0 0), vbool b0, .arr 1 1 0 o.length, vi i, vu r, .ptr 0 0 0 0] [⟨.box, 36, 2, 0, [[vbool b, .list 0 2 (prs l)]]⟩, ⟨.arr, 26, 1, 1, rowsN o⟩] =
      some (Out.jump .ret [.val (.slice none 0 0), vbool false, .arr 1 1 0 n, vi k], [⟨.box, 36, 2, 0, [[vbool b, .list 0 2 (prs l)]]⟩, ⟨.arr, 26, 1, 1, rs⟩]))
  | [], i, o, hd, hi, ho, hv => by
    simp only [List.length_nil, Nat.add_zero] at hi
    refine .inl ⟨rfl, (f43_l0 _ _ _ _ _ _ _).trans ((goDn (by rw [prs_len]; omega) _ _).trans ?_)⟩
    simp [keysL, hi]
  | p :: rest, i, o, hd, hi, ho, hv => by
    obtain ⟨hp, hd', hlt⟩ := drop_cons' hd
    simp only [List.length_cons] at hi
    have hgo : keysGo r (pvAt l i) (p :: rest) = (decide (p.2 = r) && (!decide (pvAt l i = some p) && keysGo r (some p) rest)) := rfl
    have tl : ∀ {R}, E cx (Key.loop 43 [true, true, true, true, false, true, false]) [.val (.slice none 0 0), vbool b0, .arr 1 1 0 (o ++ [p.1]).length, vi (i + 1 : Nat), vu r, .ptr 0 0 0 0] [⟨.box, 36, 2, 0, [[vbool b, .list 0 2 (prs l)]]⟩, ⟨.arr, 26, 1, 1, rowsN (o ++ [p.1])⟩] = R →
        (Option.bind (chk o.length (List.length (rowsN o))) fun _ => if Nat.mul (Nat.add (List.length (rowsN o)) 1) 8 ≤ 140737488355328 then
          E cx (Key.loop 43 [true, true, true, true, false, true, false]) [.val (.slice none 0 0), vbool b0, .arr 1 1 0 (Nat.add (List.length (rowsN o)) 1), vi (IntKind.wrap .i64 (Int.add (i : Int) 1)), vu r, .ptr 0 0 0 0] [⟨.box, 36, 2, 0, [[vbool b, .list 0 2 (prs l)]]⟩, ⟨.arr, 26, 1, 1, rowsN o ++ rowsN [p.1]⟩] else none) = R := fun {R} h => by
      rw [rowsN_len, rowsN_app, wS (by omega)]
      refine (goCk rfl _).trans ((goY (by show (o.length + 1) * 8 ≤ _; omega) _ _).trans ?_)
      have e : Nat.add o.length 1 = (o ++ [p.1]).length := by simp
      rw [e]
      exact h
    have go : ∀ {R}, (bif !(decide (p.2 = r) && !decide (pvAt l i = some p)) then some (Out.jump .ret [.val (.slice none 0 0), vbool false, .arr 1 1 0 o.length, vi i], [⟨.box, 36, 2, 0, [[vbool b, .list 0 2 (prs l)]]⟩, ⟨.arr, 26, 1, 1, rowsN o⟩]) else
        E cx (Key.loop 43 [true, true, true, true, false, true, false]) [.val (.slice none 0 0), vbool b0, .arr 1 1 0 (o ++ [p.1]).length, vi (i + 1 : Nat), vu r, .ptr 0 0 0 0] [⟨.box, 36, 2, 0, [[vbool b, .list 0 2 (prs l)]]⟩, ⟨.arr, 26, 1, 1, rowsN (o ++ [p.1])⟩]) = R →
        E cx (Key.loop 43 [true, true, true, true, false, true, false]) [.val (.slice none 0 0), vbool b0, .arr 1 1 0 o.length, vi i, vu r, .ptr 0 0 0 0] [⟨.box, 36, 2, 0, [[vbool b, .list 0 2 (prs l)]]⟩, ⟨.arr, 26, 1, 1, rowsN o⟩] = R := fun {R} h => by
      refine (f43_l0 _ _ _ _ _ _ _).trans ((goD (by rw [prs_len]; omega) _ _).trans ((goY (by omega) _ _).trans ((goPr (n := i) rfl hp _).trans ?_)))
      by_cases h1 : p.2 = r
      · refine (goE (by omega) _ _).trans ?_
        rw [decide_eq_true h1] at h
        cases i with
        | zero =>
          refine (goDn (by omega) _ _).trans ?_
          refine (goY (by omega) _ _).trans ((goPr (n := 0) rfl hp _).trans ?_)
          exact tl h
        | succ j =>
          have hq : l[j]? = some l[j] := List.getElem?_eq_getElem (by omega)
          rw [pv_succ, hq] at h
          have hqr : l[j].2 = r := hv _ (by rw [pv_succ, hq])
          refine (goD (by omega) _ _).trans ?_
          refine (goY (by omega) _ _).trans ((goPr (n := j + 1) rfl hp _).trans ?_)
          rw [wP (by omega)]
          refine (goY (by omega) _ _).trans ((goPr (n := j) rfl hq _).trans ?_)
          by_cases h2 : l[j] = p
          · rw [decide_eq_true (show some l[j] = some p by rw [h2])] at h
            exact (goD (by rw [h2]) _ _).trans h
          · rw [decide_eq_false (fun h3 : some l[j] = some p => h2 (Option.some.inj h3))] at h
            refine (goDn (fun h3 => h2 (Prod.ext (by omega) (by omega))) _ _).trans ?_
            refine (goY (by omega) _ _).trans ((goPr (n := j + 1) rfl hp _).trans ?_)
            exact tl h
      · refine (goEn (by omega) _ _).trans ?_
        rw [decide_eq_false h1] at h
        exact h
    cases hc : (decide (p.2 = r) && !decide (pvAt l i = some p)) with
    | false =>
      rw [hc] at go
      refine .inr ⟨?_, i, _, _, go rfl⟩
      rw [hgo, ← Bool.and_assoc, hc]
      rfl
    | true =>
      rw [hc] at go
      have hpr : p.2 = r := by simp only [Bool.and_eq_true, decide_eq_true_eq] at hc; exact hc.1
      rw [hgo, ← Bool.and_assoc, hc, Bool.true_and]
      rcases loop43 b0 b r l hl rest (i + 1) (o ++ [p.1]) hd' (by omega) (by simp; omega) (fun q hq => by rw [pv_succ, hp] at hq; cases hq; exact hpr) with ⟨g1, g2⟩ | ⟨g1, k, n, rs, g2⟩
      · rw [pv_succ, hp] at g1
        refine .inl ⟨g1, go (g2.trans ?_)⟩
        have e : o ++ [p.1] ++ keysL rest = o ++ keysL (p :: rest) := by simp [keysL]
        rw [e]
      · rw [pv_succ, hp] at g1
        exact .inr ⟨g1, k, n, rs, go g2⟩
theorem c43 (f : Bool) (l : List P2) (r : Nat) (hl : l.length ≤ 4000000) : RK (E cx (Key.fn 43) [.agg [vbool f, .list 0 2 (prs l)], vu r] []) (keysR l r) := by
  refine RK_of ((f43 _ _ _).trans (goB (c41 f l hl) _)) ?_
  unfold keysR
  cases hr : rightT l with
  | false => exact ⟨_, rfl, rfl⟩
  | true =>
    have hll := rightT_len hr
    show RK (Option.bind (E cx (Key.loop 43 [true, true, true, true, false, true, false]) [.val (.slice none 0 0), vbool false, .arr 1 1 0 ([] : List Nat).length, vi ((0 : Nat) : Int), vu r, .ptr 0 0 0 0] [⟨.box, 36, 2, 0, [[vbool f, .list 0 2 (prs l)]]⟩, ⟨.arr, 26, 1, 1, rowsN []⟩]) _) _
    rcases loop43 false f r l hll l 0 [] rfl (by omega) rfl (fun q hq => by cases hq) with ⟨g1, g2⟩ | ⟨g1, k, n, rs, g2⟩
    · have g1' : keysGo r none l = true := g1
      rw [g2, g1']
      refine ⟨.list 0 1 (rowsN (keysL l)), ?_, rfl⟩
      simp only [List.nil_append]
      show (Option.bind (viewArgs [⟨.box, 36, 2, 0, [[vbool f, .list 0 2 (prs l)]]⟩, ⟨.arr, 26, 1, 1, rowsN (keysL l)⟩] [.arr 1 1 0 (keysL l).length, vbool true]) fun v => some (Out.ret (oneOf v), ([] : Heap))) = _
      have hv0 : view [⟨.box, 36, 2, 0, [[vbool f, .list 0 2 (prs l)]]⟩, ⟨.arr, 26, 1, 1, rowsN (keysL l)⟩] 5 (.arr 1 1 0 (keysL l).length) = some (.list 0 1 (rowsN (keysL l))) := by
        show (Option.bind (chkLe (0 + (keysL l).length) (rowsN (keysL l)).length) fun _ => some (AV.list 0 1 (((rowsN (keysL l)).take (0 + (keysL l).length)).drop 0))) = _
        rw [goLe (by rw [rowsN_len]; omega), show 0 + (keysL l).length = Nat.add 0 (keysL l).length from rfl, viewN]
      have hv : viewArg [⟨.box, 36, 2, 0, [[vbool f, .list 0 2 (prs l)]]⟩, ⟨.arr, 26, 1, 1, rowsN (keysL l)⟩] (.arr 1 1 0 (keysL l).length) = some (.list 0 1 (rowsN (keysL l))) := by
        unfold viewArg
        rw [hv0]
        rfl
      unfold viewArgs
      rw [hv]
      rfl
    · have g1' : keysGo r none l = false := g1
      rw [g2, g1']
      exact ⟨_, rfl, rfl⟩
end
/- Tokens of raw numbers. -/
section
def atR (p : P2) (l : List P2) : Nat → Nat
  | 0 => 0
  | n + 1 => match l[n]? with
    | some q => if ltP p q then atR p l n else n + 1
    | none => n + 1
def insR (p : P2) (l : List P2) : List P2 := l.take (atR p l l.length) ++ p :: l.drop (atR p l l.length)
def pairOf (a : Int) : P2 := ((pickI a 12).toNat, (pickI (a.tdiv 16) 3).toNat)
def tokL : List Int → List P2 → List P2
  | [], o => o
  | a :: rest, o => tokL rest (insR (pairOf a) o)
theorem atR_le (p : P2) (l : List P2) : ∀ n, atR p l n ≤ n
  | 0 => Nat.le_refl _
  | n + 1 => by
    unfold atR
    split
    · split
      · exact Nat.le_succ_of_le (atR_le p l n)
      · exact Nat.le_refl _
    · exact Nat.le_refl _
theorem insR_len (p : P2) (l : List P2) : (insR p l).length = l.length + 1 := by
  have := atR_le p l l.length
  unfold insR
  simp
  omega
theorem tokL_len : ∀ (r : List Int) (o : List P2), (tokL r o).length = o.length + r.length
  | [], o => rfl
  | a :: r, o => by
    show (tokL r (insR (pairOf a) o)).length = _
    rw [tokL_len r, insR_len]
    simp only [List.length_cons]
    omega
theorem atR_lo (p : P2) (l : List P2) (hl : PW l) : ∀ n, n ≤ l.length → ∀ j, j < atR p l n → ∀ q, l[j]? = some q → leP q p = true
  | 0, _, j, hj, _, _ => absurd hj (Nat.not_lt_zero _)
  | n + 1, hn, j, hj, q, hq => by
    have hg : l[n]? = some l[n] := List.getElem?_eq_getElem (by omega)
    unfold atR at hj
    rw [hg] at hj
    simp only at hj
    by_cases hlt : ltP p l[n] = true
    · rw [if_pos hlt] at hj
      exact atR_lo p l hl n (by omega) j hj q hq
    · rw [if_neg hlt] at hj
      have h1 : leP l[n] p = true := by
        rw [Bool.not_eq_true] at hlt
        unfold leP
        simpa using hlt
      by_cases hjn : j = n
      · subst hjn
        rw [hg] at hq
        cases hq
        exact h1
      · have hq' : l[j] = q := by
          have := List.getElem?_eq_getElem (l := l) (i := j) (by omega)
          rw [this] at hq
          exact Option.some.inj hq
        have := List.pairwise_iff_getElem.1 hl j n (by omega) (by omega) (by omega)
        rw [hq'] at this
        exact leP_trans _ _ _ this h1
theorem atR_hi (p : P2) (l : List P2) : ∀ n, n ≤ l.length → ∀ j, atR p l n ≤ j → j < n → ∀ q, l[j]? = some q → ltP p q = true
  | 0, _, j, _, hj, _, _ => absurd hj (Nat.not_lt_zero _)
  | n + 1, hn, j, h1, hj, q, hq => by
    have hg : l[n]? = some l[n] := List.getElem?_eq_getElem (by omega)
    unfold atR at h1
    rw [hg] at h1
    simp only at h1
    by_cases hlt : ltP p l[n] = true
    · rw [if_pos hlt] at h1
      by_cases hjn : j = n
      · subst hjn
        rw [hg] at hq
        cases hq
        exact hlt
      · exact atR_hi p l n (by omega) j h1 (by omega) q hq
    · rw [if_neg hlt] at h1
      omega
theorem ltP_le {p q : P2} (h : ltP p q = true) : leP p q = true := by
  rw [leP_iff]
  unfold ltP at h
  simp only [Bool.or_eq_true, Bool.and_eq_true, decide_eq_true_eq] at h
  omega
theorem insR_pw (p : P2) (l : List P2) (hl : PW l) : PW (insR p l) := by
  unfold insR
  have hle := atR_le p l l.length
  rw [PW, List.pairwise_append]
  refine ⟨hl.sublist (List.take_sublist _ _), ?_, ?_⟩
  · rw [List.pairwise_cons]
    refine ⟨fun q hq => ?_, hl.sublist (List.drop_sublist _ _)⟩
    obtain ⟨j, hj⟩ := List.mem_iff_getElem?.1 hq
    rw [List.getElem?_drop] at hj
    have hlt := (List.getElem?_eq_some_iff.1 hj).1
    exact ltP_le (atR_hi p l l.length (Nat.le_refl _) _ (Nat.le_add_right _ _) hlt q hj)
  · intro a ha b hb
    obtain ⟨j, hj⟩ := List.mem_iff_getElem?.1 ha
    rw [List.getElem?_take] at hj
    have hjl : j < atR p l l.length := by
      by_cases h : j < atR p l l.length
      · exact h
      · rw [if_neg h] at hj; cases hj
    rw [if_pos hjl] at hj
    have h1 := atR_lo p l hl l.length (Nat.le_refl _) j hjl a hj
    rcases List.mem_cons.1 hb with rfl | hb
    · exact h1
    · obtain ⟨k, hk⟩ := List.mem_iff_getElem?.1 hb
      rw [List.getElem?_drop] at hk
      have hlt := (List.getElem?_eq_some_iff.1 hk).1
      exact leP_trans _ _ _ h1 (ltP_le (atR_hi p l l.length (Nat.le_refl _) _ (Nat.le_add_right _ _) hlt b hk))
theorem tokL_pw : ∀ (r : List Int) (o : List P2), PW o → PW (tokL r o)
  | [], _o, h => h
  | _a :: r, _o, h => tokL_pw r _ (insR_pw _ _ h)
def tokP (raw : List Int) : List P2 := tokL (raw.take 30) []
theorem tokP_len (raw : List Int) : (tokP raw).length ≤ 30 := by
  unfold tokP
  rw [tokL_len]
  simp
  omega
theorem tokP_pw (raw : List Int) : PW (tokP raw) := tokL_pw _ _ .nil
theorem tokP_right (raw : List Int) : rightT (tokP raw) = true := rightT_of (by have := tokP_len raw; omega) (tokP_pw raw)
theorem loop37i (b1 b2 : Bool) (raw : List Int) (x : Int) (p : P2) (o : List P2) (ho : o.length ≤ 1000) : ∀ i, i ≤ o.length →
    E cx (Key.loop 37 [true, true, false, true, false, false, true, false, false, true, true, false, false]) [vi i, .list 0 1 (ints raw), .ptr 0 0 0 0, .ptr 1 0 0 0, vi x, .ptr 3 0 0 0] [⟨.box, 36, 2, 0, [[vbool b1, .val (.slice none 0 0)]]⟩, ⟨.box, 36, 2, 0, [[vbool b2, .arr 2 2 0 o.length]]⟩, ⟨.arr, 80, 2, 2, prs o⟩, ⟨.box, 80, 2, 0, [[vu p.1, vu p.2]]⟩] =
      some (Out.jump (.exit 2) [vi (atR p o i : Nat)], [⟨.box, 36, 2, 0, [[vbool b1, .val (.slice none 0 0)]]⟩, ⟨.box, 36, 2, 0, [[vbool b2, .arr 2 2 0 o.length]]⟩, ⟨.arr, 80, 2, 2, prs o⟩, ⟨.box, 80, 2, 0, [[vu p.1, vu p.2]]⟩])
  | 0, _ => (f37_l0_l1 _ _ _ _ _ _ _ _ _).trans (goDn (by omega) _ _)
  | i + 1, hi => by
    have hq : o[i]? = some o[i] := List.getElem?_eq_getElem (by omega)
    refine (f37_l0_l1 _ _ _ _ _ _ _ _ _).trans ((goD (by omega) _ _).trans ?_)
    rw [wP (by omega)]
    refine (goY (by omega) _ _).trans ((goY (by omega) _ _).trans ((goPn (n := i) rfl hq _).trans ((goB (c105 p o[i]) _).trans ?_)))
    have ha : atR p o (i + 1) = if ltP p o[i] then atR p o i else i + 1 := by
      show (match o[i]? with | some q => if ltP p q then atR p o i else i + 1 | none => i + 1) = _
      rw [hq]
    rw [ha]
    cases h : ltP p o[i] with
    | true => exact loop37i b1 b2 raw x p o ho i (by omega)
    | false => rfl
theorem wu_pick {c n : Int} (hn : 0 < n) (h2 : n < 1000) : IntKind.wrap .u64 (pickI c n) = (((pickI c n).toNat : Nat) : Int) := by
  have := pickI_lt (c := c) hn
  rw [wu_id (by omega) (by omega)]
  omega
theorem prs_take (l : List P2) (n : Nat) : (prs l).take n = prs (l.take n) := by simp [prs]
theorem prs_drop (l : List P2) (n : Nat) : (prs l).drop n = prs (l.drop n) := by simp [prs]
end
/- Tokens of raw numbers: the walk. -/
section
theorem loop37_end (b1 b2 : Bool) (l : List (List AV)) (x : Int) (n : Nat) (rs : List (List AV)) (h : ¬ (x < (l.length : Int) ∧ x < 30)) :
    E cx (Key.loop 37 [true, true, false, true, false]) [vi x, .list 0 1 l, .ptr 0 0 0 0, .ptr 1 0 0 0] [⟨.box, 36, 2, 0, [[vbool b1, .val (.slice none 0 0)]]⟩, ⟨.box, 36, 2, 0, [[vbool b2, .arr 2 2 0 n]]⟩, ⟨.arr, 80, 2, 2, rs⟩] =
      some (Out.jump (.exit 0) [vi x], [⟨.box, 36, 2, 0, [[vbool b1, .val (.slice none 0 0)]]⟩, ⟨.box, 36, 2, 0, [[vbool b2, .arr 2 2 0 n]]⟩, ⟨.arr, 80, 2, 2, rs⟩]) := by
  refine (f37_l0 _ _ _ _ _ _).trans ?_
  by_cases h1 : x < (l.length : Int)
  · exact (goD h1 _ _).trans (goDn (fun h2 => h ⟨h1, h2⟩) _ _)
  · exact goDn h1 _ _
theorem loop37_step (b1 b2 : Bool) (raw : List Int) (hr : ∀ a ∈ raw, RI a) (i : Nat) (a : Int) (ha : raw[i]? = some a) (h30 : i < 30) (o : List P2) (ho : o.length ≤ 1000) :
    E cx (Key.loop 37 [true, true, false, true, false]) [vi i, .list 0 1 (ints raw), .ptr 0 0 0 0, .ptr 1 0 0 0] [⟨.box, 36, 2, 0, [[vbool b1, .val (.slice none 0 0)]]⟩, ⟨.box, 36, 2, 0, [[vbool b2, .arr 2 2 0 o.length]]⟩, ⟨.arr, 80, 2, 2, prs o⟩] =
    E cx (Key.loop 37 [true, true, false, true, false]) [vi (i + 1 : Nat), .list 0 1 (ints raw), .ptr 0 0 0 0, .ptr 1 0 0 0] [⟨.box, 36, 2, 0, [[vbool b1, .val (.slice none 0 0)]]⟩, ⟨.box, 36, 2, 0, [[vbool b2, .arr 2 2 0 (insR (pairOf a) o).length]]⟩, ⟨.arr, 80, 2, 2, prs (insR (pairOf a) o)⟩] := by
  have hlt := (List.getElem?_eq_some_iff.1 ha).1
  have hA := hr a (List.mem_of_getElem? ha)
  have hA16 : RI (Int.tdiv a 16) := by
    unfold RI at hA ⊢
    rcases Int.le_total 0 a with h | h
    · have := Int.tdiv_nonneg h (show (0 : Int) ≤ 16 by omega)
      have h2 := Int.tdiv_eq_ediv_of_nonneg (b := 16) h
      omega
    · have e : Int.tdiv a 16 = -(Int.tdiv (-a) 16) := by rw [Int.neg_tdiv, Int.neg_neg]
      have h2 := Int.tdiv_eq_ediv_of_nonneg (b := 16) (show (0 : Int) ≤ -a by omega)
      omega
  refine (f37_l0 _ _ _ _ _ _).trans ((goD (by simp only [List.length_map]; omega) _ _).trans ((goD (by omega) _ _).trans ((goY (by omega) _ _).trans ((go1 (n := i) rfl ha _).trans ((goI (c48 hA (by omega)) _).trans ((goY (by omega) _ _).trans ((go1 (n := i) rfl ha _).trans ?_)))))))
  rw [wr_id (n := Int.tdiv a 16) hA16.1 hA16.2]
  refine (goI (c48 hA16 (by omega)) _).trans ?_
  rw [wu_pick (c := a) (n := 12) (by omega) (by omega), wu_pick (c := Int.tdiv a 16) (n := 3) (by omega) (by omega), show (pickI a 12).toNat = (pairOf a).1 from rfl, show (pickI (Int.tdiv a 16) 3).toNat = (pairOf a).2 from rfl]
  rw [loop37i b1 b2 raw i (pairOf a) o ho o.length (Nat.le_refl _)]
  have hle := atR_le (pairOf a) o o.length
  generalize hk : atR (pairOf a) o o.length = k at hle
  simp only [Option.bind_some, asJump, JX.is, Nat.beq_refl, cond_true, uncons?, nil?, AV.arr?, AV.int?, AV.bool?, AV.nilS?, chk, obIs, if_true, and_self]
  have hkk : Int.toNat ((k : Nat) : Int) = k := Int.toNat_natCast k
  rw [hkk]
  have e1 : List.drop (Nat.add 0 0) (List.take (Nat.add (Nat.add 0 0) (Nat.sub k 0)) (prs o)) = prs (o.take k) := by
    show List.drop 0 (List.take (0 + k) (prs o)) = _
    rw [List.drop_zero, Nat.zero_add, prs_take]
  have e2 : List.drop (Nat.add 0 k) (List.take (Nat.add (Nat.add 0 k) (Nat.sub o.length k)) (prs o)) = prs (o.drop k) := by
    show List.drop (0 + k) (List.take (0 + k + (o.length - k)) (prs o)) = _
    rw [Nat.zero_add, List.take_of_length_le (by rw [prs_len]; omega), prs_drop]
  have l1 : (prs (o.take k)).length = k := by rw [prs_len]; simp; omega
  have l2 : (prs (o.drop k)).length = o.length - k := by rw [prs_len]; simp
  refine (goY (by omega) _ _).trans ((goY (by omega) _ _).trans ?_)
  refine (goLe (by show 0 + 0 + (k - 0) ≤ (prs o).length; rw [prs_len]; omega) _).trans ?_
  rw [e1, ysOk_prs, l1]
  refine (goY (by show (0 + k) * 16 ≤ _; omega) _ _).trans ?_
  show (Option.bind (chk (Nat.add 0 k) (List.length (prs (o.take k)))) fun _ => if Nat.mul (Nat.add (List.length (prs (o.take k))) 1) 16 ≤ 140737488355328 then
    if (0 : Int) ≤ (k : Int) then if (k : Int) ≤ (o.length : Int) then
      Option.bind (chkLe (Nat.add (Nat.add 0 k) (Nat.sub o.length k)) (List.length (prs o))) fun _ =>
      bif ysOk (List.drop (Nat.add 0 k) (List.take (Nat.add (Nat.add 0 k) (Nat.sub o.length k)) (prs o))) then
      Option.bind (chk (Nat.add (List.length (prs (o.take k))) 1) (List.length (prs (o.take k) ++ prs [pairOf a]))) fun _ =>
      if Nat.mul (Nat.add (List.length (prs (o.take k) ++ prs [pairOf a])) (List.length (List.drop (Nat.add 0 k) (List.take (Nat.add (Nat.add 0 k) (Nat.sub o.length k)) (prs o))))) 16 ≤ 140737488355328 then
      E cx (Key.loop 37 [true, true, false, true, false]) [vi (IntKind.wrap .i64 (Int.add (i : Int) 1)), .list 0 1 (ints raw), .ptr 0 0 0 0, .ptr 1 0 0 0] [⟨.box, 36, 2, 0, [[vbool b1, .val (.slice none 0 0)]]⟩,
        ⟨.box, 36, 2, 0, [[vbool b2, .arr 2 2 0 (Nat.add (List.length (prs (o.take k) ++ prs [pairOf a])) (List.length (List.drop (Nat.add 0 k) (List.take (Nat.add (Nat.add 0 k) (Nat.sub o.length k)) (prs o)))))]]⟩,
        ⟨.arr, 80, 2, 2, prs (o.take k) ++ prs [pairOf a] ++ List.drop (Nat.add 0 k) (List.take (Nat.add (Nat.add 0 k) (Nat.sub o.length k)) (prs o))⟩]
      else none else none else none else none else none) = _
  have l3 : (prs (o.take k) ++ prs [pairOf a]).length = k + 1 := by rw [List.length_append, l1]; rfl
  rw [e2, ysOk_prs, l1, l3, l2]
  refine (goCk (by show 0 + k = k; omega) _).trans ((goY (by show (k + 1) * 16 ≤ _; omega) _ _).trans ((goY (by omega) _ _).trans ((goY (by omega) _ _).trans ?_)))
  refine (goLe (by show 0 + k + (o.length - k) ≤ (prs o).length; rw [prs_len]; omega) _).trans ?_
  refine (goCk rfl _).trans ((goY (by show (k + 1 + (o.length - k)) * 16 ≤ _; omega) _ _).trans ?_)
  have e3 : prs (o.take k) ++ prs [pairOf a] ++ prs (o.drop k) = prs (insR (pairOf a) o) := by
    unfold insR
    rw [hk]
    simp [prs]
  have l4 : Nat.add (k + 1) (o.length - k) = (insR (pairOf a) o).length := by
    rw [insR_len]
    show k + 1 + (o.length - k) = _
    omega
  rw [e3, l4, wS (by omega)]
theorem loop37 (b1 b2 : Bool) (raw : List Int) (hr : ∀ a ∈ raw, RI a) : ∀ (rest : List Int) (i : Nat) (o : List P2), (raw.take 30).drop i = rest → i + rest.length = (raw.take 30).length → o.length = i →
    ∃ n : Nat, E cx (Key.loop 37 [true, true, false, true, false]) [vi i, .list 0 1 (ints raw), .ptr 0 0 0 0, .ptr 1 0 0 0] [⟨.box, 36, 2, 0, [[vbool b1, .val (.slice none 0 0)]]⟩, ⟨.box, 36, 2, 0, [[vbool b2, .arr 2 2 0 o.length]]⟩, ⟨.arr, 80, 2, 2, prs o⟩] =
      some (Out.jump (.exit 0) [vi n], [⟨.box, 36, 2, 0, [[vbool b1, .val (.slice none 0 0)]]⟩, ⟨.box, 36, 2, 0, [[vbool b2, .arr 2 2 0 (tokL rest o).length]]⟩, ⟨.arr, 80, 2, 2, prs (tokL rest o)⟩])
  | [], i, o, hd, hi, ho => by
    simp only [List.length_nil, Nat.add_zero, List.length_take] at hi
    exact ⟨i, loop37_end _ _ _ _ _ _ (by simp only [List.length_map]; omega)⟩
  | a :: rest, i, o, hd, hi, ho => by
    have hp : (raw.take 30)[i]? = some a := by
      have := congrArg (fun l => l[0]?) hd; simpa using this
    have hd' : (raw.take 30).drop (i + 1) = rest := by rw [← List.drop_drop, hd]; rfl
    have hlt : i < (raw.take 30).length := (List.getElem?_eq_some_iff.1 hp).1
    simp only [List.length_cons] at hi
    have h30 : i < 30 := by rw [List.length_take] at hlt; omega
    rw [List.getElem?_take, if_pos h30] at hp
    have hl := insR_len (pairOf a) o
    obtain ⟨n, g⟩ := loop37 b1 b2 raw hr rest (i + 1) (insR (pairOf a) o) hd' (by omega) (by omega)
    exact ⟨n, (loop37_step b1 b2 raw hr i a hp h30 o (by omega)).trans g⟩
theorem c37 (raw : List Int) (hr : ∀ a ∈ raw, RI a) (f : Bool) : E cx (Key.fn 37) [.list 0 1 (ints raw), vbool f] [] = some (Out.ret (.agg [vbool f, .list 0 2 (prs (tokP raw))]), []) := by
  refine (f37 _ _).trans ?_
  obtain ⟨n, g⟩ := loop37 false f raw hr (raw.take 30) 0 [] rfl (by omega) rfl
  show (Option.bind (E cx (Key.loop 37 [true, true, false, true, false]) [vi ((0 : Nat) : Int), .list 0 1 (ints raw), .ptr 0 0 0 0, .ptr 1 0 0 0] [⟨.box, 36, 2, 0, [[vbool false, .val (.slice none 0 0)]]⟩, ⟨.box, 36, 2, 0, [[vbool f, .arr 2 2 0 ([] : List P2).length]]⟩, ⟨.arr, 80, 2, 2, prs []⟩]) _) = _
  rw [g]
  show (Option.bind (chkLe (Nat.add 0 (tokP raw).length) (List.length (prs (tokP raw)))) fun _ => some (Out.ret (.agg [vbool f, .list 0 2 (List.drop 0 (List.take (Nat.add 0 (tokP raw).length) (prs (tokP raw))))]), ([] : Heap))) = _
  rw [goLe (by rw [prs_len]; exact Nat.le_of_eq (Nat.zero_add _)), view0]
end
end Go.Proofs.Av
