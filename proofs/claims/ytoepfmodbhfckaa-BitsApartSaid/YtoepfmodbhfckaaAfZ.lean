/- Octets: steps by which trees are taken apart; texts as lists of bytes; numbers as bytes. -/
import Derived.Test.YtoepfmodbhfckaaAfY
namespace Go.Proofs.Av
open Go
variable {ρ : Type} {x : Option (Out × Heap)}
theorem wr_id {n : Int} (h1 : -9223372036854775808 ≤ n) (h2 : n ≤ 9223372036854775807) : IntKind.wrap .i64 n = n := by
  simp only [IntKind.wrap, IntKind.bits, IntKind.signed, Bool.true_and]
  split <;> simp_all <;> omega
theorem wr_add {a b : Int} (h1 : -9223372036854775808 ≤ a + b) (h2 : a + b ≤ 9223372036854775807) : IntKind.wrap .i64 (Int.add a b) = a + b := wr_id (n := a + b) h1 h2
theorem wr_sub {a b : Int} (h1 : -9223372036854775808 ≤ a - b) (h2 : a - b ≤ 9223372036854775807) : IntKind.wrap .i64 (Int.sub a b) = a - b := wr_id (n := a - b) h1 h2
theorem wr_mul {a b : Int} (h1 : -9223372036854775808 ≤ a * b) (h2 : a * b ≤ 9223372036854775807) : IntKind.wrap .i64 (Int.mul a b) = a * b := wr_id (n := a * b) h1 h2
theorem wu_id {n : Int} (h1 : 0 ≤ n) (h2 : n < 18446744073709551616) : IntKind.wrap .u64 n = n := by
  simp only [IntKind.wrap, IntKind.bits, IntKind.signed, Bool.false_and]
  simp
  omega
theorem w8 {n : Int} : IntKind.wrap .u8 n = n % 256 := by
  simp only [IntKind.wrap, IntKind.bits, IntKind.signed, Bool.false_and]
  simp
abbrev rb (b : Bool) : Option (Out × Heap) := some (Out.ret (vbool b), [])
abbrev RI (n : Int) : Prop := -9223372036854775808 ≤ n ∧ n ≤ 9223372036854775807
theorem goB {b : Bool} (h : x = rb b) (k : Bool → Option ρ) : (x.bind fun r => (ret1 r).bind fun v => v.bool?.bind fun b => k b) = k b := by rw [h]; rfl
theorem goT (h : x = rb true) (k j : Option ρ) : (x.bind fun r => (ret1 r).bind fun v => v.bool?.bind fun b => bif b then k else j) = k := by rw [h]; rfl
theorem goF (h : x = rb false) (k j : Option ρ) : (x.bind fun r => (ret1 r).bind fun v => v.bool?.bind fun b => bif b then k else j) = j := by rw [h]; rfl
theorem goI {n : Int} (h : x = some (Out.ret (vi n), [])) (k : Int → Option ρ) : (x.bind fun r => (ret1 r).bind fun v => (v.int? .i64).bind fun n => k n) = k n := by rw [h]; rfl
theorem goU {n : Int} (h : x = some (Out.ret (vu n), [])) (k : Int → Option ρ) : (x.bind fun r => (ret1 r).bind fun v => (v.int? .u64).bind fun n => k n) = k n := by rw [h]; rfl
theorem goN {p : Prop} [Decidable p] (h : ¬ p) (k j : Option ρ) : (if p then k else j) = j := if_neg h
theorem goY {p : Prop} [Decidable p] (h : p) (k j : Option ρ) : (if p then k else j) = k := if_pos h
theorem goD {p : Prop} [Decidable p] (h : p) (k j : Option ρ) : (bif decide p then k else j) = k := by rw [decide_eq_true h]; rfl
theorem goDn {p : Prop} [Decidable p] (h : ¬ p) (k j : Option ρ) : (bif decide p then k else j) = j := by rw [decide_eq_false h]; rfl
theorem goE {a b : Int} (h : a = b) (k j : Option ρ) : (bif a != b then k else j) = j := by rw [h, show (b != b) = false by simp]; rfl
theorem goEn {a b : Int} (h : a ≠ b) (k j : Option ρ) : (bif a != b then k else j) = k := by rw [show (a != b) = true by simp [h]]; rfl
theorem goLe {a b : Nat} (h : a ≤ b) (k : Option ρ) : ((chkLe a b).bind fun _ => k) = k := by rw [show chkLe a b = some () from if_pos h]; rfl
theorem goCk {a b : Nat} (h : a = b) (k : Option ρ) : ((chk a b).bind fun _ => k) = k := by rw [show chk a b = some () from if_pos h]; rfl

/-! ### Texts -/
abbrev B := List UInt8
abbrev mk (l : B) : ByteArray := ByteArray.mk (Array.mk l)
theorem str_eta (s : ByteArray) : ∃ l, s = mk l := ⟨s.data.toList, rfl⟩
theorem toList_mk (l : B) : ByteArray.toList (mk l) = l := by rw [ByteArray.toList_eq]
theorem ext_mk (l : B) (a b : Nat) : ByteArray.extract (mk l) a b = mk ((l.take b).drop a) := by
  have h : (ByteArray.extract (mk l) a b).data.toList = (l.take b).drop a := by
    rw [ByteArray.data_extract, Array.toList_extract, List.extract_eq_take_drop, ← List.drop_take]
  exact show ByteArray.mk (Array.mk (ByteArray.extract (mk l) a b).data.toList) = _ by rw [h]
theorem app_mk (a b : B) : ByteArray.append (mk a) (mk b) = mk (a ++ b) := by
  have h : (ByteArray.append (mk a) (mk b)).data.toList = a ++ b := by
    show (mk a ++ mk b).data.toList = _
    rw [ByteArray.data_append]
    simp
  exact show ByteArray.mk (Array.mk (ByteArray.append (mk a) (mk b)).data.toList) = _ by rw [h]
theorem get_mk (l : B) (i : Nat) : (mk l)[i]? = l[i]? := by
  by_cases h : i < l.length
  · rw [getElem?_pos (mk l) i h, List.getElem?_eq_getElem h]
    rfl
  · rw [getElem?_neg (mk l) i h, List.getElem?_eq_none (by omega)]
theorem beq_mk (a b : B) : List.beq (ByteArray.toList (mk a)) (ByteArray.toList (mk b)) = decide (a = b) := by
  rw [toList_mk, toList_mk]
  show (a == b) = _
  by_cases h : a = b <;> simp [h]
theorem goQ {a b : B} (h : a = b) (k j : Option ρ) : (bif List.beq (ByteArray.toList (mk a)) (ByteArray.toList (mk b)) then k else j) = k := by rw [beq_mk, decide_eq_true h]; rfl
theorem goQf {a b : B} (h : ¬ a = b) (k j : Option ρ) : (bif List.beq (ByteArray.toList (mk a)) (ByteArray.toList (mk b)) then k else j) = j := by rw [beq_mk, decide_eq_false h]; rfl
theorem goQn {a b : B} (h : a = b) (k j : Option ρ) : (bif !List.beq (ByteArray.toList (mk a)) (ByteArray.toList (mk b)) then k else j) = j := by rw [beq_mk, decide_eq_true h]; rfl
theorem goQt {a b : B} (h : ¬ a = b) (k j : Option ρ) : (bif !List.beq (ByteArray.toList (mk a)) (ByteArray.toList (mk b)) then k else j) = k := by rw [beq_mk, decide_eq_false h]; rfl
theorem goS {l : B} (h : x = some (Out.ret (vs (mk l)), [])) (k : ByteArray → Option ρ) : (x.bind fun r => (ret1 r).bind fun v => v.str?.bind fun s => k s) = k (mk l) := by rw [h]; rfl
theorem goG {l : B} {i : Int} {n : Nat} {b : UInt8} (hn : i = n) (h : l[n]? = some b) (k : UInt8 → Option ρ) : ((mk l)[Int.toNat i]?.bind fun b => k b) = k b := by
  subst hn
  rw [get_mk, Int.toNat_natCast, h]
  rfl
/-- A number, a text, an error's number. -/
abbrev RT (w : Int) (l : B) (e : Int) : Option (Out × Heap) := some (Out.ret (.tuple [vu w, vs (mk l), vi e]), [])
abbrev RJ (l : B) (e : Int) : Option (Out × Heap) := some (Out.ret (.tuple [vs (mk l), vi e]), [])
abbrev row (p : B) : List AV := [vs (mk p)]
abbrev rowsB (l : List B) : List (List AV) := l.map row
def RS (x : Option (Out × Heap)) (l : B) (ps : List B) (e : Int) : Prop := ∃ a, x = some (Out.ret (.tuple [vs (mk l), a, vi e]), []) ∧ a.list? 1 = some (rowsB ps)
theorem goTk {w : Int} {l : B} {e : Int} (h : x = RT w l e) (k : Int → ByteArray → Int → Option ρ) : (x.bind fun r => (ret1 r).bind fun v => v.tup?.bind fun vs => (uncons? vs).bind fun p1 => (AV.int? .u64 p1.fst).bind fun n =>
    (uncons? p1.snd).bind fun p2 => (AV.str? p2.fst).bind fun s => (uncons? p2.snd).bind fun p3 => (AV.int? .i64 p3.fst).bind fun e => (nil? p3.snd).bind fun _ => k n s e) = k w (mk l) e := by rw [h]; rfl
theorem goJn {l : B} {e : Int} (h : x = RJ l e) (k : ByteArray → Int → Option ρ) : (x.bind fun r => (ret1 r).bind fun v => v.tup?.bind fun vs => (uncons? vs).bind fun p2 => (AV.str? p2.fst).bind fun s =>
    (uncons? p2.snd).bind fun p3 => (AV.int? .i64 p3.fst).bind fun e => (nil? p3.snd).bind fun _ => k s e) = k (mk l) e := by rw [h]; rfl
theorem goSp {l : B} {ps : List B} {e : Int} (h : RS x l ps e) (k : ByteArray → List (List AV) → Int → Option ρ) : (x.bind fun r => (ret1 r).bind fun v => v.tup?.bind fun vs => (uncons? vs).bind fun p1 => (AV.str? p1.fst).bind fun s =>
    (uncons? p1.snd).bind fun p2 => (AV.list? 1 p2.fst).bind fun l => (uncons? p2.snd).bind fun p3 => (AV.int? .i64 p3.fst).bind fun e => (nil? p3.snd).bind fun _ => k s l e) = k (mk l) (rowsB ps) e := by
  obtain ⟨a, rfl, h⟩ := h
  simp only [Option.bind_some, ret1, AV.tup?, uncons?, h, AV.str?, AV.int?, if_true, nil?]
/-- An element of parts. -/
theorem goP {ps : List B} {i : Int} {n : Nat} {p : B} (hn : i = n) (h : ps[n]? = some p) (k : ByteArray → Option ρ) : ((rowsB ps)[Int.toNat i]?.bind fun cs => (uncons? cs).bind fun p => (AV.str? p.fst).bind fun s => (nil? p.snd).bind fun _ => k s) = k (mk p) := by
  subst hn
  have : (rowsB ps)[Int.toNat (n : Int)]? = some (row p) := by simp [rowsB, h]
  rw [this]
  rfl
abbrev ints (l : List Int) : List (List AV) := l.map fun n => [vi n]
theorem go1 {l : List Int} {i : Int} {n : Nat} {r : Int} (hn : i = n) (h : l[n]? = some r) (k : Int → Option ρ) : ((ints l)[Int.toNat i]?.bind fun cs => (uncons? cs).bind fun p => (AV.int? .i64 p.fst).bind fun s => (nil? p.snd).bind fun _ => k s) = k r := by
  subst hn
  have : (ints l)[Int.toNat (n : Int)]? = some [vi r] := by simp [ints, h]
  rw [this]
  rfl
theorem go1n {l : List Int} {i : Int} {n : Nat} {r : Int} (hn : i = n) (h : l[n]? = some r) (k : Int → Option ρ) : ((nth (ints l) (Nat.add 0 (Int.toNat i))).bind fun cs => (uncons? cs).bind fun p => (AV.int? .i64 p.fst).bind fun s => (nil? p.snd).bind fun _ => k s) = k r := by
  subst hn
  have : nth (ints l) (Nat.add 0 (Int.toNat (n : Int))) = some [vi r] := by
    rw [nth_eq]
    show (ints l)[0 + n]? = _
    rw [Nat.zero_add]
    simp [ints, h]
  rw [this]
  rfl

/-! ### Numbers as bytes -/
def val : B → Nat
  | [] => 0
  | b :: r => b.toNat + 256 * val r
def put (w : Nat) : Nat → B
  | 0 => []
  | n + 1 => UInt8.ofNat (w % 256) :: put (w / 256) n
theorem put_len (w n : Nat) : (put w n).length = n := by
  induction n generalizing w with
  | zero => rfl
  | succ n ih => simp [put, ih]
theorem val_put (w n : Nat) : val (put w n) = w % 256 ^ n := by
  induction n generalizing w with
  | zero => simp [put, val, Nat.mod_one]
  | succ n ih =>
    simp only [put, val, ih]
    rw [Nat.pow_succ, Nat.mul_comm (256 ^ n) 256, Nat.mod_mul]
    simp
theorem put_val (l : B) : put (val l) l.length = l := by
  induction l with
  | nil => rfl
  | cons b l ih =>
    simp only [List.length_cons, put, val]
    have hb := b.toNat_lt
    rw [show (b.toNat + 256 * val l) % 256 = b.toNat by omega, show (b.toNat + 256 * val l) / 256 = val l by omega, ih]
    simp
theorem val_lt (l : B) : val l < 256 ^ l.length := by
  induction l with
  | nil => simp [val]
  | cons b l ih =>
    simp only [List.length_cons, val, Nat.pow_succ]
    have hb := b.toNat_lt
    omega
theorem put_get (w n i : Nat) (hi : i < n) : (put w n)[i]? = some (UInt8.ofNat (w / 256 ^ i % 256)) := by
  induction n generalizing w i with
  | zero => omega
  | succ n ih =>
    cases i with
    | zero => simp [put]
    | succ i =>
      simp only [put, List.getElem?_cons_succ]
      rw [ih (w / 256) i (by omega), Nat.div_div_eq_div_mul, Nat.pow_succ, Nat.mul_comm (256 ^ i)]
theorem val_snoc (l : B) (b : UInt8) : val (l ++ [b]) = val l + b.toNat * 256 ^ l.length := by
  induction l with
  | nil => simp [val]
  | cons a l ih =>
    simp only [List.cons_append, val, ih, List.length_cons, Nat.pow_succ, Nat.mul_add]
    rw [Nat.mul_comm (256 ^ l.length) 256, Nat.mul_left_comm]
    omega
theorem val_take_succ {l : B} {k : Nat} {b : UInt8} (h : l[k]? = some b) : val (l.take (k + 1)) = val (l.take k) + b.toNat * 256 ^ k := by
  have hk := (List.getElem?_eq_some_iff.1 h).1
  rw [List.take_add_one, h]
  simp only [Option.toList_some]
  rw [val_snoc, List.length_take, Nat.min_eq_left (by omega)]
end Go.Proofs.Av
