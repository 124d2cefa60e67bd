/- Bits: the fixed calls, and what the functions tell of bits that are right. -/
import Derived.Test.YtoepfmodbhfckaaAfMM
namespace Go.Proofs.Av
open Go
/- Bits: the fixed calls as a tree. -/
set_option maxRecDepth 100000
section
theorem f54 : E cx (Key.fn 54) [] [] =
 Option.bind
 (E cx (Key.fn 56)
 [AV.agg [vi 3, AV.list 0 1 [[vi 0], [vi 2]]]] [])
 fun r0 ↦
 Option.bind (ret1 r0) fun v1 ↦
 Option.bind (AV.tup? v1) fun vs2 ↦
 Option.bind (uncons? vs2) fun p3 ↦
 Option.bind (AV.str? p3.fst) fun s4 ↦
 Option.bind (uncons? p3.snd) fun p5 ↦
 Option.bind (AV.int? IntKind.i64 p5.fst) fun n6 ↦
 Option.bind (nil? p5.snd) fun _ ↦
 Option.bind
 (E cx (Key.fn 56)
 [AV.agg [vi 8, AV.val (Value.slice none 0 0)]] [])
 fun r8 ↦
 Option.bind (ret1 r8) fun v9 ↦
 Option.bind (AV.tup? v9) fun vs10 ↦
 Option.bind (uncons? vs10) fun p11 ↦
 Option.bind (AV.str? p11.fst) fun s12 ↦
 Option.bind (uncons? p11.snd) fun p13 ↦
 Option.bind (AV.int? IntKind.i64 p13.fst) fun n14 ↦
 Option.bind (nil? p13.snd) fun _ ↦
 Option.bind
 (E cx (Key.fn 73)
 [vs (ByteArray.mk (Array.mk [UInt8.ofNat 13])), vi 3] [])
 fun r16 ↦
 Option.bind (ret1 r16) fun v17 ↦
 Option.bind (AV.tup? v17) fun vs18 ↦
 Option.bind (uncons? vs18) fun p19 ↦
 Option.bind (AV.cells? p19.fst) fun cs20 ↦
 Option.bind (uncons? cs20) fun p21 ↦
 Option.bind (AV.int? IntKind.i64 p21.fst) fun n22 ↦
 Option.bind (uncons? p21.snd) fun p23 ↦
 Option.bind (AV.list? 1 p23.fst) fun es24 ↦
 Option.bind (nil? p23.snd) fun _ ↦
 Option.bind (uncons? p19.snd) fun p26 ↦
 Option.bind (AV.int? IntKind.i64 p26.fst) fun n27 ↦
 Option.bind (nil? p26.snd) fun _ ↦
 Option.bind
 (E cx (Key.fn 73)
 [vs (ByteArray.mk (Array.mk [UInt8.ofNat 13])), vi 2] [])
 fun r29 ↦
 Option.bind (ret1 r29) fun v30 ↦
 Option.bind (AV.tup? v30) fun vs31 ↦
 Option.bind (uncons? vs31) fun p32 ↦
 Option.bind (AV.cells? p32.fst) fun cs33 ↦
 Option.bind (uncons? cs33) fun p34 ↦
 Option.bind (AV.int? IntKind.i64 p34.fst) fun _ ↦
 Option.bind (uncons? p34.snd) fun p36 ↦
 Option.bind (AV.list? 1 p36.fst) fun _ ↦
 Option.bind (nil? p36.snd) fun _ ↦
 Option.bind (uncons? p32.snd) fun p39 ↦
 Option.bind (AV.int? IntKind.i64 p39.fst) fun n40 ↦
 Option.bind (nil? p39.snd) fun _ ↦
 Option.bind
 (E cx (Key.fn 73)
 [vs
 (ByteArray.mk (Array.mk [UInt8.ofNat 13, UInt8.ofNat 0])),
 vi 2]
 [])
 fun r42 ↦
 Option.bind (ret1 r42) fun v43 ↦
 Option.bind (AV.tup? v43) fun vs44 ↦
 Option.bind (uncons? vs44) fun p45 ↦
 Option.bind (AV.cells? p45.fst) fun cs46 ↦
 Option.bind (uncons? cs46) fun p47 ↦
 Option.bind (AV.int? IntKind.i64 p47.fst)
 fun _ ↦
 Option.bind (uncons? p47.snd) fun p49 ↦
 Option.bind (AV.list? 1 p49.fst) fun _ ↦
 Option.bind (nil? p49.snd) fun _ ↦
 Option.bind (uncons? p45.snd) fun p52 ↦
 Option.bind
 (AV.int? IntKind.i64 p52.fst)
 fun n53 ↦
 Option.bind (nil? p52.snd) fun _ ↦
 Option.bind
 (E cx
 (Key.fn 58)
 [AV.agg
 [vi 3,
 AV.list 0 1
 [[vi 2]]]]
 [])
 fun r55 ↦
 Option.bind (ret1 r55) fun v56 ↦
 Option.bind (AV.tup? v56)
 fun vs57 ↦
 Option.bind (uncons? vs57)
 fun p58 ↦
 Option.bind
 (AV.str? p58.fst)
 fun s59 ↦
 Option.bind
 (uncons? p58.snd)
 fun p60 ↦
 Option.bind
 (AV.int?
 IntKind.i64 p60.fst)
 fun n61 ↦
 Option.bind
 (nil? p60.snd)
 fun _ ↦
 Option.bind
 (E
 cx
 (Key.fn 75)
 [vs
 (ByteArray.mk
 (Array.mk
 [UInt8.ofNat 4])),
 vi 3]
 [])
 fun r63 ↦
 Option.bind
 (ret1 r63)
 fun v64 ↦
 Option.bind
 (AV.tup? v64)
 fun vs65 ↦
 Option.bind
 (uncons?
 vs65)
 fun p66 ↦
 Option.bind
 (AV.cells?
 p66.fst)
 fun cs67 ↦
 Option.bind
 (uncons?
 cs67)
 fun p68 ↦
 Option.bind
 (AV.int?
 IntKind.i64
 p68.fst)
 fun n69 ↦
 Option.bind
 (uncons?
 p68.snd)
 fun p70 ↦
 Option.bind
 (AV.list?
 1 p70.fst)
 fun es71 ↦
 Option.bind
 (nil?
 p70.snd)
 fun _ ↦
 Option.bind
 (uncons?
 p66.snd)
 fun p73 ↦
 Option.bind
 (AV.int?
 IntKind.i64
 p73.fst)
 fun
 n74 ↦
 Option.bind
 (nil?
 p73.snd)
 fun
 _ ↦
 Option.bind
 (E
 cx
 (Key.fn
 75)
 [vs
 (ByteArray.mk
 (Array.mk
 [UInt8.ofNat
 8])),
 vi
 3]
 [])
 fun
 r76 ↦
 Option.bind
 (ret1
 r76)
 fun
 v77 ↦
 Option.bind
 (AV.tup?
 v77)
 fun
 vs78 ↦
 Option.bind
 (uncons?
 vs78)
 fun
 p79 ↦
 Option.bind
 (AV.cells?
 p79.fst)
 fun
 cs80 ↦
 Option.bind
 (uncons?
 cs80)
 fun
 p81 ↦
 Option.bind
 (AV.int?
 IntKind.i64
 p81.fst)
 fun
 _ ↦
 Option.bind
 (uncons?
 p81.snd)
 fun
 p83 ↦
 Option.bind
 (AV.list?
 1
 p83.fst)
 fun
 _ ↦
 Option.bind
 (nil?
 p83.snd)
 fun
 _ ↦
 Option.bind
 (uncons?
 p79.snd)
 fun
 p86 ↦
 Option.bind
 (AV.int?
 IntKind.i64
 p86.fst)
 fun
 n87 ↦
 Option.bind
 (nil?
 p86.snd)
 fun
 _ ↦
 Option.bind
 (E
 cx
 (Key.fn
 65)
 [AV.agg
 [vi
 n22,
 AV.list
 0
 1
 es24],
 AV.list
 0
 2
 [[vi
 n69,
 AV.list
 0
 1
 es71]]]
 [])
 fun
 r89 ↦
 Option.bind
 (ret1
 r89)
 fun
 v90 ↦
 Option.bind
 (AV.tup?
 v90)
 fun
 vs91 ↦
 Option.bind
 (uncons?
 vs91)
 fun
 p92 ↦
 Option.bind
 (AV.cells?
 p92.fst)
 fun
 cs93 ↦
 Option.bind
 (uncons?
 cs93)
 fun
 p94 ↦
 Option.bind
 (AV.int?
 IntKind.i64
 p94.fst)
 fun
 n95 ↦
 Option.bind
 (uncons?
 p94.snd)
 fun
 p96 ↦
 Option.bind
 (AV.list?
 1
 p96.fst)
 fun
 es97 ↦
 Option.bind
 (nil?
 p96.snd)
 fun
 _ ↦
 Option.bind
 (uncons?
 p92.snd)
 fun
 p99 ↦
 Option.bind
 (AV.int?
 IntKind.i64
 p99.fst)
 fun
 n100 ↦
 Option.bind
 (nil?
 p99.snd)
 fun
 _ ↦
 bif
 decide
 (n6 =
 0) then
 bif
 List.beq
 (ByteArray.toList
 s4)
 (ByteArray.toList
 (ByteArray.mk
 (Array.mk
 [UInt8.ofNat
 13]))) then
 bif
 decide
 (n14 =
 0) then
 bif
 List.beq
 (ByteArray.toList
 s12)
 (ByteArray.toList
 (ByteArray.mk
 (Array.mk
 [UInt8.ofNat
 0,
 UInt8.ofNat
 1]))) then
 bif
 decide
 (n27 =
 0) then
 Option.bind
 (E
 cx
 (Key.fn
 67)
 [AV.agg
 [vi
 n22,
 AV.list
 0
 1
 es24],
 AV.agg
 [vi
 3,
 AV.list
 0
 1
 [[vi
 0],
 [vi
 2]]]]
 [])
 fun
 r102 ↦
 Option.bind
 (ret1
 r102)
 fun
 v103 ↦
 Option.bind
 (AV.bool?
 v103)
 fun
 b104 ↦
 bif
 b104 then
 bif
 decide
 (n40 =
 4) then
 bif
 decide
 (n53 =
 2) then
 bif
 decide
 (n61 =
 0) then
 bif
 List.beq
 (ByteArray.toList
 s59)
 (ByteArray.toList
 (ByteArray.mk
 (Array.mk
 [UInt8.ofNat
 4]))) then
 bif
 decide
 (n74 =
 0) then
 Option.bind
 (E
 cx
 (Key.fn
 67)
 [AV.agg
 [vi
 n69,
 AV.list
 0
 1
 es71],
 AV.agg
 [vi
 3,
 AV.list
 0
 1
 [[vi
 2]]]]
 [])
 fun
 r105 ↦
 Option.bind
 (ret1
 r105)
 fun
 v106 ↦
 Option.bind
 (AV.bool?
 v106)
 fun
 b107 ↦
 bif
 b107 then
 bif
 decide
 (n87 =
 2) then
 bif
 decide
 (n100 =
 0) then
 Option.bind
 (E
 cx
 (Key.fn
 67)
 [AV.agg
 [vi
 n95,
 AV.list
 0
 1
 es97],
 AV.agg
 [vi
 n22,
 AV.list
 0
 1
 es24]]
 [])
 fun
 r108 ↦
 Option.bind
 (ret1
 r108)
 fun
 v109 ↦
 Option.bind
 (AV.bool?
 v109)
 fun
 b110 ↦
 bif
 b110 then
 Option.bind
 (E
 cx
 (Key.fn
 70)
 [AV.agg
 [vi
 n69,
 AV.list
 0
 1
 es71],
 AV.agg
 [vi
 n22,
 AV.list
 0
 1
 es24]]
 [])
 fun
 r111 ↦
 Option.bind
 (ret1
 r111)
 fun
 v112 ↦
 Option.bind
 (AV.bool?
 v112)
 fun
 b113 ↦
 bif
 b113 then
 Option.bind
 (E
 cx
 (Key.fn
 68)
 [AV.agg
 [vi
 n69,
 AV.list
 0
 1
 es71],
 AV.agg
 [vi
 n22,
 AV.list
 0
 1
 es24]]
 [])
 fun
 r114 ↦
 Option.bind
 (ret1
 r114)
 fun
 v115 ↦
 Option.bind
 (AV.bool?
 v115)
 fun
 b116 ↦
 bif
 b116 then
 some
 (Out.ret
 (vbool
 false),
 [])
 else
 Option.bind
 (E
 cx
 (Key.fn
 62)
 [AV.agg
 [vi
 n22,
 AV.list
 0
 1
 es24],
 vi
 2]
 [])
 fun
 r117 ↦
 Option.bind
 (ret1
 r117)
 fun
 v118 ↦
 Option.bind
 (AV.bool?
 v118)
 fun
 b119 ↦
 bif
 b119 then
 Option.bind
 (E
 cx
 (Key.fn
 62)
 [AV.agg
 [vi
 n22,
 AV.list
 0
 1
 es24],
 vi
 1]
 [])
 fun
 r120 ↦
 Option.bind
 (ret1
 r120)
 fun
 v121 ↦
 Option.bind
 (AV.bool?
 v121)
 fun
 b122 ↦
 bif
 b122 then
 some
 (Out.ret
 (vbool
 false),
 [])
 else
 Option.bind
 (E
 cx
 (Key.fn
 60)
 [AV.agg
 [vi
 n22,
 AV.list
 0
 1
 es24]]
 [])
 fun
 r123 ↦
 Option.bind
 (ret1
 r123)
 fun
 v124 ↦
 Option.bind
 (AV.bool?
 v124)
 fun
 b125 ↦
 bif
 b125 then
 Option.bind
 (E
 cx
 (Key.fn
 60)
 [AV.agg
 [vi
 1,
 AV.list
 0
 1
 [[vi
 1]]]]
 [])
 fun
 r126 ↦
 Option.bind
 (ret1
 r126)
 fun
 v127 ↦
 Option.bind
 (AV.bool?
 v127)
 fun
 b128 ↦
 bif
 b128 then
 some
 (Out.ret
 (vbool
 false),
 [])
 else
 some
 (Out.ret
 (vbool
 true),
 [])
 else
 some
 (Out.ret
 (vbool
 false),
 [])
 else
 some
 (Out.ret
 (vbool
 false),
 [])
 else
 some
 (Out.ret
 (vbool
 false),
 [])
 else
 some
 (Out.ret
 (vbool
 false),
 [])
 else
 some
 (Out.ret
 (vbool
 false),
 [])
 else
 some
 (Out.ret
 (vbool
 false),
 [])
 else
 some
 (Out.ret
 (vbool
 false),
 [])
 else
 some
 (Out.ret
 (vbool
 false),
 [])
 else
 some
 (Out.ret
 (vbool
 false),
 [])
 else
 some
 (Out.ret
 (vbool
 false),
 [])
 else
 some
 (Out.ret
 (vbool
 false),
 [])
 else
 some
 (Out.ret
 (vbool
 false),
 [])
 else
 some
 (Out.ret
 (vbool
 false),
 [])
 else
 some
 (Out.ret
 (vbool
 false),
 [])
 else
 some
 (Out.ret
 (vbool
 false),
 [])
 else
 some
 (Out.ret
 (vbool
 false),
 [])
 else
 some
 (Out.ret
 (vbool
 false),
 [])
 else
 some
 (Out.ret
 (vbool
 false),
 []) := by
  intros
  exact (E_in [188] _ _ _).trans (by kernel_rfl)

end
/- Bits: what the laws call ahead answers yes. -/
set_option maxRecDepth 20000
section
section
variable {ρ : Type} {x : Option (Out × Heap)}
theorem goBA {n : Int} {l : List Int} (h : x = some (Out.ret (bA n l), [])) (k : Int → List (List AV) → Option ρ) : (x.bind fun r => (ret1 r).bind fun v => (AV.cells? v).bind fun cs => (uncons? cs).bind fun p => (AV.int? .i64 p.fst).bind fun n =>
    (uncons? p.snd).bind fun q => (AV.list? 1 q.fst).bind fun es => (nil? q.snd).bind fun _ => k n es) = k n (ints l) := by rw [h]; rfl
theorem goRB {r : Int × List Int × Int} (h : RB x r) (k : Int → List (List AV) → Int → Option ρ) : (x.bind fun r => (ret1 r).bind fun v => v.tup?.bind fun vs => (uncons? vs).bind fun p1 => (AV.cells? p1.fst).bind fun cs => (uncons? cs).bind fun p2 => (AV.int? .i64 p2.fst).bind fun n =>
    (uncons? p2.snd).bind fun p3 => (AV.list? 1 p3.fst).bind fun es => (nil? p3.snd).bind fun _ => (uncons? p1.snd).bind fun p4 => (AV.int? .i64 p4.fst).bind fun e => (nil? p4.snd).bind fun _ => k n es e) = k r.1 (ints r.2.1) r.2.2 := by
  obtain ⟨a, rfl, h⟩ := h
  show (Option.bind (AV.list? 1 a) fun es => k r.1 es r.2.2) = _
  rw [h]
  rfl
end
theorem un02 : unB [0, 2] [(3, [2])] = [0, 2] := int_ext (un_sorted _ _) (by decide) fun x => by rw [un_mem]; simp
theorem unO02 : unO 3 [0, 2] [(3, [2])] = (3, [0, 2], 0) := by
  rw [unO_of (by decide) (by decide), un02]
theorem f54_true : E cx (Key.fn 54) [] [] = rb true := by
  refine f54.trans ?_
  refine (goJn ((c56 3 [0, 2] (by decide)).trans (by rw [show lstO 3 [0, 2] = ([13], 0) by decide]) : _ = RJ [13] 0) _).trans ?_
  refine (goJn ((n56 8).trans ((c56 8 [] (by decide)).trans (by rw [show lstO 8 [] = ([0, 1], 0) by decide])) : _ = RJ [0, 1] 0) _).trans ?_
  have u1 := c73 [13] (by decide) 3
  rw [show unlO [13] 3 = (3, [0, 2], 0) by decide] at u1
  refine (goRB u1 _).trans ?_
  have u2 := c73 [13] (by decide) 2
  rw [show unlO [13] 2 = (0, [], 4) by decide] at u2
  refine (goRB u2 _).trans ?_
  have u3 := c73 [13, 0] (by decide) 2
  rw [show unlO [13, 0] 2 = (0, [], 2) by decide] at u3
  refine (goRB u3 _).trans ?_
  refine (goJn ((c58 3 [2] (by decide)).trans (by rw [show vecO 3 [2] = ([4], 0) by decide]) : _ = RJ [4] 0) _).trans ?_
  have u4 := c75 [4] (by decide) 3
  rw [show unvO [4] 3 = (3, [2], 0) by decide] at u4
  refine (goRB u4 _).trans ?_
  have u5 := c75 [8] (by decide) 3
  rw [show unvO [8] 3 = (0, [], 2) by decide] at u5
  refine (goRB u5 _).trans ?_
  have u6 := c65 3 [0, 2] (by decide) [(3, [2])] (by decide) (by decide)
  rw [unO02] at u6
  refine (goRB u6 _).trans ?_
  refine (goD rfl _ _).trans ?_
  refine (goQ (a := [13]) (b := [13]) rfl _ _).trans ?_
  refine (goD rfl _ _).trans ?_
  refine (goQ (a := [0, 1]) (b := [0, 1]) rfl _ _).trans ?_
  refine (goD rfl _ _).trans ?_
  refine (goT ((c67 3 3 [0, 2] [0, 2] (by decide)).trans (by rw [decide_eq_true ⟨rfl, rfl⟩])) _ _).trans ?_
  refine (goD rfl _ _).trans ?_
  refine (goD rfl _ _).trans ?_
  refine (goD rfl _ _).trans ?_
  refine (goQ (a := [4]) (b := [4]) rfl _ _).trans ?_
  refine (goD rfl _ _).trans ?_
  refine (goT ((c67 3 3 [2] [2] (by decide)).trans (by rw [decide_eq_true ⟨rfl, rfl⟩])) _ _).trans ?_
  refine (goD rfl _ _).trans ?_
  refine (goD rfl _ _).trans ?_
  refine (goT ((c67 3 3 [0, 2] [0, 2] (by decide)).trans (by rw [decide_eq_true ⟨rfl, rfl⟩])) _ _).trans ?_
  refine (goT ((c70 3 3 [2] [0, 2] (by decide) (by decide)).trans (congrArg rb (by decide))) _ _).trans ?_
  refine (goF ((c68 3 3 [2] [0, 2] (by decide) (by decide)).trans (congrArg rb (by decide))) _ _).trans ?_
  refine (goT ((c62 3 2 [0, 2] (by decide)).trans (congrArg rb (by decide))) _ _).trans ?_
  refine (goF ((c62 3 1 [0, 2] (by decide)).trans (congrArg rb (by decide))) _ _).trans ?_
  refine (goT ((c60 3 [0, 2] (by decide)).trans (congrArg rb (by decide))) _ _).trans ?_
  exact goF ((c60 1 [1] (by decide)).trans (congrArg rb (by decide))) _ _
end
/- Bits: raw bits as natural numbers; what the functions tell of bits that are right. -/
section
def Rt (c : Nat) (k : List Nat) : Prop := c ≤ 2048 ∧ k.Pairwise (· < ·) ∧ ∀ x ∈ k, x < c
abbrev zs (k : List Nat) : List Int := k.map Int.ofNat
theorem Rt.right {c : Nat} {k : List Nat} (h : Rt c k) : rightB c (zs k) = true := right_iff.2 ⟨by omega, by have := h.1; omega, ofNat_pw h.2.1, fun x hx => by
  obtain ⟨y, hy, rfl⟩ := List.mem_map.1 hx
  have := h.2.2 y hy
  exact ⟨Int.natCast_nonneg y, show (y : Int) < (c : Int) by omega⟩⟩
theorem Rt.len {c : Nat} {k : List Nat} (h : Rt c k) : (zs k).length ≤ 2048 := right_len h.right
theorem right_Rt {n : Int} {l : List Int} (h : rightB n l = true) : ∃ c k, n = (c : Nat) ∧ l = zs k ∧ Rt c k := by
  obtain ⟨c, k, h1, h2, h3⟩ := right_nat h
  exact ⟨c, k, h1, h2, h3⟩
def cN (n below : Int) : Nat := (pickI n below).toNat
def kN (n below : Int) (raw : List Int) : List Nat := (rawL (pickI n below) raw).map Int.toNat
theorem raw_eq {n below : Int} (hb : 0 < below) (hb2 : below ≤ 2048) (raw : List Int) : pickI n below = (cN n below : Nat) ∧ rawL (pickI n below) raw = zs (kN n below raw) ∧ Rt (cN n below) (kN n below raw) := by
  have hp := pickI_lt (c := n) hb
  obtain ⟨c, k, h1, h2, h3⟩ := right_Rt (raw_right (N := pickI n below) (by omega) (by omega) raw)
  have hc : cN n below = c := by unfold cN; omega
  have hk : kN n below raw = k := by unfold kN; rw [h2, toNat_ofNat]
  rw [hc, hk]
  exact ⟨h1, h2, h3⟩
theorem cN_lt {n below : Int} (hb : 0 < below) : (cN n below : Int) < below := by
  have := pickI_lt (c := n) hb
  unfold cN
  omega
theorem kN_len (n below : Int) (raw : List Int) : (kN n below raw).length ≤ 40 := by
  unfold kN
  rw [List.length_map]
  exact raw_len _ _
theorem c55n {n below : Int} {raw : List Int} (hn : RI n) (hb : 0 < below) (hb2 : below ≤ 2048) (hr : ∀ r ∈ raw, RI r) : E cx (Key.fn 55) [vi n, vi below, .list 0 1 (ints raw)] [] = some (Out.ret (bA (cN n below : Nat) (zs (kN n below raw))), []) := by
  obtain ⟨h1, h2, _⟩ := raw_eq (n := n) hb hb2 raw
  rw [c55 hn hb hb2 hr, h2, h1]
theorem c56n {c : Nat} {k : List Nat} (h : Rt c k) : E cx (Key.fn 56) [bA c (zs k)] [] = RJ (lstB c k) 0 := by
  rw [c56 c (zs k) (by have := h.len; omega)]
  unfold lstO
  rw [h.right, cond_true, toNat_ofNat, Int.toNat_natCast]
theorem c58n {c : Nat} {k : List Nat} (h : Rt c k) : E cx (Key.fn 58) [bA c (zs k)] [] = RJ (vecB c k) 0 := by
  rw [c58 c (zs k) (by have := h.len; omega)]
  unfold vecO
  rw [h.right, cond_true, toNat_ofNat, Int.toNat_natCast]
theorem c67n {c c' : Nat} {k k' : List Nat} (h : Rt c k) : E cx (Key.fn 67) [bA c (zs k), bA c' (zs k')] [] = rb (decide (c = c' ∧ k = k')) := by
  rw [c67 c c' (zs k) (zs k') (by have := h.len; omega)]
  have : ((c : Int) = (c' : Int) ∧ zs k = zs k') ↔ (c = c' ∧ k = k') := ⟨fun ⟨h1, h2⟩ => ⟨by omega, ofNat_inj h2⟩, fun ⟨h1, h2⟩ => by subst h1 h2; exact ⟨rfl, rfl⟩⟩
  simp only [this]
theorem lst_small {c : Nat} {k : List Nat} (h : Rt c k) : (lstB c k).length ≤ 1000 := by rw [lst_len]; have := h.1; omega
theorem vec_small {c : Nat} {k : List Nat} (h : Rt c k) : (vecB c k).length ≤ 1000 := by rw [vec_len]; have := h.1; omega
theorem RB_cong {x : Option (Out × Heap)} {r r' : Int × List Int × Int} (h : RB x r) (e : r = r') : RB x r' := e ▸ h
theorem c68n {c : Nat} {k k' : List Nat} (h : Rt c k) (h' : Rt c k') : E cx (Key.fn 68) [bA c (zs k), bA c (zs k')] [] = rb (disB (zs k) (zs k')) := by
  rw [c68 c c (zs k) (zs k') (by have := h.len; omega) (by have := h'.len; omega), dis_eq h'.right, h.right, h'.right, decide_eq_true rfl]
  rfl
theorem c70n {c : Nat} {k k' : List Nat} (h : Rt c k) (h' : Rt c k') : E cx (Key.fn 70) [bA c (zs k), bA c (zs k')] [] = rb (subB (zs k) (zs k')) := by
  rw [c70 c c (zs k) (zs k') (by have := h.len; omega) (by have := h'.len; omega), sub_eq h'.right, h.right, h'.right, decide_eq_true rfl]
  rfl
theorem c68o {c : Nat} {m : Int} {k : List Nat} {l : List Int} (h : Rt c k) (hl : l.length ≤ 4000000) (hm : (c : Int) ≠ m) : E cx (Key.fn 68) [bA c (zs k), bA m l] [] = rb false := by
  rw [c68 c m (zs k) l (by have := h.len; omega) hl, decide_eq_false hm]
  simp
theorem c70o {c : Nat} {m : Int} {k : List Nat} {l : List Int} (h : Rt c k) (hl : l.length ≤ 4000000) (hm : (c : Int) ≠ m) : E cx (Key.fn 70) [bA c (zs k), bA m l] [] = rb false := by
  rw [c70 c m (zs k) l (by have := h.len; omega) hl, decide_eq_false hm]
  simp
/-- A union's numbers. -/
def unN (k : List Nat) (K : List (List Nat)) (c : Nat) : List Nat := (unB (zs k) (K.map fun x => ((c : Int), zs x))).map Int.toNat
theorem un_nat {c : Nat} {k : List Nat} {K : List (List Nat)} (h : Rt c k) (hK : ∀ x ∈ K, Rt c x) : unB (zs k) (K.map fun x => ((c : Int), zs x)) = zs (unN k K c) ∧ Rt c (unN k K c) := by
  obtain ⟨c', k', h1, h2, h3⟩ := right_Rt (un_right h.right (L := K.map fun x => ((c : Int), zs x)) fun t ht => by
    obtain ⟨x, hx, rfl⟩ := List.mem_map.1 ht
    exact alike_iff.2 ⟨h.right, (hK x hx).right, rfl⟩)
  have hc : c = c' := by omega
  subst hc
  have hk : unN k K c = k' := by unfold unN; rw [h2, toNat_ofNat]
  rw [hk]
  exact ⟨h2, h3⟩
theorem c65n {c : Nat} {k : List Nat} {K : List (List Nat)} (h : Rt c k) (hK : ∀ x ∈ K, Rt c x) (hl : K.length ≤ 900) : RB (E cx (Key.fn 65) [bA c (zs k), .list 0 2 (brs (K.map fun x => ((c : Int), zs x)))] []) (c, zs (unN k K c), 0) := by
  have u := c65 c (zs k) (by have := h.len; omega) (K.map fun x => ((c : Int), zs x)) (by rw [List.length_map]; exact hl) fun t ht => by
    obtain ⟨x, hx, rfl⟩ := List.mem_map.1 ht
    have := (hK x hx).len
    show (zs x).length ≤ 4000
    omega
  rw [unO_of h.right fun t ht => by
    obtain ⟨x, hx, rfl⟩ := List.mem_map.1 ht
    exact alike_iff.2 ⟨h.right, (hK x hx).right, rfl⟩, (un_nat h hK).1] at u
  exact u
theorem unN_mem {c : Nat} {k : List Nat} {K : List (List Nat)} (h : Rt c k) (hK : ∀ x ∈ K, Rt c x) {y : Nat} : y ∈ unN k K c ↔ y ∈ k ∨ ∃ x ∈ K, y ∈ x := by
  rw [← mem_ofNat, show List.map Int.ofNat (unN k K c) = zs (unN k K c) from rfl, ← (un_nat h hK).1, un_mem, mem_ofNat]
  constructor
  · rintro (h | ⟨t, ht, hy⟩)
    · exact .inl h
    · obtain ⟨x, hx, rfl⟩ := List.mem_map.1 ht
      exact .inr ⟨x, hx, mem_ofNat.1 hy⟩
  · rintro (h | ⟨x, hx, hy⟩)
    · exact .inl h
    · exact .inr ⟨_, List.mem_map.2 ⟨x, hx, rfl⟩, mem_ofNat.2 hy⟩
theorem unN_len {c : Nat} {k : List Nat} {K : List (List Nat)} (h : Rt c k) (hK : ∀ x ∈ K, Rt c x) : (unN k K c).length ≤ (k ++ K.flatten).length := nodup_len ((un_nat h hK).2.2.1.imp fun h => by omega) fun y hy => by
  rw [List.mem_append, List.mem_flatten]
  rcases (unN_mem h hK).1 hy with h | ⟨x, h1, h2⟩
  · exact .inl h
  · exact .inr ⟨x, h1, h2⟩
theorem disN {k k' : List Nat} : disB (zs k) (zs k') = true ↔ ∀ x ∈ k, ¬ x ∈ k' := by
  rw [disB_iff]
  constructor
  · intro h x hx hx'
    exact h x (mem_ofNat.2 hx) (mem_ofNat.2 hx')
  · intro h x hx hx'
    obtain ⟨y, hy, rfl⟩ := List.mem_map.1 hx
    exact h y hy (mem_ofNat.1 hx')
theorem subN {k k' : List Nat} : subB (zs k) (zs k') = true ↔ ∀ x ∈ k, x ∈ k' := by
  rw [subB_iff]
  constructor
  · intro h x hx
    exact mem_ofNat.1 (h x (mem_ofNat.2 hx))
  · intro h x hx
    obtain ⟨y, hy, rfl⟩ := List.mem_map.1 hx
    exact mem_ofNat.2 (h y hy)
end
end Go.Proofs.Av
