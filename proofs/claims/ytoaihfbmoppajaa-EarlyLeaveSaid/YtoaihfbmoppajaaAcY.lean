/- The small functions' trees. -/
import Derived.Test.YtoaihfbmoppajaaAcX
set_option maxRecDepth 100000
namespace Go.Proofs.Av
open Go
theorem f26 : ∀ (raw775 : List (List AV)),
 E cx (Key.fn 26) [AV.list 0 3 raw775] [] =
 Option.bind
 (E cx (Key.loop 26 [true, true, false, true, false])
 [AV.list 0 4 [], vi 0, AV.list 0 3 raw775] [])
 fun r776 ↦
 Option.bind (asJump r776) fun j777 ↦
 bif JX.is j777.fst (JX.exit 0) then
 Option.bind (uncons? j777.snd.fst) fun p778 ↦
 Option.bind (AV.list? 4 p778.fst) fun es779 ↦
 Option.bind (uncons? p778.snd) fun p780 ↦
 Option.bind (AV.int? IntKind.i64 p780.fst) fun _ ↦
 Option.bind (nil? p780.snd) fun _ ↦
 Option.bind (nil? j777.snd.snd) fun _ ↦ some (Out.ret (AV.list 0 4 es779), [])
 else none := by
  intros
  exact (E_fast _ _ _ _).trans (by kernel_rfl)

theorem f26_l0 : ∀ (l784 : List (List AV)) (x785 : Int) (l786 : List (List AV)),
 E cx (Key.loop 26 [true, true, false, true, false])
 [AV.list 0 4 l784, vi x785, AV.list 0 3 l786] [] =
 bif decide (x785 < ((List.length l786) : Int)) then
 bif decide (x785 < 30) then
 if 0 ≤ x785 then
 Option.bind l786[Int.toNat x785]? fun cs787 ↦
 Option.bind (uncons? cs787) fun p788 ↦
 Option.bind (AV.int? IntKind.i64 p788.fst) fun n789 ↦
 Option.bind (uncons? p788.snd) fun p790 ↦
 Option.bind (AV.int? IntKind.i64 p790.fst) fun n791 ↦
 Option.bind (uncons? p790.snd) fun p792 ↦
 Option.bind (AV.int? IntKind.i64 p792.fst) fun n793 ↦
 Option.bind (nil? p792.snd) fun _ ↦
 Option.bind
 (E cx (Key.fn 27)
 [AV.agg [vi n789, vi n791, vi n793]] [])
 fun r795 ↦
 Option.bind (ret1 r795) fun v796 ↦
 Option.bind (AV.cells? v796) fun cs797 ↦
 Option.bind (uncons? cs797) fun p798 ↦
 Option.bind (AV.int? IntKind.i64 p798.fst) fun n799 ↦
 Option.bind (uncons? p798.snd) fun p800 ↦
 Option.bind (AV.int? IntKind.i64 p800.fst) fun n801 ↦
 Option.bind (uncons? p800.snd) fun p802 ↦
 Option.bind (AV.int? IntKind.i64 p802.fst) fun n803 ↦
 Option.bind (uncons? p802.snd) fun p804 ↦
 Option.bind (AV.str? p804.fst) fun s805 ↦
 Option.bind (nil? p804.snd) fun _ ↦
 Option.bind
 (E cx (Key.fn 30)
 [AV.list 0 4 l784, vi 100,
 AV.agg
 [vi n799, vi n801, vi n803, vs s805]]
 [])
 fun r807 ↦
 Option.bind (ret1 r807) fun v808 ↦
 Option.bind (AV.tup? v808) fun vs809 ↦
 Option.bind (uncons? vs809) fun p810 ↦
 Option.bind (AV.list? 4 p810.fst) fun es811 ↦
 Option.bind (uncons? p810.snd) fun p812 ↦
 Option.bind (AV.int? IntKind.i64 p812.fst) fun n813 ↦
 Option.bind (nil? p812.snd) fun _ ↦
 bif decide (n813 = 0) then
 E cx (Key.loop 26 [true, true, false, true, false])
 [AV.list 0 4 es811,
 vi (IntKind.wrap IntKind.i64 (Int.add x785 1)),
 AV.list 0 3 l786]
 []
 else
 E cx (Key.loop 26 [true, true, false, true, false])
 [AV.list 0 4 l784,
 vi (IntKind.wrap IntKind.i64 (Int.add x785 1)),
 AV.list 0 3 l786]
 []
 else none
 else some (Out.jump (JX.exit 0) [AV.list 0 4 l784, vi x785], [])
 else some (Out.jump (JX.exit 0) [AV.list 0 4 l784, vi x785], []) := by
  intros
  exact (E_fast _ _ _ _).trans (by kernel_rfl)


theorem f27 : ∀ (n815 n816 n817 : Int),
 E cx (Key.fn 27) [AV.agg [vi n815, vi n816, vi n817]] [] =
 Option.bind (E cx (Key.fn 28) [vi n815, vi 6] []) fun r818 ↦
 Option.bind (ret1 r818) fun v819 ↦
 Option.bind (AV.int? IntKind.i64 v819) fun n820 ↦
 Option.bind (E cx (Key.fn 28) [vi n816, vi 8] []) fun r821 ↦
 Option.bind (ret1 r821) fun v822 ↦
 Option.bind (AV.int? IntKind.i64 v822) fun n823 ↦
 Option.bind (E cx (Key.fn 28) [vi n817, vi 4] []) fun r824 ↦
 Option.bind (ret1 r824) fun v825 ↦
 Option.bind (AV.int? IntKind.i64 v825) fun n826 ↦
 Option.bind
 (E cx (Key.fn 28)
 [vi (IntKind.wrap IntKind.i64 (Int.tdiv n817 4)), vi 3] [])
 fun r827 ↦
 Option.bind (ret1 r827) fun v828 ↦
 Option.bind (AV.int? IntKind.i64 v828) fun n829 ↦
 if 0 ≤ n829 then
 Option.bind
 [[vs (ByteArray.mk (Array.mk []))], [vs (ByteArray.mk (Array.mk [UInt8.ofNat 97]))],
 [vs (ByteArray.mk (Array.mk [UInt8.ofNat 98, UInt8.ofNat 99]))]][Int.toNat n829]?
 fun cs830 ↦
 Option.bind (uncons? cs830) fun p831 ↦
 Option.bind (AV.str? p831.fst) fun s832 ↦
 Option.bind (nil? p831.snd) fun _ ↦
 some
 (Out.ret
 (AV.agg [vi n820, vi n823, vi n826, vs s832]),
 [])
 else none := by
  intros
  exact (E_fast _ _ _ _).trans (by kernel_rfl)


theorem f28 : ∀ (c834 n835 : Int),
 E cx (Key.fn 28) [vi c834, vi n835] [] =
 bif decide (c834 < 0) then
 if n835 = 0 then none
 else
 some
 (Out.ret
 (vi (Int.tmod (IntKind.wrap IntKind.i64 (Int.sub 0 (IntKind.wrap IntKind.i64 (Int.add c834 1)))) n835)),
 [])
 else if n835 = 0 then none else some (Out.ret (vi (Int.tmod c834 n835)), []) := by
  intros
  exact (E_fast _ _ _ _).trans (by kernel_rfl)


theorem f29 : ∀ (q836 : List (List AV)) (room837 w838 w839 w840 : Int) (w841 : ByteArray),
 E cx (Key.fn 29)
 [AV.list 0 4 q836, vi room837,
 AV.agg [vi w838, vi w839, vi w840, vs w841]]
 [] =
 Option.bind (E cx (Key.fn 36) [AV.list 0 4 q836] []) fun r842 ↦
 Option.bind (ret1 r842) fun v843 ↦
 Option.bind (AV.bool? v843) fun b844 ↦
 bif b844 then
 Option.bind
 (E cx (Key.fn 43)
 [AV.agg [vi w838, vi w839, vi w840, vs w841]] [])
 fun r845 ↦
 Option.bind (ret1 r845) fun v846 ↦
 Option.bind (AV.bool? v846) fun b847 ↦
 bif b847 then
 Option.bind
 (E cx (Key.fn 44)
 [vi ((List.length q836) : Int),
 AV.func (Go.Fn.func 45) []
 [AV.rop [AV.list 0 4 q836],
 AV.rop [vi w838, vi w839, vi w840, vs w841]]]
 [])
 fun r848 ↦
 Option.bind (ret1 r848) fun v849 ↦
 Option.bind (AV.int? IntKind.i64 v849) fun n850 ↦
 bif decide (n850 < ((List.length q836) : Int)) then
 if 0 ≤ n850 then
 Option.bind q836[Int.toNat n850]? fun cs851 ↦
 Option.bind (uncons? cs851) fun p852 ↦
 Option.bind (AV.int? IntKind.i64 p852.fst) fun n853 ↦
 Option.bind (uncons? p852.snd) fun p854 ↦
 Option.bind (AV.int? IntKind.i64 p854.fst) fun n855 ↦
 Option.bind (uncons? p854.snd) fun p856 ↦
 Option.bind (AV.int? IntKind.i64 p856.fst) fun n857 ↦
 Option.bind (uncons? p856.snd) fun p858 ↦
 Option.bind (AV.str? p858.fst) fun s859 ↦
 Option.bind (nil? p858.snd) fun _ ↦
 Option.bind
 (E cx (Key.fn 46)
 [AV.agg
 [vi w838, vi w839, vi w840, vs w841],
 AV.agg
 [vi n853, vi n855, vi n857, vs s859]]
 [])
 fun r861 ↦
 Option.bind (ret1 r861) fun v862 ↦
 Option.bind (AV.bool? v862) fun b863 ↦
 bif b863 then
 some
 (Out.ret
 (AV.tuple [AV.val (Go.Value.slice none 0 0), vi 7]),
 [])
 else
 bif decide (((List.length q836) : Int) ≥ room837) then
 some
 (Out.ret
 (AV.tuple [AV.val (Go.Value.slice none 0 0), vi 5]),
 [])
 else
 if 0 ≤ IntKind.wrap IntKind.i64 (Int.add (((List.length q836) : Int)) 1) then
 if
 IntKind.wrap IntKind.i64 (Int.add (((List.length q836) : Int)) 1) ≤
 IntKind.wrap IntKind.i64 (Int.add (((List.length q836) : Int)) 1) then
 if
 Int.mul 40 (IntKind.wrap IntKind.i64 (Int.add (((List.length q836) : Int)) 1)) ≤
 281474976710656 then
 if 0 ≤ n850 then
 if n850 ≤ ((List.length q836) : Int) then
 bif ysOk (List.drop 0 (List.take (Int.toNat n850) q836)) then
 Option.bind
 (chkLe
 (Nat.add 0
 (Int.toNat (IntKind.wrap IntKind.i64 (Int.add (((List.length q836) : Int)) 1))))
 (List.length
 (Ob.mk OK.arr 50 4 4
 (List.replicate
 (Int.toNat
 (IntKind.wrap IntKind.i64 (Int.add (((List.length q836) : Int)) 1)))
 [vi 0, vi 0, vi 0,
 vs (ByteArray.mk (Array.mk []))])).es))
 fun _ ↦
 if 0 ≤ n850 then
 if
 n850 <
 ((Int.toNat
 (IntKind.wrap IntKind.i64 (Int.add (((List.length q836) : Int)) 1))) : Int) then
 Option.bind
 (nth
 ([] ++
 List.take
 (Nat.min (List.length (List.drop 0 (List.take (Int.toNat n850) q836)))
 (Int.toNat
 (IntKind.wrap IntKind.i64 (Int.add (((List.length q836) : Int)) 1))))
 (List.drop 0 (List.take (Int.toNat n850) q836)) ++
 List.drop
 (Nat.add 0
 (Nat.min (List.length (List.drop 0 (List.take (Int.toNat n850) q836)))
 (Int.toNat
 (IntKind.wrap IntKind.i64
 (Int.add (((List.length q836) : Int)) 1)))))
 (Ob.mk OK.arr 50 4 4
 (List.replicate
 (Int.toNat
 (IntKind.wrap IntKind.i64
 (Int.add (((List.length q836) : Int)) 1)))
 [vi 0, vi 0, vi 0,
 vs (ByteArray.mk (Array.mk []))])).es)
 (Nat.add 0 (Int.toNat n850)))
 fun cs865 ↦
 Option.bind (uncons? cs865) fun p866 ↦
 Option.bind (AV.int? IntKind.i64 p866.fst) fun _ ↦
 Option.bind (uncons? p866.snd) fun p868 ↦
 Option.bind (AV.int? IntKind.i64 p868.fst) fun _ ↦
 Option.bind (uncons? p868.snd) fun p870 ↦
 Option.bind (AV.int? IntKind.i64 p870.fst) fun _ ↦
 Option.bind (uncons? p870.snd) fun p872 ↦
 Option.bind (AV.str? p872.fst) fun _ ↦
 Option.bind (nil? p872.snd) fun _ ↦
 if 0 ≤ IntKind.wrap IntKind.i64 (Int.add n850 1) then
 if
 IntKind.wrap IntKind.i64 (Int.add n850 1) ≤
 ((Int.toNat
 (IntKind.wrap IntKind.i64
 (Int.add (((List.length q836) : Int)) 1))) : Int) then
 if 0 ≤ n850 then
 if n850 ≤ ((List.length q836) : Int) then
 bif
 ysOk
 (List.drop (Int.toNat n850)
 (List.take (List.length q836) q836)) then
 Option.bind
 (chkLe
 (Nat.add
 (Nat.add 0
 (Int.toNat
 (IntKind.wrap IntKind.i64
 (Int.add n850 1))))
 (Nat.sub
 (Int.toNat
 (IntKind.wrap IntKind.i64
 (Int.add (((List.length q836) : Int)) 1)))
 (Int.toNat
 (IntKind.wrap IntKind.i64
 (Int.add n850 1)))))
 (List.length
 (Ob.mk OK.arr 50 4 4
 (List.set
 ([] ++
 List.take
 (Nat.min
 (List.length
 (List.drop 0
 (List.take (Int.toNat n850)
 q836)))
 (Int.toNat
 (IntKind.wrap
 IntKind.i64
 (Int.add
 (((List.length q836) : Int))
 1))))
 (List.drop 0
 (List.take (Int.toNat n850)
 q836)) ++
 List.drop
 (Nat.add 0
 (Nat.min
 (List.length
 (List.drop 0
 (List.take (Int.toNat n850)
 q836)))
 (Int.toNat
 (IntKind.wrap
 IntKind.i64
 (Int.add
 (((List.length q836) : Int))
 1)))))
 (Ob.mk
 OK.arr 50 4 4
 (List.replicate
 (Int.toNat
 (IntKind.wrap
 IntKind.i64
 (Int.add
 (((List.length q836) : Int))
 1)))
 [vi 0,
 vi 0,
 vi 0,
 vs
 (ByteArray.mk
 (Array.mk []))])).es)
 (Nat.add 0 (Int.toNat n850))
 [vi w838,
 vi w839,
 vi w840,
 vs w841])).es))
 fun _ ↦
 Option.bind
 (chkLe
 (Nat.add 0
 (Int.toNat
 (IntKind.wrap IntKind.i64
 (Int.add (((List.length q836) : Int)) 1))))
 (List.length
 (List.take
 (Nat.add 0
 (Int.toNat
 (IntKind.wrap IntKind.i64
 (Int.add n850 1))))
 (Ob.mk
 OK.arr 50 4 4
 (List.set
 ([] ++
 List.take
 (Nat.min
 (List.length
 (List.drop 0
 (List.take
 (Int.toNat n850)
 q836)))
 (Int.toNat
 (IntKind.wrap
 IntKind.i64
 (Int.add
 (((List.length
 q836) : Int))
 1))))
 (List.drop 0
 (List.take
 (Int.toNat n850)
 q836)) ++
 List.drop
 (Nat.add 0
 (Nat.min
 (List.length
 (List.drop 0
 (List.take
 (Int.toNat n850)
 q836)))
 (Int.toNat
 (IntKind.wrap
 IntKind.i64
 (Int.add
 (((List.length
 q836) : Int))
 1)))))
 (Ob.mk
 OK.arr 50 4
 4
 (List.replicate
 (Int.toNat
 (IntKind.wrap
 IntKind.i64
 (Int.add
 (((List.length
 q836) : Int))
 1)))
 [vi 0,
 vi 0,
 vi 0,
 vs
 (ByteArray.mk
 (Array.mk
 []))])).es)
 (Nat.add 0 (Int.toNat n850))
 [vi w838,
 vi w839,
 vi w840,
 vs w841])).es ++
 List.take
 (Nat.min
 (List.length
 (List.drop (Int.toNat n850)
 (List.take (List.length q836)
 q836)))
 (Nat.sub
 (Int.toNat
 (IntKind.wrap IntKind.i64
 (Int.add (((List.length q836) : Int))
 1)))
 (Int.toNat
 (IntKind.wrap IntKind.i64
 (Int.add n850 1)))))
 (List.drop (Int.toNat n850)
 (List.take (List.length q836)
 q836)) ++
 List.drop
 (Nat.add
 (Nat.add 0
 (Int.toNat
 (IntKind.wrap IntKind.i64
 (Int.add n850 1))))
 (Nat.min
 (List.length
 (List.drop (Int.toNat n850)
 (List.take (List.length q836)
 q836)))
 (Nat.sub
 (Int.toNat
 (IntKind.wrap IntKind.i64
 (Int.add (((List.length q836) : Int))
 1)))
 (Int.toNat
 (IntKind.wrap IntKind.i64
 (Int.add n850 1))))))
 (Ob.mk OK.arr
 50 4 4
 (List.set
 ([] ++
 List.take
 (Nat.min
 (List.length
 (List.drop 0
 (List.take
 (Int.toNat n850)
 q836)))
 (Int.toNat
 (IntKind.wrap
 IntKind.i64
 (Int.add
 (((List.length
 q836) : Int))
 1))))
 (List.drop 0
 (List.take
 (Int.toNat n850)
 q836)) ++
 List.drop
 (Nat.add 0
 (Nat.min
 (List.length
 (List.drop 0
 (List.take
 (Int.toNat n850)
 q836)))
 (Int.toNat
 (IntKind.wrap
 IntKind.i64
 (Int.add
 (((List.length
 q836) : Int))
 1)))))
 (Ob.mk
 OK.arr 50 4 4
 (List.replicate
 (Int.toNat
 (IntKind.wrap
 IntKind.i64
 (Int.add
 (((List.length
 q836) : Int))
 1)))
 [vi 0,
 vi 0,
 vi 0,
 vs
 (ByteArray.mk
 (Array.mk
 []))])).es)
 (Nat.add 0 (Int.toNat n850))
 [vi w838,
 vi w839,
 vi w840,
 vs w841])).es)))
 fun _ ↦
 some
 (Out.ret
 (AV.tuple
 [AV.list 0 4
 (List.drop 0
 (List.take
 (Nat.add 0
 (Int.toNat
 (IntKind.wrap
 IntKind.i64
 (Int.add
 (((List.length q836) : Int))
 1))))
 (List.take
 (Nat.add 0
 (Int.toNat
 (IntKind.wrap
 IntKind.i64
 (Int.add n850 1))))
 (Ob.mk
 OK.arr 50
 4 4
 (List.set
 ([] ++
 List.take
 (Nat.min
 (List.length
 (List.drop
 0
 (List.take
 (Int.toNat
 n850)
 q836)))
 (Int.toNat
 (IntKind.wrap
 IntKind.i64
 (Int.add
 (((List.length
 q836) : Int))
 1))))
 (List.drop 0
 (List.take
 (Int.toNat
 n850)
 q836)) ++
 List.drop
 (Nat.add 0
 (Nat.min
 (List.length
 (List.drop
 0
 (List.take
 (Int.toNat
 n850)
 q836)))
 (Int.toNat
 (IntKind.wrap
 IntKind.i64
 (Int.add
 (((List.length
 q836) : Int))
 1)))))
 (Ob.mk
 OK.arr
 50 4 4
 (List.replicate
 (Int.toNat
 (IntKind.wrap
 IntKind.i64
 (Int.add
 (((List.length
 q836) : Int))
 1)))
 [vi
 0,
 vi
 0,
 vi
 0,
 vs
 (ByteArray.mk
 (Array.mk
 []))])).es)
 (Nat.add 0
 (Int.toNat n850))
 [vi
 w838,
 vi
 w839,
 vi
 w840,
 vs
 w841])).es ++
 List.take
 (Nat.min
 (List.length
 (List.drop
 (Int.toNat n850)
 (List.take
 (List.length q836)
 q836)))
 (Nat.sub
 (Int.toNat
 (IntKind.wrap
 IntKind.i64
 (Int.add
 (((List.length
 q836) : Int))
 1)))
 (Int.toNat
 (IntKind.wrap
 IntKind.i64
 (Int.add n850
 1)))))
 (List.drop
 (Int.toNat n850)
 (List.take
 (List.length q836)
 q836)) ++
 List.drop
 (Nat.add
 (Nat.add 0
 (Int.toNat
 (IntKind.wrap
 IntKind.i64
 (Int.add n850 1))))
 (Nat.min
 (List.length
 (List.drop
 (Int.toNat n850)
 (List.take
 (List.length q836)
 q836)))
 (Nat.sub
 (Int.toNat
 (IntKind.wrap
 IntKind.i64
 (Int.add
 (((List.length
 q836) : Int))
 1)))
 (Int.toNat
 (IntKind.wrap
 IntKind.i64
 (Int.add n850
 1))))))
 (Ob.mk
 OK.arr 50 4
 4
 (List.set
 ([] ++
 List.take
 (Nat.min
 (List.length
 (List.drop 0
 (List.take
 (Int.toNat
 n850)
 q836)))
 (Int.toNat
 (IntKind.wrap
 IntKind.i64
 (Int.add
 (((List.length
 q836) : Int))
 1))))
 (List.drop 0
 (List.take
 (Int.toNat
 n850)
 q836)) ++
 List.drop
 (Nat.add 0
 (Nat.min
 (List.length
 (List.drop 0
 (List.take
 (Int.toNat
 n850)
 q836)))
 (Int.toNat
 (IntKind.wrap
 IntKind.i64
 (Int.add
 (((List.length
 q836) : Int))
 1)))))
 (Ob.mk
 OK.arr
 50 4 4
 (List.replicate
 (Int.toNat
 (IntKind.wrap
 IntKind.i64
 (Int.add
 (((List.length
 q836) : Int))
 1)))
 [vi
 0,
 vi
 0,
 vi
 0,
 vs
 (ByteArray.mk
 (Array.mk
 []))])).es)
 (Nat.add 0
 (Int.toNat n850))
 [vi w838,
 vi
 w839,
 vi
 w840,
 vs
 w841])).es))),
 vi 0]),
 [])
 else none
 else none
 else none
 else none
 else none
 else none
 else none
 else none
 else none
 else none
 else none
 else none
 else none
 else none
 else
 bif decide (((List.length q836) : Int) ≥ room837) then
 some (Out.ret (AV.tuple [AV.val (Go.Value.slice none 0 0), vi 5]), [])
 else
 if 0 ≤ IntKind.wrap IntKind.i64 (Int.add (((List.length q836) : Int)) 1) then
 if
 IntKind.wrap IntKind.i64 (Int.add (((List.length q836) : Int)) 1) ≤
 IntKind.wrap IntKind.i64 (Int.add (((List.length q836) : Int)) 1) then
 if Int.mul 40 (IntKind.wrap IntKind.i64 (Int.add (((List.length q836) : Int)) 1)) ≤ 281474976710656 then
 if 0 ≤ n850 then
 if n850 ≤ ((List.length q836) : Int) then
 bif ysOk (List.drop 0 (List.take (Int.toNat n850) q836)) then
 Option.bind
 (chkLe (Nat.add 0 (Int.toNat (IntKind.wrap IntKind.i64 (Int.add (((List.length q836) : Int)) 1))))
 (List.length
 (Ob.mk OK.arr 50 4 4
 (List.replicate (Int.toNat (IntKind.wrap IntKind.i64 (Int.add (((List.length q836) : Int)) 1)))
 [vi 0, vi 0, vi 0,
 vs (ByteArray.mk (Array.mk []))])).es))
 fun _ ↦
 if 0 ≤ n850 then
 if n850 < ((Int.toNat (IntKind.wrap IntKind.i64 (Int.add (((List.length q836) : Int)) 1))) : Int) then
 Option.bind
 (nth
 ([] ++
 List.take
 (Nat.min (List.length (List.drop 0 (List.take (Int.toNat n850) q836)))
 (Int.toNat (IntKind.wrap IntKind.i64 (Int.add (((List.length q836) : Int)) 1))))
 (List.drop 0 (List.take (Int.toNat n850) q836)) ++
 List.drop
 (Nat.add 0
 (Nat.min (List.length (List.drop 0 (List.take (Int.toNat n850) q836)))
 (Int.toNat (IntKind.wrap IntKind.i64 (Int.add (((List.length q836) : Int)) 1)))))
 (Ob.mk OK.arr 50 4 4
 (List.replicate (Int.toNat (IntKind.wrap IntKind.i64 (Int.add (((List.length q836) : Int)) 1)))
 [vi 0, vi 0, vi 0,
 vs (ByteArray.mk (Array.mk []))])).es)
 (Nat.add 0 (Int.toNat n850)))
 fun cs878 ↦
 Option.bind (uncons? cs878) fun p879 ↦
 Option.bind (AV.int? IntKind.i64 p879.fst) fun _ ↦
 Option.bind (uncons? p879.snd) fun p881 ↦
 Option.bind (AV.int? IntKind.i64 p881.fst) fun _ ↦
 Option.bind (uncons? p881.snd) fun p883 ↦
 Option.bind (AV.int? IntKind.i64 p883.fst) fun _ ↦
 Option.bind (uncons? p883.snd) fun p885 ↦
 Option.bind (AV.str? p885.fst) fun _ ↦
 Option.bind (nil? p885.snd) fun _ ↦
 if 0 ≤ IntKind.wrap IntKind.i64 (Int.add n850 1) then
 if
 IntKind.wrap IntKind.i64 (Int.add n850 1) ≤
 ((Int.toNat (IntKind.wrap IntKind.i64 (Int.add (((List.length q836) : Int)) 1))) : Int) then
 if 0 ≤ n850 then
 if n850 ≤ ((List.length q836) : Int) then
 bif
 ysOk
 (List.drop (Int.toNat n850) (List.take (List.length q836) q836)) then
 Option.bind
 (chkLe
 (Nat.add
 (Nat.add 0 (Int.toNat (IntKind.wrap IntKind.i64 (Int.add n850 1))))
 (Nat.sub
 (Int.toNat
 (IntKind.wrap IntKind.i64 (Int.add (((List.length q836) : Int)) 1)))
 (Int.toNat (IntKind.wrap IntKind.i64 (Int.add n850 1)))))
 (List.length
 (Ob.mk OK.arr 50 4 4
 (List.set
 ([] ++
 List.take
 (Nat.min
 (List.length (List.drop 0 (List.take (Int.toNat n850) q836)))
 (Int.toNat
 (IntKind.wrap IntKind.i64
 (Int.add (((List.length q836) : Int)) 1))))
 (List.drop 0 (List.take (Int.toNat n850) q836)) ++
 List.drop
 (Nat.add 0
 (Nat.min
 (List.length (List.drop 0 (List.take (Int.toNat n850) q836)))
 (Int.toNat
 (IntKind.wrap IntKind.i64
 (Int.add (((List.length q836) : Int)) 1)))))
 (Ob.mk OK.arr 50 4 4
 (List.replicate
 (Int.toNat
 (IntKind.wrap IntKind.i64
 (Int.add (((List.length q836) : Int)) 1)))
 [vi 0, vi 0, vi 0,
 vs (ByteArray.mk (Array.mk []))])).es)
 (Nat.add 0 (Int.toNat n850))
 [vi w838, vi w839, vi w840,
 vs w841])).es))
 fun _ ↦
 Option.bind
 (chkLe
 (Nat.add 0
 (Int.toNat
 (IntKind.wrap IntKind.i64 (Int.add (((List.length q836) : Int)) 1))))
 (List.length
 (List.take
 (Nat.add 0
 (Int.toNat (IntKind.wrap IntKind.i64 (Int.add n850 1))))
 (Ob.mk OK.arr 50 4 4
 (List.set
 ([] ++
 List.take
 (Nat.min
 (List.length
 (List.drop 0 (List.take (Int.toNat n850) q836)))
 (Int.toNat
 (IntKind.wrap IntKind.i64
 (Int.add (((List.length q836) : Int)) 1))))
 (List.drop 0 (List.take (Int.toNat n850) q836)) ++
 List.drop
 (Nat.add 0
 (Nat.min
 (List.length
 (List.drop 0 (List.take (Int.toNat n850) q836)))
 (Int.toNat
 (IntKind.wrap IntKind.i64
 (Int.add (((List.length q836) : Int)) 1)))))
 (Ob.mk OK.arr 50 4 4
 (List.replicate
 (Int.toNat
 (IntKind.wrap IntKind.i64
 (Int.add (((List.length q836) : Int)) 1)))
 [vi 0, vi 0,
 vi 0,
 vs
 (ByteArray.mk (Array.mk []))])).es)
 (Nat.add 0 (Int.toNat n850))
 [vi w838, vi w839,
 vi w840, vs w841])).es ++
 List.take
 (Nat.min
 (List.length
 (List.drop (Int.toNat n850)
 (List.take (List.length q836) q836)))
 (Nat.sub
 (Int.toNat
 (IntKind.wrap IntKind.i64
 (Int.add (((List.length q836) : Int)) 1)))
 (Int.toNat (IntKind.wrap IntKind.i64 (Int.add n850 1)))))
 (List.drop (Int.toNat n850) (List.take (List.length q836) q836)) ++
 List.drop
 (Nat.add
 (Nat.add 0
 (Int.toNat (IntKind.wrap IntKind.i64 (Int.add n850 1))))
 (Nat.min
 (List.length
 (List.drop (Int.toNat n850)
 (List.take (List.length q836) q836)))
 (Nat.sub
 (Int.toNat
 (IntKind.wrap IntKind.i64
 (Int.add (((List.length q836) : Int)) 1)))
 (Int.toNat (IntKind.wrap IntKind.i64 (Int.add n850 1))))))
 (Ob.mk OK.arr 50 4 4
 (List.set
 ([] ++
 List.take
 (Nat.min
 (List.length
 (List.drop 0 (List.take (Int.toNat n850) q836)))
 (Int.toNat
 (IntKind.wrap IntKind.i64
 (Int.add (((List.length q836) : Int)) 1))))
 (List.drop 0 (List.take (Int.toNat n850) q836)) ++
 List.drop
 (Nat.add 0
 (Nat.min
 (List.length
 (List.drop 0 (List.take (Int.toNat n850) q836)))
 (Int.toNat
 (IntKind.wrap IntKind.i64
 (Int.add (((List.length q836) : Int)) 1)))))
 (Ob.mk OK.arr 50 4 4
 (List.replicate
 (Int.toNat
 (IntKind.wrap IntKind.i64
 (Int.add (((List.length q836) : Int)) 1)))
 [vi 0, vi 0,
 vi 0,
 vs (ByteArray.mk (Array.mk []))])).es)
 (Nat.add 0 (Int.toNat n850))
 [vi w838, vi w839,
 vi w840, vs w841])).es)))
 fun _ ↦
 some
 (Out.ret
 (AV.tuple
 [AV.list 0 4
 (List.drop 0
 (List.take
 (Nat.add 0
 (Int.toNat
 (IntKind.wrap IntKind.i64
 (Int.add (((List.length q836) : Int)) 1))))
 (List.take
 (Nat.add 0
 (Int.toNat
 (IntKind.wrap IntKind.i64 (Int.add n850 1))))
 (Ob.mk OK.arr 50 4 4
 (List.set
 ([] ++
 List.take
 (Nat.min
 (List.length
 (List.drop 0
 (List.take (Int.toNat n850) q836)))
 (Int.toNat
 (IntKind.wrap IntKind.i64
 (Int.add (((List.length q836) : Int)) 1))))
 (List.drop 0
 (List.take (Int.toNat n850) q836)) ++
 List.drop
 (Nat.add 0
 (Nat.min
 (List.length
 (List.drop 0
 (List.take (Int.toNat n850) q836)))
 (Int.toNat
 (IntKind.wrap IntKind.i64
 (Int.add (((List.length q836) : Int)) 1)))))
 (Ob.mk OK.arr 50 4 4
 (List.replicate
 (Int.toNat
 (IntKind.wrap IntKind.i64
 (Int.add (((List.length q836) : Int)) 1)))
 [vi 0, vi 0,
 vi 0,
 vs
 (ByteArray.mk (Array.mk []))])).es)
 (Nat.add 0 (Int.toNat n850))
 [vi w838, vi w839,
 vi w840,
 vs w841])).es ++
 List.take
 (Nat.min
 (List.length
 (List.drop (Int.toNat n850)
 (List.take (List.length q836) q836)))
 (Nat.sub
 (Int.toNat
 (IntKind.wrap IntKind.i64
 (Int.add (((List.length q836) : Int)) 1)))
 (Int.toNat
 (IntKind.wrap IntKind.i64
 (Int.add n850 1)))))
 (List.drop (Int.toNat n850)
 (List.take (List.length q836) q836)) ++
 List.drop
 (Nat.add
 (Nat.add 0
 (Int.toNat
 (IntKind.wrap IntKind.i64 (Int.add n850 1))))
 (Nat.min
 (List.length
 (List.drop (Int.toNat n850)
 (List.take (List.length q836) q836)))
 (Nat.sub
 (Int.toNat
 (IntKind.wrap IntKind.i64
 (Int.add (((List.length q836) : Int)) 1)))
 (Int.toNat
 (IntKind.wrap IntKind.i64
 (Int.add n850 1))))))
 (Ob.mk OK.arr 50 4 4
 (List.set
 ([] ++
 List.take
 (Nat.min
 (List.length
 (List.drop 0
 (List.take (Int.toNat n850) q836)))
 (Int.toNat
 (IntKind.wrap IntKind.i64
 (Int.add (((List.length q836) : Int)) 1))))
 (List.drop 0
 (List.take (Int.toNat n850) q836)) ++
 List.drop
 (Nat.add 0
 (Nat.min
 (List.length
 (List.drop 0
 (List.take (Int.toNat n850) q836)))
 (Int.toNat
 (IntKind.wrap IntKind.i64
 (Int.add (((List.length q836) : Int)) 1)))))
 (Ob.mk OK.arr 50 4 4
 (List.replicate
 (Int.toNat
 (IntKind.wrap IntKind.i64
 (Int.add (((List.length q836) : Int)) 1)))
 [vi 0, vi 0,
 vi 0,
 vs
 (ByteArray.mk (Array.mk []))])).es)
 (Nat.add 0 (Int.toNat n850))
 [vi w838, vi w839,
 vi w840,
 vs w841])).es))),
 vi 0]),
 [])
 else none
 else none
 else none
 else none
 else none
 else none
 else none
 else none
 else none
 else none
 else none
 else none
 else none
 else some (Out.ret (AV.tuple [AV.val (Go.Value.slice none 0 0), vi 1]), [])
 else some (Out.ret (AV.tuple [AV.val (Go.Value.slice none 0 0), vi 1]), []) := by
  intros
  exact (E_fast _ _ _ _).trans (by kernel_rfl)

theorem f29_c0 : ∀ (x890 : Int) (l891 : List (List AV)) (x892 x893 x894 : Int) (s895 : ByteArray),
 E cx (Key.fn 44)
 [vi x890,
 AV.func (Go.Fn.func 45) []
 [AV.rop [AV.list 0 4 l891],
 AV.rop [vi x892, vi x893, vi x894, vs s895]]]
 [] =
 Option.bind
 (E cx (Key.loop 44 [true, true, false, false])
 [vi 0, vi x890,
 AV.func (Go.Fn.func 45) []
 [AV.rop [AV.list 0 4 l891],
 AV.rop [vi x892, vi x893, vi x894, vs s895]]]
 [])
 fun r896 ↦
 Option.bind (asJump r896) fun j897 ↦
 bif JX.is j897.fst (JX.exit 0) then
 Option.bind (uncons? j897.snd.fst) fun p898 ↦
 Option.bind (AV.int? IntKind.i64 p898.fst) fun n899 ↦
 Option.bind (uncons? p898.snd) fun p900 ↦
 Option.bind (AV.int? IntKind.i64 p900.fst) fun _ ↦
 Option.bind (nil? p900.snd) fun _ ↦
 Option.bind (nil? j897.snd.snd) fun _ ↦ some (Out.ret (vi n899), [])
 else none := by
  intros
  exact (E_fast _ _ _ _).trans (by kernel_rfl)

theorem f29_c0_l1 : ∀ (x904 x905 : Int) (l906 : List (List AV)) (x907 x908 x909 : Int) (s910 : ByteArray),
 E cx (Key.loop 44 [true, true, false, false])
 [vi x904, vi x905,
 AV.func (Go.Fn.func 45) []
 [AV.rop [AV.list 0 4 l906],
 AV.rop [vi x907, vi x908, vi x909, vs s910]]]
 [] =
 bif decide (x904 < x905) then
 Option.bind
 (E cx (Key.fn 45)
 [vi
 (IntKind.wrap IntKind.i64
 (ishr IntKind.u64 (IntKind.wrap IntKind.u64 (IntKind.wrap IntKind.i64 (Int.add x904 x905))) 1)),
 AV.rop [AV.list 0 4 l906],
 AV.rop [vi x907, vi x908, vi x909, vs s910]]
 [])
 fun r911 ↦
 Option.bind (ret1 r911) fun v912 ↦
 Option.bind (AV.bool? v912) fun b913 ↦
 bif b913 then
 E cx (Key.loop 44 [true, true, false, false])
 [vi x904,
 vi
 (IntKind.wrap IntKind.i64
 (ishr IntKind.u64 (IntKind.wrap IntKind.u64 (IntKind.wrap IntKind.i64 (Int.add x904 x905))) 1)),
 AV.func (Go.Fn.func 45) []
 [AV.rop [AV.list 0 4 l906],
 AV.rop [vi x907, vi x908, vi x909, vs s910]]]
 []
 else
 E cx (Key.loop 44 [true, true, false, false])
 [vi
 (IntKind.wrap IntKind.i64
 (Int.add
 (IntKind.wrap IntKind.i64
 (ishr IntKind.u64 (IntKind.wrap IntKind.u64 (IntKind.wrap IntKind.i64 (Int.add x904 x905))) 1))
 1)),
 vi x905,
 AV.func (Go.Fn.func 45) []
 [AV.rop [AV.list 0 4 l906],
 AV.rop [vi x907, vi x908, vi x909, vs s910]]]
 []
 else some (Out.jump (JX.exit 0) [vi x904, vi x905], []) := by
  intros
  exact (E_fast _ _ _ _).trans (by kernel_rfl)


theorem f30 : ∀ (q914 : List (List AV)) (room915 w916 w917 w918 : Int) (w919 : ByteArray),
 E cx (Key.fn 30)
 [AV.list 0 4 q914, vi room915,
 AV.agg [vi w916, vi w917, vi w918, vs w919]]
 [] =
 Option.bind (E cx (Key.fn 37) [AV.list 0 4 q914] []) fun r920 ↦
 Option.bind (ret1 r920) fun v921 ↦
 Option.bind (AV.bool? v921) fun b922 ↦
 bif b922 then
 bif decide (w916 < 0) then
 some (Out.ret (AV.tuple [AV.val (Go.Value.slice none 0 0), vi 1]), [])
 else
 bif decide (w917 < 0) then
 some (Out.ret (AV.tuple [AV.val (Go.Value.slice none 0 0), vi 1]), [])
 else
 Option.bind
 (E cx (Key.loop 30 [true, true, true, true, false, true, false])
 [AV.list 0 4 [], vi 0, vi 0, vi 0, AV.list 0 4 q914,
 vi room915, AV.ptr 0 0 0 0]
 [Ob.mk OK.box 50 4 0 [[vi w916, vi w917, vi w918, vs w919]]])
 fun r923 ↦
 Option.bind (asJump r923) fun j924 ↦
 bif JX.is j924.fst (JX.exit 0) then
 Option.bind (uncons? j924.snd.fst) fun p925 ↦
 Option.bind (AV.list? 4 p925.fst) fun _ ↦
 Option.bind (uncons? p925.snd) fun p927 ↦
 Option.bind (AV.int? IntKind.i64 p927.fst) fun _ ↦
 Option.bind (uncons? p927.snd) fun p929 ↦
 Option.bind (AV.int? IntKind.i64 p929.fst) fun n930 ↦
 Option.bind (uncons? p929.snd) fun p931 ↦
 Option.bind (AV.int? IntKind.i64 p931.fst) fun _ ↦
 Option.bind (nil? p931.snd) fun _ ↦
 Option.bind (uncons? j924.snd.snd) fun p934 ↦
 Option.bind
 (obIs
 (Ob.mk OK.box 50 4 0
 [[vi w916, vi w917, vi w918, vs w919]])
 p934.fst)
 fun _ ↦
 Option.bind (chk p934.fst.ver 0) fun _ ↦
 Option.bind (uncons? p934.fst.es) fun p937 ↦
 Option.bind (nil? p937.snd) fun _ ↦
 Option.bind (uncons? p937.fst) fun p939 ↦
 Option.bind (AV.int? IntKind.i64 p939.fst) fun n940 ↦
 Option.bind (uncons? p939.snd) fun p941 ↦
 Option.bind (AV.int? IntKind.i64 p941.fst) fun n942 ↦
 Option.bind (uncons? p941.snd) fun p943 ↦
 Option.bind (AV.int? IntKind.i64 p943.fst) fun n944 ↦
 Option.bind (uncons? p943.snd) fun p945 ↦
 Option.bind (AV.str? p945.fst) fun s946 ↦
 Option.bind (nil? p945.snd) fun _ ↦
 Option.bind (nil? p934.snd) fun _ ↦
 bif decide (((List.length q914) : Int) ≥ room915) then
 some
 (Out.ret
 (AV.tuple
 [AV.val (Go.Value.slice none 0 0), vi 5]),
 [])
 else
 if 0 ≤ n930 then
 if n930 ≤ ((List.length q914) : Int) then
 bif ysOk (List.drop 0 (List.take (Int.toNat n930) q914)) then
 if
 Nat.mul
 (Nat.add 0 (List.length (List.drop 0 (List.take (Int.toNat n930) q914))))
 40 ≤
 140737488355328 then
 Option.bind
 (chk
 (Nat.add 0 (List.length (List.drop 0 (List.take (Int.toNat n930) q914))))
 (List.length
 (Ob.mk OK.arr 50 4 4
 ([] ++ List.drop 0 (List.take (Int.toNat n930) q914))).es))
 fun _ ↦
 if
 Nat.mul
 (Nat.add
 (List.length
 (Ob.mk OK.arr 50 4 4
 ([] ++ List.drop 0 (List.take (Int.toNat n930) q914))).es)
 1)
 40 ≤
 140737488355328 then
 if 0 ≤ n930 then
 if n930 ≤ ((List.length q914) : Int) then
 bif
 ysOk
 (List.drop (Int.toNat n930)
 (List.take (List.length q914) q914)) then
 Option.bind
 (chk
 (Nat.add
 (List.length
 (Ob.mk OK.arr 50 4 4
 ([] ++ List.drop 0 (List.take (Int.toNat n930) q914))).es)
 1)
 (List.length
 (Ob.mk OK.arr 50 4 4
 ((Ob.mk OK.arr 50 4 4
 ([] ++
 List.drop 0
 (List.take (Int.toNat n930) q914))).es ++
 [[vi n940, vi n942,
 vi n944, vs s946]])).es))
 fun _ ↦
 if
 Nat.mul
 (Nat.add
 (List.length
 (Ob.mk OK.arr 50 4 4
 ((Ob.mk OK.arr 50 4 4
 ([] ++
 List.drop 0
 (List.take (Int.toNat n930) q914))).es ++
 [[vi n940, vi n942,
 vi n944,
 vs s946]])).es)
 (List.length
 (List.drop (Int.toNat n930)
 (List.take (List.length q914) q914))))
 40 ≤
 140737488355328 then
 Option.bind
 (chkLe
 (Nat.add 0
 (Nat.add
 (List.length
 (Ob.mk OK.arr 50 4 4
 ((Ob.mk OK.arr 50 4 4
 ([] ++
 List.drop 0
 (List.take (Int.toNat n930) q914))).es ++
 [[vi n940, vi n942,
 vi n944,
 vs s946]])).es)
 (List.length
 (List.drop (Int.toNat n930)
 (List.take (List.length q914) q914)))))
 (List.length
 ((Ob.mk OK.arr 50 4 4
 ((Ob.mk OK.arr 50 4 4
 ([] ++
 List.drop 0
 (List.take (Int.toNat n930) q914))).es ++
 [[vi n940, vi n942,
 vi n944,
 vs s946]])).es ++
 List.drop (Int.toNat n930)
 (List.take (List.length q914) q914))))
 fun _ ↦
 some
 (Out.ret
 (AV.tuple
 [AV.list 0 4
 (List.drop 0
 (List.take
 (Nat.add 0
 (Nat.add
 (List.length
 (Ob.mk OK.arr 50
 4 4
 ((Ob.mk
 OK.arr 50 4 4
 ([] ++
 List.drop 0
 (List.take (Int.toNat n930)
 q914))).es ++
 [[vi n940,
 vi n942,
 vi n944,
 vs s946]])).es)
 (List.length
 (List.drop (Int.toNat n930)
 (List.take (List.length q914) q914)))))
 ((Ob.mk OK.arr 50 4 4
 ((Ob.mk OK.arr
 50 4 4
 ([] ++
 List.drop 0
 (List.take (Int.toNat n930)
 q914))).es ++
 [[vi n940,
 vi n942,
 vi n944,
 vs s946]])).es ++
 List.drop (Int.toNat n930)
 (List.take (List.length q914) q914)))),
 vi 0]),
 [])
 else none
 else none
 else none
 else none
 else none
 else none
 else none
 else none
 else none
 else
 bif JX.is j924.fst JX.ret then
 Option.bind (uncons? j924.snd.fst) fun p952 ↦
 Option.bind (AV.list? 4 p952.fst) fun es953 ↦
 Option.bind (uncons? p952.snd) fun p954 ↦
 Option.bind (AV.int? IntKind.i64 p954.fst) fun n955 ↦
 Option.bind (uncons? p954.snd) fun p956 ↦
 Option.bind (AV.int? IntKind.i64 p956.fst) fun _ ↦
 Option.bind (uncons? p956.snd) fun p958 ↦
 Option.bind (AV.int? IntKind.i64 p958.fst) fun _ ↦
 Option.bind (nil? p958.snd) fun _ ↦
 Option.bind (uncons? j924.snd.snd) fun p961 ↦
 Option.bind
 (obIs
 (Ob.mk OK.box 50 4 0
 [[vi w916, vi w917, vi w918, vs w919]])
 p961.fst)
 fun _ ↦
 Option.bind (chk p961.fst.ver 0) fun _ ↦
 Option.bind (uncons? p961.fst.es) fun p964 ↦
 Option.bind (nil? p964.snd) fun _ ↦
 Option.bind (uncons? p964.fst) fun p966 ↦
 Option.bind (AV.int? IntKind.i64 p966.fst) fun _ ↦
 Option.bind (uncons? p966.snd) fun p968 ↦
 Option.bind (AV.int? IntKind.i64 p968.fst) fun _ ↦
 Option.bind (uncons? p968.snd) fun p970 ↦
 Option.bind (AV.int? IntKind.i64 p970.fst) fun _ ↦
 Option.bind (uncons? p970.snd) fun p972 ↦
 Option.bind (AV.str? p972.fst) fun _ ↦
 Option.bind (nil? p972.snd) fun _ ↦
 Option.bind (nil? p961.snd) fun _ ↦
 some
 (Out.ret
 (AV.tuple [AV.list 0 4 es953, vi n955]),
 [])
 else none
 else some (Out.ret (AV.tuple [AV.val (Go.Value.slice none 0 0), vi 1]), []) := by
  intros
  exact (E_fast _ _ _ _).trans (by kernel_rfl)

theorem f30_l0 : ∀ (l976 : List (List AV)) (x977 x978 x979 : Int) (l980 : List (List AV)) (x981 x982 x983 x984 : Int) (s985 : ByteArray),
 E cx (Key.loop 30 [true, true, true, true, false, true, false])
 [AV.list 0 4 l976, vi x977, vi x978, vi x979, AV.list 0 4 l980, vi x981,
 AV.ptr 0 0 0 0]
 [Ob.mk OK.box 50 4 0 [[vi x982, vi x983, vi x984, vs s985]]] =
 bif decide (x979 < ((List.length l980) : Int)) then
 if 0 ≤ x979 then
 Option.bind l980[Int.toNat x979]? fun cs986 ↦
 Option.bind (uncons? cs986) fun p987 ↦
 Option.bind (AV.int? IntKind.i64 p987.fst) fun n988 ↦
 Option.bind (uncons? p987.snd) fun p989 ↦
 Option.bind (AV.int? IntKind.i64 p989.fst) fun _ ↦
 Option.bind (uncons? p989.snd) fun p991 ↦
 Option.bind (AV.int? IntKind.i64 p991.fst) fun _ ↦
 Option.bind (uncons? p991.snd) fun p993 ↦
 Option.bind (AV.str? p993.fst) fun _ ↦
 Option.bind (nil? p993.snd) fun _ ↦
 bif decide (n988 = x982) then
 if 0 ≤ x979 then
 Option.bind l980[Int.toNat x979]? fun cs996 ↦
 Option.bind (uncons? cs996) fun p997 ↦
 Option.bind (AV.int? IntKind.i64 p997.fst) fun _ ↦
 Option.bind (uncons? p997.snd) fun p999 ↦
 Option.bind (AV.int? IntKind.i64 p999.fst) fun n1000 ↦
 Option.bind (uncons? p999.snd) fun p1001 ↦
 Option.bind (AV.int? IntKind.i64 p1001.fst) fun _ ↦
 Option.bind (uncons? p1001.snd) fun p1003 ↦
 Option.bind (AV.str? p1003.fst) fun _ ↦
 Option.bind (nil? p1003.snd) fun _ ↦
 bif decide (n1000 = x983) then
 some
 (Out.jump JX.ret
 [AV.val (Go.Value.slice none 0 0), vi 7, vi x978,
 vi x979],
 [Ob.mk OK.box 50 4 0
 [[vi x982, vi x983, vi x984, vs s985]]])
 else
 if 0 ≤ x979 then
 Option.bind l980[Int.toNat x979]? fun cs1006 ↦
 Option.bind (uncons? cs1006) fun p1007 ↦
 Option.bind (AV.int? IntKind.i64 p1007.fst) fun n1008 ↦
 Option.bind (uncons? p1007.snd) fun p1009 ↦
 Option.bind (AV.int? IntKind.i64 p1009.fst) fun n1010 ↦
 Option.bind (uncons? p1009.snd) fun p1011 ↦
 Option.bind (AV.int? IntKind.i64 p1011.fst) fun n1012 ↦
 Option.bind (uncons? p1011.snd) fun p1013 ↦
 Option.bind (AV.str? p1013.fst) fun s1014 ↦
 Option.bind (nil? p1013.snd) fun _ ↦
 Option.bind
 (E cx (Key.fn 47)
 [AV.agg
 [vi n1008, vi n1010, vi n1012,
 vs s1014],
 AV.agg
 [vi x982, vi x983, vi x984,
 vs s985]]
 [])
 fun r1016 ↦
 Option.bind (ret1 r1016) fun v1017 ↦
 Option.bind (AV.bool? v1017) fun b1018 ↦
 bif b1018 then
 E cx
 (Key.loop 30 [true, true, true, true, false, true, false])
 [AV.list 0 4 l976, vi x977,
 vi (IntKind.wrap IntKind.i64 (Int.add x979 1)),
 vi (IntKind.wrap IntKind.i64 (Int.add x979 1)),
 AV.list 0 4 l980, vi x981,
 AV.ptr 0 0 0 0]
 [Ob.mk OK.box 50 4 0
 [[vi x982, vi x983, vi x984,
 vs s985]]]
 else
 E cx
 (Key.loop 30 [true, true, true, true, false, true, false])
 [AV.list 0 4 l976, vi x977,
 vi x978,
 vi (IntKind.wrap IntKind.i64 (Int.add x979 1)),
 AV.list 0 4 l980, vi x981,
 AV.ptr 0 0 0 0]
 [Ob.mk OK.box 50 4 0
 [[vi x982, vi x983, vi x984,
 vs s985]]]
 else none
 else none
 else
 if 0 ≤ x979 then
 Option.bind l980[Int.toNat x979]? fun cs1019 ↦
 Option.bind (uncons? cs1019) fun p1020 ↦
 Option.bind (AV.int? IntKind.i64 p1020.fst) fun n1021 ↦
 Option.bind (uncons? p1020.snd) fun p1022 ↦
 Option.bind (AV.int? IntKind.i64 p1022.fst) fun n1023 ↦
 Option.bind (uncons? p1022.snd) fun p1024 ↦
 Option.bind (AV.int? IntKind.i64 p1024.fst) fun n1025 ↦
 Option.bind (uncons? p1024.snd) fun p1026 ↦
 Option.bind (AV.str? p1026.fst) fun s1027 ↦
 Option.bind (nil? p1026.snd) fun _ ↦
 Option.bind
 (E cx (Key.fn 47)
 [AV.agg
 [vi n1021, vi n1023, vi n1025, vs s1027],
 AV.agg
 [vi x982, vi x983, vi x984, vs s985]]
 [])
 fun r1029 ↦
 Option.bind (ret1 r1029) fun v1030 ↦
 Option.bind (AV.bool? v1030) fun b1031 ↦
 bif b1031 then
 E cx
 (Key.loop 30 [true, true, true, true, false, true, false])
 [AV.list 0 4 l976, vi x977,
 vi (IntKind.wrap IntKind.i64 (Int.add x979 1)),
 vi (IntKind.wrap IntKind.i64 (Int.add x979 1)),
 AV.list 0 4 l980, vi x981, AV.ptr 0 0 0 0]
 [Ob.mk OK.box 50 4 0
 [[vi x982, vi x983, vi x984, vs s985]]]
 else
 E cx
 (Key.loop 30 [true, true, true, true, false, true, false])
 [AV.list 0 4 l976, vi x977, vi x978,
 vi (IntKind.wrap IntKind.i64 (Int.add x979 1)),
 AV.list 0 4 l980, vi x981, AV.ptr 0 0 0 0]
 [Ob.mk OK.box 50 4 0
 [[vi x982, vi x983, vi x984, vs s985]]]
 else none
 else none
 else
 some
 (Out.jump (JX.exit 0) [AV.list 0 4 l976, vi x977, vi x978, vi x979],
 [Ob.mk OK.box 50 4 0 [[vi x982, vi x983, vi x984, vs s985]]]) := by
  intros
  exact (E_fast _ _ _ _).trans (by kernel_rfl)


theorem f31 : ∀ (a1032 b1033 : List (List AV)),
 E cx (Key.fn 31) [AV.list 0 4 a1032, AV.list 0 4 b1033] [] =
 bif ((List.length a1032) : Int) != ((List.length b1033) : Int) then some (Out.ret (vbool false), [])
 else
 Option.bind
 (E cx (Key.loop 31 [true, true, false, true, false])
 [vbool false, vi 0, AV.list 0 4 a1032, AV.list 0 4 b1033] [])
 fun r1034 ↦
 Option.bind (asJump r1034) fun j1035 ↦
 bif JX.is j1035.fst (JX.exit 0) then
 Option.bind (uncons? j1035.snd.fst) fun p1036 ↦
 Option.bind (AV.bool? p1036.fst) fun _ ↦
 Option.bind (uncons? p1036.snd) fun p1038 ↦
 Option.bind (AV.int? IntKind.i64 p1038.fst) fun _ ↦
 Option.bind (nil? p1038.snd) fun _ ↦
 Option.bind (nil? j1035.snd.snd) fun _ ↦ some (Out.ret (vbool true), [])
 else
 bif JX.is j1035.fst JX.ret then
 Option.bind (uncons? j1035.snd.fst) fun p1042 ↦
 Option.bind (AV.bool? p1042.fst) fun b1043 ↦
 Option.bind (uncons? p1042.snd) fun p1044 ↦
 Option.bind (AV.int? IntKind.i64 p1044.fst) fun _ ↦
 Option.bind (nil? p1044.snd) fun _ ↦
 Option.bind (nil? j1035.snd.snd) fun _ ↦ some (Out.ret (vbool b1043), [])
 else none := by
  intros
  exact (E_fast _ _ _ _).trans (by kernel_rfl)

theorem f31_l0 : ∀ (b1048 : Bool) (x1049 : Int) (l1050 l1051 : List (List AV)),
 E cx (Key.loop 31 [true, true, false, true, false])
 [vbool b1048, vi x1049, AV.list 0 4 l1050, AV.list 0 4 l1051] [] =
 bif decide (x1049 < ((List.length l1050) : Int)) then
 if 0 ≤ x1049 then
 Option.bind l1050[Int.toNat x1049]? fun cs1052 ↦
 Option.bind (uncons? cs1052) fun p1053 ↦
 Option.bind (AV.int? IntKind.i64 p1053.fst) fun n1054 ↦
 Option.bind (uncons? p1053.snd) fun p1055 ↦
 Option.bind (AV.int? IntKind.i64 p1055.fst) fun n1056 ↦
 Option.bind (uncons? p1055.snd) fun p1057 ↦
 Option.bind (AV.int? IntKind.i64 p1057.fst) fun n1058 ↦
 Option.bind (uncons? p1057.snd) fun p1059 ↦
 Option.bind (AV.str? p1059.fst) fun s1060 ↦
 Option.bind (nil? p1059.snd) fun _ ↦
 if 0 ≤ x1049 then
 Option.bind l1051[Int.toNat x1049]? fun cs1062 ↦
 Option.bind (uncons? cs1062) fun p1063 ↦
 Option.bind (AV.int? IntKind.i64 p1063.fst) fun n1064 ↦
 Option.bind (uncons? p1063.snd) fun p1065 ↦
 Option.bind (AV.int? IntKind.i64 p1065.fst) fun n1066 ↦
 Option.bind (uncons? p1065.snd) fun p1067 ↦
 Option.bind (AV.int? IntKind.i64 p1067.fst) fun n1068 ↦
 Option.bind (uncons? p1067.snd) fun p1069 ↦
 Option.bind (AV.str? p1069.fst) fun s1070 ↦
 Option.bind (nil? p1069.snd) fun _ ↦
 bif
 !(decide (n1054 = n1064) &&
 (decide (n1056 = n1066) &&
 (decide (n1058 = n1068) &&
 (List.beq (ByteArray.toList s1060) (ByteArray.toList s1070) && true)))) then
 some (Out.jump JX.ret [vbool false, vi x1049], [])
 else
 E cx (Key.loop 31 [true, true, false, true, false])
 [vbool b1048, vi (IntKind.wrap IntKind.i64 (Int.add x1049 1)),
 AV.list 0 4 l1050, AV.list 0 4 l1051]
 []
 else none
 else none
 else some (Out.jump (JX.exit 0) [vbool b1048, vi x1049], []) := by
  intros
  exact (E_fast _ _ _ _).trans (by kernel_rfl)


theorem f32 : ∀ (q1072 : List (List AV)) (tick1073 : Int),
 E cx (Key.fn 32) [AV.list 0 4 q1072, vi tick1073] [] =
 Option.bind (E cx (Key.fn 36) [AV.list 0 4 q1072] []) fun r1074 ↦
 Option.bind (ret1 r1074) fun v1075 ↦
 Option.bind (AV.bool? v1075) fun b1076 ↦
 bif b1076 then
 Option.bind
 (E cx (Key.fn 44)
 [vi ((List.length q1072) : Int),
 AV.func (Go.Fn.func 48) []
 [AV.rop [AV.list 0 4 q1072], AV.rop [vi tick1073]]]
 [])
 fun r1077 ↦
 Option.bind (ret1 r1077) fun v1078 ↦
 Option.bind (AV.int? IntKind.i64 v1078) fun n1079 ↦
 if 0 ≤ n1079 then
 if n1079 ≤ ((List.length q1072) : Int) then
 bif ysOk (List.drop 0 (List.take (Int.toNat n1079) q1072)) then
 if Nat.mul (Nat.add 0 (List.length (List.drop 0 (List.take (Int.toNat n1079) q1072)))) 40 ≤ 140737488355328 then
 if 0 ≤ n1079 then
 if n1079 ≤ ((List.length q1072) : Int) then
 bif ysOk (List.drop (Int.toNat n1079) (List.take (List.length q1072) q1072)) then
 if
 Nat.mul (Nat.add 0 (List.length (List.drop (Int.toNat n1079) (List.take (List.length q1072) q1072)))) 40 ≤
 140737488355328 then
 Option.bind
 (chkLe (Nat.add 0 (Nat.add 0 (List.length (List.drop 0 (List.take (Int.toNat n1079) q1072)))))
 (List.length ([] ++ List.drop 0 (List.take (Int.toNat n1079) q1072))))
 fun _ ↦
 Option.bind
 (chkLe
 (Nat.add 0 (Nat.add 0 (List.length (List.drop (Int.toNat n1079) (List.take (List.length q1072) q1072)))))
 (List.length ([] ++ List.drop (Int.toNat n1079) (List.take (List.length q1072) q1072))))
 fun _ ↦
 some
 (Out.ret
 (AV.tuple
 [AV.list 0 4
 (List.drop 0
 (List.take (Nat.add 0 (Nat.add 0 (List.length (List.drop 0 (List.take (Int.toNat n1079) q1072)))))
 ([] ++ List.drop 0 (List.take (Int.toNat n1079) q1072)))),
 AV.list 0 4
 (List.drop 0
 (List.take
 (Nat.add 0 (Nat.add 0 (List.length (List.drop (Int.toNat n1079) (List.take (List.length q1072) q1072)))))
 ([] ++ List.drop (Int.toNat n1079) (List.take (List.length q1072) q1072))))]),
 [])
 else none
 else none
 else none
 else none
 else none
 else none
 else none
 else none
 else
 some
 (Out.ret (AV.tuple [AV.val (Go.Value.slice none 0 0), AV.val (Go.Value.slice none 0 0)]), []) := by
  intros
  exact (E_fast _ _ _ _).trans (by kernel_rfl)

theorem f32_c0 : ∀ (x1082 : Int) (l1083 : List (List AV)) (x1084 : Int),
 E cx (Key.fn 44)
 [vi x1082,
 AV.func (Go.Fn.func 48) [] [AV.rop [AV.list 0 4 l1083], AV.rop [vi x1084]]]
 [] =
 Option.bind
 (E cx (Key.loop 44 [true, true, false, false])
 [vi 0, vi x1082,
 AV.func (Go.Fn.func 48) [] [AV.rop [AV.list 0 4 l1083], AV.rop [vi x1084]]]
 [])
 fun r1085 ↦
 Option.bind (asJump r1085) fun j1086 ↦
 bif JX.is j1086.fst (JX.exit 0) then
 Option.bind (uncons? j1086.snd.fst) fun p1087 ↦
 Option.bind (AV.int? IntKind.i64 p1087.fst) fun n1088 ↦
 Option.bind (uncons? p1087.snd) fun p1089 ↦
 Option.bind (AV.int? IntKind.i64 p1089.fst) fun _ ↦
 Option.bind (nil? p1089.snd) fun _ ↦
 Option.bind (nil? j1086.snd.snd) fun _ ↦ some (Out.ret (vi n1088), [])
 else none := by
  intros
  exact (E_fast _ _ _ _).trans (by kernel_rfl)

theorem f32_c0_l1 : ∀ (x1093 x1094 : Int) (l1095 : List (List AV)) (x1096 : Int),
 E cx (Key.loop 44 [true, true, false, false])
 [vi x1093, vi x1094,
 AV.func (Go.Fn.func 48) [] [AV.rop [AV.list 0 4 l1095], AV.rop [vi x1096]]]
 [] =
 bif decide (x1093 < x1094) then
 Option.bind
 (E cx (Key.fn 48)
 [vi
 (IntKind.wrap IntKind.i64
 (ishr IntKind.u64 (IntKind.wrap IntKind.u64 (IntKind.wrap IntKind.i64 (Int.add x1093 x1094))) 1)),
 AV.rop [AV.list 0 4 l1095], AV.rop [vi x1096]]
 [])
 fun r1097 ↦
 Option.bind (ret1 r1097) fun v1098 ↦
 Option.bind (AV.bool? v1098) fun b1099 ↦
 bif b1099 then
 E cx (Key.loop 44 [true, true, false, false])
 [vi x1093,
 vi
 (IntKind.wrap IntKind.i64
 (ishr IntKind.u64 (IntKind.wrap IntKind.u64 (IntKind.wrap IntKind.i64 (Int.add x1093 x1094))) 1)),
 AV.func (Go.Fn.func 48) [] [AV.rop [AV.list 0 4 l1095], AV.rop [vi x1096]]]
 []
 else
 E cx (Key.loop 44 [true, true, false, false])
 [vi
 (IntKind.wrap IntKind.i64
 (Int.add
 (IntKind.wrap IntKind.i64
 (ishr IntKind.u64 (IntKind.wrap IntKind.u64 (IntKind.wrap IntKind.i64 (Int.add x1093 x1094))) 1))
 1)),
 vi x1094,
 AV.func (Go.Fn.func 48) [] [AV.rop [AV.list 0 4 l1095], AV.rop [vi x1096]]]
 []
 else some (Out.jump (JX.exit 0) [vi x1093, vi x1094], []) := by
  intros
  exact (E_fast _ _ _ _).trans (by kernel_rfl)


theorem f33 : ∀ (q1100 : List (List AV)) (tick1101 : Int),
 E cx (Key.fn 33) [AV.list 0 4 q1100, vi tick1101] [] =
 Option.bind (E cx (Key.fn 37) [AV.list 0 4 q1100] []) fun r1102 ↦
 Option.bind (ret1 r1102) fun v1103 ↦
 Option.bind (AV.bool? v1103) fun b1104 ↦
 bif b1104 then
 Option.bind
 (E cx (Key.loop 33 [true, true, true, true, false, true, false])
 [AV.arr 0 4 0 0, AV.arr 1 4 0 0, vi 0, AV.list 0 4 q1100, vi tick1101,
 vbool true]
 [Ob.mk OK.arr 50 4 4 [], Ob.mk OK.arr 50 4 4 []])
 fun r1105 ↦
 Option.bind (asJump r1105) fun j1106 ↦
 bif JX.is j1106.fst (JX.exit 0) then
 Option.bind (uncons? j1106.snd.fst) fun p1107 ↦
 Option.bind (AV.arr? 0 p1107.fst) fun x1108 ↦
 Option.bind (chk x1108.fst 4) fun _ ↦
 Option.bind (uncons? p1107.snd) fun p1110 ↦
 Option.bind (AV.arr? 1 p1110.fst) fun x1111 ↦
 Option.bind (chk x1111.fst 4) fun _ ↦
 Option.bind (uncons? p1110.snd) fun p1113 ↦
 Option.bind (AV.int? IntKind.i64 p1113.fst) fun _ ↦
 Option.bind (nil? p1113.snd) fun _ ↦
 Option.bind (uncons? j1106.snd.snd) fun p1116 ↦
 Option.bind (obIs (Ob.mk OK.arr 50 4 4 []) p1116.fst) fun _ ↦
 Option.bind (chk p1116.fst.ver 4) fun _ ↦
 Option.bind (uncons? p1116.snd) fun p1119 ↦
 Option.bind (obIs (Ob.mk OK.arr 50 4 4 []) p1119.fst) fun _ ↦
 Option.bind (chk p1119.fst.ver 4) fun _ ↦
 Option.bind (nil? p1119.snd) fun _ ↦
 Option.bind (chkLe (Nat.add x1108.snd.fst x1108.snd.snd) (List.length p1116.fst.es)) fun _ ↦
 Option.bind (chkLe (Nat.add x1111.snd.fst x1111.snd.snd) (List.length p1119.fst.es))
 fun _ ↦
 some
 (Out.ret
 (AV.tuple
 [AV.list 0 4
 (List.drop x1108.snd.fst (List.take (Nat.add x1108.snd.fst x1108.snd.snd) p1116.fst.es)),
 AV.list 0 4
 (List.drop x1111.snd.fst (List.take (Nat.add x1111.snd.fst x1111.snd.snd) p1119.fst.es))]),
 [])
 else none
 else
 Option.bind
 (E cx (Key.loop 33 [true, true, true, true, false, true, false])
 [AV.arr 0 4 0 0, AV.arr 1 4 0 0, vi 0, AV.list 0 4 q1100, vi tick1101,
 vbool false]
 [Ob.mk OK.arr 50 4 4 [], Ob.mk OK.arr 50 4 4 []])
 fun r1125 ↦
 Option.bind (asJump r1125) fun j1126 ↦
 bif JX.is j1126.fst (JX.exit 0) then
 Option.bind (uncons? j1126.snd.fst) fun p1127 ↦
 Option.bind (AV.arr? 0 p1127.fst) fun x1128 ↦
 Option.bind (chk x1128.fst 4) fun _ ↦
 Option.bind (uncons? p1127.snd) fun p1130 ↦
 Option.bind (AV.arr? 1 p1130.fst) fun x1131 ↦
 Option.bind (chk x1131.fst 4) fun _ ↦
 Option.bind (uncons? p1130.snd) fun p1133 ↦
 Option.bind (AV.int? IntKind.i64 p1133.fst) fun _ ↦
 Option.bind (nil? p1133.snd) fun _ ↦
 Option.bind (uncons? j1126.snd.snd) fun p1136 ↦
 Option.bind (obIs (Ob.mk OK.arr 50 4 4 []) p1136.fst) fun _ ↦
 Option.bind (chk p1136.fst.ver 4) fun _ ↦
 Option.bind (uncons? p1136.snd) fun p1139 ↦
 Option.bind (obIs (Ob.mk OK.arr 50 4 4 []) p1139.fst) fun _ ↦
 Option.bind (chk p1139.fst.ver 4) fun _ ↦
 Option.bind (nil? p1139.snd) fun _ ↦
 Option.bind (chkLe (Nat.add x1128.snd.fst x1128.snd.snd) (List.length p1136.fst.es)) fun _ ↦
 Option.bind (chkLe (Nat.add x1131.snd.fst x1131.snd.snd) (List.length p1139.fst.es))
 fun _ ↦
 some
 (Out.ret
 (AV.tuple
 [AV.list 0 4
 (List.drop x1128.snd.fst (List.take (Nat.add x1128.snd.fst x1128.snd.snd) p1136.fst.es)),
 AV.list 0 4
 (List.drop x1131.snd.fst (List.take (Nat.add x1131.snd.fst x1131.snd.snd) p1139.fst.es))]),
 [])
 else none := by
  intros
  exact (E_fast _ _ _ _).trans (by kernel_rfl)

theorem f33_l0 : ∀ (n1145 n1146 : Nat) (x1147 : Int) (l1148 : List (List AV)) (x1149 : Int) (b1150 : Bool) (l1151 l1152 : List (List AV)),
 E cx (Key.loop 33 [true, true, true, true, false, true, false])
 [AV.arr 0 4 0 n1145, AV.arr 1 4 0 n1146, vi x1147, AV.list 0 4 l1148, vi x1149,
 vbool b1150]
 [Ob.mk OK.arr 50 4 4 l1151, Ob.mk OK.arr 50 4 4 l1152] =
 bif decide (b1150 = true) then
 bif decide (b1150 = true) then
 bif decide (b1150 = true) then
 bif decide (b1150 = true) then
 bif decide (x1147 < ((List.length l1148) : Int)) then
 bif b1150 then
 if 0 ≤ x1147 then
 Option.bind l1148[Int.toNat x1147]? fun cs1153 ↦
 Option.bind (uncons? cs1153) fun p1154 ↦
 Option.bind (AV.int? IntKind.i64 p1154.fst) fun n1155 ↦
 Option.bind (uncons? p1154.snd) fun p1156 ↦
 Option.bind (AV.int? IntKind.i64 p1156.fst) fun _ ↦
 Option.bind (uncons? p1156.snd) fun p1158 ↦
 Option.bind (AV.int? IntKind.i64 p1158.fst) fun _ ↦
 Option.bind (uncons? p1158.snd) fun p1160 ↦
 Option.bind (AV.str? p1160.fst) fun _ ↦
 Option.bind (nil? p1160.snd) fun _ ↦
 bif decide (n1155 ≤ x1149) then
 if 0 ≤ x1147 then
 Option.bind l1148[Int.toNat x1147]? fun cs1163 ↦
 Option.bind (uncons? cs1163) fun p1164 ↦
 Option.bind (AV.int? IntKind.i64 p1164.fst) fun n1165 ↦
 Option.bind (uncons? p1164.snd) fun p1166 ↦
 Option.bind (AV.int? IntKind.i64 p1166.fst) fun n1167 ↦
 Option.bind (uncons? p1166.snd) fun p1168 ↦
 Option.bind (AV.int? IntKind.i64 p1168.fst) fun n1169 ↦
 Option.bind (uncons? p1168.snd) fun p1170 ↦
 Option.bind (AV.str? p1170.fst) fun s1171 ↦
 Option.bind (nil? p1170.snd) fun _ ↦
 Option.bind
 (chk n1145 (List.length (Ob.mk OK.arr 50 4 4 l1151).es))
 fun _ ↦
 if
 Nat.mul (Nat.add (List.length (Ob.mk OK.arr 50 4 4 l1151).es) 1)
 40 ≤
 140737488355328 then
 E cx
 (Key.loop 33 [true, true, true, true, false, true, false])
 [AV.arr 0 4 0
 (Nat.add (List.length (Ob.mk OK.arr 50 4 4 l1151).es) 1),
 AV.arr 1 4 0 n1146,
 vi (IntKind.wrap IntKind.i64 (Int.add x1147 1)),
 AV.list 0 4 l1148, vi x1149, vbool b1150]
 [Ob.mk OK.arr 50 4 4
 ((Ob.mk OK.arr 50 4 4 l1151).es ++
 [[vi n1165, vi n1167, vi n1169,
 vs s1171]]),
 Ob.mk OK.arr 50 4 4 l1152]
 else none
 else none
 else
 if 0 ≤ x1147 then
 Option.bind l1148[Int.toNat x1147]? fun cs1174 ↦
 Option.bind (uncons? cs1174) fun p1175 ↦
 Option.bind (AV.int? IntKind.i64 p1175.fst) fun n1176 ↦
 Option.bind (uncons? p1175.snd) fun p1177 ↦
 Option.bind (AV.int? IntKind.i64 p1177.fst) fun n1178 ↦
 Option.bind (uncons? p1177.snd) fun p1179 ↦
 Option.bind (AV.int? IntKind.i64 p1179.fst) fun n1180 ↦
 Option.bind (uncons? p1179.snd) fun p1181 ↦
 Option.bind (AV.str? p1181.fst) fun s1182 ↦
 Option.bind (nil? p1181.snd) fun _ ↦
 Option.bind
 (chk n1146 (List.length (Ob.mk OK.arr 50 4 4 l1152).es))
 fun _ ↦
 if
 Nat.mul (Nat.add (List.length (Ob.mk OK.arr 50 4 4 l1152).es) 1)
 40 ≤
 140737488355328 then
 E cx
 (Key.loop 33 [true, true, true, true, false, true, false])
 [AV.arr 0 4 0 n1145,
 AV.arr 1 4 0
 (Nat.add (List.length (Ob.mk OK.arr 50 4 4 l1152).es) 1),
 vi (IntKind.wrap IntKind.i64 (Int.add x1147 1)),
 AV.list 0 4 l1148, vi x1149, vbool b1150]
 [Ob.mk OK.arr 50 4 4 l1151,
 Ob.mk OK.arr 50 4 4
 ((Ob.mk OK.arr 50 4 4 l1152).es ++
 [[vi n1176, vi n1178, vi n1180,
 vs s1182]])]
 else none
 else none
 else none
 else
 some
 (Out.jump (JX.exit 0) [AV.arr 0 4 0 n1145, AV.arr 1 4 0 n1146, vi x1147],
 [Ob.mk OK.arr 50 4 4 l1151, Ob.mk OK.arr 50 4 4 l1152])
 else
 bif b1150 then
 some
 (Out.jump (JX.exit 0) [AV.arr 0 4 0 n1145, AV.arr 1 4 0 n1146, vi x1147],
 [Ob.mk OK.arr 50 4 4 l1151, Ob.mk OK.arr 50 4 4 l1152])
 else
 some
 (Out.jump (JX.exit 0) [AV.arr 0 4 0 n1145, AV.arr 1 4 0 n1146, vi x1147],
 [Ob.mk OK.arr 50 4 4 l1151, Ob.mk OK.arr 50 4 4 l1152])
 else
 bif b1150 then none
 else
 some
 (Out.jump (JX.exit 0) [AV.arr 0 4 0 n1145, AV.arr 1 4 0 n1146, vi x1147],
 [Ob.mk OK.arr 50 4 4 l1151, Ob.mk OK.arr 50 4 4 l1152])
 else
 bif decide (b1150 = true) then none
 else
 bif b1150 then none
 else
 some
 (Out.jump (JX.exit 0) [AV.arr 0 4 0 n1145, AV.arr 1 4 0 n1146, vi x1147],
 [Ob.mk OK.arr 50 4 4 l1151, Ob.mk OK.arr 50 4 4 l1152])
 else
 bif decide (b1150 = true) then none
 else
 bif decide (b1150 = true) then none
 else
 bif b1150 then none
 else
 some
 (Out.jump (JX.exit 0) [AV.arr 0 4 0 n1145, AV.arr 1 4 0 n1146, vi x1147],
 [Ob.mk OK.arr 50 4 4 l1151, Ob.mk OK.arr 50 4 4 l1152])
 else
 bif decide (b1150 = true) then
 bif decide (b1150 = true) then
 bif decide (b1150 = true) then none
 else
 bif b1150 then none
 else
 some
 (Out.jump (JX.exit 0) [AV.arr 0 4 0 n1145, AV.arr 1 4 0 n1146, vi x1147],
 [Ob.mk OK.arr 50 4 4 l1151, Ob.mk OK.arr 50 4 4 l1152])
 else
 bif decide (b1150 = true) then none
 else
 bif b1150 then none
 else
 some
 (Out.jump (JX.exit 0) [AV.arr 0 4 0 n1145, AV.arr 1 4 0 n1146, vi x1147],
 [Ob.mk OK.arr 50 4 4 l1151, Ob.mk OK.arr 50 4 4 l1152])
 else
 bif decide (b1150 = true) then none
 else
 bif decide (b1150 = true) then none
 else
 bif b1150 then none
 else
 some
 (Out.jump (JX.exit 0) [AV.arr 0 4 0 n1145, AV.arr 1 4 0 n1146, vi x1147],
 [Ob.mk OK.arr 50 4 4 l1151, Ob.mk OK.arr 50 4 4 l1152]) := by
  intros
  exact (E_fast _ _ _ _).trans (by kernel_rfl)


theorem f34 : ∀ (q1185 : List (List AV)),
 E cx (Key.fn 34) [AV.list 0 4 q1185] [] =
 bif decide (((List.length q1185) : Int) = 0) then some (Out.ret (AV.tuple [vi 0, vbool false]), [])
 else
 Option.bind (E cx (Key.fn 36) [AV.list 0 4 q1185] []) fun r1186 ↦
 Option.bind (ret1 r1186) fun v1187 ↦
 Option.bind (AV.bool? v1187) fun b1188 ↦
 bif b1188 then
 Option.bind q1185[0]? fun cs1189 ↦
 Option.bind (uncons? cs1189) fun p1190 ↦
 Option.bind (AV.int? IntKind.i64 p1190.fst) fun n1191 ↦
 Option.bind (uncons? p1190.snd) fun p1192 ↦
 Option.bind (AV.int? IntKind.i64 p1192.fst) fun _ ↦
 Option.bind (uncons? p1192.snd) fun p1194 ↦
 Option.bind (AV.int? IntKind.i64 p1194.fst) fun _ ↦
 Option.bind (uncons? p1194.snd) fun p1196 ↦
 Option.bind (AV.str? p1196.fst) fun _ ↦
 Option.bind (nil? p1196.snd) fun _ ↦
 some (Out.ret (AV.tuple [vi n1191, vbool true]), [])
 else some (Out.ret (AV.tuple [vi 0, vbool false]), []) := by
  intros
  exact (E_fast _ _ _ _).trans (by kernel_rfl)


theorem f35 : ∀ (q1199 : List (List AV)),
 E cx (Key.fn 35) [AV.list 0 4 q1199] [] =
 Option.bind (E cx (Key.fn 37) [AV.list 0 4 q1199] []) fun r1200 ↦
 Option.bind (ret1 r1200) fun v1201 ↦
 Option.bind (AV.bool? v1201) fun b1202 ↦
 bif b1202 then
 bif decide (((List.length q1199) : Int) = 0) then some (Out.ret (AV.tuple [vi 0, vbool false]), [])
 else
 Option.bind q1199[0]? fun cs1203 ↦
 Option.bind (uncons? cs1203) fun p1204 ↦
 Option.bind (AV.int? IntKind.i64 p1204.fst) fun n1205 ↦
 Option.bind (uncons? p1204.snd) fun p1206 ↦
 Option.bind (AV.int? IntKind.i64 p1206.fst) fun _ ↦
 Option.bind (uncons? p1206.snd) fun p1208 ↦
 Option.bind (AV.int? IntKind.i64 p1208.fst) fun _ ↦
 Option.bind (uncons? p1208.snd) fun p1210 ↦
 Option.bind (AV.str? p1210.fst) fun _ ↦
 Option.bind (nil? p1210.snd) fun _ ↦
 some (Out.ret (AV.tuple [vi n1205, vbool true]), [])
 else some (Out.ret (AV.tuple [vi 0, vbool false]), []) := by
  intros
  exact (E_fast _ _ _ _).trans (by kernel_rfl)


theorem f36 : ∀ (q1213 : List (List AV)),
 E cx (Key.fn 36) [AV.list 0 4 q1213] [] =
 Option.bind
 (E cx (Key.loop 36 [true, false, true, false])
 [vbool false, vi 0, AV.list 0 4 q1213, AV.list 0 4 q1213, vi ((List.length q1213) : Int)] [])
 fun r1214 ↦
 Option.bind (asJump r1214) fun j1215 ↦
 bif JX.is j1215.fst (JX.exit 0) then
 Option.bind (uncons? j1215.snd.fst) fun p1216 ↦
 Option.bind (AV.bool? p1216.fst) fun _ ↦
 Option.bind (uncons? p1216.snd) fun p1218 ↦
 Option.bind (AV.int? IntKind.i64 p1218.fst) fun _ ↦
 Option.bind (nil? p1218.snd) fun _ ↦
 Option.bind (nil? j1215.snd.snd) fun _ ↦ some (Out.ret (vbool true), [])
 else
 bif JX.is j1215.fst JX.ret then
 Option.bind (uncons? j1215.snd.fst) fun p1222 ↦
 Option.bind (AV.bool? p1222.fst) fun b1223 ↦
 Option.bind (uncons? p1222.snd) fun p1224 ↦
 Option.bind (AV.int? IntKind.i64 p1224.fst) fun _ ↦
 Option.bind (nil? p1224.snd) fun _ ↦
 Option.bind (nil? j1215.snd.snd) fun _ ↦ some (Out.ret (vbool b1223), [])
 else none := by
  intros
  exact (E_fast _ _ _ _).trans (by kernel_rfl)

theorem f36_l0 : ∀ (b1228 : Bool) (x1229 : Int) (l1230 l1231 : List (List AV)) (x1232 : Int),
 E cx (Key.loop 36 [true, false, true, false])
 [vbool b1228, vi x1229, AV.list 0 4 l1230, AV.list 0 4 l1231, vi x1232] [] =
 bif decide (x1229 < x1232) then
 if 0 ≤ x1229 then
 Option.bind l1231[Int.toNat x1229]? fun cs1233 ↦
 Option.bind (uncons? cs1233) fun p1234 ↦
 Option.bind (AV.int? IntKind.i64 p1234.fst) fun n1235 ↦
 Option.bind (uncons? p1234.snd) fun p1236 ↦
 Option.bind (AV.int? IntKind.i64 p1236.fst) fun n1237 ↦
 Option.bind (uncons? p1236.snd) fun p1238 ↦
 Option.bind (AV.int? IntKind.i64 p1238.fst) fun n1239 ↦
 Option.bind (uncons? p1238.snd) fun p1240 ↦
 Option.bind (AV.str? p1240.fst) fun s1241 ↦
 Option.bind (nil? p1240.snd) fun _ ↦
 Option.bind
 (E cx (Key.fn 43)
 [AV.agg [vi n1235, vi n1237, vi n1239, vs s1241]] [])
 fun r1243 ↦
 Option.bind (ret1 r1243) fun v1244 ↦
 Option.bind (AV.bool? v1244) fun b1245 ↦
 bif b1245 then
 bif decide (x1229 > 0) then
 if 0 ≤ IntKind.wrap IntKind.i64 (Int.sub x1229 1) then
 Option.bind l1230[Int.toNat (IntKind.wrap IntKind.i64 (Int.sub x1229 1))]? fun cs1246 ↦
 Option.bind (uncons? cs1246) fun p1247 ↦
 Option.bind (AV.int? IntKind.i64 p1247.fst) fun n1248 ↦
 Option.bind (uncons? p1247.snd) fun p1249 ↦
 Option.bind (AV.int? IntKind.i64 p1249.fst) fun n1250 ↦
 Option.bind (uncons? p1249.snd) fun p1251 ↦
 Option.bind (AV.int? IntKind.i64 p1251.fst) fun n1252 ↦
 Option.bind (uncons? p1251.snd) fun p1253 ↦
 Option.bind (AV.str? p1253.fst) fun s1254 ↦
 Option.bind (nil? p1253.snd) fun _ ↦
 Option.bind
 (E cx (Key.fn 46)
 [AV.agg
 [vi n1248, vi n1250, vi n1252,
 vs s1254],
 AV.agg
 [vi n1235, vi n1237, vi n1239,
 vs s1241]]
 [])
 fun r1256 ↦
 Option.bind (ret1 r1256) fun v1257 ↦
 Option.bind (AV.bool? v1257) fun b1258 ↦
 bif b1258 then
 some
 (Out.jump JX.ret
 [vbool false, vi x1229],
 [])
 else
 E cx (Key.loop 36 [true, false, true, false])
 [vbool b1228,
 vi (IntKind.wrap IntKind.i64 (Int.add x1229 1)),
 AV.list 0 4 l1230, AV.list 0 4 l1231, vi x1232]
 []
 else none
 else
 E cx (Key.loop 36 [true, false, true, false])
 [vbool b1228, vi (IntKind.wrap IntKind.i64 (Int.add x1229 1)),
 AV.list 0 4 l1230, AV.list 0 4 l1231, vi x1232]
 []
 else some (Out.jump JX.ret [vbool false, vi x1229], [])
 else none
 else some (Out.jump (JX.exit 0) [vbool b1228, vi x1229], []) := by
  intros
  exact (E_fast _ _ _ _).trans (by kernel_rfl)


theorem f37 : ∀ (q1259 : List (List AV)),
 E cx (Key.fn 37) [AV.list 0 4 q1259] [] =
 Option.bind
 (E cx (Key.loop 37 [true, false, true, false])
 [vbool false, vi 0, AV.list 0 4 q1259] [])
 fun r1260 ↦
 Option.bind (asJump r1260) fun j1261 ↦
 bif JX.is j1261.fst (JX.exit 0) then
 Option.bind (uncons? j1261.snd.fst) fun p1262 ↦
 Option.bind (AV.bool? p1262.fst) fun _ ↦
 Option.bind (uncons? p1262.snd) fun p1264 ↦
 Option.bind (AV.int? IntKind.i64 p1264.fst) fun _ ↦
 Option.bind (nil? p1264.snd) fun _ ↦
 Option.bind (nil? j1261.snd.snd) fun _ ↦ some (Out.ret (vbool true), [])
 else
 bif JX.is j1261.fst JX.ret then
 Option.bind (uncons? j1261.snd.fst) fun p1268 ↦
 Option.bind (AV.bool? p1268.fst) fun b1269 ↦
 Option.bind (uncons? p1268.snd) fun p1270 ↦
 Option.bind (AV.int? IntKind.i64 p1270.fst) fun _ ↦
 Option.bind (nil? p1270.snd) fun _ ↦
 Option.bind (nil? j1261.snd.snd) fun _ ↦ some (Out.ret (vbool b1269), [])
 else none := by
  intros
  exact (E_fast _ _ _ _).trans (by kernel_rfl)

theorem f37_l0 : ∀ (b1274 : Bool) (x1275 : Int) (l1276 : List (List AV)),
 E cx (Key.loop 37 [true, false, true, false])
 [vbool b1274, vi x1275, AV.list 0 4 l1276] [] =
 bif decide (x1275 < ((List.length l1276) : Int)) then
 if 0 ≤ x1275 then
 Option.bind l1276[Int.toNat x1275]? fun cs1277 ↦
 Option.bind (uncons? cs1277) fun p1278 ↦
 Option.bind (AV.int? IntKind.i64 p1278.fst) fun n1279 ↦
 Option.bind (uncons? p1278.snd) fun p1280 ↦
 Option.bind (AV.int? IntKind.i64 p1280.fst) fun _ ↦
 Option.bind (uncons? p1280.snd) fun p1282 ↦
 Option.bind (AV.int? IntKind.i64 p1282.fst) fun _ ↦
 Option.bind (uncons? p1282.snd) fun p1284 ↦
 Option.bind (AV.str? p1284.fst) fun _ ↦
 Option.bind (nil? p1284.snd) fun _ ↦
 bif decide (n1279 < 0) then some (Out.jump JX.ret [vbool false, vi x1275], [])
 else
 if 0 ≤ x1275 then
 Option.bind l1276[Int.toNat x1275]? fun cs1287 ↦
 Option.bind (uncons? cs1287) fun p1288 ↦
 Option.bind (AV.int? IntKind.i64 p1288.fst) fun _ ↦
 Option.bind (uncons? p1288.snd) fun p1290 ↦
 Option.bind (AV.int? IntKind.i64 p1290.fst) fun n1291 ↦
 Option.bind (uncons? p1290.snd) fun p1292 ↦
 Option.bind (AV.int? IntKind.i64 p1292.fst) fun _ ↦
 Option.bind (uncons? p1292.snd) fun p1294 ↦
 Option.bind (AV.str? p1294.fst) fun _ ↦
 Option.bind (nil? p1294.snd) fun _ ↦
 bif decide (n1291 < 0) then
 some (Out.jump JX.ret [vbool false, vi x1275], [])
 else
 bif decide (x1275 > 0) then
 if 0 ≤ IntKind.wrap IntKind.i64 (Int.sub x1275 1) then
 Option.bind l1276[Int.toNat (IntKind.wrap IntKind.i64 (Int.sub x1275 1))]? fun cs1297 ↦
 Option.bind (uncons? cs1297) fun p1298 ↦
 Option.bind (AV.int? IntKind.i64 p1298.fst) fun n1299 ↦
 Option.bind (uncons? p1298.snd) fun p1300 ↦
 Option.bind (AV.int? IntKind.i64 p1300.fst) fun n1301 ↦
 Option.bind (uncons? p1300.snd) fun p1302 ↦
 Option.bind (AV.int? IntKind.i64 p1302.fst) fun n1303 ↦
 Option.bind (uncons? p1302.snd) fun p1304 ↦
 Option.bind (AV.str? p1304.fst) fun s1305 ↦
 Option.bind (nil? p1304.snd) fun _ ↦
 if 0 ≤ x1275 then
 Option.bind l1276[Int.toNat x1275]? fun cs1307 ↦
 Option.bind (uncons? cs1307) fun p1308 ↦
 Option.bind (AV.int? IntKind.i64 p1308.fst) fun n1309 ↦
 Option.bind (uncons? p1308.snd) fun p1310 ↦
 Option.bind (AV.int? IntKind.i64 p1310.fst) fun n1311 ↦
 Option.bind (uncons? p1310.snd) fun p1312 ↦
 Option.bind (AV.int? IntKind.i64 p1312.fst)
 fun n1313 ↦
 Option.bind (uncons? p1312.snd) fun p1314 ↦
 Option.bind (AV.str? p1314.fst) fun s1315 ↦
 Option.bind (nil? p1314.snd) fun _ ↦
 Option.bind
 (E cx (Key.fn 47)
 [AV.agg
 [vi n1299, vi n1301,
 vi n1303, vs s1305],
 AV.agg
 [vi n1309, vi n1311,
 vi n1313, vs s1315]]
 [])
 fun r1317 ↦
 Option.bind (ret1 r1317) fun v1318 ↦
 Option.bind (AV.bool? v1318) fun b1319 ↦
 bif b1319 then
 E cx
 (Key.loop 37
 [true, false, true, false])
 [vbool b1274,
 vi
 (IntKind.wrap IntKind.i64
 (Int.add x1275 1)),
 AV.list 0 4 l1276]
 []
 else
 some
 (Out.jump JX.ret
 [vbool false,
 vi x1275],
 [])
 else none
 else none
 else
 E cx (Key.loop 37 [true, false, true, false])
 [vbool b1274, vi (IntKind.wrap IntKind.i64 (Int.add x1275 1)),
 AV.list 0 4 l1276]
 []
 else none
 else none
 else some (Out.jump (JX.exit 0) [vbool b1274, vi x1275], []) := by
  intros
  exact (E_fast _ _ _ _).trans (by kernel_rfl)


theorem f38 : ∀ (q1320 : List (List AV)) (peer1321 : Int),
 E cx (Key.fn 38) [AV.list 0 4 q1320, vi peer1321] [] =
 Option.bind (E cx (Key.fn 36) [AV.list 0 4 q1320] []) fun r1322 ↦
 Option.bind (ret1 r1322) fun v1323 ↦
 Option.bind (AV.bool? v1323) fun b1324 ↦
 bif b1324 then
 bif ysOk q1320 then
 if Nat.mul (Nat.add 0 (List.length q1320)) 40 ≤ 140737488355328 then
 Option.bind
 (E cx (Key.own 50)
 [AV.arr 0 4 0 (Nat.add 0 (List.length q1320)), AV.func (Go.Fn.func 51) [] [AV.ptr 1 0 0 0]]
 [Ob.mk OK.arr 50 4 4 ([] ++ q1320), Ob.mk OK.box 3 1 0 [[vi peer1321]]])
 fun r1325 ↦
 Option.bind (asRet r1325) fun x1326 ↦
 Option.bind (AV.arr? 0 x1326.fst) fun x1327 ↦
 Option.bind (chk x1327.fst 4) fun _ ↦
 Option.bind (uncons? x1326.snd) fun p1329 ↦
 Option.bind (obIs (Ob.mk OK.arr 50 4 4 []) p1329.fst) fun _ ↦
 Option.bind (chk p1329.fst.ver 4) fun _ ↦
 Option.bind (uncons? p1329.snd) fun p1332 ↦
 Option.bind (obIs (Ob.mk OK.box 3 1 0 [[vi 0]]) p1332.fst) fun _ ↦
 Option.bind (chk p1332.fst.ver 0) fun _ ↦
 Option.bind (uncons? p1332.fst.es) fun p1335 ↦
 Option.bind (nil? p1335.snd) fun _ ↦
 Option.bind (uncons? p1335.fst) fun p1337 ↦
 Option.bind (AV.int? IntKind.i64 p1337.fst) fun _ ↦
 Option.bind (nil? p1337.snd) fun _ ↦
 Option.bind (nil? p1332.snd) fun _ ↦
 Option.bind (chkLe (Nat.add x1327.snd.fst x1327.snd.snd) (List.length p1329.fst.es)) fun _ ↦
 some
 (Out.ret
 (AV.list 0 4
 (List.drop x1327.snd.fst (List.take (Nat.add x1327.snd.fst x1327.snd.snd) p1329.fst.es))),
 [])
 else none
 else none
 else some (Out.ret (AV.val (Go.Value.slice none 0 0)), []) := by
  intros
  exact (E_fast _ _ _ _).trans (by kernel_rfl)

theorem f38_c0 : ∀ (n1342 : Nat) (l1343 : List (List AV)) (x1344 : Int),
 E cx (Key.own 50)
 [AV.arr 0 4 0 n1342, AV.func (Go.Fn.func 51) [] [AV.ptr 1 0 0 0]]
 [Ob.mk OK.arr 50 4 4 l1343, Ob.mk OK.box 3 1 0 [[vi x1344]]] =
 Option.bind (chkLe (Nat.add 0 n1342) (List.length l1343)) fun _ ↦
 Option.bind
 (E cx (Key.fn 53)
 [AV.list 0 4 (List.drop 0 (List.take (Nat.add 0 n1342) l1343)),
 AV.func (Go.Fn.func 51) [] [AV.rop [vi x1344]]]
 [])
 fun r1346 ↦
 Option.bind (ret1 r1346) fun v1347 ↦
 Option.bind (AV.int? IntKind.i64 v1347) fun n1348 ↦
 bif decide (n1348 = -1) then
 some
 (Out.ret (AV.arr 0 4 0 n1342),
 [Ob.mk OK.arr 50 4 4 l1343, Ob.mk OK.box 3 1 0 [[vi x1344]]])
 else
 Option.bind
 (E cx (Key.loop 50 [true, true, true, false, true, false])
 [vi n1348, vi (IntKind.wrap IntKind.i64 (Int.add n1348 1)), AV.arr 0 4 0 n1342,
 AV.func (Go.Fn.func 51) [] [AV.ptr 1 0 0 0]]
 [Ob.mk OK.arr 50 4 4 l1343, Ob.mk OK.box 3 1 0 [[vi x1344]]])
 fun r1349 ↦
 Option.bind (asJump r1349) fun j1350 ↦
 bif JX.is j1350.fst (JX.exit 0) then
 Option.bind (uncons? j1350.snd.fst) fun p1351 ↦
 Option.bind (AV.int? IntKind.i64 p1351.fst) fun n1352 ↦
 Option.bind (uncons? p1351.snd) fun p1353 ↦
 Option.bind (AV.int? IntKind.i64 p1353.fst) fun _ ↦
 Option.bind (nil? p1353.snd) fun _ ↦
 Option.bind (uncons? j1350.snd.snd) fun p1356 ↦
 Option.bind (obIs (Ob.mk OK.arr 50 4 4 l1343) p1356.fst) fun _ ↦
 Option.bind (chk p1356.fst.ver 4) fun _ ↦
 Option.bind (uncons? p1356.snd) fun p1359 ↦
 Option.bind (obIs (Ob.mk OK.box 3 1 0 [[vi x1344]]) p1359.fst)
 fun _ ↦
 Option.bind (chk p1359.fst.ver 0) fun _ ↦
 Option.bind (uncons? p1359.fst.es) fun p1362 ↦
 Option.bind (nil? p1362.snd) fun _ ↦
 Option.bind (uncons? p1362.fst) fun p1364 ↦
 Option.bind (AV.int? IntKind.i64 p1364.fst) fun n1365 ↦
 Option.bind (nil? p1364.snd) fun _ ↦
 Option.bind (nil? p1359.snd) fun _ ↦
 if 0 ≤ n1352 then
 if n1352 ≤ (n1342 : Int) then
 Option.bind
 (chkLe (Nat.add (Nat.add 0 (Int.toNat n1352)) (Nat.sub n1342 (Int.toNat n1352)))
 (List.length (Ob.mk OK.arr 50 4 4 p1356.fst.es).es))
 fun _ ↦
 if 0 ≤ n1352 then
 if n1352 ≤ (n1342 : Int) then
 some
 (Out.ret (AV.arr 0 4 0 (Nat.sub (Int.toNat n1352) 0)),
 [Ob.mk OK.arr 50 4 4
 (List.take (Nat.add 0 (Int.toNat n1352))
 (Ob.mk OK.arr 50 4 4 p1356.fst.es).es ++
 List.replicate (Nat.sub n1342 (Int.toNat n1352))
 [vi 0, vi 0, vi 0,
 vs (ByteArray.mk (Array.mk []))] ++
 List.drop (Nat.add (Nat.add 0 (Int.toNat n1352)) (Nat.sub n1342 (Int.toNat n1352)))
 (Ob.mk OK.arr 50 4 4 p1356.fst.es).es),
 Ob.mk OK.box 3 1 0 [[vi n1365]]])
 else none
 else none
 else none
 else none
 else none := by
  intros
  exact (E_fast _ _ _ _).trans (by kernel_rfl)

theorem f38_c0_c1 : ∀ (l1369 : List (List AV)) (x1370 : Int),
 E cx (Key.fn 53)
 [AV.list 0 4 l1369, AV.func (Go.Fn.func 51) [] [AV.rop [vi x1370]]] [] =
 Option.bind
 (E cx (Key.loop 53 [true, false, true, false])
 [vi 0, vi 0, AV.list 0 4 l1369,
 AV.func (Go.Fn.func 51) [] [AV.rop [vi x1370]], vi ((List.length l1369) : Int)]
 [])
 fun r1371 ↦
 Option.bind (asJump r1371) fun j1372 ↦
 bif JX.is j1372.fst (JX.exit 0) then
 Option.bind (uncons? j1372.snd.fst) fun p1373 ↦
 Option.bind (AV.int? IntKind.i64 p1373.fst) fun _ ↦
 Option.bind (uncons? p1373.snd) fun p1375 ↦
 Option.bind (AV.int? IntKind.i64 p1375.fst) fun _ ↦
 Option.bind (nil? p1375.snd) fun _ ↦
 Option.bind (nil? j1372.snd.snd) fun _ ↦ some (Out.ret (vi (-1)), [])
 else
 bif JX.is j1372.fst JX.ret then
 Option.bind (uncons? j1372.snd.fst) fun p1379 ↦
 Option.bind (AV.int? IntKind.i64 p1379.fst) fun n1380 ↦
 Option.bind (uncons? p1379.snd) fun p1381 ↦
 Option.bind (AV.int? IntKind.i64 p1381.fst) fun _ ↦
 Option.bind (nil? p1381.snd) fun _ ↦
 Option.bind (nil? j1372.snd.snd) fun _ ↦ some (Out.ret (vi n1380), [])
 else none := by
  intros
  exact (E_fast _ _ _ _).trans (by kernel_rfl)

theorem f38_c0_c1_l2 : ∀ (x1385 x1386 : Int) (l1387 : List (List AV)) (x1388 x1389 : Int),
 E cx (Key.loop 53 [true, false, true, false])
 [vi x1385, vi x1386, AV.list 0 4 l1387,
 AV.func (Go.Fn.func 51) [] [AV.rop [vi x1388]], vi x1389]
 [] =
 bif decide (x1386 < x1389) then
 if 0 ≤ x1386 then
 Option.bind l1387[Int.toNat x1386]? fun cs1390 ↦
 Option.bind (uncons? cs1390) fun p1391 ↦
 Option.bind (AV.int? IntKind.i64 p1391.fst) fun n1392 ↦
 Option.bind (uncons? p1391.snd) fun p1393 ↦
 Option.bind (AV.int? IntKind.i64 p1393.fst) fun n1394 ↦
 Option.bind (uncons? p1393.snd) fun p1395 ↦
 Option.bind (AV.int? IntKind.i64 p1395.fst) fun n1396 ↦
 Option.bind (uncons? p1395.snd) fun p1397 ↦
 Option.bind (AV.str? p1397.fst) fun s1398 ↦
 Option.bind (nil? p1397.snd) fun _ ↦
 Option.bind
 (E cx (Key.fn 51)
 [AV.agg [vi n1392, vi n1394, vi n1396, vs s1398],
 AV.rop [vi x1388]]
 [])
 fun r1400 ↦
 Option.bind (ret1 r1400) fun v1401 ↦
 Option.bind (AV.bool? v1401) fun b1402 ↦
 bif b1402 then some (Out.jump JX.ret [vi x1386, vi x1386], [])
 else
 E cx (Key.loop 53 [true, false, true, false])
 [vi x1385, vi (IntKind.wrap IntKind.i64 (Int.add x1386 1)),
 AV.list 0 4 l1387, AV.func (Go.Fn.func 51) [] [AV.rop [vi x1388]],
 vi x1389]
 []
 else none
 else some (Out.jump (JX.exit 0) [vi x1385, vi x1386], []) := by
  intros
  exact (E_fast _ _ _ _).trans (by kernel_rfl)

theorem f38_c0_l3 : ∀ (x1403 x1404 : Int) (n1405 : Nat) (l1406 : List (List AV)) (x1407 : Int),
 E cx (Key.loop 50 [true, true, true, false, true, false])
 [vi x1403, vi x1404, AV.arr 0 4 0 n1405, AV.func (Go.Fn.func 51) [] [AV.ptr 1 0 0 0]]
 [Ob.mk OK.arr 50 4 4 l1406, Ob.mk OK.box 3 1 0 [[vi x1407]]] =
 bif decide (x1404 < (n1405 : Int)) then
 if 0 ≤ x1404 then
 if x1404 < (n1405 : Int) then
 Option.bind (nth l1406 (Nat.add 0 (Int.toNat x1404))) fun cs1408 ↦
 Option.bind (uncons? cs1408) fun p1409 ↦
 Option.bind (AV.int? IntKind.i64 p1409.fst) fun n1410 ↦
 Option.bind (uncons? p1409.snd) fun p1411 ↦
 Option.bind (AV.int? IntKind.i64 p1411.fst) fun n1412 ↦
 Option.bind (uncons? p1411.snd) fun p1413 ↦
 Option.bind (AV.int? IntKind.i64 p1413.fst) fun n1414 ↦
 Option.bind (uncons? p1413.snd) fun p1415 ↦
 Option.bind (AV.str? p1415.fst) fun s1416 ↦
 Option.bind (nil? p1415.snd) fun _ ↦
 Option.bind
 (E cx (Key.fn 51)
 [AV.agg [vi n1410, vi n1412, vi n1414, vs s1416],
 AV.rop [vi x1407]]
 [])
 fun r1418 ↦
 Option.bind (ret1 r1418) fun v1419 ↦
 Option.bind (AV.bool? v1419) fun b1420 ↦
 bif b1420 then
 E cx (Key.loop 50 [true, true, true, false, true, false])
 [vi x1403, vi (IntKind.wrap IntKind.i64 (Int.add x1404 1)),
 AV.arr 0 4 0 n1405, AV.func (Go.Fn.func 51) [] [AV.ptr 1 0 0 0]]
 [Ob.mk OK.arr 50 4 4 l1406,
 Ob.mk OK.box 3 1 0 [[vi x1407]]]
 else
 if 0 ≤ x1403 then
 if x1403 < (n1405 : Int) then
 Option.bind (nth l1406 (Nat.add 0 (Int.toNat x1403))) fun cs1421 ↦
 Option.bind (uncons? cs1421) fun p1422 ↦
 Option.bind (AV.int? IntKind.i64 p1422.fst) fun _ ↦
 Option.bind (uncons? p1422.snd) fun p1424 ↦
 Option.bind (AV.int? IntKind.i64 p1424.fst) fun _ ↦
 Option.bind (uncons? p1424.snd) fun p1426 ↦
 Option.bind (AV.int? IntKind.i64 p1426.fst) fun _ ↦
 Option.bind (uncons? p1426.snd) fun p1428 ↦
 Option.bind (AV.str? p1428.fst) fun _ ↦
 Option.bind (nil? p1428.snd) fun _ ↦
 E cx (Key.loop 50 [true, true, true, false, true, false])
 [vi (IntKind.wrap IntKind.i64 (Int.add x1403 1)),
 vi (IntKind.wrap IntKind.i64 (Int.add x1404 1)),
 AV.arr 0 4 0 n1405,
 AV.func (Go.Fn.func 51) [] [AV.ptr 1 0 0 0]]
 [Ob.mk OK.arr 50 4 4
 (List.set l1406 (Nat.add 0 (Int.toNat x1403))
 [vi n1410, vi n1412, vi n1414,
 vs s1416]),
 Ob.mk OK.box 3 1 0 [[vi x1407]]]
 else none
 else none
 else none
 else none
 else
 some
 (Out.jump (JX.exit 0) [vi x1403, vi x1404],
 [Ob.mk OK.arr 50 4 4 l1406, Ob.mk OK.box 3 1 0 [[vi x1407]]]) := by
  intros
  exact (E_fast _ _ _ _).trans (by kernel_rfl)


theorem f39 : ∀ (q1431 : List (List AV)) (peer1432 : Int),
 E cx (Key.fn 39) [AV.list 0 4 q1431, vi peer1432] [] =
 Option.bind (E cx (Key.fn 37) [AV.list 0 4 q1431] []) fun r1433 ↦
 Option.bind (ret1 r1433) fun v1434 ↦
 Option.bind (AV.bool? v1434) fun b1435 ↦
 bif b1435 then
 Option.bind
 (E cx (Key.loop 39 [true, true, true, false, true, false])
 [AV.arr 0 4 0 0, vi 0, AV.list 0 4 q1431, vi peer1432, vbool true]
 [Ob.mk OK.arr 50 4 4 []])
 fun r1436 ↦
 Option.bind (asJump r1436) fun j1437 ↦
 bif JX.is j1437.fst (JX.exit 0) then
 Option.bind (uncons? j1437.snd.fst) fun p1438 ↦
 Option.bind (AV.arr? 0 p1438.fst) fun x1439 ↦
 Option.bind (chk x1439.fst 4) fun _ ↦
 Option.bind (uncons? p1438.snd) fun p1441 ↦
 Option.bind (AV.int? IntKind.i64 p1441.fst) fun _ ↦
 Option.bind (nil? p1441.snd) fun _ ↦
 Option.bind (uncons? j1437.snd.snd) fun p1444 ↦
 Option.bind (obIs (Ob.mk OK.arr 50 4 4 []) p1444.fst) fun _ ↦
 Option.bind (chk p1444.fst.ver 4) fun _ ↦
 Option.bind (nil? p1444.snd) fun _ ↦
 Option.bind (chkLe (Nat.add x1439.snd.fst x1439.snd.snd) (List.length p1444.fst.es)) fun _ ↦
 some
 (Out.ret
 (AV.list 0 4
 (List.drop x1439.snd.fst (List.take (Nat.add x1439.snd.fst x1439.snd.snd) p1444.fst.es))),
 [])
 else none
 else
 Option.bind
 (E cx (Key.loop 39 [true, true, true, false, true, false])
 [AV.arr 0 4 0 0, vi 0, AV.list 0 4 q1431, vi peer1432, vbool false]
 [Ob.mk OK.arr 50 4 4 []])
 fun r1449 ↦
 Option.bind (asJump r1449) fun j1450 ↦
 bif JX.is j1450.fst (JX.exit 0) then
 Option.bind (uncons? j1450.snd.fst) fun p1451 ↦
 Option.bind (AV.arr? 0 p1451.fst) fun x1452 ↦
 Option.bind (chk x1452.fst 4) fun _ ↦
 Option.bind (uncons? p1451.snd) fun p1454 ↦
 Option.bind (AV.int? IntKind.i64 p1454.fst) fun _ ↦
 Option.bind (nil? p1454.snd) fun _ ↦
 Option.bind (uncons? j1450.snd.snd) fun p1457 ↦
 Option.bind (obIs (Ob.mk OK.arr 50 4 4 []) p1457.fst) fun _ ↦
 Option.bind (chk p1457.fst.ver 4) fun _ ↦
 Option.bind (nil? p1457.snd) fun _ ↦
 Option.bind (chkLe (Nat.add x1452.snd.fst x1452.snd.snd) (List.length p1457.fst.es)) fun _ ↦
 some
 (Out.ret
 (AV.list 0 4
 (List.drop x1452.snd.fst (List.take (Nat.add x1452.snd.fst x1452.snd.snd) p1457.fst.es))),
 [])
 else none := by
  intros
  exact (E_fast _ _ _ _).trans (by kernel_rfl)

theorem f39_l0 : ∀ (n1462 : Nat) (x1463 : Int) (l1464 : List (List AV)) (x1465 : Int) (b1466 : Bool) (l1467 : List (List AV)),
 E cx (Key.loop 39 [true, true, true, false, true, false])
 [AV.arr 0 4 0 n1462, vi x1463, AV.list 0 4 l1464, vi x1465, vbool b1466]
 [Ob.mk OK.arr 50 4 4 l1467] =
 bif decide (b1466 = true) then
 bif decide (b1466 = true) then
 bif decide (b1466 = true) then
 bif decide (b1466 = true) then
 bif decide (x1463 < ((List.length l1464) : Int)) then
 bif b1466 then
 if 0 ≤ x1463 then
 Option.bind l1464[Int.toNat x1463]? fun cs1468 ↦
 Option.bind (uncons? cs1468) fun p1469 ↦
 Option.bind (AV.int? IntKind.i64 p1469.fst) fun _ ↦
 Option.bind (uncons? p1469.snd) fun p1471 ↦
 Option.bind (AV.int? IntKind.i64 p1471.fst) fun _ ↦
 Option.bind (uncons? p1471.snd) fun p1473 ↦
 Option.bind (AV.int? IntKind.i64 p1473.fst) fun n1474 ↦
 Option.bind (uncons? p1473.snd) fun p1475 ↦
 Option.bind (AV.str? p1475.fst) fun _ ↦
 Option.bind (nil? p1475.snd) fun _ ↦
 bif n1474 != x1465 then
 if 0 ≤ x1463 then
 Option.bind l1464[Int.toNat x1463]? fun cs1478 ↦
 Option.bind (uncons? cs1478) fun p1479 ↦
 Option.bind (AV.int? IntKind.i64 p1479.fst) fun n1480 ↦
 Option.bind (uncons? p1479.snd) fun p1481 ↦
 Option.bind (AV.int? IntKind.i64 p1481.fst) fun n1482 ↦
 Option.bind (uncons? p1481.snd) fun p1483 ↦
 Option.bind (AV.int? IntKind.i64 p1483.fst) fun n1484 ↦
 Option.bind (uncons? p1483.snd) fun p1485 ↦
 Option.bind (AV.str? p1485.fst) fun s1486 ↦
 Option.bind (nil? p1485.snd) fun _ ↦
 Option.bind
 (chk n1462 (List.length (Ob.mk OK.arr 50 4 4 l1467).es))
 fun _ ↦
 if
 Nat.mul (Nat.add (List.length (Ob.mk OK.arr 50 4 4 l1467).es) 1)
 40 ≤
 140737488355328 then
 E cx
 (Key.loop 39 [true, true, true, false, true, false])
 [AV.arr 0 4 0
 (Nat.add (List.length (Ob.mk OK.arr 50 4 4 l1467).es) 1),
 vi (IntKind.wrap IntKind.i64 (Int.add x1463 1)),
 AV.list 0 4 l1464, vi x1465, vbool b1466]
 [Ob.mk OK.arr 50 4 4
 ((Ob.mk OK.arr 50 4 4 l1467).es ++
 [[vi n1480, vi n1482, vi n1484,
 vs s1486]])]
 else none
 else none
 else
 E cx (Key.loop 39 [true, true, true, false, true, false])
 [AV.arr 0 4 0 n1462, vi (IntKind.wrap IntKind.i64 (Int.add x1463 1)),
 AV.list 0 4 l1464, vi x1465, vbool b1466]
 [Ob.mk OK.arr 50 4 4 l1467]
 else none
 else
 some
 (Out.jump (JX.exit 0) [AV.arr 0 4 0 n1462, vi x1463],
 [Ob.mk OK.arr 50 4 4 l1467])
 else
 bif b1466 then
 some
 (Out.jump (JX.exit 0) [AV.arr 0 4 0 n1462, vi x1463],
 [Ob.mk OK.arr 50 4 4 l1467])
 else
 some
 (Out.jump (JX.exit 0) [AV.arr 0 4 0 n1462, vi x1463],
 [Ob.mk OK.arr 50 4 4 l1467])
 else
 bif b1466 then none
 else
 some
 (Out.jump (JX.exit 0) [AV.arr 0 4 0 n1462, vi x1463],
 [Ob.mk OK.arr 50 4 4 l1467])
 else
 bif decide (b1466 = true) then none
 else
 bif b1466 then none
 else
 some
 (Out.jump (JX.exit 0) [AV.arr 0 4 0 n1462, vi x1463],
 [Ob.mk OK.arr 50 4 4 l1467])
 else
 bif decide (b1466 = true) then none
 else
 bif decide (b1466 = true) then none
 else
 bif b1466 then none
 else
 some
 (Out.jump (JX.exit 0) [AV.arr 0 4 0 n1462, vi x1463],
 [Ob.mk OK.arr 50 4 4 l1467])
 else
 bif decide (b1466 = true) then
 bif decide (b1466 = true) then
 bif decide (b1466 = true) then none
 else
 bif b1466 then none
 else
 some
 (Out.jump (JX.exit 0) [AV.arr 0 4 0 n1462, vi x1463],
 [Ob.mk OK.arr 50 4 4 l1467])
 else
 bif decide (b1466 = true) then none
 else
 bif b1466 then none
 else
 some
 (Out.jump (JX.exit 0) [AV.arr 0 4 0 n1462, vi x1463],
 [Ob.mk OK.arr 50 4 4 l1467])
 else
 bif decide (b1466 = true) then none
 else
 bif decide (b1466 = true) then none
 else
 bif b1466 then none
 else
 some
 (Out.jump (JX.exit 0) [AV.arr 0 4 0 n1462, vi x1463],
 [Ob.mk OK.arr 50 4 4 l1467]) := by
  intros
  exact (E_fast _ _ _ _).trans (by kernel_rfl)


theorem f43 : ∀ (w1489 w1490 w1491 : Int) (w1492 : ByteArray),
 E cx (Key.fn 43)
 [AV.agg [vi w1489, vi w1490, vi w1491, vs w1492]] [] =
 bif decide (w1489 ≥ 0) then
 bif decide (w1490 ≥ 0) then some (Out.ret (vbool true), []) else some (Out.ret (vbool false), [])
 else some (Out.ret (vbool false), []) := by
  intros
  exact (E_fast _ _ _ _).trans (by kernel_rfl)


theorem f45 : ∀ (i1493 : Int) (x1494 : List (List AV)) (x1495 x1496 x1497 : Int) (x1498 : ByteArray),
 E cx (Key.fn 45)
 [vi i1493, AV.rop [AV.list 0 4 x1494],
 AV.rop [vi x1495, vi x1496, vi x1497, vs x1498]]
 [] =
 if 0 ≤ i1493 then
 Option.bind x1494[Int.toNat i1493]? fun cs1499 ↦
 Option.bind (uncons? cs1499) fun p1500 ↦
 Option.bind (AV.int? IntKind.i64 p1500.fst) fun n1501 ↦
 Option.bind (uncons? p1500.snd) fun p1502 ↦
 Option.bind (AV.int? IntKind.i64 p1502.fst) fun n1503 ↦
 Option.bind (uncons? p1502.snd) fun p1504 ↦
 Option.bind (AV.int? IntKind.i64 p1504.fst) fun n1505 ↦
 Option.bind (uncons? p1504.snd) fun p1506 ↦
 Option.bind (AV.str? p1506.fst) fun s1507 ↦
 Option.bind (nil? p1506.snd) fun _ ↦
 Option.bind
 (E cx (Key.fn 46)
 [AV.agg [vi n1501, vi n1503, vi n1505, vs s1507],
 AV.agg [vi x1495, vi x1496, vi x1497, vs x1498]]
 [])
 fun r1509 ↦
 Option.bind (ret1 r1509) fun v1510 ↦
 Option.bind (AV.bool? v1510) fun b1511 ↦
 bif b1511 then some (Out.ret (vbool true), [])
 else some (Out.ret (vbool false), [])
 else none := by
  intros
  exact (E_fast _ _ _ _).trans (by kernel_rfl)


theorem f46 : ∀ (a1512 a1513 a1514 : Int) (a1515 : ByteArray) (b1516 b1517 b1518 : Int) (b1519 : ByteArray),
 E cx (Key.fn 46)
 [AV.agg [vi a1512, vi a1513, vi a1514, vs a1515],
 AV.agg [vi b1516, vi b1517, vi b1518, vs b1519]]
 [] =
 bif decide (a1512 > b1516) then some (Out.ret (vbool true), [])
 else
 bif decide (a1512 = b1516) then
 bif decide (a1513 ≥ b1517) then some (Out.ret (vbool true), [])
 else some (Out.ret (vbool false), [])
 else some (Out.ret (vbool false), []) := by
  intros
  exact (E_fast _ _ _ _).trans (by kernel_rfl)


theorem f47 : ∀ (a1520 a1521 a1522 : Int) (a1523 : ByteArray) (b1524 b1525 b1526 : Int) (b1527 : ByteArray),
 E cx (Key.fn 47)
 [AV.agg [vi a1520, vi a1521, vi a1522, vs a1523],
 AV.agg [vi b1524, vi b1525, vi b1526, vs b1527]]
 [] =
 bif decide (a1520 < b1524) then some (Out.ret (vbool true), [])
 else
 bif decide (a1520 = b1524) then
 bif decide (a1521 < b1525) then some (Out.ret (vbool true), [])
 else some (Out.ret (vbool false), [])
 else some (Out.ret (vbool false), []) := by
  intros
  exact (E_fast _ _ _ _).trans (by kernel_rfl)


theorem f48 : ∀ (i1528 : Int) (x1529 : List (List AV)) (x1530 : Int),
 E cx (Key.fn 48)
 [vi i1528, AV.rop [AV.list 0 4 x1529], AV.rop [vi x1530]] [] =
 if 0 ≤ i1528 then
 Option.bind x1529[Int.toNat i1528]? fun cs1531 ↦
 Option.bind (uncons? cs1531) fun p1532 ↦
 Option.bind (AV.int? IntKind.i64 p1532.fst) fun n1533 ↦
 Option.bind (uncons? p1532.snd) fun p1534 ↦
 Option.bind (AV.int? IntKind.i64 p1534.fst) fun _ ↦
 Option.bind (uncons? p1534.snd) fun p1536 ↦
 Option.bind (AV.int? IntKind.i64 p1536.fst) fun _ ↦
 Option.bind (uncons? p1536.snd) fun p1538 ↦
 Option.bind (AV.str? p1538.fst) fun _ ↦
 Option.bind (nil? p1538.snd) fun _ ↦
 bif decide (n1533 > x1530) then some (Out.ret (vbool true), [])
 else some (Out.ret (vbool false), [])
 else none := by
  intros
  exact (E_fast _ _ _ _).trans (by kernel_rfl)


theorem f51 : ∀ (w1541 w1542 w1543 : Int) (w1544 : ByteArray) (x1545 : Int),
 E cx (Key.fn 51)
 [AV.agg [vi w1541, vi w1542, vi w1543, vs w1544],
 AV.rop [vi x1545]]
 [] =
 bif decide (w1543 = x1545) then some (Out.ret (vbool true), []) else some (Out.ret (vbool false), []) := by
  intros
  exact (E_fast _ _ _ _).trans (by kernel_rfl)

end Go.Proofs.Av
