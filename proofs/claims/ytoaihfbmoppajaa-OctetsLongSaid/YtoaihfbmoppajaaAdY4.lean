/- A law's tree. -/
import Derived.Test.YtoaihfbmoppajaaAdYt
set_option maxRecDepth 100000
namespace Go.Proofs.Av
open Go
def q4_0 (n668 : Int) := IntKind.wrap IntKind.i64 (Int.add 65500 n668)
def q4_1 (n668 : Int) := List.replicate (Int.toNat (q4_0 n668)) [vb 0]
theorem f4 : ∀ (n664 part665 : Int), E cx (Key.fn 4) [vi n664, vi part665] [] = Option.bind (E cx (Key.fn 15) [vi n664, vi 50] []) fun r666 ↦
 Option.bind (ret1 r666) fun v667 ↦
 Option.bind (AV.int? IntKind.i64 v667) fun n668 ↦
 if 0 ≤ IntKind.wrap IntKind.i64 (Int.add 65500 n668) then
 if IntKind.wrap IntKind.i64 (Int.add 65500 n668) ≤ IntKind.wrap IntKind.i64 (Int.add 65500 n668) then
 if Int.mul 1 (q4_0 n668) ≤ 281474976710656 then
 Option.bind (yRows [Ob.mk OK.arr 5 1 1 (q4_1 n668)] 1 (AV.arr 0 1 0 (Int.toNat (q4_0 n668)))) fun ys669 ↦
 Option.bind (numsOf ys669) fun ns670 ↦
 Option.bind (E cx (Key.fn 15) [vi part665, vi 60] []) fun r671 ↦
 Option.bind (ret1 r671) fun v672 ↦
 Option.bind (AV.int? IntKind.i64 v672) fun n673 ↦
 if 0 ≤ n673 then
 if n673 ≤ n673 then
 if Int.mul 1 n673 ≤ 281474976710656 then
 Option.bind (yRows [Ob.mk OK.arr 5 1 1 (q4_1 n668), Ob.mk OK.arr 5 1 1 (List.replicate (Int.toNat n673) [vb 0])] 1 (AV.arr 1 1 0 (Int.toNat n673))) fun ys674 ↦
 Option.bind (numsOf ys674) fun ns675 ↦
 Option.bind (E cx (Key.fn 20) [vs (Go.strOfNums ns670), AV.list 0 1 []] []) fun r676 ↦
 Option.bind (ret1 r676) fun v677 ↦
 Option.bind (AV.tup? v677) fun vs678 ↦
 Option.bind (uncons? vs678) fun p679 ↦
 Option.bind (AV.str? p679.fst) fun s680 ↦
 Option.bind (uncons? p679.snd) fun p681 ↦
 Option.bind (AV.int? IntKind.i64 p681.fst) fun n682 ↦
 Option.bind (nil? p681.snd) fun _ ↦
 Option.bind (E cx (Key.fn 21) [vs (Go.strOfNums ns670), AV.list 0 1 []] []) fun r684 ↦
 Option.bind (ret1 r684) fun v685 ↦
 Option.bind (AV.tup? v685) fun vs686 ↦
 Option.bind (uncons? vs686) fun p687 ↦
 Option.bind (AV.str? p687.fst) fun s688 ↦
 Option.bind (uncons? p687.snd) fun p689 ↦
 Option.bind (AV.int? IntKind.i64 p689.fst) fun n690 ↦
 Option.bind (nil? p689.snd) fun _ ↦
 bif !List.beq (ByteArray.toList s680) (ByteArray.toList s688) then
 some (Out.ret (vbool false), []) else
 bif n682 != n690 then
 some (Out.ret (vbool false), []) else Option.bind (E cx (Key.fn 20) [vs (Go.strOfNums ns670), AV.list 0 1 [[vs (Go.strOfNums ns675)]]] []) fun r692 ↦
 Option.bind (ret1 r692) fun v693 ↦
 Option.bind (AV.tup? v693) fun vs694 ↦
 Option.bind (uncons? vs694) fun p695 ↦
 Option.bind (AV.str? p695.fst) fun s696 ↦
 Option.bind (uncons? p695.snd) fun p697 ↦
 Option.bind (AV.int? IntKind.i64 p697.fst) fun n698 ↦
 Option.bind (nil? p697.snd) fun _ ↦
 Option.bind (E cx (Key.fn 21) [vs (Go.strOfNums ns670), AV.list 0 1 [[vs (Go.strOfNums ns675)]]] []) fun r700 ↦
 Option.bind (ret1 r700) fun v701 ↦
 Option.bind (AV.tup? v701) fun vs702 ↦
 Option.bind (uncons? vs702) fun p703 ↦
 Option.bind (AV.str? p703.fst) fun s704 ↦
 Option.bind (uncons? p703.snd) fun p705 ↦
 Option.bind (AV.int? IntKind.i64 p705.fst) fun n706 ↦
 Option.bind (nil? p705.snd) fun _ ↦
 bif !List.beq (ByteArray.toList s696) (ByteArray.toList s704) then
 some (Out.ret (vbool false), []) else
 bif n698 != n706 then
 some (Out.ret (vbool false), []) else Option.bind (E cx (Key.fn 20) [vs (Go.strOfNums ns670), AV.list 0 1 [[vs (Go.strOfNums ns675)], [vs (Go.strOfNums ns675)]]] []) fun r708 ↦
 Option.bind (ret1 r708) fun v709 ↦
 Option.bind (AV.tup? v709) fun vs710 ↦
 Option.bind (uncons? vs710) fun p711 ↦
 Option.bind (AV.str? p711.fst) fun s712 ↦
 Option.bind (uncons? p711.snd) fun p713 ↦
 Option.bind (AV.int? IntKind.i64 p713.fst) fun n714 ↦
 Option.bind (nil? p713.snd) fun _ ↦
 Option.bind (E cx (Key.fn 21) [vs (Go.strOfNums ns670), AV.list 0 1 [[vs (Go.strOfNums ns675)], [vs (Go.strOfNums ns675)]]] []) fun r716 ↦
 Option.bind (ret1 r716) fun v717 ↦
 Option.bind (AV.tup? v717) fun vs718 ↦
 Option.bind (uncons? vs718) fun p719 ↦
 Option.bind (AV.str? p719.fst) fun s720 ↦
 Option.bind (uncons? p719.snd) fun p721 ↦
 Option.bind (AV.int? IntKind.i64 p721.fst) fun n722 ↦
 Option.bind (nil? p721.snd) fun _ ↦
 bif !List.beq (ByteArray.toList s712) (ByteArray.toList s720) then
 some (Out.ret (vbool false), []) else
 bif n714 != n722 then
 some (Out.ret (vbool false), []) else Option.bind (E cx (Key.fn 20) [vs (Go.strOfNums ns670), AV.list 0 1 [[vs (ByteArray.mk (Array.mk []))], [vs (ByteArray.mk (Array.mk []))], [vs (ByteArray.mk (Array.mk []))], [vs (ByteArray.mk (Array.mk []))], [vs (ByteArray.mk (Array.mk []))], [vs (ByteArray.mk (Array.mk []))], [vs (ByteArray.mk (Array.mk []))], [vs (ByteArray.mk (Array.mk []))]]] []) fun r724 ↦
 Option.bind (ret1 r724) fun v725 ↦
 Option.bind (AV.tup? v725) fun vs726 ↦
 Option.bind (uncons? vs726) fun p727 ↦
 Option.bind (AV.str? p727.fst) fun s728 ↦
 Option.bind (uncons? p727.snd) fun p729 ↦
 Option.bind (AV.int? IntKind.i64 p729.fst) fun n730 ↦
 Option.bind (nil? p729.snd) fun _ ↦
 Option.bind (E cx (Key.fn 21) [vs (Go.strOfNums ns670), AV.list 0 1 [[vs (ByteArray.mk (Array.mk []))], [vs (ByteArray.mk (Array.mk []))], [vs (ByteArray.mk (Array.mk []))], [vs (ByteArray.mk (Array.mk []))], [vs (ByteArray.mk (Array.mk []))], [vs (ByteArray.mk (Array.mk []))], [vs (ByteArray.mk (Array.mk []))], [vs (ByteArray.mk (Array.mk []))]]] []) fun r732 ↦
 Option.bind (ret1 r732) fun v733 ↦
 Option.bind (AV.tup? v733) fun vs734 ↦
 Option.bind (uncons? vs734) fun p735 ↦
 Option.bind (AV.str? p735.fst) fun s736 ↦
 Option.bind (uncons? p735.snd) fun p737 ↦
 Option.bind (AV.int? IntKind.i64 p737.fst) fun n738 ↦
 Option.bind (nil? p737.snd) fun _ ↦
 bif !List.beq (ByteArray.toList s728) (ByteArray.toList s736) then
 some (Out.ret (vbool false), []) else
 bif n730 != n738 then
 some (Out.ret (vbool false), []) else Option.bind (E cx (Key.fn 20) [vs (Go.strOfNums ns670), AV.list 0 1 [[vs (ByteArray.mk (Array.mk []))], [vs (ByteArray.mk (Array.mk []))], [vs (ByteArray.mk (Array.mk []))], [vs (ByteArray.mk (Array.mk []))], [vs (ByteArray.mk (Array.mk []))], [vs (ByteArray.mk (Array.mk []))], [vs (ByteArray.mk (Array.mk []))], [vs (ByteArray.mk (Array.mk []))], [vs (ByteArray.mk (Array.mk []))]]] []) fun r740 ↦
 Option.bind (ret1 r740) fun v741 ↦
 Option.bind (AV.tup? v741) fun vs742 ↦
 Option.bind (uncons? vs742) fun p743 ↦
 Option.bind (AV.str? p743.fst) fun s744 ↦
 Option.bind (uncons? p743.snd) fun p745 ↦
 Option.bind (AV.int? IntKind.i64 p745.fst) fun n746 ↦
 Option.bind (nil? p745.snd) fun _ ↦
 Option.bind (E cx (Key.fn 21) [vs (Go.strOfNums ns670), AV.list 0 1 [[vs (ByteArray.mk (Array.mk []))], [vs (ByteArray.mk (Array.mk []))], [vs (ByteArray.mk (Array.mk []))], [vs (ByteArray.mk (Array.mk []))], [vs (ByteArray.mk (Array.mk []))], [vs (ByteArray.mk (Array.mk []))], [vs (ByteArray.mk (Array.mk []))], [vs (ByteArray.mk (Array.mk []))], [vs (ByteArray.mk (Array.mk []))]]] []) fun r748 ↦
 Option.bind (ret1 r748) fun v749 ↦
 Option.bind (AV.tup? v749) fun vs750 ↦
 Option.bind (uncons? vs750) fun p751 ↦
 Option.bind (AV.str? p751.fst) fun s752 ↦
 Option.bind (uncons? p751.snd) fun p753 ↦
 Option.bind (AV.int? IntKind.i64 p753.fst) fun n754 ↦
 Option.bind (nil? p753.snd) fun _ ↦
 bif !List.beq (ByteArray.toList s744) (ByteArray.toList s752) then
 some (Out.ret (vbool false), []) else
 bif n746 != n754 then
 some (Out.ret (vbool false), []) else Option.bind (E cx (Key.fn 20) [vs (ByteArray.mk (Array.mk [])), AV.list 0 1 [[vs (Go.strOfNums ns670)], [vs (Go.strOfNums ns675)]]] []) fun r756 ↦
 Option.bind (ret1 r756) fun v757 ↦
 Option.bind (AV.tup? v757) fun vs758 ↦
 Option.bind (uncons? vs758) fun p759 ↦
 Option.bind (AV.str? p759.fst) fun s760 ↦
 Option.bind (uncons? p759.snd) fun p761 ↦
 Option.bind (AV.int? IntKind.i64 p761.fst) fun n762 ↦
 Option.bind (nil? p761.snd) fun _ ↦
 Option.bind (E cx (Key.fn 21) [vs (ByteArray.mk (Array.mk [])), AV.list 0 1 [[vs (Go.strOfNums ns670)], [vs (Go.strOfNums ns675)]]] []) fun r764 ↦
 Option.bind (ret1 r764) fun v765 ↦
 Option.bind (AV.tup? v765) fun vs766 ↦
 Option.bind (uncons? vs766) fun p767 ↦
 Option.bind (AV.str? p767.fst) fun s768 ↦
 Option.bind (uncons? p767.snd) fun p769 ↦
 Option.bind (AV.int? IntKind.i64 p769.fst) fun n770 ↦
 Option.bind (nil? p769.snd) fun _ ↦
 if ((Nat.add (ByteArray.size (Go.strOfNums ns670)) (ByteArray.size (Go.strOfNums ns675))) : Int) > 9223372036854775807 then
 none else Option.bind (E cx (Key.fn 22) [vs (ByteArray.append (Go.strOfNums ns670) (Go.strOfNums ns675)), vi ((ByteArray.size (Go.strOfNums ns670)) : Int), vi 0] []) fun r772 ↦
 Option.bind (ret1 r772) fun v773 ↦
 Option.bind (AV.tup? v773) fun vs774 ↦
 Option.bind (uncons? vs774) fun p775 ↦
 Option.bind (AV.str? p775.fst) fun s776 ↦
 Option.bind (uncons? p775.snd) fun p777 ↦
 Option.bind (AV.list? 1 p777.fst) fun es778 ↦
 Option.bind (uncons? p777.snd) fun p779 ↦
 Option.bind (AV.int? IntKind.i64 p779.fst) fun n780 ↦
 Option.bind (nil? p779.snd) fun _ ↦
 if ((Nat.add (ByteArray.size (Go.strOfNums ns670)) (ByteArray.size (Go.strOfNums ns675))) : Int) > 9223372036854775807 then
 none else Option.bind (E cx (Key.fn 23) [vs (ByteArray.append (Go.strOfNums ns670) (Go.strOfNums ns675)), vi ((ByteArray.size (Go.strOfNums ns670)) : Int), vi 0] []) fun r782 ↦
 Option.bind (ret1 r782) fun v783 ↦
 Option.bind (AV.tup? v783) fun vs784 ↦
 Option.bind (uncons? vs784) fun p785 ↦
 Option.bind (AV.str? p785.fst) fun s786 ↦
 Option.bind (uncons? p785.snd) fun p787 ↦
 Option.bind (AV.list? 1 p787.fst) fun es788 ↦
 Option.bind (uncons? p787.snd) fun p789 ↦
 Option.bind (AV.int? IntKind.i64 p789.fst) fun n790 ↦
 Option.bind (nil? p789.snd) fun _ ↦
 bif List.beq (ByteArray.toList s760) (ByteArray.toList s768) then
 bif decide (n762 = n770) then
 bif List.beq (ByteArray.toList s776) (ByteArray.toList s786) then
 bif decide (n780 = n790) then
 Option.bind (E cx (Key.fn 24) [AV.list 0 1 es778, AV.list 0 1 es788] []) fun r792 ↦
 Option.bind (ret1 r792) fun v793 ↦
 Option.bind (AV.bool? v793) fun b794 ↦
 bif b794 then
 some (Out.ret (vbool true), []) else some (Out.ret (vbool false), []) else some (Out.ret (vbool false), []) else some (Out.ret (vbool false), []) else some (Out.ret (vbool false), []) else some (Out.ret (vbool false), []) else none else none else none else none else none else none := by
  intros
  exact (E_ov f13_true [52] _ _ _).trans (by kernel_rfl)

end Go.Proofs.Av
