/- The tree of law 4. -/
import Derived.Test.YtoepfmodbhfckaaAgPQ
set_option maxRecDepth 100000
namespace Go.Proofs.Av
open Go
theorem f4 : ∀ (s0 : ByteArray) (x1 x2 x3 x4 x5 x6 : Int) (x7 x8 : List (List AV)) (x9 : Bool) (by10 : Int) (proof11 : List (List AV))
 (at12 c13 : Int),
 E cx (Key.fn 4)
 [vs s0,
 AV.agg
 [vi x1, vi x2, vi x3, vi x4, vi x5, vi x6, AV.list 0 1 x7,
 AV.list 0 1 x8, vbool x9],
 vi by10, AV.list 0 1 proof11, vi at12, vb c13]
 [] =
 Option.bind
 (E cx (Key.fn 25)
 [AV.agg
 [vi x1, vi x2, vi x3, vi x4, vi x5, vi x6,
 AV.list 0 1 x7, AV.list 0 1 x8, vbool x9]]
 [])
 fun r14 ↦
 Option.bind (ret1 r14) fun v15 ↦
 Option.bind (AV.cells? v15) fun cs16 ↦
 Option.bind (uncons? cs16) fun p17 ↦
 Option.bind (AV.int? IntKind.u64 p17.fst) fun n18 ↦
 Option.bind (uncons? p17.snd) fun p19 ↦
 Option.bind (AV.int? IntKind.u64 p19.fst) fun n20 ↦
 Option.bind (uncons? p19.snd) fun p21 ↦
 Option.bind (AV.int? IntKind.u64 p21.fst) fun n22 ↦
 Option.bind (uncons? p21.snd) fun p23 ↦
 Option.bind (AV.int? IntKind.u64 p23.fst) fun n24 ↦
 Option.bind (uncons? p23.snd) fun p25 ↦
 Option.bind (AV.int? IntKind.u64 p25.fst) fun n26 ↦
 Option.bind (uncons? p25.snd) fun p27 ↦
 Option.bind (AV.int? IntKind.i64 p27.fst) fun n28 ↦
 Option.bind (uncons? p27.snd) fun p29 ↦
 Option.bind (AV.list? 1 p29.fst) fun es30 ↦
 Option.bind (uncons? p29.snd) fun p31 ↦
 Option.bind (AV.bool? p31.fst) fun b32 ↦
 Option.bind (uncons? p31.snd) fun p33 ↦
 Option.bind (AV.list? 2 p33.fst) fun es34 ↦
 Option.bind (nil? p33.snd) fun _ ↦
 Option.bind
 (E cx (Key.fn 26)
 [AV.agg
 [vu n18, vu n20, vu n22, vu n24,
 vu n26, vi n28, AV.list 0 1 es30, vbool b32,
 AV.list 0 2 es34]]
 [])
 fun r36 ↦
 Option.bind (ret1 r36) fun v37 ↦
 Option.bind (AV.tup? v37) fun vs38 ↦
 Option.bind (uncons? vs38) fun p39 ↦
 Option.bind (AV.str? p39.fst) fun s40 ↦
 Option.bind (uncons? p39.snd) fun p41 ↦
 Option.bind (AV.int? IntKind.i64 p41.fst) fun n42 ↦
 Option.bind (nil? p41.snd) fun _ ↦
 Option.bind
 (E cx (Key.fn 28)
 [AV.agg
 [vi x1, vi x2, vi x3, vi x4,
 vi x5, vi x6, AV.list 0 1 x7,
 AV.list 0 1 x8, vbool x9],
 vi by10, AV.list 0 1 proof11]
 [])
 fun r44 ↦
 Option.bind (ret1 r44) fun v45 ↦
 Option.bind (AV.cells? v45) fun cs46 ↦
 Option.bind (uncons? cs46) fun p47 ↦
 Option.bind (AV.int? IntKind.u64 p47.fst) fun n48 ↦
 Option.bind (uncons? p47.snd) fun p49 ↦
 Option.bind (AV.bool? p49.fst) fun b50 ↦
 Option.bind (uncons? p49.snd) fun p51 ↦
 Option.bind (AV.list? 2 p51.fst) fun es52 ↦
 Option.bind (uncons? p51.snd) fun p53 ↦
 Option.bind (AV.int? IntKind.u64 p53.fst) fun n54 ↦
 Option.bind (uncons? p53.snd) fun p55 ↦
 Option.bind (AV.int? IntKind.u64 p55.fst) fun n56 ↦
 Option.bind (uncons? p55.snd) fun p57 ↦
 Option.bind (AV.int? IntKind.u64 p57.fst) fun n58 ↦
 Option.bind (uncons? p57.snd) fun p59 ↦
 Option.bind (AV.int? IntKind.u64 p59.fst)
 fun n60 ↦
 Option.bind (uncons? p59.snd) fun p61 ↦
 Option.bind (AV.int? IntKind.u64 p61.fst)
 fun n62 ↦
 Option.bind (uncons? p61.snd) fun p63 ↦
 Option.bind
 (AV.int? IntKind.i64 p63.fst)
 fun n64 ↦
 Option.bind (uncons? p63.snd) fun p65 ↦
 Option.bind (AV.list? 1 p65.fst)
 fun es66 ↦
 Option.bind (uncons? p65.snd)
 fun p67 ↦
 Option.bind (AV.bool? p67.fst)
 fun b68 ↦
 Option.bind (uncons? p67.snd)
 fun p69 ↦
 Option.bind
 (AV.list? 2 p69.fst)
 fun es70 ↦
 Option.bind (nil? p69.snd)
 fun _ ↦
 Option.bind
 (E cx
 (Key.fn 29)
 [AV.agg
 [vu n48,
 vbool b50,
 AV.list 0 2 es52,
 vu n54,
 vu n56,
 vu n58,
 vu n60,
 vu n62,
 vi n64,
 AV.list 0 1 es66,
 vbool b68,
 AV.list 0 2
 es70]]
 [])
 fun r72 ↦
 Option.bind (ret1 r72)
 fun v73 ↦
 Option.bind
 (AV.tup? v73)
 fun vs74 ↦
 Option.bind
 (uncons? vs74)
 fun p75 ↦
 Option.bind
 (AV.str? p75.fst)
 fun s76 ↦
 Option.bind
 (uncons?
 p75.snd)
 fun p77 ↦
 Option.bind
 (AV.int?
 IntKind.i64 p77.fst)
 fun n78 ↦
 Option.bind
 (nil?
 p77.snd)
 fun _ ↦
 bif n42 != 0 then
 some
 (Out.ret
 (vbool
 false),
 [])
 else
 bif n78 != 0 then
 some
 (Out.ret
 (vbool
 false),
 [])
 else
 if
 0 ≤
 if
 200 <
 ((ByteArray.size
 s0) : Int) then
 200
 else
 ((ByteArray.size
 s0) : Int) then
 if
 (if
 200 <
 ((ByteArray.size
 s0) : Int) then
 200
 else
 ((ByteArray.size
 s0) : Int)) ≤
 ((ByteArray.size
 s0) : Int) then
 Option.bind
 (E
 cx
 (Key.fn
 35)
 [vs
 s40,
 vi
 at12,
 vb
 c13]
 [])
 fun r80 ↦
 Option.bind
 (ret1
 r80)
 fun v81 ↦
 Option.bind
 (AV.str?
 v81)
 fun s82 ↦
 Option.bind
 (E
 cx
 (Key.fn
 35)
 [vs
 s76,
 vi
 at12,
 vb
 c13]
 [])
 fun
 r83 ↦
 Option.bind
 (ret1
 r83)
 fun
 v84 ↦
 Option.bind
 (AV.str?
 v84)
 fun
 s85 ↦
 if
 0 ≤
 if
 24 <
 ((ByteArray.size
 (ByteArray.extract
 s0
 0
 (Int.toNat
 (if
 200 <
 ((ByteArray.size
 s0) : Int) then
 200
 else
 ((ByteArray.size
 s0) : Int))))) : Int) then
 24
 else
 ((ByteArray.size
 (ByteArray.extract
 s0
 0
 (Int.toNat
 (if
 200 <
 ((ByteArray.size
 s0) : Int) then
 200
 else
 ((ByteArray.size
 s0) : Int))))) : Int) then
 if
 (if
 24 <
 ((ByteArray.size
 (ByteArray.extract
 s0
 0
 (Int.toNat
 (if
 200 <
 ((ByteArray.size
 s0) : Int) then
 200
 else
 ((ByteArray.size
 s0) : Int))))) : Int) then
 24
 else
 ((ByteArray.size
 (ByteArray.extract
 s0
 0
 (Int.toNat
 (if
 200 <
 ((ByteArray.size
 s0) : Int) then
 200
 else
 ((ByteArray.size
 s0) : Int))))) : Int)) ≤
 ((ByteArray.size
 (ByteArray.extract
 s0
 0
 (Int.toNat
 (if
 200 <
 ((ByteArray.size
 s0) : Int) then
 200
 else
 ((ByteArray.size
 s0) : Int))))) : Int) then
 Option.bind
 (E
 cx
 (Key.loop
 4
 [true,
 true,
 true,
 true,
 true,
 true,
 false,
 true,
 false])
 [vbool
 false,
 vi
 0,
 vbool
 true,
 AV.list
 0
 1
 [[vs
 (ByteArray.extract
 s0
 0
 (Int.toNat
 (if
 200 <
 ((ByteArray.size
 s0) : Int) then
 200
 else
 ((ByteArray.size
 s0) : Int))))],
 [vs
 s82],
 [vs
 s85],
 [vs
 (ByteArray.extract
 (ByteArray.extract
 s0
 0
 (Int.toNat
 (if
 200 <
 ((ByteArray.size
 s0) : Int) then
 200
 else
 ((ByteArray.size
 s0) : Int))))
 0
 (Int.toNat
 (if
 24 <
 ((ByteArray.size
 (ByteArray.extract
 s0
 0
 (Int.toNat
 (if
 200 <
 ((ByteArray.size
 s0) : Int) then
 200
 else
 ((ByteArray.size
 s0) : Int))))) : Int) then
 24
 else
 ((ByteArray.size
 (ByteArray.extract
 s0
 0
 (Int.toNat
 (if
 200 <
 ((ByteArray.size
 s0) : Int) then
 200
 else
 ((ByteArray.size
 s0) : Int))))) : Int))))]],
 vi
 4]
 [Ob.mk
 OK.box
 25
 9
 0
 [[vi
 x1,
 vi
 x2,
 vi
 x3,
 vi
 x4,
 vi
 x5,
 vi
 x6,
 AV.list
 0
 1
 x7,
 AV.list
 0
 1
 x8,
 vbool
 x9]]])
 fun
 r86 ↦
 Option.bind
 (asJump
 r86)
 fun
 j87 ↦
 bif
 JX.is
 j87.fst
 (JX.exit
 0) then
 Option.bind
 (uncons?
 j87.snd.fst)
 fun
 p88 ↦
 Option.bind
 (AV.bool?
 p88.fst)
 fun
 _ ↦
 Option.bind
 (uncons?
 p88.snd)
 fun
 p90 ↦
 Option.bind
 (AV.int?
 IntKind.i64
 p90.fst)
 fun
 _ ↦
 Option.bind
 (nil?
 p90.snd)
 fun
 _ ↦
 Option.bind
 (uncons?
 j87.snd.snd)
 fun
 p93 ↦
 Option.bind
 (obIs
 (Ob.mk
 OK.box
 25
 9
 0
 [[vi
 x1,
 vi
 x2,
 vi
 x3,
 vi
 x4,
 vi
 x5,
 vi
 x6,
 AV.list
 0
 1
 x7,
 AV.list
 0
 1
 x8,
 vbool
 x9]])
 p93.fst)
 fun
 _ ↦
 Option.bind
 (chk
 p93.fst.ver
 0)
 fun
 _ ↦
 Option.bind
 (uncons?
 p93.fst.es)
 fun
 p96 ↦
 Option.bind
 (nil?
 p96.snd)
 fun
 _ ↦
 Option.bind
 (uncons?
 p96.fst)
 fun
 p98 ↦
 Option.bind
 (AV.int?
 IntKind.i64
 p98.fst)
 fun
 _ ↦
 Option.bind
 (uncons?
 p98.snd)
 fun
 p100 ↦
 Option.bind
 (AV.int?
 IntKind.i64
 p100.fst)
 fun
 _ ↦
 Option.bind
 (uncons?
 p100.snd)
 fun
 p102 ↦
 Option.bind
 (AV.int?
 IntKind.i64
 p102.fst)
 fun
 _ ↦
 Option.bind
 (uncons?
 p102.snd)
 fun
 p104 ↦
 Option.bind
 (AV.int?
 IntKind.i64
 p104.fst)
 fun
 _ ↦
 Option.bind
 (uncons?
 p104.snd)
 fun
 p106 ↦
 Option.bind
 (AV.int?
 IntKind.i64
 p106.fst)
 fun
 _ ↦
 Option.bind
 (uncons?
 p106.snd)
 fun
 p108 ↦
 Option.bind
 (AV.int?
 IntKind.i64
 p108.fst)
 fun
 _ ↦
 Option.bind
 (uncons?
 p108.snd)
 fun
 p110 ↦
 Option.bind
 (AV.list?
 1
 p110.fst)
 fun
 _ ↦
 Option.bind
 (uncons?
 p110.snd)
 fun
 p112 ↦
 Option.bind
 (AV.list?
 1
 p112.fst)
 fun
 _ ↦
 Option.bind
 (uncons?
 p112.snd)
 fun
 p114 ↦
 Option.bind
 (AV.bool?
 p114.fst)
 fun
 _ ↦
 Option.bind
 (nil?
 p114.snd)
 fun
 _ ↦
 Option.bind
 (nil?
 p93.snd)
 fun
 _ ↦
 some
 (Out.ret
 (vbool
 true),
 [])
 else
 bif
 JX.is
 j87.fst
 JX.ret then
 Option.bind
 (uncons?
 j87.snd.fst)
 fun
 p118 ↦
 Option.bind
 (AV.bool?
 p118.fst)
 fun
 b119 ↦
 Option.bind
 (uncons?
 p118.snd)
 fun
 p120 ↦
 Option.bind
 (AV.int?
 IntKind.i64
 p120.fst)
 fun
 _ ↦
 Option.bind
 (nil?
 p120.snd)
 fun
 _ ↦
 Option.bind
 (uncons?
 j87.snd.snd)
 fun
 p123 ↦
 Option.bind
 (obIs
 (Ob.mk
 OK.box
 25
 9
 0
 [[vi
 x1,
 vi
 x2,
 vi
 x3,
 vi
 x4,
 vi
 x5,
 vi
 x6,
 AV.list
 0
 1
 x7,
 AV.list
 0
 1
 x8,
 vbool
 x9]])
 p123.fst)
 fun
 _ ↦
 Option.bind
 (chk
 p123.fst.ver
 0)
 fun
 _ ↦
 Option.bind
 (uncons?
 p123.fst.es)
 fun
 p126 ↦
 Option.bind
 (nil?
 p126.snd)
 fun
 _ ↦
 Option.bind
 (uncons?
 p126.fst)
 fun
 p128 ↦
 Option.bind
 (AV.int?
 IntKind.i64
 p128.fst)
 fun
 _ ↦
 Option.bind
 (uncons?
 p128.snd)
 fun
 p130 ↦
 Option.bind
 (AV.int?
 IntKind.i64
 p130.fst)
 fun
 _ ↦
 Option.bind
 (uncons?
 p130.snd)
 fun
 p132 ↦
 Option.bind
 (AV.int?
 IntKind.i64
 p132.fst)
 fun
 _ ↦
 Option.bind
 (uncons?
 p132.snd)
 fun
 p134 ↦
 Option.bind
 (AV.int?
 IntKind.i64
 p134.fst)
 fun
 _ ↦
 Option.bind
 (uncons?
 p134.snd)
 fun
 p136 ↦
 Option.bind
 (AV.int?
 IntKind.i64
 p136.fst)
 fun
 _ ↦
 Option.bind
 (uncons?
 p136.snd)
 fun
 p138 ↦
 Option.bind
 (AV.int?
 IntKind.i64
 p138.fst)
 fun
 _ ↦
 Option.bind
 (uncons?
 p138.snd)
 fun
 p140 ↦
 Option.bind
 (AV.list?
 1
 p140.fst)
 fun
 _ ↦
 Option.bind
 (uncons?
 p140.snd)
 fun
 p142 ↦
 Option.bind
 (AV.list?
 1
 p142.fst)
 fun
 _ ↦
 Option.bind
 (uncons?
 p142.snd)
 fun
 p144 ↦
 Option.bind
 (AV.bool?
 p144.fst)
 fun
 _ ↦
 Option.bind
 (nil?
 p144.snd)
 fun
 _ ↦
 Option.bind
 (nil?
 p123.snd)
 fun
 _ ↦
 some
 (Out.ret
 (vbool
 b119),
 [])
 else
 none
 else
 none
 else
 none
 else none
 else none := by
 intros
 exact (E_ov f24_true [188] _ _ _).trans (by kernel_rfl)
noncomputable def q4_l0_0 : Int → Int → Int → Int → Int → Int → Int → List (List AV) → List (List AV) → Bool → Option (Out × Heap) :=
 fun x149 x153 x154 x155 x156 x157 x158 l159 l160 b161 ↦
 some
 (Out.jump JX.ret [vbool false, vi x149],
 [Ob.mk OK.box 25 9 0
 [[vi x153, vi x154, vi x155, vi x156, vi x157, vi x158,
 AV.list 0 1 l159, AV.list 0 1 l160, vbool b161]]])
noncomputable def q4_l0_1 : Bool →
 Int →
 Bool →
 List (List AV) →
 Int →
 Int → Int → Int → Int → Int → Int → List (List AV) → List (List AV) → Bool → Option (Out × Heap) :=
 fun b148 x149 b150 l151 x152 x153 x154 x155 x156 x157 x158 l159 l160 b161 ↦
 E cx (Key.loop 4 [true, true, true, true, true, true, false, true, false])
 [vbool b148, vi (IntKind.wrap IntKind.i64 (Int.add x149 1)), vbool b150, AV.list 0 1 l151,
 vi x152]
 [Ob.mk OK.box 25 9 0
 [[vi x153, vi x154, vi x155, vi x156, vi x157, vi x158,
 AV.list 0 1 l159, AV.list 0 1 l160, vbool b161]]]
noncomputable def q4_l0_2 : Int →
 Int →
 Int →
 Int →
 ByteArray →
 Int →
 Int →
 Int →
 Int →
 Int →
 Int →
 Int →
 List (List AV) →
 List (List AV) → Bool → Bool → Bool → List (List AV) → Int → Option (Out × Heap) :=
 fun n255 n248 n250 n252 s164 x149 x153 x154 x155 x156 x157 x158 l159 l160 b161 b148 b150 l151 x152 ↦
 bif decide (n255 = 0) then
 Option.bind
 (E cx (Key.fn 32) [AV.agg [vu n248, vu n250, vu n252]] [])
 fun r257 ↦
 Option.bind (ret1 r257) fun v258 ↦
 Option.bind (AV.str? v258) fun s259 ↦
 bif !List.beq (ByteArray.toList s259) (ByteArray.toList s164) then q4_l0_0 x149 x153 x154 x155 x156 x157 x158 l159 l160 b161
 else q4_l0_1 b148 x149 b150 l151 x152 x153 x154 x155 x156 x157 x158 l159 l160 b161
 else q4_l0_1 b148 x149 b150 l151 x152 x153 x154 x155 x156 x157 x158 l159 l160 b161
noncomputable def q4_l0_3 : ByteArray →
 Int →
 Int →
 Int →
 Int →
 Int →
 Int →
 Int →
 List (List AV) →
 List (List AV) → Bool → Bool → Bool → List (List AV) → Int → Option (Out × Heap) :=
 fun s164 x149 x153 x154 x155 x156 x157 x158 l159 l160 b161 b148 b150 l151 x152 ↦
 Option.bind (E cx (Key.fn 31) [vs s164] []) fun r242 ↦
 Option.bind (ret1 r242) fun v243 ↦
 Option.bind (AV.tup? v243) fun vs244 ↦
 Option.bind (uncons? vs244) fun p245 ↦
 Option.bind (AV.cells? p245.fst) fun cs246 ↦
 Option.bind (uncons? cs246) fun p247 ↦
 Option.bind (AV.int? IntKind.u64 p247.fst) fun n248 ↦
 Option.bind (uncons? p247.snd) fun p249 ↦
 Option.bind (AV.int? IntKind.u64 p249.fst) fun n250 ↦
 Option.bind (uncons? p249.snd) fun p251 ↦
 Option.bind (AV.int? IntKind.u64 p251.fst) fun n252 ↦
 Option.bind (nil? p251.snd) fun _ ↦
 Option.bind (uncons? p245.snd) fun p254 ↦
 Option.bind (AV.int? IntKind.i64 p254.fst) fun n255 ↦
 Option.bind (nil? p254.snd) fun _ ↦
 bif decide (n255 = 0) then
 bif decide (((ByteArray.size s164) : Int) = 24) then
 q4_l0_2 n255 n248 n250 n252 s164 x149 x153 x154 x155 x156 x157 x158 l159 l160 b161 b148 b150 l151 x152
 else q4_l0_0 x149 x153 x154 x155 x156 x157 x158 l159 l160 b161
 else
 bif decide (((ByteArray.size s164) : Int) = 24) then q4_l0_0 x149 x153 x154 x155 x156 x157 x158 l159 l160 b161
 else q4_l0_2 n255 n248 n250 n252 s164 x149 x153 x154 x155 x156 x157 x158 l159 l160 b161 b148 b150 l151 x152
noncomputable def q4_l0_4 : ByteArray →
 Int →
 Int →
 Int →
 Int →
 Int →
 Int →
 Int →
 List (List AV) →
 List (List AV) → Bool → Bool → Bool → List (List AV) → Int → Option (Out × Heap) :=
 fun s164 x149 x153 x154 x155 x156 x157 x158 l159 l160 b161 b148 b150 l151 x152 ↦
 Option.bind (E cx (Key.fn 30) [vs s164] []) fun r201 ↦
 Option.bind (ret1 r201) fun v202 ↦
 Option.bind (AV.tup? v202) fun vs203 ↦
 Option.bind (uncons? vs203) fun p204 ↦
 Option.bind (AV.cells? p204.fst) fun cs205 ↦
 Option.bind (uncons? cs205) fun p206 ↦
 Option.bind (AV.int? IntKind.u64 p206.fst) fun n207 ↦
 Option.bind (uncons? p206.snd) fun p208 ↦
 Option.bind (AV.bool? p208.fst) fun b209 ↦
 Option.bind (uncons? p208.snd) fun p210 ↦
 Option.bind (AV.list? 2 p210.fst) fun es211 ↦
 Option.bind (uncons? p210.snd) fun p212 ↦
 Option.bind (AV.int? IntKind.u64 p212.fst) fun n213 ↦
 Option.bind (uncons? p212.snd) fun p214 ↦
 Option.bind (AV.int? IntKind.u64 p214.fst) fun n215 ↦
 Option.bind (uncons? p214.snd) fun p216 ↦
 Option.bind (AV.int? IntKind.u64 p216.fst) fun n217 ↦
 Option.bind (uncons? p216.snd) fun p218 ↦
 Option.bind (AV.int? IntKind.u64 p218.fst) fun n219 ↦
 Option.bind (uncons? p218.snd) fun p220 ↦
 Option.bind (AV.int? IntKind.u64 p220.fst) fun n221 ↦
 Option.bind (uncons? p220.snd) fun p222 ↦
 Option.bind (AV.int? IntKind.i64 p222.fst) fun n223 ↦
 Option.bind (uncons? p222.snd) fun p224 ↦
 Option.bind (AV.list? 1 p224.fst) fun es225 ↦
 Option.bind (uncons? p224.snd) fun p226 ↦
 Option.bind (AV.bool? p226.fst) fun b227 ↦
 Option.bind (uncons? p226.snd) fun p228 ↦
 Option.bind (AV.list? 2 p228.fst) fun es229 ↦
 Option.bind (nil? p228.snd) fun _ ↦
 Option.bind (uncons? p204.snd) fun p231 ↦
 Option.bind (AV.int? IntKind.i64 p231.fst) fun n232 ↦
 Option.bind (nil? p231.snd) fun _ ↦
 bif decide (n232 = 0) then
 Option.bind
 (E cx (Key.fn 29)
 [AV.agg
 [vu n207, vbool b209, AV.list 0 2 es211,
 vu n213, vu n215, vu n217,
 vu n219, vu n221, vi n223,
 AV.list 0 1 es225, vbool b227,
 AV.list 0 2 es229]]
 [])
 fun r234 ↦
 Option.bind (ret1 r234) fun v235 ↦
 Option.bind (AV.tup? v235) fun vs236 ↦
 Option.bind (uncons? vs236) fun p237 ↦
 Option.bind (AV.str? p237.fst) fun s238 ↦
 Option.bind (uncons? p237.snd) fun p239 ↦
 Option.bind (AV.int? IntKind.i64 p239.fst) fun n240 ↦
 Option.bind (nil? p239.snd) fun _ ↦
 bif n240 != 0 then
 q4_l0_0 x149 x153 x154 x155 x156 x157 x158 l159 l160 b161
 else
 bif !List.beq (ByteArray.toList s238) (ByteArray.toList s164) then
 q4_l0_0 x149 x153 x154 x155 x156 x157 x158 l159 l160 b161
 else
 q4_l0_3 s164 x149 x153 x154 x155 x156 x157 x158 l159 l160
 b161 b148 b150 l151 x152
 else
 q4_l0_3 s164 x149 x153 x154 x155 x156 x157 x158 l159 l160 b161 b148 b150 l151
 x152
theorem f4_l0 : ∀ (b148 : Bool) (x149 : Int) (b150 : Bool) (l151 : List (List AV)) (x152 x153 x154 x155 x156 x157 x158 : Int)
 (l159 l160 : List (List AV)) (b161 : Bool),
 E cx (Key.loop 4 [true, true, true, true, true, true, false, true, false])
 [vbool b148, vi x149, vbool b150, AV.list 0 1 l151, vi x152]
 [Ob.mk OK.box 25 9 0
 [[vi x153, vi x154, vi x155, vi x156, vi x157, vi x158,
 AV.list 0 1 l159, AV.list 0 1 l160, vbool b161]]] =
 bif decide (x149 < x152) then
 if 0 ≤ x149 then
 Option.bind l151[Int.toNat x149]? fun cs162 ↦
 Option.bind (uncons? cs162) fun p163 ↦
 Option.bind (AV.str? p163.fst) fun s164 ↦
 Option.bind (nil? p163.snd) fun _ ↦
 Option.bind (E cx (Key.fn 27) [vs s164] []) fun r166 ↦
 Option.bind (ret1 r166) fun v167 ↦
 Option.bind (AV.tup? v167) fun vs168 ↦
 Option.bind (uncons? vs168) fun p169 ↦
 Option.bind (AV.cells? p169.fst) fun cs170 ↦
 Option.bind (uncons? cs170) fun p171 ↦
 Option.bind (AV.int? IntKind.u64 p171.fst) fun n172 ↦
 Option.bind (uncons? p171.snd) fun p173 ↦
 Option.bind (AV.int? IntKind.u64 p173.fst) fun n174 ↦
 Option.bind (uncons? p173.snd) fun p175 ↦
 Option.bind (AV.int? IntKind.u64 p175.fst) fun n176 ↦
 Option.bind (uncons? p175.snd) fun p177 ↦
 Option.bind (AV.int? IntKind.u64 p177.fst) fun n178 ↦
 Option.bind (uncons? p177.snd) fun p179 ↦
 Option.bind (AV.int? IntKind.u64 p179.fst) fun n180 ↦
 Option.bind (uncons? p179.snd) fun p181 ↦
 Option.bind (AV.int? IntKind.i64 p181.fst) fun n182 ↦
 Option.bind (uncons? p181.snd) fun p183 ↦
 Option.bind (AV.list? 1 p183.fst) fun es184 ↦
 Option.bind (uncons? p183.snd) fun p185 ↦
 Option.bind (AV.bool? p185.fst) fun b186 ↦
 Option.bind (uncons? p185.snd) fun p187 ↦
 Option.bind (AV.list? 2 p187.fst) fun es188 ↦
 Option.bind (nil? p187.snd) fun _ ↦
 Option.bind (uncons? p169.snd) fun p190 ↦
 Option.bind (AV.int? IntKind.i64 p190.fst) fun n191 ↦
 Option.bind (nil? p190.snd) fun _ ↦
 bif decide (n191 = 0) then
 Option.bind
 (E cx (Key.fn 26)
 [AV.agg
 [vu n172, vu n174, vu n176,
 vu n178, vu n180, vi n182,
 AV.list 0 1 es184, vbool b186,
 AV.list 0 2 es188]]
 [])
 fun r193 ↦
 Option.bind (ret1 r193) fun v194 ↦
 Option.bind (AV.tup? v194) fun vs195 ↦
 Option.bind (uncons? vs195) fun p196 ↦
 Option.bind (AV.str? p196.fst) fun s197 ↦
 Option.bind (uncons? p196.snd) fun p198 ↦
 Option.bind (AV.int? IntKind.i64 p198.fst) fun n199 ↦
 Option.bind (nil? p198.snd) fun _ ↦
 bif n199 != 0 then
 q4_l0_0 x149 x153 x154 x155 x156 x157 x158 l159 l160 b161
 else
 bif !List.beq (ByteArray.toList s197) (ByteArray.toList s164) then
 q4_l0_0 x149 x153 x154 x155 x156 x157 x158 l159 l160
 b161
 else
 q4_l0_4 s164 x149 x153 x154 x155 x156 x157 x158 l159
 l160 b161 b148 b150 l151 x152
 else
 q4_l0_4 s164 x149 x153 x154 x155 x156 x157 x158 l159 l160 b161 b148 b150
 l151 x152
 else none
 else
 some
 (Out.jump (JX.exit 0) [vbool b148, vi x149],
 [Ob.mk OK.box 25 9 0
 [[vi x153, vi x154, vi x155, vi x156, vi x157, vi x158,
 AV.list 0 1 l159, AV.list 0 1 l160, vbool b161]]]) := by
 intros
 exact (E_ov f24_true [188] _ _ _).trans (by kernel_rfl)
end Go.Proofs.Av
