/- Bits: law 12 as a tree. -/
import Derived.Test.YtoepfmodbhfckaaAfPP
set_option maxRecDepth 100000
namespace Go.Proofs.Av
open Go
theorem f12 : ∀ (b0 : Int) (b1 : List (List AV)) (n2 : Int) (raw3 other4 : List (List AV)) (s5 : ByteArray) (at6 c7 most8 i9 : Int),
 E cx (Key.fn 12)
 [AV.agg [vi b0, AV.list 0 1 b1], vi n2, AV.list 0 1 raw3,
 AV.list 0 1 other4, vs s5, vi at6, vb c7, vi most8, vi i9]
 [] =
 if 0 ≤ if 60 < ((List.length b1) : Int) then 60 else ((List.length b1) : Int) then
 if (if 60 < ((List.length b1) : Int) then 60 else ((List.length b1) : Int)) ≤ ((List.length b1) : Int) then
 Option.bind (E cx (Key.fn 55) [vi n2, vi 40, AV.list 0 1 raw3] [])
 fun r10 ↦
 Option.bind (ret1 r10) fun v11 ↦
 Option.bind (AV.cells? v11) fun cs12 ↦
 Option.bind (uncons? cs12) fun p13 ↦
 Option.bind (AV.int? IntKind.i64 p13.fst) fun n14 ↦
 Option.bind (uncons? p13.snd) fun p15 ↦
 Option.bind (AV.list? 1 p15.fst) fun es16 ↦
 Option.bind (nil? p15.snd) fun _ ↦
 Option.bind
 (E cx (Key.fn 55) [vi n2, vi 40, AV.list 0 1 other4] [])
 fun r18 ↦
 Option.bind (ret1 r18) fun v19 ↦
 Option.bind (AV.cells? v19) fun cs20 ↦
 Option.bind (uncons? cs20) fun p21 ↦
 Option.bind (AV.int? IntKind.i64 p21.fst) fun n22 ↦
 Option.bind (uncons? p21.snd) fun p23 ↦
 Option.bind (AV.list? 1 p23.fst) fun es24 ↦
 Option.bind (nil? p23.snd) fun _ ↦
 Option.bind
 (E cx (Key.loop 12 [true, true, true, true, true, true, false, true, false])
 [vbool false, vi 0, vs s5, vi at6, vb c7,
 vi most8, vi i9, vbool true, AV.ptr 1 0 0 0,
 AV.ptr 2 0 0 0, AV.ptr 3 0 0 0,
 AV.list 0 2
 [[vi b0,
 AV.list 0 1
 (List.drop 0 (List.take (Int.toNat (if 60 < ((List.length b1) : Int) then 60 else ((List.length b1) : Int))) b1))],
 [vi n14, AV.list 0 1 es16], [vi n22, AV.list 0 1 es24]],
 vi 3]
 [Ob.mk OK.box 33 2 0 [[vi b0, AV.list 0 1 b1]],
 Ob.mk OK.box 33 2 0
 [[vi b0,
 AV.list 0 1
 (List.drop 0 (List.take (Int.toNat (if 60 < ((List.length b1) : Int) then 60 else ((List.length b1) : Int))) b1))]],
 Ob.mk OK.box 33 2 0 [[vi n14, AV.list 0 1 es16]],
 Ob.mk OK.box 33 2 0 [[vi n22, AV.list 0 1 es24]]])
 fun r26 ↦
 Option.bind (asJump r26) fun j27 ↦
 bif JX.is j27.fst (JX.exit 0) then
 Option.bind (uncons? j27.snd.fst) fun p28 ↦
 Option.bind (AV.bool? p28.fst) fun b29 ↦
 Option.bind (uncons? p28.snd) fun p30 ↦
 Option.bind (AV.int? IntKind.i64 p30.fst) fun _ ↦
 Option.bind (nil? p30.snd) fun _ ↦
 Option.bind (uncons? j27.snd.snd) fun p33 ↦
 Option.bind
 (obIs
 (Ob.mk OK.box 33 2 0
 [[vi b0, AV.list 0 1 b1]])
 p33.fst)
 fun _ ↦
 Option.bind (chk p33.fst.ver 0) fun _ ↦
 Option.bind (uncons? p33.fst.es) fun p36 ↦
 Option.bind (nil? p36.snd) fun _ ↦
 Option.bind (uncons? p36.fst) fun p38 ↦
 Option.bind (AV.int? IntKind.i64 p38.fst) fun n39 ↦
 Option.bind (uncons? p38.snd) fun p40 ↦
 Option.bind (AV.list? 1 p40.fst) fun es41 ↦
 Option.bind (nil? p40.snd) fun _ ↦
 Option.bind (uncons? p33.snd) fun p43 ↦
 Option.bind
 (obIs
 (Ob.mk OK.box 33 2 0
 [[vi b0,
 AV.list 0 1
 (List.drop 0
 (List.take
 (Int.toNat
 (if 60 < ((List.length b1) : Int) then 60 else ((List.length b1) : Int)))
 b1))]])
 p43.fst)
 fun _ ↦
 Option.bind (chk p43.fst.ver 0) fun _ ↦
 Option.bind (uncons? p43.fst.es) fun p46 ↦
 Option.bind (nil? p46.snd) fun _ ↦
 Option.bind (uncons? p46.fst) fun p48 ↦
 Option.bind (AV.int? IntKind.i64 p48.fst) fun n49 ↦
 Option.bind (uncons? p48.snd) fun p50 ↦
 Option.bind (AV.list? 1 p50.fst) fun es51 ↦
 Option.bind (nil? p50.snd) fun _ ↦
 Option.bind (uncons? p43.snd) fun p53 ↦
 Option.bind
 (obIs
 (Ob.mk OK.box 33 2 0
 [[vi n14, AV.list 0 1 es16]])
 p53.fst)
 fun _ ↦
 Option.bind (chk p53.fst.ver 0) fun _ ↦
 Option.bind (uncons? p53.fst.es) fun p56 ↦
 Option.bind (nil? p56.snd) fun _ ↦
 Option.bind (uncons? p56.fst) fun p58 ↦
 Option.bind
 (AV.int? IntKind.i64 p58.fst)
 fun n59 ↦
 Option.bind (uncons? p58.snd)
 fun p60 ↦
 Option.bind (AV.list? 1 p60.fst)
 fun es61 ↦
 Option.bind (nil? p60.snd)
 fun _ ↦
 Option.bind (uncons? p53.snd)
 fun p63 ↦
 Option.bind
 (obIs
 (Ob.mk
 OK.box 33 2 0
 [[vi n22,
 AV.list 0 1 es24]])
 p63.fst)
 fun _ ↦
 Option.bind
 (chk p63.fst.ver 0)
 fun _ ↦
 Option.bind
 (uncons? p63.fst.es)
 fun p66 ↦
 Option.bind
 (nil? p66.snd)
 fun _ ↦
 Option.bind
 (uncons? p66.fst)
 fun p68 ↦
 Option.bind
 (AV.int?
 IntKind.i64 p68.fst)
 fun n69 ↦
 Option.bind
 (uncons?
 p68.snd)
 fun p70 ↦
 Option.bind
 (AV.list? 1
 p70.fst)
 fun es71 ↦
 Option.bind
 (nil?
 p70.snd)
 fun _ ↦
 Option.bind
 (nil?
 p63.snd)
 fun _ ↦
 Option.bind
 (E
 cx
 (Key.fn
 57)
 [AV.agg
 [vi
 n59,
 AV.list
 0 1 es61]]
 [])
 fun r74 ↦
 Option.bind
 (ret1
 r74)
 fun v75 ↦
 Option.bind
 (AV.tup?
 v75)
 fun vs76 ↦
 Option.bind
 (uncons?
 vs76)
 fun p77 ↦
 Option.bind
 (AV.str?
 p77.fst)
 fun s78 ↦
 Option.bind
 (uncons?
 p77.snd)
 fun p79 ↦
 Option.bind
 (AV.int?
 IntKind.i64
 p79.fst)
 fun
 _ ↦
 Option.bind
 (nil?
 p79.snd)
 fun
 _ ↦
 Option.bind
 (E
 cx
 (Key.fn
 59)
 [AV.agg
 [vi
 n59,
 AV.list
 0
 1
 es61]]
 [])
 fun
 r82 ↦
 Option.bind
 (ret1
 r82)
 fun
 v83 ↦
 Option.bind
 (AV.tup?
 v83)
 fun
 vs84 ↦
 Option.bind
 (uncons?
 vs84)
 fun
 p85 ↦
 Option.bind
 (AV.str?
 p85.fst)
 fun
 s86 ↦
 Option.bind
 (uncons?
 p85.snd)
 fun
 p87 ↦
 Option.bind
 (AV.int?
 IntKind.i64
 p87.fst)
 fun
 _ ↦
 Option.bind
 (nil?
 p87.snd)
 fun
 _ ↦
 if
 0 ≤
 if
 80 <
 ((ByteArray.size
 s5) : Int) then
 80
 else
 ((ByteArray.size
 s5) : Int) then
 if
 (if
 80 <
 ((ByteArray.size
 s5) : Int) then
 80
 else
 ((ByteArray.size
 s5) : Int)) ≤
 ((ByteArray.size
 s5) : Int) then
 Option.bind
 (E
 cx
 (Key.fn
 72)
 [vs
 s78,
 vi
 at6,
 vb
 c7]
 [])
 fun
 r90 ↦
 Option.bind
 (ret1
 r90)
 fun
 v91 ↦
 Option.bind
 (AV.str?
 v91)
 fun
 s92 ↦
 Option.bind
 (E
 cx
 (Key.fn
 72)
 [vs
 s86,
 vi
 at6,
 vb
 c7]
 [])
 fun
 r93 ↦
 Option.bind
 (ret1
 r93)
 fun
 v94 ↦
 Option.bind
 (AV.str?
 v94)
 fun
 s95 ↦
 Option.bind
 (E
 cx
 (Key.loop
 12
 [true,
 true,
 true,
 true,
 true,
 true,
 true,
 true,
 true,
 false,
 true,
 false])
 [vbool
 b29,
 vi
 0,
 vi
 most8,
 vbool
 true,
 AV.ptr
 2
 0
 0
 0,
 AV.list
 0
 1
 [[vs
 (ByteArray.extract
 s5
 0
 (Int.toNat
 (if
 80 <
 ((ByteArray.size
 s5) : Int) then
 80
 else
 ((ByteArray.size
 s5) : Int))))],
 [vs
 s78],
 [vs
 s92],
 [vs
 s86],
 [vs
 s95]],
 vi
 5]
 [Ob.mk
 OK.box
 33
 2
 0
 [[vi
 n39,
 AV.list
 0
 1
 es41]],
 Ob.mk
 OK.box
 33
 2
 0
 [[vi
 n49,
 AV.list
 0
 1
 es51]],
 Ob.mk
 OK.box
 33
 2
 0
 [[vi
 n59,
 AV.list
 0
 1
 es61]],
 Ob.mk
 OK.box
 33
 2
 0
 [[vi
 n69,
 AV.list
 0
 1
 es71]]])
 fun
 r96 ↦
 Option.bind
 (asJump
 r96)
 fun
 j97 ↦
 bif
 JX.is
 j97.fst
 (JX.exit
 4) then
 Option.bind
 (uncons?
 j97.snd.fst)
 fun
 p98 ↦
 Option.bind
 (AV.bool?
 p98.fst)
 fun
 _ ↦
 Option.bind
 (uncons?
 p98.snd)
 fun
 p100 ↦
 Option.bind
 (AV.int?
 IntKind.i64
 p100.fst)
 fun
 _ ↦
 Option.bind
 (nil?
 p100.snd)
 fun
 _ ↦
 Option.bind
 (uncons?
 j97.snd.snd)
 fun
 p103 ↦
 Option.bind
 (obIs
 (Ob.mk
 OK.box
 33
 2
 0
 [[vi
 n39,
 AV.list
 0
 1
 es41]])
 p103.fst)
 fun
 _ ↦
 Option.bind
 (chk
 p103.fst.ver
 0)
 fun
 _ ↦
 Option.bind
 (uncons?
 p103.fst.es)
 fun
 p106 ↦
 Option.bind
 (nil?
 p106.snd)
 fun
 _ ↦
 Option.bind
 (uncons?
 p106.fst)
 fun
 p108 ↦
 Option.bind
 (AV.int?
 IntKind.i64
 p108.fst)
 fun
 _ ↦
 Option.bind
 (uncons?
 p108.snd)
 fun
 p110 ↦
 Option.bind
 (AV.list?
 1
 p110.fst)
 fun
 _ ↦
 Option.bind
 (nil?
 p110.snd)
 fun
 _ ↦
 Option.bind
 (uncons?
 p103.snd)
 fun
 p113 ↦
 Option.bind
 (obIs
 (Ob.mk
 OK.box
 33
 2
 0
 [[vi
 n49,
 AV.list
 0
 1
 es51]])
 p113.fst)
 fun
 _ ↦
 Option.bind
 (chk
 p113.fst.ver
 0)
 fun
 _ ↦
 Option.bind
 (uncons?
 p113.fst.es)
 fun
 p116 ↦
 Option.bind
 (nil?
 p116.snd)
 fun
 _ ↦
 Option.bind
 (uncons?
 p116.fst)
 fun
 p118 ↦
 Option.bind
 (AV.int?
 IntKind.i64
 p118.fst)
 fun
 _ ↦
 Option.bind
 (uncons?
 p118.snd)
 fun
 p120 ↦
 Option.bind
 (AV.list?
 1
 p120.fst)
 fun
 _ ↦
 Option.bind
 (nil?
 p120.snd)
 fun
 _ ↦
 Option.bind
 (uncons?
 p113.snd)
 fun
 p123 ↦
 Option.bind
 (obIs
 (Ob.mk
 OK.box
 33
 2
 0
 [[vi
 n59,
 AV.list
 0
 1
 es61]])
 p123.fst)
 fun
 _ ↦
 Option.bind
 (chk
 p123.fst.ver
 0)
 fun
 _ ↦
 Option.bind
 (uncons?
 p123.fst.es)
 fun
 p126 ↦
 Option.bind
 (nil?
 p126.snd)
 fun
 _ ↦
 Option.bind
 (uncons?
 p126.fst)
 fun
 p128 ↦
 Option.bind
 (AV.int?
 IntKind.i64
 p128.fst)
 fun
 _ ↦
 Option.bind
 (uncons?
 p128.snd)
 fun
 p130 ↦
 Option.bind
 (AV.list?
 1
 p130.fst)
 fun
 _ ↦
 Option.bind
 (nil?
 p130.snd)
 fun
 _ ↦
 Option.bind
 (uncons?
 p123.snd)
 fun
 p133 ↦
 Option.bind
 (obIs
 (Ob.mk
 OK.box
 33
 2
 0
 [[vi
 n69,
 AV.list
 0
 1
 es71]])
 p133.fst)
 fun
 _ ↦
 Option.bind
 (chk
 p133.fst.ver
 0)
 fun
 _ ↦
 Option.bind
 (uncons?
 p133.fst.es)
 fun
 p136 ↦
 Option.bind
 (nil?
 p136.snd)
 fun
 _ ↦
 Option.bind
 (uncons?
 p136.fst)
 fun
 p138 ↦
 Option.bind
 (AV.int?
 IntKind.i64
 p138.fst)
 fun
 _ ↦
 Option.bind
 (uncons?
 p138.snd)
 fun
 p140 ↦
 Option.bind
 (AV.list?
 1
 p140.fst)
 fun
 _ ↦
 Option.bind
 (nil?
 p140.snd)
 fun
 _ ↦
 Option.bind
 (nil?
 p133.snd)
 fun
 _ ↦
 some
 (Out.ret
 (vbool
 true),
 [])
 else
 bif
 JX.is
 j97.fst
 JX.ret then
 Option.bind
 (uncons?
 j97.snd.fst)
 fun
 p144 ↦
 Option.bind
 (AV.bool?
 p144.fst)
 fun
 b145 ↦
 Option.bind
 (uncons?
 p144.snd)
 fun
 p146 ↦
 Option.bind
 (AV.int?
 IntKind.i64
 p146.fst)
 fun
 _ ↦
 Option.bind
 (nil?
 p146.snd)
 fun
 _ ↦
 Option.bind
 (uncons?
 j97.snd.snd)
 fun
 p149 ↦
 Option.bind
 (obIs
 (Ob.mk
 OK.box
 33
 2
 0
 [[vi
 n39,
 AV.list
 0
 1
 es41]])
 p149.fst)
 fun
 _ ↦
 Option.bind
 (chk
 p149.fst.ver
 0)
 fun
 _ ↦
 Option.bind
 (uncons?
 p149.fst.es)
 fun
 p152 ↦
 Option.bind
 (nil?
 p152.snd)
 fun
 _ ↦
 Option.bind
 (uncons?
 p152.fst)
 fun
 p154 ↦
 Option.bind
 (AV.int?
 IntKind.i64
 p154.fst)
 fun
 _ ↦
 Option.bind
 (uncons?
 p154.snd)
 fun
 p156 ↦
 Option.bind
 (AV.list?
 1
 p156.fst)
 fun
 _ ↦
 Option.bind
 (nil?
 p156.snd)
 fun
 _ ↦
 Option.bind
 (uncons?
 p149.snd)
 fun
 p159 ↦
 Option.bind
 (obIs
 (Ob.mk
 OK.box
 33
 2
 0
 [[vi
 n49,
 AV.list
 0
 1
 es51]])
 p159.fst)
 fun
 _ ↦
 Option.bind
 (chk
 p159.fst.ver
 0)
 fun
 _ ↦
 Option.bind
 (uncons?
 p159.fst.es)
 fun
 p162 ↦
 Option.bind
 (nil?
 p162.snd)
 fun
 _ ↦
 Option.bind
 (uncons?
 p162.fst)
 fun
 p164 ↦
 Option.bind
 (AV.int?
 IntKind.i64
 p164.fst)
 fun
 _ ↦
 Option.bind
 (uncons?
 p164.snd)
 fun
 p166 ↦
 Option.bind
 (AV.list?
 1
 p166.fst)
 fun
 _ ↦
 Option.bind
 (nil?
 p166.snd)
 fun
 _ ↦
 Option.bind
 (uncons?
 p159.snd)
 fun
 p169 ↦
 Option.bind
 (obIs
 (Ob.mk
 OK.box
 33
 2
 0
 [[vi
 n59,
 AV.list
 0
 1
 es61]])
 p169.fst)
 fun
 _ ↦
 Option.bind
 (chk
 p169.fst.ver
 0)
 fun
 _ ↦
 Option.bind
 (uncons?
 p169.fst.es)
 fun
 p172 ↦
 Option.bind
 (nil?
 p172.snd)
 fun
 _ ↦
 Option.bind
 (uncons?
 p172.fst)
 fun
 p174 ↦
 Option.bind
 (AV.int?
 IntKind.i64
 p174.fst)
 fun
 _ ↦
 Option.bind
 (uncons?
 p174.snd)
 fun
 p176 ↦
 Option.bind
 (AV.list?
 1
 p176.fst)
 fun
 _ ↦
 Option.bind
 (nil?
 p176.snd)
 fun
 _ ↦
 Option.bind
 (uncons?
 p169.snd)
 fun
 p179 ↦
 Option.bind
 (obIs
 (Ob.mk
 OK.box
 33
 2
 0
 [[vi
 n69,
 AV.list
 0
 1
 es71]])
 p179.fst)
 fun
 _ ↦
 Option.bind
 (chk
 p179.fst.ver
 0)
 fun
 _ ↦
 Option.bind
 (uncons?
 p179.fst.es)
 fun
 p182 ↦
 Option.bind
 (nil?
 p182.snd)
 fun
 _ ↦
 Option.bind
 (uncons?
 p182.fst)
 fun
 p184 ↦
 Option.bind
 (AV.int?
 IntKind.i64
 p184.fst)
 fun
 _ ↦
 Option.bind
 (uncons?
 p184.snd)
 fun
 p186 ↦
 Option.bind
 (AV.list?
 1
 p186.fst)
 fun
 _ ↦
 Option.bind
 (nil?
 p186.snd)
 fun
 _ ↦
 Option.bind
 (nil?
 p179.snd)
 fun
 _ ↦
 some
 (Out.ret
 (vbool
 b145),
 [])
 else
 none
 else
 none
 else
 none
 else
 bif JX.is j27.fst JX.ret then
 Option.bind (uncons? j27.snd.fst) fun p190 ↦
 Option.bind (AV.bool? p190.fst) fun b191 ↦
 Option.bind (uncons? p190.snd) fun p192 ↦
 Option.bind (AV.int? IntKind.i64 p192.fst) fun _ ↦
 Option.bind (nil? p192.snd) fun _ ↦
 Option.bind (uncons? j27.snd.snd) fun p195 ↦
 Option.bind
 (obIs
 (Ob.mk OK.box 33 2 0
 [[vi b0, AV.list 0 1 b1]])
 p195.fst)
 fun _ ↦
 Option.bind (chk p195.fst.ver 0) fun _ ↦
 Option.bind (uncons? p195.fst.es) fun p198 ↦
 Option.bind (nil? p198.snd) fun _ ↦
 Option.bind (uncons? p198.fst) fun p200 ↦
 Option.bind (AV.int? IntKind.i64 p200.fst) fun _ ↦
 Option.bind (uncons? p200.snd) fun p202 ↦
 Option.bind (AV.list? 1 p202.fst) fun _ ↦
 Option.bind (nil? p202.snd) fun _ ↦
 Option.bind (uncons? p195.snd) fun p205 ↦
 Option.bind
 (obIs
 (Ob.mk OK.box 33 2 0
 [[vi b0,
 AV.list 0 1
 (List.drop 0
 (List.take
 (Int.toNat
 (if 60 < ((List.length b1) : Int) then 60 else ((List.length b1) : Int)))
 b1))]])
 p205.fst)
 fun _ ↦
 Option.bind (chk p205.fst.ver 0) fun _ ↦
 Option.bind (uncons? p205.fst.es) fun p208 ↦
 Option.bind (nil? p208.snd) fun _ ↦
 Option.bind (uncons? p208.fst) fun p210 ↦
 Option.bind (AV.int? IntKind.i64 p210.fst) fun _ ↦
 Option.bind (uncons? p210.snd) fun p212 ↦
 Option.bind (AV.list? 1 p212.fst) fun _ ↦
 Option.bind (nil? p212.snd) fun _ ↦
 Option.bind (uncons? p205.snd) fun p215 ↦
 Option.bind
 (obIs
 (Ob.mk OK.box 33 2 0
 [[vi n14,
 AV.list 0 1 es16]])
 p215.fst)
 fun _ ↦
 Option.bind (chk p215.fst.ver 0) fun _ ↦
 Option.bind (uncons? p215.fst.es)
 fun p218 ↦
 Option.bind (nil? p218.snd) fun _ ↦
 Option.bind (uncons? p218.fst)
 fun p220 ↦
 Option.bind
 (AV.int? IntKind.i64 p220.fst)
 fun _ ↦
 Option.bind (uncons? p220.snd)
 fun p222 ↦
 Option.bind (AV.list? 1 p222.fst)
 fun _ ↦
 Option.bind (nil? p222.snd)
 fun _ ↦
 Option.bind
 (uncons? p215.snd)
 fun p225 ↦
 Option.bind
 (obIs
 (Ob.mk
 OK.box 33 2 0
 [[vi n22,
 AV.list 0 1
 es24]])
 p225.fst)
 fun _ ↦
 Option.bind
 (chk p225.fst.ver 0)
 fun _ ↦
 Option.bind
 (uncons? p225.fst.es)
 fun p228 ↦
 Option.bind
 (nil? p228.snd)
 fun _ ↦
 Option.bind
 (uncons?
 p228.fst)
 fun p230 ↦
 Option.bind
 (AV.int?
 IntKind.i64 p230.fst)
 fun _ ↦
 Option.bind
 (uncons?
 p230.snd)
 fun p232 ↦
 Option.bind
 (AV.list? 1
 p232.fst)
 fun _ ↦
 Option.bind
 (nil?
 p232.snd)
 fun _ ↦
 Option.bind
 (nil?
 p225.snd)
 fun _ ↦
 some
 (Out.ret
 (vbool
 b191),
 [])
 else none
 else none
 else none := by
  intros
  exact (E_ov f54_true [188] _ _ _).trans (by kernel_rfl)


noncomputable def q12_l0_0 : Int →
 Int →
 List (List AV) →
 Int → List (List AV) → Int → List (List AV) → Int → List (List AV) → Option (Out × Heap) :=
 fun x237 x246 l247 x248 l249 x250 l251 x252 l253 ↦
 some
 (Out.jump JX.ret [vbool false, vi x237],
 [Ob.mk OK.box 33 2 0 [[vi x246, AV.list 0 1 l247]],
 Ob.mk OK.box 33 2 0 [[vi x248, AV.list 0 1 l249]],
 Ob.mk OK.box 33 2 0 [[vi x250, AV.list 0 1 l251]],
 Ob.mk OK.box 33 2 0 [[vi x252, AV.list 0 1 l253]]])


noncomputable def q12_l0_1 : Bool →
 ByteArray →
 Int →
 Int →
 Int →
 Int →
 Bool →
 List (List AV) →
 Int →
 Int →
 Int →
 List (List AV) →
 Int →
 List (List AV) →
 Int →
 List (List AV) →
 Int → List (List AV) → Int → List (List AV) → Option (Out × Heap) :=
 fun b236 s238 x239 x240 x241 x242 b243 l244 x245 x237 x248 l249 x250 l251 x252 l253 x246 l247 n256 es258 ↦
 Option.bind
 (E cx
 (Key.loop 12
 [true, true, true, true, true, true, false, true, false, false, true, true, false, false, true, true, true, true, true, true, true, false])
 [vbool b236, vi 0, vs s238, vi x239, vb x240, vi x241, vi x242,
 vbool b243, AV.ptr 1 0 0 0, AV.ptr 2 0 0 0, AV.ptr 3 0 0 0, AV.ptr 4 0 0 0,
 AV.list 0 2 l244, vi x245, vi x237,
 AV.list 0 2
 [[vi x248, AV.list 0 1 l249], [vi x250, AV.list 0 1 l251],
 [vi x252, AV.list 0 1 l253]],
 vi 3]
 [Ob.mk OK.box 33 2 0 [[vi x246, AV.list 0 1 l247]],
 Ob.mk OK.box 33 2 0 [[vi x248, AV.list 0 1 l249]],
 Ob.mk OK.box 33 2 0 [[vi x250, AV.list 0 1 l251]],
 Ob.mk OK.box 33 2 0 [[vi x252, AV.list 0 1 l253]],
 Ob.mk OK.box 33 2 0 [[vi n256, AV.list 0 1 es258]]])
 fun r316 ↦
 Option.bind (asJump r316) fun j317 ↦
 bif JX.is j317.fst (JX.exit 2) then
 Option.bind (uncons? j317.snd.fst) fun p318 ↦
 Option.bind (AV.bool? p318.fst) fun b319 ↦
 Option.bind (uncons? p318.snd) fun p320 ↦
 Option.bind (AV.int? IntKind.i64 p320.fst) fun _ ↦
 Option.bind (nil? p320.snd) fun _ ↦
 Option.bind (uncons? j317.snd.snd) fun p323 ↦
 Option.bind
 (obIs (Ob.mk OK.box 33 2 0 [[vi x246, AV.list 0 1 l247]]) p323.fst)
 fun _ ↦
 Option.bind (chk p323.fst.ver 0) fun _ ↦
 Option.bind (uncons? p323.fst.es) fun p326 ↦
 Option.bind (nil? p326.snd) fun _ ↦
 Option.bind (uncons? p326.fst) fun p328 ↦
 Option.bind (AV.int? IntKind.i64 p328.fst) fun n329 ↦
 Option.bind (uncons? p328.snd) fun p330 ↦
 Option.bind (AV.list? 1 p330.fst) fun es331 ↦
 Option.bind (nil? p330.snd) fun _ ↦
 Option.bind (uncons? p323.snd) fun p333 ↦
 Option.bind
 (obIs
 (Ob.mk OK.box 33 2 0 [[vi x248, AV.list 0 1 l249]]) p333.fst)
 fun _ ↦
 Option.bind (chk p333.fst.ver 0) fun _ ↦
 Option.bind (uncons? p333.fst.es) fun p336 ↦
 Option.bind (nil? p336.snd) fun _ ↦
 Option.bind (uncons? p336.fst) fun p338 ↦
 Option.bind (AV.int? IntKind.i64 p338.fst) fun n339 ↦
 Option.bind (uncons? p338.snd) fun p340 ↦
 Option.bind (AV.list? 1 p340.fst) fun es341 ↦
 Option.bind (nil? p340.snd) fun _ ↦
 Option.bind (uncons? p333.snd) fun p343 ↦
 Option.bind
 (obIs
 (Ob.mk OK.box 33 2 0
 [[vi x250, AV.list 0 1 l251]])
 p343.fst)
 fun _ ↦
 Option.bind (chk p343.fst.ver 0) fun _ ↦
 Option.bind (uncons? p343.fst.es) fun p346 ↦
 Option.bind (nil? p346.snd) fun _ ↦
 Option.bind (uncons? p346.fst) fun p348 ↦
 Option.bind (AV.int? IntKind.i64 p348.fst) fun n349 ↦
 Option.bind (uncons? p348.snd) fun p350 ↦
 Option.bind (AV.list? 1 p350.fst) fun es351 ↦
 Option.bind (nil? p350.snd) fun _ ↦
 Option.bind (uncons? p343.snd) fun p353 ↦
 Option.bind
 (obIs
 (Ob.mk OK.box 33 2 0
 [[vi x252, AV.list 0 1 l253]])
 p353.fst)
 fun _ ↦
 Option.bind (chk p353.fst.ver 0) fun _ ↦
 Option.bind (uncons? p353.fst.es) fun p356 ↦
 Option.bind (nil? p356.snd) fun _ ↦
 Option.bind (uncons? p356.fst) fun p358 ↦
 Option.bind (AV.int? IntKind.i64 p358.fst) fun n359 ↦
 Option.bind (uncons? p358.snd) fun p360 ↦
 Option.bind (AV.list? 1 p360.fst) fun es361 ↦
 Option.bind (nil? p360.snd) fun _ ↦
 Option.bind (uncons? p353.snd) fun p363 ↦
 Option.bind
 (obIs
 (Ob.mk OK.box 33 2 0
 [[vi n256,
 AV.list 0 1 es258]])
 p363.fst)
 fun _ ↦
 Option.bind (chk p363.fst.ver 0) fun _ ↦
 Option.bind (uncons? p363.fst.es)
 fun p366 ↦
 Option.bind (nil? p366.snd) fun _ ↦
 Option.bind (uncons? p366.fst)
 fun p368 ↦
 Option.bind
 (AV.int? IntKind.i64 p368.fst)
 fun _ ↦
 Option.bind (uncons? p368.snd)
 fun p370 ↦
 Option.bind (AV.list? 1 p370.fst)
 fun _ ↦
 Option.bind (nil? p370.snd)
 fun _ ↦
 Option.bind (nil? p363.snd)
 fun _ ↦
 E cx
 (Key.loop 12
 [true, true, true, true, true, true,
 false, true, false])
 [vbool b319,
 vi
 (IntKind.wrap IntKind.i64
 (Int.add x237 1)),
 vs s238,
 vi x239,
 vb x240,
 vi x241,
 vi x242,
 vbool b243,
 AV.ptr 1 0 0 0,
 AV.ptr 2 0 0 0,
 AV.ptr 3 0 0 0,
 AV.list 0 2 l244,
 vi x245]
 [Ob.mk
 OK.box 33 2 0
 [[vi n329,
 AV.list 0 1
 es331]],
 Ob.mk
 OK.box 33 2 0
 [[vi n339,
 AV.list 0 1
 es341]],
 Ob.mk
 OK.box 33 2 0
 [[vi n349,
 AV.list 0 1
 es351]],
 Ob.mk
 OK.box 33 2 0
 [[vi n359,
 AV.list 0 1
 es361]]]
 else
 bif JX.is j317.fst JX.ret then
 Option.bind (uncons? j317.snd.fst) fun p374 ↦
 Option.bind (AV.bool? p374.fst) fun b375 ↦
 Option.bind (uncons? p374.snd) fun p376 ↦
 Option.bind (AV.int? IntKind.i64 p376.fst) fun _ ↦
 Option.bind (nil? p376.snd) fun _ ↦
 Option.bind (uncons? j317.snd.snd) fun p379 ↦
 Option.bind
 (obIs (Ob.mk OK.box 33 2 0 [[vi x246, AV.list 0 1 l247]]) p379.fst)
 fun _ ↦
 Option.bind (chk p379.fst.ver 0) fun _ ↦
 Option.bind (uncons? p379.fst.es) fun p382 ↦
 Option.bind (nil? p382.snd) fun _ ↦
 Option.bind (uncons? p382.fst) fun p384 ↦
 Option.bind (AV.int? IntKind.i64 p384.fst) fun n385 ↦
 Option.bind (uncons? p384.snd) fun p386 ↦
 Option.bind (AV.list? 1 p386.fst) fun es387 ↦
 Option.bind (nil? p386.snd) fun _ ↦
 Option.bind (uncons? p379.snd) fun p389 ↦
 Option.bind
 (obIs
 (Ob.mk OK.box 33 2 0 [[vi x248, AV.list 0 1 l249]]) p389.fst)
 fun _ ↦
 Option.bind (chk p389.fst.ver 0) fun _ ↦
 Option.bind (uncons? p389.fst.es) fun p392 ↦
 Option.bind (nil? p392.snd) fun _ ↦
 Option.bind (uncons? p392.fst) fun p394 ↦
 Option.bind (AV.int? IntKind.i64 p394.fst) fun n395 ↦
 Option.bind (uncons? p394.snd) fun p396 ↦
 Option.bind (AV.list? 1 p396.fst) fun es397 ↦
 Option.bind (nil? p396.snd) fun _ ↦
 Option.bind (uncons? p389.snd) fun p399 ↦
 Option.bind
 (obIs
 (Ob.mk OK.box 33 2 0
 [[vi x250, AV.list 0 1 l251]])
 p399.fst)
 fun _ ↦
 Option.bind (chk p399.fst.ver 0) fun _ ↦
 Option.bind (uncons? p399.fst.es) fun p402 ↦
 Option.bind (nil? p402.snd) fun _ ↦
 Option.bind (uncons? p402.fst) fun p404 ↦
 Option.bind (AV.int? IntKind.i64 p404.fst) fun n405 ↦
 Option.bind (uncons? p404.snd) fun p406 ↦
 Option.bind (AV.list? 1 p406.fst) fun es407 ↦
 Option.bind (nil? p406.snd) fun _ ↦
 Option.bind (uncons? p399.snd) fun p409 ↦
 Option.bind
 (obIs
 (Ob.mk OK.box 33 2 0
 [[vi x252, AV.list 0 1 l253]])
 p409.fst)
 fun _ ↦
 Option.bind (chk p409.fst.ver 0) fun _ ↦
 Option.bind (uncons? p409.fst.es) fun p412 ↦
 Option.bind (nil? p412.snd) fun _ ↦
 Option.bind (uncons? p412.fst) fun p414 ↦
 Option.bind (AV.int? IntKind.i64 p414.fst)
 fun n415 ↦
 Option.bind (uncons? p414.snd) fun p416 ↦
 Option.bind (AV.list? 1 p416.fst) fun es417 ↦
 Option.bind (nil? p416.snd) fun _ ↦
 Option.bind (uncons? p409.snd) fun p419 ↦
 Option.bind
 (obIs
 (Ob.mk OK.box 33 2 0
 [[vi n256,
 AV.list 0 1 es258]])
 p419.fst)
 fun _ ↦
 Option.bind (chk p419.fst.ver 0) fun _ ↦
 Option.bind (uncons? p419.fst.es)
 fun p422 ↦
 Option.bind (nil? p422.snd) fun _ ↦
 Option.bind (uncons? p422.fst)
 fun p424 ↦
 Option.bind
 (AV.int? IntKind.i64 p424.fst)
 fun _ ↦
 Option.bind (uncons? p424.snd)
 fun p426 ↦
 Option.bind
 (AV.list? 1 p426.fst)
 fun _ ↦
 Option.bind (nil? p426.snd)
 fun _ ↦
 Option.bind (nil? p419.snd)
 fun _ ↦
 some
 (Out.jump
 JX.ret
 [vbool b375,
 vi x237],
 [Ob.mk
 OK.box 33 2 0
 [[vi n385,
 AV.list 0 1
 es387]],
 Ob.mk
 OK.box 33 2 0
 [[vi n395,
 AV.list 0 1
 es397]],
 Ob.mk
 OK.box 33 2 0
 [[vi n405,
 AV.list 0 1
 es407]],
 Ob.mk
 OK.box 33 2 0
 [[vi n415,
 AV.list 0 1
 es417]]])
 else none


noncomputable def q12_l0_2 : Int →
 Int →
 List (List AV) →
 Bool →
 ByteArray →
 Int →
 Int →
 Int →
 Bool →
 List (List AV) →
 Int →
 Int →
 Int →
 List (List AV) →
 Int →
 List (List AV) →
 Int → List (List AV) → Int → List (List AV) → Option (Out × Heap) :=
 fun x242 n256 es258 b236 s238 x239 x240 x241 b243 l244 x245 x237 x248 l249 x250 l251 x252 l253 x246 l247 ↦
 Option.bind (E cx (Key.fn 64) [vi x242, vi 40] []) fun r304 ↦
 Option.bind (ret1 r304) fun v305 ↦
 Option.bind (AV.int? IntKind.i64 v305) fun n306 ↦
 Option.bind
 (E cx (Key.fn 62)
 [AV.agg [vi n256, AV.list 0 1 es258], vi n306] [])
 fun r307 ↦
 Option.bind (ret1 r307) fun v308 ↦
 Option.bind (AV.bool? v308) fun b309 ↦
 bif b309 then
 Option.bind (E cx (Key.fn 64) [vi x242, vi 40] []) fun r310 ↦
 Option.bind (ret1 r310) fun v311 ↦
 Option.bind (AV.int? IntKind.i64 v311) fun n312 ↦
 Option.bind
 (E cx (Key.fn 63)
 [AV.agg [vi n256, AV.list 0 1 es258], vi n312] [])
 fun r313 ↦
 Option.bind (ret1 r313) fun v314 ↦
 Option.bind (AV.bool? v314) fun b315 ↦
 bif b315 then
 q12_l0_1 b236 s238 x239 x240 x241 x242 b243 l244 x245 x237 x248 l249 x250 l251 x252 l253 x246 l247 n256 es258
 else q12_l0_0 x237 x246 l247 x248 l249 x250 l251 x252 l253
 else
 Option.bind (E cx (Key.fn 64) [vi x242, vi 40] []) fun r430 ↦
 Option.bind (ret1 r430) fun v431 ↦
 Option.bind (AV.int? IntKind.i64 v431) fun n432 ↦
 Option.bind
 (E cx (Key.fn 63)
 [AV.agg [vi n256, AV.list 0 1 es258], vi n432] [])
 fun r433 ↦
 Option.bind (ret1 r433) fun v434 ↦
 Option.bind (AV.bool? v434) fun b435 ↦
 bif b435 then q12_l0_0 x237 x246 l247 x248 l249 x250 l251 x252 l253
 else q12_l0_1 b236 s238 x239 x240 x241 x242 b243 l244 x245 x237 x248 l249 x250 l251 x252 l253 x246 l247 n256 es258


noncomputable def q12_l0_3 : ByteArray →
 ByteArray →
 Int →
 Int →
 List (List AV) →
 Int →
 List (List AV) →
 Int →
 List (List AV) →
 Int →
 List (List AV) →
 Int →
 Int →
 ByteArray →
 ByteArray →
 Int →
 Int →
 Int →
 List (List AV) →
 Int →
 Bool →
 ByteArray → Int → Int → Int → Bool → List (List AV) → Int → Option (Out × Heap) :=
 fun s264 s272 x237 x246 l247 x248 l249 x250 l251 x252 l253 n266 n274 s280 s288 n282 n290 n256 es258 x242 b236 s238 x239 x240 x241 b243 l244 x245 ↦
 bif !List.beq (ByteArray.toList s264) (ByteArray.toList s272) then q12_l0_0 x237 x246 l247 x248 l249 x250 l251 x252 l253
 else
 bif n266 != n274 then q12_l0_0 x237 x246 l247 x248 l249 x250 l251 x252 l253
 else
 bif !List.beq (ByteArray.toList s280) (ByteArray.toList s288) then q12_l0_0 x237 x246 l247 x248 l249 x250 l251 x252 l253
 else
 bif n282 != n290 then q12_l0_0 x237 x246 l247 x248 l249 x250 l251 x252 l253
 else
 Option.bind
 (E cx (Key.fn 62)
 [AV.agg [vi n256, AV.list 0 1 es258], vi x242] [])
 fun r298 ↦
 Option.bind (ret1 r298) fun v299 ↦
 Option.bind (AV.bool? v299) fun b300 ↦
 bif b300 then
 Option.bind
 (E cx (Key.fn 63)
 [AV.agg [vi n256, AV.list 0 1 es258], vi x242] [])
 fun r301 ↦
 Option.bind (ret1 r301) fun v302 ↦
 Option.bind (AV.bool? v302) fun b303 ↦
 bif b303 then q12_l0_2 x242 n256 es258 b236 s238 x239 x240 x241 b243 l244 x245 x237 x248 l249 x250 l251 x252 l253 x246 l247
 else q12_l0_0 x237 x246 l247 x248 l249 x250 l251 x252 l253
 else
 Option.bind
 (E cx (Key.fn 63)
 [AV.agg [vi n256, AV.list 0 1 es258], vi x242] [])
 fun r550 ↦
 Option.bind (ret1 r550) fun v551 ↦
 Option.bind (AV.bool? v551) fun b552 ↦
 bif b552 then q12_l0_0 x237 x246 l247 x248 l249 x250 l251 x252 l253
 else q12_l0_2 x242 n256 es258 b236 s238 x239 x240 x241 b243 l244 x245 x237 x248 l249 x250 l251 x252 l253 x246 l247


theorem f12_l0 : ∀ (b236 : Bool) (x237 : Int) (s238 : ByteArray) (x239 x240 x241 x242 : Int) (b243 : Bool) (l244 : List (List AV)) (x245 x246 : Int)
 (l247 : List (List AV)) (x248 : Int) (l249 : List (List AV)) (x250 : Int) (l251 : List (List AV)) (x252 : Int)
 (l253 : List (List AV)),
 E cx (Key.loop 12 [true, true, true, true, true, true, false, true, false])
 [vbool b236, vi x237, vs s238, vi x239, vb x240, vi x241,
 vi x242, vbool b243, AV.ptr 1 0 0 0, AV.ptr 2 0 0 0, AV.ptr 3 0 0 0,
 AV.list 0 2 l244, vi x245]
 [Ob.mk OK.box 33 2 0 [[vi x246, AV.list 0 1 l247]],
 Ob.mk OK.box 33 2 0 [[vi x248, AV.list 0 1 l249]],
 Ob.mk OK.box 33 2 0 [[vi x250, AV.list 0 1 l251]],
 Ob.mk OK.box 33 2 0 [[vi x252, AV.list 0 1 l253]]] =
 bif decide (x237 < x245) then
 if 0 ≤ x237 then
 Option.bind l244[Int.toNat x237]? fun cs254 ↦
 Option.bind (uncons? cs254) fun p255 ↦
 Option.bind (AV.int? IntKind.i64 p255.fst) fun n256 ↦
 Option.bind (uncons? p255.snd) fun p257 ↦
 Option.bind (AV.list? 1 p257.fst) fun es258 ↦
 Option.bind (nil? p257.snd) fun _ ↦
 Option.bind
 (E cx (Key.fn 56) [AV.agg [vi n256, AV.list 0 1 es258]] [])
 fun r260 ↦
 Option.bind (ret1 r260) fun v261 ↦
 Option.bind (AV.tup? v261) fun vs262 ↦
 Option.bind (uncons? vs262) fun p263 ↦
 Option.bind (AV.str? p263.fst) fun s264 ↦
 Option.bind (uncons? p263.snd) fun p265 ↦
 Option.bind (AV.int? IntKind.i64 p265.fst) fun n266 ↦
 Option.bind (nil? p265.snd) fun _ ↦
 Option.bind
 (E cx (Key.fn 57)
 [AV.agg [vi n256, AV.list 0 1 es258]] [])
 fun r268 ↦
 Option.bind (ret1 r268) fun v269 ↦
 Option.bind (AV.tup? v269) fun vs270 ↦
 Option.bind (uncons? vs270) fun p271 ↦
 Option.bind (AV.str? p271.fst) fun s272 ↦
 Option.bind (uncons? p271.snd) fun p273 ↦
 Option.bind (AV.int? IntKind.i64 p273.fst) fun n274 ↦
 Option.bind (nil? p273.snd) fun _ ↦
 Option.bind
 (E cx (Key.fn 58)
 [AV.agg [vi n256, AV.list 0 1 es258]] [])
 fun r276 ↦
 Option.bind (ret1 r276) fun v277 ↦
 Option.bind (AV.tup? v277) fun vs278 ↦
 Option.bind (uncons? vs278) fun p279 ↦
 Option.bind (AV.str? p279.fst) fun s280 ↦
 Option.bind (uncons? p279.snd) fun p281 ↦
 Option.bind (AV.int? IntKind.i64 p281.fst) fun n282 ↦
 Option.bind (nil? p281.snd) fun _ ↦
 Option.bind
 (E cx (Key.fn 59)
 [AV.agg [vi n256, AV.list 0 1 es258]] [])
 fun r284 ↦
 Option.bind (ret1 r284) fun v285 ↦
 Option.bind (AV.tup? v285) fun vs286 ↦
 Option.bind (uncons? vs286) fun p287 ↦
 Option.bind (AV.str? p287.fst) fun s288 ↦
 Option.bind (uncons? p287.snd) fun p289 ↦
 Option.bind (AV.int? IntKind.i64 p289.fst) fun n290 ↦
 Option.bind (nil? p289.snd) fun _ ↦
 Option.bind
 (E cx (Key.fn 60)
 [AV.agg
 [vi n256, AV.list 0 1 es258]]
 [])
 fun r292 ↦
 Option.bind (ret1 r292) fun v293 ↦
 Option.bind (AV.bool? v293) fun b294 ↦
 bif b294 then
 Option.bind
 (E cx (Key.fn 61)
 [AV.agg
 [vi n256, AV.list 0 1 es258]]
 [])
 fun r295 ↦
 Option.bind (ret1 r295) fun v296 ↦
 Option.bind (AV.bool? v296) fun b297 ↦
 bif b297 then
 q12_l0_3 s264 s272 x237 x246 l247 x248 l249
 x250 l251 x252 l253 n266 n274 s280 s288 n282 n290 n256
 es258 x242 b236 s238 x239 x240 x241 b243 l244 x245
 else
 q12_l0_0 x237 x246 l247 x248 l249 x250 l251
 x252 l253
 else
 Option.bind
 (E cx (Key.fn 61)
 [AV.agg
 [vi n256, AV.list 0 1 es258]]
 [])
 fun r799 ↦
 Option.bind (ret1 r799) fun v800 ↦
 Option.bind (AV.bool? v800) fun b801 ↦
 bif b801 then
 q12_l0_0 x237 x246 l247 x248 l249 x250 l251
 x252 l253
 else
 q12_l0_3 s264 s272 x237 x246 l247 x248 l249
 x250 l251 x252 l253 n266 n274 s280 s288 n282 n290 n256
 es258 x242 b236 s238 x239 x240 x241 b243 l244 x245
 else none
 else
 some
 (Out.jump (JX.exit 0) [vbool b236, vi x237],
 [Ob.mk OK.box 33 2 0 [[vi x246, AV.list 0 1 l247]],
 Ob.mk OK.box 33 2 0 [[vi x248, AV.list 0 1 l249]],
 Ob.mk OK.box 33 2 0 [[vi x250, AV.list 0 1 l251]],
 Ob.mk OK.box 33 2 0 [[vi x252, AV.list 0 1 l253]]]) := by
  intros
  exact (E_ov f54_true [188] _ _ _).trans (by kernel_rfl)


noncomputable def q12_l0_l1_0 : Int →
 Int →
 List (List AV) →
 Int →
 List (List AV) →
 Int →
 List (List AV) → Int → List (List AV) → Int → List (List AV) → Option (Out × Heap) :=
 fun x1304 x1316 l1317 x1318 l1319 x1320 l1321 x1322 l1323 x1324 l1325 ↦
 some
 (Out.jump JX.ret [vbool false, vi x1304],
 [Ob.mk OK.box 33 2 0 [[vi x1316, AV.list 0 1 l1317]],
 Ob.mk OK.box 33 2 0 [[vi x1318, AV.list 0 1 l1319]],
 Ob.mk OK.box 33 2 0 [[vi x1320, AV.list 0 1 l1321]],
 Ob.mk OK.box 33 2 0 [[vi x1322, AV.list 0 1 l1323]],
 Ob.mk OK.box 33 2 0 [[vi x1324, AV.list 0 1 l1325]]])


noncomputable def q12_l0_l1_1 : Bool →
 Int →
 ByteArray →
 Int →
 Int →
 Int →
 Int →
 Bool →
 List (List AV) →
 Int →
 Int →
 List (List AV) →
 Int →
 Int →
 List (List AV) →
 Int →
 List (List AV) →
 Int →
 List (List AV) →
 Int → List (List AV) → Int → List (List AV) → Option (Out × Heap) :=
 fun b1303 x1304 s1305 x1306 x1307 x1308 x1309 b1310 l1311 x1312 x1313 l1314 x1315 x1316 l1317 x1318 l1319 x1320 l1321 x1322 l1323 x1324 l1325 ↦
 E cx
 (Key.loop 12
 [true, true, true, true, true, true, false, true, false, false, true, true, false, false, true, true, true, true, true, true, true, false])
 [vbool b1303, vi (IntKind.wrap IntKind.i64 (Int.add x1304 1)), vs s1305, vi x1306,
 vb x1307, vi x1308, vi x1309, vbool b1310, AV.ptr 1 0 0 0, AV.ptr 2 0 0 0,
 AV.ptr 3 0 0 0, AV.ptr 4 0 0 0, AV.list 0 2 l1311, vi x1312, vi x1313,
 AV.list 0 2 l1314, vi x1315]
 [Ob.mk OK.box 33 2 0 [[vi x1316, AV.list 0 1 l1317]],
 Ob.mk OK.box 33 2 0 [[vi x1318, AV.list 0 1 l1319]],
 Ob.mk OK.box 33 2 0 [[vi x1320, AV.list 0 1 l1321]],
 Ob.mk OK.box 33 2 0 [[vi x1322, AV.list 0 1 l1323]],
 Ob.mk OK.box 33 2 0 [[vi x1324, AV.list 0 1 l1325]]]


noncomputable def q12_l0_l1_2 : Int →
 List (List AV) →
 Int →
 List (List AV) →
 Bool →
 Int →
 ByteArray →
 Int →
 Int →
 Int →
 Int →
 Bool →
 List (List AV) →
 Int →
 Int →
 List (List AV) →
 Int →
 Int →
 List (List AV) →
 Int →
 List (List AV) →
 Int → List (List AV) → Int → List (List AV) → Option (Out × Heap) :=
 fun x1324 l1325 n1328 es1330 b1303 x1304 s1305 x1306 x1307 x1308 x1309 b1310 l1311 x1312 x1313 l1314 x1315 x1316 l1317 x1318 l1319 x1320 l1321 x1322 l1323 ↦
 Option.bind
 (E cx (Key.fn 70)
 [AV.agg [vi x1324, AV.list 0 1 l1325],
 AV.agg [vi n1328, AV.list 0 1 es1330]]
 [])
 fun r1367 ↦
 Option.bind (ret1 r1367) fun v1368 ↦
 Option.bind (AV.bool? v1368) fun b1369 ↦
 bif b1369 then
 Option.bind
 (E cx (Key.fn 71)
 [AV.agg [vi x1324, AV.list 0 1 l1325],
 AV.agg [vi n1328, AV.list 0 1 es1330]]
 [])
 fun r1370 ↦
 Option.bind (ret1 r1370) fun v1371 ↦
 Option.bind (AV.bool? v1371) fun b1372 ↦
 bif b1372 then
 q12_l0_l1_1 b1303 x1304 s1305 x1306 x1307 x1308 x1309 b1310 l1311 x1312 x1313 l1314 x1315 x1316 l1317 x1318 l1319 x1320 l1321
 x1322 l1323 x1324 l1325
 else q12_l0_l1_0 x1304 x1316 l1317 x1318 l1319 x1320 l1321 x1322 l1323 x1324 l1325
 else
 Option.bind
 (E cx (Key.fn 71)
 [AV.agg [vi x1324, AV.list 0 1 l1325],
 AV.agg [vi n1328, AV.list 0 1 es1330]]
 [])
 fun r1373 ↦
 Option.bind (ret1 r1373) fun v1374 ↦
 Option.bind (AV.bool? v1374) fun b1375 ↦
 bif b1375 then q12_l0_l1_0 x1304 x1316 l1317 x1318 l1319 x1320 l1321 x1322 l1323 x1324 l1325
 else
 q12_l0_l1_1 b1303 x1304 s1305 x1306 x1307 x1308 x1309 b1310 l1311 x1312 x1313 l1314 x1315 x1316 l1317 x1318 l1319 x1320 l1321
 x1322 l1323 x1324 l1325


theorem f12_l0_l1 : ∀ (b1303 : Bool) (x1304 : Int) (s1305 : ByteArray) (x1306 x1307 x1308 x1309 : Int) (b1310 : Bool) (l1311 : List (List AV)) (x1312 x1313 : Int)
 (l1314 : List (List AV)) (x1315 x1316 : Int) (l1317 : List (List AV)) (x1318 : Int) (l1319 : List (List AV))
 (x1320 : Int) (l1321 : List (List AV)) (x1322 : Int) (l1323 : List (List AV)) (x1324 : Int) (l1325 : List (List AV)),
 E cx
 (Key.loop 12
 [true, true, true, true, true, true, false, true, false, false, true, true, false, false, true, true, true, true, true, true, true, false])
 [vbool b1303, vi x1304, vs s1305, vi x1306, vb x1307, vi x1308,
 vi x1309, vbool b1310, AV.ptr 1 0 0 0, AV.ptr 2 0 0 0, AV.ptr 3 0 0 0,
 AV.ptr 4 0 0 0, AV.list 0 2 l1311, vi x1312, vi x1313, AV.list 0 2 l1314,
 vi x1315]
 [Ob.mk OK.box 33 2 0 [[vi x1316, AV.list 0 1 l1317]],
 Ob.mk OK.box 33 2 0 [[vi x1318, AV.list 0 1 l1319]],
 Ob.mk OK.box 33 2 0 [[vi x1320, AV.list 0 1 l1321]],
 Ob.mk OK.box 33 2 0 [[vi x1322, AV.list 0 1 l1323]],
 Ob.mk OK.box 33 2 0 [[vi x1324, AV.list 0 1 l1325]]] =
 bif decide (x1304 < x1315) then
 if 0 ≤ x1304 then
 Option.bind l1314[Int.toNat x1304]? fun cs1326 ↦
 Option.bind (uncons? cs1326) fun p1327 ↦
 Option.bind (AV.int? IntKind.i64 p1327.fst) fun n1328 ↦
 Option.bind (uncons? p1327.snd) fun p1329 ↦
 Option.bind (AV.list? 1 p1329.fst) fun es1330 ↦
 Option.bind (nil? p1329.snd) fun _ ↦
 Option.bind
 (E cx (Key.fn 65)
 [AV.agg [vi x1324, AV.list 0 1 l1325],
 AV.list 0 2
 [[vi n1328, AV.list 0 1 es1330], [vi x1320, AV.list 0 1 l1321]]]
 [])
 fun r1332 ↦
 Option.bind (ret1 r1332) fun v1333 ↦
 Option.bind (AV.tup? v1333) fun vs1334 ↦
 Option.bind (uncons? vs1334) fun p1335 ↦
 Option.bind (AV.cells? p1335.fst) fun cs1336 ↦
 Option.bind (uncons? cs1336) fun p1337 ↦
 Option.bind (AV.int? IntKind.i64 p1337.fst) fun n1338 ↦
 Option.bind (uncons? p1337.snd) fun p1339 ↦
 Option.bind (AV.list? 1 p1339.fst) fun es1340 ↦
 Option.bind (nil? p1339.snd) fun _ ↦
 Option.bind (uncons? p1335.snd) fun p1342 ↦
 Option.bind (AV.int? IntKind.i64 p1342.fst) fun n1343 ↦
 Option.bind (nil? p1342.snd) fun _ ↦
 Option.bind
 (E cx (Key.fn 66)
 [AV.list 0 2
 [[vi x1324, AV.list 0 1 l1325],
 [vi n1328, AV.list 0 1 es1330],
 [vi x1320, AV.list 0 1 l1321]]]
 [])
 fun r1345 ↦
 Option.bind (ret1 r1345) fun v1346 ↦
 Option.bind (AV.tup? v1346) fun vs1347 ↦
 Option.bind (uncons? vs1347) fun p1348 ↦
 Option.bind (AV.cells? p1348.fst) fun cs1349 ↦
 Option.bind (uncons? cs1349) fun p1350 ↦
 Option.bind (AV.int? IntKind.i64 p1350.fst) fun n1351 ↦
 Option.bind (uncons? p1350.snd) fun p1352 ↦
 Option.bind (AV.list? 1 p1352.fst) fun es1353 ↦
 Option.bind (nil? p1352.snd) fun _ ↦
 Option.bind (uncons? p1348.snd) fun p1355 ↦
 Option.bind (AV.int? IntKind.i64 p1355.fst) fun n1356 ↦
 Option.bind (nil? p1355.snd) fun _ ↦
 bif n1343 != n1356 then
 q12_l0_l1_0 x1304 x1316 l1317 x1318 l1319 x1320 l1321 x1322 l1323 x1324
 l1325
 else
 Option.bind
 (E cx (Key.fn 67)
 [AV.agg [vi n1338, AV.list 0 1 es1340],
 AV.agg [vi n1351, AV.list 0 1 es1353]]
 [])
 fun r1358 ↦
 Option.bind (ret1 r1358) fun v1359 ↦
 Option.bind (AV.bool? v1359) fun b1360 ↦
 bif b1360 then
 Option.bind
 (E cx (Key.fn 68)
 [AV.agg
 [vi x1324, AV.list 0 1 l1325],
 AV.agg
 [vi n1328, AV.list 0 1 es1330]]
 [])
 fun r1361 ↦
 Option.bind (ret1 r1361) fun v1362 ↦
 Option.bind (AV.bool? v1362) fun b1363 ↦
 bif b1363 then
 Option.bind
 (E cx (Key.fn 69)
 [AV.agg
 [vi x1324, AV.list 0 1 l1325],
 AV.agg
 [vi n1328, AV.list 0 1 es1330]]
 [])
 fun r1364 ↦
 Option.bind (ret1 r1364) fun v1365 ↦
 Option.bind (AV.bool? v1365) fun b1366 ↦
 bif b1366 then
 q12_l0_l1_2 x1324 l1325 n1328 es1330 b1303 x1304
 s1305 x1306 x1307 x1308 x1309 b1310 l1311 x1312 x1313 l1314
 x1315 x1316 l1317 x1318 l1319 x1320 l1321 x1322 l1323
 else
 q12_l0_l1_0 x1304 x1316 l1317 x1318 l1319 x1320
 l1321 x1322 l1323 x1324 l1325
 else
 Option.bind
 (E cx (Key.fn 69)
 [AV.agg
 [vi x1324, AV.list 0 1 l1325],
 AV.agg
 [vi n1328, AV.list 0 1 es1330]]
 [])
 fun r1376 ↦
 Option.bind (ret1 r1376) fun v1377 ↦
 Option.bind (AV.bool? v1377) fun b1378 ↦
 bif b1378 then
 q12_l0_l1_0 x1304 x1316 l1317 x1318 l1319 x1320
 l1321 x1322 l1323 x1324 l1325
 else
 q12_l0_l1_2 x1324 l1325 n1328 es1330 b1303 x1304
 s1305 x1306 x1307 x1308 x1309 b1310 l1311 x1312 x1313 l1314
 x1315 x1316 l1317 x1318 l1319 x1320 l1321 x1322 l1323
 else
 q12_l0_l1_0 x1304 x1316 l1317 x1318 l1319 x1320 l1321 x1322 l1323
 x1324 l1325
 else none
 else
 some
 (Out.jump (JX.exit 2) [vbool b1303, vi x1304],
 [Ob.mk OK.box 33 2 0 [[vi x1316, AV.list 0 1 l1317]],
 Ob.mk OK.box 33 2 0 [[vi x1318, AV.list 0 1 l1319]],
 Ob.mk OK.box 33 2 0 [[vi x1320, AV.list 0 1 l1321]],
 Ob.mk OK.box 33 2 0 [[vi x1322, AV.list 0 1 l1323]],
 Ob.mk OK.box 33 2 0 [[vi x1324, AV.list 0 1 l1325]]]) := by
  intros
  exact (E_ov f54_true [188] _ _ _).trans (by kernel_rfl)


theorem f12_l2 : ∀ (b1388 : Bool) (x1389 x1390 : Int) (b1391 : Bool) (l1392 : List (List AV)) (x1393 x1394 : Int) (l1395 : List (List AV))
 (x1396 : Int) (l1397 : List (List AV)) (x1398 : Int) (l1399 : List (List AV)) (x1400 : Int) (l1401 : List (List AV)),
 E cx (Key.loop 12 [true, true, true, true, true, true, true, true, true, false, true, false])
 [vbool b1388, vi x1389, vi x1390, vbool b1391, AV.ptr 2 0 0 0,
 AV.list 0 1 l1392, vi x1393]
 [Ob.mk OK.box 33 2 0 [[vi x1394, AV.list 0 1 l1395]],
 Ob.mk OK.box 33 2 0 [[vi x1396, AV.list 0 1 l1397]],
 Ob.mk OK.box 33 2 0 [[vi x1398, AV.list 0 1 l1399]],
 Ob.mk OK.box 33 2 0 [[vi x1400, AV.list 0 1 l1401]]] =
 bif decide (x1389 < x1393) then
 if 0 ≤ x1389 then
 Option.bind l1392[Int.toNat x1389]? fun cs1402 ↦
 Option.bind (uncons? cs1402) fun p1403 ↦
 Option.bind (AV.str? p1403.fst) fun s1404 ↦
 Option.bind (nil? p1403.snd) fun _ ↦
 Option.bind (E cx (Key.fn 64) [vi x1390, vi 50] []) fun r1406 ↦
 Option.bind (ret1 r1406) fun v1407 ↦
 Option.bind (AV.int? IntKind.i64 v1407) fun n1408 ↦
 Option.bind
 (E cx
 (Key.loop 12
 [true, true, true, true, true, true, true, true, true, false, true, false, false, true, true, false, false, true, true, false])
 [vbool b1388, vi 0, vi x1390, vbool b1391, AV.ptr 2 0 0 0,
 vs s1404, AV.list 0 1 l1392, vi x1393, vi x1389,
 AV.list 0 1 [[vi x1390], [vi x1398], [vi n1408]], vi 3]
 [Ob.mk OK.box 33 2 0 [[vi x1394, AV.list 0 1 l1395]],
 Ob.mk OK.box 33 2 0 [[vi x1396, AV.list 0 1 l1397]],
 Ob.mk OK.box 33 2 0 [[vi x1398, AV.list 0 1 l1399]],
 Ob.mk OK.box 33 2 0 [[vi x1400, AV.list 0 1 l1401]]])
 fun r1409 ↦
 Option.bind (asJump r1409) fun j1410 ↦
 bif JX.is j1410.fst (JX.exit 6) then
 Option.bind (uncons? j1410.snd.fst) fun p1411 ↦
 Option.bind (AV.bool? p1411.fst) fun b1412 ↦
 Option.bind (uncons? p1411.snd) fun p1413 ↦
 Option.bind (AV.int? IntKind.i64 p1413.fst) fun _ ↦
 Option.bind (nil? p1413.snd) fun _ ↦
 Option.bind (uncons? j1410.snd.snd) fun p1416 ↦
 Option.bind
 (obIs
 (Ob.mk OK.box 33 2 0 [[vi x1394, AV.list 0 1 l1395]]) p1416.fst)
 fun _ ↦
 Option.bind (chk p1416.fst.ver 0) fun _ ↦
 Option.bind (uncons? p1416.fst.es) fun p1419 ↦
 Option.bind (nil? p1419.snd) fun _ ↦
 Option.bind (uncons? p1419.fst) fun p1421 ↦
 Option.bind (AV.int? IntKind.i64 p1421.fst) fun n1422 ↦
 Option.bind (uncons? p1421.snd) fun p1423 ↦
 Option.bind (AV.list? 1 p1423.fst) fun es1424 ↦
 Option.bind (nil? p1423.snd) fun _ ↦
 Option.bind (uncons? p1416.snd) fun p1426 ↦
 Option.bind
 (obIs
 (Ob.mk OK.box 33 2 0
 [[vi x1396, AV.list 0 1 l1397]])
 p1426.fst)
 fun _ ↦
 Option.bind (chk p1426.fst.ver 0) fun _ ↦
 Option.bind (uncons? p1426.fst.es) fun p1429 ↦
 Option.bind (nil? p1429.snd) fun _ ↦
 Option.bind (uncons? p1429.fst) fun p1431 ↦
 Option.bind (AV.int? IntKind.i64 p1431.fst) fun n1432 ↦
 Option.bind (uncons? p1431.snd) fun p1433 ↦
 Option.bind (AV.list? 1 p1433.fst) fun es1434 ↦
 Option.bind (nil? p1433.snd) fun _ ↦
 Option.bind (uncons? p1426.snd) fun p1436 ↦
 Option.bind
 (obIs
 (Ob.mk OK.box 33 2 0
 [[vi x1398, AV.list 0 1 l1399]])
 p1436.fst)
 fun _ ↦
 Option.bind (chk p1436.fst.ver 0) fun _ ↦
 Option.bind (uncons? p1436.fst.es) fun p1439 ↦
 Option.bind (nil? p1439.snd) fun _ ↦
 Option.bind (uncons? p1439.fst) fun p1441 ↦
 Option.bind (AV.int? IntKind.i64 p1441.fst)
 fun n1442 ↦
 Option.bind (uncons? p1441.snd) fun p1443 ↦
 Option.bind (AV.list? 1 p1443.fst) fun es1444 ↦
 Option.bind (nil? p1443.snd) fun _ ↦
 Option.bind (uncons? p1436.snd) fun p1446 ↦
 Option.bind
 (obIs
 (Ob.mk OK.box 33 2 0
 [[vi x1400,
 AV.list 0 1 l1401]])
 p1446.fst)
 fun _ ↦
 Option.bind (chk p1446.fst.ver 0) fun _ ↦
 Option.bind (uncons? p1446.fst.es)
 fun p1449 ↦
 Option.bind (nil? p1449.snd) fun _ ↦
 Option.bind (uncons? p1449.fst)
 fun p1451 ↦
 Option.bind
 (AV.int? IntKind.i64 p1451.fst)
 fun n1452 ↦
 Option.bind (uncons? p1451.snd)
 fun p1453 ↦
 Option.bind
 (AV.list? 1 p1453.fst)
 fun es1454 ↦
 Option.bind (nil? p1453.snd)
 fun _ ↦
 Option.bind (nil? p1446.snd)
 fun _ ↦
 E cx
 (Key.loop 12
 [true, true, true, true, true, true,
 true, true, true, false, true,
 false])
 [vbool b1412,
 vi
 (IntKind.wrap IntKind.i64
 (Int.add x1389 1)),
 vi x1390,
 vbool b1391,
 AV.ptr 2 0 0 0,
 AV.list 0 1 l1392,
 vi x1393]
 [Ob.mk
 OK.box 33 2 0
 [[vi n1422,
 AV.list 0 1
 es1424]],
 Ob.mk
 OK.box 33 2 0
 [[vi n1432,
 AV.list 0 1
 es1434]],
 Ob.mk
 OK.box 33 2 0
 [[vi n1442,
 AV.list 0 1
 es1444]],
 Ob.mk
 OK.box 33 2 0
 [[vi n1452,
 AV.list 0 1
 es1454]]]
 else
 bif JX.is j1410.fst JX.ret then
 Option.bind (uncons? j1410.snd.fst) fun p1457 ↦
 Option.bind (AV.bool? p1457.fst) fun b1458 ↦
 Option.bind (uncons? p1457.snd) fun p1459 ↦
 Option.bind (AV.int? IntKind.i64 p1459.fst) fun _ ↦
 Option.bind (nil? p1459.snd) fun _ ↦
 Option.bind (uncons? j1410.snd.snd) fun p1462 ↦
 Option.bind
 (obIs
 (Ob.mk OK.box 33 2 0 [[vi x1394, AV.list 0 1 l1395]])
 p1462.fst)
 fun _ ↦
 Option.bind (chk p1462.fst.ver 0) fun _ ↦
 Option.bind (uncons? p1462.fst.es) fun p1465 ↦
 Option.bind (nil? p1465.snd) fun _ ↦
 Option.bind (uncons? p1465.fst) fun p1467 ↦
 Option.bind (AV.int? IntKind.i64 p1467.fst) fun n1468 ↦
 Option.bind (uncons? p1467.snd) fun p1469 ↦
 Option.bind (AV.list? 1 p1469.fst) fun es1470 ↦
 Option.bind (nil? p1469.snd) fun _ ↦
 Option.bind (uncons? p1462.snd) fun p1472 ↦
 Option.bind
 (obIs
 (Ob.mk OK.box 33 2 0
 [[vi x1396, AV.list 0 1 l1397]])
 p1472.fst)
 fun _ ↦
 Option.bind (chk p1472.fst.ver 0) fun _ ↦
 Option.bind (uncons? p1472.fst.es) fun p1475 ↦
 Option.bind (nil? p1475.snd) fun _ ↦
 Option.bind (uncons? p1475.fst) fun p1477 ↦
 Option.bind (AV.int? IntKind.i64 p1477.fst) fun n1478 ↦
 Option.bind (uncons? p1477.snd) fun p1479 ↦
 Option.bind (AV.list? 1 p1479.fst) fun es1480 ↦
 Option.bind (nil? p1479.snd) fun _ ↦
 Option.bind (uncons? p1472.snd) fun p1482 ↦
 Option.bind
 (obIs
 (Ob.mk OK.box 33 2 0
 [[vi x1398, AV.list 0 1 l1399]])
 p1482.fst)
 fun _ ↦
 Option.bind (chk p1482.fst.ver 0) fun _ ↦
 Option.bind (uncons? p1482.fst.es) fun p1485 ↦
 Option.bind (nil? p1485.snd) fun _ ↦
 Option.bind (uncons? p1485.fst) fun p1487 ↦
 Option.bind (AV.int? IntKind.i64 p1487.fst)
 fun n1488 ↦
 Option.bind (uncons? p1487.snd) fun p1489 ↦
 Option.bind (AV.list? 1 p1489.fst) fun es1490 ↦
 Option.bind (nil? p1489.snd) fun _ ↦
 Option.bind (uncons? p1482.snd) fun p1492 ↦
 Option.bind
 (obIs
 (Ob.mk OK.box 33 2 0
 [[vi x1400,
 AV.list 0 1 l1401]])
 p1492.fst)
 fun _ ↦
 Option.bind (chk p1492.fst.ver 0)
 fun _ ↦
 Option.bind (uncons? p1492.fst.es)
 fun p1495 ↦
 Option.bind (nil? p1495.snd)
 fun _ ↦
 Option.bind (uncons? p1495.fst)
 fun p1497 ↦
 Option.bind
 (AV.int? IntKind.i64
 p1497.fst)
 fun n1498 ↦
 Option.bind (uncons? p1497.snd)
 fun p1499 ↦
 Option.bind
 (AV.list? 1 p1499.fst)
 fun es1500 ↦
 Option.bind (nil? p1499.snd)
 fun _ ↦
 Option.bind
 (nil? p1492.snd)
 fun _ ↦
 some
 (Out.jump
 JX.ret
 [vbool b1458,
 vi x1389],
 [Ob.mk
 OK.box 33 2 0
 [[vi n1468,
 AV.list 0 1
 es1470]],
 Ob.mk
 OK.box 33 2 0
 [[vi n1478,
 AV.list 0 1
 es1480]],
 Ob.mk
 OK.box 33 2 0
 [[vi n1488,
 AV.list 0 1
 es1490]],
 Ob.mk
 OK.box 33 2 0
 [[vi n1498,
 AV.list 0 1
 es1500]]])
 else none
 else none
 else
 some
 (Out.jump (JX.exit 4) [vbool b1388, vi x1389],
 [Ob.mk OK.box 33 2 0 [[vi x1394, AV.list 0 1 l1395]],
 Ob.mk OK.box 33 2 0 [[vi x1396, AV.list 0 1 l1397]],
 Ob.mk OK.box 33 2 0 [[vi x1398, AV.list 0 1 l1399]],
 Ob.mk OK.box 33 2 0 [[vi x1400, AV.list 0 1 l1401]]]) := by
  intros
  exact (E_ov f54_true [188] _ _ _).trans (by kernel_rfl)


noncomputable def q12_l2_l3_0 : Int →
 Int →
 List (List AV) →
 Int → List (List AV) → Int → List (List AV) → Int → List (List AV) → Option (Out × Heap) :=
 fun x1504 x1513 l1514 x1515 l1516 x1517 l1518 x1519 l1520 ↦
 some
 (Out.jump JX.ret [vbool false, vi x1504],
 [Ob.mk OK.box 33 2 0 [[vi x1513, AV.list 0 1 l1514]],
 Ob.mk OK.box 33 2 0 [[vi x1515, AV.list 0 1 l1516]],
 Ob.mk OK.box 33 2 0 [[vi x1517, AV.list 0 1 l1518]],
 Ob.mk OK.box 33 2 0 [[vi x1519, AV.list 0 1 l1520]]])


theorem f12_l2_l3 : ∀ (b1503 : Bool) (x1504 x1505 : Int) (b1506 : Bool) (s1507 : ByteArray) (l1508 : List (List AV)) (x1509 x1510 : Int)
 (l1511 : List (List AV)) (x1512 x1513 : Int) (l1514 : List (List AV)) (x1515 : Int) (l1516 : List (List AV))
 (x1517 : Int) (l1518 : List (List AV)) (x1519 : Int) (l1520 : List (List AV)),
 E cx
 (Key.loop 12 [true, true, true, true, true, true, true, true, true, false, true, false, false, true, true, false, false, true, true, false])
 [vbool b1503, vi x1504, vi x1505, vbool b1506, AV.ptr 2 0 0 0, vs s1507,
 AV.list 0 1 l1508, vi x1509, vi x1510, AV.list 0 1 l1511, vi x1512]
 [Ob.mk OK.box 33 2 0 [[vi x1513, AV.list 0 1 l1514]],
 Ob.mk OK.box 33 2 0 [[vi x1515, AV.list 0 1 l1516]],
 Ob.mk OK.box 33 2 0 [[vi x1517, AV.list 0 1 l1518]],
 Ob.mk OK.box 33 2 0 [[vi x1519, AV.list 0 1 l1520]]] =
 bif decide (x1504 < x1512) then
 if 0 ≤ x1504 then
 Option.bind l1511[Int.toNat x1504]? fun cs1521 ↦
 Option.bind (uncons? cs1521) fun p1522 ↦
 Option.bind (AV.int? IntKind.i64 p1522.fst) fun n1523 ↦
 Option.bind (nil? p1522.snd) fun _ ↦
 Option.bind (E cx (Key.fn 73) [vs s1507, vi n1523] []) fun r1525 ↦
 Option.bind (ret1 r1525) fun v1526 ↦
 Option.bind (AV.tup? v1526) fun vs1527 ↦
 Option.bind (uncons? vs1527) fun p1528 ↦
 Option.bind (AV.cells? p1528.fst) fun cs1529 ↦
 Option.bind (uncons? cs1529) fun p1530 ↦
 Option.bind (AV.int? IntKind.i64 p1530.fst) fun n1531 ↦
 Option.bind (uncons? p1530.snd) fun p1532 ↦
 Option.bind (AV.list? 1 p1532.fst) fun es1533 ↦
 Option.bind (nil? p1532.snd) fun _ ↦
 Option.bind (uncons? p1528.snd) fun p1535 ↦
 Option.bind (AV.int? IntKind.i64 p1535.fst) fun n1536 ↦
 Option.bind (nil? p1535.snd) fun _ ↦
 Option.bind
 (E cx (Key.fn 74) [vs s1507, vi n1523] [])
 fun r1538 ↦
 Option.bind (ret1 r1538) fun v1539 ↦
 Option.bind (AV.tup? v1539) fun vs1540 ↦
 Option.bind (uncons? vs1540) fun p1541 ↦
 Option.bind (AV.cells? p1541.fst) fun cs1542 ↦
 Option.bind (uncons? cs1542) fun p1543 ↦
 Option.bind (AV.int? IntKind.i64 p1543.fst) fun n1544 ↦
 Option.bind (uncons? p1543.snd) fun p1545 ↦
 Option.bind (AV.list? 1 p1545.fst) fun es1546 ↦
 Option.bind (nil? p1545.snd) fun _ ↦
 Option.bind (uncons? p1541.snd) fun p1548 ↦
 Option.bind (AV.int? IntKind.i64 p1548.fst) fun n1549 ↦
 Option.bind (nil? p1548.snd) fun _ ↦
 Option.bind
 (E cx (Key.fn 75)
 [vs s1507, vi n1523] [])
 fun r1551 ↦
 Option.bind (ret1 r1551) fun v1552 ↦
 Option.bind (AV.tup? v1552) fun vs1553 ↦
 Option.bind (uncons? vs1553) fun p1554 ↦
 Option.bind (AV.cells? p1554.fst) fun cs1555 ↦
 Option.bind (uncons? cs1555) fun p1556 ↦
 Option.bind (AV.int? IntKind.i64 p1556.fst) fun n1557 ↦
 Option.bind (uncons? p1556.snd) fun p1558 ↦
 Option.bind (AV.list? 1 p1558.fst) fun es1559 ↦
 Option.bind (nil? p1558.snd) fun _ ↦
 Option.bind (uncons? p1554.snd) fun p1561 ↦
 Option.bind (AV.int? IntKind.i64 p1561.fst)
 fun n1562 ↦
 Option.bind (nil? p1561.snd) fun _ ↦
 Option.bind
 (E cx (Key.fn 76)
 [vs s1507, vi n1523] [])
 fun r1564 ↦
 Option.bind (ret1 r1564) fun v1565 ↦
 Option.bind (AV.tup? v1565) fun vs1566 ↦
 Option.bind (uncons? vs1566) fun p1567 ↦
 Option.bind (AV.cells? p1567.fst)
 fun cs1568 ↦
 Option.bind (uncons? cs1568) fun p1569 ↦
 Option.bind
 (AV.int? IntKind.i64 p1569.fst)
 fun n1570 ↦
 Option.bind (uncons? p1569.snd)
 fun p1571 ↦
 Option.bind (AV.list? 1 p1571.fst)
 fun es1572 ↦
 Option.bind (nil? p1571.snd)
 fun _ ↦
 Option.bind (uncons? p1567.snd)
 fun p1574 ↦
 Option.bind
 (AV.int? IntKind.i64
 p1574.fst)
 fun n1575 ↦
 Option.bind (nil? p1574.snd)
 fun _ ↦
 bif n1536 != n1549 then
 q12_l2_l3_0 x1504 x1513
 l1514 x1515 l1516 x1517 l1518 x1519
 l1520
 else
 Option.bind
 (E cx
 (Key.fn 67)
 [AV.agg
 [vi n1531,
 AV.list 0 1
 es1533],
 AV.agg
 [vi n1544,
 AV.list 0 1
 es1546]]
 [])
 fun r1577 ↦
 Option.bind
 (ret1 r1577)
 fun v1578 ↦
 Option.bind
 (AV.bool? v1578)
 fun b1579 ↦
 bif b1579 then
 bif n1562 != n1575 then
 q12_l2_l3_0
 x1504 x1513 l1514 x1515
 l1516 x1517 l1518 x1519
 l1520
 else
 Option.bind
 (E
 cx
 (Key.fn 67)
 [AV.agg
 [vi
 n1557,
 AV.list
 0 1 es1559],
 AV.agg
 [vi
 n1570,
 AV.list
 0 1 es1572]]
 [])
 fun r1580 ↦
 Option.bind
 (ret1
 r1580)
 fun v1581 ↦
 Option.bind
 (AV.bool?
 v1581)
 fun b1582 ↦
 bif b1582 then
 E
 cx
 (Key.loop
 12
 [true, true,
 true, true,
 true, true,
 true, true,
 true, false,
 true, false,
 false, true,
 true, false,
 false, true,
 true, false])
 [vbool
 b1503,
 vi
 (IntKind.wrap
 IntKind.i64
 (Int.add
 x1504 1)),
 vi
 x1505,
 vbool
 b1506,
 AV.ptr
 2 0 0 0,
 vs
 s1507,
 AV.list
 0 1 l1508,
 vi
 x1509,
 vi
 x1510,
 AV.list
 0 1 l1511,
 vi
 x1512]
 [Ob.mk
 OK.box
 33 2 0
 [[vi
 x1513,
 AV.list
 0 1
 l1514]],
 Ob.mk
 OK.box
 33 2 0
 [[vi
 x1515,
 AV.list
 0 1
 l1516]],
 Ob.mk
 OK.box
 33 2 0
 [[vi
 x1517,
 AV.list
 0 1
 l1518]],
 Ob.mk
 OK.box
 33 2 0
 [[vi
 x1519,
 AV.list
 0 1
 l1520]]]
 else
 q12_l2_l3_0
 x1504 x1513 l1514
 x1515 l1516 x1517
 l1518 x1519 l1520
 else
 q12_l2_l3_0 x1504
 x1513 l1514 x1515 l1516
 x1517 l1518 x1519 l1520
 else none
 else
 some
 (Out.jump (JX.exit 6) [vbool b1503, vi x1504],
 [Ob.mk OK.box 33 2 0 [[vi x1513, AV.list 0 1 l1514]],
 Ob.mk OK.box 33 2 0 [[vi x1515, AV.list 0 1 l1516]],
 Ob.mk OK.box 33 2 0 [[vi x1517, AV.list 0 1 l1518]],
 Ob.mk OK.box 33 2 0 [[vi x1519, AV.list 0 1 l1520]]]) := by
  intros
  exact (E_ov f54_true [188] _ _ _).trans (by kernel_rfl)

end Go.Proofs.Av
