/- Tokens: the law that they are as the document says. -/
import Derived.Test.YtoepfmodbhfckaaAePQ
set_option maxRecDepth 100000
namespace Go.Proofs.Av
open Go
theorem f6 : ∀ (t0 : Bool) (t1 one2 two3 : List (List AV)) (forged4 : Bool) (s5 : ByteArray) (at6 c7 key8 root9 : Int),
 E cx (Key.fn 6)
 [AV.agg [vbool t0, AV.list 0 2 t1], AV.list 0 1 one2, AV.list 0 1 two3,
 vbool forged4, vs s5, vi at6, vb c7, vu key8, vu root9]
 [] =
 if 0 ≤ if 40 < ((List.length t1) : Int) then 40 else ((List.length t1) : Int) then
 if (if 40 < ((List.length t1) : Int) then 40 else ((List.length t1) : Int)) ≤ ((List.length t1) : Int) then
 Option.bind (E cx (Key.fn 37) [AV.list 0 1 one2, vbool forged4] []) fun r10 ↦
 Option.bind (ret1 r10) fun v11 ↦
 Option.bind (AV.cells? v11) fun cs12 ↦
 Option.bind (uncons? cs12) fun p13 ↦
 Option.bind (AV.bool? p13.fst) fun b14 ↦
 Option.bind (uncons? p13.snd) fun p15 ↦
 Option.bind (AV.list? 2 p15.fst) fun es16 ↦
 Option.bind (nil? p15.snd) fun _ ↦
 Option.bind (E cx (Key.fn 37) [AV.list 0 1 two3, vbool false] [])
 fun r18 ↦
 Option.bind (ret1 r18) fun v19 ↦
 Option.bind (AV.cells? v19) fun cs20 ↦
 Option.bind (uncons? cs20) fun p21 ↦
 Option.bind (AV.bool? p21.fst) fun b22 ↦
 Option.bind (uncons? p21.snd) fun p23 ↦
 Option.bind (AV.list? 2 p23.fst) fun es24 ↦
 Option.bind (nil? p23.snd) fun _ ↦
 Option.bind
 (E cx (Key.loop 6 [true, true, true, true, true, true, false, true, false])
 [vbool false, vi 0, vs s5, vi at6, vb c7,
 vu key8, vu root9, vbool true, AV.ptr 1 0 0 0,
 AV.ptr 2 0 0 0, AV.ptr 3 0 0 0,
 AV.list 0 2
 [[vbool t0,
 AV.list 0 2
 (List.drop 0 (List.take (Int.toNat (if 40 < ((List.length t1) : Int) then 40 else ((List.length t1) : Int))) t1))],
 [vbool b14, AV.list 0 2 es16],
 [vbool b22, AV.list 0 2 es24]],
 vi 3]
 [Ob.mk OK.box 36 2 0 [[vbool t0, AV.list 0 2 t1]],
 Ob.mk OK.box 36 2 0
 [[vbool t0,
 AV.list 0 2
 (List.drop 0 (List.take (Int.toNat (if 40 < ((List.length t1) : Int) then 40 else ((List.length t1) : Int))) t1))]],
 Ob.mk OK.box 36 2 0 [[vbool b14, AV.list 0 2 es16]],
 Ob.mk OK.box 36 2 0 [[vbool b22, AV.list 0 2 es24]]])
 fun r26 ↦
 Option.bind (asJump r26) fun j27 ↦
 bif JX.is j27.fst (JX.exit 0) then
 Option.bind (uncons? j27.snd.fst) fun p28 ↦
 Option.bind (AV.bool? p28.fst) fun b29 ↦
 Option.bind (uncons? p28.snd) fun p30 ↦
 Option.bind (AV.int? IntKind.i64 p30.fst) fun _ ↦
 Option.bind (nil? p30.snd) fun _ ↦
 Option.bind (uncons? j27.snd.snd) fun p33 ↦
 Option.bind
 (obIs
 (Ob.mk OK.box 36 2 0
 [[vbool t0, AV.list 0 2 t1]])
 p33.fst)
 fun _ ↦
 Option.bind (chk p33.fst.ver 0) fun _ ↦
 Option.bind (uncons? p33.fst.es) fun p36 ↦
 Option.bind (nil? p36.snd) fun _ ↦
 Option.bind (uncons? p36.fst) fun p38 ↦
 Option.bind (AV.bool? p38.fst) fun b39 ↦
 Option.bind (uncons? p38.snd) fun p40 ↦
 Option.bind (AV.list? 2 p40.fst) fun es41 ↦
 Option.bind (nil? p40.snd) fun _ ↦
 Option.bind (uncons? p33.snd) fun p43 ↦
 Option.bind
 (obIs
 (Ob.mk OK.box 36 2 0
 [[vbool t0,
 AV.list 0 2
 (List.drop 0
 (List.take
 (Int.toNat
 (if 40 < ((List.length t1) : Int) then 40 else ((List.length t1) : Int)))
 t1))]])
 p43.fst)
 fun _ ↦
 Option.bind (chk p43.fst.ver 0) fun _ ↦
 Option.bind (uncons? p43.fst.es) fun p46 ↦
 Option.bind (nil? p46.snd) fun _ ↦
 Option.bind (uncons? p46.fst) fun p48 ↦
 Option.bind (AV.bool? p48.fst) fun b49 ↦
 Option.bind (uncons? p48.snd) fun p50 ↦
 Option.bind (AV.list? 2 p50.fst) fun es51 ↦
 Option.bind (nil? p50.snd) fun _ ↦
 Option.bind (uncons? p43.snd) fun p53 ↦
 Option.bind
 (obIs
 (Ob.mk OK.box 36 2 0
 [[vbool b14,
 AV.list 0 2 es16]])
 p53.fst)
 fun _ ↦
 Option.bind (chk p53.fst.ver 0) fun _ ↦
 Option.bind (uncons? p53.fst.es) fun p56 ↦
 Option.bind (nil? p56.snd) fun _ ↦
 Option.bind (uncons? p56.fst) fun p58 ↦
 Option.bind (AV.bool? p58.fst)
 fun b59 ↦
 Option.bind (uncons? p58.snd)
 fun p60 ↦
 Option.bind (AV.list? 2 p60.fst)
 fun es61 ↦
 Option.bind (nil? p60.snd)
 fun _ ↦
 Option.bind (uncons? p53.snd)
 fun p63 ↦
 Option.bind
 (obIs
 (Ob.mk
 OK.box 36 2 0
 [[vbool b22,
 AV.list 0 2 es24]])
 p63.fst)
 fun _ ↦
 Option.bind
 (chk p63.fst.ver 0)
 fun _ ↦
 Option.bind
 (uncons? p63.fst.es)
 fun p66 ↦
 Option.bind
 (nil? p66.snd)
 fun _ ↦
 Option.bind
 (uncons? p66.fst)
 fun p68 ↦
 Option.bind
 (AV.bool?
 p68.fst)
 fun b69 ↦
 Option.bind
 (uncons?
 p68.snd)
 fun p70 ↦
 Option.bind
 (AV.list? 2
 p70.fst)
 fun es71 ↦
 Option.bind
 (nil?
 p70.snd)
 fun _ ↦
 Option.bind
 (nil?
 p63.snd)
 fun _ ↦
 Option.bind
 (E
 cx
 (Key.fn
 39)
 [AV.agg
 [vbool
 b59,
 AV.list
 0 2 es61]]
 [])
 fun r74 ↦
 Option.bind
 (ret1
 r74)
 fun v75 ↦
 Option.bind
 (AV.tup?
 v75)
 fun vs76 ↦
 Option.bind
 (uncons?
 vs76)
 fun p77 ↦
 Option.bind
 (AV.str?
 p77.fst)
 fun s78 ↦
 Option.bind
 (uncons?
 p77.snd)
 fun p79 ↦
 Option.bind
 (AV.int?
 IntKind.i64
 p79.fst)
 fun
 _ ↦
 Option.bind
 (nil?
 p79.snd)
 fun
 _ ↦
 Option.bind
 (E
 cx
 (Key.fn
 48)
 [vi
 at6,
 vi
 ((ByteArray.size
 s78) : Int)]
 [])
 fun
 r82 ↦
 Option.bind
 (ret1
 r82)
 fun
 v83 ↦
 Option.bind
 (AV.int?
 IntKind.i64
 v83)
 fun
 n84 ↦
 if
 0 ≤
 if
 100 <
 ((ByteArray.size
 s5) : Int) then
 100
 else
 ((ByteArray.size
 s5) : Int) then
 if
 (if
 100 <
 ((ByteArray.size
 s5) : Int) then
 100
 else
 ((ByteArray.size
 s5) : Int)) ≤
 ((ByteArray.size
 s5) : Int) then
 if
 0 ≤
 n84 then
 if
 n84 ≤
 ((ByteArray.size
 s78) : Int) then
 if
 ((Nat.add
 (ByteArray.size
 (ByteArray.extract
 s78
 0
 (Int.toNat
 n84)))
 (ByteArray.size
 (Go.strOfNums
 [c7]))) : Int) >
 9223372036854775807 then
 none
 else
 if
 0 ≤
 IntKind.wrap
 IntKind.i64
 (Int.add
 n84
 1) then
 if
 IntKind.wrap
 IntKind.i64
 (Int.add
 n84
 1) ≤
 ((ByteArray.size
 s78) : Int) then
 if
 ((Nat.add
 (ByteArray.size
 (ByteArray.append
 (ByteArray.extract
 s78
 0
 (Int.toNat
 n84))
 (Go.strOfNums
 [c7])))
 (ByteArray.size
 (ByteArray.extract
 s78
 (Int.toNat
 (IntKind.wrap
 IntKind.i64
 (Int.add
 n84
 1)))
 (ByteArray.size
 s78)))) : Int) >
 9223372036854775807 then
 none
 else
 if
 0 ≤
 n84 then
 if
 n84 ≤
 ((ByteArray.size
 s78) : Int) then
 Option.bind
 (E
 cx
 (Key.loop
 6
 [true,
 true,
 true,
 true,
 true,
 true,
 true,
 true,
 true,
 false,
 true,
 false])
 [vbool
 b29,
 vi
 0,
 vu
 key8,
 vu
 root9,
 vbool
 true,
 AV.list
 0
 1
 [[vs
 (ByteArray.extract
 s5
 0
 (Int.toNat
 (if
 100 <
 ((ByteArray.size
 s5) : Int) then
 100
 else
 ((ByteArray.size
 s5) : Int))))],
 [vs
 s78],
 [vs
 (ByteArray.append
 (ByteArray.append
 (ByteArray.extract
 s78
 0
 (Int.toNat
 n84))
 (Go.strOfNums
 [c7]))
 (ByteArray.extract
 s78
 (Int.toNat
 (IntKind.wrap
 IntKind.i64
 (Int.add
 n84
 1)))
 (ByteArray.size
 s78)))],
 [vs
 (ByteArray.extract
 s78
 0
 (Int.toNat
 n84))]],
 vi
 4]
 [Ob.mk
 OK.box
 36
 2
 0
 [[vbool
 b39,
 AV.list
 0
 2
 es41]],
 Ob.mk
 OK.box
 36
 2
 0
 [[vbool
 b49,
 AV.list
 0
 2
 es51]],
 Ob.mk
 OK.box
 36
 2
 0
 [[vbool
 b59,
 AV.list
 0
 2
 es61]],
 Ob.mk
 OK.box
 36
 2
 0
 [[vbool
 b69,
 AV.list
 0
 2
 es71]]])
 fun
 r85 ↦
 Option.bind
 (asJump
 r85)
 fun
 j86 ↦
 bif
 JX.is
 j86.fst
 (JX.exit
 4) then
 Option.bind
 (uncons?
 j86.snd.fst)
 fun
 p87 ↦
 Option.bind
 (AV.bool?
 p87.fst)
 fun
 _ ↦
 Option.bind
 (uncons?
 p87.snd)
 fun
 p89 ↦
 Option.bind
 (AV.int?
 IntKind.i64
 p89.fst)
 fun
 _ ↦
 Option.bind
 (nil?
 p89.snd)
 fun
 _ ↦
 Option.bind
 (uncons?
 j86.snd.snd)
 fun
 p92 ↦
 Option.bind
 (obIs
 (Ob.mk
 OK.box
 36
 2
 0
 [[vbool
 b39,
 AV.list
 0
 2
 es41]])
 p92.fst)
 fun
 _ ↦
 Option.bind
 (chk
 p92.fst.ver
 0)
 fun
 _ ↦
 Option.bind
 (uncons?
 p92.fst.es)
 fun
 p95 ↦
 Option.bind
 (nil?
 p95.snd)
 fun
 _ ↦
 Option.bind
 (uncons?
 p95.fst)
 fun
 p97 ↦
 Option.bind
 (AV.bool?
 p97.fst)
 fun
 _ ↦
 Option.bind
 (uncons?
 p97.snd)
 fun
 p99 ↦
 Option.bind
 (AV.list?
 2
 p99.fst)
 fun
 _ ↦
 Option.bind
 (nil?
 p99.snd)
 fun
 _ ↦
 Option.bind
 (uncons?
 p92.snd)
 fun
 p102 ↦
 Option.bind
 (obIs
 (Ob.mk
 OK.box
 36
 2
 0
 [[vbool
 b49,
 AV.list
 0
 2
 es51]])
 p102.fst)
 fun
 _ ↦
 Option.bind
 (chk
 p102.fst.ver
 0)
 fun
 _ ↦
 Option.bind
 (uncons?
 p102.fst.es)
 fun
 p105 ↦
 Option.bind
 (nil?
 p105.snd)
 fun
 _ ↦
 Option.bind
 (uncons?
 p105.fst)
 fun
 p107 ↦
 Option.bind
 (AV.bool?
 p107.fst)
 fun
 _ ↦
 Option.bind
 (uncons?
 p107.snd)
 fun
 p109 ↦
 Option.bind
 (AV.list?
 2
 p109.fst)
 fun
 _ ↦
 Option.bind
 (nil?
 p109.snd)
 fun
 _ ↦
 Option.bind
 (uncons?
 p102.snd)
 fun
 p112 ↦
 Option.bind
 (obIs
 (Ob.mk
 OK.box
 36
 2
 0
 [[vbool
 b59,
 AV.list
 0
 2
 es61]])
 p112.fst)
 fun
 _ ↦
 Option.bind
 (chk
 p112.fst.ver
 0)
 fun
 _ ↦
 Option.bind
 (uncons?
 p112.fst.es)
 fun
 p115 ↦
 Option.bind
 (nil?
 p115.snd)
 fun
 _ ↦
 Option.bind
 (uncons?
 p115.fst)
 fun
 p117 ↦
 Option.bind
 (AV.bool?
 p117.fst)
 fun
 _ ↦
 Option.bind
 (uncons?
 p117.snd)
 fun
 p119 ↦
 Option.bind
 (AV.list?
 2
 p119.fst)
 fun
 _ ↦
 Option.bind
 (nil?
 p119.snd)
 fun
 _ ↦
 Option.bind
 (uncons?
 p112.snd)
 fun
 p122 ↦
 Option.bind
 (obIs
 (Ob.mk
 OK.box
 36
 2
 0
 [[vbool
 b69,
 AV.list
 0
 2
 es71]])
 p122.fst)
 fun
 _ ↦
 Option.bind
 (chk
 p122.fst.ver
 0)
 fun
 _ ↦
 Option.bind
 (uncons?
 p122.fst.es)
 fun
 p125 ↦
 Option.bind
 (nil?
 p125.snd)
 fun
 _ ↦
 Option.bind
 (uncons?
 p125.fst)
 fun
 p127 ↦
 Option.bind
 (AV.bool?
 p127.fst)
 fun
 _ ↦
 Option.bind
 (uncons?
 p127.snd)
 fun
 p129 ↦
 Option.bind
 (AV.list?
 2
 p129.fst)
 fun
 _ ↦
 Option.bind
 (nil?
 p129.snd)
 fun
 _ ↦
 Option.bind
 (nil?
 p122.snd)
 fun
 _ ↦
 Option.bind
 (E
 cx
 (Key.fn
 51)
 [vu
 key8,
 vu
 root9]
 [])
 fun
 r133 ↦
 Option.bind
 (ret1
 r133)
 fun
 v134 ↦
 Option.bind
 (AV.cells?
 v134)
 fun
 cs135 ↦
 Option.bind
 (uncons?
 cs135)
 fun
 p136 ↦
 Option.bind
 (AV.bool?
 p136.fst)
 fun
 b137 ↦
 Option.bind
 (uncons?
 p136.snd)
 fun
 p138 ↦
 Option.bind
 (AV.list?
 2
 p138.fst)
 fun
 es139 ↦
 Option.bind
 (nil?
 p138.snd)
 fun
 _ ↦
 Option.bind
 (E
 cx
 (Key.fn
 52)
 [vu
 key8,
 vu
 root9]
 [])
 fun
 r141 ↦
 Option.bind
 (ret1
 r141)
 fun
 v142 ↦
 Option.bind
 (AV.cells?
 v142)
 fun
 cs143 ↦
 Option.bind
 (uncons?
 cs143)
 fun
 p144 ↦
 Option.bind
 (AV.bool?
 p144.fst)
 fun
 b145 ↦
 Option.bind
 (uncons?
 p144.snd)
 fun
 p146 ↦
 Option.bind
 (AV.list?
 2
 p146.fst)
 fun
 es147 ↦
 Option.bind
 (nil?
 p146.snd)
 fun
 _ ↦
 Option.bind
 (E
 cx
 (Key.fn
 47)
 [AV.agg
 [vbool
 b137,
 AV.list
 0
 2
 es139],
 AV.agg
 [vbool
 b145,
 AV.list
 0
 2
 es147]]
 [])
 fun
 r149 ↦
 Option.bind
 (ret1
 r149)
 fun
 v150 ↦
 Option.bind
 (AV.bool?
 v150)
 fun
 b151 ↦
 bif
 b151 then
 some
 (Out.ret
 (vbool
 true),
 [])
 else
 some
 (Out.ret
 (vbool
 false),
 [])
 else
 bif
 JX.is
 j86.fst
 JX.ret then
 Option.bind
 (uncons?
 j86.snd.fst)
 fun
 p152 ↦
 Option.bind
 (AV.bool?
 p152.fst)
 fun
 b153 ↦
 Option.bind
 (uncons?
 p152.snd)
 fun
 p154 ↦
 Option.bind
 (AV.int?
 IntKind.i64
 p154.fst)
 fun
 _ ↦
 Option.bind
 (nil?
 p154.snd)
 fun
 _ ↦
 Option.bind
 (uncons?
 j86.snd.snd)
 fun
 p157 ↦
 Option.bind
 (obIs
 (Ob.mk
 OK.box
 36
 2
 0
 [[vbool
 b39,
 AV.list
 0
 2
 es41]])
 p157.fst)
 fun
 _ ↦
 Option.bind
 (chk
 p157.fst.ver
 0)
 fun
 _ ↦
 Option.bind
 (uncons?
 p157.fst.es)
 fun
 p160 ↦
 Option.bind
 (nil?
 p160.snd)
 fun
 _ ↦
 Option.bind
 (uncons?
 p160.fst)
 fun
 p162 ↦
 Option.bind
 (AV.bool?
 p162.fst)
 fun
 _ ↦
 Option.bind
 (uncons?
 p162.snd)
 fun
 p164 ↦
 Option.bind
 (AV.list?
 2
 p164.fst)
 fun
 _ ↦
 Option.bind
 (nil?
 p164.snd)
 fun
 _ ↦
 Option.bind
 (uncons?
 p157.snd)
 fun
 p167 ↦
 Option.bind
 (obIs
 (Ob.mk
 OK.box
 36
 2
 0
 [[vbool
 b49,
 AV.list
 0
 2
 es51]])
 p167.fst)
 fun
 _ ↦
 Option.bind
 (chk
 p167.fst.ver
 0)
 fun
 _ ↦
 Option.bind
 (uncons?
 p167.fst.es)
 fun
 p170 ↦
 Option.bind
 (nil?
 p170.snd)
 fun
 _ ↦
 Option.bind
 (uncons?
 p170.fst)
 fun
 p172 ↦
 Option.bind
 (AV.bool?
 p172.fst)
 fun
 _ ↦
 Option.bind
 (uncons?
 p172.snd)
 fun
 p174 ↦
 Option.bind
 (AV.list?
 2
 p174.fst)
 fun
 _ ↦
 Option.bind
 (nil?
 p174.snd)
 fun
 _ ↦
 Option.bind
 (uncons?
 p167.snd)
 fun
 p177 ↦
 Option.bind
 (obIs
 (Ob.mk
 OK.box
 36
 2
 0
 [[vbool
 b59,
 AV.list
 0
 2
 es61]])
 p177.fst)
 fun
 _ ↦
 Option.bind
 (chk
 p177.fst.ver
 0)
 fun
 _ ↦
 Option.bind
 (uncons?
 p177.fst.es)
 fun
 p180 ↦
 Option.bind
 (nil?
 p180.snd)
 fun
 _ ↦
 Option.bind
 (uncons?
 p180.fst)
 fun
 p182 ↦
 Option.bind
 (AV.bool?
 p182.fst)
 fun
 _ ↦
 Option.bind
 (uncons?
 p182.snd)
 fun
 p184 ↦
 Option.bind
 (AV.list?
 2
 p184.fst)
 fun
 _ ↦
 Option.bind
 (nil?
 p184.snd)
 fun
 _ ↦
 Option.bind
 (uncons?
 p177.snd)
 fun
 p187 ↦
 Option.bind
 (obIs
 (Ob.mk
 OK.box
 36
 2
 0
 [[vbool
 b69,
 AV.list
 0
 2
 es71]])
 p187.fst)
 fun
 _ ↦
 Option.bind
 (chk
 p187.fst.ver
 0)
 fun
 _ ↦
 Option.bind
 (uncons?
 p187.fst.es)
 fun
 p190 ↦
 Option.bind
 (nil?
 p190.snd)
 fun
 _ ↦
 Option.bind
 (uncons?
 p190.fst)
 fun
 p192 ↦
 Option.bind
 (AV.bool?
 p192.fst)
 fun
 _ ↦
 Option.bind
 (uncons?
 p192.snd)
 fun
 p194 ↦
 Option.bind
 (AV.list?
 2
 p194.fst)
 fun
 _ ↦
 Option.bind
 (nil?
 p194.snd)
 fun
 _ ↦
 Option.bind
 (nil?
 p187.snd)
 fun
 _ ↦
 some
 (Out.ret
 (vbool
 b153),
 [])
 else
 none
 else
 none
 else
 none
 else
 none
 else
 none
 else
 none
 else
 none
 else
 none
 else
 none
 else
 bif JX.is j27.fst JX.ret then
 Option.bind (uncons? j27.snd.fst) fun p198 ↦
 Option.bind (AV.bool? p198.fst) fun b199 ↦
 Option.bind (uncons? p198.snd) fun p200 ↦
 Option.bind (AV.int? IntKind.i64 p200.fst) fun _ ↦
 Option.bind (nil? p200.snd) fun _ ↦
 Option.bind (uncons? j27.snd.snd) fun p203 ↦
 Option.bind
 (obIs
 (Ob.mk OK.box 36 2 0
 [[vbool t0, AV.list 0 2 t1]])
 p203.fst)
 fun _ ↦
 Option.bind (chk p203.fst.ver 0) fun _ ↦
 Option.bind (uncons? p203.fst.es) fun p206 ↦
 Option.bind (nil? p206.snd) fun _ ↦
 Option.bind (uncons? p206.fst) fun p208 ↦
 Option.bind (AV.bool? p208.fst) fun _ ↦
 Option.bind (uncons? p208.snd) fun p210 ↦
 Option.bind (AV.list? 2 p210.fst) fun _ ↦
 Option.bind (nil? p210.snd) fun _ ↦
 Option.bind (uncons? p203.snd) fun p213 ↦
 Option.bind
 (obIs
 (Ob.mk OK.box 36 2 0
 [[vbool t0,
 AV.list 0 2
 (List.drop 0
 (List.take
 (Int.toNat
 (if 40 < ((List.length t1) : Int) then 40 else ((List.length t1) : Int)))
 t1))]])
 p213.fst)
 fun _ ↦
 Option.bind (chk p213.fst.ver 0) fun _ ↦
 Option.bind (uncons? p213.fst.es) fun p216 ↦
 Option.bind (nil? p216.snd) fun _ ↦
 Option.bind (uncons? p216.fst) fun p218 ↦
 Option.bind (AV.bool? p218.fst) fun _ ↦
 Option.bind (uncons? p218.snd) fun p220 ↦
 Option.bind (AV.list? 2 p220.fst) fun _ ↦
 Option.bind (nil? p220.snd) fun _ ↦
 Option.bind (uncons? p213.snd) fun p223 ↦
 Option.bind
 (obIs
 (Ob.mk OK.box 36 2 0
 [[vbool b14,
 AV.list 0 2 es16]])
 p223.fst)
 fun _ ↦
 Option.bind (chk p223.fst.ver 0) fun _ ↦
 Option.bind (uncons? p223.fst.es)
 fun p226 ↦
 Option.bind (nil? p226.snd) fun _ ↦
 Option.bind (uncons? p226.fst)
 fun p228 ↦
 Option.bind (AV.bool? p228.fst)
 fun _ ↦
 Option.bind (uncons? p228.snd)
 fun p230 ↦
 Option.bind (AV.list? 2 p230.fst)
 fun _ ↦
 Option.bind (nil? p230.snd)
 fun _ ↦
 Option.bind
 (uncons? p223.snd)
 fun p233 ↦
 Option.bind
 (obIs
 (Ob.mk
 OK.box 36 2 0
 [[vbool b22,
 AV.list 0 2
 es24]])
 p233.fst)
 fun _ ↦
 Option.bind
 (chk p233.fst.ver 0)
 fun _ ↦
 Option.bind
 (uncons? p233.fst.es)
 fun p236 ↦
 Option.bind
 (nil? p236.snd)
 fun _ ↦
 Option.bind
 (uncons?
 p236.fst)
 fun p238 ↦
 Option.bind
 (AV.bool?
 p238.fst)
 fun _ ↦
 Option.bind
 (uncons?
 p238.snd)
 fun p240 ↦
 Option.bind
 (AV.list? 2
 p240.fst)
 fun _ ↦
 Option.bind
 (nil?
 p240.snd)
 fun _ ↦
 Option.bind
 (nil?
 p233.snd)
 fun _ ↦
 some
 (Out.ret
 (vbool
 b199),
 [])
 else none
 else none
 else none := by
  intros
  exact (E_ov f36_true [188] _ _ _).trans (by kernel_rfl)


noncomputable def q6_l0_0 : Int →
 Bool →
 List (List AV) →
 Bool →
 List (List AV) → Bool → List (List AV) → Bool → List (List AV) → Option (Out × Heap) :=
 fun x245 b254 l255 b256 l257 b258 l259 b260 l261 ↦
 some
 (Out.jump JX.ret [vbool false, vi x245],
 [Ob.mk OK.box 36 2 0 [[vbool b254, AV.list 0 2 l255]],
 Ob.mk OK.box 36 2 0 [[vbool b256, AV.list 0 2 l257]],
 Ob.mk OK.box 36 2 0 [[vbool b258, AV.list 0 2 l259]],
 Ob.mk OK.box 36 2 0 [[vbool b260, AV.list 0 2 l261]]])


noncomputable def q6_l0_1 : ByteArray →
 ByteArray →
 Int →
 Bool →
 List (List AV) →
 Bool →
 List (List AV) →
 Bool →
 List (List AV) →
 Bool →
 List (List AV) →
 Int →
 Int →
 Bool →
 ByteArray →
 Int →
 Int →
 Int →
 Int →
 Bool →
 List (List AV) → Int → Bool → List (List AV) → Option (Out × Heap) :=
 fun s272 s280 x245 b254 l255 b256 l257 b258 l259 b260 l261 n274 n282 b244 s246 x247 x248 x249 x250 b251 l252 x253 b264 es266 ↦
 bif !List.beq (ByteArray.toList s272) (ByteArray.toList s280) then q6_l0_0 x245 b254 l255 b256 l257 b258 l259 b260 l261
 else
 bif n274 != n282 then q6_l0_0 x245 b254 l255 b256 l257 b258 l259 b260 l261
 else
 Option.bind
 (E cx
 (Key.loop 6
 [true, true, true, true, true, true, false, true, false, false, true, true, false, false, true, true, true, true, false, true, false])
 [vbool b244, vi 0, vs s246, vi x247, vb x248, vu x249,
 vu x250, vbool b251, AV.ptr 1 0 0 0, AV.ptr 2 0 0 0, AV.ptr 3 0 0 0,
 AV.ptr 4 0 0 0, AV.list 0 2 l252, vi x253, vi x245,
 AV.list 0 1 [[vu x250], [vu (Int.tmod x250 3)]], vi 2]
 [Ob.mk OK.box 36 2 0 [[vbool b254, AV.list 0 2 l255]],
 Ob.mk OK.box 36 2 0 [[vbool b256, AV.list 0 2 l257]],
 Ob.mk OK.box 36 2 0 [[vbool b258, AV.list 0 2 l259]],
 Ob.mk OK.box 36 2 0 [[vbool b260, AV.list 0 2 l261]],
 Ob.mk OK.box 36 2 0 [[vbool b264, AV.list 0 2 es266]]])
 fun r290 ↦
 Option.bind (asJump r290) fun j291 ↦
 bif JX.is j291.fst (JX.exit 2) then
 Option.bind (uncons? j291.snd.fst) fun p292 ↦
 Option.bind (AV.bool? p292.fst) fun b293 ↦
 Option.bind (uncons? p292.snd) fun p294 ↦
 Option.bind (AV.int? IntKind.i64 p294.fst) fun _ ↦
 Option.bind (nil? p294.snd) fun _ ↦
 Option.bind (uncons? j291.snd.snd) fun p297 ↦
 Option.bind
 (obIs (Ob.mk OK.box 36 2 0 [[vbool b254, AV.list 0 2 l255]])
 p297.fst)
 fun _ ↦
 Option.bind (chk p297.fst.ver 0) fun _ ↦
 Option.bind (uncons? p297.fst.es) fun p300 ↦
 Option.bind (nil? p300.snd) fun _ ↦
 Option.bind (uncons? p300.fst) fun p302 ↦
 Option.bind (AV.bool? p302.fst) fun b303 ↦
 Option.bind (uncons? p302.snd) fun p304 ↦
 Option.bind (AV.list? 2 p304.fst) fun es305 ↦
 Option.bind (nil? p304.snd) fun _ ↦
 Option.bind (uncons? p297.snd) fun p307 ↦
 Option.bind
 (obIs
 (Ob.mk OK.box 36 2 0 [[vbool b256, AV.list 0 2 l257]])
 p307.fst)
 fun _ ↦
 Option.bind (chk p307.fst.ver 0) fun _ ↦
 Option.bind (uncons? p307.fst.es) fun p310 ↦
 Option.bind (nil? p310.snd) fun _ ↦
 Option.bind (uncons? p310.fst) fun p312 ↦
 Option.bind (AV.bool? p312.fst) fun b313 ↦
 Option.bind (uncons? p312.snd) fun p314 ↦
 Option.bind (AV.list? 2 p314.fst) fun es315 ↦
 Option.bind (nil? p314.snd) fun _ ↦
 Option.bind (uncons? p307.snd) fun p317 ↦
 Option.bind
 (obIs
 (Ob.mk OK.box 36 2 0
 [[vbool b258, AV.list 0 2 l259]])
 p317.fst)
 fun _ ↦
 Option.bind (chk p317.fst.ver 0) fun _ ↦
 Option.bind (uncons? p317.fst.es) fun p320 ↦
 Option.bind (nil? p320.snd) fun _ ↦
 Option.bind (uncons? p320.fst) fun p322 ↦
 Option.bind (AV.bool? p322.fst) fun b323 ↦
 Option.bind (uncons? p322.snd) fun p324 ↦
 Option.bind (AV.list? 2 p324.fst) fun es325 ↦
 Option.bind (nil? p324.snd) fun _ ↦
 Option.bind (uncons? p317.snd) fun p327 ↦
 Option.bind
 (obIs
 (Ob.mk OK.box 36 2 0
 [[vbool b260, AV.list 0 2 l261]])
 p327.fst)
 fun _ ↦
 Option.bind (chk p327.fst.ver 0) fun _ ↦
 Option.bind (uncons? p327.fst.es) fun p330 ↦
 Option.bind (nil? p330.snd) fun _ ↦
 Option.bind (uncons? p330.fst) fun p332 ↦
 Option.bind (AV.bool? p332.fst) fun b333 ↦
 Option.bind (uncons? p332.snd) fun p334 ↦
 Option.bind (AV.list? 2 p334.fst) fun es335 ↦
 Option.bind (nil? p334.snd) fun _ ↦
 Option.bind (uncons? p327.snd) fun p337 ↦
 Option.bind
 (obIs
 (Ob.mk OK.box 36 2 0
 [[vbool b264,
 AV.list 0 2 es266]])
 p337.fst)
 fun _ ↦
 Option.bind (chk p337.fst.ver 0)
 fun _ ↦
 Option.bind (uncons? p337.fst.es)
 fun p340 ↦
 Option.bind (nil? p340.snd)
 fun _ ↦
 Option.bind (uncons? p340.fst)
 fun p342 ↦
 Option.bind (AV.bool? p342.fst)
 fun b343 ↦
 Option.bind (uncons? p342.snd)
 fun p344 ↦
 Option.bind
 (AV.list? 2 p344.fst)
 fun es345 ↦
 Option.bind (nil? p344.snd)
 fun _ ↦
 Option.bind
 (nil? p337.snd)
 fun _ ↦
 Option.bind
 (E cx
 (Key.fn 45)
 [AV.list 0 2
 [[vbool b343,
 AV.list 0 2
 es345],
 [vbool b323,
 AV.list 0 2
 es325],
 [vbool b333,
 AV.list 0 2
 es335],
 [vbool b313,
 AV.list 0 2
 es315]]]
 [])
 fun r348 ↦
 Option.bind
 (ret1 r348)
 fun v349 ↦
 Option.bind
 (AV.tup? v349)
 fun vs350 ↦
 Option.bind
 (uncons? vs350)
 fun p351 ↦
 Option.bind
 (AV.cells?
 p351.fst)
 fun cs352 ↦
 Option.bind
 (uncons?
 cs352)
 fun p353 ↦
 Option.bind
 (AV.bool?
 p353.fst)
 fun b354 ↦
 Option.bind
 (uncons?
 p353.snd)
 fun p355 ↦
 Option.bind
 (AV.list?
 2 p355.fst)
 fun es356 ↦
 Option.bind
 (nil?
 p355.snd)
 fun _ ↦
 Option.bind
 (uncons?
 p351.snd)
 fun p358 ↦
 Option.bind
 (AV.int?
 IntKind.i64
 p358.fst)
 fun n359 ↦
 Option.bind
 (nil?
 p358.snd)
 fun _ ↦
 Option.bind
 (E
 cx
 (Key.fn
 46)
 [AV.list
 0
 2
 [[vbool
 b343,
 AV.list
 0
 2
 es345],
 [vbool
 b323,
 AV.list
 0
 2
 es325],
 [vbool
 b333,
 AV.list
 0
 2
 es335],
 [vbool
 b313,
 AV.list
 0
 2
 es315]]]
 [])
 fun
 r361 ↦
 Option.bind
 (ret1
 r361)
 fun
 v362 ↦
 Option.bind
 (AV.tup?
 v362)
 fun
 vs363 ↦
 Option.bind
 (uncons?
 vs363)
 fun
 p364 ↦
 Option.bind
 (AV.cells?
 p364.fst)
 fun
 cs365 ↦
 Option.bind
 (uncons?
 cs365)
 fun
 p366 ↦
 Option.bind
 (AV.bool?
 p366.fst)
 fun
 b367 ↦
 Option.bind
 (uncons?
 p366.snd)
 fun
 p368 ↦
 Option.bind
 (AV.list?
 2
 p368.fst)
 fun
 es369 ↦
 Option.bind
 (nil?
 p368.snd)
 fun
 _ ↦
 Option.bind
 (uncons?
 p364.snd)
 fun
 p371 ↦
 Option.bind
 (AV.int?
 IntKind.i64
 p371.fst)
 fun
 n372 ↦
 Option.bind
 (nil?
 p371.snd)
 fun
 _ ↦
 bif
 n359 !=
 n372 then
 q6_l0_0
 x245
 b303
 es305
 b313
 es315
 b323
 es325
 b333
 es335
 else
 Option.bind
 (E
 cx
 (Key.fn
 47)
 [AV.agg
 [vbool
 b354,
 AV.list
 0
 2
 es356],
 AV.agg
 [vbool
 b367,
 AV.list
 0
 2
 es369]]
 [])
 fun
 r374 ↦
 Option.bind
 (ret1
 r374)
 fun
 v375 ↦
 Option.bind
 (AV.bool?
 v375)
 fun
 b376 ↦
 bif
 b376 then
 E
 cx
 (Key.loop
 6
 [true,
 true,
 true,
 true,
 true,
 true,
 false,
 true,
 false])
 [vbool
 b293,
 vi
 (IntKind.wrap
 IntKind.i64
 (Int.add
 x245
 1)),
 vs
 s246,
 vi
 x247,
 vb
 x248,
 vu
 x249,
 vu
 x250,
 vbool
 b251,
 AV.ptr
 1
 0
 0
 0,
 AV.ptr
 2
 0
 0
 0,
 AV.ptr
 3
 0
 0
 0,
 AV.list
 0
 2
 l252,
 vi
 x253]
 [Ob.mk
 OK.box
 36
 2
 0
 [[vbool
 b303,
 AV.list
 0
 2
 es305]],
 Ob.mk
 OK.box
 36
 2
 0
 [[vbool
 b313,
 AV.list
 0
 2
 es315]],
 Ob.mk
 OK.box
 36
 2
 0
 [[vbool
 b323,
 AV.list
 0
 2
 es325]],
 Ob.mk
 OK.box
 36
 2
 0
 [[vbool
 b333,
 AV.list
 0
 2
 es335]]]
 else
 q6_l0_0
 x245
 b303
 es305
 b313
 es315
 b323
 es325
 b333
 es335
 else
 bif JX.is j291.fst JX.ret then
 Option.bind (uncons? j291.snd.fst) fun p377 ↦
 Option.bind (AV.bool? p377.fst) fun b378 ↦
 Option.bind (uncons? p377.snd) fun p379 ↦
 Option.bind (AV.int? IntKind.i64 p379.fst) fun _ ↦
 Option.bind (nil? p379.snd) fun _ ↦
 Option.bind (uncons? j291.snd.snd) fun p382 ↦
 Option.bind
 (obIs (Ob.mk OK.box 36 2 0 [[vbool b254, AV.list 0 2 l255]])
 p382.fst)
 fun _ ↦
 Option.bind (chk p382.fst.ver 0) fun _ ↦
 Option.bind (uncons? p382.fst.es) fun p385 ↦
 Option.bind (nil? p385.snd) fun _ ↦
 Option.bind (uncons? p385.fst) fun p387 ↦
 Option.bind (AV.bool? p387.fst) fun b388 ↦
 Option.bind (uncons? p387.snd) fun p389 ↦
 Option.bind (AV.list? 2 p389.fst) fun es390 ↦
 Option.bind (nil? p389.snd) fun _ ↦
 Option.bind (uncons? p382.snd) fun p392 ↦
 Option.bind
 (obIs
 (Ob.mk OK.box 36 2 0 [[vbool b256, AV.list 0 2 l257]])
 p392.fst)
 fun _ ↦
 Option.bind (chk p392.fst.ver 0) fun _ ↦
 Option.bind (uncons? p392.fst.es) fun p395 ↦
 Option.bind (nil? p395.snd) fun _ ↦
 Option.bind (uncons? p395.fst) fun p397 ↦
 Option.bind (AV.bool? p397.fst) fun b398 ↦
 Option.bind (uncons? p397.snd) fun p399 ↦
 Option.bind (AV.list? 2 p399.fst) fun es400 ↦
 Option.bind (nil? p399.snd) fun _ ↦
 Option.bind (uncons? p392.snd) fun p402 ↦
 Option.bind
 (obIs
 (Ob.mk OK.box 36 2 0
 [[vbool b258, AV.list 0 2 l259]])
 p402.fst)
 fun _ ↦
 Option.bind (chk p402.fst.ver 0) fun _ ↦
 Option.bind (uncons? p402.fst.es) fun p405 ↦
 Option.bind (nil? p405.snd) fun _ ↦
 Option.bind (uncons? p405.fst) fun p407 ↦
 Option.bind (AV.bool? p407.fst) fun b408 ↦
 Option.bind (uncons? p407.snd) fun p409 ↦
 Option.bind (AV.list? 2 p409.fst) fun es410 ↦
 Option.bind (nil? p409.snd) fun _ ↦
 Option.bind (uncons? p402.snd) fun p412 ↦
 Option.bind
 (obIs
 (Ob.mk OK.box 36 2 0
 [[vbool b260, AV.list 0 2 l261]])
 p412.fst)
 fun _ ↦
 Option.bind (chk p412.fst.ver 0) fun _ ↦
 Option.bind (uncons? p412.fst.es) fun p415 ↦
 Option.bind (nil? p415.snd) fun _ ↦
 Option.bind (uncons? p415.fst) fun p417 ↦
 Option.bind (AV.bool? p417.fst) fun b418 ↦
 Option.bind (uncons? p417.snd) fun p419 ↦
 Option.bind (AV.list? 2 p419.fst) fun es420 ↦
 Option.bind (nil? p419.snd) fun _ ↦
 Option.bind (uncons? p412.snd) fun p422 ↦
 Option.bind
 (obIs
 (Ob.mk OK.box 36 2 0
 [[vbool b264,
 AV.list 0 2 es266]])
 p422.fst)
 fun _ ↦
 Option.bind (chk p422.fst.ver 0)
 fun _ ↦
 Option.bind (uncons? p422.fst.es)
 fun p425 ↦
 Option.bind (nil? p425.snd)
 fun _ ↦
 Option.bind (uncons? p425.fst)
 fun p427 ↦
 Option.bind (AV.bool? p427.fst)
 fun _ ↦
 Option.bind
 (uncons? p427.snd)
 fun p429 ↦
 Option.bind
 (AV.list? 2 p429.fst)
 fun _ ↦
 Option.bind
 (nil? p429.snd)
 fun _ ↦
 Option.bind
 (nil? p422.snd)
 fun _ ↦
 some
 (Out.jump
 JX.ret
 [vbool b378,
 vi x245],
 [Ob.mk
 OK.box 36 2 0
 [[vbool b388,
 AV.list 0
 2 es390]],
 Ob.mk
 OK.box 36 2 0
 [[vbool b398,
 AV.list 0
 2 es400]],
 Ob.mk
 OK.box 36 2 0
 [[vbool b408,
 AV.list 0
 2 es410]],
 Ob.mk
 OK.box 36 2 0
 [[vbool b418,
 AV.list 0
 2 es420]]])
 else none


theorem f6_l0 : ∀ (b244 : Bool) (x245 : Int) (s246 : ByteArray) (x247 x248 x249 x250 : Int) (b251 : Bool) (l252 : List (List AV)) (x253 : Int) (b254 : Bool)
 (l255 : List (List AV)) (b256 : Bool) (l257 : List (List AV)) (b258 : Bool) (l259 : List (List AV)) (b260 : Bool)
 (l261 : List (List AV)),
 E cx (Key.loop 6 [true, true, true, true, true, true, false, true, false])
 [vbool b244, vi x245, vs s246, vi x247, vb x248, vu x249,
 vu x250, vbool b251, AV.ptr 1 0 0 0, AV.ptr 2 0 0 0, AV.ptr 3 0 0 0,
 AV.list 0 2 l252, vi x253]
 [Ob.mk OK.box 36 2 0 [[vbool b254, AV.list 0 2 l255]],
 Ob.mk OK.box 36 2 0 [[vbool b256, AV.list 0 2 l257]],
 Ob.mk OK.box 36 2 0 [[vbool b258, AV.list 0 2 l259]],
 Ob.mk OK.box 36 2 0 [[vbool b260, AV.list 0 2 l261]]] =
 bif decide (x245 < x253) then
 if 0 ≤ x245 then
 Option.bind l252[Int.toNat x245]? fun cs262 ↦
 Option.bind (uncons? cs262) fun p263 ↦
 Option.bind (AV.bool? p263.fst) fun b264 ↦
 Option.bind (uncons? p263.snd) fun p265 ↦
 Option.bind (AV.list? 2 p265.fst) fun es266 ↦
 Option.bind (nil? p265.snd) fun _ ↦
 Option.bind
 (E cx (Key.fn 38) [AV.agg [vbool b264, AV.list 0 2 es266]]
 [])
 fun r268 ↦
 Option.bind (ret1 r268) fun v269 ↦
 Option.bind (AV.tup? v269) fun vs270 ↦
 Option.bind (uncons? vs270) fun p271 ↦
 Option.bind (AV.str? p271.fst) fun s272 ↦
 Option.bind (uncons? p271.snd) fun p273 ↦
 Option.bind (AV.int? IntKind.i64 p273.fst) fun n274 ↦
 Option.bind (nil? p273.snd) fun _ ↦
 Option.bind
 (E cx (Key.fn 39)
 [AV.agg [vbool b264, AV.list 0 2 es266]] [])
 fun r276 ↦
 Option.bind (ret1 r276) fun v277 ↦
 Option.bind (AV.tup? v277) fun vs278 ↦
 Option.bind (uncons? vs278) fun p279 ↦
 Option.bind (AV.str? p279.fst) fun s280 ↦
 Option.bind (uncons? p279.snd) fun p281 ↦
 Option.bind (AV.int? IntKind.i64 p281.fst) fun n282 ↦
 Option.bind (nil? p281.snd) fun _ ↦
 Option.bind
 (E cx (Key.fn 40)
 [AV.agg [vbool b264, AV.list 0 2 es266]] [])
 fun r284 ↦
 Option.bind (ret1 r284) fun v285 ↦
 Option.bind (AV.bool? v285) fun b286 ↦
 bif b286 then
 Option.bind
 (E cx (Key.fn 41)
 [AV.agg [vbool b264, AV.list 0 2 es266]] [])
 fun r287 ↦
 Option.bind (ret1 r287) fun v288 ↦
 Option.bind (AV.bool? v288) fun b289 ↦
 bif b289 then
 q6_l0_1 s272 s280 x245 b254 l255 b256 l257 b258 l259 b260 l261 n274 n282 b244
 s246 x247 x248 x249 x250 b251 l252 x253 b264 es266
 else q6_l0_0 x245 b254 l255 b256 l257 b258 l259 b260 l261
 else
 Option.bind
 (E cx (Key.fn 41)
 [AV.agg [vbool b264, AV.list 0 2 es266]] [])
 fun r433 ↦
 Option.bind (ret1 r433) fun v434 ↦
 Option.bind (AV.bool? v434) fun b435 ↦
 bif b435 then q6_l0_0 x245 b254 l255 b256 l257 b258 l259 b260 l261
 else
 q6_l0_1 s272 s280 x245 b254 l255 b256 l257 b258 l259 b260 l261 n274 n282 b244
 s246 x247 x248 x249 x250 b251 l252 x253 b264 es266
 else none
 else
 some
 (Out.jump (JX.exit 0) [vbool b244, vi x245],
 [Ob.mk OK.box 36 2 0 [[vbool b254, AV.list 0 2 l255]],
 Ob.mk OK.box 36 2 0 [[vbool b256, AV.list 0 2 l257]],
 Ob.mk OK.box 36 2 0 [[vbool b258, AV.list 0 2 l259]],
 Ob.mk OK.box 36 2 0 [[vbool b260, AV.list 0 2 l261]]]) := by
  intros
  exact (E_ov f36_true [188] _ _ _).trans (by kernel_rfl)


noncomputable def q6_l0_l1_0 : AV × List AV →
 List (List AV) →
 List (List AV) →
 Bool →
 Int →
 ByteArray →
 Int →
 Int →
 Int →
 Int →
 Bool →
 List (List AV) →
 Int →
 Int →
 List (List AV) →
 Int →
 Bool →
 List (List AV) →
 Bool →
 List (List AV) →
 Bool →
 List (List AV) →
 Bool →
 List (List AV) → Bool → List (List AV) → Option (Out × Heap) :=
 fun p619 es610 es618 b579 x580 s581 x582 x583 x584 x585 b586 l587 x588 x589 l590 x591 b592 l593 b594 l595 b596 l597 b598 l599 b600 l601 ↦
 Option.bind (nil? p619.snd) fun _ ↦
 Option.bind (E cx (Key.fn 44) [AV.list 0 1 es610, AV.list 0 1 es618] []) fun r622 ↦
 Option.bind (ret1 r622) fun v623 ↦
 Option.bind (AV.bool? v623) fun b624 ↦
 bif b624 then
 E cx
 (Key.loop 6
 [true, true, true, true, true, true, false, true, false, false, true, true, false, false, true, true, true, true, false, true, false])
 [vbool b579, vi (IntKind.wrap IntKind.i64 (Int.add x580 1)), vs s581, vi x582,
 vb x583, vu x584, vu x585, vbool b586, AV.ptr 1 0 0 0,
 AV.ptr 2 0 0 0, AV.ptr 3 0 0 0, AV.ptr 4 0 0 0, AV.list 0 2 l587, vi x588,
 vi x589, AV.list 0 1 l590, vi x591]
 [Ob.mk OK.box 36 2 0 [[vbool b592, AV.list 0 2 l593]],
 Ob.mk OK.box 36 2 0 [[vbool b594, AV.list 0 2 l595]],
 Ob.mk OK.box 36 2 0 [[vbool b596, AV.list 0 2 l597]],
 Ob.mk OK.box 36 2 0 [[vbool b598, AV.list 0 2 l599]],
 Ob.mk OK.box 36 2 0 [[vbool b600, AV.list 0 2 l601]]]
 else
 some
 (Out.jump JX.ret [vbool false, vi x580],
 [Ob.mk OK.box 36 2 0 [[vbool b592, AV.list 0 2 l593]],
 Ob.mk OK.box 36 2 0 [[vbool b594, AV.list 0 2 l595]],
 Ob.mk OK.box 36 2 0 [[vbool b596, AV.list 0 2 l597]],
 Ob.mk OK.box 36 2 0 [[vbool b598, AV.list 0 2 l599]],
 Ob.mk OK.box 36 2 0 [[vbool b600, AV.list 0 2 l601]]])


noncomputable def q6_l0_l1_1 : AV × List AV →
 Int →
 Bool →
 List (List AV) →
 Bool →
 List (List AV) →
 Bool →
 List (List AV) →
 Bool → List (List AV) → Bool → List (List AV) → Option (Out × Heap) :=
 fun p619 x580 b592 l593 b594 l595 b596 l597 b598 l599 b600 l601 ↦
 Option.bind (nil? p619.snd) fun _ ↦
 some
 (Out.jump JX.ret [vbool false, vi x580],
 [Ob.mk OK.box 36 2 0 [[vbool b592, AV.list 0 2 l593]],
 Ob.mk OK.box 36 2 0 [[vbool b594, AV.list 0 2 l595]],
 Ob.mk OK.box 36 2 0 [[vbool b596, AV.list 0 2 l597]],
 Ob.mk OK.box 36 2 0 [[vbool b598, AV.list 0 2 l599]],
 Ob.mk OK.box 36 2 0 [[vbool b600, AV.list 0 2 l601]]])


theorem f6_l0_l1 : ∀ (b579 : Bool) (x580 : Int) (s581 : ByteArray) (x582 x583 x584 x585 : Int) (b586 : Bool) (l587 : List (List AV)) (x588 x589 : Int)
 (l590 : List (List AV)) (x591 : Int) (b592 : Bool) (l593 : List (List AV)) (b594 : Bool) (l595 : List (List AV))
 (b596 : Bool) (l597 : List (List AV)) (b598 : Bool) (l599 : List (List AV)) (b600 : Bool) (l601 : List (List AV)),
 E cx
 (Key.loop 6
 [true, true, true, true, true, true, false, true, false, false, true, true, false, false, true, true, true, true, false, true, false])
 [vbool b579, vi x580, vs s581, vi x582, vb x583, vu x584,
 vu x585, vbool b586, AV.ptr 1 0 0 0, AV.ptr 2 0 0 0, AV.ptr 3 0 0 0,
 AV.ptr 4 0 0 0, AV.list 0 2 l587, vi x588, vi x589, AV.list 0 1 l590,
 vi x591]
 [Ob.mk OK.box 36 2 0 [[vbool b592, AV.list 0 2 l593]],
 Ob.mk OK.box 36 2 0 [[vbool b594, AV.list 0 2 l595]],
 Ob.mk OK.box 36 2 0 [[vbool b596, AV.list 0 2 l597]],
 Ob.mk OK.box 36 2 0 [[vbool b598, AV.list 0 2 l599]],
 Ob.mk OK.box 36 2 0 [[vbool b600, AV.list 0 2 l601]]] =
 bif decide (x580 < x591) then
 if 0 ≤ x580 then
 Option.bind l590[Int.toNat x580]? fun cs602 ↦
 Option.bind (uncons? cs602) fun p603 ↦
 Option.bind (AV.int? IntKind.u64 p603.fst) fun n604 ↦
 Option.bind (nil? p603.snd) fun _ ↦
 Option.bind
 (E cx (Key.fn 42)
 [AV.agg [vbool b600, AV.list 0 2 l601], vu n604] [])
 fun r606 ↦
 Option.bind (ret1 r606) fun v607 ↦
 Option.bind (AV.tup? v607) fun vs608 ↦
 Option.bind (uncons? vs608) fun p609 ↦
 Option.bind (AV.list? 1 p609.fst) fun es610 ↦
 Option.bind (uncons? p609.snd) fun p611 ↦
 Option.bind (AV.bool? p611.fst) fun b612 ↦
 bif b612 then
 Option.bind (nil? p611.snd) fun _ ↦
 Option.bind
 (E cx (Key.fn 43)
 [AV.agg [vbool b600, AV.list 0 2 l601], vu n604] [])
 fun r614 ↦
 Option.bind (ret1 r614) fun v615 ↦
 Option.bind (AV.tup? v615) fun vs616 ↦
 Option.bind (uncons? vs616) fun p617 ↦
 Option.bind (AV.list? 1 p617.fst) fun es618 ↦
 Option.bind (uncons? p617.snd) fun p619 ↦
 Option.bind (AV.bool? p619.fst) fun b620 ↦
 bif b620 then
 q6_l0_l1_0 p619 es610 es618 b579 x580 s581 x582 x583 x584 x585 b586 l587 x588 x589 l590 x591 b592
 l593 b594 l595 b596 l597 b598 l599 b600 l601
 else q6_l0_l1_1 p619 x580 b592 l593 b594 l595 b596 l597 b598 l599 b600 l601
 else
 Option.bind (nil? p611.snd) fun _ ↦
 Option.bind
 (E cx (Key.fn 43)
 [AV.agg [vbool b600, AV.list 0 2 l601], vu n604] [])
 fun r627 ↦
 Option.bind (ret1 r627) fun v628 ↦
 Option.bind (AV.tup? v628) fun vs629 ↦
 Option.bind (uncons? vs629) fun p630 ↦
 Option.bind (AV.list? 1 p630.fst) fun es631 ↦
 Option.bind (uncons? p630.snd) fun p632 ↦
 Option.bind (AV.bool? p632.fst) fun b633 ↦
 bif b633 then q6_l0_l1_1 p632 x580 b592 l593 b594 l595 b596 l597 b598 l599 b600 l601
 else
 q6_l0_l1_0 p632 es610 es631 b579 x580 s581 x582 x583 x584 x585 b586 l587 x588 x589 l590 x591 b592
 l593 b594 l595 b596 l597 b598 l599 b600 l601
 else none
 else
 some
 (Out.jump (JX.exit 2) [vbool b579, vi x580],
 [Ob.mk OK.box 36 2 0 [[vbool b592, AV.list 0 2 l593]],
 Ob.mk OK.box 36 2 0 [[vbool b594, AV.list 0 2 l595]],
 Ob.mk OK.box 36 2 0 [[vbool b596, AV.list 0 2 l597]],
 Ob.mk OK.box 36 2 0 [[vbool b598, AV.list 0 2 l599]],
 Ob.mk OK.box 36 2 0 [[vbool b600, AV.list 0 2 l601]]]) := by
  intros
  exact (E_ov f36_true [188] _ _ _).trans (by kernel_rfl)


noncomputable def q6_l2_0 : Int →
 Bool →
 List (List AV) →
 Bool →
 List (List AV) → Bool → List (List AV) → Bool → List (List AV) → Option (Out × Heap) :=
 fun x640 b646 l647 b648 l649 b650 l651 b652 l653 ↦
 some
 (Out.jump JX.ret [vbool false, vi x640],
 [Ob.mk OK.box 36 2 0 [[vbool b646, AV.list 0 2 l647]],
 Ob.mk OK.box 36 2 0 [[vbool b648, AV.list 0 2 l649]],
 Ob.mk OK.box 36 2 0 [[vbool b650, AV.list 0 2 l651]],
 Ob.mk OK.box 36 2 0 [[vbool b652, AV.list 0 2 l653]]])


theorem f6_l2 : ∀ (b639 : Bool) (x640 x641 x642 : Int) (b643 : Bool) (l644 : List (List AV)) (x645 : Int) (b646 : Bool) (l647 : List (List AV))
 (b648 : Bool) (l649 : List (List AV)) (b650 : Bool) (l651 : List (List AV)) (b652 : Bool) (l653 : List (List AV)),
 E cx (Key.loop 6 [true, true, true, true, true, true, true, true, true, false, true, false])
 [vbool b639, vi x640, vu x641, vu x642, vbool b643, AV.list 0 1 l644,
 vi x645]
 [Ob.mk OK.box 36 2 0 [[vbool b646, AV.list 0 2 l647]],
 Ob.mk OK.box 36 2 0 [[vbool b648, AV.list 0 2 l649]],
 Ob.mk OK.box 36 2 0 [[vbool b650, AV.list 0 2 l651]],
 Ob.mk OK.box 36 2 0 [[vbool b652, AV.list 0 2 l653]]] =
 bif decide (x640 < x645) then
 if 0 ≤ x640 then
 Option.bind l644[Int.toNat x640]? fun cs654 ↦
 Option.bind (uncons? cs654) fun p655 ↦
 Option.bind (AV.str? p655.fst) fun s656 ↦
 Option.bind (nil? p655.snd) fun _ ↦
 Option.bind (E cx (Key.fn 49) [vs s656] []) fun r658 ↦
 Option.bind (ret1 r658) fun v659 ↦
 Option.bind (AV.tup? v659) fun vs660 ↦
 Option.bind (uncons? vs660) fun p661 ↦
 Option.bind (AV.cells? p661.fst) fun cs662 ↦
 Option.bind (uncons? cs662) fun p663 ↦
 Option.bind (AV.bool? p663.fst) fun b664 ↦
 Option.bind (uncons? p663.snd) fun p665 ↦
 Option.bind (AV.list? 2 p665.fst) fun es666 ↦
 Option.bind (nil? p665.snd) fun _ ↦
 Option.bind (uncons? p661.snd) fun p668 ↦
 Option.bind (AV.int? IntKind.i64 p668.fst) fun n669 ↦
 Option.bind (nil? p668.snd) fun _ ↦
 Option.bind (E cx (Key.fn 50) [vs s656] []) fun r671 ↦
 Option.bind (ret1 r671) fun v672 ↦
 Option.bind (AV.tup? v672) fun vs673 ↦
 Option.bind (uncons? vs673) fun p674 ↦
 Option.bind (AV.cells? p674.fst) fun cs675 ↦
 Option.bind (uncons? cs675) fun p676 ↦
 Option.bind (AV.bool? p676.fst) fun b677 ↦
 Option.bind (uncons? p676.snd) fun p678 ↦
 Option.bind (AV.list? 2 p678.fst) fun es679 ↦
 Option.bind (nil? p678.snd) fun _ ↦
 Option.bind (uncons? p674.snd) fun p681 ↦
 Option.bind (AV.int? IntKind.i64 p681.fst) fun n682 ↦
 Option.bind (nil? p681.snd) fun _ ↦
 bif n669 != n682 then q6_l2_0 x640 b646 l647 b648 l649 b650 l651 b652 l653
 else
 Option.bind
 (E cx (Key.fn 47)
 [AV.agg [vbool b664, AV.list 0 2 es666],
 AV.agg [vbool b677, AV.list 0 2 es679]]
 [])
 fun r684 ↦
 Option.bind (ret1 r684) fun v685 ↦
 Option.bind (AV.bool? v685) fun b686 ↦
 bif b686 then
 E cx
 (Key.loop 6
 [true, true, true, true, true, true, true, true, true, false, true, false])
 [vbool b639,
 vi (IntKind.wrap IntKind.i64 (Int.add x640 1)),
 vu x641, vu x642, vbool b643,
 AV.list 0 1 l644, vi x645]
 [Ob.mk OK.box 36 2 0
 [[vbool b646, AV.list 0 2 l647]],
 Ob.mk OK.box 36 2 0
 [[vbool b648, AV.list 0 2 l649]],
 Ob.mk OK.box 36 2 0
 [[vbool b650, AV.list 0 2 l651]],
 Ob.mk OK.box 36 2 0
 [[vbool b652, AV.list 0 2 l653]]]
 else q6_l2_0 x640 b646 l647 b648 l649 b650 l651 b652 l653
 else none
 else
 some
 (Out.jump (JX.exit 4) [vbool b639, vi x640],
 [Ob.mk OK.box 36 2 0 [[vbool b646, AV.list 0 2 l647]],
 Ob.mk OK.box 36 2 0 [[vbool b648, AV.list 0 2 l649]],
 Ob.mk OK.box 36 2 0 [[vbool b650, AV.list 0 2 l651]],
 Ob.mk OK.box 36 2 0 [[vbool b652, AV.list 0 2 l653]]]) := by
  intros
  exact (E_ov f36_true [188] _ _ _).trans (by kernel_rfl)

end Go.Proofs.Av
