/- A law's tree. -/
import Derived.Test.YtogopainnioiiaaDoorAwX
set_option maxRecDepth 100000
namespace Go.Proofs.Av
open Go
theorem f3 : ∀ (wild0 wild1 wild2 wild3 wild4 wild5 wild6 wild7 wild8 wild9 n10 n11 n12 n13 n14 n15 which16 x17 a18 b19 : Int),
 E cx (Key.fn 3)
 [AV.agg [vi wild0, vi wild1, vi wild2, vi wild3, vi wild4, vi wild5, vi wild6, vi wild7, vi wild8, vu wild9],
 AV.agg [vi n10, vi n11, vi n12, vi n13, vi n14, vi n15], vi which16, vi x17, vi a18, vi b19]
 [] =
 Option.bind (E cx (Key.fn 12) [] []) fun r20 ↦
 Option.bind (ret1 r20) fun v21 ↦
 Option.bind (AV.bool? v21) fun b22 ↦
 bif b22 then
 Option.bind (E cx (Key.fn 13) [AV.agg [vi n10, vi n11, vi n12, vi n13, vi n14, vi n15], vu 0] []) fun r23 ↦
 Option.bind (ret1 r23) fun v24 ↦
 Option.bind (AV.cells? v24) fun cs25 ↦
 Option.bind (uncons? cs25) fun p26 ↦
 Option.bind (AV.int? IntKind.i64 p26.fst) fun n27 ↦
 Option.bind (uncons? p26.snd) fun p28 ↦
 Option.bind (AV.int? IntKind.i64 p28.fst) fun n29 ↦
 Option.bind (uncons? p28.snd) fun p30 ↦
 Option.bind (AV.int? IntKind.i64 p30.fst) fun n31 ↦
 Option.bind (uncons? p30.snd) fun p32 ↦
 Option.bind (AV.int? IntKind.i64 p32.fst) fun n33 ↦
 Option.bind (uncons? p32.snd) fun p34 ↦
 Option.bind (AV.int? IntKind.i64 p34.fst) fun n35 ↦
 Option.bind (uncons? p34.snd) fun p36 ↦
 Option.bind (AV.int? IntKind.i64 p36.fst) fun n37 ↦
 Option.bind (uncons? p36.snd) fun p38 ↦
 Option.bind (AV.int? IntKind.i64 p38.fst) fun n39 ↦
 Option.bind (uncons? p38.snd) fun p40 ↦
 Option.bind (AV.int? IntKind.i64 p40.fst) fun n41 ↦
 Option.bind (uncons? p40.snd) fun p42 ↦
 Option.bind (AV.int? IntKind.i64 p42.fst) fun n43 ↦
 Option.bind (uncons? p42.snd) fun p44 ↦
 Option.bind (AV.int? IntKind.u64 p44.fst) fun n45 ↦
 Option.bind (nil? p44.snd) fun _ ↦
 Option.bind
 (E cx (Key.fn 14)
 [AV.agg [vi n27, vi n29, vi n31, vi n33, vi n35, vi n37, vi n39, vi n41, vi n43, vu n45],
 vi which16, vi x17]
 [])
 fun r47 ↦
 Option.bind (ret1 r47) fun v48 ↦
 Option.bind (AV.cells? v48) fun cs49 ↦
 Option.bind (uncons? cs49) fun p50 ↦
 Option.bind (AV.int? IntKind.i64 p50.fst) fun n51 ↦
 Option.bind (uncons? p50.snd) fun p52 ↦
 Option.bind (AV.int? IntKind.i64 p52.fst) fun n53 ↦
 Option.bind (uncons? p52.snd) fun p54 ↦
 Option.bind (AV.int? IntKind.i64 p54.fst) fun n55 ↦
 Option.bind (uncons? p54.snd) fun p56 ↦
 Option.bind (AV.int? IntKind.i64 p56.fst) fun n57 ↦
 Option.bind (uncons? p56.snd) fun p58 ↦
 Option.bind (AV.int? IntKind.i64 p58.fst) fun n59 ↦
 Option.bind (uncons? p58.snd) fun p60 ↦
 Option.bind (AV.int? IntKind.i64 p60.fst) fun n61 ↦
 Option.bind (uncons? p60.snd) fun p62 ↦
 Option.bind (AV.int? IntKind.i64 p62.fst) fun n63 ↦
 Option.bind (uncons? p62.snd) fun p64 ↦
 Option.bind (AV.int? IntKind.i64 p64.fst) fun n65 ↦
 Option.bind (uncons? p64.snd) fun p66 ↦
 Option.bind (AV.int? IntKind.i64 p66.fst) fun n67 ↦
 Option.bind (uncons? p66.snd) fun p68 ↦
 Option.bind (AV.int? IntKind.u64 p68.fst) fun n69 ↦
 Option.bind (nil? p68.snd) fun _ ↦
 Option.bind
 (E cx
 (Key.loop 3
 [true, true, true, false, true, false])
 [vbool false, vi 0, vi a18, vi b19, vbool true,
 AV.list 0 10
 [[vi wild0, vi wild1, vi wild2, vi wild3,
 vi wild4, vi wild5, vi wild6, vi wild7,
 vi wild8, vu wild9],
 [vi n27, vi n29, vi n31, vi n33, vi n35,
 vi n37, vi n39, vi n41, vi n43, vu n45],
 [vi n51, vi n53, vi n55, vi n57, vi n59,
 vi n61, vi n63, vi n65, vi n67,
 vu n69]],
 vi 3]
 [Ob.mk OK.box 24 10 0
 [[vi wild0, vi wild1, vi wild2, vi wild3,
 vi wild4, vi wild5, vi wild6, vi wild7,
 vi wild8, vu wild9]],
 Ob.mk OK.box 25 6 0
 [[vi n10, vi n11, vi n12, vi n13, vi n14,
 vi n15]],
 Ob.mk OK.box 24 10 0
 [[vi n27, vi n29, vi n31, vi n33, vi n35,
 vi n37, vi n39, vi n41, vi n43,
 vu n45]]])
 fun r71 ↦
 Option.bind (asJump r71) fun j72 ↦
 bif JX.is j72.fst (JX.exit 0) then
 Option.bind (uncons? j72.snd.fst) fun p73 ↦
 Option.bind (AV.bool? p73.fst) fun _ ↦
 Option.bind (uncons? p73.snd) fun p75 ↦
 Option.bind
 (AV.int? IntKind.i64 p75.fst)
 fun _ ↦
 Option.bind (nil? p75.snd) fun _ ↦
 Option.bind (uncons? j72.snd.snd)
 fun p78 ↦
 Option.bind
 (obIs
 (Ob.mk OK.box 24 10 0
 [[vi wild0, vi wild1,
 vi wild2, vi wild3,
 vi wild4, vi wild5,
 vi wild6, vi wild7,
 vi wild8, vu wild9]])
 p78.fst)
 fun _ ↦
 Option.bind (uncons? p78.fst.es)
 fun p80 ↦
 Option.bind (nil? p80.snd)
 fun _ ↦
 Option.bind
 (uncons? p80.fst)
 fun p82 ↦
 Option.bind
 (AV.int? IntKind.i64
 p82.fst)
 fun _ ↦
 Option.bind
 (uncons? p82.snd)
 fun p84 ↦
 Option.bind
 (AV.int?
 IntKind.i64
 p84.fst)
 fun _ ↦
 Option.bind
 (uncons? p84.snd)
 fun p86 ↦
 Option.bind
 (AV.int?
 IntKind.i64
 p86.fst)
 fun _ ↦
 Option.bind
 (uncons?
 p86.snd)
 fun p88 ↦
 Option.bind
 (AV.int?
 IntKind.i64
 p88.fst)
 fun _ ↦
 Option.bind
 (uncons?
 p88.snd)
 fun p90 ↦
 Option.bind
 (AV.int?
 IntKind.i64
 p90.fst)
 fun
 _ ↦
 Option.bind
 (uncons?
 p90.snd)
 fun
 p92 ↦
 Option.bind
 (AV.int?
 IntKind.i64
 p92.fst)
 fun
 _ ↦
 Option.bind
 (uncons?
 p92.snd)
 fun
 p94 ↦
 Option.bind
 (AV.int?
 IntKind.i64
 p94.fst)
 fun
 _ ↦
 Option.bind
 (uncons?
 p94.snd)
 fun
 p96 ↦
 Option.bind
 (AV.int?
 IntKind.i64
 p96.fst)
 fun
 _ ↦
 Option.bind
 (uncons?
 p96.snd)
 fun
 p98 ↦
 Option.bind
 (AV.int?
 IntKind.i64
 p98.fst)
 fun
 _ ↦
 Option.bind
 (uncons?
 p98.snd)
 fun
 p100 ↦
 Option.bind
 (AV.int?
 IntKind.u64
 p100.fst)
 fun
 _ ↦
 Option.bind
 (nil?
 p100.snd)
 fun
 _ ↦
 Option.bind
 (chk
 p78.fst.ver
 0)
 fun
 _ ↦
 Option.bind
 (uncons?
 p78.snd)
 fun
 p104 ↦
 Option.bind
 (obIs
 (Ob.mk
 OK.box
 25
 6
 0
 [[vi
 n10,
 vi
 n11,
 vi
 n12,
 vi
 n13,
 vi
 n14,
 vi
 n15]])
 p104.fst)
 fun
 _ ↦
 Option.bind
 (uncons?
 p104.fst.es)
 fun
 p106 ↦
 Option.bind
 (nil?
 p106.snd)
 fun
 _ ↦
 Option.bind
 (uncons?
 p106.fst)
 fun
 p108 ↦
 Option.bind
 (AV.int?
 IntKind.i64
 p108.fst)
 fun
 _ ↦
 Option.bind
 (uncons?
 p108.snd)
 fun
 p110 ↦
 Option.bind
 (AV.int?
 IntKind.i64
 p110.fst)
 fun
 _ ↦
 Option.bind
 (uncons?
 p110.snd)
 fun
 p112 ↦
 Option.bind
 (AV.int?
 IntKind.i64
 p112.fst)
 fun
 _ ↦
 Option.bind
 (uncons?
 p112.snd)
 fun
 p114 ↦
 Option.bind
 (AV.int?
 IntKind.i64
 p114.fst)
 fun
 _ ↦
 Option.bind
 (uncons?
 p114.snd)
 fun
 p116 ↦
 Option.bind
 (AV.int?
 IntKind.i64
 p116.fst)
 fun
 _ ↦
 Option.bind
 (uncons?
 p116.snd)
 fun
 p118 ↦
 Option.bind
 (AV.int?
 IntKind.i64
 p118.fst)
 fun
 _ ↦
 Option.bind
 (nil?
 p118.snd)
 fun
 _ ↦
 Option.bind
 (chk
 p104.fst.ver
 0)
 fun
 _ ↦
 Option.bind
 (uncons?
 p104.snd)
 fun
 p122 ↦
 Option.bind
 (obIs
 (Ob.mk
 OK.box
 24
 10
 0
 [[vi
 n27,
 vi
 n29,
 vi
 n31,
 vi
 n33,
 vi
 n35,
 vi
 n37,
 vi
 n39,
 vi
 n41,
 vi
 n43,
 vu
 n45]])
 p122.fst)
 fun
 _ ↦
 Option.bind
 (uncons?
 p122.fst.es)
 fun
 p124 ↦
 Option.bind
 (nil?
 p124.snd)
 fun
 _ ↦
 Option.bind
 (uncons?
 p124.fst)
 fun
 p126 ↦
 Option.bind
 (AV.int?
 IntKind.i64
 p126.fst)
 fun
 _ ↦
 Option.bind
 (uncons?
 p126.snd)
 fun
 p128 ↦
 Option.bind
 (AV.int?
 IntKind.i64
 p128.fst)
 fun
 _ ↦
 Option.bind
 (uncons?
 p128.snd)
 fun
 p130 ↦
 Option.bind
 (AV.int?
 IntKind.i64
 p130.fst)
 fun
 _ ↦
 Option.bind
 (uncons?
 p130.snd)
 fun
 p132 ↦
 Option.bind
 (AV.int?
 IntKind.i64
 p132.fst)
 fun
 _ ↦
 Option.bind
 (uncons?
 p132.snd)
 fun
 p134 ↦
 Option.bind
 (AV.int?
 IntKind.i64
 p134.fst)
 fun
 _ ↦
 Option.bind
 (uncons?
 p134.snd)
 fun
 p136 ↦
 Option.bind
 (AV.int?
 IntKind.i64
 p136.fst)
 fun
 _ ↦
 Option.bind
 (uncons?
 p136.snd)
 fun
 p138 ↦
 Option.bind
 (AV.int?
 IntKind.i64
 p138.fst)
 fun
 _ ↦
 Option.bind
 (uncons?
 p138.snd)
 fun
 p140 ↦
 Option.bind
 (AV.int?
 IntKind.i64
 p140.fst)
 fun
 _ ↦
 Option.bind
 (uncons?
 p140.snd)
 fun
 p142 ↦
 Option.bind
 (AV.int?
 IntKind.i64
 p142.fst)
 fun
 _ ↦
 Option.bind
 (uncons?
 p142.snd)
 fun
 p144 ↦
 Option.bind
 (AV.int?
 IntKind.u64
 p144.fst)
 fun
 _ ↦
 Option.bind
 (nil?
 p144.snd)
 fun
 _ ↦
 Option.bind
 (chk
 p122.fst.ver
 0)
 fun
 _ ↦
 Option.bind
 (nil?
 p122.snd)
 fun
 _ ↦
 some
 (Out.ret
 (vbool
 true),
 [])
 else
 bif JX.is j72.fst JX.ret then
 Option.bind (uncons? j72.snd.fst) fun p149 ↦
 Option.bind (AV.bool? p149.fst) fun b150 ↦
 Option.bind (uncons? p149.snd)
 fun p151 ↦
 Option.bind
 (AV.int? IntKind.i64 p151.fst)
 fun _ ↦
 Option.bind (nil? p151.snd)
 fun _ ↦
 Option.bind (uncons? j72.snd.snd)
 fun p154 ↦
 Option.bind
 (obIs
 (Ob.mk OK.box 24 10 0
 [[vi wild0, vi wild1,
 vi wild2, vi wild3,
 vi wild4, vi wild5,
 vi wild6, vi wild7,
 vi wild8, vu wild9]])
 p154.fst)
 fun _ ↦
 Option.bind
 (uncons? p154.fst.es)
 fun p156 ↦
 Option.bind (nil? p156.snd)
 fun _ ↦
 Option.bind
 (uncons? p156.fst)
 fun p158 ↦
 Option.bind
 (AV.int?
 IntKind.i64
 p158.fst)
 fun _ ↦
 Option.bind
 (uncons? p158.snd)
 fun p160 ↦
 Option.bind
 (AV.int?
 IntKind.i64
 p160.fst)
 fun _ ↦
 Option.bind
 (uncons?
 p160.snd)
 fun p162 ↦
 Option.bind
 (AV.int?
 IntKind.i64
 p162.fst)
 fun _ ↦
 Option.bind
 (uncons?
 p162.snd)
 fun p164 ↦
 Option.bind
 (AV.int?
 IntKind.i64
 p164.fst)
 fun _ ↦
 Option.bind
 (uncons?
 p164.snd)
 fun
 p166 ↦
 Option.bind
 (AV.int?
 IntKind.i64
 p166.fst)
 fun
 _ ↦
 Option.bind
 (uncons?
 p166.snd)
 fun
 p168 ↦
 Option.bind
 (AV.int?
 IntKind.i64
 p168.fst)
 fun
 _ ↦
 Option.bind
 (uncons?
 p168.snd)
 fun
 p170 ↦
 Option.bind
 (AV.int?
 IntKind.i64
 p170.fst)
 fun
 _ ↦
 Option.bind
 (uncons?
 p170.snd)
 fun
 p172 ↦
 Option.bind
 (AV.int?
 IntKind.i64
 p172.fst)
 fun
 _ ↦
 Option.bind
 (uncons?
 p172.snd)
 fun
 p174 ↦
 Option.bind
 (AV.int?
 IntKind.i64
 p174.fst)
 fun
 _ ↦
 Option.bind
 (uncons?
 p174.snd)
 fun
 p176 ↦
 Option.bind
 (AV.int?
 IntKind.u64
 p176.fst)
 fun
 _ ↦
 Option.bind
 (nil?
 p176.snd)
 fun
 _ ↦
 Option.bind
 (chk
 p154.fst.ver
 0)
 fun
 _ ↦
 Option.bind
 (uncons?
 p154.snd)
 fun
 p180 ↦
 Option.bind
 (obIs
 (Ob.mk
 OK.box
 25
 6
 0
 [[vi
 n10,
 vi
 n11,
 vi
 n12,
 vi
 n13,
 vi
 n14,
 vi
 n15]])
 p180.fst)
 fun
 _ ↦
 Option.bind
 (uncons?
 p180.fst.es)
 fun
 p182 ↦
 Option.bind
 (nil?
 p182.snd)
 fun
 _ ↦
 Option.bind
 (uncons?
 p182.fst)
 fun
 p184 ↦
 Option.bind
 (AV.int?
 IntKind.i64
 p184.fst)
 fun
 _ ↦
 Option.bind
 (uncons?
 p184.snd)
 fun
 p186 ↦
 Option.bind
 (AV.int?
 IntKind.i64
 p186.fst)
 fun
 _ ↦
 Option.bind
 (uncons?
 p186.snd)
 fun
 p188 ↦
 Option.bind
 (AV.int?
 IntKind.i64
 p188.fst)
 fun
 _ ↦
 Option.bind
 (uncons?
 p188.snd)
 fun
 p190 ↦
 Option.bind
 (AV.int?
 IntKind.i64
 p190.fst)
 fun
 _ ↦
 Option.bind
 (uncons?
 p190.snd)
 fun
 p192 ↦
 Option.bind
 (AV.int?
 IntKind.i64
 p192.fst)
 fun
 _ ↦
 Option.bind
 (uncons?
 p192.snd)
 fun
 p194 ↦
 Option.bind
 (AV.int?
 IntKind.i64
 p194.fst)
 fun
 _ ↦
 Option.bind
 (nil?
 p194.snd)
 fun
 _ ↦
 Option.bind
 (chk
 p180.fst.ver
 0)
 fun
 _ ↦
 Option.bind
 (uncons?
 p180.snd)
 fun
 p198 ↦
 Option.bind
 (obIs
 (Ob.mk
 OK.box
 24
 10
 0
 [[vi
 n27,
 vi
 n29,
 vi
 n31,
 vi
 n33,
 vi
 n35,
 vi
 n37,
 vi
 n39,
 vi
 n41,
 vi
 n43,
 vu
 n45]])
 p198.fst)
 fun
 _ ↦
 Option.bind
 (uncons?
 p198.fst.es)
 fun
 p200 ↦
 Option.bind
 (nil?
 p200.snd)
 fun
 _ ↦
 Option.bind
 (uncons?
 p200.fst)
 fun
 p202 ↦
 Option.bind
 (AV.int?
 IntKind.i64
 p202.fst)
 fun
 _ ↦
 Option.bind
 (uncons?
 p202.snd)
 fun
 p204 ↦
 Option.bind
 (AV.int?
 IntKind.i64
 p204.fst)
 fun
 _ ↦
 Option.bind
 (uncons?
 p204.snd)
 fun
 p206 ↦
 Option.bind
 (AV.int?
 IntKind.i64
 p206.fst)
 fun
 _ ↦
 Option.bind
 (uncons?
 p206.snd)
 fun
 p208 ↦
 Option.bind
 (AV.int?
 IntKind.i64
 p208.fst)
 fun
 _ ↦
 Option.bind
 (uncons?
 p208.snd)
 fun
 p210 ↦
 Option.bind
 (AV.int?
 IntKind.i64
 p210.fst)
 fun
 _ ↦
 Option.bind
 (uncons?
 p210.snd)
 fun
 p212 ↦
 Option.bind
 (AV.int?
 IntKind.i64
 p212.fst)
 fun
 _ ↦
 Option.bind
 (uncons?
 p212.snd)
 fun
 p214 ↦
 Option.bind
 (AV.int?
 IntKind.i64
 p214.fst)
 fun
 _ ↦
 Option.bind
 (uncons?
 p214.snd)
 fun
 p216 ↦
 Option.bind
 (AV.int?
 IntKind.i64
 p216.fst)
 fun
 _ ↦
 Option.bind
 (uncons?
 p216.snd)
 fun
 p218 ↦
 Option.bind
 (AV.int?
 IntKind.i64
 p218.fst)
 fun
 _ ↦
 Option.bind
 (uncons?
 p218.snd)
 fun
 p220 ↦
 Option.bind
 (AV.int?
 IntKind.u64
 p220.fst)
 fun
 _ ↦
 Option.bind
 (nil?
 p220.snd)
 fun
 _ ↦
 Option.bind
 (chk
 p198.fst.ver
 0)
 fun
 _ ↦
 Option.bind
 (nil?
 p198.snd)
 fun
 _ ↦
 some
 (Out.ret
 (vbool
 b150),
 [])
 else none
 else
 Option.bind (E cx (Key.fn 13) [AV.agg [vi n10, vi n11, vi n12, vi n13, vi n14, vi n15], vu 0] []) fun r225 ↦
 Option.bind (ret1 r225) fun v226 ↦
 Option.bind (AV.cells? v226) fun cs227 ↦
 Option.bind (uncons? cs227) fun p228 ↦
 Option.bind (AV.int? IntKind.i64 p228.fst) fun n229 ↦
 Option.bind (uncons? p228.snd) fun p230 ↦
 Option.bind (AV.int? IntKind.i64 p230.fst) fun n231 ↦
 Option.bind (uncons? p230.snd) fun p232 ↦
 Option.bind (AV.int? IntKind.i64 p232.fst) fun n233 ↦
 Option.bind (uncons? p232.snd) fun p234 ↦
 Option.bind (AV.int? IntKind.i64 p234.fst) fun n235 ↦
 Option.bind (uncons? p234.snd) fun p236 ↦
 Option.bind (AV.int? IntKind.i64 p236.fst) fun n237 ↦
 Option.bind (uncons? p236.snd) fun p238 ↦
 Option.bind (AV.int? IntKind.i64 p238.fst) fun n239 ↦
 Option.bind (uncons? p238.snd) fun p240 ↦
 Option.bind (AV.int? IntKind.i64 p240.fst) fun n241 ↦
 Option.bind (uncons? p240.snd) fun p242 ↦
 Option.bind (AV.int? IntKind.i64 p242.fst) fun n243 ↦
 Option.bind (uncons? p242.snd) fun p244 ↦
 Option.bind (AV.int? IntKind.i64 p244.fst) fun n245 ↦
 Option.bind (uncons? p244.snd) fun p246 ↦
 Option.bind (AV.int? IntKind.u64 p246.fst) fun n247 ↦
 Option.bind (nil? p246.snd) fun _ ↦
 Option.bind
 (E cx (Key.fn 14)
 [AV.agg
 [vi n229, vi n231, vi n233, vi n235, vi n237, vi n239, vi n241, vi n243, vi n245, vu n247],
 vi which16, vi x17]
 [])
 fun r249 ↦
 Option.bind (ret1 r249) fun v250 ↦
 Option.bind (AV.cells? v250) fun cs251 ↦
 Option.bind (uncons? cs251) fun p252 ↦
 Option.bind (AV.int? IntKind.i64 p252.fst) fun n253 ↦
 Option.bind (uncons? p252.snd) fun p254 ↦
 Option.bind (AV.int? IntKind.i64 p254.fst) fun n255 ↦
 Option.bind (uncons? p254.snd) fun p256 ↦
 Option.bind (AV.int? IntKind.i64 p256.fst) fun n257 ↦
 Option.bind (uncons? p256.snd) fun p258 ↦
 Option.bind (AV.int? IntKind.i64 p258.fst) fun n259 ↦
 Option.bind (uncons? p258.snd) fun p260 ↦
 Option.bind (AV.int? IntKind.i64 p260.fst) fun n261 ↦
 Option.bind (uncons? p260.snd) fun p262 ↦
 Option.bind (AV.int? IntKind.i64 p262.fst) fun n263 ↦
 Option.bind (uncons? p262.snd) fun p264 ↦
 Option.bind (AV.int? IntKind.i64 p264.fst) fun n265 ↦
 Option.bind (uncons? p264.snd) fun p266 ↦
 Option.bind (AV.int? IntKind.i64 p266.fst) fun n267 ↦
 Option.bind (uncons? p266.snd) fun p268 ↦
 Option.bind (AV.int? IntKind.i64 p268.fst) fun n269 ↦
 Option.bind (uncons? p268.snd) fun p270 ↦
 Option.bind (AV.int? IntKind.u64 p270.fst) fun n271 ↦
 Option.bind (nil? p270.snd) fun _ ↦
 Option.bind
 (E cx
 (Key.loop 3
 [true, true, true, false, true, false])
 [vbool false, vi 0, vi a18, vi b19, vbool false,
 AV.list 0 10
 [[vi wild0, vi wild1, vi wild2, vi wild3,
 vi wild4, vi wild5, vi wild6, vi wild7,
 vi wild8, vu wild9],
 [vi n229, vi n231, vi n233, vi n235,
 vi n237, vi n239, vi n241, vi n243,
 vi n245, vu n247],
 [vi n253, vi n255, vi n257, vi n259,
 vi n261, vi n263, vi n265, vi n267,
 vi n269, vu n271]],
 vi 3]
 [Ob.mk OK.box 24 10 0
 [[vi wild0, vi wild1, vi wild2, vi wild3,
 vi wild4, vi wild5, vi wild6, vi wild7,
 vi wild8, vu wild9]],
 Ob.mk OK.box 25 6 0
 [[vi n10, vi n11, vi n12, vi n13, vi n14,
 vi n15]],
 Ob.mk OK.box 24 10 0
 [[vi n229, vi n231, vi n233, vi n235,
 vi n237, vi n239, vi n241, vi n243,
 vi n245, vu n247]]])
 fun r273 ↦
 Option.bind (asJump r273) fun j274 ↦
 bif JX.is j274.fst (JX.exit 0) then
 Option.bind (uncons? j274.snd.fst) fun p275 ↦
 Option.bind (AV.bool? p275.fst) fun _ ↦
 Option.bind (uncons? p275.snd) fun p277 ↦
 Option.bind
 (AV.int? IntKind.i64 p277.fst)
 fun _ ↦
 Option.bind (nil? p277.snd) fun _ ↦
 Option.bind (uncons? j274.snd.snd)
 fun p280 ↦
 Option.bind
 (obIs
 (Ob.mk OK.box 24 10 0
 [[vi wild0, vi wild1,
 vi wild2, vi wild3,
 vi wild4, vi wild5,
 vi wild6, vi wild7,
 vi wild8, vu wild9]])
 p280.fst)
 fun _ ↦
 Option.bind
 (uncons? p280.fst.es)
 fun p282 ↦
 Option.bind (nil? p282.snd)
 fun _ ↦
 Option.bind
 (uncons? p282.fst)
 fun p284 ↦
 Option.bind
 (AV.int? IntKind.i64
 p284.fst)
 fun _ ↦
 Option.bind
 (uncons? p284.snd)
 fun p286 ↦
 Option.bind
 (AV.int?
 IntKind.i64
 p286.fst)
 fun _ ↦
 Option.bind
 (uncons? p286.snd)
 fun p288 ↦
 Option.bind
 (AV.int?
 IntKind.i64
 p288.fst)
 fun _ ↦
 Option.bind
 (uncons?
 p288.snd)
 fun p290 ↦
 Option.bind
 (AV.int?
 IntKind.i64
 p290.fst)
 fun _ ↦
 Option.bind
 (uncons?
 p290.snd)
 fun p292 ↦
 Option.bind
 (AV.int?
 IntKind.i64
 p292.fst)
 fun
 _ ↦
 Option.bind
 (uncons?
 p292.snd)
 fun
 p294 ↦
 Option.bind
 (AV.int?
 IntKind.i64
 p294.fst)
 fun
 _ ↦
 Option.bind
 (uncons?
 p294.snd)
 fun
 p296 ↦
 Option.bind
 (AV.int?
 IntKind.i64
 p296.fst)
 fun
 _ ↦
 Option.bind
 (uncons?
 p296.snd)
 fun
 p298 ↦
 Option.bind
 (AV.int?
 IntKind.i64
 p298.fst)
 fun
 _ ↦
 Option.bind
 (uncons?
 p298.snd)
 fun
 p300 ↦
 Option.bind
 (AV.int?
 IntKind.i64
 p300.fst)
 fun
 _ ↦
 Option.bind
 (uncons?
 p300.snd)
 fun
 p302 ↦
 Option.bind
 (AV.int?
 IntKind.u64
 p302.fst)
 fun
 _ ↦
 Option.bind
 (nil?
 p302.snd)
 fun
 _ ↦
 Option.bind
 (chk
 p280.fst.ver
 0)
 fun
 _ ↦
 Option.bind
 (uncons?
 p280.snd)
 fun
 p306 ↦
 Option.bind
 (obIs
 (Ob.mk
 OK.box
 25
 6
 0
 [[vi
 n10,
 vi
 n11,
 vi
 n12,
 vi
 n13,
 vi
 n14,
 vi
 n15]])
 p306.fst)
 fun
 _ ↦
 Option.bind
 (uncons?
 p306.fst.es)
 fun
 p308 ↦
 Option.bind
 (nil?
 p308.snd)
 fun
 _ ↦
 Option.bind
 (uncons?
 p308.fst)
 fun
 p310 ↦
 Option.bind
 (AV.int?
 IntKind.i64
 p310.fst)
 fun
 _ ↦
 Option.bind
 (uncons?
 p310.snd)
 fun
 p312 ↦
 Option.bind
 (AV.int?
 IntKind.i64
 p312.fst)
 fun
 _ ↦
 Option.bind
 (uncons?
 p312.snd)
 fun
 p314 ↦
 Option.bind
 (AV.int?
 IntKind.i64
 p314.fst)
 fun
 _ ↦
 Option.bind
 (uncons?
 p314.snd)
 fun
 p316 ↦
 Option.bind
 (AV.int?
 IntKind.i64
 p316.fst)
 fun
 _ ↦
 Option.bind
 (uncons?
 p316.snd)
 fun
 p318 ↦
 Option.bind
 (AV.int?
 IntKind.i64
 p318.fst)
 fun
 _ ↦
 Option.bind
 (uncons?
 p318.snd)
 fun
 p320 ↦
 Option.bind
 (AV.int?
 IntKind.i64
 p320.fst)
 fun
 _ ↦
 Option.bind
 (nil?
 p320.snd)
 fun
 _ ↦
 Option.bind
 (chk
 p306.fst.ver
 0)
 fun
 _ ↦
 Option.bind
 (uncons?
 p306.snd)
 fun
 p324 ↦
 Option.bind
 (obIs
 (Ob.mk
 OK.box
 24
 10
 0
 [[vi
 n229,
 vi
 n231,
 vi
 n233,
 vi
 n235,
 vi
 n237,
 vi
 n239,
 vi
 n241,
 vi
 n243,
 vi
 n245,
 vu
 n247]])
 p324.fst)
 fun
 _ ↦
 Option.bind
 (uncons?
 p324.fst.es)
 fun
 p326 ↦
 Option.bind
 (nil?
 p326.snd)
 fun
 _ ↦
 Option.bind
 (uncons?
 p326.fst)
 fun
 p328 ↦
 Option.bind
 (AV.int?
 IntKind.i64
 p328.fst)
 fun
 _ ↦
 Option.bind
 (uncons?
 p328.snd)
 fun
 p330 ↦
 Option.bind
 (AV.int?
 IntKind.i64
 p330.fst)
 fun
 _ ↦
 Option.bind
 (uncons?
 p330.snd)
 fun
 p332 ↦
 Option.bind
 (AV.int?
 IntKind.i64
 p332.fst)
 fun
 _ ↦
 Option.bind
 (uncons?
 p332.snd)
 fun
 p334 ↦
 Option.bind
 (AV.int?
 IntKind.i64
 p334.fst)
 fun
 _ ↦
 Option.bind
 (uncons?
 p334.snd)
 fun
 p336 ↦
 Option.bind
 (AV.int?
 IntKind.i64
 p336.fst)
 fun
 _ ↦
 Option.bind
 (uncons?
 p336.snd)
 fun
 p338 ↦
 Option.bind
 (AV.int?
 IntKind.i64
 p338.fst)
 fun
 _ ↦
 Option.bind
 (uncons?
 p338.snd)
 fun
 p340 ↦
 Option.bind
 (AV.int?
 IntKind.i64
 p340.fst)
 fun
 _ ↦
 Option.bind
 (uncons?
 p340.snd)
 fun
 p342 ↦
 Option.bind
 (AV.int?
 IntKind.i64
 p342.fst)
 fun
 _ ↦
 Option.bind
 (uncons?
 p342.snd)
 fun
 p344 ↦
 Option.bind
 (AV.int?
 IntKind.i64
 p344.fst)
 fun
 _ ↦
 Option.bind
 (uncons?
 p344.snd)
 fun
 p346 ↦
 Option.bind
 (AV.int?
 IntKind.u64
 p346.fst)
 fun
 _ ↦
 Option.bind
 (nil?
 p346.snd)
 fun
 _ ↦
 Option.bind
 (chk
 p324.fst.ver
 0)
 fun
 _ ↦
 Option.bind
 (nil?
 p324.snd)
 fun
 _ ↦
 some
 (Out.ret
 (vbool
 false),
 [])
 else
 bif JX.is j274.fst JX.ret then
 Option.bind (uncons? j274.snd.fst)
 fun p351 ↦
 Option.bind (AV.bool? p351.fst) fun b352 ↦
 Option.bind (uncons? p351.snd)
 fun p353 ↦
 Option.bind
 (AV.int? IntKind.i64 p353.fst)
 fun _ ↦
 Option.bind (nil? p353.snd)
 fun _ ↦
 Option.bind (uncons? j274.snd.snd)
 fun p356 ↦
 Option.bind
 (obIs
 (Ob.mk OK.box 24 10 0
 [[vi wild0, vi wild1,
 vi wild2, vi wild3,
 vi wild4, vi wild5,
 vi wild6, vi wild7,
 vi wild8, vu wild9]])
 p356.fst)
 fun _ ↦
 Option.bind
 (uncons? p356.fst.es)
 fun p358 ↦
 Option.bind (nil? p358.snd)
 fun _ ↦
 Option.bind
 (uncons? p358.fst)
 fun p360 ↦
 Option.bind
 (AV.int?
 IntKind.i64
 p360.fst)
 fun _ ↦
 Option.bind
 (uncons? p360.snd)
 fun p362 ↦
 Option.bind
 (AV.int?
 IntKind.i64
 p362.fst)
 fun _ ↦
 Option.bind
 (uncons?
 p362.snd)
 fun p364 ↦
 Option.bind
 (AV.int?
 IntKind.i64
 p364.fst)
 fun _ ↦
 Option.bind
 (uncons?
 p364.snd)
 fun p366 ↦
 Option.bind
 (AV.int?
 IntKind.i64
 p366.fst)
 fun _ ↦
 Option.bind
 (uncons?
 p366.snd)
 fun
 p368 ↦
 Option.bind
 (AV.int?
 IntKind.i64
 p368.fst)
 fun
 _ ↦
 Option.bind
 (uncons?
 p368.snd)
 fun
 p370 ↦
 Option.bind
 (AV.int?
 IntKind.i64
 p370.fst)
 fun
 _ ↦
 Option.bind
 (uncons?
 p370.snd)
 fun
 p372 ↦
 Option.bind
 (AV.int?
 IntKind.i64
 p372.fst)
 fun
 _ ↦
 Option.bind
 (uncons?
 p372.snd)
 fun
 p374 ↦
 Option.bind
 (AV.int?
 IntKind.i64
 p374.fst)
 fun
 _ ↦
 Option.bind
 (uncons?
 p374.snd)
 fun
 p376 ↦
 Option.bind
 (AV.int?
 IntKind.i64
 p376.fst)
 fun
 _ ↦
 Option.bind
 (uncons?
 p376.snd)
 fun
 p378 ↦
 Option.bind
 (AV.int?
 IntKind.u64
 p378.fst)
 fun
 _ ↦
 Option.bind
 (nil?
 p378.snd)
 fun
 _ ↦
 Option.bind
 (chk
 p356.fst.ver
 0)
 fun
 _ ↦
 Option.bind
 (uncons?
 p356.snd)
 fun
 p382 ↦
 Option.bind
 (obIs
 (Ob.mk
 OK.box
 25
 6
 0
 [[vi
 n10,
 vi
 n11,
 vi
 n12,
 vi
 n13,
 vi
 n14,
 vi
 n15]])
 p382.fst)
 fun
 _ ↦
 Option.bind
 (uncons?
 p382.fst.es)
 fun
 p384 ↦
 Option.bind
 (nil?
 p384.snd)
 fun
 _ ↦
 Option.bind
 (uncons?
 p384.fst)
 fun
 p386 ↦
 Option.bind
 (AV.int?
 IntKind.i64
 p386.fst)
 fun
 _ ↦
 Option.bind
 (uncons?
 p386.snd)
 fun
 p388 ↦
 Option.bind
 (AV.int?
 IntKind.i64
 p388.fst)
 fun
 _ ↦
 Option.bind
 (uncons?
 p388.snd)
 fun
 p390 ↦
 Option.bind
 (AV.int?
 IntKind.i64
 p390.fst)
 fun
 _ ↦
 Option.bind
 (uncons?
 p390.snd)
 fun
 p392 ↦
 Option.bind
 (AV.int?
 IntKind.i64
 p392.fst)
 fun
 _ ↦
 Option.bind
 (uncons?
 p392.snd)
 fun
 p394 ↦
 Option.bind
 (AV.int?
 IntKind.i64
 p394.fst)
 fun
 _ ↦
 Option.bind
 (uncons?
 p394.snd)
 fun
 p396 ↦
 Option.bind
 (AV.int?
 IntKind.i64
 p396.fst)
 fun
 _ ↦
 Option.bind
 (nil?
 p396.snd)
 fun
 _ ↦
 Option.bind
 (chk
 p382.fst.ver
 0)
 fun
 _ ↦
 Option.bind
 (uncons?
 p382.snd)
 fun
 p400 ↦
 Option.bind
 (obIs
 (Ob.mk
 OK.box
 24
 10
 0
 [[vi
 n229,
 vi
 n231,
 vi
 n233,
 vi
 n235,
 vi
 n237,
 vi
 n239,
 vi
 n241,
 vi
 n243,
 vi
 n245,
 vu
 n247]])
 p400.fst)
 fun
 _ ↦
 Option.bind
 (uncons?
 p400.fst.es)
 fun
 p402 ↦
 Option.bind
 (nil?
 p402.snd)
 fun
 _ ↦
 Option.bind
 (uncons?
 p402.fst)
 fun
 p404 ↦
 Option.bind
 (AV.int?
 IntKind.i64
 p404.fst)
 fun
 _ ↦
 Option.bind
 (uncons?
 p404.snd)
 fun
 p406 ↦
 Option.bind
 (AV.int?
 IntKind.i64
 p406.fst)
 fun
 _ ↦
 Option.bind
 (uncons?
 p406.snd)
 fun
 p408 ↦
 Option.bind
 (AV.int?
 IntKind.i64
 p408.fst)
 fun
 _ ↦
 Option.bind
 (uncons?
 p408.snd)
 fun
 p410 ↦
 Option.bind
 (AV.int?
 IntKind.i64
 p410.fst)
 fun
 _ ↦
 Option.bind
 (uncons?
 p410.snd)
 fun
 p412 ↦
 Option.bind
 (AV.int?
 IntKind.i64
 p412.fst)
 fun
 _ ↦
 Option.bind
 (uncons?
 p412.snd)
 fun
 p414 ↦
 Option.bind
 (AV.int?
 IntKind.i64
 p414.fst)
 fun
 _ ↦
 Option.bind
 (uncons?
 p414.snd)
 fun
 p416 ↦
 Option.bind
 (AV.int?
 IntKind.i64
 p416.fst)
 fun
 _ ↦
 Option.bind
 (uncons?
 p416.snd)
 fun
 p418 ↦
 Option.bind
 (AV.int?
 IntKind.i64
 p418.fst)
 fun
 _ ↦
 Option.bind
 (uncons?
 p418.snd)
 fun
 p420 ↦
 Option.bind
 (AV.int?
 IntKind.i64
 p420.fst)
 fun
 _ ↦
 Option.bind
 (uncons?
 p420.snd)
 fun
 p422 ↦
 Option.bind
 (AV.int?
 IntKind.u64
 p422.fst)
 fun
 _ ↦
 Option.bind
 (nil?
 p422.snd)
 fun
 _ ↦
 Option.bind
 (chk
 p400.fst.ver
 0)
 fun
 _ ↦
 Option.bind
 (nil?
 p400.snd)
 fun
 _ ↦
 some
 (Out.ret
 (vbool
 b352),
 [])
 else none := by
  intros
  exact (E_fast _ _ _ _).trans (by kernel_rfl)

theorem f3_l0 : ∀ (b427 : Bool) (x428 x429 x430 : Int) (b431 : Bool) (l432 : List (List AV))
 (x433 x434 x435 x436 x437 x438 x439 x440 x441 x442 x443 x444 x445 x446 x447 x448 x449 x450 x451 x452 x453 x454 x455 x456 x457 x458 x459 : Int),
 E cx (Key.loop 3 [true, true, true, false, true, false]) [vbool b427, vi x428, vi x429, vi x430, vbool b431, AV.list 0 10 l432, vi x433]
 [Ob.mk OK.box 24 10 0 [[vi x434, vi x435, vi x436, vi x437, vi x438, vi x439, vi x440, vi x441, vi x442, vu x443]],
 Ob.mk OK.box 25 6 0 [[vi x444, vi x445, vi x446, vi x447, vi x448, vi x449]],
 Ob.mk OK.box 24 10 0 [[vi x450, vi x451, vi x452, vi x453, vi x454, vi x455, vi x456, vi x457, vi x458, vu x459]]] =
 bif decide (x428 < x433) then
 if 0 ≤ x428 then
 Option.bind l432[Int.toNat x428]? fun cs460 ↦
 Option.bind (uncons? cs460) fun p461 ↦
 Option.bind (AV.int? IntKind.i64 p461.fst) fun n462 ↦
 Option.bind (uncons? p461.snd) fun p463 ↦
 Option.bind (AV.int? IntKind.i64 p463.fst) fun n464 ↦
 Option.bind (uncons? p463.snd) fun p465 ↦
 Option.bind (AV.int? IntKind.i64 p465.fst) fun n466 ↦
 Option.bind (uncons? p465.snd) fun p467 ↦
 Option.bind (AV.int? IntKind.i64 p467.fst) fun n468 ↦
 Option.bind (uncons? p467.snd) fun p469 ↦
 Option.bind (AV.int? IntKind.i64 p469.fst) fun n470 ↦
 Option.bind (uncons? p469.snd) fun p471 ↦
 Option.bind (AV.int? IntKind.i64 p471.fst) fun n472 ↦
 Option.bind (uncons? p471.snd) fun p473 ↦
 Option.bind (AV.int? IntKind.i64 p473.fst) fun n474 ↦
 Option.bind (uncons? p473.snd) fun p475 ↦
 Option.bind (AV.int? IntKind.i64 p475.fst) fun n476 ↦
 Option.bind (uncons? p475.snd) fun p477 ↦
 Option.bind (AV.int? IntKind.i64 p477.fst) fun n478 ↦
 Option.bind (uncons? p477.snd) fun p479 ↦
 Option.bind (AV.int? IntKind.u64 p479.fst) fun n480 ↦
 Option.bind (nil? p479.snd) fun _ ↦
 Option.bind
 (E cx (Key.fn 15)
 [AV.agg [vi n462, vi n464, vi n466, vi n468, vi n470, vi n472, vi n474, vi n476, vi n478, vu n480]] [])
 fun r482 ↦
 Option.bind (ret1 r482) fun v483 ↦
 Option.bind (AV.bool? v483) fun b484 ↦
 bif b484 then
 Option.bind
 (E cx (Key.fn 16)
 [AV.agg
 [vi n462, vi n464, vi n466, vi n468, vi n470, vi n472, vi n474, vi n476, vi n478, vu n480]]
 [])
 fun r485 ↦
 Option.bind (ret1 r485) fun v486 ↦
 Option.bind (AV.bool? v486) fun b487 ↦
 bif b487 then
 Option.bind (E cx (Key.fn 17) [vi x429, vi 1000] []) fun r488 ↦
 Option.bind (ret1 r488) fun v489 ↦
 Option.bind (AV.int? IntKind.i64 v489) fun n490 ↦
 Option.bind (E cx (Key.fn 17) [vi x430, vi 9] []) fun r491 ↦
 Option.bind (ret1 r491) fun v492 ↦
 Option.bind (AV.int? IntKind.i64 v492) fun n493 ↦
 Option.bind (E cx (Key.fn 17) [vi x429, vi 40] []) fun r494 ↦
 Option.bind (ret1 r494) fun v495 ↦
 Option.bind (AV.int? IntKind.i64 v495) fun n496 ↦
 if IntKind.wrap IntKind.i64 (Int.add 1 n496) = 0 then none
 else
 Option.bind (E cx (Key.fn 17) [vi x430, vi 5] [])
 fun r497 ↦
 Option.bind (ret1 r497) fun v498 ↦
 Option.bind (AV.int? IntKind.i64 v498) fun n499 ↦
 Option.bind
 (E cx
 (Key.loop 3
 [true, true, true, false, true, false, false, true, true,
 false, false, true, true, true, false])
 [vbool b427, vi 0, vi x429, vi x430, vbool b431,
 AV.ptr 3 0 0 0, AV.list 0 10 l432, vi x433, vi x428,
 AV.list 0 1
 [[vi x429], [vi x430], [vi n490],
 [vi
 (IntKind.wrap IntKind.i64
 (Int.sub
 (IntKind.wrap IntKind.i64
 (Int.add 1099511627776 n493))
 4))],
 [vi
 (IntKind.wrap IntKind.i64
 (Int.sub
 (IntKind.wrap IntKind.i64
 (Int.add
 (IntKind.wrap IntKind.i64
 (Int.tdiv 1099511627776
 (IntKind.wrap IntKind.i64
 (Int.add 1 n496))))
 n499))
 2))]],
 vi 5]
 [Ob.mk OK.box 24 10 0
 [[vi x434, vi x435, vi x436, vi x437, vi x438, vi x439,
 vi x440, vi x441, vi x442, vu x443]],
 Ob.mk OK.box 25 6 0
 [[vi x444, vi x445, vi x446, vi x447, vi x448, vi x449]],
 Ob.mk OK.box 24 10 0
 [[vi x450, vi x451, vi x452, vi x453, vi x454, vi x455,
 vi x456, vi x457, vi x458, vu x459]],
 Ob.mk OK.box 24 10 0
 [[vi n462, vi n464, vi n466, vi n468, vi n470, vi n472,
 vi n474, vi n476, vi n478, vu n480]]])
 fun r500 ↦
 Option.bind (asJump r500) fun j501 ↦
 bif JX.is j501.fst (JX.exit 2) then
 Option.bind (uncons? j501.snd.fst) fun p502 ↦
 Option.bind (AV.bool? p502.fst) fun b503 ↦
 Option.bind (uncons? p502.snd) fun p504 ↦
 Option.bind (AV.int? IntKind.i64 p504.fst)
 fun _ ↦
 Option.bind (nil? p504.snd) fun _ ↦
 Option.bind (uncons? j501.snd.snd) fun p507 ↦
 Option.bind
 (obIs
 (Ob.mk OK.box 24 10 0
 [[vi x434, vi x435, vi x436, vi x437,
 vi x438, vi x439, vi x440, vi x441,
 vi x442, vu x443]])
 p507.fst)
 fun _ ↦
 Option.bind (uncons? p507.fst.es) fun p509 ↦
 Option.bind (nil? p509.snd) fun _ ↦
 Option.bind (uncons? p509.fst) fun p511 ↦
 Option.bind
 (AV.int? IntKind.i64 p511.fst)
 fun n512 ↦
 Option.bind (uncons? p511.snd)
 fun p513 ↦
 Option.bind
 (AV.int? IntKind.i64 p513.fst)
 fun n514 ↦
 Option.bind (uncons? p513.snd)
 fun p515 ↦
 Option.bind
 (AV.int? IntKind.i64
 p515.fst)
 fun n516 ↦
 Option.bind (uncons? p515.snd)
 fun p517 ↦
 Option.bind
 (AV.int? IntKind.i64
 p517.fst)
 fun n518 ↦
 Option.bind
 (uncons? p517.snd)
 fun p519 ↦
 Option.bind
 (AV.int?
 IntKind.i64
 p519.fst)
 fun n520 ↦
 Option.bind
 (uncons? p519.snd)
 fun p521 ↦
 Option.bind
 (AV.int?
 IntKind.i64
 p521.fst)
 fun n522 ↦
 Option.bind
 (uncons?
 p521.snd)
 fun p523 ↦
 Option.bind
 (AV.int?
 IntKind.i64
 p523.fst)
 fun n524 ↦
 Option.bind
 (uncons?
 p523.snd)
 fun p525 ↦
 Option.bind
 (AV.int?
 IntKind.i64
 p525.fst)
 fun n526 ↦
 Option.bind
 (uncons?
 p525.snd)
 fun
 p527 ↦
 Option.bind
 (AV.int?
 IntKind.i64
 p527.fst)
 fun
 n528 ↦
 Option.bind
 (uncons?
 p527.snd)
 fun
 p529 ↦
 Option.bind
 (AV.int?
 IntKind.u64
 p529.fst)
 fun
 n530 ↦
 Option.bind
 (nil?
 p529.snd)
 fun
 _ ↦
 Option.bind
 (chk
 p507.fst.ver
 0)
 fun
 _ ↦
 Option.bind
 (uncons?
 p507.snd)
 fun
 p533 ↦
 Option.bind
 (obIs
 (Ob.mk
 OK.box
 25
 6
 0
 [[vi
 x444,
 vi
 x445,
 vi
 x446,
 vi
 x447,
 vi
 x448,
 vi
 x449]])
 p533.fst)
 fun
 _ ↦
 Option.bind
 (uncons?
 p533.fst.es)
 fun
 p535 ↦
 Option.bind
 (nil?
 p535.snd)
 fun
 _ ↦
 Option.bind
 (uncons?
 p535.fst)
 fun
 p537 ↦
 Option.bind
 (AV.int?
 IntKind.i64
 p537.fst)
 fun
 n538 ↦
 Option.bind
 (uncons?
 p537.snd)
 fun
 p539 ↦
 Option.bind
 (AV.int?
 IntKind.i64
 p539.fst)
 fun
 n540 ↦
 Option.bind
 (uncons?
 p539.snd)
 fun
 p541 ↦
 Option.bind
 (AV.int?
 IntKind.i64
 p541.fst)
 fun
 n542 ↦
 Option.bind
 (uncons?
 p541.snd)
 fun
 p543 ↦
 Option.bind
 (AV.int?
 IntKind.i64
 p543.fst)
 fun
 n544 ↦
 Option.bind
 (uncons?
 p543.snd)
 fun
 p545 ↦
 Option.bind
 (AV.int?
 IntKind.i64
 p545.fst)
 fun
 n546 ↦
 Option.bind
 (uncons?
 p545.snd)
 fun
 p547 ↦
 Option.bind
 (AV.int?
 IntKind.i64
 p547.fst)
 fun
 n548 ↦
 Option.bind
 (nil?
 p547.snd)
 fun
 _ ↦
 Option.bind
 (chk
 p533.fst.ver
 0)
 fun
 _ ↦
 Option.bind
 (uncons?
 p533.snd)
 fun
 p551 ↦
 Option.bind
 (obIs
 (Ob.mk
 OK.box
 24
 10
 0
 [[vi
 x450,
 vi
 x451,
 vi
 x452,
 vi
 x453,
 vi
 x454,
 vi
 x455,
 vi
 x456,
 vi
 x457,
 vi
 x458,
 vu
 x459]])
 p551.fst)
 fun
 _ ↦
 Option.bind
 (uncons?
 p551.fst.es)
 fun
 p553 ↦
 Option.bind
 (nil?
 p553.snd)
 fun
 _ ↦
 Option.bind
 (uncons?
 p553.fst)
 fun
 p555 ↦
 Option.bind
 (AV.int?
 IntKind.i64
 p555.fst)
 fun
 n556 ↦
 Option.bind
 (uncons?
 p555.snd)
 fun
 p557 ↦
 Option.bind
 (AV.int?
 IntKind.i64
 p557.fst)
 fun
 n558 ↦
 Option.bind
 (uncons?
 p557.snd)
 fun
 p559 ↦
 Option.bind
 (AV.int?
 IntKind.i64
 p559.fst)
 fun
 n560 ↦
 Option.bind
 (uncons?
 p559.snd)
 fun
 p561 ↦
 Option.bind
 (AV.int?
 IntKind.i64
 p561.fst)
 fun
 n562 ↦
 Option.bind
 (uncons?
 p561.snd)
 fun
 p563 ↦
 Option.bind
 (AV.int?
 IntKind.i64
 p563.fst)
 fun
 n564 ↦
 Option.bind
 (uncons?
 p563.snd)
 fun
 p565 ↦
 Option.bind
 (AV.int?
 IntKind.i64
 p565.fst)
 fun
 n566 ↦
 Option.bind
 (uncons?
 p565.snd)
 fun
 p567 ↦
 Option.bind
 (AV.int?
 IntKind.i64
 p567.fst)
 fun
 n568 ↦
 Option.bind
 (uncons?
 p567.snd)
 fun
 p569 ↦
 Option.bind
 (AV.int?
 IntKind.i64
 p569.fst)
 fun
 n570 ↦
 Option.bind
 (uncons?
 p569.snd)
 fun
 p571 ↦
 Option.bind
 (AV.int?
 IntKind.i64
 p571.fst)
 fun
 n572 ↦
 Option.bind
 (uncons?
 p571.snd)
 fun
 p573 ↦
 Option.bind
 (AV.int?
 IntKind.u64
 p573.fst)
 fun
 n574 ↦
 Option.bind
 (nil?
 p573.snd)
 fun
 _ ↦
 Option.bind
 (chk
 p551.fst.ver
 0)
 fun
 _ ↦
 Option.bind
 (uncons?
 p551.snd)
 fun
 p577 ↦
 Option.bind
 (obIs
 (Ob.mk
 OK.box
 24
 10
 0
 [[vi
 n462,
 vi
 n464,
 vi
 n466,
 vi
 n468,
 vi
 n470,
 vi
 n472,
 vi
 n474,
 vi
 n476,
 vi
 n478,
 vu
 n480]])
 p577.fst)
 fun
 _ ↦
 Option.bind
 (uncons?
 p577.fst.es)
 fun
 p579 ↦
 Option.bind
 (nil?
 p579.snd)
 fun
 _ ↦
 Option.bind
 (uncons?
 p579.fst)
 fun
 p581 ↦
 Option.bind
 (AV.int?
 IntKind.i64
 p581.fst)
 fun
 _ ↦
 Option.bind
 (uncons?
 p581.snd)
 fun
 p583 ↦
 Option.bind
 (AV.int?
 IntKind.i64
 p583.fst)
 fun
 _ ↦
 Option.bind
 (uncons?
 p583.snd)
 fun
 p585 ↦
 Option.bind
 (AV.int?
 IntKind.i64
 p585.fst)
 fun
 _ ↦
 Option.bind
 (uncons?
 p585.snd)
 fun
 p587 ↦
 Option.bind
 (AV.int?
 IntKind.i64
 p587.fst)
 fun
 _ ↦
 Option.bind
 (uncons?
 p587.snd)
 fun
 p589 ↦
 Option.bind
 (AV.int?
 IntKind.i64
 p589.fst)
 fun
 _ ↦
 Option.bind
 (uncons?
 p589.snd)
 fun
 p591 ↦
 Option.bind
 (AV.int?
 IntKind.i64
 p591.fst)
 fun
 _ ↦
 Option.bind
 (uncons?
 p591.snd)
 fun
 p593 ↦
 Option.bind
 (AV.int?
 IntKind.i64
 p593.fst)
 fun
 _ ↦
 Option.bind
 (uncons?
 p593.snd)
 fun
 p595 ↦
 Option.bind
 (AV.int?
 IntKind.i64
 p595.fst)
 fun
 _ ↦
 Option.bind
 (uncons?
 p595.snd)
 fun
 p597 ↦
 Option.bind
 (AV.int?
 IntKind.i64
 p597.fst)
 fun
 _ ↦
 Option.bind
 (uncons?
 p597.snd)
 fun
 p599 ↦
 Option.bind
 (AV.int?
 IntKind.u64
 p599.fst)
 fun
 _ ↦
 Option.bind
 (nil?
 p599.snd)
 fun
 _ ↦
 Option.bind
 (chk
 p577.fst.ver
 0)
 fun
 _ ↦
 Option.bind
 (nil?
 p577.snd)
 fun
 _ ↦
 Go.Proofs.Av.E
 cx
 (Key.loop
 3
 [true,
 true,
 true,
 false,
 true,
 false])
 [vbool
 b503,
 vi
 (IntKind.wrap
 IntKind.i64
 (Int.add
 x428
 1)),
 vi
 x429,
 vi
 x430,
 vbool
 b431,
 AV.list
 0
 10
 l432,
 vi
 x433]
 [Ob.mk
 OK.box
 24
 10
 0
 [[vi
 n512,
 vi
 n514,
 vi
 n516,
 vi
 n518,
 vi
 n520,
 vi
 n522,
 vi
 n524,
 vi
 n526,
 vi
 n528,
 vu
 n530]],
 Ob.mk
 OK.box
 25
 6
 0
 [[vi
 n538,
 vi
 n540,
 vi
 n542,
 vi
 n544,
 vi
 n546,
 vi
 n548]],
 Ob.mk
 OK.box
 24
 10
 0
 [[vi
 n556,
 vi
 n558,
 vi
 n560,
 vi
 n562,
 vi
 n564,
 vi
 n566,
 vi
 n568,
 vi
 n570,
 vi
 n572,
 vu
 n574]]]
 else
 bif JX.is j501.fst JX.ret then
 Option.bind (uncons? j501.snd.fst) fun p604 ↦
 Option.bind (AV.bool? p604.fst) fun b605 ↦
 Option.bind (uncons? p604.snd) fun p606 ↦
 Option.bind (AV.int? IntKind.i64 p606.fst)
 fun _ ↦
 Option.bind (nil? p606.snd) fun _ ↦
 Option.bind (uncons? j501.snd.snd) fun p609 ↦
 Option.bind
 (obIs
 (Ob.mk OK.box 24 10 0
 [[vi x434, vi x435, vi x436, vi x437,
 vi x438, vi x439, vi x440, vi x441,
 vi x442, vu x443]])
 p609.fst)
 fun _ ↦
 Option.bind (uncons? p609.fst.es) fun p611 ↦
 Option.bind (nil? p611.snd) fun _ ↦
 Option.bind (uncons? p611.fst)
 fun p613 ↦
 Option.bind
 (AV.int? IntKind.i64 p613.fst)
 fun n614 ↦
 Option.bind (uncons? p613.snd)
 fun p615 ↦
 Option.bind
 (AV.int? IntKind.i64
 p615.fst)
 fun n616 ↦
 Option.bind (uncons? p615.snd)
 fun p617 ↦
 Option.bind
 (AV.int? IntKind.i64
 p617.fst)
 fun n618 ↦
 Option.bind
 (uncons? p617.snd)
 fun p619 ↦
 Option.bind
 (AV.int? IntKind.i64
 p619.fst)
 fun n620 ↦
 Option.bind
 (uncons? p619.snd)
 fun p621 ↦
 Option.bind
 (AV.int?
 IntKind.i64
 p621.fst)
 fun n622 ↦
 Option.bind
 (uncons? p621.snd)
 fun p623 ↦
 Option.bind
 (AV.int?
 IntKind.i64
 p623.fst)
 fun n624 ↦
 Option.bind
 (uncons?
 p623.snd)
 fun p625 ↦
 Option.bind
 (AV.int?
 IntKind.i64
 p625.fst)
 fun n626 ↦
 Option.bind
 (uncons?
 p625.snd)
 fun p627 ↦
 Option.bind
 (AV.int?
 IntKind.i64
 p627.fst)
 fun
 n628 ↦
 Option.bind
 (uncons?
 p627.snd)
 fun
 p629 ↦
 Option.bind
 (AV.int?
 IntKind.i64
 p629.fst)
 fun
 n630 ↦
 Option.bind
 (uncons?
 p629.snd)
 fun
 p631 ↦
 Option.bind
 (AV.int?
 IntKind.u64
 p631.fst)
 fun
 n632 ↦
 Option.bind
 (nil?
 p631.snd)
 fun
 _ ↦
 Option.bind
 (chk
 p609.fst.ver
 0)
 fun
 _ ↦
 Option.bind
 (uncons?
 p609.snd)
 fun
 p635 ↦
 Option.bind
 (obIs
 (Ob.mk
 OK.box
 25
 6
 0
 [[vi
 x444,
 vi
 x445,
 vi
 x446,
 vi
 x447,
 vi
 x448,
 vi
 x449]])
 p635.fst)
 fun
 _ ↦
 Option.bind
 (uncons?
 p635.fst.es)
 fun
 p637 ↦
 Option.bind
 (nil?
 p637.snd)
 fun
 _ ↦
 Option.bind
 (uncons?
 p637.fst)
 fun
 p639 ↦
 Option.bind
 (AV.int?
 IntKind.i64
 p639.fst)
 fun
 n640 ↦
 Option.bind
 (uncons?
 p639.snd)
 fun
 p641 ↦
 Option.bind
 (AV.int?
 IntKind.i64
 p641.fst)
 fun
 n642 ↦
 Option.bind
 (uncons?
 p641.snd)
 fun
 p643 ↦
 Option.bind
 (AV.int?
 IntKind.i64
 p643.fst)
 fun
 n644 ↦
 Option.bind
 (uncons?
 p643.snd)
 fun
 p645 ↦
 Option.bind
 (AV.int?
 IntKind.i64
 p645.fst)
 fun
 n646 ↦
 Option.bind
 (uncons?
 p645.snd)
 fun
 p647 ↦
 Option.bind
 (AV.int?
 IntKind.i64
 p647.fst)
 fun
 n648 ↦
 Option.bind
 (uncons?
 p647.snd)
 fun
 p649 ↦
 Option.bind
 (AV.int?
 IntKind.i64
 p649.fst)
 fun
 n650 ↦
 Option.bind
 (nil?
 p649.snd)
 fun
 _ ↦
 Option.bind
 (chk
 p635.fst.ver
 0)
 fun
 _ ↦
 Option.bind
 (uncons?
 p635.snd)
 fun
 p653 ↦
 Option.bind
 (obIs
 (Ob.mk
 OK.box
 24
 10
 0
 [[vi
 x450,
 vi
 x451,
 vi
 x452,
 vi
 x453,
 vi
 x454,
 vi
 x455,
 vi
 x456,
 vi
 x457,
 vi
 x458,
 vu
 x459]])
 p653.fst)
 fun
 _ ↦
 Option.bind
 (uncons?
 p653.fst.es)
 fun
 p655 ↦
 Option.bind
 (nil?
 p655.snd)
 fun
 _ ↦
 Option.bind
 (uncons?
 p655.fst)
 fun
 p657 ↦
 Option.bind
 (AV.int?
 IntKind.i64
 p657.fst)
 fun
 n658 ↦
 Option.bind
 (uncons?
 p657.snd)
 fun
 p659 ↦
 Option.bind
 (AV.int?
 IntKind.i64
 p659.fst)
 fun
 n660 ↦
 Option.bind
 (uncons?
 p659.snd)
 fun
 p661 ↦
 Option.bind
 (AV.int?
 IntKind.i64
 p661.fst)
 fun
 n662 ↦
 Option.bind
 (uncons?
 p661.snd)
 fun
 p663 ↦
 Option.bind
 (AV.int?
 IntKind.i64
 p663.fst)
 fun
 n664 ↦
 Option.bind
 (uncons?
 p663.snd)
 fun
 p665 ↦
 Option.bind
 (AV.int?
 IntKind.i64
 p665.fst)
 fun
 n666 ↦
 Option.bind
 (uncons?
 p665.snd)
 fun
 p667 ↦
 Option.bind
 (AV.int?
 IntKind.i64
 p667.fst)
 fun
 n668 ↦
 Option.bind
 (uncons?
 p667.snd)
 fun
 p669 ↦
 Option.bind
 (AV.int?
 IntKind.i64
 p669.fst)
 fun
 n670 ↦
 Option.bind
 (uncons?
 p669.snd)
 fun
 p671 ↦
 Option.bind
 (AV.int?
 IntKind.i64
 p671.fst)
 fun
 n672 ↦
 Option.bind
 (uncons?
 p671.snd)
 fun
 p673 ↦
 Option.bind
 (AV.int?
 IntKind.i64
 p673.fst)
 fun
 n674 ↦
 Option.bind
 (uncons?
 p673.snd)
 fun
 p675 ↦
 Option.bind
 (AV.int?
 IntKind.u64
 p675.fst)
 fun
 n676 ↦
 Option.bind
 (nil?
 p675.snd)
 fun
 _ ↦
 Option.bind
 (chk
 p653.fst.ver
 0)
 fun
 _ ↦
 Option.bind
 (uncons?
 p653.snd)
 fun
 p679 ↦
 Option.bind
 (obIs
 (Ob.mk
 OK.box
 24
 10
 0
 [[vi
 n462,
 vi
 n464,
 vi
 n466,
 vi
 n468,
 vi
 n470,
 vi
 n472,
 vi
 n474,
 vi
 n476,
 vi
 n478,
 vu
 n480]])
 p679.fst)
 fun
 _ ↦
 Option.bind
 (uncons?
 p679.fst.es)
 fun
 p681 ↦
 Option.bind
 (nil?
 p681.snd)
 fun
 _ ↦
 Option.bind
 (uncons?
 p681.fst)
 fun
 p683 ↦
 Option.bind
 (AV.int?
 IntKind.i64
 p683.fst)
 fun
 _ ↦
 Option.bind
 (uncons?
 p683.snd)
 fun
 p685 ↦
 Option.bind
 (AV.int?
 IntKind.i64
 p685.fst)
 fun
 _ ↦
 Option.bind
 (uncons?
 p685.snd)
 fun
 p687 ↦
 Option.bind
 (AV.int?
 IntKind.i64
 p687.fst)
 fun
 _ ↦
 Option.bind
 (uncons?
 p687.snd)
 fun
 p689 ↦
 Option.bind
 (AV.int?
 IntKind.i64
 p689.fst)
 fun
 _ ↦
 Option.bind
 (uncons?
 p689.snd)
 fun
 p691 ↦
 Option.bind
 (AV.int?
 IntKind.i64
 p691.fst)
 fun
 _ ↦
 Option.bind
 (uncons?
 p691.snd)
 fun
 p693 ↦
 Option.bind
 (AV.int?
 IntKind.i64
 p693.fst)
 fun
 _ ↦
 Option.bind
 (uncons?
 p693.snd)
 fun
 p695 ↦
 Option.bind
 (AV.int?
 IntKind.i64
 p695.fst)
 fun
 _ ↦
 Option.bind
 (uncons?
 p695.snd)
 fun
 p697 ↦
 Option.bind
 (AV.int?
 IntKind.i64
 p697.fst)
 fun
 _ ↦
 Option.bind
 (uncons?
 p697.snd)
 fun
 p699 ↦
 Option.bind
 (AV.int?
 IntKind.i64
 p699.fst)
 fun
 _ ↦
 Option.bind
 (uncons?
 p699.snd)
 fun
 p701 ↦
 Option.bind
 (AV.int?
 IntKind.u64
 p701.fst)
 fun
 _ ↦
 Option.bind
 (nil?
 p701.snd)
 fun
 _ ↦
 Option.bind
 (chk
 p679.fst.ver
 0)
 fun
 _ ↦
 Option.bind
 (nil?
 p679.snd)
 fun
 _ ↦
 some
 (Out.jump
 JX.ret
 [vbool
 b605,
 vi
 x428],
 [Ob.mk
 OK.box
 24
 10
 0
 [[vi
 n614,
 vi
 n616,
 vi
 n618,
 vi
 n620,
 vi
 n622,
 vi
 n624,
 vi
 n626,
 vi
 n628,
 vi
 n630,
 vu
 n632]],
 Ob.mk
 OK.box
 25
 6
 0
 [[vi
 n640,
 vi
 n642,
 vi
 n644,
 vi
 n646,
 vi
 n648,
 vi
 n650]],
 Ob.mk
 OK.box
 24
 10
 0
 [[vi
 n658,
 vi
 n660,
 vi
 n662,
 vi
 n664,
 vi
 n666,
 vi
 n668,
 vi
 n670,
 vi
 n672,
 vi
 n674,
 vu
 n676]]])
 else none
 else
 some
 (Out.jump JX.ret [vbool false, vi x428],
 [Ob.mk OK.box 24 10 0
 [[vi x434, vi x435, vi x436, vi x437, vi x438, vi x439, vi x440, vi x441, vi x442,
 vu x443]],
 Ob.mk OK.box 25 6 0 [[vi x444, vi x445, vi x446, vi x447, vi x448, vi x449]],
 Ob.mk OK.box 24 10 0
 [[vi x450, vi x451, vi x452, vi x453, vi x454, vi x455, vi x456, vi x457, vi x458,
 vu x459]]])
 else
 Option.bind
 (E cx (Key.fn 16)
 [AV.agg
 [vi n462, vi n464, vi n466, vi n468, vi n470, vi n472, vi n474, vi n476, vi n478, vu n480]]
 [])
 fun r706 ↦
 Option.bind (ret1 r706) fun v707 ↦
 Option.bind (AV.bool? v707) fun b708 ↦
 bif b708 then
 some
 (Out.jump JX.ret [vbool false, vi x428],
 [Ob.mk OK.box 24 10 0
 [[vi x434, vi x435, vi x436, vi x437, vi x438, vi x439, vi x440, vi x441, vi x442,
 vu x443]],
 Ob.mk OK.box 25 6 0 [[vi x444, vi x445, vi x446, vi x447, vi x448, vi x449]],
 Ob.mk OK.box 24 10 0
 [[vi x450, vi x451, vi x452, vi x453, vi x454, vi x455, vi x456, vi x457, vi x458,
 vu x459]]])
 else
 Option.bind (E cx (Key.fn 17) [vi x429, vi 1000] []) fun r709 ↦
 Option.bind (ret1 r709) fun v710 ↦
 Option.bind (AV.int? IntKind.i64 v710) fun n711 ↦
 Option.bind (E cx (Key.fn 17) [vi x430, vi 9] []) fun r712 ↦
 Option.bind (ret1 r712) fun v713 ↦
 Option.bind (AV.int? IntKind.i64 v713) fun n714 ↦
 Option.bind (E cx (Key.fn 17) [vi x429, vi 40] []) fun r715 ↦
 Option.bind (ret1 r715) fun v716 ↦
 Option.bind (AV.int? IntKind.i64 v716) fun n717 ↦
 if IntKind.wrap IntKind.i64 (Int.add 1 n717) = 0 then none
 else
 Option.bind (E cx (Key.fn 17) [vi x430, vi 5] [])
 fun r718 ↦
 Option.bind (ret1 r718) fun v719 ↦
 Option.bind (AV.int? IntKind.i64 v719) fun n720 ↦
 Option.bind
 (E cx
 (Key.loop 3
 [true, true, true, false, true, false, false, true, true,
 false, false, true, true, true, false])
 [vbool b427, vi 0, vi x429, vi x430, vbool b431,
 AV.ptr 3 0 0 0, AV.list 0 10 l432, vi x433, vi x428,
 AV.list 0 1
 [[vi x429], [vi x430], [vi n711],
 [vi
 (IntKind.wrap IntKind.i64
 (Int.sub
 (IntKind.wrap IntKind.i64
 (Int.add 1099511627776 n714))
 4))],
 [vi
 (IntKind.wrap IntKind.i64
 (Int.sub
 (IntKind.wrap IntKind.i64
 (Int.add
 (IntKind.wrap IntKind.i64
 (Int.tdiv 1099511627776
 (IntKind.wrap IntKind.i64
 (Int.add 1 n717))))
 n720))
 2))]],
 vi 5]
 [Ob.mk OK.box 24 10 0
 [[vi x434, vi x435, vi x436, vi x437, vi x438, vi x439,
 vi x440, vi x441, vi x442, vu x443]],
 Ob.mk OK.box 25 6 0
 [[vi x444, vi x445, vi x446, vi x447, vi x448, vi x449]],
 Ob.mk OK.box 24 10 0
 [[vi x450, vi x451, vi x452, vi x453, vi x454, vi x455,
 vi x456, vi x457, vi x458, vu x459]],
 Ob.mk OK.box 24 10 0
 [[vi n462, vi n464, vi n466, vi n468, vi n470, vi n472,
 vi n474, vi n476, vi n478, vu n480]]])
 fun r721 ↦
 Option.bind (asJump r721) fun j722 ↦
 bif JX.is j722.fst (JX.exit 2) then
 Option.bind (uncons? j722.snd.fst) fun p723 ↦
 Option.bind (AV.bool? p723.fst) fun b724 ↦
 Option.bind (uncons? p723.snd) fun p725 ↦
 Option.bind (AV.int? IntKind.i64 p725.fst)
 fun _ ↦
 Option.bind (nil? p725.snd) fun _ ↦
 Option.bind (uncons? j722.snd.snd) fun p728 ↦
 Option.bind
 (obIs
 (Ob.mk OK.box 24 10 0
 [[vi x434, vi x435, vi x436, vi x437,
 vi x438, vi x439, vi x440, vi x441,
 vi x442, vu x443]])
 p728.fst)
 fun _ ↦
 Option.bind (uncons? p728.fst.es) fun p730 ↦
 Option.bind (nil? p730.snd) fun _ ↦
 Option.bind (uncons? p730.fst) fun p732 ↦
 Option.bind
 (AV.int? IntKind.i64 p732.fst)
 fun n733 ↦
 Option.bind (uncons? p732.snd)
 fun p734 ↦
 Option.bind
 (AV.int? IntKind.i64 p734.fst)
 fun n735 ↦
 Option.bind (uncons? p734.snd)
 fun p736 ↦
 Option.bind
 (AV.int? IntKind.i64
 p736.fst)
 fun n737 ↦
 Option.bind (uncons? p736.snd)
 fun p738 ↦
 Option.bind
 (AV.int? IntKind.i64
 p738.fst)
 fun n739 ↦
 Option.bind
 (uncons? p738.snd)
 fun p740 ↦
 Option.bind
 (AV.int?
 IntKind.i64
 p740.fst)
 fun n741 ↦
 Option.bind
 (uncons? p740.snd)
 fun p742 ↦
 Option.bind
 (AV.int?
 IntKind.i64
 p742.fst)
 fun n743 ↦
 Option.bind
 (uncons?
 p742.snd)
 fun p744 ↦
 Option.bind
 (AV.int?
 IntKind.i64
 p744.fst)
 fun n745 ↦
 Option.bind
 (uncons?
 p744.snd)
 fun p746 ↦
 Option.bind
 (AV.int?
 IntKind.i64
 p746.fst)
 fun n747 ↦
 Option.bind
 (uncons?
 p746.snd)
 fun
 p748 ↦
 Option.bind
 (AV.int?
 IntKind.i64
 p748.fst)
 fun
 n749 ↦
 Option.bind
 (uncons?
 p748.snd)
 fun
 p750 ↦
 Option.bind
 (AV.int?
 IntKind.u64
 p750.fst)
 fun
 n751 ↦
 Option.bind
 (nil?
 p750.snd)
 fun
 _ ↦
 Option.bind
 (chk
 p728.fst.ver
 0)
 fun
 _ ↦
 Option.bind
 (uncons?
 p728.snd)
 fun
 p754 ↦
 Option.bind
 (obIs
 (Ob.mk
 OK.box
 25
 6
 0
 [[vi
 x444,
 vi
 x445,
 vi
 x446,
 vi
 x447,
 vi
 x448,
 vi
 x449]])
 p754.fst)
 fun
 _ ↦
 Option.bind
 (uncons?
 p754.fst.es)
 fun
 p756 ↦
 Option.bind
 (nil?
 p756.snd)
 fun
 _ ↦
 Option.bind
 (uncons?
 p756.fst)
 fun
 p758 ↦
 Option.bind
 (AV.int?
 IntKind.i64
 p758.fst)
 fun
 n759 ↦
 Option.bind
 (uncons?
 p758.snd)
 fun
 p760 ↦
 Option.bind
 (AV.int?
 IntKind.i64
 p760.fst)
 fun
 n761 ↦
 Option.bind
 (uncons?
 p760.snd)
 fun
 p762 ↦
 Option.bind
 (AV.int?
 IntKind.i64
 p762.fst)
 fun
 n763 ↦
 Option.bind
 (uncons?
 p762.snd)
 fun
 p764 ↦
 Option.bind
 (AV.int?
 IntKind.i64
 p764.fst)
 fun
 n765 ↦
 Option.bind
 (uncons?
 p764.snd)
 fun
 p766 ↦
 Option.bind
 (AV.int?
 IntKind.i64
 p766.fst)
 fun
 n767 ↦
 Option.bind
 (uncons?
 p766.snd)
 fun
 p768 ↦
 Option.bind
 (AV.int?
 IntKind.i64
 p768.fst)
 fun
 n769 ↦
 Option.bind
 (nil?
 p768.snd)
 fun
 _ ↦
 Option.bind
 (chk
 p754.fst.ver
 0)
 fun
 _ ↦
 Option.bind
 (uncons?
 p754.snd)
 fun
 p772 ↦
 Option.bind
 (obIs
 (Ob.mk
 OK.box
 24
 10
 0
 [[vi
 x450,
 vi
 x451,
 vi
 x452,
 vi
 x453,
 vi
 x454,
 vi
 x455,
 vi
 x456,
 vi
 x457,
 vi
 x458,
 vu
 x459]])
 p772.fst)
 fun
 _ ↦
 Option.bind
 (uncons?
 p772.fst.es)
 fun
 p774 ↦
 Option.bind
 (nil?
 p774.snd)
 fun
 _ ↦
 Option.bind
 (uncons?
 p774.fst)
 fun
 p776 ↦
 Option.bind
 (AV.int?
 IntKind.i64
 p776.fst)
 fun
 n777 ↦
 Option.bind
 (uncons?
 p776.snd)
 fun
 p778 ↦
 Option.bind
 (AV.int?
 IntKind.i64
 p778.fst)
 fun
 n779 ↦
 Option.bind
 (uncons?
 p778.snd)
 fun
 p780 ↦
 Option.bind
 (AV.int?
 IntKind.i64
 p780.fst)
 fun
 n781 ↦
 Option.bind
 (uncons?
 p780.snd)
 fun
 p782 ↦
 Option.bind
 (AV.int?
 IntKind.i64
 p782.fst)
 fun
 n783 ↦
 Option.bind
 (uncons?
 p782.snd)
 fun
 p784 ↦
 Option.bind
 (AV.int?
 IntKind.i64
 p784.fst)
 fun
 n785 ↦
 Option.bind
 (uncons?
 p784.snd)
 fun
 p786 ↦
 Option.bind
 (AV.int?
 IntKind.i64
 p786.fst)
 fun
 n787 ↦
 Option.bind
 (uncons?
 p786.snd)
 fun
 p788 ↦
 Option.bind
 (AV.int?
 IntKind.i64
 p788.fst)
 fun
 n789 ↦
 Option.bind
 (uncons?
 p788.snd)
 fun
 p790 ↦
 Option.bind
 (AV.int?
 IntKind.i64
 p790.fst)
 fun
 n791 ↦
 Option.bind
 (uncons?
 p790.snd)
 fun
 p792 ↦
 Option.bind
 (AV.int?
 IntKind.i64
 p792.fst)
 fun
 n793 ↦
 Option.bind
 (uncons?
 p792.snd)
 fun
 p794 ↦
 Option.bind
 (AV.int?
 IntKind.u64
 p794.fst)
 fun
 n795 ↦
 Option.bind
 (nil?
 p794.snd)
 fun
 _ ↦
 Option.bind
 (chk
 p772.fst.ver
 0)
 fun
 _ ↦
 Option.bind
 (uncons?
 p772.snd)
 fun
 p798 ↦
 Option.bind
 (obIs
 (Ob.mk
 OK.box
 24
 10
 0
 [[vi
 n462,
 vi
 n464,
 vi
 n466,
 vi
 n468,
 vi
 n470,
 vi
 n472,
 vi
 n474,
 vi
 n476,
 vi
 n478,
 vu
 n480]])
 p798.fst)
 fun
 _ ↦
 Option.bind
 (uncons?
 p798.fst.es)
 fun
 p800 ↦
 Option.bind
 (nil?
 p800.snd)
 fun
 _ ↦
 Option.bind
 (uncons?
 p800.fst)
 fun
 p802 ↦
 Option.bind
 (AV.int?
 IntKind.i64
 p802.fst)
 fun
 _ ↦
 Option.bind
 (uncons?
 p802.snd)
 fun
 p804 ↦
 Option.bind
 (AV.int?
 IntKind.i64
 p804.fst)
 fun
 _ ↦
 Option.bind
 (uncons?
 p804.snd)
 fun
 p806 ↦
 Option.bind
 (AV.int?
 IntKind.i64
 p806.fst)
 fun
 _ ↦
 Option.bind
 (uncons?
 p806.snd)
 fun
 p808 ↦
 Option.bind
 (AV.int?
 IntKind.i64
 p808.fst)
 fun
 _ ↦
 Option.bind
 (uncons?
 p808.snd)
 fun
 p810 ↦
 Option.bind
 (AV.int?
 IntKind.i64
 p810.fst)
 fun
 _ ↦
 Option.bind
 (uncons?
 p810.snd)
 fun
 p812 ↦
 Option.bind
 (AV.int?
 IntKind.i64
 p812.fst)
 fun
 _ ↦
 Option.bind
 (uncons?
 p812.snd)
 fun
 p814 ↦
 Option.bind
 (AV.int?
 IntKind.i64
 p814.fst)
 fun
 _ ↦
 Option.bind
 (uncons?
 p814.snd)
 fun
 p816 ↦
 Option.bind
 (AV.int?
 IntKind.i64
 p816.fst)
 fun
 _ ↦
 Option.bind
 (uncons?
 p816.snd)
 fun
 p818 ↦
 Option.bind
 (AV.int?
 IntKind.i64
 p818.fst)
 fun
 _ ↦
 Option.bind
 (uncons?
 p818.snd)
 fun
 p820 ↦
 Option.bind
 (AV.int?
 IntKind.u64
 p820.fst)
 fun
 _ ↦
 Option.bind
 (nil?
 p820.snd)
 fun
 _ ↦
 Option.bind
 (chk
 p798.fst.ver
 0)
 fun
 _ ↦
 Option.bind
 (nil?
 p798.snd)
 fun
 _ ↦
 Go.Proofs.Av.E
 cx
 (Key.loop
 3
 [true,
 true,
 true,
 false,
 true,
 false])
 [vbool
 b724,
 vi
 (IntKind.wrap
 IntKind.i64
 (Int.add
 x428
 1)),
 vi
 x429,
 vi
 x430,
 vbool
 b431,
 AV.list
 0
 10
 l432,
 vi
 x433]
 [Ob.mk
 OK.box
 24
 10
 0
 [[vi
 n733,
 vi
 n735,
 vi
 n737,
 vi
 n739,
 vi
 n741,
 vi
 n743,
 vi
 n745,
 vi
 n747,
 vi
 n749,
 vu
 n751]],
 Ob.mk
 OK.box
 25
 6
 0
 [[vi
 n759,
 vi
 n761,
 vi
 n763,
 vi
 n765,
 vi
 n767,
 vi
 n769]],
 Ob.mk
 OK.box
 24
 10
 0
 [[vi
 n777,
 vi
 n779,
 vi
 n781,
 vi
 n783,
 vi
 n785,
 vi
 n787,
 vi
 n789,
 vi
 n791,
 vi
 n793,
 vu
 n795]]]
 else
 bif JX.is j722.fst JX.ret then
 Option.bind (uncons? j722.snd.fst) fun p825 ↦
 Option.bind (AV.bool? p825.fst) fun b826 ↦
 Option.bind (uncons? p825.snd) fun p827 ↦
 Option.bind (AV.int? IntKind.i64 p827.fst)
 fun _ ↦
 Option.bind (nil? p827.snd) fun _ ↦
 Option.bind (uncons? j722.snd.snd) fun p830 ↦
 Option.bind
 (obIs
 (Ob.mk OK.box 24 10 0
 [[vi x434, vi x435, vi x436, vi x437,
 vi x438, vi x439, vi x440, vi x441,
 vi x442, vu x443]])
 p830.fst)
 fun _ ↦
 Option.bind (uncons? p830.fst.es) fun p832 ↦
 Option.bind (nil? p832.snd) fun _ ↦
 Option.bind (uncons? p832.fst)
 fun p834 ↦
 Option.bind
 (AV.int? IntKind.i64 p834.fst)
 fun n835 ↦
 Option.bind (uncons? p834.snd)
 fun p836 ↦
 Option.bind
 (AV.int? IntKind.i64
 p836.fst)
 fun n837 ↦
 Option.bind (uncons? p836.snd)
 fun p838 ↦
 Option.bind
 (AV.int? IntKind.i64
 p838.fst)
 fun n839 ↦
 Option.bind
 (uncons? p838.snd)
 fun p840 ↦
 Option.bind
 (AV.int? IntKind.i64
 p840.fst)
 fun n841 ↦
 Option.bind
 (uncons? p840.snd)
 fun p842 ↦
 Option.bind
 (AV.int?
 IntKind.i64
 p842.fst)
 fun n843 ↦
 Option.bind
 (uncons? p842.snd)
 fun p844 ↦
 Option.bind
 (AV.int?
 IntKind.i64
 p844.fst)
 fun n845 ↦
 Option.bind
 (uncons?
 p844.snd)
 fun p846 ↦
 Option.bind
 (AV.int?
 IntKind.i64
 p846.fst)
 fun n847 ↦
 Option.bind
 (uncons?
 p846.snd)
 fun p848 ↦
 Option.bind
 (AV.int?
 IntKind.i64
 p848.fst)
 fun
 n849 ↦
 Option.bind
 (uncons?
 p848.snd)
 fun
 p850 ↦
 Option.bind
 (AV.int?
 IntKind.i64
 p850.fst)
 fun
 n851 ↦
 Option.bind
 (uncons?
 p850.snd)
 fun
 p852 ↦
 Option.bind
 (AV.int?
 IntKind.u64
 p852.fst)
 fun
 n853 ↦
 Option.bind
 (nil?
 p852.snd)
 fun
 _ ↦
 Option.bind
 (chk
 p830.fst.ver
 0)
 fun
 _ ↦
 Option.bind
 (uncons?
 p830.snd)
 fun
 p856 ↦
 Option.bind
 (obIs
 (Ob.mk
 OK.box
 25
 6
 0
 [[vi
 x444,
 vi
 x445,
 vi
 x446,
 vi
 x447,
 vi
 x448,
 vi
 x449]])
 p856.fst)
 fun
 _ ↦
 Option.bind
 (uncons?
 p856.fst.es)
 fun
 p858 ↦
 Option.bind
 (nil?
 p858.snd)
 fun
 _ ↦
 Option.bind
 (uncons?
 p858.fst)
 fun
 p860 ↦
 Option.bind
 (AV.int?
 IntKind.i64
 p860.fst)
 fun
 n861 ↦
 Option.bind
 (uncons?
 p860.snd)
 fun
 p862 ↦
 Option.bind
 (AV.int?
 IntKind.i64
 p862.fst)
 fun
 n863 ↦
 Option.bind
 (uncons?
 p862.snd)
 fun
 p864 ↦
 Option.bind
 (AV.int?
 IntKind.i64
 p864.fst)
 fun
 n865 ↦
 Option.bind
 (uncons?
 p864.snd)
 fun
 p866 ↦
 Option.bind
 (AV.int?
 IntKind.i64
 p866.fst)
 fun
 n867 ↦
 Option.bind
 (uncons?
 p866.snd)
 fun
 p868 ↦
 Option.bind
 (AV.int?
 IntKind.i64
 p868.fst)
 fun
 n869 ↦
 Option.bind
 (uncons?
 p868.snd)
 fun
 p870 ↦
 Option.bind
 (AV.int?
 IntKind.i64
 p870.fst)
 fun
 n871 ↦
 Option.bind
 (nil?
 p870.snd)
 fun
 _ ↦
 Option.bind
 (chk
 p856.fst.ver
 0)
 fun
 _ ↦
 Option.bind
 (uncons?
 p856.snd)
 fun
 p874 ↦
 Option.bind
 (obIs
 (Ob.mk
 OK.box
 24
 10
 0
 [[vi
 x450,
 vi
 x451,
 vi
 x452,
 vi
 x453,
 vi
 x454,
 vi
 x455,
 vi
 x456,
 vi
 x457,
 vi
 x458,
 vu
 x459]])
 p874.fst)
 fun
 _ ↦
 Option.bind
 (uncons?
 p874.fst.es)
 fun
 p876 ↦
 Option.bind
 (nil?
 p876.snd)
 fun
 _ ↦
 Option.bind
 (uncons?
 p876.fst)
 fun
 p878 ↦
 Option.bind
 (AV.int?
 IntKind.i64
 p878.fst)
 fun
 n879 ↦
 Option.bind
 (uncons?
 p878.snd)
 fun
 p880 ↦
 Option.bind
 (AV.int?
 IntKind.i64
 p880.fst)
 fun
 n881 ↦
 Option.bind
 (uncons?
 p880.snd)
 fun
 p882 ↦
 Option.bind
 (AV.int?
 IntKind.i64
 p882.fst)
 fun
 n883 ↦
 Option.bind
 (uncons?
 p882.snd)
 fun
 p884 ↦
 Option.bind
 (AV.int?
 IntKind.i64
 p884.fst)
 fun
 n885 ↦
 Option.bind
 (uncons?
 p884.snd)
 fun
 p886 ↦
 Option.bind
 (AV.int?
 IntKind.i64
 p886.fst)
 fun
 n887 ↦
 Option.bind
 (uncons?
 p886.snd)
 fun
 p888 ↦
 Option.bind
 (AV.int?
 IntKind.i64
 p888.fst)
 fun
 n889 ↦
 Option.bind
 (uncons?
 p888.snd)
 fun
 p890 ↦
 Option.bind
 (AV.int?
 IntKind.i64
 p890.fst)
 fun
 n891 ↦
 Option.bind
 (uncons?
 p890.snd)
 fun
 p892 ↦
 Option.bind
 (AV.int?
 IntKind.i64
 p892.fst)
 fun
 n893 ↦
 Option.bind
 (uncons?
 p892.snd)
 fun
 p894 ↦
 Option.bind
 (AV.int?
 IntKind.i64
 p894.fst)
 fun
 n895 ↦
 Option.bind
 (uncons?
 p894.snd)
 fun
 p896 ↦
 Option.bind
 (AV.int?
 IntKind.u64
 p896.fst)
 fun
 n897 ↦
 Option.bind
 (nil?
 p896.snd)
 fun
 _ ↦
 Option.bind
 (chk
 p874.fst.ver
 0)
 fun
 _ ↦
 Option.bind
 (uncons?
 p874.snd)
 fun
 p900 ↦
 Option.bind
 (obIs
 (Ob.mk
 OK.box
 24
 10
 0
 [[vi
 n462,
 vi
 n464,
 vi
 n466,
 vi
 n468,
 vi
 n470,
 vi
 n472,
 vi
 n474,
 vi
 n476,
 vi
 n478,
 vu
 n480]])
 p900.fst)
 fun
 _ ↦
 Option.bind
 (uncons?
 p900.fst.es)
 fun
 p902 ↦
 Option.bind
 (nil?
 p902.snd)
 fun
 _ ↦
 Option.bind
 (uncons?
 p902.fst)
 fun
 p904 ↦
 Option.bind
 (AV.int?
 IntKind.i64
 p904.fst)
 fun
 _ ↦
 Option.bind
 (uncons?
 p904.snd)
 fun
 p906 ↦
 Option.bind
 (AV.int?
 IntKind.i64
 p906.fst)
 fun
 _ ↦
 Option.bind
 (uncons?
 p906.snd)
 fun
 p908 ↦
 Option.bind
 (AV.int?
 IntKind.i64
 p908.fst)
 fun
 _ ↦
 Option.bind
 (uncons?
 p908.snd)
 fun
 p910 ↦
 Option.bind
 (AV.int?
 IntKind.i64
 p910.fst)
 fun
 _ ↦
 Option.bind
 (uncons?
 p910.snd)
 fun
 p912 ↦
 Option.bind
 (AV.int?
 IntKind.i64
 p912.fst)
 fun
 _ ↦
 Option.bind
 (uncons?
 p912.snd)
 fun
 p914 ↦
 Option.bind
 (AV.int?
 IntKind.i64
 p914.fst)
 fun
 _ ↦
 Option.bind
 (uncons?
 p914.snd)
 fun
 p916 ↦
 Option.bind
 (AV.int?
 IntKind.i64
 p916.fst)
 fun
 _ ↦
 Option.bind
 (uncons?
 p916.snd)
 fun
 p918 ↦
 Option.bind
 (AV.int?
 IntKind.i64
 p918.fst)
 fun
 _ ↦
 Option.bind
 (uncons?
 p918.snd)
 fun
 p920 ↦
 Option.bind
 (AV.int?
 IntKind.i64
 p920.fst)
 fun
 _ ↦
 Option.bind
 (uncons?
 p920.snd)
 fun
 p922 ↦
 Option.bind
 (AV.int?
 IntKind.u64
 p922.fst)
 fun
 _ ↦
 Option.bind
 (nil?
 p922.snd)
 fun
 _ ↦
 Option.bind
 (chk
 p900.fst.ver
 0)
 fun
 _ ↦
 Option.bind
 (nil?
 p900.snd)
 fun
 _ ↦
 some
 (Out.jump
 JX.ret
 [vbool
 b826,
 vi
 x428],
 [Ob.mk
 OK.box
 24
 10
 0
 [[vi
 n835,
 vi
 n837,
 vi
 n839,
 vi
 n841,
 vi
 n843,
 vi
 n845,
 vi
 n847,
 vi
 n849,
 vi
 n851,
 vu
 n853]],
 Ob.mk
 OK.box
 25
 6
 0
 [[vi
 n861,
 vi
 n863,
 vi
 n865,
 vi
 n867,
 vi
 n869,
 vi
 n871]],
 Ob.mk
 OK.box
 24
 10
 0
 [[vi
 n879,
 vi
 n881,
 vi
 n883,
 vi
 n885,
 vi
 n887,
 vi
 n889,
 vi
 n891,
 vi
 n893,
 vi
 n895,
 vu
 n897]]])
 else none
 else none
 else
 some
 (Out.jump (JX.exit 0) [vbool b427, vi x428],
 [Ob.mk OK.box 24 10 0 [[vi x434, vi x435, vi x436, vi x437, vi x438, vi x439, vi x440, vi x441, vi x442, vu x443]],
 Ob.mk OK.box 25 6 0 [[vi x444, vi x445, vi x446, vi x447, vi x448, vi x449]],
 Ob.mk OK.box 24 10 0 [[vi x450, vi x451, vi x452, vi x453, vi x454, vi x455, vi x456, vi x457, vi x458, vu x459]]]) := by
  intros
  exact (E_fast _ _ _ _).trans (by kernel_rfl)

theorem f3_l0_l1 : ∀ (b927 : Bool) (x928 x929 x930 : Int) (b931 : Bool) (l932 : List (List AV)) (x933 x934 : Int) (l935 : List (List AV))
 (x936 x937 x938 x939 x940 x941 x942 x943 x944 x945 x946 x947 x948 x949 x950 x951 x952 x953 x954 x955 x956 x957 x958 x959 x960 x961 x962 x963 x964 x965 x966
 x967 x968 x969 x970 x971 x972 : Int),
 E cx (Key.loop 3 [true, true, true, false, true, false, false, true, true, false, false, true, true, true, false])
 [vbool b927, vi x928, vi x929, vi x930, vbool b931, AV.ptr 3 0 0 0, AV.list 0 10 l932, vi x933, vi x934, AV.list 0 1 l935, vi x936]
 [Ob.mk OK.box 24 10 0 [[vi x937, vi x938, vi x939, vi x940, vi x941, vi x942, vi x943, vi x944, vi x945, vu x946]],
 Ob.mk OK.box 25 6 0 [[vi x947, vi x948, vi x949, vi x950, vi x951, vi x952]],
 Ob.mk OK.box 24 10 0 [[vi x953, vi x954, vi x955, vi x956, vi x957, vi x958, vi x959, vi x960, vi x961, vu x962]],
 Ob.mk OK.box 24 10 0 [[vi x963, vi x964, vi x965, vi x966, vi x967, vi x968, vi x969, vi x970, vi x971, vu x972]]] =
 bif decide (x928 < x936) then
 if 0 ≤ x928 then
 Option.bind l935[Int.toNat x928]? fun cs973 ↦
 Option.bind (uncons? cs973) fun p974 ↦
 Option.bind (AV.int? IntKind.i64 p974.fst) fun n975 ↦
 Option.bind (nil? p974.snd) fun _ ↦
 Option.bind
 (E cx (Key.fn 18) [AV.agg [vi x963, vi x964, vi x965, vi x966, vi x967, vi x968, vi x969, vi x970, vi x971, vu x972], vi n975]
 [])
 fun r977 ↦
 Option.bind (ret1 r977) fun v978 ↦
 Option.bind (AV.tup? v978) fun vs979 ↦
 Option.bind (uncons? vs979) fun p980 ↦
 Option.bind (AV.int? IntKind.i64 p980.fst) fun n981 ↦
 Option.bind (uncons? p980.snd) fun p982 ↦
 Option.bind (AV.int? IntKind.i64 p982.fst) fun n983 ↦
 Option.bind (nil? p982.snd) fun _ ↦
 Option.bind
 (E cx (Key.fn 19)
 [AV.agg [vi x963, vi x964, vi x965, vi x966, vi x967, vi x968, vi x969, vi x970, vi x971, vu x972], vi n975] [])
 fun r985 ↦
 Option.bind (ret1 r985) fun v986 ↦
 Option.bind (AV.tup? v986) fun vs987 ↦
 Option.bind (uncons? vs987) fun p988 ↦
 Option.bind (AV.int? IntKind.i64 p988.fst) fun n989 ↦
 Option.bind (uncons? p988.snd) fun p990 ↦
 Option.bind (AV.int? IntKind.i64 p990.fst) fun n991 ↦
 Option.bind (nil? p990.snd) fun _ ↦
 Option.bind
 (E cx (Key.fn 20)
 [AV.agg [vi x963, vi x964, vi x965, vi x966, vi x967, vi x968, vi x969, vi x970, vi x971, vu x972], vi n975]
 [])
 fun r993 ↦
 Option.bind (ret1 r993) fun v994 ↦
 Option.bind (AV.tup? v994) fun vs995 ↦
 Option.bind (uncons? vs995) fun p996 ↦
 Option.bind (AV.int? IntKind.i64 p996.fst) fun n997 ↦
 Option.bind (uncons? p996.snd) fun p998 ↦
 Option.bind (AV.int? IntKind.i64 p998.fst) fun n999 ↦
 Option.bind (nil? p998.snd) fun _ ↦
 Option.bind
 (E cx (Key.fn 21)
 [AV.agg
 [vi x963, vi x964, vi x965, vi x966, vi x967, vi x968, vi x969, vi x970, vi x971,
 vu x972],
 vi n975]
 [])
 fun r1001 ↦
 Option.bind (ret1 r1001) fun v1002 ↦
 Option.bind (AV.tup? v1002) fun vs1003 ↦
 Option.bind (uncons? vs1003) fun p1004 ↦
 Option.bind (AV.int? IntKind.i64 p1004.fst) fun n1005 ↦
 Option.bind (uncons? p1004.snd) fun p1006 ↦
 Option.bind (AV.int? IntKind.i64 p1006.fst) fun n1007 ↦
 Option.bind (nil? p1006.snd) fun _ ↦
 Option.bind
 (E cx (Key.fn 22)
 [AV.agg
 [vi x963, vi x964, vi x965, vi x966, vi x967, vi x968, vi x969, vi x970,
 vi x971, vu x972],
 vi n975]
 [])
 fun r1009 ↦
 Option.bind (ret1 r1009) fun v1010 ↦
 Option.bind (AV.tup? v1010) fun vs1011 ↦
 Option.bind (uncons? vs1011) fun p1012 ↦
 Option.bind (AV.int? IntKind.i64 p1012.fst) fun n1013 ↦
 Option.bind (uncons? p1012.snd) fun p1014 ↦
 Option.bind (AV.int? IntKind.i64 p1014.fst) fun n1015 ↦
 Option.bind (nil? p1014.snd) fun _ ↦
 Option.bind
 (E cx (Key.fn 23)
 [AV.agg
 [vi x963, vi x964, vi x965, vi x966, vi x967, vi x968,
 vi x969, vi x970, vi x971, vu x972],
 vi n975]
 [])
 fun r1017 ↦
 Option.bind (ret1 r1017) fun v1018 ↦
 Option.bind (AV.tup? v1018) fun vs1019 ↦
 Option.bind (uncons? vs1019) fun p1020 ↦
 Option.bind (AV.int? IntKind.i64 p1020.fst)
 fun n1021 ↦
 Option.bind (uncons? p1020.snd) fun p1022 ↦
 Option.bind (AV.int? IntKind.i64 p1022.fst)
 fun n1023 ↦
 Option.bind (nil? p1022.snd) fun _ ↦
 Option.bind
 (E cx (Key.fn 24)
 [AV.agg
 [vi x963, vi x964, vi x965, vi x966,
 vi x967, vi x968, vi x969, vi x970,
 vi x971, vu x972],
 vi n975]
 [])
 fun r1025 ↦
 Option.bind (ret1 r1025) fun v1026 ↦
 Option.bind (AV.tup? v1026) fun vs1027 ↦
 Option.bind (uncons? vs1027) fun p1028 ↦
 Option.bind
 (AV.int? IntKind.i64 p1028.fst)
 fun n1029 ↦
 Option.bind (uncons? p1028.snd)
 fun p1030 ↦
 Option.bind
 (AV.int? IntKind.i64 p1030.fst)
 fun n1031 ↦
 Option.bind (nil? p1030.snd)
 fun _ ↦
 Option.bind
 (E cx (Key.fn 25)
 [AV.agg
 [vi x963, vi x964,
 vi x965, vi x966,
 vi x967, vi x968,
 vi x969, vi x970,
 vi x971, vu x972],
 vi n975]
 [])
 fun r1033 ↦
 Option.bind (ret1 r1033)
 fun v1034 ↦
 Option.bind (AV.tup? v1034)
 fun vs1035 ↦
 Option.bind
 (uncons? vs1035)
 fun p1036 ↦
 Option.bind
 (AV.int?
 IntKind.i64
 p1036.fst)
 fun n1037 ↦
 Option.bind
 (uncons? p1036.snd)
 fun p1038 ↦
 Option.bind
 (AV.int?
 IntKind.i64
 p1038.fst)
 fun n1039 ↦
 Option.bind
 (nil? p1038.snd)
 fun _ ↦
 Option.bind
 (Go.Proofs.Av.E
 cx
 (Key.fn 26)
 [AV.agg
 [vi
 x963,
 vi
 x964,
 vi
 x965,
 vi
 x966,
 vi
 x967,
 vi
 x968,
 vi
 x969,
 vi
 x970,
 vi
 x971,
 vu
 x972],
 vi n975,
 vi x930]
 [])
 fun r1041 ↦
 Option.bind
 (ret1 r1041)
 fun v1042 ↦
 Option.bind
 (AV.tup?
 v1042)
 fun
 vs1043 ↦
 Option.bind
 (uncons?
 vs1043)
 fun
 p1044 ↦
 Option.bind
 (AV.int?
 IntKind.i64
 p1044.fst)
 fun
 n1045 ↦
 Option.bind
 (uncons?
 p1044.snd)
 fun
 p1046 ↦
 Option.bind
 (AV.int?
 IntKind.i64
 p1046.fst)
 fun
 n1047 ↦
 Option.bind
 (nil?
 p1046.snd)
 fun
 _ ↦
 Option.bind
 (Go.Proofs.Av.E
 cx
 (Key.fn
 27)
 [AV.agg
 [vi
 x963,
 vi
 x964,
 vi
 x965,
 vi
 x966,
 vi
 x967,
 vi
 x968,
 vi
 x969,
 vi
 x970,
 vi
 x971,
 vu
 x972],
 vi
 n975,
 vi
 x930]
 [])
 fun
 r1049 ↦
 Option.bind
 (ret1
 r1049)
 fun
 v1050 ↦
 Option.bind
 (AV.tup?
 v1050)
 fun
 vs1051 ↦
 Option.bind
 (uncons?
 vs1051)
 fun
 p1052 ↦
 Option.bind
 (AV.int?
 IntKind.i64
 p1052.fst)
 fun
 n1053 ↦
 Option.bind
 (uncons?
 p1052.snd)
 fun
 p1054 ↦
 Option.bind
 (AV.int?
 IntKind.i64
 p1054.fst)
 fun
 n1055 ↦
 Option.bind
 (nil?
 p1054.snd)
 fun
 _ ↦
 bif
 n981 !=
 n989 then
 some
 (Out.jump
 JX.ret
 [vbool
 false,
 vi
 x928],
 [Ob.mk
 OK.box
 24
 10
 0
 [[vi
 x937,
 vi
 x938,
 vi
 x939,
 vi
 x940,
 vi
 x941,
 vi
 x942,
 vi
 x943,
 vi
 x944,
 vi
 x945,
 vu
 x946]],
 Ob.mk
 OK.box
 25
 6
 0
 [[vi
 x947,
 vi
 x948,
 vi
 x949,
 vi
 x950,
 vi
 x951,
 vi
 x952]],
 Ob.mk
 OK.box
 24
 10
 0
 [[vi
 x953,
 vi
 x954,
 vi
 x955,
 vi
 x956,
 vi
 x957,
 vi
 x958,
 vi
 x959,
 vi
 x960,
 vi
 x961,
 vu
 x962]],
 Ob.mk
 OK.box
 24
 10
 0
 [[vi
 x963,
 vi
 x964,
 vi
 x965,
 vi
 x966,
 vi
 x967,
 vi
 x968,
 vi
 x969,
 vi
 x970,
 vi
 x971,
 vu
 x972]]])
 else
 bif
 n983 !=
 n991 then
 some
 (Out.jump
 JX.ret
 [vbool
 false,
 vi
 x928],
 [Ob.mk
 OK.box
 24
 10
 0
 [[vi
 x937,
 vi
 x938,
 vi
 x939,
 vi
 x940,
 vi
 x941,
 vi
 x942,
 vi
 x943,
 vi
 x944,
 vi
 x945,
 vu
 x946]],
 Ob.mk
 OK.box
 25
 6
 0
 [[vi
 x947,
 vi
 x948,
 vi
 x949,
 vi
 x950,
 vi
 x951,
 vi
 x952]],
 Ob.mk
 OK.box
 24
 10
 0
 [[vi
 x953,
 vi
 x954,
 vi
 x955,
 vi
 x956,
 vi
 x957,
 vi
 x958,
 vi
 x959,
 vi
 x960,
 vi
 x961,
 vu
 x962]],
 Ob.mk
 OK.box
 24
 10
 0
 [[vi
 x963,
 vi
 x964,
 vi
 x965,
 vi
 x966,
 vi
 x967,
 vi
 x968,
 vi
 x969,
 vi
 x970,
 vi
 x971,
 vu
 x972]]])
 else
 bif
 n997 !=
 n1005 then
 some
 (Out.jump
 JX.ret
 [vbool
 false,
 vi
 x928],
 [Ob.mk
 OK.box
 24
 10
 0
 [[vi
 x937,
 vi
 x938,
 vi
 x939,
 vi
 x940,
 vi
 x941,
 vi
 x942,
 vi
 x943,
 vi
 x944,
 vi
 x945,
 vu
 x946]],
 Ob.mk
 OK.box
 25
 6
 0
 [[vi
 x947,
 vi
 x948,
 vi
 x949,
 vi
 x950,
 vi
 x951,
 vi
 x952]],
 Ob.mk
 OK.box
 24
 10
 0
 [[vi
 x953,
 vi
 x954,
 vi
 x955,
 vi
 x956,
 vi
 x957,
 vi
 x958,
 vi
 x959,
 vi
 x960,
 vi
 x961,
 vu
 x962]],
 Ob.mk
 OK.box
 24
 10
 0
 [[vi
 x963,
 vi
 x964,
 vi
 x965,
 vi
 x966,
 vi
 x967,
 vi
 x968,
 vi
 x969,
 vi
 x970,
 vi
 x971,
 vu
 x972]]])
 else
 bif
 n999 !=
 n1007 then
 some
 (Out.jump
 JX.ret
 [vbool
 false,
 vi
 x928],
 [Ob.mk
 OK.box
 24
 10
 0
 [[vi
 x937,
 vi
 x938,
 vi
 x939,
 vi
 x940,
 vi
 x941,
 vi
 x942,
 vi
 x943,
 vi
 x944,
 vi
 x945,
 vu
 x946]],
 Ob.mk
 OK.box
 25
 6
 0
 [[vi
 x947,
 vi
 x948,
 vi
 x949,
 vi
 x950,
 vi
 x951,
 vi
 x952]],
 Ob.mk
 OK.box
 24
 10
 0
 [[vi
 x953,
 vi
 x954,
 vi
 x955,
 vi
 x956,
 vi
 x957,
 vi
 x958,
 vi
 x959,
 vi
 x960,
 vi
 x961,
 vu
 x962]],
 Ob.mk
 OK.box
 24
 10
 0
 [[vi
 x963,
 vi
 x964,
 vi
 x965,
 vi
 x966,
 vi
 x967,
 vi
 x968,
 vi
 x969,
 vi
 x970,
 vi
 x971,
 vu
 x972]]])
 else
 bif
 n1013 !=
 n1021 then
 some
 (Out.jump
 JX.ret
 [vbool
 false,
 vi
 x928],
 [Ob.mk
 OK.box
 24
 10
 0
 [[vi
 x937,
 vi
 x938,
 vi
 x939,
 vi
 x940,
 vi
 x941,
 vi
 x942,
 vi
 x943,
 vi
 x944,
 vi
 x945,
 vu
 x946]],
 Ob.mk
 OK.box
 25
 6
 0
 [[vi
 x947,
 vi
 x948,
 vi
 x949,
 vi
 x950,
 vi
 x951,
 vi
 x952]],
 Ob.mk
 OK.box
 24
 10
 0
 [[vi
 x953,
 vi
 x954,
 vi
 x955,
 vi
 x956,
 vi
 x957,
 vi
 x958,
 vi
 x959,
 vi
 x960,
 vi
 x961,
 vu
 x962]],
 Ob.mk
 OK.box
 24
 10
 0
 [[vi
 x963,
 vi
 x964,
 vi
 x965,
 vi
 x966,
 vi
 x967,
 vi
 x968,
 vi
 x969,
 vi
 x970,
 vi
 x971,
 vu
 x972]]])
 else
 bif
 n1015 !=
 n1023 then
 some
 (Out.jump
 JX.ret
 [vbool
 false,
 vi
 x928],
 [Ob.mk
 OK.box
 24
 10
 0
 [[vi
 x937,
 vi
 x938,
 vi
 x939,
 vi
 x940,
 vi
 x941,
 vi
 x942,
 vi
 x943,
 vi
 x944,
 vi
 x945,
 vu
 x946]],
 Ob.mk
 OK.box
 25
 6
 0
 [[vi
 x947,
 vi
 x948,
 vi
 x949,
 vi
 x950,
 vi
 x951,
 vi
 x952]],
 Ob.mk
 OK.box
 24
 10
 0
 [[vi
 x953,
 vi
 x954,
 vi
 x955,
 vi
 x956,
 vi
 x957,
 vi
 x958,
 vi
 x959,
 vi
 x960,
 vi
 x961,
 vu
 x962]],
 Ob.mk
 OK.box
 24
 10
 0
 [[vi
 x963,
 vi
 x964,
 vi
 x965,
 vi
 x966,
 vi
 x967,
 vi
 x968,
 vi
 x969,
 vi
 x970,
 vi
 x971,
 vu
 x972]]])
 else
 bif
 n1029 !=
 n1037 then
 some
 (Out.jump
 JX.ret
 [vbool
 false,
 vi
 x928],
 [Ob.mk
 OK.box
 24
 10
 0
 [[vi
 x937,
 vi
 x938,
 vi
 x939,
 vi
 x940,
 vi
 x941,
 vi
 x942,
 vi
 x943,
 vi
 x944,
 vi
 x945,
 vu
 x946]],
 Ob.mk
 OK.box
 25
 6
 0
 [[vi
 x947,
 vi
 x948,
 vi
 x949,
 vi
 x950,
 vi
 x951,
 vi
 x952]],
 Ob.mk
 OK.box
 24
 10
 0
 [[vi
 x953,
 vi
 x954,
 vi
 x955,
 vi
 x956,
 vi
 x957,
 vi
 x958,
 vi
 x959,
 vi
 x960,
 vi
 x961,
 vu
 x962]],
 Ob.mk
 OK.box
 24
 10
 0
 [[vi
 x963,
 vi
 x964,
 vi
 x965,
 vi
 x966,
 vi
 x967,
 vi
 x968,
 vi
 x969,
 vi
 x970,
 vi
 x971,
 vu
 x972]]])
 else
 bif
 n1031 !=
 n1039 then
 some
 (Out.jump
 JX.ret
 [vbool
 false,
 vi
 x928],
 [Ob.mk
 OK.box
 24
 10
 0
 [[vi
 x937,
 vi
 x938,
 vi
 x939,
 vi
 x940,
 vi
 x941,
 vi
 x942,
 vi
 x943,
 vi
 x944,
 vi
 x945,
 vu
 x946]],
 Ob.mk
 OK.box
 25
 6
 0
 [[vi
 x947,
 vi
 x948,
 vi
 x949,
 vi
 x950,
 vi
 x951,
 vi
 x952]],
 Ob.mk
 OK.box
 24
 10
 0
 [[vi
 x953,
 vi
 x954,
 vi
 x955,
 vi
 x956,
 vi
 x957,
 vi
 x958,
 vi
 x959,
 vi
 x960,
 vi
 x961,
 vu
 x962]],
 Ob.mk
 OK.box
 24
 10
 0
 [[vi
 x963,
 vi
 x964,
 vi
 x965,
 vi
 x966,
 vi
 x967,
 vi
 x968,
 vi
 x969,
 vi
 x970,
 vi
 x971,
 vu
 x972]]])
 else
 bif
 n1045 !=
 n1053 then
 some
 (Out.jump
 JX.ret
 [vbool
 false,
 vi
 x928],
 [Ob.mk
 OK.box
 24
 10
 0
 [[vi
 x937,
 vi
 x938,
 vi
 x939,
 vi
 x940,
 vi
 x941,
 vi
 x942,
 vi
 x943,
 vi
 x944,
 vi
 x945,
 vu
 x946]],
 Ob.mk
 OK.box
 25
 6
 0
 [[vi
 x947,
 vi
 x948,
 vi
 x949,
 vi
 x950,
 vi
 x951,
 vi
 x952]],
 Ob.mk
 OK.box
 24
 10
 0
 [[vi
 x953,
 vi
 x954,
 vi
 x955,
 vi
 x956,
 vi
 x957,
 vi
 x958,
 vi
 x959,
 vi
 x960,
 vi
 x961,
 vu
 x962]],
 Ob.mk
 OK.box
 24
 10
 0
 [[vi
 x963,
 vi
 x964,
 vi
 x965,
 vi
 x966,
 vi
 x967,
 vi
 x968,
 vi
 x969,
 vi
 x970,
 vi
 x971,
 vu
 x972]]])
 else
 bif
 n1047 !=
 n1055 then
 some
 (Out.jump
 JX.ret
 [vbool
 false,
 vi
 x928],
 [Ob.mk
 OK.box
 24
 10
 0
 [[vi
 x937,
 vi
 x938,
 vi
 x939,
 vi
 x940,
 vi
 x941,
 vi
 x942,
 vi
 x943,
 vi
 x944,
 vi
 x945,
 vu
 x946]],
 Ob.mk
 OK.box
 25
 6
 0
 [[vi
 x947,
 vi
 x948,
 vi
 x949,
 vi
 x950,
 vi
 x951,
 vi
 x952]],
 Ob.mk
 OK.box
 24
 10
 0
 [[vi
 x953,
 vi
 x954,
 vi
 x955,
 vi
 x956,
 vi
 x957,
 vi
 x958,
 vi
 x959,
 vi
 x960,
 vi
 x961,
 vu
 x962]],
 Ob.mk
 OK.box
 24
 10
 0
 [[vi
 x963,
 vi
 x964,
 vi
 x965,
 vi
 x966,
 vi
 x967,
 vi
 x968,
 vi
 x969,
 vi
 x970,
 vi
 x971,
 vu
 x972]]])
 else
 Go.Proofs.Av.E
 cx
 (Key.loop
 3
 [true,
 true,
 true,
 false,
 true,
 false,
 false,
 true,
 true,
 false,
 false,
 true,
 true,
 true,
 false])
 [vbool
 b927,
 vi
 (IntKind.wrap
 IntKind.i64
 (Int.add
 x928
 1)),
 vi
 x929,
 vi
 x930,
 vbool
 b931,
 AV.ptr
 3
 0
 0
 0,
 AV.list
 0
 10
 l932,
 vi
 x933,
 vi
 x934,
 AV.list
 0
 1
 l935,
 vi
 x936]
 [Ob.mk
 OK.box
 24
 10
 0
 [[vi
 x937,
 vi
 x938,
 vi
 x939,
 vi
 x940,
 vi
 x941,
 vi
 x942,
 vi
 x943,
 vi
 x944,
 vi
 x945,
 vu
 x946]],
 Ob.mk
 OK.box
 25
 6
 0
 [[vi
 x947,
 vi
 x948,
 vi
 x949,
 vi
 x950,
 vi
 x951,
 vi
 x952]],
 Ob.mk
 OK.box
 24
 10
 0
 [[vi
 x953,
 vi
 x954,
 vi
 x955,
 vi
 x956,
 vi
 x957,
 vi
 x958,
 vi
 x959,
 vi
 x960,
 vi
 x961,
 vu
 x962]],
 Ob.mk
 OK.box
 24
 10
 0
 [[vi
 x963,
 vi
 x964,
 vi
 x965,
 vi
 x966,
 vi
 x967,
 vi
 x968,
 vi
 x969,
 vi
 x970,
 vi
 x971,
 vu
 x972]]]
 else none
 else
 some
 (Out.jump (JX.exit 2) [vbool b927, vi x928],
 [Ob.mk OK.box 24 10 0 [[vi x937, vi x938, vi x939, vi x940, vi x941, vi x942, vi x943, vi x944, vi x945, vu x946]],
 Ob.mk OK.box 25 6 0 [[vi x947, vi x948, vi x949, vi x950, vi x951, vi x952]],
 Ob.mk OK.box 24 10 0 [[vi x953, vi x954, vi x955, vi x956, vi x957, vi x958, vi x959, vi x960, vi x961, vu x962]],
 Ob.mk OK.box 24 10 0 [[vi x963, vi x964, vi x965, vi x966, vi x967, vi x968, vi x969, vi x970, vi x971, vu x972]]]) := by
  intros
  exact (E_fast _ _ _ _).trans (by kernel_rfl)

end Go.Proofs.Av
