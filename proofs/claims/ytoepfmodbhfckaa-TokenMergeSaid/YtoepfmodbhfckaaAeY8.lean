/- Tokens: the law that merge does not hang on order. -/
import Derived.Test.YtoepfmodbhfckaaAePQ
set_option maxRecDepth 100000
namespace Go.Proofs.Av
open Go
noncomputable def q8_0 : Bool →
 List (List AV) →
 Int →
 Int →
 Bool →
 List (List AV) → Bool → List (List AV) → Bool → List (List AV) → Option (Out × Heap) :=
 fun b45 es47 n131 n134 b13 es15 b24 es26 b35 es37 ↦
 Option.bind
 (E cx (Key.fn 53)
 [AV.agg [vbool b45, AV.list 0 2 es47],
 AV.agg [vu (IntKind.wrap IntKind.u64 n131), vu (IntKind.wrap IntKind.u64 n134)]]
 [])
 fun r135 ↦
 Option.bind (ret1 r135) fun v136 ↦
 Option.bind (AV.int? IntKind.i64 v136) fun n137 ↦
 Option.bind
 (E cx (Key.fn 53)
 [AV.agg [vbool b13, AV.list 0 2 es15],
 AV.agg [vu (IntKind.wrap IntKind.u64 n131), vu (IntKind.wrap IntKind.u64 n134)]]
 [])
 fun r138 ↦
 Option.bind (ret1 r138) fun v139 ↦
 Option.bind (AV.int? IntKind.i64 v139) fun n140 ↦
 Option.bind
 (E cx (Key.fn 53)
 [AV.agg [vbool b24, AV.list 0 2 es26],
 AV.agg [vu (IntKind.wrap IntKind.u64 n131), vu (IntKind.wrap IntKind.u64 n134)]]
 [])
 fun r141 ↦
 Option.bind (ret1 r141) fun v142 ↦
 Option.bind (AV.int? IntKind.i64 v142) fun n143 ↦
 Option.bind
 (E cx (Key.fn 53)
 [AV.agg [vbool b35, AV.list 0 2 es37],
 AV.agg [vu (IntKind.wrap IntKind.u64 n131), vu (IntKind.wrap IntKind.u64 n134)]]
 [])
 fun r144 ↦
 Option.bind (ret1 r144) fun v145 ↦
 Option.bind (AV.int? IntKind.i64 v145) fun n146 ↦
 bif decide (n137 = IntKind.wrap IntKind.i64 (Int.add (IntKind.wrap IntKind.i64 (Int.add n140 n143)) n146)) then
 bif
 decide
 (((List.length es47) : Int) =
 IntKind.wrap IntKind.i64
 (Int.add (IntKind.wrap IntKind.i64 (Int.add ((List.length es15) : Int) ((List.length es26) : Int))) ((List.length es37) : Int))) then
 some (Out.ret (vbool true), [])
 else some (Out.ret (vbool false), [])
 else some (Out.ret (vbool false), [])


noncomputable def q8_1 : Bool →
 List (List AV) →
 Int →
 Int →
 Bool →
 List (List AV) → Bool → List (List AV) → Bool → List (List AV) → Option (Out × Heap) :=
 fun b45 es47 n131 n134 b13 es15 b24 es26 b35 es37 ↦
 bif decide (b45 = true) then q8_0 b45 es47 n131 n134 b13 es15 b24 es26 b35 es37 else some (Out.ret (vbool false), [])


noncomputable def q8_2 : Bool →
 Bool →
 List (List AV) →
 Int →
 Int →
 Bool → List (List AV) → List (List AV) → Bool → List (List AV) → Option (Out × Heap) :=
 fun b24 b45 es47 n131 n134 b13 es15 es26 b35 es37 ↦ bif b24 then q8_1 b45 es47 n131 n134 b13 es15 b24 es26 b35 es37 else none


noncomputable def q8_3 : Bool →
 Bool →
 List (List AV) →
 Int →
 Int →
 List (List AV) → Bool → List (List AV) → Bool → List (List AV) → Option (Out × Heap) :=
 fun b13 b45 es47 n131 n134 es15 b24 es26 b35 es37 ↦ bif b13 then q8_1 b45 es47 n131 n134 b13 es15 b24 es26 b35 es37 else none


noncomputable def q8_4 : Int →
 Int →
 Int →
 Int →
 Int →
 Bool →
 List (List AV) →
 Bool →
 List (List AV) →
 Bool →
 List (List AV) →
 Bool →
 List (List AV) →
 Bool →
 List (List AV) →
 Int →
 Int → Bool → List (List AV) → Bool → List (List AV) → Option (Out × Heap) :=
 fun n63 n76 n89 n102 n115 b45 es47 b58 es60 b84 es86 b110 es112 b13 es15 key4 root5 b24 es26 b35 es37 ↦
 bif n63 != 0 then some (Out.ret (vbool false), [])
 else
 bif n76 != 0 then some (Out.ret (vbool false), [])
 else
 bif n89 != 0 then some (Out.ret (vbool false), [])
 else
 bif n102 != 0 then some (Out.ret (vbool false), [])
 else
 bif n115 != 0 then some (Out.ret (vbool false), [])
 else
 Option.bind
 (E cx (Key.fn 47)
 [AV.agg [vbool b45, AV.list 0 2 es47],
 AV.agg [vbool b58, AV.list 0 2 es60]]
 [])
 fun r117 ↦
 Option.bind (ret1 r117) fun v118 ↦
 Option.bind (AV.bool? v118) fun b119 ↦
 bif b119 then
 Option.bind
 (E cx (Key.fn 47)
 [AV.agg [vbool b45, AV.list 0 2 es47],
 AV.agg [vbool b84, AV.list 0 2 es86]]
 [])
 fun r120 ↦
 Option.bind (ret1 r120) fun v121 ↦
 Option.bind (AV.bool? v121) fun b122 ↦
 bif b122 then
 Option.bind
 (E cx (Key.fn 47)
 [AV.agg [vbool b110, AV.list 0 2 es112],
 AV.agg [vbool b13, AV.list 0 2 es15]]
 [])
 fun r123 ↦
 Option.bind (ret1 r123) fun v124 ↦
 Option.bind (AV.bool? v124) fun b125 ↦
 bif b125 then
 Option.bind
 (E cx (Key.fn 40)
 [AV.agg [vbool b45, AV.list 0 2 es47]] [])
 fun r126 ↦
 Option.bind (ret1 r126) fun v127 ↦
 Option.bind (AV.bool? v127) fun b128 ↦
 bif b128 then
 Option.bind (E cx (Key.fn 48) [vi key4, vi 12] [])
 fun r129 ↦
 Option.bind (ret1 r129) fun v130 ↦
 Option.bind (AV.int? IntKind.i64 v130) fun n131 ↦
 Option.bind
 (E cx (Key.fn 48) [vi root5, vi 3] [])
 fun r132 ↦
 Option.bind (ret1 r132) fun v133 ↦
 Option.bind (AV.int? IntKind.i64 v133) fun n134 ↦
 bif decide (b13 = false) then
 bif decide (b13 = false) then
 bif b13 then q8_1 b45 es47 n131 n134 b13 es15 b24 es26 b35 es37
 else
 bif decide (b24 = false) then
 bif decide (b24 = false) then
 bif b24 then q8_1 b45 es47 n131 n134 b13 es15 b24 es26 b35 es37
 else
 bif decide (b45 = b35) then q8_0 b45 es47 n131 n134 b13 es15 b24 es26 b35 es37
 else some (Out.ret (vbool false), [])
 else q8_2 b24 b45 es47 n131 n134 b13 es15 es26 b35 es37
 else
 bif decide (b24 = false) then none
 else q8_2 b24 b45 es47 n131 n134 b13 es15 es26 b35 es37
 else q8_3 b13 b45 es47 n131 n134 es15 b24 es26 b35 es37
 else
 bif decide (b13 = false) then none
 else q8_3 b13 b45 es47 n131 n134 es15 b24 es26 b35 es37
 else some (Out.ret (vbool false), [])
 else some (Out.ret (vbool false), [])
 else some (Out.ret (vbool false), [])
 else some (Out.ret (vbool false), [])


noncomputable def q8_5 : List (List AV) →
 Bool → List (List AV) → Bool → List (List AV) → Int → Int → Option (Out × Heap) :=
 fun three2 b13 es15 b24 es26 key4 root5 ↦
 Option.bind (E cx (Key.fn 37) [AV.list 0 1 three2, vbool true] []) fun r31 ↦
 Option.bind (ret1 r31) fun v32 ↦
 Option.bind (AV.cells? v32) fun cs33 ↦
 Option.bind (uncons? cs33) fun p34 ↦
 Option.bind (AV.bool? p34.fst) fun b35 ↦
 Option.bind (uncons? p34.snd) fun p36 ↦
 Option.bind (AV.list? 2 p36.fst) fun es37 ↦
 Option.bind (nil? p36.snd) fun _ ↦
 Option.bind
 (E cx (Key.fn 45)
 [AV.list 0 2
 [[vbool b13, AV.list 0 2 es15], [vbool b24, AV.list 0 2 es26],
 [vbool b35, AV.list 0 2 es37]]]
 [])
 fun r39 ↦
 Option.bind (ret1 r39) fun v40 ↦
 Option.bind (AV.tup? v40) fun vs41 ↦
 Option.bind (uncons? vs41) fun p42 ↦
 Option.bind (AV.cells? p42.fst) fun cs43 ↦
 Option.bind (uncons? cs43) fun p44 ↦
 Option.bind (AV.bool? p44.fst) fun b45 ↦
 Option.bind (uncons? p44.snd) fun p46 ↦
 Option.bind (AV.list? 2 p46.fst) fun es47 ↦
 Option.bind (nil? p46.snd) fun _ ↦
 Option.bind (uncons? p42.snd) fun p49 ↦
 Option.bind (AV.int? IntKind.i64 p49.fst) fun n50 ↦
 Option.bind (nil? p49.snd) fun _ ↦
 Option.bind
 (E cx (Key.fn 45)
 [AV.list 0 2
 [[vbool b35, AV.list 0 2 es37],
 [vbool b13, AV.list 0 2 es15],
 [vbool b24, AV.list 0 2 es26]]]
 [])
 fun r52 ↦
 Option.bind (ret1 r52) fun v53 ↦
 Option.bind (AV.tup? v53) fun vs54 ↦
 Option.bind (uncons? vs54) fun p55 ↦
 Option.bind (AV.cells? p55.fst) fun cs56 ↦
 Option.bind (uncons? cs56) fun p57 ↦
 Option.bind (AV.bool? p57.fst) fun b58 ↦
 Option.bind (uncons? p57.snd) fun p59 ↦
 Option.bind (AV.list? 2 p59.fst) fun es60 ↦
 Option.bind (nil? p59.snd) fun _ ↦
 Option.bind (uncons? p55.snd) fun p62 ↦
 Option.bind (AV.int? IntKind.i64 p62.fst) fun n63 ↦
 Option.bind (nil? p62.snd) fun _ ↦
 Option.bind
 (E cx (Key.fn 45)
 [AV.list 0 2
 [[vbool b13, AV.list 0 2 es15],
 [vbool b24, AV.list 0 2 es26]]]
 [])
 fun r65 ↦
 Option.bind (ret1 r65) fun v66 ↦
 Option.bind (AV.tup? v66) fun vs67 ↦
 Option.bind (uncons? vs67) fun p68 ↦
 Option.bind (AV.cells? p68.fst) fun cs69 ↦
 Option.bind (uncons? cs69) fun p70 ↦
 Option.bind (AV.bool? p70.fst) fun b71 ↦
 Option.bind (uncons? p70.snd) fun p72 ↦
 Option.bind (AV.list? 2 p72.fst) fun es73 ↦
 Option.bind (nil? p72.snd) fun _ ↦
 Option.bind (uncons? p68.snd) fun p75 ↦
 Option.bind (AV.int? IntKind.i64 p75.fst) fun n76 ↦
 Option.bind (nil? p75.snd) fun _ ↦
 Option.bind
 (E cx (Key.fn 45)
 [AV.list 0 2
 [[vbool b35,
 AV.list 0 2 es37],
 [vbool b71,
 AV.list 0 2 es73]]]
 [])
 fun r78 ↦
 Option.bind (ret1 r78) fun v79 ↦
 Option.bind (AV.tup? v79) fun vs80 ↦
 Option.bind (uncons? vs80) fun p81 ↦
 Option.bind (AV.cells? p81.fst) fun cs82 ↦
 Option.bind (uncons? cs82) fun p83 ↦
 Option.bind (AV.bool? p83.fst)
 fun b84 ↦
 Option.bind (uncons? p83.snd)
 fun p85 ↦
 Option.bind (AV.list? 2 p85.fst)
 fun es86 ↦
 Option.bind (nil? p85.snd)
 fun _ ↦
 Option.bind (uncons? p81.snd)
 fun p88 ↦
 Option.bind
 (AV.int? IntKind.i64
 p88.fst)
 fun n89 ↦
 Option.bind (nil? p88.snd)
 fun _ ↦
 Option.bind
 (E cx
 (Key.fn 45)
 [AV.val
 (Value.slice none 0 0)]
 [])
 fun r91 ↦
 Option.bind (ret1 r91)
 fun v92 ↦
 Option.bind
 (AV.tup? v92)
 fun vs93 ↦
 Option.bind
 (uncons? vs93)
 fun p94 ↦
 Option.bind
 (AV.cells?
 p94.fst)
 fun cs95 ↦
 Option.bind
 (uncons?
 cs95)
 fun p96 ↦
 Option.bind
 (AV.bool?
 p96.fst)
 fun b97 ↦
 Option.bind
 (uncons?
 p96.snd)
 fun p98 ↦
 Option.bind
 (AV.list?
 2 p98.fst)
 fun es99 ↦
 Option.bind
 (nil?
 p98.snd)
 fun _ ↦
 Option.bind
 (uncons?
 p94.snd)
 fun p101 ↦
 Option.bind
 (AV.int?
 IntKind.i64
 p101.fst)
 fun n102 ↦
 Option.bind
 (nil?
 p101.snd)
 fun _ ↦
 Option.bind
 (E
 cx
 (Key.fn
 45)
 [AV.list
 0 2
 [[vbool
 b97,
 AV.list
 0
 2
 es99],
 [vbool
 b13,
 AV.list
 0
 2
 es15]]]
 [])
 fun r104 ↦
 Option.bind
 (ret1
 r104)
 fun
 v105 ↦
 Option.bind
 (AV.tup?
 v105)
 fun
 vs106 ↦
 Option.bind
 (uncons?
 vs106)
 fun
 p107 ↦
 Option.bind
 (AV.cells?
 p107.fst)
 fun
 cs108 ↦
 Option.bind
 (uncons?
 cs108)
 fun
 p109 ↦
 Option.bind
 (AV.bool?
 p109.fst)
 fun
 b110 ↦
 Option.bind
 (uncons?
 p109.snd)
 fun
 p111 ↦
 Option.bind
 (AV.list?
 2
 p111.fst)
 fun
 es112 ↦
 Option.bind
 (nil?
 p111.snd)
 fun
 _ ↦
 Option.bind
 (uncons?
 p107.snd)
 fun
 p114 ↦
 Option.bind
 (AV.int?
 IntKind.i64
 p114.fst)
 fun
 n115 ↦
 Option.bind
 (nil?
 p114.snd)
 fun
 _ ↦
 bif
 n50 !=
 0 then
 some
 (Out.ret
 (vbool
 false),
 [])
 else
 q8_4
 n63
 n76
 n89
 n102
 n115
 b45
 es47
 b58
 es60
 b84
 es86
 b110
 es112
 b13
 es15
 key4
 root5
 b24
 es26
 b35
 es37


noncomputable def q8_6 : List (List AV) →
 Bool → List (List AV) → Bool → List (List AV) → Int → Int → Option (Out × Heap) :=
 fun three2 b13 es15 b24 es26 key4 root5 ↦
 Option.bind (E cx (Key.fn 37) [AV.list 0 1 three2, vbool false] []) fun r219 ↦
 Option.bind (ret1 r219) fun v220 ↦
 Option.bind (AV.cells? v220) fun cs221 ↦
 Option.bind (uncons? cs221) fun p222 ↦
 Option.bind (AV.bool? p222.fst) fun b223 ↦
 Option.bind (uncons? p222.snd) fun p224 ↦
 Option.bind (AV.list? 2 p224.fst) fun es225 ↦
 Option.bind (nil? p224.snd) fun _ ↦
 Option.bind
 (E cx (Key.fn 45)
 [AV.list 0 2
 [[vbool b13, AV.list 0 2 es15], [vbool b24, AV.list 0 2 es26],
 [vbool b223, AV.list 0 2 es225]]]
 [])
 fun r227 ↦
 Option.bind (ret1 r227) fun v228 ↦
 Option.bind (AV.tup? v228) fun vs229 ↦
 Option.bind (uncons? vs229) fun p230 ↦
 Option.bind (AV.cells? p230.fst) fun cs231 ↦
 Option.bind (uncons? cs231) fun p232 ↦
 Option.bind (AV.bool? p232.fst) fun b233 ↦
 Option.bind (uncons? p232.snd) fun p234 ↦
 Option.bind (AV.list? 2 p234.fst) fun es235 ↦
 Option.bind (nil? p234.snd) fun _ ↦
 Option.bind (uncons? p230.snd) fun p237 ↦
 Option.bind (AV.int? IntKind.i64 p237.fst) fun n238 ↦
 Option.bind (nil? p237.snd) fun _ ↦
 Option.bind
 (E cx (Key.fn 45)
 [AV.list 0 2
 [[vbool b223, AV.list 0 2 es225],
 [vbool b13, AV.list 0 2 es15],
 [vbool b24, AV.list 0 2 es26]]]
 [])
 fun r240 ↦
 Option.bind (ret1 r240) fun v241 ↦
 Option.bind (AV.tup? v241) fun vs242 ↦
 Option.bind (uncons? vs242) fun p243 ↦
 Option.bind (AV.cells? p243.fst) fun cs244 ↦
 Option.bind (uncons? cs244) fun p245 ↦
 Option.bind (AV.bool? p245.fst) fun b246 ↦
 Option.bind (uncons? p245.snd) fun p247 ↦
 Option.bind (AV.list? 2 p247.fst) fun es248 ↦
 Option.bind (nil? p247.snd) fun _ ↦
 Option.bind (uncons? p243.snd) fun p250 ↦
 Option.bind (AV.int? IntKind.i64 p250.fst) fun n251 ↦
 Option.bind (nil? p250.snd) fun _ ↦
 Option.bind
 (E cx (Key.fn 45)
 [AV.list 0 2
 [[vbool b13, AV.list 0 2 es15],
 [vbool b24, AV.list 0 2 es26]]]
 [])
 fun r253 ↦
 Option.bind (ret1 r253) fun v254 ↦
 Option.bind (AV.tup? v254) fun vs255 ↦
 Option.bind (uncons? vs255) fun p256 ↦
 Option.bind (AV.cells? p256.fst) fun cs257 ↦
 Option.bind (uncons? cs257) fun p258 ↦
 Option.bind (AV.bool? p258.fst) fun b259 ↦
 Option.bind (uncons? p258.snd) fun p260 ↦
 Option.bind (AV.list? 2 p260.fst) fun es261 ↦
 Option.bind (nil? p260.snd) fun _ ↦
 Option.bind (uncons? p256.snd) fun p263 ↦
 Option.bind (AV.int? IntKind.i64 p263.fst)
 fun n264 ↦
 Option.bind (nil? p263.snd) fun _ ↦
 Option.bind
 (E cx (Key.fn 45)
 [AV.list 0 2
 [[vbool b223,
 AV.list 0 2 es225],
 [vbool b259,
 AV.list 0 2 es261]]]
 [])
 fun r266 ↦
 Option.bind (ret1 r266) fun v267 ↦
 Option.bind (AV.tup? v267) fun vs268 ↦
 Option.bind (uncons? vs268) fun p269 ↦
 Option.bind (AV.cells? p269.fst)
 fun cs270 ↦
 Option.bind (uncons? cs270) fun p271 ↦
 Option.bind (AV.bool? p271.fst)
 fun b272 ↦
 Option.bind (uncons? p271.snd)
 fun p273 ↦
 Option.bind (AV.list? 2 p273.fst)
 fun es274 ↦
 Option.bind (nil? p273.snd)
 fun _ ↦
 Option.bind (uncons? p269.snd)
 fun p276 ↦
 Option.bind
 (AV.int? IntKind.i64
 p276.fst)
 fun n277 ↦
 Option.bind (nil? p276.snd)
 fun _ ↦
 Option.bind
 (E cx
 (Key.fn 45)
 [AV.val
 (Value.slice none 0 0)]
 [])
 fun r279 ↦
 Option.bind (ret1 r279)
 fun v280 ↦
 Option.bind
 (AV.tup? v280)
 fun vs281 ↦
 Option.bind
 (uncons? vs281)
 fun p282 ↦
 Option.bind
 (AV.cells?
 p282.fst)
 fun cs283 ↦
 Option.bind
 (uncons?
 cs283)
 fun p284 ↦
 Option.bind
 (AV.bool?
 p284.fst)
 fun b285 ↦
 Option.bind
 (uncons?
 p284.snd)
 fun p286 ↦
 Option.bind
 (AV.list?
 2 p286.fst)
 fun es287 ↦
 Option.bind
 (nil?
 p286.snd)
 fun _ ↦
 Option.bind
 (uncons?
 p282.snd)
 fun p289 ↦
 Option.bind
 (AV.int?
 IntKind.i64
 p289.fst)
 fun n290 ↦
 Option.bind
 (nil?
 p289.snd)
 fun _ ↦
 Option.bind
 (E
 cx
 (Key.fn
 45)
 [AV.list
 0 2
 [[vbool
 b285,
 AV.list
 0
 2
 es287],
 [vbool
 b13,
 AV.list
 0
 2
 es15]]]
 [])
 fun r292 ↦
 Option.bind
 (ret1
 r292)
 fun
 v293 ↦
 Option.bind
 (AV.tup?
 v293)
 fun
 vs294 ↦
 Option.bind
 (uncons?
 vs294)
 fun
 p295 ↦
 Option.bind
 (AV.cells?
 p295.fst)
 fun
 cs296 ↦
 Option.bind
 (uncons?
 cs296)
 fun
 p297 ↦
 Option.bind
 (AV.bool?
 p297.fst)
 fun
 b298 ↦
 Option.bind
 (uncons?
 p297.snd)
 fun
 p299 ↦
 Option.bind
 (AV.list?
 2
 p299.fst)
 fun
 es300 ↦
 Option.bind
 (nil?
 p299.snd)
 fun
 _ ↦
 Option.bind
 (uncons?
 p295.snd)
 fun
 p302 ↦
 Option.bind
 (AV.int?
 IntKind.i64
 p302.fst)
 fun
 n303 ↦
 Option.bind
 (nil?
 p302.snd)
 fun
 _ ↦
 bif
 n238 !=
 0 then
 some
 (Out.ret
 (vbool
 false),
 [])
 else
 q8_4
 n251
 n264
 n277
 n290
 n303
 b233
 es235
 b246
 es248
 b272
 es274
 b298
 es300
 b13
 es15
 key4
 root5
 b24
 es26
 b223
 es225


noncomputable def q8_7 : List (List AV) → Int → List (List AV) → Bool → List (List AV) → Int → Int → Option (Out × Heap) :=
 fun two1 forged3 three2 b13 es15 key4 root5 ↦
 Option.bind (E cx (Key.fn 37) [AV.list 0 1 two1, vbool true] []) fun r20 ↦
 Option.bind (ret1 r20) fun v21 ↦
 Option.bind (AV.cells? v21) fun cs22 ↦
 Option.bind (uncons? cs22) fun p23 ↦
 Option.bind (AV.bool? p23.fst) fun b24 ↦
 Option.bind (uncons? p23.snd) fun p25 ↦
 Option.bind (AV.list? 2 p25.fst) fun es26 ↦
 Option.bind (nil? p25.snd) fun _ ↦
 Option.bind (E cx (Key.fn 48) [vi forged3, vi 8] []) fun r28 ↦
 Option.bind (ret1 r28) fun v29 ↦
 Option.bind (AV.int? IntKind.i64 v29) fun n30 ↦
 bif decide (n30 = 3) then q8_5 three2 b13 es15 b24 es26 key4 root5
 else q8_6 three2 b13 es15 b24 es26 key4 root5


noncomputable def q8_8 : List (List AV) → Int → List (List AV) → Bool → List (List AV) → Int → Int → Option (Out × Heap) :=
 fun two1 forged3 three2 b13 es15 key4 root5 ↦
 Option.bind (E cx (Key.fn 37) [AV.list 0 1 two1, vbool false] []) fun r407 ↦
 Option.bind (ret1 r407) fun v408 ↦
 Option.bind (AV.cells? v408) fun cs409 ↦
 Option.bind (uncons? cs409) fun p410 ↦
 Option.bind (AV.bool? p410.fst) fun b411 ↦
 Option.bind (uncons? p410.snd) fun p412 ↦
 Option.bind (AV.list? 2 p412.fst) fun es413 ↦
 Option.bind (nil? p412.snd) fun _ ↦
 Option.bind (E cx (Key.fn 48) [vi forged3, vi 8] []) fun r415 ↦
 Option.bind (ret1 r415) fun v416 ↦
 Option.bind (AV.int? IntKind.i64 v416) fun n417 ↦
 bif decide (n417 = 3) then q8_5 three2 b13 es15 b411 es413 key4 root5
 else q8_6 three2 b13 es15 b411 es413 key4 root5


theorem f8 : ∀ (one0 two1 three2 : List (List AV)) (forged3 key4 root5 : Int),
 E cx (Key.fn 8)
 [AV.list 0 1 one0, AV.list 0 1 two1, AV.list 0 1 three2, vi forged3, vi key4,
 vi root5]
 [] =
 Option.bind (E cx (Key.fn 48) [vi forged3, vi 8] []) fun r6 ↦
 Option.bind (ret1 r6) fun v7 ↦
 Option.bind (AV.int? IntKind.i64 v7) fun n8 ↦
 bif decide (n8 = 1) then
 Option.bind (E cx (Key.fn 37) [AV.list 0 1 one0, vbool true] []) fun r9 ↦
 Option.bind (ret1 r9) fun v10 ↦
 Option.bind (AV.cells? v10) fun cs11 ↦
 Option.bind (uncons? cs11) fun p12 ↦
 Option.bind (AV.bool? p12.fst) fun b13 ↦
 Option.bind (uncons? p12.snd) fun p14 ↦
 Option.bind (AV.list? 2 p14.fst) fun es15 ↦
 Option.bind (nil? p14.snd) fun _ ↦
 Option.bind (E cx (Key.fn 48) [vi forged3, vi 8] []) fun r17 ↦
 Option.bind (ret1 r17) fun v18 ↦
 Option.bind (AV.int? IntKind.i64 v18) fun n19 ↦
 bif decide (n19 = 2) then q8_7 two1 forged3 three2 b13 es15 key4 root5
 else q8_8 two1 forged3 three2 b13 es15 key4 root5
 else
 Option.bind (E cx (Key.fn 37) [AV.list 0 1 one0, vbool false] []) fun r794 ↦
 Option.bind (ret1 r794) fun v795 ↦
 Option.bind (AV.cells? v795) fun cs796 ↦
 Option.bind (uncons? cs796) fun p797 ↦
 Option.bind (AV.bool? p797.fst) fun b798 ↦
 Option.bind (uncons? p797.snd) fun p799 ↦
 Option.bind (AV.list? 2 p799.fst) fun es800 ↦
 Option.bind (nil? p799.snd) fun _ ↦
 Option.bind (E cx (Key.fn 48) [vi forged3, vi 8] []) fun r802 ↦
 Option.bind (ret1 r802) fun v803 ↦
 Option.bind (AV.int? IntKind.i64 v803) fun n804 ↦
 bif decide (n804 = 2) then q8_7 two1 forged3 three2 b798 es800 key4 root5
 else q8_8 two1 forged3 three2 b798 es800 key4 root5 := by
  intros
  exact (E_ov f36_true [188] _ _ _).trans (by kernel_rfl)


theorem f45n : E cx (Key.fn 45) [AV.val (Value.slice none 0 0)] [] =
 Option.bind
 (Option.bind
 (E cx (Key.fn 149) [AV.val (Value.slice none 0 0), AV.func (Fn.func 112) [] []] [])
 fun r0 ↦
 Option.bind (ret1 r0) fun v1 ↦
 Option.bind (AV.int? IntKind.i64 v1) fun n2 ↦
 bif decide (n2 ≥ 0) then some (Out.ret (vbool true), []) else some (Out.ret (vbool false), []))
 fun r3 ↦
 Option.bind (ret1 r3) fun v4 ↦
 Option.bind (AV.bool? v4) fun b5 ↦
 bif b5 then
 some
 (Out.ret
 (AV.tuple [AV.agg [vbool false, AV.val (Value.slice none 0 0)], vi 1]),
 [])
 else
 Option.bind
 (E cx (Key.loop 45 [true, true, false, true, false])
 [vi 0, vi 0, AV.ptr 0 0 0 0, AV.val (Value.slice none 0 0), vi 0]
 [Ob.mk OK.box 36 2 0 [[vbool false, AV.arr 1 2 0 0]],
 Ob.mk OK.arr 80 2 2 []])
 fun r6 ↦
 Option.bind (asJump r6) fun j7 ↦
 bif JX.is j7.fst (JX.exit 0) then
 Option.bind (uncons? j7.snd.fst) fun p8 ↦
 Option.bind (AV.int? IntKind.i64 p8.fst) fun _ ↦
 Option.bind (uncons? p8.snd) fun p10 ↦
 Option.bind (AV.int? IntKind.i64 p10.fst) fun _ ↦
 Option.bind (nil? p10.snd) fun _ ↦
 Option.bind (uncons? j7.snd.snd) fun p13 ↦
 Option.bind
 (obIs (Ob.mk OK.box 36 2 0 [[vbool false, AV.arr 1 2 0 0]])
 p13.fst)
 fun _ ↦
 Option.bind (chk p13.fst.ver 0) fun _ ↦
 Option.bind (uncons? p13.fst.es) fun p16 ↦
 Option.bind (nil? p16.snd) fun _ ↦
 Option.bind (uncons? p16.fst) fun p18 ↦
 Option.bind (AV.bool? p18.fst) fun b19 ↦
 Option.bind (uncons? p18.snd) fun p20 ↦
 Option.bind (AV.arr? 1 p20.fst) fun x21 ↦
 Option.bind (chk x21.fst 2) fun _ ↦
 Option.bind (nil? p20.snd) fun _ ↦
 Option.bind (uncons? p13.snd) fun p24 ↦
 Option.bind (obIs (Ob.mk OK.arr 80 2 2 []) p24.fst) fun _ ↦
 Option.bind (chk p24.fst.ver 2) fun _ ↦
 Option.bind (nil? p24.snd) fun _ ↦
 Option.bind
 (chkLe (Nat.add x21.snd.fst x21.snd.snd)
 (List.length (Ob.mk OK.arr 80 2 2 p24.fst.es).es))
 fun _ ↦
 if x21.snd.snd ≤ 4611686018427387903 then
 Option.bind
 (sortP [AV.func (Fn.func 109) [] []]
 (List.drop x21.snd.fst
 (List.take (Nat.add x21.snd.fst x21.snd.snd)
 (Ob.mk OK.arr 80 2 2 p24.fst.es).es)))
 fun zs29 ↦
 Option.bind
 (chkLe (Nat.add x21.snd.fst x21.snd.snd)
 (List.length
 (List.take x21.snd.fst (Ob.mk OK.arr 80 2 2 p24.fst.es).es ++
 zs29 ++
 List.drop (Nat.add x21.snd.fst x21.snd.snd)
 (Ob.mk OK.arr 80 2 2 p24.fst.es).es)))
 fun _ ↦
 some
 (Out.ret
 (AV.tuple
 [AV.agg
 [vbool b19,
 AV.list 0 2
 (List.drop x21.snd.fst
 (List.take (Nat.add x21.snd.fst x21.snd.snd)
 (List.take x21.snd.fst
 (Ob.mk OK.arr 80 2 2 p24.fst.es).es ++
 zs29 ++
 List.drop (Nat.add x21.snd.fst x21.snd.snd)
 (Ob.mk OK.arr 80 2 2 p24.fst.es).es)))],
 vi 0]),
 [])
 else none
 else
 bif JX.is j7.fst JX.ret then
 Option.bind (uncons? j7.snd.fst) fun p31 ↦
 Option.bind (AV.int? IntKind.i64 p31.fst) fun n32 ↦
 Option.bind (uncons? p31.snd) fun p33 ↦
 Option.bind (AV.int? IntKind.i64 p33.fst) fun _ ↦
 Option.bind (nil? p33.snd) fun _ ↦
 Option.bind (uncons? j7.snd.snd) fun p36 ↦
 Option.bind
 (obIs
 (Ob.mk OK.box 36 2 0 [[vbool false, AV.val (Value.slice none 0 0)]])
 p36.fst)
 fun _ ↦
 Option.bind (chk p36.fst.ver 0) fun _ ↦
 Option.bind (uncons? p36.fst.es) fun p39 ↦
 Option.bind (nil? p39.snd) fun _ ↦
 Option.bind (uncons? p39.fst) fun p41 ↦
 Option.bind (AV.bool? p41.fst) fun b42 ↦
 Option.bind (uncons? p41.snd) fun p43 ↦
 Option.bind (AV.nilS? p43.fst) fun _ ↦
 Option.bind (nil? p43.snd) fun _ ↦
 Option.bind (uncons? p36.snd) fun p46 ↦
 Option.bind (obIs (Ob.mk OK.dead 80 2 2 []) p46.fst) fun _ ↦
 Option.bind (chk p46.fst.ver 2) fun _ ↦
 Option.bind (nil? p46.snd) fun _ ↦
 some
 (Out.ret
 (AV.tuple
 [AV.agg [vbool b42, AV.val (Value.slice none 0 0)],
 vi n32]),
 [])
 else none := by
  intros
  exact (E_in [188, 111, 149] _ _ _).trans (by kernel_rfl)


theorem f45n_c0 : E cx (Key.fn 149) [AV.val (Value.slice none 0 0), AV.func (Fn.func 112) [] []] [] =
 Option.bind
 (E cx (Key.loop 149 [true, false, true, false])
 [vi 0, vi 0, AV.val (Value.slice none 0 0), AV.func (Fn.func 112) [] [], vi 0] [])
 fun r50 ↦
 Option.bind (asJump r50) fun j51 ↦
 bif JX.is j51.fst (JX.exit 0) then
 Option.bind (uncons? j51.snd.fst) fun p52 ↦
 Option.bind (AV.int? IntKind.i64 p52.fst) fun _ ↦
 Option.bind (uncons? p52.snd) fun p54 ↦
 Option.bind (AV.int? IntKind.i64 p54.fst) fun _ ↦
 Option.bind (nil? p54.snd) fun _ ↦
 Option.bind (nil? j51.snd.snd) fun _ ↦ some (Out.ret (vi (-1)), [])
 else
 bif JX.is j51.fst JX.ret then
 Option.bind (uncons? j51.snd.fst) fun p58 ↦
 Option.bind (AV.int? IntKind.i64 p58.fst) fun n59 ↦
 Option.bind (uncons? p58.snd) fun p60 ↦
 Option.bind (AV.int? IntKind.i64 p60.fst) fun _ ↦
 Option.bind (nil? p60.snd) fun _ ↦
 Option.bind (nil? j51.snd.snd) fun _ ↦ some (Out.ret (vi n59), [])
 else none := by
  intros
  exact (E_in [188, 111, 149] _ _ _).trans (by kernel_rfl)


theorem f45n_c0_l1 : ∀ (x64 x65 x66 : Int),
 E cx (Key.loop 149 [true, false, true, false])
 [vi x64, vi x65, AV.val (Value.slice none 0 0), AV.func (Fn.func 112) [] [],
 vi x66]
 [] =
 bif decide (x65 < x66) then none else some (Out.jump (JX.exit 0) [vi x64, vi x65], []) := by
  intros
  exact (E_in [188, 111, 149] _ _ _).trans (by kernel_rfl)


theorem f45n_l2 : ∀ (x67 x68 x69 : Int) (b70 : Bool) (n71 : Nat) (l72 : List (List AV)),
 E cx (Key.loop 45 [true, true, false, true, false])
 [vi x67, vi x68, AV.ptr 0 0 0 0, AV.val (Value.slice none 0 0), vi x69]
 [Ob.mk OK.box 36 2 0 [[vbool b70, AV.arr 1 2 0 n71]],
 Ob.mk OK.arr 80 2 2 l72] =
 bif decide (x68 < x69) then none
 else
 some
 (Out.jump (JX.exit 0) [vi x67, vi x68],
 [Ob.mk OK.box 36 2 0 [[vbool b70, AV.arr 1 2 0 n71]],
 Ob.mk OK.arr 80 2 2 l72]) := by
  intros
  exact (E_in [188, 111, 149] _ _ _).trans (by kernel_rfl)

end Go.Proofs.Av
