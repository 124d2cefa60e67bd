/- The small functions' trees. -/
import Derived.Test.YtoaihfbmoppajaaDoorAbX
set_option maxRecDepth 100000
namespace Go.Proofs.Av
open Go
theorem f4 : E cx (Key.fn 4) [] [] =
 Option.bind (E cx (Key.fn 10) [AV.agg [vi 1, vi 4, vi 1, vi 1, vi 10, vi 2, vi 3, vi 0, vi 1, vu 0], vi 4] []) fun r139 ↦
 Option.bind (ret1 r139) fun v140 ↦
 Option.bind (AV.tup? v140) fun vs141 ↦
 Option.bind (uncons? vs141) fun p142 ↦
 Option.bind (AV.int? IntKind.i64 p142.fst) fun n143 ↦
 Option.bind (uncons? p142.snd) fun p144 ↦
 Option.bind (AV.int? IntKind.i64 p144.fst) fun n145 ↦
 Option.bind (nil? p144.snd) fun x146 ↦
 Option.bind (E cx (Key.fn 11) [AV.agg [vi 1, vi 4, vi 1, vi 1, vi 10, vi 2, vi 3, vi 0, vi 1, vu 0], vi 4] []) fun r147 ↦
 Option.bind (ret1 r147) fun v148 ↦
 Option.bind (AV.tup? v148) fun vs149 ↦
 Option.bind (uncons? vs149) fun p150 ↦
 Option.bind (AV.int? IntKind.i64 p150.fst) fun n151 ↦
 Option.bind (uncons? p150.snd) fun p152 ↦
 Option.bind (AV.int? IntKind.i64 p152.fst) fun n153 ↦
 Option.bind (nil? p152.snd) fun x154 ↦
 Option.bind (E cx (Key.fn 8) [AV.agg [vi 1, vi 4, vi 1, vi 1, vi 10, vi 2, vi 3, vi 0, vi 1, vu 0], vi 38] [])
 fun r155 ↦
 Option.bind (ret1 r155) fun v156 ↦
 Option.bind (AV.tup? v156) fun vs157 ↦
 Option.bind (uncons? vs157) fun p158 ↦
 Option.bind (AV.int? IntKind.i64 p158.fst) fun n159 ↦
 Option.bind (uncons? p158.snd) fun p160 ↦
 Option.bind (AV.int? IntKind.i64 p160.fst) fun n161 ↦
 Option.bind (uncons? p160.snd) fun p162 ↦
 Option.bind (AV.int? IntKind.i64 p162.fst) fun n163 ↦
 Option.bind (nil? p162.snd) fun x164 ↦
 Option.bind
 (E cx (Key.fn 8)
 [AV.agg [vi 1, vi 4, vi 1, vi 1, vi 10, vi 2, vi 3, vi 0, vi 1, vu 0], vi 42] [])
 fun r165 ↦
 Option.bind (ret1 r165) fun v166 ↦
 Option.bind (AV.tup? v166) fun vs167 ↦
 Option.bind (uncons? vs167) fun p168 ↦
 Option.bind (AV.int? IntKind.i64 p168.fst) fun n169 ↦
 Option.bind (uncons? p168.snd) fun p170 ↦
 Option.bind (AV.int? IntKind.i64 p170.fst) fun n171 ↦
 Option.bind (uncons? p170.snd) fun p172 ↦
 Option.bind (AV.int? IntKind.i64 p172.fst) fun n173 ↦
 Option.bind (nil? p172.snd) fun x174 ↦
 Option.bind
 (E cx (Key.fn 9)
 [AV.agg [vi 1, vi 4, vi 1, vi 1, vi 10, vi 2, vi 3, vi 0, vi 1, vu 0], vi 82,
 vi 4]
 [])
 fun r175 ↦
 Option.bind (ret1 r175) fun v176 ↦
 Option.bind (AV.tup? v176) fun vs177 ↦
 Option.bind (uncons? vs177) fun p178 ↦
 Option.bind (AV.int? IntKind.i64 p178.fst) fun n179 ↦
 Option.bind (uncons? p178.snd) fun p180 ↦
 Option.bind (AV.int? IntKind.i64 p180.fst) fun n181 ↦
 Option.bind (nil? p180.snd) fun x182 ↦
 Option.bind
 (E cx (Key.fn 9)
 [AV.agg
 [vi 1, vi 4, vi 1, vi 1, vi 10, vi 2, vi 3, vi 0, vi 1, vu 0],
 vi 37, vi 4]
 [])
 fun r183 ↦
 Option.bind (ret1 r183) fun v184 ↦
 Option.bind (AV.tup? v184) fun vs185 ↦
 Option.bind (uncons? vs185) fun p186 ↦
 Option.bind (AV.int? IntKind.i64 p186.fst) fun n187 ↦
 Option.bind (uncons? p186.snd) fun p188 ↦
 Option.bind (AV.int? IntKind.i64 p188.fst) fun n189 ↦
 Option.bind (nil? p188.snd) fun x190 ↦
 Option.bind
 (E cx (Key.fn 9)
 [AV.agg
 [vi 1, vi 4, vi 1, vi 1, vi 10, vi 2, vi 3,
 vi 0, vi 1, vu 0],
 vi 38, vi 4]
 [])
 fun r191 ↦
 Option.bind (ret1 r191) fun v192 ↦
 Option.bind (AV.tup? v192) fun vs193 ↦
 Option.bind (uncons? vs193) fun p194 ↦
 Option.bind (AV.int? IntKind.i64 p194.fst)
 fun n195 ↦
 Option.bind (uncons? p194.snd) fun p196 ↦
 Option.bind
 (AV.int? IntKind.i64 p196.fst)
 fun n197 ↦
 Option.bind (nil? p196.snd) fun x198 ↦
 Option.bind
 (E cx (Key.fn 10)
 [AV.agg
 [vi 1, vi 4, vi 1, vi 1,
 vi 10, vi 2, vi 3, vi 0,
 vi 1, vu 0],
 vi 1099511627776]
 [])
 fun r199 ↦
 Option.bind (ret1 r199) fun v200 ↦
 Option.bind (AV.tup? v200)
 fun vs201 ↦
 Option.bind (uncons? vs201)
 fun p202 ↦
 Option.bind
 (AV.int? IntKind.i64
 p202.fst)
 fun n203 ↦
 Option.bind
 (uncons? p202.snd)
 fun p204 ↦
 Option.bind
 (AV.int? IntKind.i64
 p204.fst)
 fun n205 ↦
 Option.bind
 (nil? p204.snd)
 fun x206 ↦
 Option.bind
 (E cx
 (Key.fn 9)
 [AV.agg
 [vi 1, vi 4,
 vi 1, vi 1,
 vi 10, vi 2,
 vi 3, vi 0,
 vi 1, vu 0],
 vi
 1099511627777,
 vi 0]
 [])
 fun r207 ↦
 Option.bind
 (ret1 r207)
 fun v208 ↦
 Option.bind
 (AV.tup? v208)
 fun vs209 ↦
 Option.bind
 (uncons?
 vs209)
 fun p210 ↦
 Option.bind
 (AV.int?
 IntKind.i64
 p210.fst)
 fun n211 ↦
 Option.bind
 (uncons?
 p210.snd)
 fun p212 ↦
 Option.bind
 (AV.int?
 IntKind.i64
 p212.fst)
 fun
 n213 ↦
 Option.bind
 (nil?
 p212.snd)
 fun
 x214 ↦
 bif
 decide
 (n145 =
 0) then
 bif
 decide
 (n143 =
 38) then
 bif
 decide
 (n153 =
 0) then
 bif
 decide
 (n151 =
 81) then
 bif
 decide
 (n163 =
 0) then
 bif
 decide
 (n159 =
 0) then
 bif
 decide
 (n161 =
 4) then
 bif
 decide
 (n173 =
 0) then
 bif
 decide
 (n169 =
 1) then
 bif
 decide
 (n171 =
 4) then
 bif
 decide
 (n181 =
 0) then
 bif
 decide
 (n179 =
 2) then
 bif
 decide
 (n189 =
 0) then
 bif
 decide
 (n187 =
 0) then
 bif
 decide
 (n197 =
 0) then
 bif
 decide
 (n195 =
 1) then
 bif
 decide
 (n205 =
 8) then
 bif
 decide
 (n213 =
 1) then
 some
 (Out.ret
 (vbool
 true),
 [])
 else
 some
 (Out.ret
 (vbool
 false),
 [])
 else
 some
 (Out.ret
 (vbool
 false),
 [])
 else
 some
 (Out.ret
 (vbool
 false),
 [])
 else
 some
 (Out.ret
 (vbool
 false),
 [])
 else
 some
 (Out.ret
 (vbool
 false),
 [])
 else
 some
 (Out.ret
 (vbool
 false),
 [])
 else
 some
 (Out.ret
 (vbool
 false),
 [])
 else
 some
 (Out.ret
 (vbool
 false),
 [])
 else
 some
 (Out.ret
 (vbool
 false),
 [])
 else
 some
 (Out.ret
 (vbool
 false),
 [])
 else
 some
 (Out.ret
 (vbool
 false),
 [])
 else
 some
 (Out.ret
 (vbool
 false),
 [])
 else
 some
 (Out.ret
 (vbool
 false),
 [])
 else
 some
 (Out.ret
 (vbool
 false),
 [])
 else
 some
 (Out.ret
 (vbool
 false),
 [])
 else
 some
 (Out.ret
 (vbool
 false),
 [])
 else
 some
 (Out.ret
 (vbool
 false),
 [])
 else
 some
 (Out.ret
 (vbool
 false),
 []) := by
  intros
  exact (E_fast _ _ _ _).trans (by kernel_rfl)


theorem f5 : ∀ (n215 n216 n217 n218 n219 n220 seed221 : Int),
 E cx (Key.fn 5) [AV.agg [vi n215, vi n216, vi n217, vi n218, vi n219, vi n220], vu seed221] [] =
 Option.bind (E cx (Key.fn 12) [vi n217, vi 12] []) fun r222 ↦
 Option.bind (ret1 r222) fun v223 ↦
 Option.bind (AV.int? IntKind.i64 v223) fun n224 ↦
 Option.bind (E cx (Key.fn 12) [vi n215, vi 60] []) fun r225 ↦
 Option.bind (ret1 r225) fun v226 ↦
 Option.bind (AV.int? IntKind.i64 v226) fun n227 ↦
 Option.bind (E cx (Key.fn 12) [vi n216, vi 6] []) fun r228 ↦
 Option.bind (ret1 r228) fun v229 ↦
 Option.bind (AV.int? IntKind.i64 v229) fun n230 ↦
 Option.bind (E cx (Key.fn 12) [vi (IntKind.wrap IntKind.i64 (Int.tdiv n216 8)), vi 4] []) fun r231 ↦
 Option.bind (ret1 r231) fun v232 ↦
 Option.bind (AV.int? IntKind.i64 v232) fun n233 ↦
 Option.bind (E cx (Key.fn 12) [vi n218, vi 9] []) fun r234 ↦
 Option.bind (ret1 r234) fun v235 ↦
 Option.bind (AV.int? IntKind.i64 v235) fun n236 ↦
 Option.bind
 (E cx (Key.fn 12)
 [vi (IntKind.wrap IntKind.i64 (Int.tdiv n217 16)),
 vi (IntKind.wrap IntKind.i64 (Int.add (IntKind.wrap IntKind.i64 (Int.add 1 n224)) 1))]
 [])
 fun r237 ↦
 Option.bind (ret1 r237) fun v238 ↦
 Option.bind (AV.int? IntKind.i64 v238) fun n239 ↦
 Option.bind (E cx (Key.fn 12) [vi n219, vi 8] []) fun r240 ↦
 Option.bind (ret1 r240) fun v241 ↦
 Option.bind (AV.int? IntKind.i64 v241) fun n242 ↦
 Option.bind (E cx (Key.fn 12) [vi n220, vi 12] []) fun r243 ↦
 Option.bind (ret1 r243) fun v244 ↦
 Option.bind (AV.int? IntKind.i64 v244) fun n245 ↦
 Option.bind
 (E cx (Key.fn 12) [vi (IntKind.wrap IntKind.i64 (Int.tdiv n220 16)), vi 4] [])
 fun r246 ↦
 Option.bind (ret1 r246) fun v247 ↦
 Option.bind (AV.int? IntKind.i64 v247) fun n248 ↦
 some
 (Out.ret
 (AV.agg
 [vi (IntKind.wrap IntKind.i64 (Int.add 1 n227)),
 vi (IntKind.wrap IntKind.i64 (Int.add 1 n230)),
 vi (IntKind.wrap IntKind.i64 (Int.add 1 n233)),
 vi (IntKind.wrap IntKind.i64 (Int.add 1 n236)),
 vi (IntKind.wrap IntKind.i64 (Int.add 1 n224)), vi n239,
 vi (IntKind.wrap IntKind.i64 (Int.add 1 n242)), vi n245,
 vi (IntKind.wrap IntKind.i64 (Int.add 1 n248)), vu seed221]),
 []) := by
  intros
  exact (E_fast _ _ _ _).trans (by kernel_rfl)


theorem f6 : ∀ (c249 n250 : Int),
 E cx (Key.fn 6) [vi c249, vi n250] [] =
 bif decide (c249 < 0) then
 if n250 = 0 then none
 else some (Out.ret (vi (Int.tmod (IntKind.wrap IntKind.i64 (Int.sub 0 (IntKind.wrap IntKind.i64 (Int.add c249 1)))) n250)), [])
 else if n250 = 0 then none else some (Out.ret (vi (Int.tmod c249 n250)), []) := by
  intros
  exact (E_fast _ _ _ _).trans (by kernel_rfl)


theorem f7 : ∀ (c251 c252 c253 c254 c255 c256 c257 c258 c259 c260 tick261 : Int),
 E cx (Key.fn 7) [AV.agg [vi c251, vi c252, vi c253, vi c254, vi c255, vi c256, vi c257, vi c258, vi c259, vu c260], vi tick261] [] =
 Option.bind (E cx (Key.fn 13) [AV.agg [vi c251, vi c252, vi c253, vi c254, vi c255, vi c256, vi c257, vi c258, vi c259, vu c260]] [])
 fun r262 ↦
 Option.bind (ret1 r262) fun v263 ↦
 Option.bind (AV.bool? v263) fun b264 ↦
 bif b264 then
 Option.bind (E cx (Key.fn 14) [vi tick261, vi 0, vi 1099511627776] []) fun r265 ↦
 Option.bind (ret1 r265) fun v266 ↦
 Option.bind (AV.bool? v266) fun b267 ↦
 bif b267 then if c255 = 0 then none else some (Out.ret (AV.tuple [vi (IntKind.wrap IntKind.i64 (Int.tdiv tick261 c255)), vi 0]), [])
 else some (Out.ret (AV.tuple [vi 0, vi 1]), [])
 else some (Out.ret (AV.tuple [vi 0, vi 1]), []) := by
  intros
  exact (E_fast _ _ _ _).trans (by kernel_rfl)


theorem f8 : ∀ (c268 c269 c270 c271 c272 c273 c274 c275 c276 c277 now278 : Int),
 E cx (Key.fn 8) [AV.agg [vi c268, vi c269, vi c270, vi c271, vi c272, vi c273, vi c274, vi c275, vi c276, vu c277], vi now278] [] =
 Option.bind (E cx (Key.fn 13) [AV.agg [vi c268, vi c269, vi c270, vi c271, vi c272, vi c273, vi c274, vi c275, vi c276, vu c277]] [])
 fun r279 ↦
 Option.bind (ret1 r279) fun v280 ↦
 Option.bind (AV.bool? v280) fun b281 ↦
 bif b281 then
 Option.bind (E cx (Key.fn 15) [vi now278] []) fun r282 ↦
 Option.bind (ret1 r282) fun v283 ↦
 Option.bind (AV.bool? v283) fun b284 ↦
 bif b284 then
 if c272 = 0 then none
 else
 Option.bind
 (E cx (Key.fn 16)
 [vi
 (IntKind.wrap IntKind.i64
 (Int.sub (IntKind.wrap IntKind.i64 (Int.tdiv now278 c272))
 (if
 0 >
 IntKind.wrap IntKind.i64
 (Int.sub (IntKind.wrap IntKind.i64 (Int.sub (IntKind.wrap IntKind.i64 (Int.tdiv now278 c272)) c274))
 2) then
 0
 else
 IntKind.wrap IntKind.i64
 (Int.sub (IntKind.wrap IntKind.i64 (Int.sub (IntKind.wrap IntKind.i64 (Int.tdiv now278 c272)) c274)) 2)))),
 AV.func (Go.Fn.func 17) []
 [AV.rop [vi c268, vi c269, vi c270, vi c271, vi c272, vi c273, vi c274, vi c275, vi c276, vu c277], AV.rop [vi now278],
 AV.rop
 [vi
 (if
 0 >
 IntKind.wrap IntKind.i64
 (Int.sub (IntKind.wrap IntKind.i64 (Int.sub (IntKind.wrap IntKind.i64 (Int.tdiv now278 c272)) c274))
 2) then
 0
 else
 IntKind.wrap IntKind.i64
 (Int.sub (IntKind.wrap IntKind.i64 (Int.sub (IntKind.wrap IntKind.i64 (Int.tdiv now278 c272)) c274))
 2))]]]
 [])
 fun r285 ↦
 Option.bind (ret1 r285) fun v286 ↦
 Option.bind (AV.int? IntKind.i64 v286) fun n287 ↦
 Option.bind
 (E cx (Key.fn 18)
 [AV.agg [vi c268, vi c269, vi c270, vi c271, vi c272, vi c273, vi c274, vi c275, vi c276, vu c277], vi now278,
 vi (IntKind.wrap IntKind.i64 (Int.add (IntKind.wrap IntKind.i64 (Int.tdiv now278 c272)) 1))]
 [])
 fun r288 ↦
 Option.bind (ret1 r288) fun v289 ↦
 Option.bind (AV.int? IntKind.i64 v289) fun n290 ↦
 bif decide (n290 = 1) then
 some
 (Out.ret
 (AV.tuple
 [vi
 (IntKind.wrap IntKind.i64
 (Int.add
 (if
 0 >
 IntKind.wrap IntKind.i64
 (Int.sub
 (IntKind.wrap IntKind.i64
 (Int.sub (IntKind.wrap IntKind.i64 (Int.tdiv now278 c272)) c274))
 2) then
 0
 else
 IntKind.wrap IntKind.i64
 (Int.sub
 (IntKind.wrap IntKind.i64
 (Int.sub (IntKind.wrap IntKind.i64 (Int.tdiv now278 c272)) c274))
 2))
 n287)),
 vi (IntKind.wrap IntKind.i64 (Int.add (IntKind.wrap IntKind.i64 (Int.tdiv now278 c272)) 1)), vi 0]),
 [])
 else
 some
 (Out.ret
 (AV.tuple
 [vi
 (IntKind.wrap IntKind.i64
 (Int.add
 (if
 0 >
 IntKind.wrap IntKind.i64
 (Int.sub
 (IntKind.wrap IntKind.i64
 (Int.sub (IntKind.wrap IntKind.i64 (Int.tdiv now278 c272)) c274))
 2) then
 0
 else
 IntKind.wrap IntKind.i64
 (Int.sub
 (IntKind.wrap IntKind.i64
 (Int.sub (IntKind.wrap IntKind.i64 (Int.tdiv now278 c272)) c274))
 2))
 n287)),
 vi (IntKind.wrap IntKind.i64 (Int.tdiv now278 c272)), vi 0]),
 [])
 else some (Out.ret (AV.tuple [vi 0, vi 0, vi 1]), [])
 else some (Out.ret (AV.tuple [vi 0, vi 0, vi 1]), []) := by
  intros
  exact (E_fast _ _ _ _).trans (by kernel_rfl)


theorem f9 : ∀ (c291 c292 c293 c294 c295 c296 c297 c298 c299 c300 now301 slot302 : Int),
 E cx (Key.fn 9) [AV.agg [vi c291, vi c292, vi c293, vi c294, vi c295, vi c296, vi c297, vi c298, vi c299, vu c300], vi now301, vi slot302] [] =
 Option.bind (E cx (Key.fn 13) [AV.agg [vi c291, vi c292, vi c293, vi c294, vi c295, vi c296, vi c297, vi c298, vi c299, vu c300]] [])
 fun r303 ↦
 Option.bind (ret1 r303) fun v304 ↦
 Option.bind (AV.bool? v304) fun b305 ↦
 bif b305 then
 Option.bind (E cx (Key.fn 15) [vi now301] []) fun r306 ↦
 Option.bind (ret1 r306) fun v307 ↦
 Option.bind (AV.bool? v307) fun b308 ↦
 bif b308 then
 bif decide (slot302 < 0) then some (Out.ret (AV.tuple [vi 0, vi 1]), [])
 else
 Option.bind
 (E cx (Key.fn 18)
 [AV.agg [vi c291, vi c292, vi c293, vi c294, vi c295, vi c296, vi c297, vi c298, vi c299, vu c300], vi now301, vi slot302] [])
 fun r309 ↦
 Option.bind (ret1 r309) fun v310 ↦ Option.bind (AV.int? IntKind.i64 v310) fun n311 ↦ some (Out.ret (AV.tuple [vi n311, vi 0]), [])
 else some (Out.ret (AV.tuple [vi 0, vi 1]), [])
 else some (Out.ret (AV.tuple [vi 0, vi 1]), []) := by
  intros
  exact (E_fast _ _ _ _).trans (by kernel_rfl)


theorem f10 : ∀ (c312 c313 c314 c315 c316 c317 c318 c319 c320 c321 slot322 : Int),
 E cx (Key.fn 10) [AV.agg [vi c312, vi c313, vi c314, vi c315, vi c316, vi c317, vi c318, vi c319, vi c320, vu c321], vi slot322] [] =
 Option.bind
 (E cx (Key.fn 19) [AV.agg [vi c312, vi c313, vi c314, vi c315, vi c316, vi c317, vi c318, vi c319, vi c320, vu c321], vi slot322] [])
 fun r323 ↦
 Option.bind (ret1 r323) fun v324 ↦
 Option.bind (AV.tup? v324) fun vs325 ↦
 Option.bind (uncons? vs325) fun p326 ↦
 Option.bind (AV.int? IntKind.i64 p326.fst) fun n327 ↦
 Option.bind (uncons? p326.snd) fun p328 ↦
 Option.bind (AV.int? IntKind.i64 p328.fst) fun n329 ↦
 Option.bind (nil? p328.snd) fun x330 ↦
 bif n329 != 0 then some (Out.ret (AV.tuple [vi 0, vi n329]), [])
 else
 some
 (Out.ret
 (AV.tuple
 [vi (if 0 > IntKind.wrap IntKind.i64 (Int.sub n327 c317) then 0 else IntKind.wrap IntKind.i64 (Int.sub n327 c317)),
 vi 0]),
 []) := by
  intros
  exact (E_fast _ _ _ _).trans (by kernel_rfl)


theorem f11 : ∀ (c331 c332 c333 c334 c335 c336 c337 c338 c339 c340 slot341 : Int),
 E cx (Key.fn 11) [AV.agg [vi c331, vi c332, vi c333, vi c334, vi c335, vi c336, vi c337, vi c338, vi c339, vu c340], vi slot341] [] =
 Option.bind
 (E cx (Key.fn 19) [AV.agg [vi c331, vi c332, vi c333, vi c334, vi c335, vi c336, vi c337, vi c338, vi c339, vu c340], vi slot341] [])
 fun r342 ↦
 Option.bind (ret1 r342) fun v343 ↦
 Option.bind (AV.tup? v343) fun vs344 ↦
 Option.bind (uncons? vs344) fun p345 ↦
 Option.bind (AV.int? IntKind.i64 p345.fst) fun n346 ↦
 Option.bind (uncons? p345.snd) fun p347 ↦
 Option.bind (AV.int? IntKind.i64 p347.fst) fun n348 ↦
 Option.bind (nil? p347.snd) fun x349 ↦
 bif n348 != 0 then some (Out.ret (AV.tuple [vi 0, vi n348]), [])
 else
 some
 (Out.ret
 (AV.tuple
 [vi
 (if
 1099511627776 <
 IntKind.wrap IntKind.i64
 (Int.sub
 (IntKind.wrap IntKind.i64
 (Int.add
 (IntKind.wrap IntKind.i64
 (Int.add n346
 (IntKind.wrap IntKind.i64 (Int.mul (IntKind.wrap IntKind.i64 (Int.add c337 1)) c335))))
 c336))
 1) then
 1099511627776
 else
 IntKind.wrap IntKind.i64
 (Int.sub
 (IntKind.wrap IntKind.i64
 (Int.add
 (IntKind.wrap IntKind.i64
 (Int.add n346 (IntKind.wrap IntKind.i64 (Int.mul (IntKind.wrap IntKind.i64 (Int.add c337 1)) c335))))
 c336))
 1)),
 vi 0]),
 []) := by
  intros
  exact (E_fast _ _ _ _).trans (by kernel_rfl)


theorem f12 : ∀ (c350 n351 : Int),
 E cx (Key.fn 12) [vi c350, vi n351] [] =
 bif decide (c350 < 0) then
 if n351 = 0 then none
 else some (Out.ret (vi (Int.tmod (IntKind.wrap IntKind.i64 (Int.sub 0 (IntKind.wrap IntKind.i64 (Int.add c350 1)))) n351)), [])
 else if n351 = 0 then none else some (Out.ret (vi (Int.tmod c350 n351)), []) := by
  intros
  exact (E_fast _ _ _ _).trans (by kernel_rfl)


theorem f13 : ∀ (c352 c353 c354 c355 c356 c357 c358 c359 c360 c361 : Int),
 E cx (Key.fn 13) [AV.agg [vi c352, vi c353, vi c354, vi c355, vi c356, vi c357, vi c358, vi c359, vi c360, vu c361]] [] =
 Option.bind (E cx (Key.fn 14) [vi c352, vi 1, vi 1024] []) fun r362 ↦
 Option.bind (ret1 r362) fun v363 ↦
 Option.bind (AV.bool? v363) fun b364 ↦
 bif b364 then
 Option.bind (E cx (Key.fn 14) [vi c353, vi 1, vi 32] []) fun r365 ↦
 Option.bind (ret1 r365) fun v366 ↦
 Option.bind (AV.bool? v366) fun b367 ↦
 bif b367 then
 Option.bind (E cx (Key.fn 14) [vi c354, vi 1, vi 8] []) fun r368 ↦
 Option.bind (ret1 r368) fun v369 ↦
 Option.bind (AV.bool? v369) fun b370 ↦
 bif b370 then
 Option.bind (E cx (Key.fn 14) [vi c355, vi 1, vi 64] []) fun r371 ↦
 Option.bind (ret1 r371) fun v372 ↦
 Option.bind (AV.bool? v372) fun b373 ↦
 bif b373 then
 Option.bind (E cx (Key.fn 14) [vi c356, vi 1, vi 1000] []) fun r374 ↦
 Option.bind (ret1 r374) fun v375 ↦
 Option.bind (AV.bool? v375) fun b376 ↦
 bif b376 then
 Option.bind (E cx (Key.fn 14) [vi c358, vi 1, vi 64] []) fun r377 ↦
 Option.bind (ret1 r377) fun v378 ↦
 Option.bind (AV.bool? v378) fun b379 ↦
 bif b379 then
 Option.bind (E cx (Key.fn 14) [vi c359, vi 0, vi 90] []) fun r380 ↦
 Option.bind (ret1 r380) fun v381 ↦
 Option.bind (AV.bool? v381) fun b382 ↦
 bif b382 then
 Option.bind (E cx (Key.fn 14) [vi c360, vi 1, vi 16] []) fun r383 ↦
 Option.bind (ret1 r383) fun v384 ↦
 Option.bind (AV.bool? v384) fun b385 ↦
 bif b385 then
 Option.bind (E cx (Key.fn 14) [vi c357, vi 0, vi c356] []) fun r386 ↦
 Option.bind (ret1 r386) fun v387 ↦
 Option.bind (AV.bool? v387) fun b388 ↦
 bif b388 then some (Out.ret (vbool true), []) else some (Out.ret (vbool false), [])
 else some (Out.ret (vbool false), [])
 else some (Out.ret (vbool false), [])
 else some (Out.ret (vbool false), [])
 else some (Out.ret (vbool false), [])
 else some (Out.ret (vbool false), [])
 else some (Out.ret (vbool false), [])
 else some (Out.ret (vbool false), [])
 else some (Out.ret (vbool false), []) := by
  intros
  exact (E_fast _ _ _ _).trans (by kernel_rfl)


theorem f14 : ∀ (n389 from390 to391 : Int),
 E cx (Key.fn 14) [vi n389, vi from390, vi to391] [] =
 bif decide (n389 ≥ from390) then bif decide (n389 ≤ to391) then some (Out.ret (vbool true), []) else some (Out.ret (vbool false), [])
 else some (Out.ret (vbool false), []) := by
  intros
  exact (E_fast _ _ _ _).trans (by kernel_rfl)


theorem f15 : ∀ (n392 : Int),
 E cx (Key.fn 15) [vi n392] [] =
 bif decide (n392 ≥ 0) then bif decide (n392 ≤ 1099511627776) then some (Out.ret (vbool true), []) else some (Out.ret (vbool false), [])
 else some (Out.ret (vbool false), []) := by
  intros
  exact (E_fast _ _ _ _).trans (by kernel_rfl)


theorem f16 : ∀ (n393 : Int) (f394 : AV),
 E cx (Key.fn 16) [vi n393, f394] [] =
 Option.bind (E cx (Key.loop 16 [true, true, false, false]) [vi 0, vi n393, AV.wk f394] []) fun r395 ↦
 Option.bind (asJump r395) fun j396 ↦
 bif JX.is j396.fst (JX.exit 0) then
 Option.bind (uncons? j396.snd.fst) fun p397 ↦
 Option.bind (AV.int? IntKind.i64 p397.fst) fun n398 ↦
 Option.bind (uncons? p397.snd) fun p399 ↦
 Option.bind (AV.int? IntKind.i64 p399.fst) fun n400 ↦
 Option.bind (nil? p399.snd) fun x401 ↦ Option.bind (nil? j396.snd.snd) fun x402 ↦ some (Out.ret (vi n398), [])
 else none := by
  intros
  exact (E_unfold _ _ _ _).trans (by kernel_rfl)

theorem f16_l0 : ∀ (x403 x404 : Int) (a405 : AV),
 E cx (Key.loop 16 [true, true, false, false]) [vi x403, vi x404, a405] [] =
 bif decide (x403 < x404) then
 Option.bind (viewArg [] a405) fun g406 ↦
 Option.bind
 (AV.call?
 [vi (IntKind.wrap IntKind.i64 (ishr IntKind.u64 (IntKind.wrap IntKind.u64 (IntKind.wrap IntKind.i64 (Int.add x403 x404))) 1))]
 g406)
 fun p407 ↦
 Option.bind (E cx (Key.fn p407.fst) p407.snd []) fun r408 ↦
 Option.bind (ret1 r408) fun v409 ↦
 Option.bind (AV.bool? v409) fun b410 ↦
 bif b410 then
 Option.bind
 (gc []
 [vi x403,
 vi
 (IntKind.wrap IntKind.i64
 (ishr IntKind.u64 (IntKind.wrap IntKind.u64 (IntKind.wrap IntKind.i64 (Int.add x403 x404))) 1))]
 [a405] [])
 fun g411 ↦
 E cx (Key.loop 16 [true, true, false, false]) (List.map AV.wk g411.fst ++ List.map AV.wk g411.snd.fst)
 (List.map Ob.wk g411.snd.snd)
 else
 Option.bind
 (gc []
 [vi
 (IntKind.wrap IntKind.i64
 (Int.add
 (IntKind.wrap IntKind.i64
 (ishr IntKind.u64 (IntKind.wrap IntKind.u64 (IntKind.wrap IntKind.i64 (Int.add x403 x404))) 1))
 1)),
 vi x404]
 [a405] [])
 fun g412 ↦
 E cx (Key.loop 16 [true, true, false, false]) (List.map AV.wk g412.fst ++ List.map AV.wk g412.snd.fst)
 (List.map Ob.wk g412.snd.snd)
 else Option.bind (gc [] [vi x403, vi x404] [a405] []) fun g413 ↦ some (Out.jump (JX.exit 0) (List.map AV.wk g413.fst), List.map Ob.wk g413.snd.snd) := by
  intros
  exact (E_unfold _ _ _ _).trans (by kernel_rfl)


theorem f17 : ∀ (i414 x415 x416 x417 x418 x419 x420 x421 x422 x423 x424 x425 x426 : Int),
 E cx (Key.fn 17)
 [vi i414, AV.rop [vi x415, vi x416, vi x417, vi x418, vi x419, vi x420, vi x421, vi x422, vi x423, vu x424], AV.rop [vi x425], AV.rop [vi x426]] [] =
 Option.bind
 (E cx (Key.fn 18)
 [AV.agg [vi x415, vi x416, vi x417, vi x418, vi x419, vi x420, vi x421, vi x422, vi x423, vu x424], vi x425,
 vi (IntKind.wrap IntKind.i64 (Int.add x426 i414))]
 [])
 fun r427 ↦
 Option.bind (ret1 r427) fun v428 ↦
 Option.bind (AV.int? IntKind.i64 v428) fun n429 ↦ bif decide (n429 = 1) then some (Out.ret (vbool true), []) else some (Out.ret (vbool false), []) := by
  intros
  exact (E_fast _ _ _ _).trans (by kernel_rfl)


theorem f18 : ∀ (c430 c431 c432 c433 c434 c435 c436 c437 c438 c439 tick440 slot441 : Int),
 E cx (Key.fn 18) [AV.agg [vi c430, vi c431, vi c432, vi c433, vi c434, vi c435, vi c436, vi c437, vi c438, vu c439], vi tick440, vi slot441] [] =
 Option.bind
 (E cx (Key.fn 10) [AV.agg [vi c430, vi c431, vi c432, vi c433, vi c434, vi c435, vi c436, vi c437, vi c438, vu c439], vi slot441] [])
 fun r442 ↦
 Option.bind (ret1 r442) fun v443 ↦
 Option.bind (AV.tup? v443) fun vs444 ↦
 Option.bind (uncons? vs444) fun p445 ↦
 Option.bind (AV.int? IntKind.i64 p445.fst) fun n446 ↦
 Option.bind (uncons? p445.snd) fun p447 ↦
 Option.bind (AV.int? IntKind.i64 p447.fst) fun n448 ↦
 Option.bind (nil? p447.snd) fun x449 ↦
 bif n448 != 0 then some (Out.ret (vi 0), [])
 else
 bif decide (tick440 < n446) then some (Out.ret (vi 0), [])
 else
 Option.bind
 (E cx (Key.fn 11)
 [AV.agg [vi c430, vi c431, vi c432, vi c433, vi c434, vi c435, vi c436, vi c437, vi c438, vu c439], vi slot441] [])
 fun r450 ↦
 Option.bind (ret1 r450) fun v451 ↦
 Option.bind (AV.tup? v451) fun vs452 ↦
 Option.bind (uncons? vs452) fun p453 ↦
 Option.bind (AV.int? IntKind.i64 p453.fst) fun n454 ↦
 Option.bind (uncons? p453.snd) fun p455 ↦
 Option.bind (AV.int? IntKind.i64 p455.fst) fun n456 ↦
 Option.bind (nil? p455.snd) fun x457 ↦
 bif decide (tick440 > n454) then some (Out.ret (vi 2), []) else some (Out.ret (vi 1), []) := by
  intros
  exact (E_fast _ _ _ _).trans (by kernel_rfl)


theorem f19 : ∀ (c458 c459 c460 c461 c462 c463 c464 c465 c466 c467 slot468 : Int),
 E cx (Key.fn 19) [AV.agg [vi c458, vi c459, vi c460, vi c461, vi c462, vi c463, vi c464, vi c465, vi c466, vu c467], vi slot468] [] =
 Option.bind (E cx (Key.fn 13) [AV.agg [vi c458, vi c459, vi c460, vi c461, vi c462, vi c463, vi c464, vi c465, vi c466, vu c467]] [])
 fun r469 ↦
 Option.bind (ret1 r469) fun v470 ↦
 Option.bind (AV.bool? v470) fun b471 ↦
 bif b471 then
 bif decide (slot468 < 0) then some (Out.ret (AV.tuple [vi 0, vi 1]), [])
 else
 if c462 = 0 then none
 else
 bif decide (slot468 > IntKind.wrap IntKind.i64 (Int.tdiv 1099511627776 c462)) then some (Out.ret (AV.tuple [vi 0, vi 8]), [])
 else some (Out.ret (AV.tuple [vi (IntKind.wrap IntKind.i64 (Int.mul slot468 c462)), vi 0]), [])
 else some (Out.ret (AV.tuple [vi 0, vi 1]), []) := by
  intros
  exact (E_fast _ _ _ _).trans (by kernel_rfl)

end Go.Proofs.Av
