/- A law's tree. -/
import Derived.Test.YtogopainnioiiaaDoorAvX
set_option maxRecDepth 100000
namespace Go.Proofs.Av
open Go
theorem f5 : ∀ (n247 n248 n249 n250 n251 n252 at253 : Int),
  E cx (Key.fn 5) [AV.agg [vi n247, vi n248, vi n249, vi n250, vi n251, vi n252], vi at253] [] =
    Option.bind (E cx (Key.fn 12) [] []) fun r254 ↦
      Option.bind (ret1 r254) fun v255 ↦
        Option.bind (AV.bool? v255) fun b256 ↦
          bif b256 then
            Option.bind (E cx (Key.fn 13) [AV.agg [vi n247, vi n248, vi n249, vi n250, vi n251, vi n252], vu 0] []) fun r257 ↦
              Option.bind (ret1 r257) fun v258 ↦
                Option.bind (AV.cells? v258) fun cs259 ↦
                  Option.bind (uncons? cs259) fun p260 ↦
                    Option.bind (AV.int? Go.IntKind.i64 p260.fst) fun n261 ↦
                      Option.bind (uncons? p260.snd) fun p262 ↦
                        Option.bind (AV.int? Go.IntKind.i64 p262.fst) fun n263 ↦
                          Option.bind (uncons? p262.snd) fun p264 ↦
                            Option.bind (AV.int? Go.IntKind.i64 p264.fst) fun n265 ↦
                              Option.bind (uncons? p264.snd) fun p266 ↦
                                Option.bind (AV.int? Go.IntKind.i64 p266.fst) fun n267 ↦
                                  Option.bind (uncons? p266.snd) fun p268 ↦
                                    Option.bind (AV.int? Go.IntKind.i64 p268.fst) fun n269 ↦
                                      Option.bind (uncons? p268.snd) fun p270 ↦
                                        Option.bind (AV.int? Go.IntKind.i64 p270.fst) fun n271 ↦
                                          Option.bind (uncons? p270.snd) fun p272 ↦
                                            Option.bind (AV.int? Go.IntKind.i64 p272.fst) fun n273 ↦
                                              Option.bind (uncons? p272.snd) fun p274 ↦
                                                Option.bind (AV.int? Go.IntKind.i64 p274.fst) fun n275 ↦
                                                  Option.bind (uncons? p274.snd) fun p276 ↦
                                                    Option.bind (AV.int? Go.IntKind.i64 p276.fst) fun n277 ↦
                                                      Option.bind (uncons? p276.snd) fun p278 ↦
                                                        Option.bind (AV.int? Go.IntKind.u64 p278.fst) fun n279 ↦
                                                          Option.bind (nil? p278.snd) fun x280 ↦
                                                            if n269 = 0 then none
                                                            else
                                                              Option.bind
                                                                (E cx (Key.fn 17)
                                                                  [vi at253,
                                                                    vi
                                                                      (Go.IntKind.wrap Go.IntKind.i64
                                                                        (Int.add (Go.IntKind.wrap Go.IntKind.i64 (Int.tdiv 1099511627776 n269)) 1))]
                                                                  [])
                                                                fun r281 ↦
                                                                Option.bind (ret1 r281) fun v282 ↦
                                                                  Option.bind (AV.int? Go.IntKind.i64 v282) fun n283 ↦
                                                                    Option.bind
                                                                      (E cx (Key.fn 22)
                                                                        [AV.agg
                                                                            [vi n261, vi n263, vi n265, vi n267, vi n269, vi n271, vi n273, vi n275, vi n277,
                                                                              vu n279],
                                                                          vi n283]
                                                                        [])
                                                                      fun r284 ↦
                                                                      Option.bind (ret1 r284) fun v285 ↦
                                                                        Option.bind (AV.tup? v285) fun vs286 ↦
                                                                          Option.bind (uncons? vs286) fun p287 ↦
                                                                            Option.bind (AV.int? Go.IntKind.i64 p287.fst) fun n288 ↦
                                                                              Option.bind (uncons? p287.snd) fun p289 ↦
                                                                                Option.bind (AV.int? Go.IntKind.i64 p289.fst) fun n290 ↦
                                                                                  Option.bind (nil? p289.snd) fun x291 ↦
                                                                                    Option.bind
                                                                                      (E cx (Key.fn 24)
                                                                                        [AV.agg
                                                                                            [vi n261, vi n263, vi n265, vi n267, vi n269, vi n271, vi n273,
                                                                                              vi n275, vi n277, vu n279],
                                                                                          vi n288]
                                                                                        [])
                                                                                      fun r292 ↦
                                                                                      Option.bind (ret1 r292) fun v293 ↦
                                                                                        Option.bind (AV.tup? v293) fun vs294 ↦
                                                                                          Option.bind (uncons? vs294) fun p295 ↦
                                                                                            Option.bind (AV.int? Go.IntKind.i64 p295.fst) fun n296 ↦
                                                                                              Option.bind (uncons? p295.snd) fun p297 ↦
                                                                                                Option.bind (AV.int? Go.IntKind.i64 p297.fst) fun n298 ↦
                                                                                                  Option.bind (nil? p297.snd) fun x299 ↦
                                                                                                    Option.bind
                                                                                                      (E cx (Key.fn 24)
                                                                                                        [AV.agg
                                                                                                            [vi n261, vi n263, vi n265, vi n267, vi n269,
                                                                                                              vi n271, vi n273, vi n275, vi n277, vu n279],
                                                                                                          vi (Go.IntKind.wrap Go.IntKind.i64 (Int.add n288 1))]
                                                                                                        [])
                                                                                                      fun r300 ↦
                                                                                                      Option.bind (ret1 r300) fun v301 ↦
                                                                                                        Option.bind (AV.tup? v301) fun vs302 ↦
                                                                                                          Option.bind (uncons? vs302) fun p303 ↦
                                                                                                            Option.bind (AV.int? Go.IntKind.i64 p303.fst)
                                                                                                              fun n304 ↦
                                                                                                              Option.bind (uncons? p303.snd) fun p305 ↦
                                                                                                                Option.bind (AV.int? Go.IntKind.i64 p305.fst)
                                                                                                                  fun n306 ↦
                                                                                                                  Option.bind (nil? p305.snd) fun x307 ↦
                                                                                                                    Option.bind
                                                                                                                      (E cx (Key.fn 22)
                                                                                                                        [AV.agg
                                                                                                                            [vi n261, vi n263, vi n265, vi n267,
                                                                                                                              vi n269, vi n271, vi n273,
                                                                                                                              vi n275, vi n277, vu n279],
                                                                                                                          vi n296]
                                                                                                                        [])
                                                                                                                      fun r308 ↦
                                                                                                                      Option.bind (ret1 r308) fun v309 ↦
                                                                                                                        Option.bind (AV.tup? v309) fun vs310 ↦
                                                                                                                          Option.bind (uncons? vs310) fun p311 ↦
                                                                                                                            Option.bind
                                                                                                                              (AV.int? Go.IntKind.i64 p311.fst)
                                                                                                                              fun n312 ↦
                                                                                                                              Option.bind (uncons? p311.snd)
                                                                                                                                fun p313 ↦
                                                                                                                                Option.bind
                                                                                                                                  (AV.int? Go.IntKind.i64
                                                                                                                                    p313.fst)
                                                                                                                                  fun n314 ↦
                                                                                                                                  Option.bind (nil? p313.snd)
                                                                                                                                    fun x315 ↦
                                                                                                                                    bif n290 != 0 then
                                                                                                                                      some
                                                                                                                                        (Out.ret (vbool false),
                                                                                                                                          [])
                                                                                                                                    else
                                                                                                                                      bif n298 != 0 then
                                                                                                                                        some
                                                                                                                                          (Out.ret
                                                                                                                                              (vbool false),
                                                                                                                                            [])
                                                                                                                                      else
                                                                                                                                        bif n314 != 0 then
                                                                                                                                          some
                                                                                                                                            (Out.ret
                                                                                                                                                (vbool false),
                                                                                                                                              [])
                                                                                                                                        else
                                                                                                                                          bif n312 != n288 then
                                                                                                                                            some
                                                                                                                                              (Out.ret
                                                                                                                                                  (vbool false),
                                                                                                                                                [])
                                                                                                                                          else
                                                                                                                                            bif
                                                                                                                                                decide
                                                                                                                                                  (n296 >
                                                                                                                                                    n283) then
                                                                                                                                              some
                                                                                                                                                (Out.ret
                                                                                                                                                    (vbool
                                                                                                                                                      false),
                                                                                                                                                  [])
                                                                                                                                            else
                                                                                                                                              bif
                                                                                                                                                  decide
                                                                                                                                                    (Go.IntKind.wrap
                                                                                                                                                        Go.IntKind.i64
                                                                                                                                                        (Int.sub
                                                                                                                                                          n283
                                                                                                                                                          n296) ≥
                                                                                                                                                      n263) then
                                                                                                                                                some
                                                                                                                                                  (Out.ret
                                                                                                                                                      (vbool
                                                                                                                                                        false),
                                                                                                                                                    [])
                                                                                                                                              else
                                                                                                                                                bif
                                                                                                                                                    n296 !=
                                                                                                                                                      Go.IntKind.wrap
                                                                                                                                                        Go.IntKind.i64
                                                                                                                                                        (Int.mul
                                                                                                                                                          n288
                                                                                                                                                          n263) then
                                                                                                                                                  some
                                                                                                                                                    (Out.ret
                                                                                                                                                        (vbool
                                                                                                                                                          false),
                                                                                                                                                      [])
                                                                                                                                                else
                                                                                                                                                  bif
                                                                                                                                                      n306 !=
                                                                                                                                                        0 then
                                                                                                                                                    bif
                                                                                                                                                        decide
                                                                                                                                                          (n306 =
                                                                                                                                                            8) then
                                                                                                                                                      if
                                                                                                                                                          n269 =
                                                                                                                                                            0 then
                                                                                                                                                        none
                                                                                                                                                      else
                                                                                                                                                        bif
                                                                                                                                                            decide
                                                                                                                                                              (Go.IntKind.wrap
                                                                                                                                                                  Go.IntKind.i64
                                                                                                                                                                  (Int.add
                                                                                                                                                                    n296
                                                                                                                                                                    n263) >
                                                                                                                                                                Go.IntKind.wrap
                                                                                                                                                                  Go.IntKind.i64
                                                                                                                                                                  (Int.tdiv
                                                                                                                                                                    1099511627776
                                                                                                                                                                    n269)) then
                                                                                                                                                          some
                                                                                                                                                            (Out.ret
                                                                                                                                                                (vbool
                                                                                                                                                                  true),
                                                                                                                                                              [])
                                                                                                                                                        else
                                                                                                                                                          some
                                                                                                                                                            (Out.ret
                                                                                                                                                                (vbool
                                                                                                                                                                  false),
                                                                                                                                                              [])
                                                                                                                                                    else
                                                                                                                                                      some
                                                                                                                                                        (Out.ret
                                                                                                                                                            (vbool
                                                                                                                                                              false),
                                                                                                                                                          [])
                                                                                                                                                  else
                                                                                                                                                    bif
                                                                                                                                                        decide
                                                                                                                                                          (n304 =
                                                                                                                                                            Go.IntKind.wrap
                                                                                                                                                              Go.IntKind.i64
                                                                                                                                                              (Int.add
                                                                                                                                                                n296
                                                                                                                                                                n263)) then
                                                                                                                                                      bif
                                                                                                                                                          decide
                                                                                                                                                            (n283 <
                                                                                                                                                              n304) then
                                                                                                                                                        some
                                                                                                                                                          (Out.ret
                                                                                                                                                              (vbool
                                                                                                                                                                true),
                                                                                                                                                            [])
                                                                                                                                                      else
                                                                                                                                                        some
                                                                                                                                                          (Out.ret
                                                                                                                                                              (vbool
                                                                                                                                                                false),
                                                                                                                                                            [])
                                                                                                                                                    else
                                                                                                                                                      some
                                                                                                                                                        (Out.ret
                                                                                                                                                            (vbool
                                                                                                                                                              false),
                                                                                                                                                          [])
          else
            Option.bind (E cx (Key.fn 13) [AV.agg [vi n247, vi n248, vi n249, vi n250, vi n251, vi n252], vu 0] []) fun r316 ↦
              Option.bind (ret1 r316) fun v317 ↦
                Option.bind (AV.cells? v317) fun cs318 ↦
                  Option.bind (uncons? cs318) fun p319 ↦
                    Option.bind (AV.int? Go.IntKind.i64 p319.fst) fun n320 ↦
                      Option.bind (uncons? p319.snd) fun p321 ↦
                        Option.bind (AV.int? Go.IntKind.i64 p321.fst) fun n322 ↦
                          Option.bind (uncons? p321.snd) fun p323 ↦
                            Option.bind (AV.int? Go.IntKind.i64 p323.fst) fun n324 ↦
                              Option.bind (uncons? p323.snd) fun p325 ↦
                                Option.bind (AV.int? Go.IntKind.i64 p325.fst) fun n326 ↦
                                  Option.bind (uncons? p325.snd) fun p327 ↦
                                    Option.bind (AV.int? Go.IntKind.i64 p327.fst) fun n328 ↦
                                      Option.bind (uncons? p327.snd) fun p329 ↦
                                        Option.bind (AV.int? Go.IntKind.i64 p329.fst) fun n330 ↦
                                          Option.bind (uncons? p329.snd) fun p331 ↦
                                            Option.bind (AV.int? Go.IntKind.i64 p331.fst) fun n332 ↦
                                              Option.bind (uncons? p331.snd) fun p333 ↦
                                                Option.bind (AV.int? Go.IntKind.i64 p333.fst) fun n334 ↦
                                                  Option.bind (uncons? p333.snd) fun p335 ↦
                                                    Option.bind (AV.int? Go.IntKind.i64 p335.fst) fun n336 ↦
                                                      Option.bind (uncons? p335.snd) fun p337 ↦
                                                        Option.bind (AV.int? Go.IntKind.u64 p337.fst) fun n338 ↦
                                                          Option.bind (nil? p337.snd) fun x339 ↦
                                                            if n328 = 0 then none
                                                            else
                                                              Option.bind
                                                                (E cx (Key.fn 17)
                                                                  [vi at253,
                                                                    vi
                                                                      (Go.IntKind.wrap Go.IntKind.i64
                                                                        (Int.add (Go.IntKind.wrap Go.IntKind.i64 (Int.tdiv 1099511627776 n328)) 1))]
                                                                  [])
                                                                fun r340 ↦
                                                                Option.bind (ret1 r340) fun v341 ↦
                                                                  Option.bind (AV.int? Go.IntKind.i64 v341) fun n342 ↦
                                                                    Option.bind
                                                                      (E cx (Key.fn 22)
                                                                        [AV.agg
                                                                            [vi n320, vi n322, vi n324, vi n326, vi n328, vi n330, vi n332, vi n334, vi n336,
                                                                              vu n338],
                                                                          vi n342]
                                                                        [])
                                                                      fun r343 ↦
                                                                      Option.bind (ret1 r343) fun v344 ↦
                                                                        Option.bind (AV.tup? v344) fun vs345 ↦
                                                                          Option.bind (uncons? vs345) fun p346 ↦
                                                                            Option.bind (AV.int? Go.IntKind.i64 p346.fst) fun n347 ↦
                                                                              Option.bind (uncons? p346.snd) fun p348 ↦
                                                                                Option.bind (AV.int? Go.IntKind.i64 p348.fst) fun n349 ↦
                                                                                  Option.bind (nil? p348.snd) fun x350 ↦
                                                                                    Option.bind
                                                                                      (E cx (Key.fn 24)
                                                                                        [AV.agg
                                                                                            [vi n320, vi n322, vi n324, vi n326, vi n328, vi n330, vi n332,
                                                                                              vi n334, vi n336, vu n338],
                                                                                          vi n347]
                                                                                        [])
                                                                                      fun r351 ↦
                                                                                      Option.bind (ret1 r351) fun v352 ↦
                                                                                        Option.bind (AV.tup? v352) fun vs353 ↦
                                                                                          Option.bind (uncons? vs353) fun p354 ↦
                                                                                            Option.bind (AV.int? Go.IntKind.i64 p354.fst) fun n355 ↦
                                                                                              Option.bind (uncons? p354.snd) fun p356 ↦
                                                                                                Option.bind (AV.int? Go.IntKind.i64 p356.fst) fun n357 ↦
                                                                                                  Option.bind (nil? p356.snd) fun x358 ↦
                                                                                                    Option.bind
                                                                                                      (E cx (Key.fn 24)
                                                                                                        [AV.agg
                                                                                                            [vi n320, vi n322, vi n324, vi n326, vi n328,
                                                                                                              vi n330, vi n332, vi n334, vi n336, vu n338],
                                                                                                          vi (Go.IntKind.wrap Go.IntKind.i64 (Int.add n347 1))]
                                                                                                        [])
                                                                                                      fun r359 ↦
                                                                                                      Option.bind (ret1 r359) fun v360 ↦
                                                                                                        Option.bind (AV.tup? v360) fun vs361 ↦
                                                                                                          Option.bind (uncons? vs361) fun p362 ↦
                                                                                                            Option.bind (AV.int? Go.IntKind.i64 p362.fst)
                                                                                                              fun n363 ↦
                                                                                                              Option.bind (uncons? p362.snd) fun p364 ↦
                                                                                                                Option.bind (AV.int? Go.IntKind.i64 p364.fst)
                                                                                                                  fun n365 ↦
                                                                                                                  Option.bind (nil? p364.snd) fun x366 ↦
                                                                                                                    Option.bind
                                                                                                                      (E cx (Key.fn 22)
                                                                                                                        [AV.agg
                                                                                                                            [vi n320, vi n322, vi n324, vi n326,
                                                                                                                              vi n328, vi n330, vi n332,
                                                                                                                              vi n334, vi n336, vu n338],
                                                                                                                          vi n355]
                                                                                                                        [])
                                                                                                                      fun r367 ↦
                                                                                                                      Option.bind (ret1 r367) fun v368 ↦
                                                                                                                        Option.bind (AV.tup? v368) fun vs369 ↦
                                                                                                                          Option.bind (uncons? vs369) fun p370 ↦
                                                                                                                            Option.bind
                                                                                                                              (AV.int? Go.IntKind.i64 p370.fst)
                                                                                                                              fun n371 ↦
                                                                                                                              Option.bind (uncons? p370.snd)
                                                                                                                                fun p372 ↦
                                                                                                                                Option.bind
                                                                                                                                  (AV.int? Go.IntKind.i64
                                                                                                                                    p372.fst)
                                                                                                                                  fun n373 ↦
                                                                                                                                  Option.bind (nil? p372.snd)
                                                                                                                                    fun x374 ↦
                                                                                                                                    bif n349 != 0 then
                                                                                                                                      some
                                                                                                                                        (Out.ret (vbool false),
                                                                                                                                          [])
                                                                                                                                    else
                                                                                                                                      bif n357 != 0 then
                                                                                                                                        some
                                                                                                                                          (Out.ret
                                                                                                                                              (vbool false),
                                                                                                                                            [])
                                                                                                                                      else
                                                                                                                                        bif n373 != 0 then
                                                                                                                                          some
                                                                                                                                            (Out.ret
                                                                                                                                                (vbool false),
                                                                                                                                              [])
                                                                                                                                        else
                                                                                                                                          bif n371 != n347 then
                                                                                                                                            some
                                                                                                                                              (Out.ret
                                                                                                                                                  (vbool false),
                                                                                                                                                [])
                                                                                                                                          else
                                                                                                                                            bif
                                                                                                                                                decide
                                                                                                                                                  (n355 >
                                                                                                                                                    n342) then
                                                                                                                                              some
                                                                                                                                                (Out.ret
                                                                                                                                                    (vbool
                                                                                                                                                      false),
                                                                                                                                                  [])
                                                                                                                                            else
                                                                                                                                              bif
                                                                                                                                                  decide
                                                                                                                                                    (Go.IntKind.wrap
                                                                                                                                                        Go.IntKind.i64
                                                                                                                                                        (Int.sub
                                                                                                                                                          n342
                                                                                                                                                          n355) ≥
                                                                                                                                                      n322) then
                                                                                                                                                some
                                                                                                                                                  (Out.ret
                                                                                                                                                      (vbool
                                                                                                                                                        false),
                                                                                                                                                    [])
                                                                                                                                              else
                                                                                                                                                bif
                                                                                                                                                    n355 !=
                                                                                                                                                      Go.IntKind.wrap
                                                                                                                                                        Go.IntKind.i64
                                                                                                                                                        (Int.mul
                                                                                                                                                          n347
                                                                                                                                                          n322) then
                                                                                                                                                  some
                                                                                                                                                    (Out.ret
                                                                                                                                                        (vbool
                                                                                                                                                          false),
                                                                                                                                                      [])
                                                                                                                                                else
                                                                                                                                                  bif
                                                                                                                                                      n365 !=
                                                                                                                                                        0 then
                                                                                                                                                    some
                                                                                                                                                      (Out.ret
                                                                                                                                                          (vbool
                                                                                                                                                            false),
                                                                                                                                                        [])
                                                                                                                                                  else
                                                                                                                                                    some
                                                                                                                                                      (Out.ret
                                                                                                                                                          (vbool
                                                                                                                                                            false),
                                                                                                                                                        []) := by
  intros
  exact (E_unfold _ _ _ _).trans (by kernel_rfl)

end Go.Proofs.Av
