/- A law's tree. -/
import Derived.Test.YtogopainnioiiaaDoorAvX
set_option maxRecDepth 100000
namespace Go.Proofs.Av
open Go
theorem f6 : ∀ (n375 n376 n377 n378 n379 n380 at381 x382 y383 : Int),
  E cx (Key.fn 6) [AV.agg [vi n375, vi n376, vi n377, vi n378, vi n379, vi n380], vi at381, vi x382, vi y383] [] =
    Option.bind (E cx (Key.fn 12) [] []) fun r384 ↦
      Option.bind (ret1 r384) fun v385 ↦
        Option.bind (AV.bool? v385) fun b386 ↦
          bif b386 then
            Option.bind (E cx (Key.fn 13) [AV.agg [vi n375, vi n376, vi n377, vi n378, vi n379, vi n380], vu 0] []) fun r387 ↦
              Option.bind (ret1 r387) fun v388 ↦
                Option.bind (AV.cells? v388) fun cs389 ↦
                  Option.bind (uncons? cs389) fun p390 ↦
                    Option.bind (AV.int? Go.IntKind.i64 p390.fst) fun n391 ↦
                      Option.bind (uncons? p390.snd) fun p392 ↦
                        Option.bind (AV.int? Go.IntKind.i64 p392.fst) fun n393 ↦
                          Option.bind (uncons? p392.snd) fun p394 ↦
                            Option.bind (AV.int? Go.IntKind.i64 p394.fst) fun n395 ↦
                              Option.bind (uncons? p394.snd) fun p396 ↦
                                Option.bind (AV.int? Go.IntKind.i64 p396.fst) fun n397 ↦
                                  Option.bind (uncons? p396.snd) fun p398 ↦
                                    Option.bind (AV.int? Go.IntKind.i64 p398.fst) fun n399 ↦
                                      Option.bind (uncons? p398.snd) fun p400 ↦
                                        Option.bind (AV.int? Go.IntKind.i64 p400.fst) fun n401 ↦
                                          Option.bind (uncons? p400.snd) fun p402 ↦
                                            Option.bind (AV.int? Go.IntKind.i64 p402.fst) fun n403 ↦
                                              Option.bind (uncons? p402.snd) fun p404 ↦
                                                Option.bind (AV.int? Go.IntKind.i64 p404.fst) fun n405 ↦
                                                  Option.bind (uncons? p404.snd) fun p406 ↦
                                                    Option.bind (AV.int? Go.IntKind.i64 p406.fst) fun n407 ↦
                                                      Option.bind (uncons? p406.snd) fun p408 ↦
                                                        Option.bind (AV.int? Go.IntKind.u64 p408.fst) fun n409 ↦
                                                          Option.bind (nil? p408.snd) fun x410 ↦
                                                            Option.bind (E cx (Key.fn 17) [vi at381, vi 1099511627777] []) fun r411 ↦
                                                              Option.bind (ret1 r411) fun v412 ↦
                                                                Option.bind (AV.int? Go.IntKind.i64 v412) fun n413 ↦
                                                                  Option.bind (E cx (Key.fn 17) [vi x382, vi 2199023255552] []) fun r414 ↦
                                                                    Option.bind (ret1 r414) fun v415 ↦
                                                                      Option.bind (AV.int? Go.IntKind.i64 v415) fun n416 ↦
                                                                        Option.bind (E cx (Key.fn 17) [vi y383, vi 2199023255552] []) fun r417 ↦
                                                                          Option.bind (ret1 r417) fun v418 ↦
                                                                            Option.bind (AV.int? Go.IntKind.i64 v418) fun n419 ↦
                                                                              Option.bind
                                                                                (E cx (Key.fn 26)
                                                                                  [AV.agg
                                                                                      [vi n391, vi n393, vi n395, vi n397, vi n399, vi n401, vi n403, vi n405,
                                                                                        vi n407, vu n409],
                                                                                    vi n413, vi n416]
                                                                                  [])
                                                                                fun r420 ↦
                                                                                Option.bind (ret1 r420) fun v421 ↦
                                                                                  Option.bind (AV.tup? v421) fun vs422 ↦
                                                                                    Option.bind (uncons? vs422) fun p423 ↦
                                                                                      Option.bind (AV.int? Go.IntKind.i64 p423.fst) fun n424 ↦
                                                                                        Option.bind (uncons? p423.snd) fun p425 ↦
                                                                                          Option.bind (AV.int? Go.IntKind.i64 p425.fst) fun n426 ↦
                                                                                            Option.bind (nil? p425.snd) fun x427 ↦
                                                                                              Option.bind
                                                                                                (E cx (Key.fn 26)
                                                                                                  [AV.agg
                                                                                                      [vi n391, vi n393, vi n395, vi n397, vi n399, vi n401,
                                                                                                        vi n403, vi n405, vi n407, vu n409],
                                                                                                    vi n424, vi n419]
                                                                                                  [])
                                                                                                fun r428 ↦
                                                                                                Option.bind (ret1 r428) fun v429 ↦
                                                                                                  Option.bind (AV.tup? v429) fun vs430 ↦
                                                                                                    Option.bind (uncons? vs430) fun p431 ↦
                                                                                                      Option.bind (AV.int? Go.IntKind.i64 p431.fst) fun n432 ↦
                                                                                                        Option.bind (uncons? p431.snd) fun p433 ↦
                                                                                                          Option.bind (AV.int? Go.IntKind.i64 p433.fst)
                                                                                                            fun n434 ↦
                                                                                                            Option.bind (nil? p433.snd) fun x435 ↦
                                                                                                              Option.bind
                                                                                                                (E cx (Key.fn 26)
                                                                                                                  [AV.agg
                                                                                                                      [vi n391, vi n393, vi n395, vi n397,
                                                                                                                        vi n399, vi n401, vi n403, vi n405,
                                                                                                                        vi n407, vu n409],
                                                                                                                    vi n413,
                                                                                                                    vi
                                                                                                                      (Go.IntKind.wrap Go.IntKind.i64
                                                                                                                        (Int.add n416 n419))]
                                                                                                                  [])
                                                                                                                fun r436 ↦
                                                                                                                Option.bind (ret1 r436) fun v437 ↦
                                                                                                                  Option.bind (AV.tup? v437) fun vs438 ↦
                                                                                                                    Option.bind (uncons? vs438) fun p439 ↦
                                                                                                                      Option.bind
                                                                                                                        (AV.int? Go.IntKind.i64 p439.fst)
                                                                                                                        fun n440 ↦
                                                                                                                        Option.bind (uncons? p439.snd)
                                                                                                                          fun p441 ↦
                                                                                                                          Option.bind
                                                                                                                            (AV.int? Go.IntKind.i64 p441.fst)
                                                                                                                            fun n442 ↦
                                                                                                                            Option.bind (nil? p441.snd)
                                                                                                                              fun x443 ↦
                                                                                                                              bif decide (n426 = 0) then
                                                                                                                                bif
                                                                                                                                    decide
                                                                                                                                      (Go.IntKind.wrap
                                                                                                                                          Go.IntKind.i64
                                                                                                                                          (Int.add n413 n416) ≤
                                                                                                                                        1099511627776) then
                                                                                                                                  bif decide (n442 = 0) then
                                                                                                                                    bif
                                                                                                                                        decide
                                                                                                                                          (Go.IntKind.wrap
                                                                                                                                              Go.IntKind.i64
                                                                                                                                              (Int.add
                                                                                                                                                (Go.IntKind.wrap
                                                                                                                                                  Go.IntKind.i64
                                                                                                                                                  (Int.add n413
                                                                                                                                                    n416))
                                                                                                                                                n419) ≤
                                                                                                                                            1099511627776) then
                                                                                                                                      bif n426 != 0 then
                                                                                                                                        bif n426 != 8 then
                                                                                                                                          some
                                                                                                                                            (Out.ret
                                                                                                                                                (vbool false),
                                                                                                                                              [])
                                                                                                                                        else
                                                                                                                                          bif n424 != 0 then
                                                                                                                                            some
                                                                                                                                              (Out.ret
                                                                                                                                                  (vbool false),
                                                                                                                                                [])
                                                                                                                                          else
                                                                                                                                            bif n426 != 0 then
                                                                                                                                              bif n442 != 0 then
                                                                                                                                                some
                                                                                                                                                  (Out.ret
                                                                                                                                                      (vbool
                                                                                                                                                        true),
                                                                                                                                                    [])
                                                                                                                                              else
                                                                                                                                                bif
                                                                                                                                                    decide
                                                                                                                                                      (n440 =
                                                                                                                                                        Go.IntKind.wrap
                                                                                                                                                          Go.IntKind.i64
                                                                                                                                                          (Int.add
                                                                                                                                                            (Go.IntKind.wrap
                                                                                                                                                              Go.IntKind.i64
                                                                                                                                                              (Int.add
                                                                                                                                                                n413
                                                                                                                                                                n416))
                                                                                                                                                            n419)) then
                                                                                                                                                  some
                                                                                                                                                    (Out.ret
                                                                                                                                                        (vbool
                                                                                                                                                          true),
                                                                                                                                                      [])
                                                                                                                                                else
                                                                                                                                                  some
                                                                                                                                                    (Out.ret
                                                                                                                                                        (vbool
                                                                                                                                                          false),
                                                                                                                                                      [])
                                                                                                                                            else
                                                                                                                                              bif
                                                                                                                                                  decide
                                                                                                                                                    (n424 =
                                                                                                                                                      Go.IntKind.wrap
                                                                                                                                                        Go.IntKind.i64
                                                                                                                                                        (Int.add
                                                                                                                                                          n413
                                                                                                                                                          n416)) then
                                                                                                                                                bif
                                                                                                                                                    decide
                                                                                                                                                      (n434 =
                                                                                                                                                        n442) then
                                                                                                                                                  bif
                                                                                                                                                      decide
                                                                                                                                                        (n432 =
                                                                                                                                                          n440) then
                                                                                                                                                    bif
                                                                                                                                                        n442 !=
                                                                                                                                                          0 then
                                                                                                                                                      some
                                                                                                                                                        (Out.ret
                                                                                                                                                            (vbool
                                                                                                                                                              true),
                                                                                                                                                          [])
                                                                                                                                                    else
                                                                                                                                                      bif
                                                                                                                                                          decide
                                                                                                                                                            (n440 =
                                                                                                                                                              Go.IntKind.wrap
                                                                                                                                                                Go.IntKind.i64
                                                                                                                                                                (Int.add
                                                                                                                                                                  (Go.IntKind.wrap
                                                                                                                                                                    Go.IntKind.i64
                                                                                                                                                                    (Int.add
                                                                                                                                                                      n413
                                                                                                                                                                      n416))
                                                                                                                                                                  n419)) then
                                                                                                                                                        some
                                                                                                                                                          (Out.ret
                                                                                                                                                              (vbool
                                                                                                                                                                true),
                                                                                                                                                            [])
                                                                                                                                                      else
                                                                                                                                                        some
                                                                                                                                                          (Out.ret
                                                                                                                                                              (vbool
                                                                                                                                                                false),
                                                                                                                                                            [])
                                                                                                                                                  else
                                                                                                                                                    some
                                                                                                                                                      (Out.ret
                                                                                                                                                          (vbool
                                                                                                                                                            false),
                                                                                                                                                        [])
                                                                                                                                                else
                                                                                                                                                  some
                                                                                                                                                    (Out.ret
                                                                                                                                                        (vbool
                                                                                                                                                          false),
                                                                                                                                                      [])
                                                                                                                                              else
                                                                                                                                                some
                                                                                                                                                  (Out.ret
                                                                                                                                                      (vbool
                                                                                                                                                        false),
                                                                                                                                                    [])
                                                                                                                                      else
                                                                                                                                        bif n426 != 0 then
                                                                                                                                          bif n442 != 0 then
                                                                                                                                            some
                                                                                                                                              (Out.ret
                                                                                                                                                  (vbool true),
                                                                                                                                                [])
                                                                                                                                          else
                                                                                                                                            bif
                                                                                                                                                decide
                                                                                                                                                  (n440 =
                                                                                                                                                    Go.IntKind.wrap
                                                                                                                                                      Go.IntKind.i64
                                                                                                                                                      (Int.add
                                                                                                                                                        (Go.IntKind.wrap
                                                                                                                                                          Go.IntKind.i64
                                                                                                                                                          (Int.add
                                                                                                                                                            n413
                                                                                                                                                            n416))
                                                                                                                                                        n419)) then
                                                                                                                                              some
                                                                                                                                                (Out.ret
                                                                                                                                                    (vbool
                                                                                                                                                      true),
                                                                                                                                                  [])
                                                                                                                                            else
                                                                                                                                              some
                                                                                                                                                (Out.ret
                                                                                                                                                    (vbool
                                                                                                                                                      false),
                                                                                                                                                  [])
                                                                                                                                        else
                                                                                                                                          bif
                                                                                                                                              decide
                                                                                                                                                (n424 =
                                                                                                                                                  Go.IntKind.wrap
                                                                                                                                                    Go.IntKind.i64
                                                                                                                                                    (Int.add
                                                                                                                                                      n413
                                                                                                                                                      n416)) then
                                                                                                                                            bif
                                                                                                                                                decide
                                                                                                                                                  (n434 =
                                                                                                                                                    n442) then
                                                                                                                                              bif
                                                                                                                                                  decide
                                                                                                                                                    (n432 =
                                                                                                                                                      n440) then
                                                                                                                                                bif
                                                                                                                                                    n442 !=
                                                                                                                                                      0 then
                                                                                                                                                  some
                                                                                                                                                    (Out.ret
                                                                                                                                                        (vbool
                                                                                                                                                          true),
                                                                                                                                                      [])
                                                                                                                                                else
                                                                                                                                                  bif
                                                                                                                                                      decide
                                                                                                                                                        (n440 =
                                                                                                                                                          Go.IntKind.wrap
                                                                                                                                                            Go.IntKind.i64
                                                                                                                                                            (Int.add
                                                                                                                                                              (Go.IntKind.wrap
                                                                                                                                                                Go.IntKind.i64
                                                                                                                                                                (Int.add
                                                                                                                                                                  n413
                                                                                                                                                                  n416))
                                                                                                                                                              n419)) then
                                                                                                                                                    some
                                                                                                                                                      (Out.ret
                                                                                                                                                          (vbool
                                                                                                                                                            true),
                                                                                                                                                        [])
                                                                                                                                                  else
                                                                                                                                                    some
                                                                                                                                                      (Out.ret
                                                                                                                                                          (vbool
                                                                                                                                                            false),
                                                                                                                                                        [])
                                                                                                                                              else
                                                                                                                                                some
                                                                                                                                                  (Out.ret
                                                                                                                                                      (vbool
                                                                                                                                                        false),
                                                                                                                                                    [])
                                                                                                                                            else
                                                                                                                                              some
                                                                                                                                                (Out.ret
                                                                                                                                                    (vbool
                                                                                                                                                      false),
                                                                                                                                                  [])
                                                                                                                                          else
                                                                                                                                            some
                                                                                                                                              (Out.ret
                                                                                                                                                  (vbool false),
                                                                                                                                                [])
                                                                                                                                    else
                                                                                                                                      some
                                                                                                                                        (Out.ret (vbool false),
                                                                                                                                          [])
                                                                                                                                  else
                                                                                                                                    bif
                                                                                                                                        decide
                                                                                                                                          (Go.IntKind.wrap
                                                                                                                                              Go.IntKind.i64
                                                                                                                                              (Int.add
                                                                                                                                                (Go.IntKind.wrap
                                                                                                                                                  Go.IntKind.i64
                                                                                                                                                  (Int.add n413
                                                                                                                                                    n416))
                                                                                                                                                n419) ≤
                                                                                                                                            1099511627776) then
                                                                                                                                      some
                                                                                                                                        (Out.ret (vbool false),
                                                                                                                                          [])
                                                                                                                                    else
                                                                                                                                      bif n426 != 0 then
                                                                                                                                        bif n426 != 8 then
                                                                                                                                          some
                                                                                                                                            (Out.ret
                                                                                                                                                (vbool false),
                                                                                                                                              [])
                                                                                                                                        else
                                                                                                                                          bif n424 != 0 then
                                                                                                                                            some
                                                                                                                                              (Out.ret
                                                                                                                                                  (vbool false),
                                                                                                                                                [])
                                                                                                                                          else
                                                                                                                                            bif n426 != 0 then
                                                                                                                                              bif n442 != 0 then
                                                                                                                                                some
                                                                                                                                                  (Out.ret
                                                                                                                                                      (vbool
                                                                                                                                                        true),
                                                                                                                                                    [])
                                                                                                                                              else
                                                                                                                                                bif
                                                                                                                                                    decide
                                                                                                                                                      (n440 =
                                                                                                                                                        Go.IntKind.wrap
                                                                                                                                                          Go.IntKind.i64
                                                                                                                                                          (Int.add
                                                                                                                                                            (Go.IntKind.wrap
                                                                                                                                                              Go.IntKind.i64
                                                                                                                                                              (Int.add
                                                                                                                                                                n413
                                                                                                                                                                n416))
                                                                                                                                                            n419)) then
                                                                                                                                                  some
                                                                                                                                                    (Out.ret
                                                                                                                                                        (vbool
                                                                                                                                                          true),
                                                                                                                                                      [])
                                                                                                                                                else
                                                                                                                                                  some
                                                                                                                                                    (Out.ret
                                                                                                                                                        (vbool
                                                                                                                                                          false),
                                                                                                                                                      [])
                                                                                                                                            else
                                                                                                                                              bif
                                                                                                                                                  decide
                                                                                                                                                    (n424 =
                                                                                                                                                      Go.IntKind.wrap
                                                                                                                                                        Go.IntKind.i64
                                                                                                                                                        (Int.add
                                                                                                                                                          n413
                                                                                                                                                          n416)) then
                                                                                                                                                bif
                                                                                                                                                    decide
                                                                                                                                                      (n434 =
                                                                                                                                                        n442) then
                                                                                                                                                  bif
                                                                                                                                                      decide
                                                                                                                                                        (n432 =
                                                                                                                                                          n440) then
                                                                                                                                                    bif
                                                                                                                                                        n442 !=
                                                                                                                                                          0 then
                                                                                                                                                      some
                                                                                                                                                        (Out.ret
                                                                                                                                                            (vbool
                                                                                                                                                              true),
                                                                                                                                                          [])
                                                                                                                                                    else
                                                                                                                                                      bif
                                                                                                                                                          decide
                                                                                                                                                            (n440 =
                                                                                                                                                              Go.IntKind.wrap
                                                                                                                                                                Go.IntKind.i64
                                                                                                                                                                (Int.add
                                                                                                                                                                  (Go.IntKind.wrap
                                                                                                                                                                    Go.IntKind.i64
                                                                                                                                                                    (Int.add
                                                                                                                                                                      n413
                                                                                                                                                                      n416))
                                                                                                                                                                  n419)) then
                                                                                                                                                        some
                                                                                                                                                          (Out.ret
                                                                                                                                                              (vbool
                                                                                                                                                                true),
                                                                                                                                                            [])
                                                                                                                                                      else
                                                                                                                                                        some
                                                                                                                                                          (Out.ret
                                                                                                                                                              (vbool
                                                                                                                                                                false),
                                                                                                                                                            [])
                                                                                                                                                  else
                                                                                                                                                    some
                                                                                                                                                      (Out.ret
                                                                                                                                                          (vbool
                                                                                                                                                            false),
                                                                                                                                                        [])
                                                                                                                                                else
                                                                                                                                                  some
                                                                                                                                                    (Out.ret
                                                                                                                                                        (vbool
                                                                                                                                                          false),
                                                                                                                                                      [])
                                                                                                                                              else
                                                                                                                                                some
                                                                                                                                                  (Out.ret
                                                                                                                                                      (vbool
                                                                                                                                                        false),
                                                                                                                                                    [])
                                                                                                                                      else
                                                                                                                                        bif n426 != 0 then
                                                                                                                                          bif n442 != 0 then
                                                                                                                                            some
                                                                                                                                              (Out.ret
                                                                                                                                                  (vbool true),
                                                                                                                                                [])
                                                                                                                                          else
                                                                                                                                            bif
                                                                                                                                                decide
                                                                                                                                                  (n440 =
                                                                                                                                                    Go.IntKind.wrap
                                                                                                                                                      Go.IntKind.i64
                                                                                                                                                      (Int.add
                                                                                                                                                        (Go.IntKind.wrap
                                                                                                                                                          Go.IntKind.i64
                                                                                                                                                          (Int.add
                                                                                                                                                            n413
                                                                                                                                                            n416))
                                                                                                                                                        n419)) then
                                                                                                                                              some
                                                                                                                                                (Out.ret
                                                                                                                                                    (vbool
                                                                                                                                                      true),
                                                                                                                                                  [])
                                                                                                                                            else
                                                                                                                                              some
                                                                                                                                                (Out.ret
                                                                                                                                                    (vbool
                                                                                                                                                      false),
                                                                                                                                                  [])
                                                                                                                                        else
                                                                                                                                          bif
                                                                                                                                              decide
                                                                                                                                                (n424 =
                                                                                                                                                  Go.IntKind.wrap
                                                                                                                                                    Go.IntKind.i64
                                                                                                                                                    (Int.add
                                                                                                                                                      n413
                                                                                                                                                      n416)) then
                                                                                                                                            bif
                                                                                                                                                decide
                                                                                                                                                  (n434 =
                                                                                                                                                    n442) then
                                                                                                                                              bif
                                                                                                                                                  decide
                                                                                                                                                    (n432 =
                                                                                                                                                      n440) then
                                                                                                                                                bif
                                                                                                                                                    n442 !=
                                                                                                                                                      0 then
                                                                                                                                                  some
                                                                                                                                                    (Out.ret
                                                                                                                                                        (vbool
                                                                                                                                                          true),
                                                                                                                                                      [])
                                                                                                                                                else
                                                                                                                                                  bif
                                                                                                                                                      decide
                                                                                                                                                        (n440 =
                                                                                                                                                          Go.IntKind.wrap
                                                                                                                                                            Go.IntKind.i64
                                                                                                                                                            (Int.add
                                                                                                                                                              (Go.IntKind.wrap
                                                                                                                                                                Go.IntKind.i64
                                                                                                                                                                (Int.add
                                                                                                                                                                  n413
                                                                                                                                                                  n416))
                                                                                                                                                              n419)) then
                                                                                                                                                    some
                                                                                                                                                      (Out.ret
                                                                                                                                                          (vbool
                                                                                                                                                            true),
                                                                                                                                                        [])
                                                                                                                                                  else
                                                                                                                                                    some
                                                                                                                                                      (Out.ret
                                                                                                                                                          (vbool
                                                                                                                                                            false),
                                                                                                                                                        [])
                                                                                                                                              else
                                                                                                                                                some
                                                                                                                                                  (Out.ret
                                                                                                                                                      (vbool
                                                                                                                                                        false),
                                                                                                                                                    [])
                                                                                                                                            else
                                                                                                                                              some
                                                                                                                                                (Out.ret
                                                                                                                                                    (vbool
                                                                                                                                                      false),
                                                                                                                                                  [])
                                                                                                                                          else
                                                                                                                                            some
                                                                                                                                              (Out.ret
                                                                                                                                                  (vbool false),
                                                                                                                                                [])
                                                                                                                                else
                                                                                                                                  some
                                                                                                                                    (Out.ret (vbool false), [])
                                                                                                                              else
                                                                                                                                bif
                                                                                                                                    decide
                                                                                                                                      (Go.IntKind.wrap
                                                                                                                                          Go.IntKind.i64
                                                                                                                                          (Int.add n413 n416) ≤
                                                                                                                                        1099511627776) then
                                                                                                                                  some
                                                                                                                                    (Out.ret (vbool false), [])
                                                                                                                                else
                                                                                                                                  bif decide (n442 = 0) then
                                                                                                                                    bif
                                                                                                                                        decide
                                                                                                                                          (Go.IntKind.wrap
                                                                                                                                              Go.IntKind.i64
                                                                                                                                              (Int.add
                                                                                                                                                (Go.IntKind.wrap
                                                                                                                                                  Go.IntKind.i64
                                                                                                                                                  (Int.add n413
                                                                                                                                                    n416))
                                                                                                                                                n419) ≤
                                                                                                                                            1099511627776) then
                                                                                                                                      bif n426 != 0 then
                                                                                                                                        bif n426 != 8 then
                                                                                                                                          some
                                                                                                                                            (Out.ret
                                                                                                                                                (vbool false),
                                                                                                                                              [])
                                                                                                                                        else
                                                                                                                                          bif n424 != 0 then
                                                                                                                                            some
                                                                                                                                              (Out.ret
                                                                                                                                                  (vbool false),
                                                                                                                                                [])
                                                                                                                                          else
                                                                                                                                            bif n426 != 0 then
                                                                                                                                              bif n442 != 0 then
                                                                                                                                                some
                                                                                                                                                  (Out.ret
                                                                                                                                                      (vbool
                                                                                                                                                        true),
                                                                                                                                                    [])
                                                                                                                                              else
                                                                                                                                                bif
                                                                                                                                                    decide
                                                                                                                                                      (n440 =
                                                                                                                                                        Go.IntKind.wrap
                                                                                                                                                          Go.IntKind.i64
                                                                                                                                                          (Int.add
                                                                                                                                                            (Go.IntKind.wrap
                                                                                                                                                              Go.IntKind.i64
                                                                                                                                                              (Int.add
                                                                                                                                                                n413
                                                                                                                                                                n416))
                                                                                                                                                            n419)) then
                                                                                                                                                  some
                                                                                                                                                    (Out.ret
                                                                                                                                                        (vbool
                                                                                                                                                          true),
                                                                                                                                                      [])
                                                                                                                                                else
                                                                                                                                                  some
                                                                                                                                                    (Out.ret
                                                                                                                                                        (vbool
                                                                                                                                                          false),
                                                                                                                                                      [])
                                                                                                                                            else
                                                                                                                                              bif
                                                                                                                                                  decide
                                                                                                                                                    (n424 =
                                                                                                                                                      Go.IntKind.wrap
                                                                                                                                                        Go.IntKind.i64
                                                                                                                                                        (Int.add
                                                                                                                                                          n413
                                                                                                                                                          n416)) then
                                                                                                                                                bif
                                                                                                                                                    decide
                                                                                                                                                      (n434 =
                                                                                                                                                        n442) then
                                                                                                                                                  bif
                                                                                                                                                      decide
                                                                                                                                                        (n432 =
                                                                                                                                                          n440) then
                                                                                                                                                    bif
                                                                                                                                                        n442 !=
                                                                                                                                                          0 then
                                                                                                                                                      some
                                                                                                                                                        (Out.ret
                                                                                                                                                            (vbool
                                                                                                                                                              true),
                                                                                                                                                          [])
                                                                                                                                                    else
                                                                                                                                                      bif
                                                                                                                                                          decide
                                                                                                                                                            (n440 =
                                                                                                                                                              Go.IntKind.wrap
                                                                                                                                                                Go.IntKind.i64
                                                                                                                                                                (Int.add
                                                                                                                                                                  (Go.IntKind.wrap
                                                                                                                                                                    Go.IntKind.i64
                                                                                                                                                                    (Int.add
                                                                                                                                                                      n413
                                                                                                                                                                      n416))
                                                                                                                                                                  n419)) then
                                                                                                                                                        some
                                                                                                                                                          (Out.ret
                                                                                                                                                              (vbool
                                                                                                                                                                true),
                                                                                                                                                            [])
                                                                                                                                                      else
                                                                                                                                                        some
                                                                                                                                                          (Out.ret
                                                                                                                                                              (vbool
                                                                                                                                                                false),
                                                                                                                                                            [])
                                                                                                                                                  else
                                                                                                                                                    some
                                                                                                                                                      (Out.ret
                                                                                                                                                          (vbool
                                                                                                                                                            false),
                                                                                                                                                        [])
                                                                                                                                                else
                                                                                                                                                  some
                                                                                                                                                    (Out.ret
                                                                                                                                                        (vbool
                                                                                                                                                          false),
                                                                                                                                                      [])
                                                                                                                                              else
                                                                                                                                                some
                                                                                                                                                  (Out.ret
                                                                                                                                                      (vbool
                                                                                                                                                        false),
                                                                                                                                                    [])
                                                                                                                                      else
                                                                                                                                        bif n426 != 0 then
                                                                                                                                          bif n442 != 0 then
                                                                                                                                            some
                                                                                                                                              (Out.ret
                                                                                                                                                  (vbool true),
                                                                                                                                                [])
                                                                                                                                          else
                                                                                                                                            bif
                                                                                                                                                decide
                                                                                                                                                  (n440 =
                                                                                                                                                    Go.IntKind.wrap
                                                                                                                                                      Go.IntKind.i64
                                                                                                                                                      (Int.add
                                                                                                                                                        (Go.IntKind.wrap
                                                                                                                                                          Go.IntKind.i64
                                                                                                                                                          (Int.add
                                                                                                                                                            n413
                                                                                                                                                            n416))
                                                                                                                                                        n419)) then
                                                                                                                                              some
                                                                                                                                                (Out.ret
                                                                                                                                                    (vbool
                                                                                                                                                      true),
                                                                                                                                                  [])
                                                                                                                                            else
                                                                                                                                              some
                                                                                                                                                (Out.ret
                                                                                                                                                    (vbool
                                                                                                                                                      false),
                                                                                                                                                  [])
                                                                                                                                        else
                                                                                                                                          bif
                                                                                                                                              decide
                                                                                                                                                (n424 =
                                                                                                                                                  Go.IntKind.wrap
                                                                                                                                                    Go.IntKind.i64
                                                                                                                                                    (Int.add
                                                                                                                                                      n413
                                                                                                                                                      n416)) then
                                                                                                                                            bif
                                                                                                                                                decide
                                                                                                                                                  (n434 =
                                                                                                                                                    n442) then
                                                                                                                                              bif
                                                                                                                                                  decide
                                                                                                                                                    (n432 =
                                                                                                                                                      n440) then
                                                                                                                                                bif
                                                                                                                                                    n442 !=
                                                                                                                                                      0 then
                                                                                                                                                  some
                                                                                                                                                    (Out.ret
                                                                                                                                                        (vbool
                                                                                                                                                          true),
                                                                                                                                                      [])
                                                                                                                                                else
                                                                                                                                                  bif
                                                                                                                                                      decide
                                                                                                                                                        (n440 =
                                                                                                                                                          Go.IntKind.wrap
                                                                                                                                                            Go.IntKind.i64
                                                                                                                                                            (Int.add
                                                                                                                                                              (Go.IntKind.wrap
                                                                                                                                                                Go.IntKind.i64
                                                                                                                                                                (Int.add
                                                                                                                                                                  n413
                                                                                                                                                                  n416))
                                                                                                                                                              n419)) then
                                                                                                                                                    some
                                                                                                                                                      (Out.ret
                                                                                                                                                          (vbool
                                                                                                                                                            true),
                                                                                                                                                        [])
                                                                                                                                                  else
                                                                                                                                                    some
                                                                                                                                                      (Out.ret
                                                                                                                                                          (vbool
                                                                                                                                                            false),
                                                                                                                                                        [])
                                                                                                                                              else
                                                                                                                                                some
                                                                                                                                                  (Out.ret
                                                                                                                                                      (vbool
                                                                                                                                                        false),
                                                                                                                                                    [])
                                                                                                                                            else
                                                                                                                                              some
                                                                                                                                                (Out.ret
                                                                                                                                                    (vbool
                                                                                                                                                      false),
                                                                                                                                                  [])
                                                                                                                                          else
                                                                                                                                            some
                                                                                                                                              (Out.ret
                                                                                                                                                  (vbool false),
                                                                                                                                                [])
                                                                                                                                    else
                                                                                                                                      some
                                                                                                                                        (Out.ret (vbool false),
                                                                                                                                          [])
                                                                                                                                  else
                                                                                                                                    bif
                                                                                                                                        decide
                                                                                                                                          (Go.IntKind.wrap
                                                                                                                                              Go.IntKind.i64
                                                                                                                                              (Int.add
                                                                                                                                                (Go.IntKind.wrap
                                                                                                                                                  Go.IntKind.i64
                                                                                                                                                  (Int.add n413
                                                                                                                                                    n416))
                                                                                                                                                n419) ≤
                                                                                                                                            1099511627776) then
                                                                                                                                      some
                                                                                                                                        (Out.ret (vbool false),
                                                                                                                                          [])
                                                                                                                                    else
                                                                                                                                      bif n426 != 0 then
                                                                                                                                        bif n426 != 8 then
                                                                                                                                          some
                                                                                                                                            (Out.ret
                                                                                                                                                (vbool false),
                                                                                                                                              [])
                                                                                                                                        else
                                                                                                                                          bif n424 != 0 then
                                                                                                                                            some
                                                                                                                                              (Out.ret
                                                                                                                                                  (vbool false),
                                                                                                                                                [])
                                                                                                                                          else
                                                                                                                                            bif n426 != 0 then
                                                                                                                                              bif n442 != 0 then
                                                                                                                                                some
                                                                                                                                                  (Out.ret
                                                                                                                                                      (vbool
                                                                                                                                                        true),
                                                                                                                                                    [])
                                                                                                                                              else
                                                                                                                                                bif
                                                                                                                                                    decide
                                                                                                                                                      (n440 =
                                                                                                                                                        Go.IntKind.wrap
                                                                                                                                                          Go.IntKind.i64
                                                                                                                                                          (Int.add
                                                                                                                                                            (Go.IntKind.wrap
                                                                                                                                                              Go.IntKind.i64
                                                                                                                                                              (Int.add
                                                                                                                                                                n413
                                                                                                                                                                n416))
                                                                                                                                                            n419)) then
                                                                                                                                                  some
                                                                                                                                                    (Out.ret
                                                                                                                                                        (vbool
                                                                                                                                                          true),
                                                                                                                                                      [])
                                                                                                                                                else
                                                                                                                                                  some
                                                                                                                                                    (Out.ret
                                                                                                                                                        (vbool
                                                                                                                                                          false),
                                                                                                                                                      [])
                                                                                                                                            else
                                                                                                                                              bif
                                                                                                                                                  decide
                                                                                                                                                    (n424 =
                                                                                                                                                      Go.IntKind.wrap
                                                                                                                                                        Go.IntKind.i64
                                                                                                                                                        (Int.add
                                                                                                                                                          n413
                                                                                                                                                          n416)) then
                                                                                                                                                bif
                                                                                                                                                    decide
                                                                                                                                                      (n434 =
                                                                                                                                                        n442) then
                                                                                                                                                  bif
                                                                                                                                                      decide
                                                                                                                                                        (n432 =
                                                                                                                                                          n440) then
                                                                                                                                                    bif
                                                                                                                                                        n442 !=
                                                                                                                                                          0 then
                                                                                                                                                      some
                                                                                                                                                        (Out.ret
                                                                                                                                                            (vbool
                                                                                                                                                              true),
                                                                                                                                                          [])
                                                                                                                                                    else
                                                                                                                                                      bif
                                                                                                                                                          decide
                                                                                                                                                            (n440 =
                                                                                                                                                              Go.IntKind.wrap
                                                                                                                                                                Go.IntKind.i64
                                                                                                                                                                (Int.add
                                                                                                                                                                  (Go.IntKind.wrap
                                                                                                                                                                    Go.IntKind.i64
                                                                                                                                                                    (Int.add
                                                                                                                                                                      n413
                                                                                                                                                                      n416))
                                                                                                                                                                  n419)) then
                                                                                                                                                        some
                                                                                                                                                          (Out.ret
                                                                                                                                                              (vbool
                                                                                                                                                                true),
                                                                                                                                                            [])
                                                                                                                                                      else
                                                                                                                                                        some
                                                                                                                                                          (Out.ret
                                                                                                                                                              (vbool
                                                                                                                                                                false),
                                                                                                                                                            [])
                                                                                                                                                  else
                                                                                                                                                    some
                                                                                                                                                      (Out.ret
                                                                                                                                                          (vbool
                                                                                                                                                            false),
                                                                                                                                                        [])
                                                                                                                                                else
                                                                                                                                                  some
                                                                                                                                                    (Out.ret
                                                                                                                                                        (vbool
                                                                                                                                                          false),
                                                                                                                                                      [])
                                                                                                                                              else
                                                                                                                                                some
                                                                                                                                                  (Out.ret
                                                                                                                                                      (vbool
                                                                                                                                                        false),
                                                                                                                                                    [])
                                                                                                                                      else
                                                                                                                                        bif n426 != 0 then
                                                                                                                                          bif n442 != 0 then
                                                                                                                                            some
                                                                                                                                              (Out.ret
                                                                                                                                                  (vbool true),
                                                                                                                                                [])
                                                                                                                                          else
                                                                                                                                            bif
                                                                                                                                                decide
                                                                                                                                                  (n440 =
                                                                                                                                                    Go.IntKind.wrap
                                                                                                                                                      Go.IntKind.i64
                                                                                                                                                      (Int.add
                                                                                                                                                        (Go.IntKind.wrap
                                                                                                                                                          Go.IntKind.i64
                                                                                                                                                          (Int.add
                                                                                                                                                            n413
                                                                                                                                                            n416))
                                                                                                                                                        n419)) then
                                                                                                                                              some
                                                                                                                                                (Out.ret
                                                                                                                                                    (vbool
                                                                                                                                                      true),
                                                                                                                                                  [])
                                                                                                                                            else
                                                                                                                                              some
                                                                                                                                                (Out.ret
                                                                                                                                                    (vbool
                                                                                                                                                      false),
                                                                                                                                                  [])
                                                                                                                                        else
                                                                                                                                          bif
                                                                                                                                              decide
                                                                                                                                                (n424 =
                                                                                                                                                  Go.IntKind.wrap
                                                                                                                                                    Go.IntKind.i64
                                                                                                                                                    (Int.add
                                                                                                                                                      n413
                                                                                                                                                      n416)) then
                                                                                                                                            bif
                                                                                                                                                decide
                                                                                                                                                  (n434 =
                                                                                                                                                    n442) then
                                                                                                                                              bif
                                                                                                                                                  decide
                                                                                                                                                    (n432 =
                                                                                                                                                      n440) then
                                                                                                                                                bif
                                                                                                                                                    n442 !=
                                                                                                                                                      0 then
                                                                                                                                                  some
                                                                                                                                                    (Out.ret
                                                                                                                                                        (vbool
                                                                                                                                                          true),
                                                                                                                                                      [])
                                                                                                                                                else
                                                                                                                                                  bif
                                                                                                                                                      decide
                                                                                                                                                        (n440 =
                                                                                                                                                          Go.IntKind.wrap
                                                                                                                                                            Go.IntKind.i64
                                                                                                                                                            (Int.add
                                                                                                                                                              (Go.IntKind.wrap
                                                                                                                                                                Go.IntKind.i64
                                                                                                                                                                (Int.add
                                                                                                                                                                  n413
                                                                                                                                                                  n416))
                                                                                                                                                              n419)) then
                                                                                                                                                    some
                                                                                                                                                      (Out.ret
                                                                                                                                                          (vbool
                                                                                                                                                            true),
                                                                                                                                                        [])
                                                                                                                                                  else
                                                                                                                                                    some
                                                                                                                                                      (Out.ret
                                                                                                                                                          (vbool
                                                                                                                                                            false),
                                                                                                                                                        [])
                                                                                                                                              else
                                                                                                                                                some
                                                                                                                                                  (Out.ret
                                                                                                                                                      (vbool
                                                                                                                                                        false),
                                                                                                                                                    [])
                                                                                                                                            else
                                                                                                                                              some
                                                                                                                                                (Out.ret
                                                                                                                                                    (vbool
                                                                                                                                                      false),
                                                                                                                                                  [])
                                                                                                                                          else
                                                                                                                                            some
                                                                                                                                              (Out.ret
                                                                                                                                                  (vbool false),
                                                                                                                                                [])
          else
            Option.bind (E cx (Key.fn 13) [AV.agg [vi n375, vi n376, vi n377, vi n378, vi n379, vi n380], vu 0] []) fun r444 ↦
              Option.bind (ret1 r444) fun v445 ↦
                Option.bind (AV.cells? v445) fun cs446 ↦
                  Option.bind (uncons? cs446) fun p447 ↦
                    Option.bind (AV.int? Go.IntKind.i64 p447.fst) fun n448 ↦
                      Option.bind (uncons? p447.snd) fun p449 ↦
                        Option.bind (AV.int? Go.IntKind.i64 p449.fst) fun n450 ↦
                          Option.bind (uncons? p449.snd) fun p451 ↦
                            Option.bind (AV.int? Go.IntKind.i64 p451.fst) fun n452 ↦
                              Option.bind (uncons? p451.snd) fun p453 ↦
                                Option.bind (AV.int? Go.IntKind.i64 p453.fst) fun n454 ↦
                                  Option.bind (uncons? p453.snd) fun p455 ↦
                                    Option.bind (AV.int? Go.IntKind.i64 p455.fst) fun n456 ↦
                                      Option.bind (uncons? p455.snd) fun p457 ↦
                                        Option.bind (AV.int? Go.IntKind.i64 p457.fst) fun n458 ↦
                                          Option.bind (uncons? p457.snd) fun p459 ↦
                                            Option.bind (AV.int? Go.IntKind.i64 p459.fst) fun n460 ↦
                                              Option.bind (uncons? p459.snd) fun p461 ↦
                                                Option.bind (AV.int? Go.IntKind.i64 p461.fst) fun n462 ↦
                                                  Option.bind (uncons? p461.snd) fun p463 ↦
                                                    Option.bind (AV.int? Go.IntKind.i64 p463.fst) fun n464 ↦
                                                      Option.bind (uncons? p463.snd) fun p465 ↦
                                                        Option.bind (AV.int? Go.IntKind.u64 p465.fst) fun n466 ↦
                                                          Option.bind (nil? p465.snd) fun x467 ↦
                                                            Option.bind (E cx (Key.fn 17) [vi at381, vi 1099511627777] []) fun r468 ↦
                                                              Option.bind (ret1 r468) fun v469 ↦
                                                                Option.bind (AV.int? Go.IntKind.i64 v469) fun n470 ↦
                                                                  Option.bind (E cx (Key.fn 17) [vi x382, vi 2199023255552] []) fun r471 ↦
                                                                    Option.bind (ret1 r471) fun v472 ↦
                                                                      Option.bind (AV.int? Go.IntKind.i64 v472) fun n473 ↦
                                                                        Option.bind (E cx (Key.fn 17) [vi y383, vi 2199023255552] []) fun r474 ↦
                                                                          Option.bind (ret1 r474) fun v475 ↦
                                                                            Option.bind (AV.int? Go.IntKind.i64 v475) fun n476 ↦
                                                                              Option.bind
                                                                                (E cx (Key.fn 26)
                                                                                  [AV.agg
                                                                                      [vi n448, vi n450, vi n452, vi n454, vi n456, vi n458, vi n460, vi n462,
                                                                                        vi n464, vu n466],
                                                                                    vi n470, vi n473]
                                                                                  [])
                                                                                fun r477 ↦
                                                                                Option.bind (ret1 r477) fun v478 ↦
                                                                                  Option.bind (AV.tup? v478) fun vs479 ↦
                                                                                    Option.bind (uncons? vs479) fun p480 ↦
                                                                                      Option.bind (AV.int? Go.IntKind.i64 p480.fst) fun n481 ↦
                                                                                        Option.bind (uncons? p480.snd) fun p482 ↦
                                                                                          Option.bind (AV.int? Go.IntKind.i64 p482.fst) fun n483 ↦
                                                                                            Option.bind (nil? p482.snd) fun x484 ↦
                                                                                              Option.bind
                                                                                                (E cx (Key.fn 26)
                                                                                                  [AV.agg
                                                                                                      [vi n448, vi n450, vi n452, vi n454, vi n456, vi n458,
                                                                                                        vi n460, vi n462, vi n464, vu n466],
                                                                                                    vi n481, vi n476]
                                                                                                  [])
                                                                                                fun r485 ↦
                                                                                                Option.bind (ret1 r485) fun v486 ↦
                                                                                                  Option.bind (AV.tup? v486) fun vs487 ↦
                                                                                                    Option.bind (uncons? vs487) fun p488 ↦
                                                                                                      Option.bind (AV.int? Go.IntKind.i64 p488.fst) fun n489 ↦
                                                                                                        Option.bind (uncons? p488.snd) fun p490 ↦
                                                                                                          Option.bind (AV.int? Go.IntKind.i64 p490.fst)
                                                                                                            fun n491 ↦
                                                                                                            Option.bind (nil? p490.snd) fun x492 ↦
                                                                                                              Option.bind
                                                                                                                (E cx (Key.fn 26)
                                                                                                                  [AV.agg
                                                                                                                      [vi n448, vi n450, vi n452, vi n454,
                                                                                                                        vi n456, vi n458, vi n460, vi n462,
                                                                                                                        vi n464, vu n466],
                                                                                                                    vi n470,
                                                                                                                    vi
                                                                                                                      (Go.IntKind.wrap Go.IntKind.i64
                                                                                                                        (Int.add n473 n476))]
                                                                                                                  [])
                                                                                                                fun r493 ↦
                                                                                                                Option.bind (ret1 r493) fun v494 ↦
                                                                                                                  Option.bind (AV.tup? v494) fun vs495 ↦
                                                                                                                    Option.bind (uncons? vs495) fun p496 ↦
                                                                                                                      Option.bind
                                                                                                                        (AV.int? Go.IntKind.i64 p496.fst)
                                                                                                                        fun n497 ↦
                                                                                                                        Option.bind (uncons? p496.snd)
                                                                                                                          fun p498 ↦
                                                                                                                          Option.bind
                                                                                                                            (AV.int? Go.IntKind.i64 p498.fst)
                                                                                                                            fun n499 ↦
                                                                                                                            Option.bind (nil? p498.snd)
                                                                                                                              fun x500 ↦
                                                                                                                              bif decide (n483 = 0) then
                                                                                                                                bif
                                                                                                                                    decide
                                                                                                                                      (Go.IntKind.wrap
                                                                                                                                          Go.IntKind.i64
                                                                                                                                          (Int.add n470 n473) ≤
                                                                                                                                        1099511627776) then
                                                                                                                                  bif decide (n499 = 0) then
                                                                                                                                    bif
                                                                                                                                        decide
                                                                                                                                          (Go.IntKind.wrap
                                                                                                                                              Go.IntKind.i64
                                                                                                                                              (Int.add
                                                                                                                                                (Go.IntKind.wrap
                                                                                                                                                  Go.IntKind.i64
                                                                                                                                                  (Int.add n470
                                                                                                                                                    n473))
                                                                                                                                                n476) ≤
                                                                                                                                            1099511627776) then
                                                                                                                                      bif n483 != 0 then
                                                                                                                                        bif n483 != 8 then
                                                                                                                                          some
                                                                                                                                            (Out.ret
                                                                                                                                                (vbool false),
                                                                                                                                              [])
                                                                                                                                        else
                                                                                                                                          bif n481 != 0 then
                                                                                                                                            some
                                                                                                                                              (Out.ret
                                                                                                                                                  (vbool false),
                                                                                                                                                [])
                                                                                                                                          else
                                                                                                                                            some
                                                                                                                                              (Out.ret
                                                                                                                                                  (vbool false),
                                                                                                                                                [])
                                                                                                                                      else
                                                                                                                                        some
                                                                                                                                          (Out.ret
                                                                                                                                              (vbool false),
                                                                                                                                            [])
                                                                                                                                    else
                                                                                                                                      some
                                                                                                                                        (Out.ret (vbool false),
                                                                                                                                          [])
                                                                                                                                  else
                                                                                                                                    bif
                                                                                                                                        decide
                                                                                                                                          (Go.IntKind.wrap
                                                                                                                                              Go.IntKind.i64
                                                                                                                                              (Int.add
                                                                                                                                                (Go.IntKind.wrap
                                                                                                                                                  Go.IntKind.i64
                                                                                                                                                  (Int.add n470
                                                                                                                                                    n473))
                                                                                                                                                n476) ≤
                                                                                                                                            1099511627776) then
                                                                                                                                      some
                                                                                                                                        (Out.ret (vbool false),
                                                                                                                                          [])
                                                                                                                                    else
                                                                                                                                      bif n483 != 0 then
                                                                                                                                        bif n483 != 8 then
                                                                                                                                          some
                                                                                                                                            (Out.ret
                                                                                                                                                (vbool false),
                                                                                                                                              [])
                                                                                                                                        else
                                                                                                                                          bif n481 != 0 then
                                                                                                                                            some
                                                                                                                                              (Out.ret
                                                                                                                                                  (vbool false),
                                                                                                                                                [])
                                                                                                                                          else
                                                                                                                                            some
                                                                                                                                              (Out.ret
                                                                                                                                                  (vbool false),
                                                                                                                                                [])
                                                                                                                                      else
                                                                                                                                        some
                                                                                                                                          (Out.ret
                                                                                                                                              (vbool false),
                                                                                                                                            [])
                                                                                                                                else
                                                                                                                                  some
                                                                                                                                    (Out.ret (vbool false), [])
                                                                                                                              else
                                                                                                                                bif
                                                                                                                                    decide
                                                                                                                                      (Go.IntKind.wrap
                                                                                                                                          Go.IntKind.i64
                                                                                                                                          (Int.add n470 n473) ≤
                                                                                                                                        1099511627776) then
                                                                                                                                  some
                                                                                                                                    (Out.ret (vbool false), [])
                                                                                                                                else
                                                                                                                                  bif decide (n499 = 0) then
                                                                                                                                    bif
                                                                                                                                        decide
                                                                                                                                          (Go.IntKind.wrap
                                                                                                                                              Go.IntKind.i64
                                                                                                                                              (Int.add
                                                                                                                                                (Go.IntKind.wrap
                                                                                                                                                  Go.IntKind.i64
                                                                                                                                                  (Int.add n470
                                                                                                                                                    n473))
                                                                                                                                                n476) ≤
                                                                                                                                            1099511627776) then
                                                                                                                                      bif n483 != 0 then
                                                                                                                                        bif n483 != 8 then
                                                                                                                                          some
                                                                                                                                            (Out.ret
                                                                                                                                                (vbool false),
                                                                                                                                              [])
                                                                                                                                        else
                                                                                                                                          bif n481 != 0 then
                                                                                                                                            some
                                                                                                                                              (Out.ret
                                                                                                                                                  (vbool false),
                                                                                                                                                [])
                                                                                                                                          else
                                                                                                                                            some
                                                                                                                                              (Out.ret
                                                                                                                                                  (vbool false),
                                                                                                                                                [])
                                                                                                                                      else
                                                                                                                                        some
                                                                                                                                          (Out.ret
                                                                                                                                              (vbool false),
                                                                                                                                            [])
                                                                                                                                    else
                                                                                                                                      some
                                                                                                                                        (Out.ret (vbool false),
                                                                                                                                          [])
                                                                                                                                  else
                                                                                                                                    bif
                                                                                                                                        decide
                                                                                                                                          (Go.IntKind.wrap
                                                                                                                                              Go.IntKind.i64
                                                                                                                                              (Int.add
                                                                                                                                                (Go.IntKind.wrap
                                                                                                                                                  Go.IntKind.i64
                                                                                                                                                  (Int.add n470
                                                                                                                                                    n473))
                                                                                                                                                n476) ≤
                                                                                                                                            1099511627776) then
                                                                                                                                      some
                                                                                                                                        (Out.ret (vbool false),
                                                                                                                                          [])
                                                                                                                                    else
                                                                                                                                      bif n483 != 0 then
                                                                                                                                        bif n483 != 8 then
                                                                                                                                          some
                                                                                                                                            (Out.ret
                                                                                                                                                (vbool false),
                                                                                                                                              [])
                                                                                                                                        else
                                                                                                                                          bif n481 != 0 then
                                                                                                                                            some
                                                                                                                                              (Out.ret
                                                                                                                                                  (vbool false),
                                                                                                                                                [])
                                                                                                                                          else
                                                                                                                                            some
                                                                                                                                              (Out.ret
                                                                                                                                                  (vbool false),
                                                                                                                                                [])
                                                                                                                                      else
                                                                                                                                        some
                                                                                                                                          (Out.ret
                                                                                                                                              (vbool false),
                                                                                                                                            []) := by
  intros
  exact (E_unfold _ _ _ _).trans (by kernel_rfl)

end Go.Proofs.Av
