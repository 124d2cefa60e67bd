/- A law's tree. -/
import Derived.Test.YtogopainnioiiaaDoorAvX
set_option maxRecDepth 100000
namespace Go.Proofs.Av
open Go
theorem f7 : ∀ (n501 n502 n503 n504 n505 n506 x507 y508 : Int),
  E cx (Key.fn 7) [AV.agg [vi n501, vi n502, vi n503, vi n504, vi n505, vi n506], vi x507, vi y508] [] =
    Option.bind (E cx (Key.fn 12) [] []) fun r509 ↦
      Option.bind (ret1 r509) fun v510 ↦
        Option.bind (AV.bool? v510) fun b511 ↦
          bif b511 then
            Option.bind (E cx (Key.fn 13) [AV.agg [vi n501, vi n502, vi n503, vi n504, vi n505, vi n506], vu 0] []) fun r512 ↦
              Option.bind (ret1 r512) fun v513 ↦
                Option.bind (AV.cells? v513) fun cs514 ↦
                  Option.bind (uncons? cs514) fun p515 ↦
                    Option.bind (AV.int? Go.IntKind.i64 p515.fst) fun n516 ↦
                      Option.bind (uncons? p515.snd) fun p517 ↦
                        Option.bind (AV.int? Go.IntKind.i64 p517.fst) fun n518 ↦
                          Option.bind (uncons? p517.snd) fun p519 ↦
                            Option.bind (AV.int? Go.IntKind.i64 p519.fst) fun n520 ↦
                              Option.bind (uncons? p519.snd) fun p521 ↦
                                Option.bind (AV.int? Go.IntKind.i64 p521.fst) fun n522 ↦
                                  Option.bind (uncons? p521.snd) fun p523 ↦
                                    Option.bind (AV.int? Go.IntKind.i64 p523.fst) fun n524 ↦
                                      Option.bind (uncons? p523.snd) fun p525 ↦
                                        Option.bind (AV.int? Go.IntKind.i64 p525.fst) fun n526 ↦
                                          Option.bind (uncons? p525.snd) fun p527 ↦
                                            Option.bind (AV.int? Go.IntKind.i64 p527.fst) fun n528 ↦
                                              Option.bind (uncons? p527.snd) fun p529 ↦
                                                Option.bind (AV.int? Go.IntKind.i64 p529.fst) fun n530 ↦
                                                  Option.bind (uncons? p529.snd) fun p531 ↦
                                                    Option.bind (AV.int? Go.IntKind.i64 p531.fst) fun n532 ↦
                                                      Option.bind (uncons? p531.snd) fun p533 ↦
                                                        Option.bind (AV.int? Go.IntKind.u64 p533.fst) fun n534 ↦
                                                          Option.bind (nil? p533.snd) fun x535 ↦
                                                            Option.bind (E cx (Key.fn 17) [vi x507, vi 1099511627777] []) fun r536 ↦
                                                              Option.bind (ret1 r536) fun v537 ↦
                                                                Option.bind (AV.int? Go.IntKind.i64 v537) fun n538 ↦
                                                                  Option.bind (E cx (Key.fn 17) [vi y508, vi 1099511627777] []) fun r539 ↦
                                                                    Option.bind (ret1 r539) fun v540 ↦
                                                                      Option.bind (AV.int? Go.IntKind.i64 v540) fun n541 ↦
                                                                        Option.bind
                                                                          (E cx (Key.fn 18)
                                                                            [AV.agg
                                                                                [vi n516, vi n518, vi n520, vi n522, vi n524, vi n526, vi n528, vi n530,
                                                                                  vi n532, vu n534],
                                                                              vi (if n541 < n538 then n541 else n538)]
                                                                            [])
                                                                          fun r542 ↦
                                                                          Option.bind (ret1 r542) fun v543 ↦
                                                                            Option.bind (AV.tup? v543) fun vs544 ↦
                                                                              Option.bind (uncons? vs544) fun p545 ↦
                                                                                Option.bind (AV.int? Go.IntKind.i64 p545.fst) fun n546 ↦
                                                                                  Option.bind (uncons? p545.snd) fun p547 ↦
                                                                                    Option.bind (AV.int? Go.IntKind.i64 p547.fst) fun n548 ↦
                                                                                      Option.bind (nil? p547.snd) fun x549 ↦
                                                                                        Option.bind
                                                                                          (E cx (Key.fn 18)
                                                                                            [AV.agg
                                                                                                [vi n516, vi n518, vi n520, vi n522, vi n524, vi n526, vi n528,
                                                                                                  vi n530, vi n532, vu n534],
                                                                                              vi (if n541 > n538 then n541 else n538)]
                                                                                            [])
                                                                                          fun r550 ↦
                                                                                          Option.bind (ret1 r550) fun v551 ↦
                                                                                            Option.bind (AV.tup? v551) fun vs552 ↦
                                                                                              Option.bind (uncons? vs552) fun p553 ↦
                                                                                                Option.bind (AV.int? Go.IntKind.i64 p553.fst) fun n554 ↦
                                                                                                  Option.bind (uncons? p553.snd) fun p555 ↦
                                                                                                    Option.bind (AV.int? Go.IntKind.i64 p555.fst) fun n556 ↦
                                                                                                      Option.bind (nil? p555.snd) fun x557 ↦
                                                                                                        Option.bind
                                                                                                          (E cx (Key.fn 22)
                                                                                                            [AV.agg
                                                                                                                [vi n516, vi n518, vi n520, vi n522, vi n524,
                                                                                                                  vi n526, vi n528, vi n530, vi n532, vu n534],
                                                                                                              vi n546]
                                                                                                            [])
                                                                                                          fun r558 ↦
                                                                                                          Option.bind (ret1 r558) fun v559 ↦
                                                                                                            Option.bind (AV.tup? v559) fun vs560 ↦
                                                                                                              Option.bind (uncons? vs560) fun p561 ↦
                                                                                                                Option.bind (AV.int? Go.IntKind.i64 p561.fst)
                                                                                                                  fun n562 ↦
                                                                                                                  Option.bind (uncons? p561.snd) fun p563 ↦
                                                                                                                    Option.bind
                                                                                                                      (AV.int? Go.IntKind.i64 p563.fst)
                                                                                                                      fun n564 ↦
                                                                                                                      Option.bind (nil? p563.snd) fun x565 ↦
                                                                                                                        Option.bind
                                                                                                                          (E cx (Key.fn 22)
                                                                                                                            [AV.agg
                                                                                                                                [vi n516, vi n518, vi n520,
                                                                                                                                  vi n522, vi n524, vi n526,
                                                                                                                                  vi n528, vi n530, vi n532,
                                                                                                                                  vu n534],
                                                                                                                              vi n554]
                                                                                                                            [])
                                                                                                                          fun r566 ↦
                                                                                                                          Option.bind (ret1 r566) fun v567 ↦
                                                                                                                            Option.bind (AV.tup? v567)
                                                                                                                              fun vs568 ↦
                                                                                                                              Option.bind (uncons? vs568)
                                                                                                                                fun p569 ↦
                                                                                                                                Option.bind
                                                                                                                                  (AV.int? Go.IntKind.i64
                                                                                                                                    p569.fst)
                                                                                                                                  fun n570 ↦
                                                                                                                                  Option.bind (uncons? p569.snd)
                                                                                                                                    fun p571 ↦
                                                                                                                                    Option.bind
                                                                                                                                      (AV.int? Go.IntKind.i64
                                                                                                                                        p571.fst)
                                                                                                                                      fun n572 ↦
                                                                                                                                      Option.bind
                                                                                                                                        (nil? p571.snd)
                                                                                                                                        fun x573 ↦
                                                                                                                                        Option.bind
                                                                                                                                          (E cx
                                                                                                                                            (Key.fn 20)
                                                                                                                                            [AV.agg
                                                                                                                                                [vi n516,
                                                                                                                                                  vi n518,
                                                                                                                                                  vi n520,
                                                                                                                                                  vi n522,
                                                                                                                                                  vi n524,
                                                                                                                                                  vi n526,
                                                                                                                                                  vi n528,
                                                                                                                                                  vi n530,
                                                                                                                                                  vi n532,
                                                                                                                                                  vu n534],
                                                                                                                                              vi n546]
                                                                                                                                            [])
                                                                                                                                          fun r574 ↦
                                                                                                                                          Option.bind
                                                                                                                                            (ret1 r574)
                                                                                                                                            fun v575 ↦
                                                                                                                                            Option.bind
                                                                                                                                              (AV.tup? v575)
                                                                                                                                              fun vs576 ↦
                                                                                                                                              Option.bind
                                                                                                                                                (uncons? vs576)
                                                                                                                                                fun p577 ↦
                                                                                                                                                Option.bind
                                                                                                                                                  (AV.int?
                                                                                                                                                    Go.IntKind.i64
                                                                                                                                                    p577.fst)
                                                                                                                                                  fun n578 ↦
                                                                                                                                                  Option.bind
                                                                                                                                                    (uncons?
                                                                                                                                                      p577.snd)
                                                                                                                                                    fun p579 ↦
                                                                                                                                                    Option.bind
                                                                                                                                                      (AV.int?
                                                                                                                                                        Go.IntKind.i64
                                                                                                                                                        p579.fst)
                                                                                                                                                      fun n580 ↦
                                                                                                                                                      Option.bind
                                                                                                                                                        (nil?
                                                                                                                                                          p579.snd)
                                                                                                                                                        fun
                                                                                                                                                          x581 ↦
                                                                                                                                                        Option.bind
                                                                                                                                                          (Go.Proofs.Av.E
                                                                                                                                                            cx
                                                                                                                                                            (Key.fn
                                                                                                                                                              20)
                                                                                                                                                            [AV.agg
                                                                                                                                                                [vi
                                                                                                                                                                    n516,
                                                                                                                                                                  vi
                                                                                                                                                                    n518,
                                                                                                                                                                  vi
                                                                                                                                                                    n520,
                                                                                                                                                                  vi
                                                                                                                                                                    n522,
                                                                                                                                                                  vi
                                                                                                                                                                    n524,
                                                                                                                                                                  vi
                                                                                                                                                                    n526,
                                                                                                                                                                  vi
                                                                                                                                                                    n528,
                                                                                                                                                                  vi
                                                                                                                                                                    n530,
                                                                                                                                                                  vi
                                                                                                                                                                    n532,
                                                                                                                                                                  vu
                                                                                                                                                                    n534],
                                                                                                                                                              vi
                                                                                                                                                                n554]
                                                                                                                                                            [])
                                                                                                                                                          fun
                                                                                                                                                            r582 ↦
                                                                                                                                                          Option.bind
                                                                                                                                                            (ret1
                                                                                                                                                              r582)
                                                                                                                                                            fun
                                                                                                                                                              v583 ↦
                                                                                                                                                            Option.bind
                                                                                                                                                              (AV.tup?
                                                                                                                                                                v583)
                                                                                                                                                              fun
                                                                                                                                                                vs584 ↦
                                                                                                                                                              Option.bind
                                                                                                                                                                (uncons?
                                                                                                                                                                  vs584)
                                                                                                                                                                fun
                                                                                                                                                                  p585 ↦
                                                                                                                                                                Option.bind
                                                                                                                                                                  (AV.int?
                                                                                                                                                                    Go.IntKind.i64
                                                                                                                                                                    p585.fst)
                                                                                                                                                                  fun
                                                                                                                                                                    n586 ↦
                                                                                                                                                                  Option.bind
                                                                                                                                                                    (uncons?
                                                                                                                                                                      p585.snd)
                                                                                                                                                                    fun
                                                                                                                                                                      p587 ↦
                                                                                                                                                                    Option.bind
                                                                                                                                                                      (AV.int?
                                                                                                                                                                        Go.IntKind.i64
                                                                                                                                                                        p587.fst)
                                                                                                                                                                      fun
                                                                                                                                                                        n588 ↦
                                                                                                                                                                      Option.bind
                                                                                                                                                                        (nil?
                                                                                                                                                                          p587.snd)
                                                                                                                                                                        fun
                                                                                                                                                                          x589 ↦
                                                                                                                                                                        bif
                                                                                                                                                                            decide
                                                                                                                                                                              (n548 =
                                                                                                                                                                                0) then
                                                                                                                                                                          bif
                                                                                                                                                                              decide
                                                                                                                                                                                (n556 =
                                                                                                                                                                                  0) then
                                                                                                                                                                            bif
                                                                                                                                                                                decide
                                                                                                                                                                                  (n564 =
                                                                                                                                                                                    0) then
                                                                                                                                                                              bif
                                                                                                                                                                                  decide
                                                                                                                                                                                    (n572 =
                                                                                                                                                                                      0) then
                                                                                                                                                                                bif
                                                                                                                                                                                    decide
                                                                                                                                                                                      (n580 =
                                                                                                                                                                                        0) then
                                                                                                                                                                                  bif
                                                                                                                                                                                      decide
                                                                                                                                                                                        (n588 =
                                                                                                                                                                                          0) then
                                                                                                                                                                                    bif
                                                                                                                                                                                        decide
                                                                                                                                                                                          (n546 ≤
                                                                                                                                                                                            n554) then
                                                                                                                                                                                      bif
                                                                                                                                                                                          decide
                                                                                                                                                                                            (n562 ≤
                                                                                                                                                                                              n570) then
                                                                                                                                                                                        bif
                                                                                                                                                                                            decide
                                                                                                                                                                                              (n578 ≤
                                                                                                                                                                                                n586) then
                                                                                                                                                                                          bif
                                                                                                                                                                                              decide
                                                                                                                                                                                                (n546 =
                                                                                                                                                                                                  n554) then
                                                                                                                                                                                            bif
                                                                                                                                                                                                decide
                                                                                                                                                                                                  (n578 =
                                                                                                                                                                                                    n586) then
                                                                                                                                                                                              some
                                                                                                                                                                                                (Out.ret
                                                                                                                                                                                                    (vbool
                                                                                                                                                                                                      true),
                                                                                                                                                                                                  [])
                                                                                                                                                                                            else
                                                                                                                                                                                              some
                                                                                                                                                                                                (Out.ret
                                                                                                                                                                                                    (vbool
                                                                                                                                                                                                      false),
                                                                                                                                                                                                  [])
                                                                                                                                                                                          else
                                                                                                                                                                                            bif
                                                                                                                                                                                                decide
                                                                                                                                                                                                  (n578 =
                                                                                                                                                                                                    n586) then
                                                                                                                                                                                              some
                                                                                                                                                                                                (Out.ret
                                                                                                                                                                                                    (vbool
                                                                                                                                                                                                      false),
                                                                                                                                                                                                  [])
                                                                                                                                                                                            else
                                                                                                                                                                                              some
                                                                                                                                                                                                (Out.ret
                                                                                                                                                                                                    (vbool
                                                                                                                                                                                                      true),
                                                                                                                                                                                                  [])
                                                                                                                                                                                        else
                                                                                                                                                                                          some
                                                                                                                                                                                            (Out.ret
                                                                                                                                                                                                (vbool
                                                                                                                                                                                                  false),
                                                                                                                                                                                              [])
                                                                                                                                                                                      else
                                                                                                                                                                                        some
                                                                                                                                                                                          (Out.ret
                                                                                                                                                                                              (vbool
                                                                                                                                                                                                false),
                                                                                                                                                                                            [])
                                                                                                                                                                                    else
                                                                                                                                                                                      some
                                                                                                                                                                                        (Out.ret
                                                                                                                                                                                            (vbool
                                                                                                                                                                                              false),
                                                                                                                                                                                          [])
                                                                                                                                                                                  else
                                                                                                                                                                                    some
                                                                                                                                                                                      (Out.ret
                                                                                                                                                                                          (vbool
                                                                                                                                                                                            false),
                                                                                                                                                                                        [])
                                                                                                                                                                                else
                                                                                                                                                                                  some
                                                                                                                                                                                    (Out.ret
                                                                                                                                                                                        (vbool
                                                                                                                                                                                          false),
                                                                                                                                                                                      [])
                                                                                                                                                                              else
                                                                                                                                                                                some
                                                                                                                                                                                  (Out.ret
                                                                                                                                                                                      (vbool
                                                                                                                                                                                        false),
                                                                                                                                                                                    [])
                                                                                                                                                                            else
                                                                                                                                                                              some
                                                                                                                                                                                (Out.ret
                                                                                                                                                                                    (vbool
                                                                                                                                                                                      false),
                                                                                                                                                                                  [])
                                                                                                                                                                          else
                                                                                                                                                                            some
                                                                                                                                                                              (Out.ret
                                                                                                                                                                                  (vbool
                                                                                                                                                                                    false),
                                                                                                                                                                                [])
                                                                                                                                                                        else
                                                                                                                                                                          some
                                                                                                                                                                            (Out.ret
                                                                                                                                                                                (vbool
                                                                                                                                                                                  false),
                                                                                                                                                                              [])
          else
            Option.bind (E cx (Key.fn 13) [AV.agg [vi n501, vi n502, vi n503, vi n504, vi n505, vi n506], vu 0] []) fun r590 ↦
              Option.bind (ret1 r590) fun v591 ↦
                Option.bind (AV.cells? v591) fun cs592 ↦
                  Option.bind (uncons? cs592) fun p593 ↦
                    Option.bind (AV.int? Go.IntKind.i64 p593.fst) fun n594 ↦
                      Option.bind (uncons? p593.snd) fun p595 ↦
                        Option.bind (AV.int? Go.IntKind.i64 p595.fst) fun n596 ↦
                          Option.bind (uncons? p595.snd) fun p597 ↦
                            Option.bind (AV.int? Go.IntKind.i64 p597.fst) fun n598 ↦
                              Option.bind (uncons? p597.snd) fun p599 ↦
                                Option.bind (AV.int? Go.IntKind.i64 p599.fst) fun n600 ↦
                                  Option.bind (uncons? p599.snd) fun p601 ↦
                                    Option.bind (AV.int? Go.IntKind.i64 p601.fst) fun n602 ↦
                                      Option.bind (uncons? p601.snd) fun p603 ↦
                                        Option.bind (AV.int? Go.IntKind.i64 p603.fst) fun n604 ↦
                                          Option.bind (uncons? p603.snd) fun p605 ↦
                                            Option.bind (AV.int? Go.IntKind.i64 p605.fst) fun n606 ↦
                                              Option.bind (uncons? p605.snd) fun p607 ↦
                                                Option.bind (AV.int? Go.IntKind.i64 p607.fst) fun n608 ↦
                                                  Option.bind (uncons? p607.snd) fun p609 ↦
                                                    Option.bind (AV.int? Go.IntKind.i64 p609.fst) fun n610 ↦
                                                      Option.bind (uncons? p609.snd) fun p611 ↦
                                                        Option.bind (AV.int? Go.IntKind.u64 p611.fst) fun n612 ↦
                                                          Option.bind (nil? p611.snd) fun x613 ↦
                                                            Option.bind (E cx (Key.fn 17) [vi x507, vi 1099511627777] []) fun r614 ↦
                                                              Option.bind (ret1 r614) fun v615 ↦
                                                                Option.bind (AV.int? Go.IntKind.i64 v615) fun n616 ↦
                                                                  Option.bind (E cx (Key.fn 17) [vi y508, vi 1099511627777] []) fun r617 ↦
                                                                    Option.bind (ret1 r617) fun v618 ↦
                                                                      Option.bind (AV.int? Go.IntKind.i64 v618) fun n619 ↦
                                                                        Option.bind
                                                                          (E cx (Key.fn 18)
                                                                            [AV.agg
                                                                                [vi n594, vi n596, vi n598, vi n600, vi n602, vi n604, vi n606, vi n608,
                                                                                  vi n610, vu n612],
                                                                              vi (if n619 < n616 then n619 else n616)]
                                                                            [])
                                                                          fun r620 ↦
                                                                          Option.bind (ret1 r620) fun v621 ↦
                                                                            Option.bind (AV.tup? v621) fun vs622 ↦
                                                                              Option.bind (uncons? vs622) fun p623 ↦
                                                                                Option.bind (AV.int? Go.IntKind.i64 p623.fst) fun n624 ↦
                                                                                  Option.bind (uncons? p623.snd) fun p625 ↦
                                                                                    Option.bind (AV.int? Go.IntKind.i64 p625.fst) fun n626 ↦
                                                                                      Option.bind (nil? p625.snd) fun x627 ↦
                                                                                        Option.bind
                                                                                          (E cx (Key.fn 18)
                                                                                            [AV.agg
                                                                                                [vi n594, vi n596, vi n598, vi n600, vi n602, vi n604, vi n606,
                                                                                                  vi n608, vi n610, vu n612],
                                                                                              vi (if n619 > n616 then n619 else n616)]
                                                                                            [])
                                                                                          fun r628 ↦
                                                                                          Option.bind (ret1 r628) fun v629 ↦
                                                                                            Option.bind (AV.tup? v629) fun vs630 ↦
                                                                                              Option.bind (uncons? vs630) fun p631 ↦
                                                                                                Option.bind (AV.int? Go.IntKind.i64 p631.fst) fun n632 ↦
                                                                                                  Option.bind (uncons? p631.snd) fun p633 ↦
                                                                                                    Option.bind (AV.int? Go.IntKind.i64 p633.fst) fun n634 ↦
                                                                                                      Option.bind (nil? p633.snd) fun x635 ↦
                                                                                                        Option.bind
                                                                                                          (E cx (Key.fn 22)
                                                                                                            [AV.agg
                                                                                                                [vi n594, vi n596, vi n598, vi n600, vi n602,
                                                                                                                  vi n604, vi n606, vi n608, vi n610, vu n612],
                                                                                                              vi n624]
                                                                                                            [])
                                                                                                          fun r636 ↦
                                                                                                          Option.bind (ret1 r636) fun v637 ↦
                                                                                                            Option.bind (AV.tup? v637) fun vs638 ↦
                                                                                                              Option.bind (uncons? vs638) fun p639 ↦
                                                                                                                Option.bind (AV.int? Go.IntKind.i64 p639.fst)
                                                                                                                  fun n640 ↦
                                                                                                                  Option.bind (uncons? p639.snd) fun p641 ↦
                                                                                                                    Option.bind
                                                                                                                      (AV.int? Go.IntKind.i64 p641.fst)
                                                                                                                      fun n642 ↦
                                                                                                                      Option.bind (nil? p641.snd) fun x643 ↦
                                                                                                                        Option.bind
                                                                                                                          (E cx (Key.fn 22)
                                                                                                                            [AV.agg
                                                                                                                                [vi n594, vi n596, vi n598,
                                                                                                                                  vi n600, vi n602, vi n604,
                                                                                                                                  vi n606, vi n608, vi n610,
                                                                                                                                  vu n612],
                                                                                                                              vi n632]
                                                                                                                            [])
                                                                                                                          fun r644 ↦
                                                                                                                          Option.bind (ret1 r644) fun v645 ↦
                                                                                                                            Option.bind (AV.tup? v645)
                                                                                                                              fun vs646 ↦
                                                                                                                              Option.bind (uncons? vs646)
                                                                                                                                fun p647 ↦
                                                                                                                                Option.bind
                                                                                                                                  (AV.int? Go.IntKind.i64
                                                                                                                                    p647.fst)
                                                                                                                                  fun n648 ↦
                                                                                                                                  Option.bind (uncons? p647.snd)
                                                                                                                                    fun p649 ↦
                                                                                                                                    Option.bind
                                                                                                                                      (AV.int? Go.IntKind.i64
                                                                                                                                        p649.fst)
                                                                                                                                      fun n650 ↦
                                                                                                                                      Option.bind
                                                                                                                                        (nil? p649.snd)
                                                                                                                                        fun x651 ↦
                                                                                                                                        Option.bind
                                                                                                                                          (E cx
                                                                                                                                            (Key.fn 20)
                                                                                                                                            [AV.agg
                                                                                                                                                [vi n594,
                                                                                                                                                  vi n596,
                                                                                                                                                  vi n598,
                                                                                                                                                  vi n600,
                                                                                                                                                  vi n602,
                                                                                                                                                  vi n604,
                                                                                                                                                  vi n606,
                                                                                                                                                  vi n608,
                                                                                                                                                  vi n610,
                                                                                                                                                  vu n612],
                                                                                                                                              vi n624]
                                                                                                                                            [])
                                                                                                                                          fun r652 ↦
                                                                                                                                          Option.bind
                                                                                                                                            (ret1 r652)
                                                                                                                                            fun v653 ↦
                                                                                                                                            Option.bind
                                                                                                                                              (AV.tup? v653)
                                                                                                                                              fun vs654 ↦
                                                                                                                                              Option.bind
                                                                                                                                                (uncons? vs654)
                                                                                                                                                fun p655 ↦
                                                                                                                                                Option.bind
                                                                                                                                                  (AV.int?
                                                                                                                                                    Go.IntKind.i64
                                                                                                                                                    p655.fst)
                                                                                                                                                  fun n656 ↦
                                                                                                                                                  Option.bind
                                                                                                                                                    (uncons?
                                                                                                                                                      p655.snd)
                                                                                                                                                    fun p657 ↦
                                                                                                                                                    Option.bind
                                                                                                                                                      (AV.int?
                                                                                                                                                        Go.IntKind.i64
                                                                                                                                                        p657.fst)
                                                                                                                                                      fun n658 ↦
                                                                                                                                                      Option.bind
                                                                                                                                                        (nil?
                                                                                                                                                          p657.snd)
                                                                                                                                                        fun
                                                                                                                                                          x659 ↦
                                                                                                                                                        Option.bind
                                                                                                                                                          (Go.Proofs.Av.E
                                                                                                                                                            cx
                                                                                                                                                            (Key.fn
                                                                                                                                                              20)
                                                                                                                                                            [AV.agg
                                                                                                                                                                [vi
                                                                                                                                                                    n594,
                                                                                                                                                                  vi
                                                                                                                                                                    n596,
                                                                                                                                                                  vi
                                                                                                                                                                    n598,
                                                                                                                                                                  vi
                                                                                                                                                                    n600,
                                                                                                                                                                  vi
                                                                                                                                                                    n602,
                                                                                                                                                                  vi
                                                                                                                                                                    n604,
                                                                                                                                                                  vi
                                                                                                                                                                    n606,
                                                                                                                                                                  vi
                                                                                                                                                                    n608,
                                                                                                                                                                  vi
                                                                                                                                                                    n610,
                                                                                                                                                                  vu
                                                                                                                                                                    n612],
                                                                                                                                                              vi
                                                                                                                                                                n632]
                                                                                                                                                            [])
                                                                                                                                                          fun
                                                                                                                                                            r660 ↦
                                                                                                                                                          Option.bind
                                                                                                                                                            (ret1
                                                                                                                                                              r660)
                                                                                                                                                            fun
                                                                                                                                                              v661 ↦
                                                                                                                                                            Option.bind
                                                                                                                                                              (AV.tup?
                                                                                                                                                                v661)
                                                                                                                                                              fun
                                                                                                                                                                vs662 ↦
                                                                                                                                                              Option.bind
                                                                                                                                                                (uncons?
                                                                                                                                                                  vs662)
                                                                                                                                                                fun
                                                                                                                                                                  p663 ↦
                                                                                                                                                                Option.bind
                                                                                                                                                                  (AV.int?
                                                                                                                                                                    Go.IntKind.i64
                                                                                                                                                                    p663.fst)
                                                                                                                                                                  fun
                                                                                                                                                                    n664 ↦
                                                                                                                                                                  Option.bind
                                                                                                                                                                    (uncons?
                                                                                                                                                                      p663.snd)
                                                                                                                                                                    fun
                                                                                                                                                                      p665 ↦
                                                                                                                                                                    Option.bind
                                                                                                                                                                      (AV.int?
                                                                                                                                                                        Go.IntKind.i64
                                                                                                                                                                        p665.fst)
                                                                                                                                                                      fun
                                                                                                                                                                        n666 ↦
                                                                                                                                                                      Option.bind
                                                                                                                                                                        (nil?
                                                                                                                                                                          p665.snd)
                                                                                                                                                                        fun
                                                                                                                                                                          x667 ↦
                                                                                                                                                                        some
                                                                                                                                                                          (Out.ret
                                                                                                                                                                              (vbool
                                                                                                                                                                                false),
                                                                                                                                                                            []) := by
  intros
  exact (E_unfold _ _ _ _).trans (by kernel_rfl)

end Go.Proofs.Av
