/- A law's tree. -/
import Derived.Test.YtogopainnioiiaaDoorAvX
set_option maxRecDepth 100000
namespace Go.Proofs.Av
open Go
theorem f4 : ∀ (n119 n120 n121 n122 n123 n124 at125 : Int),
  E cx (Key.fn 4) [AV.agg [vi n119, vi n120, vi n121, vi n122, vi n123, vi n124], vi at125] [] =
    Option.bind (E cx (Key.fn 12) [] []) fun r126 ↦
      Option.bind (ret1 r126) fun v127 ↦
        Option.bind (AV.bool? v127) fun b128 ↦
          bif b128 then
            Option.bind (E cx (Key.fn 13) [AV.agg [vi n119, vi n120, vi n121, vi n122, vi n123, vi n124], vu 0] []) fun r129 ↦
              Option.bind (ret1 r129) fun v130 ↦
                Option.bind (AV.cells? v130) fun cs131 ↦
                  Option.bind (uncons? cs131) fun p132 ↦
                    Option.bind (AV.int? Go.IntKind.i64 p132.fst) fun n133 ↦
                      Option.bind (uncons? p132.snd) fun p134 ↦
                        Option.bind (AV.int? Go.IntKind.i64 p134.fst) fun n135 ↦
                          Option.bind (uncons? p134.snd) fun p136 ↦
                            Option.bind (AV.int? Go.IntKind.i64 p136.fst) fun n137 ↦
                              Option.bind (uncons? p136.snd) fun p138 ↦
                                Option.bind (AV.int? Go.IntKind.i64 p138.fst) fun n139 ↦
                                  Option.bind (uncons? p138.snd) fun p140 ↦
                                    Option.bind (AV.int? Go.IntKind.i64 p140.fst) fun n141 ↦
                                      Option.bind (uncons? p140.snd) fun p142 ↦
                                        Option.bind (AV.int? Go.IntKind.i64 p142.fst) fun n143 ↦
                                          Option.bind (uncons? p142.snd) fun p144 ↦
                                            Option.bind (AV.int? Go.IntKind.i64 p144.fst) fun n145 ↦
                                              Option.bind (uncons? p144.snd) fun p146 ↦
                                                Option.bind (AV.int? Go.IntKind.i64 p146.fst) fun n147 ↦
                                                  Option.bind (uncons? p146.snd) fun p148 ↦
                                                    Option.bind (AV.int? Go.IntKind.i64 p148.fst) fun n149 ↦
                                                      Option.bind (uncons? p148.snd) fun p150 ↦
                                                        Option.bind (AV.int? Go.IntKind.u64 p150.fst) fun n151 ↦
                                                          Option.bind (nil? p150.snd) fun x152 ↦
                                                            Option.bind (E cx (Key.fn 17) [vi at125, vi 1099511627777] []) fun r153 ↦
                                                              Option.bind (ret1 r153) fun v154 ↦
                                                                Option.bind (AV.int? Go.IntKind.i64 v154) fun n155 ↦
                                                                  Option.bind
                                                                    (E cx (Key.fn 18)
                                                                      [AV.agg
                                                                          [vi n133, vi n135, vi n137, vi n139, vi n141, vi n143, vi n145, vi n147, vi n149,
                                                                            vu n151],
                                                                        vi n155]
                                                                      [])
                                                                    fun r156 ↦
                                                                    Option.bind (ret1 r156) fun v157 ↦
                                                                      Option.bind (AV.tup? v157) fun vs158 ↦
                                                                        Option.bind (uncons? vs158) fun p159 ↦
                                                                          Option.bind (AV.int? Go.IntKind.i64 p159.fst) fun n160 ↦
                                                                            Option.bind (uncons? p159.snd) fun p161 ↦
                                                                              Option.bind (AV.int? Go.IntKind.i64 p161.fst) fun n162 ↦
                                                                                Option.bind (nil? p161.snd) fun x163 ↦
                                                                                  Option.bind
                                                                                    (E cx (Key.fn 20)
                                                                                      [AV.agg
                                                                                          [vi n133, vi n135, vi n137, vi n139, vi n141, vi n143, vi n145,
                                                                                            vi n147, vi n149, vu n151],
                                                                                        vi n160]
                                                                                      [])
                                                                                    fun r164 ↦
                                                                                    Option.bind (ret1 r164) fun v165 ↦
                                                                                      Option.bind (AV.tup? v165) fun vs166 ↦
                                                                                        Option.bind (uncons? vs166) fun p167 ↦
                                                                                          Option.bind (AV.int? Go.IntKind.i64 p167.fst) fun n168 ↦
                                                                                            Option.bind (uncons? p167.snd) fun p169 ↦
                                                                                              Option.bind (AV.int? Go.IntKind.i64 p169.fst) fun n170 ↦
                                                                                                Option.bind (nil? p169.snd) fun x171 ↦
                                                                                                  Option.bind
                                                                                                    (E cx (Key.fn 20)
                                                                                                      [AV.agg
                                                                                                          [vi n133, vi n135, vi n137, vi n139, vi n141, vi n143,
                                                                                                            vi n145, vi n147, vi n149, vu n151],
                                                                                                        vi (Go.IntKind.wrap Go.IntKind.i64 (Int.add n160 1))]
                                                                                                      [])
                                                                                                    fun r172 ↦
                                                                                                    Option.bind (ret1 r172) fun v173 ↦
                                                                                                      Option.bind (AV.tup? v173) fun vs174 ↦
                                                                                                        Option.bind (uncons? vs174) fun p175 ↦
                                                                                                          Option.bind (AV.int? Go.IntKind.i64 p175.fst)
                                                                                                            fun n176 ↦
                                                                                                            Option.bind (uncons? p175.snd) fun p177 ↦
                                                                                                              Option.bind (AV.int? Go.IntKind.i64 p177.fst)
                                                                                                                fun n178 ↦
                                                                                                                Option.bind (nil? p177.snd) fun x179 ↦
                                                                                                                  Option.bind
                                                                                                                    (E cx (Key.fn 18)
                                                                                                                      [AV.agg
                                                                                                                          [vi n133, vi n135, vi n137, vi n139,
                                                                                                                            vi n141, vi n143, vi n145, vi n147,
                                                                                                                            vi n149, vu n151],
                                                                                                                        vi n168]
                                                                                                                      [])
                                                                                                                    fun r180 ↦
                                                                                                                    Option.bind (ret1 r180) fun v181 ↦
                                                                                                                      Option.bind (AV.tup? v181) fun vs182 ↦
                                                                                                                        Option.bind (uncons? vs182) fun p183 ↦
                                                                                                                          Option.bind
                                                                                                                            (AV.int? Go.IntKind.i64 p183.fst)
                                                                                                                            fun n184 ↦
                                                                                                                            Option.bind (uncons? p183.snd)
                                                                                                                              fun p185 ↦
                                                                                                                              Option.bind
                                                                                                                                (AV.int? Go.IntKind.i64
                                                                                                                                  p185.fst)
                                                                                                                                fun n186 ↦
                                                                                                                                Option.bind (nil? p185.snd)
                                                                                                                                  fun x187 ↦
                                                                                                                                  bif n162 != 0 then
                                                                                                                                    some
                                                                                                                                      (Out.ret (vbool false),
                                                                                                                                        [])
                                                                                                                                  else
                                                                                                                                    bif n170 != 0 then
                                                                                                                                      some
                                                                                                                                        (Out.ret (vbool false),
                                                                                                                                          [])
                                                                                                                                    else
                                                                                                                                      bif n186 != 0 then
                                                                                                                                        some
                                                                                                                                          (Out.ret
                                                                                                                                              (vbool false),
                                                                                                                                            [])
                                                                                                                                      else
                                                                                                                                        bif n184 != n160 then
                                                                                                                                          some
                                                                                                                                            (Out.ret
                                                                                                                                                (vbool false),
                                                                                                                                              [])
                                                                                                                                        else
                                                                                                                                          bif
                                                                                                                                              decide
                                                                                                                                                (n168 >
                                                                                                                                                  n155) then
                                                                                                                                            some
                                                                                                                                              (Out.ret
                                                                                                                                                  (vbool false),
                                                                                                                                                [])
                                                                                                                                          else
                                                                                                                                            bif
                                                                                                                                                decide
                                                                                                                                                  (Go.IntKind.wrap
                                                                                                                                                      Go.IntKind.i64
                                                                                                                                                      (Int.sub
                                                                                                                                                        n155
                                                                                                                                                        n168) ≥
                                                                                                                                                    n141) then
                                                                                                                                              some
                                                                                                                                                (Out.ret
                                                                                                                                                    (vbool
                                                                                                                                                      false),
                                                                                                                                                  [])
                                                                                                                                            else
                                                                                                                                              bif
                                                                                                                                                  n168 !=
                                                                                                                                                    Go.IntKind.wrap
                                                                                                                                                      Go.IntKind.i64
                                                                                                                                                      (Int.mul
                                                                                                                                                        n160
                                                                                                                                                        n141) then
                                                                                                                                                some
                                                                                                                                                  (Out.ret
                                                                                                                                                      (vbool
                                                                                                                                                        false),
                                                                                                                                                    [])
                                                                                                                                              else
                                                                                                                                                bif
                                                                                                                                                    n178 !=
                                                                                                                                                      0 then
                                                                                                                                                  bif
                                                                                                                                                      decide
                                                                                                                                                        (n178 =
                                                                                                                                                          8) then
                                                                                                                                                    bif
                                                                                                                                                        decide
                                                                                                                                                          (Go.IntKind.wrap
                                                                                                                                                              Go.IntKind.i64
                                                                                                                                                              (Int.add
                                                                                                                                                                n168
                                                                                                                                                                n141) >
                                                                                                                                                            1099511627776) then
                                                                                                                                                      some
                                                                                                                                                        (Out.ret
                                                                                                                                                            (vbool
                                                                                                                                                              true),
                                                                                                                                                          [])
                                                                                                                                                    else
                                                                                                                                                      some
                                                                                                                                                        (Out.ret
                                                                                                                                                            (vbool
                                                                                                                                                              false),
                                                                                                                                                          [])
                                                                                                                                                  else
                                                                                                                                                    some
                                                                                                                                                      (Out.ret
                                                                                                                                                          (vbool
                                                                                                                                                            false),
                                                                                                                                                        [])
                                                                                                                                                else
                                                                                                                                                  bif
                                                                                                                                                      decide
                                                                                                                                                        (n176 =
                                                                                                                                                          Go.IntKind.wrap
                                                                                                                                                            Go.IntKind.i64
                                                                                                                                                            (Int.add
                                                                                                                                                              n168
                                                                                                                                                              n141)) then
                                                                                                                                                    bif
                                                                                                                                                        decide
                                                                                                                                                          (n155 <
                                                                                                                                                            n176) then
                                                                                                                                                      some
                                                                                                                                                        (Out.ret
                                                                                                                                                            (vbool
                                                                                                                                                              true),
                                                                                                                                                          [])
                                                                                                                                                    else
                                                                                                                                                      some
                                                                                                                                                        (Out.ret
                                                                                                                                                            (vbool
                                                                                                                                                              false),
                                                                                                                                                          [])
                                                                                                                                                  else
                                                                                                                                                    some
                                                                                                                                                      (Out.ret
                                                                                                                                                          (vbool
                                                                                                                                                            false),
                                                                                                                                                        [])
          else
            Option.bind (E cx (Key.fn 13) [AV.agg [vi n119, vi n120, vi n121, vi n122, vi n123, vi n124], vu 0] []) fun r188 ↦
              Option.bind (ret1 r188) fun v189 ↦
                Option.bind (AV.cells? v189) fun cs190 ↦
                  Option.bind (uncons? cs190) fun p191 ↦
                    Option.bind (AV.int? Go.IntKind.i64 p191.fst) fun n192 ↦
                      Option.bind (uncons? p191.snd) fun p193 ↦
                        Option.bind (AV.int? Go.IntKind.i64 p193.fst) fun n194 ↦
                          Option.bind (uncons? p193.snd) fun p195 ↦
                            Option.bind (AV.int? Go.IntKind.i64 p195.fst) fun n196 ↦
                              Option.bind (uncons? p195.snd) fun p197 ↦
                                Option.bind (AV.int? Go.IntKind.i64 p197.fst) fun n198 ↦
                                  Option.bind (uncons? p197.snd) fun p199 ↦
                                    Option.bind (AV.int? Go.IntKind.i64 p199.fst) fun n200 ↦
                                      Option.bind (uncons? p199.snd) fun p201 ↦
                                        Option.bind (AV.int? Go.IntKind.i64 p201.fst) fun n202 ↦
                                          Option.bind (uncons? p201.snd) fun p203 ↦
                                            Option.bind (AV.int? Go.IntKind.i64 p203.fst) fun n204 ↦
                                              Option.bind (uncons? p203.snd) fun p205 ↦
                                                Option.bind (AV.int? Go.IntKind.i64 p205.fst) fun n206 ↦
                                                  Option.bind (uncons? p205.snd) fun p207 ↦
                                                    Option.bind (AV.int? Go.IntKind.i64 p207.fst) fun n208 ↦
                                                      Option.bind (uncons? p207.snd) fun p209 ↦
                                                        Option.bind (AV.int? Go.IntKind.u64 p209.fst) fun n210 ↦
                                                          Option.bind (nil? p209.snd) fun x211 ↦
                                                            Option.bind (E cx (Key.fn 17) [vi at125, vi 1099511627777] []) fun r212 ↦
                                                              Option.bind (ret1 r212) fun v213 ↦
                                                                Option.bind (AV.int? Go.IntKind.i64 v213) fun n214 ↦
                                                                  Option.bind
                                                                    (E cx (Key.fn 18)
                                                                      [AV.agg
                                                                          [vi n192, vi n194, vi n196, vi n198, vi n200, vi n202, vi n204, vi n206, vi n208,
                                                                            vu n210],
                                                                        vi n214]
                                                                      [])
                                                                    fun r215 ↦
                                                                    Option.bind (ret1 r215) fun v216 ↦
                                                                      Option.bind (AV.tup? v216) fun vs217 ↦
                                                                        Option.bind (uncons? vs217) fun p218 ↦
                                                                          Option.bind (AV.int? Go.IntKind.i64 p218.fst) fun n219 ↦
                                                                            Option.bind (uncons? p218.snd) fun p220 ↦
                                                                              Option.bind (AV.int? Go.IntKind.i64 p220.fst) fun n221 ↦
                                                                                Option.bind (nil? p220.snd) fun x222 ↦
                                                                                  Option.bind
                                                                                    (E cx (Key.fn 20)
                                                                                      [AV.agg
                                                                                          [vi n192, vi n194, vi n196, vi n198, vi n200, vi n202, vi n204,
                                                                                            vi n206, vi n208, vu n210],
                                                                                        vi n219]
                                                                                      [])
                                                                                    fun r223 ↦
                                                                                    Option.bind (ret1 r223) fun v224 ↦
                                                                                      Option.bind (AV.tup? v224) fun vs225 ↦
                                                                                        Option.bind (uncons? vs225) fun p226 ↦
                                                                                          Option.bind (AV.int? Go.IntKind.i64 p226.fst) fun n227 ↦
                                                                                            Option.bind (uncons? p226.snd) fun p228 ↦
                                                                                              Option.bind (AV.int? Go.IntKind.i64 p228.fst) fun n229 ↦
                                                                                                Option.bind (nil? p228.snd) fun x230 ↦
                                                                                                  Option.bind
                                                                                                    (E cx (Key.fn 20)
                                                                                                      [AV.agg
                                                                                                          [vi n192, vi n194, vi n196, vi n198, vi n200, vi n202,
                                                                                                            vi n204, vi n206, vi n208, vu n210],
                                                                                                        vi (Go.IntKind.wrap Go.IntKind.i64 (Int.add n219 1))]
                                                                                                      [])
                                                                                                    fun r231 ↦
                                                                                                    Option.bind (ret1 r231) fun v232 ↦
                                                                                                      Option.bind (AV.tup? v232) fun vs233 ↦
                                                                                                        Option.bind (uncons? vs233) fun p234 ↦
                                                                                                          Option.bind (AV.int? Go.IntKind.i64 p234.fst)
                                                                                                            fun n235 ↦
                                                                                                            Option.bind (uncons? p234.snd) fun p236 ↦
                                                                                                              Option.bind (AV.int? Go.IntKind.i64 p236.fst)
                                                                                                                fun n237 ↦
                                                                                                                Option.bind (nil? p236.snd) fun x238 ↦
                                                                                                                  Option.bind
                                                                                                                    (E cx (Key.fn 18)
                                                                                                                      [AV.agg
                                                                                                                          [vi n192, vi n194, vi n196, vi n198,
                                                                                                                            vi n200, vi n202, vi n204, vi n206,
                                                                                                                            vi n208, vu n210],
                                                                                                                        vi n227]
                                                                                                                      [])
                                                                                                                    fun r239 ↦
                                                                                                                    Option.bind (ret1 r239) fun v240 ↦
                                                                                                                      Option.bind (AV.tup? v240) fun vs241 ↦
                                                                                                                        Option.bind (uncons? vs241) fun p242 ↦
                                                                                                                          Option.bind
                                                                                                                            (AV.int? Go.IntKind.i64 p242.fst)
                                                                                                                            fun n243 ↦
                                                                                                                            Option.bind (uncons? p242.snd)
                                                                                                                              fun p244 ↦
                                                                                                                              Option.bind
                                                                                                                                (AV.int? Go.IntKind.i64
                                                                                                                                  p244.fst)
                                                                                                                                fun n245 ↦
                                                                                                                                Option.bind (nil? p244.snd)
                                                                                                                                  fun x246 ↦
                                                                                                                                  bif n221 != 0 then
                                                                                                                                    some
                                                                                                                                      (Out.ret (vbool false),
                                                                                                                                        [])
                                                                                                                                  else
                                                                                                                                    bif n229 != 0 then
                                                                                                                                      some
                                                                                                                                        (Out.ret (vbool false),
                                                                                                                                          [])
                                                                                                                                    else
                                                                                                                                      bif n245 != 0 then
                                                                                                                                        some
                                                                                                                                          (Out.ret
                                                                                                                                              (vbool false),
                                                                                                                                            [])
                                                                                                                                      else
                                                                                                                                        bif n243 != n219 then
                                                                                                                                          some
                                                                                                                                            (Out.ret
                                                                                                                                                (vbool false),
                                                                                                                                              [])
                                                                                                                                        else
                                                                                                                                          bif
                                                                                                                                              decide
                                                                                                                                                (n227 >
                                                                                                                                                  n214) then
                                                                                                                                            some
                                                                                                                                              (Out.ret
                                                                                                                                                  (vbool false),
                                                                                                                                                [])
                                                                                                                                          else
                                                                                                                                            bif
                                                                                                                                                decide
                                                                                                                                                  (Go.IntKind.wrap
                                                                                                                                                      Go.IntKind.i64
                                                                                                                                                      (Int.sub
                                                                                                                                                        n214
                                                                                                                                                        n227) ≥
                                                                                                                                                    n200) then
                                                                                                                                              some
                                                                                                                                                (Out.ret
                                                                                                                                                    (vbool
                                                                                                                                                      false),
                                                                                                                                                  [])
                                                                                                                                            else
                                                                                                                                              bif
                                                                                                                                                  n227 !=
                                                                                                                                                    Go.IntKind.wrap
                                                                                                                                                      Go.IntKind.i64
                                                                                                                                                      (Int.mul
                                                                                                                                                        n219
                                                                                                                                                        n200) then
                                                                                                                                                some
                                                                                                                                                  (Out.ret
                                                                                                                                                      (vbool
                                                                                                                                                        false),
                                                                                                                                                    [])
                                                                                                                                              else
                                                                                                                                                bif
                                                                                                                                                    n237 !=
                                                                                                                                                      0 then
                                                                                                                                                  some
                                                                                                                                                    (Out.ret
                                                                                                                                                        (vbool
                                                                                                                                                          false),
                                                                                                                                                      [])
                                                                                                                                                else
                                                                                                                                                  some
                                                                                                                                                    (Out.ret
                                                                                                                                                        (vbool
                                                                                                                                                          false),
                                                                                                                                                      []) := by
  intros
  exact (E_unfold _ _ _ _).trans (by kernel_rfl)

end Go.Proofs.Av
