/- The small functions' trees. -/
import Derived.Test.YtogopainnioiiaaDoorAvX
set_option maxRecDepth 100000
namespace Go.Proofs.Av
open Go
theorem f12 : E cx (Key.fn 12) [] [] =
  Option.bind (E cx (Key.fn 18) [AV.agg [vi 1, vi 4, vi 1, vi 1, vi 10, vi 0, vi 1, vi 0, vi 1, vu 0], vi 39] []) fun r1170 ↦
    Option.bind (ret1 r1170) fun v1171 ↦
      Option.bind (AV.tup? v1171) fun vs1172 ↦
        Option.bind (uncons? vs1172) fun p1173 ↦
          Option.bind (AV.int? Go.IntKind.i64 p1173.fst) fun n1174 ↦
            Option.bind (uncons? p1173.snd) fun p1175 ↦
              Option.bind (AV.int? Go.IntKind.i64 p1175.fst) fun n1176 ↦
                Option.bind (nil? p1175.snd) fun x1177 ↦
                  Option.bind (E cx (Key.fn 20) [AV.agg [vi 1, vi 4, vi 1, vi 1, vi 10, vi 0, vi 1, vi 0, vi 1, vu 0], vi 3] []) fun r1178 ↦
                    Option.bind (ret1 r1178) fun v1179 ↦
                      Option.bind (AV.tup? v1179) fun vs1180 ↦
                        Option.bind (uncons? vs1180) fun p1181 ↦
                          Option.bind (AV.int? Go.IntKind.i64 p1181.fst) fun n1182 ↦
                            Option.bind (uncons? p1181.snd) fun p1183 ↦
                              Option.bind (AV.int? Go.IntKind.i64 p1183.fst) fun n1184 ↦
                                Option.bind (nil? p1183.snd) fun x1185 ↦
                                  Option.bind (E cx (Key.fn 22) [AV.agg [vi 1, vi 4, vi 1, vi 1, vi 10, vi 0, vi 1, vi 0, vi 1, vu 0], vi 3] [])
                                    fun r1186 ↦
                                    Option.bind (ret1 r1186) fun v1187 ↦
                                      Option.bind (AV.tup? v1187) fun vs1188 ↦
                                        Option.bind (uncons? vs1188) fun p1189 ↦
                                          Option.bind (AV.int? Go.IntKind.i64 p1189.fst) fun n1190 ↦
                                            Option.bind (uncons? p1189.snd) fun p1191 ↦
                                              Option.bind (AV.int? Go.IntKind.i64 p1191.fst) fun n1192 ↦
                                                Option.bind (nil? p1191.snd) fun x1193 ↦
                                                  Option.bind
                                                    (E cx (Key.fn 24) [AV.agg [vi 1, vi 4, vi 1, vi 1, vi 10, vi 0, vi 1, vi 0, vi 1, vu 0], vi 2]
                                                      [])
                                                    fun r1194 ↦
                                                    Option.bind (ret1 r1194) fun v1195 ↦
                                                      Option.bind (AV.tup? v1195) fun vs1196 ↦
                                                        Option.bind (uncons? vs1196) fun p1197 ↦
                                                          Option.bind (AV.int? Go.IntKind.i64 p1197.fst) fun n1198 ↦
                                                            Option.bind (uncons? p1197.snd) fun p1199 ↦
                                                              Option.bind (AV.int? Go.IntKind.i64 p1199.fst) fun n1200 ↦
                                                                Option.bind (nil? p1199.snd) fun x1201 ↦
                                                                  Option.bind
                                                                    (E cx (Key.fn 26)
                                                                      [AV.agg [vi 1, vi 4, vi 1, vi 1, vi 10, vi 0, vi 1, vi 0, vi 1, vu 0], vi 1099511627776,
                                                                        vi 1]
                                                                      [])
                                                                    fun r1202 ↦
                                                                    Option.bind (ret1 r1202) fun v1203 ↦
                                                                      Option.bind (AV.tup? v1203) fun vs1204 ↦
                                                                        Option.bind (uncons? vs1204) fun p1205 ↦
                                                                          Option.bind (AV.int? Go.IntKind.i64 p1205.fst) fun n1206 ↦
                                                                            Option.bind (uncons? p1205.snd) fun p1207 ↦
                                                                              Option.bind (AV.int? Go.IntKind.i64 p1207.fst) fun n1208 ↦
                                                                                Option.bind (nil? p1207.snd) fun x1209 ↦
                                                                                  Option.bind
                                                                                    (E cx (Key.fn 26)
                                                                                      [AV.agg [vi 1, vi 4, vi 1, vi 1, vi 10, vi 0, vi 1, vi 0, vi 1, vu 0],
                                                                                        vi 5, vi 6]
                                                                                      [])
                                                                                    fun r1210 ↦
                                                                                    Option.bind (ret1 r1210) fun v1211 ↦
                                                                                      Option.bind (AV.tup? v1211) fun vs1212 ↦
                                                                                        Option.bind (uncons? vs1212) fun p1213 ↦
                                                                                          Option.bind (AV.int? Go.IntKind.i64 p1213.fst) fun n1214 ↦
                                                                                            Option.bind (uncons? p1213.snd) fun p1215 ↦
                                                                                              Option.bind (AV.int? Go.IntKind.i64 p1215.fst) fun n1216 ↦
                                                                                                Option.bind (nil? p1215.snd) fun x1217 ↦
                                                                                                  Option.bind
                                                                                                    (E cx (Key.fn 20)
                                                                                                      [AV.agg
                                                                                                          [vi 1, vi 4, vi 1, vi 1, vi 10, vi 0, vi 1, vi 0,
                                                                                                            vi 1, vu 0],
                                                                                                        vi 1099511627776]
                                                                                                      [])
                                                                                                    fun r1218 ↦
                                                                                                    Option.bind (ret1 r1218) fun v1219 ↦
                                                                                                      Option.bind (AV.tup? v1219) fun vs1220 ↦
                                                                                                        Option.bind (uncons? vs1220) fun p1221 ↦
                                                                                                          Option.bind (AV.int? Go.IntKind.i64 p1221.fst)
                                                                                                            fun n1222 ↦
                                                                                                            Option.bind (uncons? p1221.snd) fun p1223 ↦
                                                                                                              Option.bind (AV.int? Go.IntKind.i64 p1223.fst)
                                                                                                                fun n1224 ↦
                                                                                                                Option.bind (nil? p1223.snd) fun x1225 ↦
                                                                                                                  Option.bind
                                                                                                                    (E cx (Key.fn 18)
                                                                                                                      [AV.agg
                                                                                                                          [vi 0, vi 0, vi 0, vi 0, vi 0, vi 0,
                                                                                                                            vi 0, vi 0, vi 0, vu 0],
                                                                                                                        vi 0]
                                                                                                                      [])
                                                                                                                    fun r1226 ↦
                                                                                                                    Option.bind (ret1 r1226) fun v1227 ↦
                                                                                                                      Option.bind (AV.tup? v1227) fun vs1228 ↦
                                                                                                                        Option.bind (uncons? vs1228) fun p1229 ↦
                                                                                                                          Option.bind
                                                                                                                            (AV.int? Go.IntKind.i64 p1229.fst)
                                                                                                                            fun n1230 ↦
                                                                                                                            Option.bind (uncons? p1229.snd)
                                                                                                                              fun p1231 ↦
                                                                                                                              Option.bind
                                                                                                                                (AV.int? Go.IntKind.i64
                                                                                                                                  p1231.fst)
                                                                                                                                fun n1232 ↦
                                                                                                                                Option.bind (nil? p1231.snd)
                                                                                                                                  fun x1233 ↦
                                                                                                                                  Option.bind
                                                                                                                                    (E cx
                                                                                                                                      (Key.fn 15)
                                                                                                                                      [AV.agg
                                                                                                                                          [vi 1, vi 4, vi 1,
                                                                                                                                            vi 1, vi 10, vi 0,
                                                                                                                                            vi 1, vi 0, vi 1,
                                                                                                                                            vu 0]]
                                                                                                                                      [])
                                                                                                                                    fun r1234 ↦
                                                                                                                                    Option.bind (ret1 r1234)
                                                                                                                                      fun v1235 ↦
                                                                                                                                      Option.bind
                                                                                                                                        (AV.bool? v1235)
                                                                                                                                        fun b1236 ↦
                                                                                                                                        bif b1236 then
                                                                                                                                          Option.bind
                                                                                                                                            (E cx
                                                                                                                                              (Key.fn 15)
                                                                                                                                              [AV.agg
                                                                                                                                                  [vi 0, vi 0,
                                                                                                                                                    vi 0, vi 0,
                                                                                                                                                    vi 0, vi 0,
                                                                                                                                                    vi 0, vi 0,
                                                                                                                                                    vi 0, vu 0]]
                                                                                                                                              [])
                                                                                                                                            fun r1237 ↦
                                                                                                                                            Option.bind
                                                                                                                                              (ret1 r1237)
                                                                                                                                              fun v1238 ↦
                                                                                                                                              Option.bind
                                                                                                                                                (AV.bool? v1238)
                                                                                                                                                fun b1239 ↦
                                                                                                                                                bif b1239 then
                                                                                                                                                  some
                                                                                                                                                    (Out.ret
                                                                                                                                                        (vbool
                                                                                                                                                          false),
                                                                                                                                                      [])
                                                                                                                                                else
                                                                                                                                                  bif
                                                                                                                                                      decide
                                                                                                                                                        (n1176 =
                                                                                                                                                          0) then
                                                                                                                                                    bif
                                                                                                                                                        decide
                                                                                                                                                          (n1174 =
                                                                                                                                                            3) then
                                                                                                                                                      bif
                                                                                                                                                          decide
                                                                                                                                                            (n1184 =
                                                                                                                                                              0) then
                                                                                                                                                        bif
                                                                                                                                                            decide
                                                                                                                                                              (n1182 =
                                                                                                                                                                30) then
                                                                                                                                                          bif
                                                                                                                                                              decide
                                                                                                                                                                (n1192 =
                                                                                                                                                                  0) then
                                                                                                                                                            bif
                                                                                                                                                                decide
                                                                                                                                                                  (n1190 =
                                                                                                                                                                    0) then
                                                                                                                                                              bif
                                                                                                                                                                  decide
                                                                                                                                                                    (n1200 =
                                                                                                                                                                      0) then
                                                                                                                                                                bif
                                                                                                                                                                    decide
                                                                                                                                                                      (n1198 =
                                                                                                                                                                        8) then
                                                                                                                                                                  bif
                                                                                                                                                                      decide
                                                                                                                                                                        (n1208 =
                                                                                                                                                                          8) then
                                                                                                                                                                    bif
                                                                                                                                                                        decide
                                                                                                                                                                          (n1216 =
                                                                                                                                                                            0) then
                                                                                                                                                                      bif
                                                                                                                                                                          decide
                                                                                                                                                                            (n1214 =
                                                                                                                                                                              11) then
                                                                                                                                                                        bif
                                                                                                                                                                            decide
                                                                                                                                                                              (n1224 =
                                                                                                                                                                                8) then
                                                                                                                                                                          bif
                                                                                                                                                                              decide
                                                                                                                                                                                (n1232 =
                                                                                                                                                                                  1) then
                                                                                                                                                                            some
                                                                                                                                                                              (Out.ret
                                                                                                                                                                                  (vbool
                                                                                                                                                                                    true),
                                                                                                                                                                                [])
                                                                                                                                                                          else
                                                                                                                                                                            some
                                                                                                                                                                              (Out.ret
                                                                                                                                                                                  (vbool
                                                                                                                                                                                    false),
                                                                                                                                                                                [])
                                                                                                                                                                        else
                                                                                                                                                                          some
                                                                                                                                                                            (Out.ret
                                                                                                                                                                                (vbool
                                                                                                                                                                                  false),
                                                                                                                                                                              [])
                                                                                                                                                                      else
                                                                                                                                                                        some
                                                                                                                                                                          (Out.ret
                                                                                                                                                                              (vbool
                                                                                                                                                                                false),
                                                                                                                                                                            [])
                                                                                                                                                                    else
                                                                                                                                                                      some
                                                                                                                                                                        (Out.ret
                                                                                                                                                                            (vbool
                                                                                                                                                                              false),
                                                                                                                                                                          [])
                                                                                                                                                                  else
                                                                                                                                                                    some
                                                                                                                                                                      (Out.ret
                                                                                                                                                                          (vbool
                                                                                                                                                                            false),
                                                                                                                                                                        [])
                                                                                                                                                                else
                                                                                                                                                                  some
                                                                                                                                                                    (Out.ret
                                                                                                                                                                        (vbool
                                                                                                                                                                          false),
                                                                                                                                                                      [])
                                                                                                                                                              else
                                                                                                                                                                some
                                                                                                                                                                  (Out.ret
                                                                                                                                                                      (vbool
                                                                                                                                                                        false),
                                                                                                                                                                    [])
                                                                                                                                                            else
                                                                                                                                                              some
                                                                                                                                                                (Out.ret
                                                                                                                                                                    (vbool
                                                                                                                                                                      false),
                                                                                                                                                                  [])
                                                                                                                                                          else
                                                                                                                                                            some
                                                                                                                                                              (Out.ret
                                                                                                                                                                  (vbool
                                                                                                                                                                    false),
                                                                                                                                                                [])
                                                                                                                                                        else
                                                                                                                                                          some
                                                                                                                                                            (Out.ret
                                                                                                                                                                (vbool
                                                                                                                                                                  false),
                                                                                                                                                              [])
                                                                                                                                                      else
                                                                                                                                                        some
                                                                                                                                                          (Out.ret
                                                                                                                                                              (vbool
                                                                                                                                                                false),
                                                                                                                                                            [])
                                                                                                                                                    else
                                                                                                                                                      some
                                                                                                                                                        (Out.ret
                                                                                                                                                            (vbool
                                                                                                                                                              false),
                                                                                                                                                          [])
                                                                                                                                                  else
                                                                                                                                                    some
                                                                                                                                                      (Out.ret
                                                                                                                                                          (vbool
                                                                                                                                                            false),
                                                                                                                                                        [])
                                                                                                                                        else
                                                                                                                                          some
                                                                                                                                            (Out.ret
                                                                                                                                                (vbool false),
                                                                                                                                              []) := by
  intros
  exact (E_unfold _ _ _ _).trans (by kernel_rfl)


theorem f13 : ∀ (n1240 n1241 n1242 n1243 n1244 n1245 seed1246 : Int),
  E cx (Key.fn 13) [AV.agg [vi n1240, vi n1241, vi n1242, vi n1243, vi n1244, vi n1245], vu seed1246] [] =
    Option.bind (E cx (Key.fn 17) [vi n1242, vi 12] []) fun r1247 ↦
      Option.bind (ret1 r1247) fun v1248 ↦
        Option.bind (AV.int? Go.IntKind.i64 v1248) fun n1249 ↦
          Option.bind (E cx (Key.fn 17) [vi n1240, vi 60] []) fun r1250 ↦
            Option.bind (ret1 r1250) fun v1251 ↦
              Option.bind (AV.int? Go.IntKind.i64 v1251) fun n1252 ↦
                Option.bind (E cx (Key.fn 17) [vi n1241, vi 6] []) fun r1253 ↦
                  Option.bind (ret1 r1253) fun v1254 ↦
                    Option.bind (AV.int? Go.IntKind.i64 v1254) fun n1255 ↦
                      Option.bind (E cx (Key.fn 17) [vi (Go.IntKind.wrap Go.IntKind.i64 (Int.tdiv n1241 8)), vi 4] []) fun r1256 ↦
                        Option.bind (ret1 r1256) fun v1257 ↦
                          Option.bind (AV.int? Go.IntKind.i64 v1257) fun n1258 ↦
                            Option.bind (E cx (Key.fn 17) [vi n1243, vi 9] []) fun r1259 ↦
                              Option.bind (ret1 r1259) fun v1260 ↦
                                Option.bind (AV.int? Go.IntKind.i64 v1260) fun n1261 ↦
                                  Option.bind
                                    (E cx (Key.fn 17)
                                      [vi (Go.IntKind.wrap Go.IntKind.i64 (Int.tdiv n1242 16)),
                                        vi (Go.IntKind.wrap Go.IntKind.i64 (Int.add (Go.IntKind.wrap Go.IntKind.i64 (Int.add 1 n1249)) 1))]
                                      [])
                                    fun r1262 ↦
                                    Option.bind (ret1 r1262) fun v1263 ↦
                                      Option.bind (AV.int? Go.IntKind.i64 v1263) fun n1264 ↦
                                        Option.bind (E cx (Key.fn 17) [vi n1244, vi 8] []) fun r1265 ↦
                                          Option.bind (ret1 r1265) fun v1266 ↦
                                            Option.bind (AV.int? Go.IntKind.i64 v1266) fun n1267 ↦
                                              Option.bind (E cx (Key.fn 17) [vi n1245, vi 12] []) fun r1268 ↦
                                                Option.bind (ret1 r1268) fun v1269 ↦
                                                  Option.bind (AV.int? Go.IntKind.i64 v1269) fun n1270 ↦
                                                    Option.bind
                                                      (E cx (Key.fn 17) [vi (Go.IntKind.wrap Go.IntKind.i64 (Int.tdiv n1245 16)), vi 4] [])
                                                      fun r1271 ↦
                                                      Option.bind (ret1 r1271) fun v1272 ↦
                                                        Option.bind (AV.int? Go.IntKind.i64 v1272) fun n1273 ↦
                                                          some
                                                            (Out.ret
                                                                (AV.agg
                                                                  [vi (Go.IntKind.wrap Go.IntKind.i64 (Int.add 1 n1252)),
                                                                    vi (Go.IntKind.wrap Go.IntKind.i64 (Int.add 1 n1255)),
                                                                    vi (Go.IntKind.wrap Go.IntKind.i64 (Int.add 1 n1258)),
                                                                    vi (Go.IntKind.wrap Go.IntKind.i64 (Int.add 1 n1261)),
                                                                    vi (Go.IntKind.wrap Go.IntKind.i64 (Int.add 1 n1249)), vi n1264,
                                                                    vi (Go.IntKind.wrap Go.IntKind.i64 (Int.add 1 n1267)), vi n1270,
                                                                    vi (Go.IntKind.wrap Go.IntKind.i64 (Int.add 1 n1273)), vu seed1246]),
                                                              []) := by
  intros
  exact (E_unfold _ _ _ _).trans (by kernel_rfl)


theorem f14 : ∀ (c1274 c1275 c1276 c1277 c1278 c1279 c1280 c1281 c1282 c1283 which1284 x1285 : Int),
  E cx (Key.fn 14)
      [AV.agg [vi c1274, vi c1275, vi c1276, vi c1277, vi c1278, vi c1279, vi c1280, vi c1281, vi c1282, vu c1283], vi which1284, vi x1285] [] =
    Option.bind (E cx (Key.fn 17) [vi which1284, vi 9] []) fun r1286 ↦
      Option.bind (ret1 r1286) fun v1287 ↦
        Option.bind (AV.int? Go.IntKind.i64 v1287) fun n1288 ↦
          bif decide (n1288 = 0) then
            some (Out.ret (AV.agg [vi x1285, vi c1275, vi c1276, vi c1277, vi c1278, vi c1279, vi c1280, vi c1281, vi c1282, vu c1283]), [])
          else
            bif decide (n1288 = 1) then
              some (Out.ret (AV.agg [vi c1274, vi x1285, vi c1276, vi c1277, vi c1278, vi c1279, vi c1280, vi c1281, vi c1282, vu c1283]), [])
            else
              bif decide (n1288 = 2) then
                some (Out.ret (AV.agg [vi c1274, vi c1275, vi x1285, vi c1277, vi c1278, vi c1279, vi c1280, vi c1281, vi c1282, vu c1283]), [])
              else
                bif decide (n1288 = 3) then
                  some (Out.ret (AV.agg [vi c1274, vi c1275, vi c1276, vi x1285, vi c1278, vi c1279, vi c1280, vi c1281, vi c1282, vu c1283]), [])
                else
                  bif decide (n1288 = 4) then
                    some (Out.ret (AV.agg [vi c1274, vi c1275, vi c1276, vi c1277, vi x1285, vi c1279, vi c1280, vi c1281, vi c1282, vu c1283]), [])
                  else
                    bif decide (n1288 = 5) then
                      some (Out.ret (AV.agg [vi c1274, vi c1275, vi c1276, vi c1277, vi c1278, vi x1285, vi c1280, vi c1281, vi c1282, vu c1283]), [])
                    else
                      bif decide (n1288 = 6) then
                        some (Out.ret (AV.agg [vi c1274, vi c1275, vi c1276, vi c1277, vi c1278, vi c1279, vi x1285, vi c1281, vi c1282, vu c1283]), [])
                      else
                        bif decide (n1288 = 7) then
                          some (Out.ret (AV.agg [vi c1274, vi c1275, vi c1276, vi c1277, vi c1278, vi c1279, vi c1280, vi x1285, vi c1282, vu c1283]), [])
                        else
                          bif decide (n1288 = 8) then
                            some (Out.ret (AV.agg [vi c1274, vi c1275, vi c1276, vi c1277, vi c1278, vi c1279, vi c1280, vi c1281, vi x1285, vu c1283]), [])
                          else some (Out.ret (AV.agg [vi c1274, vi c1275, vi c1276, vi c1277, vi c1278, vi c1279, vi c1280, vi c1281, vi c1282, vu c1283]), []) := by
  intros
  exact (E_unfold _ _ _ _).trans (by kernel_rfl)


theorem f15 : ∀ (c1289 c1290 c1291 c1292 c1293 c1294 c1295 c1296 c1297 c1298 : Int),
  E cx (Key.fn 15) [AV.agg [vi c1289, vi c1290, vi c1291, vi c1292, vi c1293, vi c1294, vi c1295, vi c1296, vi c1297, vu c1298]] [] =
    Option.bind (E cx (Key.fn 38) [vi c1289, vi 1, vi 1024] []) fun r1299 ↦
      Option.bind (ret1 r1299) fun v1300 ↦
        Option.bind (AV.bool? v1300) fun b1301 ↦
          bif b1301 then
            Option.bind (E cx (Key.fn 38) [vi c1290, vi 1, vi 32] []) fun r1302 ↦
              Option.bind (ret1 r1302) fun v1303 ↦
                Option.bind (AV.bool? v1303) fun b1304 ↦
                  bif b1304 then
                    Option.bind (E cx (Key.fn 38) [vi c1291, vi 1, vi 8] []) fun r1305 ↦
                      Option.bind (ret1 r1305) fun v1306 ↦
                        Option.bind (AV.bool? v1306) fun b1307 ↦
                          bif b1307 then
                            Option.bind (E cx (Key.fn 38) [vi c1292, vi 1, vi 64] []) fun r1308 ↦
                              Option.bind (ret1 r1308) fun v1309 ↦
                                Option.bind (AV.bool? v1309) fun b1310 ↦
                                  bif b1310 then
                                    Option.bind (E cx (Key.fn 38) [vi c1293, vi 1, vi 1000] []) fun r1311 ↦
                                      Option.bind (ret1 r1311) fun v1312 ↦
                                        Option.bind (AV.bool? v1312) fun b1313 ↦
                                          bif b1313 then
                                            Option.bind (E cx (Key.fn 38) [vi c1295, vi 1, vi 64] []) fun r1314 ↦
                                              Option.bind (ret1 r1314) fun v1315 ↦
                                                Option.bind (AV.bool? v1315) fun b1316 ↦
                                                  bif b1316 then
                                                    Option.bind (E cx (Key.fn 38) [vi c1296, vi 0, vi 90] []) fun r1317 ↦
                                                      Option.bind (ret1 r1317) fun v1318 ↦
                                                        Option.bind (AV.bool? v1318) fun b1319 ↦
                                                          bif b1319 then
                                                            Option.bind (E cx (Key.fn 38) [vi c1297, vi 1, vi 16] []) fun r1320 ↦
                                                              Option.bind (ret1 r1320) fun v1321 ↦
                                                                Option.bind (AV.bool? v1321) fun b1322 ↦
                                                                  bif b1322 then
                                                                    Option.bind (E cx (Key.fn 38) [vi c1294, vi 0, vi c1293] []) fun r1323 ↦
                                                                      Option.bind (ret1 r1323) fun v1324 ↦
                                                                        Option.bind (AV.bool? v1324) fun b1325 ↦
                                                                          bif b1325 then some (Out.ret (vbool true), []) else some (Out.ret (vbool false), [])
                                                                  else some (Out.ret (vbool false), [])
                                                          else some (Out.ret (vbool false), [])
                                                  else some (Out.ret (vbool false), [])
                                          else some (Out.ret (vbool false), [])
                                  else some (Out.ret (vbool false), [])
                          else some (Out.ret (vbool false), [])
                  else some (Out.ret (vbool false), [])
          else some (Out.ret (vbool false), []) := by
  intros
  exact (E_unfold _ _ _ _).trans (by kernel_rfl)


theorem f16 : ∀ (c1326 c1327 c1328 c1329 c1330 c1331 c1332 c1333 c1334 c1335 : Int),
  E cx (Key.fn 16) [AV.agg [vi c1326, vi c1327, vi c1328, vi c1329, vi c1330, vi c1331, vi c1332, vi c1333, vi c1334, vu c1335]] [] =
    bif decide (c1326 < 1) then some (Out.ret (vbool false), [])
    else
      bif decide (c1326 > 1024) then some (Out.ret (vbool false), [])
      else
        bif decide (c1327 < 1) then some (Out.ret (vbool false), [])
        else
          bif decide (c1327 > 32) then some (Out.ret (vbool false), [])
          else
            bif decide (c1328 < 1) then some (Out.ret (vbool false), [])
            else
              bif decide (c1328 > 8) then some (Out.ret (vbool false), [])
              else
                bif decide (c1329 < 1) then some (Out.ret (vbool false), [])
                else
                  bif decide (c1329 > 64) then some (Out.ret (vbool false), [])
                  else
                    bif decide (c1330 < 1) then some (Out.ret (vbool false), [])
                    else
                      bif decide (c1330 > 1000) then some (Out.ret (vbool false), [])
                      else
                        bif decide (c1331 < 0) then some (Out.ret (vbool false), [])
                        else
                          bif decide (c1331 > c1330) then some (Out.ret (vbool false), [])
                          else
                            bif decide (c1332 < 1) then some (Out.ret (vbool false), [])
                            else
                              bif decide (c1332 > 64) then some (Out.ret (vbool false), [])
                              else
                                bif decide (c1333 ≥ 0) then
                                  bif decide (c1333 ≤ 90) then
                                    bif decide (c1334 ≥ 1) then
                                      bif decide (c1334 ≤ 16) then some (Out.ret (vbool true), []) else some (Out.ret (vbool false), [])
                                    else some (Out.ret (vbool false), [])
                                  else some (Out.ret (vbool false), [])
                                else some (Out.ret (vbool false), []) := by
  intros
  exact (E_unfold _ _ _ _).trans (by kernel_rfl)


theorem f17 : ∀ (c1336 n1337 : Int),
  E cx (Key.fn 17) [vi c1336, vi n1337] [] =
    bif decide (c1336 < 0) then
      if n1337 = 0 then none
      else some (Out.ret (vi (Int.tmod (Go.IntKind.wrap Go.IntKind.i64 (Int.sub 0 (Go.IntKind.wrap Go.IntKind.i64 (Int.add c1336 1)))) n1337)), [])
    else if n1337 = 0 then none else some (Out.ret (vi (Int.tmod c1336 n1337)), []) := by
  intros
  exact (E_unfold _ _ _ _).trans (by kernel_rfl)


theorem f18 : ∀ (c1338 c1339 c1340 c1341 c1342 c1343 c1344 c1345 c1346 c1347 tick1348 : Int),
  E cx (Key.fn 18) [AV.agg [vi c1338, vi c1339, vi c1340, vi c1341, vi c1342, vi c1343, vi c1344, vi c1345, vi c1346, vu c1347], vi tick1348] [] =
    Option.bind (E cx (Key.fn 15) [AV.agg [vi c1338, vi c1339, vi c1340, vi c1341, vi c1342, vi c1343, vi c1344, vi c1345, vi c1346, vu c1347]] [])
      fun r1349 ↦
      Option.bind (ret1 r1349) fun v1350 ↦
        Option.bind (AV.bool? v1350) fun b1351 ↦
          bif b1351 then
            Option.bind (E cx (Key.fn 38) [vi tick1348, vi 0, vi 1099511627776] []) fun r1352 ↦
              Option.bind (ret1 r1352) fun v1353 ↦
                Option.bind (AV.bool? v1353) fun b1354 ↦
                  bif b1354 then if c1342 = 0 then none else some (Out.ret (AV.tuple [vi (Go.IntKind.wrap Go.IntKind.i64 (Int.tdiv tick1348 c1342)), vi 0]), [])
                  else some (Out.ret (AV.tuple [vi 0, vi 1]), [])
          else some (Out.ret (AV.tuple [vi 0, vi 1]), []) := by
  intros
  exact (E_unfold _ _ _ _).trans (by kernel_rfl)


theorem f19 : ∀ (c1355 c1356 c1357 c1358 c1359 c1360 c1361 c1362 c1363 c1364 t1365 : Int),
  E cx (Key.fn 19) [AV.agg [vi c1355, vi c1356, vi c1357, vi c1358, vi c1359, vi c1360, vi c1361, vi c1362, vi c1363, vu c1364], vi t1365] [] =
    Option.bind (E cx (Key.fn 16) [AV.agg [vi c1355, vi c1356, vi c1357, vi c1358, vi c1359, vi c1360, vi c1361, vi c1362, vi c1363, vu c1364]] [])
      fun r1366 ↦
      Option.bind (ret1 r1366) fun v1367 ↦
        Option.bind (AV.bool? v1367) fun b1368 ↦
          bif b1368 then
            Option.bind (E cx (Key.fn 39) [vi t1365] []) fun r1369 ↦
              Option.bind (ret1 r1369) fun v1370 ↦
                Option.bind (AV.bool? v1370) fun b1371 ↦
                  bif b1371 then if c1359 = 0 then none else some (Out.ret (AV.tuple [vi (Go.IntKind.wrap Go.IntKind.i64 (Int.tdiv t1365 c1359)), vi 0]), [])
                  else some (Out.ret (AV.tuple [vi 0, vi 1]), [])
          else some (Out.ret (AV.tuple [vi 0, vi 1]), []) := by
  intros
  exact (E_unfold _ _ _ _).trans (by kernel_rfl)


theorem f20 : ∀ (c1372 c1373 c1374 c1375 c1376 c1377 c1378 c1379 c1380 c1381 slot1382 : Int),
  E cx (Key.fn 20) [AV.agg [vi c1372, vi c1373, vi c1374, vi c1375, vi c1376, vi c1377, vi c1378, vi c1379, vi c1380, vu c1381], vi slot1382] [] =
    Option.bind (E cx (Key.fn 15) [AV.agg [vi c1372, vi c1373, vi c1374, vi c1375, vi c1376, vi c1377, vi c1378, vi c1379, vi c1380, vu c1381]] [])
      fun r1383 ↦
      Option.bind (ret1 r1383) fun v1384 ↦
        Option.bind (AV.bool? v1384) fun b1385 ↦
          bif b1385 then
            bif decide (slot1382 < 0) then some (Out.ret (AV.tuple [vi 0, vi 1]), [])
            else
              if c1376 = 0 then none
              else
                bif decide (slot1382 > Go.IntKind.wrap Go.IntKind.i64 (Int.tdiv 1099511627776 c1376)) then some (Out.ret (AV.tuple [vi 0, vi 8]), [])
                else some (Out.ret (AV.tuple [vi (Go.IntKind.wrap Go.IntKind.i64 (Int.mul slot1382 c1376)), vi 0]), [])
          else some (Out.ret (AV.tuple [vi 0, vi 1]), []) := by
  intros
  exact (E_unfold _ _ _ _).trans (by kernel_rfl)


theorem f21 : ∀ (c1386 c1387 c1388 c1389 c1390 c1391 c1392 c1393 c1394 c1395 slot1396 : Int),
  E cx (Key.fn 21) [AV.agg [vi c1386, vi c1387, vi c1388, vi c1389, vi c1390, vi c1391, vi c1392, vi c1393, vi c1394, vu c1395], vi slot1396] [] =
    Option.bind (E cx (Key.fn 16) [AV.agg [vi c1386, vi c1387, vi c1388, vi c1389, vi c1390, vi c1391, vi c1392, vi c1393, vi c1394, vu c1395]] [])
      fun r1397 ↦
      Option.bind (ret1 r1397) fun v1398 ↦
        Option.bind (AV.bool? v1398) fun b1399 ↦
          bif b1399 then
            bif decide (slot1396 < 0) then some (Out.ret (AV.tuple [vi 0, vi 1]), [])
            else
              Option.bind (E cx (Key.fn 39) [vi slot1396] []) fun r1400 ↦
                Option.bind (ret1 r1400) fun v1401 ↦
                  Option.bind (AV.bool? v1401) fun b1402 ↦
                    bif b1402 then
                      Option.bind (E cx (Key.fn 39) [vi (Go.IntKind.wrap Go.IntKind.i64 (Int.mul slot1396 c1390))] []) fun r1403 ↦
                        Option.bind (ret1 r1403) fun v1404 ↦
                          Option.bind (AV.bool? v1404) fun b1405 ↦
                            bif b1405 then some (Out.ret (AV.tuple [vi (Go.IntKind.wrap Go.IntKind.i64 (Int.mul slot1396 c1390)), vi 0]), [])
                            else some (Out.ret (AV.tuple [vi 0, vi 8]), [])
                    else some (Out.ret (AV.tuple [vi 0, vi 8]), [])
          else some (Out.ret (AV.tuple [vi 0, vi 1]), []) := by
  intros
  exact (E_unfold _ _ _ _).trans (by kernel_rfl)


theorem f22 : ∀ (c1406 c1407 c1408 c1409 c1410 c1411 c1412 c1413 c1414 c1415 slot1416 : Int),
  E cx (Key.fn 22) [AV.agg [vi c1406, vi c1407, vi c1408, vi c1409, vi c1410, vi c1411, vi c1412, vi c1413, vi c1414, vu c1415], vi slot1416] [] =
    Option.bind (E cx (Key.fn 15) [AV.agg [vi c1406, vi c1407, vi c1408, vi c1409, vi c1410, vi c1411, vi c1412, vi c1413, vi c1414, vu c1415]] [])
      fun r1417 ↦
      Option.bind (ret1 r1417) fun v1418 ↦
        Option.bind (AV.bool? v1418) fun b1419 ↦
          bif b1419 then
            bif decide (slot1416 < 0) then some (Out.ret (AV.tuple [vi 0, vi 1]), [])
            else if c1407 = 0 then none else some (Out.ret (AV.tuple [vi (Go.IntKind.wrap Go.IntKind.i64 (Int.tdiv slot1416 c1407)), vi 0]), [])
          else some (Out.ret (AV.tuple [vi 0, vi 1]), []) := by
  intros
  exact (E_unfold _ _ _ _).trans (by kernel_rfl)


theorem f23 : ∀ (c1420 c1421 c1422 c1423 c1424 c1425 c1426 c1427 c1428 c1429 slot1430 : Int),
  E cx (Key.fn 23) [AV.agg [vi c1420, vi c1421, vi c1422, vi c1423, vi c1424, vi c1425, vi c1426, vi c1427, vi c1428, vu c1429], vi slot1430] [] =
    Option.bind (E cx (Key.fn 16) [AV.agg [vi c1420, vi c1421, vi c1422, vi c1423, vi c1424, vi c1425, vi c1426, vi c1427, vi c1428, vu c1429]] [])
      fun r1431 ↦
      Option.bind (ret1 r1431) fun v1432 ↦
        Option.bind (AV.bool? v1432) fun b1433 ↦
          bif b1433 then
            bif decide (slot1430 < 0) then some (Out.ret (AV.tuple [vi 0, vi 1]), [])
            else if c1421 = 0 then none else some (Out.ret (AV.tuple [vi (Go.IntKind.wrap Go.IntKind.i64 (Int.tdiv slot1430 c1421)), vi 0]), [])
          else some (Out.ret (AV.tuple [vi 0, vi 1]), []) := by
  intros
  exact (E_unfold _ _ _ _).trans (by kernel_rfl)


theorem f24 : ∀ (c1434 c1435 c1436 c1437 c1438 c1439 c1440 c1441 c1442 c1443 epoch1444 : Int),
  E cx (Key.fn 24) [AV.agg [vi c1434, vi c1435, vi c1436, vi c1437, vi c1438, vi c1439, vi c1440, vi c1441, vi c1442, vu c1443], vi epoch1444] [] =
    Option.bind (E cx (Key.fn 15) [AV.agg [vi c1434, vi c1435, vi c1436, vi c1437, vi c1438, vi c1439, vi c1440, vi c1441, vi c1442, vu c1443]] [])
      fun r1445 ↦
      Option.bind (ret1 r1445) fun v1446 ↦
        Option.bind (AV.bool? v1446) fun b1447 ↦
          bif b1447 then
            bif decide (epoch1444 < 0) then some (Out.ret (AV.tuple [vi 0, vi 1]), [])
            else
              if c1438 = 0 then none
              else
                if c1435 = 0 then none
                else
                  bif decide (epoch1444 > Go.IntKind.wrap Go.IntKind.i64 (Int.tdiv (Go.IntKind.wrap Go.IntKind.i64 (Int.tdiv 1099511627776 c1438)) c1435)) then
                    some (Out.ret (AV.tuple [vi 0, vi 8]), [])
                  else some (Out.ret (AV.tuple [vi (Go.IntKind.wrap Go.IntKind.i64 (Int.mul epoch1444 c1435)), vi 0]), [])
          else some (Out.ret (AV.tuple [vi 0, vi 1]), []) := by
  intros
  exact (E_unfold _ _ _ _).trans (by kernel_rfl)


theorem f25 : ∀ (c1448 c1449 c1450 c1451 c1452 c1453 c1454 c1455 c1456 c1457 epoch1458 : Int),
  E cx (Key.fn 25) [AV.agg [vi c1448, vi c1449, vi c1450, vi c1451, vi c1452, vi c1453, vi c1454, vi c1455, vi c1456, vu c1457], vi epoch1458] [] =
    Option.bind (E cx (Key.fn 16) [AV.agg [vi c1448, vi c1449, vi c1450, vi c1451, vi c1452, vi c1453, vi c1454, vi c1455, vi c1456, vu c1457]] [])
      fun r1459 ↦
      Option.bind (ret1 r1459) fun v1460 ↦
        Option.bind (AV.bool? v1460) fun b1461 ↦
          bif b1461 then
            bif decide (epoch1458 < 0) then some (Out.ret (AV.tuple [vi 0, vi 1]), [])
            else
              Option.bind (E cx (Key.fn 39) [vi epoch1458] []) fun r1462 ↦
                Option.bind (ret1 r1462) fun v1463 ↦
                  Option.bind (AV.bool? v1463) fun b1464 ↦
                    bif b1464 then
                      Option.bind
                        (E cx (Key.fn 21)
                          [AV.agg [vi c1448, vi c1449, vi c1450, vi c1451, vi c1452, vi c1453, vi c1454, vi c1455, vi c1456, vu c1457],
                            vi (Go.IntKind.wrap Go.IntKind.i64 (Int.mul epoch1458 c1449))]
                          [])
                        fun r1465 ↦
                        Option.bind (ret1 r1465) fun v1466 ↦
                          Option.bind (AV.tup? v1466) fun vs1467 ↦
                            Option.bind (uncons? vs1467) fun p1468 ↦
                              Option.bind (AV.int? Go.IntKind.i64 p1468.fst) fun n1469 ↦
                                Option.bind (uncons? p1468.snd) fun p1470 ↦
                                  Option.bind (AV.int? Go.IntKind.i64 p1470.fst) fun n1471 ↦
                                    Option.bind (nil? p1470.snd) fun x1472 ↦
                                      bif n1471 != 0 then some (Out.ret (AV.tuple [vi 0, vi 8]), [])
                                      else some (Out.ret (AV.tuple [vi (Go.IntKind.wrap Go.IntKind.i64 (Int.mul epoch1458 c1449)), vi 0]), [])
                    else some (Out.ret (AV.tuple [vi 0, vi 8]), [])
          else some (Out.ret (AV.tuple [vi 0, vi 1]), []) := by
  intros
  exact (E_unfold _ _ _ _).trans (by kernel_rfl)


theorem f26 : ∀ (c1473 c1474 c1475 c1476 c1477 c1478 c1479 c1480 c1481 c1482 tick1483 by1484 : Int),
  E cx (Key.fn 26)
      [AV.agg [vi c1473, vi c1474, vi c1475, vi c1476, vi c1477, vi c1478, vi c1479, vi c1480, vi c1481, vu c1482], vi tick1483, vi by1484] [] =
    Option.bind (E cx (Key.fn 15) [AV.agg [vi c1473, vi c1474, vi c1475, vi c1476, vi c1477, vi c1478, vi c1479, vi c1480, vi c1481, vu c1482]] [])
      fun r1485 ↦
      Option.bind (ret1 r1485) fun v1486 ↦
        Option.bind (AV.bool? v1486) fun b1487 ↦
          bif b1487 then
            Option.bind (E cx (Key.fn 38) [vi tick1483, vi 0, vi 1099511627776] []) fun r1488 ↦
              Option.bind (ret1 r1488) fun v1489 ↦
                Option.bind (AV.bool? v1489) fun b1490 ↦
                  bif b1490 then
                    bif decide (by1484 < 0) then some (Out.ret (AV.tuple [vi 0, vi 1]), [])
                    else
                      bif decide (by1484 > Go.IntKind.wrap Go.IntKind.i64 (Int.sub 1099511627776 tick1483)) then some (Out.ret (AV.tuple [vi 0, vi 8]), [])
                      else some (Out.ret (AV.tuple [vi (Go.IntKind.wrap Go.IntKind.i64 (Int.add tick1483 by1484)), vi 0]), [])
                  else some (Out.ret (AV.tuple [vi 0, vi 1]), [])
          else some (Out.ret (AV.tuple [vi 0, vi 1]), []) := by
  intros
  exact (E_unfold _ _ _ _).trans (by kernel_rfl)


theorem f27 : ∀ (c1491 c1492 c1493 c1494 c1495 c1496 c1497 c1498 c1499 c1500 t1501 by1502 : Int),
  E cx (Key.fn 27)
      [AV.agg [vi c1491, vi c1492, vi c1493, vi c1494, vi c1495, vi c1496, vi c1497, vi c1498, vi c1499, vu c1500], vi t1501, vi by1502] [] =
    Option.bind (E cx (Key.fn 16) [AV.agg [vi c1491, vi c1492, vi c1493, vi c1494, vi c1495, vi c1496, vi c1497, vi c1498, vi c1499, vu c1500]] [])
      fun r1503 ↦
      Option.bind (ret1 r1503) fun v1504 ↦
        Option.bind (AV.bool? v1504) fun b1505 ↦
          bif b1505 then
            Option.bind (E cx (Key.fn 39) [vi t1501] []) fun r1506 ↦
              Option.bind (ret1 r1506) fun v1507 ↦
                Option.bind (AV.bool? v1507) fun b1508 ↦
                  bif b1508 then
                    bif decide (by1502 < 0) then some (Out.ret (AV.tuple [vi 0, vi 1]), [])
                    else
                      Option.bind (E cx (Key.fn 39) [vi by1502] []) fun r1509 ↦
                        Option.bind (ret1 r1509) fun v1510 ↦
                          Option.bind (AV.bool? v1510) fun b1511 ↦
                            bif b1511 then
                              Option.bind (E cx (Key.fn 39) [vi (Go.IntKind.wrap Go.IntKind.i64 (Int.add t1501 by1502))] []) fun r1512 ↦
                                Option.bind (ret1 r1512) fun v1513 ↦
                                  Option.bind (AV.bool? v1513) fun b1514 ↦
                                    bif b1514 then some (Out.ret (AV.tuple [vi (Go.IntKind.wrap Go.IntKind.i64 (Int.add t1501 by1502)), vi 0]), [])
                                    else some (Out.ret (AV.tuple [vi 0, vi 8]), [])
                            else some (Out.ret (AV.tuple [vi 0, vi 8]), [])
                  else some (Out.ret (AV.tuple [vi 0, vi 1]), [])
          else some (Out.ret (AV.tuple [vi 0, vi 1]), []) := by
  intros
  exact (E_unfold _ _ _ _).trans (by kernel_rfl)


theorem f28 : E cx (Key.fn 28) [] [] =
  Option.bind (E cx (Key.fn 30) [AV.agg [vi 1, vi 4, vi 1, vi 1, vi 10, vi 2, vi 3, vi 0, vi 1, vu 0], vi 4] []) fun r1515 ↦
    Option.bind (ret1 r1515) fun v1516 ↦
      Option.bind (AV.tup? v1516) fun vs1517 ↦
        Option.bind (uncons? vs1517) fun p1518 ↦
          Option.bind (AV.int? Go.IntKind.i64 p1518.fst) fun n1519 ↦
            Option.bind (uncons? p1518.snd) fun p1520 ↦
              Option.bind (AV.int? Go.IntKind.i64 p1520.fst) fun n1521 ↦
                Option.bind (nil? p1520.snd) fun x1522 ↦
                  Option.bind (E cx (Key.fn 32) [AV.agg [vi 1, vi 4, vi 1, vi 1, vi 10, vi 2, vi 3, vi 0, vi 1, vu 0], vi 4] []) fun r1523 ↦
                    Option.bind (ret1 r1523) fun v1524 ↦
                      Option.bind (AV.tup? v1524) fun vs1525 ↦
                        Option.bind (uncons? vs1525) fun p1526 ↦
                          Option.bind (AV.int? Go.IntKind.i64 p1526.fst) fun n1527 ↦
                            Option.bind (uncons? p1526.snd) fun p1528 ↦
                              Option.bind (AV.int? Go.IntKind.i64 p1528.fst) fun n1529 ↦
                                Option.bind (nil? p1528.snd) fun x1530 ↦
                                  Option.bind (E cx (Key.fn 36) [AV.agg [vi 1, vi 4, vi 1, vi 1, vi 10, vi 2, vi 3, vi 0, vi 1, vu 0], vi 38] [])
                                    fun r1531 ↦
                                    Option.bind (ret1 r1531) fun v1532 ↦
                                      Option.bind (AV.tup? v1532) fun vs1533 ↦
                                        Option.bind (uncons? vs1533) fun p1534 ↦
                                          Option.bind (AV.int? Go.IntKind.i64 p1534.fst) fun n1535 ↦
                                            Option.bind (uncons? p1534.snd) fun p1536 ↦
                                              Option.bind (AV.int? Go.IntKind.i64 p1536.fst) fun n1537 ↦
                                                Option.bind (uncons? p1536.snd) fun p1538 ↦
                                                  Option.bind (AV.int? Go.IntKind.i64 p1538.fst) fun n1539 ↦
                                                    Option.bind (nil? p1538.snd) fun x1540 ↦
                                                      Option.bind
                                                        (E cx (Key.fn 36)
                                                          [AV.agg [vi 1, vi 4, vi 1, vi 1, vi 10, vi 2, vi 3, vi 0, vi 1, vu 0], vi 42] [])
                                                        fun r1541 ↦
                                                        Option.bind (ret1 r1541) fun v1542 ↦
                                                          Option.bind (AV.tup? v1542) fun vs1543 ↦
                                                            Option.bind (uncons? vs1543) fun p1544 ↦
                                                              Option.bind (AV.int? Go.IntKind.i64 p1544.fst) fun n1545 ↦
                                                                Option.bind (uncons? p1544.snd) fun p1546 ↦
                                                                  Option.bind (AV.int? Go.IntKind.i64 p1546.fst) fun n1547 ↦
                                                                    Option.bind (uncons? p1546.snd) fun p1548 ↦
                                                                      Option.bind (AV.int? Go.IntKind.i64 p1548.fst) fun n1549 ↦
                                                                        Option.bind (nil? p1548.snd) fun x1550 ↦
                                                                          Option.bind
                                                                            (E cx (Key.fn 34)
                                                                              [AV.agg [vi 1, vi 4, vi 1, vi 1, vi 10, vi 2, vi 3, vi 0, vi 1, vu 0], vi 82,
                                                                                vi 4]
                                                                              [])
                                                                            fun r1551 ↦
                                                                            Option.bind (ret1 r1551) fun v1552 ↦
                                                                              Option.bind (AV.tup? v1552) fun vs1553 ↦
                                                                                Option.bind (uncons? vs1553) fun p1554 ↦
                                                                                  Option.bind (AV.int? Go.IntKind.i64 p1554.fst) fun n1555 ↦
                                                                                    Option.bind (uncons? p1554.snd) fun p1556 ↦
                                                                                      Option.bind (AV.int? Go.IntKind.i64 p1556.fst) fun n1557 ↦
                                                                                        Option.bind (nil? p1556.snd) fun x1558 ↦
                                                                                          Option.bind
                                                                                            (E cx (Key.fn 34)
                                                                                              [AV.agg
                                                                                                  [vi 1, vi 4, vi 1, vi 1, vi 10, vi 2, vi 3, vi 0, vi 1, vu 0],
                                                                                                vi 37, vi 4]
                                                                                              [])
                                                                                            fun r1559 ↦
                                                                                            Option.bind (ret1 r1559) fun v1560 ↦
                                                                                              Option.bind (AV.tup? v1560) fun vs1561 ↦
                                                                                                Option.bind (uncons? vs1561) fun p1562 ↦
                                                                                                  Option.bind (AV.int? Go.IntKind.i64 p1562.fst) fun n1563 ↦
                                                                                                    Option.bind (uncons? p1562.snd) fun p1564 ↦
                                                                                                      Option.bind (AV.int? Go.IntKind.i64 p1564.fst) fun n1565 ↦
                                                                                                        Option.bind (nil? p1564.snd) fun x1566 ↦
                                                                                                          Option.bind
                                                                                                            (E cx (Key.fn 34)
                                                                                                              [AV.agg
                                                                                                                  [vi 1, vi 4, vi 1, vi 1, vi 10, vi 2, vi 3,
                                                                                                                    vi 0, vi 1, vu 0],
                                                                                                                vi 38, vi 4]
                                                                                                              [])
                                                                                                            fun r1567 ↦
                                                                                                            Option.bind (ret1 r1567) fun v1568 ↦
                                                                                                              Option.bind (AV.tup? v1568) fun vs1569 ↦
                                                                                                                Option.bind (uncons? vs1569) fun p1570 ↦
                                                                                                                  Option.bind (AV.int? Go.IntKind.i64 p1570.fst)
                                                                                                                    fun n1571 ↦
                                                                                                                    Option.bind (uncons? p1570.snd) fun p1572 ↦
                                                                                                                      Option.bind
                                                                                                                        (AV.int? Go.IntKind.i64 p1572.fst)
                                                                                                                        fun n1573 ↦
                                                                                                                        Option.bind (nil? p1572.snd) fun x1574 ↦
                                                                                                                          Option.bind
                                                                                                                            (E cx (Key.fn 30)
                                                                                                                              [AV.agg
                                                                                                                                  [vi 1, vi 4, vi 1, vi 1,
                                                                                                                                    vi 10, vi 2, vi 3, vi 0,
                                                                                                                                    vi 1, vu 0],
                                                                                                                                vi 1099511627776]
                                                                                                                              [])
                                                                                                                            fun r1575 ↦
                                                                                                                            Option.bind (ret1 r1575) fun v1576 ↦
                                                                                                                              Option.bind (AV.tup? v1576)
                                                                                                                                fun vs1577 ↦
                                                                                                                                Option.bind (uncons? vs1577)
                                                                                                                                  fun p1578 ↦
                                                                                                                                  Option.bind
                                                                                                                                    (AV.int? Go.IntKind.i64
                                                                                                                                      p1578.fst)
                                                                                                                                    fun n1579 ↦
                                                                                                                                    Option.bind
                                                                                                                                      (uncons? p1578.snd)
                                                                                                                                      fun p1580 ↦
                                                                                                                                      Option.bind
                                                                                                                                        (AV.int? Go.IntKind.i64
                                                                                                                                          p1580.fst)
                                                                                                                                        fun n1581 ↦
                                                                                                                                        Option.bind
                                                                                                                                          (nil? p1580.snd)
                                                                                                                                          fun x1582 ↦
                                                                                                                                          Option.bind
                                                                                                                                            (E cx
                                                                                                                                              (Key.fn 34)
                                                                                                                                              [AV.agg
                                                                                                                                                  [vi 1, vi 4,
                                                                                                                                                    vi 1, vi 1,
                                                                                                                                                    vi 10, vi 2,
                                                                                                                                                    vi 3, vi 0,
                                                                                                                                                    vi 1, vu 0],
                                                                                                                                                vi
                                                                                                                                                  1099511627777,
                                                                                                                                                vi 0]
                                                                                                                                              [])
                                                                                                                                            fun r1583 ↦
                                                                                                                                            Option.bind
                                                                                                                                              (ret1 r1583)
                                                                                                                                              fun v1584 ↦
                                                                                                                                              Option.bind
                                                                                                                                                (AV.tup? v1584)
                                                                                                                                                fun vs1585 ↦
                                                                                                                                                Option.bind
                                                                                                                                                  (uncons?
                                                                                                                                                    vs1585)
                                                                                                                                                  fun p1586 ↦
                                                                                                                                                  Option.bind
                                                                                                                                                    (AV.int?
                                                                                                                                                      Go.IntKind.i64
                                                                                                                                                      p1586.fst)
                                                                                                                                                    fun n1587 ↦
                                                                                                                                                    Option.bind
                                                                                                                                                      (uncons?
                                                                                                                                                        p1586.snd)
                                                                                                                                                      fun
                                                                                                                                                        p1588 ↦
                                                                                                                                                      Option.bind
                                                                                                                                                        (AV.int?
                                                                                                                                                          Go.IntKind.i64
                                                                                                                                                          p1588.fst)
                                                                                                                                                        fun
                                                                                                                                                          n1589 ↦
                                                                                                                                                        Option.bind
                                                                                                                                                          (nil?
                                                                                                                                                            p1588.snd)
                                                                                                                                                          fun
                                                                                                                                                            x1590 ↦
                                                                                                                                                          bif
                                                                                                                                                              decide
                                                                                                                                                                (n1521 =
                                                                                                                                                                  0) then
                                                                                                                                                            bif
                                                                                                                                                                decide
                                                                                                                                                                  (n1519 =
                                                                                                                                                                    38) then
                                                                                                                                                              bif
                                                                                                                                                                  decide
                                                                                                                                                                    (n1529 =
                                                                                                                                                                      0) then
                                                                                                                                                                bif
                                                                                                                                                                    decide
                                                                                                                                                                      (n1527 =
                                                                                                                                                                        81) then
                                                                                                                                                                  bif
                                                                                                                                                                      decide
                                                                                                                                                                        (n1539 =
                                                                                                                                                                          0) then
                                                                                                                                                                    bif
                                                                                                                                                                        decide
                                                                                                                                                                          (n1535 =
                                                                                                                                                                            0) then
                                                                                                                                                                      bif
                                                                                                                                                                          decide
                                                                                                                                                                            (n1537 =
                                                                                                                                                                              4) then
                                                                                                                                                                        bif
                                                                                                                                                                            decide
                                                                                                                                                                              (n1549 =
                                                                                                                                                                                0) then
                                                                                                                                                                          bif
                                                                                                                                                                              decide
                                                                                                                                                                                (n1545 =
                                                                                                                                                                                  1) then
                                                                                                                                                                            bif
                                                                                                                                                                                decide
                                                                                                                                                                                  (n1547 =
                                                                                                                                                                                    4) then
                                                                                                                                                                              bif
                                                                                                                                                                                  decide
                                                                                                                                                                                    (n1557 =
                                                                                                                                                                                      0) then
                                                                                                                                                                                bif
                                                                                                                                                                                    decide
                                                                                                                                                                                      (n1555 =
                                                                                                                                                                                        2) then
                                                                                                                                                                                  bif
                                                                                                                                                                                      decide
                                                                                                                                                                                        (n1565 =
                                                                                                                                                                                          0) then
                                                                                                                                                                                    bif
                                                                                                                                                                                        decide
                                                                                                                                                                                          (n1563 =
                                                                                                                                                                                            0) then
                                                                                                                                                                                      bif
                                                                                                                                                                                          decide
                                                                                                                                                                                            (n1573 =
                                                                                                                                                                                              0) then
                                                                                                                                                                                        bif
                                                                                                                                                                                            decide
                                                                                                                                                                                              (n1571 =
                                                                                                                                                                                                1) then
                                                                                                                                                                                          bif
                                                                                                                                                                                              decide
                                                                                                                                                                                                (n1581 =
                                                                                                                                                                                                  8) then
                                                                                                                                                                                            bif
                                                                                                                                                                                                decide
                                                                                                                                                                                                  (n1589 =
                                                                                                                                                                                                    1) then
                                                                                                                                                                                              some
                                                                                                                                                                                                (Out.ret
                                                                                                                                                                                                    (vbool
                                                                                                                                                                                                      true),
                                                                                                                                                                                                  [])
                                                                                                                                                                                            else
                                                                                                                                                                                              some
                                                                                                                                                                                                (Out.ret
                                                                                                                                                                                                    (vbool
                                                                                                                                                                                                      false),
                                                                                                                                                                                                  [])
                                                                                                                                                                                          else
                                                                                                                                                                                            some
                                                                                                                                                                                              (Out.ret
                                                                                                                                                                                                  (vbool
                                                                                                                                                                                                    false),
                                                                                                                                                                                                [])
                                                                                                                                                                                        else
                                                                                                                                                                                          some
                                                                                                                                                                                            (Out.ret
                                                                                                                                                                                                (vbool
                                                                                                                                                                                                  false),
                                                                                                                                                                                              [])
                                                                                                                                                                                      else
                                                                                                                                                                                        some
                                                                                                                                                                                          (Out.ret
                                                                                                                                                                                              (vbool
                                                                                                                                                                                                false),
                                                                                                                                                                                            [])
                                                                                                                                                                                    else
                                                                                                                                                                                      some
                                                                                                                                                                                        (Out.ret
                                                                                                                                                                                            (vbool
                                                                                                                                                                                              false),
                                                                                                                                                                                          [])
                                                                                                                                                                                  else
                                                                                                                                                                                    some
                                                                                                                                                                                      (Out.ret
                                                                                                                                                                                          (vbool
                                                                                                                                                                                            false),
                                                                                                                                                                                        [])
                                                                                                                                                                                else
                                                                                                                                                                                  some
                                                                                                                                                                                    (Out.ret
                                                                                                                                                                                        (vbool
                                                                                                                                                                                          false),
                                                                                                                                                                                      [])
                                                                                                                                                                              else
                                                                                                                                                                                some
                                                                                                                                                                                  (Out.ret
                                                                                                                                                                                      (vbool
                                                                                                                                                                                        false),
                                                                                                                                                                                    [])
                                                                                                                                                                            else
                                                                                                                                                                              some
                                                                                                                                                                                (Out.ret
                                                                                                                                                                                    (vbool
                                                                                                                                                                                      false),
                                                                                                                                                                                  [])
                                                                                                                                                                          else
                                                                                                                                                                            some
                                                                                                                                                                              (Out.ret
                                                                                                                                                                                  (vbool
                                                                                                                                                                                    false),
                                                                                                                                                                                [])
                                                                                                                                                                        else
                                                                                                                                                                          some
                                                                                                                                                                            (Out.ret
                                                                                                                                                                                (vbool
                                                                                                                                                                                  false),
                                                                                                                                                                              [])
                                                                                                                                                                      else
                                                                                                                                                                        some
                                                                                                                                                                          (Out.ret
                                                                                                                                                                              (vbool
                                                                                                                                                                                false),
                                                                                                                                                                            [])
                                                                                                                                                                    else
                                                                                                                                                                      some
                                                                                                                                                                        (Out.ret
                                                                                                                                                                            (vbool
                                                                                                                                                                              false),
                                                                                                                                                                          [])
                                                                                                                                                                  else
                                                                                                                                                                    some
                                                                                                                                                                      (Out.ret
                                                                                                                                                                          (vbool
                                                                                                                                                                            false),
                                                                                                                                                                        [])
                                                                                                                                                                else
                                                                                                                                                                  some
                                                                                                                                                                    (Out.ret
                                                                                                                                                                        (vbool
                                                                                                                                                                          false),
                                                                                                                                                                      [])
                                                                                                                                                              else
                                                                                                                                                                some
                                                                                                                                                                  (Out.ret
                                                                                                                                                                      (vbool
                                                                                                                                                                        false),
                                                                                                                                                                    [])
                                                                                                                                                            else
                                                                                                                                                              some
                                                                                                                                                                (Out.ret
                                                                                                                                                                    (vbool
                                                                                                                                                                      false),
                                                                                                                                                                  [])
                                                                                                                                                          else
                                                                                                                                                            some
                                                                                                                                                              (Out.ret
                                                                                                                                                                  (vbool
                                                                                                                                                                    false),
                                                                                                                                                                []) := by
  intros
  exact (E_unfold _ _ _ _).trans (by kernel_rfl)


theorem f29 : ∀ (c1591 n1592 : Int),
  E cx (Key.fn 29) [vi c1591, vi n1592] [] =
    bif decide (c1591 < 0) then
      if n1592 = 0 then none
      else some (Out.ret (vi (Int.tmod (Go.IntKind.wrap Go.IntKind.i64 (Int.sub 0 (Go.IntKind.wrap Go.IntKind.i64 (Int.add c1591 1)))) n1592)), [])
    else if n1592 = 0 then none else some (Out.ret (vi (Int.tmod c1591 n1592)), []) := by
  intros
  exact (E_unfold _ _ _ _).trans (by kernel_rfl)


theorem f30 : ∀ (c1593 c1594 c1595 c1596 c1597 c1598 c1599 c1600 c1601 c1602 slot1603 : Int),
  E cx (Key.fn 30) [AV.agg [vi c1593, vi c1594, vi c1595, vi c1596, vi c1597, vi c1598, vi c1599, vi c1600, vi c1601, vu c1602], vi slot1603] [] =
    Option.bind
      (E cx (Key.fn 20) [AV.agg [vi c1593, vi c1594, vi c1595, vi c1596, vi c1597, vi c1598, vi c1599, vi c1600, vi c1601, vu c1602], vi slot1603]
        [])
      fun r1604 ↦
      Option.bind (ret1 r1604) fun v1605 ↦
        Option.bind (AV.tup? v1605) fun vs1606 ↦
          Option.bind (uncons? vs1606) fun p1607 ↦
            Option.bind (AV.int? Go.IntKind.i64 p1607.fst) fun n1608 ↦
              Option.bind (uncons? p1607.snd) fun p1609 ↦
                Option.bind (AV.int? Go.IntKind.i64 p1609.fst) fun n1610 ↦
                  Option.bind (nil? p1609.snd) fun x1611 ↦
                    bif n1610 != 0 then some (Out.ret (AV.tuple [vi 0, vi n1610]), [])
                    else
                      some
                        (Out.ret
                            (AV.tuple
                              [vi
                                  (if 0 > Go.IntKind.wrap Go.IntKind.i64 (Int.sub n1608 c1598) then 0
                                  else Go.IntKind.wrap Go.IntKind.i64 (Int.sub n1608 c1598)),
                                vi 0]),
                          []) := by
  intros
  exact (E_unfold _ _ _ _).trans (by kernel_rfl)


theorem f31 : ∀ (c1612 c1613 c1614 c1615 c1616 c1617 c1618 c1619 c1620 c1621 slot1622 : Int),
  E cx (Key.fn 31) [AV.agg [vi c1612, vi c1613, vi c1614, vi c1615, vi c1616, vi c1617, vi c1618, vi c1619, vi c1620, vu c1621], vi slot1622] [] =
    Option.bind
      (E cx (Key.fn 21) [AV.agg [vi c1612, vi c1613, vi c1614, vi c1615, vi c1616, vi c1617, vi c1618, vi c1619, vi c1620, vu c1621], vi slot1622]
        [])
      fun r1623 ↦
      Option.bind (ret1 r1623) fun v1624 ↦
        Option.bind (AV.tup? v1624) fun vs1625 ↦
          Option.bind (uncons? vs1625) fun p1626 ↦
            Option.bind (AV.int? Go.IntKind.i64 p1626.fst) fun n1627 ↦
              Option.bind (uncons? p1626.snd) fun p1628 ↦
                Option.bind (AV.int? Go.IntKind.i64 p1628.fst) fun n1629 ↦
                  Option.bind (nil? p1628.snd) fun x1630 ↦
                    bif n1629 != 0 then some (Out.ret (AV.tuple [vi 0, vi n1629]), [])
                    else
                      some
                        (Out.ret
                            (AV.tuple
                              [vi
                                  (if 0 > Go.IntKind.wrap Go.IntKind.i64 (Int.sub n1627 c1617) then 0
                                  else Go.IntKind.wrap Go.IntKind.i64 (Int.sub n1627 c1617)),
                                vi 0]),
                          []) := by
  intros
  exact (E_unfold _ _ _ _).trans (by kernel_rfl)


theorem f32 : ∀ (c1631 c1632 c1633 c1634 c1635 c1636 c1637 c1638 c1639 c1640 slot1641 : Int),
  E cx (Key.fn 32) [AV.agg [vi c1631, vi c1632, vi c1633, vi c1634, vi c1635, vi c1636, vi c1637, vi c1638, vi c1639, vu c1640], vi slot1641] [] =
    Option.bind
      (E cx (Key.fn 20) [AV.agg [vi c1631, vi c1632, vi c1633, vi c1634, vi c1635, vi c1636, vi c1637, vi c1638, vi c1639, vu c1640], vi slot1641]
        [])
      fun r1642 ↦
      Option.bind (ret1 r1642) fun v1643 ↦
        Option.bind (AV.tup? v1643) fun vs1644 ↦
          Option.bind (uncons? vs1644) fun p1645 ↦
            Option.bind (AV.int? Go.IntKind.i64 p1645.fst) fun n1646 ↦
              Option.bind (uncons? p1645.snd) fun p1647 ↦
                Option.bind (AV.int? Go.IntKind.i64 p1647.fst) fun n1648 ↦
                  Option.bind (nil? p1647.snd) fun x1649 ↦
                    bif n1648 != 0 then some (Out.ret (AV.tuple [vi 0, vi n1648]), [])
                    else
                      some
                        (Out.ret
                            (AV.tuple
                              [vi
                                  (if
                                      1099511627776 <
                                        Go.IntKind.wrap Go.IntKind.i64
                                          (Int.sub
                                            (Go.IntKind.wrap Go.IntKind.i64
                                              (Int.add
                                                (Go.IntKind.wrap Go.IntKind.i64
                                                  (Int.add n1646
                                                    (Go.IntKind.wrap Go.IntKind.i64 (Int.mul (Go.IntKind.wrap Go.IntKind.i64 (Int.add c1637 1)) c1635))))
                                                c1636))
                                            1) then
                                    1099511627776
                                  else
                                    Go.IntKind.wrap Go.IntKind.i64
                                      (Int.sub
                                        (Go.IntKind.wrap Go.IntKind.i64
                                          (Int.add
                                            (Go.IntKind.wrap Go.IntKind.i64
                                              (Int.add n1646
                                                (Go.IntKind.wrap Go.IntKind.i64 (Int.mul (Go.IntKind.wrap Go.IntKind.i64 (Int.add c1637 1)) c1635))))
                                            c1636))
                                        1)),
                                vi 0]),
                          []) := by
  intros
  exact (E_unfold _ _ _ _).trans (by kernel_rfl)


theorem f33 : ∀ (c1650 c1651 c1652 c1653 c1654 c1655 c1656 c1657 c1658 c1659 slot1660 : Int),
  E cx (Key.fn 33) [AV.agg [vi c1650, vi c1651, vi c1652, vi c1653, vi c1654, vi c1655, vi c1656, vi c1657, vi c1658, vu c1659], vi slot1660] [] =
    Option.bind
      (E cx (Key.fn 21) [AV.agg [vi c1650, vi c1651, vi c1652, vi c1653, vi c1654, vi c1655, vi c1656, vi c1657, vi c1658, vu c1659], vi slot1660]
        [])
      fun r1661 ↦
      Option.bind (ret1 r1661) fun v1662 ↦
        Option.bind (AV.tup? v1662) fun vs1663 ↦
          Option.bind (uncons? vs1663) fun p1664 ↦
            Option.bind (AV.int? Go.IntKind.i64 p1664.fst) fun n1665 ↦
              Option.bind (uncons? p1664.snd) fun p1666 ↦
                Option.bind (AV.int? Go.IntKind.i64 p1666.fst) fun n1667 ↦
                  Option.bind (nil? p1666.snd) fun x1668 ↦
                    bif n1667 != 0 then some (Out.ret (AV.tuple [vi 0, vi n1667]), [])
                    else
                      some
                        (Out.ret
                            (AV.tuple
                              [vi
                                  (if
                                      1099511627776 <
                                        Go.IntKind.wrap Go.IntKind.i64
                                          (Int.sub
                                            (Go.IntKind.wrap Go.IntKind.i64
                                              (Int.add
                                                (Go.IntKind.wrap Go.IntKind.i64
                                                  (Int.add n1665
                                                    (Go.IntKind.wrap Go.IntKind.i64 (Int.mul (Go.IntKind.wrap Go.IntKind.i64 (Int.add c1656 1)) c1654))))
                                                c1655))
                                            1) then
                                    1099511627776
                                  else
                                    Go.IntKind.wrap Go.IntKind.i64
                                      (Int.sub
                                        (Go.IntKind.wrap Go.IntKind.i64
                                          (Int.add
                                            (Go.IntKind.wrap Go.IntKind.i64
                                              (Int.add n1665
                                                (Go.IntKind.wrap Go.IntKind.i64 (Int.mul (Go.IntKind.wrap Go.IntKind.i64 (Int.add c1656 1)) c1654))))
                                            c1655))
                                        1)),
                                vi 0]),
                          []) := by
  intros
  exact (E_unfold _ _ _ _).trans (by kernel_rfl)


theorem f34 : ∀ (c1669 c1670 c1671 c1672 c1673 c1674 c1675 c1676 c1677 c1678 now1679 slot1680 : Int),
  E cx (Key.fn 34)
      [AV.agg [vi c1669, vi c1670, vi c1671, vi c1672, vi c1673, vi c1674, vi c1675, vi c1676, vi c1677, vu c1678], vi now1679, vi slot1680] [] =
    Option.bind (E cx (Key.fn 15) [AV.agg [vi c1669, vi c1670, vi c1671, vi c1672, vi c1673, vi c1674, vi c1675, vi c1676, vi c1677, vu c1678]] [])
      fun r1681 ↦
      Option.bind (ret1 r1681) fun v1682 ↦
        Option.bind (AV.bool? v1682) fun b1683 ↦
          bif b1683 then
            Option.bind (E cx (Key.fn 40) [vi now1679] []) fun r1684 ↦
              Option.bind (ret1 r1684) fun v1685 ↦
                Option.bind (AV.bool? v1685) fun b1686 ↦
                  bif b1686 then
                    bif decide (slot1680 < 0) then some (Out.ret (AV.tuple [vi 0, vi 1]), [])
                    else
                      Option.bind
                        (E cx (Key.fn 41)
                          [AV.agg [vi c1669, vi c1670, vi c1671, vi c1672, vi c1673, vi c1674, vi c1675, vi c1676, vi c1677, vu c1678], vi now1679, vi slot1680]
                          [])
                        fun r1687 ↦
                        Option.bind (ret1 r1687) fun v1688 ↦
                          Option.bind (AV.int? Go.IntKind.i64 v1688) fun n1689 ↦ some (Out.ret (AV.tuple [vi n1689, vi 0]), [])
                  else some (Out.ret (AV.tuple [vi 0, vi 1]), [])
          else some (Out.ret (AV.tuple [vi 0, vi 1]), []) := by
  intros
  exact (E_unfold _ _ _ _).trans (by kernel_rfl)


theorem f35 : ∀ (c1690 c1691 c1692 c1693 c1694 c1695 c1696 c1697 c1698 c1699 tick1700 slot1701 : Int),
  E cx (Key.fn 35)
      [AV.agg [vi c1690, vi c1691, vi c1692, vi c1693, vi c1694, vi c1695, vi c1696, vi c1697, vi c1698, vu c1699], vi tick1700, vi slot1701] [] =
    Option.bind (E cx (Key.fn 16) [AV.agg [vi c1690, vi c1691, vi c1692, vi c1693, vi c1694, vi c1695, vi c1696, vi c1697, vi c1698, vu c1699]] [])
      fun r1702 ↦
      Option.bind (ret1 r1702) fun v1703 ↦
        Option.bind (AV.bool? v1703) fun b1704 ↦
          bif b1704 then
            bif decide (tick1700 < 0) then some (Out.ret (AV.tuple [vi 0, vi 1]), [])
            else
              bif decide (tick1700 > 1099511627776) then some (Out.ret (AV.tuple [vi 0, vi 1]), [])
              else
                bif decide (slot1701 < 0) then some (Out.ret (AV.tuple [vi 0, vi 1]), [])
                else
                  Option.bind
                    (E cx (Key.fn 31)
                      [AV.agg [vi c1690, vi c1691, vi c1692, vi c1693, vi c1694, vi c1695, vi c1696, vi c1697, vi c1698, vu c1699], vi slot1701] [])
                    fun r1705 ↦
                    Option.bind (ret1 r1705) fun v1706 ↦
                      Option.bind (AV.tup? v1706) fun vs1707 ↦
                        Option.bind (uncons? vs1707) fun p1708 ↦
                          Option.bind (AV.int? Go.IntKind.i64 p1708.fst) fun n1709 ↦
                            Option.bind (uncons? p1708.snd) fun p1710 ↦
                              Option.bind (AV.int? Go.IntKind.i64 p1710.fst) fun n1711 ↦
                                Option.bind (nil? p1710.snd) fun x1712 ↦
                                  bif n1711 != 0 then some (Out.ret (AV.tuple [vi 0, vi 0]), [])
                                  else
                                    bif decide (tick1700 < n1709) then some (Out.ret (AV.tuple [vi 0, vi 0]), [])
                                    else
                                      Option.bind
                                        (E cx (Key.fn 33)
                                          [AV.agg [vi c1690, vi c1691, vi c1692, vi c1693, vi c1694, vi c1695, vi c1696, vi c1697, vi c1698, vu c1699],
                                            vi slot1701]
                                          [])
                                        fun r1713 ↦
                                        Option.bind (ret1 r1713) fun v1714 ↦
                                          Option.bind (AV.tup? v1714) fun vs1715 ↦
                                            Option.bind (uncons? vs1715) fun p1716 ↦
                                              Option.bind (AV.int? Go.IntKind.i64 p1716.fst) fun n1717 ↦
                                                Option.bind (uncons? p1716.snd) fun p1718 ↦
                                                  Option.bind (AV.int? Go.IntKind.i64 p1718.fst) fun n1719 ↦
                                                    Option.bind (nil? p1718.snd) fun x1720 ↦
                                                      bif decide (tick1700 > n1717) then some (Out.ret (AV.tuple [vi 2, vi 0]), [])
                                                      else some (Out.ret (AV.tuple [vi 1, vi 0]), [])
          else some (Out.ret (AV.tuple [vi 0, vi 1]), []) := by
  intros
  exact (E_unfold _ _ _ _).trans (by kernel_rfl)


theorem f36 : ∀ (c1721 c1722 c1723 c1724 c1725 c1726 c1727 c1728 c1729 c1730 now1731 : Int),
  E cx (Key.fn 36) [AV.agg [vi c1721, vi c1722, vi c1723, vi c1724, vi c1725, vi c1726, vi c1727, vi c1728, vi c1729, vu c1730], vi now1731] [] =
    Option.bind (E cx (Key.fn 15) [AV.agg [vi c1721, vi c1722, vi c1723, vi c1724, vi c1725, vi c1726, vi c1727, vi c1728, vi c1729, vu c1730]] [])
      fun r1732 ↦
      Option.bind (ret1 r1732) fun v1733 ↦
        Option.bind (AV.bool? v1733) fun b1734 ↦
          bif b1734 then
            Option.bind (E cx (Key.fn 40) [vi now1731] []) fun r1735 ↦
              Option.bind (ret1 r1735) fun v1736 ↦
                Option.bind (AV.bool? v1736) fun b1737 ↦
                  bif b1737 then
                    if c1725 = 0 then none
                    else
                      Option.bind
                        (E cx (Key.fn 42)
                          [vi
                              (Go.IntKind.wrap Go.IntKind.i64
                                (Int.sub (Go.IntKind.wrap Go.IntKind.i64 (Int.tdiv now1731 c1725))
                                  (if
                                      0 >
                                        Go.IntKind.wrap Go.IntKind.i64
                                          (Int.sub (Go.IntKind.wrap Go.IntKind.i64 (Int.sub (Go.IntKind.wrap Go.IntKind.i64 (Int.tdiv now1731 c1725)) c1727))
                                            2) then
                                    0
                                  else
                                    Go.IntKind.wrap Go.IntKind.i64
                                      (Int.sub (Go.IntKind.wrap Go.IntKind.i64 (Int.sub (Go.IntKind.wrap Go.IntKind.i64 (Int.tdiv now1731 c1725)) c1727)) 2)))),
                            AV.func (Go.Fn.func 43) []
                              [AV.rop [vi c1721, vi c1722, vi c1723, vi c1724, vi c1725, vi c1726, vi c1727, vi c1728, vi c1729, vu c1730], AV.rop [vi now1731],
                                AV.rop
                                  [vi
                                      (if
                                          0 >
                                            Go.IntKind.wrap Go.IntKind.i64
                                              (Int.sub
                                                (Go.IntKind.wrap Go.IntKind.i64 (Int.sub (Go.IntKind.wrap Go.IntKind.i64 (Int.tdiv now1731 c1725)) c1727))
                                                2) then
                                        0
                                      else
                                        Go.IntKind.wrap Go.IntKind.i64
                                          (Int.sub (Go.IntKind.wrap Go.IntKind.i64 (Int.sub (Go.IntKind.wrap Go.IntKind.i64 (Int.tdiv now1731 c1725)) c1727))
                                            2))]]]
                          [])
                        fun r1738 ↦
                        Option.bind (ret1 r1738) fun v1739 ↦
                          Option.bind (AV.int? Go.IntKind.i64 v1739) fun n1740 ↦
                            Option.bind
                              (E cx (Key.fn 41)
                                [AV.agg [vi c1721, vi c1722, vi c1723, vi c1724, vi c1725, vi c1726, vi c1727, vi c1728, vi c1729, vu c1730], vi now1731,
                                  vi (Go.IntKind.wrap Go.IntKind.i64 (Int.add (Go.IntKind.wrap Go.IntKind.i64 (Int.tdiv now1731 c1725)) 1))]
                                [])
                              fun r1741 ↦
                              Option.bind (ret1 r1741) fun v1742 ↦
                                Option.bind (AV.int? Go.IntKind.i64 v1742) fun n1743 ↦
                                  bif decide (n1743 = 1) then
                                    some
                                      (Out.ret
                                          (AV.tuple
                                            [vi
                                                (Go.IntKind.wrap Go.IntKind.i64
                                                  (Int.add
                                                    (if
                                                        0 >
                                                          Go.IntKind.wrap Go.IntKind.i64
                                                            (Int.sub
                                                              (Go.IntKind.wrap Go.IntKind.i64
                                                                (Int.sub (Go.IntKind.wrap Go.IntKind.i64 (Int.tdiv now1731 c1725)) c1727))
                                                              2) then
                                                      0
                                                    else
                                                      Go.IntKind.wrap Go.IntKind.i64
                                                        (Int.sub
                                                          (Go.IntKind.wrap Go.IntKind.i64
                                                            (Int.sub (Go.IntKind.wrap Go.IntKind.i64 (Int.tdiv now1731 c1725)) c1727))
                                                          2))
                                                    n1740)),
                                              vi (Go.IntKind.wrap Go.IntKind.i64 (Int.add (Go.IntKind.wrap Go.IntKind.i64 (Int.tdiv now1731 c1725)) 1)), vi 0]),
                                        [])
                                  else
                                    some
                                      (Out.ret
                                          (AV.tuple
                                            [vi
                                                (Go.IntKind.wrap Go.IntKind.i64
                                                  (Int.add
                                                    (if
                                                        0 >
                                                          Go.IntKind.wrap Go.IntKind.i64
                                                            (Int.sub
                                                              (Go.IntKind.wrap Go.IntKind.i64
                                                                (Int.sub (Go.IntKind.wrap Go.IntKind.i64 (Int.tdiv now1731 c1725)) c1727))
                                                              2) then
                                                      0
                                                    else
                                                      Go.IntKind.wrap Go.IntKind.i64
                                                        (Int.sub
                                                          (Go.IntKind.wrap Go.IntKind.i64
                                                            (Int.sub (Go.IntKind.wrap Go.IntKind.i64 (Int.tdiv now1731 c1725)) c1727))
                                                          2))
                                                    n1740)),
                                              vi (Go.IntKind.wrap Go.IntKind.i64 (Int.tdiv now1731 c1725)), vi 0]),
                                        [])
                  else some (Out.ret (AV.tuple [vi 0, vi 0, vi 1]), [])
          else some (Out.ret (AV.tuple [vi 0, vi 0, vi 1]), []) := by
  intros
  exact (E_unfold _ _ _ _).trans (by kernel_rfl)


theorem f37 : ∀ (c1744 c1745 c1746 c1747 c1748 c1749 c1750 c1751 c1752 c1753 tick1754 : Int),
  E cx (Key.fn 37) [AV.agg [vi c1744, vi c1745, vi c1746, vi c1747, vi c1748, vi c1749, vi c1750, vi c1751, vi c1752, vu c1753], vi tick1754] [] =
    Option.bind (E cx (Key.fn 16) [AV.agg [vi c1744, vi c1745, vi c1746, vi c1747, vi c1748, vi c1749, vi c1750, vi c1751, vi c1752, vu c1753]] [])
      fun r1755 ↦
      Option.bind (ret1 r1755) fun v1756 ↦
        Option.bind (AV.bool? v1756) fun b1757 ↦
          bif b1757 then
            bif decide (tick1754 < 0) then some (Out.ret (AV.tuple [vi 0, vi 0, vi 1]), [])
            else
              bif decide (tick1754 > 1099511627776) then some (Out.ret (AV.tuple [vi 0, vi 0, vi 1]), [])
              else
                if c1748 = 0 then none
                else
                  Option.bind
                    (E cx (Key.loop 37 [true, true, true, true, true, false, false])
                      [vi (Go.IntKind.wrap Go.IntKind.i64 (Int.tdiv tick1754 c1748)), vi tick1754, AV.ptr 0 0 0 0,
                        vi (Go.IntKind.wrap Go.IntKind.i64 (Int.tdiv tick1754 c1748))]
                      [{ k := OK.box, t := 24,
                          sz := List.length [vi c1744, vi c1745, vi c1746, vi c1747, vi c1748, vi c1749, vi c1750, vi c1751, vi c1752, vu c1753], ver := 0,
                          es := [[vi c1744, vi c1745, vi c1746, vi c1747, vi c1748, vi c1749, vi c1750, vi c1751, vi c1752, vu c1753]] }])
                    fun r1758 ↦
                    Option.bind (asJump r1758) fun j1759 ↦
                      bif JX.is j1759.fst (JX.exit 0) then
                        Option.bind (uncons? j1759.snd.fst) fun p1760 ↦
                          Option.bind (AV.int? Go.IntKind.i64 p1760.fst) fun n1761 ↦
                            Option.bind (nil? p1760.snd) fun x1762 ↦
                              Option.bind (uncons? j1759.snd.snd) fun p1763 ↦
                                Option.bind
                                  (obIs
                                    { k := OK.box, t := 24,
                                      sz := List.length [vi c1744, vi c1745, vi c1746, vi c1747, vi c1748, vi c1749, vi c1750, vi c1751, vi c1752, vu c1753],
                                      ver := 0, es := [[vi c1744, vi c1745, vi c1746, vi c1747, vi c1748, vi c1749, vi c1750, vi c1751, vi c1752, vu c1753]] }
                                    p1763.fst)
                                  fun x1764 ↦
                                  Option.bind (uncons? p1763.fst.es) fun p1765 ↦
                                    Option.bind (nil? p1765.snd) fun x1766 ↦
                                      Option.bind (uncons? p1765.fst) fun p1767 ↦
                                        Option.bind (AV.int? Go.IntKind.i64 p1767.fst) fun n1768 ↦
                                          Option.bind (uncons? p1767.snd) fun p1769 ↦
                                            Option.bind (AV.int? Go.IntKind.i64 p1769.fst) fun n1770 ↦
                                              Option.bind (uncons? p1769.snd) fun p1771 ↦
                                                Option.bind (AV.int? Go.IntKind.i64 p1771.fst) fun n1772 ↦
                                                  Option.bind (uncons? p1771.snd) fun p1773 ↦
                                                    Option.bind (AV.int? Go.IntKind.i64 p1773.fst) fun n1774 ↦
                                                      Option.bind (uncons? p1773.snd) fun p1775 ↦
                                                        Option.bind (AV.int? Go.IntKind.i64 p1775.fst) fun n1776 ↦
                                                          Option.bind (uncons? p1775.snd) fun p1777 ↦
                                                            Option.bind (AV.int? Go.IntKind.i64 p1777.fst) fun n1778 ↦
                                                              Option.bind (uncons? p1777.snd) fun p1779 ↦
                                                                Option.bind (AV.int? Go.IntKind.i64 p1779.fst) fun n1780 ↦
                                                                  Option.bind (uncons? p1779.snd) fun p1781 ↦
                                                                    Option.bind (AV.int? Go.IntKind.i64 p1781.fst) fun n1782 ↦
                                                                      Option.bind (uncons? p1781.snd) fun p1783 ↦
                                                                        Option.bind (AV.int? Go.IntKind.i64 p1783.fst) fun n1784 ↦
                                                                          Option.bind (uncons? p1783.snd) fun p1785 ↦
                                                                            Option.bind (AV.int? Go.IntKind.u64 p1785.fst) fun n1786 ↦
                                                                              Option.bind (nil? p1785.snd) fun x1787 ↦
                                                                                Option.bind (chk p1763.fst.ver 0) fun x1788 ↦
                                                                                  Option.bind (nil? p1763.snd) fun x1789 ↦
                                                                                    Option.bind
                                                                                      (E cx
                                                                                        (Key.loop 37 [true, true, true, true, true, true, false])
                                                                                        [vi (Go.IntKind.wrap Go.IntKind.i64 (Int.tdiv tick1754 c1748)),
                                                                                          vi tick1754, AV.ptr 0 0 0 0, vi n1761]
                                                                                        [{ k := OK.box, t := 24,
                                                                                            sz :=
                                                                                              List.length
                                                                                                [vi c1744, vi c1745, vi c1746, vi c1747, vi c1748, vi c1749,
                                                                                                  vi c1750, vi c1751, vi c1752, vu c1753],
                                                                                            ver := 0,
                                                                                            es :=
                                                                                              [[vi n1768, vi n1770, vi n1772, vi n1774, vi n1776, vi n1778,
                                                                                                  vi n1780, vi n1782, vi n1784, vu n1786]] }])
                                                                                      fun r1790 ↦
                                                                                      Option.bind (asJump r1790) fun j1791 ↦
                                                                                        bif JX.is j1791.fst JX.ret then
                                                                                          Option.bind (uncons? j1791.snd.fst) fun p1792 ↦
                                                                                            Option.bind (AV.int? Go.IntKind.i64 p1792.fst) fun n1793 ↦
                                                                                              Option.bind (nil? p1792.snd) fun x1794 ↦
                                                                                                Option.bind (uncons? j1791.snd.snd) fun p1795 ↦
                                                                                                  Option.bind
                                                                                                    (obIs
                                                                                                      { k := OK.box, t := 24,
                                                                                                        sz :=
                                                                                                          List.length
                                                                                                            [vi c1744, vi c1745, vi c1746, vi c1747, vi c1748,
                                                                                                              vi c1749, vi c1750, vi c1751, vi c1752, vu c1753],
                                                                                                        ver := 0,
                                                                                                        es :=
                                                                                                          [[vi n1768, vi n1770, vi n1772, vi n1774, vi n1776,
                                                                                                              vi n1778, vi n1780, vi n1782, vi n1784,
                                                                                                              vu n1786]] }
                                                                                                      p1795.fst)
                                                                                                    fun x1796 ↦
                                                                                                    Option.bind (uncons? p1795.fst.es) fun p1797 ↦
                                                                                                      Option.bind (nil? p1797.snd) fun x1798 ↦
                                                                                                        Option.bind (uncons? p1797.fst) fun p1799 ↦
                                                                                                          Option.bind (AV.int? Go.IntKind.i64 p1799.fst)
                                                                                                            fun n1800 ↦
                                                                                                            Option.bind (uncons? p1799.snd) fun p1801 ↦
                                                                                                              Option.bind (AV.int? Go.IntKind.i64 p1801.fst)
                                                                                                                fun n1802 ↦
                                                                                                                Option.bind (uncons? p1801.snd) fun p1803 ↦
                                                                                                                  Option.bind (AV.int? Go.IntKind.i64 p1803.fst)
                                                                                                                    fun n1804 ↦
                                                                                                                    Option.bind (uncons? p1803.snd) fun p1805 ↦
                                                                                                                      Option.bind
                                                                                                                        (AV.int? Go.IntKind.i64 p1805.fst)
                                                                                                                        fun n1806 ↦
                                                                                                                        Option.bind (uncons? p1805.snd)
                                                                                                                          fun p1807 ↦
                                                                                                                          Option.bind
                                                                                                                            (AV.int? Go.IntKind.i64 p1807.fst)
                                                                                                                            fun n1808 ↦
                                                                                                                            Option.bind (uncons? p1807.snd)
                                                                                                                              fun p1809 ↦
                                                                                                                              Option.bind
                                                                                                                                (AV.int? Go.IntKind.i64
                                                                                                                                  p1809.fst)
                                                                                                                                fun n1810 ↦
                                                                                                                                Option.bind (uncons? p1809.snd)
                                                                                                                                  fun p1811 ↦
                                                                                                                                  Option.bind
                                                                                                                                    (AV.int? Go.IntKind.i64
                                                                                                                                      p1811.fst)
                                                                                                                                    fun n1812 ↦
                                                                                                                                    Option.bind
                                                                                                                                      (uncons? p1811.snd)
                                                                                                                                      fun p1813 ↦
                                                                                                                                      Option.bind
                                                                                                                                        (AV.int? Go.IntKind.i64
                                                                                                                                          p1813.fst)
                                                                                                                                        fun n1814 ↦
                                                                                                                                        Option.bind
                                                                                                                                          (uncons? p1813.snd)
                                                                                                                                          fun p1815 ↦
                                                                                                                                          Option.bind
                                                                                                                                            (AV.int?
                                                                                                                                              Go.IntKind.i64
                                                                                                                                              p1815.fst)
                                                                                                                                            fun n1816 ↦
                                                                                                                                            Option.bind
                                                                                                                                              (uncons?
                                                                                                                                                p1815.snd)
                                                                                                                                              fun p1817 ↦
                                                                                                                                              Option.bind
                                                                                                                                                (AV.int?
                                                                                                                                                  Go.IntKind.u64
                                                                                                                                                  p1817.fst)
                                                                                                                                                fun n1818 ↦
                                                                                                                                                Option.bind
                                                                                                                                                  (nil?
                                                                                                                                                    p1817.snd)
                                                                                                                                                  fun x1819 ↦
                                                                                                                                                  Option.bind
                                                                                                                                                    (chk
                                                                                                                                                      p1795.fst.ver
                                                                                                                                                      0)
                                                                                                                                                    fun x1820 ↦
                                                                                                                                                    Option.bind
                                                                                                                                                      (nil?
                                                                                                                                                        p1795.snd)
                                                                                                                                                      fun
                                                                                                                                                        x1821 ↦
                                                                                                                                                      none
                                                                                        else none
                      else none
          else some (Out.ret (AV.tuple [vi 0, vi 0, vi 1]), []) := by
  intros
  exact (E_unfold _ _ _ _).trans (by kernel_rfl)

theorem f37_l0 : ∀ (x1822 x1823 x1824 x1825 x1826 x1827 x1828 x1829 x1830 x1831 x1832 x1833 x1834 : Int),
  E cx (Key.loop 37 [true, true, true, true, true, false, false]) [vi x1822, vi x1823, AV.ptr 0 0 0 0, vi x1824]
      [{ k := OK.box, t := 24, sz := 10, ver := 0,
          es := [[vi x1825, vi x1826, vi x1827, vi x1828, vi x1829, vi x1830, vi x1831, vi x1832, vi x1833, vu x1834]] }] =
    bif decide (x1822 > 0) then
      Option.bind
        (E cx (Key.fn 35)
          [AV.agg [vi x1825, vi x1826, vi x1827, vi x1828, vi x1829, vi x1830, vi x1831, vi x1832, vi x1833, vu x1834], vi x1823,
            vi (Go.IntKind.wrap Go.IntKind.i64 (Int.sub x1822 1))]
          [])
        fun r1835 ↦
        Option.bind (ret1 r1835) fun v1836 ↦
          Option.bind (AV.tup? v1836) fun vs1837 ↦
            Option.bind (uncons? vs1837) fun p1838 ↦
              Option.bind (AV.int? Go.IntKind.i64 p1838.fst) fun n1839 ↦
                Option.bind (uncons? p1838.snd) fun p1840 ↦
                  Option.bind (AV.int? Go.IntKind.i64 p1840.fst) fun n1841 ↦
                    Option.bind (nil? p1840.snd) fun x1842 ↦
                      bif n1839 != 1 then
                        some
                          (Out.jump (JX.exit 0) [vi x1822],
                            [{ k := OK.box, t := 24, sz := 10, ver := 0,
                                es := [[vi x1825, vi x1826, vi x1827, vi x1828, vi x1829, vi x1830, vi x1831, vi x1832, vi x1833, vu x1834]] }])
                      else
                        E cx (Key.loop 37 [true, true, true, true, true, false, false])
                          [vi (Go.IntKind.wrap Go.IntKind.i64 (Int.sub x1822 1)), vi x1823, AV.ptr 0 0 0 0, vi x1824]
                          [{ k := OK.box, t := 24, sz := 10, ver := 0,
                              es := [[vi x1825, vi x1826, vi x1827, vi x1828, vi x1829, vi x1830, vi x1831, vi x1832, vi x1833, vu x1834]] }]
    else
      some
        (Out.jump (JX.exit 0) [vi x1822],
          [{ k := OK.box, t := 24, sz := 10, ver := 0,
              es := [[vi x1825, vi x1826, vi x1827, vi x1828, vi x1829, vi x1830, vi x1831, vi x1832, vi x1833, vu x1834]] }]) := by
  intros
  exact (E_unfold _ _ _ _).trans (by kernel_rfl)

theorem f37_l1 : ∀ (x1843 x1844 x1845 x1846 x1847 x1848 x1849 x1850 x1851 x1852 x1853 x1854 x1855 : Int),
  E cx (Key.loop 37 [true, true, true, true, true, true, false]) [vi x1843, vi x1844, AV.ptr 0 0 0 0, vi x1845]
      [{ k := OK.box, t := 24, sz := 10, ver := 0,
          es := [[vi x1846, vi x1847, vi x1848, vi x1849, vi x1850, vi x1851, vi x1852, vi x1853, vi x1854, vu x1855]] }] =
    Option.bind
      (E cx (Key.fn 35)
        [AV.agg [vi x1846, vi x1847, vi x1848, vi x1849, vi x1850, vi x1851, vi x1852, vi x1853, vi x1854, vu x1855], vi x1844,
          vi (Go.IntKind.wrap Go.IntKind.i64 (Int.add x1843 1))]
        [])
      fun r1856 ↦
      Option.bind (ret1 r1856) fun v1857 ↦
        Option.bind (AV.tup? v1857) fun vs1858 ↦
          Option.bind (uncons? vs1858) fun p1859 ↦
            Option.bind (AV.int? Go.IntKind.i64 p1859.fst) fun n1860 ↦
              Option.bind (uncons? p1859.snd) fun p1861 ↦
                Option.bind (AV.int? Go.IntKind.i64 p1861.fst) fun n1862 ↦
                  Option.bind (nil? p1861.snd) fun x1863 ↦
                    bif n1860 != 1 then
                      some
                        (Out.jump JX.ret [vi x1843],
                          [{ k := OK.box, t := 24, sz := 10, ver := 0,
                              es := [[vi x1846, vi x1847, vi x1848, vi x1849, vi x1850, vi x1851, vi x1852, vi x1853, vi x1854, vu x1855]] }])
                    else
                      E cx (Key.loop 37 [true, true, true, true, true, true, false])
                        [vi (Go.IntKind.wrap Go.IntKind.i64 (Int.add x1843 1)), vi x1844, AV.ptr 0 0 0 0, vi x1845]
                        [{ k := OK.box, t := 24, sz := 10, ver := 0,
                            es := [[vi x1846, vi x1847, vi x1848, vi x1849, vi x1850, vi x1851, vi x1852, vi x1853, vi x1854, vu x1855]] }] := by
  intros
  exact (E_unfold _ _ _ _).trans (by kernel_rfl)


theorem f38 : ∀ (n1864 from1865 to1866 : Int),
  E cx (Key.fn 38) [vi n1864, vi from1865, vi to1866] [] =
    bif decide (n1864 ≥ from1865) then bif decide (n1864 ≤ to1866) then some (Out.ret (vbool true), []) else some (Out.ret (vbool false), [])
    else some (Out.ret (vbool false), []) := by
  intros
  exact (E_unfold _ _ _ _).trans (by kernel_rfl)


theorem f39 : ∀ (n1867 : Int),
  E cx (Key.fn 39) [vi n1867] [] =
    bif decide (n1867 ≥ 0) then bif decide (n1867 ≤ 1099511627776) then some (Out.ret (vbool true), []) else some (Out.ret (vbool false), [])
    else some (Out.ret (vbool false), []) := by
  intros
  exact (E_unfold _ _ _ _).trans (by kernel_rfl)


theorem f40 : ∀ (n1868 : Int),
  E cx (Key.fn 40) [vi n1868] [] =
    bif decide (n1868 ≥ 0) then bif decide (n1868 ≤ 1099511627776) then some (Out.ret (vbool true), []) else some (Out.ret (vbool false), [])
    else some (Out.ret (vbool false), []) := by
  intros
  exact (E_unfold _ _ _ _).trans (by kernel_rfl)


theorem f41 : ∀ (c1869 c1870 c1871 c1872 c1873 c1874 c1875 c1876 c1877 c1878 tick1879 slot1880 : Int),
  E cx (Key.fn 41)
      [AV.agg [vi c1869, vi c1870, vi c1871, vi c1872, vi c1873, vi c1874, vi c1875, vi c1876, vi c1877, vu c1878], vi tick1879, vi slot1880] [] =
    Option.bind
      (E cx (Key.fn 30) [AV.agg [vi c1869, vi c1870, vi c1871, vi c1872, vi c1873, vi c1874, vi c1875, vi c1876, vi c1877, vu c1878], vi slot1880]
        [])
      fun r1881 ↦
      Option.bind (ret1 r1881) fun v1882 ↦
        Option.bind (AV.tup? v1882) fun vs1883 ↦
          Option.bind (uncons? vs1883) fun p1884 ↦
            Option.bind (AV.int? Go.IntKind.i64 p1884.fst) fun n1885 ↦
              Option.bind (uncons? p1884.snd) fun p1886 ↦
                Option.bind (AV.int? Go.IntKind.i64 p1886.fst) fun n1887 ↦
                  Option.bind (nil? p1886.snd) fun x1888 ↦
                    bif n1887 != 0 then some (Out.ret (vi 0), [])
                    else
                      bif decide (tick1879 < n1885) then some (Out.ret (vi 0), [])
                      else
                        Option.bind
                          (E cx (Key.fn 32)
                            [AV.agg [vi c1869, vi c1870, vi c1871, vi c1872, vi c1873, vi c1874, vi c1875, vi c1876, vi c1877, vu c1878], vi slot1880] [])
                          fun r1889 ↦
                          Option.bind (ret1 r1889) fun v1890 ↦
                            Option.bind (AV.tup? v1890) fun vs1891 ↦
                              Option.bind (uncons? vs1891) fun p1892 ↦
                                Option.bind (AV.int? Go.IntKind.i64 p1892.fst) fun n1893 ↦
                                  Option.bind (uncons? p1892.snd) fun p1894 ↦
                                    Option.bind (AV.int? Go.IntKind.i64 p1894.fst) fun n1895 ↦
                                      Option.bind (nil? p1894.snd) fun x1896 ↦
                                        bif decide (tick1879 > n1893) then some (Out.ret (vi 2), []) else some (Out.ret (vi 1), []) := by
  intros
  exact (E_unfold _ _ _ _).trans (by kernel_rfl)


theorem f42 : ∀ (n1897 : Int) (f1898 : AV),
  E cx (Key.fn 42) [vi n1897, f1898] [] =
    Option.bind (E cx (Key.loop 42 [true, true, false, false]) [vi 0, vi n1897, AV.wk f1898] []) fun r1899 ↦
      Option.bind (asJump r1899) fun j1900 ↦
        bif JX.is j1900.fst (JX.exit 0) then
          Option.bind (uncons? j1900.snd.fst) fun p1901 ↦
            Option.bind (AV.int? Go.IntKind.i64 p1901.fst) fun n1902 ↦
              Option.bind (uncons? p1901.snd) fun p1903 ↦
                Option.bind (AV.int? Go.IntKind.i64 p1903.fst) fun n1904 ↦
                  Option.bind (nil? p1903.snd) fun x1905 ↦ Option.bind (nil? j1900.snd.snd) fun x1906 ↦ some (Out.ret (vi n1902), [])
        else none := by
  intros
  exact (E_unfold _ _ _ _).trans (by kernel_rfl)

theorem f42_l0 : ∀ (x1907 x1908 : Int) (a1909 : AV),
  E cx (Key.loop 42 [true, true, false, false]) [vi x1907, vi x1908, a1909] [] =
    bif decide (x1907 < x1908) then
      Option.bind (viewArg [] a1909) fun g1910 ↦
        Option.bind
          (AV.call?
            [vi
                (Go.IntKind.wrap Go.IntKind.i64
                  (ishr Go.IntKind.u64 (Go.IntKind.wrap Go.IntKind.u64 (Go.IntKind.wrap Go.IntKind.i64 (Int.add x1907 x1908))) 1))]
            g1910)
          fun p1911 ↦
          Option.bind (E cx (Key.fn p1911.fst) p1911.snd []) fun r1912 ↦
            Option.bind (ret1 r1912) fun v1913 ↦
              Option.bind (AV.bool? v1913) fun b1914 ↦
                bif b1914 then
                  E cx (Key.loop 42 [true, true, false, false])
                    [vi x1907,
                      vi
                        (Go.IntKind.wrap Go.IntKind.i64
                          (ishr Go.IntKind.u64 (Go.IntKind.wrap Go.IntKind.u64 (Go.IntKind.wrap Go.IntKind.i64 (Int.add x1907 x1908))) 1)),
                      AV.wk a1909]
                    []
                else
                  E cx (Key.loop 42 [true, true, false, false])
                    [vi
                        (Go.IntKind.wrap Go.IntKind.i64
                          (Int.add
                            (Go.IntKind.wrap Go.IntKind.i64
                              (ishr Go.IntKind.u64 (Go.IntKind.wrap Go.IntKind.u64 (Go.IntKind.wrap Go.IntKind.i64 (Int.add x1907 x1908))) 1))
                            1)),
                      vi x1908, AV.wk a1909]
                    []
    else some (Out.jump (JX.exit 0) [vi x1907, vi x1908], []) := by
  intros
  exact (E_unfold _ _ _ _).trans (by kernel_rfl)


theorem f43 : ∀ (i1915 x1916 x1917 x1918 x1919 x1920 x1921 x1922 x1923 x1924 x1925 x1926 x1927 : Int),
  E cx (Key.fn 43)
      [vi i1915, AV.rop [vi x1916, vi x1917, vi x1918, vi x1919, vi x1920, vi x1921, vi x1922, vi x1923, vi x1924, vu x1925], AV.rop [vi x1926],
        AV.rop [vi x1927]]
      [] =
    Option.bind
      (E cx (Key.fn 41)
        [AV.agg [vi x1916, vi x1917, vi x1918, vi x1919, vi x1920, vi x1921, vi x1922, vi x1923, vi x1924, vu x1925], vi x1926,
          vi (Go.IntKind.wrap Go.IntKind.i64 (Int.add x1927 i1915))]
        [])
      fun r1928 ↦
      Option.bind (ret1 r1928) fun v1929 ↦
        Option.bind (AV.int? Go.IntKind.i64 v1929) fun n1930 ↦ bif decide (n1930 = 1) then some (Out.ret (vbool true), []) else some (Out.ret (vbool false), []) := by
  intros
  exact (E_unfold _ _ _ _).trans (by kernel_rfl)

end Go.Proofs.Av
