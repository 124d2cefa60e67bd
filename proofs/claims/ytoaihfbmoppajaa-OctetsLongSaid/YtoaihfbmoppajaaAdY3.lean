/- A law's tree. -/
import Derived.Test.YtoaihfbmoppajaaAdYt
set_option maxRecDepth 100000
namespace Go.Proofs.Av
open Go
def q3_0 (n87 : Int) := Int.toNat (IntKind.wrap IntKind.i64 (Int.add n87 1))
def q3_1 (s81 : ByteArray) (n87 : Int) := ByteArray.extract s81 (q3_0 n87) (ByteArray.size s81)
def q3_2 (s81 : ByteArray) (n87 : Int) (c7 : Int) := ByteArray.append (ByteArray.extract s81 0 (Int.toNat n87)) (Go.strOfNums [c7])
def q3_3 (s81 : ByteArray) (n87 : Int) (c7 : Int) := ByteArray.append (q3_2 s81 n87 c7) (q3_1 s81 n87)
def q3_4 (s2 : ByteArray) := if 200 < ((ByteArray.size s2) : Int) then 200 else ((ByteArray.size s2) : Int)
def q3_5 (s2 : ByteArray) := ByteArray.extract s2 0 (Int.toNat (q3_4 s2))
def q3_6 (s81 : ByteArray) (s2 : ByteArray) := Nat.add (ByteArray.size s81) (ByteArray.size (q3_5 s2))
def q3_7 (n13 : Int) (s2 : ByteArray) := if n13 < ((ByteArray.size (q3_5 s2)) : Int) then n13 else ((ByteArray.size (q3_5 s2)) : Int)
def q3_8 (s2 : ByteArray) (n13 : Int) := ByteArray.extract (q3_5 s2) 0 (Int.toNat (q3_7 n13 s2))
theorem f3 : ∀ (w0 n1 : Int) (s2 : ByteArray) (raw3 : List (List AV)) (fixed4 many5 at6 c7 : Int), E cx (Key.fn 3) [vu w0, vi n1, vs s2, AV.list 0 1 raw3, vi fixed4, vi many5, vi at6, vb c7] [] = if 0 ≤ if 200 < ((ByteArray.size s2) : Int) then
 200 else ((ByteArray.size s2) : Int) then
 if (q3_4 s2) ≤ ((ByteArray.size s2) : Int) then
 Option.bind (E cx (Key.fn 14) [AV.list 0 1 raw3] []) fun r8 ↦
 Option.bind (ret1 r8) fun v9 ↦
 Option.bind (AV.list? 1 v9) fun es10 ↦
 Option.bind (E cx (Key.fn 15) [vi fixed4, vi 30] []) fun r11 ↦
 Option.bind (ret1 r11) fun v12 ↦
 Option.bind (AV.int? IntKind.i64 v12) fun n13 ↦
 Option.bind (E cx (Key.fn 15) [vi n1, vi 10] []) fun r14 ↦
 Option.bind (ret1 r14) fun v15 ↦
 Option.bind (AV.int? IntKind.i64 v15) fun n16 ↦
 Option.bind (E cx (Key.fn 16) [vs (q3_5 s2), vi n1] []) fun r17 ↦
 Option.bind (ret1 r17) fun v18 ↦
 Option.bind (AV.tup? v18) fun vs19 ↦
 Option.bind (uncons? vs19) fun p20 ↦
 Option.bind (AV.int? IntKind.u64 p20.fst) fun n21 ↦
 Option.bind (uncons? p20.snd) fun p22 ↦
 Option.bind (AV.str? p22.fst) fun s23 ↦
 Option.bind (uncons? p22.snd) fun p24 ↦
 Option.bind (AV.int? IntKind.i64 p24.fst) fun n25 ↦
 Option.bind (nil? p24.snd) fun _ ↦
 Option.bind (E cx (Key.fn 17) [vs (q3_5 s2), vi n1] []) fun r27 ↦
 Option.bind (ret1 r27) fun v28 ↦
 Option.bind (AV.tup? v28) fun vs29 ↦
 Option.bind (uncons? vs29) fun p30 ↦
 Option.bind (AV.int? IntKind.u64 p30.fst) fun n31 ↦
 Option.bind (uncons? p30.snd) fun p32 ↦
 Option.bind (AV.str? p32.fst) fun s33 ↦
 Option.bind (uncons? p32.snd) fun p34 ↦
 Option.bind (AV.int? IntKind.i64 p34.fst) fun n35 ↦
 Option.bind (nil? p34.snd) fun _ ↦
 Option.bind (E cx (Key.fn 18) [vu w0, vi n1] []) fun r37 ↦
 Option.bind (ret1 r37) fun v38 ↦
 Option.bind (AV.str? v38) fun s39 ↦
 Option.bind (E cx (Key.fn 19) [vu w0, vi n1] []) fun r40 ↦
 Option.bind (ret1 r40) fun v41 ↦
 Option.bind (AV.str? v41) fun s42 ↦
 bif !List.beq (ByteArray.toList s39) (ByteArray.toList s42) then
 some (Out.ret (vbool false), []) else
 bif n21 != n31 then
 some (Out.ret (vbool false), []) else
 bif !List.beq (ByteArray.toList s23) (ByteArray.toList s33) then
 some (Out.ret (vbool false), []) else
 bif n25 != n35 then
 some (Out.ret (vbool false), []) else Option.bind (E cx (Key.fn 16) [vs (q3_5 s2), vi n16] []) fun r43 ↦
 Option.bind (ret1 r43) fun v44 ↦
 Option.bind (AV.tup? v44) fun vs45 ↦
 Option.bind (uncons? vs45) fun p46 ↦
 Option.bind (AV.int? IntKind.u64 p46.fst) fun n47 ↦
 Option.bind (uncons? p46.snd) fun p48 ↦
 Option.bind (AV.str? p48.fst) fun s49 ↦
 Option.bind (uncons? p48.snd) fun p50 ↦
 Option.bind (AV.int? IntKind.i64 p50.fst) fun n51 ↦
 Option.bind (nil? p50.snd) fun _ ↦
 Option.bind (E cx (Key.fn 17) [vs (q3_5 s2), vi n16] []) fun r53 ↦
 Option.bind (ret1 r53) fun v54 ↦
 Option.bind (AV.tup? v54) fun vs55 ↦
 Option.bind (uncons? vs55) fun p56 ↦
 Option.bind (AV.int? IntKind.u64 p56.fst) fun n57 ↦
 Option.bind (uncons? p56.snd) fun p58 ↦
 Option.bind (AV.str? p58.fst) fun s59 ↦
 Option.bind (uncons? p58.snd) fun p60 ↦
 Option.bind (AV.int? IntKind.i64 p60.fst) fun n61 ↦
 Option.bind (nil? p60.snd) fun _ ↦
 Option.bind (E cx (Key.fn 18) [vu w0, vi n16] []) fun r63 ↦
 Option.bind (ret1 r63) fun v64 ↦
 Option.bind (AV.str? v64) fun s65 ↦
 Option.bind (E cx (Key.fn 19) [vu w0, vi n16] []) fun r66 ↦
 Option.bind (ret1 r66) fun v67 ↦
 Option.bind (AV.str? v67) fun s68 ↦
 bif !List.beq (ByteArray.toList s65) (ByteArray.toList s68) then
 some (Out.ret (vbool false), []) else
 bif n47 != n57 then
 some (Out.ret (vbool false), []) else
 bif !List.beq (ByteArray.toList s49) (ByteArray.toList s59) then
 some (Out.ret (vbool false), []) else
 bif n51 != n61 then
 some (Out.ret (vbool false), []) else
 if 0 ≤ if n13 < ((ByteArray.size (q3_5 s2)) : Int) then
 n13 else ((ByteArray.size (q3_5 s2)) : Int) then
 if (q3_7 n13 s2) ≤ ((ByteArray.size (q3_5 s2)) : Int) then
 Option.bind (E cx (Key.fn 20) [vs (q3_8 s2 n13), AV.list 0 1 es10] []) fun r69 ↦
 Option.bind (ret1 r69) fun v70 ↦
 Option.bind (AV.tup? v70) fun vs71 ↦
 Option.bind (uncons? vs71) fun p72 ↦
 Option.bind (AV.str? p72.fst) fun s73 ↦
 Option.bind (uncons? p72.snd) fun p74 ↦
 Option.bind (AV.int? IntKind.i64 p74.fst) fun n75 ↦
 Option.bind (nil? p74.snd) fun _ ↦
 if 0 ≤ if n13 < ((ByteArray.size (q3_5 s2)) : Int) then
 n13 else ((ByteArray.size (q3_5 s2)) : Int) then
 if (q3_7 n13 s2) ≤ ((ByteArray.size (q3_5 s2)) : Int) then
 Option.bind (E cx (Key.fn 21) [vs (q3_8 s2 n13), AV.list 0 1 es10] []) fun r77 ↦
 Option.bind (ret1 r77) fun v78 ↦
 Option.bind (AV.tup? v78) fun vs79 ↦
 Option.bind (uncons? vs79) fun p80 ↦
 Option.bind (AV.str? p80.fst) fun s81 ↦
 Option.bind (uncons? p80.snd) fun p82 ↦
 Option.bind (AV.int? IntKind.i64 p82.fst) fun n83 ↦
 Option.bind (nil? p82.snd) fun _ ↦
 bif !List.beq (ByteArray.toList s73) (ByteArray.toList s81) then
 some (Out.ret (vbool false), []) else
 bif n75 != n83 then
 some (Out.ret (vbool false), []) else
 bif decide (((ByteArray.size s81) : Int) > 0) then
 Option.bind (E cx (Key.fn 15) [vi at6, vi ((ByteArray.size s81) : Int)] []) fun r85 ↦
 Option.bind (ret1 r85) fun v86 ↦
 Option.bind (AV.int? IntKind.i64 v86) fun n87 ↦
 if 0 ≤ n87 then
 if n87 ≤ ((ByteArray.size s81) : Int) then
 if ((Nat.add (ByteArray.size (ByteArray.extract s81 0 (Int.toNat n87))) (ByteArray.size (Go.strOfNums [c7]))) : Int) > 9223372036854775807 then
 none else
 if 0 ≤ IntKind.wrap IntKind.i64 (Int.add n87 1) then
 if IntKind.wrap IntKind.i64 (Int.add n87 1) ≤ ((ByteArray.size s81) : Int) then
 if ((Nat.add (ByteArray.size (q3_2 s81 n87 c7)) (ByteArray.size (q3_1 s81 n87))) : Int) > 9223372036854775807 then
 none else
 if ((q3_6 s81 s2) : Int) > 9223372036854775807 then
 none else Option.bind (E cx (Key.fn 15) [vi many5, vi 9] []) fun r88 ↦
 Option.bind (ret1 r88) fun v89 ↦
 Option.bind (AV.int? IntKind.i64 v89) fun n90 ↦
 Option.bind (E cx (Key.fn 22) [vs (q3_5 s2), vi fixed4, vi many5] []) fun r91 ↦
 Option.bind (ret1 r91) fun v92 ↦
 Option.bind (AV.tup? v92) fun vs93 ↦
 Option.bind (uncons? vs93) fun p94 ↦
 Option.bind (AV.str? p94.fst) fun s95 ↦
 Option.bind (uncons? p94.snd) fun p96 ↦
 Option.bind (AV.list? 1 p96.fst) fun es97 ↦
 Option.bind (uncons? p96.snd) fun p98 ↦
 Option.bind (AV.int? IntKind.i64 p98.fst) fun n99 ↦
 Option.bind (nil? p98.snd) fun _ ↦
 Option.bind (E cx (Key.fn 23) [vs (q3_5 s2), vi fixed4, vi many5] []) fun r101 ↦
 Option.bind (ret1 r101) fun v102 ↦
 Option.bind (AV.tup? v102) fun vs103 ↦
 Option.bind (uncons? vs103) fun p104 ↦
 Option.bind (AV.str? p104.fst) fun s105 ↦
 Option.bind (uncons? p104.snd) fun p106 ↦
 Option.bind (AV.list? 1 p106.fst) fun es107 ↦
 Option.bind (uncons? p106.snd) fun p108 ↦
 Option.bind (AV.int? IntKind.i64 p108.fst) fun n109 ↦
 Option.bind (nil? p108.snd) fun _ ↦
 bif !List.beq (ByteArray.toList s95) (ByteArray.toList s105) then
 some (Out.ret (vbool false), []) else
 bif n99 != n109 then
 some (Out.ret (vbool false), []) else Option.bind (E cx (Key.fn 24) [AV.list 0 1 es97, AV.list 0 1 es107] []) fun r111 ↦
 Option.bind (ret1 r111) fun v112 ↦
 Option.bind (AV.bool? v112) fun b113 ↦
 bif b113 then
 Option.bind (E cx (Key.fn 22) [vs (q3_5 s2), vi (q3_7 n13 s2), vi ((List.length es10) : Int)] []) fun r114 ↦
 Option.bind (ret1 r114) fun v115 ↦
 Option.bind (AV.tup? v115) fun vs116 ↦
 Option.bind (uncons? vs116) fun p117 ↦
 Option.bind (AV.str? p117.fst) fun s118 ↦
 Option.bind (uncons? p117.snd) fun p119 ↦
 Option.bind (AV.list? 1 p119.fst) fun es120 ↦
 Option.bind (uncons? p119.snd) fun p121 ↦
 Option.bind (AV.int? IntKind.i64 p121.fst) fun n122 ↦
 Option.bind (nil? p121.snd) fun _ ↦
 Option.bind (E cx (Key.fn 23) [vs (q3_5 s2), vi (q3_7 n13 s2), vi ((List.length es10) : Int)] []) fun r124 ↦
 Option.bind (ret1 r124) fun v125 ↦
 Option.bind (AV.tup? v125) fun vs126 ↦
 Option.bind (uncons? vs126) fun p127 ↦
 Option.bind (AV.str? p127.fst) fun s128 ↦
 Option.bind (uncons? p127.snd) fun p129 ↦
 Option.bind (AV.list? 1 p129.fst) fun es130 ↦
 Option.bind (uncons? p129.snd) fun p131 ↦
 Option.bind (AV.int? IntKind.i64 p131.fst) fun n132 ↦
 Option.bind (nil? p131.snd) fun _ ↦
 bif !List.beq (ByteArray.toList s118) (ByteArray.toList s128) then
 some (Out.ret (vbool false), []) else
 bif n122 != n132 then
 some (Out.ret (vbool false), []) else Option.bind (E cx (Key.fn 24) [AV.list 0 1 es120, AV.list 0 1 es130] []) fun r134 ↦
 Option.bind (ret1 r134) fun v135 ↦
 Option.bind (AV.bool? v135) fun b136 ↦
 bif b136 then
 Option.bind (E cx (Key.fn 22) [vs (q3_5 s2), vi n13, vi n90] []) fun r137 ↦
 Option.bind (ret1 r137) fun v138 ↦
 Option.bind (AV.tup? v138) fun vs139 ↦
 Option.bind (uncons? vs139) fun p140 ↦
 Option.bind (AV.str? p140.fst) fun s141 ↦
 Option.bind (uncons? p140.snd) fun p142 ↦
 Option.bind (AV.list? 1 p142.fst) fun es143 ↦
 Option.bind (uncons? p142.snd) fun p144 ↦
 Option.bind (AV.int? IntKind.i64 p144.fst) fun n145 ↦
 Option.bind (nil? p144.snd) fun _ ↦
 Option.bind (E cx (Key.fn 23) [vs (q3_5 s2), vi n13, vi n90] []) fun r147 ↦
 Option.bind (ret1 r147) fun v148 ↦
 Option.bind (AV.tup? v148) fun vs149 ↦
 Option.bind (uncons? vs149) fun p150 ↦
 Option.bind (AV.str? p150.fst) fun s151 ↦
 Option.bind (uncons? p150.snd) fun p152 ↦
 Option.bind (AV.list? 1 p152.fst) fun es153 ↦
 Option.bind (uncons? p152.snd) fun p154 ↦
 Option.bind (AV.int? IntKind.i64 p154.fst) fun n155 ↦
 Option.bind (nil? p154.snd) fun _ ↦
 bif !List.beq (ByteArray.toList s141) (ByteArray.toList s151) then
 some (Out.ret (vbool false), []) else
 bif n145 != n155 then
 some (Out.ret (vbool false), []) else Option.bind (E cx (Key.fn 24) [AV.list 0 1 es143, AV.list 0 1 es153] []) fun r157 ↦
 Option.bind (ret1 r157) fun v158 ↦
 Option.bind (AV.bool? v158) fun b159 ↦
 bif b159 then
 Option.bind (E cx (Key.fn 15) [vi many5, vi 9] []) fun r160 ↦
 Option.bind (ret1 r160) fun v161 ↦
 Option.bind (AV.int? IntKind.i64 v161) fun n162 ↦
 Option.bind (E cx (Key.fn 22) [vs s81, vi fixed4, vi many5] []) fun r163 ↦
 Option.bind (ret1 r163) fun v164 ↦
 Option.bind (AV.tup? v164) fun vs165 ↦
 Option.bind (uncons? vs165) fun p166 ↦
 Option.bind (AV.str? p166.fst) fun s167 ↦
 Option.bind (uncons? p166.snd) fun p168 ↦
 Option.bind (AV.list? 1 p168.fst) fun es169 ↦
 Option.bind (uncons? p168.snd) fun p170 ↦
 Option.bind (AV.int? IntKind.i64 p170.fst) fun n171 ↦
 Option.bind (nil? p170.snd) fun _ ↦
 Option.bind (E cx (Key.fn 23) [vs s81, vi fixed4, vi many5] []) fun r173 ↦
 Option.bind (ret1 r173) fun v174 ↦
 Option.bind (AV.tup? v174) fun vs175 ↦
 Option.bind (uncons? vs175) fun p176 ↦
 Option.bind (AV.str? p176.fst) fun s177 ↦
 Option.bind (uncons? p176.snd) fun p178 ↦
 Option.bind (AV.list? 1 p178.fst) fun es179 ↦
 Option.bind (uncons? p178.snd) fun p180 ↦
 Option.bind (AV.int? IntKind.i64 p180.fst) fun n181 ↦
 Option.bind (nil? p180.snd) fun _ ↦
 bif !List.beq (ByteArray.toList s167) (ByteArray.toList s177) then
 some (Out.ret (vbool false), []) else
 bif n171 != n181 then
 some (Out.ret (vbool false), []) else Option.bind (E cx (Key.fn 24) [AV.list 0 1 es169, AV.list 0 1 es179] []) fun r183 ↦
 Option.bind (ret1 r183) fun v184 ↦
 Option.bind (AV.bool? v184) fun b185 ↦
 bif b185 then
 Option.bind (E cx (Key.fn 22) [vs s81, vi (q3_7 n13 s2), vi ((List.length es10) : Int)] []) fun r186 ↦
 Option.bind (ret1 r186) fun v187 ↦
 Option.bind (AV.tup? v187) fun vs188 ↦
 Option.bind (uncons? vs188) fun p189 ↦
 Option.bind (AV.str? p189.fst) fun s190 ↦
 Option.bind (uncons? p189.snd) fun p191 ↦
 Option.bind (AV.list? 1 p191.fst) fun es192 ↦
 Option.bind (uncons? p191.snd) fun p193 ↦
 Option.bind (AV.int? IntKind.i64 p193.fst) fun n194 ↦
 Option.bind (nil? p193.snd) fun _ ↦
 Option.bind (E cx (Key.fn 23) [vs s81, vi (q3_7 n13 s2), vi ((List.length es10) : Int)] []) fun r196 ↦
 Option.bind (ret1 r196) fun v197 ↦
 Option.bind (AV.tup? v197) fun vs198 ↦
 Option.bind (uncons? vs198) fun p199 ↦
 Option.bind (AV.str? p199.fst) fun s200 ↦
 Option.bind (uncons? p199.snd) fun p201 ↦
 Option.bind (AV.list? 1 p201.fst) fun es202 ↦
 Option.bind (uncons? p201.snd) fun p203 ↦
 Option.bind (AV.int? IntKind.i64 p203.fst) fun n204 ↦
 Option.bind (nil? p203.snd) fun _ ↦
 bif !List.beq (ByteArray.toList s190) (ByteArray.toList s200) then
 some (Out.ret (vbool false), []) else
 bif n194 != n204 then
 some (Out.ret (vbool false), []) else Option.bind (E cx (Key.fn 24) [AV.list 0 1 es192, AV.list 0 1 es202] []) fun r206 ↦
 Option.bind (ret1 r206) fun v207 ↦
 Option.bind (AV.bool? v207) fun b208 ↦
 bif b208 then
 Option.bind (E cx (Key.fn 22) [vs s81, vi n13, vi n162] []) fun r209 ↦
 Option.bind (ret1 r209) fun v210 ↦
 Option.bind (AV.tup? v210) fun vs211 ↦
 Option.bind (uncons? vs211) fun p212 ↦
 Option.bind (AV.str? p212.fst) fun s213 ↦
 Option.bind (uncons? p212.snd) fun p214 ↦
 Option.bind (AV.list? 1 p214.fst) fun es215 ↦
 Option.bind (uncons? p214.snd) fun p216 ↦
 Option.bind (AV.int? IntKind.i64 p216.fst) fun n217 ↦
 Option.bind (nil? p216.snd) fun _ ↦
 Option.bind (E cx (Key.fn 23) [vs s81, vi n13, vi n162] []) fun r219 ↦
 Option.bind (ret1 r219) fun v220 ↦
 Option.bind (AV.tup? v220) fun vs221 ↦
 Option.bind (uncons? vs221) fun p222 ↦
 Option.bind (AV.str? p222.fst) fun s223 ↦
 Option.bind (uncons? p222.snd) fun p224 ↦
 Option.bind (AV.list? 1 p224.fst) fun es225 ↦
 Option.bind (uncons? p224.snd) fun p226 ↦
 Option.bind (AV.int? IntKind.i64 p226.fst) fun n227 ↦
 Option.bind (nil? p226.snd) fun _ ↦
 bif !List.beq (ByteArray.toList s213) (ByteArray.toList s223) then
 some (Out.ret (vbool false), []) else
 bif n217 != n227 then
 some (Out.ret (vbool false), []) else Option.bind (E cx (Key.fn 24) [AV.list 0 1 es215, AV.list 0 1 es225] []) fun r229 ↦
 Option.bind (ret1 r229) fun v230 ↦
 Option.bind (AV.bool? v230) fun b231 ↦
 bif b231 then
 Option.bind (E cx (Key.fn 15) [vi many5, vi 9] []) fun r232 ↦
 Option.bind (ret1 r232) fun v233 ↦
 Option.bind (AV.int? IntKind.i64 v233) fun n234 ↦
 Option.bind (E cx (Key.fn 22) [vs (q3_3 s81 n87 c7), vi fixed4, vi many5] []) fun r235 ↦
 Option.bind (ret1 r235) fun v236 ↦
 Option.bind (AV.tup? v236) fun vs237 ↦
 Option.bind (uncons? vs237) fun p238 ↦
 Option.bind (AV.str? p238.fst) fun s239 ↦
 Option.bind (uncons? p238.snd) fun p240 ↦
 Option.bind (AV.list? 1 p240.fst) fun es241 ↦
 Option.bind (uncons? p240.snd) fun p242 ↦
 Option.bind (AV.int? IntKind.i64 p242.fst) fun n243 ↦
 Option.bind (nil? p242.snd) fun _ ↦
 Option.bind (E cx (Key.fn 23) [vs (q3_3 s81 n87 c7), vi fixed4, vi many5] []) fun r245 ↦
 Option.bind (ret1 r245) fun v246 ↦
 Option.bind (AV.tup? v246) fun vs247 ↦
 Option.bind (uncons? vs247) fun p248 ↦
 Option.bind (AV.str? p248.fst) fun s249 ↦
 Option.bind (uncons? p248.snd) fun p250 ↦
 Option.bind (AV.list? 1 p250.fst) fun es251 ↦
 Option.bind (uncons? p250.snd) fun p252 ↦
 Option.bind (AV.int? IntKind.i64 p252.fst) fun n253 ↦
 Option.bind (nil? p252.snd) fun _ ↦
 bif !List.beq (ByteArray.toList s239) (ByteArray.toList s249) then
 some (Out.ret (vbool false), []) else
 bif n243 != n253 then
 some (Out.ret (vbool false), []) else Option.bind (E cx (Key.fn 24) [AV.list 0 1 es241, AV.list 0 1 es251] []) fun r255 ↦
 Option.bind (ret1 r255) fun v256 ↦
 Option.bind (AV.bool? v256) fun b257 ↦
 bif b257 then
 Option.bind (E cx (Key.fn 22) [vs (q3_3 s81 n87 c7), vi (q3_7 n13 s2), vi ((List.length es10) : Int)] []) fun r258 ↦
 Option.bind (ret1 r258) fun v259 ↦
 Option.bind (AV.tup? v259) fun vs260 ↦
 Option.bind (uncons? vs260) fun p261 ↦
 Option.bind (AV.str? p261.fst) fun s262 ↦
 Option.bind (uncons? p261.snd) fun p263 ↦
 Option.bind (AV.list? 1 p263.fst) fun es264 ↦
 Option.bind (uncons? p263.snd) fun p265 ↦
 Option.bind (AV.int? IntKind.i64 p265.fst) fun n266 ↦
 Option.bind (nil? p265.snd) fun _ ↦
 Option.bind (E cx (Key.fn 23) [vs (q3_3 s81 n87 c7), vi (q3_7 n13 s2), vi ((List.length es10) : Int)] []) fun r268 ↦
 Option.bind (ret1 r268) fun v269 ↦
 Option.bind (AV.tup? v269) fun vs270 ↦
 Option.bind (uncons? vs270) fun p271 ↦
 Option.bind (AV.str? p271.fst) fun s272 ↦
 Option.bind (uncons? p271.snd) fun p273 ↦
 Option.bind (AV.list? 1 p273.fst) fun es274 ↦
 Option.bind (uncons? p273.snd) fun p275 ↦
 Option.bind (AV.int? IntKind.i64 p275.fst) fun n276 ↦
 Option.bind (nil? p275.snd) fun _ ↦
 bif !List.beq (ByteArray.toList s262) (ByteArray.toList s272) then
 some (Out.ret (vbool false), []) else
 bif n266 != n276 then
 some (Out.ret (vbool false), []) else Option.bind (E cx (Key.fn 24) [AV.list 0 1 es264, AV.list 0 1 es274] []) fun r278 ↦
 Option.bind (ret1 r278) fun v279 ↦
 Option.bind (AV.bool? v279) fun b280 ↦
 bif b280 then
 Option.bind (E cx (Key.fn 22) [vs (q3_3 s81 n87 c7), vi n13, vi n234] []) fun r281 ↦
 Option.bind (ret1 r281) fun v282 ↦
 Option.bind (AV.tup? v282) fun vs283 ↦
 Option.bind (uncons? vs283) fun p284 ↦
 Option.bind (AV.str? p284.fst) fun s285 ↦
 Option.bind (uncons? p284.snd) fun p286 ↦
 Option.bind (AV.list? 1 p286.fst) fun es287 ↦
 Option.bind (uncons? p286.snd) fun p288 ↦
 Option.bind (AV.int? IntKind.i64 p288.fst) fun n289 ↦
 Option.bind (nil? p288.snd) fun _ ↦
 Option.bind (E cx (Key.fn 23) [vs (q3_3 s81 n87 c7), vi n13, vi n234] []) fun r291 ↦
 Option.bind (ret1 r291) fun v292 ↦
 Option.bind (AV.tup? v292) fun vs293 ↦
 Option.bind (uncons? vs293) fun p294 ↦
 Option.bind (AV.str? p294.fst) fun s295 ↦
 Option.bind (uncons? p294.snd) fun p296 ↦
 Option.bind (AV.list? 1 p296.fst) fun es297 ↦
 Option.bind (uncons? p296.snd) fun p298 ↦
 Option.bind (AV.int? IntKind.i64 p298.fst) fun n299 ↦
 Option.bind (nil? p298.snd) fun _ ↦
 bif !List.beq (ByteArray.toList s285) (ByteArray.toList s295) then
 some (Out.ret (vbool false), []) else
 bif n289 != n299 then
 some (Out.ret (vbool false), []) else Option.bind (E cx (Key.fn 24) [AV.list 0 1 es287, AV.list 0 1 es297] []) fun r301 ↦
 Option.bind (ret1 r301) fun v302 ↦
 Option.bind (AV.bool? v302) fun b303 ↦
 bif b303 then
 Option.bind (E cx (Key.fn 15) [vi many5, vi 9] []) fun r304 ↦
 Option.bind (ret1 r304) fun v305 ↦
 Option.bind (AV.int? IntKind.i64 v305) fun n306 ↦
 Option.bind (E cx (Key.fn 22) [vs (ByteArray.append s81 (q3_5 s2)), vi fixed4, vi many5] []) fun r307 ↦
 Option.bind (ret1 r307) fun v308 ↦
 Option.bind (AV.tup? v308) fun vs309 ↦
 Option.bind (uncons? vs309) fun p310 ↦
 Option.bind (AV.str? p310.fst) fun s311 ↦
 Option.bind (uncons? p310.snd) fun p312 ↦
 Option.bind (AV.list? 1 p312.fst) fun es313 ↦
 Option.bind (uncons? p312.snd) fun p314 ↦
 Option.bind (AV.int? IntKind.i64 p314.fst) fun n315 ↦
 Option.bind (nil? p314.snd) fun _ ↦
 Option.bind (E cx (Key.fn 23) [vs (ByteArray.append s81 (q3_5 s2)), vi fixed4, vi many5] []) fun r317 ↦
 Option.bind (ret1 r317) fun v318 ↦
 Option.bind (AV.tup? v318) fun vs319 ↦
 Option.bind (uncons? vs319) fun p320 ↦
 Option.bind (AV.str? p320.fst) fun s321 ↦
 Option.bind (uncons? p320.snd) fun p322 ↦
 Option.bind (AV.list? 1 p322.fst) fun es323 ↦
 Option.bind (uncons? p322.snd) fun p324 ↦
 Option.bind (AV.int? IntKind.i64 p324.fst) fun n325 ↦
 Option.bind (nil? p324.snd) fun _ ↦
 bif !List.beq (ByteArray.toList s311) (ByteArray.toList s321) then
 some (Out.ret (vbool false), []) else
 bif n315 != n325 then
 some (Out.ret (vbool false), []) else Option.bind (E cx (Key.fn 24) [AV.list 0 1 es313, AV.list 0 1 es323] []) fun r327 ↦
 Option.bind (ret1 r327) fun v328 ↦
 Option.bind (AV.bool? v328) fun b329 ↦
 bif b329 then
 Option.bind (E cx (Key.fn 22) [vs (ByteArray.append s81 (q3_5 s2)), vi (q3_7 n13 s2), vi ((List.length es10) : Int)] []) fun r330 ↦
 Option.bind (ret1 r330) fun v331 ↦
 Option.bind (AV.tup? v331) fun vs332 ↦
 Option.bind (uncons? vs332) fun p333 ↦
 Option.bind (AV.str? p333.fst) fun s334 ↦
 Option.bind (uncons? p333.snd) fun p335 ↦
 Option.bind (AV.list? 1 p335.fst) fun es336 ↦
 Option.bind (uncons? p335.snd) fun p337 ↦
 Option.bind (AV.int? IntKind.i64 p337.fst) fun n338 ↦
 Option.bind (nil? p337.snd) fun _ ↦
 Option.bind (E cx (Key.fn 23) [vs (ByteArray.append s81 (q3_5 s2)), vi (q3_7 n13 s2), vi ((List.length es10) : Int)] []) fun r340 ↦
 Option.bind (ret1 r340) fun v341 ↦
 Option.bind (AV.tup? v341) fun vs342 ↦
 Option.bind (uncons? vs342) fun p343 ↦
 Option.bind (AV.str? p343.fst) fun s344 ↦
 Option.bind (uncons? p343.snd) fun p345 ↦
 Option.bind (AV.list? 1 p345.fst) fun es346 ↦
 Option.bind (uncons? p345.snd) fun p347 ↦
 Option.bind (AV.int? IntKind.i64 p347.fst) fun n348 ↦
 Option.bind (nil? p347.snd) fun _ ↦
 bif !List.beq (ByteArray.toList s334) (ByteArray.toList s344) then
 some (Out.ret (vbool false), []) else
 bif n338 != n348 then
 some (Out.ret (vbool false), []) else Option.bind (E cx (Key.fn 24) [AV.list 0 1 es336, AV.list 0 1 es346] []) fun r350 ↦
 Option.bind (ret1 r350) fun v351 ↦
 Option.bind (AV.bool? v351) fun b352 ↦
 bif b352 then
 Option.bind (E cx (Key.fn 22) [vs (ByteArray.append s81 (q3_5 s2)), vi n13, vi n306] []) fun r353 ↦
 Option.bind (ret1 r353) fun v354 ↦
 Option.bind (AV.tup? v354) fun vs355 ↦
 Option.bind (uncons? vs355) fun p356 ↦
 Option.bind (AV.str? p356.fst) fun s357 ↦
 Option.bind (uncons? p356.snd) fun p358 ↦
 Option.bind (AV.list? 1 p358.fst) fun es359 ↦
 Option.bind (uncons? p358.snd) fun p360 ↦
 Option.bind (AV.int? IntKind.i64 p360.fst) fun n361 ↦
 Option.bind (nil? p360.snd) fun _ ↦
 Option.bind (E cx (Key.fn 23) [vs (ByteArray.append s81 (q3_5 s2)), vi n13, vi n306] []) fun r363 ↦
 Option.bind (ret1 r363) fun v364 ↦
 Option.bind (AV.tup? v364) fun vs365 ↦
 Option.bind (uncons? vs365) fun p366 ↦
 Option.bind (AV.str? p366.fst) fun s367 ↦
 Option.bind (uncons? p366.snd) fun p368 ↦
 Option.bind (AV.list? 1 p368.fst) fun es369 ↦
 Option.bind (uncons? p368.snd) fun p370 ↦
 Option.bind (AV.int? IntKind.i64 p370.fst) fun n371 ↦
 Option.bind (nil? p370.snd) fun _ ↦
 bif !List.beq (ByteArray.toList s357) (ByteArray.toList s367) then
 some (Out.ret (vbool false), []) else
 bif n361 != n371 then
 some (Out.ret (vbool false), []) else Option.bind (E cx (Key.fn 24) [AV.list 0 1 es359, AV.list 0 1 es369] []) fun r373 ↦
 Option.bind (ret1 r373) fun v374 ↦
 Option.bind (AV.bool? v374) fun b375 ↦
 bif b375 then
 some (Out.ret (vbool true), []) else some (Out.ret (vbool false), []) else some (Out.ret (vbool false), []) else some (Out.ret (vbool false), []) else some (Out.ret (vbool false), []) else some (Out.ret (vbool false), []) else some (Out.ret (vbool false), []) else some (Out.ret (vbool false), []) else some (Out.ret (vbool false), []) else some (Out.ret (vbool false), []) else some (Out.ret (vbool false), []) else some (Out.ret (vbool false), []) else some (Out.ret (vbool false), []) else none else none else none else none else
 if ((q3_6 s81 s2) : Int) > 9223372036854775807 then
 none else Option.bind (E cx (Key.fn 15) [vi many5, vi 9] []) fun r376 ↦
 Option.bind (ret1 r376) fun v377 ↦
 Option.bind (AV.int? IntKind.i64 v377) fun n378 ↦
 Option.bind (E cx (Key.fn 22) [vs (q3_5 s2), vi fixed4, vi many5] []) fun r379 ↦
 Option.bind (ret1 r379) fun v380 ↦
 Option.bind (AV.tup? v380) fun vs381 ↦
 Option.bind (uncons? vs381) fun p382 ↦
 Option.bind (AV.str? p382.fst) fun s383 ↦
 Option.bind (uncons? p382.snd) fun p384 ↦
 Option.bind (AV.list? 1 p384.fst) fun es385 ↦
 Option.bind (uncons? p384.snd) fun p386 ↦
 Option.bind (AV.int? IntKind.i64 p386.fst) fun n387 ↦
 Option.bind (nil? p386.snd) fun _ ↦
 Option.bind (E cx (Key.fn 23) [vs (q3_5 s2), vi fixed4, vi many5] []) fun r389 ↦
 Option.bind (ret1 r389) fun v390 ↦
 Option.bind (AV.tup? v390) fun vs391 ↦
 Option.bind (uncons? vs391) fun p392 ↦
 Option.bind (AV.str? p392.fst) fun s393 ↦
 Option.bind (uncons? p392.snd) fun p394 ↦
 Option.bind (AV.list? 1 p394.fst) fun es395 ↦
 Option.bind (uncons? p394.snd) fun p396 ↦
 Option.bind (AV.int? IntKind.i64 p396.fst) fun n397 ↦
 Option.bind (nil? p396.snd) fun _ ↦
 bif !List.beq (ByteArray.toList s383) (ByteArray.toList s393) then
 some (Out.ret (vbool false), []) else
 bif n387 != n397 then
 some (Out.ret (vbool false), []) else Option.bind (E cx (Key.fn 24) [AV.list 0 1 es385, AV.list 0 1 es395] []) fun r399 ↦
 Option.bind (ret1 r399) fun v400 ↦
 Option.bind (AV.bool? v400) fun b401 ↦
 bif b401 then
 Option.bind (E cx (Key.fn 22) [vs (q3_5 s2), vi (q3_7 n13 s2), vi ((List.length es10) : Int)] []) fun r402 ↦
 Option.bind (ret1 r402) fun v403 ↦
 Option.bind (AV.tup? v403) fun vs404 ↦
 Option.bind (uncons? vs404) fun p405 ↦
 Option.bind (AV.str? p405.fst) fun s406 ↦
 Option.bind (uncons? p405.snd) fun p407 ↦
 Option.bind (AV.list? 1 p407.fst) fun es408 ↦
 Option.bind (uncons? p407.snd) fun p409 ↦
 Option.bind (AV.int? IntKind.i64 p409.fst) fun n410 ↦
 Option.bind (nil? p409.snd) fun _ ↦
 Option.bind (E cx (Key.fn 23) [vs (q3_5 s2), vi (q3_7 n13 s2), vi ((List.length es10) : Int)] []) fun r412 ↦
 Option.bind (ret1 r412) fun v413 ↦
 Option.bind (AV.tup? v413) fun vs414 ↦
 Option.bind (uncons? vs414) fun p415 ↦
 Option.bind (AV.str? p415.fst) fun s416 ↦
 Option.bind (uncons? p415.snd) fun p417 ↦
 Option.bind (AV.list? 1 p417.fst) fun es418 ↦
 Option.bind (uncons? p417.snd) fun p419 ↦
 Option.bind (AV.int? IntKind.i64 p419.fst) fun n420 ↦
 Option.bind (nil? p419.snd) fun _ ↦
 bif !List.beq (ByteArray.toList s406) (ByteArray.toList s416) then
 some (Out.ret (vbool false), []) else
 bif n410 != n420 then
 some (Out.ret (vbool false), []) else Option.bind (E cx (Key.fn 24) [AV.list 0 1 es408, AV.list 0 1 es418] []) fun r422 ↦
 Option.bind (ret1 r422) fun v423 ↦
 Option.bind (AV.bool? v423) fun b424 ↦
 bif b424 then
 Option.bind (E cx (Key.fn 22) [vs (q3_5 s2), vi n13, vi n378] []) fun r425 ↦
 Option.bind (ret1 r425) fun v426 ↦
 Option.bind (AV.tup? v426) fun vs427 ↦
 Option.bind (uncons? vs427) fun p428 ↦
 Option.bind (AV.str? p428.fst) fun s429 ↦
 Option.bind (uncons? p428.snd) fun p430 ↦
 Option.bind (AV.list? 1 p430.fst) fun es431 ↦
 Option.bind (uncons? p430.snd) fun p432 ↦
 Option.bind (AV.int? IntKind.i64 p432.fst) fun n433 ↦
 Option.bind (nil? p432.snd) fun _ ↦
 Option.bind (E cx (Key.fn 23) [vs (q3_5 s2), vi n13, vi n378] []) fun r435 ↦
 Option.bind (ret1 r435) fun v436 ↦
 Option.bind (AV.tup? v436) fun vs437 ↦
 Option.bind (uncons? vs437) fun p438 ↦
 Option.bind (AV.str? p438.fst) fun s439 ↦
 Option.bind (uncons? p438.snd) fun p440 ↦
 Option.bind (AV.list? 1 p440.fst) fun es441 ↦
 Option.bind (uncons? p440.snd) fun p442 ↦
 Option.bind (AV.int? IntKind.i64 p442.fst) fun n443 ↦
 Option.bind (nil? p442.snd) fun _ ↦
 bif !List.beq (ByteArray.toList s429) (ByteArray.toList s439) then
 some (Out.ret (vbool false), []) else
 bif n433 != n443 then
 some (Out.ret (vbool false), []) else Option.bind (E cx (Key.fn 24) [AV.list 0 1 es431, AV.list 0 1 es441] []) fun r445 ↦
 Option.bind (ret1 r445) fun v446 ↦
 Option.bind (AV.bool? v446) fun b447 ↦
 bif b447 then
 Option.bind (E cx (Key.fn 15) [vi many5, vi 9] []) fun r448 ↦
 Option.bind (ret1 r448) fun v449 ↦
 Option.bind (AV.int? IntKind.i64 v449) fun n450 ↦
 Option.bind (E cx (Key.fn 22) [vs s81, vi fixed4, vi many5] []) fun r451 ↦
 Option.bind (ret1 r451) fun v452 ↦
 Option.bind (AV.tup? v452) fun vs453 ↦
 Option.bind (uncons? vs453) fun p454 ↦
 Option.bind (AV.str? p454.fst) fun s455 ↦
 Option.bind (uncons? p454.snd) fun p456 ↦
 Option.bind (AV.list? 1 p456.fst) fun es457 ↦
 Option.bind (uncons? p456.snd) fun p458 ↦
 Option.bind (AV.int? IntKind.i64 p458.fst) fun n459 ↦
 Option.bind (nil? p458.snd) fun _ ↦
 Option.bind (E cx (Key.fn 23) [vs s81, vi fixed4, vi many5] []) fun r461 ↦
 Option.bind (ret1 r461) fun v462 ↦
 Option.bind (AV.tup? v462) fun vs463 ↦
 Option.bind (uncons? vs463) fun p464 ↦
 Option.bind (AV.str? p464.fst) fun s465 ↦
 Option.bind (uncons? p464.snd) fun p466 ↦
 Option.bind (AV.list? 1 p466.fst) fun es467 ↦
 Option.bind (uncons? p466.snd) fun p468 ↦
 Option.bind (AV.int? IntKind.i64 p468.fst) fun n469 ↦
 Option.bind (nil? p468.snd) fun _ ↦
 bif !List.beq (ByteArray.toList s455) (ByteArray.toList s465) then
 some (Out.ret (vbool false), []) else
 bif n459 != n469 then
 some (Out.ret (vbool false), []) else Option.bind (E cx (Key.fn 24) [AV.list 0 1 es457, AV.list 0 1 es467] []) fun r471 ↦
 Option.bind (ret1 r471) fun v472 ↦
 Option.bind (AV.bool? v472) fun b473 ↦
 bif b473 then
 Option.bind (E cx (Key.fn 22) [vs s81, vi (q3_7 n13 s2), vi ((List.length es10) : Int)] []) fun r474 ↦
 Option.bind (ret1 r474) fun v475 ↦
 Option.bind (AV.tup? v475) fun vs476 ↦
 Option.bind (uncons? vs476) fun p477 ↦
 Option.bind (AV.str? p477.fst) fun s478 ↦
 Option.bind (uncons? p477.snd) fun p479 ↦
 Option.bind (AV.list? 1 p479.fst) fun es480 ↦
 Option.bind (uncons? p479.snd) fun p481 ↦
 Option.bind (AV.int? IntKind.i64 p481.fst) fun n482 ↦
 Option.bind (nil? p481.snd) fun _ ↦
 Option.bind (E cx (Key.fn 23) [vs s81, vi (q3_7 n13 s2), vi ((List.length es10) : Int)] []) fun r484 ↦
 Option.bind (ret1 r484) fun v485 ↦
 Option.bind (AV.tup? v485) fun vs486 ↦
 Option.bind (uncons? vs486) fun p487 ↦
 Option.bind (AV.str? p487.fst) fun s488 ↦
 Option.bind (uncons? p487.snd) fun p489 ↦
 Option.bind (AV.list? 1 p489.fst) fun es490 ↦
 Option.bind (uncons? p489.snd) fun p491 ↦
 Option.bind (AV.int? IntKind.i64 p491.fst) fun n492 ↦
 Option.bind (nil? p491.snd) fun _ ↦
 bif !List.beq (ByteArray.toList s478) (ByteArray.toList s488) then
 some (Out.ret (vbool false), []) else
 bif n482 != n492 then
 some (Out.ret (vbool false), []) else Option.bind (E cx (Key.fn 24) [AV.list 0 1 es480, AV.list 0 1 es490] []) fun r494 ↦
 Option.bind (ret1 r494) fun v495 ↦
 Option.bind (AV.bool? v495) fun b496 ↦
 bif b496 then
 Option.bind (E cx (Key.fn 22) [vs s81, vi n13, vi n450] []) fun r497 ↦
 Option.bind (ret1 r497) fun v498 ↦
 Option.bind (AV.tup? v498) fun vs499 ↦
 Option.bind (uncons? vs499) fun p500 ↦
 Option.bind (AV.str? p500.fst) fun s501 ↦
 Option.bind (uncons? p500.snd) fun p502 ↦
 Option.bind (AV.list? 1 p502.fst) fun es503 ↦
 Option.bind (uncons? p502.snd) fun p504 ↦
 Option.bind (AV.int? IntKind.i64 p504.fst) fun n505 ↦
 Option.bind (nil? p504.snd) fun _ ↦
 Option.bind (E cx (Key.fn 23) [vs s81, vi n13, vi n450] []) fun r507 ↦
 Option.bind (ret1 r507) fun v508 ↦
 Option.bind (AV.tup? v508) fun vs509 ↦
 Option.bind (uncons? vs509) fun p510 ↦
 Option.bind (AV.str? p510.fst) fun s511 ↦
 Option.bind (uncons? p510.snd) fun p512 ↦
 Option.bind (AV.list? 1 p512.fst) fun es513 ↦
 Option.bind (uncons? p512.snd) fun p514 ↦
 Option.bind (AV.int? IntKind.i64 p514.fst) fun n515 ↦
 Option.bind (nil? p514.snd) fun _ ↦
 bif !List.beq (ByteArray.toList s501) (ByteArray.toList s511) then
 some (Out.ret (vbool false), []) else
 bif n505 != n515 then
 some (Out.ret (vbool false), []) else Option.bind (E cx (Key.fn 24) [AV.list 0 1 es503, AV.list 0 1 es513] []) fun r517 ↦
 Option.bind (ret1 r517) fun v518 ↦
 Option.bind (AV.bool? v518) fun b519 ↦
 bif b519 then
 Option.bind (E cx (Key.fn 15) [vi many5, vi 9] []) fun r520 ↦
 Option.bind (ret1 r520) fun v521 ↦
 Option.bind (AV.int? IntKind.i64 v521) fun n522 ↦
 Option.bind (E cx (Key.fn 22) [vs s81, vi fixed4, vi many5] []) fun r523 ↦
 Option.bind (ret1 r523) fun v524 ↦
 Option.bind (AV.tup? v524) fun vs525 ↦
 Option.bind (uncons? vs525) fun p526 ↦
 Option.bind (AV.str? p526.fst) fun s527 ↦
 Option.bind (uncons? p526.snd) fun p528 ↦
 Option.bind (AV.list? 1 p528.fst) fun es529 ↦
 Option.bind (uncons? p528.snd) fun p530 ↦
 Option.bind (AV.int? IntKind.i64 p530.fst) fun n531 ↦
 Option.bind (nil? p530.snd) fun _ ↦
 Option.bind (E cx (Key.fn 23) [vs s81, vi fixed4, vi many5] []) fun r533 ↦
 Option.bind (ret1 r533) fun v534 ↦
 Option.bind (AV.tup? v534) fun vs535 ↦
 Option.bind (uncons? vs535) fun p536 ↦
 Option.bind (AV.str? p536.fst) fun s537 ↦
 Option.bind (uncons? p536.snd) fun p538 ↦
 Option.bind (AV.list? 1 p538.fst) fun es539 ↦
 Option.bind (uncons? p538.snd) fun p540 ↦
 Option.bind (AV.int? IntKind.i64 p540.fst) fun n541 ↦
 Option.bind (nil? p540.snd) fun _ ↦
 bif !List.beq (ByteArray.toList s527) (ByteArray.toList s537) then
 some (Out.ret (vbool false), []) else
 bif n531 != n541 then
 some (Out.ret (vbool false), []) else Option.bind (E cx (Key.fn 24) [AV.list 0 1 es529, AV.list 0 1 es539] []) fun r543 ↦
 Option.bind (ret1 r543) fun v544 ↦
 Option.bind (AV.bool? v544) fun b545 ↦
 bif b545 then
 Option.bind (E cx (Key.fn 22) [vs s81, vi (q3_7 n13 s2), vi ((List.length es10) : Int)] []) fun r546 ↦
 Option.bind (ret1 r546) fun v547 ↦
 Option.bind (AV.tup? v547) fun vs548 ↦
 Option.bind (uncons? vs548) fun p549 ↦
 Option.bind (AV.str? p549.fst) fun s550 ↦
 Option.bind (uncons? p549.snd) fun p551 ↦
 Option.bind (AV.list? 1 p551.fst) fun es552 ↦
 Option.bind (uncons? p551.snd) fun p553 ↦
 Option.bind (AV.int? IntKind.i64 p553.fst) fun n554 ↦
 Option.bind (nil? p553.snd) fun _ ↦
 Option.bind (E cx (Key.fn 23) [vs s81, vi (q3_7 n13 s2), vi ((List.length es10) : Int)] []) fun r556 ↦
 Option.bind (ret1 r556) fun v557 ↦
 Option.bind (AV.tup? v557) fun vs558 ↦
 Option.bind (uncons? vs558) fun p559 ↦
 Option.bind (AV.str? p559.fst) fun s560 ↦
 Option.bind (uncons? p559.snd) fun p561 ↦
 Option.bind (AV.list? 1 p561.fst) fun es562 ↦
 Option.bind (uncons? p561.snd) fun p563 ↦
 Option.bind (AV.int? IntKind.i64 p563.fst) fun n564 ↦
 Option.bind (nil? p563.snd) fun _ ↦
 bif !List.beq (ByteArray.toList s550) (ByteArray.toList s560) then
 some (Out.ret (vbool false), []) else
 bif n554 != n564 then
 some (Out.ret (vbool false), []) else Option.bind (E cx (Key.fn 24) [AV.list 0 1 es552, AV.list 0 1 es562] []) fun r566 ↦
 Option.bind (ret1 r566) fun v567 ↦
 Option.bind (AV.bool? v567) fun b568 ↦
 bif b568 then
 Option.bind (E cx (Key.fn 22) [vs s81, vi n13, vi n522] []) fun r569 ↦
 Option.bind (ret1 r569) fun v570 ↦
 Option.bind (AV.tup? v570) fun vs571 ↦
 Option.bind (uncons? vs571) fun p572 ↦
 Option.bind (AV.str? p572.fst) fun s573 ↦
 Option.bind (uncons? p572.snd) fun p574 ↦
 Option.bind (AV.list? 1 p574.fst) fun es575 ↦
 Option.bind (uncons? p574.snd) fun p576 ↦
 Option.bind (AV.int? IntKind.i64 p576.fst) fun n577 ↦
 Option.bind (nil? p576.snd) fun _ ↦
 Option.bind (E cx (Key.fn 23) [vs s81, vi n13, vi n522] []) fun r579 ↦
 Option.bind (ret1 r579) fun v580 ↦
 Option.bind (AV.tup? v580) fun vs581 ↦
 Option.bind (uncons? vs581) fun p582 ↦
 Option.bind (AV.str? p582.fst) fun s583 ↦
 Option.bind (uncons? p582.snd) fun p584 ↦
 Option.bind (AV.list? 1 p584.fst) fun es585 ↦
 Option.bind (uncons? p584.snd) fun p586 ↦
 Option.bind (AV.int? IntKind.i64 p586.fst) fun n587 ↦
 Option.bind (nil? p586.snd) fun _ ↦
 bif !List.beq (ByteArray.toList s573) (ByteArray.toList s583) then
 some (Out.ret (vbool false), []) else
 bif n577 != n587 then
 some (Out.ret (vbool false), []) else Option.bind (E cx (Key.fn 24) [AV.list 0 1 es575, AV.list 0 1 es585] []) fun r589 ↦
 Option.bind (ret1 r589) fun v590 ↦
 Option.bind (AV.bool? v590) fun b591 ↦
 bif b591 then
 Option.bind (E cx (Key.fn 15) [vi many5, vi 9] []) fun r592 ↦
 Option.bind (ret1 r592) fun v593 ↦
 Option.bind (AV.int? IntKind.i64 v593) fun n594 ↦
 Option.bind (E cx (Key.fn 22) [vs (ByteArray.append s81 (q3_5 s2)), vi fixed4, vi many5] []) fun r595 ↦
 Option.bind (ret1 r595) fun v596 ↦
 Option.bind (AV.tup? v596) fun vs597 ↦
 Option.bind (uncons? vs597) fun p598 ↦
 Option.bind (AV.str? p598.fst) fun s599 ↦
 Option.bind (uncons? p598.snd) fun p600 ↦
 Option.bind (AV.list? 1 p600.fst) fun es601 ↦
 Option.bind (uncons? p600.snd) fun p602 ↦
 Option.bind (AV.int? IntKind.i64 p602.fst) fun n603 ↦
 Option.bind (nil? p602.snd) fun _ ↦
 Option.bind (E cx (Key.fn 23) [vs (ByteArray.append s81 (q3_5 s2)), vi fixed4, vi many5] []) fun r605 ↦
 Option.bind (ret1 r605) fun v606 ↦
 Option.bind (AV.tup? v606) fun vs607 ↦
 Option.bind (uncons? vs607) fun p608 ↦
 Option.bind (AV.str? p608.fst) fun s609 ↦
 Option.bind (uncons? p608.snd) fun p610 ↦
 Option.bind (AV.list? 1 p610.fst) fun es611 ↦
 Option.bind (uncons? p610.snd) fun p612 ↦
 Option.bind (AV.int? IntKind.i64 p612.fst) fun n613 ↦
 Option.bind (nil? p612.snd) fun _ ↦
 bif !List.beq (ByteArray.toList s599) (ByteArray.toList s609) then
 some (Out.ret (vbool false), []) else
 bif n603 != n613 then
 some (Out.ret (vbool false), []) else Option.bind (E cx (Key.fn 24) [AV.list 0 1 es601, AV.list 0 1 es611] []) fun r615 ↦
 Option.bind (ret1 r615) fun v616 ↦
 Option.bind (AV.bool? v616) fun b617 ↦
 bif b617 then
 Option.bind (E cx (Key.fn 22) [vs (ByteArray.append s81 (q3_5 s2)), vi (q3_7 n13 s2), vi ((List.length es10) : Int)] []) fun r618 ↦
 Option.bind (ret1 r618) fun v619 ↦
 Option.bind (AV.tup? v619) fun vs620 ↦
 Option.bind (uncons? vs620) fun p621 ↦
 Option.bind (AV.str? p621.fst) fun s622 ↦
 Option.bind (uncons? p621.snd) fun p623 ↦
 Option.bind (AV.list? 1 p623.fst) fun es624 ↦
 Option.bind (uncons? p623.snd) fun p625 ↦
 Option.bind (AV.int? IntKind.i64 p625.fst) fun n626 ↦
 Option.bind (nil? p625.snd) fun _ ↦
 Option.bind (E cx (Key.fn 23) [vs (ByteArray.append s81 (q3_5 s2)), vi (q3_7 n13 s2), vi ((List.length es10) : Int)] []) fun r628 ↦
 Option.bind (ret1 r628) fun v629 ↦
 Option.bind (AV.tup? v629) fun vs630 ↦
 Option.bind (uncons? vs630) fun p631 ↦
 Option.bind (AV.str? p631.fst) fun s632 ↦
 Option.bind (uncons? p631.snd) fun p633 ↦
 Option.bind (AV.list? 1 p633.fst) fun es634 ↦
 Option.bind (uncons? p633.snd) fun p635 ↦
 Option.bind (AV.int? IntKind.i64 p635.fst) fun n636 ↦
 Option.bind (nil? p635.snd) fun _ ↦
 bif !List.beq (ByteArray.toList s622) (ByteArray.toList s632) then
 some (Out.ret (vbool false), []) else
 bif n626 != n636 then
 some (Out.ret (vbool false), []) else Option.bind (E cx (Key.fn 24) [AV.list 0 1 es624, AV.list 0 1 es634] []) fun r638 ↦
 Option.bind (ret1 r638) fun v639 ↦
 Option.bind (AV.bool? v639) fun b640 ↦
 bif b640 then
 Option.bind (E cx (Key.fn 22) [vs (ByteArray.append s81 (q3_5 s2)), vi n13, vi n594] []) fun r641 ↦
 Option.bind (ret1 r641) fun v642 ↦
 Option.bind (AV.tup? v642) fun vs643 ↦
 Option.bind (uncons? vs643) fun p644 ↦
 Option.bind (AV.str? p644.fst) fun s645 ↦
 Option.bind (uncons? p644.snd) fun p646 ↦
 Option.bind (AV.list? 1 p646.fst) fun es647 ↦
 Option.bind (uncons? p646.snd) fun p648 ↦
 Option.bind (AV.int? IntKind.i64 p648.fst) fun n649 ↦
 Option.bind (nil? p648.snd) fun _ ↦
 Option.bind (E cx (Key.fn 23) [vs (ByteArray.append s81 (q3_5 s2)), vi n13, vi n594] []) fun r651 ↦
 Option.bind (ret1 r651) fun v652 ↦
 Option.bind (AV.tup? v652) fun vs653 ↦
 Option.bind (uncons? vs653) fun p654 ↦
 Option.bind (AV.str? p654.fst) fun s655 ↦
 Option.bind (uncons? p654.snd) fun p656 ↦
 Option.bind (AV.list? 1 p656.fst) fun es657 ↦
 Option.bind (uncons? p656.snd) fun p658 ↦
 Option.bind (AV.int? IntKind.i64 p658.fst) fun n659 ↦
 Option.bind (nil? p658.snd) fun _ ↦
 bif !List.beq (ByteArray.toList s645) (ByteArray.toList s655) then
 some (Out.ret (vbool false), []) else
 bif n649 != n659 then
 some (Out.ret (vbool false), []) else Option.bind (E cx (Key.fn 24) [AV.list 0 1 es647, AV.list 0 1 es657] []) fun r661 ↦
 Option.bind (ret1 r661) fun v662 ↦
 Option.bind (AV.bool? v662) fun b663 ↦
 bif b663 then
 some (Out.ret (vbool true), []) else some (Out.ret (vbool false), []) else some (Out.ret (vbool false), []) else some (Out.ret (vbool false), []) else some (Out.ret (vbool false), []) else some (Out.ret (vbool false), []) else some (Out.ret (vbool false), []) else some (Out.ret (vbool false), []) else some (Out.ret (vbool false), []) else some (Out.ret (vbool false), []) else some (Out.ret (vbool false), []) else some (Out.ret (vbool false), []) else some (Out.ret (vbool false), []) else none else none else none else none else none else none := by
  intros
  exact (E_ov f13_true [52] _ _ _).trans (by kernel_rfl)

end Go.Proofs.Av
