/- OracleLaw 23 -/
import Derived.Test.YtoepfmodbhfckaaAiPa
set_option maxRecDepth 100000
namespace Go.Proofs.Av
open Go
open Option renaming bind→Ω
open Go.IntKind renaming i64→ı
open Go.IntKind renaming u64→υ
open Go.IntKind renaming wrap→ω
open List renaming length→ℓ
noncomputable def q23_0:List (List AV)→Int→Bool→List (List AV)→List (List AV)→Option (Out×Heap) :=
 fun es9 n12 b48 es50 es6 ↦
 Ω es9[0]? fun cs80 ↦
 Ω (uncons? cs80) fun p81 ↦
 Ω (AV.int? υ p81.fst) fun n82 ↦
 Ω (nil? p81.snd) fun _ ↦
 Ω
 (E cx (Key.fn 93)
 [vu (ω υ n12),AV.list 0 1 [[vu n82]]] [])
 fun r84 ↦
 Ω (ret1 r84) fun v85 ↦
 Ω (AV.tup? v85) fun vs86 ↦
 Ω (uncons? vs86) fun p87 ↦
 Ω (AV.cells? p87.fst) fun cs88 ↦
 Ω (uncons? cs88) fun p89 ↦
 Ω (AV.bool? p89.fst) fun b90 ↦
 Ω (uncons? p89.snd) fun p91 ↦
 Ω (AV.list? 2 p91.fst) fun es92 ↦
 Ω (nil? p91.snd) fun _ ↦
 Ω (uncons? p87.snd) fun p94 ↦
 Ω (AV.int? ı p94.fst) fun n95 ↦
 Ω (nil? p94.snd) fun _ ↦
 Ω
 (E cx (Key.fn 45)
 [AV.list 0 2
 [[vbool b48,AV.list 0 2 es50],[vbool b90,AV.list 0 2 es92]]]
 [])
 fun r97 ↦
 Ω (ret1 r97) fun v98 ↦
 Ω (AV.tup? v98) fun vs99 ↦
 Ω (uncons? vs99) fun p100 ↦
 Ω (AV.cells? p100.fst) fun cs101 ↦
 Ω (uncons? cs101) fun p102 ↦
 Ω (AV.bool? p102.fst) fun b103 ↦
 Ω (uncons? p102.snd) fun p104 ↦
 Ω (AV.list? 2 p104.fst) fun es105 ↦
 Ω (nil? p104.snd) fun _ ↦
 Ω (uncons? p100.snd) fun p107 ↦
 Ω (AV.int? ı p107.fst) fun n108 ↦
 Ω (nil? p107.snd) fun _ ↦
 bif decide (n95=0) then
 bif decide (n108=0) then
 Ω
 (E cx (Key.fn 89)
 [AV.list 0 2 es6,
 AV.agg
 [AV.list 0 1 es9,vu (ω υ n12),
 vbool b103,AV.list 0 2 es105]]
 [])
 fun r110 ↦
 Ω (ret1 r110) fun v111 ↦
 Ω (AV.bool? v111) fun b112 ↦
 bif b112 then some (Out.ret (vbool false),[])
 else some (Out.ret (vbool true),[])
 else some (Out.ret (vbool false),[])
 else some (Out.ret (vbool false),[])
noncomputable def q23_1:List (List AV)→Int→Bool→List (List AV)→List (List AV)→Option (Out×Heap) :=
 fun es9 n12 b48 es50 es6 ↦
 bif decide (((ℓ es9):Int)=0) then some (Out.ret (vbool false),[]) else q23_0 es9 n12 b48 es50 es6
noncomputable def q23_2:Int→List (List AV)→Int→Bool→List (List AV)→List (List AV)→Option (Out×Heap) :=
 fun n15 es9 n12 b48 es50 es6↦bif decide (n15<((ℓ es9):Int)) then q23_1 es9 n12 b48 es50 es6 else q23_1 es9 n12 b48 es50 es6
noncomputable def q23_3:Int→List (List AV)→Int→Bool→List (List AV)→List (List AV)→Option (Out×Heap) :=
 fun n15 es9 n12 b48 es50 es6 ↦
 bif decide (n15<((ℓ es9):Int)) then some (Out.ret (vbool false),[]) else q23_1 es9 n12 b48 es50 es6
noncomputable def q23_4:List (List AV)→Int→Bool→List (List AV)→List (List AV)→Option (Out×Heap) :=
 fun es9 n12 b48 es50 es6 ↦
 bif decide (((ℓ es9):Int)=0) then some (Out.ret (vbool true),[]) else q23_0 es9 n12 b48 es50 es6
theorem f23:∀(raw0 few1:List (List AV)) (at2 root3:Int),E cx (Key.fn 23) [AV.list 0 1 raw0,AV.list 0 1 few1,vi at2,vi root3] []=Ω (E cx (Key.fn 79) [AV.list 0 1 raw0] []) fun r4↦Ω (ret1 r4) fun v5↦Ω (AV.list? 2 v5) fun es6↦Ω (E cx (Key.fn 80) [AV.list 0 1 few1] []) fun r7↦Ω (ret1 r7) fun v8↦Ω (AV.list? 1 v8) fun es9↦Ω (E cx (Key.fn 94) [vi root3,vi 3] []) fun r10↦Ω (ret1 r10) fun v11↦Ω (AV.int? ı v11) fun n12↦Ω (E cx (Key.fn 94) [vi at2,vi (ω ı (Int.add (((ℓ es9):Int)) 1))] []) fun r13↦Ω (ret1 r13) fun v14↦Ω (AV.int? ı v14) fun n15↦if 0≤n15 then if n15≤((ℓ es9):Int) then Ω (E cx (Key.fn 93) [vu (ω υ n12),AV.list 0 1 (List.drop 0 (List.take (Int.toNat n15) es9))] []) fun r16↦Ω (ret1 r16) fun v17↦Ω (AV.tup? v17) fun vs18↦Ω (uncons? vs18) fun p19↦Ω (AV.cells? p19.fst) fun cs20↦Ω (uncons? cs20) fun p21↦Ω (AV.bool? p21.fst) fun b22↦Ω (uncons? p21.snd) fun p23↦Ω (AV.list? 2 p23.fst) fun es24↦Ω (nil? p23.snd) fun _↦Ω (uncons? p19.snd) fun p26↦Ω (AV.int? ı p26.fst) fun n27↦Ω (nil? p26.snd) fun _↦if 0≤n15 then if n15≤((ℓ es9):Int) then Ω (E cx (Key.fn 93) [vu (ω υ n12),AV.list 0 1 (List.drop (Int.toNat n15) (List.take (ℓ es9) es9))] []) fun r29↦Ω (ret1 r29) fun v30↦Ω (AV.tup? v30) fun vs31↦Ω (uncons? vs31) fun p32↦Ω (AV.cells? p32.fst) fun cs33↦Ω (uncons? cs33) fun p34↦Ω (AV.bool? p34.fst) fun b35↦Ω (uncons? p34.snd) fun p36↦Ω (AV.list? 2 p36.fst) fun es37↦Ω (nil? p36.snd) fun _↦Ω (uncons? p32.snd) fun p39↦Ω (AV.int? ı p39.fst) fun n40↦Ω (nil? p39.snd) fun _↦Ω (E cx (Key.fn 45) [AV.list 0 2 [[vbool b22,AV.list 0 2 es24],[vbool b35,AV.list 0 2 es37]]] []) fun r42↦Ω (ret1 r42) fun v43↦Ω (AV.tup? v43) fun vs44↦Ω (uncons? vs44) fun p45↦Ω (AV.cells? p45.fst) fun cs46↦Ω (uncons? cs46) fun p47↦Ω (AV.bool? p47.fst) fun b48↦Ω (uncons? p47.snd) fun p49↦Ω (AV.list? 2 p49.fst) fun es50↦Ω (nil? p49.snd) fun _↦Ω (uncons? p45.snd) fun p52↦Ω (AV.int? ı p52.fst) fun n53↦Ω (nil? p52.snd) fun _↦Ω (E cx (Key.fn 93) [vu (ω υ n12),AV.list 0 1 es9] []) fun r55↦Ω (ret1 r55) fun v56↦Ω (AV.tup? v56) fun vs57↦Ω (uncons? vs57) fun p58↦Ω (AV.cells? p58.fst) fun cs59↦Ω (uncons? cs59) fun p60↦Ω (AV.bool? p60.fst) fun b61↦Ω (uncons? p60.snd) fun p62↦Ω (AV.list? 2 p62.fst) fun es63↦Ω (nil? p62.snd) fun _↦Ω (uncons? p58.snd) fun p65↦Ω (AV.int? ı p65.fst) fun n66↦Ω (nil? p65.snd) fun _↦bif n27 !=0 then some (Out.ret (vbool false),[]) else bif n40 !=0 then some (Out.ret (vbool false),[]) else bif n53 !=0 then some (Out.ret (vbool false),[]) else bif n66 !=0 then some (Out.ret (vbool false),[]) else Ω (E cx (Key.fn 47) [AV.agg [vbool b48,AV.list 0 2 es50],AV.agg [vbool b61,AV.list 0 2 es63]] []) fun r68↦Ω (ret1 r68) fun v69↦Ω (AV.bool? v69) fun b70↦bif b70 then if 0≤n15 then if n15≤((ℓ es9):Int) then Ω (E cx (Key.fn 89) [AV.list 0 2 es6,AV.agg [AV.list 0 1 (List.drop 0 (List.take (Int.toNat n15) es9)),vu (ω υ n12),vbool b22,AV.list 0 2 es24]] []) fun r71↦Ω (ret1 r71) fun v72↦Ω (AV.bool? v72) fun b73↦bif b73 then if 0≤n15 then if n15≤((ℓ es9):Int) then Ω (E cx (Key.fn 89) [AV.list 0 2 es6,AV.agg [AV.list 0 1 (List.drop (Int.toNat n15) (List.take (ℓ es9) es9)),vu (ω υ n12),vbool b35,AV.list 0 2 es37]] []) fun r74↦Ω (ret1 r74) fun v75↦Ω (AV.bool? v75) fun b76↦bif b76 then Ω (E cx (Key.fn 89) [AV.list 0 2 es6,AV.agg [AV.list 0 1 es9,vu (ω υ n12),vbool b48,AV.list 0 2 es50]] []) fun r77↦Ω (ret1 r77) fun v78↦Ω (AV.bool? v78) fun b79↦bif b79 then bif decide (n15>0) then q23_2 n15 es9 n12 b48 es50 es6 else q23_2 n15 es9 n12 b48 es50 es6 else some (Out.ret (vbool false),[]) else Ω (E cx (Key.fn 89) [AV.list 0 2 es6,AV.agg [AV.list 0 1 es9,vu (ω υ n12),vbool b48,AV.list 0 2 es50]] []) fun r212↦Ω (ret1 r212) fun v213↦Ω (AV.bool? v213) fun b214↦bif b214 then bif decide (n15>0) then q23_3 n15 es9 n12 b48 es50 es6 else q23_3 n15 es9 n12 b48 es50 es6 else q23_4 es9 n12 b48 es50 es6 else none else none else if 0≤n15 then if n15≤((ℓ es9):Int) then Ω (E cx (Key.fn 89) [AV.list 0 2 es6,AV.agg [AV.list 0 1 (List.drop (Int.toNat n15) (List.take (ℓ es9) es9)),vu (ω υ n12),vbool b35,AV.list 0 2 es37]] []) fun r314↦Ω (ret1 r314) fun v315↦Ω (AV.bool? v315) fun b316↦bif b316 then Ω (E cx (Key.fn 89) [AV.list 0 2 es6,AV.agg [AV.list 0 1 es9,vu (ω υ n12),vbool b48,AV.list 0 2 es50]] []) fun r317↦Ω (ret1 r317) fun v318↦Ω (AV.bool? v318) fun b319↦bif b319 then bif decide (n15>0) then some (Out.ret (vbool false),[]) else q23_2 n15 es9 n12 b48 es50 es6 else q23_4 es9 n12 b48 es50 es6 else Ω (E cx (Key.fn 89) [AV.list 0 2 es6,AV.agg [AV.list 0 1 es9,vu (ω υ n12),vbool b48,AV.list 0 2 es50]] []) fun r419↦Ω (ret1 r419) fun v420↦Ω (AV.bool? v420) fun b421↦bif b421 then bif decide (n15>0) then some (Out.ret (vbool false),[]) else q23_3 n15 es9 n12 b48 es50 es6 else q23_4 es9 n12 b48 es50 es6 else none else none else none else none else some (Out.ret (vbool false),[]) else none else none else none else none:=by
 intros
 exact(E_ov f78_true [188,142] _ _ _).trans (by kernel_rfl)
end Go.Proofs.Av
