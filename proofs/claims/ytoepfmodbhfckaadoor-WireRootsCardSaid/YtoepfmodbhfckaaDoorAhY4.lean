/- The tree of law 4. -/
import Derived.Test.YtoepfmodbhfckaaDoorAhV
set_option maxRecDepth 100000
namespace Go.Proofs.Av
open Go
open Option renaming bind→Ω
open Go.IntKind renaming i64→ı
open Go.IntKind renaming u64→υ
open Go.IntKind renaming wrap→ω
noncomputable def q4_0:Int→Option (Out×Heap) :=
 fun c7↦bif decide (c7=0) then some (Out.ret (vbool true),[]) else some (Out.ret (vbool false),[])
noncomputable def q4_1:Int→Option (Out×Heap) :=
 fun c7↦bif decide (c7=0) then some (Out.ret (vbool false),[]) else some (Out.ret (vbool true),[])
theorem f4:∀(d0 d1 d2 d3 d4 which5 at6 c7:Int),E cx (Key.fn 4) [AV.agg [vu d0,vu d1,vu d2,vu d3,vu d4],vi which5,vi at6,vb c7] []=Ω (E cx (Key.fn 13) [vi at6,vi 8] []) fun r8↦Ω (ret1 r8) fun v9↦Ω (AV.int? ı v9) fun n10↦if ω ı (Int.mul 8 n10)<0 then none else Ω (E cx (Key.fn 13) [vi which5,vi 5] []) fun r11↦Ω (ret1 r11) fun v12↦Ω (AV.int? ı v12) fun n13↦bif decide (n13=0) then Ω (E cx (Key.fn 22) [AV.agg [vu d0,vu d1,vu d2,vu d3,vu d4]] []) fun r14↦Ω (ret1 r14) fun v15↦Ω (AV.int? υ v15) fun n16↦Ω (E cx (Key.fn 22) [AV.agg [vu (ixor υ d0 (ishl υ (ω υ c7) (ω ı (Int.mul 8 n10)))),vu d1,vu d2,vu d3,vu d4]] []) fun r17↦Ω (ret1 r17) fun v18↦Ω (AV.int? υ v18) fun n19↦bif decide (n16=n19) then q4_0 c7 else q4_1 c7 else bif decide (n13=1) then Ω (E cx (Key.fn 22) [AV.agg [vu d0,vu d1,vu d2,vu d3,vu d4]] []) fun r20↦Ω (ret1 r20) fun v21↦Ω (AV.int? υ v21) fun n22↦Ω (E cx (Key.fn 22) [AV.agg [vu d0,vu (ixor υ d1 (ishl υ (ω υ c7) (ω ı (Int.mul 8 n10)))),vu d2,vu d3,vu d4]] []) fun r23↦Ω (ret1 r23) fun v24↦Ω (AV.int? υ v24) fun n25↦bif decide (n22=n25) then q4_0 c7 else q4_1 c7 else bif decide (n13=2) then Ω (E cx (Key.fn 22) [AV.agg [vu d0,vu d1,vu d2,vu d3,vu d4]] []) fun r26↦Ω (ret1 r26) fun v27↦Ω (AV.int? υ v27) fun n28↦Ω (E cx (Key.fn 22) [AV.agg [vu d0,vu d1,vu (ixor υ d2 (ishl υ (ω υ c7) (ω ı (Int.mul 8 n10)))),vu d3,vu d4]] []) fun r29↦Ω (ret1 r29) fun v30↦Ω (AV.int? υ v30) fun n31↦bif decide (n28=n31) then q4_0 c7 else q4_1 c7 else bif decide (n13=3) then Ω (E cx (Key.fn 22) [AV.agg [vu d0,vu d1,vu d2,vu d3,vu d4]] []) fun r32↦Ω (ret1 r32) fun v33↦Ω (AV.int? υ v33) fun n34↦Ω (E cx (Key.fn 22) [AV.agg [vu d0,vu d1,vu d2,vu (ixor υ d3 (ishl υ (ω υ c7) (ω ı (Int.mul 8 n10)))),vu d4]] []) fun r35↦Ω (ret1 r35) fun v36↦Ω (AV.int? υ v36) fun n37↦bif decide (n34=n37) then q4_0 c7 else q4_1 c7 else bif decide (n13=4) then Ω (E cx (Key.fn 22) [AV.agg [vu d0,vu d1,vu d2,vu d3,vu d4]] []) fun r38↦Ω (ret1 r38) fun v39↦Ω (AV.int? υ v39) fun n40↦Ω (E cx (Key.fn 22) [AV.agg [vu d0,vu d1,vu d2,vu d3,vu (ixor υ d4 (ishl υ (ω υ c7) (ω ı (Int.mul 8 n10))))]] []) fun r41↦Ω (ret1 r41) fun v42↦Ω (AV.int? υ v42) fun n43↦bif decide (n40=n43) then q4_0 c7 else q4_1 c7 else Ω (E cx (Key.fn 22) [AV.agg [vu d0,vu d1,vu d2,vu d3,vu d4]] []) fun r44↦Ω (ret1 r44) fun v45↦Ω (AV.int? υ v45) fun n46↦Ω (E cx (Key.fn 22) [AV.agg [vu d0,vu d1,vu d2,vu d3,vu d4]] []) fun r47↦Ω (ret1 r47) fun v48↦Ω (AV.int? υ v48) fun n49↦bif decide (n46=n49) then q4_0 c7 else q4_1 c7:=by
 intros
 exact(E_ov f5_true [87] _ _ _).trans (by kernel_rfl)
end Go.Proofs.Av
