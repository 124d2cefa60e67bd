/- Wire's fixed calls are answered as they must be. -/
import Derived.Test.YtoepfmodbhfckaaAgP
import Derived.Test.YtoepfmodbhfckaaAgYa
set_option maxRecDepth 100000
namespace Go.Proofs.Av
open Go
instance (w : Nat) : Decidable (U8 w) := by unfold U8; infer_instance
abbrev nlV : AV := .val (.slice none 0 0)
def vn (n : Int) : Vt := ⟨0, 0, 0, 0, 0, n, [], false, []⟩
theorem n26 (a b c d e n : Int) (f : Bool) : E cx (Key.fn 26) [.agg [vu a, vu b, vu c, vu d, vu e, vi n, nlV, vbool f, nlV]] [] = E cx (Key.fn 26) [.agg [vu a, vu b, vu c, vu d, vu e, vi n, .list 0 1 [], vbool f, .list 0 2 []]] [] := E_norm (by kernel_rfl) (by kernel_rfl)
theorem n29 (i : Int) (g : Bool) (a b c d e n : Int) (f : Bool) : E cx (Key.fn 29) [.agg [vu i, vbool g, nlV, vu a, vu b, vu c, vu d, vu e, vi n, nlV, vbool f, nlV]] [] = E cx (Key.fn 29) [.agg [vu i, vbool g, .list 0 2 [], vu a, vu b, vu c, vu d, vu e, vi n, .list 0 1 [], vbool f, .list 0 2 []]] [] := E_norm (by kernel_rfl) (by kernel_rfl)
theorem n33 (_x : List AV) (a1 b1 c1 d1 e1 m : Int) (l1 l2 : List (List AV)) (g : Bool) (a b c d e n : Int) (f : Bool) : E cx (Key.fn 33) [.agg [vu a1, vu b1, vu c1, vu d1, vu e1, vi m, .list 0 1 l1, vbool g, .list 0 2 l2], .agg [vu a, vu b, vu c, vu d, vu e, vi n, nlV, vbool f, nlV]] [] =
  E cx (Key.fn 33) [.agg [vu a1, vu b1, vu c1, vu d1, vu e1, vi m, .list 0 1 l1, vbool g, .list 0 2 l2], .agg [vu a, vu b, vu c, vu d, vu e, vi n, .list 0 1 [], vbool f, .list 0 2 []]] [] := E_norm (by kernel_rfl) (by kernel_rfl)
theorem n34 (i1 : Int) (g1 : Bool) (l0 : List (List AV)) (a1 b1 c1 d1 e1 m : Int) (l1 l2 : List (List AV)) (g : Bool) (i : Int) (g0 : Bool) (a b c d e n : Int) (f : Bool) :
  E cx (Key.fn 34) [.agg [vu i1, vbool g1, .list 0 2 l0, vu a1, vu b1, vu c1, vu d1, vu e1, vi m, .list 0 1 l1, vbool g, .list 0 2 l2], .agg [vu i, vbool g0, nlV, vu a, vu b, vu c, vu d, vu e, vi n, nlV, vbool f, nlV]] [] =
  E cx (Key.fn 34) [.agg [vu i1, vbool g1, .list 0 2 l0, vu a1, vu b1, vu c1, vu d1, vu e1, vi m, .list 0 1 l1, vbool g, .list 0 2 l2], .agg [vu i, vbool g0, .list 0 2 [], vu a, vu b, vu c, vu d, vu e, vi n, .list 0 1 [], vbool f, .list 0 2 []]] [] := E_norm (by kernel_rfl) (by kernel_rfl)
theorem v0_ok : VOk v0 := ⟨by decide, by decide, by decide, by decide, by decide, by rfl, rightT_of (by simp [v0]) .nil, fun p hp => by cases hp⟩
def a3 : Ag := ⟨3, false, [], v0⟩
theorem a3_ok : AOk a3 := by
 refine ⟨by decide, rightT_of (by simp [a3]) .nil, fun p hp => (by cases hp), v0_ok, ?_⟩
 have h1 := agg_len a3
 have h2 := (vote_size v0_ok.right v0_ok.tok).2
 have h3 : a3.v = v0 := rfl
 have h4 : a3.q.length = 0 := rfl
 rw [h3, h4] at h1
 omega
def z0 : B := List.replicate 40 0 ++ [48, 0, 0, 0, 49, 0, 0, 0, 1, 0]
theorem vz : voteB v0 = z0 := by rfl
theorem z0_cut : unvR (z0.take 30) = (v0, 3) := by
 have h : (splitR (z0.take 30) 40 2) = ([], [], 3) := splitR_3 (f := 40) (m := 2) (by omega) (by omega) (by decide) (by decide)
 rw [unvR_1 (by rw [h]; simp), h]
theorem k26 {v : Vt} (h : VOk v) (h1 : v.on.length ≤ 4000000) (h2 : v.p.length ≤ 4000000) : E cx (Key.fn 26) [.agg (vC v)] [] = RJ (voteB v) 0 := by
 have := c26 v h1 h2
 rw [voteR_ok h.right h.tok] at this
 exact this
theorem k27 {v : Vt} (h : VOk v) : RVt (E cx (Key.fn 27) [vs (mk (voteB v))] []) v 0 := by
 have := c27 (voteB v)
 rw [unv_vote h] at this
 exact this
theorem k29 {a : Ag} (h : AOk a) (h0 : a.q.length ≤ 4000000) (h1 : a.v.on.length ≤ 4000000) (h2 : a.v.p.length ≤ 4000000) : E cx (Key.fn 29) [.agg (aC a)] [] = RJ (aggB a) 0 := by
 have := c29 a h0 h1 h2
 rw [aggR_ok h] at this
 exact this
theorem k30 {a : Ag} (h : AOk a) : RAg (E cx (Key.fn 30) [vs (mk (aggB a))] []) a 0 := by
 have := c30 (aggB a)
 rw [una_agg h] at this
 exact this
theorem k31 {a b c : Nat} (ha : U8 a) (hb : U8 b) (hc : U8 c) : E cx (Key.fn 31) [vs (mk (recB a b c))] [] = some (Out.ret (.tuple [.agg [vu a, vu b, vu c], vi 0]), []) := by
 have := c31 (recB a b c)
 rw [unr_rec ha hb hc] at this
 exact this
theorem vn1 : E cx (Key.fn 26) [.agg (vC (vn (-1)))] [] = RJ [] 1 := by
 have := c26 (vn (-1)) (by simp [vn]) (by simp [vn])
 have h : lstO (vn (-1)).n (vn (-1)).on = ([], 1) := by rfl
 rw [voteR_1 (by rw [h]; simp), h] at this
 exact this
theorem k31e : E cx (Key.fn 31) [vs (mk [])] [] = some (Out.ret (.tuple [.agg [vu 0, vu 0, vu 0], vi 2]), []) := by
 have := c31 []
 rw [unrR_1 (by simp)] at this
 exact this
theorem f24_true : E cx (Key.fn 24) [] [] = rb true := by
 have hc := c27 (z0.take 30)
 rw [z0_cut] at hc
 have hcut : ByteArray.extract (mk (voteB v0)) 0 (Int.toNat (if 30 < ((ByteArray.size (mk (voteB v0)) : Nat) : Int) then 30 else ((ByteArray.size (mk (voteB v0)) : Nat) : Int))) = mk (z0.take 30) := by
  rw [vz]
  have : ((ByteArray.size (mk z0) : Nat) : Int) = 50 := rfl
  rw [this, if_pos (by omega), ext_mk]
  rfl
 rw [← hcut] at hc
 have hsz : ((ByteArray.size (mk (voteB v0)) : Nat) : Int) = 50 := by rw [vz]; rfl
 have hif : (if 30 < ((ByteArray.size (mk (voteB v0)) : Nat) : Int) then (30 : Int) else ((ByteArray.size (mk (voteB v0)) : Nat) : Int)) = 30 := by rw [hsz]; rfl
 have e1 := (goJn ((n26 0 0 0 0 0 0 false).trans (k26 v0_ok (by simp [v0]) (by simp [v0]))) (ρ := Out × Heap))
 refine f24.trans ((e1 _).trans ((goVT (k27 v0_ok) _).trans ((goY (by rw [hif]; omega) _ _).trans ((goY (by rw [hif, hsz]; omega) _ _).trans ((goVT hc _).trans ((goJn ((n26 0 0 0 0 0 (-1) false).trans vn1) _).trans
  ((goJn ((n29 3 false 0 0 0 0 0 0 false).trans (k29 a3_ok (by simp [a3]) (by simp [a3, v0]) (by simp [a3, v0]))) _).trans ((goAT (k30 a3_ok) _).trans ((goS (c32 1 2 3) _).trans ((goRT (k31 (a := 1) (b := 2) (c := 3) (by decide) (by decide) (by decide)) _).trans ((goRT (a := 0) (b := 0) (c := 0) k31e _).trans ?_)))))))))))
 refine (goD rfl _ _).trans ?_
 rw [strOf, app_mk]
 refine (goQ (by rw [vz]; rfl) _ _).trans ((goD rfl _ _).trans ((goT (((n33 [] 0 0 0 0 0 0 [] [] false 0 0 0 0 0 0 false).trans ((c33 v0 v0 (by simp [v0]) (by simp [v0])).t rfl))) _ _).trans ?_))
 refine (goD rfl _ _).trans ((goD rfl _ _).trans ((goD rfl _ _).trans ((goD rfl _ _).trans ((goT ((n34 3 false [] 0 0 0 0 0 0 [] [] false 3 false 0 0 0 0 0 0 false).trans ((c34 a3 a3 (by simp [a3]) (by simp [a3, v0]) (by simp [a3, v0])).t rfl)) _ _).trans ?_))))
 refine (goD rfl _ _).trans ?_
 rfl
end Go.Proofs.Av
