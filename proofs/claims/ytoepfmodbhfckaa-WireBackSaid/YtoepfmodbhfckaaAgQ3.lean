/- WireBack is true. -/
import Derived.Test.YtoepfmodbhfckaaAgY3
set_option maxRecDepth 100000
namespace Go.Proofs.Av
open Go
theorem q3t {a : Ag} (h0 : a.q.length ≤ 4000000) (h1 : a.v.on.length ≤ 4000000) (h2 : a.v.p.length ≤ 4000000) (x y z : Nat) :
  q3_0 0 0 a.by0 a.g (prs a.q) a.v.a a.v.b a.v.c a.v.d a.v.e a.v.n (ints a.v.on) a.v.f (prs a.v.p) a.by0 a.g (prs a.q) a.v.a a.v.b a.v.c a.v.d a.v.e a.v.n (ints a.v.on) a.v.f (prs a.v.p) 0 x x y y z z = rb true := by
 unfold q3_0
 refine (goD rfl _ _).trans ((goD rfl _ _).trans ((goT ((c34 a a h0 h1 h2).t rfl) _ _).trans ((goD rfl _ _).trans ?_)))
 have hd : ∀ (n : Int), decide (n = n) = true := fun n => decide_eq_true rfl
 rw [hd, hd, hd]
 refine (goS (c32 x y z) _).trans (goD ?_ _ _)
 show (((recB x y z).length : Nat) : Int) = 24
 rw [rec_len]
 rfl
theorem c3 (x y : Rw) (hx : RwOk x) (hy : RwOk y) {by' : Int} (hb : RI by') (q : List Int) (hq : ∀ r ∈ q, RI r) {r1 r2 r3 : Nat} (h1 : U8 r1) (h2 : U8 r2) (h3 : U8 r3) :
  E cx (Key.fn 3) [.agg (rC x), .agg (rC y), vi by', .list 0 1 (ints q), .agg [vu r1, vu r2, vu r3]] [] = rb true := by
 obtain ⟨lx1, lx2⟩ := raw_on x
 obtain ⟨ly1, ly2⟩ := raw_on y
 obtain ⟨ao, _⟩ := rawA_ok x by' q
 have la0 : (rawA x by' q).q.length ≤ 4000000 := by have := tokP_len q; show (tokP q).length ≤ _; omega
 refine (f3 _ _ _ _ _ _ _ _ _ _ _ _ _ _ _ _ _ _ _ _ _ _ _).trans ((goV (c25 x hx) _).trans ((goV (c25 y hy) _).trans ((goJn (k26 (raw_ok x) lx1 lx2) _).trans ((goJn (k26 (raw_ok y) ly1 ly2) _).trans ((goVT (k27 (raw_ok x)) _).trans ?_)))))
 refine (goAg (c28 x hx hb q hq) _).trans ((goJn (k29 ao la0 lx1 lx2) _).trans ((goAT (k30 ao) _).trans ((goS (c32 r1 r2 r3) _).trans ((goRT (k31 h1 h2 h3) _).trans ?_))))
 refine (goD rfl _ _).trans ((goD rfl _ _).trans ((goD rfl _ _).trans ((goT ((c33 (rawV x) (rawV x) lx1 lx2).t rfl) _ _).trans ?_)))
 by_cases h : voteB (rawV x) = voteB (rawV y)
 ·refine (goQ h _ _).trans ((goT ((c33 (rawV x) (rawV y) lx1 lx2).t (voteB_inj (raw_ok x) (raw_ok y) h)) _ _).trans ?_)
  exact q3t la0 lx1 lx2 r1 r2 r3
 ·refine (goQf h _ _).trans ((goF ((c33 (rawV x) (rawV y) lx1 lx2).f fun e => h (by rw [e])) _ _).trans ?_)
  exact q3t la0 lx1 lx2 r1 r2 r3
end Go.Proofs.Av
