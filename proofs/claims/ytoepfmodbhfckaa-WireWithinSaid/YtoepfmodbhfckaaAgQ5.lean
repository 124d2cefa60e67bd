/- WireWithin is true. -/
import Derived.Test.YtoepfmodbhfckaaAgY5
set_option maxRecDepth 100000
namespace Go.Proofs.Av
open Go
theorem c5 (x : Rw) (hx : RwOk x) {by' : Int} (hb : RI by') (q : List Int) (hq : ∀ r ∈ q, RI r) : E cx (Key.fn 5) [.agg (rC x), vi by', .list 0 1 (ints q)] [] = rb true := by
 obtain ⟨lx1, lx2⟩ := raw_on x
 obtain ⟨ao, asz⟩ := rawA_ok x by' q
 have la0 : (rawA x by' q).q.length ≤ 4000000 := by have := tokP_len q; show (tokP q).length ≤ _; omega
 have hp := pickI_lt (c := x.n) (n := 40) (by omega)
 have ok := raw_ok x
 have hs := (vote_size ok.right ok.tok).1
 have hn : (rawV x).n = pickI x.n 40 := rfl
 have hl := agg_len (rawA x by' q)
 have hv : (rawA x by' q).v = rawV x := rfl
 have hq' : (rawA x by' q).q = tokP q := rfl
 have ht := tokP_len x.ps
 have htp : (rawV x).p = tokP x.ps := rfl
 have htq := tokP_len q
 rw [hv, hq'] at hl
 rw [hn, htp] at hs
 have hd5 : VOk ⟨(rawV x).a, (rawV x).b, (rawV x).c, (rawV x).d, (rawV x).e, 0, [], false, []⟩ := ⟨ok.a, ok.b, ok.c, ok.d, ok.e, by rfl, rightT_of (by simp) .nil, fun p hp => by cases hp⟩
 have hs0 := (vote_size hd5.right hd5.tok).1
 simp only [List.length_nil] at hs0
 refine (f5 _ _ _ _ _ _ _ _ _ _ _).trans ((goAg (c28 x hx hb q hq) _).trans ((goJn (k26 ok lx1 lx2) _).trans ((goJn (k29 ao la0 lx1 lx2) _).trans ((goE rfl _ _).trans ((goE rfl _ _).trans ?_)))))
 have sz : ∀ l : B, ((ByteArray.size (mk l) : Nat) : Int) = (l.length : Int) := fun _ => rfl
 have tdiv : Int.tdiv (pickI x.n 40) 8 = (((pickI x.n 40).toNat / 8 : Nat) : Int) := by
  obtain ⟨k, hk⟩ : ∃ k : Nat, pickI x.n 40 = k := ⟨(pickI x.n 40).toNat, by omega⟩
  rw [hk]
  rfl
 have e1 : ((ByteArray.size (mk (voteB (rawV x))) : Nat) : Int) = IntKind.wrap .i64 (Int.add (IntKind.wrap .i64 (Int.add (IntKind.wrap .i64 (Int.add (IntKind.wrap .i64 (Int.add 48 (IntKind.wrap .i64 (Int.tdiv (pickI x.n 40) 8)))) 1)) 1)) (IntKind.wrap .i64 (Int.mul 16 (((prs (tokP x.ps)).length : Nat) : Int)))) := by
  rw [sz, prs_len, tdiv]
  obtain ⟨k, hk⟩ : ∃ k : Nat, (pickI x.n 40).toNat / 8 = k := ⟨_, rfl⟩
  rw [hk] at hs ⊢
  have hk5 : k ≤ 5 := by omega
  rw [wr_id (n := (k : Int)) (by omega) (by omega), wr_add (a := 48) (b := k) (by omega) (by omega), wr_add (a := 48 + k) (b := 1) (by omega) (by omega), wr_add (a := 48 + k + 1) (b := 1) (by omega) (by omega), wr_mul (a := 16) (by omega) (by omega), wr_add (by omega) (by omega), hs]
  omega
 have e2 : ((ByteArray.size (mk (aggB (rawA x by' q))) : Nat) : Int) = IntKind.wrap .i64 (Int.add (IntKind.wrap .i64 (Int.add 17 (IntKind.wrap .i64 (Int.mul 16 (((prs (tokP q)).length : Nat) : Int))))) ((ByteArray.size (mk (voteB (rawV x))) : Nat) : Int)) := by
  rw [sz, sz, prs_len, wr_mul (a := 16) (by omega) (by omega), wr_add (a := 17) (by omega) (by omega), wr_add (by omega) (by omega), hl]
  omega
 refine (goE e1 _ _).trans ((goE e2 _ _).trans ((goJn ((n26 _ _ _ _ _ 0 false).trans (k26 hd5 (by simp) (by simp))) _).trans ?_))
 have hsub : IntKind.wrap .i64 (Int.sub ((ByteArray.size (mk (aggB (rawA x by' q))) : Nat) : Int) ((ByteArray.size (mk (voteB (rawV x))) : Nat) : Int)) = (((aggB (rawA x by' q)).length - (voteB (rawV x)).length : Nat) : Int) := by
  rw [sz, sz, wr_sub (by omega) (by omega)]
  omega
 rw [hsub, Int.toNat_natCast]
 refine (goY (by omega) _ _).trans ((goY (by rw [sz]; omega) _ _).trans ?_)
 rw [ext_mk, ext_mk, ext_mk]
 have cut : ∀ (d : Vt), (voteB d).take 40 = datB d := fun d => by
  have := datB_len d
  unfold voteB joined
  rw [List.append_assoc, List.take_append_of_le_length (by omega), List.take_of_length_le (by omega)]
 have hend : ((aggB (rawA x by' q)).take (ByteArray.size (mk (aggB (rawA x by' q))))).drop ((aggB (rawA x by' q)).length - (voteB (rawV x)).length) = voteB (rawV x) := by
  rw [show ByteArray.size (mk (aggB (rawA x by' q))) = (aggB (rawA x by' q)).length from rfl, List.take_length]
  have hb : aggB (rawA x by' q) = (wB [(rawA x by' q).by0] ++ Av.hs ((wB [(rawA x by' q).by0]).length + 4 * 2) [encB (rawA x by' q).g (rawA x by' q).q, voteB (rawV x)] ++ encB (rawA x by' q).g (rawA x by' q).q) ++ voteB (rawV x) := by
   unfold aggB joined
   simp
   rfl
  rw [hb, List.length_append, Nat.add_sub_cancel, List.drop_left]
 refine (goQ hend _ _).trans ((goD rfl _ _).trans ((goD (by rw [sz, hs0]; rfl) _ _).trans ((goY (by rw [sz, hs0]; decide) _ _).trans ((goY (by rw [sz, hs]; omega) _ _).trans ?_))))
 refine (goQ ?_ _ _)
 rw [List.drop_zero, List.drop_zero, cut, cut]
 rfl
end Go.Proofs.Av
