/- The document's votes, aggregates, records, and roots. -/
import Derived.Test.YtoepfmodbhfckaaDoorAhW
set_option maxRecDepth 100000
namespace Go.Proofs.Av
open Go
theorem lst_err {n:Int}{l:List Int}:(lstO n l).2=0∧rightB n l=true∨lstO n l=([],1)∧rightB n l=false:=by
 unfold lstO
 cases h:rightB n l with
 |true=>exact .inl ⟨rfl,rfl⟩
 |false=>exact .inr ⟨rfl,rfl⟩
theorem enc_err {f:Bool}{l:List P2}:(encR f l).2=0∧rightT l=true∨encR f l=([],1):=by
 unfold encR
 by_cases h:rightT l=true
 ·rw [if_pos h];exact .inl ⟨rfl,h⟩
 ·rw [if_neg h];exact .inr rfl
theorem vote_err (v:Vt):(voteR v).2=0∨voteR v=([],1):=by
 rcases lst_err (n:=v.n) (l:=v.on) with⟨h1,h2⟩ |⟨h1,_⟩
 ·rcases enc_err (f:=v.f) (l:=v.p) with⟨h3,h4⟩ |h3
  ·rw [voteR_ok h2 h4];exact .inl rfl
  ·rw [voteR_2 (by rw [h1];simp) (by rw [h3];simp),h3];exact .inr rfl
 ·rw [voteR_1 (by rw [h1];simp),h1];exact .inr rfl
theorem putI8 (w:Nat):putI w 8=put w 8:=putI_ok (by omega) (by omega)
theorem c33d (a b c d e:Nat):E cx (Key.fn 33) [.agg [vu a,vu b,vu c,vu d,vu e]] []=some (Out.ret (vs (mk (wB [a,b,c,d,e]))),[]):=by
 have l8:∀w,(put w 8).length=8:=fun w=>put_len w 8
 refine(f33 _ _ _ _ _).trans ((goS (c107 a 8) _).trans ((goS (c107 b 8) _).trans ?_))
 rw [putI8,putI8,app_mk]
 refine(goN (show ¬(((put a 8).length+(put b 8).length:Nat):Int)>9223372036854775807 by rw [l8,l8];omega) _ _).trans ((goS (c107 c 8) _).trans ?_)
 rw [putI8,app_mk]
 refine(goN (show ¬(((put a 8++put b 8).length+(put c 8).length:Nat):Int)>9223372036854775807 by rw [List.length_append,l8,l8,l8];omega) _ _).trans ((goS (c107 d 8) _).trans ?_)
 rw [putI8,app_mk]
 refine(goN (show ¬(((put a 8++put b 8++put c 8).length+(put d 8).length:Nat):Int)>9223372036854775807 by rw [List.length_append,List.length_append,l8,l8,l8,l8];omega) _ _).trans ((goS (c107 e 8) _).trans ?_)
 rw [putI8,app_mk]
 refine(goN (show ¬(((put a 8++put b 8++put c 8++put d 8).length+(put e 8).length:Nat):Int)>9223372036854775807 by rw [List.length_append,List.length_append,List.length_append,l8,l8,l8,l8,l8];omega) _ _).trans ?_
 have:put a 8++put b 8++put c 8++put d 8++put e 8=wB [a,b,c,d,e]:=by simp [wB]
 rw [this]
theorem c9 (v:Vt) (h1:v.on.length≤4000000) (h2:v.p.length≤4000000):E cx (Key.fn 9) [.agg (vC v)] []=RJ' (voteR v):=by
 refine(f9 v.a v.b v.c v.d v.e v.n (ints v.on) v.f (prs v.p)).trans ((goJn (c57 v.n v.on h1) _).trans ((goJn (c39 v.f v.p h2) _).trans ?_))
 by_cases hl:(lstO v.n v.on).2≠0
 ·rw [voteR_1 hl]
  refine(goEn hl _ _).trans ?_
  rcases lst_err (n:=v.n) (l:=v.on) with⟨h,_⟩ |⟨h,_⟩
  ·exact absurd h hl
  ·rw [h]
 by_cases ht:(encR v.f v.p).2≠0
 ·rw [voteR_2 hl ht]
  refine(goE (by simpa using hl) _ _).trans ((goEn ht _ _).trans ?_)
  rcases enc_err (f:=v.f) (l:=v.p) with⟨h,_⟩ |h
  ·exact absurd h ht
  ·rw [h]
 rw [voteR_3 hl ht]
 exact(goE (by simpa using hl) _ _).trans ((goE (by simpa using ht) _ _).trans ((goS (c33d v.a v.b v.c v.d v.e) _).trans (goJn (c9921 (datB v) [(lstO v.n v.on).1,(encR v.f v.p).1] (by rw [datB_len];omega)) _)))
theorem c11 (a:Ag) (h0:a.q.length≤4000000) (h1:a.v.on.length≤4000000) (h2:a.v.p.length≤4000000):E cx (Key.fn 11) [.agg (aC a)] []=RJ' (aggR a):=by
 refine(f11 a.by0 a.g (prs a.q) a.v.a a.v.b a.v.c a.v.d a.v.e a.v.n (ints a.v.on) a.v.f (prs a.v.p)).trans ((goJn (c39 a.g a.q h0) _).trans ((goJn (c9 a.v h1 h2) _).trans ?_))
 by_cases hl:(encR a.g a.q).2≠0
 ·rw [aggR_1 hl]
  refine(goEn hl _ _).trans ?_
  rcases enc_err (f:=a.g) (l:=a.q) with⟨h,_⟩ |h
  ·exact absurd h hl
  ·rw [h]
 by_cases hv:(voteR a.v).2≠0
 ·rw [aggR_2 hl hv]
  refine(goE (by simpa using hl) _ _).trans ((goEn hv _ _).trans ?_)
  rcases vote_err a.v with h |h
  ·exact absurd h hv
  ·rw [h]
 rw [aggR_3 hl hv]
 refine(goE (by simpa using hl) _ _).trans ((goE (by simpa using hv) _ _).trans ((goS (c107 a.by0 8) _).trans ?_))
 rw [putI8]
 have hw:wB [a.by0]=put a.by0 8:=List.append_nil _
 have:=c9921 (wB [a.by0]) [(encR a.g a.q).1,(voteR a.v).1] (by rw [wB_len];simp)
 rw [hw] at this ⊢
 exact goJn this _
theorem c43a {s:B}{i:Nat}(h:i+8≤s.length):E cx (Key.fn 43) [vs (mk s),vi i] []=some (Out.ret (vu (n8 s i)),[]):=by
 have sz:((ByteArray.size (mk s):Nat):Int)=(s.length:Int):=rfl
 refine(f43 _ _).trans ((goY (by omega) _ _).trans ((goY (by rw [sz];omega) _ _).trans ?_))
 rw [Int.toNat_natCast,ext_mk,show ByteArray.size (mk s)=s.length from rfl,List.take_length]
 have ht:=c117 (s.drop i) 8
 rw [take8 (by simp;omega)] at ht
 exact goTk ht _
theorem goBE {ρ:Type}{x:Option (Out×Heap)}{r:Int×List Int×Int}(h:RB x r) (k:Int→List (List AV)→Int→Option ρ):(x.bind fun q=>(ret1 q).bind fun v=>(AV.tup? v).bind fun vs=>(uncons? vs).bind fun pp=>(AV.cells? pp.fst).bind fun cs=>(uncons? cs).bind fun p0=>(AV.int? .i64 p0.fst).bind fun n=>(uncons? p0.snd).bind fun p1=>(AV.list? 1 p1.fst).bind fun l=>(nil? p1.snd).bind fun _ =>
  (uncons? pp.snd).bind fun p9=>(AV.int? .i64 p9.fst).bind fun er=>(nil? p9.snd).bind fun _=>k n l er)=k r.1 (ints r.2.1) r.2.2:=goRBt h k
theorem c15 (s:B):RVt (E cx (Key.fn 15) [vs (mk s)] []) (unvR s).1 (unvR s).2:=by
 have e0:=(f15 (mk s)).trans (goSp (c9923 s (f:=40) (m:=2) ⟨by omega,by omega⟩ ⟨by omega,by omega⟩) _)
 have nilV:∀ {e:Int}{x:Option (Out×Heap)},x=some (Out.ret (.tuple [.agg [vu 0,vu 0,vu 0,vu 0,vu 0,vi 0,.val (.slice none 0 0),vbool false,.val (.slice none 0 0)],vi e]),[])→RVt x v0 e:=fun h=>⟨_,_,h,rfl,rfl⟩
 by_cases h:(splitR s 40 2).2.2≠0
 ·rw [unvR_1 h]
  exact nilV (e0.trans (goEn h _ _))
 have h':(splitR s 40 2).2.2=0:=by simpa using h
 obtain⟨k1,k2,k3,k4⟩:=split_ok (f:=40) (m:=2) (by omega) (by omega) h'
 have k4':splitR s 40 2=(s.take 40,[piece s 40 2 0,piece s 40 2 1],0):=k4
 rw [unvR_2 h]
 have hp0:=piece_le s 40 2 0
 have hp1:=piece_le s 40 2 1
 have L:(s.take 40).length=40:=by simp;omega
 rw [k4'] at e0
 have e1:=e0.trans ((goE rfl _ _).trans ((goP (ps:=[piece s 40 2 0,piece s 40 2 1]) (i:=0) (n:=0) rfl rfl _).trans (goRBt (c74 (piece s 40 2 0) (by omega) 2048) _)))
 by_cases hu:(unlO (piece s 40 2 0) 2048).2.2≠0
 ·rw [unvP_1 hu]
  exact nilV (e1.trans (goEn hu _ _))
 have e2:=e1.trans ((goE (by simpa using hu) _ _).trans ((goP (ps:=[piece s 40 2 0,piece s 40 2 1]) (i:=1) (n:=1) rfl rfl _).trans (goTok (c50 (piece s 40 2 1) (by omega)) _)))
 by_cases hd:(decR (piece s 40 2 1)).2.2≠0
 ·rw [unvP_2 hu hd]
  exact nilV (e2.trans (goEn hd _ _))
 rw [unvP_3 hu hd]
 exact⟨_,_,e2.trans ((goE (by simpa using hd) _ _).trans ((goU (c43a (s:=s.take 40) (i:=0) (by omega)) _).trans ((goU (c43a (s:=s.take 40) (i:=8) (by omega)) _).trans ((goU (c43a (s:=s.take 40) (i:=16) (by omega)) _).trans ((goU (c43a (s:=s.take 40) (i:=24) (by omega)) _).trans (goU (c43a (s:=s.take 40) (i:=32) (by omega)) _)))))),rfl,rfl⟩
theorem c17 (s:B):RAg (E cx (Key.fn 17) [vs (mk s)] []) (unaR s).1 (unaR s).2:=by
 have e0:=(f17 (mk s)).trans (goSp (c9923 s (f:=8) (m:=2) ⟨by omega,by omega⟩ ⟨by omega,by omega⟩) _)
 have nilA:∀ {e:Int}{x:Option (Out×Heap)},x=some (Out.ret (.tuple [.agg [vu 0,vbool false,.val (.slice none 0 0),vu 0,vu 0,vu 0,vu 0,vu 0,vi 0,.val (.slice none 0 0),vbool false,.val (.slice none 0 0)],vi e]),[])→RAg x a0 e:=fun h=>⟨_,_,_,h,rfl,rfl,rfl⟩
 by_cases h:(splitR s 8 2).2.2≠0
 ·rw [unaR_1 h]
  exact nilA (e0.trans (goEn h _ _))
 have h':(splitR s 8 2).2.2=0:=by simpa using h
 obtain⟨k1,k2,k3,k4⟩:=split_ok (f:=8) (m:=2) (by omega) (by omega) h'
 have k4':splitR s 8 2=(s.take 8,[piece s 8 2 0,piece s 8 2 1],0):=k4
 rw [unaR_2 h]
 have hp0:=piece_le s 8 2 0
 have L:(s.take 8).length=8:=by simp;omega
 rw [k4'] at e0
 have e1:=e0.trans ((goE rfl _ _).trans ((goP (ps:=[piece s 8 2 0,piece s 8 2 1]) (i:=0) (n:=0) rfl rfl _).trans (goTok (c50 (piece s 8 2 0) (by omega)) _)))
 by_cases hd:(decR (piece s 8 2 0)).2.2≠0
 ·rw [unaP_1 hd]
  exact nilA (e1.trans (goEn hd _ _))
 have e2:=e1.trans ((goE (by simpa using hd) _ _).trans ((goP (ps:=[piece s 8 2 0,piece s 8 2 1]) (i:=1) (n:=1) rfl rfl _).trans (goVT (c15 (piece s 8 2 1)) _)))
 by_cases hv:(unvR (piece s 8 2 1)).2≠0
 ·rw [unaP_2 hd hv]
  exact nilA (e2.trans (goEn hv _ _))
 rw [unaP_3 hd hv]
 have e3:=e2.trans ((goE (by simpa using hv) _ _).trans (goU (c43a (s:=s.take 8) (i:=0) (by omega)) _))
 rw [n8_take (by omega)] at e3
 exact⟨_,_,_,e3,rfl,rfl,rfl⟩
theorem c19 (s:B):E cx (Key.fn 19) [vs (mk s)] []=some (Out.ret (.tuple [.agg [vu (unrR s).1,vu (unrR s).2.1,vu (unrR s).2.2.1],vi (unrR s).2.2.2]),[]):=by
 refine(f19 _).trans ?_
 by_cases h:s.length≠24
 ·rw [unrR_1 h]
  exact goEn (show((s.length:Nat):Int)≠24 by omega) _ _
 ·rw [unrR_2 h]
  exact(goE (show((s.length:Nat):Int)=24 by omega) _ _).trans ((goU (c43a (i:=0) (by omega)) _).trans ((goU (c43a (i:=8) (by omega)) _).trans (goU (c43a (i:=16) (by omega)) _)))
theorem c25r (a b c:Nat):E cx (Key.fn 25) [.agg [vu a,vu b,vu c]] []=some (Out.ret (vs (mk (recB a b c))),[]):=by
 have l8:∀w,(put w 8).length=8:=fun w=>put_len w 8
 refine(f25 _ _ _).trans ((goS (c107 a 8) _).trans ((goS (c107 b 8) _).trans ?_))
 rw [putI8,putI8,app_mk]
 refine(goN (show ¬(((put a 8).length+(put b 8).length:Nat):Int)>9223372036854775807 by rw [l8,l8];omega) _ _).trans ((goS (c107 c 8) _).trans ?_)
 rw [putI8,app_mk]
 refine(goN (show ¬(((put a 8++put b 8).length+(put c 8).length:Nat):Int)>9223372036854775807 by rw [List.length_append,l8,l8,l8];omega) _ _).trans ?_
 have:put a 8++put b 8++put c 8=recB a b c:=by simp [recB,wB]
 rw [this]
def stepS (h:Int) (b:UInt8):Int:=IntKind.wrap .u64 (Int.mul (ixor .u64 h (IntKind.wrap .u64 ((UInt8.toNat b:Nat):Int))) 1099511628211)
def sumS (h:Int) (l:B):Int:=l.foldl stepS h
theorem loopS {f:Nat}{p:List Bool}{s:B}{more:List AV}(hl:s.length≤1000000)
  (hstep:∀(x:Int) (i:Nat) (b:UInt8),s[i]?=some b→E cx (Key.loop f p) ([vu x,vi i,vs (mk s)]++more) []=E cx (Key.loop f p) ([vu (stepS x b),vi (i+1:Nat),vs (mk s)]++more) [])
  (hend:∀(x:Int),E cx (Key.loop f p) ([vu x,vi s.length,vs (mk s)]++more) []=some (Out.jump (.exit 0) [vu x,vi s.length],[])):∀(rest:B) (i:Nat) (x:Int),s.drop i=rest→i+rest.length=s.length →
  E cx (Key.loop f p) ([vu x,vi i,vs (mk s)]++more) []=some (Out.jump (.exit 0) [vu (sumS x rest),vi s.length],[])
 | [],i,x,hd,hi=>by
  have:i=s.length:=by simpa using hi
  subst this
  exact hend x
 |b::rest,i,x,hd,hi=>by
  obtain⟨h1,h2,h3⟩:=drop_cons' hd
  simp only [List.length_cons] at hi
  rw [hstep x i b h1,loopS hl hstep hend rest (i+1) (stepS x b) h2 (by omega)]
  rfl
theorem goJs {ρ:Type}{x:Option (Out×Heap)}{w i:Int}(h:x=some (Out.jump (.exit 0) [vu w,vi i],[])) (k:Int→Option ρ) (z:Out×Heap→Option ρ):(x.bind fun r=>(asJump r).bind fun j=>bif JX.is j.fst (JX.exit 0) then(uncons? j.snd.fst).bind fun p=>(AV.int? .u64 p.fst).bind fun s=>(uncons? p.snd).bind fun q=>(AV.int? .i64 q.fst).bind fun _=>(nil? q.snd).bind fun _=>(nil? j.snd.snd).bind fun _=>k s else z r)=k w:=by rw [h];rfl
theorem c74s (x:Int) (s:B) (hl:s.length≤1000000):E cx (Key.fn 74) [vu x,vs (mk s)] []=some (Out.ret (vu (sumS x s)),[]):=by
 have sz:((ByteArray.size (mk s):Nat):Int)=(s.length:Int):=rfl
 have h:=loopS (f:=74) (p:=[true,false,true,false]) (s:=s) (more:=[vi s.length]) hl (fun x i b hb=>by
  have hi:=(List.getElem?_eq_some_iff.1 hb).1
  refine(f74_l0 _ _ _ _).trans ((goD (by omega) _ _).trans ((goY (by omega) _ _).trans ((goG rfl hb _).trans ?_)))
  rw [wS (by omega)]
  rfl) (fun x=>(f74_l0 _ _ _ _).trans (goDn (by omega) _ _)) s 0 x rfl (by simp)
 refine(f74 _ _).trans ?_
 rw [sz]
 exact goJs h _ (fun _=>none)
theorem c75s (x:Int) (s:B) (hl:s.length≤1000000):E cx (Key.fn 75) [vu x,vs (mk s)] []=some (Out.ret (vu (sumS x s)),[]):=by
 have sz:((ByteArray.size (mk s):Nat):Int)=(s.length:Int):=rfl
 have h:=loopS (f:=75) (p:=[true,false,true,false]) (s:=s) (more:=[]) hl (fun x i b hb=>by
  have hi:=(List.getElem?_eq_some_iff.1 hb).1
  refine(f75_l0 _ _ _).trans ((goD (by rw [sz];omega) _ _).trans ((goY (by omega) _ _).trans ((goG rfl hb _).trans ?_)))
  rw [wS (by omega)]
  rfl) (fun x=>(f75_l0 _ _ _).trans (goDn (by rw [sz];omega) _ _)) s 0 x rfl (by simp)
 exact(f75 _ _).trans (goJs h _ (fun _=>none))
def rootD (a b c d e:Nat):Int:=sumS 14695981039346656037 (wB [a,b,c,d,e])
theorem w5_len (a b c d e:Nat):(wB [a,b,c,d,e]).length≤1000000:=by rw [wB_len];simp
theorem c22r (a b c d e:Nat):E cx (Key.fn 22) [.agg [vu a,vu b,vu c,vu d,vu e]] []=some (Out.ret (vu (rootD a b c d e)),[]) :=
 (f22 _ _ _ _ _).trans ((goS (c143 a b c d e) _).trans (goU ((f50 _).trans (goU (c74s _ _ (w5_len a b c d e)) _)) _))
theorem c23r (a b c d e:Nat):E cx (Key.fn 23) [.agg [vu a,vu b,vu c,vu d,vu e]] []=some (Out.ret (vu (rootD a b c d e)),[]) :=
 (f23 _ _ _ _ _).trans ((goS (c33d a b c d e) _).trans (goU ((f52 _).trans (goU (c75s _ _ (w5_len a b c d e)) _)) _))
end Go.Proofs.Av
