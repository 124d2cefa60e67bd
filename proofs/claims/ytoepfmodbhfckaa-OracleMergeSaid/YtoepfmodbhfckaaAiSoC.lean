/- The sort of uint64 in closed form: insertion, heap, reversal, patterns, pivots, partitions, the whole. -/
import Derived.Test.YtoepfmodbhfckaaAiYs
import Derived.Test.YtoepfmodbhfckaaAiM
import Derived.Sort.AssemblyPlain
import Derived.Sort.LotD5
set_option maxRecDepth 100000
namespace Go.Proofs.Av
open Go
open Go.IntKind renaming wrap→ω
section
variable {ρ:Type}{x:Option (Out×Heap)}
def ltN (x y:Nat):Bool:=decide (x<y)
abbrev rw' (d:Array Nat):List (List AV):=d.toList.map fun(k:Nat)=>[vu (k:Int)]
abbrev HA (d:Array Nat):Heap:=[Ob.mk OK.arr 26 1 1 (rw' d)]
theorem rw_get {d:Array Nat}{n:Nat}(h:n<d.size):(rw' d)[n]?=some [vu ((d[n]! :Nat):Int)]:=by
 simp [rw',h]
theorem nth_rw {d:Array Nat}{e:Int}{n:Nat}(he:e=n) (h:n<d.size):nth (rw' d) (Nat.add 0 e.toNat)=some [vu ((d[n]! :Nat):Int)]:=by
 have e2:Nat.add 0 e.toNat=n:=by show 0+e.toNat=n;omega
 rw [e2]
 exact(nth_eq _ _).trans (rw_get h)
theorem ld {e:Int}{n N:Nat}{d:Array Nat}(he:e=n) (hn:n<N) (hd:d.size=N) (k:Int→Option ρ) (j1 j2:Option ρ):(if 0≤e then(if e<(N:Int) then((nth (rw' d) (Nat.add 0 e.toNat)).bind fun cs=>(uncons? cs).bind fun p=>(AV.int? .u64 p.fst).bind fun x=>(nil? p.snd).bind fun _=>k x) else j1) else j2)=k ((d[n]! :Nat):Int):=by
 rw [if_pos (by omega),if_pos (by omega),nth_rw he (by omega)]
 rfl
theorem rw_set {d:Array Nat}{e:Int}{i:Nat}(h:e=i) (v:Nat):List.set (rw' d) (Nat.add 0 e.toNat) [vu (v:Int)]=rw' (d.setIfInBounds i v):=by
 have e2:Nat.add 0 e.toNat=i:=by show 0+e.toNat=i;omega
 rw [e2]
 simp [rw',List.map_set]
theorem goA1 {e:JX}{n:Int}{R Z:List (List AV)}(he:e.is e=true) (h:x=some (Out.jump e [vi n],[Ob.mk OK.arr 26 1 1 R])) (k:Int→Ob×List Ob→Option ρ) (j:Option ρ):(x.bind fun r=>(asJump r).bind fun q=>bif JX.is q.fst e then(uncons? q.snd.fst).bind fun p=>(AV.int? .i64 p.fst).bind fun n=>(nil? p.snd).bind fun _=>(uncons? q.snd.snd).bind fun u=>(obIs (Ob.mk OK.arr 26 1 1 Z) u.fst).bind fun _=>(chk u.fst.ver 1).bind fun _=>(nil? u.snd).bind fun _=>k n u else j)=k n (Ob.mk OK.arr 26 1 1 R,[]):=by
 rw [h]
 show(bif e.is e then _ else _)=_
 rw [he]
 rfl
theorem goA2 {e:JX}{n m:Int}{R Z:List (List AV)}(he:e.is e=true) (h:x=some (Out.jump e [vi n,vi m],[Ob.mk OK.arr 26 1 1 R])) (k:Int→Int→Ob×List Ob→Option ρ) (j:Option ρ):(x.bind fun r=>(asJump r).bind fun q=>bif JX.is q.fst e then(uncons? q.snd.fst).bind fun p=>(AV.int? .i64 p.fst).bind fun n=>(uncons? p.snd).bind fun p2=>(AV.int? .i64 p2.fst).bind fun m=>(nil? p2.snd).bind fun _=>(uncons? q.snd.snd).bind fun u=>(obIs (Ob.mk OK.arr 26 1 1 Z) u.fst).bind fun _=>(chk u.fst.ver 1).bind fun _=>(nil? u.snd).bind fun _=>k n m u else j)=k n m (Ob.mk OK.arr 26 1 1 R,[]):=by
 rw [h]
 show(bif e.is e then _ else _)=_
 rw [he]
 rfl
theorem goO {R Z:List (List AV)}(h:x=some (Out.ret (.tuple []),[Ob.mk OK.arr 26 1 1 R])) (k:Ob×List Ob→Option ρ):(x.bind fun r=>(asRet r).bind fun q=>(AV.tup? q.fst).bind fun vs=>(nil? vs).bind fun _=>(uncons? q.snd).bind fun p=>(obIs (Ob.mk OK.arr 26 1 1 Z) p.fst).bind fun _=>(chk p.fst.ver 1).bind fun _=>(nil? p.snd).bind fun _=>k p)=k (Ob.mk OK.arr 26 1 1 R,[]):=by
 rw [h];rfl
end
abbrev AR (N:Nat):AV := .arr 0 1 0 N
abbrev JR (e:JX) (vs:List AV) (d:Array Nat):Option (Out×Heap):=some (Out.jump e vs,HA d)
abbrev OR (d:Array Nat):Option (Out×Heap):=some (Out.ret (.tuple []),HA d)
theorem c203 (x y:Nat):E cx (.fn 203) [vu x,vu y] []=rb (ltN x y):=by
 refine(f203 _ _).trans ((goF (c165 _) _ _).trans ?_)
 unfold ltN
 by_cases h:x<y
 ·exact(goD (p:=(x:Int)<(y:Int)) (by omega) _ _).trans (by simp [h])
 ·exact(goDn (p:=(x:Int)<(y:Int)) (by omega) _ _).trans (by simp [h])
open Go.Sort
open Go.IntKind renaming wrap→ω
theorem insLoop {N:Nat}(hN:N≤1000000000000) {a:Nat}(b:Int) (i:Int):∀(j:Nat) (d:Array Nat),d.size=N→(j<N∨j≤a) →
  ∃j',E cx (.loop 197 [true,false,false,true,false,false,true,false]) [vi (j:Int),AR N,vi (a:Int),vi b,vi i] (HA d)=JR (.exit 2) [vi j'] (insInner ltN a j d)
 | 0,d,hd,hj=>⟨((0:Nat):Int),(f197_l0_l1 _ _ _ _ _ _).trans ((goDn (by simp) _ _).trans rfl)⟩
 |j+1,d,hd,hj=>by
  unfold insInner
  by_cases h1:j+1>a
  ·have hw:ω .i64 (Int.sub ((j+1:Nat):Int) 1)=(j:Int):=(wr_sub (b:=1) (by omega) (by omega)).trans (by omega)
   cases h2:ltN d[j+1]! d[j]! with
   |false =>
    refine⟨((j+1:Nat):Int),(f197_l0_l1 _ _ _ _ _ _).trans ((goD (by omega) _ _).trans ?_)⟩
    rw [hw]
    refine(ld rfl (show j+1<N by omega) hd _ _ _).trans ((ld rfl (show j<N by omega) hd _ _ _).trans ((goF ((c203 _ _).trans (by rw [h2])) _ _).trans ?_))
    simp [h1]
   |true =>
    obtain⟨j',ih⟩:=insLoop hN b i j (swp d (j+1) j) (by rw [Go.Sort.size_swp];exact hd) (by omega)
    refine⟨j',(f197_l0_l1 _ _ _ _ _ _).trans ((goD (by omega) _ _).trans ?_)⟩
    rw [hw]
    refine(ld rfl (show j+1<N by omega) hd _ _ _).trans ((ld rfl (show j<N by omega) hd _ _ _).trans ((goT ((c203 _ _).trans (by rw [h2])) _ _).trans ?_))
    refine(ld rfl (show j<N by omega) hd _ _ _).trans ((ld rfl (show j+1<N by omega) hd _ _ _).trans ((ld rfl (show j+1<N by omega) hd _ _ _).trans ?_))
    rw [rw_set rfl]
    refine(ld rfl (show j<N by omega) (by simpa using hd) _ _ _).trans ?_
    rw [rw_set rfl]
    simp only [h1,decide_true,Bool.and_self,if_true]
    exact ih
  ·refine⟨((j+1:Nat):Int),(f197_l0_l1 _ _ _ _ _ _).trans ((goDn (by omega) _ _).trans ?_)⟩
   simp [h1]
theorem sw4 {ρ:Type}{e1 e2:Int}{i j N:Nat}{d:Array Nat}(h1:e1=i) (h2:e2=j) (hi:i<N) (hj:j<N) (hd:d.size=N) (k:Int→Int→Option ρ):(if 0≤e2 then(if e2<(N:Int) then((nth (rw' d) (Nat.add 0 e2.toNat)).bind fun cs=>(uncons? cs).bind fun p=>(AV.int? .u64 p.fst).bind fun n=>(nil? p.snd).bind fun _=>if 0≤e1 then(if e1<(N:Int) then((nth (rw' d) (Nat.add 0 e1.toNat)).bind fun cs=>(uncons? cs).bind fun p=>(AV.int? .u64 p.fst).bind fun m=>(nil? p.snd).bind fun _=>if 0≤e1 then(if e1<(N:Int) then((nth (rw' d) (Nat.add 0 e1.toNat)).bind fun cs=>(uncons? cs).bind fun p=>(AV.int? .u64 p.fst).bind fun _=>(nil? p.snd).bind fun _=>if 0≤e2 then(if e2<(N:Int) then((nth (List.set (rw' d) (Nat.add 0 e1.toNat) [vu n]) (Nat.add 0 e2.toNat)).bind fun cs=>(uncons? cs).bind fun p=>(AV.int? .u64 p.fst).bind fun _=>(nil? p.snd).bind fun _=>k n m) else none) else none) else none) else none) else none) else none) else none) else none)=k ((d[j]! :Nat):Int) ((d[i]! :Nat):Int):=by
 refine(ld h2 hj hd _ _ _).trans ((ld h1 hi hd _ _ _).trans ((ld h1 hi hd _ _ _).trans ?_))
 rw [rw_set h1]
 exact ld h2 hj (by simpa using hd) _ _ _
theorem sw_size (d:Array Nat) (i j:Nat):(Sort.swp d i j).size=d.size:=Sort.size_swp d i j
open Go.Sort
open Go.IntKind renaming wrap→ω
theorem insInner_size (a:Nat):∀(j:Nat) (d:Array Nat),(insInner ltN a j d).size=d.size
 | 0,d=>rfl
 |j+1,d=>by
  unfold insInner
  split
  ·rw [insInner_size a j,sw_size]
  ·rfl
theorem insOut {N:Nat}(hN:N≤1000000000000) {a b:Nat}(hb:b≤N):∀(k i:Nat) (d:Array Nat),b-i=k→a≤i→i≤N→d.size=N→∃i',E cx (.loop 197 [true,false]) [vi (i:Int),AR N,vi (a:Int),vi (b:Int)] (HA d)=JR (.exit 0) [vi i'] (insOuter ltN a b i d):=by
 intro k
 induction k with
 |zero =>
  intro i d hk ha hi hd
  unfold insOuter
  rw [if_neg (by omega)]
  refine⟨(i:Int),(f197_l0 _ _ _ _ _).trans (goDn ?_ _ _)⟩
  omega
 |succ k ih =>
  intro i d hk ha hi hd
  unfold insOuter
  rw [if_pos (by omega)]
  obtain⟨j',h1⟩:=insLoop hN (a:=a) (b:Int) (i:Int) i d hd (by omega)
  obtain⟨i',h2⟩:=ih (i+1) (insInner ltN a i d) (by omega) (by omega) (by omega) (by rw [insInner_size];exact hd)
  refine⟨i',(f197_l0 _ _ _ _ _).trans ((goD (show(i:Int)<(b:Int) by omega) _ _).trans ((goA1 (e := .exit 2) rfl h1 _ _).trans ?_))⟩
  rw [show ω .i64 (Int.add (i:Int) 1)=((i+1:Nat):Int) from wr_add (b:=1) (by omega) (by omega)]
  exact h2
theorem c197 {N:Nat}(hN:N≤1000000000000) {a b:Nat}{d:Array Nat}(hd:d.size=N) (hab:a≤b) (hb:b≤N):E cx (.own 197) [AR N,vi (a:Int),vi (b:Int)] (HA d)=OR (insertionSort ltN d a b):=by
 refine(f197 _ _ _ _).trans ?_
 rw [show ω .i64 (Int.add (a:Int) 1)=((a+1:Nat):Int) from wr_add (b:=1) (by omega) (by omega)]
 by_cases h:a+1≤N
 ·obtain⟨i',h1⟩:=insOut hN (a:=a) hb _ (a+1) d rfl (by omega) h hd
  exact goA1 (e := .exit 0) rfl h1 _ _
 ·have e1:insertionSort ltN d a b=d:=by
   unfold insertionSort insOuter
   rw [if_neg (by omega)]
  rw [e1]
  exact goA1 (e := .exit 0) rfl ((f197_l0 _ _ _ _ _).trans (goDn (show ¬((a+1:Nat):Int)<(b:Int) by omega) _ _)) _ _
theorem siftLoop {N:Nat}(hN:N≤1000000000000) {hi F:Nat}(hF:F+hi≤N):∀(n root:Nat) (d:Array Nat),hi-root≤n→root≤N→d.size=N→∃e r,(e=JX.exit 0∨e=JX.ret)∧E cx (.loop 208 [true,false]) [vi (root:Int),AR N,vi (hi:Int),vi (F:Int)] (HA d)=JR e [vi r] (siftDown ltN hi F root d):=by
 intro n
 induction n with
 |zero =>
  intro root d hn hr hd
  unfold siftDown
  rw [dif_pos (by omega)]
  refine⟨JX.exit 0,(root:Int),.inl rfl,(f208_l0 _ _ _ _ _).trans (goD ?_ _ _)⟩
  rw [wr_mul (by omega) (by omega),wr_add (by omega) (by omega)]
  omega
 |succ n ih =>
  intro root d hn hr hd
  have w1:ω .i64 (Int.add (ω .i64 (Int.mul 2 (root:Int))) 1)=((2*root+1:Nat):Int):=by
   rw [wr_mul (by omega) (by omega),wr_add (by omega) (by omega)]
   omega
  have w2:ω .i64 (Int.add ((2*root+1:Nat):Int) 1)=((2*root+2:Nat):Int):=(wr_add (b:=1) (by omega) (by omega)).trans (by omega)
  unfold siftDown
  by_cases h1:2*root+1≥hi
  ·rw [dif_pos h1]
   refine⟨JX.exit 0,(root:Int),.inl rfl,(f208_l0 _ _ _ _ _).trans (goD ?_ _ _)⟩
   rw [w1]
   omega
  rw [dif_neg h1]
  have w3:ω .i64 (Int.add (F:Int) ((2*root+1:Nat):Int))=((F+(2*root+1):Nat):Int):=(wr_add (by omega) (by omega)).trans (by omega)
  have w4:ω .i64 (Int.add ((F+(2*root+1):Nat):Int) 1)=((F+(2*root+1)+1:Nat):Int):=(wr_add (b:=1) (by omega) (by omega)).trans (by omega)
  have w5:ω .i64 (Int.add (F:Int) (root:Int))=((F+root:Nat):Int):=(wr_add (by omega) (by omega)).trans (by omega)
  have w6:ω .i64 (Int.add (F:Int) ((2*root+2:Nat):Int))=((F+(2*root+2):Nat):Int):=(wr_add (by omega) (by omega)).trans (by omega)
  have tail:∃e r,(e=JX.exit 0∨e=JX.ret)∧q208_l0_0 (F:Int) (root:Int) N (rw' d) (hi:Int)=JR e [vi r] (if(!ltN d[F+root]! d[F+(2*root+1)]!)=true then d else siftDown ltN hi F (2*root+1) (swp d (F+root) (F+(2*root+1)))):=by
   cases h2:ltN d[F+root]! d[F+(2*root+1)]! with
   |false =>
    refine⟨JX.ret,(root:Int),.inr rfl,?_⟩
    unfold q208_l0_0
    rw [w1,w3,w5]
    refine(ld rfl (show F+root<N by omega) hd _ _ _).trans ((ld rfl (show F+(2*root+1)<N by omega) hd _ _ _).trans ((goF ((c203 _ _).trans (by rw [h2])) _ _).trans ?_))
    rfl
   |true =>
    obtain⟨e,r,h3,h4⟩:=ih (2*root+1) (swp d (F+root) (F+(2*root+1))) (by omega) (by omega) (by rw [sw_size];exact hd)
    refine⟨e,r,h3,?_⟩
    unfold q208_l0_0
    rw [w1,w3,w5]
    refine(ld rfl (show F+root<N by omega) hd _ _ _).trans ((ld rfl (show F+(2*root+1)<N by omega) hd _ _ _).trans ((goT ((c203 _ _).trans (by rw [h2])) _ _).trans ?_))
    refine(sw4 rfl rfl (show F+root<N by omega) (show F+(2*root+1)<N by omega) hd _).trans ?_
    rw [rw_set rfl,rw_set rfl]
    exact h4
  by_cases h5:2*root+1+1<hi
  ·cases h6:ltN d[F+(2*root+1)]! d[F+(2*root+1)+1]! with
   |false =>
    obtain⟨e,r,h3,h4⟩:=tail
    refine⟨e,r,h3,(f208_l0 _ _ _ _ _).trans ?_⟩
    rw [w1,w2,w3,w4,w5,w6]
    refine(goDn (by omega) _ _).trans ((goD (by omega) _ _).trans ((ld rfl (show F+(2*root+1)<N by omega) hd _ _ _).trans ((ld rfl (show F+(2*root+1)+1<N by omega) hd _ _ _).trans ((goF ((c203 _ _).trans (by rw [h6])) _ _).trans ?_))))
    simpa [h5] using h4
   |true =>
    cases h7:ltN d[F+root]! d[F+(2*root+2)]! with
    |false =>
     refine⟨JX.ret,(root:Int),.inr rfl,(f208_l0 _ _ _ _ _).trans ?_⟩
     rw [w1,w2,w3,w4,w5,w6]
     refine(goDn (by omega) _ _).trans ((goD (by omega) _ _).trans ((ld rfl (show F+(2*root+1)<N by omega) hd _ _ _).trans ((ld rfl (show F+(2*root+1)+1<N by omega) hd _ _ _).trans ((goT ((c203 _ _).trans (by rw [h6])) _ _).trans ?_))))
     refine(ld rfl (show F+root<N by omega) hd _ _ _).trans ((ld rfl (show F+(2*root+2)<N by omega) hd _ _ _).trans ((goF ((c203 _ _).trans (by rw [h7])) _ _).trans ?_))
     simp [h5]
    |true =>
     obtain⟨e,r,h3,h4⟩:=ih (2*root+2) (swp d (F+root) (F+(2*root+2))) (by omega) (by omega) (by rw [sw_size];exact hd)
     refine⟨e,r,h3,(f208_l0 _ _ _ _ _).trans ?_⟩
     rw [w1,w2,w3,w4,w5,w6]
     refine(goDn (by omega) _ _).trans ((goD (by omega) _ _).trans ((ld rfl (show F+(2*root+1)<N by omega) hd _ _ _).trans ((ld rfl (show F+(2*root+1)+1<N by omega) hd _ _ _).trans ((goT ((c203 _ _).trans (by rw [h6])) _ _).trans ?_))))
     refine(ld rfl (show F+root<N by omega) hd _ _ _).trans ((ld rfl (show F+(2*root+2)<N by omega) hd _ _ _).trans ((goT ((c203 _ _).trans (by rw [h7])) _ _).trans ?_))
     refine(sw4 rfl rfl (show F+root<N by omega) (show F+(2*root+2)<N by omega) hd _).trans ?_
     rw [rw_set rfl,rw_set rfl]
     have h8:2*root+2<hi:=h5
     simp only [h5,h8,decide_true,Bool.and_self,if_true,Bool.not_true,Bool.false_eq_true,if_false,dif_pos]
     exact h4
  ·obtain⟨e,r,h3,h4⟩:=tail
   refine⟨e,r,h3,(f208_l0 _ _ _ _ _).trans ?_⟩
   rw [w1,w2]
   refine(goDn (by omega) _ _).trans ((goDn (by omega) _ _).trans ?_)
   simpa [h5] using h4
theorem sift_size (hi F:Nat):∀(n root:Nat) (d:Array Nat),hi-root≤n→(siftDown ltN hi F root d).size=d.size:=by
 intro n
 induction n with
 |zero =>
  intro root d hn
  unfold siftDown
  rw [dif_pos (by omega)]
 |succ n ih =>
  intro root d hn
  unfold siftDown
  split
  ·rfl
  ·split
   ·split
    ·rfl
    ·split
     ·rw [ih _ _ (by omega),sw_size]
     ·rfl
   ·split
    ·rfl
    ·rw [ih _ _ (by omega),sw_size]
theorem c208 {N:Nat}(hN:N≤1000000000000) {hi F root:Nat}{d:Array Nat}(hF:F+hi≤N) (hr:root≤N) (hd:d.size=N):E cx (.own 208) [AR N,vi (root:Int),vi (hi:Int),vi (F:Int)] (HA d)=OR (siftDown ltN hi F root d):=by
 obtain⟨e,r,h1,h2⟩:=siftLoop hN hF _ root d (Nat.le_refl _) hr hd
 refine(f208 _ _ _ _ _).trans ?_
 rw [h2]
 rcases h1 with rfl |rfl<;>rfl
theorem build_size (hi F:Nat):∀(k:Nat) (d:Array Nat),(heapBuild ltN hi F k d).size=d.size
 | 0,d=>rfl
 |k+1,d=>by unfold heapBuild;rw [build_size hi F k,sift_size hi F _ _ _ (Nat.le_refl _)]
theorem pop_size (F:Nat):∀(k:Nat) (d:Array Nat),(heapPop ltN F k d).size=d.size
 | 0,d=>rfl
 |k+1,d=>by unfold heapPop;rw [pop_size F k,sift_size k F _ _ _ (Nat.le_refl _),sw_size]
theorem heapL0 {N:Nat}(hN:N≤1000000000000) {hi F:Nat}(hF:F+hi≤N):∀(k:Nat) (d:Array Nat),k≤N→d.size=N →
  E cx (.loop 198 [true,true,true,false,true,false]) [vi ((k:Int)-1),AR N,vi (F:Int),vi 0,vi (hi:Int)] (HA d)=JR (.exit 0) [vi (-1)] (heapBuild ltN hi F k d)
 | 0,d,hk,hd=>(f198_l0 _ _ _ _ _ _).trans (goDn (show ¬((0:Nat):Int)-1≥0 by omega) _ _)
 |k+1,d,hk,hd=>by
  have h1:=c208 hN (root:=k) hF (by omega) hd
  have h2:=heapL0 hN hF k (siftDown ltN hi F k d) (by omega) (by rw [sift_size hi F _ _ _ (Nat.le_refl _)];exact hd)
  rw [show((k+1:Nat):Int)-1=(k:Int) by omega]
  refine(f198_l0 _ _ _ _ _ _).trans ((goD (show(k:Int)≥0 by omega) _ _).trans ((goO h1 _).trans ?_))
  rw [show ω .i64 (Int.sub (k:Int) 1)=(k:Int)-1 from wr_sub (by omega) (by omega)]
  exact h2
theorem heapL1 {N:Nat}(hN:N≤1000000000000) {F:Nat}:∀(k:Nat) (d:Array Nat),F+k≤N→d.size=N →
  E cx (.loop 198 [true,true,true,true,true,false]) [vi ((k:Int)-1),AR N,vi (F:Int),vi 0] (HA d)=JR (.exit 2) [vi (-1)] (heapPop ltN F k d)
 | 0,d,hk,hd=>(f198_l1 _ _ _ _ _).trans (goDn (show ¬((0:Nat):Int)-1≥0 by omega) _ _)
 |k+1,d,hk,hd=>by
  have h1:=c208 hN (root:=0) (hi:=k) (F:=F) (d:=swp d F (F+k)) (by omega) (by omega) (by rw [sw_size];exact hd)
  have h2:=heapL1 hN (F:=F) k (siftDown ltN k F 0 (swp d F (F+k))) (by omega) (by rw [sift_size k F _ _ _ (Nat.le_refl _),sw_size];exact hd)
  rw [show((k+1:Nat):Int)-1=(k:Int) by omega]
  refine(f198_l1 _ _ _ _ _).trans ((goD (show(k:Int)≥0 by omega) _ _).trans ?_)
  rw [show ω .i64 (Int.add (F:Int) (k:Int))=((F+k:Nat):Int) from(wr_add (by omega) (by omega)).trans (by omega)]
  refine(sw4 rfl rfl (show F<N by omega) (show F+k<N by omega) hd _).trans ?_
  rw [rw_set rfl,rw_set rfl]
  refine(goO h1 _).trans ?_
  rw [show ω .i64 (Int.sub (k:Int) 1)=(k:Int)-1 from wr_sub (by omega) (by omega)]
  exact h2
theorem c198 {N:Nat}(hN:N≤1000000000000) {a b:Nat}{d:Array Nat}(hd:d.size=N) (hab:a<b) (hb:b≤N):E cx (.own 198) [AR N,vi (a:Int),vi (b:Int)] (HA d)=OR (heapSort ltN d a b):=by
 have w1:ω .i64 (Int.sub (b:Int) (a:Int))=((b-a:Nat):Int):=(wr_sub (by omega) (by omega)).trans (by omega)
 have w2:ω .i64 (Int.sub ((b-a:Nat):Int) 1)=((b-a:Nat):Int)-1:=wr_sub (b:=1) (by omega) (by omega)
 have w3:ω .i64 (Int.tdiv (((b-a:Nat):Int)-1) 2)=(((b-a-1)/2+1:Nat):Int)-1:=by
  rw [show((b-a:Nat):Int)-1=((b-a-1:Nat):Int) by omega,show(2:Int)=((2:Nat):Int) from rfl,←Int.ofNat_tdiv,wr_id (by omega) (by omega)]
  omega
 refine(f198 _ _ _ _).trans ?_
 rw [w1,w2,w3]
 refine(goA1 (e := .exit 0) rfl (heapL0 hN (hi:=b-a) (F:=a) (by omega) _ d (by omega) hd) _ _).trans ?_
 exact goA1 (e := .exit 2) rfl (heapL1 hN (F:=a) (b-a) _ (by omega) (by rw [build_size];exact hd)) _ _
theorem heap_size (d:Array Nat) (a b:Nat):(heapSort ltN d a b).size=d.size:=by unfold heapSort;rw [pop_size,build_size]
theorem rev_size:∀(n i j:Nat) (d:Array Nat),j-i≤n→(reverseLoop i j d).size=d.size:=by
 intro n
 induction n with
 |zero=>intro i j d h;unfold reverseLoop;rw [if_neg (by omega)]
 |succ n ih =>
  intro i j d h
  unfold reverseLoop
  split
  ·rw [ih _ _ _ (by omega),sw_size]
  ·rfl
theorem revL {N:Nat}(hN:N≤1000000000000):∀(n i j:Nat) (d:Array Nat),j-i≤n→i≤N→j<N→d.size=N→∃i' j',E cx (.loop 201 [true,true,false]) [vi (i:Int),vi (j:Int),AR N] (HA d)=JR (.exit 0) [vi i',vi j'] (reverseLoop i j d):=by
 intro n
 induction n with
 |zero =>
  intro i j d h hi hj hd
  unfold reverseLoop
  rw [if_neg (by omega)]
  exact⟨(i:Int),(j:Int),(f201_l0 _ _ _ _).trans (goDn (show ¬(i:Int)<(j:Int) by omega) _ _)⟩
 |succ n ih =>
  intro i j d h hi hj hd
  unfold reverseLoop
  by_cases h1:i<j
  ·rw [if_pos h1]
   obtain⟨i',j',h2⟩:=ih (i+1) (j-1) (swp d i j) (by omega) (by omega) (by omega) (by rw [sw_size];exact hd)
   refine⟨i',j',(f201_l0 _ _ _ _).trans ((goD (show(i:Int)<(j:Int) by omega) _ _).trans ((sw4 rfl rfl (show i<N by omega) (show j<N by omega) hd _).trans ?_))⟩
   rw [rw_set rfl,rw_set rfl,show ω .i64 (Int.add (i:Int) 1)=((i+1:Nat):Int) from wr_add (b:=1) (by omega) (by omega),show ω .i64 (Int.sub (j:Int) 1)=((j-1:Nat):Int) from(wr_sub (b:=1) (by omega) (by omega)).trans (by omega)]
   exact h2
  ·rw [if_neg h1]
   exact⟨(i:Int),(j:Int),(f201_l0 _ _ _ _).trans (goDn (show ¬(i:Int)<(j:Int) by omega) _ _)⟩
theorem c201 {N:Nat}(hN:N≤1000000000000) {a b:Nat}{d:Array Nat}(hd:d.size=N) (hab:a<b) (hb:b≤N):E cx (.own 201) [AR N,vi (a:Int),vi (b:Int)] (HA d)=OR (reverseRange d a b):=by
 obtain⟨i',j',h⟩:=revL hN _ a (b-1) d (Nat.le_refl _) (by omega) (by omega) hd
 refine(f201 _ _ _ _).trans ?_
 rw [show ω .i64 (Int.sub (b:Int) 1)=((b-1:Nat):Int) from(wr_sub (b:=1) (by omega) (by omega)).trans (by omega)]
 exact goA2 (e := .exit 0) rfl h _ _
theorem reverse_size (d:Array Nat) (a b:Nat):(reverseRange d a b).size=d.size:=rev_size _ _ _ _ (Nat.le_refl _)
theorem c211 {N:Nat}{d:Array Nat}{a b s:Nat}(hd:d.size=N) (ha:a<N) (hb:b<N) (hs:s≤1000):E cx (.own 211) [.list 0 1 (rw' d),vi (a:Int),vi (b:Int),.ptr 0 0 0 0] [Ob.mk OK.box 3 1 0 [[vi (s:Int)]]]=some (Out.ret (.tuple [vi ((order2 ltN d a b s).1:Int),vi ((order2 ltN d a b s).2.1:Int)]),[Ob.mk OK.box 3 1 0 [[vi ((order2 ltN d a b s).2.2:Int)]]]):=by
 refine(f211 _ _ _ _).trans ?_
 have g:∀(n:Nat) (h:n<N) (k:Int→Option (Out×Heap)),(if 0≤(n:Int) then((rw' d)[Int.toNat (n:Int)]?.bind fun cs=>(uncons? cs).bind fun p=>(AV.int? .u64 p.fst).bind fun x=>(nil? p.snd).bind fun _=>k x) else none)=k ((d[n]! :Nat):Int):=fun n h k=>by
  rw [if_pos (by omega),show Int.toNat (n:Int)=n by omega,rw_get (by omega)]
  rfl
 refine(g b hb _).trans ((g a ha _).trans ?_)
 unfold order2
 cases h:ltN d[b]! d[a]! with
 |true =>
  refine(goT ((c203 _ _).trans (by rw [h])) _ _).trans ?_
  rw [show ω .i64 (Int.add (s:Int) 1)=((s+1:Nat):Int) from wr_add (b:=1) (by omega) (by omega)]
  rfl
 |false=>exact goF ((c203 _ _).trans (by rw [h])) _ _
section
variable {ρ:Type}{x:Option (Out×Heap)}
theorem goB1 {n s:Int}{c:List AV}(h:x=some (Out.ret (vi n),[Ob.mk OK.box 3 1 0 [[vi s]]])) (k:Int→Int→Option ρ):(x.bind fun r=>(asRet r).bind fun q=>(AV.int? .i64 q.fst).bind fun n=>(uncons? q.snd).bind fun p=>(obIs (Ob.mk OK.box 3 1 0 [c]) p.fst).bind fun _=>(chk p.fst.ver 0).bind fun _=>(uncons? p.fst.es).bind fun p2=>(nil? p2.snd).bind fun _=>(uncons? p2.fst).bind fun p3=>(AV.int? .i64 p3.fst).bind fun s=>(nil? p3.snd).bind fun _=>(nil? p.snd).bind fun _=>k n s)=k n s:=by rw [h];rfl
theorem goB2 {n m s:Int}{c:List AV}(h:x=some (Out.ret (.tuple [vi n,vi m]),[Ob.mk OK.box 3 1 0 [[vi s]]])) (k:Int→Int→Int→Option ρ):(x.bind fun r=>(asRet r).bind fun q=>(AV.tup? q.fst).bind fun vs=>(uncons? vs).bind fun p4=>(AV.int? .i64 p4.fst).bind fun n=>(uncons? p4.snd).bind fun p5=>(AV.int? .i64 p5.fst).bind fun m=>(nil? p5.snd).bind fun _=>(uncons? q.snd).bind fun p=>(obIs (Ob.mk OK.box 3 1 0 [c]) p.fst).bind fun _=>(chk p.fst.ver 0).bind fun _=>(uncons? p.fst.es).bind fun p2=>(nil? p2.snd).bind fun _=>(uncons? p2.fst).bind fun p3=>(AV.int? .i64 p3.fst).bind fun s=>(nil? p3.snd).bind fun _=>(nil? p.snd).bind fun _=>k n m s)=k n m s:=by rw [h];rfl
end
theorem order2_lt {N:Nat}{d:Array Nat}{a b s:Nat}(ha:a<N) (hb:b<N):(order2 ltN d a b s).1<N∧(order2 ltN d a b s).2.1<N∧(order2 ltN d a b s).2.2≤s+1:=by
 unfold order2
 split<;>simp [ha,hb]
theorem c210 {N:Nat}{d:Array Nat}{a b c s:Nat}(hd:d.size=N) (ha:a<N) (hb:b<N) (hc:c<N) (hs:s≤100):E cx (.own 210) [.list 0 1 (rw' d),vi (a:Int),vi (b:Int),vi (c:Int),.ptr 0 0 0 0] [Ob.mk OK.box 3 1 0 [[vi (s:Int)]]]=some (Out.ret (vi ((median ltN d a b c s).1:Int)),[Ob.mk OK.box 3 1 0 [[vi ((median ltN d a b c s).2:Int)]]]):=by
 obtain⟨g1,g2,g3⟩:=order2_lt (d:=d) (s:=s) ha hb
 obtain⟨g4,g5,g6⟩:=order2_lt (d:=d) (s:=(order2 ltN d a b s).2.2) g2 hc
 refine(f210 _ _ _ _ _).trans ((goB2 (c211 hd ha hb (by omega)) _).trans ((goB2 (c211 hd g2 hc (by omega)) _).trans ((goB2 (c211 hd g1 g4 (by omega)) _).trans ?_)))
 rfl
def hintI:Hint→Int
 | .unknown=>0
 | .increasing=>1
 | .decreasing=>2
theorem c200 {N:Nat}(hN:N≤49) {a b:Nat}{d:Array Nat}(hd:d.size=N) (hab:a<b) (hb:b≤N):E cx (.fn 200) [.list 0 1 (rw' d),vi (a:Int),vi (b:Int)] []=some (Out.ret (.tuple [vi ((choosePivot ltN d a b).1:Int),vi (hintI (choosePivot ltN d a b).2)]),[]):=by
 have w1:ω .i64 (Int.sub (b:Int) (a:Int))=((b-a:Nat):Int):=(wr_sub (by omega) (by omega)).trans (by omega)
 have w2:ω .i64 (Int.tdiv ((b-a:Nat):Int) 4)=(((b-a)/4:Nat):Int):=by
  rw [show(4:Int)=((4:Nat):Int) from rfl,←Int.ofNat_tdiv]
  exact wr_id (by omega) (by omega)
 have w3:∀c:Nat,c≤3→ω .i64 (Int.add (a:Int) (ω .i64 (Int.mul (((b-a)/4:Nat):Int) (c:Int))))=((a+(b-a)/4*c:Nat):Int):=fun c hc=>by
  have h1:(b-a)/4*c≤200:=by
   have:=Nat.mul_le_mul (show(b-a)/4≤50 by omega) hc
   omega
  have e:ω .i64 (Int.mul (((b-a)/4:Nat):Int) (c:Int))=(((b-a)/4*c:Nat):Int):=by
   rw [show Int.mul (((b-a)/4:Nat):Int) (c:Int)=(((b-a)/4*c:Nat):Int) from(Int.natCast_mul _ _).symm]
   exact wr_id (by omega) (by omega)
  rw [e]
  exact(wr_add (by omega) (by omega)).trans (by omega)
 have w31:=w3 1 (by omega)
 have w32:=w3 2 (by omega)
 have w33:=w3 3 (by omega)
 refine(f200 _ _ _).trans ?_
 rw [w1,w2]
 rw [show((1:Nat):Int)=1 from rfl] at w31
 rw [show((2:Nat):Int)=2 from rfl] at w32
 rw [show((3:Nat):Int)=3 from rfl] at w33
 rw [w32]
 unfold choosePivot
 simp only []
 by_cases h8:b-a≥8
 ·rw [w31,w33]
  refine(goD (show((b-a:Nat):Int)≥8 by omega) _ _).trans ((goDn (show ¬((b-a:Nat):Int)≥50 by omega) _ _).trans ((goB1 (c210 (s:=0) hd (show a+(b-a)/4*1<N by omega) (show a+(b-a)/4*2<N by omega) (show a+(b-a)/4*3<N by omega) (by omega)) _).trans ?_))
  rw [if_pos h8,if_neg (show ¬b-a≥50 by omega)]
  generalize median ltN d (a+(b-a)/4*1) (a+(b-a)/4*2) (a+(b-a)/4*3) 0=m
  by_cases h0:m.2=0
  ·rw [if_pos h0]
   exact goD (show(m.2:Int)=0 by omega) _ _
  ·rw [if_neg h0]
   refine(goDn (show ¬(m.2:Int)=0 by omega) _ _).trans ?_
   by_cases h12:m.2=12
   ·rw [if_pos h12]
    exact goD (show(m.2:Int)=12 by omega) _ _
   ·rw [if_neg h12]
    exact goDn (show ¬(m.2:Int)=12 by omega) _ _
 ·rw [if_neg h8]
  exact goDn (show ¬((b-a:Nat):Int)≥8 by omega) _ _
theorem scanSL {N:Nat}(hN:N≤49) {b a:Int}{x:Bool}{y:Int}:∀(n b' i:Nat) (d:Array Nat),b=b'→b'-i≤n→1≤i→i≤N→b'≤N→d.size=N→E cx (.loop 202 [true,true,false,true,false,false,true,false,false,false,false]) [vi (i:Int),AR N,vi a,vi b,vbool x,vi y] (HA d)=JR (.exit 2) [vi (scanSorted ltN d b' i:Int)] d:=by
 intro n
 induction n with
 |zero =>
  intro b' i d hb hn h1 hi hbN hd
  unfold scanSorted
  rw [if_neg (by simp;omega)]
  exact(f202_l0_l1 _ _ _ _ _ _ _).trans (goDn (show ¬(i:Int)<b by omega) _ _)
 |succ n ih =>
  intro b' i d hb hn h1 hi hbN hd
  unfold scanSorted
  by_cases h2:i<b'
  ·have w:ω .i64 (Int.sub (i:Int) 1)=((i-1:Nat):Int):=(wr_sub (b:=1) (by omega) (by omega)).trans (by omega)
   refine(f202_l0_l1 _ _ _ _ _ _ _).trans ((goD (show(i:Int)<b by omega) _ _).trans ?_)
   rw [w]
   refine(ld rfl (show i<N by omega) hd _ _ _).trans ((ld rfl (show i-1<N by omega) hd _ _ _).trans ?_)
   cases h3:ltN d[i]! d[i-1]! with
   |true =>
    refine(goT ((c203 _ _).trans (by rw [h3])) _ _).trans ?_
    rw [if_neg (by simp)]
   |false =>
    refine(goF ((c203 _ _).trans (by rw [h3])) _ _).trans ?_
    rw [if_pos (by simp [h2]),show ω .i64 (Int.add (i:Int) 1)=((i+1:Nat):Int) from wr_add (b:=1) (by omega) (by omega)]
    exact ih b' (i+1) d hb (by omega) (by omega) (by omega) hbN hd
  ·rw [if_neg (by simp [h2])]
   exact(f202_l0_l1 _ _ _ _ _ _ _).trans (goDn (show ¬(i:Int)<b by omega) _ _)
theorem part_ins {a b:Nat}{d:Array Nat}(hb:b-a<50):partialInsertionSort ltN d a b=(d,decide (scanSorted ltN d b (a+1)=b)):=by
 unfold partialInsertionSort partialIns
 simp only []
 split
 ·rename_i h;simp [h]
 ·rename_i h;simp [h]
theorem c202 {N:Nat}(hN:N≤49) {a b:Nat}{d:Array Nat}(hd:d.size=N) (hab:a<b) (hb:b≤N):E cx (.own 202) [AR N,vi (a:Int),vi (b:Int)] (HA d)=some (Out.ret (vbool (partialInsertionSort ltN d a b).2),HA d):=by
 rw [part_ins (by omega)]
 refine(f202 _ _ _ _).trans ?_
 rw [show ω .i64 (Int.add (a:Int) 1)=((a+1:Nat):Int) from wr_add (b:=1) (by omega) (by omega)]
 have h1:=scanSL hN (b:=(b:Int)) (a:=(a:Int)) (x:=false) (y:=0) _ b (a+1) d rfl (Nat.le_refl _) (by omega) (by omega) hb hd
 have h2:=f202_l0 false ((a+1:Nat):Int) 0 N (a:Int) (b:Int) (rw' d)
 have h3:=h2.trans ((goD (show(0:Int)<5 by omega) _ _).trans (goA1 (e := .exit 2) rfl h1 _ _))
 have w:ω .i64 (Int.sub (b:Int) (a:Int))=((b-a:Nat):Int):=(wr_sub (by omega) (by omega)).trans (by omega)
 rw [w] at h3
 by_cases h:scanSorted ltN d b (a+1)=b
 ·have h4:=h3.trans (goD (show((scanSorted ltN d b (a+1):Nat):Int)=(b:Int) by omega) _ _)
  rw [h4,decide_eq_true h]
  rfl
 ·have h4:=h3.trans ((goDn (show ¬((scanSorted ltN d b (a+1):Nat):Int)=(b:Int) by omega) _ _).trans (goD (show((b-a:Nat):Int)<50 by omega) _ _))
  rw [h4,decide_eq_false h]
  rfl
theorem scanUp_le (p:Nat→Bool) (d:Array Nat) (j:Nat):∀(n i N:Nat),j+1-i≤n→i≤N→j<N→scanUp p d j i≤N:=by
 intro n
 induction n with
 |zero=>intro i N h hi hj;unfold scanUp;rw [if_neg (by simp;omega)];exact hi
 |succ n ih =>
  intro i N h hi hj
  unfold scanUp
  split
  ·rename_i h2;simp at h2;exact ih _ _ (by omega) (by omega) hj
  ·exact hi
theorem up_of {N a:Nat}{d:Array Nat}{p:Nat→Bool}{L:Nat→Option (Out×Heap)}{e:JX}{j:Nat}(hj:j<N) (h1:∀i,i≤j→p d[i]! =true→L i=L (i+1)) (h2:∀i,i≤N→(i≤j→p d[i]! =false)→L i=JR e [vi (i:Int)] d):∀(n i:Nat),j+1-i≤n→i≤N→L i=JR e [vi (scanUp p d j i:Int)] d:=by
 intro n
 induction n with
 |zero =>
  intro i h hi
  unfold scanUp
  rw [if_neg (by simp;omega)]
  exact h2 i hi (by omega)
 |succ n ih =>
  intro i h hi
  unfold scanUp
  by_cases hij:i≤j
  ·cases hp:p d[i]! with
   |true =>
    rw [if_pos (by simp [hij])]
    exact(h1 i hij hp).trans (ih (i+1) (by omega) (by omega))
   |false =>
    rw [if_neg (by simp)]
    exact h2 i hi (fun _=>hp)
  ·rw [if_neg (by simp [hij])]
   exact h2 i hi (by omega)
theorem down_of {N a:Nat}{d:Array Nat}{p:Nat→Bool}{L:Nat→Option (Out×Heap)}{e:JX}{i:Nat}(hi:1≤i)
  (h1:∀j,j+1<N→i≤j+1→p d[j+1]! =true→L (j+1)=L j) (h2:∀j,j<N→(i≤j→p d[j]! =false)→L j=JR e [vi (j:Int)] d):∀j,j<N→L j=JR e [vi (scanDown p d i j:Int)] d
 | 0,hj=>h2 0 hj (by omega)
 |j+1,hj=>by
  unfold scanDown
  by_cases hij:i≤j+1
  ·cases hp:p d[j+1]! with
   |true =>
    rw [if_pos (by simp [hij])]
    exact(h1 j hj hij hp).trans (down_of (a:=a) hi h1 h2 j (by omega))
   |false =>
    rw [if_neg (by simp)]
    exact h2 (j+1) hj (fun _=>hp)
  ·rw [if_neg (by simp [hij])]
   exact h2 (j+1) hj (by omega)
theorem wS1 {i:Nat}(h:i≤1000):ω .i64 (Int.add (i:Int) 1)=((i+1:Nat):Int):=wr_add (b:=1) (by omega) (by omega)
theorem wP1 {i:Nat}(h:i≤1000):ω .i64 (Int.sub ((i+1:Nat):Int) 1)=(i:Int):=(wr_sub (b:=1) (by omega) (by omega)).trans (by omega)
theorem up204 {N a j:Nat}(hN:N≤49) {d:Array Nat}(hd:d.size=N) (ha:a<N) (hj:j<N) {i:Nat}(hi:i≤N):E cx (.loop 204 [true,true,true,false,false,false,false,false,false]) [vi (i:Int),AR N,vi (a:Int),vi (j:Int)] (HA d)=JR (.exit 2) [vi (scanUp (fun x=> !ltN d[a]! x) d j i:Int)] d:=by
 refine up_of (a:=a) (p:=fun x=> !ltN d[a]! x) (L:=fun i=>E cx (.loop 204 [true,true,true,false,false,false,false,false,false]) [vi (i:Int),AR N,vi (a:Int),vi (j:Int)] (HA d)) hj (fun i hij hp=> ?_) (fun i hi hp=> ?_) _ i (Nat.le_refl _) hi
 ·refine(f204_l0_l1 _ _ _ _ _).trans ((goD (show(i:Int)≤(j:Int) by omega) _ _).trans ((ld rfl ha hd _ _ _).trans ((ld rfl (show i<N by omega) hd _ _ _).trans ((goF ((c203 _ _).trans (by rw [show ltN d[a]! d[i]! =false by simpa using hp])) _ _).trans ?_))))
  rw [wS1 (by omega)]
 ·by_cases hij:i≤j
  ·exact(f204_l0_l1 _ _ _ _ _).trans ((goD (show(i:Int)≤(j:Int) by omega) _ _).trans ((ld rfl ha hd _ _ _).trans ((ld rfl (show i<N by omega) hd _ _ _).trans (goT ((c203 _ _).trans (by rw [show ltN d[a]! d[i]! =true by simpa using hp hij])) _ _))))
  ·exact(f204_l0_l1 _ _ _ _ _).trans (goDn (show ¬(i:Int)≤(j:Int) by omega) _ _)
theorem down204 {N a i:Nat}(hN:N≤49) {d:Array Nat}(hd:d.size=N) (ha:a<N) (hi:1≤i) {j:Nat}(hj:j<N):E cx (.loop 204 [true,true,true,false,false,false,false,true,false,false]) [vi (j:Int),AR N,vi (a:Int),vi (i:Int)] (HA d)=JR (.exit 4) [vi (scanDown (fun x=>ltN d[a]! x) d i j:Int)] d:=by
 refine down_of (N:=N) (a:=a) (p:=fun x=>ltN d[a]! x) (L:=fun j=>E cx (.loop 204 [true,true,true,false,false,false,false,true,false,false]) [vi (j:Int),AR N,vi (a:Int),vi (i:Int)] (HA d)) hi (fun j hj hij hp=> ?_) (fun j hj hp=> ?_) j hj
 ·refine(f204_l0_l2 _ _ _ _ _).trans ((goD (show(i:Int)≤((j+1:Nat):Int) by omega) _ _).trans ((ld rfl ha hd _ _ _).trans ((ld rfl hj hd _ _ _).trans ((goT ((c203 _ _).trans (by rw [show ltN d[a]! d[j+1]! =true from hp])) _ _).trans ?_))))
  rw [wP1 (by omega)]
 ·by_cases hij:i≤j
  ·exact(f204_l0_l2 _ _ _ _ _).trans ((goD (show(i:Int)≤(j:Int) by omega) _ _).trans ((ld rfl ha hd _ _ _).trans ((ld rfl hj hd _ _ _).trans (goF ((c203 _ _).trans (by rw [show ltN d[a]! d[j]! =false from hp hij])) _ _))))
  ·exact(f204_l0_l2 _ _ _ _ _).trans (goDn (show ¬(i:Int)≤(j:Int) by omega) _ _)
theorem partEq_loop {N a:Nat}(hN:N≤49) (ha:a<N):∀(n i j:Nat) (d:Array Nat),j+1-i≤n→1≤i→i≤N→j<N→d.size=N→∃j',E cx (.loop 204 [true,true,true,false,false]) [vi (i:Int),vi (j:Int),AR N,vi (a:Int)] (HA d)=JR (.exit 0) [vi ((partEqLoop ltN a i j d).1:Int),vi j'] (partEqLoop ltN a i j d).2:=by
 intro n
 induction n with
 |zero =>
  intro i j d hn h1 hi hj hd
  have u:=up204 hN hd ha hj hi
  have e1:scanUp (fun x=> !ltN d[a]! x) d j i=i:=by unfold scanUp;rw [if_neg (by simp;omega)]
  rw [e1] at u
  have v:=down204 hN hd ha h1 hj
  have e2:scanDown (fun x=>ltN d[a]! x) d i j=j:=by
   cases j with
   |zero=>rfl
   |succ j=>unfold scanDown;rw [if_neg (by simp;omega)]
  rw [e2] at v
  rw [partEqLoop_eq,e1,e2,if_pos (by omega)]
  exact⟨(j:Int),(f204_l0 _ _ _ _ _).trans ((goA1 (e := .exit 2) rfl u _ _).trans ((goA1 (e := .exit 4) rfl v _ _).trans (goD (show(i:Int)>(j:Int) by omega) _ _)))⟩
 |succ n ih =>
  intro i j d hn h1 hi hj hd
  have u:=up204 hN hd ha hj hi
  have l1:=scanUp_le (fun x=> !ltN d[a]! x) d j _ i N (Nat.le_refl _) hi hj
  have l2:=scanUp_ge (fun x=> !ltN d[a]! x) d j i
  have v:=down204 hN hd ha (i:=scanUp (fun x=> !ltN d[a]! x) d j i) (by omega) hj
  have l3:=scanDown_le (fun x=>ltN d[a]! x) d (scanUp (fun x=> !ltN d[a]! x) d j i) j
  rw [partEqLoop_eq]
  generalize scanUp (fun x=> !ltN d[a]! x) d j i=i2 at *
  generalize scanDown (fun x=>ltN d[a]! x) d i2 j=j2 at *
  by_cases h:i2>j2
  ·rw [if_pos h]
   exact⟨(j2:Int),(f204_l0 _ _ _ _ _).trans ((goA1 (e := .exit 2) rfl u _ _).trans ((goA1 (e := .exit 4) rfl v _ _).trans (goD (show(i2:Int)>(j2:Int) by omega) _ _)))⟩
  ·rw [if_neg h]
   obtain⟨j',h2⟩:=ih (i2+1) (j2-1) (swp d i2 j2) (by omega) (by omega) (by omega) (by omega) (by rw [sw_size];exact hd)
   refine⟨j',(f204_l0 _ _ _ _ _).trans ((goA1 (e := .exit 2) rfl u _ _).trans ((goA1 (e := .exit 4) rfl v _ _).trans ((goDn (show ¬(i2:Int)>(j2:Int) by omega) _ _).trans ((sw4 rfl rfl (show i2<N by omega) (show j2<N by omega) hd _).trans ?_))))⟩
   dsimp only
   rw [rw_set rfl,rw_set rfl,wS1 (by omega),show ω .i64 (Int.sub (j2:Int) 1)=((j2-1:Nat):Int) from(wr_sub (b:=1) (by omega) (by omega)).trans (by omega)]
   exact h2
theorem partEq_size (a:Nat):∀(n i j:Nat) (d:Array Nat),j+1-i≤n→(partEqLoop ltN a i j d).2.size=d.size:=by
 intro n
 induction n with
 |zero =>
  intro i j d hn
  have l2:=scanUp_ge (fun x=> !ltN d[a]! x) d j i
  have l3:=scanDown_le (fun x=>ltN d[a]! x) d (scanUp (fun x=> !ltN d[a]! x) d j i) j
  rw [partEqLoop_eq]
  split
  ·rfl
  ·omega
 |succ n ih =>
  intro i j d hn
  have l2:=scanUp_ge (fun x=> !ltN d[a]! x) d j i
  have l3:=scanDown_le (fun x=>ltN d[a]! x) d (scanUp (fun x=> !ltN d[a]! x) d j i) j
  rw [partEqLoop_eq]
  split
  ·rfl
  ·rw [ih _ _ _ (by omega),sw_size]
theorem c204 {N:Nat}(hN:N≤49) {a b p:Nat}{d:Array Nat}(hd:d.size=N) (ha:a<b) (hb:b≤N) (hp:p<N):E cx (.own 204) [AR N,vi (a:Int),vi (b:Int),vi (p:Int)] (HA d)=some (Out.ret (vi ((partitionEqual ltN d a b p).1:Int)),HA (partitionEqual ltN d a b p).2):=by
 obtain⟨j',h⟩:=partEq_loop hN (a:=a) (by omega) _ (a+1) (b-1) (swp d a p) (Nat.le_refl _) (by omega) (by omega) (by omega) (by rw [sw_size];exact hd)
 refine(f204 _ _ _ _ _).trans ((sw4 rfl rfl (show a<N by omega) hp hd _).trans ?_)
 rw [rw_set rfl,rw_set rfl,wS1 (by omega),show ω .i64 (Int.sub (b:Int) 1)=((b-1:Nat):Int) from(wr_sub (b:=1) (by omega) (by omega)).trans (by omega)]
 exact goA2 (e := .exit 0) rfl h _ _
theorem equal_size (d:Array Nat) (a b p:Nat):(partitionEqual ltN d a b p).2.size=d.size:=by unfold partitionEqual;rw [partEq_size _ _ _ _ _ (Nat.le_refl _),sw_size]
end Go.Proofs.Av
set_option maxRecDepth 100000
namespace Go.Proofs.Av
open Go Go.Sort
open Go.IntKind renaming wrap→ω
theorem up205 {p:List Bool}{e:JX}{N a j:Nat}(hN:N≤49) {d:Array Nat}(hd:d.size=N) (ha:a<N) (hj:j<N) (hf:∀(x:Int) (n:Nat) (a j:Int) (l:List (List AV)),E cx (.loop 205 p) [vi x,AR n,vi a,vi j] [Ob.mk OK.arr 26 1 1 l]=bif decide (x≤j) then(if 0≤x then(if x<(n:Int) then((nth l (Nat.add 0 x.toNat)).bind fun cs=>(uncons? cs).bind fun q=>(AV.int? .u64 q.fst).bind fun u=>(nil? q.snd).bind fun _=>if 0≤a then(if a<(n:Int) then((nth l (Nat.add 0 a.toNat)).bind fun cs=>(uncons? cs).bind fun q=>(AV.int? .u64 q.fst).bind fun v=>(nil? q.snd).bind fun _=>(E cx (.fn 203) [vu u,vu v] []).bind fun r=>(ret1 r).bind fun v=>(AV.bool? v).bind fun b=>bif b then E cx (.loop 205 p) [vi (ω .i64 (Int.add x 1)),AR n,vi a,vi j] [Ob.mk OK.arr 26 1 1 l] else some (Out.jump e [vi x],[Ob.mk OK.arr 26 1 1 l])) else none) else none) else none) else none) else some (Out.jump e [vi x],[Ob.mk OK.arr 26 1 1 l])) {i:Nat}(hi:i≤N):E cx (.loop 205 p) [vi (i:Int),AR N,vi (a:Int),vi (j:Int)] (HA d)=JR e [vi (scanUp (fun x=>ltN x d[a]!) d j i:Int)] d:=by
 refine up_of (a:=a) (p:=fun x=>ltN x d[a]!) (L:=fun i=>E cx (.loop 205 p) [vi (i:Int),AR N,vi (a:Int),vi (j:Int)] (HA d)) hj (fun i hij hp=> ?_) (fun i hi hp=> ?_) _ i (Nat.le_refl _) hi
 ·refine(hf _ _ _ _ _).trans ((goD (show(i:Int)≤(j:Int) by omega) _ _).trans ((ld rfl (show i<N by omega) hd _ _ _).trans ((ld rfl ha hd _ _ _).trans ((goT ((c203 _ _).trans (by rw [show ltN d[i]! d[a]! =true from hp])) _ _).trans ?_))))
  rw [wS1 (by omega)]
 ·by_cases hij:i≤j
  ·exact(hf _ _ _ _ _).trans ((goD (show(i:Int)≤(j:Int) by omega) _ _).trans ((ld rfl (show i<N by omega) hd _ _ _).trans ((ld rfl ha hd _ _ _).trans (goF ((c203 _ _).trans (by rw [show ltN d[i]! d[a]! =false from hp hij])) _ _))))
  ·exact(hf _ _ _ _ _).trans (goDn (show ¬(i:Int)≤(j:Int) by omega) _ _)
theorem down205 {p:List Bool}{e:JX}{N a i:Nat}(hN:N≤49) {d:Array Nat}(hd:d.size=N) (ha:a<N) (hi:1≤i) (hf:∀(x:Int) (n:Nat) (a i:Int) (l:List (List AV)),E cx (.loop 205 p) [vi x,AR n,vi a,vi i] [Ob.mk OK.arr 26 1 1 l]=bif decide (i≤x) then(if 0≤x then(if x<(n:Int) then((nth l (Nat.add 0 x.toNat)).bind fun cs=>(uncons? cs).bind fun q=>(AV.int? .u64 q.fst).bind fun u=>(nil? q.snd).bind fun _=>if 0≤a then(if a<(n:Int) then((nth l (Nat.add 0 a.toNat)).bind fun cs=>(uncons? cs).bind fun q=>(AV.int? .u64 q.fst).bind fun v=>(nil? q.snd).bind fun _=>(E cx (.fn 203) [vu u,vu v] []).bind fun r=>(ret1 r).bind fun v=>(AV.bool? v).bind fun b=>bif b then some (Out.jump e [vi x],[Ob.mk OK.arr 26 1 1 l]) else E cx (.loop 205 p) [vi (ω .i64 (Int.sub x 1)),AR n,vi a,vi i] [Ob.mk OK.arr 26 1 1 l]) else none) else none) else none) else none) else some (Out.jump e [vi x],[Ob.mk OK.arr 26 1 1 l])) {j:Nat}(hj:j<N):E cx (.loop 205 p) [vi (j:Int),AR N,vi (a:Int),vi (i:Int)] (HA d)=JR e [vi (scanDown (fun x=> !ltN x d[a]!) d i j:Int)] d:=by
 refine down_of (N:=N) (a:=a) (p:=fun x=> !ltN x d[a]!) (L:=fun j=>E cx (.loop 205 p) [vi (j:Int),AR N,vi (a:Int),vi (i:Int)] (HA d)) hi (fun j hj hij hp=> ?_) (fun j hj hp=> ?_) j hj
 ·refine(hf _ _ _ _ _).trans ((goD (show(i:Int)≤((j+1:Nat):Int) by omega) _ _).trans ((ld rfl hj hd _ _ _).trans ((ld rfl ha hd _ _ _).trans ((goF ((c203 _ _).trans (by rw [show ltN d[j+1]! d[a]! =false by simpa using hp])) _ _).trans ?_))))
  rw [wP1 (by omega)]
 ·by_cases hij:i≤j
  ·exact(hf _ _ _ _ _).trans ((goD (show(i:Int)≤(j:Int) by omega) _ _).trans ((ld rfl hj hd _ _ _).trans ((ld rfl ha hd _ _ _).trans (goT ((c203 _ _).trans (by rw [show ltN d[j]! d[a]! =true by simpa using hp hij])) _ _))))
  ·exact(hf _ _ _ _ _).trans (goDn (show ¬(i:Int)≤(j:Int) by omega) _ _)
theorem part_loop {N a:Nat}(hN:N≤49) (ha:a<N):∀(n i j:Nat) (d:Array Nat),j+1-i≤n→1≤i→i≤N→j<N→d.size=N→(partLoop ltN a i j d).1<N∧(partLoop ltN a i j d).2.size=N∧∃i',E cx (.loop 205 [true,true,true,true,true,true,true,true,true,false,false]) [vi (i:Int),vi (j:Int),AR N,vi (a:Int)] (HA d)=JR (.exit 4) [vi i',vi ((partLoop ltN a i j d).1:Int)] (partLoop ltN a i j d).2:=by
 intro n
 induction n with
 |zero =>
  intro i j d hn h1 hi hj hd
  have u:=up205 hN hd ha hj f205_l2_l3 hi
  have e1:scanUp (fun x=>ltN x d[a]!) d j i=i:=by unfold scanUp;rw [if_neg (by simp;omega)]
  rw [e1] at u
  have v:=down205 hN hd ha h1 f205_l2_l4 hj
  have e2:scanDown (fun x=> !ltN x d[a]!) d i j=j:=by
   cases j with
   |zero=>rfl
   |succ j=>unfold scanDown;rw [if_neg (by simp;omega)]
  rw [e2] at v
  rw [partLoop_eq,e1,e2,if_pos (by omega)]
  exact⟨hj,hd,(i:Int),(f205_l2 _ _ _ _ _).trans ((goA1 (e := .exit 6) rfl u _ _).trans ((goA1 (e := .exit 8) rfl v _ _).trans (goD (show(i:Int)>(j:Int) by omega) _ _)))⟩
 |succ n ih =>
  intro i j d hn h1 hi hj hd
  have u:=up205 hN hd ha hj f205_l2_l3 hi
  have l1:=scanUp_le (fun x=>ltN x d[a]!) d j _ i N (Nat.le_refl _) hi hj
  have l2:=scanUp_ge (fun x=>ltN x d[a]!) d j i
  have v:=down205 hN hd ha (i:=scanUp (fun x=>ltN x d[a]!) d j i) (by omega) f205_l2_l4 hj
  have l3:=scanDown_le (fun x=> !ltN x d[a]!) d (scanUp (fun x=>ltN x d[a]!) d j i) j
  rw [partLoop_eq]
  generalize scanUp (fun x=>ltN x d[a]!) d j i=i2 at *
  generalize scanDown (fun x=> !ltN x d[a]!) d i2 j=j2 at *
  by_cases h:i2>j2
  ·rw [if_pos h]
   exact⟨by omega,hd,(i2:Int),(f205_l2 _ _ _ _ _).trans ((goA1 (e := .exit 6) rfl u _ _).trans ((goA1 (e := .exit 8) rfl v _ _).trans (goD (show(i2:Int)>(j2:Int) by omega) _ _)))⟩
  ·rw [if_neg h]
   obtain⟨g1,g2,i',h2⟩:=ih (i2+1) (j2-1) (swp d i2 j2) (by omega) (by omega) (by omega) (by omega) (by rw [sw_size];exact hd)
   refine⟨g1,g2,i',(f205_l2 _ _ _ _ _).trans ((goA1 (e := .exit 6) rfl u _ _).trans ((goA1 (e := .exit 8) rfl v _ _).trans ((goDn (show ¬(i2:Int)>(j2:Int) by omega) _ _).trans ((sw4 rfl rfl (show i2<N by omega) (show j2<N by omega) hd _).trans ?_))))⟩
   dsimp only
   rw [rw_set rfl,rw_set rfl,wS1 (by omega),show ω .i64 (Int.sub (j2:Int) 1)=((j2-1:Nat):Int) from(wr_sub (b:=1) (by omega) (by omega)).trans (by omega)]
   exact h2
theorem c205 {N:Nat}(hN:N≤49) {a b p:Nat}{d:Array Nat}(hd:d.size=N) (hab:a<b) (hb:b≤N) (hp:p<N):E cx (.own 205) [AR N,vi (a:Int),vi (b:Int),vi (p:Int)] (HA d)=some (Out.ret (.tuple [vi ((partition ltN d a b p).1:Int),vbool (partition ltN d a b p).2.1]),HA (partition ltN d a b p).2.2)∧(partition ltN d a b p).1<N∧(partition ltN d a b p).2.2.size=N:=by
 have ha:a<N:=by omega
 have hd':(swp d a p).size=N:=by rw [sw_size];exact hd
 have u:=up205 hN hd' ha (j:=b-1) (by omega) f205_l0 (i:=a+1) (by omega)
 have l1:=scanUp_le (fun x=>ltN x (swp d a p)[a]!) (swp d a p) (b-1) _ (a+1) N (Nat.le_refl _) (by omega) (by omega)
 have l2:=scanUp_ge (fun x=>ltN x (swp d a p)[a]!) (swp d a p) (b-1) (a+1)
 have v:=down205 hN hd' ha (i:=scanUp (fun x=>ltN x (swp d a p)[a]!) (swp d a p) (b-1) (a+1)) (by omega) f205_l1 (j:=b-1) (by omega)
 have l3:=scanDown_le (fun x=> !ltN x (swp d a p)[a]!) (swp d a p) (scanUp (fun x=>ltN x (swp d a p)[a]!) (swp d a p) (b-1) (a+1)) (b-1)
 have st:=(f205 N (rw' d) (a:Int) (b:Int) (p:Int)).trans (sw4 rfl rfl ha hp hd _)
 rw [rw_set rfl,rw_set rfl,wS1 (by omega),show ω .i64 (Int.sub (b:Int) 1)=((b-1:Nat):Int) from(wr_sub (b:=1) (by omega) (by omega)).trans (by omega)] at st
 unfold partition
 simp only []
 generalize scanUp (fun x=>ltN x (swp d a p)[a]!) (swp d a p) (b-1) (a+1)=i2 at *
 generalize scanDown (fun x=> !ltN x (swp d a p)[a]!) (swp d a p) i2 (b-1)=j2 at *
 have st2:=st.trans ((goA1 (e := .exit 0) rfl u _ _).trans (goA1 (e := .exit 2) rfl v _ _))
 by_cases h:i2>j2
 ·simp only [h,if_true]
  refine⟨?_,by omega,by rw [sw_size];exact hd'⟩
  refine st2.trans ((goD (show(i2:Int)>(j2:Int) by omega) _ _).trans ((sw4 rfl rfl (show j2<N by omega) ha hd' _).trans ?_))
  dsimp only
  rw [rw_set rfl,rw_set rfl]
  rfl
 ·simp only [h,if_false]
  obtain⟨g1,g2,i',h2⟩:=part_loop hN ha _ (i2+1) (j2-1) (swp (swp d a p) i2 j2) (Nat.le_refl _) (by omega) (by omega) (by omega) (by rw [sw_size];exact hd')
  refine⟨?_,g1,by rw [sw_size];exact g2⟩
  refine st2.trans ((goDn (show ¬(i2:Int)>(j2:Int) by omega) _ _).trans ((sw4 rfl rfl (show i2<N by omega) (show j2<N by omega) hd' _).trans ?_))
  dsimp only
  rw [rw_set rfl,rw_set rfl,wS1 (by omega),show ω .i64 (Int.sub (j2:Int) 1)=((j2-1:Nat):Int) from(wr_sub (b:=1) (by omega) (by omega)).trans (by omega)]
  refine(goA2 (e := .exit 4) rfl h2 _ _).trans ((sw4 rfl rfl g1 ha g2 _).trans ?_)
  dsimp only
  rw [rw_set rfl,rw_set rfl]
  rfl
theorem c151 (n:Nat) (h:n<50):E cx (.fn 151) [vu (n:Int)] []=some (Out.ret (vi (bitsLen n:Int)),[]):=by
 have:n=0∨n=1∨n=2∨n=3∨n=4∨n=5∨n=6∨n=7∨n=8∨n=9∨n=10∨n=11∨n=12∨n=13∨n=14∨n=15∨n=16∨n=17∨n=18∨n=19∨n=20∨n=21∨n=22∨n=23∨n=24∨n=25∨n=26∨n=27∨n=28∨n=29∨n=30∨n=31∨n=32∨n=33∨n=34∨n=35∨n=36∨n=37∨n=38∨n=39∨n=40∨n=41∨n=42∨n=43∨n=44∨n=45∨n=46∨n=47∨n=48∨n=49:=by omega
 rcases this with rfl |rfl |rfl |rfl |rfl |rfl |rfl |rfl |rfl |rfl |rfl |rfl |rfl |rfl |rfl |rfl |rfl |rfl |rfl |rfl |rfl |rfl |rfl |rfl |rfl |rfl |rfl |rfl |rfl |rfl |rfl |rfl |rfl |rfl |rfl |rfl |rfl |rfl |rfl |rfl |rfl |rfl |rfl |rfl |rfl |rfl |rfl |rfl |rfl |rfl<;>exact(E_in [175] _ _ _).trans (by kernel_rfl)
theorem bv_nat {a:Nat}(h:a<18446744073709551616):(BitVec.ofInt IntKind.u64.bits (a:Int)).toNat=a:=by
 rw [BitVec.ofInt_natCast,BitVec.toNat_ofNat]
 show a%2 ^ 64=a
 exact Nat.mod_eq_of_lt (by omega)
theorem iand_nat {a b:Nat}(ha:a<18446744073709551616) (hb:b<18446744073709551616):iand .u64 (a:Int) (b:Int)=((a &&&b:Nat):Int):=by
 unfold iand
 rw [BitVec.toNat_and,bv_nat ha,bv_nat hb]
 have:a &&&b≤a:=Nat.and_le_left
 exact wu_id (by omega) (by omega)
theorem ixor_nat {a b:Nat}(ha:a<18446744073709551616) (hb:b<18446744073709551616):ixor .u64 (a:Int) (b:Int)=((a ^^^ b:Nat):Int):=by
 unfold ixor
 rw [BitVec.toNat_xor,bv_nat ha,bv_nat hb]
 have:a ^^^ b<2 ^ 64:=Nat.xor_lt_two_pow (by omega) (by omega)
 exact wu_id (by omega) (by omega)
theorem shl_nat (a k:Nat) (hk:k≤64):ishl .u64 (a:Int) (k:Int)=((a*2 ^ k%18446744073709551616:Nat):Int):=by
 unfold ishl
 rw [show(k:Int).toNat=k by omega,show IntKind.u64.bits=64 from rfl,Nat.min_eq_left hk,show(2:Int) ^ k=((2 ^ k:Nat):Int) by rw [Int.natCast_pow];rfl,←Int.natCast_mul]
 simp only [ω,IntKind.bits,IntKind.signed,Bool.false_and]
 simp
theorem shr_nat (a k:Nat) (hk:k≤64):ishr .u64 (a:Int) (k:Int)=((a/2 ^ k:Nat):Int):=by
 unfold ishr
 rw [show(k:Int).toNat=k by omega,show IntKind.u64.bits=64 from rfl,Nat.min_eq_left hk,show(2:Int) ^ k=((2 ^ k:Nat):Int) by rw [Int.natCast_pow];rfl,Int.fdiv_eq_ediv_of_nonneg _ (Int.natCast_nonneg _)]
 exact(Int.natCast_ediv _ _).symm
theorem c190 (n:Nat) (h0:0<n) (h:n<50):E cx (.fn 190) [vi (n:Int)] []=some (Out.ret (vu ((1 <<<bitsLen n:Nat):Int)),[]):=by
 have h1:=two_pow_bitsLen_le h0
 have h2:bitsLen n≤6:=(bitsLen_le_iff n 6).2 (by omega)
 refine(f190 _).trans ?_
 rw [wu_id (by omega) (by omega)]
 refine(goI (c151 n h) _).trans ((goN (show ¬((bitsLen n:Nat):Int)<0 by omega) _ _).trans ?_)
 rw [show ishl .u64 1 ((bitsLen n:Nat):Int)=_ from shl_nat 1 (bitsLen n) (by omega),Nat.one_shiftLeft,Nat.one_mul,Nat.mod_eq_of_lt (by omega)]
theorem c191 (r:UInt64):E cx (.own 191) [.ptr 0 0 0 0] [Ob.mk OK.box 222 1 0 [[vu (r.toNat:Int)]]]=some (Out.ret (vu ((xorNext r).toNat:Int)),[Ob.mk OK.box 222 1 0 [[vu ((xorNext r).toNat:Int)]]]):=by
 refine(f191 _).trans ?_
 have h:=r.toNat_lt
 rw [xorNext_toNat]
 generalize r.toNat=x at *
 have ha:x ^^^ (x*8192%18446744073709551616)<2 ^ 64:=Nat.xor_lt_two_pow (by omega) (by omega)
 have hb:(x ^^^ (x*8192%18446744073709551616)) ^^^ ((x ^^^ (x*8192%18446744073709551616))/128)<2 ^ 64:=Nat.xor_lt_two_pow (by omega) (by omega)
 rw [show ishl .u64 (x:Int) 13=((x*8192%18446744073709551616:Nat):Int) from shl_nat x 13 (by omega),ixor_nat (by omega) (by omega)]
 rw [show ishr .u64 ((x ^^^ (x*8192%18446744073709551616):Nat):Int) 7=(((x ^^^ (x*8192%18446744073709551616))/128:Nat):Int) from shr_nat _ 7 (by omega),ixor_nat (by omega) (by omega)]
 rw [show ∀y:Nat,ishl .u64 (y:Int) 17=((y*131072%18446744073709551616:Nat):Int) from fun y=>shl_nat y 17 (by omega),ixor_nat (by omega) (by omega)]
 rfl
theorem goX1 {ρ:Type}{x:Option (Out×Heap)}{n s:Int}{c:List AV}(h:x=some (Out.ret (vu n),[Ob.mk OK.box 222 1 0 [[vu s]]])) (k:Int→Int→Option ρ):(x.bind fun r=>(asRet r).bind fun q=>(AV.int? .u64 q.fst).bind fun n=>(uncons? q.snd).bind fun p=>(obIs (Ob.mk OK.box 222 1 0 [c]) p.fst).bind fun _=>(chk p.fst.ver 0).bind fun _=>(uncons? p.fst.es).bind fun p2=>(nil? p2.snd).bind fun _=>(uncons? p2.fst).bind fun p3=>(AV.int? .u64 p3.fst).bind fun s=>(nil? p3.snd).bind fun _=>(nil? p.snd).bind fun _=>k n s)=k n s:=by rw [h];rfl
abbrev HX (r:UInt64) (d:Array Nat):Heap:=[Ob.mk OK.arr 26 1 1 (rw' d),Ob.mk OK.box 222 1 0 [[vu (r.toNat:Int)]]]
theorem w_idx {a q:Nat}(ha:a≤1000) (hq:q≤1000):ω .i64 (Int.add (a:Int) (ω .i64 (Int.mul (q:Int) 2)))=((a+q*2:Nat):Int):=by
 have e:ω .i64 (Int.mul (q:Int) 2)=((q*2:Nat):Int):=(wr_mul (b:=2) (by omega) (by omega)).trans (by omega)
 rw [e]
 exact(wr_add (by omega) (by omega)).trans (by omega)
theorem brk_len {l:Nat}(hl:0<l) (r:Nat):(if r &&&((1 <<<bitsLen l)-1)≥l then(r &&&((1 <<<bitsLen l)-1))-l else r &&&((1 <<<bitsLen l)-1))<l:=by
 have h1:r &&&((1 <<<bitsLen l)-1)≤(1 <<<bitsLen l)-1:=Nat.and_le_right
 have h2:=two_pow_bitsLen_le hl
 rw [Nat.one_shiftLeft] at *
 have h3:=Nat.two_pow_pos (bitsLen l)
 split<;>omega
theorem brk1 {N a l:Nat}(hN:N≤49) (hl:8≤l) (hal:a+l≤N) {idx:Nat}(hi:idx<N) (ht:idx≤a+l/4*2+1) {r:UInt64}{d:Array Nat}(hd:d.size=N):E cx (.loop 199 [true,true,false,true,true,true,false]) [vi (idx:Int),AR N,vi (a:Int),vi (l:Int),.ptr 1 0 0 0,vu ((1 <<<bitsLen l:Nat):Int)] (HX r d)=E cx (.loop 199 [true,true,false,true,true,true,false]) [vi ((idx+1:Nat):Int),AR N,vi (a:Int),vi (l:Int),.ptr 1 0 0 0,vu ((1 <<<bitsLen l:Nat):Int)] (HX (breakStep a l (1 <<<bitsLen l) (r,d) idx).1 (breakStep a l (1 <<<bitsLen l) (r,d) idx).2):=by
 have h0:=brk_len (show 0<l by omega) (xorNext r).toNat
 have h1:1 <<<bitsLen l≤128:=by
  rw [Nat.one_shiftLeft]
  have:=two_pow_bitsLen_le (show 0<l by omega)
  omega
 have h2:0<1 <<<bitsLen l:=by rw [Nat.one_shiftLeft];exact Nat.two_pow_pos _
 have hx:=(xorNext r).toNat_lt
 have w1:ω .i64 (Int.tdiv (l:Int) 4)=((l/4:Nat):Int):=by
  rw [show(4:Int)=((4:Nat):Int) from rfl,←Int.ofNat_tdiv]
  exact wr_id (by omega) (by omega)
 have w2:ω .i64 (Int.add (ω .i64 (Int.add (a:Int) (ω .i64 (Int.mul ((l/4:Nat):Int) 2)))) 1)=((a+l/4*2+1:Nat):Int):=by
  rw [w_idx (by omega) (by omega)]
  exact(wr_add (b:=1) (by omega) (by omega)).trans (by omega)
 have h3:(xorNext r).toNat &&&((1 <<<bitsLen l)-1)≤(1 <<<bitsLen l)-1:=Nat.and_le_right
 have w3:ω .i64 (iand .u64 ((xorNext r).toNat:Int) (ω .u64 (Int.sub ((1 <<<bitsLen l:Nat):Int) 1)))=(((xorNext r).toNat &&&((1 <<<bitsLen l)-1):Nat):Int):=by
  rw [show Int.sub ((1 <<<bitsLen l:Nat):Int) 1=(((1 <<<bitsLen l)-1:Nat):Int) from by show((1 <<<bitsLen l:Nat):Int)-1=_;omega,wu_id (by omega) (by omega),iand_nat (by omega) (by omega)]
  exact wr_id (by omega) (by omega)
 have st:=f199_l0 (idx:Int) N (a:Int) (l:Int) ((1 <<<bitsLen l:Nat):Int) (rw' d) (r.toNat:Int)
 rw [w1,w2] at st
 refine st.trans ((goD (show(idx:Int)≤((a+l/4*2+1:Nat):Int) by omega) _ _).trans ((goX1 (c191 r) _).trans ?_))
 rw [w3]
 unfold breakStep
 simp only []
 generalize (xorNext r).toNat &&&((1 <<<bitsLen l)-1)=o at *
 by_cases ho:o≥l
 ·rw [if_pos ho] at h0
  simp only [ho,if_true]
  refine(goD (show(o:Int)≥(l:Int) by omega) _ _).trans ?_
  rw [show ω .i64 (Int.add (a:Int) (ω .i64 (Int.sub (o:Int) (l:Int))))=((a+(o-l):Nat):Int) from by rw [wr_sub (by omega) (by omega),wr_add (by omega) (by omega)];omega]
  refine(sw4 rfl rfl hi (show a+(o-l)<N by omega) hd _).trans ?_
  rw [rw_set rfl,rw_set rfl,wS1 (by omega)]
  rfl
 ·rw [if_neg ho] at h0
  simp only [ho,if_false]
  refine(goDn (show ¬(o:Int)≥(l:Int) by omega) _ _).trans ?_
  rw [show ω .i64 (Int.add (a:Int) (o:Int))=((a+o:Nat):Int) from(wr_add (by omega) (by omega)).trans (by omega)]
  refine(sw4 rfl rfl hi (show a+o<N by omega) hd _).trans ?_
  rw [rw_set rfl,rw_set rfl,wS1 (by omega)]
  rfl
theorem step_size (a l m:Nat) (st:UInt64×Array Nat) (idx:Nat):(breakStep a l m st idx).2.size=st.2.size:=by unfold breakStep;simp only [];rw [sw_size]
theorem brk_size (d:Array Nat) (a b:Nat):(breakPatterns d a b).size=d.size:=by
 unfold breakPatterns
 simp only []
 split
 ·rw [step_size,step_size,step_size]
 ·rfl
theorem c199 {N:Nat}(hN:N≤49) {a b:Nat}{d:Array Nat}(hd:d.size=N) (hab:a<b) (hb:b≤N):E cx (.own 199) [AR N,vi (a:Int),vi (b:Int)] (HA d)=OR (breakPatterns d a b):=by
 have w0:ω .i64 (Int.sub (b:Int) (a:Int))=((b-a:Nat):Int):=(wr_sub (by omega) (by omega)).trans (by omega)
 refine(f199 _ _ _ _).trans ?_
 rw [w0]
 unfold breakPatterns
 simp only []
 by_cases h8:b-a≥8
 ·rw [if_pos h8]
  have w1:ω .i64 (Int.tdiv ((b-a:Nat):Int) 4)=(((b-a)/4:Nat):Int):=by
   rw [show(4:Int)=((4:Nat):Int) from rfl,←Int.ofNat_tdiv]
   exact wr_id (by omega) (by omega)
  have w2:ω .i64 (Int.sub (ω .i64 (Int.add (a:Int) (ω .i64 (Int.mul (((b-a)/4:Nat):Int) 2)))) 1)=((a+(b-a)/4*2-1:Nat):Int):=by
   rw [w_idx (by omega) (by omega)]
   exact(wr_sub (b:=1) (by omega) (by omega)).trans (by omega)
  refine(goD (show((b-a:Nat):Int)≥8 by omega) _ _).trans ((goU (c190 (b-a) (by omega) (by omega)) _).trans ?_)
  rw [w1,w2,wu_id (by omega) (by omega)]
  have hr:(UInt64.ofNat (b-a)).toNat=b-a:=by rw [UInt64.toNat_ofNat'];exact Nat.mod_eq_of_lt (by omega)
  have s1:=brk1 hN h8 (show a+(b-a)≤N by omega) (idx:=a+(b-a)/4*2-1) (by omega) (by omega) (r:=UInt64.ofNat (b-a)) hd
  have s2:=brk1 hN h8 (show a+(b-a)≤N by omega) (idx:=a+(b-a)/4*2-1+1) (by omega) (by omega) (r:=(breakStep a (b-a) (1 <<<bitsLen (b-a)) (UInt64.ofNat (b-a),d) (a+(b-a)/4*2-1)).1) (d:=(breakStep a (b-a) (1 <<<bitsLen (b-a)) (UInt64.ofNat (b-a),d) (a+(b-a)/4*2-1)).2) (by rw [step_size];exact hd)
  have s3:=brk1 hN h8 (show a+(b-a)≤N by omega) (idx:=a+(b-a)/4*2-1+2) (by omega) (by omega) (r:=(breakStep a (b-a) (1 <<<bitsLen (b-a)) (breakStep a (b-a) (1 <<<bitsLen (b-a)) (UInt64.ofNat (b-a),d) (a+(b-a)/4*2-1)) (a+(b-a)/4*2-1+1)).1) (d:=(breakStep a (b-a) (1 <<<bitsLen (b-a)) (breakStep a (b-a) (1 <<<bitsLen (b-a)) (UInt64.ofNat (b-a),d) (a+(b-a)/4*2-1)) (a+(b-a)/4*2-1+1)).2) (by rw [step_size,step_size];exact hd)
  have s:=s1.trans (s2.trans s3)
  rw [show HX (UInt64.ofNat (b-a)) d=[Ob.mk OK.arr 26 1 1 (rw' d),Ob.mk OK.box 222 1 0 [[vu ((b-a:Nat):Int)]]] by rw [←hr];rw [hr];simp [HX,hr]] at s
  rw [s]
  generalize breakStep a (b-a) (1 <<<bitsLen (b-a)) (breakStep a (b-a) (1 <<<bitsLen (b-a)) (breakStep a (b-a) (1 <<<bitsLen (b-a)) (UInt64.ofNat (b-a),d) (a+(b-a)/4*2-1)) (a+(b-a)/4*2-1+1)) (a+(b-a)/4*2-1+2)=z
  have e:=f199_l0 ((a+(b-a)/4*2-1+2+1:Nat):Int) N (a:Int) ((b-a:Nat):Int) ((1 <<<bitsLen (b-a):Nat):Int) (rw' z.2) (z.1.toNat:Int)
  have w3:ω .i64 (Int.add (ω .i64 (Int.add (a:Int) (ω .i64 (Int.mul (((b-a)/4:Nat):Int) 2)))) 1)=((a+(b-a)/4*2+1:Nat):Int):=by
   rw [w_idx (by omega) (by omega)]
   exact(wr_add (b:=1) (by omega) (by omega)).trans (by omega)
  rw [w1,w3] at e
  rw [e.trans (goDn (show ¬((a+(b-a)/4*2-1+2+1:Nat):Int)≤((a+(b-a)/4*2+1:Nat):Int) by omega) _ _)]
  rfl
 ·rw [if_neg h8]
  exact goDn (show ¬((b-a:Nat):Int)≥8 by omega) _ _
theorem swoN:SWO ltN where
 irrefl x:=by simp [ltN]
 trans x y z h1 h2:=by simp [ltN] at *;omega
 ntrans x y z h1 h2:=by simp [ltN] at *;omega
section
variable {ρ:Type}{x:Option (Out×Heap)}
theorem goPt {n:Int}{b:Bool}{R Z:List (List AV)}(h:x=some (Out.ret (.tuple [vi n,vbool b]),[Ob.mk OK.arr 26 1 1 R])) (k:Int→Bool→Ob×List Ob→Option ρ):(x.bind fun r=>(asRet r).bind fun q=>(AV.tup? q.fst).bind fun vs=>(uncons? vs).bind fun p4=>(AV.int? .i64 p4.fst).bind fun n=>(uncons? p4.snd).bind fun p5=>(AV.bool? p5.fst).bind fun b=>(nil? p5.snd).bind fun _=>(uncons? q.snd).bind fun p=>(obIs (Ob.mk OK.arr 26 1 1 Z) p.fst).bind fun _=>(chk p.fst.ver 1).bind fun _=>(nil? p.snd).bind fun _=>k n b p)=k n b (Ob.mk OK.arr 26 1 1 R,[]):=by rw [h];rfl
theorem goPe {n:Int}{R Z:List (List AV)}(h:x=some (Out.ret (vi n),[Ob.mk OK.arr 26 1 1 R])) (k:Int→Ob×List Ob→Option ρ):(x.bind fun r=>(asRet r).bind fun q=>(AV.int? .i64 q.fst).bind fun n=>(uncons? q.snd).bind fun p=>(obIs (Ob.mk OK.arr 26 1 1 Z) p.fst).bind fun _=>(chk p.fst.ver 1).bind fun _=>(nil? p.snd).bind fun _=>k n p)=k n (Ob.mk OK.arr 26 1 1 R,[]):=by rw [h];rfl
theorem goPb {b:Bool}{R Z:List (List AV)}(h:x=some (Out.ret (vbool b),[Ob.mk OK.arr 26 1 1 R])) (k:Bool→Ob×List Ob→Option ρ):(x.bind fun r=>(asRet r).bind fun q=>(AV.bool? q.fst).bind fun b=>(uncons? q.snd).bind fun p=>(obIs (Ob.mk OK.arr 26 1 1 Z) p.fst).bind fun _=>(chk p.fst.ver 1).bind fun _=>(nil? p.snd).bind fun _=>k b p)=k b (Ob.mk OK.arr 26 1 1 R,[]):=by rw [h];rfl
theorem goT2 {n m:Int}(h:x=some (Out.ret (.tuple [vi n,vi m]),[])) (k:Int→Int→Option ρ):(x.bind fun r=>(ret1 r).bind fun v=>(AV.tup? v).bind fun vs=>(uncons? vs).bind fun p4=>(AV.int? .i64 p4.fst).bind fun n=>(uncons? p4.snd).bind fun p5=>(AV.int? .i64 p5.fst).bind fun m=>(nil? p5.snd).bind fun _=>k n m)=k n m:=by rw [h];rfl
end
def SpL (a b:Nat) (d:Array Nat) (X:Option (Out×Heap)):Prop:=∃(x1 x2 x3:Int) (b1 b2:Bool) (d':Array Nat),X=JR .ret [vi x1,vi x2,vi x3,vbool b1,vbool b2] d'∧PermIn a b d d'∧SortedIn ltN a b d'
def SpO (a b:Nat) (d:Array Nat) (X:Option (Out×Heap)):Prop:=∃d',X=OR d'∧PermIn a b d d'∧SortedIn ltN a b d'
noncomputable abbrev LP (N a b lim:Nat) (wb wp:Bool) (d:Array Nat):Option (Out×Heap):=E cx (.loop 187 [true,true,false]) [vi (a:Int),vi (b:Int),vi (lim:Int),vbool wb,vbool wp,AR N] (HA d)
noncomputable abbrev OP7 (N a b lim:Nat) (d:Array Nat):Option (Out×Heap):=E cx (.own 187) [AR N,vi (a:Int),vi (b:Int),vi (lim:Int)] (HA d)
theorem own_of {N a b lim:Nat}{d:Array Nat}(h:SpL a b d (LP N a b lim true true d)):SpO a b d (OP7 N a b lim d):=by
 obtain⟨x1,x2,x3,b1,b2,d',h1,h2,h3⟩:=h
 refine⟨d',(f187 _ _ _ _ _).trans ?_,h2,h3⟩
 rw [show E cx (.loop 187 [true,true,false]) [vi (a:Int),vi (b:Int),vi (lim:Int),vbool true,vbool true,AR N] (HA d)=_ from h1]
 rfl
theorem SpL.congr {a b:Nat}{d:Array Nat}{X Y:Option (Out×Heap)}(h:X=Y) (hY:SpL a b d Y):SpL a b d X:=by rw [h];exact hY
abbrev IH (N n:Nat):Prop:=∀(a b lim:Nat) (wb wp:Bool) (d:Array Nat),b-a≤n→a≤b→b≤N→lim≤64→d.size=N→Sort.Below ltN a b d→SpL a b d (LP N a b lim wb wp d)
theorem tail8 {N n:Nat}(hN:N≤49) (ih:IH N n) {a b m lim:Nat}{ap:Bool}{d3 d4:Array Nat}(hn:b-a≤n+1) (h1:a≤m) (h2:m<b) (hb:b≤N) (hl:lim≤64) (hd:d4.size=N) (hBa:Sort.Below ltN a m d4) (hleft:∀L,PermIn a m d4 L→SortedIn ltN a m L→Sort.Below ltN (m+1) b L∧∀R,PermIn (m+1) b L R→SortedIn ltN (m+1) b R→PermIn a b d3 R∧SortedIn ltN a b R):SpL a b d3 (q187_l0_8 (m:Int) (a:Int) (b:Int) N (lim:Int) (Ob.mk OK.arr 26 1 1 (rw' d4),[]) ap):=by
 obtain⟨L,l1,l2,l3⟩:=own_of (ih a m lim true true d4 (by omega) h1 (by omega) hl hd hBa)
 obtain⟨hBL,hfin⟩:=hleft L l2 l3
 have go:∀wb,SpL a b d3 (LP N (m+1) b lim wb ap L):=fun wb=>by
  obtain⟨x1,x2,x3,b1,b2,d',r1,r2,r3⟩:=ih (m+1) b lim wb ap L (by omega) (by omega) hb hl (by rw [l2.1];exact hd) hBL
  exact⟨x1,x2,x3,b1,b2,d',r1,hfin d' r2 r3⟩
 unfold q187_l0_8
 dsimp only
 rw [wS1 (by omega)]
 cases hc:decide (ω .i64 (Int.sub (m:Int) (a:Int))≥ω .i64 (Int.tdiv (ω .i64 (Int.sub (b:Int) (a:Int))) 8)) with
 |true=>exact SpL.congr (goO l1 _) (go true)
 |false=>exact SpL.congr (goO l1 _) (go false)
theorem tail9 {N n:Nat}(hN:N≤49) (ih:IH N n) {a b m lim:Nat}{ap:Bool}{d3 d4:Array Nat}(hn:b-a≤n+1) (h1:a≤m) (h2:m<b) (hb:b≤N) (hl:lim≤64) (hd:d4.size=N) (hBr:Sort.Below ltN (m+1) b d4) (hright:∀L,PermIn (m+1) b d4 L→SortedIn ltN (m+1) b L→Sort.Below ltN a m L∧∀R,PermIn a m L R→SortedIn ltN a m R→PermIn a b d3 R∧SortedIn ltN a b R):SpL a b d3 (q187_l0_9 (b:Int) (m:Int) (a:Int) N (lim:Int) (Ob.mk OK.arr 26 1 1 (rw' d4),[]) ap):=by
 obtain⟨L,l1,l2,l3⟩:=own_of (ih (m+1) b lim true true d4 (by omega) (by omega) hb hl hd hBr)
 obtain⟨hBL,hfin⟩:=hright L l2 l3
 have go:∀wb,SpL a b d3 (LP N a m lim wb ap L):=fun wb=>by
  obtain⟨x1,x2,x3,b1,b2,d',r1,r2,r3⟩:=ih a m lim wb ap L (by omega) h1 (by omega) hl (by rw [l2.1];exact hd) hBL
  exact⟨x1,x2,x3,b1,b2,d',r1,hfin d' r2 r3⟩
 unfold q187_l0_9
 dsimp only
 rw [wS1 (by omega)]
 cases hc:decide (ω .i64 (Int.sub (b:Int) (m:Int))≥ω .i64 (Int.tdiv (ω .i64 (Int.sub (b:Int) (a:Int))) 8)) with
 |true=>exact SpL.congr (goO l1 _) (go true)
 |false=>exact SpL.congr (goO l1 _) (go false)
theorem tail14 {N n:Nat}(hN:N≤49) (ih:IH N n) {a b P lim:Nat}{d3:Array Nat}(hn:b-a≤n+1) (h1:a≤P) (h2:P<b) (hb:b≤N) (hl:lim≤64) (hd:d3.size=N) (hB:Sort.Below ltN a b d3):SpL a b d3 (q187_l0_14 N (a:Int) (b:Int) (P:Int) (rw' d3) (lim:Int)):=by
 obtain⟨c1,c2,c3⟩:=c205 hN hd (show a<b by omega) hb (show P<N by omega)
 obtain⟨g1,g2,hs4,hBa,hBr,hleft,hright⟩:=round_part swoN (partition_holds ltN) h1 h2 (by omega) hB (show partition ltN d3 a b P=((partition ltN d3 a b P).1,(partition ltN d3 a b P).2.1,(partition ltN d3 a b P).2.2) from rfl)
 generalize partition ltN d3 a b P=z at *
 unfold q187_l0_14
 refine SpL.congr (goPt c1 _) ?_
 cases hc:decide (ω .i64 (Int.sub (z.1:Int) (a:Int))<ω .i64 (Int.sub (b:Int) (z.1:Int))) with
 |true=>exact tail8 hN ih hn g1 g2 hb hl c3 hBa hleft
 |false=>exact tail9 hN ih hn g1 g2 hb hl c3 hBr hright
theorem tail15 {N n:Nat}(hN:N≤49) (ih:IH N n) {a b P lim:Nat}{wb wp:Bool}{d3:Array Nat}(hn:b-a≤n+1) (h1:a≤P) (h2:P<b) (hb:b≤N) (hl:lim≤64) (hd:d3.size=N) (hB:Sort.Below ltN a b d3):SpL a b d3 (q187_l0_15 (a:Int) N (rw' d3) (P:Int) (b:Int) (lim:Int) wb wp):=by
 have t14:=tail14 hN ih (lim:=lim) hn h1 h2 hb hl hd hB
 unfold q187_l0_15
 by_cases ha:a>0
 ·have w:ω .i64 (Int.sub (a:Int) 1)=((a-1:Nat):Int):=(wr_sub (b:=1) (by omega) (by omega)).trans (by omega)
  rw [w]
  cases h3:ltN d3[a-1]! d3[P]! with
  |true=>exact SpL.congr ((goD (show(a:Int)>0 by omega) _ _).trans ((ld rfl (show a-1<N by omega) hd _ _ _).trans ((ld rfl (show P<N by omega) hd _ _ _).trans (goT ((c203 _ _).trans (by rw [h3])) _ _)))) t14
  |false =>
   obtain⟨g1,g2,hs4,hB4,hfin⟩:=round_eq swoN (partitionEqual_holds ltN) ha h1 h2 (by omega) hB h3 (show partitionEqual ltN d3 a b P=((partitionEqual ltN d3 a b P).1,(partitionEqual ltN d3 a b P).2) from rfl)
   refine SpL.congr ((goD (show(a:Int)>0 by omega) _ _).trans ((ld rfl (show a-1<N by omega) hd _ _ _).trans ((ld rfl (show P<N by omega) hd _ _ _).trans ((goF ((c203 _ _).trans (by rw [h3])) _ _).trans (goPe (c204 hN hd (show a<b by omega) hb (show P<N by omega)) _))))) ?_
   obtain⟨x1,x2,x3,b1,b2,d',r1,r2,r3⟩:=ih (partitionEqual ltN d3 a b P).1 b lim wb wp (partitionEqual ltN d3 a b P).2 (by omega) g2 hb hl (by omega) hB4
   exact⟨x1,x2,x3,b1,b2,d',r1,hfin d' r2 r3⟩
 ·exact SpL.congr (goDn (show ¬(a:Int)>0 by omega) _ _) t14
theorem SpL.perm {a b:Nat}{d d2:Array Nat}{X:Option (Out×Heap)}(hp:PermIn a b d d2) (h:SpL a b d2 X):SpL a b d X:=by
 obtain⟨x1,x2,x3,b1,b2,d',r1,r2,r3⟩:=h
 exact⟨x1,x2,x3,b1,b2,d',r1,permIn_trans _ _ _ a b hp r2,r3⟩
theorem mid1 {N n:Nat}(hN:N≤49) (ih:IH N n) {a b P lim:Nat}{d2:Array Nat}{x1 x2 x3:Int}{b1 b2:Bool}{Z:List (List AV)}(hn:b-a≤n+1) (h1:a≤P) (h2:P<b) (hb:b≤N) (hl:lim≤64) (hd:d2.size=N) (hB:Sort.Below ltN a b d2) {K:Ob×List Ob→Option (Out×Heap)}(hK:K (Ob.mk OK.arr 26 1 1 (rw' d2),[])=q187_l0_15 (a:Int) N (rw' d2) (P:Int) (b:Int) (lim:Int) true true):SpL a b d2 ((E cx (.own 202) [AR N,vi (a:Int),vi (b:Int)] (HA d2)).bind fun r=>(asRet r).bind fun q=>(AV.bool? q.fst).bind fun c=>(uncons? q.snd).bind fun p=>(obIs (Ob.mk OK.arr 26 1 1 Z) p.fst).bind fun _=>(chk p.fst.ver 1).bind fun _=>(nil? p.snd).bind fun _=>bif c then some (Out.jump JX.ret [vi x1,vi x2,vi x3,vbool b1,vbool b2],[Ob.mk OK.arr 26 1 1 p.fst.es]) else K p):=by
 have hp:=partialInsertionSort_holds swoN d2 a b (by omega) (by omega) hB
 refine SpL.congr (goPb (c202 hN hd (show a<b by omega) hb) _) ?_
 cases hc:(partialInsertionSort ltN d2 a b).2 with
 |true =>
  have e:=part_ins (a:=a) (b:=b) (d:=d2) (by omega)
  have h3:=hp.2 hc
  rw [e] at h3
  exact⟨x1,x2,x3,b1,b2,d2,rfl,permIn_refl _ _ _,h3⟩
 |false =>
  show SpL a b d2 (K (Ob.mk OK.arr 26 1 1 (rw' d2),[]))
  rw [hK]
  exact tail15 hN ih hn h1 h2 hb hl hd hB
theorem view_rw {N:Nat}{d:Array Nat}(hd:d.size=N):List.drop 0 (List.take (Nat.add 0 N) (rw' d))=rw' d:=by
 show List.drop 0 (List.take (0+N) (rw' d))=rw' d
 rw [Nat.zero_add,List.take_of_length_le (by simp [rw',hd])]
 rfl
theorem len_rw (d:Array Nat):List.length (rw' d)=d.size:=by simp [rw']
end Go.Proofs.Av
set_option maxRecDepth 100000
namespace Go.Proofs.Av
open Go Go.Sort
open Go.IntKind renaming wrap→ω
theorem pdq_loop {N:Nat}(hN:N≤49):∀n,IH N n:=by
 intro n
 induction n with
 |zero =>
  intro a b lim wb wp d hn hab hb hl hd hB
  obtain⟨p1,p2⟩:=insertionSort_holds (lt:=ltN) swoN d a b hab (by omega)
  have w:ω .i64 (Int.sub (b:Int) (a:Int))=((b-a:Nat):Int):=(wr_sub (by omega) (by omega)).trans (by omega)
  have st:=f187_l0 (a:Int) (b:Int) (lim:Int) wb wp N (rw' d)
  rw [w] at st
  exact⟨_,_,_,_,_,_,st.trans ((goD (show((b-a:Nat):Int)≤12 by omega) _ _).trans (goO (c197 (by omega) hd hab hb) _)),p1,p2⟩
 |succ n ih =>
  intro a b lim wb wp d hn hab hb hl hd hB
  have w:ω .i64 (Int.sub (b:Int) (a:Int))=((b-a:Nat):Int):=(wr_sub (by omega) (by omega)).trans (by omega)
  have st:=f187_l0 (a:Int) (b:Int) (lim:Int) wb wp N (rw' d)
  rw [w] at st
  by_cases h12:b-a≤12
  ·obtain⟨p1,p2⟩:=insertionSort_holds (lt:=ltN) swoN d a b hab (by omega)
   exact⟨_,_,_,_,_,_,st.trans ((goD (show((b-a:Nat):Int)≤12 by omega) _ _).trans (goO (c197 (by omega) hd hab hb) _)),p1,p2⟩
  have st:=st.trans (goDn (show ¬((b-a:Nat):Int)≤12 by omega) _ _)
  by_cases h0:lim=0
  ·obtain⟨p1,p2⟩:=heapSort_holds (lt:=ltN) swoN d a b hab (by omega)
   exact⟨_,_,_,_,_,_,st.trans ((goD (show(lim:Int)=0 by omega) _ _).trans (goO (c198 (by omega) hd (by omega) hb) _)),p1,p2⟩
  have st:=st.trans (goDn (show ¬(lim:Int)=0 by omega) _ _)
  have wl:ω .i64 (Int.sub (lim:Int) 1)=((lim-1:Nat):Int):=(wr_sub (b:=1) (by omega) (by omega)).trans (by omega)
  have wp1:∀P:Nat,a≤P→P<b→ω .i64 (Int.sub (ω .i64 (Int.sub (b:Int) 1)) (ω .i64 (Int.sub (P:Int) (a:Int))))=((b-1-(P-a):Nat):Int):=fun P h1 h2=>by
   have e1:ω .i64 (Int.sub (b:Int) 1)=((b-1:Nat):Int):=(wr_sub (b:=1) (by omega) (by omega)).trans (by omega)
   have e2:ω .i64 (Int.sub (P:Int) (a:Int))=((P-a:Nat):Int):=(wr_sub (by omega) (by omega)).trans (by omega)
   rw [e1,e2]
   exact(wr_sub (by omega) (by omega)).trans (by omega)
  cases wb with
  |false =>
   have hd1:(breakPatterns d a b).size=N:=by rw [brk_size];exact hd
   have s1:PermIn a b d (breakPatterns d a b):=breakPatterns_holds d a b hab (by omega)
   have hB1:=Sort.Below.perm hB (by omega) s1
   have hc0:=choosePivot_holds ltN (breakPatterns d a b) a b (by omega)
   have hcp:=c200 hN (d:=breakPatterns d a b) hd1 (show a<b by omega) hb
   have st:=st.trans ((goO (c199 hN hd (show a<b by omega) hb) _).trans (goLe (show Nat.add 0 N≤List.length (rw' (breakPatterns d a b)) by rw [len_rw,hd1];exact Nat.le_of_eq (Nat.zero_add N)) _))
   dsimp only at st
   rw [view_rw hd1] at st
   have st:=st.trans (goT2 hcp _)
   refine SpL.perm s1 (SpL.congr st ?_)
   clear st hcp
   generalize choosePivot ltN (breakPatterns d a b) a b=c at *
   obtain⟨P,H⟩:=c
   have s2:=reverseRange_holds (breakPatterns d a b) a b hab (by omega)
   have hd2:(reverseRange (breakPatterns d a b) a b).size=N:=by rw [reverse_size];exact hd1
   have hB2:=Sort.Below.perm hB1 (by omega) s2
   have t1:=tail15 hN ih (lim:=lim-1) (wb:=false) (wp:=wp) hn hc0.1 hc0.2 hb (by omega) hd1 hB1
   have t2:=tail15 hN ih (P:=b-1-(P-a)) (lim:=lim-1) (wb:=false) (wp:=wp) hn (by have:=hc0.1;have:=hc0.2;simp only at *;omega) (by have:=hc0.1;have:=hc0.2;simp only at *;omega) hb (by omega) hd2 hB2
   rw [←wl] at t1 t2
   rw [←wp1 P hc0.1 hc0.2] at t2
   cases H with
   |decreasing =>
    exact SpL.perm s2 (SpL.congr ((goD (show hintI .decreasing=2 from rfl) _ _).trans (goO (c201 (by omega) hd1 (show a<b by omega) hb) _)) t2)
   |increasing=>exact SpL.congr (goDn (show ¬hintI .increasing=2 by decide) _ _) t1
   |unknown=>exact SpL.congr (goDn (show ¬hintI .unknown=2 by decide) _ _) t1
  |true =>
   have hc0:=choosePivot_holds ltN d a b (by omega)
   have hcp:=c200 hN (d:=d) hd (show a<b by omega) hb
   have st:=st.trans (goLe (show Nat.add 0 N≤List.length (rw' d) by rw [len_rw,hd];exact Nat.le_of_eq (Nat.zero_add N)) _)
   rw [view_rw hd] at st
   have st:=st.trans (goT2 hcp _)
   refine SpL.congr st ?_
   clear st hcp
   generalize choosePivot ltN d a b=c at *
   obtain⟨P,H⟩:=c
   have s2:=reverseRange_holds d a b hab (by omega)
   have hd2:(reverseRange d a b).size=N:=by rw [reverse_size];exact hd
   have hB2:=Sort.Below.perm hB (by omega) s2
   have g1:a≤b-1-(P-a):=by have:=hc0.1;have:=hc0.2;simp only at *;omega
   have g2:b-1-(P-a)<b:=by have:=hc0.1;have:=hc0.2;simp only at *;omega
   have t1:=tail15 hN ih (lim:=lim) (wb:=true) (wp:=wp) hn hc0.1 hc0.2 hb hl hd hB
   have t2:=tail15 hN ih (P:=b-1-(P-a)) (lim:=lim) (wb:=true) (wp:=wp) hn g1 g2 hb hl hd2 hB2
   rw [←wp1 P hc0.1 hc0.2] at t2
   cases H with
   |decreasing =>
    refine SpL.perm s2 (SpL.congr ((goD (show hintI .decreasing=2 from rfl) _ _).trans (goO (c201 (by omega) hd (show a<b by omega) hb) _)) ?_)
    cases wp with
    |false=>exact t2
    |true=>exact mid1 hN ih hn g1 g2 hb hl hd2 hB2 (by rw [←wp1 P hc0.1 hc0.2];rfl)
   |increasing =>
    refine SpL.congr (goDn (show ¬hintI .increasing=2 by decide) _ _) ?_
    cases wp with
    |false=>exact t1
    |true=>exact mid1 hN ih hn hc0.1 hc0.2 hb hl hd hB rfl
   |unknown =>
    refine SpL.congr (goDn (show ¬hintI .unknown=2 by decide) _ _) ?_
    cases wp<;>exact t1
theorem c161 {d:Array Nat}(hd:d.size≤49):∃d',E cx (.own 161) [AR d.size] (HA d)=OR d'∧d'.toList=d.toList.mergeSort (fun x y=>decide (x≤y)):=by
 obtain⟨d',h1,h2,h3⟩:=own_of (pdq_loop hd d.size 0 d.size (bitsLen d.size) true true d (by omega) (by omega) (Nat.le_refl _) (by have:=(bitsLen_le_iff d.size 6).2 (by omega);omega) rfl (Or.inl rfl))
 refine⟨d',(f161 _ _).trans ?_,?_⟩
 ·rw [wu_id (by omega) (by omega)]
  exact(goI (c151 d.size (by omega)) _).trans (goO h1 _)
 ·have e:=sorted_unique_holds (lt:=ltN) swoN (fun x y h1 h2=>by simp [ltN] at h1 h2;omega) d d' h2 h3
  rw [e]
  congr 1
  funext x y
  by_cases h:x≤y<;>simp [ltN,h]<;>omega
end Go.Proofs.Av
