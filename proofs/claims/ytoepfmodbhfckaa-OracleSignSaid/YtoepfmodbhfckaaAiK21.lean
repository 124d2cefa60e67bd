/- Closed forms, as far as law 21 needs them. -/
import Derived.Test.YtoepfmodbhfckaaAiK21p0
import Derived.Test.YtoepfmodbhfckaaAiX
import Derived.Sort.AssemblyPlain
import Derived.Sort.LotD5
set_option maxRecDepth 100000
namespace Go.Proofs.Av
open Go Go.Sort
open Option renaming bind→Ω
open Go.IntKind renaming i64→ı
open Go.IntKind renaming u64→υ
open Go.IntKind renaming wrap→ω
open UInt8 renaming ofNat→β
open List renaming getElem?_eq_getElem→η
open List renaming length→ℓ
open Option renaming bind_some→χ
open Int renaming toNat→τ
section
theorem up205 {p:List Bool}{e:JX}{N a j:Nat}(hN:N≤49) {d:Array Nat}(hd:d.size=N) (ha:a<N) (hj:j<N) (hf:∀(x:Int) (n:Nat) (a j:Int) (l:List (List AV)),E cx (.loop 205 p) [vi x,AR n,vi a,vi j] [Ob.mk OK.arr 26 1 1 l]=bif decide (x≤j) then(if 0≤x then(if x<(n:Int) then((nth l (Nat.add 0 x.toNat)).bind fun cs=>(uncons? cs).bind fun q=>(AV.int? .u64 q.fst).bind fun u=>(nil? q.snd).bind fun _=>if 0≤a then(if a<(n:Int) then((nth l (Nat.add 0 a.toNat)).bind fun cs=>(uncons? cs).bind fun q=>(AV.int? .u64 q.fst).bind fun v=>(nil? q.snd).bind fun _=>(E cx (.fn 203) [vu u,vu v] []).bind fun r=>(ret1 r).bind fun v=>(AV.bool? v).bind fun b=>bif b then E cx (.loop 205 p) [vi (ω .i64 (Int.add x 1)),AR n,vi a,vi j] [Ob.mk OK.arr 26 1 1 l] else some (Out.jump e [vi x],[Ob.mk OK.arr 26 1 1 l])) else none) else none) else none) else none) else some (Out.jump e [vi x],[Ob.mk OK.arr 26 1 1 l])) {i:Nat}(hi:i≤N):E cx (.loop 205 p) [vi (i:Int),AR N,vi (a:Int),vi (j:Int)] (HA d)=JR e [vi (scanUp (fun x=>ltN x d[a]!) d j i:Int)] d:=by
 refine up_of (a:=a) (p:=fun x=>ltN x d[a]!) (L:=fun i=>E cx (.loop 205 p) [vi (i:Int),AR N,vi (a:Int),vi (j:Int)] (HA d)) hj (fun i hij hp=> ?_) (fun i hi hp=> ?_) _ i (Nat.le_refl _) hi
 ·refine(hf _ _ _ _ _).trans ((goD (show(i:Int)≤(j:Int) by omega) _ _).trans ((ld rfl (show i<N by omega) hd _ _ _).trans ((ld rfl ha hd _ _ _).trans ((goT ((c203 _ _).trans (by rw [show ltN d[i]! d[a]! =true from hp])) _ _).trans ?_))))
  rw [wS1 (by omega)]
 ·by_cases hij:i≤j
  ·exact(hf _ _ _ _ _).trans ((goD (show(i:Int)≤(j:Int) by omega) _ _).trans ((ld rfl (show i<N by omega) hd _ _ _).trans ((ld rfl ha hd _ _ _).trans (goF ((c203 _ _).trans (by rw [show ltN d[i]! d[a]! =false from hp hij])) _ _))))
  ·exact(hf _ _ _ _ _).trans (goDn (show ¬(i:Int)≤(j:Int) by omega) _ _)
theorem down205 {p:List Bool}{e:JX}{N a i:Nat}(hN:N≤49) {d:Array Nat}(hd:d.size=N) (ha:a<N) (hi:1≤i) (hf:∀(x:Int) (n:Nat) (a i:Int) (l:List (List AV)),E cx (.loop 205 p) [vi x,AR n,vi a,vi i] [Ob.mk OK.arr 26 1 1 l]=bif decide (i≤x) then(if 0≤x then(if x<(n:Int) then((nth l (Nat.add 0 x.toNat)).bind fun cs=>(uncons? cs).bind fun q=>(AV.int? .u64 q.fst).bind fun u=>(nil? q.snd).bind fun _=>if 0≤a then(if a<(n:Int) then((nth l (Nat.add 0 a.toNat)).bind fun cs=>(uncons? cs).bind fun q=>(AV.int? .u64 q.fst).bind fun v=>(nil? q.snd).bind fun _=>(E cx (.fn 203) [vu u,vu v] []).bind fun r=>(ret1 r).bind fun v=>(AV.bool? v).bind fun b=>bif b then some (Out.jump e [vi x],[Ob.mk OK.arr 26 1 1 l]) else E cx (.loop 205 p) [vi (ω .i64 (Int.sub x 1)),AR n,vi a,vi i] [Ob.mk OK.arr 26 1 1 l]) else none) else none) else none) else none) else some (Out.jump e [vi x],[Ob.mk OK.arr 26 1 1 l])) {j:Nat}(hj:j<N):E cx (.loop 205 p) [vi (j:Int),AR N,vi (a:Int),vi (i:Int)] (HA d)=JR e [vi (scanDown (fun x=> !ltN x d[a]!) d i j:Int)] d:=by
 refine down_of (N:=N) (a:=a) (p:=fun x=> !ltN x d[a]!) (L:=fun j=>E cx (.loop 205 p) [vi (j:Int),AR N,vi (a:Int),vi (i:Int)] (HA d)) hi (fun j hj hij hp=> ?_) (fun j hj hp=> ?_) j hj
 ·refine(hf _ _ _ _ _).trans ((goD (show(i:Int)≤((j+1:Nat):Int) by omega) _ _).trans ((ld rfl hj hd _ _ _).trans ((ld rfl ha hd _ _ _).trans ((goF ((c203 _ _).trans (by rw [show ltN d[j+1]! d[a]! =false by simpa using hp])) _ _).trans ?_))))
  rw [wP1 (by omega)]
 ·by_cases hij:i≤j
  ·exact(hf _ _ _ _ _).trans ((goD (show(i:Int)≤(j:Int) by omega) _ _).trans ((ld rfl hj hd _ _ _).trans ((ld rfl ha hd _ _ _).trans (goT ((c203 _ _).trans (by rw [show ltN d[j]! d[a]! =true by simpa using hp hij])) _ _))))
  ·exact(hf _ _ _ _ _).trans (goDn (show ¬(i:Int)≤(j:Int) by omega) _ _)
theorem part_loop {N a:Nat}(hN:N≤49) (ha:a<N):∀(n i j:Nat) (d:Array Nat),j+1-i≤n→1≤i→i≤N→j<N→d.size=N→(partLoop ltN a i j d).1<N∧(partLoop ltN a i j d).2.size=N∧∃i',E cx (.loop 205 [true,true,true,true,true,true,true,true,true,false,false]) [vi (i:Int),vi (j:Int),AR N,vi (a:Int)] (HA d)=JR (.exit 4) [vi i',vi ((partLoop ltN a i j d).1:Int)] (partLoop ltN a i j d).2:=by
 intro n
 induction n with
 |zero =>
  intro i j d hn h1 hi hj hd
  have u:=up205 hN hd ha hj f205_l2_l3 hi
  have e1:scanUp (fun x=>ltN x d[a]!) d j i=i:=by unfold scanUp;rw [if_neg (by simp;omega)]
  rw [e1] at u
  have v:=down205 hN hd ha h1 f205_l2_l4 hj
  have e2:scanDown (fun x=> !ltN x d[a]!) d i j=j:=by
   cases j with
   |zero=>rfl
   |succ j=>unfold scanDown;rw [if_neg (by simp;omega)]
  rw [e2] at v
  rw [partLoop_eq,e1,e2,if_pos (by omega)]
  exact⟨hj,hd,(i:Int),(f205_l2 _ _ _ _ _).trans ((goA1 (e := .exit 6) rfl u _ _).trans ((goA1 (e := .exit 8) rfl v _ _).trans (goD (show(i:Int)>(j:Int) by omega) _ _)))⟩
 |succ n ih =>
  intro i j d hn h1 hi hj hd
  have u:=up205 hN hd ha hj f205_l2_l3 hi
  have l1:=scanUp_le (fun x=>ltN x d[a]!) d j _ i N (Nat.le_refl _) hi hj
  have l2:=scanUp_ge (fun x=>ltN x d[a]!) d j i
  have v:=down205 hN hd ha (i:=scanUp (fun x=>ltN x d[a]!) d j i) (by omega) f205_l2_l4 hj
  have l3:=scanDown_le (fun x=> !ltN x d[a]!) d (scanUp (fun x=>ltN x d[a]!) d j i) j
  rw [partLoop_eq]
  generalize scanUp (fun x=>ltN x d[a]!) d j i=i2 at *
  generalize scanDown (fun x=> !ltN x d[a]!) d i2 j=j2 at *
  by_cases h:i2>j2
  ·rw [if_pos h]
   exact⟨by omega,hd,(i2:Int),(f205_l2 _ _ _ _ _).trans ((goA1 (e := .exit 6) rfl u _ _).trans ((goA1 (e := .exit 8) rfl v _ _).trans (goD (show(i2:Int)>(j2:Int) by omega) _ _)))⟩
  ·rw [if_neg h]
   obtain⟨g1,g2,i',h2⟩:=ih (i2+1) (j2-1) (swp d i2 j2) (by omega) (by omega) (by omega) (by omega) (by rw [sw_size];exact hd)
   refine⟨g1,g2,i',(f205_l2 _ _ _ _ _).trans ((goA1 (e := .exit 6) rfl u _ _).trans ((goA1 (e := .exit 8) rfl v _ _).trans ((goDn (show ¬(i2:Int)>(j2:Int) by omega) _ _).trans ((sw4 rfl rfl (show i2<N by omega) (show j2<N by omega) hd _).trans ?_))))⟩
   dsimp only
   rw [rw_set rfl,rw_set rfl,wS1 (by omega),show ω .i64 (Int.sub (j2:Int) 1)=((j2-1:Nat):Int) from(wr_sub (b:=1) (by omega) (by omega)).trans (by omega)]
   exact h2
theorem c205 {N:Nat}(hN:N≤49) {a b p:Nat}{d:Array Nat}(hd:d.size=N) (hab:a<b) (hb:b≤N) (hp:p<N):E cx (.own 205) [AR N,vi (a:Int),vi (b:Int),vi (p:Int)] (HA d)=some (Out.ret (.tuple [vi ((partition ltN d a b p).1:Int),vbool (partition ltN d a b p).2.1]),HA (partition ltN d a b p).2.2)∧(partition ltN d a b p).1<N∧(partition ltN d a b p).2.2.size=N:=by
 have ha:a<N:=by omega
 have hd':(swp d a p).size=N:=by rw [sw_size];exact hd
 have u:=up205 hN hd' ha (j:=b-1) (by omega) f205_l0 (i:=a+1) (by omega)
 have l1:=scanUp_le (fun x=>ltN x (swp d a p)[a]!) (swp d a p) (b-1) _ (a+1) N (Nat.le_refl _) (by omega) (by omega)
 have l2:=scanUp_ge (fun x=>ltN x (swp d a p)[a]!) (swp d a p) (b-1) (a+1)
 have v:=down205 hN hd' ha (i:=scanUp (fun x=>ltN x (swp d a p)[a]!) (swp d a p) (b-1) (a+1)) (by omega) f205_l1 (j:=b-1) (by omega)
 have l3:=scanDown_le (fun x=> !ltN x (swp d a p)[a]!) (swp d a p) (scanUp (fun x=>ltN x (swp d a p)[a]!) (swp d a p) (b-1) (a+1)) (b-1)
 have st:=(f205 N (rw' d) (a:Int) (b:Int) (p:Int)).trans (sw4 rfl rfl ha hp hd _)
 rw [rw_set rfl,rw_set rfl,wS1 (by omega),show ω .i64 (Int.sub (b:Int) 1)=((b-1:Nat):Int) from(wr_sub (b:=1) (by omega) (by omega)).trans (by omega)] at st
 unfold partition
 simp only []
 generalize scanUp (fun x=>ltN x (swp d a p)[a]!) (swp d a p) (b-1) (a+1)=i2 at *
 generalize scanDown (fun x=> !ltN x (swp d a p)[a]!) (swp d a p) i2 (b-1)=j2 at *
 have st2:=st.trans ((goA1 (e := .exit 0) rfl u _ _).trans (goA1 (e := .exit 2) rfl v _ _))
 by_cases h:i2>j2
 ·simp only [h,if_true]
  refine⟨?_,by omega,by rw [sw_size];exact hd'⟩
  refine st2.trans ((goD (show(i2:Int)>(j2:Int) by omega) _ _).trans ((sw4 rfl rfl (show j2<N by omega) ha hd' _).trans ?_))
  dsimp only
  rw [rw_set rfl,rw_set rfl]
  rfl
 ·simp only [h,if_false]
  obtain⟨g1,g2,i',h2⟩:=part_loop hN ha _ (i2+1) (j2-1) (swp (swp d a p) i2 j2) (Nat.le_refl _) (by omega) (by omega) (by omega) (by rw [sw_size];exact hd')
  refine⟨?_,g1,by rw [sw_size];exact g2⟩
  refine st2.trans ((goDn (show ¬(i2:Int)>(j2:Int) by omega) _ _).trans ((sw4 rfl rfl (show i2<N by omega) (show j2<N by omega) hd' _).trans ?_))
  dsimp only
  rw [rw_set rfl,rw_set rfl,wS1 (by omega),show ω .i64 (Int.sub (j2:Int) 1)=((j2-1:Nat):Int) from(wr_sub (b:=1) (by omega) (by omega)).trans (by omega)]
  refine(goA2 (e := .exit 4) rfl h2 _ _).trans ((sw4 rfl rfl g1 ha g2 _).trans ?_)
  dsimp only
  rw [rw_set rfl,rw_set rfl]
  rfl
theorem c151 (n:Nat) (h:n<50):E cx (.fn 151) [vu (n:Int)] []=some (Out.ret (vi (bitsLen n:Int)),[]):=by
 have:n=0∨n=1∨n=2∨n=3∨n=4∨n=5∨n=6∨n=7∨n=8∨n=9∨n=10∨n=11∨n=12∨n=13∨n=14∨n=15∨n=16∨n=17∨n=18∨n=19∨n=20∨n=21∨n=22∨n=23∨n=24∨n=25∨n=26∨n=27∨n=28∨n=29∨n=30∨n=31∨n=32∨n=33∨n=34∨n=35∨n=36∨n=37∨n=38∨n=39∨n=40∨n=41∨n=42∨n=43∨n=44∨n=45∨n=46∨n=47∨n=48∨n=49:=by omega
 rcases this with rfl |rfl |rfl |rfl |rfl |rfl |rfl |rfl |rfl |rfl |rfl |rfl |rfl |rfl |rfl |rfl |rfl |rfl |rfl |rfl |rfl |rfl |rfl |rfl |rfl |rfl |rfl |rfl |rfl |rfl |rfl |rfl |rfl |rfl |rfl |rfl |rfl |rfl |rfl |rfl |rfl |rfl |rfl |rfl |rfl |rfl |rfl |rfl |rfl |rfl<;>exact(E_in [175] _ _ _).trans (by kernel_rfl)
theorem bv_nat {a:Nat}(h:a<18446744073709551616):(BitVec.ofInt υ.bits (a:Int)).toNat=a:=by
 rw [BitVec.ofInt_natCast,BitVec.toNat_ofNat]
 show a%2 ^ 64=a
 exact Nat.mod_eq_of_lt (by omega)
theorem iand_nat {a b:Nat}(ha:a<18446744073709551616) (hb:b<18446744073709551616):iand .u64 (a:Int) (b:Int)=((a &&&b:Nat):Int):=by
 unfold iand
 rw [BitVec.toNat_and,bv_nat ha,bv_nat hb]
 have:a &&&b≤a:=Nat.and_le_left
 exact wu_id (by omega) (by omega)
theorem ixor_nat {a b:Nat}(ha:a<18446744073709551616) (hb:b<18446744073709551616):ixor .u64 (a:Int) (b:Int)=((a ^^^ b:Nat):Int):=by
 unfold ixor
 rw [BitVec.toNat_xor,bv_nat ha,bv_nat hb]
 have:a ^^^ b<2 ^ 64:=Nat.xor_lt_two_pow (by omega) (by omega)
 exact wu_id (by omega) (by omega)
theorem shl_nat (a k:Nat) (hk:k≤64):ishl .u64 (a:Int) (k:Int)=((a*2 ^ k%18446744073709551616:Nat):Int):=by
 unfold ishl
 rw [show(k:Int).toNat=k by omega,show υ.bits=64 from rfl,Nat.min_eq_left hk,show(2:Int) ^ k=((2 ^ k:Nat):Int) by rw [Int.natCast_pow];rfl,←Int.natCast_mul]
 simp only [ω,IntKind.bits,IntKind.signed,Bool.false_and]
 simp
theorem shr_nat (a k:Nat) (hk:k≤64):ishr .u64 (a:Int) (k:Int)=((a/2 ^ k:Nat):Int):=by
 unfold ishr
 rw [show(k:Int).toNat=k by omega,show υ.bits=64 from rfl,Nat.min_eq_left hk,show(2:Int) ^ k=((2 ^ k:Nat):Int) by rw [Int.natCast_pow];rfl,Int.fdiv_eq_ediv_of_nonneg _ (Int.natCast_nonneg _)]
 exact(Int.natCast_ediv _ _).symm
theorem c190 (n:Nat) (h0:0<n) (h:n<50):E cx (.fn 190) [vi (n:Int)] []=some (Out.ret (vu ((1 <<<bitsLen n:Nat):Int)),[]):=by
 have h1:=two_pow_bitsLen_le h0
 have h2:bitsLen n≤6:=(bitsLen_le_iff n 6).2 (by omega)
 refine(f190 _).trans ?_
 rw [wu_id (by omega) (by omega)]
 refine(goI (c151 n h) _).trans ((goN (show ¬((bitsLen n:Nat):Int)<0 by omega) _ _).trans ?_)
 rw [show ishl .u64 1 ((bitsLen n:Nat):Int)=_ from shl_nat 1 (bitsLen n) (by omega),Nat.one_shiftLeft,Nat.one_mul,Nat.mod_eq_of_lt (by omega)]
theorem c191 (r:UInt64):E cx (.own 191) [.ptr 0 0 0 0] [Ob.mk OK.box 222 1 0 [[vu (r.toNat:Int)]]]=some (Out.ret (vu ((xorNext r).toNat:Int)),[Ob.mk OK.box 222 1 0 [[vu ((xorNext r).toNat:Int)]]]):=by
 refine(f191 _).trans ?_
 have h:=r.toNat_lt
 rw [xorNext_toNat]
 generalize r.toNat=x at *
 have ha:x ^^^ (x*8192%18446744073709551616)<2 ^ 64:=Nat.xor_lt_two_pow (by omega) (by omega)
 have hb:(x ^^^ (x*8192%18446744073709551616)) ^^^ ((x ^^^ (x*8192%18446744073709551616))/128)<2 ^ 64:=Nat.xor_lt_two_pow (by omega) (by omega)
 rw [show ishl .u64 (x:Int) 13=((x*8192%18446744073709551616:Nat):Int) from shl_nat x 13 (by omega),ixor_nat (by omega) (by omega)]
 rw [show ishr .u64 ((x ^^^ (x*8192%18446744073709551616):Nat):Int) 7=(((x ^^^ (x*8192%18446744073709551616))/128:Nat):Int) from shr_nat _ 7 (by omega),ixor_nat (by omega) (by omega)]
 rw [show ∀y:Nat,ishl .u64 (y:Int) 17=((y*131072%18446744073709551616:Nat):Int) from fun y=>shl_nat y 17 (by omega),ixor_nat (by omega) (by omega)]
 rfl
theorem goX1 {ρ:Type}{x:Option (Out×Heap)}{n s:Int}{c:List AV}(h:x=some (Out.ret (vu n),[Ob.mk OK.box 222 1 0 [[vu s]]])) (k:Int→Int→Option ρ):(x.bind fun r=>(asRet r).bind fun q=>(AV.int? .u64 q.fst).bind fun n=>(uncons? q.snd).bind fun p=>(obIs (Ob.mk OK.box 222 1 0 [c]) p.fst).bind fun _=>(chk p.fst.ver 0).bind fun _=>(uncons? p.fst.es).bind fun p2=>(nil? p2.snd).bind fun _=>(uncons? p2.fst).bind fun p3=>(AV.int? .u64 p3.fst).bind fun s=>(nil? p3.snd).bind fun _=>(nil? p.snd).bind fun _=>k n s)=k n s:=by rw [h];rfl
abbrev HX (r:UInt64) (d:Array Nat):Heap:=[Ob.mk OK.arr 26 1 1 (rw' d),Ob.mk OK.box 222 1 0 [[vu (r.toNat:Int)]]]
theorem w_idx {a q:Nat}(ha:a≤1000) (hq:q≤1000):ω .i64 (Int.add (a:Int) (ω .i64 (Int.mul (q:Int) 2)))=((a+q*2:Nat):Int):=by
 have e:ω .i64 (Int.mul (q:Int) 2)=((q*2:Nat):Int):=(wr_mul (b:=2) (by omega) (by omega)).trans (by omega)
 rw [e]
 exact(wr_add (by omega) (by omega)).trans (by omega)
theorem brk_len {l:Nat}(hl:0<l) (r:Nat):(if r &&&((1 <<<bitsLen l)-1)≥l then(r &&&((1 <<<bitsLen l)-1))-l else r &&&((1 <<<bitsLen l)-1))<l:=by
 have h1:r &&&((1 <<<bitsLen l)-1)≤(1 <<<bitsLen l)-1:=Nat.and_le_right
 have h2:=two_pow_bitsLen_le hl
 rw [Nat.one_shiftLeft] at *
 have h3:=Nat.two_pow_pos (bitsLen l)
 split<;>omega
theorem brk1 {N a l:Nat}(hN:N≤49) (hl:8≤l) (hal:a+l≤N) {idx:Nat}(hi:idx<N) (ht:idx≤a+l/4*2+1) {r:UInt64}{d:Array Nat}(hd:d.size=N):E cx (.loop 199 [true,true,false,true,true,true,false]) [vi (idx:Int),AR N,vi (a:Int),vi (l:Int),.ptr 1 0 0 0,vu ((1 <<<bitsLen l:Nat):Int)] (HX r d)=E cx (.loop 199 [true,true,false,true,true,true,false]) [vi ((idx+1:Nat):Int),AR N,vi (a:Int),vi (l:Int),.ptr 1 0 0 0,vu ((1 <<<bitsLen l:Nat):Int)] (HX (breakStep a l (1 <<<bitsLen l) (r,d) idx).1 (breakStep a l (1 <<<bitsLen l) (r,d) idx).2):=by
 have h0:=brk_len (show 0<l by omega) (xorNext r).toNat
 have h1:1 <<<bitsLen l≤128:=by
  rw [Nat.one_shiftLeft]
  have:=two_pow_bitsLen_le (show 0<l by omega)
  omega
 have h2:0<1 <<<bitsLen l:=by rw [Nat.one_shiftLeft];exact Nat.two_pow_pos _
 have hx:=(xorNext r).toNat_lt
 have w1:ω .i64 (Int.tdiv (l:Int) 4)=((l/4:Nat):Int):=by
  rw [show(4:Int)=((4:Nat):Int) from rfl,←Int.ofNat_tdiv]
  exact wr_id (by omega) (by omega)
 have w2:ω .i64 (Int.add (ω .i64 (Int.add (a:Int) (ω .i64 (Int.mul ((l/4:Nat):Int) 2)))) 1)=((a+l/4*2+1:Nat):Int):=by
  rw [w_idx (by omega) (by omega)]
  exact(wr_add (b:=1) (by omega) (by omega)).trans (by omega)
 have h3:(xorNext r).toNat &&&((1 <<<bitsLen l)-1)≤(1 <<<bitsLen l)-1:=Nat.and_le_right
 have w3:ω .i64 (iand .u64 ((xorNext r).toNat:Int) (ω .u64 (Int.sub ((1 <<<bitsLen l:Nat):Int) 1)))=(((xorNext r).toNat &&&((1 <<<bitsLen l)-1):Nat):Int):=by
  rw [show Int.sub ((1 <<<bitsLen l:Nat):Int) 1=(((1 <<<bitsLen l)-1:Nat):Int) from by show((1 <<<bitsLen l:Nat):Int)-1=_;omega,wu_id (by omega) (by omega),iand_nat (by omega) (by omega)]
  exact wr_id (by omega) (by omega)
 have st:=f199_l0 (idx:Int) N (a:Int) (l:Int) ((1 <<<bitsLen l:Nat):Int) (rw' d) (r.toNat:Int)
 rw [w1,w2] at st
 refine st.trans ((goD (show(idx:Int)≤((a+l/4*2+1:Nat):Int) by omega) _ _).trans ((goX1 (c191 r) _).trans ?_))
 rw [w3]
 unfold breakStep
 simp only []
 generalize (xorNext r).toNat &&&((1 <<<bitsLen l)-1)=o at *
 by_cases ho:o≥l
 ·rw [if_pos ho] at h0
  simp only [ho,if_true]
  refine(goD (show(o:Int)≥(l:Int) by omega) _ _).trans ?_
  rw [show ω .i64 (Int.add (a:Int) (ω .i64 (Int.sub (o:Int) (l:Int))))=((a+(o-l):Nat):Int) from by rw [wr_sub (by omega) (by omega),wr_add (by omega) (by omega)];omega]
  refine(sw4 rfl rfl hi (show a+(o-l)<N by omega) hd _).trans ?_
  rw [rw_set rfl,rw_set rfl,wS1 (by omega)]
  rfl
 ·rw [if_neg ho] at h0
  simp only [ho,if_false]
  refine(goDn (show ¬(o:Int)≥(l:Int) by omega) _ _).trans ?_
  rw [show ω .i64 (Int.add (a:Int) (o:Int))=((a+o:Nat):Int) from(wr_add (by omega) (by omega)).trans (by omega)]
  refine(sw4 rfl rfl hi (show a+o<N by omega) hd _).trans ?_
  rw [rw_set rfl,rw_set rfl,wS1 (by omega)]
  rfl
theorem step_size (a l m:Nat) (st:UInt64×Array Nat) (idx:Nat):(breakStep a l m st idx).2.size=st.2.size:=by unfold breakStep;simp only [];rw [sw_size]
theorem brk_size (d:Array Nat) (a b:Nat):(breakPatterns d a b).size=d.size:=by
 unfold breakPatterns
 simp only []
 split
 ·rw [step_size,step_size,step_size]
 ·rfl
theorem c199 {N:Nat}(hN:N≤49) {a b:Nat}{d:Array Nat}(hd:d.size=N) (hab:a<b) (hb:b≤N):E cx (.own 199) [AR N,vi (a:Int),vi (b:Int)] (HA d)=OR (breakPatterns d a b):=by
 have w0:ω .i64 (Int.sub (b:Int) (a:Int))=((b-a:Nat):Int):=(wr_sub (by omega) (by omega)).trans (by omega)
 refine(f199 _ _ _ _).trans ?_
 rw [w0]
 unfold breakPatterns
 simp only []
 by_cases h8:b-a≥8
 ·rw [if_pos h8]
  have w1:ω .i64 (Int.tdiv ((b-a:Nat):Int) 4)=(((b-a)/4:Nat):Int):=by
   rw [show(4:Int)=((4:Nat):Int) from rfl,←Int.ofNat_tdiv]
   exact wr_id (by omega) (by omega)
  have w2:ω .i64 (Int.sub (ω .i64 (Int.add (a:Int) (ω .i64 (Int.mul (((b-a)/4:Nat):Int) 2)))) 1)=((a+(b-a)/4*2-1:Nat):Int):=by
   rw [w_idx (by omega) (by omega)]
   exact(wr_sub (b:=1) (by omega) (by omega)).trans (by omega)
  refine(goD (show((b-a:Nat):Int)≥8 by omega) _ _).trans ((goU (c190 (b-a) (by omega) (by omega)) _).trans ?_)
  rw [w1,w2,wu_id (by omega) (by omega)]
  have hr:(UInt64.ofNat (b-a)).toNat=b-a:=by rw [UInt64.toNat_ofNat'];exact Nat.mod_eq_of_lt (by omega)
  have s1:=brk1 hN h8 (show a+(b-a)≤N by omega) (idx:=a+(b-a)/4*2-1) (by omega) (by omega) (r:=UInt64.ofNat (b-a)) hd
  have s2:=brk1 hN h8 (show a+(b-a)≤N by omega) (idx:=a+(b-a)/4*2-1+1) (by omega) (by omega) (r:=(breakStep a (b-a) (1 <<<bitsLen (b-a)) (UInt64.ofNat (b-a),d) (a+(b-a)/4*2-1)).1) (d:=(breakStep a (b-a) (1 <<<bitsLen (b-a)) (UInt64.ofNat (b-a),d) (a+(b-a)/4*2-1)).2) (by rw [step_size];exact hd)
  have s3:=brk1 hN h8 (show a+(b-a)≤N by omega) (idx:=a+(b-a)/4*2-1+2) (by omega) (by omega) (r:=(breakStep a (b-a) (1 <<<bitsLen (b-a)) (breakStep a (b-a) (1 <<<bitsLen (b-a)) (UInt64.ofNat (b-a),d) (a+(b-a)/4*2-1)) (a+(b-a)/4*2-1+1)).1) (d:=(breakStep a (b-a) (1 <<<bitsLen (b-a)) (breakStep a (b-a) (1 <<<bitsLen (b-a)) (UInt64.ofNat (b-a),d) (a+(b-a)/4*2-1)) (a+(b-a)/4*2-1+1)).2) (by rw [step_size,step_size];exact hd)
  have s:=s1.trans (s2.trans s3)
  rw [show HX (UInt64.ofNat (b-a)) d=[Ob.mk OK.arr 26 1 1 (rw' d),Ob.mk OK.box 222 1 0 [[vu ((b-a:Nat):Int)]]] by rw [←hr];rw [hr];simp [HX,hr]] at s
  rw [s]
  generalize breakStep a (b-a) (1 <<<bitsLen (b-a)) (breakStep a (b-a) (1 <<<bitsLen (b-a)) (breakStep a (b-a) (1 <<<bitsLen (b-a)) (UInt64.ofNat (b-a),d) (a+(b-a)/4*2-1)) (a+(b-a)/4*2-1+1)) (a+(b-a)/4*2-1+2)=z
  have e:=f199_l0 ((a+(b-a)/4*2-1+2+1:Nat):Int) N (a:Int) ((b-a:Nat):Int) ((1 <<<bitsLen (b-a):Nat):Int) (rw' z.2) (z.1.toNat:Int)
  have w3:ω .i64 (Int.add (ω .i64 (Int.add (a:Int) (ω .i64 (Int.mul (((b-a)/4:Nat):Int) 2)))) 1)=((a+(b-a)/4*2+1:Nat):Int):=by
   rw [w_idx (by omega) (by omega)]
   exact(wr_add (b:=1) (by omega) (by omega)).trans (by omega)
  rw [w1,w3] at e
  rw [e.trans (goDn (show ¬((a+(b-a)/4*2-1+2+1:Nat):Int)≤((a+(b-a)/4*2+1:Nat):Int) by omega) _ _)]
  rfl
 ·rw [if_neg h8]
  exact goDn (show ¬((b-a:Nat):Int)≥8 by omega) _ _
theorem swoN:SWO ltN where
 irrefl x:=by simp [ltN]
 trans x y z h1 h2:=by simp [ltN] at *;omega
 ntrans x y z h1 h2:=by simp [ltN] at *;omega
section
variable {ρ:Type}{x:Option (Out×Heap)}
theorem goPt {n:Int}{b:Bool}{R Z:List (List AV)}(h:x=some (Out.ret (.tuple [vi n,vbool b]),[Ob.mk OK.arr 26 1 1 R])) (k:Int→Bool→Ob×List Ob→Option ρ):(x.bind fun r=>(asRet r).bind fun q=>(AV.tup? q.fst).bind fun vs=>(uncons? vs).bind fun p4=>(AV.int? .i64 p4.fst).bind fun n=>(uncons? p4.snd).bind fun p5=>(AV.bool? p5.fst).bind fun b=>(nil? p5.snd).bind fun _=>(uncons? q.snd).bind fun p=>(obIs (Ob.mk OK.arr 26 1 1 Z) p.fst).bind fun _=>(chk p.fst.ver 1).bind fun _=>(nil? p.snd).bind fun _=>k n b p)=k n b (Ob.mk OK.arr 26 1 1 R,[]):=by rw [h];rfl
theorem goPe {n:Int}{R Z:List (List AV)}(h:x=some (Out.ret (vi n),[Ob.mk OK.arr 26 1 1 R])) (k:Int→Ob×List Ob→Option ρ):(x.bind fun r=>(asRet r).bind fun q=>(AV.int? .i64 q.fst).bind fun n=>(uncons? q.snd).bind fun p=>(obIs (Ob.mk OK.arr 26 1 1 Z) p.fst).bind fun _=>(chk p.fst.ver 1).bind fun _=>(nil? p.snd).bind fun _=>k n p)=k n (Ob.mk OK.arr 26 1 1 R,[]):=by rw [h];rfl
theorem goPb {b:Bool}{R Z:List (List AV)}(h:x=some (Out.ret (vbool b),[Ob.mk OK.arr 26 1 1 R])) (k:Bool→Ob×List Ob→Option ρ):(x.bind fun r=>(asRet r).bind fun q=>(AV.bool? q.fst).bind fun b=>(uncons? q.snd).bind fun p=>(obIs (Ob.mk OK.arr 26 1 1 Z) p.fst).bind fun _=>(chk p.fst.ver 1).bind fun _=>(nil? p.snd).bind fun _=>k b p)=k b (Ob.mk OK.arr 26 1 1 R,[]):=by rw [h];rfl
theorem goT2 {n m:Int}(h:x=some (Out.ret (.tuple [vi n,vi m]),[])) (k:Int→Int→Option ρ):(x.bind fun r=>(ret1 r).bind fun v=>(AV.tup? v).bind fun vs=>(uncons? vs).bind fun p4=>(AV.int? .i64 p4.fst).bind fun n=>(uncons? p4.snd).bind fun p5=>(AV.int? .i64 p5.fst).bind fun m=>(nil? p5.snd).bind fun _=>k n m)=k n m:=by rw [h];rfl
end
def SpL (a b:Nat) (d:Array Nat) (X:Option (Out×Heap)):Prop:=∃(x1 x2 x3:Int) (b1 b2:Bool) (d':Array Nat),X=JR .ret [vi x1,vi x2,vi x3,vbool b1,vbool b2] d'∧PermIn a b d d'∧SortedIn ltN a b d'
def SpO (a b:Nat) (d:Array Nat) (X:Option (Out×Heap)):Prop:=∃d',X=OR d'∧PermIn a b d d'∧SortedIn ltN a b d'
noncomputable abbrev LP (N a b lim:Nat) (wb wp:Bool) (d:Array Nat):Option (Out×Heap):=E cx (.loop 187 [true,true,false]) [vi (a:Int),vi (b:Int),vi (lim:Int),vbool wb,vbool wp,AR N] (HA d)
noncomputable abbrev OP7 (N a b lim:Nat) (d:Array Nat):Option (Out×Heap):=E cx (.own 187) [AR N,vi (a:Int),vi (b:Int),vi (lim:Int)] (HA d)
theorem own_of {N a b lim:Nat}{d:Array Nat}(h:SpL a b d (LP N a b lim true true d)):SpO a b d (OP7 N a b lim d):=by
 obtain⟨x1,x2,x3,b1,b2,d',h1,h2,h3⟩:=h
 refine⟨d',(f187 _ _ _ _ _).trans ?_,h2,h3⟩
 rw [show E cx (.loop 187 [true,true,false]) [vi (a:Int),vi (b:Int),vi (lim:Int),vbool true,vbool true,AR N] (HA d)=_ from h1]
 rfl
theorem SpL.congr {a b:Nat}{d:Array Nat}{X Y:Option (Out×Heap)}(h:X=Y) (hY:SpL a b d Y):SpL a b d X:=by rw [h];exact hY
abbrev IH (N n:Nat):Prop:=∀(a b lim:Nat) (wb wp:Bool) (d:Array Nat),b-a≤n→a≤b→b≤N→lim≤64→d.size=N→Sort.Below ltN a b d→SpL a b d (LP N a b lim wb wp d)
theorem tail8 {N n:Nat}(hN:N≤49) (ih:IH N n) {a b m lim:Nat}{ap:Bool}{d3 d4:Array Nat}(hn:b-a≤n+1) (h1:a≤m) (h2:m<b) (hb:b≤N) (hl:lim≤64) (hd:d4.size=N) (hBa:Sort.Below ltN a m d4) (hleft:∀L,PermIn a m d4 L→SortedIn ltN a m L→Sort.Below ltN (m+1) b L∧∀R,PermIn (m+1) b L R→SortedIn ltN (m+1) b R→PermIn a b d3 R∧SortedIn ltN a b R):SpL a b d3 (q187_l0_8 (m:Int) (a:Int) (b:Int) N (lim:Int) (Ob.mk OK.arr 26 1 1 (rw' d4),[]) ap):=by
 obtain⟨L,l1,l2,l3⟩:=own_of (ih a m lim true true d4 (by omega) h1 (by omega) hl hd hBa)
 obtain⟨hBL,hfin⟩:=hleft L l2 l3
 have go:∀wb,SpL a b d3 (LP N (m+1) b lim wb ap L):=fun wb=>by
  obtain⟨x1,x2,x3,b1,b2,d',r1,r2,r3⟩:=ih (m+1) b lim wb ap L (by omega) (by omega) hb hl (by rw [l2.1];exact hd) hBL
  exact⟨x1,x2,x3,b1,b2,d',r1,hfin d' r2 r3⟩
 unfold q187_l0_8
 dsimp only
 rw [wS1 (by omega)]
 cases hc:decide (ω .i64 (Int.sub (m:Int) (a:Int))≥ω .i64 (Int.tdiv (ω .i64 (Int.sub (b:Int) (a:Int))) 8)) with
 |true=>exact SpL.congr (goO l1 _) (go true)
 |false=>exact SpL.congr (goO l1 _) (go false)
theorem tail9 {N n:Nat}(hN:N≤49) (ih:IH N n) {a b m lim:Nat}{ap:Bool}{d3 d4:Array Nat}(hn:b-a≤n+1) (h1:a≤m) (h2:m<b) (hb:b≤N) (hl:lim≤64) (hd:d4.size=N) (hBr:Sort.Below ltN (m+1) b d4) (hright:∀L,PermIn (m+1) b d4 L→SortedIn ltN (m+1) b L→Sort.Below ltN a m L∧∀R,PermIn a m L R→SortedIn ltN a m R→PermIn a b d3 R∧SortedIn ltN a b R):SpL a b d3 (q187_l0_9 (b:Int) (m:Int) (a:Int) N (lim:Int) (Ob.mk OK.arr 26 1 1 (rw' d4),[]) ap):=by
 obtain⟨L,l1,l2,l3⟩:=own_of (ih (m+1) b lim true true d4 (by omega) (by omega) hb hl hd hBr)
 obtain⟨hBL,hfin⟩:=hright L l2 l3
 have go:∀wb,SpL a b d3 (LP N a m lim wb ap L):=fun wb=>by
  obtain⟨x1,x2,x3,b1,b2,d',r1,r2,r3⟩:=ih a m lim wb ap L (by omega) h1 (by omega) hl (by rw [l2.1];exact hd) hBL
  exact⟨x1,x2,x3,b1,b2,d',r1,hfin d' r2 r3⟩
 unfold q187_l0_9
 dsimp only
 rw [wS1 (by omega)]
 cases hc:decide (ω .i64 (Int.sub (b:Int) (m:Int))≥ω .i64 (Int.tdiv (ω .i64 (Int.sub (b:Int) (a:Int))) 8)) with
 |true=>exact SpL.congr (goO l1 _) (go true)
 |false=>exact SpL.congr (goO l1 _) (go false)
theorem tail14 {N n:Nat}(hN:N≤49) (ih:IH N n) {a b P lim:Nat}{d3:Array Nat}(hn:b-a≤n+1) (h1:a≤P) (h2:P<b) (hb:b≤N) (hl:lim≤64) (hd:d3.size=N) (hB:Sort.Below ltN a b d3):SpL a b d3 (q187_l0_14 N (a:Int) (b:Int) (P:Int) (rw' d3) (lim:Int)):=by
 obtain⟨c1,c2,c3⟩:=c205 hN hd (show a<b by omega) hb (show P<N by omega)
 obtain⟨g1,g2,hs4,hBa,hBr,hleft,hright⟩:=round_part swoN (partition_holds ltN) h1 h2 (by omega) hB (show partition ltN d3 a b P=((partition ltN d3 a b P).1,(partition ltN d3 a b P).2.1,(partition ltN d3 a b P).2.2) from rfl)
 generalize partition ltN d3 a b P=z at *
 unfold q187_l0_14
 refine SpL.congr (goPt c1 _) ?_
 cases hc:decide (ω .i64 (Int.sub (z.1:Int) (a:Int))<ω .i64 (Int.sub (b:Int) (z.1:Int))) with
 |true=>exact tail8 hN ih hn g1 g2 hb hl c3 hBa hleft
 |false=>exact tail9 hN ih hn g1 g2 hb hl c3 hBr hright
theorem tail15 {N n:Nat}(hN:N≤49) (ih:IH N n) {a b P lim:Nat}{wb wp:Bool}{d3:Array Nat}(hn:b-a≤n+1) (h1:a≤P) (h2:P<b) (hb:b≤N) (hl:lim≤64) (hd:d3.size=N) (hB:Sort.Below ltN a b d3):SpL a b d3 (q187_l0_15 (a:Int) N (rw' d3) (P:Int) (b:Int) (lim:Int) wb wp):=by
 have t14:=tail14 hN ih (lim:=lim) hn h1 h2 hb hl hd hB
 unfold q187_l0_15
 by_cases ha:a>0
 ·have w:ω .i64 (Int.sub (a:Int) 1)=((a-1:Nat):Int):=(wr_sub (b:=1) (by omega) (by omega)).trans (by omega)
  rw [w]
  cases h3:ltN d3[a-1]! d3[P]! with
  |true=>exact SpL.congr ((goD (show(a:Int)>0 by omega) _ _).trans ((ld rfl (show a-1<N by omega) hd _ _ _).trans ((ld rfl (show P<N by omega) hd _ _ _).trans (goT ((c203 _ _).trans (by rw [h3])) _ _)))) t14
  |false =>
   obtain⟨g1,g2,hs4,hB4,hfin⟩:=round_eq swoN (partitionEqual_holds ltN) ha h1 h2 (by omega) hB h3 (show partitionEqual ltN d3 a b P=((partitionEqual ltN d3 a b P).1,(partitionEqual ltN d3 a b P).2) from rfl)
   refine SpL.congr ((goD (show(a:Int)>0 by omega) _ _).trans ((ld rfl (show a-1<N by omega) hd _ _ _).trans ((ld rfl (show P<N by omega) hd _ _ _).trans ((goF ((c203 _ _).trans (by rw [h3])) _ _).trans (goPe (c204 hN hd (show a<b by omega) hb (show P<N by omega)) _))))) ?_
   obtain⟨x1,x2,x3,b1,b2,d',r1,r2,r3⟩:=ih (partitionEqual ltN d3 a b P).1 b lim wb wp (partitionEqual ltN d3 a b P).2 (by omega) g2 hb hl (by omega) hB4
   exact⟨x1,x2,x3,b1,b2,d',r1,hfin d' r2 r3⟩
 ·exact SpL.congr (goDn (show ¬(a:Int)>0 by omega) _ _) t14
theorem SpL.perm {a b:Nat}{d d2:Array Nat}{X:Option (Out×Heap)}(hp:PermIn a b d d2) (h:SpL a b d2 X):SpL a b d X:=by
 obtain⟨x1,x2,x3,b1,b2,d',r1,r2,r3⟩:=h
 exact⟨x1,x2,x3,b1,b2,d',r1,permIn_trans _ _ _ a b hp r2,r3⟩
theorem mid1 {N n:Nat}(hN:N≤49) (ih:IH N n) {a b P lim:Nat}{d2:Array Nat}{x1 x2 x3:Int}{b1 b2:Bool}{Z:List (List AV)}(hn:b-a≤n+1) (h1:a≤P) (h2:P<b) (hb:b≤N) (hl:lim≤64) (hd:d2.size=N) (hB:Sort.Below ltN a b d2) {K:Ob×List Ob→Option (Out×Heap)}(hK:K (Ob.mk OK.arr 26 1 1 (rw' d2),[])=q187_l0_15 (a:Int) N (rw' d2) (P:Int) (b:Int) (lim:Int) true true):SpL a b d2 ((E cx (.own 202) [AR N,vi (a:Int),vi (b:Int)] (HA d2)).bind fun r=>(asRet r).bind fun q=>(AV.bool? q.fst).bind fun c=>(uncons? q.snd).bind fun p=>(obIs (Ob.mk OK.arr 26 1 1 Z) p.fst).bind fun _=>(chk p.fst.ver 1).bind fun _=>(nil? p.snd).bind fun _=>bif c then some (Out.jump JX.ret [vi x1,vi x2,vi x3,vbool b1,vbool b2],[Ob.mk OK.arr 26 1 1 p.fst.es]) else K p):=by
 have hp:=partialInsertionSort_holds swoN d2 a b (by omega) (by omega) hB
 refine SpL.congr (goPb (c202 hN hd (show a<b by omega) hb) _) ?_
 cases hc:(partialInsertionSort ltN d2 a b).2 with
 |true =>
  have e:=part_ins (a:=a) (b:=b) (d:=d2) (by omega)
  have h3:=hp.2 hc
  rw [e] at h3
  exact⟨x1,x2,x3,b1,b2,d2,rfl,permIn_refl _ _ _,h3⟩
 |false =>
  show SpL a b d2 (K (Ob.mk OK.arr 26 1 1 (rw' d2),[]))
  rw [hK]
  exact tail15 hN ih hn h1 h2 hb hl hd hB
theorem view_rw {N:Nat}{d:Array Nat}(hd:d.size=N):List.drop 0 (List.take (Nat.add 0 N) (rw' d))=rw' d:=by
 show List.drop 0 (List.take (0+N) (rw' d))=rw' d
 rw [Nat.zero_add,List.take_of_length_le (by simp [rw',hd])]
 rfl
theorem len_rw (d:Array Nat):ℓ (rw' d)=d.size:=by simp [rw']
end
section
theorem pdq_loop {N:Nat}(hN:N≤49):∀n,IH N n:=by
 intro n
 induction n with
 |zero =>
  intro a b lim wb wp d hn hab hb hl hd hB
  obtain⟨p1,p2⟩:=insertionSort_holds (lt:=ltN) swoN d a b hab (by omega)
  have w:ω .i64 (Int.sub (b:Int) (a:Int))=((b-a:Nat):Int):=(wr_sub (by omega) (by omega)).trans (by omega)
  have st:=f187_l0 (a:Int) (b:Int) (lim:Int) wb wp N (rw' d)
  rw [w] at st
  exact⟨_,_,_,_,_,_,st.trans ((goD (show((b-a:Nat):Int)≤12 by omega) _ _).trans (goO (c197 (by omega) hd hab hb) _)),p1,p2⟩
 |succ n ih =>
  intro a b lim wb wp d hn hab hb hl hd hB
  have w:ω .i64 (Int.sub (b:Int) (a:Int))=((b-a:Nat):Int):=(wr_sub (by omega) (by omega)).trans (by omega)
  have st:=f187_l0 (a:Int) (b:Int) (lim:Int) wb wp N (rw' d)
  rw [w] at st
  by_cases h12:b-a≤12
  ·obtain⟨p1,p2⟩:=insertionSort_holds (lt:=ltN) swoN d a b hab (by omega)
   exact⟨_,_,_,_,_,_,st.trans ((goD (show((b-a:Nat):Int)≤12 by omega) _ _).trans (goO (c197 (by omega) hd hab hb) _)),p1,p2⟩
  have st:=st.trans (goDn (show ¬((b-a:Nat):Int)≤12 by omega) _ _)
  by_cases h0:lim=0
  ·obtain⟨p1,p2⟩:=heapSort_holds (lt:=ltN) swoN d a b hab (by omega)
   exact⟨_,_,_,_,_,_,st.trans ((goD (show(lim:Int)=0 by omega) _ _).trans (goO (c198 (by omega) hd (by omega) hb) _)),p1,p2⟩
  have st:=st.trans (goDn (show ¬(lim:Int)=0 by omega) _ _)
  have wl:ω .i64 (Int.sub (lim:Int) 1)=((lim-1:Nat):Int):=(wr_sub (b:=1) (by omega) (by omega)).trans (by omega)
  have wp1:∀P:Nat,a≤P→P<b→ω .i64 (Int.sub (ω .i64 (Int.sub (b:Int) 1)) (ω .i64 (Int.sub (P:Int) (a:Int))))=((b-1-(P-a):Nat):Int):=fun P h1 h2=>by
   have e1:ω .i64 (Int.sub (b:Int) 1)=((b-1:Nat):Int):=(wr_sub (b:=1) (by omega) (by omega)).trans (by omega)
   have e2:ω .i64 (Int.sub (P:Int) (a:Int))=((P-a:Nat):Int):=(wr_sub (by omega) (by omega)).trans (by omega)
   rw [e1,e2]
   exact(wr_sub (by omega) (by omega)).trans (by omega)
  cases wb with
  |false =>
   have hd1:(breakPatterns d a b).size=N:=by rw [brk_size];exact hd
   have s1:PermIn a b d (breakPatterns d a b):=breakPatterns_holds d a b hab (by omega)
   have hB1:=Sort.Below.perm hB (by omega) s1
   have hc0:=choosePivot_holds ltN (breakPatterns d a b) a b (by omega)
   have hcp:=c200 hN (d:=breakPatterns d a b) hd1 (show a<b by omega) hb
   have st:=st.trans ((goO (c199 hN hd (show a<b by omega) hb) _).trans (goLe (show Nat.add 0 N≤ℓ (rw' (breakPatterns d a b)) by rw [len_rw,hd1];exact Nat.le_of_eq (Nat.zero_add N)) _))
   dsimp only at st
   rw [view_rw hd1] at st
   have st:=st.trans (goT2 hcp _)
   refine SpL.perm s1 (SpL.congr st ?_)
   clear st hcp
   generalize choosePivot ltN (breakPatterns d a b) a b=c at *
   obtain⟨P,H⟩:=c
   have s2:=reverseRange_holds (breakPatterns d a b) a b hab (by omega)
   have hd2:(reverseRange (breakPatterns d a b) a b).size=N:=by rw [reverse_size];exact hd1
   have hB2:=Sort.Below.perm hB1 (by omega) s2
   have t1:=tail15 hN ih (lim:=lim-1) (wb:=false) (wp:=wp) hn hc0.1 hc0.2 hb (by omega) hd1 hB1
   have t2:=tail15 hN ih (P:=b-1-(P-a)) (lim:=lim-1) (wb:=false) (wp:=wp) hn (by have:=hc0.1;have:=hc0.2;simp only at *;omega) (by have:=hc0.1;have:=hc0.2;simp only at *;omega) hb (by omega) hd2 hB2
   rw [←wl] at t1 t2
   rw [←wp1 P hc0.1 hc0.2] at t2
   cases H with
   |decreasing =>
    exact SpL.perm s2 (SpL.congr ((goD (show hintI .decreasing=2 from rfl) _ _).trans (goO (c201 (by omega) hd1 (show a<b by omega) hb) _)) t2)
   |increasing=>exact SpL.congr (goDn (show ¬hintI .increasing=2 by decide) _ _) t1
   |unknown=>exact SpL.congr (goDn (show ¬hintI .unknown=2 by decide) _ _) t1
  |true =>
   have hc0:=choosePivot_holds ltN d a b (by omega)
   have hcp:=c200 hN (d:=d) hd (show a<b by omega) hb
   have st:=st.trans (goLe (show Nat.add 0 N≤ℓ (rw' d) by rw [len_rw,hd];exact Nat.le_of_eq (Nat.zero_add N)) _)
   rw [view_rw hd] at st
   have st:=st.trans (goT2 hcp _)
   refine SpL.congr st ?_
   clear st hcp
   generalize choosePivot ltN d a b=c at *
   obtain⟨P,H⟩:=c
   have s2:=reverseRange_holds d a b hab (by omega)
   have hd2:(reverseRange d a b).size=N:=by rw [reverse_size];exact hd
   have hB2:=Sort.Below.perm hB (by omega) s2
   have g1:a≤b-1-(P-a):=by have:=hc0.1;have:=hc0.2;simp only at *;omega
   have g2:b-1-(P-a)<b:=by have:=hc0.1;have:=hc0.2;simp only at *;omega
   have t1:=tail15 hN ih (lim:=lim) (wb:=true) (wp:=wp) hn hc0.1 hc0.2 hb hl hd hB
   have t2:=tail15 hN ih (P:=b-1-(P-a)) (lim:=lim) (wb:=true) (wp:=wp) hn g1 g2 hb hl hd2 hB2
   rw [←wp1 P hc0.1 hc0.2] at t2
   cases H with
   |decreasing =>
    refine SpL.perm s2 (SpL.congr ((goD (show hintI .decreasing=2 from rfl) _ _).trans (goO (c201 (by omega) hd (show a<b by omega) hb) _)) ?_)
    cases wp with
    |false=>exact t2
    |true=>exact mid1 hN ih hn g1 g2 hb hl hd2 hB2 (by rw [←wp1 P hc0.1 hc0.2];rfl)
   |increasing =>
    refine SpL.congr (goDn (show ¬hintI .increasing=2 by decide) _ _) ?_
    cases wp with
    |false=>exact t1
    |true=>exact mid1 hN ih hn hc0.1 hc0.2 hb hl hd hB rfl
   |unknown =>
    refine SpL.congr (goDn (show ¬hintI .unknown=2 by decide) _ _) ?_
    cases wp<;>exact t1
theorem c161 {d:Array Nat}(hd:d.size≤49):∃d',E cx (.own 161) [AR d.size] (HA d)=OR d'∧d'.toList=d.toList.mergeSort (fun x y=>decide (x≤y)):=by
 obtain⟨d',h1,h2,h3⟩:=own_of (pdq_loop hd d.size 0 d.size (bitsLen d.size) true true d (by omega) (by omega) (Nat.le_refl _) (by have:=(bitsLen_le_iff d.size 6).2 (by omega);omega) rfl (Or.inl rfl))
 refine⟨d',(f161 _ _).trans ?_,?_⟩
 ·rw [wu_id (by omega) (by omega)]
  exact(goI (c151 d.size (by omega)) _).trans (goO h1 _)
 ·have e:=sorted_unique_holds (lt:=ltN) swoN (fun x y h1 h2=>by simp [ltN] at h1 h2;omega) d d' h2 h3
  rw [e]
  congr 1
  funext x y
  by_cases h:x≤y<;>simp [ltN,h]<;>omega
end
section
theorem f81:∀(table72 l73:List (List AV)),E cx (Key.fn 81) [AV.list 0 2 table72,AV.list 0 2 l73] []=Ω (E cx (Key.fn 83) [AV.list 0 2 table72] []) fun r74↦Ω (ret1 r74) fun v75↦Ω (AV.bool? v75) fun b76↦bif b76 then Ω (E cx (Key.own 133) [AV.list 0 1 [[AV.list 0 2 table72],[AV.list 0 2 l73]]] []) fun r77↦Ω (asRet r77) fun x78↦Ω (AV.arr? 0 x78.fst) fun x79↦Ω (chk x79.fst 2) fun _↦Ω (uncons? x78.snd) fun p81↦Ω (obIs (Ob.mk OK.arr 80 2 2 []) p81.fst) fun _↦Ω (chk p81.fst.ver 2) fun _↦Ω (nil? p81.snd) fun _↦Ω (chkLe (Nat.add x79.snd.fst x79.snd.snd) (ℓ (Ob.mk OK.arr 80 2 2 p81.fst.es).es)) fun _↦if x79.snd.snd≤4611686018427387903 then Ω (sortPP [AV.func (Fn.func 134) [] []] (List.drop x79.snd.fst (List.take (Nat.add x79.snd.fst x79.snd.snd) (Ob.mk OK.arr 80 2 2 p81.fst.es).es))) fun zs86↦Ω (E cx (Key.own 135) [AV.arr 0 2 x79.snd.fst x79.snd.snd] [Ob.mk OK.arr 80 2 2 (List.take x79.snd.fst (Ob.mk OK.arr 80 2 2 p81.fst.es).es++zs86++List.drop (Nat.add x79.snd.fst x79.snd.snd) (Ob.mk OK.arr 80 2 2 p81.fst.es).es)]) fun r87↦Ω (asRet r87) fun x88↦Ω (AV.arr? 0 x88.fst) fun x89↦Ω (chk x89.fst 2) fun _↦Ω (uncons? x88.snd) fun p91↦Ω (obIs (Ob.mk OK.arr 80 2 2 []) p91.fst) fun _↦Ω (chk p91.fst.ver 2) fun _↦Ω (nil? p91.snd) fun _↦bif decide ((x89.snd.snd:Int)>4096) then some (Out.ret (AV.tuple [AV.val (Value.slice none 0 0),vi 4]),[]) else Ω (chkLe (Nat.add x89.snd.fst x89.snd.snd) (ℓ p91.fst.es)) fun _↦some (Out.ret (AV.tuple [AV.list 0 2 (List.drop x89.snd.fst (List.take (Nat.add x89.snd.fst x89.snd.snd) p91.fst.es)),vi 0]),[]) else none else some (Out.ret (AV.tuple [AV.val (Value.slice none 0 0),vi 1]),[]):=by
 intros
 exact(E_in [188,142] _ _ _).trans (by kernel_rfl)
theorem f81_c0:∀(l96:List (List AV)),E cx (Key.own 133) [AV.list 0 1 l96] []=Ω (E cx (Key.loop 133 [true,true,false,true,false]) [vi 0,vi 0,AV.list 0 1 l96,AV.list 0 1 l96,vi ((ℓ l96):Int)] []) fun r97↦Ω (asJump r97) fun j98↦bif JX.is j98.fst (JX.exit 0) then Ω (uncons? j98.snd.fst) fun p99↦Ω (AV.int? ı p99.fst) fun n100↦Ω (uncons? p99.snd) fun p101↦Ω (AV.int? ı p101.fst) fun _↦Ω (nil? p101.snd) fun _↦Ω (nil? j98.snd.snd) fun _↦Ω (growP [AV.val (Value.slice none 0 0),vi n100]) fun ys105↦bif ysOk ys105 then if Nat.mul (Nat.add 0 (ℓ ys105)) 16≤140737488355328 then Ω (E cx (Key.loop 133 [true,true,true,true,false,true,false]) [AV.arr 0 2 0 (Nat.add 0 (ℓ ys105)),vi 0,AV.list 0 1 l96,vi ((ℓ l96):Int)] [Ob.mk OK.arr 80 2 2 ([]++ys105)]) fun r106↦Ω (asJump r106) fun j107↦bif JX.is j107.fst (JX.exit 2) then Ω (uncons? j107.snd.fst) fun p108↦Ω (AV.arr? 0 p108.fst) fun x109↦Ω (chk x109.fst 2) fun _↦Ω (uncons? p108.snd) fun p111↦Ω (AV.int? ı p111.fst) fun _↦Ω (nil? p111.snd) fun _↦Ω (uncons? j107.snd.snd) fun p114↦Ω (obIs (Ob.mk OK.arr 80 2 2 ([]++ys105)) p114.fst) fun _↦Ω (chk p114.fst.ver 2) fun _↦Ω (nil? p114.snd) fun _↦some (Out.ret (AV.arr 0 2 x109.snd.fst x109.snd.snd),[Ob.mk OK.arr 80 2 2 p114.fst.es]) else none else none else none else none:=by
 intros
 exact(E_in [188,142] _ _ _).trans (by kernel_rfl)
theorem f81_c0_l1:∀(x118 x119:Int) (l120 l121:List (List AV)) (x122:Int),E cx (Key.loop 133 [true,true,false,true,false]) [vi x118,vi x119,AV.list 0 1 l120,AV.list 0 1 l121,vi x122] []=bif decide (x119<x122) then if 0≤x119 then Ω l121[τ x119]? fun cs123↦Ω (uncons? cs123) fun p124↦Ω (AV.list? 2 p124.fst) fun es125↦Ω (nil? p124.snd) fun _↦bif decide (ω ı (Int.add x118 ((ℓ es125):Int))<0) then some (Out.jump (JX.pan (AV.iface 9 (vs (ByteArray.mk (Array.mk [β 108,β 101,β 110,β 32,β 111,β 117,β 116,β 32,β 111,β 102,β 32,β 114,β 97,β 110,β 103,β 101]))))) [vi (ω ı (Int.add x118 ((ℓ es125):Int))),vi x119],[]) else E cx (Key.loop 133 [true,true,false,true,false]) [vi (ω ı (Int.add x118 ((ℓ es125):Int))),vi (ω ı (Int.add x119 1)),AV.list 0 1 l120,AV.list 0 1 l121,vi x122] [] else none else some (Out.jump (JX.exit 0) [vi x118,vi x119],[]):=by
 intros
 exact(E_in [188,142] _ _ _).trans (by kernel_rfl)
theorem f81_c0_l2:∀(n127:Nat) (x128:Int) (l129:List (List AV)) (x130:Int) (l131:List (List AV)),E cx (Key.loop 133 [true,true,true,true,false,true,false]) [AV.arr 0 2 0 n127,vi x128,AV.list 0 1 l129,vi x130] [Ob.mk OK.arr 80 2 2 l131]=bif decide (x128<x130) then if 0≤x128 then Ω l129[τ x128]? fun cs132↦Ω (uncons? cs132) fun p133↦Ω (AV.list? 2 p133.fst) fun es134↦Ω (nil? p133.snd) fun _↦bif ysOk es134 then Ω (chk n127 (ℓ (Ob.mk OK.arr 80 2 2 l131).es)) fun _↦if Nat.mul (Nat.add (ℓ (Ob.mk OK.arr 80 2 2 l131).es) (ℓ es134)) 16≤140737488355328 then E cx (Key.loop 133 [true,true,true,true,false,true,false]) [AV.arr 0 2 0 (Nat.add (ℓ (Ob.mk OK.arr 80 2 2 l131).es) (ℓ es134)),vi (ω ı (Int.add x128 1)),AV.list 0 1 l129,vi x130] [Ob.mk OK.arr 80 2 2 ((Ob.mk OK.arr 80 2 2 l131).es++es134)] else none else none else none else some (Out.jump (JX.exit 2) [AV.arr 0 2 0 n127,vi x128],[Ob.mk OK.arr 80 2 2 l131]):=by
 intros
 exact(E_in [188,142] _ _ _).trans (by kernel_rfl)
theorem f83:∀(table175:List (List AV)),E cx (Key.fn 83) [AV.list 0 2 table175] []=Ω (E cx (Key.loop 83 [true,false,true,false]) [vbool false,vi 0,AV.list 0 2 table175,vi ((ℓ table175):Int)] []) fun r176↦Ω (asJump r176) fun j177↦bif JX.is j177.fst (JX.exit 0) then Ω (uncons? j177.snd.fst) fun p178↦Ω (AV.bool? p178.fst) fun _↦Ω (uncons? p178.snd) fun p180↦Ω (AV.int? ı p180.fst) fun _↦Ω (nil? p180.snd) fun _↦Ω (nil? j177.snd.snd) fun _↦bif decide (((ℓ table175):Int)≤4096) then some (Out.ret (vbool true),[]) else some (Out.ret (vbool false),[]) else bif JX.is j177.fst JX.ret then Ω (uncons? j177.snd.fst) fun p184↦Ω (AV.bool? p184.fst) fun b185↦Ω (uncons? p184.snd) fun p186↦Ω (AV.int? ı p186.fst) fun _↦Ω (nil? p186.snd) fun _↦Ω (nil? j177.snd.snd) fun _↦some (Out.ret (vbool b185),[]) else none:=by
 intros
 exact(E_in [188,142] _ _ _).trans (by kernel_rfl)
theorem f83_l0:∀(b190:Bool) (x191:Int) (l192:List (List AV)) (x193:Int),E cx (Key.loop 83 [true,false,true,false]) [vbool b190,vi x191,AV.list 0 2 l192,vi x193] []=bif decide (x191<x193) then bif decide (x191>0) then if 0≤ω ı (Int.sub x191 1) then Ω l192[τ (ω ı (Int.sub x191 1))]? fun cs194↦Ω (uncons? cs194) fun p195↦Ω (AV.int? υ p195.fst) fun n196↦Ω (uncons? p195.snd) fun p197↦Ω (AV.int? υ p197.fst) fun n198↦Ω (nil? p197.snd) fun _↦if 0≤x191 then Ω l192[τ x191]? fun cs200↦Ω (uncons? cs200) fun p201↦Ω (AV.int? υ p201.fst) fun n202↦Ω (uncons? p201.snd) fun p203↦Ω (AV.int? υ p203.fst) fun n204↦Ω (nil? p203.snd) fun _↦Ω (E cx (Key.fn 134) [AV.agg [vu n196,vu n198],AV.agg [vu n202,vu n204]] []) fun r206↦Ω (ret1 r206) fun v207↦Ω (AV.int? ı v207) fun n208↦bif decide (n208≥0) then some (Out.jump JX.ret [vbool false,vi x191],[]) else E cx (Key.loop 83 [true,false,true,false]) [vbool b190,vi (ω ı (Int.add x191 1)),AV.list 0 2 l192,vi x193] [] else none else none else E cx (Key.loop 83 [true,false,true,false]) [vbool b190,vi (ω ı (Int.add x191 1)),AV.list 0 2 l192,vi x193] [] else some (Out.jump (JX.exit 0) [vbool b190,vi x191],[]):=by
 intros
 exact(E_in [188,142] _ _ _).trans (by kernel_rfl)
theorem f85:∀(table242:List (List AV)) (p243 p244:Int),E cx (Key.fn 85) [AV.list 0 2 table242,AV.agg [vu p243,vu p244]] []=Ω (E cx (Key.fn 83) [AV.list 0 2 table242] []) fun r245↦Ω (ret1 r245) fun v246↦Ω (AV.bool? v246) fun b247↦bif b247 then Ω (E cx (Key.fn 138) [AV.list 0 2 table242,AV.agg [vu p243,vu p244]] []) fun r248↦Ω (ret1 r248) fun v249↦Ω (AV.bool? v249) fun b250↦bif b250 then some (Out.ret (vbool true),[]) else some (Out.ret (vbool false),[]) else some (Out.ret (vbool false),[]):=by
 intros
 exact(E_in [188,142] _ _ _).trans (by kernel_rfl)
theorem f87:∀(a260 b261:List (List AV)),E cx (Key.fn 87) [AV.list 0 2 a260,AV.list 0 2 b261] []=Ω (E cx (Key.fn 47) [AV.agg [vbool false,AV.list 0 2 a260],AV.agg [vbool false,AV.list 0 2 b261]] []) fun r262↦Ω (ret1 r262) fun v263↦Ω (AV.bool? v263) fun b264↦bif b264 then some (Out.ret (vbool true),[]) else some (Out.ret (vbool false),[]):=by
 intros
 exact(E_in [188,142] _ _ _).trans (by kernel_rfl)
theorem f91:∀(table514 l515:List (List AV)),E cx (Key.fn 91) [AV.list 0 2 table514,AV.list 0 4 l515] []=Ω (E cx (Key.fn 139) [AV.list 0 4 l515,AV.func (Fn.func 140) [] [AV.rop [AV.list 0 2 table514]]] []) fun r516↦Ω (ret1 r516) fun v517↦Ω (AV.bool? v517) fun b518↦bif b518 then some (Out.ret (vbool false),[]) else some (Out.ret (vbool true),[]):=by
 intros
 exact(E_in [188,142] _ _ _).trans (by kernel_rfl)
theorem f91_c0:∀(l519 l520:List (List AV)),E cx (Key.fn 139) [AV.list 0 4 l519,AV.func (Fn.func 140) [] [AV.rop [AV.list 0 2 l520]]] []=Ω (E cx (Key.fn 159) [AV.list 0 4 l519,AV.func (Fn.func 140) [] [AV.rop [AV.list 0 2 l520]]] []) fun r521↦Ω (ret1 r521) fun v522↦Ω (AV.int? ı v522) fun n523↦bif decide (n523≥0) then some (Out.ret (vbool true),[]) else some (Out.ret (vbool false),[]):=by
 intros
 exact(E_in [188,142] _ _ _).trans (by kernel_rfl)
theorem f91_c0_c1:∀(l524 l525:List (List AV)),E cx (Key.fn 159) [AV.list 0 4 l524,AV.func (Fn.func 140) [] [AV.rop [AV.list 0 2 l525]]] []=Ω (E cx (Key.loop 159 [true,false,true,false]) [vi 0,vi 0,AV.list 0 4 l524,AV.func (Fn.func 140) [] [AV.rop [AV.list 0 2 l525]],vi ((ℓ l524):Int)] []) fun r526↦Ω (asJump r526) fun j527↦bif JX.is j527.fst (JX.exit 0) then Ω (uncons? j527.snd.fst) fun p528↦Ω (AV.int? ı p528.fst) fun _↦Ω (uncons? p528.snd) fun p530↦Ω (AV.int? ı p530.fst) fun _↦Ω (nil? p530.snd) fun _↦Ω (nil? j527.snd.snd) fun _↦some (Out.ret (vi (-1)),[]) else bif JX.is j527.fst JX.ret then Ω (uncons? j527.snd.fst) fun p534↦Ω (AV.int? ı p534.fst) fun n535↦Ω (uncons? p534.snd) fun p536↦Ω (AV.int? ı p536.fst) fun _↦Ω (nil? p536.snd) fun _↦Ω (nil? j527.snd.snd) fun _↦some (Out.ret (vi n535),[]) else none:=by
 intros
 exact(E_in [188,142] _ _ _).trans (by kernel_rfl)
theorem f91_c0_c1_l2:∀(x540 x541:Int) (l542 l543:List (List AV)) (x544:Int),E cx (Key.loop 159 [true,false,true,false]) [vi x540,vi x541,AV.list 0 4 l542,AV.func (Fn.func 140) [] [AV.rop [AV.list 0 2 l543]],vi x544] []=bif decide (x541<x544) then if 0≤x541 then Ω l542[τ x541]? fun cs545↦Ω (uncons? cs545) fun p546↦Ω (AV.list? 1 p546.fst) fun es547↦Ω (uncons? p546.snd) fun p548↦Ω (AV.int? υ p548.fst) fun n549↦Ω (uncons? p548.snd) fun p550↦Ω (AV.bool? p550.fst) fun b551↦Ω (uncons? p550.snd) fun p552↦Ω (AV.list? 2 p552.fst) fun es553↦Ω (nil? p552.snd) fun _↦Ω (E cx (Key.fn 140) [AV.agg [AV.list 0 1 es547,vu n549,vbool b551,AV.list 0 2 es553],AV.rop [AV.list 0 2 l543]] []) fun r555↦Ω (ret1 r555) fun v556↦Ω (AV.bool? v556) fun b557↦bif b557 then some (Out.jump JX.ret [vi x541,vi x541],[]) else E cx (Key.loop 159 [true,false,true,false]) [vi x540,vi (ω ı (Int.add x541 1)),AV.list 0 4 l542,AV.func (Fn.func 140) [] [AV.rop [AV.list 0 2 l543]],vi x544] [] else none else some (Out.jump (JX.exit 0) [vi x540,vi x541],[]):=by
 intros
 exact(E_in [188,142] _ _ _).trans (by kernel_rfl)
theorem f93:∀(root591:Int) (keys592:List (List AV)),E cx (Key.fn 93) [vu root591,AV.list 0 1 keys592] []=bif decide (((ℓ keys592):Int)>2048) then some (Out.ret (AV.tuple [AV.agg [vbool false,AV.val (Value.slice none 0 0)],vi 4]),[]) else Ω (E cx (Key.fn 141) [AV.func (Fn.func 162) [] [AV.rop [AV.list 0 1 keys592]]] []) fun r593↦Ω (ret1 r593) fun v594↦Ω (AV.list? 1 v594) fun es595↦Ω (E cx (Key.loop 93 [true,true,false,true,false]) [vi 0,vu root591,AV.ptr 0 0 0 0,AV.list 0 1 es595,vi ((ℓ es595):Int)] [Ob.mk OK.box 36 2 0 [[vbool false,AV.arr 1 2 0 0]],Ob.mk OK.arr 80 2 2 []]) fun r596↦Ω (asJump r596) fun j597↦bif JX.is j597.fst (JX.exit 0) then Ω (uncons? j597.snd.fst) fun p598↦Ω (AV.int? ı p598.fst) fun _↦Ω (nil? p598.snd) fun _↦Ω (uncons? j597.snd.snd) fun p601↦Ω (obIs (Ob.mk OK.box 36 2 0 [[vbool false,AV.arr 1 2 0 0]]) p601.fst) fun _↦Ω (chk p601.fst.ver 0) fun _↦Ω (uncons? p601.fst.es) fun p604↦Ω (nil? p604.snd) fun _↦Ω (uncons? p604.fst) fun p606↦Ω (AV.bool? p606.fst) fun b607↦Ω (uncons? p606.snd) fun p608↦Ω (AV.arr? 1 p608.fst) fun x609↦Ω (chk x609.fst 2) fun _↦Ω (nil? p608.snd) fun _↦Ω (uncons? p601.snd) fun p612↦Ω (obIs (Ob.mk OK.arr 80 2 2 []) p612.fst) fun _↦Ω (chk p612.fst.ver 2) fun _↦Ω (nil? p612.snd) fun _↦Ω (chkLe (Nat.add x609.snd.fst x609.snd.snd) (ℓ p612.fst.es)) fun _↦some (Out.ret (AV.tuple [AV.agg [vbool b607,AV.list 0 2 (List.drop x609.snd.fst (List.take (Nat.add x609.snd.fst x609.snd.snd) p612.fst.es))],vi 0]),[]) else none:=by
 intros
 exact(E_in [188,142] _ _ _).trans (by kernel_rfl)
theorem f93_c0:∀(l617:List (List AV)),E cx (Key.fn 141) [AV.func (Fn.func 162) [] [AV.rop [AV.list 0 1 l617]]] []=Ω (collP 162 [AV.func (Fn.func 162) [] [AV.rop [AV.list 0 1 l617]]]) fun ys618↦bif ysOk ys618 then if Nat.mul (Nat.add 0 (ℓ ys618)) 8≤140737488355328 then Ω (E cx (Key.own 161) [AV.arr 0 1 0 (Nat.add 0 (ℓ ys618))] [Ob.mk OK.arr 26 1 1 ([]++ys618)]) fun r619↦Ω (asRet r619) fun x620↦Ω (AV.tup? x620.fst) fun vs621↦Ω (nil? vs621) fun _↦Ω (uncons? x620.snd) fun p623↦Ω (obIs (Ob.mk OK.arr 26 1 1 []) p623.fst) fun _↦Ω (chk p623.fst.ver 1) fun _↦Ω (nil? p623.snd) fun _↦Ω (chkLe (Nat.add 0 (Nat.add 0 (ℓ ys618))) (ℓ p623.fst.es)) fun _↦some (Out.ret (AV.list 0 1 (List.drop 0 (List.take (Nat.add 0 (Nat.add 0 (ℓ ys618))) p623.fst.es))),[]) else none else none:=by
 intros
 exact(E_in [188,142] _ _ _).trans (by kernel_rfl)
theorem f93_l1:∀(x628 x629:Int) (l630:List (List AV)) (x631:Int) (b632:Bool) (n633:Nat) (l634:List (List AV)),E cx (Key.loop 93 [true,true,false,true,false]) [vi x628,vu x629,AV.ptr 0 0 0 0,AV.list 0 1 l630,vi x631] [Ob.mk OK.box 36 2 0 [[vbool b632,AV.arr 1 2 0 n633]],Ob.mk OK.arr 80 2 2 l634]=bif decide (x628<x631) then if 0≤x628 then Ω l630[τ x628]? fun cs635↦Ω (uncons? cs635) fun p636↦Ω (AV.int? υ p636.fst) fun n637↦Ω (nil? p636.snd) fun _↦Ω (chk n633 (ℓ (Ob.mk OK.arr 80 2 2 l634).es)) fun _↦if Nat.mul (Nat.add (ℓ (Ob.mk OK.arr 80 2 2 l634).es) 1) 16≤140737488355328 then E cx (Key.loop 93 [true,true,false,true,false]) [vi (ω ı (Int.add x628 1)),vu x629,AV.ptr 0 0 0 0,AV.list 0 1 l630,vi x631] [Ob.mk OK.box 36 2 0 [[vbool b632,AV.arr 1 2 0 (Nat.add (ℓ (Ob.mk OK.arr 80 2 2 l634).es) 1)]],Ob.mk OK.arr 80 2 2 ((Ob.mk OK.arr 80 2 2 l634).es++[[vu n637,vu x629]])] else none else none else some (Out.jump (JX.exit 0) [vi x628],[Ob.mk OK.box 36 2 0 [[vbool b632,AV.arr 1 2 0 n633]],Ob.mk OK.arr 80 2 2 l634]):=by
 intros
 exact(E_in [188,142] _ _ _).trans (by kernel_rfl)
theorem f94:∀(c640 n641:Int),E cx (Key.fn 94) [vi c640,vi n641] []=bif decide (c640<0) then if n641=0 then none else some (Out.ret (vi (Int.tmod (ω ı (Int.sub 0 (ω ı (Int.add c640 1)))) n641)),[]) else if n641=0 then none else some (Out.ret (vi (Int.tmod c640 n641)),[]):=by
 intros
 exact(E_in [188,142] _ _ _).trans (by kernel_rfl)
theorem f134:∀(a642 a643 b644 b645:Int),E cx (Key.fn 134) [AV.agg [vu a642,vu a643],AV.agg [vu b644,vu b645]] []=Ω (E cx (Key.fn 148) [vu a642,vu b644] []) fun r646↦Ω (ret1 r646) fun v647↦Ω (AV.int? ı v647) fun n648↦Ω (E cx (Key.fn 148) [vu a643,vu b645] []) fun r649↦Ω (ret1 r649) fun v650↦Ω (AV.int? ı v650) fun n651↦Ω (E cx (Key.fn 147) [AV.list 0 1 [[vi n648],[vi n651]]] []) fun r652↦Ω (ret1 r652) fun v653↦Ω (AV.int? ı v653) fun n654↦some (Out.ret (vi n654),[]):=by
 intros
 exact(E_in [188,142] _ _ _).trans (by kernel_rfl)
theorem f135:∀(n41:Nat) (s42:List (List AV)),E cx (Key.own 135) [AV.arr 0 2 0 n41] [Ob.mk OK.arr 80 2 2 s42]=bif decide ((n41:Int)<2) then some (Out.ret (AV.arr 0 2 0 n41),[Ob.mk OK.arr 80 2 2 s42]) else Ω (E cx (Key.loop 135 [true,true,false,true,false]) [AV.val (Value.slice none 0 0),vi 1,AV.arr 0 2 0 n41] [Ob.mk OK.arr 80 2 2 s42]) fun r43↦Ω (asJump r43) fun j44↦bif JX.is j44.fst (JX.exit 0) then Ω (uncons? j44.snd.fst) fun p45↦Ω (uncons? p45.snd) fun p46↦Ω (AV.int? ı p46.fst) fun _↦Ω (nil? p46.snd) fun _↦Ω (uncons? j44.snd.snd) fun p49↦Ω (obIs (Ob.mk OK.arr 80 2 2 s42) p49.fst) fun _↦Ω (chk p49.fst.ver 2) fun _↦Ω (nil? p49.snd) fun _↦some (Out.ret (AV.arr 0 2 0 n41),[Ob.mk OK.arr 80 2 2 p49.fst.es]) else bif JX.is j44.fst JX.ret then Ω (uncons? j44.snd.fst) fun p53↦Ω (AV.arr? 0 p53.fst) fun x54↦Ω (chk x54.fst 2) fun _↦Ω (uncons? p53.snd) fun p56↦Ω (AV.int? ı p56.fst) fun _↦Ω (nil? p56.snd) fun _↦Ω (uncons? j44.snd.snd) fun p59↦Ω (obIs (Ob.mk OK.arr 80 2 2 s42) p59.fst) fun _↦Ω (chk p59.fst.ver 2) fun _↦Ω (nil? p59.snd) fun _↦some (Out.ret (AV.arr 0 2 x54.snd.fst x54.snd.snd),[Ob.mk OK.arr 80 2 2 p59.fst.es]) else none:=by
 intros
 exact(E_in [188,142] _ _ _).trans (by kernel_rfl)
theorem f135_l0:∀(x63:Int) (n64:Nat) (l65:List (List AV)),E cx (Key.loop 135 [true,true,false,true,false]) [AV.val (Value.slice none 0 0),vi x63,AV.arr 0 2 0 n64] [Ob.mk OK.arr 80 2 2 l65]=bif decide (x63<(n64:Int)) then if 0≤x63 then if x63<(n64:Int) then Ω (nth l65 (Nat.add 0 (τ x63))) fun cs66↦Ω (uncons? cs66) fun p67↦Ω (AV.int? υ p67.fst) fun n68↦Ω (uncons? p67.snd) fun p69↦Ω (AV.int? υ p69.fst) fun n70↦Ω (nil? p69.snd) fun _↦if 0≤ω ı (Int.sub x63 1) then if ω ı (Int.sub x63 1)<(n64:Int) then Ω (nth l65 (Nat.add 0 (τ (ω ı (Int.sub x63 1))))) fun cs72↦Ω (uncons? cs72) fun p73↦Ω (AV.int? υ p73.fst) fun n74↦Ω (uncons? p73.snd) fun p75↦Ω (AV.int? υ p75.fst) fun n76↦Ω (nil? p75.snd) fun _↦bif decide (n68=n74)&&(decide (n70=n76)&&true) then if 0≤x63 then if x63≤(n64:Int) then Ω (E cx (Key.loop 135 [true,true,false,true,false,false,true,false,false,true,false,true,false,true,false]) [vi x63,vi 1,AV.arr 0 2 0 n64,AV.arr 0 2 (Nat.add 0 (τ x63)) (Nat.sub n64 (τ x63))] [Ob.mk OK.arr 80 2 2 l65]) fun r78↦Ω (asJump r78) fun j79↦bif JX.is j79.fst (JX.exit 2) then Ω (uncons? j79.snd.fst) fun p80↦Ω (AV.int? ı p80.fst) fun n81↦Ω (uncons? p80.snd) fun p82↦Ω (AV.int? ı p82.fst) fun _↦Ω (nil? p82.snd) fun _↦Ω (uncons? j79.snd.snd) fun p85↦Ω (obIs (Ob.mk OK.arr 80 2 2 l65) p85.fst) fun _↦Ω (chk p85.fst.ver 2) fun _↦Ω (nil? p85.snd) fun _↦if 0≤n81 then if n81≤(n64:Int) then Ω (chkLe (Nat.add (Nat.add 0 (τ n81)) (Nat.sub n64 (τ n81))) (ℓ (Ob.mk OK.arr 80 2 2 p85.fst.es).es)) fun _↦if 0≤n81 then if n81≤(n64:Int) then some (Out.jump JX.ret [AV.arr 0 2 0 (Nat.sub (τ n81) 0),vi n81],[Ob.mk OK.arr 80 2 2 (List.take (Nat.add 0 (τ n81)) (Ob.mk OK.arr 80 2 2 p85.fst.es).es++List.replicate (Nat.sub n64 (τ n81)) [vu 0,vu 0]++List.drop (Nat.add (Nat.add 0 (τ n81)) (Nat.sub n64 (τ n81))) (Ob.mk OK.arr 80 2 2 p85.fst.es).es)]) else none else none else none else none else none else none else none else E cx (Key.loop 135 [true,true,false,true,false]) [AV.val (Value.slice none 0 0),vi (ω ı (Int.add x63 1)),AV.arr 0 2 0 n64] [Ob.mk OK.arr 80 2 2 l65] else none else none else none else none else some (Out.jump (JX.exit 0) [AV.val (Value.slice none 0 0),vi x63],[Ob.mk OK.arr 80 2 2 l65]):=by
 intros
 exact(E_in [188,142] _ _ _).trans (by kernel_rfl)
theorem f135_l0_l1:∀(x90 x91:Int) (n92 o93 n94:Nat) (l95:List (List AV)),E cx (Key.loop 135 [true,true,false,true,false,false,true,false,false,true,false,true,false,true,false]) [vi x90,vi x91,AV.arr 0 2 0 n92,AV.arr 0 2 o93 n94] [Ob.mk OK.arr 80 2 2 l95]=bif decide (x91<(n94:Int)) then if 0≤x91 then if x91<(n94:Int) then Ω (nth l95 (Nat.add o93 (τ x91))) fun cs96↦Ω (uncons? cs96) fun p97↦Ω (AV.int? υ p97.fst) fun n98↦Ω (uncons? p97.snd) fun p99↦Ω (AV.int? υ p99.fst) fun n100↦Ω (nil? p99.snd) fun _↦if 0≤ω ı (Int.sub x91 1) then if ω ı (Int.sub x91 1)<(n94:Int) then Ω (nth l95 (Nat.add o93 (τ (ω ı (Int.sub x91 1))))) fun cs102↦Ω (uncons? cs102) fun p103↦Ω (AV.int? υ p103.fst) fun n104↦Ω (uncons? p103.snd) fun p105↦Ω (AV.int? υ p105.fst) fun n106↦Ω (nil? p105.snd) fun _↦bif !(decide (n98=n104)&&(decide (n100=n106)&&true)) then if 0≤x91 then if x91<(n94:Int) then Ω (nth l95 (Nat.add o93 (τ x91))) fun cs108↦Ω (uncons? cs108) fun p109↦Ω (AV.int? υ p109.fst) fun n110↦Ω (uncons? p109.snd) fun p111↦Ω (AV.int? υ p111.fst) fun n112↦Ω (nil? p111.snd) fun _↦if 0≤x90 then if x90<(n92:Int) then Ω (nth l95 (Nat.add 0 (τ x90))) fun cs114↦Ω (uncons? cs114) fun p115↦Ω (AV.int? υ p115.fst) fun _↦Ω (uncons? p115.snd) fun p117↦Ω (AV.int? υ p117.fst) fun _↦Ω (nil? p117.snd) fun _↦E cx (Key.loop 135 [true,true,false,true,false,false,true,false,false,true,false,true,false,true,false]) [vi (ω ı (Int.add x90 1)),vi (ω ı (Int.add x91 1)),AV.arr 0 2 0 n92,AV.arr 0 2 o93 n94] [Ob.mk OK.arr 80 2 2 (List.set l95 (Nat.add 0 (τ x90)) [vu n110,vu n112])] else none else none else none else none else E cx (Key.loop 135 [true,true,false,true,false,false,true,false,false,true,false,true,false,true,false]) [vi x90,vi (ω ı (Int.add x91 1)),AV.arr 0 2 0 n92,AV.arr 0 2 o93 n94] [Ob.mk OK.arr 80 2 2 l95] else none else none else none else none else some (Out.jump (JX.exit 2) [vi x90,vi x91],[Ob.mk OK.arr 80 2 2 l95]):=by
 intros
 exact(E_in [188,142] _ _ _).trans (by kernel_rfl)
end
section
theorem c94 {c n:Int}(hc:RI c) (hn:0<n):E cx (Key.fn 94) [vi c,vi n] []=some (Out.ret (vi (pickI c n)),[]):=by
 refine(f94 _ _).trans ?_
 unfold pickI
 by_cases h:c<0
 ·rw [if_pos h]
  refine(goD h _ _).trans ((goN (show ¬n=0 by omega) _ _).trans ?_)
  have e:ω .i64 (Int.sub 0 (ω .i64 (Int.add c 1))) = -(c+1):=by
   rw [wr_add (a:=c) (b:=1) (by omega) (by omega)]
   exact(wr_sub (a:=0) (by omega) (by omega)).trans (by omega)
  rw [e]
 ·rw [if_neg h]
  exact(goDn h _ _).trans (goN (show ¬n=0 by omega) _ _)
theorem c134 (p q:P2):E cx (Key.fn 134) [.agg [vu p.1,vu p.2],.agg [vu q.1,vu q.2]] []=some (Out.ret (vi (ordI p q)),[]):=by
 refine(f134 _ _ _ _).trans ((goI (c148 _ _) _).trans ((goI (c148 _ _) _).trans ((goI (c147 _ _) _).trans ?_)))
 obtain⟨a,b⟩:=p
 obtain⟨c,d⟩:=q
 have h2:(if cmpI (a:Int) (c:Int)=0 then cmpI (b:Int) (d:Int) else cmpI (a:Int) (c:Int))=ordI (a,b) (c,d):=by
  have e:∀x y:Nat,cmpI (x:Int) (y:Int)=if x<y then -1 else if y<x then 1 else 0:=fun x y=>by
   unfold cmpI
   simp only [Int.ofNat_lt,gt_iff_lt]
  rw [e,e]
  unfold ordI ltP
  rcases Nat.lt_trichotomy a c with h1 |h1 |h1<;>rcases Nat.lt_trichotomy b d with h3 |h3 |h3 <;>
   simp [h1,h3,Nat.lt_asymm,Nat.ne_of_lt,Nat.ne_of_gt]<;>omega
 rw [h2]
def stAt (l:List P2) (j:Nat):Prop:=∀p q,l[j]?=some p→l[j+1]?=some q→ltP p q=true
def stI (l:List P2):Prop:=∀j,stAt l j
abbrev SW (l:List P2):Prop:=l.Pairwise fun a b=>ltP a b=true
open Classical in
noncomputable def stB (l:List P2):Bool:=decide (stI l)
open Classical in
theorem stB_t {l:List P2}(h:stI l):stB l=true:=by unfold stB;exact decide_eq_true h
open Classical in
theorem stB_f {l:List P2}(h:¬stI l):stB l=false:=by unfold stB;exact decide_eq_false h
noncomputable def tabR (l:List P2):Bool:=stB l&&decide (l.length≤4096)
theorem ltP_def (x y:P2):ltP x y=true↔x.1<y.1∨x.1=y.1∧x.2<y.2:=by
 unfold ltP
 simp
theorem ltP_trans {x y z:P2}(h1:ltP x y=true) (h2:ltP y z=true):ltP x z=true:=by
 rw [ltP_def] at *
 omega
theorem ltP_irr (x:P2):ltP x x=false:=by
 cases h:ltP x x with
 |false=>rfl
 |true=>have:=(ltP_def x x).1 h;omega
theorem ltP_tri {x y:P2}(h1:ltP x y=false) (h2:x≠y):ltP y x=true:=by
 rw [ltP_def]
 have:¬(x.1<y.1∨x.1=y.1∧x.2<y.2):=fun h=>by rw [(ltP_def x y).2 h] at h1;cases h1
 have h3:¬(x.1=y.1∧x.2=y.2):=fun h=>h2 (Prod.ext h.1 h.2)
 omega
theorem sw_iff (l:List P2):stI l↔SW l:=by
 constructor
 ·intro h
  refine List.pairwise_iff_getElem.2 fun i j hi hj hij=> ?_
  obtain⟨d,rfl⟩:=Nat.exists_eq_add_of_le (show i+1≤j by omega)
  clear hij
  induction d with
  |zero=>exact h i _ _ (η hi) (η hj)
  |succ d ih =>
   have h1:=ih (by omega)
   have h2:=h (i+1+d) _ _ (η (by omega)) (η hj)
   exact ltP_trans h1 h2
 ·intro h j p q hp hq
  obtain⟨h1,e1⟩:=List.getElem?_eq_some_iff.1 hp
  obtain⟨h2,e2⟩:=List.getElem?_eq_some_iff.1 hq
  subst e1 e2
  exact List.pairwise_iff_getElem.1 h j (j+1) h1 h2 (by omega)
theorem tabR_iff (l:List P2):tabR l=true↔SW l∧l.length≤4096:=by
 unfold tabR
 rw [Bool.and_eq_true,decide_eq_true_eq,←sw_iff]
 by_cases h:stI l
 ·simp [stB_t h,h]
 ·simp [stB_f h,h]
theorem ordI_ge (p q:P2):ordI p q≥0↔ltP p q=false:=by
 have:=ordI_neg p q
 cases h:ltP p q with
 |true=>simp [h] at this;constructor<;>intro h2<;>first |omega |cases h2
 |false =>
  simp [h] at this
  exact⟨fun _=>rfl,fun _=>by omega⟩
theorem loop83 (l:List P2) (b:Bool) (hl:l.length≤4000000):∀(d i:Nat),i+d=l.length→(∀j,j+1<i→stAt l j)→(stI l∧∃x y,E cx (.loop 83 [true,false,true,false]) [vbool b,vi i,.list 0 2 (prs l),vi l.length] []=some (Out.jump (.exit 0) [vbool x,vi y],[]))∨(¬stI l∧∃y,E cx (.loop 83 [true,false,true,false]) [vbool b,vi i,.list 0 2 (prs l),vi l.length] []=some (Out.jump .ret [vbool false,vi y],[])):=by
 intro d
 induction d with
 |zero =>
  intro i hi h
  refine .inl ⟨fun j=> ?_,b,i,(f83_l0 _ _ _ _).trans (goDn (by omega) _ _)⟩
  by_cases hj:j+1<i
  ·exact h j hj
  ·intro p q hp hq
   have:=(List.getElem?_eq_some_iff.1 hq).1
   omega
 |succ d ih =>
  intro i hi h
  have hm:i<l.length:=by omega
  have st:=(f83_l0 b (i:Int) (prs l) (l.length:Int)).trans (goD (show(i:Int)<(l.length:Int) by omega) _ _)
  rw [wS (by omega)] at st
  by_cases h0:i=0
  ·subst h0
   rw [st.trans (goDn (show ¬((0:Nat):Int)>0 by omega) _ _)]
   exact ih 1 (by omega) (fun j hj=>by omega)
  ·have st:=st.trans (goD (show(i:Int)>0 by omega) _ _)
   rw [show ω .i64 (Int.sub (i:Int) 1)=((i-1:Nat):Int) from(wr_sub (b:=1) (by omega) (by omega)).trans (by omega)] at st
   have g1:l[i-1]?=some l[i-1]:=η (by omega)
   have g2:l[i]?=some l[i]:=η hm
   have st:=st.trans ((goY (show(0:Int)≤((i-1:Nat):Int) by omega) _ _).trans ((goPr (n:=i-1) rfl g1 _).trans ((goY (show(0:Int)≤(i:Int) by omega) _ _).trans ((goPr (n:=i) rfl g2 _).trans (goI (c134 _ _) _)))))
   cases hlt:ltP l[i-1] l[i] with
   |true =>
    have h2:=(ordI_neg _ _).2 hlt
    rw [st.trans (goDn (show ¬ordI l[i-1] l[i]≥0 by omega) _ _)]
    refine ih (i+1) (by omega) (fun j hj=> ?_)
    by_cases hj2:j+1<i
    ·exact h j hj2
    ·intro p q hp hq
     rw [show j=i-1 by omega,g1] at hp
     rw [show j+1=i by omega,g2] at hq
     cases hp;cases hq
     exact hlt
   |false =>
    refine .inr ⟨fun hs=> ?_,(i:Int),st.trans (goD ((ordI_ge _ _).2 hlt) _ _)⟩
    have:=hs (i-1) _ _ g1 (by rw [show i-1+1=i by omega];exact g2)
    rw [hlt] at this
    cases this
theorem c83 (l:List P2) (hl:l.length≤4000000):E cx (Key.fn 83) [.list 0 2 (prs l)] []=rb (tabR l):=by
 refine(f83 _).trans ?_
 rw [prs_len]
 unfold tabR
 rcases loop83 l false hl l.length 0 (by omega) (fun j hj=>by omega) with⟨h1,x,y,h2⟩ |⟨h1,y,h2⟩
 ·rw [show(0:Int)=((0:Nat):Int) from rfl,h2,stB_t h1]
  by_cases h:l.length≤4096
  ·rw [decide_eq_true h]
   exact goD (show(l.length:Int)≤4096 by omega) _ _
  ·rw [decide_eq_false h]
   exact goDn (show ¬(l.length:Int)≤4096 by omega) _ _
 ·rw [show(0:Int)=((0:Nat):Int) from rfl,h2,stB_f h1]
  rfl
def atW (p:P2) (l:List P2):Nat→Nat
 | 0=>0
 |n+1=>match l[n]? with
  |some q=>if ltP q p then n+1 else atW p l n
  |none=>0
def insW (p:P2) (l:List P2):List P2:=l.take (atW p l l.length)++p::l.drop (atW p l l.length)
theorem atW_le (p:P2) (l:List P2):∀n,atW p l n≤n
 | 0=>Nat.le_refl _
 |n+1=>by
  unfold atW
  split
  ·split
   ·exact Nat.le_refl _
   ·exact Nat.le_succ_of_le (atW_le p l n)
  ·omega
theorem insW_len (p:P2) (l:List P2):(insW p l).length=l.length+1:=by
 have:=atW_le p l l.length
 unfold insW
 simp
 omega
theorem prs_app' (a b:List P2):prs a++prs b=prs (a++b):=by simp [prs]
end
section
def cmpP:List P2→List P2
 | []=>[]
 | [x]=>[x]
 |x::y::r=>if x=y then cmpP (y::r) else x::cmpP (y::r)
theorem cmpP_mem:∀ {l:List P2}{x:P2},x∈cmpP l↔x∈l
 | [],x=>Iff.rfl
 | [y],x=>Iff.rfl
 |a::b::r,x=>by
  unfold cmpP
  have ih:=cmpP_mem (l:=b::r) (x:=x)
  split
  ·rename_i h
   subst h
   rw [ih]
   simp
  ·simp only [List.mem_cons] at ih ⊢
   rw [ih]
theorem cmpP_snoc:∀(xs:List P2) (x y:P2),cmpP (xs++[x,y])=if x=y then cmpP (xs++[x]) else cmpP (xs++[x])++[y]
 | [],x,y=>by
  show cmpP [x,y]=_
  unfold cmpP
  by_cases h:x=y
  ·rw [if_pos h,if_pos h,h];rfl
  ·rw [if_neg h,if_neg h];rfl
 | [a],x,y=>by
  show cmpP (a::x::[y])=if x=y then cmpP (a::x::[]) else cmpP (a::x::[])++[y]
  simp only [cmpP]
  by_cases h1:a=x<;>by_cases h2:x=y<;>simp [h1,h2]
 |a::b::r,x,y=>by
  have ih:=cmpP_snoc (b::r) x y
  simp only [List.cons_append] at ih
  show cmpP (a::b::(r++[x,y]))=if x=y then cmpP (a::b::(r++[x])) else cmpP (a::b::(r++[x]))++[y]
  rw [cmpP,cmpP,ih]
  by_cases h1:a=b<;>by_cases h2:x=y<;>simp [h1,h2]
theorem cmpP_take {l:List P2}{m:Nat}(h0:0<m) (hm:m<l.length):cmpP (l.take (m+1))=if l[m-1]=l[m] then cmpP (l.take m) else cmpP (l.take m)++[l[m]]:=by
 obtain⟨k,rfl⟩:∃k,m=k+1:=⟨m-1,by omega⟩
 have e1:l.take (k+1)=l.take k++[l[k]]:=by rw [List.take_add_one,η (by omega)];rfl
 have e2:l.take (k+1+1)=l.take k++[l[k],l[k+1]]:=by rw [List.take_add_one,e1,η hm];exact List.append_assoc _ _ _
 rw [e2,e1,cmpP_snoc]
 rfl
theorem cmpP_le:∀l:List P2,(cmpP l).length≤l.length
 | []=>Nat.le_refl _
 | [x]=>Nat.le_refl _
 |x::y::r=>by
  have:=cmpP_le (y::r)
  unfold cmpP
  split
  ·simp only [List.length_cons] at this ⊢;omega
  ·simp only [List.length_cons] at this ⊢;omega
theorem go1P {ρ:Type}{l:List P2}{i:Int}{n o:Nat}{r:P2}(hn:i=n) (h:l[o+n]?=some r) (k:Int→Int→Option ρ):((nth (prs l) (Nat.add o (τ i))).bind fun cs=>(uncons? cs).bind fun p=>(AV.int? .u64 p.fst).bind fun s=>(uncons? p.snd).bind fun p2=>(AV.int? .u64 p2.fst).bind fun t=>(nil? p2.snd).bind fun _=>k s t)=k r.1 r.2:=by
 subst hn
 have:nth (prs l) (Nat.add o (τ (n:Int)))=some [vu (r.1:Int),vu (r.2:Int)]:=by
  rw [nth_eq,Int.toNat_natCast]
  show(prs l)[o+n]?=_
  simp [prs,encP,h]
 rw [this]
 rfl
theorem goPd {ρ:Type}{p q:P2}(h:p=q) (k j:Option ρ):(bif (decide ((p.1:Int)=(q.1:Int))&&(decide ((p.2:Int)=(q.2:Int))&&true)) then k else j)=k:=by rw [pairEq,decide_eq_true h];rfl
theorem goPdn {ρ:Type}{p q:P2}(h:¬p=q) (k j:Option ρ):(bif (decide ((p.1:Int)=(q.1:Int))&&(decide ((p.2:Int)=(q.2:Int))&&true)) then k else j)=j:=by rw [pairEq,decide_eq_false h];rfl
theorem goPe2 {ρ:Type}{p q:P2}(h:p=q) (k j:Option ρ):(bif !(decide ((p.1:Int)=(q.1:Int))&&(decide ((p.2:Int)=(q.2:Int))&&true)) then k else j)=j:=by rw [pairEq,decide_eq_true h];rfl
theorem goPe2n {ρ:Type}{p q:P2}(h:¬p=q) (k j:Option ρ):(bif !(decide ((p.1:Int)=(q.1:Int))&&(decide ((p.2:Int)=(q.2:Int))&&true)) then k else j)=k:=by rw [pairEq,decide_eq_false h];rfl
theorem loop135i (l:List P2) (hl:l.length≤4000000) (k0:Nat) (hk0:0<k0):∀(d k2 k:Nat) (A:List P2),k0+k2+d=l.length→0<k2→k<k0+k2→A.length=l.length→A.take k=cmpP (l.take (k0+k2))→k=(cmpP (l.take (k0+k2))).length →
  (∀j,k0+k2-1≤j→A[j]?=l[j]?) →
  ∃A':List P2,E cx (Key.loop 135 [true,true,false,true,false,false,true,false,false,true,false,true,false,true,false]) [vi k,vi k2,.arr 0 2 0 l.length,.arr 0 2 k0 (l.length-k0)] [⟨.arr,80,2,2,prs A⟩] =
   some (Out.jump (.exit 2) [vi (cmpP l).length,vi (l.length-k0:Nat)],[⟨.arr,80,2,2,prs A'⟩])∧A'.length=l.length∧A'.take (cmpP l).length=cmpP l
 | 0,k2,k,A,hd,h2,hk,hA,ht,hkl,hj=>by
  have hfull:l.take (k0+k2)=l:=List.take_of_length_le (by omega)
  rw [hfull] at ht hkl
  refine⟨A,(f135_l0_l1 _ _ _ _ _ _).trans ((goDn (by omega) _ _).trans ?_),hA,by rw [←hkl];exact ht⟩
  rw [hkl,show k2=l.length-k0 by omega]
 |d+1,k2,k,A,hd,h2,hk,hA,ht,hkl,hj=>by
  have hm:k0+k2<l.length:=by omega
  have g1:A[k0+k2]?=some l[k0+k2]:=by rw [hj _ (by omega)];exact η hm
  have g2:A[k0+(k2-1)]?=some l[k0+k2-1]:=by rw [hj _ (by omega),show k0+(k2-1)=k0+k2-1 by omega];exact η (by omega)
  have wp:ω .i64 (Int.sub (k2:Int) 1)=((k2-1:Nat):Int):=(wr_sub (b:=1) (by omega) (by omega)).trans (by omega)
  have hct:=cmpP_take (l:=l) (m:=k0+k2) (by omega) hm
  refine ?_
  have start:∀ {R},(bif decide (l[k0+k2]≠l[k0+k2-1]) then E cx (Key.loop 135 [true,true,false,true,false,false,true,false,false,true,false,true,false,true,false]) [vi (k+1:Nat),vi (k2+1:Nat),.arr 0 2 0 l.length,.arr 0 2 k0 (l.length-k0)] [⟨.arr,80,2,2,prs (A.set k l[k0+k2])⟩] else
    E cx (Key.loop 135 [true,true,false,true,false,false,true,false,false,true,false,true,false,true,false]) [vi k,vi (k2+1:Nat),.arr 0 2 0 l.length,.arr 0 2 k0 (l.length-k0)] [⟨.arr,80,2,2,prs A⟩])=R →
    E cx (Key.loop 135 [true,true,false,true,false,false,true,false,false,true,false,true,false,true,false]) [vi k,vi k2,.arr 0 2 0 l.length,.arr 0 2 k0 (l.length-k0)] [⟨.arr,80,2,2,prs A⟩]=R:=fun {R} h=>by
   refine(f135_l0_l1 _ _ _ _ _ _).trans ((goD (by omega) _ _).trans ((goY (by omega) _ _).trans ((goY (by omega) _ _).trans ((go1P (n:=k2) (o:=k0) rfl g1 _).trans ?_))))
   rw [wp]
   refine(goY (by omega) _ _).trans ((goY (by omega) _ _).trans ((go1P (n:=k2-1) (o:=k0) rfl g2 _).trans ?_))
   by_cases hne:l[k0+k2]=l[k0+k2-1]
   ·refine(goPe2 hne _ _).trans ?_
    rw [wS (by omega)]
    exact(goDn (p:=l[k0+k2]≠l[k0+k2-1]) (fun h=>h hne) _ _).symm.trans h
   ·refine(goPe2n hne _ _).trans ((goY (by omega) _ _).trans ((goY (by omega) _ _).trans ((go1P (n:=k2) (o:=k0) rfl g1 _).trans ((goY (by omega) _ _).trans ((goY (by omega) _ _).trans ?_)))))
    have hkA:A[0+k]?=some A[k]:=by rw [Nat.zero_add];exact η (by omega)
    refine(go1P (n:=k) (o:=0) rfl hkA _).trans ?_
    rw [wS (by omega),wS (by omega)]
    have hset:List.set (prs A) (Nat.add 0 (τ (k:Int))) [vu (l[k0+k2].1:Int),vu (l[k0+k2].2:Int)]=prs (A.set k l[k0+k2]):=by
     rw [Int.toNat_natCast,show Nat.add 0 k=k from Nat.zero_add k]
     simp [prs,encP,List.map_set]
    rw [hset]
    exact(goD (p:=l[k0+k2]≠l[k0+k2-1]) hne _ _).symm.trans h
  by_cases hne:l[k0+k2]=l[k0+k2-1]
  ·have hct':cmpP (l.take (k0+(k2+1)))=cmpP (l.take (k0+k2)):=by
    rw [show k0+(k2+1)=k0+k2+1 by omega,hct,if_pos hne.symm]
   obtain⟨A',q1,q2,q3⟩:=loop135i l hl k0 hk0 d (k2+1) k A (by omega) (by omega) (by omega) hA (by rw [hct'];exact ht) (by rw [hct'];exact hkl) (fun j hjj=>hj j (by omega))
   exact⟨A',start ((goDn (p:=l[k0+k2]≠l[k0+k2-1]) (fun h=>h hne) _ _).trans q1),q2,q3⟩
  ·have hct':cmpP (l.take (k0+(k2+1)))=cmpP (l.take (k0+k2))++[l[k0+k2]]:=by
    rw [show k0+(k2+1)=k0+k2+1 by omega,hct,if_neg (fun h=>hne h.symm)]
   obtain⟨A',q1,q2,q3⟩:=loop135i l hl k0 hk0 d (k2+1) (k+1) (A.set k l[k0+k2]) (by omega) (by omega) (by omega) (by simp;exact hA) (by
    rw [hct',←ht,List.take_add_one,List.getElem?_set_self (by omega)]
    rw [List.take_set_of_le (Nat.le_refl _)]
    rfl) (by rw [hct',List.length_append,←hkl];rfl) (fun j hjj=>by rw [List.getElem?_set_ne (by omega)];exact hj j (by omega))
   exact⟨A',start ((goD (p:=l[k0+k2]≠l[k0+k2-1]) hne _ _).trans q1),q2,q3⟩
theorem loop135 (l:List P2) (hl:l.length≤4000000):∀(d i:Nat),i+d=l.length→0<i→cmpP (l.take i)=l.take i →
  (cmpP l=l∧E cx (Key.loop 135 [true,true,false,true,false]) [.val (.slice none 0 0),vi i,.arr 0 2 0 l.length] [⟨.arr,80,2,2,prs l⟩]=some (Out.jump (.exit 0) [.val (.slice none 0 0),vi l.length],[⟨.arr,80,2,2,prs l⟩])) ∨
  (∃(k:Int) (es:List (List AV)),es.take (cmpP l).length=prs (cmpP l)∧es.length=l.length∧E cx (Key.loop 135 [true,true,false,true,false]) [.val (.slice none 0 0),vi i,.arr 0 2 0 l.length] [⟨.arr,80,2,2,prs l⟩]=some (Out.jump .ret [.arr 0 2 0 (cmpP l).length,vi k],[⟨.arr,80,2,2,es⟩]))
 | 0,i,hd,h0,ht=>by
  have hfull:l.take i=l:=List.take_of_length_le (by omega)
  rw [hfull] at ht
  exact .inl ⟨ht,(f135_l0 _ _ _).trans ((goDn (by omega) _ _).trans (by rw [show i=l.length by omega]))⟩
 |d+1,i,hd,h0,ht=>by
  have hm:i<l.length:=by omega
  have g1:l[i]?=some l[i]:=η hm
  have g2:l[i-1]?=some l[i-1]:=η (by omega)
  have wp:ω .i64 (Int.sub (i:Int) 1)=((i-1:Nat):Int):=(wr_sub (b:=1) (by omega) (by omega)).trans (by omega)
  have hct:=cmpP_take (l:=l) (m:=i) h0 hm
  have hcl:=cmpP_le l
  by_cases he:l[i]=l[i-1]
  ·right
   have htk:(l.take i).length=i:=by rw [List.length_take];omega
   have hct':cmpP (l.take (i+1))=l.take i:=by rw [hct,if_pos he.symm,ht]
   obtain⟨A',q1,q2,q3⟩:=loop135i l hl i h0 d 1 i l (by omega) (by omega) (by omega) rfl hct'.symm (by rw [hct',htk]) (fun j hj=>rfl)
   have hlA:(prs A').length=l.length:=by rw [prs_len,q2]
   refine⟨((cmpP l).length:Int),(prs A').take (Nat.add 0 (cmpP l).length)++List.replicate (Nat.sub l.length (cmpP l).length) [vu 0,vu 0]++(prs A').drop (Nat.add (Nat.add 0 (cmpP l).length) (Nat.sub l.length (cmpP l).length)),?_,?_,?_⟩
   ·rw [show Nat.add 0 (cmpP l).length=(cmpP l).length from Nat.zero_add _,List.append_assoc,List.take_append_of_le_length (by rw [List.length_take];omega),List.take_take,Nat.min_self,prs_take,q3]
   ·simp only [List.length_append,List.length_take,List.length_replicate,List.length_drop]
    rw [hlA]
    show min (0+(cmpP l).length) l.length+(l.length-(cmpP l).length)+(l.length-(0+(cmpP l).length+(l.length-(cmpP l).length)))=l.length
    omega
   ·refine(f135_l0 _ _ _).trans ((goD (by omega) _ _).trans ((goY (by omega) _ _).trans ((goY (by omega) _ _).trans ((go1P (n:=i) (o:=0) rfl (by rw [Nat.zero_add];exact g1) _).trans ?_))))
    rw [wp]
    refine(goY (by omega) _ _).trans ((goY (by omega) _ _).trans ((go1P (n:=i-1) (o:=0) rfl (by rw [Nat.zero_add];exact g2) _).trans ?_))
    refine(goPd he _ _).trans ((goY (by omega) _ _).trans ((goY (by omega) _ _).trans ?_))
    rw [Int.toNat_natCast]
    show(Ω (E cx (Key.loop 135 [true,true,false,true,false,false,true,false,false,true,false,true,false,true,false]) [vi i,vi ((1:Nat):Int),.arr 0 2 0 l.length,.arr 0 2 (0+i) (l.length-i)] [⟨.arr,80,2,2,prs l⟩]) _)=_
    rw [Nat.zero_add,q1]
    simp only [χ,asJump,JX.is,Nat.beq_refl,cond_true,uncons?,nil?,AV.int?,chk,obIs,if_true,and_self]
    rw [Int.toNat_natCast]
    refine(goY (by omega) _ _).trans ((goY (by omega) _ _).trans ?_)
    refine(goLe (by rw [hlA];show 0+(cmpP l).length+(l.length-(cmpP l).length)≤_;omega) _).trans ?_
    refine(goY (by omega) _ _).trans ((goY (by omega) _ _).trans ?_)
    rfl
  ·have hct':cmpP (l.take (i+1))=l.take (i+1):=by
    rw [hct,if_neg (fun h=>he h.symm),ht,List.take_add_one,g1]
    rfl
   have nx:∀ {R},E cx (Key.loop 135 [true,true,false,true,false]) [.val (.slice none 0 0),vi (i+1:Nat),.arr 0 2 0 l.length] [⟨.arr,80,2,2,prs l⟩]=R→E cx (Key.loop 135 [true,true,false,true,false]) [.val (.slice none 0 0),vi i,.arr 0 2 0 l.length] [⟨.arr,80,2,2,prs l⟩]=R:=fun {R} h=>by
    refine(f135_l0 _ _ _).trans ((goD (by omega) _ _).trans ((goY (by omega) _ _).trans ((goY (by omega) _ _).trans ((go1P (n:=i) (o:=0) rfl (by rw [Nat.zero_add];exact g1) _).trans ?_))))
    rw [wp]
    refine(goY (by omega) _ _).trans ((goY (by omega) _ _).trans ((go1P (n:=i-1) (o:=0) rfl (by rw [Nat.zero_add];exact g2) _).trans ?_))
    refine(goPdn he _ _).trans ?_
    rw [wS (by omega)]
    exact h
   rcases loop135 l hl d (i+1) (by omega) (by omega) hct' with⟨q1,q2⟩ |⟨k,es,q1,q2,q3⟩
   ·exact .inl ⟨q1,nx q2⟩
   ·exact .inr ⟨k,es,q1,q2,nx q3⟩
theorem c135 (l:List P2) (hl:l.length≤4000000):∃es:List (List AV),es.take (cmpP l).length=prs (cmpP l)∧es.length=l.length∧E cx (Key.own 135) [.arr 0 2 0 l.length] [⟨.arr,80,2,2,prs l⟩]=some (Out.ret (.arr 0 2 0 (cmpP l).length),[⟨.arr,80,2,2,es⟩]):=by
 by_cases h2:l.length<2
 ·have hc:cmpP l=l:=by
   match l,h2 with
   | [],_=>rfl
   | [x],_=>rfl
   |x::y::r,h=>simp at h;omega
  refine⟨prs l,?_,prs_len l,(f135 _ _).trans ((goD (by omega) _ _).trans (by rw [hc]))⟩
  rw [hc,List.take_of_length_le (by rw [prs_len];exact Nat.le_refl _)]
 ·have h1:cmpP (l.take 1)=l.take 1:=by
   match l with
   | []=>rfl
   | [x]=>rfl
   |x::y::r=>rfl
  have key:=loop135 l hl (l.length-1) 1 (by omega) (by omega) h1
  have start:∀ {R},_=R→E cx (Key.own 135) [.arr 0 2 0 l.length] [⟨.arr,80,2,2,prs l⟩]=R:=fun {R} h=>(f135 _ _).trans ((goDn (by omega) _ _).trans h)
  rcases key with⟨q1,q2⟩ |⟨k,es,q1,q2,q3⟩
  ·refine⟨prs l,?_,prs_len l,start ?_⟩
   ·rw [q1,List.take_of_length_le (by rw [prs_len];exact Nat.le_refl _)]
   ·show(Ω (E cx (Key.loop 135 [true,true,false,true,false]) [.val (.slice none 0 0),vi ((1:Nat):Int),.arr 0 2 0 l.length] [⟨.arr,80,2,2,prs l⟩]) _)=_
    rw [q2,q1]
    rfl
  ·refine⟨es,q1,q2,start ?_⟩
   show(Ω (E cx (Key.loop 135 [true,true,false,true,false]) [.val (.slice none 0 0),vi ((1:Nat):Int),.arr 0 2 0 l.length] [⟨.arr,80,2,2,prs l⟩]) _)=_
   rw [q3]
   rfl
end
section
theorem atW_spec (p:P2) (l:List P2) (hl:PW l):∀n,n≤l.length→(∀i (h:i<l.length),i<atW p l n→leP l[i] p=true)∧∀i (h:i<l.length),atW p l n≤i→i<n→leP p l[i]=true
 | 0,_=>⟨fun i h hi=>by simp [atW] at hi,fun i h _ hi=>by omega⟩
 |n+1,hn=>by
  have g:l[n]?=some l[n]:=η (by omega)
  unfold atW
  rw [g]
  simp only
  cases h:ltP l[n] p with
  |true =>
   simp only [if_true]
   refine⟨fun i hi hin=> ?_,fun i hi h1 h2=>by omega⟩
   have h1:leP l[n] p=true:=(leP_iff _ _).2 (by have:=(ltP_def _ _).1 h;omega)
   by_cases e:i=n
   ·subst e;exact h1
   ·exact leP_trans _ _ _ (List.pairwise_iff_getElem.1 hl i n hi (by omega) (by omega)) h1
  |false =>
   simp only [Bool.false_eq_true,if_false]
   obtain⟨g1,g2⟩:=atW_spec p l hl n (by omega)
   refine⟨g1,fun i hi h1 h2=> ?_⟩
   by_cases e:i=n
   ·subst e
    have:leP l[i] p=true→p=l[i]:=fun h3=>by
     rcases(leP_iff _ _).1 h3 with h4 |h4
     ·exact absurd ((ltP_def _ _).2 (.inl h4)) (by rw [h];simp)
     ·rcases Nat.lt_or_ge l[i].2 p.2 with h5 |h5
      ·exact absurd ((ltP_def _ _).2 (.inr ⟨h4.1,h5⟩)) (by rw [h];simp)
      ·exact Prod.ext h4.1.symm (by omega)
    cases h6:leP l[i] p with
    |false=>exact leP_not h6
    |true =>
     rw [←this h6]
     exact(leP_iff _ _).2 (.inr ⟨rfl,Nat.le_refl _⟩)
   ·exact g2 i hi h1 (by omega)
theorem insW_perm (p:P2) (l:List P2):(insW p l).Perm (p::l):=by
 unfold insW
 refine List.perm_middle.trans ?_
 rw [List.take_append_drop]
theorem insW_pw (p:P2) (l:List P2) (hl:PW l):PW (insW p l):=by
 obtain⟨g1,g2⟩:=atW_spec p l hl l.length (Nat.le_refl _)
 have hk:=atW_le p l l.length
 unfold insW
 refine List.pairwise_append.2 ⟨hl.sublist (List.take_sublist _ _),List.pairwise_cons.2 ⟨fun q hq=> ?_,hl.sublist (List.drop_sublist _ _)⟩,fun a ha b hb=> ?_⟩
 ·obtain⟨i,hi,rfl⟩:=List.mem_iff_getElem.1 hq
  rw [List.length_drop] at hi
  rw [List.getElem_drop]
  exact g2 _ (by omega) (by omega) (by omega)
 ·obtain⟨i,hi,rfl⟩:=List.mem_iff_getElem.1 ha
  rw [List.length_take] at hi
  rw [List.getElem_take]
  have h1:=g1 i (by omega) (by omega)
  rcases List.mem_cons.1 hb with rfl |hb
  ·exact h1
  ·obtain⟨j,hj,rfl⟩:=List.mem_iff_getElem.1 hb
   rw [List.length_drop] at hj
   rw [List.getElem_drop]
   exact leP_trans _ _ _ h1 (g2 _ (by omega) (by omega) (by omega))
theorem sw_pw {l:List P2}(h:SW l):PW l:=h.imp fun {a b} h=>(leP_iff _ _).2 (by have:=(ltP_def _ _).1 h;omega)
theorem sw_nodup {l:List P2}(h:SW l):l.Nodup:=h.imp fun {a b} h e=>by rw [e,ltP_irr] at h;cases h
theorem pw_sw {l:List P2}(h:PW l) (hn:l.Nodup):SW l:=by
 refine List.Pairwise.imp₂ ?_ h hn
 intro a b h1 h2
 cases h3:ltP a b with
 |true=>rfl
 |false=>exact absurd (leP_anti _ _ h1 ((leP_iff _ _).2 (by have:=(ltP_def _ _).1 (ltP_tri h3 h2);omega))) h2
theorem sw_ext:∀ {a b:List P2},SW a→SW b→(∀x,x∈a↔x∈b)→a=b
 | [],[],_,_,_=>rfl
 | [],y::b,_,_,h=>absurd ((h y).2 (List.mem_cons_self ..)) (by simp)
 |x::a,[],_,_,h=>absurd ((h x).1 (List.mem_cons_self ..)) (by simp)
 |x::a,y::b,ha,hb,h=>by
  obtain⟨h1,h2⟩:=List.pairwise_cons.1 ha
  obtain⟨h3,h4⟩:=List.pairwise_cons.1 hb
  have e:x=y:=by
   rcases List.mem_cons.1 ((h x).1 (List.mem_cons_self ..)) with e |e
   ·exact e
   ·rcases List.mem_cons.1 ((h y).2 (List.mem_cons_self ..)) with e2 |e2
    ·exact e2.symm
    ·have:=ltP_trans (h3 x e) (h1 y e2)
     rw [ltP_irr] at this
     cases this
  subst e
  congr 1
  refine sw_ext h2 h4 fun z=>⟨fun hz=> ?_,fun hz=> ?_⟩
  ·rcases List.mem_cons.1 ((h z).1 (List.mem_cons_of_mem _ hz)) with e |e
   ·subst e
    have:=h1 z hz
    rw [ltP_irr] at this
    cases this
   ·exact e
  ·rcases List.mem_cons.1 ((h z).2 (List.mem_cons_of_mem _ hz)) with e |e
   ·subst e
    have:=h3 z hz
    rw [ltP_irr] at this
    cases this
   ·exact e
def uni (t:List P2):List P2→List P2
 | []=>t
 |p::r=>if p∈t then uni t r else uni (insW p t) r
theorem uni_mem:∀ {l t:List P2}{x:P2},x∈uni t l↔x∈t∨x∈l
 | [],t,x=>by simp [uni]
 |p::r,t,x=>by
  unfold uni
  by_cases h:p∈t
  ·rw [if_pos h,uni_mem,List.mem_cons]
   constructor
   ·rintro(h1 |h1)<;>simp [h1]
   ·rintro(h1 |rfl |h1)<;>simp [*]
  ·rw [if_neg h,uni_mem,(insW_perm p t).mem_iff,List.mem_cons,List.mem_cons]
   constructor
   ·rintro((h1 |h1) |h1)<;>simp [h1]
   ·rintro(h1 |h1 |h1)<;>simp [h1]
theorem insW_sw {p:P2}{t:List P2}(h:SW t) (hp:p ∉ t):SW (insW p t) :=
 pw_sw (insW_pw p t (sw_pw h)) ((insW_perm p t).nodup_iff.2 (List.nodup_cons.2 ⟨hp,sw_nodup h⟩))
theorem uni_sw:∀ {l t:List P2},SW t→SW (uni t l)
 | [],t,h=>h
 |p::r,t,h=>by
  unfold uni
  by_cases hp:p∈t
  ·rw [if_pos hp];exact uni_sw h
  ·rw [if_neg hp];exact uni_sw (insW_sw h hp)
theorem uni_len:∀(l t:List P2),(uni t l).length≤t.length+l.length
 | [],t=>Nat.le_refl _
 |p::r,t=>by
  unfold uni
  split
  ·have:=uni_len r t;simp;omega
  ·have:=uni_len r (insW p t);rw [insW_len] at this;simp;omega
theorem cmpP_sw:∀ {l:List P2},PW l→SW (cmpP l)
 | [],_ => .nil
 | [x],_ => .cons (fun _ h=>by cases h) .nil
 |x::y::r,h=>by
  obtain⟨h1,h2⟩:=List.pairwise_cons.1 h
  unfold cmpP
  split
  ·exact cmpP_sw h2
  ·rename_i hne
   refine List.pairwise_cons.2 ⟨fun z hz=> ?_,cmpP_sw h2⟩
   have hz':=cmpP_mem.1 hz
   have hxy:=h1 y (List.mem_cons_self ..)
   have hyz:leP y z=true:=by
    rcases List.mem_cons.1 hz' with rfl |hz'
    ·exact(leP_iff _ _).2 (.inr ⟨rfl,Nat.le_refl _⟩)
    ·exact(List.pairwise_cons.1 h2).1 z hz'
   cases hc:ltP x z with
   |true=>rfl
   |false =>
    exfalso
    by_cases e:x=z
    ·subst e
     exact hne (leP_anti _ _ hxy hyz)
    ·have h5:=(ltP_def _ _).1 (ltP_tri hc e)
     have h6:=(leP_iff _ _).1 (leP_trans _ _ _ hxy hyz)
     omega
theorem uni_eq {t l:List P2}(h:SW t):cmpP (sorted (t++l))=uni t l:=by
 refine sw_ext (cmpP_sw (sorted_pw _)) (uni_sw h) fun x=> ?_
 rw [cmpP_mem,(sorted_perm _).mem_iff,List.mem_append,uni_mem]
def RP (x:Option (Out×Heap)) (r:List P2×Int):Prop:=∃a,x=some (Out.ret (.tuple [a,vi r.2]),[])∧a.list? 2=some (prs r.1)
noncomputable def addR (t l:List P2):List P2×Int:=if tabR t then(if(uni t l).length≤4096 then(uni t l,0) else([],4)) else([],1)
end
section
theorem goLi {ρ:Type}{W:List (List AV)}{i:Int}{es:List (List AV)}(h:W[i.toNat]?=some [AV.list 0 2 es]) (k:List (List AV)→Option ρ):(W[i.toNat]?.bind fun cs=>(uncons? cs).bind fun p=>(AV.list? 2 p.fst).bind fun es=>(nil? p.snd).bind fun _=>k es)=k es:=by rw [h];rfl
theorem c133 (a b:List P2) (ha:a.length≤200000) (hb:b.length≤200000):E cx (Key.own 133) [.list 0 1 [[.list 0 2 (prs a)],[.list 0 2 (prs b)]]] []=some (Out.ret (.arr 0 2 0 (a.length+b.length)),[⟨.arr,80,2,2,prs (a++b)⟩]):=by
 have s1:∀n:Nat,n≤1000000→∀l:List P2,l.length≤1000000→ω .i64 (Int.add (n:Int) ((prs l).length:Int))=((n+l.length:Nat):Int):=fun n hn l hl=>by
  rw [prs_len]
  exact(wr_add (by omega) (by omega)).trans (by omega)
 have e2:E cx (Key.loop 133 [true,true,false,true,false]) [vi ((a.length+b.length:Nat):Int),vi ((2:Nat):Int),.list 0 1 [[.list 0 2 (prs a)],[.list 0 2 (prs b)]],.list 0 1 [[.list 0 2 (prs a)],[.list 0 2 (prs b)]],vi 2] []=some (Out.jump (.exit 0) [vi ((a.length+b.length:Nat):Int),vi 2],[]) :=
  (f81_c0_l1 _ _ _ _ _).trans (goDn (by decide) _ _)
 have e1:E cx (Key.loop 133 [true,true,false,true,false]) [vi ((a.length:Nat):Int),vi ((1:Nat):Int),.list 0 1 [[.list 0 2 (prs a)],[.list 0 2 (prs b)]],.list 0 1 [[.list 0 2 (prs a)],[.list 0 2 (prs b)]],vi 2] []=some (Out.jump (.exit 0) [vi ((a.length+b.length:Nat):Int),vi 2],[]):=by
  refine(f81_c0_l1 _ _ _ _ _).trans ((goD (by decide) _ _).trans ((goY (by decide) _ _).trans ?_))
  refine(goLi (es:=prs b) rfl _).trans ?_
  rw [s1 _ (by omega) _ (by omega),wS (by omega)]
  exact(goDn (by omega) _ _).trans e2
 have e0:E cx (Key.loop 133 [true,true,false,true,false]) [vi 0,vi ((0:Nat):Int),.list 0 1 [[.list 0 2 (prs a)],[.list 0 2 (prs b)]],.list 0 1 [[.list 0 2 (prs a)],[.list 0 2 (prs b)]],vi 2] []=some (Out.jump (.exit 0) [vi ((a.length+b.length:Nat):Int),vi 2],[]):=by
  refine(f81_c0_l1 _ _ _ _ _).trans ((goD (by decide) _ _).trans ((goY (by decide) _ _).trans ?_))
  refine(goLi (es:=prs a) rfl _).trans ?_
  rw [show(0:Int)=((0:Nat):Int) from rfl,s1 _ (by omega) _ (by omega),wS (by omega),Nat.zero_add]
  exact(goDn (by omega) _ _).trans e1
 have z2:E cx (Key.loop 133 [true,true,true,true,false,true,false]) [.arr 0 2 0 (a.length+b.length),vi ((2:Nat):Int),.list 0 1 [[.list 0 2 (prs a)],[.list 0 2 (prs b)]],vi 2] [⟨.arr,80,2,2,prs (a++b)⟩]=some (Out.jump (.exit 2) [.arr 0 2 0 (a.length+b.length),vi 2],[⟨.arr,80,2,2,prs (a++b)⟩]) :=
  (f81_c0_l2 _ _ _ _ _).trans (goDn (by decide) _ _)
 have z1:E cx (Key.loop 133 [true,true,true,true,false,true,false]) [.arr 0 2 0 a.length,vi ((1:Nat):Int),.list 0 1 [[.list 0 2 (prs a)],[.list 0 2 (prs b)]],vi 2] [⟨.arr,80,2,2,prs a⟩]=some (Out.jump (.exit 2) [.arr 0 2 0 (a.length+b.length),vi 2],[⟨.arr,80,2,2,prs (a++b)⟩]):=by
  refine(f81_c0_l2 _ _ _ _ _).trans ((goD (by decide) _ _).trans ((goY (by decide) _ _).trans ?_))
  refine(goLi (es:=prs b) rfl _).trans ?_
  rw [ysOk_prs]
  refine(goCk (show a.length=(prs a).length from(prs_len a).symm) _).trans ((goY (show Nat.mul (Nat.add (prs a).length (prs b).length) 16≤140737488355328 by rw [prs_len,prs_len];show(a.length+b.length)*16≤_;omega) _ _).trans ?_)
  rw [wS (by omega)]
  show E cx (Key.loop 133 [true,true,true,true,false,true,false]) [.arr 0 2 0 ((prs a).length+(prs b).length),vi ((2:Nat):Int),.list 0 1 [[.list 0 2 (prs a)],[.list 0 2 (prs b)]],vi 2] [⟨.arr,80,2,2,prs a++prs b⟩]=_
  rw [prs_len,prs_len,prs_app']
  exact z2
 have z0:E cx (Key.loop 133 [true,true,true,true,false,true,false]) [.arr 0 2 0 0,vi ((0:Nat):Int),.list 0 1 [[.list 0 2 (prs a)],[.list 0 2 (prs b)]],vi 2] [⟨.arr,80,2,2,[]⟩]=some (Out.jump (.exit 2) [.arr 0 2 0 (a.length+b.length),vi 2],[⟨.arr,80,2,2,prs (a++b)⟩]):=by
  refine(f81_c0_l2 _ _ _ _ _).trans ((goD (by decide) _ _).trans ((goY (by decide) _ _).trans ?_))
  refine(goLi (es:=prs a) rfl _).trans ?_
  rw [ysOk_prs]
  refine(goCk (show 0=([]:List (List AV)).length from rfl) _).trans ((goY (show Nat.mul (Nat.add ([]:List (List AV)).length (prs a).length) 16≤140737488355328 by rw [prs_len];show(0+a.length)*16≤_;omega) _ _).trans ?_)
  rw [wS (by omega)]
  show E cx (Key.loop 133 [true,true,true,true,false,true,false]) [.arr 0 2 0 (0+(prs a).length),vi ((1:Nat):Int),.list 0 1 [[.list 0 2 (prs a)],[.list 0 2 (prs b)]],vi 2] [⟨.arr,80,2,2,prs a⟩]=_
  rw [prs_len,Nat.zero_add]
  exact z1
 refine(f81_c0 _).trans ?_
 show(Ω (E cx (Key.loop 133 [true,true,false,true,false]) [vi 0,vi ((0:Nat):Int),.list 0 1 [[.list 0 2 (prs a)],[.list 0 2 (prs b)]],.list 0 1 [[.list 0 2 (prs a)],[.list 0 2 (prs b)]],vi 2] []) _)=_
 rw [e0]
 show(Ω (growP [.val (.slice none 0 0),vi ((a.length+b.length:Nat):Int)]) _)=_
 have hg:growP [.val (.slice none 0 0),vi ((a.length+b.length:Nat):Int)]=some []:=by
  show(if(0:Int)≤((a.length+b.length:Nat):Int) then(if((a.length+b.length:Nat):Int)≤1000000000000 then some [] else none) else none)=_
  rw [if_pos (by omega),if_pos (by omega)]
 rw [hg]
 show(Ω (E cx (Key.loop 133 [true,true,true,true,false,true,false]) [.arr 0 2 0 0,vi ((0:Nat):Int),.list 0 1 [[.list 0 2 (prs a)],[.list 0 2 (prs b)]],vi 2] [⟨.arr,80,2,2,[]⟩]) _)=_
 rw [z0]
 rfl
theorem sortPo_prs (l:List P2):sortPP [.func (Fn.func 134) [] []] (prs l)=some (prs (sorted l)):=by
 have h1:sortP [.func (Fn.func 134) [] []] (prs l)=none:=by rfl
 unfold sortPP
 rw [h1]
 have h:=sortP_prs l
 unfold sortP sortZ at h
 unfold sortPo sortZ
 exact h
theorem goA2p {ρ:Type}{x:Option (Out×Heap)}{n:Nat}{R:List (List AV)}(h:x=some (Out.ret (.arr 0 2 0 n),[⟨.arr,80,2,2,R⟩])) (k:Nat×Nat×Nat→Ob×List Ob→Option ρ):(x.bind fun r=>(asRet r).bind fun q=>(AV.arr? 0 q.fst).bind fun z=>(chk z.fst 2).bind fun _=>(uncons? q.snd).bind fun p=>(obIs (Ob.mk OK.arr 80 2 2 []) p.fst).bind fun _=>(chk p.fst.ver 2).bind fun _=>(nil? p.snd).bind fun _=>k z p)=k (2,0,n) (⟨.arr,80,2,2,R⟩,[]):=by rw [h];rfl
theorem c81 (t l:List P2) (ht:t.length≤100000) (hl:l.length≤100000):RP (E cx (Key.fn 81) [.list 0 2 (prs t),.list 0 2 (prs l)] []) (addR t l):=by
 have st:=f81 (prs t) (prs l)
 unfold addR
 cases h:tabR t with
 |false=>exact⟨_,st.trans (goF ((c83 t (by omega)).trans (by rw [h])) _ _),rfl⟩
 |true =>
  have hsw:=((tabR_iff t).1 h).1
  have hu:=uni_eq (l:=l) hsw
  have st:=st.trans ((goT ((c83 t (by omega)).trans (by rw [h])) _ _).trans (goA2p (c133 t l (by omega) (by omega)) _))
  dsimp only at st
  have hln:(prs (t++l)).length=t.length+l.length:=by rw [prs_len,List.length_append]
  have e0:Nat.add 0 (t.length+l.length)=t.length+l.length:=Nat.zero_add _
  rw [e0,List.take_of_length_le (by omega),List.drop_zero] at st
  have st:=st.trans ((goLe (show t.length+l.length≤(prs (t++l)).length by omega) _).trans ((goY (show t.length+l.length≤4611686018427387903 by omega) _ _).trans (show Ω (sortPP [.func (Fn.func 134) [] []] (prs (t++l))) _=_ by rw [sortPo_prs])))
  have e1:List.take 0 (prs (t++l))++prs (sorted (t++l))++List.drop (t.length+l.length) (prs (t++l))=prs (sorted (t++l)):=by
   rw [List.drop_of_length_le (by omega)]
   simp
  rw [χ,e1] at st
  have hsl:(sorted (t++l)).length=t.length+l.length:=by rw [(sorted_perm _).length_eq,List.length_append]
  obtain⟨es,q1,q2,q3⟩:=c135 (sorted (t++l)) (by omega)
  rw [hsl,hu] at q3
  rw [hu] at q1
  have st:=st.trans (goA2p q3 _)
  dsimp only at st
  have hcl:=cmpP_le (sorted (t++l))
  rw [hu] at hcl
  simp only [if_true]
  by_cases h5:(uni t l).length≤4096
  ·rw [if_pos h5]
   have e2:Nat.add 0 (uni t l).length=(uni t l).length:=Nat.zero_add _
   have st:=st.trans ((goDn (show ¬((uni t l).length:Int)>4096 by omega) _ _).trans (goLe (show Nat.add 0 (uni t l).length≤es.length by rw [e2];omega) _))
   rw [e2,q1] at st
   exact⟨_,st,rfl⟩
  ·rw [if_neg h5]
   exact⟨_,st.trans (goD (show((uni t l).length:Int)>4096 by omega) _ _),rfl⟩
end
section
theorem addR_ok {t l:List P2}(h:SW t) (hl:t.length+l.length≤4096):addR t l=(uni t l,0):=by
 have h1:=uni_len l t
 unfold addR
 rw [if_pos ((tabR_iff t).2 ⟨h,by omega⟩),if_pos (by omega)]
theorem goRP {ρ:Type}{x:Option (Out×Heap)}{r:List P2×Int}(h:RP x r) (k:List (List AV)→Int→Option ρ):(x.bind fun r=>(ret1 r).bind fun v=>(AV.tup? v).bind fun vs=>(uncons? vs).bind fun p=>(AV.list? 2 p.fst).bind fun es=>(uncons? p.snd).bind fun q=>(AV.int? .i64 q.fst).bind fun n=>(nil? q.snd).bind fun _=>k es n)=k (prs r.1) r.2:=by
 obtain⟨a,h1,h2⟩:=h
 rw [h1]
 show(Ω (AV.list? 2 a) _)=_
 rw [h2]
 rfl
def sgL (r:Nat):List Nat→List P2→List P2
 | [],o=>o
 |k::ks,o=>sgL r ks (insW (k,r) o)
def sgn (r:Nat) (ks:List Nat):List P2:=sorted (ks.map fun k=>(k,r))
theorem sgL_spec (r:Nat):∀(ks:List Nat) (o:List P2),PW o→PW (sgL r ks o)∧(sgL r ks o).Perm (o++ks.map fun k=>(k,r))
 | [],o,h=>⟨h,by simp [sgL]⟩
 |k::ks,o,h=>by
  obtain⟨h1,h2⟩:=sgL_spec r ks (insW (k,r) o) (insW_pw _ _ h)
  refine⟨h1,h2.trans ?_⟩
  refine((insW_perm (k,r) o).append_right _).trans ?_
  simp only [List.map_cons,List.cons_append]
  exact List.perm_middle.symm
theorem sgL_eq (r:Nat) (ks:List Nat):sgL r ks []=sgn r ks:=by
 obtain⟨h1,h2⟩:=sgL_spec r ks [] .nil
 exact pw_uniq h1 (sorted_pw _) (h2.trans (sorted_perm _).symm)
theorem sgn_len (r:Nat) (ks:List Nat):(sgn r ks).length=ks.length:=by unfold sgn;rw [(sorted_perm _).length_eq,List.length_map]
noncomputable def sigR (r:Nat) (ks:List Nat):Bool×List P2×Int:=if ks.length≤2048 then(false,sgn r ks,0) else(false,[],4)
theorem goRn' {ρ:Type}{l:List Nat}{i:Int}{n:Nat}{w:Nat}(hn:i=n) (h:l[n]?=some w) (k:Int→Option ρ):((rowsN l)[τ i]?.bind fun cs=>(uncons? cs).bind fun p1=>(AV.int? .u64 p1.fst).bind fun a=>(nil? p1.snd).bind fun _=>k a)=k w:=by
 subst hn
 have:(rowsN l)[n]?=some [vu w]:=by simp [rowsN,h]
 rw [Int.toNat_natCast,this]
 rfl
end
section
theorem ysOk_rowsN (l:List Nat):ysOk (rowsN l)=true:=by
 unfold ysOk
 rw [List.all_eq_true]
 intro e he
 obtain⟨p,_,rfl⟩:=List.mem_map.1 he
 rfl
def srtN (l:List Nat):List Nat:=l.mergeSort fun x y=>decide (x≤y)
theorem c141 (ks:List Nat) (hl:ks.length≤49):E cx (Key.fn 141) [.func (Fn.func 162) [] [.rop [.list 0 1 (rowsN ks)]]] []=some (Out.ret (.list 0 1 (rowsN (srtN ks))),[]):=by
 have st:=f93_c0 (rowsN ks)
 have hc:collP 162 [.func (Fn.func 162) [] [.rop [.list 0 1 (rowsN ks)]]]=some (rowsN ks):=by
  show(if(rowsN ks).length≤1000000000000 then cond ((rowsN ks).all isU1) (some (rowsN ks)) none else none)=_
  rw [if_pos (by rw [rowsN_len];omega),show(rowsN ks).all isU1=true from List.all_eq_true.2 fun e he=>by
   obtain⟨k,_,rfl⟩:=List.mem_map.1 he
   rfl]
  rfl
 rw [hc,χ,ysOk_rowsN,cond_true,rowsN_len] at st
 have st:=st.trans (goY (show Nat.mul (Nat.add 0 ks.length) 8≤140737488355328 by show(0+ks.length)*8≤_;omega) _ _)
 obtain⟨d',h1,h2⟩:=c161 (d:=ks.toArray) (by simpa using hl)
 have e1:E cx (Key.own 161) [.arr 0 1 0 (Nat.add 0 ks.length)] [⟨.arr,26,1,1,[]++rowsN ks⟩]=OR d':=by
  rw [show Nat.add 0 ks.length=ks.length from Nat.zero_add _]
  have:E cx (.own 161) [AR ks.toArray.size] (HA ks.toArray)=_:=h1
  simpa using this
 have st:=st.trans (goO e1 _)
 have hd:d'.toList=srtN ks:=by rw [h2];rfl
 have hdl:(rw' d').length=ks.length:=by
  show(d'.toList.map _).length=_
  rw [List.length_map,hd]
  exact(List.mergeSort_perm _ _).length_eq
 dsimp only at st
 rw [show Nat.add 0 (Nat.add 0 ks.length)=ks.length by show 0+(0+ks.length)=_;omega] at st
 have st:=st.trans (goLe (show ks.length≤(rw' d').length by omega) _)
 rw [List.take_of_length_le (by omega),List.drop_zero] at st
 rw [st]
 show some (Out.ret (.list 0 1 (d'.toList.map _)),[])=_
 rw [hd]
theorem loop93 (r:Nat) (ks:List Nat) (b:Bool) (hl:ks.length≤2048):∀(rest:List Nat) (i:Nat) (o:List P2),ks.drop i=rest→i+rest.length=ks.length→o.length=i→∃y,E cx (.loop 93 [true,true,false,true,false]) [vi i,vu r,.ptr 0 0 0 0,.list 0 1 (rowsN ks),vi ks.length] [⟨.box,36,2,0,[[vbool b,.arr 1 2 0 o.length]]⟩,⟨.arr,80,2,2,prs o⟩]=some (Out.jump (.exit 0) [vi y],[⟨.box,36,2,0,[[vbool b,.arr 1 2 0 (o++rest.map fun k=>(k,r)).length]]⟩,⟨.arr,80,2,2,prs (o++rest.map fun k=>(k,r))⟩]):=by
 intro rest
 induction rest with
 |nil =>
  intro i o hd hi ho
  refine⟨i,(f93_l1 _ _ _ _ _ _ _).trans ((goDn (by simp at hi;omega) _ _).trans ?_)⟩
  simp
 |cons k r' ih =>
  intro i o hd hi ho
  obtain⟨g,hd2,hlt⟩:=drop_cons' hd
  simp only [List.length_cons] at hi
  obtain⟨y,hy⟩:=ih (i+1) (o++[(k,r)]) hd2 (by omega) (by simp;omega)
  refine⟨y,(f93_l1 _ _ _ _ _ _ _).trans ((goD (show(i:Int)<(ks.length:Int) by omega) _ _).trans ((goY (show(0:Int)≤(i:Int) by omega) _ _).trans ((goRn' (n:=i) rfl g _).trans ((goCk (show o.length=(prs o).length from(prs_len o).symm) _).trans ((goY (show Nat.mul (Nat.add (prs o).length 1) 16≤140737488355328 by rw [prs_len];show(o.length+1)*16≤_;omega) _ _).trans ?_)))))⟩
  rw [wS (by omega)]
  show E cx (.loop 93 [true,true,false,true,false]) [vi ((i+1:Nat):Int),vu r,.ptr 0 0 0 0,.list 0 1 (rowsN ks),vi ks.length] [⟨.box,36,2,0,[[vbool b,.arr 1 2 0 ((prs o).length+1)]]⟩,⟨.arr,80,2,2,prs o++prs [(k,r)]⟩]=_
  rw [prs_app',prs_len,show o.length+1=(o++[(k,r)]).length by simp,hy]
  simp
theorem srtN_map (r:Nat) (ks:List Nat):(srtN ks).map (fun k=>(k,r))=sgn r ks:=by
 refine pw_uniq ?_ (sorted_pw _) (((List.mergeSort_perm _ _).map _).trans (sorted_perm _).symm)
 have h:=List.pairwise_mergeSort (le:=fun x y:Nat=>decide (x≤y)) (fun a b c h1 h2=>by simp at *;omega) (fun a b=>by simp;omega) ks
 refine List.pairwise_map.2 (h.imp fun {a b} h=>(leP_iff _ _).2 ?_)
 simp at h ⊢
 omega
theorem c93 (r:Nat) (ks:List Nat) (hl:ks.length≤49):RTok' (E cx (Key.fn 93) [vu r,.list 0 1 (rowsN ks)] []) (sigR r ks):=by
 have st:=f93 (r:Int) (rowsN ks)
 rw [rowsN_len] at st
 have hsl:(srtN ks).length=ks.length:=(List.mergeSort_perm _ _).length_eq
 obtain⟨y,hy⟩:=loop93 r (srtN ks) false (by omega) (srtN ks) 0 [] rfl (by omega) rfl
 have goN1:∀ {ρ:Type}{x:Option (Out×Heap)}{es:List (List AV)}(h:x=some (Out.ret (.list 0 1 es),[])) (k:List (List AV)→Option ρ),(x.bind fun r=>(ret1 r).bind fun v=>(AV.list? 1 v).bind fun es=>k es)=k es:=fun h k=>by rw [h];rfl
 have st:=st.trans ((goDn (show ¬(ks.length:Int)>2048 by omega) _ _).trans (goN1 (c141 ks hl) _))
 rw [rowsN_len] at st
 have hy':E cx (.loop 93 [true,true,false,true,false]) [vi 0,vu r,.ptr 0 0 0 0,.list 0 1 (rowsN (srtN ks)),vi (srtN ks).length] [⟨.box,36,2,0,[[vbool false,.arr 1 2 0 0]]⟩,⟨.arr,80,2,2,[]⟩]=_:=hy
 rw [hy'] at st
 unfold sigR
 rw [if_pos (by omega)]
 rw [List.nil_append,srtN_map] at st
 have st:=st.trans (goLe (show Nat.add 0 (sgn r ks).length≤(prs (sgn r ks)).length by rw [prs_len];exact Nat.le_of_eq (Nat.zero_add _)) _)
 refine⟨_,st,?_⟩
 show some (List.drop 0 (List.take (Nat.add 0 (sgn r ks).length) (prs (sgn r ks))))=_
 rw [view0]
theorem callI_of {f:Nat}{args:List AV}{n:Int}(h:E cx (.fn f) args []=some (Out.ret (vi n),[])):callI (E cx) f args=some n:=by unfold callI;rw [h];rfl
theorem callB_of {f:Nat}{args:List AV}{b:Bool}(h:E cx (.fn f) args []=rb b):callB (E cx) f args=some b:=by unfold callB;rw [h];rfl
theorem hasL_of (t:List P2) (p:P2) (hs:SW t):∀(n i j:Nat),j-i<n→i≤j→j≤t.length→(∀k (h:k<t.length),t[k]=p→i≤k∧k<j)→hasL 134 (prs t) (.agg [vu p.1,vu p.2]) n i j (E cx)=some (vbool (decide (p∈t))):=by
 intro n
 induction n with
 |zero=>intro i j h;omega
 |succ n ih =>
  intro i j hn hij hj hp
  unfold hasL
  by_cases h0:i=j
  ·rw [if_pos h0,decide_eq_false fun hm=>by
    obtain⟨k,hk,e⟩:=List.mem_iff_getElem.1 hm
    have:=hp k hk e
    omega]
  ·rw [if_neg h0]
   have hm:(i+j)/2<t.length:=by omega
   rw [prs_get (η hm),χ,show encP t[(i+j)/2]=[vu (t[(i+j)/2].1:Int),vu (t[(i+j)/2].2:Int)] from rfl,show asU2 [vu (t[(i+j)/2].1:Int),vu (t[(i+j)/2].2:Int)]=some () from rfl,χ,callI_of (c134 _ _),χ]
   cases hlt:ltP t[(i+j)/2] p with
   |true =>
    rw [if_pos ((ordI_neg _ _).2 hlt)]
    refine ih _ _ (by omega) (by omega) hj fun k hk e=>⟨?_,(hp k hk e).2⟩
    by_cases hk2:(i+j)/2<k
    ·omega
    ·exfalso
     by_cases e2:k=(i+j)/2
     ·subst e2;rw [e,ltP_irr] at hlt;cases hlt
     ·have:=List.pairwise_iff_getElem.1 hs k ((i+j)/2) hk hm (by omega)
      rw [e] at this
      have:=ltP_trans this hlt
      rw [ltP_irr] at this;cases this
   |false =>
    have hge:=(ordI_ge _ _).2 hlt
    rw [if_neg (by omega)]
    by_cases e:t[(i+j)/2]=p
    ·rw [if_neg (by unfold ordI;rw [if_pos e];omega),decide_eq_true (e▸List.getElem_mem hm)]
    ·have hgt:=ltP_tri hlt e
     rw [if_pos (by unfold ordI;rw [if_neg e,if_neg (by rw [hlt];simp)];omega)]
     refine ih _ _ (by omega) (by omega) (by omega) fun k hk e3=>⟨(hp k hk e3).1,?_⟩
     by_cases hk2:k<(i+j)/2
     ·exact hk2
     ·exfalso
      by_cases e2:k=(i+j)/2
      ·subst e2;exact e e3
      ·have:=List.pairwise_iff_getElem.1 hs ((i+j)/2) k hm hk (by omega)
       rw [e3] at this
       rw [hlt] at this;cases this
theorem c138 (t:List P2) (p:P2) (hs:SW t) (ht:t.length≤4000000):E cx (Key.fn 138) [.list 0 2 (prs t),.agg [vu p.1,vu p.2]] []=rb (decide (p∈t)):=by
 rw [E_unfold]
 have h:hasG 134 (E cx) [.list 0 2 (prs t),.agg [vu p.1,vu p.2]]=some (vbool (decide (p∈t))):=by
  show(if(prs t).length≤4000000 then _ else none)=_
  rw [if_pos (by rw [prs_len];exact ht),prs_len]
  exact hasL_of t p hs _ 0 t.length (by omega) (by omega) (Nat.le_refl _) fun k hk _=>⟨Nat.zero_le _,hk⟩
 show((hasG 134 (E cx) [.list 0 2 (prs t),.agg [vu p.1,vu p.2]]).bind fun v=>some (Out.ret v,([]:Heap)))=_
 rw [h]
 rfl
theorem c85 (t:List P2) (p:P2) (ht:t.length≤4000000):E cx (Key.fn 85) [.list 0 2 (prs t),.agg [vu p.1,vu p.2]] []=rb (tabR t&&decide (p∈t)):=by
 refine(f85 _ _ _).trans ?_
 cases h:tabR t with
 |false=>exact goF ((c83 t ht).trans (by rw [h])) _ _
 |true =>
  refine(goT ((c83 t ht).trans (by rw [h])) _ _).trans ?_
  have c:=c138 t p ((tabR_iff t).1 h).1 ht
  rw [c]
  cases decide (p∈t)<;>rfl
theorem c87 (a b:List P2) (ha:a.length≤4000000):E cx (Key.fn 87) [.list 0 2 (prs a),.list 0 2 (prs b)] []=rb (decide (a=b)):=by
 refine(f87 _ _).trans ?_
 rw [c47 false false a b ha]
 cases h:decide (a=b)<;>simp at h<;>simp [h,ret1,AV.bool?]
end
section
theorem goTok {ρ:Type}{x:Option (Out×Heap)}{f:Bool}{l:List P2}{e:Int}(h:RTok x f l e) (k:Bool→List (List AV)→Int→Option ρ):(x.bind fun r=>(ret1 r).bind fun v=>v.tup?.bind fun vs=>(uncons? vs).bind fun p1=>(AV.cells? p1.fst).bind fun cs=>(uncons? cs).bind fun p2=>(AV.bool? p2.fst).bind fun b=>(uncons? p2.snd).bind fun p3=>(AV.list? 2 p3.fst).bind fun l=>(nil? p3.snd).bind fun _=>(uncons? p1.snd).bind fun p4=>(AV.int? .i64 p4.fst).bind fun e=>(nil? p4.snd).bind fun _=>k b l e)=k f (prs l) e:=by
 obtain⟨a,rfl,ha⟩:=h
 show(Ω (AV.list? 2 a) fun l=>k f l e)=_
 rw [ha]
 rfl
noncomputable def ckR (t:List P2) (ks:List Nat) (r:Nat) (f:Bool) (l:List P2):Bool:=tabR t&&decide (f=false∧ks≠[]∧ks.Nodup∧ks.length≤2048∧l=sgn r ks∧∀p∈l,p∈t)
theorem ckR_iff {t:List P2}{ks:List Nat}{r:Nat}{f:Bool}{l:List P2}:ckR t ks r f l=true↔tabR t=true∧f=false∧ks≠[]∧ks.Nodup∧ks.length≤2048∧l=sgn r ks∧∀p∈l,p∈t:=by
 unfold ckR
 rw [Bool.and_eq_true,decide_eq_true_eq]
abbrev itC (ks:List Nat) (r:Nat) (f:Bool) (l:List P2):List AV:=[.list 0 1 (rowsN ks),vu r,vbool f,.list 0 2 (prs l)]
end
section
abbrev U8 (n:Nat):Prop:=n<18446744073709551616
theorem keysU_rows:∀(ks:List Nat),(∀k∈ks,U8 k)→keysU (rowsN ks)=some (ks.map fun(k:Nat)=>(k:Int))
 | [],_=>rfl
 |k::r,h=>by
  have ih:=keysU_rows r fun x hx=>h x (List.mem_cons_of_mem _ hx)
  have hk:U8 k:=h k (List.mem_cons_self ..)
  unfold U8 at hk
  show(if(0:Int)≤(k:Int)∧(k:Int)<18446744073709551616 then(keysU (rowsN r)).bind fun l=>some ((k:Int)::l) else none)=_
  rw [if_pos (by omega),ih]
  rfl
theorem many_le:∀l:List Int,many l≤l.length
 | []=>Nat.le_refl _
 |k::r=>by
  have:=many_le r
  unfold many
  split<;>simp<;>omega
theorem many_nodup:∀l:List Int,many l=l.length↔l.Nodup
 | []=>by simp [many]
 |k::r=>by
  have h1:=many_le r
  have ih:=many_nodup r
  unfold many
  rw [List.nodup_cons]
  by_cases h:k∈r
  ·rw [if_pos (by simpa using h)]
   simp [h]
   omega
  ·rw [if_neg (by simpa using h)]
   simp [h,ih]
theorem nodup_cast (ks:List Nat):(ks.map fun(k:Nat)=>(k:Int)).Nodup↔ks.Nodup:=by
 show List.Pairwise _ _↔List.Pairwise _ _
 rw [List.pairwise_map]
 constructor<;>intro h<;>exact h.imp fun {a b} h=>by omega
theorem allL_of (t:List P2) (ks:List Nat) (ht:t.length≤4000000) (hs:SW t):∀(l:List P2),(∀p∈l,U8 p.1) →
  allL 138 (prs t) (ks.map fun(k:Nat)=>(k:Int)) (prs l) (E cx)=some (vbool (decide (∀p∈l,p.1∈ks∧p∈t)))
 | [],_=>by simp [allL]
 |p::r,h=>by
  have ih:=allL_of t ks ht hs r fun x hx=>h x (List.mem_cons_of_mem _ hx)
  have hk:U8 p.1:=h p (List.mem_cons_self ..)
  unfold U8 at hk
  show(if(0:Int)≤(p.1:Int)∧(p.1:Int)<18446744073709551616 then cond ((ks.map fun(k:Nat)=>(k:Int)).contains (p.1:Int)) ((callB (E cx) 138 [.list 0 2 (prs t),.agg [vu p.1,vu p.2]]).bind fun h=>cond h (allL 138 (prs t) (ks.map fun(k:Nat)=>(k:Int)) (prs r) (E cx)) (some (vbool false))) (some (vbool false)) else none)=_
  rw [if_pos (by omega),callB_of (c138 t p hs ht),χ]
  have hc:(ks.map fun(k:Nat)=>(k:Int)).contains (p.1:Int)=decide (p.1∈ks):=by
   rw [List.contains_eq_mem]
   congr 1
   rw [List.mem_map]
   apply propext
   constructor
   ·rintro⟨a,h1,h2⟩
    rw [show p.1=a by omega]
    exact h1
   ·exact fun h=>⟨_,h,rfl⟩
  rw [hc,ih]
  by_cases h1:p.1∈ks
  ·by_cases h2:p∈t
   ·simp [h1,h2]
   ·simp [h1,h2]
  ·simp [h1]
theorem keysGo_sw (r:Nat):∀(l:List P2) (pv:Option P2),keysGo r pv l=true→PW l→(∀p∈l,p.2=r)∧SW l∧∀q p s,pv=some q→l=p::s→q≠p
 | [],pv,_,_=>⟨by simp,.nil,fun _ _ _ _ h=>by cases h⟩
 |p::s,pv,h,hp=>by
  unfold keysGo at h
  simp only [Bool.and_eq_true,decide_eq_true_eq,Bool.not_eq_true',decide_eq_false_iff_not] at h
  obtain⟨h1,h2,h3⟩:=h
  obtain⟨p1,p2⟩:=List.pairwise_cons.1 hp
  obtain⟨g1,g2,g3⟩:=keysGo_sw r s (some p) h3 p2
  refine⟨fun q hq=>(List.mem_cons.1 hq).elim (fun e=>e▸h1) (g1 q),List.pairwise_cons.2 ⟨fun q hq=> ?_,g2⟩,fun q p' s' hpv he=>by cases he;exact fun e=>h2 (e▸hpv)⟩
  match s,hq,g2,g3,p1 with
  |a::s',hq,g2,g3,p1 =>
   have hpa:ltP p a=true:=by
    cases hc:ltP p a with
    |true=>rfl
    |false =>
     have h5:=(ltP_def _ _).1 (ltP_tri hc (g3 p a s' rfl rfl))
     have h6:=(leP_iff _ _).1 (p1 a (List.mem_cons_self ..))
     omega
   rcases List.mem_cons.1 hq with rfl |hq
   ·exact hpa
   ·exact ltP_trans hpa ((List.pairwise_cons.1 g2).1 q hq)
theorem sw_keysGo (r:Nat):∀(l:List P2) (pv:Option P2),SW l→(∀p∈l,p.2=r)→(∀q p s,pv=some q→l=p::s→q≠p)→keysGo r pv l=true
 | [],pv,_,_,_=>rfl
 |p::s,pv,hs,h1,h2=>by
  obtain⟨p1,p2⟩:=List.pairwise_cons.1 hs
  have ih:=sw_keysGo r s (some p) p2 (fun q hq=>h1 q (List.mem_cons_of_mem _ hq)) fun q a s' e1 e2=>by
   cases e1
   subst e2
   intro e
   have:=p1 a (List.mem_cons_self ..)
   rw [e,ltP_irr] at this
   cases this
  unfold keysGo
  simp only [Bool.and_eq_true,decide_eq_true_eq,Bool.not_eq_true',decide_eq_false_iff_not]
  exact⟨h1 p (List.mem_cons_self ..),fun e=>h2 p p s e rfl rfl,ih⟩
theorem keysR_iff (l:List P2) (r:Nat):(rightT l&&keysGo r none l)=true↔SW l∧l.length≤2048∧∀p∈l,p.2=r:=by
 rw [Bool.and_eq_true]
 constructor
 ·rintro⟨h1,h2⟩
  obtain⟨g1,g2,_⟩:=keysGo_sw r l none h2 (rightT_pw h1)
  exact⟨g2,rightT_len h1,g1⟩
 ·rintro⟨h1,h2,h3⟩
  exact⟨rightT_of h2 (sw_pw h1),sw_keysGo r l none h1 h3 fun _ _ _ h=>by cases h⟩
theorem keysL_nodup {l:List P2}{r:Nat}(h1:SW l) (h3:∀p∈l,p.2=r):(keysL l).Nodup:=by
 show List.Pairwise _ _
 unfold keysL
 rw [List.pairwise_map]
 refine List.Pairwise.imp_of_mem (fun {a b} ha hb h=> ?_) h1
 have:=(ltP_def _ _).1 h
 have e1:=h3 a ha
 have e2:=h3 b hb
 omega
theorem keysL_back {l:List P2}{r:Nat}(h3:∀p∈l,p.2=r):(keysL l).map (fun k=>(k,r))=l:=by
 unfold keysL
 rw [List.map_map]
 conv=>rhs;rw [←List.map_id l]
 exact List.map_congr_left fun p hp=>Prod.ext rfl (h3 p hp).symm
theorem perm_of_sub:∀ {a b:List Nat},a.Nodup→(∀x∈a,x∈b)→b.length≤a.length→a.Perm b
 | [],b,_,_,hl=>by
  have:b=[]:=List.length_eq_zero_iff.1 (by simpa using hl)
  rw [this]
 |x::a,b,hn,hs,hl=>by
  obtain⟨n1,n2⟩:=List.nodup_cons.1 hn
  have hx:=hs x (List.mem_cons_self ..)
  have ih:=perm_of_sub (a:=a) (b:=b.erase x) n2 (fun y hy=>(List.mem_erase_of_ne (fun(e:y=x)=>n1 (by rw [←e];exact hy))).2 (hs y (List.mem_cons_of_mem _ hy))) (by
   rw [List.length_erase_of_mem hx]
   simp at hl
   omega)
  exact(ih.cons x).trans (List.perm_cons_erase hx).symm
theorem sgn_congr {r:Nat}{a b:List Nat}(h:a.Perm b):sgn r a=sgn r b:=sorted_congr (h.map _)
theorem sgn_mem {r:Nat}{ks:List Nat}{p:P2}:p∈sgn r ks↔p.1∈ks∧p.2=r:=by
 unfold sgn
 rw [(sorted_perm _).mem_iff,List.mem_map]
 constructor
 ·rintro⟨k,h,rfl⟩;exact⟨h,rfl⟩
 ·rintro⟨h,rfl⟩;exact⟨_,h,rfl⟩
theorem sgn_sw {r:Nat}{ks:List Nat}(h:ks.Nodup):SW (sgn r ks):=by
 refine pw_sw (sorted_pw _) ((sorted_perm _).nodup_iff.2 ?_)
 show List.Pairwise _ _
 rw [List.pairwise_map]
 exact h.imp fun {a b} h e=>h (congrArg Prod.fst e)
theorem sgn_keys (r:Nat) (ks:List Nat):(keysL (sgn r ks)).Perm ks:=by
 have h:=(sorted_perm (ks.map fun k=>(k,r))).map (fun p:P2=>p.1)
 rw [List.map_map] at h
 refine h.trans ?_
 rw [show(fun p:P2=>p.1) ∘ (fun k=>(k,r))=id from rfl,List.map_id]
theorem sgn_self {l:List P2}{r:Nat}(h1:SW l) (h3:∀p∈l,p.2=r):sgn r (keysL l)=l:=by
 unfold sgn
 rw [keysL_back h3]
 exact sorted_of (sw_pw h1)
theorem c89 (t:List P2) (ks:List Nat) (r:Nat) (f:Bool) (l:List P2) (ht:t.length≤4000000) (hk:ks.length≤1000000) (hl:l.length≤4000000) (hu:∀k∈ks,U8 k) (hlu:∀p∈l,U8 p.1):E cx (Key.fn 89) [.list 0 2 (prs t),.agg (itC ks r f l)] []=rb (ckR t ks r f l):=by
 rw [E_unfold]
 obtain⟨a,k1,k2⟩:=c42 f l r hl
 have hkc:keysC (E cx) 42 [.agg [vbool f,.list 0 2 (prs l)],vu r]=some (rowsN (keysR l r).1,(keysR l r).2):=by
  unfold keysC
  rw [k1]
  show(match AV.tuple [a,.val (.bool (keysR l r).2)] with
   | .tuple [a,.val (.bool b)]=>(a.list? 1).bind fun es=>some (es,b)
   | _=>none)=_
  show((a.list? 1).bind fun es=>some (es,(keysR l r).2))=_
  rw [k2]
  rfl
 have h:checkG 42 83 138 (E cx) [.list 0 2 (prs t),.agg (itC ks r f l)]=some (vbool (ckR t ks r f l)):=by
  show((keysC (E cx) 42 [.agg [vbool f,.list 0 2 (prs l)],vu r]).bind fun q=>(keysU (rowsN ks)).bind fun kl=>if(rowsN ks).length≤1000000∧(prs t).length≤4000000∧(prs l).length≤4000000 then
   (cond (!q.2||(f||(decide ((rowsN ks).length=0)||decide (q.1.length≠(rowsN ks).length)))) (some (vbool false)) ((callB (E cx) 83 [.list 0 2 (prs t)]).bind fun rt =>
    cond (!rt||decide (many kl≠q.1.length)) (some (vbool false)) (allL 138 (prs t) kl (prs l) (E cx)))) else none)=_
  rw [hkc,χ,keysU_rows ks hu,χ,if_pos (by rw [rowsN_len,prs_len,prs_len];omega),callB_of (c83 t ht),χ]
  simp only [rowsN_len]
  unfold keysR
  cases hkr:(rightT l&&keysGo r none l) with
  |false =>
   have hck:ckR t ks r f l=false:=by
    rw [←Bool.not_eq_true,ckR_iff]
    rintro⟨g1,g2,g3,g4,g5,g6,g7⟩
    have:=(keysR_iff l r).2 ⟨g6▸sgn_sw g4,by rw [g6,sgn_len];exact g5,fun p hp=>(sgn_mem.1 (g6▸hp)).2⟩
    rw [hkr] at this
    cases this
   rw [hck]
   rfl
  |true =>
   obtain⟨w1,w2,w3⟩:=(keysR_iff l r).1 hkr
   simp only [if_true]
   have hkl:(keysL l).length=l.length:=List.length_map ..
   rw [hkl]
   by_cases c1:f=false∧ks≠[]∧l.length=ks.length
   ·obtain⟨c1,c2,c3⟩:=c1
    have hpos:0<ks.length:=List.length_pos_iff.2 c2
    rw [c1,decide_eq_false (show ¬ks.length=0 by omega),decide_eq_false (show ¬l.length≠ks.length from fun h=>h c3)]
    simp only [Bool.not_true,Bool.false_or,cond_false]
    by_cases c4:tabR t=true∧ks.Nodup
    ·rw [c4.1,decide_eq_false (fun h:many (ks.map fun(k:Nat)=>(k:Int))≠l.length=>h (by rw [(many_nodup _).2 ((nodup_cast ks).2 c4.2),List.length_map];omega))]
     simp only [Bool.not_true,Bool.false_or,cond_false]
     rw [allL_of t ks ht ((tabR_iff t).1 c4.1).1 l hlu]
     congr 2
     rw [←c1]
     by_cases c5:∀p∈l,p.1∈ks∧p∈t
     ·rw [decide_eq_true c5]
      symm
      rw [c1,ckR_iff]
      refine⟨c4.1,rfl,c2,c4.2,by omega,?_,fun p hp=>(c5 p hp).2⟩
      have hp:(keysL l).Perm ks:=perm_of_sub (keysL_nodup w1 w3) (fun x hx=>by
       obtain⟨p,hp,rfl⟩:=List.mem_map.1 hx
       exact(c5 p hp).1) (by omega)
      rw [←sgn_congr hp,sgn_self w1 w3]
     ·rw [decide_eq_false c5]
      symm
      rw [←Bool.not_eq_true,ckR_iff]
      exact fun h=>c5 fun p hp=>⟨(sgn_mem.1 (h.2.2.2.2.2.1▸hp)).1,h.2.2.2.2.2.2 p hp⟩
    ·have e:(!tabR t||decide (many (ks.map fun(k:Nat)=>(k:Int))≠l.length))=true:=by
      rw [Bool.or_eq_true,decide_eq_true_eq]
      by_cases h1:tabR t=true
      ·right
       intro h2
       refine c4 ⟨h1,(nodup_cast ks).1 ((many_nodup _).1 (by rw [h2,List.length_map];omega))⟩
      ·left
       simpa using h1
     rw [e,cond_true]
     have hck:ckR t ks r false l=false:=by
      rw [←Bool.not_eq_true,ckR_iff]
      exact fun h=>c4 ⟨h.1,h.2.2.2.1⟩
     rw [hck]
   ·have e:(!true||(f||(decide (ks.length=0)||decide (l.length≠ks.length))))=true:=by
     rw [Bool.not_true,Bool.false_or,Bool.or_eq_true,Bool.or_eq_true,decide_eq_true_eq,decide_eq_true_eq]
     by_cases h1:f=false
     ·by_cases h2:ks=[]
      ·right;left;rw [h2];rfl
      ·right;right;exact fun h3=>c1 ⟨h1,h2,h3⟩
     ·left;simpa using h1
    rw [e,cond_true]
    have hck:ckR t ks r f l=false:=by
     rw [←Bool.not_eq_true,ckR_iff]
     exact fun h=>c1 ⟨h.2.1,h.2.2.1,by rw [h.2.2.2.2.2.1,sgn_len]⟩
    rw [hck]
 show((checkG 42 83 138 (E cx) [.list 0 2 (prs t),.agg (itC ks r f l)]).bind fun v=>some (Out.ret v,([]:Heap)))=_
 rw [h]
 rfl
end
section
theorem f140:∀(it0:List (List AV)) (it1:Int) (it2:Bool) (it3 x4:List (List AV)),E cx (Key.fn 140) [AV.agg [AV.list 0 1 it0,vu it1,vbool it2,AV.list 0 2 it3],AV.rop [AV.list 0 2 x4]] []=Ω (E cx (Key.fn 89) [AV.list 0 2 x4,AV.agg [AV.list 0 1 it0,vu it1,vbool it2,AV.list 0 2 it3]] []) fun r5↦Ω (ret1 r5) fun v6↦Ω (AV.bool? v6) fun b7↦bif b7 then some (Out.ret (vbool false),[]) else some (Out.ret (vbool true),[]):=by
 intros
 exact(E_in [188,142] _ _ _).trans (by kernel_rfl)
theorem f78:E cx (Key.fn 78) [] []=Ω (E cx (Key.fn 81) [AV.val (Value.slice none 0 0),AV.list 0 2 [[vu 2,vu 7],[vu 1,vu 7],[vu 2,vu 7]]] []) fun r0↦Ω (ret1 r0) fun v1↦Ω (AV.tup? v1) fun vs2↦Ω (uncons? vs2) fun p3↦Ω (AV.list? 2 p3.fst) fun es4↦Ω (uncons? p3.snd) fun p5↦Ω (AV.int? ı p5.fst) fun n6↦Ω (nil? p5.snd) fun _↦Ω (E cx (Key.fn 93) [vu 7,AV.list 0 1 [[vu 2],[vu 1]]] []) fun r8↦Ω (ret1 r8) fun v9↦Ω (AV.tup? v9) fun vs10↦Ω (uncons? vs10) fun p11↦Ω (AV.cells? p11.fst) fun cs12↦Ω (uncons? cs12) fun p13↦Ω (AV.bool? p13.fst) fun b14↦Ω (uncons? p13.snd) fun p15↦Ω (AV.list? 2 p15.fst) fun es16↦Ω (nil? p15.snd) fun _↦Ω (uncons? p11.snd) fun p18↦Ω (AV.int? ı p18.fst) fun n19↦Ω (nil? p18.snd) fun _↦Ω (E cx (Key.fn 81) [AV.list 0 2 [[vu 2,vu 0],[vu 1,vu 0]],AV.val (Value.slice none 0 0)] []) fun r21↦Ω (ret1 r21) fun v22↦Ω (AV.tup? v22) fun vs23↦Ω (uncons? vs23) fun p24↦Ω (AV.list? 2 p24.fst) fun _↦Ω (uncons? p24.snd) fun p26↦Ω (AV.int? ı p26.fst) fun n27↦Ω (nil? p26.snd) fun _↦bif decide (n6=0) then Ω (E cx (Key.fn 87) [AV.list 0 2 es4,AV.list 0 2 [[vu 1,vu 7],[vu 2,vu 7]]] []) fun r29↦Ω (ret1 r29) fun v30↦Ω (AV.bool? v30) fun b31↦bif b31 then bif decide (n19=0) then bif decide (((ℓ es16):Int)=2) then bif decide (n27=1) then Ω (E cx (Key.fn 89) [AV.list 0 2 es4,AV.agg [AV.list 0 1 [[vu 2],[vu 1]],vu 7,vbool b14,AV.list 0 2 es16]] []) fun r32↦Ω (ret1 r32) fun v33↦Ω (AV.bool? v33) fun b34↦bif b34 then Ω (E cx (Key.fn 89) [AV.list 0 2 es4,AV.agg [AV.list 0 1 [[vu 2],[vu 1]],vu 8,vbool b14,AV.list 0 2 es16]] []) fun r35↦Ω (ret1 r35) fun v36↦Ω (AV.bool? v36) fun b37↦bif b37 then some (Out.ret (vbool false),[]) else Ω (E cx (Key.fn 89) [AV.list 0 2 es4,AV.agg [AV.list 0 1 [[vu 1]],vu 7,vbool b14,AV.list 0 2 es16]] []) fun r38↦Ω (ret1 r38) fun v39↦Ω (AV.bool? v39) fun b40↦bif b40 then some (Out.ret (vbool false),[]) else Ω (E cx (Key.fn 91) [AV.list 0 2 es4,AV.val (Value.slice none 0 0)] []) fun r41↦Ω (ret1 r41) fun v42↦Ω (AV.bool? v42) fun b43↦bif b43 then Ω (E cx (Key.fn 91) [AV.list 0 2 es4,AV.list 0 4 [[AV.list 1 1 [[vu 2],[vu 1]],vu 7,vbool b14,AV.list 0 2 es16],[AV.list 1 1 [[vu 2],[vu 1]],vu 7,vbool b14,AV.list 0 2 es16]]] []) fun r44↦Ω (ret1 r44) fun v45↦Ω (AV.bool? v45) fun b46↦bif b46 then Ω (E cx (Key.fn 91) [AV.list 0 2 es4,AV.list 0 4 [[AV.list 1 1 [[vu 2],[vu 1]],vu 7,vbool b14,AV.list 0 2 es16],[AV.list 1 1 [[vu 1]],vu 7,vbool b14,AV.list 0 2 es16]]] []) fun r47↦Ω (ret1 r47) fun v48↦Ω (AV.bool? v48) fun b49↦bif b49 then some (Out.ret (vbool false),[]) else Ω (E cx (Key.fn 83) [AV.list 0 2 es4] []) fun r50↦Ω (ret1 r50) fun v51↦Ω (AV.bool? v51) fun b52↦bif b52 then Ω (E cx (Key.fn 85) [AV.list 0 2 es4,AV.agg [vu 1,vu 7]] []) fun r53↦Ω (ret1 r53) fun v54↦Ω (AV.bool? v54) fun b55↦bif b55 then Ω (E cx (Key.fn 85) [AV.list 0 2 es4,AV.agg [vu 1,vu 6]] []) fun r56↦Ω (ret1 r56) fun v57↦Ω (AV.bool? v57) fun b58↦bif b58 then some (Out.ret (vbool false),[]) else some (Out.ret (vbool true),[]) else some (Out.ret (vbool false),[]) else some (Out.ret (vbool false),[]) else some (Out.ret (vbool false),[]) else some (Out.ret (vbool false),[]) else some (Out.ret (vbool false),[]) else some (Out.ret (vbool false),[]) else some (Out.ret (vbool false),[]) else some (Out.ret (vbool false),[]) else some (Out.ret (vbool false),[]) else some (Out.ret (vbool false),[]):=by
 intros
 exact(E_in [188,142] _ _ _).trans (by kernel_rfl)
end
section
abbrev It:=List Nat×Nat×Bool×List P2
noncomputable abbrev ckI (t:List P2) (x:It):Bool:=ckR t x.1 x.2.1 x.2.2.1 x.2.2.2
def ItOk (x:It):Prop:=x.1.length≤1000000∧x.2.2.2.length≤4000000∧(∀k∈x.1,U8 k)∧∀p∈x.2.2.2,U8 p.1
def RwI (W0:List (List AV)) (L:List It):Prop:=W0.length=L.length∧∀(i:Nat) (x:It),L[i]?=some x→∃a c,W0[i]?=some [a,vu x.2.1,vbool x.2.2.1,c]∧a.list? 1=some (rowsN x.1)∧c.list? 2=some (prs x.2.2.2)
theorem goIt {ρ:Type}{W0:List (List AV)}{i:Int}{n:Nat}{x:It}(hn:i=n) (h:∃a c,W0[n]?=some [a,vu x.2.1,vbool x.2.2.1,c]∧a.list? 1=some (rowsN x.1)∧c.list? 2=some (prs x.2.2.2)) (k:List (List AV)→Int→Bool→List (List AV)→Option ρ):(W0[τ i]?.bind fun cs=>(uncons? cs).bind fun p=>(AV.list? 1 p.fst).bind fun es=>(uncons? p.snd).bind fun q=>(AV.int? .u64 q.fst).bind fun r=>(uncons? q.snd).bind fun u=>(AV.bool? u.fst).bind fun f=>(uncons? u.snd).bind fun v=>(AV.list? 2 v.fst).bind fun l=>(nil? v.snd).bind fun _=>k es r f l)=k (rowsN x.1) x.2.1 x.2.2.1 (prs x.2.2.2):=by
 subst hn
 obtain⟨a,c,h1,h2,h3⟩:=h
 rw [Int.toNat_natCast,h1]
 show(Ω (AV.list? 1 a) fun es=>Ω (AV.list? 2 c) fun l=>k es x.2.1 x.2.2.1 l)=_
 rw [h2,h3]
 rfl
theorem c140 (t:List P2) (x:It) (ht:t.length≤4000000) (hx:ItOk x):E cx (Key.fn 140) [.agg (itC x.1 x.2.1 x.2.2.1 x.2.2.2),.rop [.list 0 2 (prs t)]] []=rb (!ckI t x):=by
 refine(f140 _ _ _ _ _).trans ?_
 rw [c89 t x.1 x.2.1 x.2.2.1 x.2.2.2 ht hx.1 hx.2.1 hx.2.2.1 hx.2.2.2]
 show(bif ckI t x then _ else _)=_
 cases ckI t x<;>rfl
theorem loop159 (t:List P2) (W0:List (List AV)) (L:List It) (x0:Int) (hW:RwI W0 L) (ht:t.length≤4000000) (hL:L.length≤4000000) (hok:∀x∈L,ItOk x):∀(rest:List It) (i:Nat),L.drop i=rest→i+rest.length=L.length→((rest.all (ckI t))=true∧∃y z,E cx (.loop 159 [true,false,true,false]) [vi x0,vi i,.list 0 4 W0,.func (Fn.func 140) [] [.rop [.list 0 2 (prs t)]],vi W0.length] []=some (Out.jump (.exit 0) [vi y,vi z],[]))∨((rest.all (ckI t))=false∧∃(y:Nat) (z:Int),E cx (.loop 159 [true,false,true,false]) [vi x0,vi i,.list 0 4 W0,.func (Fn.func 140) [] [.rop [.list 0 2 (prs t)]],vi W0.length] []=some (Out.jump .ret [vi y,vi z],[])):=by
 intro rest
 induction rest with
 |nil =>
  intro i hd hi
  exact .inl ⟨rfl,x0,i,(f91_c0_c1_l2 _ _ _ _ _).trans (goDn (by rw [hW.1];simp at hi;omega) _ _)⟩
 |cons x r ih =>
  intro i hd hi
  obtain⟨g,hd2,hlt⟩:=drop_cons' hd
  simp only [List.length_cons] at hi
  have st:=(f91_c0_c1_l2 x0 (i:Int) W0 (prs t) (W0.length:Int)).trans ((goD (show(i:Int)<(W0.length:Int) by rw [hW.1];omega) _ _).trans ((goY (show(0:Int)≤(i:Int) by omega) _ _).trans ((goIt (n:=i) rfl (hW.2 i x g) _).trans (goB (c140 t x ht (hok x (List.mem_of_getElem? g))) _))))
  rw [wS (by omega)] at st
  rw [List.all_cons]
  cases hc:ckI t x with
  |true =>
   rw [hc,Bool.not_true,cond_false] at st
   rw [Bool.true_and]
   rcases ih (i+1) hd2 (by omega) with⟨h1,y,z,h2⟩ |⟨h1,y,z,h2⟩
   ·exact .inl ⟨h1,y,z,st.trans h2⟩
   ·exact .inr ⟨h1,y,z,st.trans h2⟩
  |false =>
   rw [hc,Bool.not_false,cond_true] at st
   exact .inr ⟨rfl,i,i,st⟩
theorem c91 (t:List P2) (W0:List (List AV)) (L:List It) (hW:RwI W0 L) (ht:t.length≤4000000) (hL:L.length≤4000000) (hok:∀x∈L,ItOk x):E cx (Key.fn 91) [.list 0 2 (prs t),.list 0 4 W0] []=rb (L.all (ckI t)):=by
 have s1:=f91_c0_c1 W0 (prs t)
 have s2:=f91_c0 W0 (prs t)
 refine(f91 _ _).trans ?_
 rcases loop159 t W0 L 0 hW ht hL hok L 0 rfl (by omega) with⟨h1,y,z,h2⟩ |⟨h1,y,z,h2⟩
 ·have h2':E cx (.loop 159 [true,false,true,false]) [vi 0,vi 0,.list 0 4 W0,.func (Fn.func 140) [] [.rop [.list 0 2 (prs t)]],vi W0.length] []=_:=h2
  rw [h2'] at s1
  rw [s1] at s2
  rw [s2,h1]
  rfl
 ·have h2':E cx (.loop 159 [true,false,true,false]) [vi 0,vi 0,.list 0 4 W0,.func (Fn.func 140) [] [.rop [.list 0 2 (prs t)]],vi W0.length] []=_:=h2
  rw [h2'] at s1
  rw [s1] at s2
  have s3:=s2.trans (show _=rb true from(goD (p:=(y:Int)≥0) (by omega) (rb true) (rb false)))
  rw [s3,h1]
  rfl
abbrev tab0:List P2:=[(1,7),(2,7)]
theorem tab0_right:tabR tab0=true:=(tabR_iff _).2 ⟨by decide,by decide⟩
theorem sgn0:sgn 7 [2,1]=tab0:=by rw [←sgL_eq];rfl
theorem ck_yes:ckR tab0 [2,1] 7 false tab0=true:=ckR_iff.2 ⟨tab0_right,rfl,by decide,by decide,by decide,sgn0.symm,by decide⟩
theorem ck_other:ckR tab0 [2,1] 8 false tab0=false:=by
 rw [←Bool.not_eq_true,ckR_iff]
 rintro⟨_,_,_,_,_,h,_⟩
 have:(1,7)∈sgn 8 [2,1]:=h▸(by decide:((1,7):P2)∈tab0)
 have:=(sgn_mem.1 this).2
 simp at this
theorem ck_less:ckR tab0 [1] 7 false tab0=false:=by
 rw [←Bool.not_eq_true,ckR_iff]
 rintro⟨_,_,_,_,_,h,_⟩
 have:=congrArg ℓ h
 rw [sgn_len] at this
 simp at this
theorem it_ok (ks:List Nat) (r:Nat) (f:Bool) (l:List P2) (h1:ks.length≤1000) (h2:l.length≤1000) (h3:∀k∈ks,k<1000) (h4:∀p∈l,p.1<1000):ItOk (ks,r,f,l) :=
 ⟨by show ks.length≤_;omega,by show l.length≤_;omega,fun k hk=>by have:=h3 k hk;unfold U8;omega,fun p hp=>by have:=h4 p hp;unfold U8;omega⟩
theorem rw_two {x y:It}{a c a' c':AV}(h1:a.list? 1=some (rowsN x.1)) (h2:c.list? 2=some (prs x.2.2.2)) (h3:a'.list? 1=some (rowsN y.1)) (h4:c'.list? 2=some (prs y.2.2.2)):RwI [[a,vu x.2.1,vbool x.2.2.1,c],[a',vu y.2.1,vbool y.2.2.1,c']] [x,y]:=by
 refine⟨rfl,fun i z h=> ?_⟩
 match i,h with
 | 0,h=>cases h;exact⟨a,c,rfl,h1,h2⟩
 | 1,h=>cases h;exact⟨a',c',rfl,h3,h4⟩
theorem f78_true:E cx (Key.fn 78) [] []=rb true:=by
 refine f78.trans ?_
 have e1:E cx (.fn 81) [.val (.slice none 0 0),.list 0 2 [[vu 2,vu 7],[vu 1,vu 7],[vu 2,vu 7]]] []=E cx (.fn 81) [.list 0 2 (prs []),.list 0 2 (prs [(2,7),(1,7),(2,7)])] []:=E_norm (by rfl) (by kernel_rfl) (by kernel_rfl)
 have e2:E cx (.fn 81) [.list 0 2 [[vu 2,vu 0],[vu 1,vu 0]],.val (.slice none 0 0)] []=E cx (.fn 81) [.list 0 2 (prs [(2,0),(1,0)]),.list 0 2 (prs [])] []:=E_norm (by rfl) (by kernel_rfl) (by kernel_rfl)
 have e3:∀es:List (List AV),E cx (.fn 91) [.list 0 2 es,.val (.slice none 0 0)] []=E cx (.fn 91) [.list 0 2 es,.list 0 4 []] []:=fun es=>E_norm (by rfl) (by kernel_rfl) (by kernel_rfl)
 have a1:=c81 [] [(2,7),(1,7),(2,7)] (by decide) (by decide)
 rw [addR_ok .nil (by decide),show uni [] [(2,7),(1,7),(2,7)]=tab0 from by decide] at a1
 rw [e1]
 refine(goRP a1 _).trans ?_
 have a2:=c93 7 [2,1] (by decide)
 have e4:sigR 7 [2,1]=(false,tab0,0):=by unfold sigR;rw [if_pos (by decide),sgn0]
 rw [e4] at a2
 refine(goTok a2 _).trans ?_
 have a3:=c81 [(2,0),(1,0)] [] (by decide) (by decide)
 have e5:addR [(2,0),(1,0)] []=([],1):=by
  unfold addR
  rw [if_neg (by rw [tabR_iff];rintro⟨h,_⟩;revert h;decide)]
 rw [e5] at a3
 rw [e2]
 refine(goRP a3 _).trans ?_
 rw [e3]
 have it:=it_ok [2,1] 7 false tab0 (by decide) (by decide) (by decide) (by decide)
 have it2:=it_ok [1] 7 false tab0 (by decide) (by decide) (by decide) (by decide)
 have k1:E cx (.fn 89) [.list 0 2 (prs tab0),.agg [.list 0 1 [[vu 2],[vu 1]],vu 7,vbool false,.list 0 2 (prs tab0)]] []=rb true:=(c89 tab0 [2,1] 7 false tab0 (by decide) it.1 it.2.1 it.2.2.1 it.2.2.2).trans (by rw [ck_yes])
 have k2:E cx (.fn 89) [.list 0 2 (prs tab0),.agg [.list 0 1 [[vu 2],[vu 1]],vu 8,vbool false,.list 0 2 (prs tab0)]] []=rb false:=(c89 tab0 [2,1] 8 false tab0 (by decide) it.1 it.2.1 it.2.2.1 it.2.2.2).trans (by rw [ck_other])
 have k3:E cx (.fn 89) [.list 0 2 (prs tab0),.agg [.list 0 1 [[vu 1]],vu 7,vbool false,.list 0 2 (prs tab0)]] []=rb false:=(c89 tab0 [1] 7 false tab0 (by decide) it2.1 it2.2.1 it2.2.2.1 it2.2.2.2).trans (by rw [ck_less])
 have l0:E cx (.fn 91) [.list 0 2 (prs tab0),.list 0 4 []] []=rb true:=c91 tab0 [] [] ⟨rfl,fun i x h=>by cases h⟩ (by decide) (by decide) (by simp)
 have l1:E cx (.fn 91) [.list 0 2 (prs tab0),.list 0 4 [[.list 1 1 [[vu 2],[vu 1]],vu 7,vbool false,.list 0 2 (prs tab0)],[.list 1 1 [[vu 2],[vu 1]],vu 7,vbool false,.list 0 2 (prs tab0)]]] []=rb true :=
  (c91 tab0 _ [([2,1],7,false,tab0),([2,1],7,false,tab0)] (rw_two rfl rfl rfl rfl) (by decide) (by decide) (fun x hx=>by simp at hx;rw [hx];exact it)).trans (by simp [ckI,ck_yes])
 have l2:E cx (.fn 91) [.list 0 2 (prs tab0),.list 0 4 [[.list 1 1 [[vu 2],[vu 1]],vu 7,vbool false,.list 0 2 (prs tab0)],[.list 1 1 [[vu 1]],vu 7,vbool false,.list 0 2 (prs tab0)]]] []=rb false :=
  (c91 tab0 _ [([2,1],7,false,tab0),([1],7,false,tab0)] (rw_two rfl rfl rfl rfl) (by decide) (by decide) (fun x hx=>by simp at hx;rcases hx with rfl |rfl;exact it;exact it2)).trans (by simp [ckI,ck_yes,ck_less])
 have v1:=c85 tab0 (1,7) (by decide)
 rw [tab0_right,decide_eq_true (by decide)] at v1
 have v2:=c85 tab0 (1,6) (by decide)
 rw [tab0_right,decide_eq_false (by decide)] at v2
 have r1:=c83 tab0 (by decide)
 rw [tab0_right] at r1
 have p1:=c87 tab0 tab0 (by decide)
 rw [decide_eq_true rfl] at p1
 refine(goD (by decide) _ _).trans ((goT p1 _ _).trans ((goD (by decide) _ _).trans ((goD (show((prs tab0).length:Int)=2 by decide) _ _).trans ((goD (by decide) _ _).trans ((goT k1 _ _).trans ((goF k2 _ _).trans ((goF k3 _ _).trans ((goT l0 _ _).trans ((goT l1 _ _).trans ((goF l2 _ _).trans ((goT r1 _ _).trans ((goT v1 _ _).trans (goF v2 _ _)))))))))))))
end
section
theorem goTb {ρ:Type}(k j:Option ρ):(bif true then k else j)=k:=rfl
theorem goFb {ρ:Type}(k j:Option ρ):(bif false then k else j)=j:=rfl
theorem clip (n L:Nat):(if(n:Int)<(L:Int) then(n:Int) else(L:Int))=((min n L:Nat):Int):=by
 split<;>omega
theorem take_min {α:Type}(n:Nat) (l:List α):l.take (min n l.length)=l.take n:=by
 by_cases h:n≤l.length
 ·rw [Nat.min_eq_left h]
 ·rw [Nat.min_eq_right (by omega),List.take_length,List.take_of_length_le (by omega)]
theorem clipN (ks:List Nat) (n:Nat):List.drop 0 (List.take (τ ((min n ks.length:Nat):Int)) (rowsN ks))=rowsN (ks.take n):=by
 rw [List.drop_zero,show τ ((min n ks.length:Nat):Int)=min n ks.length from rfl,←rowsN_len ks,take_min]
 exact List.map_take.symm
theorem sigR_ok (r:Nat) (ks:List Nat) (h:ks.length≤49):sigR r ks=(false,sgn r ks,0):=by unfold sigR;rw [if_pos (by omega)]
theorem t93 (r:Nat) (ks:List Nat) (h:ks.length≤49):RTok (E cx (Key.fn 93) [vu r,.list 0 1 (rowsN ks)] []) false (sgn r ks) 0:=by
 have:=c93 r ks h
 rwa [sigR_ok r ks h] at this
theorem take_U8 {ks:List Nat}(n:Nat) (hk:∀k∈ks,U8 k):∀k∈ks.take n,U8 k:=fun k h=>hk k (List.mem_of_mem_take h)
end
section
noncomputable def q21_0:JX×List AV×Heap →
 Bool→List (List AV)→Bool→List (List AV)→Option (Out×Heap) :=
 fun j80 b55 es57 b71 es73 ↦
 bif JX.is j80.fst JX.ret then
 Ω (uncons? j80.snd.fst) fun p113 ↦
 Ω (AV.bool? p113.fst) fun b114 ↦
 Ω (uncons? p113.snd) fun p115 ↦
 Ω (AV.int? ı p115.fst) fun _ ↦
 Ω (nil? p115.snd) fun _ ↦
 Ω (uncons? j80.snd.snd) fun p118 ↦
 Ω
 (obIs (Ob.mk OK.box 36 2 0 [[vbool b55,AV.list 0 2 es57]]) p118.fst)
 fun _ ↦
 Ω (chk p118.fst.ver 0) fun _ ↦
 Ω (uncons? p118.fst.es) fun p121 ↦
 Ω (nil? p121.snd) fun _ ↦
 Ω (uncons? p121.fst) fun p123 ↦
 Ω (AV.bool? p123.fst) fun _ ↦
 Ω (uncons? p123.snd) fun p125 ↦
 Ω (AV.list? 2 p125.fst) fun _ ↦
 Ω (nil? p125.snd) fun _ ↦
 Ω (uncons? p118.snd) fun p128 ↦
 Ω (obIs (Ob.mk OK.dead 26 1 1 []) p128.fst) fun _ ↦
 Ω (chk p128.fst.ver 1) fun _ ↦
 Ω (uncons? p128.snd) fun p131 ↦
 Ω (obIs (Ob.mk OK.dead 26 1 1 []) p131.fst) fun _ ↦
 Ω (chk p131.fst.ver 1) fun _ ↦
 Ω (uncons? p131.snd) fun p134 ↦
 Ω
 (obIs
 (Ob.mk OK.box 36 2 0 [[vbool b71,AV.list 0 2 es73]])
 p134.fst)
 fun _ ↦
 Ω (chk p134.fst.ver 0) fun _ ↦
 Ω (uncons? p134.fst.es) fun p137 ↦
 Ω (nil? p137.snd) fun _ ↦
 Ω (uncons? p137.fst) fun p139 ↦
 Ω (AV.bool? p139.fst) fun _ ↦
 Ω (uncons? p139.snd) fun p141 ↦
 Ω (AV.list? 2 p141.fst) fun _ ↦
 Ω (nil? p141.snd) fun _ ↦
 Ω (nil? p134.snd) fun _ ↦
 some (Out.ret (vbool b114),[])
 else none
theorem f21:∀(keys0:List (List AV)) (root1 turn2:Int),E cx (Key.fn 21) [AV.list 0 1 keys0,vu root1,vi turn2] []=if 0≤if 20<((ℓ keys0):Int) then 20 else((ℓ keys0):Int) then if(if 20<((ℓ keys0):Int) then 20 else((ℓ keys0):Int))≤((ℓ keys0):Int) then Ω (E cx (Key.fn 94) [vi turn2,vi (ω ı (Int.add (((ℓ (List.drop 0 (List.take (τ (if 20<((ℓ keys0):Int) then 20 else((ℓ keys0):Int))) keys0))):Int)) 1))] []) fun r3↦Ω (ret1 r3) fun v4↦Ω (AV.int? ı v4) fun n5↦Ω (E cx (Key.fn 93) [vu root1,AV.list 0 1 (List.drop 0 (List.take (τ (if 20<((ℓ keys0):Int) then 20 else((ℓ keys0):Int))) keys0))] []) fun r6↦Ω (ret1 r6) fun v7↦Ω (AV.tup? v7) fun vs8↦Ω (uncons? vs8) fun p9↦Ω (AV.cells? p9.fst) fun cs10↦Ω (uncons? cs10) fun p11↦Ω (AV.bool? p11.fst) fun b12↦Ω (uncons? p11.snd) fun p13↦Ω (AV.list? 2 p13.fst) fun es14↦Ω (nil? p13.snd) fun _↦Ω (uncons? p9.snd) fun p16↦Ω (AV.int? ı p16.fst) fun n17↦Ω (nil? p16.snd) fun _↦if 0≤n5 then if n5≤((ℓ (List.drop 0 (List.take (τ (if 20<((ℓ keys0):Int) then 20 else((ℓ keys0):Int))) keys0))):Int) then bif ysOk (List.drop (τ n5) (List.take (ℓ (List.drop 0 (List.take (τ (if 20<((ℓ keys0):Int) then 20 else((ℓ keys0):Int))) keys0))) (List.drop 0 (List.take (τ (if 20<((ℓ keys0):Int) then 20 else((ℓ keys0):Int))) keys0)))) then if Nat.mul (Nat.add 0 (ℓ (List.drop (τ n5) (List.take (ℓ (List.drop 0 (List.take (τ (if 20<((ℓ keys0):Int) then 20 else((ℓ keys0):Int))) keys0))) (List.drop 0 (List.take (τ (if 20<((ℓ keys0):Int) then 20 else((ℓ keys0):Int))) keys0)))))) 8≤140737488355328 then if 0≤n5 then if n5≤((ℓ (List.drop 0 (List.take (τ (if 20<((ℓ keys0):Int) then 20 else((ℓ keys0):Int))) keys0))):Int) then bif ysOk (List.drop 0 (List.take (τ n5) (List.drop 0 (List.take (τ (if 20<((ℓ keys0):Int) then 20 else((ℓ keys0):Int))) keys0)))) then Ω (chk (Nat.add 0 (ℓ (List.drop (τ n5) (List.take (ℓ (List.drop 0 (List.take (τ (if 20<((ℓ keys0):Int) then 20 else((ℓ keys0):Int))) keys0))) (List.drop 0 (List.take (τ (if 20<((ℓ keys0):Int) then 20 else((ℓ keys0):Int))) keys0)))))) (ℓ (Ob.mk OK.arr 26 1 1 ([]++List.drop (τ n5) (List.take (ℓ (List.drop 0 (List.take (τ (if 20<((ℓ keys0):Int) then 20 else((ℓ keys0):Int))) keys0))) (List.drop 0 (List.take (τ (if 20<((ℓ keys0):Int) then 20 else((ℓ keys0):Int))) keys0))))).es)) fun _↦if Nat.mul (Nat.add (ℓ (Ob.mk OK.arr 26 1 1 ([]++List.drop (τ n5) (List.take (ℓ (List.drop 0 (List.take (τ (if 20<((ℓ keys0):Int) then 20 else((ℓ keys0):Int))) keys0))) (List.drop 0 (List.take (τ (if 20<((ℓ keys0):Int) then 20 else((ℓ keys0):Int))) keys0))))).es) (ℓ (List.drop 0 (List.take (τ n5) (List.drop 0 (List.take (τ (if 20<((ℓ keys0):Int) then 20 else((ℓ keys0):Int))) keys0)))))) 8≤140737488355328 then Ω (chkLe (Nat.add 0 (Nat.add (ℓ (Ob.mk OK.arr 26 1 1 ([]++List.drop (τ n5) (List.take (ℓ (List.drop 0 (List.take (τ (if 20<((ℓ keys0):Int) then 20 else((ℓ keys0):Int))) keys0))) (List.drop 0 (List.take (τ (if 20<((ℓ keys0):Int) then 20 else((ℓ keys0):Int))) keys0))))).es) (ℓ (List.drop 0 (List.take (τ n5) (List.drop 0 (List.take (τ (if 20<((ℓ keys0):Int) then 20 else((ℓ keys0):Int))) keys0))))))) (ℓ ((Ob.mk OK.arr 26 1 1 ([]++List.drop (τ n5) (List.take (ℓ (List.drop 0 (List.take (τ (if 20<((ℓ keys0):Int) then 20 else((ℓ keys0):Int))) keys0))) (List.drop 0 (List.take (τ (if 20<((ℓ keys0):Int) then 20 else((ℓ keys0):Int))) keys0))))).es++List.drop 0 (List.take (τ n5) (List.drop 0 (List.take (τ (if 20<((ℓ keys0):Int) then 20 else((ℓ keys0):Int))) keys0)))))) fun _↦Ω (E cx (Key.fn 93) [vu root1,AV.list 0 1 (List.drop 0 (List.take (Nat.add 0 (Nat.add (ℓ (Ob.mk OK.arr 26 1 1 ([]++List.drop (τ n5) (List.take (ℓ (List.drop 0 (List.take (τ (if 20<((ℓ keys0):Int) then 20 else((ℓ keys0):Int))) keys0))) (List.drop 0 (List.take (τ (if 20<((ℓ keys0):Int) then 20 else((ℓ keys0):Int))) keys0))))).es) (ℓ (List.drop 0 (List.take (τ n5) (List.drop 0 (List.take (τ (if 20<((ℓ keys0):Int) then 20 else((ℓ keys0):Int))) keys0))))))) ((Ob.mk OK.arr 26 1 1 ([]++List.drop (τ n5) (List.take (ℓ (List.drop 0 (List.take (τ (if 20<((ℓ keys0):Int) then 20 else((ℓ keys0):Int))) keys0))) (List.drop 0 (List.take (τ (if 20<((ℓ keys0):Int) then 20 else((ℓ keys0):Int))) keys0))))).es++List.drop 0 (List.take (τ n5) (List.drop 0 (List.take (τ (if 20<((ℓ keys0):Int) then 20 else((ℓ keys0):Int))) keys0))))))] []) fun r21↦Ω (ret1 r21) fun v22↦Ω (AV.tup? v22) fun vs23↦Ω (uncons? vs23) fun p24↦Ω (AV.cells? p24.fst) fun cs25↦Ω (uncons? cs25) fun p26↦Ω (AV.bool? p26.fst) fun b27↦Ω (uncons? p26.snd) fun p28↦Ω (AV.list? 2 p28.fst) fun es29↦Ω (nil? p28.snd) fun _↦Ω (uncons? p24.snd) fun p31↦Ω (AV.int? ı p31.fst) fun n32↦Ω (nil? p31.snd) fun _↦Ω (E cx (Key.fn 42) [AV.agg [vbool b12,AV.list 0 2 es14],vu root1] []) fun r34↦Ω (ret1 r34) fun v35↦Ω (AV.tup? v35) fun vs36↦Ω (uncons? vs36) fun p37↦Ω (AV.list? 1 p37.fst) fun es38↦Ω (uncons? p37.snd) fun p39↦Ω (AV.bool? p39.fst) fun b40↦bif b40 then Ω (nil? p39.snd) fun _↦Ω (E cx (Key.loop 21 [true,true,true,true,true,true,true,true,false,true,false]) [vbool true,vi 0,vbool false,vbool true,AV.list 0 1 (List.drop 0 (List.take (τ (if 20<((ℓ keys0):Int) then 20 else((ℓ keys0):Int))) keys0)),AV.ptr 0 0 0 0,vi n17,AV.ptr 3 0 0 0,vi n32,AV.list 0 1 es38,vbool true] [Ob.mk OK.box 36 2 0 [[vbool b12,AV.list 0 2 es14]],Ob.mk OK.dead 26 1 1 [],Ob.mk OK.dead 26 1 1 [],Ob.mk OK.box 36 2 0 [[vbool b27,AV.list 0 2 es29]]]) fun r42↦Ω (asJump r42) fun j43↦bif JX.is j43.fst (JX.exit 0) then Ω (uncons? j43.snd.fst) fun p44↦Ω (AV.bool? p44.fst) fun b45↦Ω (uncons? p44.snd) fun p46↦Ω (AV.int? ı p46.fst) fun _↦Ω (nil? p46.snd) fun _↦Ω (uncons? j43.snd.snd) fun p49↦Ω (obIs (Ob.mk OK.box 36 2 0 [[vbool b12,AV.list 0 2 es14]]) p49.fst) fun _↦Ω (chk p49.fst.ver 0) fun _↦Ω (uncons? p49.fst.es) fun p52↦Ω (nil? p52.snd) fun _↦Ω (uncons? p52.fst) fun p54↦Ω (AV.bool? p54.fst) fun b55↦Ω (uncons? p54.snd) fun p56↦Ω (AV.list? 2 p56.fst) fun es57↦Ω (nil? p56.snd) fun _↦Ω (uncons? p49.snd) fun p59↦Ω (obIs (Ob.mk OK.dead 26 1 1 []) p59.fst) fun _↦Ω (chk p59.fst.ver 1) fun _↦Ω (uncons? p59.snd) fun p62↦Ω (obIs (Ob.mk OK.dead 26 1 1 []) p62.fst) fun _↦Ω (chk p62.fst.ver 1) fun _↦Ω (uncons? p62.snd) fun p65↦Ω (obIs (Ob.mk OK.box 36 2 0 [[vbool b27,AV.list 0 2 es29]]) p65.fst) fun _↦Ω (chk p65.fst.ver 0) fun _↦Ω (uncons? p65.fst.es) fun p68↦Ω (nil? p68.snd) fun _↦Ω (uncons? p68.fst) fun p70↦Ω (AV.bool? p70.fst) fun b71↦Ω (uncons? p70.snd) fun p72↦Ω (AV.list? 2 p72.fst) fun es73↦Ω (nil? p72.snd) fun _↦Ω (nil? p65.snd) fun _↦bif n17 !=0 then some (Out.ret (vbool false),[]) else bif n32 !=0 then some (Out.ret (vbool false),[]) else Ω (E cx (Key.fn 47) [AV.agg [vbool b55,AV.list 0 2 es57],AV.agg [vbool b71,AV.list 0 2 es73]] []) fun r76↦Ω (ret1 r76) fun v77↦Ω (AV.bool? v77) fun b78↦bif b78 then bif !decide (true=b45) then some (Out.ret (vbool false),[]) else bif ((ℓ es57):Int) !=((ℓ (List.drop 0 (List.take (τ (if 20<((ℓ keys0):Int) then 20 else((ℓ keys0):Int))) keys0))):Int) then some (Out.ret (vbool false),[]) else bif b55 then some (Out.ret (vbool false),[]) else Ω (E cx (Key.loop 21 [true,true,true,true,true,true,true,true,true,true,false,true,false]) [vbool false,vi 0,vbool true,AV.list 0 1 (List.drop 0 (List.take (τ (if 20<((ℓ keys0):Int) then 20 else((ℓ keys0):Int))) keys0)),AV.list 0 1 es38,vbool true] [Ob.mk OK.box 36 2 0 [[vbool b55,AV.list 0 2 es57]],Ob.mk OK.dead 26 1 1 [],Ob.mk OK.dead 26 1 1 [],Ob.mk OK.box 36 2 0 [[vbool b71,AV.list 0 2 es73]]]) fun r79↦Ω (asJump r79) fun j80↦bif JX.is j80.fst (JX.exit 4) then Ω (uncons? j80.snd.fst) fun p81↦Ω (AV.bool? p81.fst) fun _↦Ω (uncons? p81.snd) fun p83↦Ω (AV.int? ı p83.fst) fun _↦Ω (nil? p83.snd) fun _↦Ω (uncons? j80.snd.snd) fun p86↦Ω (obIs (Ob.mk OK.box 36 2 0 [[vbool b55,AV.list 0 2 es57]]) p86.fst) fun _↦Ω (chk p86.fst.ver 0) fun _↦Ω (uncons? p86.fst.es) fun p89↦Ω (nil? p89.snd) fun _↦Ω (uncons? p89.fst) fun p91↦Ω (AV.bool? p91.fst) fun _↦Ω (uncons? p91.snd) fun p93↦Ω (AV.list? 2 p93.fst) fun _↦Ω (nil? p93.snd) fun _↦Ω (uncons? p86.snd) fun p96↦Ω (obIs (Ob.mk OK.dead 26 1 1 []) p96.fst) fun _↦Ω (chk p96.fst.ver 1) fun _↦Ω (uncons? p96.snd) fun p99↦Ω (obIs (Ob.mk OK.dead 26 1 1 []) p99.fst) fun _↦Ω (chk p99.fst.ver 1) fun _↦Ω (uncons? p99.snd) fun p102↦Ω (obIs (Ob.mk OK.box 36 2 0 [[vbool b71,AV.list 0 2 es73]]) p102.fst) fun _↦Ω (chk p102.fst.ver 0) fun _↦Ω (uncons? p102.fst.es) fun p105↦Ω (nil? p105.snd) fun _↦Ω (uncons? p105.fst) fun p107↦Ω (AV.bool? p107.fst) fun _↦Ω (uncons? p107.snd) fun p109↦Ω (AV.list? 2 p109.fst) fun _↦Ω (nil? p109.snd) fun _↦Ω (nil? p102.snd) fun _↦bif decide (((ℓ es38):Int)=((ℓ (List.drop 0 (List.take (τ (if 20<((ℓ keys0):Int) then 20 else((ℓ keys0):Int))) keys0))):Int)) then some (Out.ret (vbool true),[]) else some (Out.ret (vbool false),[]) else q21_0 j80 b55 es57 b71 es73 else some (Out.ret (vbool false),[]) else none else Ω (nil? p39.snd) fun _↦Ω (E cx (Key.loop 21 [true,true,true,true,true,true,true,true,false,true,false]) [vbool true,vi 0,vbool false,vbool true,AV.list 0 1 (List.drop 0 (List.take (τ (if 20<((ℓ keys0):Int) then 20 else((ℓ keys0):Int))) keys0)),AV.ptr 0 0 0 0,vi n17,AV.ptr 3 0 0 0,vi n32,AV.list 0 1 es38,vbool false] [Ob.mk OK.box 36 2 0 [[vbool b12,AV.list 0 2 es14]],Ob.mk OK.dead 26 1 1 [],Ob.mk OK.dead 26 1 1 [],Ob.mk OK.box 36 2 0 [[vbool b27,AV.list 0 2 es29]]]) fun r146↦Ω (asJump r146) fun j147↦bif JX.is j147.fst (JX.exit 0) then Ω (uncons? j147.snd.fst) fun p148↦Ω (AV.bool? p148.fst) fun b149↦Ω (uncons? p148.snd) fun p150↦Ω (AV.int? ı p150.fst) fun _↦Ω (nil? p150.snd) fun _↦Ω (uncons? j147.snd.snd) fun p153↦Ω (obIs (Ob.mk OK.box 36 2 0 [[vbool b12,AV.list 0 2 es14]]) p153.fst) fun _↦Ω (chk p153.fst.ver 0) fun _↦Ω (uncons? p153.fst.es) fun p156↦Ω (nil? p156.snd) fun _↦Ω (uncons? p156.fst) fun p158↦Ω (AV.bool? p158.fst) fun b159↦Ω (uncons? p158.snd) fun p160↦Ω (AV.list? 2 p160.fst) fun es161↦Ω (nil? p160.snd) fun _↦Ω (uncons? p153.snd) fun p163↦Ω (obIs (Ob.mk OK.dead 26 1 1 []) p163.fst) fun _↦Ω (chk p163.fst.ver 1) fun _↦Ω (uncons? p163.snd) fun p166↦Ω (obIs (Ob.mk OK.dead 26 1 1 []) p166.fst) fun _↦Ω (chk p166.fst.ver 1) fun _↦Ω (uncons? p166.snd) fun p169↦Ω (obIs (Ob.mk OK.box 36 2 0 [[vbool b27,AV.list 0 2 es29]]) p169.fst) fun _↦Ω (chk p169.fst.ver 0) fun _↦Ω (uncons? p169.fst.es) fun p172↦Ω (nil? p172.snd) fun _↦Ω (uncons? p172.fst) fun p174↦Ω (AV.bool? p174.fst) fun b175↦Ω (uncons? p174.snd) fun p176↦Ω (AV.list? 2 p176.fst) fun es177↦Ω (nil? p176.snd) fun _↦Ω (nil? p169.snd) fun _↦bif n17 !=0 then some (Out.ret (vbool false),[]) else bif n32 !=0 then some (Out.ret (vbool false),[]) else Ω (E cx (Key.fn 47) [AV.agg [vbool b159,AV.list 0 2 es161],AV.agg [vbool b175,AV.list 0 2 es177]] []) fun r180↦Ω (ret1 r180) fun v181↦Ω (AV.bool? v181) fun b182↦bif b182 then bif !decide (false=b149) then some (Out.ret (vbool false),[]) else bif ((ℓ es161):Int) !=((ℓ (List.drop 0 (List.take (τ (if 20<((ℓ keys0):Int) then 20 else((ℓ keys0):Int))) keys0))):Int) then some (Out.ret (vbool false),[]) else bif b159 then some (Out.ret (vbool false),[]) else Ω (E cx (Key.loop 21 [true,true,true,true,true,true,true,true,true,true,false,true,false]) [vbool false,vi 0,vbool true,AV.list 0 1 (List.drop 0 (List.take (τ (if 20<((ℓ keys0):Int) then 20 else((ℓ keys0):Int))) keys0)),AV.list 0 1 es38,vbool false] [Ob.mk OK.box 36 2 0 [[vbool b159,AV.list 0 2 es161]],Ob.mk OK.dead 26 1 1 [],Ob.mk OK.dead 26 1 1 [],Ob.mk OK.box 36 2 0 [[vbool b175,AV.list 0 2 es177]]]) fun r183↦Ω (asJump r183) fun j184↦bif JX.is j184.fst (JX.exit 4) then Ω (uncons? j184.snd.fst) fun p185↦Ω (AV.bool? p185.fst) fun _↦Ω (uncons? p185.snd) fun p187↦Ω (AV.int? ı p187.fst) fun _↦Ω (nil? p187.snd) fun _↦Ω (uncons? j184.snd.snd) fun p190↦Ω (obIs (Ob.mk OK.box 36 2 0 [[vbool b159,AV.list 0 2 es161]]) p190.fst) fun _↦Ω (chk p190.fst.ver 0) fun _↦Ω (uncons? p190.fst.es) fun p193↦Ω (nil? p193.snd) fun _↦Ω (uncons? p193.fst) fun p195↦Ω (AV.bool? p195.fst) fun _↦Ω (uncons? p195.snd) fun p197↦Ω (AV.list? 2 p197.fst) fun _↦Ω (nil? p197.snd) fun _↦Ω (uncons? p190.snd) fun p200↦Ω (obIs (Ob.mk OK.dead 26 1 1 []) p200.fst) fun _↦Ω (chk p200.fst.ver 1) fun _↦Ω (uncons? p200.snd) fun p203↦Ω (obIs (Ob.mk OK.dead 26 1 1 []) p203.fst) fun _↦Ω (chk p203.fst.ver 1) fun _↦Ω (uncons? p203.snd) fun p206↦Ω (obIs (Ob.mk OK.box 36 2 0 [[vbool b175,AV.list 0 2 es177]]) p206.fst) fun _↦Ω (chk p206.fst.ver 0) fun _↦Ω (uncons? p206.fst.es) fun p209↦Ω (nil? p209.snd) fun _↦Ω (uncons? p209.fst) fun p211↦Ω (AV.bool? p211.fst) fun _↦Ω (uncons? p211.snd) fun p213↦Ω (AV.list? 2 p213.fst) fun _↦Ω (nil? p213.snd) fun _↦Ω (nil? p206.snd) fun _↦some (Out.ret (vbool true),[]) else q21_0 j184 b159 es161 b175 es177 else some (Out.ret (vbool false),[]) else none else none else none else none else none else none else none else none else none else none else none:=by
 intros
 exact(E_ov f78_true [188,142] _ _ _).trans (by kernel_rfl)
theorem f21_l0:∀(b249:Bool) (x250:Int) (b251 b252:Bool) (l253:List (List AV)) (x254 x255:Int) (l256:List (List AV)) (b257 b258:Bool) (l259:List (List AV)) (b260:Bool) (l261:List (List AV)),E cx (Key.loop 21 [true,true,true,true,true,true,true,true,false,true,false]) [vbool b249,vi x250,vbool b251,vbool b252,AV.list 0 1 l253,AV.ptr 0 0 0 0,vi x254,AV.ptr 3 0 0 0,vi x255,AV.list 0 1 l256,vbool b257] [Ob.mk OK.box 36 2 0 [[vbool b258,AV.list 0 2 l259]],Ob.mk OK.dead 26 1 1 [],Ob.mk OK.dead 26 1 1 [],Ob.mk OK.box 36 2 0 [[vbool b260,AV.list 0 2 l261]]]=bif decide (x250<((ℓ l253):Int)) then Ω (E cx (Key.loop 21 [true,true,true,true,true,true,true,true,false,true,false,false,true,false,false,true,false]) [vbool b249,vi 0,vbool b251,vbool b252,AV.list 0 1 l253,AV.ptr 0 0 0 0,vi x254,AV.ptr 3 0 0 0,vi x255,AV.list 0 1 l256,vbool b257,vi x250] [Ob.mk OK.box 36 2 0 [[vbool b258,AV.list 0 2 l259]],Ob.mk OK.dead 26 1 1 [],Ob.mk OK.dead 26 1 1 [],Ob.mk OK.box 36 2 0 [[vbool b260,AV.list 0 2 l261]]]) fun r262↦Ω (asJump r262) fun j263↦bif JX.is j263.fst (JX.exit 2) then Ω (uncons? j263.snd.fst) fun p264↦Ω (AV.bool? p264.fst) fun b265↦Ω (uncons? p264.snd) fun p266↦Ω (AV.int? ı p266.fst) fun _↦Ω (nil? p266.snd) fun _↦Ω (uncons? j263.snd.snd) fun p269↦Ω (obIs (Ob.mk OK.box 36 2 0 [[vbool b258,AV.list 0 2 l259]]) p269.fst) fun _↦Ω (chk p269.fst.ver 0) fun _↦Ω (uncons? p269.fst.es) fun p272↦Ω (nil? p272.snd) fun _↦Ω (uncons? p272.fst) fun p274↦Ω (AV.bool? p274.fst) fun b275↦Ω (uncons? p274.snd) fun p276↦Ω (AV.list? 2 p276.fst) fun es277↦Ω (nil? p276.snd) fun _↦Ω (uncons? p269.snd) fun p279↦Ω (obIs (Ob.mk OK.dead 26 1 1 []) p279.fst) fun _↦Ω (chk p279.fst.ver 1) fun _↦Ω (uncons? p279.snd) fun p282↦Ω (obIs (Ob.mk OK.dead 26 1 1 []) p282.fst) fun _↦Ω (chk p282.fst.ver 1) fun _↦Ω (uncons? p282.snd) fun p285↦Ω (obIs (Ob.mk OK.box 36 2 0 [[vbool b260,AV.list 0 2 l261]]) p285.fst) fun _↦Ω (chk p285.fst.ver 0) fun _↦Ω (uncons? p285.fst.es) fun p288↦Ω (nil? p288.snd) fun _↦Ω (uncons? p288.fst) fun p290↦Ω (AV.bool? p290.fst) fun b291↦Ω (uncons? p290.snd) fun p292↦Ω (AV.list? 2 p292.fst) fun es293↦Ω (nil? p292.snd) fun _↦Ω (nil? p285.snd) fun _↦E cx (Key.loop 21 [true,true,true,true,true,true,true,true,false,true,false]) [vbool b265,vi (ω ı (Int.add x250 1)),vbool b251,vbool b252,AV.list 0 1 l253,AV.ptr 0 0 0 0,vi x254,AV.ptr 3 0 0 0,vi x255,AV.list 0 1 l256,vbool b257] [Ob.mk OK.box 36 2 0 [[vbool b275,AV.list 0 2 es277]],Ob.mk OK.dead 26 1 1 [],Ob.mk OK.dead 26 1 1 [],Ob.mk OK.box 36 2 0 [[vbool b291,AV.list 0 2 es293]]] else none else some (Out.jump (JX.exit 0) [vbool b249,vi x250],[Ob.mk OK.box 36 2 0 [[vbool b258,AV.list 0 2 l259]],Ob.mk OK.dead 26 1 1 [],Ob.mk OK.dead 26 1 1 [],Ob.mk OK.box 36 2 0 [[vbool b260,AV.list 0 2 l261]]]):=by
 intros
 exact(E_ov f78_true [188,142] _ _ _).trans (by kernel_rfl)
noncomputable def q21_l0_l1_0:Int →
 Bool →
 Bool →
 List (List AV) →
 Int →
 Int →
 List (List AV) →
 Bool→Int→Bool→List (List AV)→Bool→List (List AV)→Option (Out×Heap) :=
 fun x297 b298 b299 l300 x301 x302 l303 b304 x305 b306 l307 b308 l309 ↦
 E cx
 (Key.loop 21 [true,true,true,true,true,true,true,true,false,true,false,false,true,false,false,true,false])
 [vbool false,vi (ω ı (Int.add x297 1)),vbool b298,vbool b299,
 AV.list 0 1 l300,AV.ptr 0 0 0 0,vi x301,AV.ptr 3 0 0 0,vi x302,
 AV.list 0 1 l303,vbool b304,vi x305]
 [Ob.mk OK.box 36 2 0 [[vbool b306,AV.list 0 2 l307]],
 Ob.mk OK.dead 26 1 1 [],Ob.mk OK.dead 26 1 1 [],
 Ob.mk OK.box 36 2 0 [[vbool b308,AV.list 0 2 l309]]]
noncomputable def q21_l0_l1_1:Bool →
 Int →
 Bool →
 Bool →
 List (List AV) →
 Int →
 Int →
 List (List AV) →
 Bool→Int→Bool→List (List AV)→Bool→List (List AV)→Option (Out×Heap) :=
 fun b296 x297 b298 b299 l300 x301 x302 l303 b304 x305 b306 l307 b308 l309 ↦
 bif b296 then
 E cx
 (Key.loop 21 [true,true,true,true,true,true,true,true,false,true,false,false,true,false,false,true,false])
 [AV.val (Value.tuple (Array.mk [])),vi (ω ı (Int.add x297 1)),vbool b298,
 vbool b299,AV.list 0 1 l300,AV.ptr 0 0 0 0,vi x301,AV.ptr 3 0 0 0,
 vi x302,AV.list 0 1 l303,vbool b304,vi x305]
 [Ob.mk OK.box 36 2 0 [[vbool b306,AV.list 0 2 l307]],
 Ob.mk OK.dead 26 1 1 [],Ob.mk OK.dead 26 1 1 [],
 Ob.mk OK.box 36 2 0 [[vbool b308,AV.list 0 2 l309]]]
 else q21_l0_l1_0 x297 b298 b299 l300 x301 x302 l303 b304 x305 b306 l307 b308 l309
noncomputable def q21_l0_l1_2:Bool →
 Int →
 Bool →
 Bool →
 List (List AV) →
 Int →
 Int →
 List (List AV) →
 Bool→Int→Bool→List (List AV)→Bool→List (List AV)→Option (Out×Heap) :=
 fun b296 x297 b298 b299 l300 x301 x302 l303 b304 x305 b306 l307 b308 l309 ↦
 bif decide (b296=true) then none else q21_l0_l1_1 b296 x297 b298 b299 l300 x301 x302 l303 b304 x305 b306 l307 b308 l309
noncomputable def q21_l0_l1_3:Bool →
 Int →
 Bool →
 Bool →
 List (List AV) →
 Int →
 Int →
 List (List AV) →
 Bool→Int→Bool→List (List AV)→Bool→List (List AV)→Option (Out×Heap) :=
 fun b296 x297 b298 b299 l300 x301 x302 l303 b304 x305 b306 l307 b308 l309 ↦
 bif decide (b296=true) then none else q21_l0_l1_2 b296 x297 b298 b299 l300 x301 x302 l303 b304 x305 b306 l307 b308 l309
noncomputable def q21_l0_l1_4:Bool →
 Int →
 Bool →
 Bool →
 List (List AV) →
 Int →
 Int →
 List (List AV) →
 Bool→Int→Bool→List (List AV)→Bool→List (List AV)→Option (Out×Heap) :=
 fun b296 x297 b298 b299 l300 x301 x302 l303 b304 x305 b306 l307 b308 l309 ↦
 bif decide (b296=true) then none else q21_l0_l1_3 b296 x297 b298 b299 l300 x301 x302 l303 b304 x305 b306 l307 b308 l309
noncomputable def q21_l0_l1_5:Bool →
 Int →
 Bool →
 Bool →
 List (List AV) →
 Int →
 Int →
 List (List AV) →
 Bool→Int→Bool→List (List AV)→Bool→List (List AV)→Option (Out×Heap) :=
 fun b296 x297 b298 b299 l300 x301 x302 l303 b304 x305 b306 l307 b308 l309 ↦
 bif decide (b296=true) then q21_l0_l1_4 b296 x297 b298 b299 l300 x301 x302 l303 b304 x305 b306 l307 b308 l309
 else q21_l0_l1_4 b296 x297 b298 b299 l300 x301 x302 l303 b304 x305 b306 l307 b308 l309
noncomputable def q21_l0_l1_6:Bool →
 Int →
 List (List AV) →
 Bool →
 Bool →
 Int →
 Int →
 List (List AV) →
 Bool→Int→Bool→List (List AV)→Bool→List (List AV)→Option (Out×Heap) :=
 fun b296 x297 l300 b298 b299 x301 x302 l303 b304 x305 b306 l307 b308 l309 ↦
 bif decide (b296=true) then
 bif decide (b296=true) then
 bif decide (b296=true) then
 if 0≤x297 then
 Ω l300[τ x297]? fun cs318 ↦
 Ω (uncons? cs318) fun p319 ↦
 Ω (AV.int? υ p319.fst) fun _ ↦
 Ω (nil? p319.snd) fun _ ↦
 bif decide (b296=true) then q21_l0_l1_2 b296 x297 b298 b299 l300 x301 x302 l303 b304 x305 b306 l307 b308 l309
 else q21_l0_l1_2 b296 x297 b298 b299 l300 x301 x302 l303 b304 x305 b306 l307 b308 l309
 else none
 else q21_l0_l1_3 b296 x297 b298 b299 l300 x301 x302 l303 b304 x305 b306 l307 b308 l309
 else q21_l0_l1_4 b296 x297 b298 b299 l300 x301 x302 l303 b304 x305 b306 l307 b308 l309
 else q21_l0_l1_5 b296 x297 b298 b299 l300 x301 x302 l303 b304 x305 b306 l307 b308 l309
noncomputable def q21_l0_l1_7:Bool →
 Int →
 List (List AV) →
 Bool →
 Bool →
 Int →
 Int →
 List (List AV) →
 Bool→Int→Bool→List (List AV)→Bool→List (List AV)→Option (Out×Heap) :=
 fun b296 x297 l300 b298 b299 x301 x302 l303 b304 x305 b306 l307 b308 l309 ↦
 bif decide (b296=true) then none else q21_l0_l1_6 b296 x297 l300 b298 b299 x301 x302 l303 b304 x305 b306 l307 b308 l309
noncomputable def q21_l0_l1_8:Bool →
 Int →
 List (List AV) →
 Bool →
 Bool →
 Int →
 Int →
 List (List AV) →
 Bool→Int→Bool→List (List AV)→Bool→List (List AV)→Option (Out×Heap) :=
 fun b296 x297 l300 b298 b299 x301 x302 l303 b304 x305 b306 l307 b308 l309 ↦
 bif decide (b296=true) then none else q21_l0_l1_7 b296 x297 l300 b298 b299 x301 x302 l303 b304 x305 b306 l307 b308 l309
theorem f21_l0_l1:∀(b296:Bool) (x297:Int) (b298 b299:Bool) (l300:List (List AV)) (x301 x302:Int) (l303:List (List AV)) (b304:Bool) (x305:Int) (b306:Bool) (l307:List (List AV)) (b308:Bool) (l309:List (List AV)),E cx (Key.loop 21 [true,true,true,true,true,true,true,true,false,true,false,false,true,false,false,true,false]) [vbool b296,vi x297,vbool b298,vbool b299,AV.list 0 1 l300,AV.ptr 0 0 0 0,vi x301,AV.ptr 3 0 0 0,vi x302,AV.list 0 1 l303,vbool b304,vi x305] [Ob.mk OK.box 36 2 0 [[vbool b306,AV.list 0 2 l307]],Ob.mk OK.dead 26 1 1 [],Ob.mk OK.dead 26 1 1 [],Ob.mk OK.box 36 2 0 [[vbool b308,AV.list 0 2 l309]]]=bif decide (x297<x305) then bif decide (b296=true) then bif decide (b296=true) then bif decide (b296=true) then if 0≤x305 then Ω l300[τ x305]? fun cs310↦Ω (uncons? cs310) fun p311↦Ω (AV.int? υ p311.fst) fun n312↦Ω (nil? p311.snd) fun _↦bif decide (b296=true) then bif decide (b296=true) then bif decide (b296=true) then bif decide (b296=true) then if 0≤x297 then Ω l300[τ x297]? fun cs314↦Ω (uncons? cs314) fun p315↦Ω (AV.int? υ p315.fst) fun n316↦Ω (nil? p315.snd) fun _↦bif decide (b296=true) then bif decide (b296=true) then bif n312 !=n316 then bif b296 then E cx (Key.loop 21 [true,true,true,true,true,true,true,true,false,true,false,false,true,false,false,true,false]) [vbool true,vi (ω ı (Int.add x297 1)),vbool b298,vbool b299,AV.list 0 1 l300,AV.ptr 0 0 0 0,vi x301,AV.ptr 3 0 0 0,vi x302,AV.list 0 1 l303,vbool b304,vi x305] [Ob.mk OK.box 36 2 0 [[vbool b306,AV.list 0 2 l307]],Ob.mk OK.dead 26 1 1 [],Ob.mk OK.dead 26 1 1 [],Ob.mk OK.box 36 2 0 [[vbool b308,AV.list 0 2 l309]]] else q21_l0_l1_0 x297 b298 b299 l300 x301 x302 l303 b304 x305 b306 l307 b308 l309 else bif b296 then q21_l0_l1_0 x297 b298 b299 l300 x301 x302 l303 b304 x305 b306 l307 b308 l309 else q21_l0_l1_0 x297 b298 b299 l300 x301 x302 l303 b304 x305 b306 l307 b308 l309 else q21_l0_l1_1 b296 x297 b298 b299 l300 x301 x302 l303 b304 x305 b306 l307 b308 l309 else q21_l0_l1_2 b296 x297 b298 b299 l300 x301 x302 l303 b304 x305 b306 l307 b308 l309 else none else q21_l0_l1_3 b296 x297 b298 b299 l300 x301 x302 l303 b304 x305 b306 l307 b308 l309 else q21_l0_l1_4 b296 x297 b298 b299 l300 x301 x302 l303 b304 x305 b306 l307 b308 l309 else q21_l0_l1_5 b296 x297 b298 b299 l300 x301 x302 l303 b304 x305 b306 l307 b308 l309 else q21_l0_l1_6 b296 x297 l300 b298 b299 x301 x302 l303 b304 x305 b306 l307 b308 l309 else none else q21_l0_l1_7 b296 x297 l300 b298 b299 x301 x302 l303 b304 x305 b306 l307 b308 l309 else q21_l0_l1_8 b296 x297 l300 b298 b299 x301 x302 l303 b304 x305 b306 l307 b308 l309 else bif decide (b296=true) then q21_l0_l1_8 b296 x297 l300 b298 b299 x301 x302 l303 b304 x305 b306 l307 b308 l309 else q21_l0_l1_8 b296 x297 l300 b298 b299 x301 x302 l303 b304 x305 b306 l307 b308 l309 else some (Out.jump (JX.exit 2) [vbool b296,vi x297],[Ob.mk OK.box 36 2 0 [[vbool b306,AV.list 0 2 l307]],Ob.mk OK.dead 26 1 1 [],Ob.mk OK.dead 26 1 1 [],Ob.mk OK.box 36 2 0 [[vbool b308,AV.list 0 2 l309]]]):=by
 intros
 exact(E_ov f78_true [188,142] _ _ _).trans (by kernel_rfl)
noncomputable def q21_l2_0:Int→Bool→List (List AV)→Bool→List (List AV)→Option (Out×Heap) :=
 fun x339 b361 es363 b377 es379 ↦
 some
 (Out.jump JX.ret [vbool false,vi x339],
 [Ob.mk OK.box 36 2 0 [[vbool b361,AV.list 0 2 es363]],
 Ob.mk OK.dead 26 1 1 [],Ob.mk OK.dead 26 1 1 [],
 Ob.mk OK.box 36 2 0 [[vbool b377,AV.list 0 2 es379]]])
noncomputable def q21_l2_1:Bool →
 Int →
 Bool →
 List (List AV) →
 List (List AV) →
 Bool→Bool→List (List AV)→Bool→List (List AV)→Option (Out×Heap) :=
 fun b338 x339 b340 l341 l342 b343 b361 es363 b377 es379 ↦
 E cx (Key.loop 21 [true,true,true,true,true,true,true,true,true,true,false,true,false])
 [vbool b338,vi (ω ı (Int.add x339 1)),vbool b340,AV.list 0 1 l341,
 AV.list 0 1 l342,vbool b343]
 [Ob.mk OK.box 36 2 0 [[vbool b361,AV.list 0 2 es363]],
 Ob.mk OK.dead 26 1 1 [],Ob.mk OK.dead 26 1 1 [],
 Ob.mk OK.box 36 2 0 [[vbool b377,AV.list 0 2 es379]]]
theorem f21_l2:∀(b338:Bool) (x339:Int) (b340:Bool) (l341 l342:List (List AV)) (b343 b344:Bool) (l345:List (List AV)) (b346:Bool) (l347:List (List AV)),E cx (Key.loop 21 [true,true,true,true,true,true,true,true,true,true,false,true,false]) [vbool b338,vi x339,vbool b340,AV.list 0 1 l341,AV.list 0 1 l342,vbool b343] [Ob.mk OK.box 36 2 0 [[vbool b344,AV.list 0 2 l345]],Ob.mk OK.dead 26 1 1 [],Ob.mk OK.dead 26 1 1 [],Ob.mk OK.box 36 2 0 [[vbool b346,AV.list 0 2 l347]]]=bif decide (x339<((ℓ l342):Int)) then Ω (E cx (Key.loop 21 [true,true,true,true,true,true,true,true,true,true,false,true,false,false,true,false,false,true,false,true,false]) [vbool false,vi 0,vbool b338,vbool b340,AV.list 0 1 l341,AV.list 0 1 l342,vbool b343,vi x339] [Ob.mk OK.box 36 2 0 [[vbool b344,AV.list 0 2 l345]],Ob.mk OK.dead 26 1 1 [],Ob.mk OK.dead 26 1 1 [],Ob.mk OK.box 36 2 0 [[vbool b346,AV.list 0 2 l347]]]) fun r348↦Ω (asJump r348) fun j349↦bif JX.is j349.fst (JX.exit 6) then Ω (uncons? j349.snd.fst) fun p350↦Ω (AV.bool? p350.fst) fun b351↦Ω (uncons? p350.snd) fun p352↦Ω (AV.int? ı p352.fst) fun _↦Ω (nil? p352.snd) fun _↦Ω (uncons? j349.snd.snd) fun p355↦Ω (obIs (Ob.mk OK.box 36 2 0 [[vbool b344,AV.list 0 2 l345]]) p355.fst) fun _↦Ω (chk p355.fst.ver 0) fun _↦Ω (uncons? p355.fst.es) fun p358↦Ω (nil? p358.snd) fun _↦Ω (uncons? p358.fst) fun p360↦Ω (AV.bool? p360.fst) fun b361↦Ω (uncons? p360.snd) fun p362↦Ω (AV.list? 2 p362.fst) fun es363↦Ω (nil? p362.snd) fun _↦Ω (uncons? p355.snd) fun p365↦Ω (obIs (Ob.mk OK.dead 26 1 1 []) p365.fst) fun _↦Ω (chk p365.fst.ver 1) fun _↦Ω (uncons? p365.snd) fun p368↦Ω (obIs (Ob.mk OK.dead 26 1 1 []) p368.fst) fun _↦Ω (chk p368.fst.ver 1) fun _↦Ω (uncons? p368.snd) fun p371↦Ω (obIs (Ob.mk OK.box 36 2 0 [[vbool b346,AV.list 0 2 l347]]) p371.fst) fun _↦Ω (chk p371.fst.ver 0) fun _↦Ω (uncons? p371.fst.es) fun p374↦Ω (nil? p374.snd) fun _↦Ω (uncons? p374.fst) fun p376↦Ω (AV.bool? p376.fst) fun b377↦Ω (uncons? p376.snd) fun p378↦Ω (AV.list? 2 p378.fst) fun es379↦Ω (nil? p378.snd) fun _↦Ω (nil? p371.snd) fun _↦bif !b351 then q21_l2_0 x339 b361 es363 b377 es379 else bif decide (x339>0) then if 0≤ω ı (Int.sub x339 1) then Ω l342[τ (ω ı (Int.sub x339 1))]? fun cs382↦Ω (uncons? cs382) fun p383↦Ω (AV.int? υ p383.fst) fun n384↦Ω (nil? p383.snd) fun _↦if 0≤x339 then Ω l342[τ x339]? fun cs386↦Ω (uncons? cs386) fun p387↦Ω (AV.int? υ p387.fst) fun n388↦Ω (nil? p387.snd) fun _↦bif decide (n384≥n388) then q21_l2_0 x339 b361 es363 b377 es379 else q21_l2_1 b338 x339 b340 l341 l342 b343 b361 es363 b377 es379 else none else none else q21_l2_1 b338 x339 b340 l341 l342 b343 b361 es363 b377 es379 else none else some (Out.jump (JX.exit 4) [vbool b338,vi x339],[Ob.mk OK.box 36 2 0 [[vbool b344,AV.list 0 2 l345]],Ob.mk OK.dead 26 1 1 [],Ob.mk OK.dead 26 1 1 [],Ob.mk OK.box 36 2 0 [[vbool b346,AV.list 0 2 l347]]]):=by
 intros
 exact(E_ov f78_true [188,142] _ _ _).trans (by kernel_rfl)
noncomputable def q21_l2_l3_0:Int →
 Bool →
 Bool →
 List (List AV) →
 List (List AV) →
 Bool→Int→Bool→List (List AV)→Bool→List (List AV)→Option (Out×Heap) :=
 fun x391 b392 b393 l394 l395 b396 x397 b398 l399 b400 l401 ↦
 E cx
 (Key.loop 21
 [true,true,true,true,true,true,true,true,true,true,false,true,false,false,true,false,false,true,false,true,false])
 [vbool true,vi (ω ı (Int.add x391 1)),vbool b392,vbool b393,
 AV.list 0 1 l394,AV.list 0 1 l395,vbool b396,vi x397]
 [Ob.mk OK.box 36 2 0 [[vbool b398,AV.list 0 2 l399]],
 Ob.mk OK.dead 26 1 1 [],Ob.mk OK.dead 26 1 1 [],
 Ob.mk OK.box 36 2 0 [[vbool b400,AV.list 0 2 l401]]]
noncomputable def q21_l2_l3_1:Bool →
 Int →
 Bool →
 Bool →
 List (List AV) →
 List (List AV) →
 Bool→Int→Bool→List (List AV)→Bool→List (List AV)→Option (Out×Heap) :=
 fun b390 x391 b392 b393 l394 l395 b396 x397 b398 l399 b400 l401 ↦
 bif b390 then q21_l2_l3_0 x391 b392 b393 l394 l395 b396 x397 b398 l399 b400 l401
 else
 E cx
 (Key.loop 21
 [true,true,true,true,true,true,true,true,true,true,false,true,false,false,true,false,false,true,false,true,false])
 [AV.val (Value.tuple (Array.mk [])),vi (ω ı (Int.add x391 1)),vbool b392,
 vbool b393,AV.list 0 1 l394,AV.list 0 1 l395,vbool b396,vi x397]
 [Ob.mk OK.box 36 2 0 [[vbool b398,AV.list 0 2 l399]],
 Ob.mk OK.dead 26 1 1 [],Ob.mk OK.dead 26 1 1 [],
 Ob.mk OK.box 36 2 0 [[vbool b400,AV.list 0 2 l401]]]
noncomputable def q21_l2_l3_2:Bool →
 Int →
 Bool →
 Bool →
 List (List AV) →
 List (List AV) →
 Bool→Int→Bool→List (List AV)→Bool→List (List AV)→Option (Out×Heap) :=
 fun b390 x391 b392 b393 l394 l395 b396 x397 b398 l399 b400 l401 ↦
 bif decide (b390=false) then none else q21_l2_l3_1 b390 x391 b392 b393 l394 l395 b396 x397 b398 l399 b400 l401
noncomputable def q21_l2_l3_3:Bool →
 Int →
 Bool →
 Bool →
 List (List AV) →
 List (List AV) →
 Bool→Int→Bool→List (List AV)→Bool→List (List AV)→Option (Out×Heap) :=
 fun b390 x391 b392 b393 l394 l395 b396 x397 b398 l399 b400 l401 ↦
 bif decide (b390=false) then none else q21_l2_l3_2 b390 x391 b392 b393 l394 l395 b396 x397 b398 l399 b400 l401
noncomputable def q21_l2_l3_4:Bool →
 Int →
 Bool →
 Bool →
 List (List AV) →
 List (List AV) →
 Bool→Int→Bool→List (List AV)→Bool→List (List AV)→Option (Out×Heap) :=
 fun b390 x391 b392 b393 l394 l395 b396 x397 b398 l399 b400 l401 ↦
 bif decide (b390=false) then none else q21_l2_l3_3 b390 x391 b392 b393 l394 l395 b396 x397 b398 l399 b400 l401
noncomputable def q21_l2_l3_5:Bool →
 Int →
 Bool →
 Bool →
 List (List AV) →
 List (List AV) →
 Bool→Int→Bool→List (List AV)→Bool→List (List AV)→Option (Out×Heap) :=
 fun b390 x391 b392 b393 l394 l395 b396 x397 b398 l399 b400 l401 ↦
 bif decide (b390=false) then q21_l2_l3_4 b390 x391 b392 b393 l394 l395 b396 x397 b398 l399 b400 l401
 else q21_l2_l3_4 b390 x391 b392 b393 l394 l395 b396 x397 b398 l399 b400 l401
noncomputable def q21_l2_l3_6:Bool →
 Int →
 List (List AV) →
 Int →
 Bool →
 Bool →
 List (List AV) →
 Bool→Bool→List (List AV)→Bool→List (List AV)→Option (Out×Heap) :=
 fun b390 x397 l395 x391 b392 b393 l394 b396 b398 l399 b400 l401 ↦
 bif decide (b390=false) then
 bif decide (b390=false) then
 bif decide (b390=false) then
 if 0≤x397 then
 Ω l395[τ x397]? fun cs410 ↦
 Ω (uncons? cs410) fun p411 ↦
 Ω (AV.int? υ p411.fst) fun _ ↦
 Ω (nil? p411.snd) fun _ ↦
 bif decide (b390=false) then q21_l2_l3_2 b390 x391 b392 b393 l394 l395 b396 x397 b398 l399 b400 l401
 else q21_l2_l3_2 b390 x391 b392 b393 l394 l395 b396 x397 b398 l399 b400 l401
 else none
 else q21_l2_l3_3 b390 x391 b392 b393 l394 l395 b396 x397 b398 l399 b400 l401
 else q21_l2_l3_4 b390 x391 b392 b393 l394 l395 b396 x397 b398 l399 b400 l401
 else q21_l2_l3_5 b390 x391 b392 b393 l394 l395 b396 x397 b398 l399 b400 l401
noncomputable def q21_l2_l3_7:Bool →
 Int →
 List (List AV) →
 Int →
 Bool →
 Bool →
 List (List AV) →
 Bool→Bool→List (List AV)→Bool→List (List AV)→Option (Out×Heap) :=
 fun b390 x397 l395 x391 b392 b393 l394 b396 b398 l399 b400 l401 ↦
 bif decide (b390=false) then none else q21_l2_l3_6 b390 x397 l395 x391 b392 b393 l394 b396 b398 l399 b400 l401
noncomputable def q21_l2_l3_8:Bool →
 Int →
 List (List AV) →
 Int →
 Bool →
 Bool →
 List (List AV) →
 Bool→Bool→List (List AV)→Bool→List (List AV)→Option (Out×Heap) :=
 fun b390 x397 l395 x391 b392 b393 l394 b396 b398 l399 b400 l401 ↦
 bif decide (b390=false) then none else q21_l2_l3_7 b390 x397 l395 x391 b392 b393 l394 b396 b398 l399 b400 l401
theorem f21_l2_l3:∀(b390:Bool) (x391:Int) (b392 b393:Bool) (l394 l395:List (List AV)) (b396:Bool) (x397:Int) (b398:Bool) (l399:List (List AV)) (b400:Bool) (l401:List (List AV)),E cx (Key.loop 21 [true,true,true,true,true,true,true,true,true,true,false,true,false,false,true,false,false,true,false,true,false]) [vbool b390,vi x391,vbool b392,vbool b393,AV.list 0 1 l394,AV.list 0 1 l395,vbool b396,vi x397] [Ob.mk OK.box 36 2 0 [[vbool b398,AV.list 0 2 l399]],Ob.mk OK.dead 26 1 1 [],Ob.mk OK.dead 26 1 1 [],Ob.mk OK.box 36 2 0 [[vbool b400,AV.list 0 2 l401]]]=bif decide (x391<((ℓ l394):Int)) then bif decide (b390=false) then bif decide (b390=false) then bif decide (b390=false) then if 0≤x391 then Ω l394[τ x391]? fun cs402↦Ω (uncons? cs402) fun p403↦Ω (AV.int? υ p403.fst) fun n404↦Ω (nil? p403.snd) fun _↦bif decide (b390=false) then bif decide (b390=false) then bif decide (b390=false) then bif decide (b390=false) then if 0≤x397 then Ω l395[τ x397]? fun cs406↦Ω (uncons? cs406) fun p407↦Ω (AV.int? υ p407.fst) fun n408↦Ω (nil? p407.snd) fun _↦bif decide (b390=false) then bif decide (b390=false) then bif decide (n404=n408) then bif b390 then q21_l2_l3_0 x391 b392 b393 l394 l395 b396 x397 b398 l399 b400 l401 else q21_l2_l3_0 x391 b392 b393 l394 l395 b396 x397 b398 l399 b400 l401 else bif b390 then q21_l2_l3_0 x391 b392 b393 l394 l395 b396 x397 b398 l399 b400 l401 else E cx (Key.loop 21 [true,true,true,true,true,true,true,true,true,true,false,true,false,false,true,false,false,true,false,true,false]) [vbool false,vi (ω ı (Int.add x391 1)),vbool b392,vbool b393,AV.list 0 1 l394,AV.list 0 1 l395,vbool b396,vi x397] [Ob.mk OK.box 36 2 0 [[vbool b398,AV.list 0 2 l399]],Ob.mk OK.dead 26 1 1 [],Ob.mk OK.dead 26 1 1 [],Ob.mk OK.box 36 2 0 [[vbool b400,AV.list 0 2 l401]]] else q21_l2_l3_1 b390 x391 b392 b393 l394 l395 b396 x397 b398 l399 b400 l401 else q21_l2_l3_2 b390 x391 b392 b393 l394 l395 b396 x397 b398 l399 b400 l401 else none else q21_l2_l3_3 b390 x391 b392 b393 l394 l395 b396 x397 b398 l399 b400 l401 else q21_l2_l3_4 b390 x391 b392 b393 l394 l395 b396 x397 b398 l399 b400 l401 else q21_l2_l3_5 b390 x391 b392 b393 l394 l395 b396 x397 b398 l399 b400 l401 else q21_l2_l3_6 b390 x397 l395 x391 b392 b393 l394 b396 b398 l399 b400 l401 else none else q21_l2_l3_7 b390 x397 l395 x391 b392 b393 l394 b396 b398 l399 b400 l401 else q21_l2_l3_8 b390 x397 l395 x391 b392 b393 l394 b396 b398 l399 b400 l401 else bif decide (b390=false) then q21_l2_l3_8 b390 x397 l395 x391 b392 b393 l394 b396 b398 l399 b400 l401 else q21_l2_l3_8 b390 x397 l395 x391 b392 b393 l394 b396 b398 l399 b400 l401 else some (Out.jump (JX.exit 6) [vbool b390,vi x391],[Ob.mk OK.box 36 2 0 [[vbool b398,AV.list 0 2 l399]],Ob.mk OK.dead 26 1 1 [],Ob.mk OK.dead 26 1 1 [],Ob.mk OK.box 36 2 0 [[vbool b400,AV.list 0 2 l401]]]):=by
 intros
 exact(E_ov f78_true [188,142] _ _ _).trans (by kernel_rfl)
end
section
theorem goT' {ρ:Type}{x:Option (Out×Heap)}{b:Bool}(h:x=rb b) (hb:b=true) (k j:Option ρ):(x.bind fun r=>(ret1 r).bind fun v=>v.bool?.bind fun b=>bif b then k else j)=k:=by rw [h,hb];rfl
theorem wrS {i:Nat}(h:i≤4000000):ω .i64 (Int.add (i:Int) 1)=((i+1:Nat):Int):=(wr_add (b:=1) (by omega) (by omega)).trans (by omega)
abbrev pA:List Bool:=[true,true,true,true,true,true,true,true,false,true,false]
abbrev pC:List Bool:=[true,true,true,true,true,true,true,true,true,true,false,true,false]
abbrev pD:List Bool:=[true,true,true,true,true,true,true,true,true,true,false,true,false,false,true,false,false,true,false,true,false]
abbrev pB:List Bool:=[true,true,true,true,true,true,true,true,false,true,false,false,true,false,false,true,false]
abbrev H21 (s t:List P2):Heap:=[⟨.box,36,2,0,[[vbool false,.list 0 2 (prs s)]]⟩,⟨.dead,26,1,1,[]⟩,⟨.dead,26,1,1,[]⟩,⟨.box,36,2,0,[[vbool false,.list 0 2 (prs t)]]⟩]
theorem inA (k l:List Nat) (c d e:Bool) (x y:Int) (s t:List P2) {i:Nat}(hi:i<k.length) (hl:k.length≤1000):∀(n j:Nat) (b:Bool),j+n=i→E cx (Key.loop 21 pB) [vbool b,vi j,vbool c,vbool d,.list 0 1 (rowsN k),.ptr 0 0 0 0,vi x,.ptr 3 0 0 0,vi y,.list 0 1 (rowsN l),vbool e,vi i] (H21 s t)=some (Out.jump (.exit 2) [vbool (b&& !((k.take i).drop j).contains k[i]),vi i],H21 s t):=by
 intro n
 induction n with
 |zero =>
  intro j b hj
  have:j=i:=by omega
  subst this
  rw [List.drop_eq_nil_of_le (by simp;omega)]
  refine(f21_l0_l1 _ _ _ _ _ _ _ _ _ _ _ _ _ _).trans ((goDn (by omega) _ _).trans ?_)
  simp
 |succ n ih =>
  intro j b hj
  have hj2:j<k.length:=by omega
  have hdr:(k.take i).drop j=k[j]::(k.take i).drop (j+1):=by
   have h:j<(k.take i).length:=by rw [List.length_take];omega
   rw [List.drop_eq_getElem_cons h]
   congr 1
   simp
  rw [hdr,List.contains_cons]
  have st:=(f21_l0_l1 b (j:Int) c d (rowsN k) x y (rowsN l) e (i:Int) false (prs s) false (prs t)).trans (goD (by omega) _ _)
  cases b with
  |false =>
   refine st.trans (Eq.trans (b:=q21_l0_l1_0 j c d (rowsN k) x y (rowsN l) e i false (prs s) false (prs t)) rfl ?_)
   unfold q21_l0_l1_0
   rw [wrS (by omega)]
   exact ih (j+1) false (by omega)
  |true =>
   refine st.trans ((goD rfl _ _).trans ((goD rfl _ _).trans ((goD rfl _ _).trans ((goY (by omega) _ _).trans ((goRn' (n:=i) rfl (η hi) _).trans
    ((goD rfl _ _).trans ((goD rfl _ _).trans ((goD rfl _ _).trans ((goD rfl _ _).trans ((goY (by omega) _ _).trans ((goRn' (n:=j) rfl (η hj2) _).trans ((goD rfl _ _).trans ((goD rfl _ _).trans ?_)))))))))))))
   by_cases he:k[i]=k[j]
   ·refine(goE (by rw [he]) _ _).trans (Eq.trans (b:=q21_l0_l1_0 j c d (rowsN k) x y (rowsN l) e i false (prs s) false (prs t)) rfl ?_)
    unfold q21_l0_l1_0
    rw [wrS (by omega),he]
    refine(ih (j+1) false (by omega)).trans ?_
    simp
   ·refine(goEn (by omega) _ _).trans ?_
    rw [wrS (by omega)]
    refine(ih (j+1) true (by omega)).trans ?_
    rw [show(k[i]==k[j])=false by simpa using he]
    rfl
theorem nodup_take (k:List Nat) {i:Nat}(hi:i<k.length):((decide ((k.take i).Nodup))&& !((k.take i).drop 0).contains k[i])=decide ((k.take (i+1)).Nodup):=by
 rw [List.drop_zero,List.take_add_one,η hi]
 rw [Bool.eq_iff_iff]
 simp only [Bool.and_eq_true,decide_eq_true_eq,Bool.not_eq_true',Option.toList_some,List.nodup_append]
 constructor
 ·rintro⟨h1,h2⟩
  refine⟨h1,by simp,fun a ha b hb e=> ?_⟩
  simp only [List.mem_singleton] at hb
  subst hb
  rw [←e] at h2
  rw [List.contains_iff_mem.2 ha] at h2
  cases h2
 ·rintro⟨h1,_,h3⟩
  refine⟨h1,?_⟩
  rw [←Bool.not_eq_true]
  intro hc
  exact h3 _ (List.contains_iff_mem.1 hc) k[i] (by simp) rfl
theorem loopA (k l:List Nat) (c d e:Bool) (x y:Int) (s t:List P2) (hl:k.length≤1000):∀(n i:Nat),i+n=k.length→E cx (Key.loop 21 pA) [vbool (decide ((k.take i).Nodup)),vi i,vbool c,vbool d,.list 0 1 (rowsN k),.ptr 0 0 0 0,vi x,.ptr 3 0 0 0,vi y,.list 0 1 (rowsN l),vbool e] (H21 s t)=some (Out.jump (.exit 0) [vbool (decide k.Nodup),vi k.length],H21 s t):=by
 intro n
 induction n with
 |zero =>
  intro i hi
  have:i=k.length:=by omega
  subst this
  rw [List.take_length]
  refine(f21_l0 _ _ _ _ _ _ _ _ _ _ _ _ _).trans ?_
  rw [rowsN_len]
  exact goDn (by omega) _ _
 |succ n ih =>
  intro i hi
  have hlt:i<k.length:=by omega
  have st:=f21_l0 (decide ((k.take i).Nodup)) (i:Int) c d (rowsN k) x y (rowsN l) e false (prs s) false (prs t)
  have hin:=inA k l c d e x y s t hlt hl i 0 (decide ((k.take i).Nodup)) (by omega)
  rw [nodup_take k hlt] at hin
  have hin':E cx (Key.loop 21 pB) [vbool (decide ((k.take i).Nodup)),vi 0,vbool c,vbool d,.list 0 1 (rowsN k),.ptr 0 0 0 0,vi x,.ptr 3 0 0 0,vi y,.list 0 1 (rowsN l),vbool e,vi i] (H21 s t)=_:=hin
  rw [rowsN_len,hin'] at st
  refine st.trans ((goD (by omega) _ _).trans ?_)
  show E cx (Key.loop 21 pA) [vbool (decide ((k.take (i+1)).Nodup)),vi (ω .i64 (Int.add (i:Int) 1)),vbool c,vbool d,.list 0 1 (rowsN k),.ptr 0 0 0 0,vi x,.ptr 3 0 0 0,vi y,.list 0 1 (rowsN l),vbool e] (H21 s t)=_
  rw [wrS (by omega)]
  exact ih (i+1) (by omega)
theorem inC (k l:List Nat) (c d e:Bool) (s t:List P2) {i:Nat}(hi:i<l.length) (hl:k.length≤1000) (hl2:l.length≤4000000):∀(n j:Nat) (b:Bool),j+n=k.length→E cx (Key.loop 21 pD) [vbool b,vi j,vbool c,vbool d,.list 0 1 (rowsN k),.list 0 1 (rowsN l),vbool e,vi i] (H21 s t)=some (Out.jump (.exit 6) [vbool (b||(k.drop j).contains l[i]),vi k.length],H21 s t):=by
 intro n
 induction n with
 |zero =>
  intro j b hj
  have:j=k.length:=by omega
  subst this
  rw [List.drop_length]
  refine(f21_l2_l3 _ _ _ _ _ _ _ _ _ _ _ _).trans ?_
  rw [rowsN_len]
  refine(goDn (by omega) _ _).trans ?_
  simp
 |succ n ih =>
  intro j b hj
  have hj2:j<k.length:=by omega
  rw [List.drop_eq_getElem_cons hj2,List.contains_cons]
  have st:=f21_l2_l3 b (j:Int) c d (rowsN k) (rowsN l) e (i:Int) false (prs s) false (prs t)
  rw [rowsN_len] at st
  have st:=st.trans (goD (by omega) _ _)
  cases b with
  |true =>
   refine st.trans (Eq.trans (b:=q21_l2_l3_0 j c d (rowsN k) (rowsN l) e i false (prs s) false (prs t)) rfl ?_)
   unfold q21_l2_l3_0
   rw [wrS (by omega)]
   exact ih (j+1) true (by omega)
  |false =>
   refine st.trans ((goD rfl _ _).trans ((goD rfl _ _).trans ((goD rfl _ _).trans ((goY (by omega) _ _).trans ((goRn' (n:=j) rfl (η hj2) _).trans
    ((goD rfl _ _).trans ((goD rfl _ _).trans ((goD rfl _ _).trans ((goD rfl _ _).trans ((goY (by omega) _ _).trans ((goRn' (n:=i) rfl (η hi) _).trans ((goD rfl _ _).trans ((goD rfl _ _).trans ?_)))))))))))))
   by_cases he:k[j]=l[i]
   ·refine(goD (by rw [he]) _ _).trans (Eq.trans (b:=q21_l2_l3_0 j c d (rowsN k) (rowsN l) e i false (prs s) false (prs t)) rfl ?_)
    unfold q21_l2_l3_0
    rw [wrS (by omega),he]
    refine(ih (j+1) true (by omega)).trans ?_
    simp
   ·refine(goDn (by omega) _ _).trans ?_
    show E cx (Key.loop 21 pD) [vbool false,vi (ω .i64 (Int.add (j:Int) 1)),vbool c,vbool d,.list 0 1 (rowsN k),.list 0 1 (rowsN l),vbool e,vi i] (H21 s t)=_
    rw [wrS (by omega)]
    refine(ih (j+1) false (by omega)).trans ?_
    rw [show(l[i]==k[j])=false by simp;exact fun h=>he h.symm]
    rfl
theorem loopC (k l:List Nat) (b d e:Bool) (s t:List P2) (hl:k.length≤1000) (hl2:l.length≤4000000) (hsub:∀x∈l,x∈k) (hinc:∀i (h:i+1<l.length),l[i]<l[i+1]):∀(n i:Nat),i+n=l.length→E cx (Key.loop 21 pC) [vbool b,vi i,vbool d,.list 0 1 (rowsN k),.list 0 1 (rowsN l),vbool e] (H21 s t)=some (Out.jump (.exit 4) [vbool b,vi l.length],H21 s t):=by
 intro n
 induction n with
 |zero =>
  intro i hi
  have:i=l.length:=by omega
  subst this
  refine(f21_l2 _ _ _ _ _ _ _ _ _ _).trans ?_
  rw [rowsN_len]
  exact goDn (by omega) _ _
 |succ n ih =>
  intro i hi
  have hlt:i<l.length:=by omega
  have st:=f21_l2 b (i:Int) d (rowsN k) (rowsN l) e false (prs s) false (prs t)
  have hin:=inC k l b d e s t hlt hl hl2 k.length 0 false (by omega)
  rw [List.drop_zero,show k.contains l[i]=true by simpa using hsub _ (List.getElem_mem hlt)] at hin
  have hin':E cx (Key.loop 21 pD) [vbool false,vi 0,vbool b,vbool d,.list 0 1 (rowsN k),.list 0 1 (rowsN l),vbool e,vi i] (H21 s t)=_:=hin
  rw [rowsN_len,hin'] at st
  have fin:q21_l2_1 b i d (rowsN k) (rowsN l) e false (prs s) false (prs t)=some (Out.jump (.exit 4) [vbool b,vi l.length],H21 s t):=by
   unfold q21_l2_1
   rw [wrS (by omega)]
   exact ih (i+1) (by omega)
  refine st.trans ((goD (by omega) _ _).trans ?_)
  refine Eq.trans (b:=(bif decide ((i:Int)>0) then
   if 0≤ω ı (Int.sub (i:Int) 1) then
   Ω (rowsN l)[τ (ω ı (Int.sub (i:Int) 1))]? fun cs382 ↦
   Ω (uncons? cs382) fun p383↦Ω (AV.int? υ p383.fst) fun n384↦Ω (nil? p383.snd) fun _ ↦
   if 0≤(i:Int) then Ω (rowsN l)[τ (i:Int)]? fun cs386↦Ω (uncons? cs386) fun p387↦Ω (AV.int? υ p387.fst) fun n388↦Ω (nil? p387.snd) fun _ ↦
   bif decide (n384≥n388) then q21_l2_0 i false (prs s) false (prs t) else q21_l2_1 b i d (rowsN k) (rowsN l) e false (prs s) false (prs t) else none else none
   else q21_l2_1 b i d (rowsN k) (rowsN l) e false (prs s) false (prs t))) rfl ?_
  by_cases h0:i=0
  ·exact(goDn (by omega) _ _).trans fin
  ·obtain⟨i0,rfl⟩:∃i0,i=i0+1:=⟨i-1,by omega⟩
   have hw:ω ı (Int.sub ((i0+1:Nat):Int) 1)=(i0:Int):=(wr_sub (b:=1) (by omega) (by omega)).trans (by omega)
   rw [hw]
   refine(goD (by omega) _ _).trans ((goY (by omega) _ _).trans ((goRn' (n:=i0) rfl (η (by omega)) _).trans ((goY (by omega) _ _).trans ((goRn' (n:=i0+1) rfl (η hlt) _).trans ?_))))
   have:=hinc i0 hlt
   exact(goDn (by omega) _ _).trans fin
theorem goKy' {ρ:Type}{x:Option (Out×Heap)}{r:List Nat×Bool}(h:RK x r) (k:List (List AV)→Bool→AV×List AV→Option ρ):(x.bind fun r=>(ret1 r).bind fun v=>v.tup?.bind fun vs=>(uncons? vs).bind fun p1=>(AV.list? 1 p1.fst).bind fun l=>(uncons? p1.snd).bind fun p2=>(AV.bool? p2.fst).bind fun b=>k l b p2)=k (rowsN r.1) r.2 (vbool r.2,[]):=by
 obtain⟨a,rfl,ha⟩:=h
 show(Ω (AV.list? 1 a) fun l=>k l r.2 (vbool r.2,[]))=_
 rw [ha]
 rfl
theorem take0 (k:List Nat) (n:Nat):List.drop 0 (List.take (τ (n:Int)) (rowsN k))=rowsN (k.take n):=by
 rw [List.drop_zero,Int.toNat_natCast]
 exact List.map_take.symm
theorem drop1 (k:List Nat) (n:Nat):List.drop (τ (n:Int)) (List.take k.length (rowsN k))=rowsN (k.drop n):=by
 rw [←rowsN_len k,List.take_length,Int.toNat_natCast]
 exact List.map_drop.symm
theorem keysR_nd (r:Nat) (k:List Nat) (hl:k.length≤2048):keysR (sgn r k) r=if k.Nodup then(keysL (sgn r k),true) else([],false):=by
 unfold keysR
 by_cases h:k.Nodup
 ·rw [if_pos h,if_pos ((keysR_iff _ _).2 ⟨sgn_sw h,by rw [sgn_len];exact hl,fun p hp=>(sgn_mem.1 hp).2⟩)]
 ·rw [if_neg h,if_neg]
  intro hc
  have hs:=((keysR_iff _ _).1 hc).1
  apply h
  have hn:(sgn r k).Nodup:=hs.imp fun {a b} hab e=>by
   subst e
   rw [ltP_irr] at hab
   cases hab
  have hm:(keysL (sgn r k)).Nodup:=by
   unfold keysL
   refine List.pairwise_map.2 (List.Pairwise.imp_of_mem (fun {a b} ha hb hab e=>hab ?_) hn)
   exact Prod.ext e ((sgn_mem.1 ha).2.trans (sgn_mem.1 hb).2.symm)
  exact((sgn_keys r k).nodup_iff).1 hm
theorem keys_inc (r:Nat) (k:List Nat) (h:k.Nodup):∀i (hi:i+1<(keysL (sgn r k)).length),(keysL (sgn r k))[i]<(keysL (sgn r k))[i+1]:=by
 intro i hi
 have hl:i+1<(sgn r k).length:=by simpa [keysL] using hi
 have hlt:=List.pairwise_iff_getElem.1 (sgn_sw (r:=r) h) i (i+1) (by omega) hl (by omega)
 have e1:=(sgn_mem.1 (List.getElem_mem (h:=(by omega:i<(sgn r k).length)))).2
 have e2:=(sgn_mem.1 (List.getElem_mem hl)).2
 have h2:(sgn r k)[i].1<(sgn r k)[i+1].1∨(sgn r k)[i].1=(sgn r k)[i+1].1∧(sgn r k)[i].2<(sgn r k)[i+1].2:=by
  unfold ltP at hlt
  simpa using hlt
 simp only [keysL,List.getElem_map]
 omega
theorem goNd {ρ:Type}{p:Prop} [Decidable p] (h:p) (k j:Option ρ):(bif !decide p then k else j)=j:=by rw [decide_eq_true h];rfl
theorem goNm {ρ:Type}{a b:Nat}(h:a*8≤b) (k j:Option ρ):(if Nat.mul a 8≤b then k else j)=k:=if_pos h
theorem law21 (keys:List Nat) (root:Nat) (turn:Int) (hk:∀k∈keys,U8 k) (hr:U8 root) (ht:RI turn):E cx (Key.fn 21) [.list 0 1 (rowsN keys),vu root,vi turn] []=rb true:=by
 refine(f21 _ _ _).trans ?_
 rw [rowsN_len]
 have e1:(if(20:Int)<((keys.length:Nat):Int) then(20:Int) else((keys.length:Nat):Int))=((min 20 keys.length:Nat):Int):=clip 20 keys.length
 rw [e1,clipN]
 have hkl:(keys.take 20).length≤20:=by simp;omega
 have hU:=take_U8 20 hk
 generalize hkk:keys.take 20=k at *
 rw [rowsN_len,show ω ı (Int.add (k.length:Int) 1)=(k.length:Int)+1 from wr_add (by omega) (by omega)]
 refine(goY (by omega) _ _).trans ((goY (by omega) _ _).trans ((goI (c94 ht (by omega)) _).trans ((goTok (t93 root k (by omega)) _).trans ?_)))
 have hp:=pickI_lt (c:=turn) (n:=(k.length:Int)+1) (by omega)
 obtain⟨n,hn⟩:∃n:Nat,pickI turn ((k.length:Int)+1)=(n:Int):=⟨(pickI turn ((k.length:Int)+1)).toNat,by omega⟩
 rw [hn] at hp ⊢
 rw [take0,drop1]
 have hX:(k.drop n).length≤20:=by simp;omega
 have hY:(k.take n).length≤20:=by simp;omega
 have harg:List.drop 0 (List.take (Nat.add 0 (Nat.add ([]++rowsN (k.drop n)).length (rowsN (k.take n)).length)) (([]++rowsN (k.drop n))++rowsN (k.take n)))=rowsN (k.drop n++k.take n):=by
  rw [List.drop_zero,List.nil_append,show Nat.add 0 (Nat.add (rowsN (k.drop n)).length (rowsN (k.take n)).length)=(rowsN (k.drop n)++rowsN (k.take n)).length by rw [List.length_append];exact Nat.zero_add _,List.take_length]
  exact List.map_append.symm
 have hperm:(k.drop n++k.take n).Perm k:=List.perm_append_comm.trans (by rw [List.take_append_drop])
 have h93:RTok (E cx (Key.fn 93) [vu root,.list 0 1 (List.drop 0 (List.take (Nat.add 0 (Nat.add ([]++rowsN (k.drop n)).length (rowsN (k.take n)).length)) (([]++rowsN (k.drop n))++rowsN (k.take n))))] []) false (sgn root k) 0:=by
  rw [harg]
  have:=t93 root (k.drop n++k.take n) (by rw [hperm.length_eq];omega)
  rwa [sgn_congr hperm] at this
 have h42:=c42 false (sgn root k) root (by rw [sgn_len];omega)
 rw [keysR_nd root k (by omega)] at h42
 refine(goY (by omega) _ _).trans ((goY (by omega) _ _).trans ?_)
 rw [ysOk_rowsN,ysOk_rowsN]
 refine(goTb _ _).trans ((goNm (by rw [rowsN_len];show(0+(k.drop n).length)*8≤_;omega) _ _).trans ((goY (by omega) _ _).trans ((goY (by omega) _ _).trans ((goTb _ _).trans ((goCk (by show 0+_=_;simp) _).trans
  ((goNm (by show((([]++rowsN (k.drop n)).length)+(rowsN (k.take n)).length)*8≤_;rw [List.nil_append,rowsN_len,rowsN_len];omega) _ _).trans ((goLe (by show 0+(([]++rowsN (k.drop n)).length+(rowsN (k.take n)).length)≤_;simp) _).trans ((goTok h93 _).trans ?_))))))))
 by_cases hnd:k.Nodup
 ·rw [if_pos hnd] at h42
  refine(goKy' h42 _).trans ?_
  have hA:=loopA k (keysL (sgn root k)) false true true 0 0 (sgn root k) (sgn root k) (by omega) k.length 0 (by omega)
  rw [show decide ((k.take 0).Nodup)=true by simp,decide_eq_true hnd] at hA
  have hll:(keysL (sgn root k)).length=k.length:=(sgn_keys root k).length_eq
  have hC:=loopC k (keysL (sgn root k)) false true true (sgn root k) (sgn root k) (by omega) (by omega) (fun x hx=>(sgn_keys root k).mem_iff.1 hx) (keys_inc root k hnd) (keysL (sgn root k)).length 0 (by omega)
  have hA':E cx (Key.loop 21 pA) [vbool true,vi 0,vbool false,vbool true,.list 0 1 (rowsN k),.ptr 0 0 0 0,vi 0,.ptr 3 0 0 0,vi 0,.list 0 1 (rowsN (keysL (sgn root k))),vbool true] (H21 (sgn root k) (sgn root k))=_:=hA
  have hC':E cx (Key.loop 21 pC) [vbool false,vi 0,vbool true,.list 0 1 (rowsN k),.list 0 1 (rowsN (keysL (sgn root k))),vbool true] (H21 (sgn root k) (sgn root k))=_:=hC
  show(Ω (E cx (Key.loop 21 pA) [vbool true,vi 0,vbool false,vbool true,.list 0 1 (rowsN k),.ptr 0 0 0 0,vi 0,.ptr 3 0 0 0,vi 0,.list 0 1 (rowsN (keysL (sgn root k))),vbool true] (H21 (sgn root k) (sgn root k))) _)=_
  rw [hA']
  show(bif (0:Int) !=0 then rb false else bif (0:Int) !=0 then rb false else Ω (E cx (Key.fn 47) [.agg [vbool false,.list 0 2 (prs (sgn root k))],.agg [vbool false,.list 0 2 (prs (sgn root k))]] []) _)=_
  refine(goE rfl _ _).trans ((goE rfl _ _).trans ((goT' (c47 false false _ _ (by rw [sgn_len];omega)) (by simp) _ _).trans ((goNd rfl _ _).trans ((goE (by rw [prs_len,sgn_len]) _ _).trans ((goFb _ _).trans ?_)))))
  show(Ω (E cx (Key.loop 21 pC) [vbool false,vi 0,vbool true,.list 0 1 (rowsN k),.list 0 1 (rowsN (keysL (sgn root k))),vbool true] (H21 (sgn root k) (sgn root k))) _)=_
  rw [hC']
  show(bif decide (((rowsN (keysL (sgn root k))).length:Int)=(k.length:Int)) then rb true else rb false)=rb true
  rw [rowsN_len,hll]
  exact goD rfl _ _
 ·rw [if_neg hnd] at h42
  refine(goKy' h42 _).trans ?_
  have hA:=loopA k [] false true false 0 0 (sgn root k) (sgn root k) (by omega) k.length 0 (by omega)
  rw [show decide ((k.take 0).Nodup)=true by simp,decide_eq_false hnd] at hA
  have hC:=loopC k [] false true false (sgn root k) (sgn root k) (by omega) (by simp) (by simp) (fun i h=>by simp at h) 0 0 rfl
  have hA':E cx (Key.loop 21 pA) [vbool true,vi 0,vbool false,vbool true,.list 0 1 (rowsN k),.ptr 0 0 0 0,vi 0,.ptr 3 0 0 0,vi 0,.list 0 1 (rowsN []),vbool false] (H21 (sgn root k) (sgn root k))=_:=hA
  have hC':E cx (Key.loop 21 pC) [vbool false,vi 0,vbool true,.list 0 1 (rowsN k),.list 0 1 (rowsN []),vbool false] (H21 (sgn root k) (sgn root k))=_:=hC
  show(Ω (E cx (Key.loop 21 pA) [vbool true,vi 0,vbool false,vbool true,.list 0 1 (rowsN k),.ptr 0 0 0 0,vi 0,.ptr 3 0 0 0,vi 0,.list 0 1 (rowsN []),vbool false] (H21 (sgn root k) (sgn root k))) _)=_
  rw [hA']
  show(bif (0:Int) !=0 then rb false else bif (0:Int) !=0 then rb false else Ω (E cx (Key.fn 47) [.agg [vbool false,.list 0 2 (prs (sgn root k))],.agg [vbool false,.list 0 2 (prs (sgn root k))]] []) _)=_
  refine(goE rfl _ _).trans ((goE rfl _ _).trans ((goT' (c47 false false _ _ (by rw [sgn_len];omega)) (by simp) _ _).trans ((goNd rfl _ _).trans ((goE (by rw [prs_len,sgn_len]) _ _).trans ((goFb _ _).trans ?_)))))
  show(Ω (E cx (Key.loop 21 pC) [vbool false,vi 0,vbool true,.list 0 1 (rowsN k),.list 0 1 (rowsN []),vbool false] (H21 (sgn root k) (sgn root k))) _)=_
  rw [hC']
  rfl
end
end Go.Proofs.Av
