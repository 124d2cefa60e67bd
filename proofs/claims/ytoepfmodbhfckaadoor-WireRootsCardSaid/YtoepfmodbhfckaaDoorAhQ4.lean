/- WireRoots is true. -/
import Derived.Test.YtoepfmodbhfckaaDoorAhY4
set_option maxRecDepth 100000
namespace Go.Proofs.Av
open Go
open Go.IntKind renaming wrap→ω
def sumV (v:BitVec 64) (b:UInt8):BitVec 64:=(v ^^^ BitVec.ofNat 64 b.toNat)*1099511628211#64
theorem wrap_bv (z:Int):ω .u64 z=((BitVec.ofInt 64 z).toNat:Int):=by
 simp only [ω,IntKind.bits,IntKind.signed]
 rw [BitVec.toNat_ofInt]
 have h:(0:Int)≤z%18446744073709551616:=Int.emod_nonneg _ (by omega)
 simp
 omega
theorem ofInt_toNat (v:BitVec 64):BitVec.ofInt 64 ((v.toNat:Nat):Int)=v:=by
 rw [BitVec.ofInt_natCast,BitVec.ofNat_toNat,BitVec.setWidth_eq]
theorem step_bv (h:Int) (b:UInt8):BitVec.ofInt 64 (stepS h b)=sumV (BitVec.ofInt 64 h) b:=by
 unfold stepS sumV ixor
 rw [wrap_bv (Int.mul _ _),ofInt_toNat]
 show BitVec.ofInt 64 (_*_)=_
 rw [BitVec.ofInt_mul,wrap_bv,wrap_bv,ofInt_toNat]
 show BitVec.ofInt 64 (((BitVec.ofInt 64 h ^^^ BitVec.ofInt 64 (((BitVec.ofInt 64 ((UInt8.toNat b:Nat):Int)).toNat:Nat):Int):BitVec 64).toNat:Nat):Int)*_=_
 rw [ofInt_toNat,ofInt_toNat,BitVec.ofInt_natCast]
 rfl
theorem sum_bv:∀(l:B) (h:Int),BitVec.ofInt 64 (sumS h l)=l.foldl sumV (BitVec.ofInt 64 h)
 | [],h=>rfl
 |b::l,h=>by
  show BitVec.ofInt 64 (sumS (stepS h b) l)=_
  rw [sum_bv l,step_bv]
  rfl
theorem mul_inj {v w:BitVec 64}(h:v*1099511628211#64=w*1099511628211#64):v=w:=by
 have hp:(1099511628211#64)*(14886173955864302971#64)=1#64:=by decide
 have:=congrArg (fun x=>x*14886173955864302971#64) h
 simp only [BitVec.mul_assoc,hp,BitVec.mul_one] at this
 exact this
theorem xor_inj_left {a b c:BitVec 64}(h:a ^^^ c=b ^^^ c):a=b:=by
 have:=congrArg (fun x=>x ^^^ c) h
 simp only [BitVec.xor_assoc,BitVec.xor_self,BitVec.xor_zero] at this
 exact this
theorem step_h {v w:BitVec 64}{b:UInt8}(h:sumV v b=sumV w b):v=w:=xor_inj_left (mul_inj h)
theorem step_b {v:BitVec 64}{b c:UInt8}(h:sumV v b=sumV v c):b=c:=by
 have h1:=mul_inj h
 have h2:BitVec.ofNat 64 b.toNat=BitVec.ofNat 64 c.toNat:=by
  have:=congrArg (fun x=>v ^^^ x) h1
  simp only [←BitVec.xor_assoc,BitVec.xor_self,BitVec.zero_xor] at this
  exact this
 have h3:=congrArg BitVec.toNat h2
 rw [BitVec.toNat_ofNat,BitVec.toNat_ofNat] at h3
 have hb:=b.toNat_lt
 have hc:=c.toNat_lt
 apply UInt8.toNat_inj.1
 omega
theorem fold_h:∀(l:B) {v w:BitVec 64},l.foldl sumV v=l.foldl sumV w→v=w
 | [],_v,_w,h=>h
 | _b::l,_v,_w,h=>step_h (fold_h l h)
theorem put_xor (c:UInt8):∀(n k w:Nat),k<n→∃(pre suf:B) (b:UInt8),put w n=pre++b::suf∧put (w ^^^ (c.toNat*256 ^ k)) n=pre++UInt8.ofNat (b.toNat ^^^ c.toNat)::suf
 | 0,k,w,h=>by omega
 |n+1,0,w,_=>by
  have hc:=c.toNat_lt
  have hd:(w ^^^ c.toNat)/256=w/256:=by
   rw [show(256:Nat)=2 ^ 8 from rfl,Nat.xor_div_two_pow,Nat.div_eq_of_lt (show c.toNat<2 ^ 8 by omega),Nat.xor_zero]
  have hm:(w ^^^ c.toNat)%256=w%256 ^^^ c.toNat:=by
   rw [show(256:Nat)=2 ^ 8 from rfl,Nat.xor_mod_two_pow,Nat.mod_eq_of_lt (show c.toNat<2 ^ 8 by omega)]
  refine⟨[],put (w/256) n,UInt8.ofNat (w%256),rfl,?_⟩
  rw [Nat.pow_zero,Nat.mul_one]
  show UInt8.ofNat ((w ^^^ c.toNat)%256)::put ((w ^^^ c.toNat)/256) n=_
  rw [hd,hm,UInt8.toNat_ofNat',Nat.mod_eq_of_lt (show w%256<2 ^ 8 by omega)]
  rfl
 |n+1,k+1,w,h=>by
  obtain⟨pre,suf,b,h1,h2⟩:=put_xor c n k (w/256) (by omega)
  have e:c.toNat*256 ^ (k+1)=256*(c.toNat*256 ^ k):=by rw [Nat.pow_succ];ac_rfl
  have hd:(w ^^^ c.toNat*256 ^ (k+1))/256=w/256 ^^^ c.toNat*256 ^ k:=by
   rw [e,show(256:Nat)=2 ^ 8 from rfl,Nat.xor_div_two_pow,Nat.mul_div_cancel_left _ (by decide)]
  have hm:(w ^^^ c.toNat*256 ^ (k+1))%256=w%256:=by
   rw [e,show(256:Nat)=2 ^ 8 from rfl,Nat.xor_mod_two_pow,Nat.mul_mod_right,Nat.xor_zero]
  refine⟨UInt8.ofNat (w%256)::pre,suf,b,?_,?_⟩
  ·show UInt8.ofNat (w%256)::put (w/256) n=_
   rw [h1];rfl
  ·show UInt8.ofNat ((w ^^^ c.toNat*256 ^ (k+1))%256)::put ((w ^^^ c.toNat*256 ^ (k+1))/256) n=_
   rw [hd,hm,h2];rfl
theorem wB_app (a b:List Nat):wB (a++b)=wB a++wB b:=by simp [wB]
theorem root_xor (i:Int) (l1 l2:List Nat) (w k:Nat) (hk:k<8) (c:UInt8):sumS i (wB (l1++w::l2))=sumS i (wB (l1++(w ^^^ (c.toNat*256 ^ k))::l2))↔c.toNat=0:=by
 constructor
 ·intro h
  obtain⟨pre,suf,b,h1,h2⟩:=put_xor c 8 k w hk
  have hb:=congrArg (BitVec.ofInt 64) h
  rw [sum_bv,sum_bv,wB_app,wB_app,wB_cons,wB_cons,h1,h2] at hb
  simp only [List.foldl_append,List.foldl_cons] at hb
  have e1:=step_b (fold_h _ (fold_h _ hb))
  have e2:=congrArg UInt8.toNat e1
  have hbl:=b.toNat_lt
  have hcl:=c.toNat_lt
  have hx:b.toNat ^^^ c.toNat<2 ^ 8:=Nat.xor_lt_two_pow (by omega) (by omega)
  rw [UInt8.toNat_ofNat',Nat.mod_eq_of_lt hx] at e2
  have e3:=congrArg (fun x=>b.toNat ^^^ x) e2
  simp only [Nat.xor_self,←Nat.xor_assoc,Nat.zero_xor] at e3
  exact e3.symm
 ·intro h
  rw [h,Nat.zero_mul,Nat.xor_zero]
theorem xor_u64 {d c k:Nat}(hd:U8 d) (hc:c<256) (hk:k<8):ixor .u64 (d:Int) (ishl .u64 (ω .u64 (c:Int)) (ω .i64 (Int.mul 8 (k:Int))))=((d ^^^ (c*256 ^ k):Nat):Int)∧U8 (d ^^^ (c*256 ^ k)):=by
 unfold U8 at hd ⊢
 have h8:ω .i64 (Int.mul 8 (k:Int))=((8*k:Nat):Int):=(wr_mul (a:=8) (by omega) (by omega)).trans (by omega)
 have hp:c*256 ^ k<2 ^ 64:=by
  have:256 ^ k≤256 ^ 7:=Nat.pow_le_pow_right (by omega) (by omega)
  have:c*256 ^ k≤255*256 ^ 7:=Nat.mul_le_mul (by omega) this
  omega
 have hx:d ^^^ (c*256 ^ k)<2 ^ 64:=Nat.xor_lt_two_pow (by omega) hp
 refine⟨?_,by omega⟩
 have hw:ω .u64 (c:Int)=(c:Int):=wu_id (by omega) (by omega)
 have hs:ishl .u64 (c:Int) ((8*k:Nat):Int)=((c*256 ^ k:Nat):Int):=by
  unfold ishl
  rw [Int.toNat_natCast,Nat.min_eq_left (show 8*k≤IntKind.bits .u64 from by show 8*k≤64;omega)]
  have:((c:Int)*2 ^ (8*k))=((c*256 ^ k:Nat):Int):=by
   rw [show(256:Nat)=2 ^ 8 from rfl,←Nat.pow_mul]
   push_cast
   rfl
  rw [this]
  exact wu_id (by omega) (by omega)
 rw [h8,hw,hs]
 unfold ixor
 show ω .u64 ((BitVec.ofInt 64 _ ^^^ BitVec.ofInt 64 _:BitVec 64).toNat:Int)=_
 rw [BitVec.ofInt_natCast,BitVec.ofInt_natCast,BitVec.toNat_xor,BitVec.toNat_ofNat,BitVec.toNat_ofNat,Nat.mod_eq_of_lt (show d<2 ^ 64 by omega),Nat.mod_eq_of_lt hp]
 exact wu_id (by omega) (by omega)
theorem q4end {p:Prop} [Decidable p] {c:UInt8}(h:p↔c.toNat=0):(bif decide p then q4_0 (c.toNat:Int) else q4_1 (c.toNat:Int))=rb true:=by
 unfold q4_0 q4_1
 by_cases hc:c.toNat=0
 ·rw [decide_eq_true (h.2 hc)]
  exact goD (by omega) _ _
 ·rw [decide_eq_false (fun x=>hc (h.1 x))]
  exact goDn (by omega) _ _
theorem c4 {d0 d1 d2 d3 d4:Nat}(h0:U8 d0) (h1:U8 d1) (h2:U8 d2) (h3:U8 d3) (h4:U8 d4) {which a:Int}(hw:RI which) (ha:RI a) (c:UInt8):E cx (Key.fn 4) [.agg [vu d0,vu d1,vu d2,vu d3,vu d4],vi which,vi a,vb c.toNat] []=rb true:=by
 have hk:=pickI_lt (c:=a) (n:=8) (by omega)
 have hp:=pickI_lt (c:=which) (n:=5) (by omega)
 obtain⟨k,hk'⟩:∃k:Nat,pickI a 8=k:=⟨(pickI a 8).toNat,by omega⟩
 have h8:ω .i64 (Int.mul 8 (k:Int))=((8*k:Nat):Int):=(wr_mul (a:=8) (by omega) (by omega)).trans (by omega)
 have hc:=c.toNat_lt
 refine(f4 _ _ _ _ _ _ _ _).trans ((goI (c95 ha (by omega)) _).trans ?_)
 rw [hk'] at hk ⊢
 refine(goN (by rw [h8];omega) _ _).trans ((goI (c95 hw (by omega)) _).trans ?_)
 have hkl:k<8:=by omega
 by_cases p0:pickI which 5=0
 ·refine(goD p0 _ _).trans ((goU (c22r d0 d1 d2 d3 d4) _).trans ?_)
  rw [(xor_u64 h0 hc hkl).1]
  exact(goU (c22r _ d1 d2 d3 d4) _).trans (q4end (root_xor _ [] [d1,d2,d3,d4] d0 k hkl c))
 refine(goDn p0 _ _).trans ?_
 by_cases p1:pickI which 5=1
 ·refine(goD p1 _ _).trans ((goU (c22r d0 d1 d2 d3 d4) _).trans ?_)
  rw [(xor_u64 h1 hc hkl).1]
  exact(goU (c22r d0 _ d2 d3 d4) _).trans (q4end (root_xor _ [d0] [d2,d3,d4] d1 k hkl c))
 refine(goDn p1 _ _).trans ?_
 by_cases p2:pickI which 5=2
 ·refine(goD p2 _ _).trans ((goU (c22r d0 d1 d2 d3 d4) _).trans ?_)
  rw [(xor_u64 h2 hc hkl).1]
  exact(goU (c22r d0 d1 _ d3 d4) _).trans (q4end (root_xor _ [d0,d1] [d3,d4] d2 k hkl c))
 refine(goDn p2 _ _).trans ?_
 by_cases p3:pickI which 5=3
 ·refine(goD p3 _ _).trans ((goU (c22r d0 d1 d2 d3 d4) _).trans ?_)
  rw [(xor_u64 h3 hc hkl).1]
  exact(goU (c22r d0 d1 d2 _ d4) _).trans (q4end (root_xor _ [d0,d1,d2] [d4] d3 k hkl c))
 refine(goDn p3 _ _).trans ?_
 refine(goD (by omega) _ _).trans ((goU (c22r d0 d1 d2 d3 d4) _).trans ?_)
 rw [(xor_u64 h4 hc hkl).1]
 exact(goU (c22r d0 d1 d2 d3 _) _).trans (q4end (root_xor _ [d0,d1,d2,d3] [] d4 k hkl c))
end Go.Proofs.Av
