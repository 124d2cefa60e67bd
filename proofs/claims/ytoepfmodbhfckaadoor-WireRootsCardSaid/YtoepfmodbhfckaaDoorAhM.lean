/- Closed forms of octets, bits and tokens, as far as Wire needs them. -/
import Derived.Test.YtoepfmodbhfckaaDoorAhMp0
import Derived.Test.YtoepfmodbhfckaaDoorAhY
set_option maxRecDepth 100000
namespace Go.Proofs.Av
open Go
open Option renaming bind→Ω
open Go.IntKind renaming i64→ı
open Go.IntKind renaming u64→υ
open Go.IntKind renaming wrap→ω
open List renaming getElem?_eq_some_iff→γ
open UInt8 renaming ofNat→β
open List renaming getElem?_eq_getElem→η
open List renaming length→ℓ
open Int renaming toNat→τ
section
section
variable {ρ:Type}{x:Option (Out×Heap)}
theorem wr_id {n:Int}(h1 : -9223372036854775808≤n) (h2:n≤9223372036854775807):ω .i64 n=n:=by
 simp only [ω,IntKind.bits,IntKind.signed,Bool.true_and]
 split<;>simp_all<;>omega
theorem wr_add {a b:Int}(h1 : -9223372036854775808≤a+b) (h2:a+b≤9223372036854775807):ω .i64 (Int.add a b)=a+b:=wr_id (n:=a+b) h1 h2
theorem wr_sub {a b:Int}(h1 : -9223372036854775808≤a-b) (h2:a-b≤9223372036854775807):ω .i64 (Int.sub a b)=a-b:=wr_id (n:=a-b) h1 h2
theorem wr_mul {a b:Int}(h1 : -9223372036854775808≤a*b) (h2:a*b≤9223372036854775807):ω .i64 (Int.mul a b)=a*b:=wr_id (n:=a*b) h1 h2
theorem wu_id {n:Int}(h1:0≤n) (h2:n<18446744073709551616):ω .u64 n=n:=by
 simp only [ω,IntKind.bits,IntKind.signed,Bool.false_and]
 simp
 omega
theorem w8 {n:Int}:ω .u8 n=n%256:=by
 simp only [ω,IntKind.bits,IntKind.signed,Bool.false_and]
 simp
abbrev rb (b:Bool):Option (Out×Heap):=some (Out.ret (vbool b),[])
abbrev RI (n:Int):Prop := -9223372036854775808≤n∧n≤9223372036854775807
theorem goB {b:Bool}(h:x=rb b) (k:Bool→Option ρ):(x.bind fun r=>(ret1 r).bind fun v=>v.bool?.bind fun b=>k b)=k b:=by rw [h];rfl
theorem goT (h:x=rb true) (k j:Option ρ):(x.bind fun r=>(ret1 r).bind fun v=>v.bool?.bind fun b=>bif b then k else j)=k:=by rw [h];rfl
theorem goF (h:x=rb false) (k j:Option ρ):(x.bind fun r=>(ret1 r).bind fun v=>v.bool?.bind fun b=>bif b then k else j)=j:=by rw [h];rfl
theorem goI {n:Int}(h:x=some (Out.ret (vi n),[])) (k:Int→Option ρ):(x.bind fun r=>(ret1 r).bind fun v=>(v.int? .i64).bind fun n=>k n)=k n:=by rw [h];rfl
theorem goU {n:Int}(h:x=some (Out.ret (vu n),[])) (k:Int→Option ρ):(x.bind fun r=>(ret1 r).bind fun v=>(v.int? .u64).bind fun n=>k n)=k n:=by rw [h];rfl
theorem goN {p:Prop} [Decidable p] (h:¬p) (k j:Option ρ):(if p then k else j)=j:=if_neg h
theorem goY {p:Prop} [Decidable p] (h:p) (k j:Option ρ):(if p then k else j)=k:=if_pos h
theorem goD {p:Prop} [Decidable p] (h:p) (k j:Option ρ):(bif decide p then k else j)=k:=by rw [decide_eq_true h];rfl
theorem goDn {p:Prop} [Decidable p] (h:¬p) (k j:Option ρ):(bif decide p then k else j)=j:=by rw [decide_eq_false h];rfl
theorem goE {a b:Int}(h:a=b) (k j:Option ρ):(bif a !=b then k else j)=j:=by rw [h,show(b !=b)=false by simp];rfl
theorem goEn {a b:Int}(h:a≠b) (k j:Option ρ):(bif a !=b then k else j)=k:=by rw [show(a !=b)=true by simp [h]];rfl
theorem goLe {a b:Nat}(h:a≤b) (k:Option ρ):((chkLe a b).bind fun _=>k)=k:=by rw [show chkLe a b=some () from if_pos h];rfl
theorem goCk {a b:Nat}(h:a=b) (k:Option ρ):((chk a b).bind fun _=>k)=k:=by rw [show chk a b=some () from if_pos h];rfl
abbrev B:=List UInt8
abbrev mk (l:B):ByteArray:=ByteArray.mk (Array.mk l)
theorem str_eta (s:ByteArray):∃l,s=mk l:=⟨s.data.toList,rfl⟩
theorem toList_mk (l:B):ByteArray.toList (mk l)=l:=by rw [ByteArray.toList_eq]
theorem ext_mk (l:B) (a b:Nat):ByteArray.extract (mk l) a b=mk ((l.take b).drop a):=by
 have h:(ByteArray.extract (mk l) a b).data.toList=(l.take b).drop a:=by
  rw [ByteArray.data_extract,Array.toList_extract,List.extract_eq_take_drop,←List.drop_take]
 exact show ByteArray.mk (Array.mk (ByteArray.extract (mk l) a b).data.toList)=_ by rw [h]
theorem app_mk (a b:B):ByteArray.append (mk a) (mk b)=mk (a++b):=by
 have h:(ByteArray.append (mk a) (mk b)).data.toList=a++b:=by
  show(mk a++mk b).data.toList=_
  rw [ByteArray.data_append]
  simp
 exact show ByteArray.mk (Array.mk (ByteArray.append (mk a) (mk b)).data.toList)=_ by rw [h]
theorem get_mk (l:B) (i:Nat):(mk l)[i]?=l[i]?:=by
 by_cases h:i<l.length
 ·rw [getElem?_pos (mk l) i h,η h]
  rfl
 ·rw [getElem?_neg (mk l) i h,List.getElem?_eq_none (by omega)]
theorem beq_mk (a b:B):List.beq (ByteArray.toList (mk a)) (ByteArray.toList (mk b))=decide (a=b):=by
 rw [toList_mk,toList_mk]
 show(a==b)=_
 by_cases h:a=b<;>simp [h]
theorem goQ {a b:B}(h:a=b) (k j:Option ρ):(bif List.beq (ByteArray.toList (mk a)) (ByteArray.toList (mk b)) then k else j)=k:=by rw [beq_mk,decide_eq_true h];rfl
theorem goQn {a b:B}(h:a=b) (k j:Option ρ):(bif !List.beq (ByteArray.toList (mk a)) (ByteArray.toList (mk b)) then k else j)=j:=by rw [beq_mk,decide_eq_true h];rfl
theorem goQt {a b:B}(h:¬a=b) (k j:Option ρ):(bif !List.beq (ByteArray.toList (mk a)) (ByteArray.toList (mk b)) then k else j)=k:=by rw [beq_mk,decide_eq_false h];rfl
theorem goS {l:B}(h:x=some (Out.ret (vs (mk l)),[])) (k:ByteArray→Option ρ):(x.bind fun r=>(ret1 r).bind fun v=>v.str?.bind fun s=>k s)=k (mk l):=by rw [h];rfl
theorem goG {l:B}{i:Int}{n:Nat}{b:UInt8}(hn:i=n) (h:l[n]?=some b) (k:UInt8→Option ρ):((mk l)[τ i]?.bind fun b=>k b)=k b:=by
 subst hn
 rw [get_mk,Int.toNat_natCast,h]
 rfl
abbrev RT (w:Int) (l:B) (e:Int):Option (Out×Heap):=some (Out.ret (.tuple [vu w,vs (mk l),vi e]),[])
abbrev RJ (l:B) (e:Int):Option (Out×Heap):=some (Out.ret (.tuple [vs (mk l),vi e]),[])
abbrev row (p:B):List AV:=[vs (mk p)]
abbrev rowsB (l:List B):List (List AV):=l.map row
def RS (x:Option (Out×Heap)) (l:B) (ps:List B) (e:Int):Prop:=∃a,x=some (Out.ret (.tuple [vs (mk l),a,vi e]),[])∧a.list? 1=some (rowsB ps)
theorem goTk {w:Int}{l:B}{e:Int}(h:x=RT w l e) (k:Int→ByteArray→Int→Option ρ):(x.bind fun r=>(ret1 r).bind fun v=>v.tup?.bind fun vs=>(uncons? vs).bind fun p1=>(AV.int? .u64 p1.fst).bind fun n=>(uncons? p1.snd).bind fun p2=>(AV.str? p2.fst).bind fun s=>(uncons? p2.snd).bind fun p3=>(AV.int? .i64 p3.fst).bind fun e=>(nil? p3.snd).bind fun _=>k n s e)=k w (mk l) e:=by rw [h];rfl
theorem goJn {l:B}{e:Int}(h:x=RJ l e) (k:ByteArray→Int→Option ρ):(x.bind fun r=>(ret1 r).bind fun v=>v.tup?.bind fun vs=>(uncons? vs).bind fun p2=>(AV.str? p2.fst).bind fun s=>(uncons? p2.snd).bind fun p3=>(AV.int? .i64 p3.fst).bind fun e=>(nil? p3.snd).bind fun _=>k s e)=k (mk l) e:=by rw [h];rfl
theorem goSp {l:B}{ps:List B}{e:Int}(h:RS x l ps e) (k:ByteArray→List (List AV)→Int→Option ρ):(x.bind fun r=>(ret1 r).bind fun v=>v.tup?.bind fun vs=>(uncons? vs).bind fun p1=>(AV.str? p1.fst).bind fun s=>(uncons? p1.snd).bind fun p2=>(AV.list? 1 p2.fst).bind fun l=>(uncons? p2.snd).bind fun p3=>(AV.int? .i64 p3.fst).bind fun e=>(nil? p3.snd).bind fun _=>k s l e)=k (mk l) (rowsB ps) e:=by
 obtain⟨a,rfl,h⟩:=h
 simp only [Option.bind_some,ret1,AV.tup?,uncons?,h,AV.str?,AV.int?,if_true,nil?]
theorem goP {ps:List B}{i:Int}{n:Nat}{p:B}(hn:i=n) (h:ps[n]?=some p) (k:ByteArray→Option ρ):((rowsB ps)[τ i]?.bind fun cs=>(uncons? cs).bind fun p=>(AV.str? p.fst).bind fun s=>(nil? p.snd).bind fun _=>k s)=k (mk p):=by
 subst hn
 have:(rowsB ps)[τ (n:Int)]?=some (row p):=by simp [rowsB,h]
 rw [this]
 rfl
abbrev ints (l:List Int):List (List AV):=l.map fun n=>[vi n]
theorem go1 {l:List Int}{i:Int}{n:Nat}{r:Int}(hn:i=n) (h:l[n]?=some r) (k:Int→Option ρ):((ints l)[τ i]?.bind fun cs=>(uncons? cs).bind fun p=>(AV.int? .i64 p.fst).bind fun s=>(nil? p.snd).bind fun _=>k s)=k r:=by
 subst hn
 have:(ints l)[τ (n:Int)]?=some [vi r]:=by simp [ints,h]
 rw [this]
 rfl
theorem go1n {l:List Int}{i:Int}{n:Nat}{r:Int}(hn:i=n) (h:l[n]?=some r) (k:Int→Option ρ):((nth (ints l) (Nat.add 0 (τ i))).bind fun cs=>(uncons? cs).bind fun p=>(AV.int? .i64 p.fst).bind fun s=>(nil? p.snd).bind fun _=>k s)=k r:=by
 subst hn
 have:nth (ints l) (Nat.add 0 (τ (n:Int)))=some [vi r]:=by
  rw [nth_eq]
  show(ints l)[0+n]?=_
  rw [Nat.zero_add]
  simp [ints,h]
 rw [this]
 rfl
def val:B→Nat
 | []=>0
 |b::r=>b.toNat+256*val r
def put (w:Nat):Nat→B
 | 0=>[]
 |n+1=>β (w%256)::put (w/256) n
theorem put_len (w n:Nat):(put w n).length=n:=by
 induction n generalizing w with
 |zero=>rfl
 |succ n ih=>simp [put,ih]
theorem val_put (w n:Nat):val (put w n)=w%256 ^ n:=by
 induction n generalizing w with
 |zero=>simp [put,val,Nat.mod_one]
 |succ n ih =>
  simp only [put,val,ih]
  rw [Nat.pow_succ,Nat.mul_comm (256 ^ n) 256,Nat.mod_mul]
  simp
theorem put_val (l:B):put (val l) l.length=l:=by
 induction l with
 |nil=>rfl
 |cons b l ih =>
  simp only [List.length_cons,put,val]
  have hb:=b.toNat_lt
  rw [show(b.toNat+256*val l)%256=b.toNat by omega,show(b.toNat+256*val l)/256=val l by omega,ih]
  simp
theorem val_lt (l:B):val l<256 ^ l.length:=by
 induction l with
 |nil=>simp [val]
 |cons b l ih =>
  simp only [List.length_cons,val,Nat.pow_succ]
  have hb:=b.toNat_lt
  omega
theorem put_get (w n i:Nat) (hi:i<n):(put w n)[i]?=some (β (w/256 ^ i%256)):=by
 induction n generalizing w i with
 |zero=>omega
 |succ n ih =>
  cases i with
  |zero=>simp [put]
  |succ i =>
   simp only [put,List.getElem?_cons_succ]
   rw [ih (w/256) i (by omega),Nat.div_div_eq_div_mul,Nat.pow_succ,Nat.mul_comm (256 ^ i)]
theorem val_snoc (l:B) (b:UInt8):val (l++[b])=val l+b.toNat*256 ^ l.length:=by
 induction l with
 |nil=>simp [val]
 |cons a l ih =>
  simp only [List.cons_append,val,ih,List.length_cons,Nat.pow_succ,Nat.mul_add]
  rw [Nat.mul_comm (256 ^ l.length) 256,Nat.mul_left_comm]
  omega
theorem val_take_succ {l:B}{k:Nat}{b:UInt8}(h:l[k]?=some b):val (l.take (k+1))=val (l.take k)+b.toNat*256 ^ k:=by
 have hk:=(γ.1 h).1
 rw [List.take_add_one,h]
 simp only [Option.toList_some]
 rw [val_snoc,List.length_take,Nat.min_eq_left (by omega)]
end
section
abbrev bytesI (l:List Int):List (List AV):=l.map fun n=>[vb n]
theorem numsOf_bytes:∀(l:List Int),numsOf (bytesI l)=some l
 | []=>rfl
 |a::l=>by
  show((uncons? [vb a]).bind fun p=>(nil? p.2).bind fun _=>(p.1.int? .u8).bind fun n=>(numsOf (bytesI l)).bind fun ns=>some (n::ns))=_
  rw [numsOf_bytes l]
  rfl
theorem strOf (l:List Int):Go.strOfNums l=mk (l.map fun n=>β n.toNat):=rfl
theorem yRows_arr {es:List (List AV)}{n:Nat}(h:es.length=n):yRows [⟨.arr,5,1,1,es⟩] 1 (.arr 0 1 0 n)=some es:=by
 show((chkLe (0+n) es.length).bind fun _=>some ((es.take (0+n)).drop 0))=_
 rw [goLe (by omega),Nat.zero_add,List.drop_zero,List.take_of_length_le (by omega)]
theorem shr8 (w:Nat) {i:Nat}(hi:i≤8):ishr .u64 (w:Int) (ω .i64 (Int.mul 8 i))=((w/256 ^ i:Nat):Int):=by
 rw [wr_mul (by omega) (by omega)]
 unfold ishr
 have h1:(8*(i:Int)).toNat=8*i:=by omega
 rw [h1,show υ.bits=64 from rfl,Nat.min_eq_left (by omega)]
 rw [show(2:Int) ^ (8*i)=((256 ^ i:Nat):Int) by rw [Int.natCast_pow];rw [Int.pow_mul];rfl]
 rw [Int.fdiv_eq_ediv_of_nonneg _ (Int.natCast_nonneg _)]
 exact(Int.natCast_ediv _ _).symm
theorem put_loop (w:Nat) (n:Nat) (hn:n≤8):∀(d i:Nat) (l:List Int),d+i=n→l.length=n →
  ∃l',E cx (Key.loop 61 [true,true,true,false,true,false]) [vi i,vu w,.arr 0 1 0 n,vi n] [⟨.arr,5,1,1,bytesI l⟩]=some (Out.jump (.exit 0) [vi n],[⟨.arr,5,1,1,bytesI l'⟩])∧l'.length=n ∧
   (∀j,j<i→l'[j]?=l[j]?)∧∀j,i≤j→j<n→l'[j]?=some ((w/256 ^ j%256:Nat):Int)
 | 0,i,l,hd,hl=>by
  have:i=n:=by omega
  subst this
  exact⟨l,(f61_l0 i w i i (bytesI l)).trans (goDn (by omega) _ _),hl,fun j _=>rfl,fun j h1 h2=>by omega⟩
 |d+1,i,l,hd,hl=>by
  have hi:i<l.length:=by omega
  have hm:ω .i64 (Int.mul 8 i)=8*i:=wr_mul (by omega) (by omega)
  obtain⟨l',h1,h2,h3,h4⟩:=put_loop w n hn d (i+1) (l.set i ((w/256 ^ i%256:Nat):Int)) (by omega) (by simp [hl])
  refine⟨l',(f61_l0 i w n n (bytesI l)).trans ?_,h2,fun j hj=> ?_,fun j hj1 hj2=> ?_⟩
  ·refine(goD (by omega) _ _).trans ?_
   refine(goN (by rw [hm];omega) _ _).trans ?_
   refine(goY (by omega) _ _).trans ?_
   refine(goY (by omega) _ _).trans ?_
   have e0:nth (bytesI l) (Nat.add 0 (τ (i:Int)))=some [vb l[i]]:=by
    rw [nth_eq]
    show(bytesI l)[0+i]?=_
    rw [Nat.zero_add]
    simp [bytesI,hi]
   rw [e0]
   have e1:ω .i64 (Int.add i 1)=((i+1:Nat):Int):=wr_add (by omega) (by omega)
   have e2:List.set (bytesI l) (Nat.add 0 (τ (i:Int))) [vb (ω .u8 (ishr .u64 (w:Int) (ω .i64 (Int.mul 8 i))))]=bytesI (l.set i ((w/256 ^ i%256:Nat):Int)):=by
    rw [shr8 w (by omega),w8]
    show List.set (bytesI l) (0+i) _=_
    rw [Nat.zero_add]
    simp only [bytesI,List.map_set]
    rfl
   show E cx _ [vi (ω .i64 (Int.add i 1)),vu w,.arr 0 1 0 n,vi n] [⟨.arr,5,1,1,List.set (bytesI l) (Nat.add 0 (τ (i:Int))) [vb (ω .u8 (ishr .u64 (w:Int) (ω .i64 (Int.mul 8 i))))]⟩]=_
   rw [e1,e2]
   exact h1
  ·rw [h3 j (by omega),List.getElem?_set_ne (by omega)]
  ·by_cases hij:j=i
   ·subst hij
    rw [h3 j (by omega),List.getElem?_set_self hi]
   ·exact h4 j (by omega) hj2
def putI (w:Nat) (n:Int):B:=if n<1∨n>8 then [] else put w n.toNat
theorem putI_lo {w:Nat}{n:Int}(h:n<1∨n>8):putI w n=[]:=if_pos h
theorem putI_ok {w:Nat}{n:Int}(h1:¬n<1) (h2:¬n>8):putI w n=put w n.toNat:=if_neg (by omega)
theorem map_put {l':List Int}{w n:Nat}(hl:l'.length=n) (h:∀j,j<n→l'[j]?=some ((w/256 ^ j%256:Nat):Int)):(l'.map fun n=>β n.toNat)=put w n:=by
 apply List.ext_getElem?
 intro j
 by_cases hj:j<n
 ·rw [put_get w n j hj,List.getElem?_map,h j hj]
  rfl
 ·rw [List.getElem?_eq_none (by simp;omega),List.getElem?_eq_none (by rw [put_len];omega)]
theorem c106 (w:Nat) (n:Int):E cx (Key.fn 61) [vu w,vi n] []=some (Out.ret (vs (mk (putI w n))),[]):=by
 refine(f61 w n).trans ?_
 by_cases h1:n<1
 ·rw [putI_lo (.inl h1)]
  exact goD h1 _ _
 ·refine(goDn h1 _ _).trans ?_
  by_cases h2:n>8
  ·rw [putI_lo (.inr h2)]
   exact goD h2 _ _
  ·rw [putI_ok h1 h2]
   refine(goDn h2 _ _).trans ?_
   refine(goY (by omega) _ _).trans ?_
   refine(goY (Int.le_refl _) _ _).trans ?_
   refine(goY (by show 1*n≤_;omega) _ _).trans ?_
   obtain⟨m,rfl⟩:∃m:Nat,n=m:=⟨n.toNat,by omega⟩
   obtain⟨l',g1,g2,_,g4⟩:=put_loop w m (by omega) m 0 (List.replicate m 0) rfl (by simp)
   have e:(List.replicate (τ (m:Int)) [vb 0]:List (List AV))=bytesI (List.replicate m 0):=by simp [bytesI]
   rw [e]
   show(Ω (E cx _ [vi ((0:Nat):Int),vu w,.arr 0 1 0 m,vi m] _) _)=_
   rw [g1]
   show((yRows [⟨.arr,5,1,1,bytesI l'⟩] 1 (.arr 0 1 0 m)).bind fun ys=>(numsOf ys).bind fun ns=>some (Out.ret (vs (Go.strOfNums ns)),[]))=_
   rw [yRows_arr (by simp [bytesI,g2])]
   show((numsOf (bytesI l')).bind fun ns=>some (Out.ret (vs (Go.strOfNums ns)),[]))=_
   rw [numsOf_bytes]
   show some (Out.ret (vs (Go.strOfNums l')),[])=_
   rw [strOf,map_put g2 fun j hj=>g4 j (by omega) hj]
   rfl
theorem rput_loop (w:Nat) (n:Int) (hn:n≤8):∀(d i:Nat) (l:List Int),(d:Int)+i=max n i→l.length=i→i≤8→(∀j,j<i→l[j]?=some ((w/256 ^ j%256:Nat):Int)) →
  ∃l',E cx (Key.loop 38 [true,true,false,true,false]) [.arr 0 1 0 i,vi i,vu w,vi n] [⟨.arr,5,1,1,bytesI l⟩]=some (Out.jump (.exit 0) [.arr 0 1 0 (d+i),vi (d+i:Nat)],[⟨.arr,5,1,1,bytesI l'⟩])∧l'.length=d+i ∧
   ∀j,j<d+i→l'[j]?=some ((w/256 ^ j%256:Nat):Int)
 | 0,i,l,hd,hl,hi,hj=>by
  refine⟨l,(f38_l0 i i w n (bytesI l)).trans ((goDn (by omega) _ _).trans ?_),by omega,fun j hj'=>hj j (by omega)⟩
  rw [Nat.zero_add]
 |d+1,i,l,hd,hl,hi,hj=>by
  have hm:ω .i64 (Int.mul 8 i)=8*i:=wr_mul (by omega) (by omega)
  obtain⟨l',h1,h2,h3⟩:=rput_loop w n hn d (i+1) (l++[((w/256 ^ i%256:Nat):Int)]) (by omega) (by simp [hl]) (by omega) fun j hj'=>by
   by_cases hji:j=i
   ·subst hji
    rw [List.getElem?_append_right (by omega),hl]
    simp
   ·rw [List.getElem?_append_left (by omega)]
    exact hj j (by omega)
  have hdi:d+1+i=d+(i+1):=by omega
  rw [hdi]
  refine⟨l',(f38_l0 i i w n (bytesI l)).trans ?_,h2,h3⟩
  refine(goD (by omega) _ _).trans ?_
  refine(goD (by omega) _ _).trans ?_
  refine(goN (by rw [hm];omega) _ _).trans ?_
  refine(goCk (by show i=(bytesI l).length;simp [bytesI,hl]) _).trans ?_
  have hlen:(bytesI l).length=i:=by simp [bytesI,hl]
  refine(goY (by show Nat.mul (Nat.add (bytesI l).length 1) 1≤_;rw [hlen];show(i+1)*1≤_;omega) _ _).trans ?_
  have e1:ω .i64 (Int.add i 1)=((i+1:Nat):Int):=wr_add (by omega) (by omega)
  have e2:(bytesI l++[[vb (ω .u8 (Int.tmod (ishr .u64 (w:Int) (ω .i64 (Int.mul 8 i))) 256))]])=bytesI (l++[((w/256 ^ i%256:Nat):Int)]):=by
   rw [shr8 w (by omega),w8]
   simp only [bytesI,List.map_append,List.map_cons,List.map_nil]
   congr 4
   rw [Int.tmod_eq_emod_of_nonneg (Int.natCast_nonneg _)]
   generalize w/256 ^ i=z
   omega
  show E cx _ [.arr 0 1 0 (Nat.add (bytesI l).length 1),vi (ω .i64 (Int.add i 1)),vu w,vi n] [⟨.arr,5,1,1,bytesI l++[[vb (ω .u8 (Int.tmod (ishr .u64 (w:Int) (ω .i64 (Int.mul 8 i))) 256))]]⟩]=_
  rw [e1,e2,hlen]
  exact h1
theorem c107 (w:Nat) (n:Int):E cx (Key.fn 38) [vu w,vi n] []=some (Out.ret (vs (mk (putI w n))),[]):=by
 refine(f38 w n).trans ?_
 by_cases h2:n>8
 ·have e:E cx (Key.loop 38 [true,true,false,true,false]) [.arr 0 1 0 0,vi 0,vu w,vi n] [⟨.arr,5,1,1,[]⟩]=some (Out.jump (.exit 0) [.arr 0 1 0 0,vi 0],[⟨.arr,5,1,1,[]⟩]):=by
   refine(f38_l0 0 0 w n []).trans ?_
   refine(goD (by omega) _ _).trans ?_
   exact goDn (by omega) _ _
  rw [e]
  rw [putI_lo (.inr h2)]
  rfl
 ·obtain⟨l',g1,g2,g3⟩:=rput_loop w n (by omega) n.toNat 0 [] (by omega) rfl (by omega) fun j hj=>by omega
  show(Ω (E cx _ [.arr 0 1 0 0,vi ((0:Nat):Int),vu w,vi n] [⟨.arr,5,1,1,bytesI []⟩]) _)=_
  rw [g1]
  show((yRows [⟨.arr,5,1,1,bytesI l'⟩] 1 (.arr 0 1 0 (n.toNat+0))).bind fun ys=>(numsOf ys).bind fun ns=>some (Out.ret (vs (Go.strOfNums ns)),[]))=_
  rw [yRows_arr (by simp [bytesI,g2])]
  show((numsOf (bytesI l')).bind fun ns=>some (Out.ret (vs (Go.strOfNums ns)),[]))=_
  rw [numsOf_bytes]
  show some (Out.ret (vs (Go.strOfNums l')),[])=_
  rw [strOf,map_put g2 g3]
  by_cases h1:n<1
  ·rw [putI_lo (.inl h1),show n.toNat+0=0 by omega]
   rfl
  ·rw [putI_ok h1 h2]
   rfl
end
section
theorem p64 {i:Nat}(hi:i≤7):256 ^ i*256≤18446744073709551616:=by
 have:256 ^ i≤256 ^ 7:=Nat.pow_le_pow_right (by decide) hi
 have e:(256:Nat) ^ 7=72057594037927936:=by decide
 omega
theorem shl8 {w:Nat}(hw:w*256<18446744073709551616):ishl .u64 (w:Int) 8=((w*256:Nat):Int):=by
 unfold ishl
 show ω .u64 ((w:Int)*256)=_
 rw [show(w:Int)*256=((w*256:Nat):Int) by omega]
 exact wu_id (by omega) (by omega)
theorem ior8 {w:Nat}(hw:w*256<18446744073709551616) (b:UInt8):ior .u64 (ishl .u64 (w:Int) 8) (ω .u64 ((b.toNat:Nat):Int))=((w*256+b.toNat:Nat):Int):=by
 have hb:=b.toNat_lt
 have h2:w*256+b.toNat=(w*256 |||b.toNat):=by
  have:=Nat.two_pow_add_eq_or_of_lt (i:=8) (b:=b.toNat) (by omega) w
  rw [show(2:Nat) ^ 8=256 by decide] at this
  rw [Nat.mul_comm]
  exact this
 rw [shl8 hw,wu_id (by omega) (by omega)]
 unfold ior
 rw [h2]
 have h3:(BitVec.ofInt υ.bits ((w*256:Nat):Int) |||BitVec.ofInt υ.bits ((b.toNat:Nat):Int)).toNat=(w*256 |||b.toNat):=by
  rw [BitVec.toNat_or,BitVec.ofInt_natCast,BitVec.ofInt_natCast,BitVec.toNat_ofNat,BitVec.toNat_ofNat]
  show(w*256%2 ^ 64 |||b.toNat%2 ^ 64)=_
  rw [Nat.mod_eq_of_lt (by omega),Nat.mod_eq_of_lt (by omega)]
 rw [h3]
 exact wu_id (by omega) (by omega)
theorem take_loop (l:B) (n:Int):∀(k w:Nat),k≤l.length→w*256 ^ k+256 ^ k≤18446744073709551616→k≤8 →
  E cx (Key.loop 69 [true,true,false,true,false]) [vu w,vi ((k:Int)-1),vs (mk l),vi n] []=some (Out.jump (.exit 1) [vu ((w*256 ^ k+val (l.take k):Nat):Int),vi (-1)],[])
 | 0,w,hk,hw,h8=>by
  refine(f69_l0 _ _ _ _).trans ((goDn (by omega) _ _).trans ?_)
  simp [val]
 |k+1,w,hk,hw,h8=>by
  have hb:l[k]?=some l[k]:=η (by omega)
  have hpos:1≤256 ^ k:=Nat.one_le_pow _ _ (by omega)
  have hp:256 ^ (k+1)=256 ^ k*256:=Nat.pow_succ ..
  rw [hp,←Nat.mul_assoc] at hw
  have hw1:w*256≤w*256*256 ^ k:=Nat.le_mul_of_pos_right _ (by omega)
  have e3:w*256 ^ k*256=w*256*256 ^ k:=by rw [Nat.mul_assoc,Nat.mul_comm (256 ^ k) 256,←Nat.mul_assoc]
  rw [e3] at hw
  have hlt:w*256<18446744073709551616:=by omega
  have hbt:=l[k].toNat_lt
  refine(f69_l0 _ _ _ _).trans ((goD (by omega) _ _).trans ?_)
  refine(goY (by omega) _ _).trans ?_
  refine(goG (n:=k) (by omega) hb _).trans ?_
  rw [ior8 hlt,wr_sub (by omega) (by omega)]
  have ih:=take_loop l n k (w*256+l[k].toNat) (by omega) (by
   rw [Nat.add_mul]
   have:l[k].toNat*256 ^ k+256 ^ k≤256*256 ^ k:=by
    rw [show l[k].toNat*256 ^ k+256 ^ k=(l[k].toNat+1)*256 ^ k by rw [Nat.add_mul,Nat.one_mul]]
    exact Nat.mul_le_mul_right _ (by omega)
   omega) (by omega)
  rw [show((k+1:Nat):Int)-1-1=(k:Int)-1 by omega,ih]
  congr 5
  rw [val_take_succ hb,Nat.add_mul,hp,←Nat.mul_assoc,e3]
  omega
def takeR (l:B) (n:Int):Nat×B×Int:=if n<1∨n>8 then(0,[],1) else if(l.length:Int)<n then(0,[],3) else(val (l.take n.toNat),l.drop n.toNat,0)
theorem takeR_1 {l:B}{n:Int}(h:n<1∨n>8):takeR l n=(0,[],1):=if_pos h
theorem takeR_2 {l:B}{n:Int}(h:¬(n<1∨n>8)) (h2:(l.length:Int)<n):takeR l n=(0,[],3):=(if_neg h).trans (if_pos h2)
theorem takeR_3 {l:B}{n:Int}(h:¬(n<1∨n>8)) (h2:¬(l.length:Int)<n):takeR l n=(val (l.take n.toNat),l.drop n.toNat,0):=(if_neg h).trans (if_neg h2)
abbrev RT' (r:Nat×B×Int):Option (Out×Heap):=RT r.1 r.2.1 r.2.2
theorem c116 (l:B) (n:Int):E cx (Key.fn 69) [vs (mk l),vi n] []=RT' (takeR l n):=by
 refine(f69 (mk l) n).trans ?_
 by_cases h1:n<1
 ·rw [takeR_1 (.inl h1)];exact goD h1 _ _
 refine(goDn h1 _ _).trans ?_
 by_cases h2:n>8
 ·rw [takeR_1 (.inr h2)];exact goD h2 _ _
 refine(goDn h2 _ _).trans ?_
 by_cases h3:(l.length:Int)<n
 ·rw [takeR_2 (by omega) h3];exact goD h3 _ _
 refine(goDn h3 _ _).trans ?_
 rw [takeR_3 (by omega) h3]
 obtain⟨m,rfl⟩:∃m:Nat,n=m:=⟨n.toNat,by omega⟩
 have h:=take_loop l m m 0 (by omega) (by
  have:256 ^ m≤256 ^ 8:=Nat.pow_le_pow_right (by decide) (by omega)
  have e:(256:Nat) ^ 8=18446744073709551616:=by decide
  omega) (by omega)
 rw [Nat.zero_mul,Nat.zero_add] at h
 rw [wr_sub (by omega) (by omega)]
 show(Ω (E cx _ [vu ((0:Nat):Int),vi ((m:Int)-1),vs (mk l),vi m] []) _)=_
 rw [h]
 show(if(0:Int)≤(m:Int) then if(m:Int)≤((ByteArray.size (mk l):Nat):Int) then some (Out.ret (AV.tuple [vu (val (l.take m)),vs (ByteArray.extract (mk l) (τ (m:Int)) (ByteArray.size (mk l))),vi 0]),[]) else none else none)=_
 rw [goY (by omega),goY (by show(m:Int)≤(l.length:Int);omega),ext_mk]
 show some (Out.ret (AV.tuple [vu (val (l.take m)),vs (mk ((l.take l.length).drop m)),vi 0]),[])=_
 rw [List.take_length]
 rfl
theorem num_loop (l:B) (h8:l.length≤8):∀(d i:Nat),d+i=l.length →
  E cx (Key.loop 64 [true,true,false,true,false]) [vu (val (l.take i)),vi i,vs (mk l)] []=some (Out.jump (.exit 0) [vu (val l),vi l.length],[])
 | 0,i,hd=>by
  refine(f64_l0 _ _ _).trans ((goDn (by show ¬(i:Int)<(l.length:Int);omega) _ _).trans ?_)
  rw [List.take_of_length_le (by omega),show i=l.length by omega]
 |d+1,i,hd=>by
  have hb:l[i]?=some l[i]:=η (by omega)
  have hm:ω .i64 (Int.mul 8 i)=8*i:=wr_mul (by omega) (by omega)
  have hbt:=l[i].toNat_lt
  refine(f64_l0 _ _ _).trans ((goD (by show(i:Int)<(l.length:Int);omega) _ _).trans ?_)
  refine(goY (by omega) _ _).trans ?_
  refine(goG (n:=i) rfl hb _).trans ?_
  refine(goN (by rw [hm];omega) _ _).trans ?_
  have hv:=val_lt (l.take i)
  rw [List.length_take,Nat.min_eq_left (by omega)] at hv
  have hp:=p64 (i:=i) (by omega)
  have hbp:l[i].toNat*256 ^ i≤255*256 ^ i:=Nat.mul_le_mul_right _ (by omega)
  have e1:ishl .u64 (ω .u64 ((l[i].toNat:Nat):Int)) (ω .i64 (Int.mul 8 i))=((l[i].toNat*256 ^ i:Nat):Int):=by
   rw [hm,wu_id (by omega) (by omega)]
   unfold ishl
   rw [show(8*(i:Int)).toNat=8*i by omega,show υ.bits=64 from rfl,Nat.min_eq_left (by omega),Int.pow_mul]
   show ω .u64 ((l[i].toNat:Int)*(256:Int) ^ i)=_
   have e:(l[i].toNat:Int)*(256:Int) ^ i=((l[i].toNat*256 ^ i:Nat):Int):=by
    rw [Int.natCast_mul,Int.natCast_pow];rfl
   rw [e]
   exact wu_id (Int.natCast_nonneg _) (by omega)
  have e2:ω .u64 (Int.add (val (l.take i)) ((l[i].toNat*256 ^ i:Nat):Int))=((val (l.take (i+1)):Nat):Int):=by
   rw [val_take_succ hb]
   show ω .u64 ((val (l.take i):Int)+((l[i].toNat*256 ^ i:Nat):Int))=_
   rw [←Int.natCast_add]
   exact wu_id (Int.natCast_nonneg _) (by omega)
  rw [e1,e2,wr_add (by omega) (by omega)]
  exact num_loop l h8 d (i+1) (by omega)
theorem c152 (l:B) (h8:l.length≤8):E cx (Key.fn 64) [vs (mk l)] []=some (Out.ret (vu (val l)),[]):=by
 refine(f64 (mk l)).trans ?_
 have:=num_loop l h8 l.length 0 (by omega)
 rw [List.take_zero] at this
 show(Ω (E cx _ [vu (val ([]:B)),vi ((0:Nat):Int),vs (mk l)] []) _)=_
 rw [this]
 rfl
theorem c117 (l:B) (n:Int):E cx (Key.fn 66) [vs (mk l),vi n] []=RT' (takeR l n):=by
 refine(f66 (mk l) n).trans ?_
 by_cases h1:n<1
 ·rw [takeR_1 (.inl h1)];exact goD h1 _ _
 refine(goDn h1 _ _).trans ?_
 by_cases h2:n>8
 ·rw [takeR_1 (.inr h2)];exact goD h2 _ _
 refine(goDn h2 _ _).trans ?_
 by_cases h3:(l.length:Int)<n
 ·rw [takeR_2 (by omega) h3];exact goD h3 _ _
 refine(goDn h3 _ _).trans ?_
 rw [takeR_3 (by omega) h3]
 obtain⟨m,rfl⟩:∃m:Nat,n=m:=⟨n.toNat,by omega⟩
 have hl:(m:Int)≤((ByteArray.size (mk l):Nat):Int):=by show(m:Int)≤(l.length:Int);omega
 refine(goY (by omega) _ _).trans ((goY hl _ _).trans ?_)
 rw [ext_mk]
 show(Ω (E cx (Key.fn 64) [vs (mk ((l.take m).drop 0))] []) _)=_
 rw [List.drop_zero]
 refine(goU (c152 (l.take m) (by rw [List.length_take];omega)) _).trans ?_
 refine(goY (by omega) _ _).trans ((goY hl _ _).trans ?_)
 rw [ext_mk]
 show some (Out.ret (AV.tuple [vu (val (l.take m)),vs (mk ((l.take l.length).drop m)),vi 0]),[])=_
 rw [List.take_length]
 rfl
def pickI (c n:Int):Int:=if c<0 then(-(c+1)).tmod n else c.tmod n
theorem pickI_lt {c n:Int}(hn:0<n):0≤pickI c n∧pickI c n<n:=by
 unfold pickI
 split
 ·rw [Int.tmod_eq_emod_of_nonneg (by omega)]
  exact⟨Int.emod_nonneg _ (by omega),Int.emod_lt_of_pos _ hn⟩
 ·rw [Int.tmod_eq_emod_of_nonneg (by omega)]
  exact⟨Int.emod_nonneg _ (by omega),Int.emod_lt_of_pos _ hn⟩
end
section
def hs:Nat→List B→B
 | _,[]=>[]
 |t,p::r=>put t 4++hs (t+p.length) r
theorem put4 (t:Nat):putI t 4=put t 4:=putI_ok (by omega) (by omega)
theorem drop_cons {α:Type}{l r:List α}{i:Nat}{p:α}(h:l.drop i=p::r):l[i]?=some p∧l.drop (i+1)=r∧i<l.length:=by
 have h1:l[i]?=some p:=by
  have:l[i]?=(l.drop i)[0]?:=by rw [List.getElem?_drop];rfl
  rw [this,h];rfl
 refine⟨h1,?_,(γ.1 h1).1⟩
 rw [←List.drop_drop (i:=1) (j:=i),h]<;>rfl
theorem nobig {a b:Nat}(h:a+b≤4000000):¬((Nat.add a b:Nat):Int)>9223372036854775807:=by
 show ¬((a+b:Nat):Int)>_
 omega
theorem join_loop (P:List B) (s0:ByteArray) (x0:Int) (hP:P.length≤8):∀(rest:List B) (i t:Nat) (head body:B),P.drop i=rest→i+rest.length=P.length→t≤65536→body.length≤t→head.length+4*rest.length≤2000000 →
  (t+rest.flatten.length≤65536→E cx (Key.loop 36 [true,true,true,true,false,true,false]) [vs s0,vi x0,vi t,vs (mk head),vs (mk body),vi i,.list 0 1 (rowsB P),vi P.length] [] =
    some (Out.jump (.exit 0) [vs s0,vi x0,vi (t+rest.flatten.length:Nat),vs (mk (head++hs t rest)),vs (mk (body++rest.flatten)),vi P.length],[])) ∧
  (¬t+rest.flatten.length≤65536→∃(a:Int) (h b:ByteArray) (j:Int),E cx (Key.loop 36 [true,true,true,true,false,true,false]) [vs s0,vi x0,vi t,vs (mk head),vs (mk body),vi i,.list 0 1 (rowsB P),vi P.length] [] =
    some (Out.jump .ret [vs (mk []),vi 4,vi a,vs h,vs b,vi j],[]))
 | [],i,t,head,body,hd,hil,ht,hb,hh=>by
  simp only [List.length_nil] at hil
  refine⟨fun _=> ?_,fun h=>absurd ht (by simpa using h)⟩
  refine(f36_l0 _ _ _ _ _ _ _ _).trans ((goDn (by omega) _ _).trans ?_)
  simp [hs,←hil]
 |p::rest,i,t,head,body,hd,hil,ht,hb,hh=>by
  simp only [List.length_cons] at hil
  obtain⟨hp,hd',hi⟩:=drop_cons hd
  have hflat:(p::rest).flatten.length=p.length+rest.flatten.length:=by simp
  simp only [List.length_cons] at hh
  have head0:E cx (Key.loop 36 [true,true,true,true,false,true,false]) [vs s0,vi x0,vi t,vs (mk head),vs (mk body),vi i,.list 0 1 (rowsB P),vi P.length] [] =
    (bif decide (((ByteArray.size (mk p):Nat):Int)>ω .i64 (Int.sub 65536 t)) then some (Out.jump .ret [vs (mk []),vi 4,vi t,vs (mk head),vs (mk body),vi i],[])
     else Ω (E cx (Key.fn 61) [vu (ω .u64 t),vi 4] []) fun r=>Ω (ret1 r) fun v=>Ω (AV.str? v) fun s =>
      if((Nat.add (ByteArray.size (mk head)) (ByteArray.size s):Nat):Int)>9223372036854775807 then none else
      if((Nat.add (ByteArray.size (mk body)) (ByteArray.size (mk p)):Nat):Int)>9223372036854775807 then none else
      E cx (Key.loop 36 [true,true,true,true,false,true,false]) [vs s0,vi x0,vi (ω .i64 (Int.add t ((ByteArray.size (mk p):Nat):Int))),vs (ByteArray.append (mk head) s),vs (ByteArray.append (mk body) (mk p)),vi (ω .i64 (Int.add i 1)),.list 0 1 (rowsB P),vi P.length] []):=by
   refine(f36_l0 _ _ _ _ _ _ _ _).trans ((goD (by omega) _ _).trans ((goY (by omega) _ _).trans ?_))
   exact goP (n:=i) rfl hp _
  rw [wr_sub (by omega) (by omega)] at head0
  by_cases hf:t+p.length≤65536
  ·have hn:¬((ByteArray.size (mk p):Nat):Int)>65536-t:=by show ¬(p.length:Int)>65536-t;omega
   rw [goDn hn,wu_id (by omega) (by omega)] at head0
   have hput:=c106 t 4
   rw [put4] at hput
   rw [goS hput] at head0
   have h4:=put_len t 4
   rw [goN (nobig (by show head.length+(put t 4).length≤_;omega)),goN (nobig (by show body.length+p.length≤_;omega)),app_mk,app_mk] at head0
   have e1:ω .i64 (Int.add t ((ByteArray.size (mk p):Nat):Int))=((t+p.length:Nat):Int):=wr_add (b:=(p.length:Int)) (by omega) (by omega)
   rw [e1,wr_add (a:=(i:Int)) (b:=1) (by omega) (by omega)] at head0
   have ih:=join_loop P s0 x0 hP rest (i+1) (t+p.length) (head++put t 4) (body++p) hd' (by omega) hf (by simp;omega) (by simp [h4];omega)
   rw [hflat,head0]
   refine⟨fun h=> ?_,fun h=> ?_⟩
   ·have:=ih.1 (by omega)
    rw [show((i:Int)+1)=((i+1:Nat):Int) by omega,this]
    simp only [hs,List.flatten_cons,List.append_assoc,Nat.add_assoc]
   ·have:=ih.2 (by omega)
    rw [show((i:Int)+1)=((i+1:Nat):Int) by omega]
    exact this
  ·have hn:((ByteArray.size (mk p):Nat):Int)>65536-t:=by show(p.length:Int)>65536-t;omega
   rw [goD hn] at head0
   rw [hflat,head0]
   exact⟨fun h=>by omega,fun _=>⟨_,_,_,_,rfl⟩⟩
def joinR (f:B) (P:List B):B×Int:=if P.length≤8∧f.length+4*P.length+P.flatten.length≤65536 then(f++hs (f.length+4*P.length) P++P.flatten,0) else([],4)
theorem joinR_ok {f:B}{P:List B}(h1:P.length≤8) (h2:f.length+4*P.length+P.flatten.length≤65536):joinR f P=(f++hs (f.length+4*P.length) P++P.flatten,0):=if_pos ⟨h1,h2⟩
theorem joinR_no {f:B}{P:List B}(h:¬(P.length≤8∧f.length+4*P.length+P.flatten.length≤65536)):joinR f P=([],4):=if_neg h
abbrev RJ' (r:B×Int):Option (Out×Heap):=RJ r.1 r.2
theorem hs_len:∀(t:Nat) (P:List B),(hs t P).length=4*P.length
 | _,[]=>rfl
 |t,p::r=>by
  simp only [hs,List.length_append,put_len,hs_len,List.length_cons]
  omega
theorem rows_len (P:List B):(rowsB P).length=P.length:=by simp [rowsB]
theorem c100 (f:B) (P:List B) (hf:f.length≤1000000):E cx (Key.fn 36) [vs (mk f),.list 0 1 (rowsB P)] []=RJ' (joinR f P):=by
 refine(f36 (mk f) (rowsB P)).trans ?_
 rw [rows_len]
 by_cases h1:(P.length:Int)>8
 ·rw [joinR_no (by omega)]
  exact goD h1 _ _
 refine(goDn h1 _ _).trans ?_
 have e1:ω .i64 (Int.add ((ByteArray.size (mk f):Nat):Int) (ω .i64 (Int.mul 4 (P.length:Int))))=((f.length+4*P.length:Nat):Int):=by
  rw [wr_mul (by omega) (by omega)]
  exact wr_add (a:=(f.length:Int)) (by omega) (by omega)
 rw [e1]
 by_cases h2:((f.length+4*P.length:Nat):Int)>65536
 ·rw [joinR_no (by omega)]
  exact goD h2 _ _
 refine(goDn h2 _ _).trans ?_
 have hl:=join_loop P (mk []) 0 (by omega) P 0 (f.length+4*P.length) f [] rfl (by omega) (by omega) (by simp) (by omega)
 show(Ω (E cx _ [vs (mk []),vi 0,vi (f.length+4*P.length:Nat),vs (mk f),vs (mk []),vi ((0:Nat):Int),.list 0 1 (rowsB P),vi P.length] []) _)=_
 by_cases h3:f.length+4*P.length+P.flatten.length≤65536
 ·rw [hl.1 h3,joinR_ok (by omega) h3]
  show(if((Nat.add (ByteArray.size (mk (f++hs (f.length+4*P.length) P))) (ByteArray.size (mk ([]++P.flatten))):Nat):Int)>9223372036854775807 then none else
   some (Out.ret (AV.tuple [vs (ByteArray.append (mk (f++hs (f.length+4*P.length) P)) (mk ([]++P.flatten))),vi 0]),[]))=_
  rw [goN (nobig (by
   show(f++hs (f.length+4*P.length) P).length+([]++P.flatten).length≤_
   rw [List.length_append,hs_len,List.nil_append]
   omega)),app_mk,List.nil_append]
 ·obtain⟨a,h,b,j,he⟩:=hl.2 h3
  rw [he,joinR_no (by omega)]
  rfl
theorem rjoin_loop (P:List B) (s0:ByteArray) (x0:Int) (hP:P.length≤8):∀(rest:List B) (i t:Nat) (head body:B),P.drop i=rest→i+rest.length=P.length→t+65536*rest.length≤2000000→body.length≤t→head.length+4*rest.length≤2000000 →
  ((∀p∈rest,p.length≤65536)→E cx (Key.loop 32 [true,true,true,true,true,false,true,false]) [vs s0,vi x0,vi t,vs (mk head),vs (mk body),vi i,.list 0 1 (rowsB P)] [] =
    some (Out.jump (.exit 0) [vs s0,vi x0,vi (t+rest.flatten.length:Nat),vs (mk (head++hs t rest)),vs (mk (body++rest.flatten)),vi P.length],[])) ∧
  (¬(∀p∈rest,p.length≤65536)→∃(a:Int) (h b:ByteArray) (j:Int),E cx (Key.loop 32 [true,true,true,true,true,false,true,false]) [vs s0,vi x0,vi t,vs (mk head),vs (mk body),vi i,.list 0 1 (rowsB P)] [] =
    some (Out.jump .ret [vs (mk []),vi 4,vi a,vs h,vs b,vi j],[]))
 | [],i,t,head,body,hd,hil,ht,hb,hh=>by
  simp only [List.length_nil] at hil
  refine⟨fun _=> ?_,fun h=>absurd (fun p hp=>by cases hp) h⟩
  refine(f32_l0 _ _ _ _ _ _ _).trans ((goDn (by rw [rows_len];omega) _ _).trans ?_)
  simp [hs,←hil]
 |p::rest,i,t,head,body,hd,hil,ht,hb,hh=>by
  simp only [List.length_cons] at hil
  obtain⟨hp,hd',hi⟩:=drop_cons hd
  have hflat:(p::rest).flatten.length=p.length+rest.flatten.length:=by simp
  simp only [List.length_cons] at hh ht
  have hall:(∀q∈p::rest,q.length≤65536)↔p.length≤65536∧∀q∈rest,q.length≤65536:=by simp
  rw [hall]
  have head0:E cx (Key.loop 32 [true,true,true,true,true,false,true,false]) [vs s0,vi x0,vi t,vs (mk head),vs (mk body),vi i,.list 0 1 (rowsB P)] [] =
    (bif decide (((ByteArray.size (mk p):Nat):Int)>65536) then some (Out.jump .ret [vs (mk []),vi 4,vi t,vs (mk head),vs (mk body),vi i],[])
     else Ω (E cx (Key.fn 38) [vu (ω .u64 t),vi 4] []) fun r=>Ω (ret1 r) fun v=>Ω (AV.str? v) fun s =>
      if((Nat.add (ByteArray.size (mk head)) (ByteArray.size s):Nat):Int)>9223372036854775807 then none else
      if((Nat.add (ByteArray.size (mk body)) (ByteArray.size (mk p)):Nat):Int)>9223372036854775807 then none else
      E cx (Key.loop 32 [true,true,true,true,true,false,true,false]) [vs s0,vi x0,vi (ω .i64 (Int.add t ((ByteArray.size (mk p):Nat):Int))),vs (ByteArray.append (mk head) s),vs (ByteArray.append (mk body) (mk p)),vi (ω .i64 (Int.add i 1)),.list 0 1 (rowsB P)] []):=by
   refine(f32_l0 _ _ _ _ _ _ _).trans ((goD (by rw [rows_len];omega) _ _).trans ((goY (by omega) _ _).trans ((goP (n:=i) rfl hp _).trans ?_)))
   congr 1
   congr 1
   funext r
   congr 1
   funext v
   congr 1
   funext s
   congr 1
   refine(goY (by omega) _ _).trans ((goP (n:=i) rfl hp _).trans ?_)
   congr 1
   exact(goY (by omega) _ _).trans (goP (n:=i) rfl hp _)
  by_cases hf:p.length≤65536
  ·have hn:¬((ByteArray.size (mk p):Nat):Int)>65536:=by show ¬(p.length:Int)>65536;omega
   rw [goDn hn,wu_id (by omega) (by omega)] at head0
   have hput:=c107 t 4
   rw [put4] at hput
   rw [goS hput] at head0
   have h4:=put_len t 4
   rw [goN (nobig (by show head.length+(put t 4).length≤_;omega)),goN (nobig (by show body.length+p.length≤_;omega)),app_mk,app_mk] at head0
   have e1:ω .i64 (Int.add t ((ByteArray.size (mk p):Nat):Int))=((t+p.length:Nat):Int):=wr_add (b:=(p.length:Int)) (by omega) (by omega)
   rw [e1,wr_add (a:=(i:Int)) (b:=1) (by omega) (by omega)] at head0
   have ih:=rjoin_loop P s0 x0 hP rest (i+1) (t+p.length) (head++put t 4) (body++p) hd' (by omega) (by omega) (by simp;omega) (by simp [h4];omega)
   rw [hflat,head0]
   refine⟨fun h=> ?_,fun h=> ?_⟩
   ·have:=ih.1 h.2
    rw [show((i:Int)+1)=((i+1:Nat):Int) by omega,this]
    simp only [hs,List.flatten_cons,List.append_assoc,Nat.add_assoc]
   ·have:=ih.2 fun h'=>h ⟨hf,h'⟩
    rw [show((i:Int)+1)=((i+1:Nat):Int) by omega]
    exact this
  ·have hn:((ByteArray.size (mk p):Nat):Int)>65536:=by show(p.length:Int)>65536;omega
   rw [goD hn] at head0
   rw [head0]
   exact⟨fun h=>absurd h.1 hf,fun _=>⟨_,_,_,_,rfl⟩⟩
theorem flat_ge {p:B}:∀ {P:List B},p∈P→p.length≤P.flatten.length
 |q::P,h=>by
  simp only [List.flatten_cons,List.length_append]
  rcases List.mem_cons.1 h with rfl |h
  ·omega
  ·have:=flat_ge h
   omega
theorem c9921 (f:B) (P:List B) (hf:f.length≤1000000):E cx (Key.fn 32) [vs (mk f),.list 0 1 (rowsB P)] []=RJ' (joinR f P):=by
 refine(f32 (mk f) (rowsB P)).trans ?_
 rw [rows_len]
 by_cases h1:(P.length:Int)>8
 ·rw [joinR_no (by omega)]
  exact goD h1 _ _
 refine(goDn h1 _ _).trans ?_
 by_cases h2:((ByteArray.size (mk f):Nat):Int)>65536
 ·have:(f.length:Int)>65536:=h2
  rw [joinR_no (by omega)]
  exact goD h2 _ _
 refine(goDn h2 _ _).trans ?_
 have h2':¬(f.length:Int)>65536:=h2
 have e1:ω .i64 (Int.add ((ByteArray.size (mk f):Nat):Int) (ω .i64 (Int.mul 4 (P.length:Int))))=((f.length+4*P.length:Nat):Int):=by
  rw [wr_mul (by omega) (by omega)]
  exact wr_add (a:=(f.length:Int)) (by omega) (by omega)
 rw [e1]
 have hl:=rjoin_loop P (mk []) 0 (by omega) P 0 (f.length+4*P.length) f [] rfl (by omega) (by omega) (by simp) (by omega)
 show(Ω (E cx _ [vs (mk []),vi 0,vi (f.length+4*P.length:Nat),vs (mk f),vs (mk []),vi ((0:Nat):Int),.list 0 1 (rowsB P)] []) _)=_
 by_cases h3:∀p∈P,p.length≤65536
 ·rw [hl.1 h3]
  show(bif decide (((f.length+4*P.length+P.flatten.length:Nat):Int)>65536) then some (Out.ret (AV.tuple [vs (mk []),vi 4]),[]) else
   if((Nat.add (ByteArray.size (mk (f++hs (f.length+4*P.length) P))) (ByteArray.size (mk ([]++P.flatten))):Nat):Int)>9223372036854775807 then none else
   some (Out.ret (AV.tuple [vs (ByteArray.append (mk (f++hs (f.length+4*P.length) P)) (mk ([]++P.flatten))),vi 0]),[]))=_
  by_cases h4:f.length+4*P.length+P.flatten.length≤65536
  ·rw [joinR_ok (by omega) h4,goDn (by omega),goN (nobig (by
    show(f++hs (f.length+4*P.length) P).length+([]++P.flatten).length≤_
    rw [List.length_append,hs_len,List.nil_append]
    omega)),app_mk,List.nil_append]
  ·rw [joinR_no (by omega),goD (by omega)]
 ·obtain⟨a,h,b,j,he⟩:=hl.2 h3
  rw [he,joinR_no (fun h=>h3 fun p hp=>by have:=flat_ge hp;omega)]
  rfl
end
section
def off (s:B) (f i:Nat):Nat:=val ((s.drop (f+4*i)).take 4)
def edge (s:B) (f m i:Nat):Nat:=if i<m then off s f i else s.length
def okS (s:B) (f m:Nat):Prop:=(m=0→f=s.length)∧(0<m→off s f 0=f+4*m)∧∀k,k<m→edge s f m k≤edge s f m (k+1)
def piece (s:B) (f m k:Nat):B:=(s.take (edge s f m (k+1))).drop (edge s f m k)
theorem off_lt (s:B) (f i:Nat):off s f i<4294967296:=by
 have h:=val_lt ((s.drop (f+4*i)).take 4)
 have h2:256 ^ ((s.drop (f+4*i)).take 4).length≤256 ^ 4:=Nat.pow_le_pow_right (by decide) (by rw [List.length_take];omega)
 have e:(256:Nat) ^ 4=4294967296:=by decide
 unfold off
 omega
abbrev L164a:Key:=Key.loop 83 [true,true,true,true,true,true,true,false,true,false]
abbrev L164b:Key:=Key.loop 83 [true,true,true,true,true,true,true,true,true,false,true,false]
abbrev Pan2 (e:Int):JX := .pan (.iface 124 (.agg [vi e]))
abbrev left (s:B) (f m i:Nat):B:=(s.take (f+4*m)).drop (f+4*i)
theorem take_left {s:B}{f m i:Nat}(hi:i<m) (hs:f+4*m≤s.length):takeR (left s f m i) 4=(off s f i,left s f m (i+1),0):=by
 have hl:(left s f m i).length=4*m-4*i:=by
  rw [List.length_drop,List.length_take,Nat.min_eq_left hs];omega
 rw [takeR_3 (by omega) (by omega)]
 have e1:(left s f m i).take 4=(s.drop (f+4*i)).take 4:=by
  unfold left
  rw [List.drop_take,List.take_take,Nat.min_eq_left (by omega)]
 have e2:(left s f m i).drop 4=left s f m (i+1):=by
  unfold left
  rw [List.drop_drop]
  congr 1
 show(val ((left s f m i).take 4),(left s f m i).drop 4,(0:Int))=_
 rw [e1,e2]
 rfl
theorem head_42 {s s1:B}{f m i n:Nat}{l:List Int}{x71 x72:Int}(hi:i<m) (hm:m≤8) (hs:f+4*m≤s.length):E cx L164a [.arr 0 1 0 n,vs (mk (left s f m i)),vi i,vs (mk s1),vi x71,vi x72,vi m] [⟨.arr,3,1,1,ints l⟩]=(bif decide ((i:Int)>0) then(chk n (ℓ (ints l))).bind fun _=>if Nat.mul (Nat.add (ℓ (ints l)) 1) 8≤140737488355328 then bif decide ((i:Int)>0) then E cx L164a [.arr 0 1 0 (Nat.add (ℓ (ints l)) 1),vs (mk (left s f m (i+1))),vi (ω .i64 (Int.add i 1)),vs (mk s1),vi x71,vi x72,vi m] [⟨.arr,3,1,1,ints l++[[vi (ω .i64 (off s f i))]]⟩] else bif decide (ω .i64 (off s f i)=x72) then E cx L164a [.arr 0 1 0 (Nat.add (ℓ (ints l)) 1),vs (mk (left s f m (i+1))),vi (ω .i64 (Int.add i 1)),vs (mk s1),vi x71,vi x72,vi m] [⟨.arr,3,1,1,ints l++[[vi (ω .i64 (off s f i))]]⟩] else some (Out.jump (Pan2 2) [.arr 0 1 0 (Nat.add (ℓ (ints l)) 1),vs (mk (left s f m (i+1))),vi i],[⟨.arr,3,1,1,ints l++[[vi (ω .i64 (off s f i))]]⟩]) else none else bif decide ((i:Int)>0) then E cx L164a [.arr 0 1 0 n,vs (mk (left s f m (i+1))),vi (ω .i64 (Int.add i 1)),vs (mk s1),vi x71,vi x72,vi m] [⟨.arr,3,1,1,ints l⟩] else bif decide (ω .i64 (off s f i)=x72) then E cx L164a [.arr 0 1 0 n,vs (mk (left s f m (i+1))),vi (ω .i64 (Int.add i 1)),vs (mk s1),vi x71,vi x72,vi m] [⟨.arr,3,1,1,ints l⟩] else some (Out.jump (Pan2 2) [.arr 0 1 0 n,vs (mk (left s f m (i+1))),vi i],[⟨.arr,3,1,1,ints l⟩])):=by
 refine(f83_l0 _ _ _ _ _ _ _ _).trans ((goD (by omega) _ _).trans ?_)
 have hc:=c116 (left s f m i) 4
 rw [take_left hi hs] at hc
 exact goTk hc _
theorem w64 {s:B}{f i:Nat}:ω .i64 (off s f i)=((off s f i:Nat):Int):=wr_id (by omega) (by have:=off_lt s f i;omega)
theorem ints_len (l:List Int):(ints l).length=l.length:=by simp [ints]
theorem loop_42a {s s1:B}{f m:Nat}{x71 x72:Int}(hm:m≤8) (hs:f+4*m≤s.length):∀(d i:Nat) (l:List Int),d+i=m→1≤i→l.length=i →
  ∃l' r',E cx L164a [.arr 0 1 0 i,vs (mk (left s f m i)),vi i,vs (mk s1),vi x71,vi x72,vi m] [⟨.arr,3,1,1,ints l⟩]=some (Out.jump (.exit 0) [.arr 0 1 0 m,vs (mk r'),vi m],[⟨.arr,3,1,1,ints l'⟩]) ∧
   l'.length=m∧(∀j,j<i→l'[j]?=l[j]?)∧∀j,i≤j→j<m→l'[j]?=some ((off s f j:Nat):Int)
 | 0,i,l,hd,hi,hl=>by
  have:i=m:=by omega
  subst this
  exact⟨l,_,(f83_l0 _ _ _ _ _ _ _ _).trans (goDn (by omega) _ _),hl,fun _ _=>rfl,fun j h1 h2=>by omega⟩
 |d+1,i,l,hd,hi,hl=>by
  obtain⟨l',r',h1,h2,h3,h4⟩:=loop_42a (s:=s) (s1:=s1) (f:=f) (m:=m) (x71:=x71) (x72:=x72) hm hs d (i+1) (l++[((off s f i:Nat):Int)]) (by omega) (by omega) (by simp [hl])
  refine⟨l',r',?_,h2,fun j hj=> ?_,fun j hj1 hj2=> ?_⟩
  ·refine(head_42 (by omega) hm hs).trans ((goD (by omega) _ _).trans ?_)
   rw [ints_len,hl]
   refine(goCk rfl _).trans ((goY (by show(i+1)*8≤_;omega) _ _).trans ((goD (by omega) _ _).trans ?_))
   rw [w64,wr_add (by omega) (by omega)]
   have e:ints l++[[vi ((off s f i:Nat):Int)]]=ints (l++[((off s f i:Nat):Int)]):=by simp [ints]
   rw [e]
   exact h1
  ·rw [h3 j (by omega),List.getElem?_append_left (by omega)]
  ·by_cases hij:j=i
   ·subst hij
    rw [h3 j (by omega),List.getElem?_append_right (by omega),hl]
    simp
   ·exact h4 j (by omega) hj2
theorem loop_42 {s s1:B}{f m:Nat}{x71:Int}(hm:m≤8) (hs:f+4*m≤s.length):((0<m→off s f 0=f+4*m)→∃l' r',E cx L164a [.arr 0 1 0 1,vs (mk (left s f m 0)),vi 0,vs (mk s1),vi x71,vi (f+4*m:Nat),vi m] [⟨.arr,3,1,1,ints [((f+4*m:Nat):Int)]⟩]=some (Out.jump (.exit 0) [.arr 0 1 0 (max 1 m),vs (mk r'),vi m],[⟨.arr,3,1,1,ints l'⟩])∧l'.length=max 1 m∧l'[0]?=some ((f+4*m:Nat):Int)∧∀j,1≤j→j<m→l'[j]?=some ((off s f j:Nat):Int))∧(¬(0<m→off s f 0=f+4*m)→∃l' r',E cx L164a [.arr 0 1 0 1,vs (mk (left s f m 0)),vi 0,vs (mk s1),vi x71,vi (f+4*m:Nat),vi m] [⟨.arr,3,1,1,ints [((f+4*m:Nat):Int)]⟩]=some (Out.jump (Pan2 2) [.arr 0 1 0 1,vs (mk r'),vi 0],[⟨.arr,3,1,1,ints l'⟩])):=by
 by_cases h0:m=0
 ·subst h0
  refine⟨fun _=>⟨_,_,(f83_l0 _ _ _ _ _ _ _ _).trans (goDn (by omega) _ _),rfl,rfl,fun j h1 h2=>by omega⟩,fun h=>absurd (fun h0=>by omega) h⟩
 ·have hd:=head_42 (s:=s) (s1:=s1) (f:=f) (m:=m) (i:=0) (n:=1) (l:=[((f+4*m:Nat):Int)]) (x71:=x71) (x72:=(f+4*m:Nat)) (by omega) hm hs
  rw [goDn (by omega),goDn (by omega),w64] at hd
  by_cases h1:off s f 0=f+4*m
  ·refine⟨fun _=> ?_,fun h=>absurd (fun _=>h1) h⟩
   rw [goD (by rw [h1]),wr_add (by omega) (by omega)] at hd
   obtain⟨l',r',g1,g2,g3,g4⟩:=loop_42a (s:=s) (s1:=s1) (f:=f) (m:=m) (x71:=x71) (x72:=(f+4*m:Nat)) hm hs (m-1) 1 [((f+4*m:Nat):Int)] (by omega) (Nat.le_refl _) rfl
   refine⟨l',r',?_,by rw [g2];omega,by rw [g3 0 (by omega)];rfl,g4⟩
   rw [show max 1 m=m by omega]
   exact hd.trans g1
  ·refine⟨fun h=>absurd (h (by omega)) h1,fun _=> ?_⟩
   rw [goDn (by omega)] at hd
   exact⟨_,_,hd⟩
theorem loop_42b {s1:B}{x88 x89:Int}{L:List Int}{n:Nat}{g:Nat→Int}(hn:n≤20) (hL:∀k,k<n→L[k]?=some (g k)):∀(d i:Nat),d+i=n→1≤i →
  ((∀k,i≤k→k<n→g (k-1)≤g k)→E cx L164b [vi i,vs (mk s1),vi x88,vi x89,.arr 1 1 0 n] [⟨.dead,3,1,1,[]⟩,⟨.arr,3,1,1,ints L⟩]=some (Out.jump (.exit 2) [vi n],[⟨.dead,3,1,1,[]⟩,⟨.arr,3,1,1,ints L⟩])) ∧
  (¬(∀k,i≤k→k<n→g (k-1)≤g k)→∃j:Int,E cx L164b [vi i,vs (mk s1),vi x88,vi x89,.arr 1 1 0 n] [⟨.dead,3,1,1,[]⟩,⟨.arr,3,1,1,ints L⟩]=some (Out.jump (Pan2 2) [vi j],[⟨.dead,3,1,1,[]⟩,⟨.arr,3,1,1,ints L⟩]))
 | 0,i,hd,hi=>by
  refine⟨fun _=>(f83_l1 _ _ _ _ _ _).trans ((goDn (by omega) _ _).trans ?_),fun h=>absurd (fun k h1 h2=>by omega) h⟩
  rw [show i=n by omega]
 |d+1,i,hd,hi=>by
  have head:E cx L164b [vi i,vs (mk s1),vi x88,vi x89,.arr 1 1 0 n] [⟨.dead,3,1,1,[]⟩,⟨.arr,3,1,1,ints L⟩] =
    (bif decide (g (i-1)≤g i) then E cx L164b [vi (i+1:Nat),vs (mk s1),vi x88,vi x89,.arr 1 1 0 n] [⟨.dead,3,1,1,[]⟩,⟨.arr,3,1,1,ints L⟩]
     else some (Out.jump (Pan2 2) [vi i],[⟨.dead,3,1,1,[]⟩,⟨.arr,3,1,1,ints L⟩])):=by
   refine(f83_l1 _ _ _ _ _ _).trans ((goD (by omega) _ _).trans ?_)
   rw [wr_sub (by omega) (by omega),wr_add (by omega) (by omega)]
   refine(goY (by omega) _ _).trans ((goY (by omega) _ _).trans ((go1n (n:=i-1) (by omega) (hL (i-1) (by omega)) _).trans ?_))
   refine(goY (by omega) _ _).trans ((goY (by omega) _ _).trans ((go1n (n:=i) rfl (hL i (by omega)) _).trans ?_))
   rfl
  have ih:=loop_42b (s1:=s1) (x88:=x88) (x89:=x89) hn hL d (i+1) (by omega) (by omega)
  rw [head]
  by_cases hle:g (i-1)≤g i
  ·rw [goD hle]
   refine⟨fun h=>ih.1 fun k h1 h2=>h k (by omega) h2,fun h=>ih.2 fun h'=>h fun k h1 h2=> ?_⟩
   by_cases hk:k=i
   ·subst hk;exact hle
   ·exact h' k (by omega) h2
  ·rw [goDn hle]
   exact⟨fun h=>absurd (h i (Nat.le_refl _) (by omega)) hle,fun _=>⟨_,rfl⟩⟩
end
section
abbrev panR (e:Int):Option (Out×Heap):=some (Out.jump (Pan2 e) [],[])
def gE (s:B) (f m k:Nat):Int:=if k=0 then((f+4*m:Nat):Int) else if k<m then((off s f k:Nat):Int) else(s.length:Int)
theorem gE_edge {s:B}{f m:Nat}(h0:0<m→off s f 0=f+4*m) (h1:m=0→f=s.length) {k:Nat}(hk:k≤m):gE s f m k=((edge s f m k:Nat):Int):=by
 unfold gE edge
 by_cases hk0:k=0
 ·subst hk0
  rw [if_pos rfl]
  by_cases hm:0<m
  ·rw [if_pos hm,h0 hm]
  ·rw [if_neg hm,h1 (by omega)]
   omega
 ·rw [if_neg hk0]
  by_cases hm:k<m
  ·rw [if_pos hm,if_pos hm]
  ·rw [if_neg hm,if_neg hm]
theorem left0 (s:B) (f m:Nat):ByteArray.extract (mk s) f (f+4*m)=mk (left s f m 0):=by
 rw [ext_mk]
 unfold left
 rfl
theorem tail_42 {s:B}{f m:Nat}(hm:m≤8) (hf:f≤65536) (hs:f+4*m≤s.length) (hs2:s.length≤65536) (h0:0<m→off s f 0=f+4*m) {l':List Int}{r':B}(g2:l'.length=max 1 m) (g3:l'[0]?=some ((f+4*m:Nat):Int)) (g4:∀j,1≤j→j<m→l'[j]?=some ((off s f j:Nat):Int)):(okS s f m→∃L,(∀k,k≤m→L[k]?=some ((edge s f m k:Nat):Int))∧E cx L164b [vi 1,vs (mk s),vi m,vi (f+4*m:Nat),.arr 1 1 0 (max 1 m+1)] [⟨.dead,3,1,1,[]⟩,⟨.arr,3,1,1,ints l'++[[vi s.length]]⟩]=some (Out.jump (.exit 2) [vi (max 1 m+1:Nat)],[⟨.dead,3,1,1,[]⟩,⟨.arr,3,1,1,ints L⟩])∧L.length=max 1 m+1)∧(¬okS s f m→(∃j:Int,E cx L164b [vi 1,vs (mk s),vi m,vi (f+4*m:Nat),.arr 1 1 0 (max 1 m+1)] [⟨.dead,3,1,1,[]⟩,⟨.arr,3,1,1,ints l'++[[vi s.length]]⟩]=some (Out.jump (Pan2 2) [vi j],[⟨.dead,3,1,1,[]⟩,⟨.arr,3,1,1,ints l'++[[vi s.length]]⟩]))∨(m=0∧f≠s.length∧E cx L164b [vi 1,vs (mk s),vi m,vi (f+4*m:Nat),.arr 1 1 0 (max 1 m+1)] [⟨.dead,3,1,1,[]⟩,⟨.arr,3,1,1,ints l'++[[vi s.length]]⟩]=some (Out.jump (.exit 2) [vi (max 1 m+1:Nat)],[⟨.dead,3,1,1,[]⟩,⟨.arr,3,1,1,ints l'++[[vi s.length]]⟩]))):=by
 have eL:ints l'++[[vi (s.length:Int)]]=ints (l'++[(s.length:Int)]):=by simp [ints]
 have hL:∀k,k<max 1 m+1→(l'++[(s.length:Int)])[k]?=some (gE s f m k):=fun k hk=>by
  unfold gE
  by_cases hk0:k=0
  ·subst hk0
   rw [if_pos rfl,List.getElem?_append_left (by omega),g3]
  ·rw [if_neg hk0]
   by_cases hkm:k<m
   ·rw [if_pos hkm,List.getElem?_append_left (by omega),g4 k (by omega) hkm]
   ·rw [if_neg hkm,List.getElem?_append_right (by omega),show k-l'.length=0 by omega]
    rfl
 have hb:=loop_42b (s1:=s) (x88:=m) (x89:=(f+4*m:Nat)) (by omega) hL (max 1 m) 1 (by omega) (Nat.le_refl _)
 rw [eL]
 have rise:m≠0→((∀k,1≤k→k<max 1 m+1→gE s f m (k-1)≤gE s f m k)↔∀k,k<m→edge s f m k≤edge s f m (k+1)):=fun hm0=>by
  have e:∀k,k≤m→gE s f m k=((edge s f m k:Nat):Int):=fun k hk=>gE_edge h0 (fun h=>absurd h hm0) hk
  constructor
  ·intro h k hk
   have:=h (k+1) (by omega) (by omega)
   rw [Nat.add_sub_cancel,e k (by omega),e (k+1) (by omega)] at this
   omega
  ·intro h k h1 h2
   have:=h (k-1) (by omega)
   rw [show k-1+1=k by omega] at this
   rw [e (k-1) (by omega),e k (by omega)]
   omega
 refine⟨fun hok=>⟨l'++[(s.length:Int)],fun k hk=> ?_,?_,by simp [g2]⟩,fun hno=> ?_⟩
 ·rw [hL k (by omega),gE_edge h0 hok.1 hk]
 ·refine hb.1 ?_
  by_cases hm0:m=0
  ·subst hm0
   intro k h1 h2
   have:k=1:=by omega
   subst this
   have:=hok.1 rfl
   unfold gE
   simp
   omega
  ·exact(rise hm0).2 hok.2.2
 ·by_cases hm0:m=0
  ·right
   refine⟨hm0,fun he=>hno ⟨fun _=>he,h0,fun k hk=>by omega⟩,hb.1 ?_⟩
   subst hm0
   intro k h1 h2
   have:k=1:=by omega
   subst this
   unfold gE
   simp
   omega
  ·left
   exact hb.2 fun h=>hno ⟨fun h=>absurd h hm0,h0,(rise hm0).1 h⟩
theorem c164_bad (s:B) {f m:Int}(hf:RI f) (hm:RI m) (h:f<0∨f>65536∨m<0∨m>8):E cx (Key.fn 83) [vs (mk s),vi f,vi m] []=panR 1:=by
 refine(f83 (mk s) f m).trans ?_
 by_cases h1:f≥0
 ·refine(goD h1 _ _).trans ?_
  by_cases h2:f≤65536
  ·refine(goD h2 _ _).trans ?_
   by_cases h3:m≥0
   ·refine(goD h3 _ _).trans ?_
    exact goDn (by omega) _ _
   ·exact goDn h3 _ _
  ·exact goDn h2 _ _
 ·exact goDn h1 _ _
theorem c164_long (s:B) {f m:Nat}(hf:f≤65536) (hm:m≤8) (h:s.length>65536):E cx (Key.fn 83) [vs (mk s),vi f,vi m] []=panR 4:=by
 refine(f83 (mk s) f m).trans ((goD (by omega) _ _).trans ((goD (by omega) _ _).trans ((goD (by omega) _ _).trans ((goD (by omega) _ _).trans ?_))))
 exact goDn (by show ¬(s.length:Int)≤65536;omega) _ _
theorem w_42 {f m:Nat}(hf:f≤65536) (hm:m≤8):ω .i64 (Int.add (f:Int) (ω .i64 (Int.mul 4 (m:Int))))=((f+4*m:Nat):Int):=by
 rw [wr_mul (by omega) (by omega),wr_add (by omega) (by omega)]
 omega
theorem c164_short (s:B) {f m:Nat}(hf:f≤65536) (hm:m≤8) (h:¬s.length>65536) (h2:s.length<f+4*m):E cx (Key.fn 83) [vs (mk s),vi f,vi m] []=panR 3:=by
 refine(f83 (mk s) f m).trans ((goD (by omega) _ _).trans ((goD (by omega) _ _).trans ((goD (by omega) _ _).trans ((goD (by omega) _ _).trans ?_))))
 refine(goD (by show(s.length:Int)≤65536;omega) _ _).trans ?_
 rw [w_42 hf hm]
 exact goDn (by show ¬(s.length:Int)≥((f+4*m:Nat):Int);omega) _ _
theorem c164_rest (s:B) {f m:Nat}(hf:f≤65536) (hm:m≤8) (h:¬s.length>65536) (h2:¬s.length<f+4*m):(okS s f m→∃L,E cx (Key.fn 83) [vs (mk s),vi f,vi m] []=some (Out.ret (.list 0 1 (ints L)),[])∧∀k,k≤m→L[k]?=some ((edge s f m k:Nat):Int))∧(¬okS s f m→E cx (Key.fn 83) [vs (mk s),vi f,vi m] []=panR 2):=by
 have hd:=(f83 (mk s) f m).trans ((goD (by omega) _ _).trans ((goD (by omega) _ _).trans ((goD (by omega) _ _).trans ((goD (by omega) _ _).trans (goD (by show(s.length:Int)≤65536;omega) _ _)))))
 rw [w_42 hf hm] at hd
 have hd:=hd.trans ((goD (by show(s.length:Int)≥((f+4*m:Nat):Int);omega) _ _).trans ((goY (by omega) _ _).trans ((goY (by show((f+4*m:Nat):Int)≤(s.length:Int);omega) _ _).trans ((goY (by omega) _ _).trans (goY (by omega) _ _)))))
 rw [Int.toNat_natCast,Int.toNat_natCast,left0] at hd
 have hl:=loop_42 (s:=s) (s1:=s) (f:=f) (m:=m) (x71:=m) hm (by omega)
 by_cases h0:0<m→off s f 0=f+4*m
 ·obtain⟨l',r',g1,g2,g3,g4⟩:=hl.1 h0
  have g1':E cx (Key.loop 83 [true,true,true,true,true,true,true,false,true,false]) [.arr 0 1 0 1,vs (mk (left s f m 0)),vi 0,vs (mk s),vi m,vi (f+4*m:Nat),vi m] [⟨.arr,3,1,1,[[vi (f+4*m:Nat)]]⟩]=_:=g1
  rw [g1'] at hd
  have ht:=tail_42 hm hf (by omega) (by omega) h0 g2 g3 g4 (r':=r')
  have hlen:(ints l').length=max 1 m:=by rw [ints_len,g2]
  have hd2:E cx (Key.fn 83) [vs (mk s),vi f,vi m] []=((chk 0 0).bind fun _=>(chk (max 1 m) (ints l').length).bind fun _=>if Nat.mul (Nat.add (ints l').length 1) 8≤140737488355328 then
    Ω (E cx L164b [vi 1,vs (mk s),vi m,vi (f+4*m:Nat),.arr 1 1 0 (Nat.add (ints l').length 1)] [⟨.dead,3,1,1,[]⟩,⟨.arr,3,1,1,ints l'++[[vi s.length]]⟩]) _ else none):=hd
  rw [goCk rfl,goCk hlen.symm,hlen,goY (by show(max 1 m+1)*8≤_;omega)] at hd2
  have fin:∀L:List Int,L.length=max 1 m+1→E cx L164b [vi 1,vs (mk s),vi m,vi (f+4*m:Nat),.arr 1 1 0 (max 1 m+1)] [⟨.dead,3,1,1,[]⟩,⟨.arr,3,1,1,ints l'++[[vi s.length]]⟩]=some (Out.jump (.exit 2) [vi (max 1 m+1:Nat)],[⟨.dead,3,1,1,[]⟩,⟨.arr,3,1,1,ints L⟩]) →
    E cx (Key.fn 83) [vs (mk s),vi f,vi m] []=(bif decide ((m:Int)>0) then some (Out.ret (.list 0 1 (ints L)),[]) else bif decide (((f+4*m:Nat):Int)=(s.length:Int)) then some (Out.ret (.list 0 1 (ints L)),[]) else panR 2):=fun L hLl he=>by
   have he':E cx L164b [vi 1,vs (mk s),vi m,vi (f+4*m:Nat),.arr 1 1 0 (Nat.add (max 1 m) 1)] [⟨.dead,3,1,1,[]⟩,⟨.arr,3,1,1,ints l'++[[vi s.length]]⟩]=_:=he
   rw [he'] at hd2
   have hd3:E cx (Key.fn 83) [vs (mk s),vi f,vi m] []=(bif decide ((m:Int)>0) then(chkLe (0+(max 1 m+1)) (ints L).length).bind fun _=>some (Out.ret (.list 0 1 (List.drop 0 (List.take (0+(max 1 m+1)) (ints L)))),[])
     else bif decide (((f+4*m:Nat):Int)=(s.length:Int)) then(chkLe (0+(max 1 m+1)) (ints L).length).bind fun _=>some (Out.ret (.list 0 1 (List.drop 0 (List.take (0+(max 1 m+1)) (ints L)))),[]) else panR 2):=by
    rw [←hlen]
    rw [←hlen] at hd2
    exact hd2
   have hi:(ints L).length=max 1 m+1:=by rw [ints_len,hLl]
   rw [goLe (by omega),List.drop_zero,List.take_of_length_le (by omega)] at hd3
   exact hd3
  refine⟨fun hok=> ?_,fun hno=> ?_⟩
  ·obtain⟨L,k1,k2,k3⟩:=ht.1 hok
   refine⟨L,(fin L k3 k2).trans ?_,k1⟩
   by_cases hm0:(m:Int)>0
   ·exact goD hm0 _ _
   ·refine(goDn hm0 _ _).trans (goD ?_ _ _)
    have:=hok.1 (by omega)
    omega
  ·rcases ht.2 hno with⟨j,he⟩ |⟨hm0,hne,he⟩
   ·have he':E cx L164b [vi 1,vs (mk s),vi m,vi (f+4*m:Nat),.arr 1 1 0 (Nat.add (max 1 m) 1)] [⟨.dead,3,1,1,[]⟩,⟨.arr,3,1,1,ints l'++[[vi s.length]]⟩]=_:=he
    rw [he'] at hd2
    exact hd2
   ·have e:ints l'++[[vi (s.length:Int)]]=ints (l'++[(s.length:Int)]):=by simp [ints]
    have:=fin (l'++[(s.length:Int)]) (by simp [g2]) (by rw [←e];exact he)
    refine this.trans ((goDn (by omega) _ _).trans (goDn (by omega) _ _))
 ·obtain⟨l',r',g1⟩:=hl.2 h0
  have g1':E cx (Key.loop 83 [true,true,true,true,true,true,true,false,true,false]) [.arr 0 1 0 1,vs (mk (left s f m 0)),vi 0,vs (mk s),vi m,vi (f+4*m:Nat),vi m] [⟨.arr,3,1,1,[[vi (f+4*m:Nat)]]⟩]=_:=g1
  rw [g1'] at hd
  exact⟨fun hok=>absurd hok.2.1 h0,fun _=>hd⟩
end
section
noncomputable section
open Classical
def pieces (s:B) (f m n:Nat):List B:=(List.range n).map (piece s f m)
def splitR (s:B) (f m:Int):B×List B×Int :=
 if f<0∨f>65536∨m<0∨m>8 then([],[],1) else if s.length>65536 then([],[],4) else if s.length<f.toNat+4*m.toNat then([],[],3) else
 if okS s f.toNat m.toNat then(s.take f.toNat,pieces s f.toNat m.toNat m.toNat,0) else([],[],2)
theorem splitR_1 {s:B}{f m:Int}(h:f<0∨f>65536∨m<0∨m>8):splitR s f m=([],[],1):=if_pos h
theorem splitR_4 {s:B}{f m:Nat}(hf:f≤65536) (hm:m≤8) (h:s.length>65536):splitR s f m=([],[],4):=(if_neg (by omega)).trans (if_pos h)
theorem splitR_3 {s:B}{f m:Nat}(hf:f≤65536) (hm:m≤8) (h:¬s.length>65536) (h2:s.length<f+4*m):splitR s f m=([],[],3) :=
 (if_neg (by omega)).trans ((if_neg h).trans (if_pos (by simpa using h2)))
theorem splitR_0 {s:B}{f m:Nat}(hf:f≤65536) (hm:m≤8) (h:¬s.length>65536) (h2:¬s.length<f+4*m) (hok:okS s f m):splitR s f m=(s.take f,pieces s f m m,0) :=
 (if_neg (by omega)).trans ((if_neg h).trans ((if_neg (by simpa using h2)).trans (if_pos (by simpa using hok))))
theorem splitR_2 {s:B}{f m:Nat}(hf:f≤65536) (hm:m≤8) (h:¬s.length>65536) (h2:¬s.length<f+4*m) (hok:¬okS s f m):splitR s f m=([],[],2) :=
 (if_neg (by omega)).trans ((if_neg h).trans ((if_neg (by simpa using h2)).trans (if_neg (by simpa using hok))))
end
def RS' (x:Option (Out×Heap)) (r:B×List B×Int):Prop:=RS x r.1 r.2.1 r.2.2
theorem edge_le {s:B}{f m:Nat}(h:∀k,k<m→edge s f m k≤edge s f m (k+1)):∀(d k:Nat),k+d=m→edge s f m k≤s.length
 | 0,k,hk=>by
  unfold edge
  rw [if_neg (by omega)]
  exact Nat.le_refl _
 |d+1,k,hk=>by
  have h1:=h k (by omega)
  have h2:=edge_le h d (k+1) (by omega)
  omega
theorem pieces_succ (s:B) (f m n:Nat):pieces s f m (n+1)=pieces s f m n++[piece s f m n]:=by
 unfold pieces
 rw [List.range_succ,List.map_append]
 rfl
theorem pieces_len (s:B) (f m n:Nat):(pieces s f m n).length=n:=by simp [pieces]
abbrev L145:Key:=Key.loop 68 [true,true,true,false,true,false]
theorem loop_22 {s:B}{f m:Nat}{L:List Int}{x148:Int}{s151:ByteArray}(hm:m≤8) (hs2:s.length≤65536) (hL:∀k,k≤m→L[k]?=some ((edge s f m k:Nat):Int)) (hr:∀k,k<m→edge s f m k≤edge s f m (k+1)):∀(d i:Nat),d+i=m →
  E cx L145 [vi i,vs (mk s),vi x148,.ptr 0 0 0 0,.ptr 1 0 0 0,.ptr 2 0 0 0,.list 0 1 (ints L),vi m] [⟨.box,9,1,0,[[vs s151]]⟩,⟨.box,51,1,0,[[.arr 3 1 0 i]]⟩,⟨.box,44,1,0,[[vi 0]]⟩,⟨.arr,9,1,1,rowsB (pieces s f m i)⟩] =
   some (Out.jump (.exit 0) [vi m],[⟨.box,9,1,0,[[vs s151]]⟩,⟨.box,51,1,0,[[.arr 3 1 0 m]]⟩,⟨.box,44,1,0,[[vi 0]]⟩,⟨.arr,9,1,1,rowsB (pieces s f m m)⟩])
 | 0,i,hd=>by
  have:i=m:=by omega
  subst this
  exact(f68_l0 _ _ _ _ _ _ _ _ _).trans (goDn (by omega) _ _)
 |d+1,i,hd=>by
  have e1:=edge_le hr (m-i) i (by omega)
  have e2:=edge_le hr (m-(i+1)) (i+1) (by omega)
  have e3:=hr i (by omega)
  have hlen:(rowsB (pieces s f m i)).length=i:=by rw [rows_len,pieces_len]
  refine(f68_l0 _ _ _ _ _ _ _ _ _).trans ((goD (by omega) _ _).trans ((goY (by omega) _ _).trans ((go1 (n:=i) rfl (hL i (by omega)) _).trans ?_)))
  rw [wr_add (by omega) (by omega)]
  refine(goY (by omega) _ _).trans ((go1 (n:=i+1) (by omega) (hL (i+1) (by omega)) _).trans ?_)
  refine(goY (by omega) _ _).trans ((goY (by show((edge s f m (i+1):Nat):Int)≤(s.length:Int);omega) _ _).trans ((goY (by omega) _ _).trans ((goY (by omega) _ _).trans ?_)))
  refine(goCk (by show i=(rowsB _).length;rw [hlen]) _).trans ((goY (by show Nat.mul (Nat.add (rowsB _).length 1) 16≤_;rw [hlen];show(i+1)*16≤_;omega) _ _).trans ?_)
  have ep:rowsB (pieces s f m i)++[[vs (ByteArray.extract (mk s) (τ ((edge s f m i:Nat):Int)) (τ ((edge s f m (i+1):Nat):Int)))]]=rowsB (pieces s f m (i+1)):=by
   rw [ext_mk,Int.toNat_natCast,Int.toNat_natCast,pieces_succ]
   simp only [rowsB,List.map_append,List.map_cons,List.map_nil]
   rfl
  show E cx L145 [vi ((i:Int)+1),vs (mk s),vi x148,.ptr 0 0 0 0,.ptr 1 0 0 0,.ptr 2 0 0 0,.list 0 1 (ints L),vi m] [⟨.box,9,1,0,[[vs s151]]⟩,⟨.box,51,1,0,[[.arr 3 1 0 (Nat.add (rowsB (pieces s f m i)).length 1)]]⟩,⟨.box,44,1,0,[[vi 0]]⟩,
   ⟨.arr,9,1,1,rowsB (pieces s f m i)++[[vs (ByteArray.extract (mk s) (τ ((edge s f m i:Nat):Int)) (τ ((edge s f m (i+1):Nat):Int)))]]⟩]=_
  rw [ep,hlen]
  exact loop_22 hm hs2 hL hr d (i+1) (by omega)
theorem panRS {s:B}{f m:Int}{e:Int}(h:E cx (Key.fn 83) [vs (mk s),vi f,vi m] []=panR e):RS (E cx (Key.fn 68) [vs (mk s),vi f,vi m] []) [] [] e:=by
 refine⟨AV.val (Value.slice none 0 0),?_,rfl⟩
 refine(f68 (mk s) f m).trans ?_
 rw [h]
 rfl
theorem c145 (s:B) {f m:Int}(hf:RI f) (hm:RI m):RS' (E cx (Key.fn 68) [vs (mk s),vi f,vi m] []) (splitR s f m):=by
 unfold RS'
 by_cases h1:f<0∨f>65536∨m<0∨m>8
 ·rw [splitR_1 h1]
  exact panRS (c164_bad s hf hm h1)
 obtain⟨f,rfl⟩:∃n:Nat,f=n:=⟨f.toNat,by omega⟩
 obtain⟨m,rfl⟩:∃n:Nat,m=n:=⟨m.toNat,by omega⟩
 have hf':f≤65536:=by omega
 have hm':m≤8:=by omega
 by_cases h2:s.length>65536
 ·rw [splitR_4 hf' hm' h2]
  exact panRS (c164_long s hf' hm' h2)
 by_cases h3:s.length<f+4*m
 ·rw [splitR_3 hf' hm' h2 h3]
  exact panRS (c164_short s hf' hm' h2 h3)
 have hr:=c164_rest s hf' hm' h2 h3
 by_cases hok:okS s f m
 ·obtain⟨L,g1,g2⟩:=hr.1 hok
  rw [splitR_0 hf' hm' h2 h3 hok]
  have hl:=loop_22 (s:=s) (f:=f) (m:=m) (L:=L) (x148:=f) (s151:=mk []) hm' (by omega) g2 hok.2.2 m 0 (by omega)
  refine⟨.list 0 1 (rowsB (pieces s f m m)),?_,rfl⟩
  refine(f68 (mk s) f m).trans ?_
  rw [g1]
  show(Ω (E cx L145 [vi ((0:Nat):Int),vs (mk s),vi f,.ptr 0 0 0 0,.ptr 1 0 0 0,.ptr 2 0 0 0,.list 0 1 (ints L),vi m] [⟨.box,9,1,0,[[vs (mk [])]]⟩,⟨.box,51,1,0,[[.arr 3 1 0 0]]⟩,⟨.box,44,1,0,[[vi 0]]⟩,⟨.arr,9,1,1,rowsB (pieces s f m 0)⟩]) _)=_
  rw [hl]
  show(if(0:Int)≤(f:Int) then if(f:Int)≤(s.length:Int) then(chkLe (0+m) (rowsB (pieces s f m m)).length).bind fun _=>some (Out.ret (AV.tuple [vs (ByteArray.extract (mk s) 0 (τ (f:Int))),.list 0 1 (List.drop 0 (List.take (0+m) (rowsB (pieces s f m m)))),vi 0]),[]) else none else none)=_
  have hlen:(rowsB (pieces s f m m)).length=m:=by rw [rows_len,pieces_len]
  rw [goY (by omega),goY (by omega),goLe (by omega),List.drop_zero,List.take_of_length_le (by omega),ext_mk,Int.toNat_natCast,List.drop_zero]
 ·rw [splitR_2 hf' hm' h2 h3 hok]
  exact panRS (hr.2 hok)
end
section
theorem app_drop {l:B}{a b c:Nat}(h1:a≤b) (h2:b≤c):(l.take b).drop a++(l.take c).drop b=(l.take c).drop a:=by
 have e:l.take b=(l.take c).take b:=by rw [List.take_take,Nat.min_eq_left h2]
 rw [e]
 generalize l.take c=l'
 have:l'.drop a=(l'.take b++l'.drop b).drop a:=by rw [List.take_append_drop]
 rw [this,List.drop_append]
 by_cases hb:b≤l'.length
 ·rw [List.length_take,Nat.min_eq_left hb,Nat.sub_eq_zero_of_le h1,List.drop_zero]
 ·rw [show l'.drop b=[] from List.drop_eq_nil_iff.2 (by omega)]
  simp
theorem flat_pieces {s:B}{f m:Nat}(hr:∀k,k<m→edge s f m k≤edge s f m (k+1)):∀(n:Nat),n≤m→edge s f m 0≤edge s f m n∧(pieces s f m n).flatten=(s.take (edge s f m n)).drop (edge s f m 0)
 | 0,_=>by
  refine⟨Nat.le_refl _,?_⟩
  rw [show pieces s f m 0=[] from rfl,List.flatten_nil]
  exact(List.drop_eq_nil_iff.2 (by rw [List.length_take];omega)).symm
 |n+1,hn=>by
  obtain⟨h1,h2⟩:=flat_pieces hr n (by omega)
  have h3:=hr n (by omega)
  refine⟨Nat.le_trans h1 h3,?_⟩
  rw [pieces_succ,List.flatten_append,h2]
  simp only [List.flatten_cons,List.flatten_nil,List.append_nil]
  exact app_drop h1 h3
theorem flat_all {s:B}{f m:Nat}(hr:∀k,k<m→edge s f m k≤edge s f m (k+1)):(pieces s f m m).flatten=s.drop (edge s f m 0):=by
 rw [(flat_pieces hr m (Nat.le_refl _)).2]
 rw [show edge s f m m=s.length from if_neg (by omega),List.take_length]
def pl (s:B) (f m j:Nat):Nat→List B
 | 0=>[]
 |d+1=>piece s f m j::pl s f m (j+1) d
theorem pl_pieces (s:B) (f m:Nat):∀(d j:Nat),pieces s f m (j+d)=pieces s f m j++pl s f m j d
 | 0,j=>by simp [pl]
 |d+1,j=>by
  rw [show j+(d+1)=(j+1)+d by omega,pl_pieces s f m d (j+1),pieces_succ]
  simp [pl]
theorem piece_len {s:B}{f m:Nat}(hr:∀k,k<m→edge s f m k≤edge s f m (k+1)) {k:Nat}(hk:k<m):edge s f m k+(piece s f m k).length=edge s f m (k+1):=by
 have h1:=hr k hk
 have h2:=edge_le hr (m-(k+1)) (k+1) (by omega)
 unfold piece
 rw [List.length_drop,List.length_take]
 omega
theorem hs_left {s:B}{f m:Nat}(hs:f+4*m≤s.length) (hr:∀k,k<m→edge s f m k≤edge s f m (k+1)):∀(d j:Nat),j+d=m→Av.hs (edge s f m j) (pl s f m j d)=left s f m j
 | 0,j,hj=>by
  simp only [pl,Av.hs]
  exact(List.drop_eq_nil_iff.2 (by rw [List.length_take];omega)).symm
 |d+1,j,hj=>by
  simp only [pl,Av.hs]
  rw [piece_len hr (by omega),hs_left hs hr d (j+1) (by omega)]
  have e1:edge s f m j=off s f j:=if_pos (by omega)
  have hl:((s.drop (f+4*j)).take 4).length=4:=by rw [List.length_take,List.length_drop];omega
  have e2:put (edge s f m j) 4=(s.drop (f+4*j)).take 4:=by
   rw [e1]
   have:=put_val ((s.drop (f+4*j)).take 4)
   rw [hl] at this
   exact this
  rw [e2]
  unfold left
  have e3:(s.take (f+4*m)).drop (f+4*(j+1))=((s.take (f+4*m)).drop (f+4*j)).drop 4:=by rw [List.drop_drop];congr 1
  have e4:(s.drop (f+4*j)).take 4=((s.take (f+4*m)).drop (f+4*j)).take 4:=by rw [List.drop_take,List.take_take,Nat.min_eq_left (by omega)]
  rw [e3,e4,List.take_append_drop]
theorem back_join {s:B}{f m:Nat}(hm:m≤8) (hs:f+4*m≤s.length) (hs2:s.length≤65536) (hr:∀k,k<m→edge s f m k≤edge s f m (k+1)):(okS s f m→joinR (s.take f) (pieces s f m m)=(s,0))∧(¬okS s f m→(joinR (s.take f) (pieces s f m m)).2≠0∨(joinR (s.take f) (pieces s f m m)).1≠s):=by
 have hfl:(s.take f).length=f:=by rw [List.length_take];omega
 have hfa:=flat_all hr
 have he0:=edge_le hr m 0 (by omega)
 refine⟨fun hok=> ?_,fun hno=> ?_⟩
 ·have he:edge s f m 0=f+4*m:=by
   by_cases h0:0<m
   ·rw [show edge s f m 0=off s f 0 from if_pos h0];exact hok.2.1 h0
   ·rw [show edge s f m 0=s.length from if_neg h0,hok.1 (by omega)];omega
  have hhs:=hs_left hs hr m 0 (by omega)
  have hpl:=pl_pieces s f m m 0
  rw [Nat.zero_add,show pieces s f m 0=[] from rfl,List.nil_append] at hpl
  rw [joinR_ok (by rw [pieces_len];exact hm) (by rw [hfl,pieces_len,hfa,List.length_drop];omega)]
  rw [hfl,pieces_len,hfa,←he,hpl,hhs,he]
  congr 1
  have e1:s.take f++left s f m 0=s.take (f+4*m):=by
   have:=app_drop (l:=s) (a:=0) (b:=f) (c:=f+4*m) (by omega) (by omega)
   show s.take f++(s.take (f+4*m)).drop (f+4*0)=_
   rw [Nat.mul_zero,Nat.add_zero]
   simpa using this
  rw [e1,List.take_append_drop]
 ·by_cases hj:(s.take f).length+4*(pieces s f m m).length+(pieces s f m m).flatten.length≤65536
  ·right
   rw [joinR_ok (by rw [pieces_len];exact hm) hj]
   intro he
   have hl:=congrArg ℓ he
   simp only [List.length_append,hs_len,hfl,pieces_len,hfa,List.length_drop] at hl
   refine hno ⟨fun h0=> ?_,fun h0=> ?_,hr⟩
   ·rw [show edge s f m 0=s.length from if_neg (by omega)] at hl
    omega
   ·rw [←show edge s f m 0=off s f 0 from if_pos h0]
    omega
  ·left
   rw [joinR_no (fun h=>hj h.2)]
   show(4:Int)≠0
   omega
abbrev L9923:Key:=Key.loop 40 [true,true,true,true,true,false,true,false]
theorem num_at {s:B}{a:Nat}(h:a+4≤s.length):E cx (Key.fn 64) [vs (ByteArray.extract (mk s) a (a+4))] []=some (Out.ret (vu (val ((s.drop a).take 4))),[]):=by
 rw [ext_mk]
 have e:(s.take (a+4)).drop a=(s.drop a).take 4:=by rw [List.drop_take];congr 1;omega
 rw [e]
 exact c152 _ (by rw [List.length_take];omega)
theorem wsz {s:B}(hs2:s.length≤65536):ω .u64 ((ByteArray.size (mk s):Nat):Int)=(s.length:Int):=wu_id (n:=(s.length:Int)) (by omega) (by omega)
theorem loop_23 {s:B}{f m:Nat}{s241:ByteArray}{l242:List (List AV)}{x243:Int}(hm:m≤8) (hf:f≤65536) (hs:f+4*m≤s.length) (hs2:s.length≤65536):∀(d i:Nat),d+i=m →
    ((∀k,i≤k→k<m→edge s f m k≤edge s f m (k+1)∧edge s f m (k+1)≤s.length)→E cx L9923 [vs s241,.list 0 1 l242,vi x243,.arr 0 1 0 i,vi i,vs (mk s),vi f,vi m] [⟨.arr,9,1,1,rowsB (pieces s f m i)⟩] =
      some (Out.jump (.exit 0) [vs s241,.list 0 1 l242,vi x243,.arr 0 1 0 m,vi m],[⟨.arr,9,1,1,rowsB (pieces s f m m)⟩])) ∧
    (¬(∀k,i≤k→k<m→edge s f m k≤edge s f m (k+1)∧edge s f m (k+1)≤s.length)→∃(n:Nat) (j:Int) (es:List (List AV)),E cx L9923 [vs s241,.list 0 1 l242,vi x243,.arr 0 1 0 i,vi i,vs (mk s),vi f,vi m] [⟨.arr,9,1,1,rowsB (pieces s f m i)⟩] =
      some (Out.jump .ret [vs (mk []),.val (.slice none 0 0),vi 2,.arr 0 1 0 n,vi j],[⟨.arr,9,1,1,es⟩]))
  | 0, i, hd => by
    have:i=m:=by omega
    subst this
    exact⟨fun _=>(f40_l0 _ _ _ _ _ _ _ _ _).trans (goDn (by omega) _ _),fun h=>absurd (fun k h1 h2=>by omega) h⟩
  | d + 1, i, hd => by
    have hlen:(rowsB (pieces s f m i)).length=i:=by rw [rows_len,pieces_len]
    have e0:edge s f m i=off s f i:=if_pos (by omega)
    have hw:ω .i64 (Int.add (f:Int) (ω .i64 (Int.mul 4 (i:Int))))=((f+4*i:Nat):Int):=w_42 hf (by omega)
    have hw4:ω .i64 (Int.add ((f+4*i:Nat):Int) 4)=((f+4*i+4:Nat):Int):=wr_add (by omega) (by omega)
    have hw8:ω .i64 (Int.add ((f+4*i:Nat):Int) 8)=((f+4*i+8:Nat):Int):=wr_add (by omega) (by omega)
    have hoff:=off_lt s f i
    have head:E cx L9923 [vs s241,.list 0 1 l242,vi x243,.arr 0 1 0 i,vi i,vs (mk s),vi f,vi m] [⟨.arr,9,1,1,rowsB (pieces s f m i)⟩] =
        (bif decide (((edge s f m i:Nat):Int)>((edge s f m (i+1):Nat):Int)) then some (Out.jump .ret [vs (mk []),.val (.slice none 0 0),vi 2,.arr 0 1 0 i,vi i],[⟨.arr,9,1,1,rowsB (pieces s f m i)⟩])
         else bif decide (((edge s f m (i+1):Nat):Int)>(s.length:Int)) then some (Out.jump .ret [vs (mk []),.val (.slice none 0 0),vi 2,.arr 0 1 0 i,vi i],[⟨.arr,9,1,1,rowsB (pieces s f m i)⟩])
         else E cx L9923 [vs s241,.list 0 1 l242,vi x243,.arr 0 1 0 (i+1),vi (i+1:Nat),vs (mk s),vi f,vi m] [⟨.arr,9,1,1,rowsB (pieces s f m (i+1))⟩]):=by
      have ep:∀a b:Nat,a=edge s f m i→b=edge s f m (i+1)→rowsB (pieces s f m i)++[[vs (ByteArray.extract (mk s) (τ (a:Int)) (τ (b:Int)))]]=rowsB (pieces s f m (i+1)):=fun a b ha hb=>by
        rw [ext_mk,Int.toNat_natCast,Int.toNat_natCast,pieces_succ,ha,hb]
        simp only [rowsB,List.map_append,List.map_cons,List.map_nil]
        rfl
      have fin:∀(a b:Nat),a=edge s f m i→b=edge s f m (i+1)→a≤b→b≤s.length →
          (if(0:Int)≤(b:Int) then if(b:Int)≤((ByteArray.size (mk s):Nat):Int) then if(0:Int)≤(a:Int) then if(a:Int)≤((τ (b:Int):Nat):Int) then
            (chk i (ℓ (Ob.mk OK.arr 9 1 1 (rowsB (pieces s f m i))).es)).bind fun _=>if Nat.mul (Nat.add (ℓ (Ob.mk OK.arr 9 1 1 (rowsB (pieces s f m i))).es) 1) 16≤140737488355328 then
              E cx L9923 [vs s241,.list 0 1 l242,vi x243,.arr 0 1 0 (Nat.add (ℓ (Ob.mk OK.arr 9 1 1 (rowsB (pieces s f m i))).es) 1),vi (ω .i64 (Int.add (i:Int) 1)),vs (mk s),vi f,vi m] [⟨.arr,9,1,1,(Ob.mk OK.arr 9 1 1 (rowsB (pieces s f m i))).es++[[vs (ByteArray.extract (mk s) (τ (a:Int)) (τ (b:Int)))]]⟩]
            else none else none else none else none else none) =
          E cx L9923 [vs s241,.list 0 1 l242,vi x243,.arr 0 1 0 (i+1),vi (i+1:Nat),vs (mk s),vi f,vi m] [⟨.arr,9,1,1,rowsB (pieces s f m (i+1))⟩]:=fun a b ha hb hab hbs=>by
        refine(goY (by omega) _ _).trans ((goY (by show(b:Int)≤(s.length:Int);omega) _ _).trans ((goY (by omega) _ _).trans ((goY (by omega) _ _).trans ?_)))
        refine(goCk hlen.symm _).trans ((goY (by show Nat.mul (Nat.add (rowsB _).length 1) 16≤_;rw [hlen];show(i+1)*16≤_;omega) _ _).trans ?_)
        show E cx L9923 [vs s241,.list 0 1 l242,vi x243,.arr 0 1 0 (Nat.add (rowsB (pieces s f m i)).length 1),vi (ω .i64 (Int.add (i:Int) 1)),vs (mk s),vi f,vi m] [⟨.arr,9,1,1,rowsB (pieces s f m i)++[[vs (ByteArray.extract (mk s) (τ (a:Int)) (τ (b:Int)))]]⟩]=_
        rw [ep a b ha hb,hlen,wr_add (by omega) (by omega)]
        rfl
      refine(f40_l0 _ _ _ _ _ _ _ _ _).trans ((goD (by omega) _ _).trans ?_)
      rw [hw,hw4,hw8]
      refine(goY (by omega) _ _).trans ((goY (by show((f+4*i+4:Nat):Int)≤(s.length:Int);omega) _ _).trans ((goY (by omega) _ _).trans ((goY (by omega) _ _).trans ?_)))
      rw [Int.toNat_natCast,Int.toNat_natCast]
      refine(goU (num_at (by omega)) _).trans ?_
      rw [wr_add (a:=(i:Int)) (b:=1) (by omega) (by omega)]
      by_cases hi1:i+1<m
      · have e1 : edge s f m (i + 1) = off s f (i + 1) := if_pos hi1
        refine(goD (by omega) _ _).trans ?_
        refine(goY (by omega) _ _).trans ((goY (by show((f+4*i+8:Nat):Int)≤(s.length:Int);omega) _ _).trans ((goY (by omega) _ _).trans ((goY (by omega) _ _).trans ?_)))
        rw [Int.toNat_natCast]
        refine(goU (num_at (s:=s) (a:=f+4*i+4) (by omega)) _).trans ?_
        rw [wsz hs2]
        have eoff:val ((s.drop (f+4*i+4)).take 4)=edge s f m (i+1):=by rw [e1];rfl
        have eoff0:val ((s.drop (f+4*i)).take 4)=edge s f m i:=by rw [e0];rfl
        rw [eoff,eoff0]
        by_cases c1:((edge s f m i:Nat):Int)>((edge s f m (i+1):Nat):Int)
        · exact(goD c1 _ _).trans (goD c1 _ _).symm
        refine(goDn c1 _ _).trans (Eq.trans ?_ (goDn c1 _ _).symm)
        by_cases c2:((edge s f m (i+1):Nat):Int)>(s.length:Int)
        · exact(goD c2 _ _).trans (goD c2 _ _).symm
        refine(goDn c2 _ _).trans (Eq.trans ?_ (goDn c2 _ _).symm)
        have:=fin _ _ rfl rfl (by omega) (by omega)
        rw [wr_add (by omega) (by omega)] at this
        exact this
      · have e1 : edge s f m (i + 1) = s.length := if_neg hi1
        have eoff0:val ((s.drop (f+4*i)).take 4)=edge s f m i:=by rw [e0];rfl
        refine(goDn (by omega) _ _).trans ?_
        rw [wsz hs2,e1,eoff0]
        by_cases c1:((edge s f m i:Nat):Int)>(s.length:Int)
        · exact(goD c1 _ _).trans (goD c1 _ _).symm
        refine(goDn c1 _ _).trans (Eq.trans ?_ (goDn c1 _ _).symm)
        refine(goDn (by omega) _ _).trans (Eq.trans ?_ (goDn (by omega) _ _).symm)
        have:=fin _ _ rfl e1.symm (by omega) (Nat.le_refl _)
        rw [wr_add (by omega) (by omega)] at this
        refine Eq.trans ?_ this
        exact(goY (by omega) _ _).symm
    have ih:=loop_23 (s241:=s241) (l242:=l242) (x243:=x243) hm hf hs hs2 d (i+1) (by omega)
    rw [head]
    by_cases c1:((edge s f m i:Nat):Int)>((edge s f m (i+1):Nat):Int)
    · rw [goD c1]
      exact⟨fun h=>by have:=(h i (Nat.le_refl _) (by omega)).1;omega,fun _=>⟨_,_,_,rfl⟩⟩
    rw [goDn c1]
    by_cases c2:((edge s f m (i+1):Nat):Int)>(s.length:Int)
    · rw [goD c2]
      exact⟨fun h=>by have:=(h i (Nat.le_refl _) (by omega)).2;omega,fun _=>⟨_,_,_,rfl⟩⟩
    rw [goDn c2]
    refine⟨fun h=>ih.1 fun k h1 h2=>h k (by omega) h2,fun h=>ih.2 fun h'=>h fun k h1 h2=> ?_⟩
    by_cases hk:k=i
    · subst hk;exact⟨by omega,by omega⟩
    · exact h' k (by omega) h2
theorem c9923 (s:B) {f m:Int}(hf:RI f) (hm:RI m):RS' (E cx (Key.fn 40) [vs (mk s),vi f,vi m] []) (splitR s f m):=by
 unfold RS'
 have bad:∀ {e:Int},E cx (Key.fn 40) [vs (mk s),vi f,vi m] []=some (Out.ret (AV.tuple [vs (mk []),.val (.slice none 0 0),vi e]),[])→RS (E cx (Key.fn 40) [vs (mk s),vi f,vi m] []) [] [] e:=fun h=>⟨_,h,rfl⟩
 by_cases h1:f<0
 ·rw [splitR_1 (.inl h1)];exact bad ((f40 (mk s) f m).trans (goD h1 _ _))
 by_cases h2:f>65536
 ·rw [splitR_1 (.inr (.inl h2))];exact bad ((f40 (mk s) f m).trans ((goDn h1 _ _).trans (goD h2 _ _)))
 by_cases h3:m<0
 ·rw [splitR_1 (.inr (.inr (.inl h3)))];exact bad ((f40 (mk s) f m).trans ((goDn h1 _ _).trans ((goDn h2 _ _).trans (goD h3 _ _))))
 by_cases h4:m>8
 ·rw [splitR_1 (.inr (.inr (.inr h4)))];exact bad ((f40 (mk s) f m).trans ((goDn h1 _ _).trans ((goDn h2 _ _).trans ((goDn h3 _ _).trans (goD h4 _ _)))))
 obtain⟨f,rfl⟩:∃n:Nat,f=n:=⟨f.toNat,by omega⟩
 obtain⟨m,rfl⟩:∃n:Nat,m=n:=⟨m.toNat,by omega⟩
 have hf':f≤65536:=by omega
 have hm':m≤8:=by omega
 have hd:=(f40 (mk s) f m).trans ((goDn h1 _ _).trans ((goDn h2 _ _).trans ((goDn h3 _ _).trans (goDn h4 _ _))))
 by_cases h5:s.length>65536
 ·rw [splitR_4 hf' hm' h5]
  exact bad (hd.trans (goD (by show(s.length:Int)>65536;omega) _ _))
 have hd:=hd.trans (goDn (by show ¬(s.length:Int)>65536;omega) _ _)
 rw [w_42 hf' hm'] at hd
 by_cases h6:s.length<f+4*m
 ·rw [splitR_3 hf' hm' h5 h6]
  exact bad (hd.trans (goD (by show(s.length:Int)<((f+4*m:Nat):Int);omega) _ _))
 have hd:=hd.trans (goDn (by show ¬(s.length:Int)<((f+4*m:Nat):Int);omega) _ _)
 have hl:=loop_23 (s:=s) (f:=f) (m:=m) (s241:=mk []) (l242:=[]) (x243:=0) hm' hf' (by omega) (by omega) m 0 (by omega)
 by_cases hall:∀k,0≤k→k<m→edge s f m k≤edge s f m (k+1)∧edge s f m (k+1)≤s.length
 ·have hr:∀k,k<m→edge s f m k≤edge s f m (k+1):=fun k hk=>(hall k (by omega) hk).1
  have hb:=back_join hm' (by omega) (by omega) hr
  have g:=hl.1 hall
  have g':E cx (Key.loop 40 [true,true,true,true,true,false,true,false]) [vs (ByteArray.mk (Array.mk [])),.list 0 1 [],vi 0,.arr 0 1 0 0,vi 0,vs (mk s),vi f,vi m] [⟨.arr,9,1,1,[]⟩]=_:=g
  rw [g'] at hd
  have hlen:(rowsB (pieces s f m m)).length=m:=by rw [rows_len,pieces_len]
  have hd2:E cx (Key.fn 40) [vs (mk s),vi f,vi m] []=(if(0:Int)≤(f:Int) then if(f:Int)≤(s.length:Int) then(chkLe (0+m) (rowsB (pieces s f m m)).length).bind fun _ =>
    (E cx (Key.fn 32) [vs (ByteArray.extract (mk s) 0 (τ (f:Int))),.list 0 1 (List.drop 0 (List.take (0+m) (rowsB (pieces s f m m))))] []).bind _ else none else none):=hd
  rw [goY (by omega),goY (by omega),goLe (by omega),List.drop_zero,List.take_of_length_le (by omega),ext_mk,Int.toNat_natCast,List.drop_zero,c9921 (s.take f) (pieces s f m m) (by rw [List.length_take];omega)] at hd2
  have hd3:E cx (Key.fn 40) [vs (mk s),vi f,vi m] []=(bif (joinR (s.take f) (pieces s f m m)).2 !=0 then some (Out.ret (AV.tuple [vs (mk []),.val (.slice none 0 0),vi 2]),[]) else
    bif !List.beq (ByteArray.toList (mk (joinR (s.take f) (pieces s f m m)).1)) (ByteArray.toList (mk s)) then some (Out.ret (AV.tuple [vs (mk []),.val (.slice none 0 0),vi 2]),[]) else
    if(0:Int)≤(f:Int) then if(f:Int)≤(s.length:Int) then(chkLe (0+m) (rowsB (pieces s f m m)).length).bind fun _=>some (Out.ret (AV.tuple [vs (mk (s.take f)),.list 0 1 (List.drop 0 (List.take (0+m) (rowsB (pieces s f m m)))),vi 0]),[]) else none else none):=hd2
  by_cases hok:okS s f m
  ·have e:=hb.1 hok
   rw [splitR_0 hf' hm' h5 h6 hok]
   refine⟨.list 0 1 (rowsB (pieces s f m m)),?_,rfl⟩
   rw [e,goE rfl,goQn rfl,goY (by omega),goY (by omega),goLe (by omega),List.drop_zero,List.take_of_length_le (l:=rowsB (pieces s f m m)) (by omega)] at hd3
   exact hd3
  ·rw [splitR_2 hf' hm' h5 h6 hok]
   refine bad (hd3.trans ?_)
   by_cases c1:(joinR (s.take f) (pieces s f m m)).2=0
   ·rw [goE c1]
    refine goQt (fun h=> ?_) _ _
    rcases hb.2 hok with h2 |h2
    ·exact h2 c1
    ·exact h2 h
   ·exact goEn c1 _ _
 ·obtain⟨n,j,es,g⟩:=hl.2 hall
  have g':E cx (Key.loop 40 [true,true,true,true,true,false,true,false]) [vs (ByteArray.mk (Array.mk [])),.list 0 1 [],vi 0,.arr 0 1 0 0,vi 0,vs (mk s),vi f,vi m] [⟨.arr,9,1,1,[]⟩]=_:=g
  rw [g'] at hd
  rw [splitR_2 hf' hm' h5 h6 fun hok=>hall fun k _ hk=>⟨hok.2.2 k hk,edge_le hok.2.2 (m-(k+1)) (k+1) (by omega)⟩]
  exact⟨.list 0 1 [],hd,rfl⟩
end
section
theorem hs_get:∀(t:Nat) (P:List B) (i:Nat),i<P.length→((hs t P).drop (4*i)).take 4=put (t+((P.take i).flatten).length) 4
 |t,[],i,hi=>by simp at hi
 |t,p::r,0,hi=>by
  simp only [hs,Nat.mul_zero,List.drop_zero,List.take_zero,List.flatten_nil,List.length_nil,Nat.add_zero]
  rw [List.take_append_of_le_length (by rw [put_len];omega),List.take_of_length_le (by rw [put_len];omega)]
 |t,p::r,i+1,hi=>by
  have ih:=hs_get (t+p.length) r i (by simpa using hi)
  simp only [hs,List.take_succ_cons,List.flatten_cons,List.length_append]
  rw [List.drop_append,put_len,List.drop_eq_nil_iff.2 (by rw [put_len];omega),List.nil_append,show 4*(i+1)-4=4*i by omega,ih,Nat.add_assoc]
theorem flat_split {P:List B}{i:Nat}{p:B}(h:P[i]?=some p):P.flatten=(P.take i).flatten++(p++(P.drop (i+1)).flatten):=by
 have hi:=(γ.1 h).1
 have e:P=P.take i++(p::P.drop (i+1)):=by
  have h2:P.drop i=p::P.drop (i+1):=by
   rw [List.drop_eq_getElem_cons hi]
   rw [(γ.1 h).2]
  rw [←h2,List.take_append_drop]
 have e2:=congrArg List.flatten e
 rw [List.flatten_append,List.flatten_cons] at e2
 exact e2
theorem flat_take_succ {P:List B}{i:Nat}{p:B}(h:P[i]?=some p):((P.take (i+1)).flatten).length=((P.take i).flatten).length+p.length:=by
 rw [List.take_add_one,h,List.flatten_append]
 simp
abbrev joined (x:B) (P:List B):B:=x++hs (x.length+4*P.length) P++P.flatten
theorem joined_len (x:B) (P:List B):(joined x P).length=x.length+4*P.length+P.flatten.length:=by
 simp only [joined,List.length_append,hs_len]
theorem join_off {x:B}{P:List B}(h:x.length+4*P.length+P.flatten.length≤65536) {i:Nat}(hi:i<P.length):off (joined x P) x.length i=x.length+4*P.length+((P.take i).flatten).length:=by
 have hfl:((P.take i).flatten).length≤P.flatten.length:=by
  rw [flat_split (η hi)]
  simp
 unfold off
 have e:((joined x P).drop (x.length+4*i)).take 4=((hs (x.length+4*P.length) P).drop (4*i)).take 4:=by
  unfold joined
  rw [List.append_assoc,List.drop_append,List.drop_eq_nil_iff.2 (show x.length≤x.length+4*i by omega),List.nil_append,show x.length+4*i-x.length=4*i by omega,
   List.drop_append_of_le_length (by rw [hs_len];omega),List.take_append_of_le_length (by rw [List.length_drop,hs_len];omega)]
 rw [e,hs_get _ _ _ hi,val_put]
 have:(256:Nat) ^ 4=4294967296:=by decide
 exact Nat.mod_eq_of_lt (by omega)
theorem join_edge {x:B}{P:List B}(h:x.length+4*P.length+P.flatten.length≤65536) {i:Nat}(hi:i≤P.length):edge (joined x P) x.length P.length i=x.length+4*P.length+((P.take i).flatten).length:=by
 unfold edge
 by_cases hlt:i<P.length
 ·rw [if_pos hlt,join_off h hlt]
 ·rw [if_neg hlt,joined_len,show i=P.length by omega,List.take_length]
theorem join_ok {x:B}{P:List B}(h:x.length+4*P.length+P.flatten.length≤65536):okS (joined x P) x.length P.length:=by
 refine⟨fun h0=> ?_,fun h0=> ?_,fun k hk=> ?_⟩
 ·have:P=[]:=List.eq_nil_of_length_eq_zero h0
  subst this
  simp [joined,hs]
 ·rw [join_off h h0]
  simp
 ·rw [join_edge h (by omega),join_edge h (by omega),flat_take_succ (η hk)]
  omega
theorem join_pieces {x:B}{P:List B}(h:x.length+4*P.length+P.flatten.length≤65536):pieces (joined x P) x.length P.length P.length=P:=by
 apply List.ext_getElem?
 intro i
 by_cases hi:i<P.length
 ·have hp:=η hi
  unfold pieces
  rw [List.getElem?_map,List.getElem?_range hi,hp]
  show some (piece _ _ _ i)=_
  congr 1
  unfold piece
  rw [join_edge h (by omega),join_edge h (by omega),flat_take_succ hp]
  have hl:(x++hs (x.length+4*P.length) P).length=x.length+4*P.length:=by rw [List.length_append,hs_len]
  have e:joined x P=(x++hs (x.length+4*P.length) P)++((P.take i).flatten++(P[i]++(P.drop (i+1)).flatten)):=by
   unfold joined
   rw [←flat_split hp]
  rw [e]
  generalize hA:x++hs (x.length+4*P.length) P=A at hl
  generalize (P.take i).flatten=C
  generalize (P.drop (i+1)).flatten=D
  rw [←hl]
  have e2:A++(C++(P[i]++D))=((A++C)++P[i])++D:=by simp
  rw [e2,List.take_append_of_le_length (by simp),List.take_of_length_le (by simp),List.drop_append_of_le_length (by simp),List.drop_eq_nil_iff.2 (by simp),List.nil_append]
 ·rw [List.getElem?_eq_none (by rw [pieces_len];omega),List.getElem?_eq_none (by omega)]
theorem join_take (x:B) (P:List B):(joined x P).take x.length=x:=by
 unfold joined
 rw [List.append_assoc,List.take_append_of_le_length (Nat.le_refl _),List.take_of_length_le (Nat.le_refl _)]
theorem split_joined {x:B}{P:List B}(hP:P.length≤8) (h:x.length+4*P.length+P.flatten.length≤65536):splitR (joined x P) x.length P.length=(x,P,0):=by
 have hl:=joined_len x P
 rw [splitR_0 (by omega) hP (by omega) (by omega) (join_ok h),join_pieces h,join_take]
end
end
section
section
theorem c48 {c n:Int}(hc:RI c) (hn:0<n):E cx (Key.fn 54) [vi c,vi n] []=some (Out.ret (vi (pickI c n)),[]):=by
 refine(f54 c n).trans ?_
 unfold pickI
 by_cases h:c<0
 ·refine(goD h _ _).trans ((goN (by omega) _ _).trans ?_)
  rw [wr_add (by omega) (by omega),show Int.sub 0 (c+1)=0-(c+1) from rfl,show(0:Int)-(c+1) = -(c+1) by omega,wr_id (by omega) (by omega),if_pos h]
 ·refine(goDn h _ _).trans ((goN (by omega) _ _).trans ?_)
  rw [if_neg h]
end
section
section
variable {ρ:Type}{x:Option (Out×Heap)}
abbrev P2:=Nat×Nat
abbrev prs (l:List P2):List (List AV):=l.map encP
theorem prs_len (l:List P2):(prs l).length=l.length:=by simp [prs]
theorem prs_get {l:List P2}{n:Nat}{p:P2}(h:l[n]?=some p):(prs l)[n]?=some (encP p):=by simp [prs,h]
theorem goPr {l:List P2}{i:Int}{n:Nat}{p:P2}(hn:i=n) (h:l[n]?=some p) (k:Int→Int→Option ρ):((prs l)[τ i]?.bind fun cs=>(uncons? cs).bind fun p1=>(AV.int? .u64 p1.fst).bind fun a=>(uncons? p1.snd).bind fun p2=>(AV.int? .u64 p2.fst).bind fun b=>(nil? p2.snd).bind fun _=>k a b)=k p.1 p.2:=by
 subst hn
 rw [Int.toNat_natCast,prs_get h]
 rfl
theorem goPn {l:List P2}{i:Int}{n:Nat}{p:P2}(hn:i=n) (h:l[n]?=some p) (k:Int→Int→Option ρ):((nth (prs l) (Nat.add 0 (τ i))).bind fun cs=>(uncons? cs).bind fun p1=>(AV.int? .u64 p1.fst).bind fun a=>(uncons? p1.snd).bind fun p2=>(AV.int? .u64 p2.fst).bind fun b=>(nil? p2.snd).bind fun _=>k a b)=k p.1 p.2:=by
 subst hn
 rw [Int.toNat_natCast,nth_eq,show Nat.add 0 n=n from Nat.zero_add n,prs_get h]
 rfl
theorem wS {i:Nat}(h:i<9223372036854775807):ω .i64 (Int.add (i:Int) 1)=((i+1:Nat):Int):=wr_add (b:=1) (by omega) (by omega)
theorem wP {i:Nat}(h:i<9223372036854775807):ω .i64 (Int.sub ((i+1:Nat):Int) 1)=(i:Int):=(wr_sub (b:=1) (by omega) (by omega)).trans (by omega)
end
theorem c165 (x:Int):E cx (Key.fn 88) [vu x] []=rb false:=(f88 x).trans (goE rfl _ _)
def cmpI (x y:Int):Int:=if x<y then -1 else if x>y then 1 else 0
theorem c148 (x y:Int):E cx (Key.fn 85) [vu x,vu y] []=some (Out.ret (vi (cmpI x y)),[]):=by
 refine(f85 x y).trans ((goF (c165 x) _ _).trans ((goF (c165 y) _ _).trans ?_))
 unfold cmpI
 by_cases h1:x<y
 ·rw [if_pos h1];exact goD h1 _ _
 ·rw [if_neg h1]
  refine(goDn h1 _ _).trans ?_
  by_cases h2:x>y
  ·rw [if_pos h2];exact goD h2 _ _
  ·rw [if_neg h2];exact goDn h2 _ _
theorem c147 (a b:Int):E cx (Key.fn 84) [.list 0 1 [[vi a],[vi b]]] []=some (Out.ret (vi (if a=0 then b else a)),[]):=by
 refine(f84 _).trans ?_
 have e2:E cx (Key.loop 84 [true,true,false,true,false]) [vi 0,vi (ω .i64 (Int.add (ω .i64 (Int.add 0 1)) 1)),vi 0,.list 0 1 [[vi a],[vi b]],vi 2] []=some (Out.jump (.exit 0) [vi 0,vi 2],[]) :=
  (f84_l0 _ _ _ _ _).trans (goDn (by decide) _ _)
 have e1:E cx (Key.loop 84 [true,true,false,true,false]) [vi 0,vi (ω .i64 (Int.add 0 1)),vi 0,.list 0 1 [[vi a],[vi b]],vi 2] []=if b=0 then some (Out.jump (.exit 0) [vi 0,vi 2],[]) else some (Out.jump .ret [vi b,vi 1],[]):=by
  refine(f84_l0 _ _ _ _ _).trans ((goD (by decide) _ _).trans ((goY (by decide) _ _).trans ?_))
  by_cases hb:b=0
  ·subst hb
   rw [if_pos rfl]
   exact e2
  ·rw [if_neg hb]
   exact goEn (a:=b) (b:=0) hb _ _
 have e0:E cx (Key.loop 84 [true,true,false,true,false]) [vi 0,vi 0,vi 0,.list 0 1 [[vi a],[vi b]],vi 2] []=if a=0 then(if b=0 then some (Out.jump (.exit 0) [vi 0,vi 2],[]) else some (Out.jump .ret [vi b,vi 1],[])) else some (Out.jump .ret [vi a,vi 0],[]):=by
  refine(f84_l0 _ _ _ _ _).trans ((goD (by decide) _ _).trans ((goY (by decide) _ _).trans ?_))
  by_cases ha:a=0
  ·subst ha
   rw [if_pos rfl]
   exact e1
  ·rw [if_neg ha]
   exact goEn (a:=a) (b:=0) ha _ _
 show(Ω (E cx (Key.loop 84 [true,true,false,true,false]) [vi 0,vi 0,vi 0,.list 0 1 [[vi a],[vi b]],vi 2] []) _)=_
 rw [e0]
 by_cases ha:a=0
 ·rw [if_pos ha,if_pos ha]
  by_cases hb:b=0
  ·rw [if_pos hb,hb];rfl
  ·rw [if_neg hb];rfl
 ·rw [if_neg ha,if_neg ha];rfl
def ordI (p q:P2):Int:=if p=q then 0 else if ltP p q then -1 else 1
theorem c109 (p q:P2):E cx (Key.fn 73) [.agg [vu p.1,vu p.2],.agg [vu q.1,vu q.2]] []=some (Out.ret (vi (ordI p q)),[]):=by
 refine(f73 _ _ _ _).trans ?_
 obtain⟨a,b⟩:=p
 obtain⟨c,d⟩:=q
 simp only
 by_cases h:a=c∧b=d
 ·obtain⟨rfl,rfl⟩:=h
  simp [ordI]
 ·have h1:(decide ((a:Int)=(c:Int))&&(decide ((b:Int)=(d:Int))&&true))=false:=by
   simp
   omega
  rw [h1]
  refine(goI (c148 _ _) _).trans ((goI (c148 _ _) _).trans ((goI (c147 _ _) _).trans ?_))
  have h2:(if cmpI (a:Int) (c:Int)=0 then cmpI (b:Int) (d:Int) else cmpI (a:Int) (c:Int))=ordI (a,b) (c,d):=by
   have e:∀x y:Nat,cmpI (x:Int) (y:Int)=if x<y then -1 else if y<x then 1 else 0:=fun x y=>by
    unfold cmpI
    simp only [Int.ofNat_lt,gt_iff_lt]
   rw [e,e]
   unfold ordI ltP
   rcases Nat.lt_trichotomy a c with h1 |h1 |h1<;>rcases Nat.lt_trichotomy b d with h3 |h3 |h3 <;>
    simp [h1,h3,Nat.lt_asymm,Nat.ne_of_lt,Nat.ne_of_gt]<;>omega
  rw [h2]
theorem c105 (p q:P2):E cx (Key.fn 55) [.agg [vu p.1,vu p.2],.agg [vu q.1,vu q.2]] []=rb (ltP p q):=by
 refine(f55 _ _ _ _).trans ?_
 obtain⟨a,b⟩:=p
 obtain⟨c,d⟩:=q
 simp only [ltP]
 by_cases h1:a<c
 ·refine(goD (by omega) _ _).trans ?_
  simp [h1]
 ·refine(goDn (by omega) _ _).trans ?_
  by_cases h2:a=c
  ·refine(goD (by omega) _ _).trans ?_
   by_cases h3:b<d
   ·refine(goD (by omega) _ _).trans ?_
    simp [h2,h3]
   ·refine(goDn (by omega) _ _).trans ?_
    simp [h2,h3]
  ·refine(goDn (by omega) _ _).trans ?_
   simp [h1,h2]
theorem ordI_neg (p q:P2):ordI p q<0↔ltP p q=true:=by
 unfold ordI
 by_cases h:p=q
 ·subst h
  simp [ltP]
 ·rw [if_neg h]
  cases ltP p q<;>simp
end
section
def okAt (l:List P2) (j:Nat):Prop:=∀p q,l[j]?=some p→l[j+1]?=some q→ltP q p=false
def srtI (l:List P2):Prop:=∀j,okAt l j
open Classical in
noncomputable def srtB (l:List P2):Bool:=decide (srtI l)
open Classical in
theorem srtB_t {l:List P2}(h:srtI l):srtB l=true:=by unfold srtB;exact decide_eq_true h
open Classical in
theorem srtB_f {l:List P2}(h:¬srtI l):srtB l=false:=by unfold srtB;exact decide_eq_false h
theorem okAt_ge {l:List P2}{j:Nat}(h:l.length≤j+1):okAt l j:=fun p q hp hq=>by
 rw [List.getElem?_eq_none h] at hq
 cases hq
theorem loop108 (l:List P2) (b:Bool) (hl:l.length≤4000000):∀i,i<l.length →
  ((∀j,j<i→okAt l j)∧E cx (Key.loop 72 [true,false,true,false]) [vbool b,vi i,.list 0 2 (prs l),.func (Fn.func 73) [] []] []=some (Out.jump (.exit 0) [vbool b,vi 0],[])) ∨
  ((∃j,j<i∧¬okAt l j)∧∃k:Nat,E cx (Key.loop 72 [true,false,true,false]) [vbool b,vi i,.list 0 2 (prs l),.func (Fn.func 73) [] []] []=some (Out.jump .ret [vbool false,vi k],[]))
 | 0,hi => .inl ⟨fun j hj=>by omega,(f60_c0_l1 _ _ _).trans (goDn (by omega) _ _)⟩
 |i+1,hi=>by
  have hp:l[i]?=some l[i]:=η (by omega)
  have hq:l[i+1]?=some l[i+1]:=η hi
  have go:∀ {R},(bif decide (ordI l[i+1] l[i]<0) then some (Out.jump JX.ret [vbool false,vi ((i+1:Nat):Int)],[]) else
    E cx (Key.loop 72 [true,false,true,false]) [vbool b,vi (ω .i64 (Int.sub ((i+1:Nat):Int) 1)),.list 0 2 (prs l),.func (Fn.func 73) [] []] [])=R →
    E cx (Key.loop 72 [true,false,true,false]) [vbool b,vi (i+1:Nat),.list 0 2 (prs l),.func (Fn.func 73) [] []] []=R:=fun {R} h=>by
   refine(f60_c0_l1 _ _ _).trans ((goD (by omega) _ _).trans ((goY (by omega) _ _).trans ((goPr (n:=i+1) rfl hq _).trans ?_)))
   rw [wP (by omega)]
   refine(goY (by omega) _ _).trans ((goPr (n:=i) rfl hp _).trans ((goI (c109 _ _) _).trans ?_))
   rw [wP (by omega)] at h
   exact h
  cases hb:ltP l[i+1] l[i] with
  |true =>
   exact .inr ⟨⟨i,by omega,fun h=>by rw [h _ _ hp hq] at hb;cases hb⟩,i+1,go (goD ((ordI_neg _ _).2 hb) _ _)⟩
  |false =>
   have hn:¬ordI l[i+1] l[i]<0:=fun h=>by rw [(ordI_neg _ _).1 h] at hb;cases hb
   have hok:okAt l i:=fun p q h1 h2=>by
    rw [hp] at h1;rw [hq] at h2
    cases h1;cases h2
    exact hb
   rcases loop108 l b hl i (by omega) with⟨g1,g2⟩ |⟨⟨j,g1,g2⟩,k,g3⟩
   ·refine .inl ⟨fun j hj=> ?_,go ((goDn hn _ _).trans ?_)⟩
    ·by_cases hji:j=i
     ·subst hji;exact hok
     ·exact g1 j (by omega)
    ·rw [wP (by omega)];exact g2
   ·refine .inr ⟨⟨j,by omega,g2⟩,k,go ((goDn hn _ _).trans ?_)⟩
    rw [wP (by omega)];exact g3
theorem c108 (l:List P2) (hl:l.length≤4000000):E cx (Key.fn 72) [.list 0 2 (prs l),.func (Fn.func 73) [] []] []=rb (srtB l):=by
 refine(f60_c0 _).trans ?_
 rw [prs_len]
 cases hll:l.length with
 |zero =>
  have e:E cx (Key.loop 72 [true,false,true,false]) [vbool false,vi (ω .i64 (Int.sub ((0:Nat):Int) 1)),.list 0 2 (prs l),.func (Fn.func 73) [] []] []=some (Out.jump (.exit 0) [vbool false,vi (-1)],[]) :=
   (f60_c0_l1 _ _ _).trans (goDn (by decide) _ _)
  rw [e,srtB_t fun j=>okAt_ge (by omega)]
  rfl
 |succ n =>
  rw [wP (by omega)]
  rcases loop108 l false hl n (by omega) with⟨g1,g2⟩ |⟨⟨j,g1,g2⟩,k,g3⟩
  ·rw [g2,srtB_t fun j=>by
    by_cases hj:j<n
    ·exact g1 j hj
    ·exact okAt_ge (by omega)]
   rfl
  ·rw [g3,srtB_f fun h=>g2 (h j)]
   rfl
theorem loop110 (l:List P2) (b:Bool) (hl:l.length≤4000000):∀(d i:Nat),i+1+d=l.length →
  ((∀j,i≤j→okAt l j)∧E cx (Key.loop 67 [true,false,true,false]) [vbool b,vi (i+1:Nat),.list 0 2 (prs l)] []=some (Out.jump (.exit 0) [vbool b,vi l.length],[])) ∨
  ((∃j,i≤j∧¬okAt l j)∧∃k:Nat,E cx (Key.loop 67 [true,false,true,false]) [vbool b,vi (i+1:Nat),.list 0 2 (prs l)] []=some (Out.jump .ret [vbool false,vi k],[]))
 | 0,i,hd => .inl ⟨fun j hj=>okAt_ge (by omega),(f67_l0 _ _ _).trans ((goDn (by rw [prs_len];omega) _ _).trans (by rw [show i+1=l.length by omega]))⟩
 |d+1,i,hd=>by
  have hp:l[i]?=some l[i]:=η (by omega)
  have hq:l[i+1]?=some l[i+1]:=η (by omega)
  have go:∀ {R},(bif ltP l[i+1] l[i] then some (Out.jump JX.ret [vbool false,vi ((i+1:Nat):Int)],[]) else
    E cx (Key.loop 67 [true,false,true,false]) [vbool b,vi (i+1+1:Nat),.list 0 2 (prs l)] [])=R →
    E cx (Key.loop 67 [true,false,true,false]) [vbool b,vi (i+1:Nat),.list 0 2 (prs l)] []=R:=fun {R} h=>by
   refine(f67_l0 _ _ _).trans ((goD (by rw [prs_len];omega) _ _).trans ((goY (by omega) _ _).trans ((goPr (n:=i+1) rfl hq _).trans ?_)))
   rw [wP (by omega)]
   refine(goY (by omega) _ _).trans ((goPr (n:=i) rfl hp _).trans ((goB (c105 _ _) _).trans ?_))
   rw [wS (by omega)]
   exact h
  cases hb:ltP l[i+1] l[i] with
  |true =>
   rw [hb] at go
   exact .inr ⟨⟨i,by omega,fun h=>by rw [h _ _ hp hq] at hb;cases hb⟩,i+1,go rfl⟩
  |false =>
   rw [hb] at go
   have hok:okAt l i:=fun p q h1 h2=>by
    rw [hp] at h1;rw [hq] at h2
    cases h1;cases h2
    exact hb
   rcases loop110 l b hl d (i+1) (by omega) with⟨g1,g2⟩ |⟨⟨j,g1,g2⟩,k,g3⟩
   ·refine .inl ⟨fun j hj=> ?_,go g2⟩
    by_cases hji:j=i
    ·subst hji;exact hok
    ·exact g1 j (by omega)
   ·exact .inr ⟨⟨j,by omega,g2⟩,k,go g3⟩
theorem c110 (l:List P2) (hl:l.length≤4000000):E cx (Key.fn 67) [.list 0 2 (prs l)] []=rb (srtB l):=by
 refine(f67 _).trans ?_
 cases hll:l.length with
 |zero =>
  have e:E cx (Key.loop 67 [true,false,true,false]) [vbool false,vi 1,.list 0 2 (prs l)] []=some (Out.jump (.exit 0) [vbool false,vi 1],[]) :=
   (f67_l0 _ _ _).trans (goDn (by rw [prs_len,hll];decide) _ _)
  rw [e,srtB_t fun j=>okAt_ge (by omega)]
  rfl
 |succ n =>
  rcases loop110 l false hl n 0 (by omega) with⟨g1,g2⟩ |⟨⟨j,g1,g2⟩,k,g3⟩
  ·show(Ω (E cx (Key.loop 67 [true,false,true,false]) [vbool false,vi (0+1:Nat),.list 0 2 (prs l)] []) _)=_
   rw [g2,srtB_t fun j=>g1 j (by omega)]
   rfl
  ·show(Ω (E cx (Key.loop 67 [true,false,true,false]) [vbool false,vi (0+1:Nat),.list 0 2 (prs l)] []) _)=_
   rw [g3,srtB_f fun h=>g2 (h j)]
   rfl
noncomputable def rightT (l:List P2):Bool:=decide (l.length≤2048)&&srtB l
theorem c40 (f:Bool) (l:List P2) (hl:l.length≤4000000):E cx (Key.fn 60) [.agg [vbool f,.list 0 2 (prs l)]] []=rb (rightT l):=by
 refine(f60 _ _).trans ?_
 unfold rightT
 by_cases h:l.length≤2048
 ·refine(goD (by rw [prs_len];omega) _ _).trans ((goB (c108 l hl) _).trans ?_)
  rw [decide_eq_true h]
  cases srtB l<;>rfl
 ·refine(goDn (by rw [prs_len];omega) _ _).trans ?_
  rw [decide_eq_false h]
  rfl
theorem c41 (f:Bool) (l:List P2) (hl:l.length≤4000000):E cx (Key.fn 59) [.agg [vbool f,.list 0 2 (prs l)]] []=rb (rightT l):=by
 refine(f59 _ _).trans ((goB (c110 l hl) _).trans ?_)
 unfold rightT
 cases srtB l with
 |false=>rw [Bool.and_false];rfl
 |true =>
  by_cases h:l.length≤2048
  ·rw [decide_eq_true h]
   exact goD (by rw [prs_len];omega) _ _
  ·rw [decide_eq_false h]
   exact goDn (by rw [prs_len];omega) _ _
end
section
def RTok (x:Option (Out×Heap)) (f:Bool) (l:List P2) (e:Int):Prop:=∃a,x=some (Out.ret (.tuple [.agg [vbool f,a],vi e]),[])∧a.list? 2=some (prs l)
theorem goTok {ρ:Type}{x:Option (Out×Heap)}{f:Bool}{l:List P2}{e:Int}(h:RTok x f l e) (k:Bool→List (List AV)→Int→Option ρ):(x.bind fun r=>(ret1 r).bind fun v=>v.tup?.bind fun vs=>(uncons? vs).bind fun p1=>(AV.cells? p1.fst).bind fun cs=>(uncons? cs).bind fun p2=>(AV.bool? p2.fst).bind fun b=>(uncons? p2.snd).bind fun p3=>(AV.list? 2 p3.fst).bind fun l=>(nil? p3.snd).bind fun _=>(uncons? p1.snd).bind fun p4=>(AV.int? .i64 p4.fst).bind fun e=>(nil? p4.snd).bind fun _=>k b l e)=k f (prs l) e:=by
 obtain⟨a,rfl,ha⟩:=h
 show(Ω (AV.list? 2 a) fun l=>k f l e)=_
 rw [ha]
 rfl
theorem ysOk_prs (l:List P2):ysOk (prs l)=true:=by
 unfold ysOk
 rw [List.all_eq_true]
 intro e he
 obtain⟨p,_,rfl⟩:=List.mem_map.1 he
 rfl
abbrev RTok' (x:Option (Out×Heap)) (r:Bool×List P2×Int):Prop:=RTok x r.1 r.2.1 r.2.2
end
section
theorem leP_iff (x y:P2):leP x y=true↔x.1<y.1∨x.1=y.1∧x.2≤y.2:=by
 simp only [leP,ltP,Bool.not_eq_true',Bool.or_eq_false_iff,Bool.and_eq_false_iff,decide_eq_false_iff_not]
 omega
theorem leP_trans (a b c:P2) (h1:leP a b=true) (h2:leP b c=true):leP a c=true:=by
 rw [leP_iff] at *
 omega
abbrev PW (l:List P2):Prop:=l.Pairwise fun a b=>leP a b=true
theorem srt_pw (l:List P2):srtI l↔PW l:=by
 constructor
 ·intro h
  induction l with
  |nil=>exact .nil
  |cons a l ih =>
   have ih':=ih fun j p q hp hq=>h (j+1) p q (by simpa using hp) (by simpa using hq)
   refine List.Pairwise.cons (fun b hb=> ?_) ih'
   cases l with
   |nil=>cases hb
   |cons c l =>
    have hac:leP a c=true:=by
     have:=h 0 a c rfl rfl
     simp [leP,this]
    rcases List.mem_cons.1 hb with rfl |hb
    ·exact hac
    ·exact leP_trans _ _ _ hac ((List.pairwise_cons.1 ih').1 b hb)
 ·intro h j p q hp hq
  have hj:=(γ.1 hq).1
  have:=List.pairwise_iff_getElem.1 h j (j+1) (by omega) hj (by omega)
  rw [(γ.1 hp).2,(γ.1 hq).2] at this
  simpa [leP] using this
theorem prs_app (a b:List P2):prs a++prs b=prs (a++b):=by simp [prs]
end
section
theorem drop_cons' {α:Type}{l r:List α}{i:Nat}{p:α}(h:l.drop i=p::r):l[i]?=some p∧l.drop (i+1)=r∧i<l.length:=by
 refine⟨?_,?_,?_⟩
 ·have:=congrArg (fun l=>l[0]?) h;simpa using this
 ·rw [←List.drop_drop,h];rfl
 ·have:=congrArg ℓ h;simp at this;omega
theorem rightT_len {l:List P2}(h:rightT l=true):l.length≤2048:=by
 unfold rightT at h
 simp only [Bool.and_eq_true,decide_eq_true_eq] at h
 exact h.1
theorem rightT_of {l:List P2}(h1:l.length≤2048) (h2:PW l):rightT l=true:=by
 unfold rightT
 rw [decide_eq_true h1,srtB_t ((srt_pw l).2 h2)]
 rfl
theorem pairEq (p q:P2):(decide ((p.1:Int)=(q.1:Int))&&(decide ((p.2:Int)=(q.2:Int))&&true))=decide (p=q):=by
 obtain⟨a,b⟩:=p
 obtain⟨c,d⟩:=q
 by_cases h1:a=c<;>by_cases h2:b=d<;>simp [h1,h2,Int.ofNat_inj]
theorem loop47 (b0 f1 f2:Bool) (a b:List P2) (hab:a.length=b.length) (hl:a.length≤4000000):∀(d i:Nat),i+d=a.length →
  (a.drop i=b.drop i∧E cx (Key.loop 49 [true,true,false,true,false]) [vbool b0,vi i,.ptr 0 0 0 0,.ptr 1 0 0 0] [⟨.box,30,2,0,[[vbool f1,.list 0 2 (prs a)]]⟩,⟨.box,30,2,0,[[vbool f2,.list 0 2 (prs b)]]⟩] =
   some (Out.jump (.exit 0) [vbool b0,vi a.length],[⟨.box,30,2,0,[[vbool f1,.list 0 2 (prs a)]]⟩,⟨.box,30,2,0,[[vbool f2,.list 0 2 (prs b)]]⟩])) ∨
  (a.drop i≠b.drop i∧∃k:Nat,E cx (Key.loop 49 [true,true,false,true,false]) [vbool b0,vi i,.ptr 0 0 0 0,.ptr 1 0 0 0] [⟨.box,30,2,0,[[vbool f1,.list 0 2 (prs a)]]⟩,⟨.box,30,2,0,[[vbool f2,.list 0 2 (prs b)]]⟩] =
   some (Out.jump .ret [vbool false,vi k],[⟨.box,30,2,0,[[vbool f1,.list 0 2 (prs a)]]⟩,⟨.box,30,2,0,[[vbool f2,.list 0 2 (prs b)]]⟩]))
 | 0,i,hd=>by
  refine .inl ⟨by rw [List.drop_eq_nil_of_le (by omega),List.drop_eq_nil_of_le (by omega)],(f49_l0 _ _ _ _ _ _).trans ((goDn (by rw [prs_len];omega) _ _).trans (by rw [show i=a.length by omega]))⟩
 |d+1,i,hd=>by
  have hp:a[i]?=some a[i]:=η (by omega)
  have hq:b[i]?=some b[i]:=η (by omega)
  have ha:a.drop i=a[i]::a.drop (i+1):=List.drop_eq_getElem_cons (by omega)
  have hb:b.drop i=b[i]::b.drop (i+1):=List.drop_eq_getElem_cons (by omega)
  have go:∀ {R},(bif !decide (a[i]=b[i]) then some (Out.jump .ret [vbool false,vi i],[⟨.box,30,2,0,[[vbool f1,.list 0 2 (prs a)]]⟩,⟨.box,30,2,0,[[vbool f2,.list 0 2 (prs b)]]⟩]) else
    E cx (Key.loop 49 [true,true,false,true,false]) [vbool b0,vi (i+1:Nat),.ptr 0 0 0 0,.ptr 1 0 0 0] [⟨.box,30,2,0,[[vbool f1,.list 0 2 (prs a)]]⟩,⟨.box,30,2,0,[[vbool f2,.list 0 2 (prs b)]]⟩])=R →
    E cx (Key.loop 49 [true,true,false,true,false]) [vbool b0,vi i,.ptr 0 0 0 0,.ptr 1 0 0 0] [⟨.box,30,2,0,[[vbool f1,.list 0 2 (prs a)]]⟩,⟨.box,30,2,0,[[vbool f2,.list 0 2 (prs b)]]⟩]=R:=fun {R} h=>by
   refine(f49_l0 _ _ _ _ _ _).trans ((goD (by rw [prs_len];omega) _ _).trans ((goY (by omega) _ _).trans ((goPr (n:=i) rfl hp _).trans ((goY (by omega) _ _).trans ((goPr (n:=i) rfl hq _).trans ?_)))))
   rw [pairEq,wS (by omega)]
   exact h
  rw [ha,hb]
  by_cases he:a[i]=b[i]
  ·rw [decide_eq_true he] at go
   rcases loop47 b0 f1 f2 a b hab hl d (i+1) (by omega) with⟨g1,g2⟩ |⟨g1,k,g2⟩
   ·exact .inl ⟨by rw [he,g1],go g2⟩
   ·exact .inr ⟨fun h=>g1 (List.cons.inj h).2,k,go g2⟩
  ·rw [decide_eq_false he] at go
   exact .inr ⟨fun h=>he (List.cons.inj h).1,i,go rfl⟩
theorem c47 (f1 f2:Bool) (a b:List P2) (hl:a.length≤4000000):E cx (Key.fn 49) [.agg [vbool f1,.list 0 2 (prs a)],.agg [vbool f2,.list 0 2 (prs b)]] []=rb (decide (f1=f2∧a=b)):=by
 refine(f49 _ _ _ _).trans ?_
 rw [prs_len,prs_len]
 by_cases hf:f1=f2
 ·rw [decide_eq_true hf]
  by_cases hab:a.length=b.length
  ·refine(goE (a:=(a.length:Int)) (b:=(b.length:Int)) (by omega) _ _).trans ?_
   show(Ω (E cx (Key.loop 49 [true,true,false,true,false]) [vbool false,vi ((0:Nat):Int),.ptr 0 0 0 0,.ptr 1 0 0 0] [⟨.box,30,2,0,[[vbool f1,.list 0 2 (prs a)]]⟩,⟨.box,30,2,0,[[vbool f2,.list 0 2 (prs b)]]⟩]) _)=_
   rcases loop47 false f1 f2 a b hab hl a.length 0 (by omega) with⟨g1,g2⟩ |⟨g1,k,g2⟩
   ·rw [g2,decide_eq_true ⟨hf,g1⟩]
    rfl
   ·rw [g2,decide_eq_false fun h=>g1 h.2]
    rfl
  ·rw [decide_eq_false fun h=>hab (by rw [h.2])]
   exact goEn (a:=(a.length:Int)) (b:=(b.length:Int)) (by omega) _ _
 ·rw [decide_eq_false hf,decide_eq_false fun h=>hf h.1]
  rfl
end
section
def eb (p:P2):B:=put p.1 8++put p.2 8
theorem eb_len (p:P2):(eb p).length=16:=by simp [eb,put_len]
def ebs (l:List P2):B:=l.flatMap eb
theorem ebs_cons (p:P2) (l:List P2):ebs (p::l)=eb p++ebs l:=by simp [ebs]
theorem ebs_len:∀(l:List P2),(ebs l).length=16*l.length
 | []=>rfl
 |p::l=>by rw [ebs_cons,List.length_append,eb_len,ebs_len l,List.length_cons];omega
abbrev fB (f:Bool):UInt8:=if f then 1 else 0
def encB (f:Bool) (l:List P2):B:=fB f::ebs l
noncomputable def encR (f:Bool) (l:List P2):B×Int:=if rightT l then(encB f l,0) else([],1)
abbrev RJ2 (r:B×Int):Option (Out×Heap):=RJ r.1 r.2
abbrev rowsU (l:B):List (List AV):=l.map fun b=>[vb (b.toNat:Int)]
theorem strRows_mk (l:B):strRows (mk l)=rowsU l:=rfl
theorem rowsU_app (a b:B):rowsU a++rowsU b=rowsU (a++b):=by simp [rowsU]
theorem rowsU_len (l:B):(rowsU l).length=l.length:=by simp [rowsU]
theorem ysOk_rowsU (l:B):ysOk (rowsU l)=true:=by
 unfold ysOk
 rw [List.all_eq_true]
 intro e he
 obtain⟨p,_,rfl⟩:=List.mem_map.1 he
 rfl
theorem rowsU_bytes (l:B):rowsU l=bytesI (l.map fun b=>(b.toNat:Int)):=by simp [rowsU,bytesI]
theorem strOf_back (l:B):Go.strOfNums (l.map fun b=>(b.toNat:Int))=mk l:=by
 rw [strOf,List.map_map]
 congr 1
 refine(List.map_congr_left fun b _=> ?_).trans (List.map_id _)
 simp
theorem loop38 (b:Bool) (l:List P2) (l0:List (List AV)) (hl:l.length≤2048):∀(rest:List P2) (i:Nat) (o:B),l.drop i=rest→o.length=1+16*i→i+rest.length=l.length →
  E cx (Key.loop 35 [true,true,true,true,false,true,false]) [.arr 1 1 0 o.length,vi i,.list 0 2 (prs l),vi l.length] [⟨.box,30,2,0,[[vbool b,.list 0 2 l0]]⟩,⟨.arr,5,1,1,rowsU o⟩] =
   some (Out.jump (.exit 0) [.arr 1 1 0 (o++ebs rest).length,vi l.length],[⟨.box,30,2,0,[[vbool b,.list 0 2 l0]]⟩,⟨.arr,5,1,1,rowsU (o++ebs rest)⟩])
 | [],i,o,hd,ho,hi=>by
  simp only [List.length_nil,Nat.add_zero] at hi
  subst hi
  refine(f35_l0 _ _ _ _ _ _ _).trans ((goDn (by omega) _ _).trans ?_)
  simp [ebs]
 |p::rest,i,o,hd,ho,hi=>by
  obtain⟨hp,hd',hlt⟩:=drop_cons' hd
  simp only [List.length_cons] at hi
  have h8:∀w,putI w 8=put w 8:=fun w=>putI_ok (by omega) (by omega)
  refine(f35_l0 _ _ _ _ _ _ _).trans ((goD (by omega) _ _).trans ((goY (by omega) _ _).trans ((goPr (n:=i) rfl hp _).trans ?_)))
  refine(goS (c106 p.1 8) _).trans ?_
  rw [strRows_mk,h8,ysOk_rowsU]
  refine(goCk (by rw [rowsU_len]) _).trans ?_
  have e1:Nat.add (ℓ (rowsU o)) (ℓ (rowsU (put p.1 8)))=(o++put p.1 8).length:=by rw [rowsU_len,rowsU_len,List.length_append];rfl
  have l1:(o++put p.1 8).length=o.length+8:=by rw [List.length_append,put_len]
  refine(goY (by show Nat.mul (Nat.add (ℓ (rowsU o)) (ℓ (rowsU (put p.1 8)))) 1≤_;rw [e1,l1];show(o.length+8)*1≤_;omega) _ _).trans ?_
  refine(goS (c106 p.2 8) _).trans ?_
  rw [strRows_mk,h8,ysOk_rowsU]
  show(Ω (chk (Nat.add (ℓ (rowsU o)) (ℓ (rowsU (put p.1 8)))) (ℓ (rowsU o++rowsU (put p.1 8)))) fun _=>if Nat.mul (Nat.add (ℓ (rowsU o++rowsU (put p.1 8))) (ℓ (rowsU (put p.2 8)))) 1≤140737488355328 then
   E cx (Key.loop 35 [true,true,true,true,false,true,false]) [.arr 1 1 0 (Nat.add (ℓ (rowsU o++rowsU (put p.1 8))) (ℓ (rowsU (put p.2 8)))),vi (ω .i64 (Int.add i 1)),.list 0 2 (prs l),vi l.length] [⟨.box,30,2,0,[[vbool b,.list 0 2 l0]]⟩,⟨.arr,5,1,1,rowsU o++rowsU (put p.1 8)++rowsU (put p.2 8)⟩] else none)=_
  rw [e1,rowsU_app,rowsU_app]
  have e2:Nat.add (ℓ (rowsU (o++put p.1 8))) (ℓ (rowsU (put p.2 8)))=(o++eb p).length:=by rw [rowsU_len,rowsU_len];simp [eb,put_len]
  have l2:(o++eb p).length=o.length+16:=by rw [List.length_append,eb_len]
  rw [e2,wS (by omega),List.append_assoc]
  refine(goCk (by rw [rowsU_len]) _).trans ?_
  refine(goY (by rw [l2];show(o.length+16)*1≤_;omega) _ _).trans ?_
  refine(loop38 b l l0 hl rest (i+1) (o++eb p) hd' (by omega) (by omega)).trans ?_
  rw [ebs_cons,List.append_assoc]
theorem c38 (f:Bool) (l:List P2) (hl:l.length≤4000000):E cx (Key.fn 35) [.agg [vbool f,.list 0 2 (prs l)]] []=RJ2 (encR f l):=by
 refine(f35 _ _).trans ((goB (c40 f l hl) _).trans ?_)
 unfold encR
 cases hr:rightT l with
 |false=>rfl
 |true =>
  have hll:=rightT_len hr
  have g:=loop38 f l (prs l) hll l 0 [fB f] rfl rfl (by omega)
  have key:(Ω (yRows [⟨.box,30,2,0,[[vbool f,.list 0 2 (prs l)]]⟩,⟨.arr,5,1,1,rowsU (encB f l)⟩] 1 (.arr 1 1 0 (encB f l).length)) fun ys=>Ω (numsOf ys) fun ns=>some (Out.ret (AV.tuple [vs (Go.strOfNums ns),vi 0]),([]:Heap)))=RJ (encB f l) 0:=by
   show(Ω ((chkLe (0+(encB f l).length) (rowsU (encB f l)).length).bind fun _=>some (((rowsU (encB f l)).take (0+(encB f l).length)).drop 0)) fun ys=>Ω (numsOf ys) fun ns=>some (Out.ret (AV.tuple [vs (Go.strOfNums ns),vi 0]),([]:Heap)))=_
   rw [goLe (by rw [rowsU_len];omega),Option.bind_some,Nat.zero_add,List.drop_zero,List.take_of_length_le (by rw [rowsU_len];omega),rowsU_bytes,numsOf_bytes,Option.bind_some,strOf_back]
  rw [prs_len]
  cases f with
  |true =>
   show(Ω (E cx (Key.loop 35 [true,true,true,true,false,true,false]) [.arr 1 1 0 [fB true].length,vi ((0:Nat):Int),.list 0 2 (prs l),vi l.length] [⟨.box,30,2,0,[[vbool true,.list 0 2 (prs l)]]⟩,⟨.arr,5,1,1,rowsU [fB true]⟩]) _)=_
   rw [g]
   exact key
  |false =>
   show(Ω (E cx (Key.loop 35 [true,true,true,true,false,true,false]) [.arr 1 1 0 [fB false].length,vi ((0:Nat):Int),.list 0 2 (prs l),vi l.length] [⟨.box,30,2,0,[[vbool false,.list 0 2 (prs l)]]⟩,⟨.arr,5,1,1,rowsU [fB false]⟩]) _)=_
   rw [g]
   exact key
theorem loop39 (b:Bool) (l:List P2) (hl:l.length≤2048):∀(rest:List P2) (i:Nat) (o:B),l.drop i=rest→o.length=1+16*i→i+rest.length=l.length →
  E cx (Key.loop 31 [true,true,true,true,true,false,true,false]) [vs (mk o),vi i,.ptr 0 0 0 0] [⟨.box,30,2,0,[[vbool b,.list 0 2 (prs l)]]⟩] =
   some (Out.jump (.exit 0) [vs (mk (o++ebs rest)),vi l.length],[⟨.box,30,2,0,[[vbool b,.list 0 2 (prs l)]]⟩])
 | [],i,o,hd,ho,hi=>by
  simp only [List.length_nil,Nat.add_zero] at hi
  subst hi
  refine(f31_l0 _ _ _ _).trans ((goDn (by rw [prs_len];omega) _ _).trans ?_)
  simp [ebs]
 |p::rest,i,o,hd,ho,hi=>by
  obtain⟨hp,hd',hlt⟩:=drop_cons' hd
  simp only [List.length_cons] at hi
  have h8:∀w,putI w 8=put w 8:=fun w=>putI_ok (by omega) (by omega)
  refine(f31_l0 _ _ _ _).trans ((goD (by rw [prs_len];omega) _ _).trans ((goY (by omega) _ _).trans ((goPr (n:=i) rfl hp _).trans ?_)))
  refine(goS (c107 p.1 8) _).trans ?_
  rw [h8,app_mk]
  have l1:(o++put p.1 8).length=o.length+8:=by rw [List.length_append,put_len]
  have l0:(put p.1 8).length=8:=put_len _ _
  have l2:(put p.2 8).length=8:=put_len _ _
  refine(goN (by show ¬((o.length+(put p.1 8).length:Nat):Int)>_;omega) _ _).trans ?_
  refine(goY (by omega) _ _).trans ((goPr (n:=i) rfl hp _).trans ?_)
  refine(goS (c107 p.2 8) _).trans ?_
  rw [h8,app_mk]
  refine(goN (by show ¬(((o++put p.1 8).length+(put p.2 8).length:Nat):Int)>_;omega) _ _).trans ?_
  rw [wS (by omega),List.append_assoc]
  refine(loop39 b l hl rest (i+1) (o++eb p) hd' (by rw [List.length_append,eb_len];omega) (by omega)).trans ?_
  rw [ebs_cons,List.append_assoc]
theorem c39 (f:Bool) (l:List P2) (hl:l.length≤4000000):E cx (Key.fn 31) [.agg [vbool f,.list 0 2 (prs l)]] []=RJ2 (encR f l):=by
 refine(f31 _ _).trans ((goB (c41 f l hl) _).trans ?_)
 unfold encR
 cases hr:rightT l with
 |false=>rfl
 |true =>
  have hll:=rightT_len hr
  have g:=loop39 f l hll l 0 [fB f] rfl rfl (by omega)
  cases f with
  |true =>
   show(Ω (E cx (Key.loop 31 [true,true,true,true,true,false,true,false]) [vs (mk [fB true]),vi ((0:Nat):Int),.ptr 0 0 0 0] [⟨.box,30,2,0,[[vbool true,.list 0 2 (prs l)]]⟩]) _)=_
   rw [g]
   rfl
  |false =>
   show(Ω (E cx (Key.loop 31 [true,true,true,true,true,false,true,false]) [vs (mk [fB false]),vi ((0:Nat):Int),.ptr 0 0 0 0] [⟨.box,30,2,0,[[vbool false,.list 0 2 (prs l)]]⟩]) _)=_
   rw [g]
   rfl
end
section
def db:Nat→B→List P2
 | 0,_=>[]
 |d+1,l=>(val (l.take 8),val ((l.drop 8).take 8))::db d (l.drop 16)
theorem db_len:∀(d:Nat) (l:B),(db d l).length=d
 | 0,_=>rfl
 |d+1,l=>by simp [db,db_len d]
abbrev tok0:Bool×List P2×Int:=(false,[],2)
noncomputable def decP2 (f:Bool) (q:List P2):Bool×List P2×Int:=if srtB q then if q.length>2048 then(false,[],4) else(f,q,0) else tok0
noncomputable def decR:B→Bool×List P2×Int
 | []=>tok0
 |b::r=>if r.length%16=0 then if b.toNat>1 then tok0 else decP2 (decide (b.toNat=1)) (db (r.length/16) r) else tok0
theorem decR_cons (b:UInt8) (r:B):decR (b::r)=if r.length%16=0 then if b.toNat>1 then tok0 else decP2 (decide (b.toNat=1)) (db (r.length/16) r) else tok0:=rfl
theorem take8 {l:B}(h:8≤l.length):takeR l 8=(val (l.take 8),l.drop 8,0):=takeR_3 (by omega) (by omega)
theorem own115 {l:B}(h:8≤l.length):E cx (Key.own 71) [.ptr 0 0 0 0] [⟨.box,9,1,0,[[vs (mk l)]]⟩]=some (Out.ret (vu (val (l.take 8))),[⟨.box,9,1,0,[[vs (mk (l.drop 8))]]⟩]):=by
 refine(f47_l0_c1 _).trans ?_
 rw [c116,take8 h]
 rfl
theorem loop49 (b:Bool):∀(d:Nat) (l:B) (o:List P2),l.length=16*d→o.length+d≤1000000 →
  E cx (Key.loop 47 [true,true,true,true,true,false,false]) [.ptr 0 0 0 0,.ptr 1 0 0 0,.func (Fn.func 71) [] [.ptr 1 0 0 0]] [⟨.box,30,2,0,[[vbool b,.arr 2 2 0 o.length]]⟩,⟨.box,9,1,0,[[vs (mk l)]]⟩,⟨.arr,98,2,2,prs o⟩] =
   some (Out.jump (.exit 0) [],[⟨.box,30,2,0,[[vbool b,.arr 2 2 0 (o++db d l).length]]⟩,⟨.box,9,1,0,[[vs (mk [])]]⟩,⟨.arr,98,2,2,prs (o++db d l)⟩])
 | 0,l,o,hl,ho=>by
  obtain rfl:l=[]:=List.length_eq_zero_iff.1 (by omega)
  refine(f47_l0 _ _ _ _).trans ((goQn rfl _ _).trans ?_)
  simp [db]
 |d+1,l,o,hl,ho=>by
  have h8:8≤l.length:=by omega
  have h8':8≤(l.drop 8).length:=by rw [List.length_drop];omega
  refine(f47_l0 _ _ _ _).trans ((goQt (b:=[]) (fun h=>by rw [h] at hl;simp at hl) _ _).trans ?_)
  rw [own115 h8]
  show(Ω (E cx (Key.own 71) [.ptr 0 0 0 0] [⟨.box,9,1,0,[[vs (mk (l.drop 8))]]⟩]) _)=_
  rw [own115 h8',List.drop_drop]
  show(Ω (chk o.length (ℓ (prs o))) fun _=>if Nat.mul (Nat.add (ℓ (prs o)) 1) 16≤140737488355328 then
   E cx (Key.loop 47 [true,true,true,true,true,false,false]) [.ptr 0 0 0 0,.ptr 1 0 0 0,.func (Fn.func 71) [] [.ptr 1 0 0 0]] [⟨.box,30,2,0,[[vbool b,.arr 2 2 0 (Nat.add (ℓ (prs o)) 1)]]⟩,⟨.box,9,1,0,[[vs (mk (l.drop (8+8)))]]⟩,⟨.arr,98,2,2,prs o++prs [(val (l.take 8),val ((l.drop 8).take 8))]⟩] else none)=_
  rw [prs_len,prs_app]
  refine(goCk rfl _).trans ((goY (by show(o.length+1)*16≤_;omega) _ _).trans ?_)
  have e:Nat.add o.length 1=(o++[(val (l.take 8),val ((l.drop 8).take 8))]).length:=by simp
  rw [e]
  refine(loop49 b d (l.drop 16) (o++[(val (l.take 8),val ((l.drop 8).take 8))]) (by rw [List.length_drop];omega) (by simp;omega)).trans ?_
  rw [List.append_assoc]
  rfl
theorem view0 {q:List P2}:List.drop 0 (List.take (Nat.add 0 q.length) (prs q))=prs q:=by
 rw [List.drop_zero,show Nat.add 0 q.length=q.length from Nat.zero_add _,←prs_len q,List.take_length]
theorem dec_tail (f:Bool) (q:List P2) (hq:q.length≤1000000) {x:Option (Out×Heap)}(hx:x=rb (srtB q)):RTok' (Ω (chkLe (Nat.add 0 q.length) (ℓ (prs q))) fun _=>Ω x fun r=>(ret1 r).bind fun v=>v.bool?.bind fun b=>bif b then bif decide ((q.length:Int)>2048) then some (Out.ret (.tuple [.agg [vbool false,.val (.slice none 0 0)],vi 4]),[]) else Ω (chkLe (Nat.add 0 q.length) (ℓ (prs q))) fun _=>some (Out.ret (.tuple [.agg [vbool f,.list 0 2 (List.drop 0 (List.take (Nat.add 0 q.length) (prs q)))],vi 0]),[]) else some (Out.ret (.tuple [.agg [vbool false,.val (.slice none 0 0)],vi 2]),[])) (decP2 f q):=by
 unfold decP2
 rw [goLe (by rw [prs_len];exact Nat.le_of_eq (Nat.zero_add _)),goB hx]
 cases hs:srtB q with
 |false=>exact⟨_,rfl,rfl⟩
 |true =>
  simp only [cond_true,if_true]
  by_cases hl:q.length>2048
  ·rw [if_pos hl]
   exact⟨_,goD (by omega) _ _,rfl⟩
  ·rw [if_neg hl]
   refine⟨.list 0 2 (prs q),(goDn (by omega) _ _).trans ?_,rfl⟩
   rw [goLe (by rw [prs_len];exact Nat.le_of_eq (Nat.zero_add _)),view0]
theorem tmod16 (n:Nat):Int.tmod ((n:Nat):Int) 16=((n%16:Nat):Int):=by
 rw [Int.tmod_eq_emod_of_nonneg (Int.natCast_nonneg _)];omega
theorem RTok'_of {x:Option (Out×Heap)}{y:Option (Out×Heap)}{r:Bool×List P2×Int}(h:x=y) (k:RTok' y r):RTok' x r:=by rw [h];exact k
theorem c49 (l:B) (hl:l.length≤1000000):RTok' (E cx (Key.fn 47) [vs (mk l)] []) (decR l):=by
 refine RTok'_of (f47 (mk l)) ?_
 have hm:Int.tmod (((ByteArray.size (mk l):Nat):Int)) 16=((l.length%16:Nat):Int):=tmod16 l.length
 rw [hm]
 cases l with
 |nil=>exact⟨_,goEn (by decide) _ _,rfl⟩
 |cons b r =>
  have hlen:(b::r).length=r.length+1:=rfl
  by_cases h16:r.length%16=0
  ·refine RTok'_of ((goE (by rw [hlen];omega) _ _).trans ((goG (i:=0) (n:=0) rfl rfl _))) ?_
   rw [decR_cons]
   rw [if_pos h16]
   by_cases hb:b.toNat>1
   ·rw [if_pos hb]
    exact⟨_,goD (by omega) _ _,rfl⟩
   ·rw [if_neg hb]
    refine RTok'_of ((goDn (by omega) _ _).trans ((goG (i:=0) (n:=0) rfl rfl _))) ?_
    have ext:ByteArray.extract (mk (b::r)) 1 (ByteArray.size (mk (b::r)))=mk r:=by
     rw [ext_mk]
     show mk (((b::r).take (b::r).length).drop 1)=_
     rw [List.take_length]
     rfl
    have hdl:=db_len (r.length/16) r
    by_cases h1:b.toNat=1
    ·rw [decide_eq_true h1]
     refine RTok'_of (goD (by omega) _ _) ?_
     refine RTok'_of (goY (by show(1:Int)≤((r.length+1:Nat):Int);omega) _ _) ?_
     rw [ext]
     have g:=loop49 true (r.length/16) r [] (by omega) (by simp;omega)
     show RTok' (Ω (E cx (Key.loop 47 [true,true,true,true,true,false,false]) [.ptr 0 0 0 0,.ptr 1 0 0 0,.func (Fn.func 71) [] [.ptr 1 0 0 0]] [⟨.box,30,2,0,[[vbool true,.arr 2 2 0 ([]:List P2).length]]⟩,⟨.box,9,1,0,[[vs (mk r)]]⟩,⟨.arr,98,2,2,prs []⟩]) _) _
     rw [g]
     simp only [List.nil_append]
     refine dec_tail true _ (by omega) ?_
     rw [view0]
     exact c108 _ (by omega)
    ·rw [decide_eq_false h1]
     refine RTok'_of (goDn (by omega) _ _) ?_
     refine RTok'_of (goY (by show(1:Int)≤((r.length+1:Nat):Int);omega) _ _) ?_
     rw [ext]
     have g:=loop49 false (r.length/16) r [] (by omega) (by simp;omega)
     show RTok' (Ω (E cx (Key.loop 47 [true,true,true,true,true,false,false]) [.ptr 0 0 0 0,.ptr 1 0 0 0,.func (Fn.func 71) [] [.ptr 1 0 0 0]] [⟨.box,30,2,0,[[vbool false,.arr 2 2 0 ([]:List P2).length]]⟩,⟨.box,9,1,0,[[vs (mk r)]]⟩,⟨.arr,98,2,2,prs []⟩]) _) _
     rw [g]
     simp only [List.nil_append]
     refine dec_tail false _ (by omega) ?_
     rw [view0]
     exact c108 _ (by omega)
  ·rw [decR_cons]
   rw [if_neg h16]
   exact⟨_,goEn (by rw [hlen];omega) _ _,rfl⟩
theorem loop50 (b1 b:Bool) (w:B) (hw:w.length≤1000000):∀(d i:Nat) (o:List P2),i+16*d=w.length→o.length+d≤1000000 →
  E cx (Key.loop 42 [true,true,true,false,true,false]) [vi i,vs (mk w),.ptr 0 0 0 0,.ptr 1 0 0 0] [⟨.box,30,2,0,[[vbool b1,.val (.slice none 0 0)]]⟩,⟨.box,30,2,0,[[vbool b,.arr 2 2 0 o.length]]⟩,⟨.arr,98,2,2,prs o⟩] =
   some (Out.jump (.exit 0) [vi w.length],[⟨.box,30,2,0,[[vbool b1,.val (.slice none 0 0)]]⟩,⟨.box,30,2,0,[[vbool b,.arr 2 2 0 (o++db d (w.drop i)).length]]⟩,⟨.arr,98,2,2,prs (o++db d (w.drop i))⟩])
 | 0,i,o,hl,ho=>by
  refine(f42_l0 _ _ _ _ _ _).trans ((goDn (by show ¬(i:Int)<(w.length:Int);omega) _ _).trans ?_)
  rw [show i=w.length by omega]
  simp [db]
 |d+1,i,o,hl,ho=>by
  have hs:((ByteArray.size (mk w):Nat):Int)=(w.length:Int):=rfl
  have hs':ByteArray.size (mk w)=w.length:=rfl
  have h8:8≤(w.drop i).length:=by rw [List.length_drop];omega
  have h8':8≤(w.drop (i+8)).length:=by rw [List.length_drop];omega
  have w8:ω .i64 (Int.add (i:Int) 8)=((i+8:Nat):Int):=wr_add (b:=8) (by omega) (by omega)
  have w16:ω .i64 (Int.add (i:Int) 16)=((i+16:Nat):Int):=wr_add (b:=16) (by omega) (by omega)
  have ex:∀j:Nat,ByteArray.extract (mk w) (τ (j:Int)) (ByteArray.size (mk w))=mk (w.drop j):=fun j=>by
   rw [ext_mk,hs',List.take_length,Int.toNat_natCast]
  refine(f42_l0 _ _ _ _ _ _).trans ((goD (by rw [hs];omega) _ _).trans ((goY (by omega) _ _).trans ((goY (by rw [hs];omega) _ _).trans ?_)))
  rw [ex i,c117,take8 h8,w8]
  refine(goTk rfl (fun(n:Int) _ _=>_)).trans ?_
  refine(goY (by omega) _ _).trans ((goY (by rw [hs];omega) _ _).trans ?_)
  rw [ex (i+8),c117,take8 h8',w16]
  refine(goTk rfl (fun(n:Int) _ _=>_)).trans ?_
  show(Ω (chk o.length (ℓ (prs o))) fun _=>if Nat.mul (Nat.add (ℓ (prs o)) 1) 16≤140737488355328 then
   E cx (Key.loop 42 [true,true,true,false,true,false]) [vi (i+16:Nat),vs (mk w),.ptr 0 0 0 0,.ptr 1 0 0 0] [⟨.box,30,2,0,[[vbool b1,.val (.slice none 0 0)]]⟩,⟨.box,30,2,0,[[vbool b,.arr 2 2 0 (Nat.add (ℓ (prs o)) 1)]]⟩,⟨.arr,98,2,2,prs o++prs [(val ((w.drop i).take 8),val ((w.drop (i+8)).take 8))]⟩] else none)=_
  rw [prs_len,prs_app]
  refine(goCk rfl _).trans ((goY (by show(o.length+1)*16≤_;omega) _ _).trans ?_)
  have e:Nat.add o.length 1=(o++[(val ((w.drop i).take 8),val ((w.drop (i+8)).take 8))]).length:=by simp
  rw [e]
  refine(loop50 b1 b w hw d (i+16) (o++[(val ((w.drop i).take 8),val ((w.drop (i+8)).take 8))]) (by omega) (by simp;omega)).trans ?_
  have e3:db (d+1) (w.drop i)=[(val ((w.drop i).take 8),val ((w.drop (i+8)).take 8))]++db d (w.drop (i+16)):=by simp [db,List.drop_drop]
  rw [List.append_assoc,e3]
theorem c50 (l:B) (hl:l.length≤1000000):RTok' (E cx (Key.fn 42) [vs (mk l)] []) (decR l):=by
 refine RTok'_of (f42 (mk l)) ?_
 have hm:Int.tmod (((ByteArray.size (mk l):Nat):Int)) 16=((l.length%16:Nat):Int):=tmod16 l.length
 rw [hm]
 cases l with
 |nil=>exact⟨_,goEn (by decide) _ _,rfl⟩
 |cons b r =>
  have hlen:(b::r).length=r.length+1:=rfl
  by_cases h16:r.length%16=0
  ·refine RTok'_of ((goE (by rw [hlen];omega) _ _).trans ((goG (i:=0) (n:=0) rfl rfl _))) ?_
   rw [decR_cons]
   rw [if_pos h16]
   by_cases hb:b.toNat>1
   ·rw [if_pos hb]
    exact⟨_,goD (by omega) _ _,rfl⟩
   ·rw [if_neg hb]
    refine RTok'_of ((goDn (by omega) _ _).trans ((goG (i:=0) (n:=0) rfl rfl _))) ?_
    have hdl:=db_len (r.length/16) r
    by_cases h1:b.toNat=1
    ·rw [decide_eq_true h1]
     refine RTok'_of (goD (by omega) _ _) ?_
     have g:=loop50 false true (b::r) hl (r.length/16) 1 [] (by rw [hlen];omega) (by simp;omega)
     show RTok' (Ω (E cx (Key.loop 42 [true,true,true,false,true,false]) [vi ((1:Nat):Int),vs (mk (b::r)),.ptr 0 0 0 0,.ptr 1 0 0 0] [⟨.box,30,2,0,[[vbool false,.val (.slice none 0 0)]]⟩,⟨.box,30,2,0,[[vbool true,.arr 2 2 0 ([]:List P2).length]]⟩,⟨.arr,98,2,2,prs []⟩]) _) _
     rw [g]
     simp only [List.nil_append,List.drop_succ_cons,List.drop_zero]
     refine dec_tail true _ (by omega) ?_
     rw [view0]
     exact c110 _ (by omega)
    ·rw [decide_eq_false h1]
     refine RTok'_of (goDn (by omega) _ _) ?_
     have g:=loop50 false false (b::r) hl (r.length/16) 1 [] (by rw [hlen];omega) (by simp;omega)
     show RTok' (Ω (E cx (Key.loop 42 [true,true,true,false,true,false]) [vi ((1:Nat):Int),vs (mk (b::r)),.ptr 0 0 0 0,.ptr 1 0 0 0] [⟨.box,30,2,0,[[vbool false,.val (.slice none 0 0)]]⟩,⟨.box,30,2,0,[[vbool false,.arr 2 2 0 ([]:List P2).length]]⟩,⟨.arr,98,2,2,prs []⟩]) _) _
     rw [g]
     simp only [List.nil_append,List.drop_succ_cons,List.drop_zero]
     refine dec_tail false _ (by omega) ?_
     rw [view0]
     exact c110 _ (by omega)
  ·rw [decR_cons]
   rw [if_neg h16]
   exact⟨_,goEn (by rw [hlen];omega) _ _,rfl⟩
end
section
abbrev rowsN (l:List Nat):List (List AV):=l.map fun(k:Nat)=>[vu (k:Int)]
section
variable {ρ:Type}{x:Option (Out×Heap)}
theorem goRn {l:List Nat}{i:Int}{n:Nat}{w:Nat}(hn:i=n) (h:l[n]?=some w) (k:Int→Option ρ):((rowsN l)[τ i]?.bind fun cs=>(uncons? cs).bind fun p1=>(AV.int? .u64 p1.fst).bind fun a=>(nil? p1.snd).bind fun _=>k a)=k w:=by
 subst hn
 have:(rowsN l)[n]?=some [vu w]:=by simp [rowsN,h]
 rw [Int.toNat_natCast,this]
 rfl
end
end
section
def atR (p:P2) (l:List P2):Nat→Nat
 | 0=>0
 |n+1=>match l[n]? with
  |some q=>if ltP p q then atR p l n else n+1
  |none=>n+1
def insR (p:P2) (l:List P2):List P2:=l.take (atR p l l.length)++p::l.drop (atR p l l.length)
def pairOf (a:Int):P2:=((pickI a 12).toNat,(pickI (a.tdiv 16) 3).toNat)
def tokL:List Int→List P2→List P2
 | [],o=>o
 |a::rest,o=>tokL rest (insR (pairOf a) o)
theorem atR_le (p:P2) (l:List P2):∀n,atR p l n≤n
 | 0=>Nat.le_refl _
 |n+1=>by
  unfold atR
  split
  ·split
   ·exact Nat.le_succ_of_le (atR_le p l n)
   ·exact Nat.le_refl _
  ·exact Nat.le_refl _
theorem insR_len (p:P2) (l:List P2):(insR p l).length=l.length+1:=by
 have:=atR_le p l l.length
 unfold insR
 simp
 omega
theorem tokL_len:∀(r:List Int) (o:List P2),(tokL r o).length=o.length+r.length
 | [],o=>rfl
 |a::r,o=>by
  show(tokL r (insR (pairOf a) o)).length=_
  rw [tokL_len r,insR_len]
  simp only [List.length_cons]
  omega
theorem atR_lo (p:P2) (l:List P2) (hl:PW l):∀n,n≤l.length→∀j,j<atR p l n→∀q,l[j]?=some q→leP q p=true
 | 0,_,j,hj,_,_=>absurd hj (Nat.not_lt_zero _)
 |n+1,hn,j,hj,q,hq=>by
  have hg:l[n]?=some l[n]:=η (by omega)
  unfold atR at hj
  rw [hg] at hj
  simp only at hj
  by_cases hlt:ltP p l[n]=true
  ·rw [if_pos hlt] at hj
   exact atR_lo p l hl n (by omega) j hj q hq
  ·rw [if_neg hlt] at hj
   have h1:leP l[n] p=true:=by
    rw [Bool.not_eq_true] at hlt
    unfold leP
    simpa using hlt
   by_cases hjn:j=n
   ·subst hjn
    rw [hg] at hq
    cases hq
    exact h1
   ·have hq':l[j]=q:=by
     have:=η (l:=l) (i:=j) (by omega)
     rw [this] at hq
     exact Option.some.inj hq
    have:=List.pairwise_iff_getElem.1 hl j n (by omega) (by omega) (by omega)
    rw [hq'] at this
    exact leP_trans _ _ _ this h1
theorem atR_hi (p:P2) (l:List P2):∀n,n≤l.length→∀j,atR p l n≤j→j<n→∀q,l[j]?=some q→ltP p q=true
 | 0,_,j,_,hj,_,_=>absurd hj (Nat.not_lt_zero _)
 |n+1,hn,j,h1,hj,q,hq=>by
  have hg:l[n]?=some l[n]:=η (by omega)
  unfold atR at h1
  rw [hg] at h1
  simp only at h1
  by_cases hlt:ltP p l[n]=true
  ·rw [if_pos hlt] at h1
   by_cases hjn:j=n
   ·subst hjn
    rw [hg] at hq
    cases hq
    exact hlt
   ·exact atR_hi p l n (by omega) j h1 (by omega) q hq
  ·rw [if_neg hlt] at h1
   omega
theorem ltP_le {p q:P2}(h:ltP p q=true):leP p q=true:=by
 rw [leP_iff]
 unfold ltP at h
 simp only [Bool.or_eq_true,Bool.and_eq_true,decide_eq_true_eq] at h
 omega
theorem insR_pw (p:P2) (l:List P2) (hl:PW l):PW (insR p l):=by
 unfold insR
 have hle:=atR_le p l l.length
 rw [PW,List.pairwise_append]
 refine⟨hl.sublist (List.take_sublist _ _),?_,?_⟩
 ·rw [List.pairwise_cons]
  refine⟨fun q hq=> ?_,hl.sublist (List.drop_sublist _ _)⟩
  obtain⟨j,hj⟩:=List.mem_iff_getElem?.1 hq
  rw [List.getElem?_drop] at hj
  have hlt:=(γ.1 hj).1
  exact ltP_le (atR_hi p l l.length (Nat.le_refl _) _ (Nat.le_add_right _ _) hlt q hj)
 ·intro a ha b hb
  obtain⟨j,hj⟩:=List.mem_iff_getElem?.1 ha
  rw [List.getElem?_take] at hj
  have hjl:j<atR p l l.length:=by
   by_cases h:j<atR p l l.length
   ·exact h
   ·rw [if_neg h] at hj;cases hj
  rw [if_pos hjl] at hj
  have h1:=atR_lo p l hl l.length (Nat.le_refl _) j hjl a hj
  rcases List.mem_cons.1 hb with rfl |hb
  ·exact h1
  ·obtain⟨k,hk⟩:=List.mem_iff_getElem?.1 hb
   rw [List.getElem?_drop] at hk
   have hlt:=(γ.1 hk).1
   exact leP_trans _ _ _ h1 (ltP_le (atR_hi p l l.length (Nat.le_refl _) _ (Nat.le_add_right _ _) hlt b hk))
theorem tokL_pw:∀(r:List Int) (o:List P2),PW o→PW (tokL r o)
 | [],_o,h=>h
 | _a::r,_o,h=>tokL_pw r _ (insR_pw _ _ h)
def tokP (raw:List Int):List P2:=tokL (raw.take 30) []
theorem tokP_len (raw:List Int):(tokP raw).length≤30:=by
 unfold tokP
 rw [tokL_len]
 simp
 omega
theorem tokP_pw (raw:List Int):PW (tokP raw):=tokL_pw _ _ .nil
theorem tokP_right (raw:List Int):rightT (tokP raw)=true:=rightT_of (by have:=tokP_len raw;omega) (tokP_pw raw)
theorem loop37i (b1 b2:Bool) (raw:List Int) (x:Int) (p:P2) (o:List P2) (ho:o.length≤1000):∀i,i≤o.length →
  E cx (Key.loop 27 [true,true,false,true,false,false,true,false,false,true,true,false,false]) [vi i,.list 0 1 (ints raw),.ptr 0 0 0 0,.ptr 1 0 0 0,vi x,.ptr 3 0 0 0] [⟨.box,30,2,0,[[vbool b1,.val (.slice none 0 0)]]⟩,⟨.box,30,2,0,[[vbool b2,.arr 2 2 0 o.length]]⟩,⟨.arr,98,2,2,prs o⟩,⟨.box,98,2,0,[[vu p.1,vu p.2]]⟩] =
   some (Out.jump (.exit 2) [vi (atR p o i:Nat)],[⟨.box,30,2,0,[[vbool b1,.val (.slice none 0 0)]]⟩,⟨.box,30,2,0,[[vbool b2,.arr 2 2 0 o.length]]⟩,⟨.arr,98,2,2,prs o⟩,⟨.box,98,2,0,[[vu p.1,vu p.2]]⟩])
 | 0,_=>(f27_l0_l1 _ _ _ _ _ _ _ _ _).trans (goDn (by omega) _ _)
 |i+1,hi=>by
  have hq:o[i]?=some o[i]:=η (by omega)
  refine(f27_l0_l1 _ _ _ _ _ _ _ _ _).trans ((goD (by omega) _ _).trans ?_)
  rw [wP (by omega)]
  refine(goY (by omega) _ _).trans ((goY (by omega) _ _).trans ((goPn (n:=i) rfl hq _).trans ((goB (c105 p o[i]) _).trans ?_)))
  have ha:atR p o (i+1)=if ltP p o[i] then atR p o i else i+1:=by
   show(match o[i]? with |some q=>if ltP p q then atR p o i else i+1 |none=>i+1)=_
   rw [hq]
  rw [ha]
  cases h:ltP p o[i] with
  |true=>exact loop37i b1 b2 raw x p o ho i (by omega)
  |false=>rfl
theorem wu_pick {c n:Int}(hn:0<n) (h2:n<1000):ω .u64 (pickI c n)=(((pickI c n).toNat:Nat):Int):=by
 have:=pickI_lt (c:=c) hn
 rw [wu_id (by omega) (by omega)]
 omega
theorem prs_take (l:List P2) (n:Nat):(prs l).take n=prs (l.take n):=by simp [prs]
theorem prs_drop (l:List P2) (n:Nat):(prs l).drop n=prs (l.drop n):=by simp [prs]
end
section
theorem loop37_end (b1 b2:Bool) (l:List (List AV)) (x:Int) (n:Nat) (rs:List (List AV)) (h:¬(x<(l.length:Int)∧x<30)):E cx (Key.loop 27 [true,true,false,true,false]) [vi x,.list 0 1 l,.ptr 0 0 0 0,.ptr 1 0 0 0] [⟨.box,30,2,0,[[vbool b1,.val (.slice none 0 0)]]⟩,⟨.box,30,2,0,[[vbool b2,.arr 2 2 0 n]]⟩,⟨.arr,98,2,2,rs⟩]=some (Out.jump (.exit 0) [vi x],[⟨.box,30,2,0,[[vbool b1,.val (.slice none 0 0)]]⟩,⟨.box,30,2,0,[[vbool b2,.arr 2 2 0 n]]⟩,⟨.arr,98,2,2,rs⟩]):=by
 refine(f27_l0 _ _ _ _ _ _).trans ?_
 by_cases h1:x<(l.length:Int)
 ·exact(goD h1 _ _).trans (goDn (fun h2=>h ⟨h1,h2⟩) _ _)
 ·exact goDn h1 _ _
theorem loop37_step (b1 b2:Bool) (raw:List Int) (hr:∀a∈raw,RI a) (i:Nat) (a:Int) (ha:raw[i]?=some a) (h30:i<30) (o:List P2) (ho:o.length≤1000):E cx (Key.loop 27 [true,true,false,true,false]) [vi i,.list 0 1 (ints raw),.ptr 0 0 0 0,.ptr 1 0 0 0] [⟨.box,30,2,0,[[vbool b1,.val (.slice none 0 0)]]⟩,⟨.box,30,2,0,[[vbool b2,.arr 2 2 0 o.length]]⟩,⟨.arr,98,2,2,prs o⟩]=E cx (Key.loop 27 [true,true,false,true,false]) [vi (i+1:Nat),.list 0 1 (ints raw),.ptr 0 0 0 0,.ptr 1 0 0 0] [⟨.box,30,2,0,[[vbool b1,.val (.slice none 0 0)]]⟩,⟨.box,30,2,0,[[vbool b2,.arr 2 2 0 (insR (pairOf a) o).length]]⟩,⟨.arr,98,2,2,prs (insR (pairOf a) o)⟩]:=by
 have hlt:=(γ.1 ha).1
 have hA:=hr a (List.mem_of_getElem? ha)
 have hA16:RI (Int.tdiv a 16):=by
  unfold RI at hA ⊢
  rcases Int.le_total 0 a with h |h
  ·have:=Int.tdiv_nonneg h (show(0:Int)≤16 by omega)
   have h2:=Int.tdiv_eq_ediv_of_nonneg (b:=16) h
   omega
  ·have e:Int.tdiv a 16 = -(Int.tdiv (-a) 16):=by rw [Int.neg_tdiv,Int.neg_neg]
   have h2:=Int.tdiv_eq_ediv_of_nonneg (b:=16) (show(0:Int) ≤ -a by omega)
   omega
 refine(f27_l0 _ _ _ _ _ _).trans ((goD (by simp only [List.length_map];omega) _ _).trans ((goD (by omega) _ _).trans ((goY (by omega) _ _).trans ((go1 (n:=i) rfl ha _).trans ((goI (c48 hA (by omega)) _).trans ((goY (by omega) _ _).trans ((go1 (n:=i) rfl ha _).trans ?_)))))))
 rw [wr_id (n:=Int.tdiv a 16) hA16.1 hA16.2]
 refine(goI (c48 hA16 (by omega)) _).trans ?_
 rw [wu_pick (c:=a) (n:=12) (by omega) (by omega),wu_pick (c:=Int.tdiv a 16) (n:=3) (by omega) (by omega),show(pickI a 12).toNat=(pairOf a).1 from rfl,show(pickI (Int.tdiv a 16) 3).toNat=(pairOf a).2 from rfl]
 rw [loop37i b1 b2 raw i (pairOf a) o ho o.length (Nat.le_refl _)]
 have hle:=atR_le (pairOf a) o o.length
 generalize hk:atR (pairOf a) o o.length=k at hle
 simp only [Option.bind_some,asJump,JX.is,Nat.beq_refl,cond_true,uncons?,nil?,AV.arr?,AV.int?,AV.bool?,AV.nilS?,chk,obIs,if_true,and_self]
 have hkk:τ ((k:Nat):Int)=k:=Int.toNat_natCast k
 rw [hkk]
 have e1:List.drop (Nat.add 0 0) (List.take (Nat.add (Nat.add 0 0) (Nat.sub k 0)) (prs o))=prs (o.take k):=by
  show List.drop 0 (List.take (0+k) (prs o))=_
  rw [List.drop_zero,Nat.zero_add,prs_take]
 have e2:List.drop (Nat.add 0 k) (List.take (Nat.add (Nat.add 0 k) (Nat.sub o.length k)) (prs o))=prs (o.drop k):=by
  show List.drop (0+k) (List.take (0+k+(o.length-k)) (prs o))=_
  rw [Nat.zero_add,List.take_of_length_le (by rw [prs_len];omega),prs_drop]
 have l1:(prs (o.take k)).length=k:=by rw [prs_len];simp;omega
 have l2:(prs (o.drop k)).length=o.length-k:=by rw [prs_len];simp
 refine(goY (by omega) _ _).trans ((goY (by omega) _ _).trans ?_)
 refine(goLe (by show 0+0+(k-0)≤(prs o).length;rw [prs_len];omega) _).trans ?_
 rw [e1,ysOk_prs,l1]
 refine(goY (by show(0+k)*16≤_;omega) _ _).trans ?_
 show(Ω (chk (Nat.add 0 k) (ℓ (prs (o.take k)))) fun _=>if Nat.mul (Nat.add (ℓ (prs (o.take k))) 1) 16≤140737488355328 then
  if(0:Int)≤(k:Int) then if(k:Int)≤(o.length:Int) then
   Ω (chkLe (Nat.add (Nat.add 0 k) (Nat.sub o.length k)) (ℓ (prs o))) fun _ =>
   bif ysOk (List.drop (Nat.add 0 k) (List.take (Nat.add (Nat.add 0 k) (Nat.sub o.length k)) (prs o))) then
   Ω (chk (Nat.add (ℓ (prs (o.take k))) 1) (ℓ (prs (o.take k)++prs [pairOf a]))) fun _ =>
   if Nat.mul (Nat.add (ℓ (prs (o.take k)++prs [pairOf a])) (ℓ (List.drop (Nat.add 0 k) (List.take (Nat.add (Nat.add 0 k) (Nat.sub o.length k)) (prs o))))) 16≤140737488355328 then
   E cx (Key.loop 27 [true,true,false,true,false]) [vi (ω .i64 (Int.add (i:Int) 1)),.list 0 1 (ints raw),.ptr 0 0 0 0,.ptr 1 0 0 0] [⟨.box,30,2,0,[[vbool b1,.val (.slice none 0 0)]]⟩,
    ⟨.box,30,2,0,[[vbool b2,.arr 2 2 0 (Nat.add (ℓ (prs (o.take k)++prs [pairOf a])) (ℓ (List.drop (Nat.add 0 k) (List.take (Nat.add (Nat.add 0 k) (Nat.sub o.length k)) (prs o)))))]]⟩,
    ⟨.arr,98,2,2,prs (o.take k)++prs [pairOf a]++List.drop (Nat.add 0 k) (List.take (Nat.add (Nat.add 0 k) (Nat.sub o.length k)) (prs o))⟩]
   else none else none else none else none else none)=_
 have l3:(prs (o.take k)++prs [pairOf a]).length=k+1:=by rw [List.length_append,l1];rfl
 rw [e2,ysOk_prs,l1,l3,l2]
 refine(goCk (by show 0+k=k;omega) _).trans ((goY (by show(k+1)*16≤_;omega) _ _).trans ((goY (by omega) _ _).trans ((goY (by omega) _ _).trans ?_)))
 refine(goLe (by show 0+k+(o.length-k)≤(prs o).length;rw [prs_len];omega) _).trans ?_
 refine(goCk rfl _).trans ((goY (by show(k+1+(o.length-k))*16≤_;omega) _ _).trans ?_)
 have e3:prs (o.take k)++prs [pairOf a]++prs (o.drop k)=prs (insR (pairOf a) o):=by
  unfold insR
  rw [hk]
  simp [prs]
 have l4:Nat.add (k+1) (o.length-k)=(insR (pairOf a) o).length:=by
  rw [insR_len]
  show k+1+(o.length-k)=_
  omega
 rw [e3,l4,wS (by omega)]
theorem loop37 (b1 b2:Bool) (raw:List Int) (hr:∀a∈raw,RI a):∀(rest:List Int) (i:Nat) (o:List P2),(raw.take 30).drop i=rest→i+rest.length=(raw.take 30).length→o.length=i →
  ∃n:Nat,E cx (Key.loop 27 [true,true,false,true,false]) [vi i,.list 0 1 (ints raw),.ptr 0 0 0 0,.ptr 1 0 0 0] [⟨.box,30,2,0,[[vbool b1,.val (.slice none 0 0)]]⟩,⟨.box,30,2,0,[[vbool b2,.arr 2 2 0 o.length]]⟩,⟨.arr,98,2,2,prs o⟩] =
   some (Out.jump (.exit 0) [vi n],[⟨.box,30,2,0,[[vbool b1,.val (.slice none 0 0)]]⟩,⟨.box,30,2,0,[[vbool b2,.arr 2 2 0 (tokL rest o).length]]⟩,⟨.arr,98,2,2,prs (tokL rest o)⟩])
 | [],i,o,hd,hi,ho=>by
  simp only [List.length_nil,Nat.add_zero,List.length_take] at hi
  exact⟨i,loop37_end _ _ _ _ _ _ (by simp only [List.length_map];omega)⟩
 |a::rest,i,o,hd,hi,ho=>by
  have hp:(raw.take 30)[i]?=some a:=by
   have:=congrArg (fun l=>l[0]?) hd;simpa using this
  have hd':(raw.take 30).drop (i+1)=rest:=by rw [←List.drop_drop,hd];rfl
  have hlt:i<(raw.take 30).length:=(γ.1 hp).1
  simp only [List.length_cons] at hi
  have h30:i<30:=by rw [List.length_take] at hlt;omega
  rw [List.getElem?_take,if_pos h30] at hp
  have hl:=insR_len (pairOf a) o
  obtain⟨n,g⟩:=loop37 b1 b2 raw hr rest (i+1) (insR (pairOf a) o) hd' (by omega) (by omega)
  exact⟨n,(loop37_step b1 b2 raw hr i a hp h30 o (by omega)).trans g⟩
theorem c37 (raw:List Int) (hr:∀a∈raw,RI a) (f:Bool):E cx (Key.fn 27) [.list 0 1 (ints raw),vbool f] []=some (Out.ret (.agg [vbool f,.list 0 2 (prs (tokP raw))]),[]):=by
 refine(f27 _ _).trans ?_
 obtain⟨n,g⟩:=loop37 false f raw hr (raw.take 30) 0 [] rfl (by omega) rfl
 show(Ω (E cx (Key.loop 27 [true,true,false,true,false]) [vi ((0:Nat):Int),.list 0 1 (ints raw),.ptr 0 0 0 0,.ptr 1 0 0 0] [⟨.box,30,2,0,[[vbool false,.val (.slice none 0 0)]]⟩,⟨.box,30,2,0,[[vbool f,.arr 2 2 0 ([]:List P2).length]]⟩,⟨.arr,98,2,2,prs []⟩]) _)=_
 rw [g]
 show(Ω (chkLe (Nat.add 0 (tokP raw).length) (ℓ (prs (tokP raw)))) fun _=>some (Out.ret (.agg [vbool f,.list 0 2 (List.drop 0 (List.take (Nat.add 0 (tokP raw).length) (prs (tokP raw))))]),([]:Heap)))=_
 rw [goLe (by rw [prs_len];exact Nat.le_of_eq (Nat.zero_add _)),view0]
end
end
section
section
theorem c64 {c n:Int}(hc:RI c) (hn:0<n):E cx (Key.fn 53) [vi c,vi n] []=some (Out.ret (vi (pickI c n)),[]):=by
 refine(f53 c n).trans ?_
 unfold pickI
 by_cases h:c<0
 ·refine(goD h _ _).trans ((goN (by omega) _ _).trans ?_)
  rw [wr_add (by omega) (by omega),show Int.sub 0 (c+1)=0-(c+1) from rfl,show(0:Int)-(c+1) = -(c+1) by omega,wr_id (by omega) (by omega),if_pos h]
 ·refine(goDn h _ _).trans ((goN (by omega) _ _).trans ?_)
  rw [if_neg h]
abbrev bB (n:Int) (l:List Int):Ob:=⟨.box,27,2,0,[[vi n,.list 0 1 (ints l)]]⟩
abbrev bA (n:Int) (l:List Int):AV := .agg [vi n,.list 0 1 (ints l)]
def upB (n:Int):Int→List Int→Bool
 | _,[]=>true
 |p,x::r=>decide (p<x)&&(decide (x<n)&&upB n x r)
def rightB (n:Int) (l:List Int):Bool:=decide (0≤n)&&(decide (n≤2048)&&upB n (-1) l)
theorem loop60 (b:Bool) (n:Int) (l:List Int) (hl:l.length≤4000000):∀(rest:List Int) (i:Nat) (p:Int),l.drop i=rest→i+rest.length=l.length →
  (upB n p rest=true∧∃q:Int,E cx (Key.loop 76 [true,true,true,false,true,false]) [vbool b,vi p,vi i,.ptr 0 0 0 0,.list 0 1 (ints l),vi l.length] [bB n l]=some (Out.jump (.exit 0) [vbool b,vi q,vi l.length],[bB n l])) ∨
  (upB n p rest=false∧∃q k:Int,E cx (Key.loop 76 [true,true,true,false,true,false]) [vbool b,vi p,vi i,.ptr 0 0 0 0,.list 0 1 (ints l),vi l.length] [bB n l]=some (Out.jump .ret [vbool false,vi q,vi k],[bB n l]))
 | [],i,p,hd,hi=>by
  simp only [List.length_nil,Nat.add_zero] at hi
  subst hi
  exact .inl ⟨rfl,p,(f76_l0 _ _ _ _ _ _ _).trans (goDn (by omega) _ _)⟩
 |x::rest,i,p,hd,hi=>by
  obtain⟨hp,hd',hlt⟩:=drop_cons' hd
  simp only [List.length_cons] at hi
  have go:∀ {R},(bif decide (x≤p) then q60_l0_0 p i n (ints l) else bif decide (x≥n) then q60_l0_0 p i n (ints l) else
    E cx (Key.loop 76 [true,true,true,false,true,false]) [vbool b,vi x,vi (i+1:Nat),.ptr 0 0 0 0,.list 0 1 (ints l),vi l.length] [bB n l])=R →
    E cx (Key.loop 76 [true,true,true,false,true,false]) [vbool b,vi p,vi i,.ptr 0 0 0 0,.list 0 1 (ints l),vi l.length] [bB n l]=R:=fun {R} h=>by
   refine(f76_l0 _ _ _ _ _ _ _).trans ((goD (by omega) _ _).trans ((goY (by omega) _ _).trans ((go1 (n:=i) rfl hp _).trans ?_)))
   rw [wS (by omega)]
   exact h
  have hu:upB n p (x::rest)=(decide (p<x)&&(decide (x<n)&&upB n x rest)):=rfl
  by_cases h1:p<x
  ·by_cases h2:x<n
   ·rw [hu,decide_eq_true h1,decide_eq_true h2,Bool.true_and,Bool.true_and]
    rcases loop60 b n l hl rest (i+1) x hd' (by omega) with⟨g1,q,g2⟩ |⟨g1,q,k,g2⟩
    ·exact .inl ⟨g1,q,go ((goDn (by omega) _ _).trans ((goDn (by omega) _ _).trans g2))⟩
    ·exact .inr ⟨g1,q,k,go ((goDn (by omega) _ _).trans ((goDn (by omega) _ _).trans g2))⟩
   ·exact .inr ⟨by rw [hu,decide_eq_false h2,Bool.false_and,Bool.and_false],p,i,go ((goDn (by omega) _ _).trans (goD (by omega) _ _))⟩
  ·exact .inr ⟨by rw [hu,decide_eq_false h1,Bool.false_and],p,i,go (goD (by omega) _ _)⟩
theorem c60 (n:Int) (l:List Int) (hl:l.length≤4000000):E cx (Key.fn 76) [bA n l] []=rb (rightB n l):=by
 refine(f76 _ _).trans ?_
 unfold rightB
 by_cases h1:n<0
 ·rw [decide_eq_false (show ¬0≤n by omega)]
  exact goD h1 _ _
 ·rw [decide_eq_true (show 0≤n by omega)]
  refine(goDn h1 _ _).trans ?_
  by_cases h2:n>2048
  ·rw [decide_eq_false (show ¬n≤2048 by omega)]
   exact goD h2 _ _
  ·rw [decide_eq_true (show n≤2048 by omega)]
   refine(goDn h2 _ _).trans ?_
   rw [ints_len]
   show(Ω (E cx (Key.loop 76 [true,true,true,false,true,false]) [vbool false,vi (-1),vi ((0:Nat):Int),.ptr 0 0 0 0,.list 0 1 (ints l),vi l.length] [bB n l]) _)=_
   rcases loop60 false n l hl l 0 (-1) rfl (by omega) with⟨g1,q,g2⟩ |⟨g1,q,k,g2⟩
   ·rw [g2,g1];rfl
   ·rw [g2,g1];rfl
theorem loop61 (b:Bool) (n:Int) (l:List Int) (hl:l.length≤4000000):∀(rest:List Int) (i:Nat) (p:Int),l.drop i=rest→i+rest.length=l.length→(i=0→p = -1)→(∀j,i=j+1→l[j]?=some p∧0≤p) →
  (upB n p rest=true∧E cx (Key.loop 57 [true,true,false,true,false]) [vbool b,vi i,.ptr 0 0 0 0] [bB n l]=some (Out.jump (.exit 0) [vbool b,vi l.length],[bB n l])) ∨
  (upB n p rest=false∧∃k:Int,E cx (Key.loop 57 [true,true,false,true,false]) [vbool b,vi i,.ptr 0 0 0 0] [bB n l]=some (Out.jump .ret [vbool false,vi k],[bB n l]))
 | [],i,p,hd,hi,h0,hj=>by
  simp only [List.length_nil,Nat.add_zero] at hi
  subst hi
  exact .inl ⟨rfl,(f57_l0 _ _ _ _).trans (goDn (by rw [ints_len];omega) _ _)⟩
 |x::rest,i,p,hd,hi,h0,hj=>by
  obtain⟨hp,hd',hlt⟩:=drop_cons' hd
  simp only [List.length_cons] at hi
  have hu:upB n p (x::rest)=(decide (p<x)&&(decide (x<n)&&upB n x rest)):=rfl
  have hpm : -1≤p:=by
   cases i with
   |zero=>rw [h0 rfl];omega
   |succ j=>have:=(hj j rfl).2;omega
  have start:∀ {R},(bif decide (x<0) then q61_l0_0 i n (ints l) else bif decide (x≥n) then q61_l0_0 i n (ints l) else bif decide (x≤p) then q61_l0_0 i n (ints l) else q61_l0_1 b i n (ints l))=R →
    E cx (Key.loop 57 [true,true,false,true,false]) [vbool b,vi i,.ptr 0 0 0 0] [bB n l]=R:=fun {R} h=>by
   refine(f57_l0 _ _ _ _).trans ((goD (by rw [ints_len];omega) _ _).trans ((goY (by omega) _ _).trans ((go1 (n:=i) rfl hp _).trans ?_)))
   by_cases hx0:x<0
   ·exact(goD hx0 _ _).trans ((goD hx0 _ _).symm.trans h)
   ·refine(goDn hx0 _ _).trans ((goY (by omega) _ _).trans ((go1 (n:=i) rfl hp _).trans ?_))
    have h:=(goDn hx0 _ _).symm.trans h
    by_cases hxn:x≥n
    ·exact(goD hxn _ _).trans ((goD hxn _ _).symm.trans h)
    ·refine(goDn hxn _ _).trans ?_
     have h:=(goDn hxn _ _).symm.trans h
     cases i with
     |zero =>
      refine(goDn (by omega) _ _).trans ?_
      have hpz:=h0 rfl
      exact(goDn (by omega) _ _).symm.trans h
     |succ j =>
      refine(goD (by omega) _ _).trans ((goY (by omega) _ _).trans ((go1 (n:=j+1) rfl hp _).trans ?_))
      rw [wP (by omega)]
      refine(goY (by omega) _ _).trans ((go1 (n:=j) rfl (hj j rfl).1 _).trans ?_)
      exact h
  by_cases h1:p<x
  ·by_cases h2:x<n
   ·rw [hu,decide_eq_true h1,decide_eq_true h2,Bool.true_and,Bool.true_and]
    have nx:q61_l0_1 b i n (ints l)=E cx (Key.loop 57 [true,true,false,true,false]) [vbool b,vi (i+1:Nat),.ptr 0 0 0 0] [bB n l]:=by
     unfold q61_l0_1
     rw [wS (by omega)]
    rcases loop61 b n l hl rest (i+1) x hd' (by omega) (fun h=>by omega) (fun j hjj=>⟨by rw [show j=i by omega];exact hp,by omega⟩) with⟨g1,g2⟩ |⟨g1,k,g2⟩
    ·exact .inl ⟨g1,start ((goDn (by omega) _ _).trans ((goDn (by omega) _ _).trans ((goDn (by omega) _ _).trans (nx.trans g2))))⟩
    ·exact .inr ⟨g1,k,start ((goDn (by omega) _ _).trans ((goDn (by omega) _ _).trans ((goDn (by omega) _ _).trans (nx.trans g2))))⟩
   ·refine .inr ⟨by rw [hu,decide_eq_false h2,Bool.false_and,Bool.and_false],i,start ?_⟩
    by_cases hx0:x<0
    ·exact goD hx0 _ _
    ·exact(goDn hx0 _ _).trans (goD (by omega) _ _)
  ·refine .inr ⟨by rw [hu,decide_eq_false h1,Bool.false_and],i,start ?_⟩
   by_cases hx0:x<0
   ·exact goD hx0 _ _
   ·refine(goDn hx0 _ _).trans ?_
    by_cases hxn:x≥n
    ·exact goD hxn _ _
    ·exact(goDn hxn _ _).trans (goD (by omega) _ _)
theorem c61 (n:Int) (l:List Int) (hl:l.length≤4000000):E cx (Key.fn 57) [bA n l] []=rb (rightB n l):=by
 refine(f57 _ _).trans ?_
 unfold rightB
 by_cases h1:n<0
 ·rw [decide_eq_false (show ¬0≤n by omega)]
  exact goD h1 _ _
 ·rw [decide_eq_true (show 0≤n by omega)]
  refine(goDn h1 _ _).trans ?_
  by_cases h2:n>2048
  ·rw [decide_eq_false (show ¬n≤2048 by omega)]
   exact goD h2 _ _
  ·rw [decide_eq_true (show n≤2048 by omega)]
   refine(goDn h2 _ _).trans ?_
   show(Ω (E cx (Key.loop 57 [true,true,false,true,false]) [vbool false,vi ((0:Nat):Int),.ptr 0 0 0 0] [bB n l]) _)=_
   rcases loop61 false n l hl l 0 (-1) rfl (by omega) (fun _=>rfl) (fun j h=>by omega) with⟨g1,g2⟩ |⟨g1,k,g2⟩
   ·rw [g2,g1];rfl
   ·rw [g2,g1];rfl
theorem loop122 (b:Bool) (n x:Int) (l:List Int) (hl:l.length≤4000000):∀(rest:List Int) (i:Nat),l.drop i=rest→i+rest.length=l.length →
  (¬x∈rest∧E cx (Key.loop 79 [true,false,true,false]) [vbool b,vi i,vi x,.ptr 0 0 0 0] [bB n l]=some (Out.jump (.exit 0) [vbool b,vi l.length],[bB n l])) ∨
  (x∈rest∧∃k:Int,E cx (Key.loop 79 [true,false,true,false]) [vbool b,vi i,vi x,.ptr 0 0 0 0] [bB n l]=some (Out.jump .ret [vbool true,vi k],[bB n l]))
 | [],i,hd,hi=>by
  simp only [List.length_nil,Nat.add_zero] at hi
  subst hi
  exact .inl ⟨by simp,(f79_l0 _ _ _ _ _).trans (goDn (by rw [ints_len];omega) _ _)⟩
 |y::rest,i,hd,hi=>by
  obtain⟨hp,hd',hlt⟩:=drop_cons' hd
  simp only [List.length_cons] at hi
  have go:∀ {R},(bif decide (y=x) then some (Out.jump .ret [vbool true,vi i],[bB n l]) else E cx (Key.loop 79 [true,false,true,false]) [vbool b,vi (i+1:Nat),vi x,.ptr 0 0 0 0] [bB n l])=R →
    E cx (Key.loop 79 [true,false,true,false]) [vbool b,vi i,vi x,.ptr 0 0 0 0] [bB n l]=R:=fun {R} h=>by
   refine(f79_l0 _ _ _ _ _).trans ((goD (by rw [ints_len];omega) _ _).trans ((goY (by omega) _ _).trans ((go1 (n:=i) rfl hp _).trans ?_)))
   rw [wS (by omega)]
   exact h
  by_cases hy:y=x
  ·exact .inr ⟨by rw [hy];exact List.mem_cons_self ..,i,go (goD hy _ _)⟩
  ·rcases loop122 b n x l hl rest (i+1) hd' (by omega) with⟨g1,g2⟩ |⟨g1,k,g2⟩
   ·exact .inl ⟨fun h=>(List.mem_cons.1 h).elim (fun h=>hy h.symm) g1,go ((goDn hy _ _).trans g2)⟩
   ·exact .inr ⟨List.mem_cons_of_mem _ g1,k,go ((goDn hy _ _).trans g2)⟩
theorem c122 (n x:Int) (l:List Int) (hl:l.length≤4000000):E cx (Key.fn 79) [bA n l,vi x] []=rb (decide (x∈l)):=by
 refine(f79 _ _ _).trans ?_
 show(Ω (E cx (Key.loop 79 [true,false,true,false]) [vbool false,vi ((0:Nat):Int),vi x,.ptr 0 0 0 0] [bB n l]) _)=_
 rcases loop122 false n x l hl l 0 rfl (by omega) with⟨g1,g2⟩ |⟨g1,k,g2⟩
 ·rw [g2,decide_eq_false g1];rfl
 ·rw [g2,decide_eq_true g1];rfl
end
section
theorem loop67 (b0:Bool) (n m:Int) (a b:List Int) (hab:a.length=b.length) (hl:a.length≤4000000):∀(d i:Nat),i+d=a.length →
  (a.drop i=b.drop i∧E cx (Key.loop 48 [true,true,false,true,false]) [vbool b0,vi i,.ptr 0 0 0 0,.ptr 1 0 0 0] [bB n a,bB m b]=some (Out.jump (.exit 0) [vbool b0,vi a.length],[bB n a,bB m b])) ∨
  (a.drop i≠b.drop i∧∃k:Nat,E cx (Key.loop 48 [true,true,false,true,false]) [vbool b0,vi i,.ptr 0 0 0 0,.ptr 1 0 0 0] [bB n a,bB m b]=some (Out.jump .ret [vbool false,vi k],[bB n a,bB m b]))
 | 0,i,hd=>by
  refine .inl ⟨by rw [List.drop_eq_nil_of_le (by omega),List.drop_eq_nil_of_le (by omega)],(f48_l0 _ _ _ _ _ _).trans ((goDn (by rw [ints_len];omega) _ _).trans (by rw [show i=a.length by omega]))⟩
 |d+1,i,hd=>by
  have hp:a[i]?=some a[i]:=η (by omega)
  have hq:b[i]?=some b[i]:=η (by omega)
  have ha:a.drop i=a[i]::a.drop (i+1):=List.drop_eq_getElem_cons (by omega)
  have hb:b.drop i=b[i]::b.drop (i+1):=List.drop_eq_getElem_cons (by omega)
  have go:∀ {R},(bif a[i] !=b[i] then some (Out.jump .ret [vbool false,vi i],[bB n a,bB m b]) else
    E cx (Key.loop 48 [true,true,false,true,false]) [vbool b0,vi (i+1:Nat),.ptr 0 0 0 0,.ptr 1 0 0 0] [bB n a,bB m b])=R →
    E cx (Key.loop 48 [true,true,false,true,false]) [vbool b0,vi i,.ptr 0 0 0 0,.ptr 1 0 0 0] [bB n a,bB m b]=R:=fun {R} h=>by
   refine(f48_l0 _ _ _ _ _ _).trans ((goD (by rw [ints_len];omega) _ _).trans ((goY (by omega) _ _).trans ((go1 (n:=i) rfl hp _).trans ((goY (by omega) _ _).trans ((go1 (n:=i) rfl hq _).trans ?_)))))
   rw [wS (by omega)]
   exact h
  rw [ha,hb]
  by_cases he:a[i]=b[i]
  ·rcases loop67 b0 n m a b hab hl d (i+1) (by omega) with⟨g1,g2⟩ |⟨g1,k,g2⟩
   ·exact .inl ⟨by rw [he,g1],go ((goE he _ _).trans g2)⟩
   ·exact .inr ⟨fun h=>g1 (List.cons.inj h).2,k,go ((goE he _ _).trans g2)⟩
  ·exact .inr ⟨fun h=>he (List.cons.inj h).1,i,go (goEn he _ _)⟩
theorem c67 (n m:Int) (a b:List Int) (hl:a.length≤4000000):E cx (Key.fn 48) [bA n a,bA m b] []=rb (decide (n=m∧a=b)):=by
 refine(f48 _ _ _ _).trans ?_
 rw [ints_len,ints_len]
 by_cases hn:n=m
 ·refine(goE hn _ _).trans ?_
  by_cases hab:a.length=b.length
  ·refine(goE (by omega) _ _).trans ?_
   show(Ω (E cx (Key.loop 48 [true,true,false,true,false]) [vbool false,vi ((0:Nat):Int),.ptr 0 0 0 0,.ptr 1 0 0 0] [bB n a,bB m b]) _)=_
   rcases loop67 false n m a b hab hl a.length 0 (by omega) with⟨g1,g2⟩ |⟨g1,k,g2⟩
   ·rw [g2,decide_eq_true (show n=m∧a=b from⟨hn,g1⟩)]
    rfl
   ·rw [g2,decide_eq_false (show ¬(n=m∧a=b) from fun h=>g1 h.2)]
    rfl
  ·rw [decide_eq_false fun h=>hab (by rw [h.2])]
   exact goEn (by omega) _ _
 ·rw [decide_eq_false fun h=>hn h.1]
  exact goEn hn _ _
end
section
theorem up_pw:∀ {n p:Int}{l:List Int},upB n p l=true→l.Pairwise (· < ·)∧∀x∈l,p<x∧x<n
 |n,p,[],_=>⟨.nil,by simp⟩
 |n,p,x::r,h=>by
  have h':(decide (p<x)&&(decide (x<n)&&upB n x r))=true:=h
  simp only [Bool.and_eq_true,decide_eq_true_eq] at h'
  obtain⟨h1,h2,h3⟩:=h'
  obtain⟨g1,g2⟩:=up_pw h3
  refine⟨.cons (fun y hy=>(g2 y hy).1) g1,fun y hy=> ?_⟩
  rcases List.mem_cons.1 hy with rfl |hy
  ·exact⟨h1,h2⟩
  ·have:=g2 y hy
   exact⟨by omega,this.2⟩
end
section
theorem ints_take (l:List Int) (n:Nat):(ints l).take n=ints (l.take n):=by simp [ints]
end
section
theorem ysOk_ints (l:List Int):ysOk (ints l)=true:=by
 unfold ysOk
 rw [List.all_eq_true]
 intro e he
 obtain⟨p,_,rfl⟩:=List.mem_map.1 he
 rfl
end
section
abbrev b0 (m:Int):Ob:=⟨.box,27,2,0,[[vi m,.val (.slice none 0 0)]]⟩
end
section
abbrev bys (o:List Int):List (List AV):=o.map fun b=>[vb b]
def putB (o:List Int) (p:Nat):List Int:=o.set (p/8) (ior .u8 (o.getD (p/8) 0) (ishl .u8 1 ((p%8:Nat):Int)))
theorem putB_len (o:List Int) (p:Nat):(putB o p).length=o.length:=by simp [putB]
theorem nth_bys {o:List Int}{k:Nat}(h:k<o.length):nth (bys o) k=some [vb (o.getD k 0)]:=by
 rw [nth_eq];simp [bys,h]
theorem goNb {ρ:Type}{o:List Int}{k:Nat}(h:k<o.length) (f:Int→Option ρ):((nth (bys o) k).bind fun cs=>(uncons? cs).bind fun p=>(AV.int? .u8 p.fst).bind fun s=>(nil? p.snd).bind fun _=>f s)=f (o.getD k 0):=by rw [nth_bys h];rfl
theorem loop118 (l:List Nat) (hl:l.length≤4000000) (n:Nat) (hn:n≤1000000) (hp:∀p∈l,p<8*n):∀(rest:List Nat) (i:Nat) (o:List Int),l.drop i=rest→i+rest.length=l.length→o.length=n →
  E cx (Key.loop 77 [true,true,false,true,false]) [vi i,.arr 0 1 0 n,.list 0 1 (ints (l.map Int.ofNat)),vi l.length] [⟨.arr,5,1,1,bys o⟩]=some (Out.jump (.exit 0) [vi l.length],[⟨.arr,5,1,1,bys (rest.foldl putB o)⟩])
 | [],i,o,hd,hi,ho=>by
  simp only [List.length_nil,Nat.add_zero] at hi
  subst hi
  exact(f77_l0 _ _ _ _ _).trans (goDn (by omega) _ _)
 |y::rest,i,o,hd,hi,ho=>by
  obtain⟨hq,hd',hlt⟩:=drop_cons' hd
  simp only [List.length_cons] at hi
  have hy:=hp y (List.mem_of_getElem? hq)
  have hq':(l.map Int.ofNat)[i]?=some (y:Int):=by rw [List.getElem?_map,hq];rfl
  have ih:=loop118 l hl n hn hp rest (i+1) (putB o y) hd' (by omega) ((putB_len o y).trans ho)
  have hw:ω .i64 (Int.tdiv (y:Int) 8)=((y/8:Nat):Int):=by
   rw [show Int.tdiv (y:Int) 8=((y/8:Nat):Int) from rfl]
   exact wr_id (by omega) (by omega)
  refine(f77_l0 _ _ _ _ _).trans ((goD (by omega) _ _).trans ((goY (by omega) _ _).trans ((go1 (n:=i) rfl hq' _).trans ?_)))
  rw [hw,Int.toNat_natCast,show Nat.add 0 (y/8)=y/8 from Nat.zero_add _,show Int.tmod (y:Int) 8=((y%8:Nat):Int) from rfl,wS (by omega)]
  have hk:y/8<o.length:=by omega
  refine(goY (by omega) _ _).trans ((goY (by omega) _ _).trans ((goNb hk _).trans ((goN (show ¬(((y%8:Nat):Int)<0) by omega) _ _).trans ((goY (by omega) _ _).trans ((goY (by omega) _ _).trans ((goNb hk _).trans ?_))))))
  refine Eq.trans ?_ ih
  simp [putB,bys,List.map_set]
end
section
theorem foldB_len (l:List Nat):∀o:List Int,(l.foldl putB o).length=o.length:=by
 induction l with
 |nil=>intro o;rfl
 |cons p l ih=>intro o;rw [List.foldl_cons,ih,putB_len]
theorem c118 (l:List Nat) (hl:l.length≤4000000) (n:Nat) (hn:n≤1000000) (hp:∀p∈l,p<8*n):E cx (Key.fn 77) [vi n,.list 0 1 (ints (l.map Int.ofNat))] []=some (Out.ret (.list 0 1 (bys (l.foldl putB (List.replicate n 0)))),[]):=by
 have hlen:(l.foldl putB (List.replicate n 0)).length=n:=by rw [foldB_len,List.length_replicate]
 have hbl:(bys (l.foldl putB (List.replicate n 0))).length=n:=by rw [List.length_map,hlen]
 have g:=loop118 l hl n hn hp l 0 (List.replicate n 0) rfl (by omega) (List.length_replicate ..)
 have hb0:bys (List.replicate n 0)=List.replicate n [vb 0]:=by simp [bys]
 rw [hb0] at g
 refine(f77 _ _).trans ((goY (by omega) _ _).trans ((goY (Int.le_refl _) _ _).trans ((goY (show Int.mul 1 n≤_ by show(1:Int)*n≤_;omega) _ _).trans ?_)))
 rw [Int.toNat_natCast,ints_len,List.length_map]
 refine(congrArg (fun o=>Ω o _) g).trans ?_
 show(Ω (chkLe (Nat.add 0 n) (bys (l.foldl putB (List.replicate n 0))).length) fun _=>some (Out.ret (.list 0 1 (List.drop 0 (List.take (Nat.add 0 n) (bys (l.foldl putB (List.replicate n 0)))))),[]))=_
 rw [show Nat.add 0 n=n from Nat.zero_add n]
 refine(goLe (Nat.le_of_eq hbl.symm) _).trans ?_
 rw [List.take_of_length_le (Nat.le_of_eq hbl)]
 rfl
end
section
def addB (o:List Int) (p:Nat):List Int:=o.set (p/8) (ω .u8 (o.getD (p/8) 0+ishl .u8 1 ((p%8:Nat):Int)))
theorem addB_len (o:List Int) (p:Nat):(addB o p).length=o.length:=by simp [addB]
def stB (l:List Int) (m:Int) (o:List Int) (x:Nat):List Int:=bif decide ((x:Int)=m)||decide ((x:Int)∈l) then addB o x else o
theorem stB_len (l:List Int) (m:Int) (o:List Int) (x:Nat):(stB l m o x).length=o.length:=by
 unfold stB;cases (decide ((x:Int)=m)||decide ((x:Int)∈l))<;>simp [addB_len]
def runB (l:List Int) (m:Int):Nat→Nat→List Int→List Int
 | 0,_,o=>o
 |d+1,x,o=>runB l m d (x+1) (stB l m o x)
theorem loop120 (c m:Int) (l:List Int) (hl:l.length≤4000000) (n:Nat) (hn:n≤1000000):∀(d x:Nat) (o:List Int),x+d=8*n→o.length=n →
  E cx (Key.loop 58 [true,true,false,true,false]) [vi x,vi n,vi m,.ptr 0 0 0 0,.arr 1 1 0 n] [bB c l,⟨.arr,5,1,1,bys o⟩]=some (Out.jump (.exit 0) [vi (8*n:Nat)],[bB c l,⟨.arr,5,1,1,bys (runB l m d x o)⟩])
 | 0,x,o,hx,ho=>by
  have hw:ω .i64 (Int.mul 8 (n:Int))=((8*n:Nat):Int):=by
   rw [show Int.mul 8 (n:Int)=((8*n:Nat):Int) from rfl];exact wr_id (by omega) (by omega)
  have:x=8*n:=by omega
  subst this
  refine(f58_l0 _ _ _ _ _ _ _).trans ?_
  rw [hw]
  exact goDn (by omega) _ _
 |d+1,x,o,hx,ho=>by
  have hw:ω .i64 (Int.mul 8 (n:Int))=((8*n:Nat):Int):=by
   rw [show Int.mul 8 (n:Int)=((8*n:Nat):Int) from rfl];exact wr_id (by omega) (by omega)
  have hw2:ω .i64 (Int.tdiv (x:Int) 8)=((x/8:Nat):Int):=by
   rw [show Int.tdiv (x:Int) 8=((x/8:Nat):Int) from rfl];exact wr_id (by omega) (by omega)
  have ih:=loop120 c m l hl n hn d (x+1) (stB l m o x) (by omega) ((stB_len _ _ _ _).trans ho)
  have hk:x/8<o.length:=by omega
  have hq:q120_l0_0 x n (bys o) n m c (ints l)=E cx (Key.loop 58 [true,true,false,true,false]) [vi (x+1:Nat),vi n,vi m,.ptr 0 0 0 0,.arr 1 1 0 n] [bB c l,⟨.arr,5,1,1,bys (addB o x)⟩]:=by
   unfold q120_l0_0
   rw [hw2,Int.toNat_natCast,show Nat.add 0 (x/8)=x/8 from Nat.zero_add _,show Int.tmod (x:Int) 8=((x%8:Nat):Int) from rfl,wS (by omega)]
   refine(goY (by omega) _ _).trans ((goY (by omega) _ _).trans ((goNb hk _).trans ((goN (show ¬(((x%8:Nat):Int)<0) by omega) _ _).trans ((goY (by omega) _ _).trans ((goY (by omega) _ _).trans ((goNb hk _).trans ?_))))))
   simp [addB,bys,List.map_set,bB]
  refine(f58_l0 _ _ _ _ _ _ _).trans ?_
  rw [hw]
  refine(goD (by omega) _ _).trans ?_
  unfold runB
  refine Eq.trans ?_ ih
  by_cases h1:(x:Int)=m
  ·refine(goD h1 _ _).trans (hq.trans ?_)
   unfold stB
   rw [decide_eq_true h1];rfl
  ·refine(goDn h1 _ _).trans ((goB (c122 c x l hl) _).trans ?_)
   unfold stB
   rw [decide_eq_false h1,Bool.false_or]
   cases decide ((x:Int)∈l) with
   |true=>exact hq
   |false=>rw [wS (by omega)];rfl
end
section
theorem runB_len (l:List Int) (m:Int):∀(d x:Nat) (o:List Int),(runB l m d x o).length=o.length
 | 0,_,_=>rfl
 |d+1,x,o=>by unfold runB;rw [runB_len l m d,stB_len]
theorem numsOf_bys:∀o:List Int,numsOf (bys o)=some o
 | []=>rfl
 |b::o=>by
  show(Ω (numsOf (bys o)) fun ns=>some (b::ns))=_
  rw [numsOf_bys o];rfl
theorem c120 (c m:Int) (l:List Int) (hl:l.length≤4000000) (n:Nat) (hn:n≤1000000):E cx (Key.fn 58) [bA c l,vi n,vi m] []=some (Out.ret (vs (Go.strOfNums (runB l m (8*n) 0 (List.replicate n 0)))),[]):=by
 have hlen:(runB l m (8*n) 0 (List.replicate n 0)).length=n:=by rw [runB_len,List.length_replicate]
 have hbl:(bys (runB l m (8*n) 0 (List.replicate n 0))).length=n:=by rw [List.length_map,hlen]
 have g:=loop120 c m l hl n hn (8*n) 0 (List.replicate n 0) (by omega) (List.length_replicate ..)
 have hb0:bys (List.replicate n 0)=List.replicate n [vb 0]:=by simp [bys]
 rw [hb0] at g
 refine(f58 _ _ _ _).trans ((goY (by omega) _ _).trans ((goY (Int.le_refl _) _ _).trans ((goY (show Int.mul 1 n≤_ by show(1:Int)*n≤_;omega) _ _).trans ?_)))
 rw [Int.toNat_natCast]
 refine(congrArg (fun o=>Ω o _) g).trans ?_
 show(Ω (Ω (chkLe (0+n) (bys (runB l m (8*n) 0 (List.replicate n 0))).length) fun _=>some (List.drop 0 (List.take (0+n) (bys (runB l m (8*n) 0 (List.replicate n 0)))))) fun ys=>(numsOf ys).bind fun ns=>some (Out.ret (vs (Go.strOfNums ns)),([]:Heap)))=_
 rw [Nat.zero_add,show chkLe n (bys (runB l m (8*n) 0 (List.replicate n 0))).length=some () from if_pos (Nat.le_of_eq hbl.symm),Option.bind_some,Option.bind_some,List.take_of_length_le (Nat.le_of_eq hbl),List.drop_zero,numsOf_bys]
 rfl
end
section
theorem c57_t (c:Nat) (hc:c≤4000000) (l:List Int) (hl:l.length≤4000000) (h:rightB c l=true):E cx (Key.fn 30) [bA c l] []=some (Out.ret (.tuple [vs (Go.strOfNums (runB l c (8*(c/8+1)) 0 (List.replicate (c/8+1) 0))),vi 0]),[]):=by
 refine(f30 _ _).trans ((goB (c61 c l hl) _).trans ?_)
 rw [h,show Int.tdiv (c:Int) 8=((c/8:Nat):Int) from rfl,wr_id (n:=((c/8:Nat):Int)) (by omega) (by omega),wS (by omega)]
 exact(congrArg (fun o=>Ω o _) (c120 c c l hl (c/8+1) (by omega))).trans rfl
theorem c57_f (c:Int) (l:List Int) (hl:l.length≤4000000) (h:rightB c l=false):E cx (Key.fn 30) [bA c l] []=some (Out.ret (.tuple [vs (ByteArray.mk (Array.mk [])),vi 1]),[]):=by
 refine(f30 _ _).trans ((goB (c61 c l hl) _).trans ?_)
 rw [h];rfl
end
section
theorem c55_q0 (x N m:Int) (c:Nat) (o:List (List AV)) (raw:List Int) (i:Nat) (hi:i<40):q55_l0_l1_0 i (ints raw) x m N c o=E cx (Key.loop 26 [true,true,false,true,false,false,true,false,false,true,false,true,false]) [vbool true,vi (i+1:Nat),.list 0 1 (ints raw),.ptr 0 0 0 0,.ptr 1 0 0 0,vi x] [b0 m,⟨.box,27,2,0,[[vi N,.arr 2 1 0 c]]⟩,⟨.arr,3,1,1,o⟩]:=by
 unfold q55_l0_l1_0
 rw [wS (by omega)]
theorem loop55b (x N m:Int) (hN:0<N) (c:Nat) (o:List (List AV)) (raw:List Int) (hr:∀r∈raw,RI r):∀(rest:List Int) (i:Nat) (b:Bool),(raw.take 40).drop i=rest→i+rest.length=(raw.take 40).length →
  ∃i':Nat,E cx (Key.loop 26 [true,true,false,true,false,false,true,false,false,true,false,true,false]) [vbool b,vi i,.list 0 1 (ints raw),.ptr 0 0 0 0,.ptr 1 0 0 0,vi x] [b0 m,⟨.box,27,2,0,[[vi N,.arr 2 1 0 c]]⟩,⟨.arr,3,1,1,o⟩] =
   some (Out.jump (.exit 2) [vbool (b||rest.any fun r=>decide (pickI r N=x)),vi i'],[b0 m,⟨.box,27,2,0,[[vi N,.arr 2 1 0 c]]⟩,⟨.arr,3,1,1,o⟩])
 | [], i, b, hd, hi => ⟨i, by
   simp only [List.length_nil,Nat.add_zero,List.length_take] at hi
   rw [List.any_nil,Bool.or_false]
   refine(f26_l0_l1 _ _ _ _ _ _ _ _).trans ?_
   by_cases h:(i:Int)<((ints raw).length:Int)
   ·rw [ints_len] at h
    exact(goD (by rw [ints_len];exact h) _ _).trans ((goDn (by omega) _ _).trans rfl)
   ·exact(goDn h _ _).trans rfl⟩
 |r::rest,i,b,hd,hi=>by
  obtain⟨hp,hd',hlt⟩:=drop_cons' hd
  simp only [List.length_cons,List.length_take] at hi
  have h40:i<40:=by omega
  have hp':raw[i]?=some r:=by
   rw [List.getElem?_take] at hp
   rwa [if_pos h40] at hp
  have hlr:i<raw.length:=(γ.1 hp').1
  obtain⟨i',h⟩:=loop55b x N m hN c o raw hr rest (i+1) (b||decide (pickI r N=x)) hd' (by rw [List.length_take];omega)
  refine⟨i',(f26_l0_l1 _ _ _ _ _ _ _ _).trans ((goD (by rw [ints_len];omega) _ _).trans ((goD (by omega) _ _).trans ?_))⟩
  rw [List.any_cons,←Bool.or_assoc,←h]
  cases b with
  |true =>
   show q55_l0_l1_0 i (ints raw) x m N c (o)=_
   exact(c55_q0 x N m c o raw i h40).trans rfl
  |false =>
   refine(goD rfl _ _).trans ((goD rfl _ _).trans ((goD rfl _ _).trans ((goY (show 0≤(i:Int) by omega) _ _).trans ((go1 (n:=i) rfl hp' _).trans ((goD rfl _ _).trans ((goD rfl _ _).trans ((goD rfl _ _).trans ((goD rfl _ _).trans ((goI (c64 (hr r (List.mem_of_getElem? hp')) hN) _).trans ((goD rfl _ _).trans ?_))))))))))
   unfold q55_l0_l1_2
   refine(goD rfl _ _).trans ?_
   rw [Bool.false_or]
   cases hx:decide (pickI r N=x) with
   |true =>
    rw [cond_true,cond_false]
    exact c55_q0 x N m c o raw i h40
   |false =>
    rw [cond_false,cond_false]
    show E cx (Key.loop 26 [true,true,false,true,false,false,true,false,false,true,false,true,false]) [vbool false,vi (ω .i64 (Int.add i 1)),.list 0 1 (ints raw),.ptr 0 0 0 0,.ptr 1 0 0 0,vi x] [b0 m,⟨.box,27,2,0,[[vi N,.arr 2 1 0 c]]⟩,⟨.arr,3,1,1,o⟩]=_
    rw [wS (by omega)]
def rwD (raw:List Int) (N x:Int):Nat→List Int
 | 0=>[]
 |d+1=>(bif (raw.take 40).any fun r=>decide (pickI r N=x) then [x] else [])++rwD raw N (x+1) d
theorem loop55 (N m:Int) (hN:0<N) (hN2:N≤2048) (raw:List Int) (hr:∀r∈raw,RI r):∀(d:Nat) (x:Int) (o:List Int),x+d=N→0≤x→(o.length:Int)≤x →
  E cx (Key.loop 26 [true,true,false,true,false]) [vi x,.list 0 1 (ints raw),.ptr 0 0 0 0,.ptr 1 0 0 0] [b0 m,⟨.box,27,2,0,[[vi N,.arr 2 1 0 o.length]]⟩,⟨.arr,3,1,1,ints o⟩] =
   some (Out.jump (.exit 0) [vi N],[b0 m,⟨.box,27,2,0,[[vi N,.arr 2 1 0 (o++rwD raw N x d).length]]⟩,⟨.arr,3,1,1,ints (o++rwD raw N x d)⟩])
 | 0,x,o,hx,h0,ho=>by
  have:x=N:=by omega
  subst this
  unfold rwD
  rw [List.append_nil]
  exact(f26_l0 _ _ _ _ _ _).trans (goDn (by omega) _ _)
 |d+1,x,o,hx,h0,ho=>by
  obtain⟨i',g⟩:=loop55b x N m hN o.length (ints o) raw hr (raw.take 40) 0 false rfl (by omega)
  rw [Bool.false_or] at g
  refine(f26_l0 _ _ _ _ _ _).trans ((goD (by omega) _ _).trans ((goD (by omega) _ _).trans ((congrArg (fun o=>Ω o _) g).trans ?_)))
  unfold rwD
  cases hc:(raw.take 40).any fun r=>decide (pickI r N=x) with
  |true =>
   have e:=loop55 N m hN hN2 raw hr d (x+1) (o++[x]) (by omega) (by omega) (by simp;omega)
   have hw:ω .i64 (Int.add x 1)=x+1:=wr_add (by omega) (by omega)
   show(Ω (chk o.length (ints o).length) fun _=>if Nat.mul (Nat.add (ints o).length 1) 8≤140737488355328 then
    E cx (Key.loop 26 [true,true,false,true,false]) [vi (ω .i64 (Int.add x 1)),.list 0 1 (ints raw),.ptr 0 0 0 0,.ptr 1 0 0 0] [b0 m,⟨.box,27,2,0,[[vi N,.arr 2 1 0 (Nat.add (ints o).length 1)]]⟩,⟨.arr,3,1,1,ints o++[[vi x]]⟩] else none)=_
   rw [hw]
   have hla:Nat.add (ints o).length 1=(o++[x]).length:=by rw [ints_len,List.length_append];rfl
   have happ:ints o++[[vi x]]=ints (o++[x]):=by simp [ints]
   rw [hla,happ]
   refine(goCk (ints_len o).symm _).trans ((goY (by rw [List.length_append];show(o.length+1)*8≤_;omega) _ _).trans (e.trans ?_))
   simp [List.append_assoc]
  |false =>
   have e:=loop55 N m hN hN2 raw hr d (x+1) o (by omega) (by omega) (by omega)
   have hw:ω .i64 (Int.add x 1)=x+1:=wr_add (by omega) (by omega)
   show E cx (Key.loop 26 [true,true,false,true,false]) [vi (ω .i64 (Int.add x 1)),.list 0 1 (ints raw),.ptr 0 0 0 0,.ptr 1 0 0 0] [b0 m,⟨.box,27,2,0,[[vi N,.arr 2 1 0 o.length]]⟩,⟨.arr,3,1,1,ints o⟩]=_
   rw [hw]
   exact e.trans (by simp)
def rawL (N:Int) (raw:List Int):List Int:=rwD raw N 0 N.toNat
theorem c55 {n below:Int}{raw:List Int}(hn:RI n) (hb:0<below) (hb2:below≤2048) (hr:∀r∈raw,RI r):E cx (Key.fn 26) [vi n,vi below,.list 0 1 (ints raw)] []=some (Out.ret (bA (pickI n below) (rawL (pickI n below) raw)),[]):=by
 have hp:=pickI_lt (c:=n) hb
 refine(f26 _ _ _).trans ((goI (c64 hn hb) _).trans ?_)
 have key:E cx (Key.loop 26 [true,true,false,true,false]) [vi 0,.list 0 1 (ints raw),.ptr 0 0 0 0,.ptr 1 0 0 0] [b0 0,⟨.box,27,2,0,[[vi (pickI n below),.arr 2 1 0 0]]⟩,⟨.arr,3,1,1,[]⟩] =
   some (Out.jump (.exit 0) [vi (pickI n below)],[b0 0,⟨.box,27,2,0,[[vi (pickI n below),.arr 2 1 0 (rawL (pickI n below) raw).length]]⟩,⟨.arr,3,1,1,ints (rawL (pickI n below) raw)⟩]):=by
  by_cases h0:pickI n below=0
  ·rw [h0]
   exact(f26_l0 _ _ _ _ _ _).trans (goDn (by omega) _ _)
  ·exact loop55 (pickI n below) 0 (by omega) (by omega) raw hr (pickI n below).toNat 0 [] (by omega) (by omega) (by simp)
 refine(congrArg (fun o=>Ω o _) key).trans ?_
 have hz:Nat.add 0 (rawL (pickI n below) raw).length=(ints (rawL (pickI n below) raw)).length:=by rw [ints_len];exact Nat.zero_add _
 show(Ω (chkLe (Nat.add 0 (rawL (pickI n below) raw).length) (ints (rawL (pickI n below) raw)).length) fun _=>some (Out.ret (.agg [vi (pickI n below),.list 0 1 (List.drop 0 (List.take (Nat.add 0 (rawL (pickI n below) raw).length) (ints (rawL (pickI n below) raw))))]),[]))=_
 rw [hz]
 refine(goLe (Nat.le_refl _) _).trans ?_
 rw [List.take_length]
 rfl
theorem rwD_mem (raw:List Int) (N:Int):∀(d:Nat) (x y:Int),y∈rwD raw N x d↔(x≤y∧y<x+d∧∃r∈raw.take 40,pickI r N=y)
 | 0,x,y=>by simp [rwD];intro _ _;omega
 |d+1,x,y=>by
  simp only [rwD,List.mem_append,rwD_mem raw N d (x+1) y]
  constructor
  ·rintro(h |⟨h1,h2,h3⟩)
   ·cases hc:(raw.take 40).any fun r=>decide (pickI r N=x) with
    |false=>rw [hc] at h;cases h
    |true =>
     rw [hc] at h
     simp at h
     subst h
     obtain⟨r,hr,he⟩:=List.any_eq_true.1 hc
     exact⟨by omega,by omega,r,hr,of_decide_eq_true he⟩
   ·exact⟨by omega,by omega,h3⟩
  ·rintro⟨h1,h2,r,h3,h4⟩
   by_cases hxy:x=y
   ·subst hxy
    have:((raw.take 40).any fun r=>decide (pickI r N=x))=true:=List.any_eq_true.2 ⟨r,h3,decide_eq_true h4⟩
    rw [this]
    exact .inl (by simp)
   ·exact .inr ⟨by omega,by omega,r,h3,h4⟩
theorem rwD_sorted (raw:List Int) (N:Int):∀(d:Nat) (x:Int),(rwD raw N x d).Pairwise (· < ·)
 | 0,x => .nil
 |d+1,x=>by
  unfold rwD
  refine List.pairwise_append.2 ⟨?_,rwD_sorted raw N d (x+1),fun a ha b hb=> ?_⟩
  ·cases (raw.take 40).any fun r=>decide (pickI r N=x)<;>simp
  ·have h2:=(rwD_mem raw N d (x+1) b).1 hb
   cases hc:(raw.take 40).any fun r=>decide (pickI r N=x) with
   |false=>rw [hc] at ha;cases ha
   |true=>rw [hc] at ha;simp at ha;omega
theorem rawL_mem {N:Int}(hN:0<N) {raw:List Int}{y:Int}:y∈rawL N raw↔∃r∈raw.take 40,pickI r N=y:=by
 unfold rawL
 rw [rwD_mem]
 constructor
 ·exact fun⟨_,_,h⟩=>h
 ·rintro⟨r,h1,h2⟩
  have:=pickI_lt (c:=r) hN
  exact⟨by omega,by omega,r,h1,h2⟩
theorem rawL_lt {N:Int}{raw:List Int}{y:Int}(hy:y∈rawL N raw):0≤y∧y<N:=by
 obtain⟨h1,h2,_⟩:=(rwD_mem raw N _ _ y).1 hy
 exact⟨h1,by omega⟩
theorem rawL_sorted (N:Int) (raw:List Int):(rawL N raw).Pairwise (· < ·):=rwD_sorted _ _ _ _
end
section
def byN (Q:Nat→Bool):Nat→Nat
 | 0=>0
 |j+1=>byN Q j+(bif Q j then 2 ^ j else 0)
theorem byN_lt (Q:Nat→Bool):∀n,byN Q n<2 ^ n
 | 0=>by simp [byN]
 |n+1=>by
  have:=byN_lt Q n
  unfold byN
  rw [Nat.pow_succ]
  cases Q n<;>simp<;>omega
theorem byN_congr {Q Q':Nat→Bool}:∀ {n:Nat},(∀j<n,Q j=Q' j)→byN Q n=byN Q' n
 | 0,_=>rfl
 |n+1,h=>by
  unfold byN
  rw [byN_congr (n:=n) fun j hj=>h j (by omega),h n (by omega)]
theorem byN_test (Q:Nat→Bool):∀(n j:Nat),(byN Q n).testBit j=(decide (j<n)&&Q j)
 | 0,j=>by simp [byN]
 |n+1,j=>by
  have hlt:=byN_lt Q n
  have ih:=byN_test Q n
  unfold byN
  cases hq:Q n with
  |false =>
   simp only [cond_false,Nat.add_zero,ih]
   by_cases h:j=n
   ·subst h;simp [hq]
   ·have:(j<n+1)↔(j<n):=by omega
    simp [this]
  |true =>
   simp only [cond_true]
   rw [Nat.add_comm]
   rcases Nat.lt_trichotomy j n with h |h |h
   ·rw [Nat.testBit_two_pow_add_gt h,ih]
    have:j<n+1:=by omega
    simp [h,this]
   ·subst h
    rw [Nat.testBit_two_pow_add_eq,ih]
    simp [hq]
   ·have:¬j<n+1:=by omega
    rw [Nat.testBit_lt_two_pow]
    ·simp [this]
    ·have:2 ^ (n+1)≤2 ^ j:=Nat.pow_le_pow_right (by omega) (by omega)
     rw [Nat.pow_succ] at this
     omega
theorem byN_self (a:Nat):∀n,a<2 ^ n→byN a.testBit n=a:=fun n h=>Nat.eq_of_testBit_eq fun j=>by
 rw [byN_test]
 by_cases hj:j<n
 ·simp [hj]
 ·have:a<2 ^ j:=Nat.lt_of_lt_of_le h (Nat.pow_le_pow_right (by omega) (by omega))
  simp [hj,Nat.testBit_lt_two_pow this]
theorem byN_or (Q:Nat→Bool) (i:Nat) (n:Nat) (hi:i<n):byN Q n |||2 ^ i=byN (fun j=>Q j||decide (j=i)) n:=Nat.eq_of_testBit_eq fun j=>by
 rw [Nat.testBit_or,byN_test,byN_test,Nat.testBit_two_pow]
 by_cases h:j=i
 ·subst h;simp [hi]
 ·have:¬i=j:=fun e=>h e.symm
  simp [h,this]
theorem byN_add (Q:Nat→Bool) (i:Nat) (hq:Q i=false):∀n,byN (fun j=>Q j||decide (j=i)) n=byN Q n+(if i<n then 2 ^ i else 0)
 | 0=>by simp [byN]
 |n+1=>by
  unfold byN
  rw [byN_add Q i hq n]
  rcases Nat.lt_trichotomy i n with h |h |h
  ·have h1:¬n=i:=by omega
   have h2:i<n+1:=by omega
   simp [h,h1,h2]
   omega
  ·subst h
   simp [hq]
  ·have h1:¬n=i:=by omega
   have h2:¬i<n+1:=by omega
   have h3:¬i<n:=by omega
   simp [h1,h2,h3]
theorem ofInt_nat (a:Nat):BitVec.ofInt 8 (a:Int)=BitVec.ofNat 8 a:=by
 apply BitVec.eq_of_toNat_eq
 simp []
theorem ior_nat {a b:Nat}(ha:a<256) (hb:b<256):ior .u8 (a:Int) (b:Int)=((a |||b:Nat):Int):=by
 have hab:a |||b<2 ^ 8:=Nat.or_lt_two_pow ha hb
 unfold ior
 rw [show IntKind.bits .u8=8 from rfl,ofInt_nat,ofInt_nat,BitVec.toNat_or,BitVec.toNat_ofNat,BitVec.toNat_ofNat,w8,Nat.mod_eq_of_lt (a:=a) (by omega),Nat.mod_eq_of_lt (a:=b) (by omega)]
 omega
theorem ishl_one {i:Nat}(hi:i<8):ishl .u8 1 (i:Int)=((2 ^ i:Nat):Int):=by
 unfold ishl
 rw [Int.toNat_natCast,show IntKind.bits .u8=8 from rfl,Nat.min_eq_left (by omega),w8]
 have:2 ^ i<2 ^ 8:=Nat.pow_lt_pow_right (by omega) hi
 have e:(1:Int)*2 ^ i=((2 ^ i:Nat):Int):=by simp
 rw [e]
 have h2:2 ^ i<256:=this
 generalize 2 ^ i=y at h2 ⊢
 omega
def tabB (n:Nat) (P:Nat→Bool):List Int:=(List.range n).map fun k=>((byN (fun j=>P (8*k+j)) 8:Nat):Int)
theorem tabB_len (n:Nat) (P:Nat→Bool):(tabB n P).length=n:=by simp [tabB]
theorem tabB_get {n:Nat}{P:Nat→Bool}{k:Nat}(hk:k<n):(tabB n P)[k]?=some ((byN (fun j=>P (8*k+j)) 8:Nat):Int):=by
 simp [tabB,hk]
theorem tabB_getD {n:Nat}{P:Nat→Bool}{k:Nat}(hk:k<n):(tabB n P).getD k 0=((byN (fun j=>P (8*k+j)) 8:Nat):Int):=by
 rw [List.getD_eq_getElem?_getD,tabB_get hk];rfl
theorem tabB_congr {n:Nat}{P P':Nat→Bool}(h:∀i<8*n,P i=P' i):tabB n P=tabB n P':=by
 unfold tabB
 apply List.map_congr_left
 intro k hk
 rw [List.mem_range] at hk
 rw [byN_congr fun j hj=>h (8*k+j) (by omega)]
theorem tabB_zero (n:Nat):List.replicate n (0:Int)=tabB n fun _=>false:=by
 apply List.ext_getElem?
 intro k
 by_cases hk:k<n
 ·rw [tabB_get hk,List.getElem?_replicate,if_pos hk]
  rfl
 ·rw [List.getElem?_eq_none (by simp;omega),List.getElem?_eq_none (by rw [tabB_len];omega)]
theorem tabB_set {n:Nat}{P:Nat→Bool}{p:Nat}(_hp:p<8*n) {x:Int}(hx:x=((byN (fun j=>P (8*(p/8)+j)||decide (j=p%8)) 8:Nat):Int)):(tabB n P).set (p/8) x=tabB n fun y=>P y||decide (y=p):=by
 apply List.ext_getElem?
 intro k
 rw [List.getElem?_set]
 by_cases hk:k<n
 ·rw [tabB_get hk,tabB_get hk,tabB_len]
  by_cases h:p/8=k
  ·subst h
   rw [if_pos rfl,if_pos hk,hx]
   congr 2
   apply byN_congr
   intro j hj
   have:(8*(p/8)+j=p)↔(j=p%8):=by omega
   simp [this]
  ·rw [if_neg h]
   congr 2
   apply byN_congr
   intro j hj
   have:¬(8*k+j=p):=by omega
   simp [this]
 ·rw [List.getElem?_eq_none (l:=tabB n P) (by rw [tabB_len];omega),List.getElem?_eq_none (l:=tabB n _) (by rw [tabB_len];omega)]
  split
  ·rw [if_neg (by rw [tabB_len];omega)]
  ·rfl
theorem put_tab {n:Nat}{P:Nat→Bool}{p:Nat}(hp:p<8*n):putB (tabB n P) p=tabB n fun y=>P y||decide (y=p):=by
 unfold putB
 refine tabB_set hp ?_
 rw [tabB_getD (by omega),ishl_one (by omega),ior_nat (byN_lt _ 8) (show 2 ^ (p%8)<2 ^ 8 from Nat.pow_lt_pow_right (by omega) (by omega)),byN_or _ _ _ (by omega)]
theorem add_tab {n:Nat}{P:Nat→Bool}{p:Nat}(hp:p<8*n) (hP:P p=false):addB (tabB n P) p=tabB n fun y=>P y||decide (y=p):=by
 unfold addB
 refine tabB_set hp ?_
 have h0:P (8*(p/8)+p%8)=false:=by rw [show 8*(p/8)+p%8=p by omega];exact hP
 have e:=byN_add (fun j=>P (8*(p/8)+j)) (p%8) h0 8
 have hlt:=byN_lt (fun j=>P (8*(p/8)+j)||decide (j=p%8)) 8
 rw [if_pos (by omega)] at e
 rw [tabB_getD (by omega),ishl_one (by omega),w8,e]
 rw [e] at hlt
 omega
theorem fold_tab (n:Nat):∀(l:List Nat) (P:Nat→Bool),(∀p∈l,p<8*n)→l.foldl putB (tabB n P)=tabB n fun y=>P y||decide (y∈l)
 | [],P,_=>by simp
 |p::l,P,h=>by
  rw [List.foldl_cons,put_tab (h p (List.mem_cons_self ..)),fold_tab n l _ fun q hq=>h q (List.mem_cons_of_mem _ hq)]
  congr 1
  funext y
  by_cases h1:y=p<;>simp [h1]
theorem fold_zero (n:Nat) (l:List Nat) (h:∀p∈l,p<8*n):l.foldl putB (List.replicate n 0)=tabB n fun y=>decide (y∈l):=by
 rw [tabB_zero,fold_tab n l _ h]
 simp
theorem run_tab (l:List Int) (m:Int) (n:Nat):∀(d x:Nat),x+d=8*n →
  runB l m d x (tabB n fun y=>decide (y<x)&&(decide ((y:Int)=m)||decide ((y:Int)∈l)))=tabB n fun y=>decide ((y:Int)=m)||decide ((y:Int)∈l)
 | 0,x,hx=>by
  unfold runB
  apply tabB_congr
  intro i hi
  have:i<x:=by omega
  simp [this]
 |d+1,x,hx=>by
  unfold runB
  rw [←run_tab l m n d (x+1) (by omega)]
  congr 1
  unfold stB
  cases h:decide ((x:Int)=m)||decide ((x:Int)∈l) with
  |true =>
   rw [cond_true,add_tab (by omega) (by simp)]
   congr 1
   funext y
   rcases Nat.lt_trichotomy y x with h1 |h1 |h1
   ·have h2:y<x+1:=by omega
    have h3:¬y=x:=by omega
    simp [h1,h2,h3]
   ·subst h1
    simp only [Nat.lt_irrefl,decide_false,Bool.false_and,Bool.false_or,decide_true,Nat.lt_add_one,Bool.true_and]
    exact h.symm
   ·have h2:¬y<x+1:=by omega
    have h3:¬y=x:=by omega
    have h4:¬y<x:=by omega
    simp [h2,h3,h4]
  |false =>
   rw [cond_false]
   congr 1
   funext y
   rcases Nat.lt_trichotomy y x with h1 |h1 |h1
   ·have h2:y<x+1:=by omega
    simp [h1,h2]
   ·subst h1
    simp only [Nat.lt_irrefl,decide_false,Bool.false_and,Nat.lt_add_one,decide_true,Bool.true_and]
    exact h.symm
   ·have h2:¬y<x+1:=by omega
    have h4:¬y<x:=by omega
    simp [h2,h4]
theorem run_zero (l:List Int) (m:Int) (n:Nat):runB l m (8*n) 0 (List.replicate n 0)=tabB n fun y=>decide ((y:Int)=m)||decide ((y:Int)∈l):=by
 rw [tabB_zero,←run_tab l m n (8*n) 0 (by omega)]
 congr 1
def txB (n:Nat) (P:Nat→Bool):B:=(List.range n).map fun k=>β (byN (fun j=>P (8*k+j)) 8)
theorem txB_len (n:Nat) (P:Nat→Bool):(txB n P).length=n:=by simp [txB]
theorem txB_get {n:Nat}{P:Nat→Bool}{k:Nat}(hk:k<n):(txB n P)[k]?=some (β (byN (fun j=>P (8*k+j)) 8)):=by
 simp [txB,hk]
theorem str_tab (n:Nat) (P:Nat→Bool):Go.strOfNums (tabB n P)=mk (txB n P):=by
 unfold Go.strOfNums tabB txB
 rw [List.map_map]
 rfl
theorem txB_congr {n:Nat}{P P':Nat→Bool}(h:∀i<8*n,P i=P' i):txB n P=txB n P':=by
 unfold txB
 apply List.map_congr_left
 intro k hk
 rw [List.mem_range] at hk
 rw [byN_congr fun j hj=>h (8*k+j) (by omega)]
def bitT (t:B) (i:Nat):Bool:=(t.getD (i/8) 0).toNat.testBit (i%8)
theorem bitT_tx {n:Nat}{P:Nat→Bool}{i:Nat}(hi:i<8*n):bitT (txB n P) i=P i:=by
 unfold bitT
 rw [List.getD_eq_getElem?_getD,txB_get (k:=i/8) (by omega),Option.getD_some,UInt8.toNat_ofNat',Nat.mod_eq_of_lt (byN_lt _ 8),byN_test]
 rw [show 8*(i/8)+i%8=i by omega]
 have:i%8<8:=by omega
 simp [this]
theorem tx_bits (t:B):txB t.length (bitT t)=t:=by
 apply List.ext_getElem?
 intro k
 by_cases hk:k<t.length
 ·rw [txB_get hk,η hk]
  congr 1
  have hb:t[k].toNat<2 ^ 8:=t[k].toNat_lt
  have e:byN (fun j=>bitT t (8*k+j)) 8=t[k].toNat:=by
   rw [←byN_self t[k].toNat 8 hb]
   apply byN_congr
   intro j hj
   unfold bitT
   rw [show(8*k+j)/8=k by omega,show(8*k+j)%8=j by omega,List.getD_eq_getElem?_getD,η hk]
   rfl
  rw [e]
  exact UInt8.ofNat_toNat
 ·rw [List.getElem?_eq_none (by rw [txB_len];omega),List.getElem?_eq_none (by omega)]
theorem bitT_ge {t:B}{i:Nat}(h:8*t.length≤i):bitT t i=false:=by
 unfold bitT
 rw [List.getD_eq_getElem?_getD,List.getElem?_eq_none (by omega)]
 simp
theorem t_eq {t t':B}(hl:t.length=t'.length) (h:∀i<8*t.length,bitT t i=bitT t' i):t=t':=by
 rw [←tx_bits t,←tx_bits t',←hl]
 exact txB_congr h
theorem bitS_mk (t:B) (i:Nat):bitS (mk t) i=bitT t i:=by
 unfold bitS bitT
 rw [get_mk,List.getD_eq_getElem?_getD]
 have hb:((t[i/8]?).getD 0).toNat<256:=((t[i/8]?).getD 0).toNat_lt
 generalize ((t[i/8]?).getD 0).toNat=a at hb
 rw [Nat.testBit_eq_decide_div_mod_eq]
 have e1:((a:Int)/2 ^ (i%8))=((a/2 ^ (i%8):Nat):Int):=by simp
 rw [e1]
 generalize hc:a/2 ^ (i%8)=c
 have hc2:c<256:=by rw [←hc];exact Nat.lt_of_le_of_lt (Nat.div_le_self ..) hb
 have e2:bits .and .u8 (c:Int) 1=((c%2:Nat):Int):=by
  unfold bits
  show ω .u8 (((BitVec.ofInt 8 (c:Int) &&&BitVec.ofInt 8 1).toNat:Nat):Int)=_
  rw [ofInt_nat,show((1:Int))=((1:Nat):Int) from rfl,ofInt_nat,BitVec.toNat_and,BitVec.toNat_ofNat,BitVec.toNat_ofNat,w8,Nat.mod_eq_of_lt (a:=c) (by omega),Nat.mod_eq_of_lt (a:=1) (by omega),Nat.and_one_is_mod]
  omega
 rw [e2]
 congr 1
 apply propext
 omega
def onT (t:B) (k:Nat):List Nat:=(List.range k).filter (bitT t)
theorem onS_mk (t:B) (k:Nat):onS (mk t) k=(onT t k).map Int.ofNat:=by
 unfold onS onT
 rw [show bitS (mk t)=bitT t from funext (bitS_mk t)]
 rfl
theorem onT_mem {t:B}{k i:Nat}:i∈onT t k↔i<k∧bitT t i=true:=by simp [onT]
theorem onT_sorted (t:B) (k:Nat):(onT t k).Pairwise (· < ·):=List.Pairwise.filter _ List.pairwise_lt_range
theorem onT_succ (t:B) (k:Nat):onT t (k+1)=onT t k++(bif bitT t k then [k] else []):=by
 unfold onT
 rw [List.range_succ,List.filter_append]
 cases h:bitT t k<;>simp [h]
theorem sorted_ext {α:Type}{lt:α→α→Prop}(irr:∀a,¬lt a a) (tr:∀a b c,lt a b→lt b c→lt a c):∀ {l l':List α},l.Pairwise lt→l'.Pairwise lt→(∀x,x∈l↔x∈l')→l=l'
 | [],[],_,_,_=>rfl
 | [],b::l',_,_,h=>by have:=(h b).2 (List.mem_cons_self ..);cases this
 |a::l,[],_,_,h=>by have:=(h a).1 (List.mem_cons_self ..);cases this
 |a::l,b::l',h1,h2,h=>by
  rw [List.pairwise_cons] at h1 h2
  have hab:a=b:=by
   rcases List.mem_cons.1 ((h a).1 (List.mem_cons_self ..)) with e |e
   ·exact e
   ·rcases List.mem_cons.1 ((h b).2 (List.mem_cons_self ..)) with e' |e'
    ·exact e'.symm
    ·exact absurd (tr _ _ _ (h1.1 b e') (h2.1 a e)) (irr a)
  subst hab
  congr 1
  refine sorted_ext irr tr h1.2 h2.2 fun x=>⟨fun hx=> ?_,fun hx=> ?_⟩
  ·rcases List.mem_cons.1 ((h x).1 (List.mem_cons_of_mem _ hx)) with e |e
   ·subst e;exact absurd (h1.1 x hx) (irr x)
   ·exact e
  ·rcases List.mem_cons.1 ((h x).2 (List.mem_cons_of_mem _ hx)) with e |e
   ·subst e;exact absurd (h2.1 x hx) (irr x)
   ·exact e
theorem nat_ext {l l':List Nat}(h1:l.Pairwise (· < ·)) (h2:l'.Pairwise (· < ·)) (h:∀x,x∈l↔x∈l'):l=l':=sorted_ext (fun a=>Nat.lt_irrefl a) (fun _ _ _=>Nat.lt_trans) h1 h2 h
theorem shr_bit {b j:Nat}(hj:j<8):Int.tmod (ishr .u8 (b:Int) (j:Int)) 2=(bif b.testBit j then 1 else 0:Int):=by
 unfold ishr
 rw [Int.toNat_natCast,show IntKind.bits .u8=8 from rfl,Nat.min_eq_left (by omega),Nat.testBit_eq_decide_div_mod_eq]
 have e:Int.fdiv (b:Int) (2 ^ j)=((b/2 ^ j:Nat):Int):=by
  rw [show((2:Int) ^ j)=((2 ^ j:Nat):Int) by simp]
  rw [Int.fdiv_eq_ediv_of_nonneg _ (Int.natCast_nonneg _)]
  simp
 rw [e]
 generalize b/2 ^ j=c
 rw [show Int.tmod (c:Int) 2=((c%2:Nat):Int) from rfl]
 by_cases h:c%2=1
 ·simp [h]
 ·have:c%2=0:=by omega
  simp [this]
end
section
theorem pw_up:∀ {n p:Int}{l:List Int},l.Pairwise (· < ·)→(∀x∈l,p<x∧x<n)→upB n p l=true
 |n,p,[],_,_=>rfl
 |n,p,x::l,h1,h2=>by
  rw [List.pairwise_cons] at h1
  have hx:=h2 x (List.mem_cons_self ..)
  unfold upB
  rw [decide_eq_true hx.1,decide_eq_true hx.2,pw_up h1.2 fun y hy=>⟨h1.1 y hy,(h2 y (List.mem_cons_of_mem _ hy)).2⟩]
  rfl
theorem right_iff {n:Int}{l:List Int}:rightB n l=true↔0≤n∧n≤2048∧l.Pairwise (· < ·)∧∀x∈l,0≤x∧x<n:=by
 unfold rightB
 simp only [Bool.and_eq_true,decide_eq_true_eq]
 constructor
 ·rintro⟨h1,h2,h3⟩
  have:=up_pw h3
  exact⟨h1,h2,this.1,fun x hx=>by have:=this.2 x hx;omega⟩
 ·rintro⟨h1,h2,h3,h4⟩
  exact⟨h1,h2,pw_up h3 fun x hx=>by have:=h4 x hx;omega⟩
theorem ofNat_pw {l:List Nat}(h:l.Pairwise (· < ·)):(l.map Int.ofNat).Pairwise (· < ·):=List.pairwise_map.2 (List.Pairwise.imp (R:=fun a b:Nat=>a<b) (fun {a b} (hab:a<b)=>show(a:Int)<(b:Int) by omega) h)
theorem right_on (t:B) {n:Nat}(hn:n≤2048):rightB n ((onT t n).map Int.ofNat)=true:=right_iff.2 ⟨by omega,by omega,ofNat_pw (onT_sorted t n),fun x hx=>by
 obtain⟨y,hy,rfl⟩:=List.mem_map.1 hx
 have:=(onT_mem.1 hy).1
 exact⟨Int.natCast_nonneg y,show(y:Int)<(n:Int) by omega⟩⟩
theorem right_nat {n:Int}{l:List Int}(h:rightB n l=true):∃(m:Nat) (k:List Nat),n=m∧l=k.map Int.ofNat∧m≤2048∧k.Pairwise (· < ·)∧∀x∈k,x<m:=by
 obtain⟨h1,h2,h3,h4⟩:=right_iff.1 h
 refine⟨n.toNat,l.map τ,by omega,?_,by omega,?_,?_⟩
 ·rw [List.map_map]
  conv=>lhs;rw [←List.map_id l]
  apply List.map_congr_left
  intro x hx
  have:=(h4 x hx).1
  show x=((x.toNat:Nat):Int)
  omega
 ·rw [List.pairwise_map]
  refine List.Pairwise.imp_of_mem ?_ h3
  intro a b ha hb hab
  have:=h4 a ha
  have:=h4 b hb
  show a.toNat<b.toNat
  omega
 ·intro x hx
  obtain⟨y,hy,rfl⟩:=List.mem_map.1 hx
  have:=h4 y hy
  omega
theorem onT_len (t:B) (n:Nat):(onT t n).length≤n:=by
 unfold onT
 exact Nat.le_trans (List.length_filter_le ..) (Nat.le_of_eq List.length_range)
theorem goBit {ρ:Type}{b j:Nat}(hj:j<8) {c:Bool}(h:b.testBit j=c) (k k':Option ρ):(bif decide (Int.tmod (ishr .u8 (b:Int) (j:Int)) 2=1) then k else k')=bif c then k else k':=by
 rw [shr_bit hj,h]
 cases c<;>rfl
theorem goBit0 {ρ:Type}{b j:Nat}(hj:j<8) {c:Bool}(h:b.testBit j=c) (k k':Option ρ):(bif decide (Int.tmod (ishr .u8 (b:Int) (j:Int)) 2=0) then k else k')=bif c then k' else k:=by
 rw [shr_bit hj,h]
 cases c<;>rfl
theorem bitT_get {t:B}{i:Nat}{b:UInt8}(h:t[i/8]?=some b):b.toNat.testBit (i%8)=bitT t i:=by
 unfold bitT
 rw [List.getD_eq_getElem?_getD,h]
 rfl
theorem wdiv {x:Nat}(hx:x≤1000000000):ω .i64 (Int.tdiv (x:Int) 8)=((x/8:Nat):Int):=by
 rw [show Int.tdiv (x:Int) 8=((x/8:Nat):Int) from rfl]
 exact wr_id (by omega) (by omega)
theorem loop132 (m:Int) (t:B) (n:Nat) (hn:n≤1000000) (ht:n≤8*t.length):∀(d x:Nat),x+d=n →
  E cx (Key.loop 65 [true,true,false,true,false]) [vi x,vs (mk t),vi n,.ptr 0 0 0 0,.ptr 1 0 0 0] [b0 m,⟨.box,27,2,0,[[vi n,.arr 2 1 0 (onT t x).length]]⟩,⟨.arr,3,1,1,ints ((onT t x).map Int.ofNat)⟩] =
   some (Out.jump (.exit 0) [vi n],[b0 m,⟨.box,27,2,0,[[vi n,.arr 2 1 0 (onT t n).length]]⟩,⟨.arr,3,1,1,ints ((onT t n).map Int.ofNat)⟩])
 | 0,x,hx=>by
  have:x=n:=by omega
  subst this
  exact(f65_l0 _ _ _ _ _ _ _).trans (goDn (by omega) _ _)
 |d+1,x,hx=>by
  have ih:=loop132 m t n hn ht d (x+1) (by omega)
  have hk:x/8<t.length:=by omega
  have hl:=onT_len t x
  obtain⟨b,hb⟩:∃b,t[x/8]?=some b:=⟨t[x/8],η hk⟩
  refine(f65_l0 _ _ _ _ _ _ _).trans ((goD (by omega) _ _).trans ?_)
  rw [wdiv (by omega),show Int.tmod (x:Int) 8=((x%8:Nat):Int) from rfl,wS (by omega)]
  refine(goY (by omega) _ _).trans ((goG (n:=x/8) rfl hb _).trans ((goN (show ¬(((x%8:Nat):Int)<0) by omega) _ _).trans ((goBit (by omega) (bitT_get hb) _ _).trans ?_)))
  rw [onT_succ] at ih
  cases hc:bitT t x with
  |true =>
   rw [hc] at ih
   have happ:ints ((onT t x).map Int.ofNat)++[[vi x]]=ints ((onT t x++[x]).map Int.ofNat):=by simp [ints]
   have hla:Nat.add (ints ((onT t x).map Int.ofNat)).length 1=(onT t x++[x]).length:=by rw [ints_len,List.length_map,List.length_append];rfl
   show(Ω (chk (onT t x).length (ints ((onT t x).map Int.ofNat)).length) fun _=>if Nat.mul (Nat.add (ints ((onT t x).map Int.ofNat)).length 1) 8≤140737488355328 then
    E cx (Key.loop 65 [true,true,false,true,false]) [vi (x+1:Nat),vs (mk t),vi n,.ptr 0 0 0 0,.ptr 1 0 0 0] [b0 m,⟨.box,27,2,0,[[vi n,.arr 2 1 0 (Nat.add (ints ((onT t x).map Int.ofNat)).length 1)]]⟩,⟨.arr,3,1,1,ints ((onT t x).map Int.ofNat)++[[vi x]]⟩] else none)=_
   rw [hla,happ]
   exact(goCk (by rw [ints_len,List.length_map]) _).trans ((goY (by rw [List.length_append];show((onT t x).length+1)*8≤_;omega) _ _).trans ih)
  |false =>
   rw [hc] at ih
   rw [cond_false,List.append_nil] at ih
   exact ih
theorem c132 (t:B) (n:Nat) (hn:n≤1000000) (ht:n≤8*t.length):E cx (Key.fn 65) [vs (mk t),vi n] []=some (Out.ret (bA n ((onT t n).map Int.ofNat)),[]):=by
 refine(f65 _ _).trans ?_
 refine(congrArg (fun o=>Ω o _) (loop132 0 t n hn ht n 0 (by omega))).trans ?_
 have hz:Nat.add 0 (onT t n).length=(ints ((onT t n).map Int.ofNat)).length:=by rw [ints_len,List.length_map];exact Nat.zero_add _
 show(Ω (chkLe (Nat.add 0 (onT t n).length) (ints ((onT t n).map Int.ofNat)).length) fun _=>some (Out.ret (.agg [vi n,.list 0 1 (List.drop 0 (List.take (Nat.add 0 (onT t n).length) (ints ((onT t n).map Int.ofNat))))]),[]))=_
 rw [hz]
 refine(goLe (Nat.le_refl _) _).trans ?_
 rw [List.take_length]
 rfl
theorem c131 (t:B) (n:Nat) (hn:n≤1000000) (ht:n≤8*t.length):E cx (Key.fn 81) [vs (mk t),vi n] []=some (Out.ret (bA n ((onT t n).map Int.ofNat)),[]):=by
 refine(E_unfold cx _ _ _).trans ?_
 show((ofG [vs (mk t),.val (.int .i64 (.ofNat n))]).bind fun v=>some (Out.ret v,([]:Heap)))=_
 have hG:ofG [vs (mk t),.val (.int .i64 (.ofNat n))]=some (bA n ((onT t n).map Int.ofNat)):=by
  show(if n≤8*(mk t).size∧n≤1000000 then some (AV.agg [vi n,.list 0 1 ((onS (mk t) n).map fun i=>[vi i])]) else none)=_
  rw [if_pos ⟨ht,hn⟩,onS_mk]
 rw [hG]
 rfl
end
section
def len8 (n:Nat):Nat:=if n=0 then 0 else n.log2+1
noncomputable def tbl8:B:=(List.range 256).map fun n=>β (len8 n)
theorem f80':∀x:Int,E cx (Key.fn 80) [vb x] []=if 0≤x then Ω (mk tbl8)[τ x]? fun b=>some (Out.ret (vi (ω .i64 (b.toNat:Int))),[]) else none:=fun x=>(f80 x).trans (by kernel_rfl)
theorem log2_lt8 {n:Nat}(h:n<256):n.log2<8:=by
 by_cases h0:n=0
 ·subst h0;decide
 ·exact(Nat.log2_lt h0).2 h
theorem c130 {n:Nat}(hn:n<256) (h0:n≠0):E cx (Key.fn 80) [vb n] []=some (Out.ret (vi (n.log2+1:Nat)),[]):=by
 have hl:=log2_lt8 hn
 have hb:tbl8[n]?=some (β (n.log2+1)):=by
  unfold tbl8
  rw [List.getElem?_map,List.getElem?_range hn]
  show some (β (len8 n))=_
  unfold len8
  rw [if_neg h0]
 refine(f80' _).trans ((goY (by omega) _ _).trans ((goG (n:=n) rfl hb _).trans ?_))
 rw [UInt8.toNat_ofNat',Nat.mod_eq_of_lt (show n.log2+1<2 ^ 8 by omega),wr_id (by omega) (by omega)]
theorem log2_top {n:Nat}(h0:n≠0):n.testBit n.log2=true∧∀j,n.log2<j→n.testBit j=false:=by
 have h1:=Nat.log2_self_le h0
 have h2:=Nat.lt_log2_self (n:=n)
 constructor
 ·rw [Nat.testBit_eq_decide_div_mod_eq]
  have:n/2 ^ n.log2=1:=by
   rw [Nat.pow_succ] at h2
   exact Nat.div_eq_of_lt_le (by omega) (by omega)
  rw [this]
  rfl
 ·intro j hj
  apply Nat.testBit_lt_two_pow
  exact Nat.lt_of_lt_of_le h2 (Nat.pow_le_pow_right (by omega) (by omega))
def topB (t:B) (b:UInt8):Nat:=8*(t.length-1)+b.toNat.log2
theorem topB_bit {t:B}{b:UInt8}(hb:t[t.length-1]?=some b) (h0:b.toNat≠0):bitT t (topB t b)=true∧(∀i,topB t b<i→bitT t i=false)∧topB t b<8*t.length:=by
 have hl:=log2_lt8 b.toNat_lt
 have hlt:=(γ.1 hb).1
 obtain⟨h1,h2⟩:=log2_top h0
 unfold topB
 refine⟨?_,fun i hi=> ?_,by omega⟩
 ·rw [←bitT_get (b:=b) (by rw [show(8*(t.length-1)+b.toNat.log2)/8=t.length-1 by omega];exact hb),show(8*(t.length-1)+b.toNat.log2)%8=b.toNat.log2 by omega]
  exact h1
 ·by_cases h8:8*t.length≤i
  ·exact bitT_ge h8
  ·rw [←bitT_get (b:=b) (by rw [show i/8=t.length-1 by omega];exact hb)]
   exact h2 _ (by omega)
def RB (x:Option (Out×Heap)) (r:Int×List Int×Int):Prop:=∃a,x=some (Out.ret (.tuple [.agg [vi r.1,a],vi r.2.2]),[])∧a.list? 1=some (ints r.2.1)
theorem RB_of {x:Option (Out×Heap)}{n e:Int}{l:List Int}(h:x=some (Out.ret (.tuple [bA n l,vi e]),[])):RB x (n,l,e):=⟨_,h,rfl⟩
theorem RB_nil {x:Option (Out×Heap)}{e:Int}(h:x=some (Out.ret (.tuple [.agg [vi 0,.val (.slice none 0 0)],vi e]),[])):RB x (0,[],e):=⟨_,h,rfl⟩
def unlO (t:B) (most:Int):Int×List Int×Int:=match t[t.length-1]? with
 |none=>(0,[],2)
 |some b=>bif decide (b.toNat=0) then(0,[],2) else bif decide ((topB t b:Int)>most)||decide ((topB t b:Int)>2048) then(0,[],4) else(topB t b,(onT t (topB t b)).map Int.ofNat,0)
theorem sz_mk (t:B):((ByteArray.size (mk t):Nat):Int)=(t.length:Int):=rfl
theorem c73 (t:B) (ht:t.length≤100000) (most:Int):RB (E cx (Key.fn 63) [vs (mk t),vi most] []) (unlO t most):=by
 unfold unlO
 cases hb:t[t.length-1]? with
 |none =>
  have h0:t.length=0:=by
   have:=List.getElem?_eq_none_iff.1 hb
   omega
  refine RB_nil ((f63 _ _).trans ?_)
  rw [sz_mk,h0]
  exact goD (show ω .i64 (Int.sub ((0:Nat):Int) 1)<0 by decide) _ _
 |some b =>
  simp only
  have hlt:=(γ.1 hb).1
  have hw:ω .i64 (Int.sub (t.length:Int) 1)=((t.length-1:Nat):Int):=(wr_sub (b:=1) (by omega) (by omega)).trans (by omega)
  have hl:=log2_lt8 b.toNat_lt
  by_cases h0:b.toNat=0
  ·rw [decide_eq_true h0]
   refine RB_nil ((f63 _ _).trans ?_)
   rw [sz_mk,hw]
   exact(goDn (by omega) _ _).trans ((goY (by omega) _ _).trans ((goG (n:=t.length-1) rfl hb _).trans (goD (by omega) _ _)))
  ·rw [decide_eq_false h0,cond_false]
   have hw2:ω .i64 (Int.sub (ω .i64 (Int.add (ω .i64 (Int.mul ((t.length-1:Nat):Int) 8)) ((b.toNat.log2+1:Nat):Int))) 1)=(topB t b:Int):=by
    rw [wr_mul (a:=((t.length-1:Nat):Int)) (b:=8) (by omega) (by omega),wr_add (a:=((t.length-1:Nat):Int)*8) (by omega) (by omega)]
    exact(wr_sub (b:=1) (by omega) (by omega)).trans (by unfold topB;omega)
   have go:∀ {R},(bif decide ((topB t b:Int)>most) then q73_1 else bif decide ((topB t b:Int)>2048) then q73_1 else
     Ω (E cx (Key.fn 81) [vs (mk t),vi (topB t b)] []) fun r=>Ω (ret1 r) fun v=>Ω (AV.cells? v) fun cs=>Ω (uncons? cs) fun p=>Ω (AV.int? .i64 p.fst) fun n=>Ω (uncons? p.snd) fun p=>Ω (AV.list? 1 p.fst) fun es=>Ω (nil? p.snd) fun _ =>
      some (Out.ret (.tuple [.agg [vi n,.list 0 1 es],vi 0]),[]))=R→E cx (Key.fn 63) [vs (mk t),vi most] []=R:=fun {R} h=>by
    refine(f63 _ _).trans ?_
    rw [sz_mk,hw]
    refine(goDn (by omega) _ _).trans ((goY (by omega) _ _).trans ((goG (n:=t.length-1) rfl hb _).trans ((goDn (by omega) _ _).trans ((goY (by omega) _ _).trans ((goG (n:=t.length-1) rfl hb _).trans ((goI (c130 b.toNat_lt h0) _).trans ?_))))))
    rw [hw2]
    exact h
   by_cases h1:(topB t b:Int)>most
   ·rw [decide_eq_true h1]
    exact RB_nil (go (goD h1 _ _))
   ·by_cases h2:(topB t b:Int)>2048
    ·rw [decide_eq_true h2,Bool.or_true]
     exact RB_nil (go ((goDn h1 _ _).trans (goD h2 _ _)))
    ·rw [decide_eq_false h1,decide_eq_false h2]
     have h3:=(topB_bit hb h0).2.2
     exact RB_of (go ((goDn h1 _ _).trans ((goDn h2 _ _).trans ((congrArg (fun o=>Ω o _) (c131 t (topB t b) (by omega) (by omega))).trans rfl))))
theorem loop74 (t:B) (ht:t.length≤100000) (most m:Int) (p:Nat) (hp:bitT t p=true) (hpl:p<8*t.length) (hu:∀i,p<i→bitT t i=false):∀(d:Nat),p+d<8*t.length→E cx (Key.loop 41 [true,true,true,false,false]) [vi (p+d:Nat),vs (mk t),vi most,.ptr 0 0 0 0] [b0 m]=some (Out.jump (.exit 0) [vi p],[b0 m]):=by
 intro d
 induction d with
 |zero =>
  intro hd
  obtain⟨b,hb⟩:∃b,t[p/8]?=some b:=⟨t[p/8]'(by omega),η (by omega)⟩
  refine(f41_l0 _ _ _ _).trans ?_
  rw [Nat.add_zero,wdiv (by omega),show Int.tmod (p:Int) 8=((p%8:Nat):Int) from rfl]
  exact(goY (by omega) _ _).trans ((goG (n:=p/8) rfl hb _).trans ((goN (show ¬(((p%8:Nat):Int)<0) by omega) _ _).trans ((goBit0 (by omega) ((bitT_get hb).trans hp) _ _).trans rfl)))
 |succ d ih =>
  intro hd
  obtain⟨b,hb⟩:∃b,t[(p+(d+1))/8]?=some b:=⟨t[(p+(d+1))/8]'(by omega),η (by omega)⟩
  refine(f41_l0 _ _ _ _).trans ?_
  rw [wdiv (by omega),show Int.tmod ((p+(d+1):Nat):Int) 8=(((p+(d+1))%8:Nat):Int) from rfl]
  refine(goY (by omega) _ _).trans ((goG (n:=(p+(d+1))/8) rfl hb _).trans ((goN (show ¬((((p+(d+1))%8:Nat):Int)<0) by omega) _ _).trans ((goBit0 (by omega) ((bitT_get hb).trans (hu _ (by omega))) _ _).trans ?_)))
  show E cx (Key.loop 41 [true,true,true,false,false]) [vi (ω .i64 (Int.sub ((p+d+1:Nat):Int) 1)),vs (mk t),vi most,.ptr 0 0 0 0] [b0 m]=_
  rw [wP (by omega)]
  exact ih (by omega)
theorem c74 (t:B) (ht:t.length≤100000) (most:Int):RB (E cx (Key.fn 41) [vs (mk t),vi most] []) (unlO t most):=by
 unfold unlO
 cases hb:t[t.length-1]? with
 |none =>
  have h0:t.length=0:=by
   have:=List.getElem?_eq_none_iff.1 hb
   omega
  refine RB_nil ((f41 _ _).trans ?_)
  rw [sz_mk,h0]
  exact goD rfl _ _
 |some b =>
  simp only
  have hlt:=(γ.1 hb).1
  have hw:ω .i64 (Int.sub (t.length:Int) 1)=((t.length-1:Nat):Int):=(wr_sub (b:=1) (by omega) (by omega)).trans (by omega)
  have hl:=log2_lt8 b.toNat_lt
  by_cases h0:b.toNat=0
  ·rw [decide_eq_true h0]
   refine RB_nil ((f41 _ _).trans ?_)
   rw [sz_mk,hw]
   exact(goDn (by omega) _ _).trans ((goY (by omega) _ _).trans ((goG (n:=t.length-1) rfl hb _).trans (goD (by omega) _ _)))
  ·rw [decide_eq_false h0,cond_false]
   obtain⟨t1,t2,t3⟩:=topB_bit hb h0
   have g:=loop74 t ht most 0 (topB t b) t1 t3 t2 (8*t.length-1-topB t b) (by omega)
   have hw2:ω .i64 (Int.sub (ω .i64 (Int.mul 8 (t.length:Int))) 1)=((topB t b+(8*t.length-1-topB t b):Nat):Int):=by
    rw [wr_mul (a:=8) (b:=(t.length:Int)) (by omega) (by omega)]
    exact(wr_sub (b:=1) (by omega) (by omega)).trans (by omega)
   have go:∀ {R},(bif decide ((topB t b:Int)>most) then q74_1 else bif decide ((topB t b:Int)>2048) then q74_1 else
     Ω (E cx (Key.fn 65) [vs (mk t),vi (topB t b)] []) fun r=>Ω (ret1 r) fun v=>Ω (AV.cells? v) fun cs=>Ω (uncons? cs) fun p=>Ω (AV.int? .i64 p.fst) fun n=>Ω (uncons? p.snd) fun p=>Ω (AV.list? 1 p.fst) fun es=>Ω (nil? p.snd) fun _ =>
      some (Out.ret (.tuple [.agg [vi n,.list 0 1 es],vi 0]),[]))=R→E cx (Key.fn 41) [vs (mk t),vi most] []=R:=fun {R} h=>by
    refine(f41 _ _).trans ?_
    rw [sz_mk,hw,hw2]
    exact(goDn (by omega) _ _).trans ((goY (by omega) _ _).trans ((goG (n:=t.length-1) rfl hb _).trans ((goDn (by omega) _ _).trans ((congrArg (fun o=>Ω o _) g).trans h))))
   by_cases h1:(topB t b:Int)>most
   ·rw [decide_eq_true h1]
    exact RB_nil (go (goD h1 _ _))
   ·by_cases h2:(topB t b:Int)>2048
    ·rw [decide_eq_true h2,Bool.or_true]
     exact RB_nil (go ((goDn h1 _ _).trans (goD h2 _ _)))
    ·rw [decide_eq_false h1,decide_eq_false h2]
     exact RB_of (go ((goDn h1 _ _).trans ((goDn h2 _ _).trans ((congrArg (fun o=>Ω o _) (c132 t (topB t b) (by omega) (by omega))).trans rfl))))
end
section
def lstB (c:Nat) (l:List Nat):B:=txB (c/8+1) fun y=>decide (y=c)||decide (y∈l)
def lstO (n:Int) (l:List Int):B×Int:=bif rightB n l then(lstB n.toNat (l.map τ),0) else([],1)
theorem mem_ofNat {y:Nat}{k:List Nat}:((y:Int)∈k.map Int.ofNat)↔y∈k:=by
 constructor
 ·intro h
  obtain⟨z,hz,e⟩:=List.mem_map.1 h
  have:z=y:=by
   have:(z:Int)=y:=e
   omega
  rwa [←this]
 ·exact fun h=>List.mem_map_of_mem h
theorem toNat_ofNat (k:List Nat):(k.map Int.ofNat).map τ=k:=by
 rw [List.map_map]
 conv=>rhs;rw [←List.map_id k]
 exact List.map_congr_left fun x _=>Int.toNat_natCast x
theorem c57 (n:Int) (l:List Int) (hl:l.length≤4000000):E cx (Key.fn 30) [bA n l] []=RJ (lstO n l).1 (lstO n l).2:=by
 unfold lstO
 cases h:rightB n l with
 |false=>exact c57_f n l hl h
 |true =>
  obtain⟨m,k,rfl,rfl,h1,h2,h3⟩:=right_nat h
  refine(c57_t m (by omega) _ hl h).trans ?_
  rw [run_zero,str_tab,cond_true,toNat_ofNat,Int.toNat_natCast]
  unfold lstB
  have:(fun y:Nat=>decide ((y:Int)=m)||decide ((y:Int)∈k.map Int.ofNat))=fun y=>decide (y=m)||decide (y∈k):=by
   funext y
   have e:((y:Int)=m)↔y=m:=by omega
   simp only [mem_ofNat,e]
  rw [this]
end
section
theorem raw_right {N:Int}(h0:0≤N) (h1:N≤2048) (raw:List Int):rightB N (rawL N raw)=true:=right_iff.2 ⟨h0,h1,rawL_sorted N raw,fun _ hx=>rawL_lt hx⟩
theorem nodup_len {α:Type} [DecidableEq α]:∀ {l k:List α},l.Nodup→(∀x∈l,x∈k)→l.length≤k.length
 | [],k,_,_=>Nat.zero_le _
 |a::l,k,h,hs=>by
  rw [List.nodup_cons] at h
  have ha:=hs a (List.mem_cons_self ..)
  have:=nodup_len (l:=l) (k:=k.erase a) h.2 fun x hx=>(List.mem_erase_of_ne (fun e=>by subst e;exact h.1 hx)).2 (hs x (List.mem_cons_of_mem _ hx))
  rw [List.length_erase_of_mem ha] at this
  have hpos:0<k.length:=List.length_pos_of_mem ha
  simp only [List.length_cons]
  omega
theorem raw_len (N:Int) (raw:List Int):(rawL N raw).length≤40:=by
 by_cases hN:0<N
 ·have h:(rawL N raw).length≤((raw.take 40).map fun r=>pickI r N).length:=nodup_len ((rawL_sorted N raw).imp fun h=>by omega) fun x hx=>by
   obtain⟨r,h1,h2⟩:=(rawL_mem hN).1 hx
   exact List.mem_map.2 ⟨r,h1,h2⟩
  rw [List.length_map,List.length_take] at h
  omega
 ·unfold rawL
  rw [show N.toNat=0 by omega]
  exact Nat.zero_le _
theorem lst_len (c:Nat) (k:List Nat):(lstB c k).length=c/8+1:=txB_len ..
theorem lst_bit {c:Nat}{k:List Nat}(i:Nat) (hk:∀x∈k,x<c):bitT (lstB c k) i=(decide (i=c)||decide (i∈k)):=by
 by_cases hi:i<8*(c/8+1)
 ·exact bitT_tx hi
 ·rw [bitT_ge (by rw [lst_len];omega)]
  have h1:¬i=c:=by omega
  have h2:¬i∈k:=fun h=>by have:=hk i h;omega
  simp [h1,h2]
theorem lst_last {c:Nat}{k:List Nat}(hk:∀x∈k,x<c):∃b,(lstB c k)[(lstB c k).length-1]?=some b∧b.toNat≠0∧topB (lstB c k) b=c:=by
 have hl:=lst_len c k
 obtain⟨b,hb⟩:∃b,(lstB c k)[(lstB c k).length-1]?=some b:=⟨(lstB c k)[(lstB c k).length-1]'(by omega),η (by omega)⟩
 have hc:bitT (lstB c k) c=true:=by rw [lst_bit c hk];simp
 have h0:b.toNat≠0:=fun h=>by
  rw [←bitT_get (b:=b) (by rw [show c/8=(lstB c k).length-1 by omega];exact hb),h] at hc
  simp at hc
 refine⟨b,hb,h0,?_⟩
 obtain⟨t1,t2,_⟩:=topB_bit hb h0
 rcases Nat.lt_trichotomy (topB (lstB c k) b) c with h |h |h
 ·rw [t2 c h] at hc;cases hc
 ·exact h
 ·rw [lst_bit _ hk] at t1
  have h1:¬topB (lstB c k) b=c:=by omega
  have h2:¬topB (lstB c k) b∈k:=fun h=>by have:=hk _ h;omega
  simp [h1,h2] at t1
theorem onT_lst {c:Nat}{k:List Nat}(hs:k.Pairwise (· < ·)) (hk:∀x∈k,x<c):onT (lstB c k) c=k:=nat_ext (onT_sorted _ _) hs fun x=>by
 rw [onT_mem,lst_bit x hk]
 constructor
 ·rintro⟨h1,h2⟩
  have:¬x=c:=by omega
  simpa [this] using h2
 ·intro h
  exact⟨hk x h,by simp [h]⟩
theorem unl_lst {c:Nat}{k:List Nat}(hc:c≤2048) (hs:k.Pairwise (· < ·)) (hk:∀x∈k,x<c) {most:Int}(hm:(c:Int)≤most):unlO (lstB c k) most=(↑c,k.map Int.ofNat,0):=by
 obtain⟨b,h1,h2,h3⟩:=lst_last hk
 unfold unlO
 rw [h1]
 show(bif decide (b.toNat=0) then _ else _)=_
 rw [decide_eq_false h2,h3,decide_eq_false (show ¬((c:Int)>most) by omega),decide_eq_false (show ¬((c:Int)>2048) by omega),onT_lst hs hk]
 rfl
theorem ofNat_inj {k k':List Nat}(h:k.map Int.ofNat=k'.map Int.ofNat):k=k':=by
 rw [←toNat_ofNat k,h,toNat_ofNat]
theorem unl_ok {t:B}{most:Int}(h:(unlO t most).2.2=0):lstO (unlO t most).1 (unlO t most).2.1=(t,0)∧(unlO t most).1≤most∧rightB (unlO t most).1 (unlO t most).2.1=true:=by
 unfold unlO at h ⊢
 cases hb:t[t.length-1]? with
 |none=>rw [hb] at h;cases h
 |some b =>
  rw [hb] at h
  simp only at h ⊢
  by_cases h0:b.toNat=0
  ·rw [decide_eq_true h0] at h;cases h
  ·rw [decide_eq_false h0,cond_false] at h ⊢
   by_cases h1:(topB t b:Int)>most
   ·rw [decide_eq_true h1] at h;cases h
   ·by_cases h2:(topB t b:Int)>2048
    ·rw [decide_eq_true h2,Bool.or_true] at h;cases h
    ·rw [decide_eq_false h1,decide_eq_false h2,Bool.or_false,cond_false]
     obtain⟨t1,t2,t3⟩:=topB_bit hb h0
     have hr:=right_on t (n:=topB t b) (by omega)
     refine⟨?_,by omega,hr⟩
     show lstO (topB t b:Int) ((onT t (topB t b)).map Int.ofNat)=_
     unfold lstO
     rw [hr,cond_true,toNat_ofNat,Int.toNat_natCast]
     have hk:∀x∈onT t (topB t b),x<topB t b:=fun x hx=>(onT_mem.1 hx).1
     have hl:t.length=topB t b/8+1:=by
      have:=log2_lt8 b.toNat_lt
      unfold topB
      omega
     congr 1
     refine t_eq (by rw [lst_len,hl]) fun i hi=> ?_
     rw [lst_bit i hk]
     rcases Nat.lt_trichotomy i (topB t b) with h |h |h
     ·have hne:¬i=topB t b:=by omega
      simp [hne,onT_mem,h]
     ·rw [h,t1];simp
     ·have hne:¬i=topB t b:=by omega
      have hnl:¬i<topB t b:=by omega
      simp [hne,onT_mem,hnl,t2 i h]
theorem right_len {n:Int}{l:List Int}(h:rightB n l=true):l.length≤2048:=by
 obtain⟨m,k,rfl,rfl,h1,h2,h3⟩:=right_nat h
 have:=nodup_len (l:=k) (k:=List.range m) (h2.imp fun h=>by omega) fun x hx=>List.mem_range.2 (h3 x hx)
 rw [List.length_range] at this
 rw [List.length_map]
 omega
end
section
theorem c56 (n:Int) (l:List Int) (hl:l.length≤4000000):E cx (Key.fn 56) [bA n l] []=RJ (lstO n l).1 (lstO n l).2:=by
 unfold lstO
 refine(f56 _ _).trans ((goB (c60 n l hl) _).trans ?_)
 cases h:rightB n l with
 |false=>rfl
 |true =>
  obtain⟨m,k,rfl,rfl,h1,h2,h3⟩:=right_nat h
  have hl:=right_len h
  rw [List.length_map] at hl
  have hcl:(k.map Int.ofNat).length=k.length:=List.length_map ..
  have e1:Nat.add 0 (ints (k.map Int.ofNat)).length=k.length:=by rw [ints_len,List.length_map];exact Nat.zero_add _
  have e2:ints (k.map Int.ofNat)++[[vi m]]=ints ((k++[m]).map Int.ofNat):=by simp [ints]
  have e3:ω .i64 (Int.add (ω .i64 (Int.tdiv (m:Int) 8)) 1)=((m/8+1:Nat):Int):=by rw [wdiv (by omega),wS (by omega)]
  have hl2:(k++[m]).length=k.length+1:=by rw [List.length_append];rfl
  rw [ysOk_ints,cond_true,cond_true,e1]
  refine(goY (show Nat.mul k.length 8≤_ by show k.length*8≤_;omega) _ _).trans ?_
  have e4:(Ob.mk OK.arr 3 1 1 ([]++ints (k.map Int.ofNat))).es=ints (k.map Int.ofNat):=rfl
  rw [e4,e2,e3]
  have e5:(ints (k.map Int.ofNat)).length=k.length:=by rw [ints_len,List.length_map]
  rw [e5]
  refine(goCk rfl _).trans ((goY (show Nat.mul (Nat.add k.length 1) 8≤_ by show(k.length+1)*8≤_;omega) _ _).trans ?_)
  have e6:Nat.add 0 (Nat.add k.length 1)=(ints ((k++[m]).map Int.ofNat)).length:=by rw [ints_len,List.length_map,hl2];exact Nat.zero_add _
  rw [e6]
  refine(goLe (Nat.le_refl _) _).trans ?_
  rw [List.take_length,List.drop_zero]
  refine(congrArg (fun o=>Ω o _) (c118 (k++[m]) (by rw [hl2];omega) (m/8+1) (by omega) (fun p hp=> ?_))).trans ?_
  ·rcases List.mem_append.1 hp with hp |hp
   ·have:=h3 p hp;omega
   ·simp at hp;omega
  ·show(Ω (numsOf (bys _)) fun ns=>some (Out.ret (.tuple [vs (Go.strOfNums ns),vi 0]),([]:Heap)))=_
   rw [numsOf_bys,fold_zero (m/8+1) (k++[m]) (fun p hp=>by
    rcases List.mem_append.1 hp with hp |hp
    ·have:=h3 p hp;omega
    ·simp at hp;omega),Option.bind_some,str_tab,toNat_ofNat,Int.toNat_natCast]
   have:(fun y=>decide (y∈k++[m]))=fun y=>decide (y=m)||decide (y∈k):=by
    funext y
    by_cases h:y=m<;>simp [h]
   unfold lstB
   rw [this]
   rfl
end
section
abbrev bN (n:Int):AV := .agg [vi n,.val (.slice none 0 0)]
theorem n56 (n:Int):E cx (Key.fn 56) [bN n] []=E cx (Key.fn 56) [bA n []] []:=E_norm (by kernel_rfl) (by kernel_rfl)
end
end
section
section
def inU (l:List P2):Prop:=∀p∈l,p.1<18446744073709551616∧p.2<18446744073709551616
theorem take_put (w:Nat) (r:B):(put w 8++r).take 8=put w 8:=by
 rw [List.take_append_of_le_length (by rw [put_len];omega),List.take_of_length_le (by rw [put_len];omega)]
theorem drop_put (w:Nat) (r:B):(put w 8++r).drop 8=r:=by
 rw [List.drop_append_of_le_length (by rw [put_len];omega),List.drop_of_length_le (by rw [put_len];omega)]
 rfl
theorem val_put8 {w:Nat}(h:w<18446744073709551616):val (put w 8)=w:=by
 rw [val_put]
 exact Nat.mod_eq_of_lt h
theorem db_ebs:∀(l:List P2),inU l→db l.length (ebs l)=l
 | [],_=>rfl
 |p::l,h=>by
  have h1:=h p (List.mem_cons_self ..)
  rw [ebs_cons]
  show(val ((eb p++ebs l).take 8),val (((eb p++ebs l).drop 8).take 8))::db l.length ((eb p++ebs l).drop 16)=_
  have e:eb p++ebs l=put p.1 8++(put p.2 8++ebs l):=by simp [eb]
  have e16:(eb p++ebs l).drop 16=ebs l:=by
   rw [List.drop_append_of_le_length (by rw [eb_len];omega),List.drop_of_length_le (by rw [eb_len];omega)]
   rfl
  rw [e16,e,take_put,drop_put,take_put,val_put8 h1.1,val_put8 h1.2,db_ebs l fun q hq=>h q (List.mem_cons_of_mem _ hq)]
theorem decR_enc (f:Bool) (l:List P2) (hr:rightT l=true) (hu:inU l):decR (encB f l)=(f,l,0):=by
 have hl:=rightT_len hr
 have hs:srtB l=true:=by
  unfold rightT at hr
  simp only [Bool.and_eq_true] at hr
  exact hr.2
 have h16:(ebs l).length%16=0:=by rw [ebs_len];omega
 have h17:(ebs l).length/16=l.length:=by rw [ebs_len];omega
 show decR (fB f::ebs l)=_
 rw [decR_cons,if_pos h16,h17,db_ebs l hu]
 have hb:¬(fB f).toNat>1:=by cases f<;>decide
 have hd:decide ((fB f).toNat=1)=f:=by cases f<;>rfl
 rw [if_neg hb,hd]
 unfold decP2
 rw [hs,if_pos rfl,if_neg (by omega)]
theorem encR_ok {f:Bool}{l:List P2}(h:rightT l=true):encR f l=(encB f l,0):=by
 unfold encR
 rw [h,if_pos rfl]
end
section
theorem pairOf_lt (a:Int):(pairOf a).1<12∧(pairOf a).2<3:=by
 have h1:=pickI_lt (c:=a) (n:=12) (by omega)
 have h2:=pickI_lt (c:=Int.tdiv a 16) (n:=3) (by omega)
 unfold pairOf
 constructor
 ·show(pickI a 12).toNat<12
  omega
 ·show(pickI (Int.tdiv a 16) 3).toNat<3
  omega
theorem insR_mem {p q:P2}{l:List P2}(h:q∈insR p l):q=p∨q∈l:=by
 unfold insR at h
 rcases List.mem_append.1 h with h |h
 ·exact .inr (List.mem_of_mem_take h)
 ·rcases List.mem_cons.1 h with h |h
  ·exact .inl h
  ·exact .inr (List.mem_of_mem_drop h)
theorem tokL_all (P:P2→Prop) (hP:∀a,P (pairOf a)):∀(r:List Int) (o:List P2),(∀q∈o,P q)→∀q∈tokL r o,P q
 | [],o,h=>h
 |a::r,o,h=>tokL_all P hP r _ fun q hq=>by
  rcases insR_mem hq with rfl |hq
  ·exact hP a
  ·exact h q hq
theorem tokP_inU (raw:List Int):inU (tokP raw) :=
 tokL_all (fun q=>q.1<18446744073709551616∧q.2<18446744073709551616) (fun a=>⟨by have:=pairOf_lt a;omega,by have:=pairOf_lt a;omega⟩) _ [] (by simp)
theorem ebs_db:∀(d:Nat) (l:B),l.length=16*d→ebs (db d l)=l
 | 0,l,h=>by
  obtain rfl:l=[]:=List.length_eq_zero_iff.1 (by omega)
  rfl
 |d+1,l,h=>by
  show ebs ((val (l.take 8),val ((l.drop 8).take 8))::db d (l.drop 16))=_
  rw [ebs_cons,ebs_db d (l.drop 16) (by rw [List.length_drop];omega)]
  show put (val (l.take 8)) 8++put (val ((l.drop 8).take 8)) 8++l.drop 16=l
  have h1:(l.take 8).length=8:=by rw [List.length_take];omega
  have h2:((l.drop 8).take 8).length=8:=by rw [List.length_take,List.length_drop];omega
  have e1:=put_val (l.take 8)
  rw [h1] at e1
  have e2:=put_val ((l.drop 8).take 8)
  rw [h2] at e2
  rw [e1,e2,List.append_assoc]
  have e3:l.drop 16=(l.drop 8).drop 8:=by rw [List.drop_drop]
  rw [e3,List.take_append_drop,List.take_append_drop]
theorem decR_right {l:B}{f:Bool}{q:List P2}(h:decR l=(f,q,0)):rightT q=true∧encB f q=l:=by
 cases l with
 |nil=>cases h
 |cons b r =>
  rw [decR_cons] at h
  by_cases h16:r.length%16=0
  ·rw [if_pos h16] at h
   by_cases hb:b.toNat>1
   ·rw [if_pos hb] at h;cases h
   ·rw [if_neg hb] at h
    unfold decP2 at h
    by_cases hs:srtB (db (r.length/16) r)=true
    ·rw [if_pos hs] at h
     by_cases hl:(db (r.length/16) r).length>2048
     ·rw [if_pos hl] at h;cases h
     ·rw [if_neg hl] at h
      cases h
      constructor
      ·unfold rightT
       rw [hs,decide_eq_true (by omega)]
       rfl
      ·unfold encB
       rw [ebs_db _ _ (by omega)]
       congr 1
       have hb':=b.toNat_lt
       rcases Nat.lt_or_ge b.toNat 1 with h0 |h1
       ·have:b=0:=UInt8.toNat.inj (by show b.toNat=0;omega)
        subst this
        rfl
       ·have:b=1:=UInt8.toNat.inj (by show b.toNat=1;omega)
        subst this
        rfl
    ·rw [if_neg hs] at h;cases h
  ·rw [if_neg h16] at h;cases h
theorem encB_len (f:Bool) (l:List P2):(encB f l).length=1+16*l.length:=by
 show(ebs l).length+1=_
 rw [ebs_len]
 omega
end
end
end Go.Proofs.Av
