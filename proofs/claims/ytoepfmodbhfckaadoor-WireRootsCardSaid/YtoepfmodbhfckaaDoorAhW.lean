/- Votes, aggregates, records: closed forms, what they have to do with each other, fixed calls. -/
import Derived.Test.YtoepfmodbhfckaaDoorAhM
import Derived.Test.YtoepfmodbhfckaaDoorAhYa

set_option maxRecDepth 100000
namespace Go.Proofs.Av
open Go
open Int renaming toNat→τ
section
structure Vt where
 a:Nat
 b:Nat
 c:Nat
 d:Nat
 e:Nat
 n:Int
 on:List Int
 f:Bool
 p:List P2
structure Ag where
 by0:Nat
 g:Bool
 q:List P2
 v:Vt
abbrev vC (v:Vt):List AV:=[vu v.a,vu v.b,vu v.c,vu v.d,vu v.e,vi v.n,.list 0 1 (ints v.on),vbool v.f,.list 0 2 (prs v.p)]
abbrev aC (a:Ag):List AV:=[vu a.by0,vbool a.g,.list 0 2 (prs a.q),vu a.v.a,vu a.v.b,vu a.v.c,vu a.v.d,vu a.v.e,vi a.v.n,.list 0 1 (ints a.v.on),vbool a.v.f,.list 0 2 (prs a.v.p)]
abbrev panW (e:Int):Option (Out×Heap):=some (Out.jump (.pan (.iface 101 (.agg [vi e]))) [],[])
def RVt (x:Option (Out×Heap)) (v:Vt) (er:Int):Prop:=∃l1 l2,x=some (Out.ret (.tuple [.agg [vu v.a,vu v.b,vu v.c,vu v.d,vu v.e,vi v.n,l1,vbool v.f,l2],vi er]),[])∧l1.list? 1=some (ints v.on)∧l2.list? 2=some (prs v.p)
def RAg (x:Option (Out×Heap)) (a:Ag) (er:Int):Prop:=∃l0 l1 l2,x=some (Out.ret (.tuple [.agg [vu a.by0,vbool a.g,l0,vu a.v.a,vu a.v.b,vu a.v.c,vu a.v.d,vu a.v.e,vi a.v.n,l1,vbool a.v.f,l2],vi er]),[])∧l0.list? 2=some (prs a.q)∧l1.list? 1=some (ints a.v.on)∧l2.list? 2=some (prs a.v.p)
section
variable {ρ:Type}{x:Option (Out×Heap)}
theorem goV {v:Vt}(h:x=some (Out.ret (.agg (vC v)),[])) (k:Int→Int→Int→Int→Int→Int→List (List AV)→Bool→List (List AV)→Option ρ):(x.bind fun r=>(ret1 r).bind fun v=>(AV.cells? v).bind fun cs=>(uncons? cs).bind fun p0_a=>(AV.int? .u64 p0_a.fst).bind fun a=>(uncons? p0_a.snd).bind fun p1_b=>(AV.int? .u64 p1_b.fst).bind fun b=>(uncons? p1_b.snd).bind fun p2_c=>(AV.int? .u64 p2_c.fst).bind fun c=>(uncons? p2_c.snd).bind fun p3_d=>(AV.int? .u64 p3_d.fst).bind fun d=>(uncons? p3_d.snd).bind fun p4_e=>(AV.int? .u64 p4_e.fst).bind fun e=>(uncons? p4_e.snd).bind fun p5_n=>(AV.int? .i64 p5_n.fst).bind fun n=>(uncons? p5_n.snd).bind fun p6_on=>(AV.list? 1 p6_on.fst).bind fun on=>(uncons? p6_on.snd).bind fun p7_f=>(AV.bool? p7_f.fst).bind fun f=>(uncons? p7_f.snd).bind fun p8_p=>(AV.list? 2 p8_p.fst).bind fun p=>(nil? p8_p.snd).bind fun _=>k a b c d e n on f p)=k v.a v.b v.c v.d v.e v.n (ints v.on) v.f (prs v.p):=by rw [h];rfl
theorem goAg {a:Ag}(h:x=some (Out.ret (.agg (aC a)),[])) (k:Int→Bool→List (List AV)→Int→Int→Int→Int→Int→Int→List (List AV)→Bool→List (List AV)→Option ρ):(x.bind fun r=>(ret1 r).bind fun v=>(AV.cells? v).bind fun cs=>(uncons? cs).bind fun p0_by0=>(AV.int? .u64 p0_by0.fst).bind fun by0=>(uncons? p0_by0.snd).bind fun p1_g=>(AV.bool? p1_g.fst).bind fun g=>(uncons? p1_g.snd).bind fun p2_q=>(AV.list? 2 p2_q.fst).bind fun q=>(uncons? p2_q.snd).bind fun p3_a=>(AV.int? .u64 p3_a.fst).bind fun a=>(uncons? p3_a.snd).bind fun p4_b=>(AV.int? .u64 p4_b.fst).bind fun b=>(uncons? p4_b.snd).bind fun p5_c=>(AV.int? .u64 p5_c.fst).bind fun c=>(uncons? p5_c.snd).bind fun p6_d=>(AV.int? .u64 p6_d.fst).bind fun d=>(uncons? p6_d.snd).bind fun p7_e=>(AV.int? .u64 p7_e.fst).bind fun e=>(uncons? p7_e.snd).bind fun p8_n=>(AV.int? .i64 p8_n.fst).bind fun n=>(uncons? p8_n.snd).bind fun p9_on=>(AV.list? 1 p9_on.fst).bind fun on=>(uncons? p9_on.snd).bind fun p10_f=>(AV.bool? p10_f.fst).bind fun f=>(uncons? p10_f.snd).bind fun p11_p=>(AV.list? 2 p11_p.fst).bind fun p=>(nil? p11_p.snd).bind fun _=>k by0 g q a b c d e n on f p)=k a.by0 a.g (prs a.q) a.v.a a.v.b a.v.c a.v.d a.v.e a.v.n (ints a.v.on) a.v.f (prs a.v.p):=by rw [h];rfl
theorem goVT {v:Vt}{er:Int}(h:RVt x v er) (k:Int→Int→Int→Int→Int→Int→List (List AV)→Bool→List (List AV)→Int→Option ρ):(x.bind fun r=>(ret1 r).bind fun v=>(AV.tup? v).bind fun vs=>(uncons? vs).bind fun pp=>(AV.cells? pp.fst).bind fun cs=>(uncons? cs).bind fun p0_a=>(AV.int? .u64 p0_a.fst).bind fun a=>(uncons? p0_a.snd).bind fun p1_b=>(AV.int? .u64 p1_b.fst).bind fun b=>(uncons? p1_b.snd).bind fun p2_c=>(AV.int? .u64 p2_c.fst).bind fun c=>(uncons? p2_c.snd).bind fun p3_d=>(AV.int? .u64 p3_d.fst).bind fun d=>(uncons? p3_d.snd).bind fun p4_e=>(AV.int? .u64 p4_e.fst).bind fun e=>(uncons? p4_e.snd).bind fun p5_n=>(AV.int? .i64 p5_n.fst).bind fun n=>(uncons? p5_n.snd).bind fun p6_on=>(AV.list? 1 p6_on.fst).bind fun on=>(uncons? p6_on.snd).bind fun p7_f=>(AV.bool? p7_f.fst).bind fun f=>(uncons? p7_f.snd).bind fun p8_p=>(AV.list? 2 p8_p.fst).bind fun p=>(nil? p8_p.snd).bind fun _=>(uncons? pp.snd).bind fun p9=>(AV.int? .i64 p9.fst).bind fun er=>(nil? p9.snd).bind fun _=>k a b c d e n on f p er)=k v.a v.b v.c v.d v.e v.n (ints v.on) v.f (prs v.p) er:=by
 obtain⟨l1,l2,rfl,h1,h2⟩:=h
 show(Option.bind (AV.list? 1 l1) fun on=>Option.bind (AV.list? 2 l2) fun p=>k v.a v.b v.c v.d v.e v.n on v.f p er)=_
 rw [h1,h2]
 rfl
theorem goAT {a:Ag}{er:Int}(h:RAg x a er) (k:Int→Bool→List (List AV)→Int→Int→Int→Int→Int→Int→List (List AV)→Bool→List (List AV)→Int→Option ρ):(x.bind fun r=>(ret1 r).bind fun v=>(AV.tup? v).bind fun vs=>(uncons? vs).bind fun pp=>(AV.cells? pp.fst).bind fun cs=>(uncons? cs).bind fun p0_by0=>(AV.int? .u64 p0_by0.fst).bind fun by0=>(uncons? p0_by0.snd).bind fun p1_g=>(AV.bool? p1_g.fst).bind fun g=>(uncons? p1_g.snd).bind fun p2_q=>(AV.list? 2 p2_q.fst).bind fun q=>(uncons? p2_q.snd).bind fun p3_a=>(AV.int? .u64 p3_a.fst).bind fun a=>(uncons? p3_a.snd).bind fun p4_b=>(AV.int? .u64 p4_b.fst).bind fun b=>(uncons? p4_b.snd).bind fun p5_c=>(AV.int? .u64 p5_c.fst).bind fun c=>(uncons? p5_c.snd).bind fun p6_d=>(AV.int? .u64 p6_d.fst).bind fun d=>(uncons? p6_d.snd).bind fun p7_e=>(AV.int? .u64 p7_e.fst).bind fun e=>(uncons? p7_e.snd).bind fun p8_n=>(AV.int? .i64 p8_n.fst).bind fun n=>(uncons? p8_n.snd).bind fun p9_on=>(AV.list? 1 p9_on.fst).bind fun on=>(uncons? p9_on.snd).bind fun p10_f=>(AV.bool? p10_f.fst).bind fun f=>(uncons? p10_f.snd).bind fun p11_p=>(AV.list? 2 p11_p.fst).bind fun p=>(nil? p11_p.snd).bind fun _=>(uncons? pp.snd).bind fun p9=>(AV.int? .i64 p9.fst).bind fun er=>(nil? p9.snd).bind fun _=>k by0 g q a b c d e n on f p er)=k a.by0 a.g (prs a.q) a.v.a a.v.b a.v.c a.v.d a.v.e a.v.n (ints a.v.on) a.v.f (prs a.v.p) er:=by
 obtain⟨l0,l1,l2,rfl,h0,h1,h2⟩:=h
 show(Option.bind (AV.list? 2 l0) fun q=>Option.bind (AV.list? 1 l1) fun on=>Option.bind (AV.list? 2 l2) fun p=>k a.by0 a.g q a.v.a a.v.b a.v.c a.v.d a.v.e a.v.n on a.v.f p er)=_
 rw [h0,h1,h2]
 rfl
theorem goRT {a b c:Nat}{er:Int}(h:x=some (Out.ret (.tuple [.agg [vu a,vu b,vu c],vi er]),[])) (k:Int→Int→Int→Int→Option ρ):(x.bind fun r=>(ret1 r).bind fun v=>(AV.tup? v).bind fun vs=>(uncons? vs).bind fun pp=>(AV.cells? pp.fst).bind fun cs=>(uncons? cs).bind fun p0_a=>(AV.int? .u64 p0_a.fst).bind fun a=>(uncons? p0_a.snd).bind fun p1_b=>(AV.int? .u64 p1_b.fst).bind fun b=>(uncons? p1_b.snd).bind fun p2_c=>(AV.int? .u64 p2_c.fst).bind fun c=>(nil? p2_c.snd).bind fun _=>(uncons? pp.snd).bind fun p9=>(AV.int? .i64 p9.fst).bind fun er=>(nil? p9.snd).bind fun _=>k a b c er)=k a b c er:=by rw [h];rfl
theorem goPan {e:Int}(h:x=panW e) (k:Int→Option ρ) (j:Out×Heap→Option ρ):(x.bind fun r=>bif isPan r then(panV 101 r).bind fun x=>(AV.cells? x).bind fun cs=>(uncons? cs).bind fun p=>(AV.int? .i64 p.fst).bind fun n=>(nil? p.snd).bind fun _=>k n else j r)=k e:=by rw [h];rfl
theorem goNo0 {r:Out×Heap}(h:x=some r) (j k:Out×Heap→Option ρ) (hr:isPan r=false:=by rfl):(x.bind fun r=>bif isPan r then j r else k r)=k r:=by rw [h];show(bif isPan r then j r else k r)=k r;rw [hr];rfl
theorem goBx {n:Int}{l:List Int}(h:x=some (Out.ret (.agg [vi n,.list 0 1 (ints l)]),[])) (k:Int→List (List AV)→Option ρ):(x.bind fun r=>(ret1 r).bind fun v=>(AV.cells? v).bind fun cs=>(uncons? cs).bind fun p0_n=>(AV.int? .i64 p0_n.fst).bind fun n=>(uncons? p0_n.snd).bind fun p1_l=>(AV.list? 1 p1_l.fst).bind fun l=>(nil? p1_l.snd).bind fun _=>k n l)=k n (ints l):=by rw [h];rfl
theorem goTx {f:Bool}{l:List P2}(h:x=some (Out.ret (.agg [vbool f,.list 0 2 (prs l)]),[])) (k:Bool→List (List AV)→Option ρ):(x.bind fun r=>(ret1 r).bind fun v=>(AV.cells? v).bind fun cs=>(uncons? cs).bind fun p0_n=>(AV.bool? p0_n.fst).bind fun n=>(uncons? p0_n.snd).bind fun p1_l=>(AV.list? 2 p1_l.fst).bind fun l=>(nil? p1_l.snd).bind fun _=>k n l)=k f (prs l):=by rw [h];rfl
theorem goNoS {l:ByteArray}(h:x=some (Out.ret (vs l),[])) (j:Out×Heap→Option ρ) (k:ByteArray→Option ρ):(x.bind fun r=>bif isPan r then j r else(ret1 r).bind fun v=>(AV.str? v).bind fun s=>k s)=k l:=by rw [h];rfl
theorem goNoU {w:Int}(h:x=some (Out.ret (vu w),[])) (j:Out×Heap→Option ρ) (k:Int→Option ρ):(x.bind fun r=>bif isPan r then j r else(ret1 r).bind fun v=>(AV.int? .u64 v).bind fun s=>k s)=k w:=by rw [h];rfl
theorem goNoT {f:Bool}{l:List (List AV)}(h:x=some (Out.ret (.agg [vbool f,.list 0 2 l]),[])) (j:Out×Heap→Option ρ) (k:Bool→List (List AV)→Option ρ):(x.bind fun r=>bif isPan r then j r else(ret1 r).bind fun v=>(AV.cells? v).bind fun cs=>(uncons? cs).bind fun p0_b=>(AV.bool? p0_b.fst).bind fun b=>(uncons? p0_b.snd).bind fun p1_l=>(AV.list? 2 p1_l.fst).bind fun l=>(nil? p1_l.snd).bind fun _=>k b l)=k f l:=by rw [h];rfl
theorem goNoB {n:Int}{l:List (List AV)}(h:x=some (Out.ret (.agg [vi n,.list 0 1 l]),[])) (j:Out×Heap→Option ρ) (k:Int→List (List AV)→Option ρ):(x.bind fun r=>bif isPan r then j r else(ret1 r).bind fun v=>(AV.cells? v).bind fun cs=>(uncons? cs).bind fun p0_b=>(AV.int? .i64 p0_b.fst).bind fun b=>(uncons? p0_b.snd).bind fun p1_l=>(AV.list? 1 p1_l.fst).bind fun l=>(nil? p1_l.snd).bind fun _=>k b l)=k n l:=by rw [h];rfl
theorem goNoV {v:Vt}(h:x=some (Out.ret (.agg (vC v)),[])) (j:Out×Heap→Option ρ) (k:Int→Int→Int→Int→Int→Int→List (List AV)→Bool→List (List AV)→Option ρ):(x.bind fun r=>bif isPan r then j r else(ret1 r).bind fun v=>(AV.cells? v).bind fun cs=>(uncons? cs).bind fun p0_a=>(AV.int? .u64 p0_a.fst).bind fun a=>(uncons? p0_a.snd).bind fun p1_b=>(AV.int? .u64 p1_b.fst).bind fun b=>(uncons? p1_b.snd).bind fun p2_c=>(AV.int? .u64 p2_c.fst).bind fun c=>(uncons? p2_c.snd).bind fun p3_d=>(AV.int? .u64 p3_d.fst).bind fun d=>(uncons? p3_d.snd).bind fun p4_e=>(AV.int? .u64 p4_e.fst).bind fun e=>(uncons? p4_e.snd).bind fun p5_n=>(AV.int? .i64 p5_n.fst).bind fun n=>(uncons? p5_n.snd).bind fun p6_on=>(AV.list? 1 p6_on.fst).bind fun on=>(uncons? p6_on.snd).bind fun p7_f=>(AV.bool? p7_f.fst).bind fun f=>(uncons? p7_f.snd).bind fun p8_p=>(AV.list? 2 p8_p.fst).bind fun p=>(nil? p8_p.snd).bind fun _=>k a b c d e n on f p)=k v.a v.b v.c v.d v.e v.n (ints v.on) v.f (prs v.p):=by rw [h];rfl
theorem goOp {l l0:ByteArray}{es es0:List (List AV)}(h:x=some (Out.ret (.ptr 0 0 0 0),[⟨.box,92,2,0,[[vs l,.list 0 1 es]]⟩])) (k:ByteArray→List (List AV)→Option ρ):(x.bind fun r=>(asRet r).bind fun x=>(AV.pIs 0 0 0 0 x.fst).bind fun _=>(uncons? x.snd).bind fun p=>(obIs (Ob.mk OK.box 92 2 0 [[vs l0,AV.list 0 1 es0]]) p.fst).bind fun _=>(chk p.fst.ver 0).bind fun _=>(uncons? p.fst.es).bind fun p1=>(nil? p1.snd).bind fun _=>(uncons? p1.fst).bind fun p2=>(AV.str? p2.fst).bind fun s=>(uncons? p2.snd).bind fun p3=>(AV.list? 1 p3.fst).bind fun es=>(nil? p3.snd).bind fun _=>(nil? p.snd).bind fun _=>k s es)=k l es:=by rw [h];rfl
theorem goNm {w:Int}{l l0:ByteArray}{es es0:List (List AV)}(h:x=some (Out.ret (vu w),[⟨.box,92,2,0,[[vs l,.list 0 1 es]]⟩])) (k:Int→ByteArray→List (List AV)→Option ρ):(x.bind fun r=>(asRet r).bind fun x=>(AV.int? .u64 x.fst).bind fun n=>(uncons? x.snd).bind fun p=>(obIs (Ob.mk OK.box 92 2 0 [[vs l0,AV.list 0 1 es0]]) p.fst).bind fun _=>(chk p.fst.ver 0).bind fun _=>(uncons? p.fst.es).bind fun p1=>(nil? p1.snd).bind fun _=>(uncons? p1.fst).bind fun p2=>(AV.str? p2.fst).bind fun s=>(uncons? p2.snd).bind fun p3=>(AV.list? 1 p3.fst).bind fun es=>(nil? p3.snd).bind fun _=>(nil? p.snd).bind fun _=>k n s es)=k w l es:=by rw [h];rfl
theorem goN1 {w:Int}{l l0:ByteArray}(h:x=some (Out.ret (vu w),[⟨.box,90,1,0,[[vs l]]⟩])) (k:Int→ByteArray→Option ρ):(x.bind fun r=>(asRet r).bind fun x=>(AV.int? .u64 x.fst).bind fun n=>(uncons? x.snd).bind fun p=>(obIs (Ob.mk OK.box 90 1 0 [[vs l0]]) p.fst).bind fun _=>(chk p.fst.ver 0).bind fun _=>(uncons? p.fst.es).bind fun p1=>(nil? p1.snd).bind fun _=>(uncons? p1.fst).bind fun p2=>(AV.str? p2.fst).bind fun s=>(nil? p2.snd).bind fun _=>(nil? p.snd).bind fun _=>k n s)=k w l:=by rw [h];rfl
theorem goRBt {r:Int×List Int×Int}(h:RB x r) (k:Int→List (List AV)→Int→Option ρ):(x.bind fun q=>(ret1 q).bind fun v=>(AV.tup? v).bind fun vs=>(uncons? vs).bind fun pp=>(AV.cells? pp.fst).bind fun cs=>(uncons? cs).bind fun p0_n=>(AV.int? .i64 p0_n.fst).bind fun n=>(uncons? p0_n.snd).bind fun p1_l=>(AV.list? 1 p1_l.fst).bind fun l=>(nil? p1_l.snd).bind fun _=>(uncons? pp.snd).bind fun p9=>(AV.int? .i64 p9.fst).bind fun er=>(nil? p9.snd).bind fun _=>k n l er)=k r.1 (ints r.2.1) r.2.2:=by
 obtain⟨a,rfl,ha⟩:=h
 show(Option.bind (AV.list? 1 a) fun l=>k r.1 l r.2.2)=_
 rw [ha]
 rfl
end
theorem c99 (s:ByteArray) {e:Int}(h:e≠0):E cx (Key.fn 34) [vs s,vi e] []=panW e:=(f34 _ _).trans (goEn h _ _)
theorem c99z (s:ByteArray) {e:Int}(h:e=0):E cx (Key.fn 34) [vs s,vi e] []=some (Out.ret (vs s),[]):=(f34 _ _).trans (goE h _ _)
theorem c104 (f:Bool) (l:List (List AV)) {e:Int}(h:e≠0):E cx (Key.fn 46) [.agg [vbool f,.list 0 2 l],vi e] []=panW e:=(f46 _ _ _).trans (goEn h _ _)
theorem c104z (f:Bool) (l:List (List AV)) {e:Int}(h:e=0):E cx (Key.fn 46) [.agg [vbool f,.list 0 2 l],vi e] []=some (Out.ret (.agg [vbool f,.list 0 2 l]),[]):=(f46 _ _ _).trans (goE h _ _)
theorem c144 (n:Int) (l:List (List AV)) {e:Int}(h:e≠0):E cx (Key.fn 62) [.agg [vi n,.list 0 1 l],vi e] []=panW e:=(f62 _ _ _).trans (goEn h _ _)
theorem c144z (n:Int) (l:List (List AV)) {e:Int}(h:e=0):E cx (Key.fn 62) [.agg [vi n,.list 0 1 l],vi e] []=some (Out.ret (.agg [vi n,.list 0 1 l]),[]):=(f62 _ _ _).trans (goE h _ _)
theorem c146z (w:Int) {e:Int}(h:e=0):E cx (Key.fn 70) [vu w,vi e] []=some (Out.ret (vu w),[]):=(f70 _ _).trans (goE h _ _)
def wB (l:List Nat):B:=l.flatMap fun w=>put w 8
theorem wB_len (l:List Nat):(wB l).length=8*l.length:=by
 induction l with
 |nil=>rfl
 |cons a l ih =>
  have:wB (a::l)=put a 8++wB l:=rfl
  rw [this,List.length_append,put_len,ih,List.length_cons]
  omega
theorem loop101 (l:List Nat) (hl:l.length≤1000):∀(rest:List Nat) (i:Nat) (s:B),l.drop i=rest→i+rest.length=l.length→s.length=8*i →
  E cx (Key.loop 37 [true,false,true,false]) [vs (mk s),vi i,.list 0 1 (rowsN l),vi l.length] []=some (Out.jump (.exit 0) [vs (mk (s++wB rest)),vi l.length],[])
 | [],i,s,hd,hi,hs=>by
  have:i=l.length:=by simpa using hi
  subst this
  refine(f37_l0 _ _ _ _).trans ((goDn (by omega) _ _).trans ?_)
  rw [show wB []=[] from rfl,List.append_nil]
 |w::rest,i,s,hd,hi,hs=>by
  obtain⟨h1,h2,h3⟩:=drop_cons' hd
  simp only [List.length_cons] at hi
  refine(f37_l0 _ _ _ _).trans ((goD (by omega) _ _).trans ((goY (by omega) _ _).trans ((goRn rfl h1 _).trans ((goS (c106 w 8) _).trans ?_))))
  have h8:putI w 8=put w 8:=putI_ok (by omega) (by omega)
  rw [h8,app_mk,wS (by omega)]
  refine(goN (show ¬(((s.length+(put w 8).length:Nat)):Int)>9223372036854775807 by rw [put_len];omega) _ _).trans ?_
  rw [loop101 l hl rest (i+1) (s++put w 8) h2 (by omega) (by rw [List.length_append,put_len];omega),List.append_assoc]
  rfl
theorem goJ1 {ρ:Type}{x:Option (Out×Heap)}{s:ByteArray}{i:Int}(h:x=some (Out.jump (.exit 0) [vs s,vi i],[])) (k:ByteArray→Option ρ) (z:Out×Heap→Option ρ):(x.bind fun r=>(asJump r).bind fun j=>bif JX.is j.fst (JX.exit 0) then(uncons? j.snd.fst).bind fun p=>(AV.str? p.fst).bind fun s=>(uncons? p.snd).bind fun q=>(AV.int? .i64 q.fst).bind fun _=>(nil? q.snd).bind fun _=>(nil? j.snd.snd).bind fun _=>k s else z r)=k s:=by rw [h];rfl
theorem rowsN_length (l:List Nat):(rowsN l).length=l.length:=by simp [rowsN]
theorem c101 (l:List Nat) (hl:l.length≤1000):E cx (Key.fn 37) [.list 0 1 (rowsN l)] []=some (Out.ret (vs (mk (wB l))),[]):=by
 have h:=loop101 l hl l 0 [] rfl (by simp) rfl
 refine(f37 _).trans ?_
 rw [rowsN_length]
 exact goJ1 h _ (fun _=>none)
def datB (v:Vt):B:=wB [v.a,v.b,v.c,v.d,v.e]
theorem datB_len (v:Vt):(datB v).length=40:=wB_len _
theorem c143 (a b c d e:Nat):E cx (Key.fn 51) [.agg [vu a,vu b,vu c,vu d,vu e]] []=some (Out.ret (vs (mk (wB [a,b,c,d,e]))),[]) :=
 (f51 _ _ _ _ _).trans (goS (c101 [a,b,c,d,e] (by simp)) _)
noncomputable def voteR (v:Vt):B×Int:=if(lstO v.n v.on).2≠0 then([],(lstO v.n v.on).2) else if(encR v.f v.p).2≠0 then([],(encR v.f v.p).2) else joinR (datB v) [(lstO v.n v.on).1,(encR v.f v.p).1]
theorem voteR_1 {v:Vt}(h:(lstO v.n v.on).2≠0):voteR v=([],(lstO v.n v.on).2):=if_pos h
theorem voteR_2 {v:Vt}(h1:¬(lstO v.n v.on).2≠0) (h2:(encR v.f v.p).2≠0):voteR v=([],(encR v.f v.p).2):=(if_neg h1).trans (if_pos h2)
theorem voteR_3 {v:Vt}(h1:¬(lstO v.n v.on).2≠0) (h2:¬(encR v.f v.p).2≠0):voteR v=joinR (datB v) [(lstO v.n v.on).1,(encR v.f v.p).1]:=(if_neg h1).trans (if_neg h2)
def RPs (x:Option (Out×Heap)) (r:B×Int):Prop:=(r.2=0→x=some (Out.ret (vs (mk r.1)),[]))∧(r.2≠0→x=panW r.2∧r.1=[])
theorem joinR_err {f:B}{P:List B}(h:(joinR f P).2≠0):(joinR f P).1=[]:=by
 unfold joinR at h ⊢
 split
 ·rename_i hc;rw [if_pos hc] at h;exact absurd rfl h
 ·rfl
theorem c97 (v:Vt) (h1:v.on.length≤4000000) (h2:v.p.length≤4000000):RPs (E cx (Key.fn 29) [.agg (vC v)] []) (voteR v):=by
 have e0:=(f29 v.a v.b v.c v.d v.e v.n (ints v.on) v.f (prs v.p)).trans (goJn (c56 v.n v.on h1) _)
 by_cases hl:(lstO v.n v.on).2≠0
 ·rw [voteR_1 hl]
  exact⟨fun h=>absurd h hl,fun _=>⟨e0.trans (goPan (c99 _ hl) _ _),rfl⟩⟩
 have hl':(lstO v.n v.on).2=0:=by simpa using hl
 have e1:=e0.trans ((goNoS (c99z _ hl') _ _).trans (goJn (c38 v.f v.p h2) _))
 by_cases ht:(encR v.f v.p).2≠0
 ·rw [voteR_2 hl ht]
  exact⟨fun h=>absurd h ht,fun _=>⟨e1.trans (goPan (c99 _ ht) _ _),rfl⟩⟩
 have ht':(encR v.f v.p).2=0:=by simpa using ht
 rw [voteR_3 hl ht]
 have e2:=e1.trans ((goNoS (c99z _ ht') _ _).trans ((goS (c143 v.a v.b v.c v.d v.e) _).trans (goJn (c100 (datB v) [(lstO v.n v.on).1,(encR v.f v.p).1] (by rw [datB_len];omega)) _)))
 refine⟨fun h=>e2.trans (goNoS (c99z _ h) _ _),fun h=>⟨e2.trans (goPan (c99 _ h) _ _),joinR_err h⟩⟩
theorem c26 (v:Vt) (h1:v.on.length≤4000000) (h2:v.p.length≤4000000):E cx (Key.fn 8) [.agg (vC v)] []=RJ' (voteR v):=by
 obtain⟨p,q⟩:=c97 v h1 h2
 have e0:=f8 v.a v.b v.c v.d v.e v.n (ints v.on) v.f (prs v.p)
 by_cases h:(voteR v).2=0
 ·refine e0.trans ((goNoS (p h) _ _).trans ?_)
  show _=RJ _ _
  rw [h]
 ·obtain⟨q1,q2⟩:=q h
  refine e0.trans ((goPan q1 _ _).trans ?_)
  show _=RJ _ _
  rw [q2]
noncomputable def aggR (a:Ag):B×Int:=if(encR a.g a.q).2≠0 then([],(encR a.g a.q).2) else if(voteR a.v).2≠0 then([],(voteR a.v).2) else joinR (wB [a.by0]) [(encR a.g a.q).1,(voteR a.v).1]
theorem aggR_1 {a:Ag}(h:(encR a.g a.q).2≠0):aggR a=([],(encR a.g a.q).2):=if_pos h
theorem aggR_2 {a:Ag}(h1:¬(encR a.g a.q).2≠0) (h2:(voteR a.v).2≠0):aggR a=([],(voteR a.v).2):=(if_neg h1).trans (if_pos h2)
theorem aggR_3 {a:Ag}(h1:¬(encR a.g a.q).2≠0) (h2:¬(voteR a.v).2≠0):aggR a=joinR (wB [a.by0]) [(encR a.g a.q).1,(voteR a.v).1]:=(if_neg h1).trans (if_neg h2)
theorem c29 (a:Ag) (h0:a.q.length≤4000000) (h1:a.v.on.length≤4000000) (h2:a.v.p.length≤4000000):E cx (Key.fn 10) [.agg (aC a)] []=RJ' (aggR a):=by
 have e0:=(f10 a.by0 a.g (prs a.q) a.v.a a.v.b a.v.c a.v.d a.v.e a.v.n (ints a.v.on) a.v.f (prs a.v.p)).trans (goJn (c38 a.g a.q h0) _)
 by_cases hl:(encR a.g a.q).2≠0
 ·rw [aggR_1 hl]
  exact e0.trans (goPan (c99 _ hl) _ _)
 have hl':(encR a.g a.q).2=0:=by simpa using hl
 obtain⟨p,q⟩:=c97 a.v h1 h2
 by_cases hv:(voteR a.v).2≠0
 ·rw [aggR_2 hl hv]
  exact e0.trans ((goNoS (c99z _ hl') _ _).trans (goPan (q hv).1 _ _))
 have hv':(voteR a.v).2=0:=by simpa using hv
 rw [aggR_3 hl hv]
 have e2:=e0.trans ((goNoS (c99z _ hl') _ _).trans ((goNoS (p hv') _ _).trans ((goS (c101 [a.by0] (by simp)) _).trans (goJn (c100 (wB [a.by0]) [(encR a.g a.q).1,(voteR a.v).1] (by rw [wB_len];simp)) _))))
 by_cases h:(joinR (wB [a.by0]) [(encR a.g a.q).1,(voteR a.v).1]).2=0
 ·refine e2.trans ((goNoS (c99z _ h) _ _).trans ?_)
  show _=RJ _ _
  rw [h]
 ·refine e2.trans ((goPan (c99 _ h) _ _).trans ?_)
  show _=RJ _ _
  rw [joinR_err h]
theorem split_ok {s:B}{f m:Nat}(hf:f≤65536) (hm:m≤8) (h:(splitR s f m).2.2=0):s.length≤65536∧f+4*m≤s.length∧okS s f m∧splitR s f m=(s.take f,pieces s f m m,0):=by
 by_cases h4:s.length>65536
 ·rw [splitR_4 hf hm h4] at h;cases h
 by_cases h3:s.length<f+4*m
 ·rw [splitR_3 hf hm h4 h3] at h;cases h
 by_cases hk:okS s f m
 ·exact⟨by omega,by omega,hk,splitR_0 hf hm h4 h3 hk⟩
 ·rw [splitR_2 hf hm h4 h3 hk] at h;cases h
theorem piece_le (s:B) (f m k:Nat):(piece s f m k).length≤s.length:=by
 unfold piece
 simp
 omega
def n8 (h:B) (i:Nat):Nat:=val ((h.drop i).take 8)
def v0:Vt:=⟨0,0,0,0,0,0,[],false,[]⟩
noncomputable def unvP (h:B) (b t:B):Vt×Int:=if(unlO b 2048).2.2≠0 then(v0,(unlO b 2048).2.2) else if(decR t).2.2≠0 then(v0,(decR t).2.2) else
 (⟨n8 h 0,n8 h 8,n8 h 16,n8 h 24,n8 h 32,(unlO b 2048).1,(unlO b 2048).2.1,(decR t).1,(decR t).2.1⟩,0)
theorem unvP_1 {h b t:B}(h1:(unlO b 2048).2.2≠0):unvP h b t=(v0,(unlO b 2048).2.2):=if_pos h1
theorem unvP_2 {h b t:B}(h1:¬(unlO b 2048).2.2≠0) (h2:(decR t).2.2≠0):unvP h b t=(v0,(decR t).2.2):=(if_neg h1).trans (if_pos h2)
theorem unvP_3 {h b t:B}(h1:¬(unlO b 2048).2.2≠0) (h2:¬(decR t).2.2≠0):unvP h b t=(⟨n8 h 0,n8 h 8,n8 h 16,n8 h 24,n8 h 32,(unlO b 2048).1,(unlO b 2048).2.1,(decR t).1,(decR t).2.1⟩,0):=(if_neg h1).trans (if_neg h2)
noncomputable def unvR (s:B):Vt×Int:=if(splitR s 40 2).2.2≠0 then(v0,(splitR s 40 2).2.2) else unvP (s.take 40) (piece s 40 2 0) (piece s 40 2 1)
theorem unvR_1 {s:B}(h:(splitR s 40 2).2.2≠0):unvR s=(v0,(splitR s 40 2).2.2):=if_pos h
theorem unvR_2 {s:B}(h:¬(splitR s 40 2).2.2≠0):unvR s=unvP (s.take 40) (piece s 40 2 0) (piece s 40 2 1):=if_neg h
theorem own103 {l:B}{es:List (List AV)}(h:8≤l.length):E cx (Key.own 45) [.ptr 0 0 0 0] [⟨.box,92,2,0,[[vs (mk l),.list 0 1 es]]⟩]=some (Out.ret (vu (val (l.take 8))),[⟨.box,92,2,0,[[vs (mk (l.drop 8)),.list 0 1 es]]⟩]):=by
 refine(f39_c1 _ _).trans ?_
 have ht:=c116 l 8
 rw [take8 h] at ht
 exact(goTk ht _).trans (goNoU (c146z _ rfl) _ _)
theorem own103r {l:B}(h:8≤l.length):E cx (Key.own 45) [.ptr 0 0 0 0] [⟨.box,90,1,0,[[vs (mk l)]]⟩]=some (Out.ret (vu (val (l.take 8))),[⟨.box,90,1,0,[[vs (mk (l.drop 8))]]⟩]):=by
 refine(f18_c0 _).trans ?_
 have ht:=c116 l 8
 rw [take8 h] at ht
 exact(goTk ht _).trans (goNoU (c146z _ rfl) _ _)
theorem pieces2 (s:B) (f:Nat):pieces s f 2 2=[piece s f 2 0,piece s f 2 1]:=rfl
theorem own102 (s:B) {f:Nat}(hf:f≤65536):((splitR s f 2).2.2=0→E cx (Key.own 44) [vs (mk s),vi f] []=some (Out.ret (.ptr 0 0 0 0),[⟨.box,92,2,0,[[vs (mk (s.take f)),.list 0 1 (rowsB [piece s f 2 0,piece s f 2 1])]]⟩]))∧((splitR s f 2).2.2≠0→E cx (Key.own 44) [vs (mk s),vi f] []=panW (splitR s f 2).2.2):=by
 have e0:=(f39_c0 (mk s) f).trans (goSp (c145 s (f:=f) (m:=2) ⟨by omega,by omega⟩ ⟨by omega,by omega⟩) _)
 refine⟨fun h=> ?_,fun h=>e0.trans (goPan (c99 _ h) _ _)⟩
 refine e0.trans ((goNoS (c99z _ h) _ _).trans ?_)
 obtain⟨_,_,_,h4⟩:=split_ok (m:=2) hf (by omega) h
 have h4':splitR s f 2=_:=h4
 rw [h4',pieces2]
def RPv (x:Option (Out×Heap)) (r:Vt×Int):Prop:=(r.2=0→x=some (Out.ret (.agg (vC r.1)),[]))∧(r.2≠0→x=panW r.2∧r.1=v0)
theorem c98 (s:B):RPv (E cx (Key.fn 39) [vs (mk s)] []) (unvR s):=by
 have e0:=f39 (mk s)
 obtain⟨p,q⟩:=own102 s (f:=40) (by omega)
 by_cases h:(splitR s 40 2).2.2≠0
 ·rw [unvR_1 h]
  exact⟨fun hh=>absurd hh h,fun _=>⟨e0.trans (goPan (q h) _ _),rfl⟩⟩
 have h':(splitR s 40 2).2.2=0:=by simpa using h
 obtain⟨k1,k2,k3,k4⟩:=split_ok (f:=40) (m:=2) (by omega) (by omega) h'
 rw [unvR_2 h]
 have L:(s.take 40).length=40:=by simp;omega
 have d:∀i,((s.take 40).drop i).length=40-i:=fun i=>by rw [List.length_drop,L]
 have hn:(E cx (Key.own 44) [vs (mk s),vi 40] []).bind (fun r=>bif isPan r then none else(some ():Option Unit))=some ():=by
  rw [show E cx (Key.own 44) [vs (mk s),vi 40] []=_ from p h'];rfl
 have e1:=e0.trans (goNo0 (p h') _ _)
 have e2:=e1.trans ((goOp (p h') _).trans ((goNm (own103 (l:=s.take 40) (by omega)) _).trans ((goNm (own103 (l:=(s.take 40).drop 8) (by rw [d];omega)) _).trans ((goNm (own103 (l:=((s.take 40).drop 8).drop 8) (by rw [List.drop_drop,d];omega)) _).trans
  ((goNm (own103 (l:=(((s.take 40).drop 8).drop 8).drop 8) (by rw [List.drop_drop,List.drop_drop,d];omega)) _).trans (goNm (own103 (l:=((((s.take 40).drop 8).drop 8).drop 8).drop 8) (by rw [List.drop_drop,List.drop_drop,List.drop_drop,d];omega)) _))))))
 simp only [List.drop_drop] at e2
 have hp0:=piece_le s 40 2 0
 have hp1:=piece_le s 40 2 1
 have e3:=e2.trans ((goP (ps:=[piece s 40 2 0,piece s 40 2 1]) (i:=0) (n:=0) rfl rfl _).trans (goRBt (c73 (piece s 40 2 0) (by omega) 2048) _))
 by_cases hu:(unlO (piece s 40 2 0) 2048).2.2≠0
 ·rw [unvP_1 hu]
  exact⟨fun hh=>absurd hh hu,fun _=>⟨e3.trans (goPan (c144 _ _ hu) _ _),rfl⟩⟩
 have hu':(unlO (piece s 40 2 0) 2048).2.2=0:=by simpa using hu
 have e4:=e3.trans ((goNoB (c144z _ _ hu') _ _).trans ((goP (ps:=[piece s 40 2 0,piece s 40 2 1]) (i:=1) (n:=1) rfl rfl _).trans (goTok (c49 (piece s 40 2 1) (by omega)) _)))
 by_cases hd:(decR (piece s 40 2 1)).2.2≠0
 ·rw [unvP_2 hu hd]
  exact⟨fun hh=>absurd hh hd,fun _=>⟨e4.trans (goPan (c104 _ _ hd) _ _),rfl⟩⟩
 have hd':(decR (piece s 40 2 1)).2.2=0:=by simpa using hd
 rw [unvP_3 hu hd]
 refine⟨fun _=>e4.trans ((goNoT (c104z _ _ hd') _ _).trans ?_),fun hh=>absurd rfl hh⟩
 rfl
theorem c27 (s:B):RVt (E cx (Key.fn 14) [vs (mk s)] []) (unvR s).1 (unvR s).2:=by
 obtain⟨p,q⟩:=c98 s
 have e0:=f14 (mk s)
 by_cases h:(unvR s).2=0
 ·refine⟨.list 0 1 (ints (unvR s).1.on),.list 0 2 (prs (unvR s).1.p),e0.trans ((goNoV (p h) _ _).trans ?_),rfl,rfl⟩
  rw [h]
 ·obtain⟨q1,q2⟩:=q h
  refine⟨.val (.slice none 0 0),.val (.slice none 0 0),e0.trans ((goPan q1 _ _).trans ?_),?_,?_⟩
  ·rw [q2];rfl
  ·rw [q2];rfl
  ·rw [q2];rfl
def a0:Ag:=⟨0,false,[],v0⟩
noncomputable def unaP (s:B):Ag×Int:=if(decR (piece s 8 2 0)).2.2≠0 then(a0,(decR (piece s 8 2 0)).2.2) else if(unvR (piece s 8 2 1)).2≠0 then(a0,(unvR (piece s 8 2 1)).2) else
 (⟨n8 s 0,(decR (piece s 8 2 0)).1,(decR (piece s 8 2 0)).2.1,(unvR (piece s 8 2 1)).1⟩,0)
theorem unaP_1 {s:B}(h:(decR (piece s 8 2 0)).2.2≠0):unaP s=(a0,(decR (piece s 8 2 0)).2.2):=if_pos h
theorem unaP_2 {s:B}(h:¬(decR (piece s 8 2 0)).2.2≠0) (h2:(unvR (piece s 8 2 1)).2≠0):unaP s=(a0,(unvR (piece s 8 2 1)).2):=(if_neg h).trans (if_pos h2)
theorem unaP_3 {s:B}(h:¬(decR (piece s 8 2 0)).2.2≠0) (h2:¬(unvR (piece s 8 2 1)).2≠0):unaP s=(⟨n8 s 0,(decR (piece s 8 2 0)).1,(decR (piece s 8 2 0)).2.1,(unvR (piece s 8 2 1)).1⟩,0):=(if_neg h).trans (if_neg h2)
noncomputable def unaR (s:B):Ag×Int:=if(splitR s 8 2).2.2≠0 then(a0,(splitR s 8 2).2.2) else unaP s
theorem unaR_1 {s:B}(h:(splitR s 8 2).2.2≠0):unaR s=(a0,(splitR s 8 2).2.2):=if_pos h
theorem unaR_2 {s:B}(h:¬(splitR s 8 2).2.2≠0):unaR s=unaP s:=if_neg h
theorem c30 (s:B):RAg (E cx (Key.fn 16) [vs (mk s)] []) (unaR s).1 (unaR s).2:=by
 have e0:=f16 (mk s)
 obtain⟨p,q⟩:=own102 s (f:=8) (by omega)
 have nil3:∀ {e:Int}{x:Option (Out×Heap)},x=some (Out.ret (.tuple [.agg [vu 0,vbool false,.val (.slice none 0 0),vu 0,vu 0,vu 0,vu 0,vu 0,vi 0,.val (.slice none 0 0),vbool false,.val (.slice none 0 0)],vi e]),[])→RAg x a0 e:=fun h=>⟨_,_,_,h,rfl,rfl,rfl⟩
 by_cases h:(splitR s 8 2).2.2≠0
 ·rw [unaR_1 h]
  exact nil3 (e0.trans (goPan (q h) _ _))
 have h':(splitR s 8 2).2.2=0:=by simpa using h
 obtain⟨k1,k2,k3,k4⟩:=split_ok (f:=8) (m:=2) (by omega) (by omega) h'
 rw [unaR_2 h]
 have L:(s.take 8).length=8:=by simp;omega
 have hp0:=piece_le s 8 2 0
 have e1:=(e0.trans (goNo0 (p h') _ _)).trans ((goOp (p h') _).trans ((goNm (own103 (l:=s.take 8) (by omega)) _).trans ((goP (ps:=[piece s 8 2 0,piece s 8 2 1]) (i:=0) (n:=0) rfl rfl _).trans (goTok (c49 (piece s 8 2 0) (by omega)) _))))
 by_cases hd:(decR (piece s 8 2 0)).2.2≠0
 ·rw [unaP_1 hd]
  exact nil3 (e1.trans (goPan (c104 _ _ hd) _ _))
 have hd':(decR (piece s 8 2 0)).2.2=0:=by simpa using hd
 have e2:=e1.trans ((goNoT (c104z _ _ hd') _ _).trans (goP (ps:=[piece s 8 2 0,piece s 8 2 1]) (i:=1) (n:=1) rfl rfl _))
 obtain⟨u,w⟩:=c98 (piece s 8 2 1)
 by_cases hv:(unvR (piece s 8 2 1)).2≠0
 ·rw [unaP_2 hd hv]
  exact nil3 (e2.trans (goPan (w hv).1 _ _))
 have hv':(unvR (piece s 8 2 1)).2=0:=by simpa using hv
 rw [unaP_3 hd hv]
 refine⟨.list 0 2 (prs (decR (piece s 8 2 0)).2.1),.list 0 1 (ints (unvR (piece s 8 2 1)).1.on),.list 0 2 (prs (unvR (piece s 8 2 1)).1.p),e2.trans ((goNoV (u hv') _ _).trans ?_),rfl,rfl,rfl⟩
 rw [List.take_take]
 rfl
def recB (a b c:Nat):B:=wB [a,b,c]
theorem c32 (a b c:Nat):E cx (Key.fn 24) [.agg [vu a,vu b,vu c]] []=some (Out.ret (vs (mk (recB a b c))),[]):=(f24 _ _ _).trans (goS (c101 [a,b,c] (by simp)) _)
def unrR (s:B):Nat×Nat×Nat×Int:=if s.length≠24 then(0,0,0,2) else(n8 s 0,n8 s 8,n8 s 16,0)
theorem unrR_1 {s:B}(h:s.length≠24):unrR s=(0,0,0,2):=if_pos h
theorem unrR_2 {s:B}(h:¬s.length≠24):unrR s=(n8 s 0,n8 s 8,n8 s 16,0):=if_neg h
theorem c31 (s:B):E cx (Key.fn 18) [vs (mk s)] []=some (Out.ret (.tuple [.agg [vu (unrR s).1,vu (unrR s).2.1,vu (unrR s).2.2.1],vi (unrR s).2.2.2]),[]):=by
 refine(f18 _).trans ?_
 by_cases h:s.length≠24
 ·rw [unrR_1 h]
  exact goEn (show((s.length:Nat):Int)≠24 by omega) _ _
 ·rw [unrR_2 h]
  refine(goE (show((s.length:Nat):Int)=24 by omega) _ _).trans ((goN1 (own103r (l:=s) (by omega)) _).trans ((goN1 (own103r (l:=s.drop 8) (by simp;omega)) _).trans ((goN1 (own103r (l:=(s.drop 8).drop 8) (by simp;omega)) _).trans ?_)))
  rw [List.drop_drop]
  rfl
theorem c95 {c n:Int}(hc:RI c) (hn:0<n):E cx (Key.fn 13) [vi c,vi n] []=some (Out.ret (vi (pickI c n)),[]):=by
 refine(f13 c n).trans ?_
 unfold pickI
 by_cases h:c<0
 ·refine(goD h _ _).trans ((goN (by omega) _ _).trans ?_)
  rw [wr_add (by omega) (by omega),show Int.sub 0 (c+1)=0-(c+1) from rfl,show(0:Int)-(c+1) = -(c+1) by omega,wr_id (by omega) (by omega),if_pos h]
 ·refine(goDn h _ _).trans ((goN (by omega) _ _).trans ?_)
  rw [if_neg h]
structure Rw where
 a:Int
 b:Int
 c:Int
 d:Int
 e:Int
 n:Int
 on:List Int
 ps:List Int
 bad:Bool
structure RwOk (x:Rw):Prop where
 a:RI x.a
 b:RI x.b
 c:RI x.c
 d:RI x.d
 e:RI x.e
 n:RI x.n
 on:∀r∈x.on,RI r
 ps:∀r∈x.ps,RI r
abbrev rC (x:Rw):List AV:=[vi x.a,vi x.b,vi x.c,vi x.d,vi x.e,vi x.n,.list 0 1 (ints x.on),.list 0 1 (ints x.ps),vbool x.bad]
def pk (c n:Int):Nat:=(pickI c n).toNat
def rawV (x:Rw):Vt:=⟨pk x.a 300,pk x.b 9,pk x.c 4,pk x.d 20,pk x.e 20,pickI x.n 40,rawL (pickI x.n 40) x.on,x.bad,tokP x.ps⟩
theorem c25 (x:Rw) (h:RwOk x):E cx (Key.fn 6) [.agg (rC x)] []=some (Out.ret (.agg (vC (rawV x))),[]):=by
 refine(f6 _ _ _ _ _ _ _ _ _).trans ((goI (c95 h.a (by omega)) _).trans ((goI (c95 h.b (by omega)) _).trans ((goI (c95 h.c (by omega)) _).trans ((goI (c95 h.d (by omega)) _).trans ((goI (c95 h.e (by omega)) _).trans ((goBx (c55 h.n (by omega) (by omega) h.on) _).trans ((goTx (c37 x.ps h.ps x.bad) _).trans ?_)))))))
 rw [wu_pick (by omega) (by omega),wu_pick (by omega) (by omega),wu_pick (by omega) (by omega),wu_pick (by omega) (by omega),wu_pick (by omega) (by omega)]
 rfl
def rawA (x:Rw) (by':Int) (q:List Int):Ag:=⟨pk by' 100,decide (pickI by' 7=0),tokP q,rawV x⟩
theorem c28 (x:Rw) (h:RwOk x) {by':Int}(hb:RI by') (q:List Int) (hq:∀r∈q,RI r):E cx (Key.fn 7) [.agg (rC x),vi by',.list 0 1 (ints q)] []=some (Out.ret (.agg (aC (rawA x by' q))),[]):=by
 refine(f7 _ _ _ _ _ _ _ _ _ _ _).trans ((goI (c95 hb (by omega)) _).trans ((goI (c95 hb (by omega)) _).trans ?_))
 unfold rawA
 by_cases h7:pickI by' 7=0
 ·refine(goD h7 _ _).trans ((goTx (c37 q hq true) _).trans ((goV (c25 x h) _).trans ?_))
  rw [wu_pick (by omega) (by omega),decide_eq_true h7]
  rfl
 ·refine(goDn h7 _ _).trans ((goTx (c37 q hq false) _).trans ((goV (c25 x h) _).trans ?_))
  rw [wu_pick (by omega) (by omega),decide_eq_false h7]
  rfl
def eqVt (v w:Vt):Prop:=(v.a=w.a∧v.b=w.b∧v.c=w.c∧v.d=w.d∧v.e=w.e)∧(v.n=w.n∧v.on=w.on)∧v.f=w.f∧v.p=w.p
theorem eqVt_eq {v w:Vt}:eqVt v w↔v=w:=by
 constructor
 ·rintro⟨⟨h1,h2,h3,h4,h5⟩,⟨h6,h7⟩,h8,h9⟩
  cases v;cases w
  simp at *
  exact⟨h1,h2,h3,h4,h5,h6,h7,h8,h9⟩
 ·rintro rfl
  exact⟨⟨rfl,rfl,rfl,rfl,rfl⟩,⟨rfl,rfl⟩,rfl,rfl⟩
theorem data5 (v w:Vt):(decide ((v.a:Int)=w.a)&&(decide ((v.b:Int)=w.b)&&(decide ((v.c:Int)=w.c)&&(decide ((v.d:Int)=w.d)&&(decide ((v.e:Int)=w.e)&&true)))))=decide (v.a=w.a∧v.b=w.b∧v.c=w.c∧v.d=w.d∧v.e=w.e):=by
 simp only [Int.natCast_inj,Bool.and_true,Bool.decide_and]
def RB2 (x:Option (Out×Heap)) (P:Prop):Prop:=∃b,x=rb b∧(b=true↔P)
theorem RB2.t {x:Option (Out×Heap)}{P:Prop}(h:RB2 x P) (hp:P):x=rb true:=by
 obtain⟨b,h1,h2⟩:=h
 rw [h2.2 hp] at h1
 exact h1
theorem RB2.f {x:Option (Out×Heap)}{P:Prop}(h:RB2 x P) (hp:¬P):x=rb false:=by
 obtain⟨b,h1,h2⟩:=h
 cases b with
 |true=>exact absurd (h2.1 rfl) hp
 |false=>exact h1
theorem c33 (v w:Vt) (h1:v.on.length≤4000000) (h2:v.p.length≤4000000):RB2 (E cx (Key.fn 20) [.agg (vC v),.agg (vC w)] []) (v=w):=by
 have ho:=c67 v.n w.n v.on w.on h1
 have ht:=c47 v.f w.f v.p w.p h2
 have e0:=f20 v.a v.b v.c v.d v.e v.n (ints v.on) v.f (prs v.p) w.a w.b w.c w.d w.e w.n (ints w.on) w.f (prs w.p)
 rw [data5 v w] at e0
 have no:¬eqVt v w→E cx (Key.fn 20) [.agg (vC v),.agg (vC w)] []=rb false→RB2 (E cx (Key.fn 20) [.agg (vC v),.agg (vC w)] []) (v=w):=fun hn h=>⟨false,h,(fun h=>by cases h),fun h=>absurd (eqVt_eq.2 h) hn⟩
 have nb:∀(c:Bool),(bif c then some (Out.ret (vbool false),([]:Heap)) else some (Out.ret (vbool false),[]))=rb false:=fun c=>by cases c<;>rfl
 by_cases a:v.n=w.n∧v.on=w.on
 ·rw [decide_eq_true a] at ho
  have e1:=e0.trans (goT ho _ _)
  by_cases b:v.f=w.f∧v.p=w.p
  ·rw [decide_eq_true b] at ht
   have e2:=e1.trans (goT ht _ _)
   by_cases c:v.a=w.a∧v.b=w.b∧v.c=w.c∧v.d=w.d∧v.e=w.e
   ·rw [decide_eq_true c] at e2
    exact⟨true,e2,fun _=>eqVt_eq.1 ⟨c,a,b⟩,fun _=>rfl⟩
   ·rw [decide_eq_false c] at e2
    exact no (fun h=>c h.1) e2
  ·rw [decide_eq_false b] at ht
   exact no (fun h=>b h.2.2) ((e1.trans (goF ht _ _)).trans (nb _))
 ·rw [decide_eq_false a] at ho
  have e1:=e0.trans (goF ho _ _)
  refine no (fun h=>a h.2.1) ?_
  by_cases b:v.f=w.f∧v.p=w.p
  ·rw [decide_eq_true b] at ht
   exact(e1.trans (goT ht _ _)).trans (nb _)
  ·rw [decide_eq_false b] at ht
   exact(e1.trans (goF ht _ _)).trans (nb _)
theorem ag_eq {a b:Ag}:a=b↔a.by0=b.by0∧(a.g=b.g∧a.q=b.q)∧a.v=b.v:=by
 constructor
 ·rintro rfl;exact⟨rfl,⟨rfl,rfl⟩,rfl⟩
 ·rintro⟨h1,⟨h2,h3⟩,h4⟩
  cases a;cases b
  simp at *
  exact⟨h1,h2,h3,h4⟩
theorem c34 (a b:Ag) (h0:a.q.length≤4000000) (h1:a.v.on.length≤4000000) (h2:a.v.p.length≤4000000):RB2 (E cx (Key.fn 21) [.agg (aC a),.agg (aC b)] []) (a=b):=by
 have ht:=c47 a.g b.g a.q b.q h0
 have hv:=c33 a.v b.v h1 h2
 have e0:=f21 a.by0 a.g (prs a.q) a.v.a a.v.b a.v.c a.v.d a.v.e a.v.n (ints a.v.on) a.v.f (prs a.v.p) b.by0 b.g (prs b.q) b.v.a b.v.b b.v.c b.v.d b.v.e b.v.n (ints b.v.on) b.v.f (prs b.v.p)
 have no:a≠b→E cx (Key.fn 21) [.agg (aC a),.agg (aC b)] []=rb false→RB2 (E cx (Key.fn 21) [.agg (aC a),.agg (aC b)] []) (a=b):=fun hn h=>⟨false,h,(fun h=>by cases h),fun h=>absurd h hn⟩
 have nb:∀(c:Bool),(bif c then some (Out.ret (vbool false),([]:Heap)) else some (Out.ret (vbool false),[]))=rb false:=fun c=>by cases c<;>rfl
 by_cases x1:a.g=b.g∧a.q=b.q
 ·rw [decide_eq_true x1] at ht
  have e1:=e0.trans (goT ht _ _)
  by_cases x2:a.v=b.v
  ·have e2:=e1.trans (goT (hv.t x2) _ _)
   by_cases x3:a.by0=b.by0
   ·exact⟨true,e2.trans (goD (by omega) _ _),fun _=>ag_eq.2 ⟨x3,x1,x2⟩,fun _=>rfl⟩
   ·exact no (fun h=>x3 (ag_eq.1 h).1) (e2.trans (goDn (by omega) _ _))
  ·exact no (fun h=>x2 (ag_eq.1 h).2.2) ((e1.trans (goF (hv.f x2) _ _)).trans (nb _))
 ·rw [decide_eq_false x1] at ht
  have e1:=e0.trans (goF ht _ _)
  refine no (fun h=>x1 (ag_eq.1 h).2.1) ?_
  by_cases x2:a.v=b.v
  ·exact(e1.trans (goT (hv.t x2) _ _)).trans (nb _)
  ·exact(e1.trans (goF (hv.f x2) _ _)).trans (nb _)
def trn (t:B) (a:Int) (c:UInt8):B:=bif decide (t.length=0) then t else t.take (pickI a t.length).toNat++[c]++t.drop ((pickI a t.length).toNat+1)
theorem c35 (t:B) (ht:t.length≤100000) (a:Int) (ha:RI a) (c:UInt8):E cx (Key.fn 12) [vs (mk t),vi a,vb c.toNat] []=some (Out.ret (vs (mk (trn t a c))),[]):=by
 unfold trn
 by_cases h0:t.length=0
 ·rw [decide_eq_true h0]
  refine(f12 _ _ _).trans ?_
  rw [sz_mk]
  exact goD (by omega) _ _
 ·rw [decide_eq_false h0,cond_false]
  have hp:=pickI_lt (c:=a) (n:=(t.length:Int)) (by omega)
  obtain⟨k,hk⟩:∃k:Nat,pickI a t.length=k:=⟨(pickI a t.length).toNat,by omega⟩
  rw [hk] at hp ⊢
  have hs:Go.strOfNums [(c.toNat:Int)]=mk [c]:=by
   unfold Go.strOfNums
   simp
  refine(f12 _ _ _).trans ?_
  rw [sz_mk]
  refine(goDn (by omega) _ _).trans ((goI (c95 ha (by omega)) _).trans ?_)
  rw [hk,wS (by omega),Int.toNat_natCast,Int.toNat_natCast,hs,ext_mk,app_mk,ext_mk,app_mk]
  have h1:((t.take k).drop 0).length≤100000:=by simp;omega
  have h2:(((t.take k).drop 0++[c]).length:Int)≤100001:=by rw [List.length_append];simp;omega
  refine(goY (by omega) _ _).trans ((goY (by omega) _ _).trans ((goN (show ¬(((((t.take k).drop 0).length+1:Nat):Int)>9223372036854775807) by omega) _ _).trans ((goY (by omega) _ _).trans ((goY (by omega) _ _).trans ((goN (show ¬((((((t.take k).drop 0++[c]).length+((t.take t.length).drop (k+1)).length:Nat)):Int)>9223372036854775807) by
   have:((t.take t.length).drop (k+1)).length≤100000:=by simp;omega
   omega) _ _).trans ?_)))))
  rw [List.drop_zero,show(ByteArray.size (mk t))=t.length from rfl,List.take_length]
end
section
def U8 (w:Nat):Prop:=w<18446744073709551616
theorem wB_cons (w:Nat) (l:List Nat):wB (w::l)=put w 8++wB l:=rfl
theorem n8_z {w:Nat}(r:B) (h:U8 w):n8 (put w 8++r) 0=w:=by
 unfold n8
 rw [List.drop_zero,take_put,val_put8 h]
theorem n8_s (w:Nat) (r:B) (i:Nat):n8 (put w 8++r) (8+i)=n8 r i:=by
 unfold n8
 rw [←List.drop_drop,drop_put]
theorem put_n8 {s:B}{i:Nat}(h:i+8≤s.length):put (n8 s i) 8=(s.drop i).take 8:=by
 unfold n8
 have hl:((s.drop i).take 8).length=8:=by simp;omega
 have:=put_val ((s.drop i).take 8)
 rw [hl] at this
 exact this
theorem n8_lt (s:B) (i:Nat):U8 (n8 s i):=by
 unfold U8 n8
 have h:=val_lt ((s.drop i).take 8)
 have hl:((s.drop i).take 8).length≤8:=by simp;omega
 have:256 ^ ((s.drop i).take 8).length≤256 ^ 8:=Nat.pow_le_pow_right (by omega) hl
 omega
theorem cut8 {s:B}{i:Nat}(_h:i+8≤s.length):s.drop i=(s.drop i).take 8++s.drop (i+8):=by
 rw [←List.drop_drop,List.take_append_drop]
theorem wB_n8:∀(d i:Nat) (s:B),i+8*d=s.length→wB ((List.range d).map fun k=>n8 s (i+8*k))=s.drop i
 | 0,i,s,h=>by
  rw [List.drop_of_length_le (by omega)]
  rfl
 |d+1,i,s,h=>by
  rw [List.range_succ_eq_map,List.map_cons,List.map_map,wB_cons]
  have ih:=wB_n8 d (i+8) s (by omega)
  have he:((fun k=>n8 s (i+8*k)) ∘ Nat.succ)=fun k=>n8 s (i+8+8*k):=by
   funext k
   show n8 s (i+8*(k+1))=_
   congr 1
   omega
  rw [he,ih,Nat.mul_zero,Nat.add_zero,put_n8 (by omega)]
  exact(cut8 (by omega)).symm
structure VOk (v:Vt):Prop where
 a:U8 v.a
 b:U8 v.b
 c:U8 v.c
 d:U8 v.d
 e:U8 v.e
 right:rightB v.n v.on=true
 tok:rightT v.p=true
 inu:inU v.p
theorem right_k {n:Int}{l:List Int}(h:rightB n l=true):n.toNat≤2048∧((n.toNat:Nat):Int)=n∧(l.map τ).Pairwise (· < ·)∧(∀x∈l.map τ,x<n.toNat)∧(l.map τ).map Int.ofNat=l:=by
 obtain⟨h1,h2,h3,h4⟩:=right_iff.1 h
 refine⟨by omega,by omega,?_,?_,?_⟩
 ·rw [List.pairwise_map]
  exact h3.imp_of_mem fun {a b} ha hb hab=>by have:=h4 a ha;have:=h4 b hb;omega
 ·intro x hx
  obtain⟨y,hy,rfl⟩:=List.mem_map.1 hx
  have:=h4 y hy
  omega
 ·rw [List.map_map]
  have:∀(k:List Int),(∀y∈k,0≤y)→k.map (Int.ofNat ∘ τ)=k:=fun k hk=>by
   induction k with
   |nil=>rfl
   |cons a k ih =>
    have:=hk a (List.mem_cons_self ..)
    rw [List.map_cons,ih fun y hy=>hk y (List.mem_cons_of_mem _ hy)]
    congr 1
    show((a.toNat:Nat):Int)=a
    omega
  exact this l fun y hy=>(h4 y hy).1
theorem joined2_len (x a b:B):(joined x [a,b]).length=x.length+8+(a.length+b.length):=by
 rw [joined_len]
 simp
theorem joinR2 {x a b:B}(h:(joined x [a,b]).length≤65536):joinR x [a,b]=(joined x [a,b],0):=by
 rw [joined_len] at h
 exact joinR_ok (by simp) h
theorem split2 {x a b:B}{f:Nat}(hf:x.length=f) (h:(joined x [a,b]).length≤65536) (h6:f≤65536):(splitR (joined x [a,b]) f 2).2.2=0∧(joined x [a,b]).take f=x∧piece (joined x [a,b]) f 2 0=a∧piece (joined x [a,b]) f 2 1=b:=by
 rw [joined_len] at h
 have hsp:splitR (joined x [a,b]) f 2=(x,[a,b],0):=by
  have:=split_joined (x:=x) (P:=[a,b]) (by simp) h
  rw [hf] at this
  exact this
 have h0:(splitR (joined x [a,b]) f 2).2.2=0:=by rw [hsp]
 obtain⟨_,_,_,h4⟩:=split_ok (f:=f) (m:=2) h6 (by omega) h0
 have h4':splitR (joined x [a,b]) f 2=((joined x [a,b]).take f,pieces (joined x [a,b]) f 2 2,0):=h4
 rw [pieces2,hsp] at h4'
 simp only [Prod.mk.injEq,List.cons.injEq,and_true] at h4'
 exact⟨h0,h4'.1.symm,h4'.2.1.symm,h4'.2.2.symm⟩
def voteB (v:Vt):B:=joined (datB v) [lstB v.n.toNat (v.on.map τ),encB v.f v.p]
theorem lstO_ok {n:Int}{l:List Int}(h:rightB n l=true):lstO n l=(lstB n.toNat (l.map τ),0):=by
 unfold lstO
 rw [h]
 rfl
theorem vote_size {v:Vt}(hr:rightB v.n v.on=true) (ht:rightT v.p=true):(voteB v).length=48+(v.n.toNat/8+1)+(1+16*v.p.length)∧(voteB v).length≤40000:=by
 have h1:=(right_k hr).1
 have h2:=rightT_len ht
 have h3:(voteB v).length=_:=joined2_len (datB v) (lstB v.n.toNat (v.on.map τ)) (encB v.f v.p)
 rw [datB_len,lst_len,encB_len] at h3
 omega
theorem voteR_ok {v:Vt}(hr:rightB v.n v.on=true) (ht:rightT v.p=true):voteR v=(voteB v,0):=by
 have hl:=lstO_ok hr
 have he:=encR_ok (f:=v.f) ht
 rw [voteR_3 (by rw [hl];simp) (by rw [he];simp),hl,he]
 have h6:=(vote_size hr ht).2
 exact joinR2 (x:=datB v) (a:=lstB v.n.toNat (v.on.map τ)) (b:=encB v.f v.p) (by unfold voteB at h6;omega)
theorem n8_5 {a b c d e:Nat}(ha:U8 a) (hb:U8 b) (hc:U8 c) (hd:U8 d) (he:U8 e):n8 (wB [a,b,c,d,e]) 0=a∧n8 (wB [a,b,c,d,e]) 8=b∧n8 (wB [a,b,c,d,e]) 16=c∧n8 (wB [a,b,c,d,e]) 24=d∧n8 (wB [a,b,c,d,e]) 32=e:=by
 simp only [wB_cons]
 refine⟨n8_z _ ha,?_,?_,?_,?_⟩
 ·rw [show(8:Nat)=8+0 from rfl,n8_s,n8_z _ hb]
 ·rw [show(16:Nat)=8+(8+0) from rfl,n8_s,n8_s,n8_z _ hc]
 ·rw [show(24:Nat)=8+(8+(8+0)) from rfl,n8_s,n8_s,n8_s,n8_z _ hd]
 ·rw [show(32:Nat)=8+(8+(8+(8+0))) from rfl,n8_s,n8_s,n8_s,n8_s,n8_z _ he]
theorem unv_vote {v:Vt}(h:VOk v):unvR (voteB v)=(v,0):=by
 have hs:=(vote_size h.right h.tok).2
 obtain⟨h0,q1,q2,q3⟩:=split2 (x:=datB v) (a:=lstB v.n.toNat (v.on.map τ)) (b:=encB v.f v.p) (f:=40) (datB_len v) (by unfold voteB at hs;omega) (by omega)
 have h0':(splitR (voteB v) 40 2).2.2=0:=h0
 rw [unvR_2 (by rw [h0'];simp)]
 unfold voteB
 rw [q1,q2,q3]
 obtain⟨r1,r2,r3,r4,r5⟩:=right_k h.right
 have hu:=unl_lst (most:=2048) r1 r3 r4 (by omega)
 have hd:=decR_enc v.f v.p h.tok h.inu
 rw [unvP_3 (by rw [hu];simp) (by rw [hd];simp),hu,hd,r5,r2]
 obtain⟨e1,e2,e3,e4,e5⟩:=n8_5 h.a h.b h.c h.d h.e
 unfold datB
 rw [e1,e2,e3,e4,e5]
theorem n8_take {s:B}{i k:Nat}(h:i+8≤k):n8 (s.take k) i=n8 s i:=by
 unfold n8
 rw [List.drop_take,List.take_take,Nat.min_eq_left (by omega)]
structure VOk' (v:Vt):Prop where
 a:U8 v.a
 b:U8 v.b
 c:U8 v.c
 d:U8 v.d
 e:U8 v.e
 right:rightB v.n v.on=true
 tok:rightT v.p=true
theorem vote_unv {s:B}(h:(unvR s).2=0):VOk' (unvR s).1∧voteR (unvR s).1=(s,0):=by
 by_cases h1:(splitR s 40 2).2.2≠0
 ·rw [unvR_1 h1] at h;exact absurd h h1
 rw [unvR_2 h1] at h ⊢
 have h1':(splitR s 40 2).2.2=0:=by simpa using h1
 obtain⟨k1,k2,k3,k4⟩:=split_ok (f:=40) (m:=2) (by omega) (by omega) h1'
 by_cases h2:(unlO (piece s 40 2 0) 2048).2.2≠0
 ·rw [unvP_1 h2] at h;exact absurd h h2
 by_cases h3:(decR (piece s 40 2 1)).2.2≠0
 ·rw [unvP_2 h2 h3] at h;exact absurd h h3
 rw [unvP_3 h2 h3]
 obtain⟨u1,u2,u3⟩:=unl_ok (t:=piece s 40 2 0) (most:=2048) (by simpa using h2)
 obtain⟨d1,d2⟩:=decR_right (l:=piece s 40 2 1) (f:=(decR (piece s 40 2 1)).1) (q:=(decR (piece s 40 2 1)).2.1) (by
  have h3':(decR (piece s 40 2 1)).2.2=0:=by simpa using h3
  rw [←h3'])
 refine⟨⟨n8_lt _ _,n8_lt _ _,n8_lt _ _,n8_lt _ _,n8_lt _ _,u3,d1⟩,?_⟩
 have he:=encR_ok (f:=(decR (piece s 40 2 1)).1) d1
 rw [voteR_3 (by simp only;rw [u1];simp) (by simp only;rw [he];simp)]
 simp only
 rw [u1,he,d2]
 have hb:=(back_join (s:=s) (f:=40) (m:=2) (by omega) (by omega) k1 k3.2.2).1 k3
 rw [pieces2] at hb
 have hd:∀(x1 x2 x3 x4:_) ,datB (⟨n8 (s.take 40) 0,n8 (s.take 40) 8,n8 (s.take 40) 16,n8 (s.take 40) 24,n8 (s.take 40) 32,x1,x2,x3,x4⟩:Vt)=s.take 40:=fun _ _ _ _=>by
  have:=wB_n8 5 0 (s.take 40) (by simp;omega)
  rw [List.drop_zero] at this
  exact this
 rw [hd]
 exact hb
def aggB (a:Ag):B:=joined (wB [a.by0]) [encB a.g a.q,voteB a.v]
structure AOk (a:Ag):Prop where
 by0:U8 a.by0
 tok:rightT a.q=true
 inu:inU a.q
 v:VOk a.v
 size:(aggB a).length≤65536
theorem agg_len (a:Ag):(aggB a).length=16+(1+16*a.q.length)+(voteB a.v).length:=by
 have h3:(aggB a).length=_:=joined2_len (wB [a.by0]) (encB a.g a.q) (voteB a.v)
 rw [wB_len,encB_len] at h3
 simp only [List.length_cons,List.length_nil] at h3
 omega
theorem aggR_ok {a:Ag}(h:AOk a):aggR a=(aggB a,0):=by
 have he:=encR_ok (f:=a.g) h.tok
 have hv:=voteR_ok h.v.right h.v.tok
 rw [aggR_3 (by rw [he];simp) (by rw [hv];simp),he,hv]
 exact joinR2 h.size
theorem una_agg {a:Ag}(h:AOk a):unaR (aggB a)=(a,0):=by
 obtain⟨h0,q1,q2,q3⟩:=split2 (x:=wB [a.by0]) (a:=encB a.g a.q) (b:=voteB a.v) (f:=8) (wB_len _) h.size (by omega)
 have h0':(splitR (aggB a) 8 2).2.2=0:=h0
 have q2':piece (aggB a) 8 2 0=_:=q2
 have q3':piece (aggB a) 8 2 1=_:=q3
 have hd:=decR_enc a.g a.q h.tok h.inu
 have hu:=unv_vote h.v
 rw [unaR_2 (by rw [h0'];simp),unaP_3 (by rw [q2',hd];simp) (by rw [q3',hu];simp),q2',q3',hd,hu]
 have hn:n8 (aggB a) 0=a.by0:=by
  rw [←n8_take (k:=8) (by omega)]
  have q1':(aggB a).take 8=_:=q1
  rw [q1',wB_cons]
  exact n8_z _ h.by0
 rw [hn]
theorem rec_len (a b c:Nat):(recB a b c).length=24:=wB_len _
theorem unr_rec {a b c:Nat}(ha:U8 a) (hb:U8 b) (hc:U8 c):unrR (recB a b c)=(a,b,c,0):=by
 rw [unrR_2 (by rw [rec_len];simp)]
 unfold recB
 simp only [wB_cons]
 rw [n8_z _ ha,show(8:Nat)=8+0 from rfl,n8_s,n8_z _ hb,show(16:Nat)=8+(8+0) from rfl,n8_s,n8_s,n8_z _ hc]
theorem pk_lt {c n:Int}(hn:0<n) (h2:n<1000):pk c n<1000∧((pk c n:Nat):Int)=pickI c n:=by
 have:=pickI_lt (c:=c) hn
 unfold pk
 omega
theorem pk_u8 {c n:Int}(hn:0<n) (h2:n<1000):U8 (pk c n):=by
 have:=(pk_lt (c:=c) hn h2).1
 unfold U8
 omega
theorem raw_ok (x:Rw):VOk (rawV x):=by
 have hp:=pickI_lt (c:=x.n) (n:=40) (by omega)
 exact⟨pk_u8 (by omega) (by omega),pk_u8 (by omega) (by omega),pk_u8 (by omega) (by omega),pk_u8 (by omega) (by omega),pk_u8 (by omega) (by omega),raw_right hp.1 (by omega) _,tokP_right _,tokP_inU _⟩
theorem raw_size (x:Rw):(voteB (rawV x)).length≤600:=by
 have hp:=pickI_lt (c:=x.n) (n:=40) (by omega)
 have h1:=(vote_size (raw_ok x).right (raw_ok x).tok).1
 have h2:=tokP_len x.ps
 have h3:(rawV x).p=tokP x.ps:=rfl
 have h4:(rawV x).n=pickI x.n 40:=rfl
 rw [h3,h4] at h1
 omega
theorem rawA_ok (x:Rw) (by':Int) (q:List Int):AOk (rawA x by' q)∧(aggB (rawA x by' q)).length≤1200:=by
 have h1:=raw_size x
 have h2:=tokP_len q
 have h3:=agg_len (rawA x by' q)
 have h4:(rawA x by' q).v=rawV x:=rfl
 have h5:(rawA x by' q).q=tokP q:=rfl
 rw [h4,h5] at h3
 exact⟨⟨pk_u8 (by omega) (by omega),tokP_right _,tokP_inU _,raw_ok x,by omega⟩,by omega⟩
theorem raw_on (x:Rw):(rawV x).on.length≤4000000∧(rawV x).p.length≤4000000:=by
 have h1:=raw_len (pickI x.n 40) x.on
 have h2:=tokP_len x.ps
 exact⟨by show(rawL _ _).length≤_;omega,by show(tokP _).length≤_;omega⟩
end
section
instance (w:Nat):Decidable (U8 w):=by unfold U8;infer_instance
abbrev nlV:AV := .val (.slice none 0 0)
def vn (n:Int):Vt:=⟨0,0,0,0,0,n,[],false,[]⟩
theorem n26 (a b c d e n:Int) (f:Bool):E cx (Key.fn 8) [.agg [vu a,vu b,vu c,vu d,vu e,vi n,nlV,vbool f,nlV]] []=E cx (Key.fn 8) [.agg [vu a,vu b,vu c,vu d,vu e,vi n,.list 0 1 [],vbool f,.list 0 2 []]] []:=E_norm (by kernel_rfl) (by kernel_rfl)
theorem n29 (i:Int) (g:Bool) (a b c d e n:Int) (f:Bool):E cx (Key.fn 10) [.agg [vu i,vbool g,nlV,vu a,vu b,vu c,vu d,vu e,vi n,nlV,vbool f,nlV]] []=E cx (Key.fn 10) [.agg [vu i,vbool g,.list 0 2 [],vu a,vu b,vu c,vu d,vu e,vi n,.list 0 1 [],vbool f,.list 0 2 []]] []:=E_norm (by kernel_rfl) (by kernel_rfl)
theorem n33 (_x:List AV) (a1 b1 c1 d1 e1 m:Int) (l1 l2:List (List AV)) (g:Bool) (a b c d e n:Int) (f:Bool):E cx (Key.fn 20) [.agg [vu a1,vu b1,vu c1,vu d1,vu e1,vi m,.list 0 1 l1,vbool g,.list 0 2 l2],.agg [vu a,vu b,vu c,vu d,vu e,vi n,nlV,vbool f,nlV]] [] =
  E cx (Key.fn 20) [.agg [vu a1,vu b1,vu c1,vu d1,vu e1,vi m,.list 0 1 l1,vbool g,.list 0 2 l2],.agg [vu a,vu b,vu c,vu d,vu e,vi n,.list 0 1 [],vbool f,.list 0 2 []]] []:=E_norm (by kernel_rfl) (by kernel_rfl)
theorem n34 (i1:Int) (g1:Bool) (l0:List (List AV)) (a1 b1 c1 d1 e1 m:Int) (l1 l2:List (List AV)) (g:Bool) (i:Int) (g0:Bool) (a b c d e n:Int) (f:Bool) :
  E cx (Key.fn 21) [.agg [vu i1,vbool g1,.list 0 2 l0,vu a1,vu b1,vu c1,vu d1,vu e1,vi m,.list 0 1 l1,vbool g,.list 0 2 l2],.agg [vu i,vbool g0,nlV,vu a,vu b,vu c,vu d,vu e,vi n,nlV,vbool f,nlV]] [] =
  E cx (Key.fn 21) [.agg [vu i1,vbool g1,.list 0 2 l0,vu a1,vu b1,vu c1,vu d1,vu e1,vi m,.list 0 1 l1,vbool g,.list 0 2 l2],.agg [vu i,vbool g0,.list 0 2 [],vu a,vu b,vu c,vu d,vu e,vi n,.list 0 1 [],vbool f,.list 0 2 []]] []:=E_norm (by kernel_rfl) (by kernel_rfl)
theorem v0_ok:VOk v0:=⟨by decide,by decide,by decide,by decide,by decide,by rfl,rightT_of (by simp [v0]) .nil,fun p hp=>by cases hp⟩
def a3:Ag:=⟨3,false,[],v0⟩
theorem a3_ok:AOk a3:=by
 refine⟨by decide,rightT_of (by simp [a3]) .nil,fun p hp=>(by cases hp),v0_ok,?_⟩
 have h1:=agg_len a3
 have h2:=(vote_size v0_ok.right v0_ok.tok).2
 have h3:a3.v=v0:=rfl
 have h4:a3.q.length=0:=rfl
 rw [h3,h4] at h1
 omega
def z0:B:=List.replicate 40 0++[48,0,0,0,49,0,0,0,1,0]
theorem vz:voteB v0=z0:=by rfl
theorem z0_cut:unvR (z0.take 30)=(v0,3):=by
 have h:(splitR (z0.take 30) 40 2)=([],[],3):=splitR_3 (f:=40) (m:=2) (by omega) (by omega) (by decide) (by decide)
 rw [unvR_1 (by rw [h];simp),h]
theorem k26 {v:Vt}(h:VOk v) (h1:v.on.length≤4000000) (h2:v.p.length≤4000000):E cx (Key.fn 8) [.agg (vC v)] []=RJ (voteB v) 0:=by
 have:=c26 v h1 h2
 rw [voteR_ok h.right h.tok] at this
 exact this
theorem k27 {v:Vt}(h:VOk v):RVt (E cx (Key.fn 14) [vs (mk (voteB v))] []) v 0:=by
 have:=c27 (voteB v)
 rw [unv_vote h] at this
 exact this
theorem k29 {a:Ag}(h:AOk a) (h0:a.q.length≤4000000) (h1:a.v.on.length≤4000000) (h2:a.v.p.length≤4000000):E cx (Key.fn 10) [.agg (aC a)] []=RJ (aggB a) 0:=by
 have:=c29 a h0 h1 h2
 rw [aggR_ok h] at this
 exact this
theorem k30 {a:Ag}(h:AOk a):RAg (E cx (Key.fn 16) [vs (mk (aggB a))] []) a 0:=by
 have:=c30 (aggB a)
 rw [una_agg h] at this
 exact this
theorem k31 {a b c:Nat}(ha:U8 a) (hb:U8 b) (hc:U8 c):E cx (Key.fn 18) [vs (mk (recB a b c))] []=some (Out.ret (.tuple [.agg [vu a,vu b,vu c],vi 0]),[]):=by
 have:=c31 (recB a b c)
 rw [unr_rec ha hb hc] at this
 exact this
theorem vn1:E cx (Key.fn 8) [.agg (vC (vn (-1)))] []=RJ [] 1:=by
 have:=c26 (vn (-1)) (by simp [vn]) (by simp [vn])
 have h:lstO (vn (-1)).n (vn (-1)).on=([],1):=by rfl
 rw [voteR_1 (by rw [h];simp),h] at this
 exact this
theorem k31e:E cx (Key.fn 18) [vs (mk [])] []=some (Out.ret (.tuple [.agg [vu 0,vu 0,vu 0],vi 2]),[]):=by
 have:=c31 []
 rw [unrR_1 (by simp)] at this
 exact this
theorem f5_true:E cx (Key.fn 5) [] []=rb true:=by
 have hc:=c27 (z0.take 30)
 rw [z0_cut] at hc
 have hcut:ByteArray.extract (mk (voteB v0)) 0 (τ (if 30<((ByteArray.size (mk (voteB v0)):Nat):Int) then 30 else((ByteArray.size (mk (voteB v0)):Nat):Int)))=mk (z0.take 30):=by
  rw [vz]
  have:((ByteArray.size (mk z0):Nat):Int)=50:=rfl
  rw [this,if_pos (by omega),ext_mk]
  rfl
 rw [←hcut] at hc
 have hsz:((ByteArray.size (mk (voteB v0)):Nat):Int)=50:=by rw [vz];rfl
 have hif:(if 30<((ByteArray.size (mk (voteB v0)):Nat):Int) then(30:Int) else((ByteArray.size (mk (voteB v0)):Nat):Int))=30:=by rw [hsz];rfl
 have e1:=(goJn ((n26 0 0 0 0 0 0 false).trans (k26 v0_ok (by simp [v0]) (by simp [v0]))) (ρ:=Out×Heap))
 refine f5.trans ((e1 _).trans ((goVT (k27 v0_ok) _).trans ((goY (by rw [hif];omega) _ _).trans ((goY (by rw [hif,hsz];omega) _ _).trans ((goVT hc _).trans ((goJn ((n26 0 0 0 0 0 (-1) false).trans vn1) _).trans
  ((goJn ((n29 3 false 0 0 0 0 0 0 false).trans (k29 a3_ok (by simp [a3]) (by simp [a3,v0]) (by simp [a3,v0]))) _).trans ((goAT (k30 a3_ok) _).trans ((goS (c32 1 2 3) _).trans ((goRT (k31 (a:=1) (b:=2) (c:=3) (by decide) (by decide) (by decide)) _).trans ((goRT (a:=0) (b:=0) (c:=0) k31e _).trans ?_)))))))))))
 refine(goD rfl _ _).trans ?_
 rw [strOf,app_mk]
 refine(goQ (by rw [vz];rfl) _ _).trans ((goD rfl _ _).trans ((goT (((n33 [] 0 0 0 0 0 0 [] [] false 0 0 0 0 0 0 false).trans ((c33 v0 v0 (by simp [v0]) (by simp [v0])).t rfl))) _ _).trans ?_))
 refine(goD rfl _ _).trans ((goD rfl _ _).trans ((goD rfl _ _).trans ((goD rfl _ _).trans ((goT ((n34 3 false [] 0 0 0 0 0 0 [] [] false 3 false 0 0 0 0 0 0 false).trans ((c34 a3 a3 (by simp [a3]) (by simp [a3,v0]) (by simp [a3,v0])).t rfl)) _ _).trans ?_))))
 refine(goD rfl _ _).trans ?_
 rfl
end
end Go.Proofs.Av
