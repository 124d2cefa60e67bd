/- What bits.of tells, as an answer. -/
import Derived.Test.YtoepfmodbhfckaaDoorAhOf
import Derived.Test.YtoepfmodbhfckaaDoorAzT
namespace Go.Proofs.Av
open Go Go.RowKit
def ofG:List AV→Option AV
 | [.val (.string s),.val (.int .i64 (.ofNat m))]=>if m≤8*s.size∧m≤1000000 then some (.agg [vi m,.list 0 1 ((onS s m).map fun i=>[vi i])]) else none
 | _=>none
theorem of_rep {S:Nat→Prop}{w w':World}{v:Value}{xs:List Int}(h:w'.ownsRow w.heap.size 3 1 v xs.length (xs.map (Value.int .i64))):Rep (fun b=>S b∨v.ownBlock=some b) w' Mu.none (.list 0 1 (xs.map fun i=>[vi i])) v:=by
 rcases h.2 with⟨rfl,h0⟩ |⟨g,cap,cur,rfl,hge,hg,hcap,_,hsz,htake⟩
 ·obtain rfl:xs=[]:=List.length_eq_zero_iff.1 h0
  exact .nil
 ·have hl:(xs.map fun i=>[vi i]).length=xs.length:=by simp
  rw [show xs.length=(xs.map fun i=>[vi i]).length from hl.symm]
  refine Rep.list (S:=fun b=>S b∨Value.ownBlock _=some b) g 0 cap (fun i _ => .int .i64 (xs[i]?.getD 0)) (.inr rfl) (fun e he=> ?_) (fun i j hi hj=> ?_) (fun i j e v he hv=> ?_) (by rw [hl];exact hcap) (fun h=>by cases h)
  ·obtain⟨x,_,rfl⟩:=List.mem_map.1 he
   rfl
  ·obtain rfl:j=0:=by omega
   rw [hl] at hi
   have hx:xs[i]?=some xs[i]:=List.getElem?_eq_getElem hi
   have h1:(cur.toList.take (xs.length*1))[i]?=some (.int .i64 xs[i]):=by rw [htake,List.getElem?_map,hx];rfl
   rw [List.getElem?_take,if_pos (by omega)] at h1
   have h2:cur[i]?=some (.int .i64 xs[i]):=by simpa using h1
   simp [World.cell?,hg,h2,hx]
  ·rw [List.getElem?_map] at he
   cases hx:xs[i]? with
   |none=>rw [hx] at he;cases he
   |some x =>
    rw [hx] at he
    cases he
    match j,hv with
    | 0,hv=>cases hv;exact .val _
theorem of_calls {cx:Cx}(hP:cx.P=Tryd.prog) (ho:cx.ovr 81≠none) (args:List AV) (v:AV) (hG:ofG args=some v) (S:Nat→Prop) (w:World) (vals:List Value) (hS:∀b,S b→b<w.heap.size) (hr:Reps S w Mu.none args vals):Calls cx.P 81 vals.toArray w (Post cx S w v):=by
 unfold ofG at hG
 split at hG
 ·rename_i s m
  split at hG
  ·rename_i hm
   cases hG
   obtain⟨v1,r1,rfl,h1,h2⟩:=hr.inv_cons
   obtain⟨v2,r2,rfl,h3,h4⟩:=h2.inv_cons
   have:=h4.inv_nil
   subst this
   rw [h1.inv_val,h3.inv_val,hP]
   refine(callsIn_wide (n:=3)).1 ((of_in Fence.wide 3 trivial trivial trivial rfl (by omega) s m hm.1 hm.2 w).mono ?_)
   rintro e w' ⟨v,rfl,hrow,hb⟩
   refine⟨_,fun b=>S b∨v.ownBlock=some b,rfl,?_,⟨fun b hb'=>hb.block b hb',hb.size,hb.os,hb.tape,⟨hb.output,fun h=>absurd (h 81) ho⟩,fun b h => .inl h,fun b h=> ?_,fun b h=> ?_⟩⟩
   ·refine .agg _ rfl fun j a u ha hu=> ?_
    match j,ha,hu with
    | 0,ha,hu=>cases ha;cases hu;exact .val _
    | 1,ha,hu=>cases ha;cases hu;exact of_rep hrow
   ·rcases h with h |h
    ·exact .inl h
    ·rcases hrow.2 with⟨rfl,_⟩ |⟨g,cap,cur,rfl,hge,_⟩
     ·cases h
     ·cases h;exact .inr hge
   ·rcases h with h |h
    ·exact Nat.lt_of_lt_of_le (hS b h) hb.size
    ·rcases hrow.2 with⟨rfl,_⟩ |⟨g,cap,cur,rfl,hge,hg,_⟩
     ·cases h
     ·cases h;exact(Array.getElem?_eq_some_iff.1 hg).1
  ·cases hG
 ·cases hG
end Go.Proofs.Av
