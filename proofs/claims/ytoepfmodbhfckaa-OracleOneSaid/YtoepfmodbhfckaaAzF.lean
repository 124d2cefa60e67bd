/- Operations that only read, the rest: cells, addresses, slices, structs. -/
import Derived.Test.YtoepfmodbhfckaaAzE
import Derived.Laws.Cells
namespace Go.Proofs.Av
open Go
theorem add_plain (b o j:Nat):(⟨b,o,none⟩:Addr).add j=⟨b,o+j,none⟩:=by
 unfold Addr.add
 split
 ·rename_i h;subst h;rfl
 ·rfl
theorem cell_lt {w:World}{b o:Nat}{v:Value}(h:w.cell? ⟨b,o,none⟩=some v):b<w.heap.size:=World.block_lt_of_cell? w _ h
theorem Ext.cell {w w':World}(hx:Ext w w') {b o:Nat}{v:Value}(h:w.cell? ⟨b,o,none⟩=some v):w'.cell? ⟨b,o,none⟩=some v:=by
 rw [cell_of_block (hx b (cell_lt h))];exact h
theorem chk_eq {a b:Nat}{u:Unit}(h:chk a b=some u):a=b:=by
 unfold chk at h
 split at h
 ·assumption
 ·cases h
theorem cell_of_cells {w:World}{b:Nat}{vs:Array Value}{t:TypeId}(h:w.heap[b]?=some (.cells vs t (0,0))) (o:Nat):w.cell? ⟨b,o,none⟩=vs[o]?:=by
 unfold World.cell?
 simp [h]
section
variable {cx:Cx}{S:Nat→Prop}{w:World}{μ:Mu}{env:Env}{a:Act}{h:Heap}
def CellsAt (S:Nat→Prop) (w:World) (μ:Mu) (b off:Nat) (cs:List AV):Prop:=∃us:List Value,Reps S w μ cs us∧∀(j:Nat) (u:Value),us[j]?=some u→w.cell? ⟨b,off+j,none⟩=some u
theorem CellsAt.drop {b off:Nat}{cs:List AV}(h:CellsAt S w μ b off cs) (d:Nat):CellsAt S w μ b (off+d) (cs.drop d):=by
 obtain⟨us,h1,h2⟩:=h
 refine⟨us.drop d,h1.drop d,fun j u hu=> ?_⟩
 rw [List.getElem?_drop] at hu
 rw [Nat.add_assoc]
 exact h2 _ u hu
theorem CellsAt.take {b off:Nat}{cs:List AV}(h:CellsAt S w μ b off cs) (d:Nat):CellsAt S w μ b off (cs.take d):=by
 obtain⟨us,h1,h2⟩:=h
 refine⟨us.take d,h1.take d,fun j u hu=> ?_⟩
 rw [List.getElem?_take] at hu
 split at hu
 ·exact h2 _ u hu
 ·cases hu
theorem CellsAt.wk {b off:Nat}{cs ds:List AV}(h:CellsAt S w μ b off cs) (hk:Wks cs ds):CellsAt S w μ b off ds:=by
 obtain⟨us,h1,h2⟩:=h
 exact⟨us,hk _ _ _ _ h1,h2⟩
theorem CellsAt.of_rop {b off:Nat}{cs:List AV}{f:Nat→Value}(hc:∀j,j<cs.length→w.cell? ⟨b,off+j,none⟩=some (f j)) (hr:∀(j:Nat) (v:AV),cs[j]?=some v→Rep S w Mu.none v (f j)):CellsAt S w μ b off cs:=by
 refine⟨(List.range cs.length).map f,⟨by simp,fun j v u hv hu=> ?_⟩,fun j u hu=> ?_⟩
 ·have hj:=(List.getElem?_eq_some_iff.1 hv).1
  simp [hj] at hu
  subst hu
  exact(hr j v hv).of_none
 ·have hj:=(List.getElem?_eq_some_iff.1 hu).1
  simp at hj
  simp [hj] at hu
  subst hu
  exact hc j hj
theorem CellsAt.rop {b off:Nat}{cs:List AV}(h:CellsAt S w Mu.none b off cs) (hS:S b):Rep S w μ (.rop cs) (.pointer (some ⟨b,off,none⟩)):=by
 obtain⟨us,h1,h2⟩:=h
 refine .rop b off (fun j=>us.getD j undef) hS (fun j hj=> ?_) fun j v hv=> ?_
 ·have:j<us.length:=by rw [h1.1];exact hj
  exact h2 j _ (by simp [List.getD,List.getElem?_eq_getElem this])
 ·obtain⟨u,hu,hr⟩:=h1.get hv
  simp only [List.getD,hu,Option.getD_some]
  exact hr
theorem cellsAt_sem (hH:HRel S w μ h) {p:AV}{u:Value}(hp:Rep S w μ p u) {cs:List AV}(hc:cellsAt cx h p some=some cs):∃b off,u = .pointer (some ⟨b,off,none⟩)∧CellsAt S w μ b off cs:=by
 unfold cellsAt at hc
 split at hc
 ·cases hc
  cases hp with
  |rop b off f hS hc hr=>exact⟨b,off,rfl,CellsAt.of_rop hc hr⟩
 ·rename_i r ver i j
  obtain⟨o,h1,hc⟩:=bind_some_iff hc
  obtain⟨_,h2,hc⟩:=bind_some_iff hc
  obtain⟨e,h3,hc⟩:=bind_some_iff hc
  obtain⟨b,vs,t,C,hμ,hb,_,_,hsz,_,hlen,hcell⟩:=(hH.solid h1 h3).ex
  cases hp with
  |ptr b' sz C' hμ' =>
   rw [hμ] at hμ'
   cases hμ'
   have hmu:∀r x,o.mu μ r=some x→μ r=some x:=by
    intro r x hx
    unfold Ob.mu at hx
    cases hk:o.k<;>rw [hk] at hx<;>first |exact hx |cases hx
   have key:CellsAt S w μ b (i*o.sz) e:=by
    have hel:=hlen i e h3
    have hi:i<o.es.length:=(List.getElem?_eq_some_iff.1 h3).1
    have hin:i*o.sz+o.sz≤vs.size:=by
     have:(i+1)*o.sz≤o.es.length*o.sz:=Nat.mul_le_mul_right _ hi
     rw [Nat.add_mul,Nat.one_mul] at this
     omega
    refine⟨((vs.toList.drop (i*o.sz)).take o.sz),⟨by simp [hel];omega,fun j v u hv hu=> ?_⟩,fun j u hu=> ?_⟩
    ·obtain⟨x,hx,hrep⟩:=hcell i j e v h3 hv
     rw [List.getElem?_take] at hu
     split at hu
     ·rw [List.getElem?_drop] at hu
      simp only [Array.getElem?_toList] at hu
      rw [hx] at hu
      cases hu
      exact hrep.mono (fun _ h=>h) (fun _ _=>rfl) hmu
     ·cases hu
    ·rw [List.getElem?_take] at hu
     split at hu
     ·rw [List.getElem?_drop] at hu
      simp only [Array.getElem?_toList] at hu
      rw [cell_of_cells hb]
      exact hu
     ·cases hu
   split at hc
   ·obtain⟨z,h4,hc⟩:=bind_some_iff hc
    obtain⟨cs',h5,h6⟩:=(normCells_pk z e).some hc
    cases h5
    exact⟨b,_,rfl,(key.wk (normCells_wk h6)).drop j⟩
   ·cases hc
    exact⟨b,_,rfl,key.drop j⟩
 ·cases hc
theorem run_isAgg {P:Program}{t:TypeId}{d:TypeDesc}(hd:P.underlying t=some d) (w':World):(isAgg t).run P w' = .ok (match d with | .struct _ | .array _ _=>true | _=>false) w':=by
 unfold isAgg
 cases d<;>simp [run_underlying hd]
theorem isAgg_sem {t:TypeId}{b:Bool}(hb:cx.isAgg t=some b) (w':World):(isAgg t).run cx.P w' = .ok b w':=by
 unfold Cx.isAgg at hb
 obtain⟨d,h1,h2⟩:=bind_some_iff hb
 rw [run_isAgg h1]
 cases d<;>simp at h2<;>subst h2<;>rfl
theorem run_size {t:TypeId}{n:Nat}(hn:cx.size t=some n) (w':World):(sizeOf t).run cx.P w' = .ok n w':=by
 unfold Cx.size at hn
 obtain⟨i,h1,h2⟩:=bind_some_iff hn
 cases h2
 simp [sizeOf,typeInfo,h1]
theorem takeN_eq {n:Nat}{cs r:List AV}(h:takeN n cs=some r):r=cs.take n∧n≤cs.length:=by
 unfold takeN at h
 split at h
 ·rename_i hb
  cases h
  exact⟨rfl,Nat.le_of_ble_eq_true hb⟩
 ·cases h
theorem loadC_sem {t:TypeId}{b off:Nat}{cs:List AV}(hcs:CellsAt S w μ b off cs) {av:AV}(hl:loadC cx t cs some=some av):∃v,Rep S w μ av v∧RunsTo cx.P w (loadVar t ⟨b,off,none⟩) v:=by
 unfold loadC at hl
 obtain⟨ag,h1,hl⟩:=bind_some_iff hl
 obtain⟨us,hr,hu⟩:=hcs
 split at hl
 ·obtain⟨n,h2,hl⟩:=bind_some_iff hl
  obtain⟨r,h3,hl⟩:=bind_some_iff hl
  cases hl
  obtain⟨rfl,hn⟩:=takeN_eq h3
  refine⟨_,Rep.of_agg (hr.take n),fun w' hx=> ?_⟩
  have hlen:us.length=cs.length:=hr.1
  have hrun:(loadCells ⟨b,off,none⟩ n).run cx.P w' = .ok (us.take n).toArray w':=by
   have:=run_loadCells_list (P:=cx.P) w' ⟨b,off,none⟩ (us.take n) (fun j v hv=>by
    rw [add_plain]
    rw [List.getElem?_take] at hv
    split at hv
    ·exact hx.cell (hu j v hv)
    ·cases hv)
   rwa [List.length_take,Nat.min_eq_left (by omega)] at this
  unfold loadVar
  simp [isAgg_sem h1,run_size h2,hrun]
 ·obtain⟨p,h2,hl⟩:=bind_some_iff hl
  cases hl
  rw [uncons_eq h2] at hr
  obtain⟨v,r,rfl,h3,h4⟩:=hr.inv_cons
  refine⟨v,h3,fun w' hx=> ?_⟩
  have hc:=hx.cell (hu 0 v (by simp))
  unfold loadVar
  simp only [Nat.add_zero] at hc
  simp [isAgg_sem h1,hc]
theorem addOff_sem {p q:AV}{u:Value}{d:Nat}(hp:Rep S w μ p u) (h:addOff p d some=some q):∃b off,u = .pointer (some ⟨b,off,none⟩)∧Rep S w μ q (.pointer (some ⟨b,off+d,none⟩)):=by
 unfold addOff at h
 split at h
 ·cases h
  cases hp with
  |rop b off f hS hc hr=>exact⟨b,off,rfl,((CellsAt.of_rop (μ:=Mu.none) hc hr).drop d).rop hS⟩
 ·cases h
  cases hp with
  |ptr b sz C hμ =>
   refine⟨b,_,rfl,?_⟩
   rw [Nat.add_assoc]
   exact .ptr b sz C hμ
 ·cases h
theorem rowOff_sem (hH:HRel S w μ h) {p q:AV}{u:Value}{n s:Nat}(hp:Rep S w μ p u) (hq:rowOff h p n s some=some q):∃b off,u = .pointer (some ⟨b,off,none⟩)∧Rep S w μ q (.pointer (some ⟨b,off+n*s,none⟩)):=by
 unfold rowOff at hq
 split at hq
 ·rename_i r ver i j
  obtain⟨o,h1,hq⟩:=bind_some_iff hq
  obtain⟨_,h2,hq⟩:=bind_some_iff hq
  cases hq
  cases hp with
  |ptr b sz C hμ =>
   have hs:=hH.sz h1 hμ
   have hs2:o.sz=s:=by
    unfold chk at h2
    split at h2
    ·assumption
    ·cases h2
   refine⟨b,_,rfl,?_⟩
   have:=Rep.ptr (S:=S) (w:=w) (μ:=μ) (ver:=ver) (i:=i+n) (j:=j) b sz C hμ
   rw [Nat.add_mul] at this
   rw [←hs2,←hs,Nat.add_right_comm]
   exact this
 ·cases hq
theorem part_sem {t:TypeId}{cs:List AV}{us:List Value}(hr:Reps S w μ cs us) {off:Nat}{av:AV}(hl:loadC cx t (cs.drop off) some=some av):∃v,Rep S w μ av v∧∀w',(part t us.toArray off).run cx.P w' = .ok v w':=by
 unfold loadC at hl
 obtain⟨ag,h1,hl⟩:=bind_some_iff hl
 split at hl
 ·obtain⟨n,h2,hl⟩:=bind_some_iff hl
  obtain⟨r,h3,hl⟩:=bind_some_iff hl
  cases hl
  obtain⟨rfl,hn⟩:=takeN_eq h3
  refine⟨_,Rep.of_agg ((hr.drop off).take n),fun w'=> ?_⟩
  unfold part
  simp [isAgg_sem h1,run_size h2]
 ·obtain⟨p,h2,hl⟩:=bind_some_iff hl
  cases hl
  have hd:=hr.drop off
  rw [uncons_eq h2] at hd
  obtain⟨v,r,hv,h3,h4⟩:=hd.inv_cons
  refine⟨v,h3,fun w'=> ?_⟩
  have:us[off]?=some v:=by
   have:=congrArg (·[0]?) hv
   simpa [List.getElem?_drop] using this
  unfold part
  simp [isAgg_sem h1,this]
theorem bound_sem {P:Program}{x:AV}{y n:Nat}{u:Value}(hx:Rep S w μ x u) (h:boundV x y some=some n) {y':Nat}(hy:y≤y') (code:BoundsCode) (w':World):n≤y∧(Instr.sliceBound u y' code).run P w' = .ok n w':=by
 unfold boundV at h
 split at h
 ·rename_i k m
  rw [hx.inv_val]
  split at h
  ·rename_i h0
   split at h
   ·rename_i h1
    cases h
    refine⟨by omega,?_⟩
    have:0≤m∧m≤(y':Int):=⟨h0,by omega⟩
    simp [Instr.sliceBound,asIntOf,this]
   ·cases h
  ·cases h
 ·cases h
theorem asIntOf_sem {P:Program}{k:IntKind}{n:Int}(w':World):(asIntOf (.int k n)).run P w' = .ok (k,n) w':=rfl
theorem indexAddrV_sem (hH:HRel S w μ h) {t:TypeId}{x ix av:AV}{u v:Value}(hx:Rep S w μ x u) (hi:Rep S w μ ix v) (hv:indexAddrV cx h t x ix some=some av):∃r,Rep S w μ av r∧∀w',(Instr.indexAt t u v).run cx.P w' = .ok r w':=by
 unfold indexAddrV at hv
 split at hv
 ·rename_i k n
  rw [hi.inv_val]
  obtain⟨d,hd,hv⟩:=bind_some_iff hv
  split at hv
  ·rename_i len elem
   split at hv
   ·rename_i h0
    split at hv
    ·rename_i h1
     obtain⟨s,h2,hv⟩:=bind_some_iff hv
     obtain⟨b,off,rfl,hr⟩:∃b off,u = .pointer (some ⟨b,off,none⟩)∧Rep S w μ av (.pointer (some ⟨b,off+n.toNat*s,none⟩)):=by
      cases hrw:cx.rows t with
      |true=>rw [hrw] at hv;exact rowOff_sem hH hx hv
      |false=>rw [hrw] at hv;exact addOff_sem hx hv
     refine⟨_,hr,fun w'=> ?_⟩
     have:0≤n∧n<(len:Int):=⟨h0,h1⟩
     unfold Instr.indexAt
     simp [asIntOf,run_underlying hd,Instr.sureAddr,this,run_size h2,add_plain]
    ·cases hv
   ·cases hv
  ·rename_i elem
   split at hv
   ·rename_i fl sz es _
    split at hv
    ·rename_i h0
     obtain⟨e,h1,hv⟩:=bind_some_iff hv
     obtain⟨z,h2,hv⟩:=bind_some_iff hv
     obtain⟨_,h3,hv⟩:=bind_some_iff hv
     obtain⟨e',h4,h5⟩:=(normCells_pk z e).some hv
     cases h4
     have hlt:=(List.getElem?_eq_some_iff.1 h1).1
     have hsz:cx.size elem=some sz:=by
      unfold Cx.shC at h2
      unfold Cx.size
      obtain⟨i,h6,h7⟩:=bind_some_iff h2
      rw [h6]
      split at h7
      ·rename_i h8
       cases h7
       have:=Nat.eq_of_beq_eq_true h8
       rw [chk_eq h3,this];rfl
      ·cases h7
     cases hx with
     |nil=>simp at hlt
     |empty a cap hf=>simp at hlt
     |list b off cap f hS hlen hc hr hcap hfull =>
      have hel:e.length=sz:=hlen e (List.mem_of_getElem? h1)
      have key:CellsAt S w Mu.none b (off+n.toNat*sz) e :=
       CellsAt.of_rop (f:=fun j=>f n.toNat j) (fun j hj=>hc _ j hlt (by omega)) (fun j x hx=>hr _ j e x h1 hx)
      refine⟨_,(key.wk (normCells_wk h5)).rop hS,fun w'=> ?_⟩
      have:0≤n∧n<(es.length:Int):=⟨h0,by omega⟩
      unfold Instr.indexAt
      simp [asIntOf,run_underlying hd,this,run_size hsz,add_plain]
    ·cases hv
   ·rename_i r ver off len _
    split at hv
    ·rename_i h0
     split at hv
     ·rename_i h1
      obtain⟨o,h2,hv⟩:=bind_some_iff hv
      obtain⟨s,h3,hv⟩:=bind_some_iff hv
      obtain⟨_,h4,hv⟩:=bind_some_iff hv
      cases hv
      cases hx with
      |anil=>omega
      |arr0 a ha=>omega
      |arr b cap hμ hcap =>
       have hse:=hH.sz h2 hμ
       subst hse
       refine⟨.pointer (some ⟨b,(off+n.toNat)*o.sz+0,none⟩),.ptr b _ _ hμ,fun w'=> ?_⟩
       have:0≤n∧n<(len:Int):=⟨h0,h1⟩
       have hs:cx.size elem=some o.sz:=by rw [h3,chk_eq h4]
       unfold Instr.indexAt
       simp [asIntOf,run_underlying hd,this,run_size hs,add_plain,Nat.add_mul]
     ·cases hv
    ·cases hv
   ·cases hv
  ·cases hv
 ·cases hv
theorem shC_size {t:TypeId}{z:List Sh}(h:cx.shC t=some z):cx.size t=some z.length:=by
 unfold Cx.shC at h
 unfold Cx.size
 obtain⟨i,h6,h7⟩:=bind_some_iff h
 rw [h6]
 split at h7
 ·rename_i h8
  cases h7
  rw [Nat.eq_of_beq_eq_true h8];rfl
 ·cases h7
theorem indexV_sem {t:TypeId}{x ix av:AV}{u v:Value}(hx:Rep S w μ x u) (hi:Rep S w μ ix v) (hv:indexV cx t x ix some=some av):∃r,Rep S w μ av r∧∀w',(Instr.index t u v).run cx.P w' = .ok r w':=by
 unfold indexV at hv
 split at hv
 ·rename_i k n
  rw [hi.inv_val]
  obtain⟨d,hd,hv⟩:=bind_some_iff hv
  split at hv
  ·rename_i len elem cs _
   split at hv
   ·rename_i h0
    split at hv
    ·rename_i h1
     obtain⟨z,h2,hv⟩:=bind_some_iff hv
     obtain⟨ag,h3,hv⟩:=bind_some_iff hv
     have hsz:=shC_size h2
     obtain⟨us,rfl,hr⟩:=hx.inv_agg
     have hn:0≤n∧n<(len:Int):=⟨h0,h1⟩
     split at hv
     ·obtain⟨r,h4,hv⟩:=bind_some_iff hv
      obtain⟨r',h5,h6⟩:=(normCells_pk z r).some hv
      cases h5
      obtain⟨rfl,hl⟩:=takeN_eq h4
      have h7:=normCells_wk h6 _ _ _ _ ((hr.drop (n.toNat*z.length)).take z.length)
      refine⟨_,Rep.of_agg h7,fun w'=> ?_⟩
      unfold Instr.index part
      simp [asIntOf,run_underlying hd,hn,run_size hsz,isAgg_sem h3]
      apply Array.ext'
      simp
     ·obtain⟨x,h4,hv⟩:=bind_some_iff hv
      obtain⟨r',h5,h6⟩:=(normCells_pk z [x]).some hv
      cases h5
      obtain⟨v,hv1,hv2⟩:=hr.get h4
      have h7:=normCells_wk h6 _ _ _ _ (Reps.nil.cons hv2)
      have h8:Rep S w μ (r'.headD x) v:=by
       cases r' with
       |nil=>exact hv2
       |cons y ys =>
        obtain⟨v',rr,he,hh,_⟩:=h7.inv_cons
        cases he
        exact hh
      refine⟨v,h8,fun w'=> ?_⟩
      have:us[n.toNat*z.length]?=some v:=by simpa using hv1
      unfold Instr.index part
      simp [asIntOf,run_underlying hd,hn,run_size hsz,isAgg_sem h3,this]
    ·cases hv
   ·cases hv
  ·rename_i s _
   rw [hx.inv_val]
   split at hv
   ·rename_i h0
    obtain⟨c,h1,hv⟩:=bind_some_iff hv
    cases hv
    refine⟨_,.val _,fun w'=> ?_⟩
    unfold Instr.index
    simp [asIntOf,run_underlying hd,h0,h1]
   ·cases hv
  ·cases hv
 ·cases hv
theorem lenV_sem {t ty:TypeId}{x av:AV}{u:Value}(hx:Rep S w μ x u) (hv:lenV cx t x some=some av) (ts:Array TypeId) (hts:ts[0]?=some t) (w':World):∃r,av = .val r∧(Builtin.len_ ts ty #[u]).run cx.P w' = .ok r w':=by
 unfold lenV at hv
 obtain⟨d,hd,hv⟩:=bind_some_iff hv
 unfold Builtin.len_
 split at hv
 ·rw [hx.inv_val];cases hv;exact⟨_,rfl,by simp [hts,run_underlying hd,goInt]⟩
 ·cases hv;exact⟨_,rfl,by simp [hts,run_underlying hd,goInt]⟩
 ·cases hv
  cases hx with
  |list b off cap f hS hlen hc hr hcap hfull=>exact⟨_,rfl,by simp [hts,run_underlying hd,goInt]⟩
  |nil=>exact⟨_,rfl,by simp [hts,run_underlying hd,goInt]⟩
  |empty a cap hf=>exact⟨_,rfl,by simp [hts,run_underlying hd,goInt]⟩
 ·cases hv
  cases hx with
  |anil=>exact⟨_,rfl,by simp [hts,run_underlying hd,goInt]⟩
  |arr0 a ha=>exact⟨_,rfl,by simp [hts,run_underlying hd,goInt]⟩
  |arr b cap hμ hcap=>exact⟨_,rfl,by simp [hts,run_underlying hd,goInt]⟩
 ·rw [hx.inv_val];cases hv;exact⟨_,rfl,by simp [hts,run_underlying hd,goInt]⟩
 ·cases hv
end
end Go.Proofs.Av
