/- append and copy: what the evaluator tells of them is so. -/
import Derived.Test.YtoepfmodbhfckaaAzJc
namespace Go.Proofs.Av
open Go
section
variable {cx : Cx} {K : Kf} {N : Nat} {S : Nat → Prop} {μ : Mu} {env : Env} {h : Heap} {tmps : Array Value} {w : World}
/-- The last part of append: what is its own before, what comes behind. -/
theorem appFin_sem (st : St cx K N S μ env h tmps w) {t : TypeId} {q : TypeId × Nat × List AV × Nat} (hq : sliceInfo cx t = some q) {kill : Option Nat} {es ys : List (List AV)} {u v : Value} {xs news : List Value}
    (hown : OwnV w q.1 q.2.1 u es.length xs) {t2 : TypeId} (hsrc : SrcA cx.P w t t2 q.2.1 v ys.length news)
    (hel : ∀ e ∈ es, e.length = q.2.1) (hyl : ∀ e ∈ ys, e.length = q.2.1)
    (hec : ∀ (i j : Nat) (e : List AV) (a : AV), es[i]? = some e → e[j]? = some a → ∃ x, xs[i * q.2.1 + j]? = some x ∧ Rep S w Mu.none a x)
    (hyc : ∀ (i j : Nat) (e : List AV) (a : AV), ys[i]? = some e → e[j]? = some a → ∃ x, news[i * q.2.1 + j]? = some x ∧ Rep S w Mu.none a x)
    (hkill : ∀ r, kill = some r → ∃ o0, h[r]? = some o0 ∧ o0.k = .arr) (hblock : ∀ g, u.ownBlock = some g → ∃ r s, kill = some r ∧ μ r = some (g, s))
    {ty : TypeId} {av : AV} {h' : Heap} (ha : appFin q h kill es ys (fun v h => some (v, h)) = some (av, h')) :
    ∃ r w' μ', (Builtin.append_ #[t, t2] ty #[u, v]).run cx.P w = .ok r w' ∧ Rep S w' μ' av r ∧ St cx K N S μ' env h' tmps w' := by
  obtain ⟨i, z, i1, i2, i3, i4, i5, i6, i7, i8, i9⟩ := sliceInfo_spec hq
  unfold appFin at ha
  split at ha
  · rename_i hb
    cases ha
    rw [i9] at hb
    rw [i7] at hown hsrc hel hyl hec hyc
    have h63 : es.length + ys.length ≤ maxLen := by
      have : (es.length + ys.length) * 1 ≤ (es.length + ys.length) * i.bytes := Nat.mul_le_mul_left _ i6
      simp only [maxLen]
      omega
    obtain ⟨r, w', hr, hg, hgd, hres⟩ := app_runA (P := cx.P) w t t2 ty q.1 i z i1 i2 i3 i4 i5 u es.length xs hown v ys.length news hsrc h63 hb
    have hnS : ∀ g, u.ownBlock = some g → ¬ S g := fun g hgb hS => by
      obtain ⟨r0, s, hk, hm⟩ := hblock g hgb
      obtain ⟨o0, g1, g2⟩ := hkill r0 hk
      rcases st.heap r0 o0 g1 with ⟨d1, _⟩ | ⟨_, _, d1⟩ | ⟨_, d1⟩
      · rw [g2] at d1; cases d1
      · rw [hm] at d1; cases d1
      · obtain ⟨b', vs, t, C, e1, e2, e3, e4, _⟩ := d1.ex
        rw [hm] at e1
        cases e1
        exact e4 (by rw [g2]; simp) hS
    have hSk : ∀ b, S b → w'.heap[b]? = w.heap[b]? := fun b hb => hg.block b (st.slt b hb) fun hx => hnS b hx.symm hb
    have hlen : (xs ++ news).length = (es.length + ys.length) * i.size := by rw [List.length_append, hown.1, hsrc.len, Nat.add_mul]
    have cells : ∀ (cur : Array Value), cur.toList.take ((es.length + ys.length) * i.size) = xs ++ news → ∀ (k j : Nat) (e : List AV) (a : AV), (es ++ ys)[k]? = some e → e[j]? = some a →
        ∃ x, cur[k * i.size + j]? = some x ∧ Rep S w' Mu.none a x := by
      intro cur hcur k j e a he ha
      have hj := (List.getElem?_eq_some_iff.1 ha).1
      have mono : ∀ {x}, Rep S w Mu.none a x → Rep S w' Mu.none a x := fun hr => hr.mono (fun _ h => h) hSk fun _ _ h => h
      have from_ : ∀ x, (xs ++ news)[k * i.size + j]? = some x → cur[k * i.size + j]? = some x := fun x hx => by
        rw [← hcur, List.getElem?_take] at hx
        split at hx
        · simpa using hx
        · cases hx
      by_cases hk : k < es.length
      · rw [List.getElem?_append_left hk] at he
        obtain ⟨x, hx, hrx⟩ := hec k j e a he ha
        refine ⟨x, from_ x ?_, mono hrx⟩
        rw [List.getElem?_append_left (List.getElem?_eq_some_iff.1 hx).1]
        exact hx
      · rw [List.getElem?_append_right (by omega)] at he
        obtain ⟨x, hx, hrx⟩ := hyc _ j e a he ha
        refine ⟨x, from_ x ?_, mono hrx⟩
        have hsub : (k - es.length) * i.size = k * i.size - es.length * i.size := Nat.sub_mul _ _ _
        have hle : es.length * i.size ≤ k * i.size := Nat.mul_le_mul_right _ (by omega)
        rw [List.getElem?_append_right (by rw [hown.1]; omega), hown.1, ← hx]
        congr 1
        omega
    have lens : ∀ (k : Nat) (e : List AV), (es ++ ys)[k]? = some e → e.length = i.size := fun k e he => by
      rcases List.mem_append.1 (List.mem_of_getElem? he) with h | h
      · exact hel e h
      · exact hyl e h
    have hblk : ∀ b, b < w.heap.size → (∀ r s, kill = some r → μ r ≠ some (b, s)) → w'.heap[b]? = w.heap[b]? := fun b hb hn => hg.block b hb fun hx => by
      obtain ⟨r0, s, hk, hm⟩ := hblock b hx.symm
      exact hn r0 s hk hm
    rcases hres with ⟨rfl, rfl, hm0⟩ | ⟨g', cap', cur', rfl, q1, q2, q3, q4, q5⟩
    · -- nothing to nothing
      have he0 : es = [] := by
        rcases hown.2 with ⟨_, h0⟩ | ⟨g, cap, cur, hx, _⟩
        · exact List.eq_nil_of_length_eq_zero h0
        · cases hx
      have hy0 : ys = [] := List.eq_nil_of_length_eq_zero hm0
      subst he0
      subst hy0
      have hx := st.step (w' := w') (kill := kill) (o := ⟨.arr, q.1, q.2.1, q.2.1, [] ++ []⟩) (x := none) hg.size hg.os hg.tape ⟨hg.output, fun _ => hgd⟩ hblk hkill rfl (fun _ => rfl) (fun b s C hx => by cases hx)
      exact ⟨_, w', _, hr, .anil, hx⟩
    · have hx := st.step (w' := w') (kill := kill) (o := ⟨.arr, q.1, q.2.1, q.2.1, es ++ ys⟩) (x := some (g', i.size, cap')) hg.size hg.os hg.tape ⟨hg.output, fun _ => hgd⟩ hblk hkill rfl (fun hx => by cases hx) (fun b s C hx => by
        cases hx
        refine ⟨i7.symm, ?_, cur', q1, ?_, ?_, ?_, ?_⟩
        · rcases q5 with h | h
          · obtain ⟨r0, s, hk, hm⟩ := hblock g' h
            exact .inl ⟨r0, s, hk, hm⟩
          · exact .inr h
        · show cur'.size = cap' * q.2.1
          rw [i7]; exact q3
        · show (es ++ ys).length * q.2.1 ≤ cur'.size
          rw [i7, q3, List.length_append]
          exact Nat.mul_le_mul_right _ q2
        · show ∀ (k : Nat) (e : List AV), (es ++ ys)[k]? = some e → e.length = q.2.1
          rw [i7]; exact lens
        · show ∀ (k j : Nat) (e : List AV) (a : AV), (es ++ ys)[k]? = some e → e[j]? = some a → ∃ x, cur'[k * q.2.1 + j]? = some x ∧ Rep S w' Mu.none a x
          rw [i7]; exact cells cur' q4)
      refine ⟨_, w', _, hr, ?_, hx⟩
      have := Rep.arr (S := S) (w := w') (μ := μ.updO h.length (some (g', i.size, cap'))) (r := h.length) (ver := q.2.1) (off := 0) (len := es.length + ys.length) g' cap' (by simp [Mu.updO, Mu.upd, i7]) q2
      simpa using this
  · cases ha
theorem srcRows_src (hH : HRel S w μ h) {t1 t2 : TypeId} {sz : Nat} (hs : 0 < sz) {y : AV} {v : Value} (hy : Rep S w μ y v) {ys : List (List AV)} (h3 : srcRows cx h t1 t2 sz y = some ys) (hok : ysOk ys = true) :
    ∃ news, SrcA cx.P w t1 t2 sz v ys.length news ∧ (∀ e ∈ ys, e.length = sz) ∧ ∀ (i j : Nat) (e : List AV) (a : AV), ys[i]? = some e → e[j]? = some a → ∃ x, news[i * sz + j]? = some x ∧ Rep S w Mu.none a x := by
  unfold srcRows at h3
  split at h3
  · rename_i s
    obtain ⟨d, h1, h3⟩ := bind_some_iff h3
    split at h3
    · obtain ⟨_, h2, h3⟩ := bind_some_iff h3
      cases h3
      have h2 := chk_eq h2
      subst h2
      rw [hy.inv_val]
      refine ⟨Lib.strCells s, .str h1 rfl s rfl (by simp [strRows]) rfl, fun e he => ?_, fun i j e a he ha => ?_⟩
      · obtain ⟨b, _, rfl⟩ := List.mem_map.1 he
        rfl
      · unfold strRows at he
        rw [List.getElem?_map] at he
        cases hb : s.data.toList[i]? with
        | none => rw [hb] at he; cases he
        | some b =>
          rw [hb] at he
          cases he
          cases j with
          | zero =>
            cases ha
            refine ⟨.int .u8 b.toNat, ?_, .val _⟩
            unfold Lib.strCells
            rw [Nat.mul_one, Nat.add_zero, List.getElem?_map, hb]
            rfl
          | succ j => simp at ha
    · cases h3
  · obtain ⟨_, h2, h3⟩ := bind_some_iff h3
    have h2 := chk_eq h2
    obtain ⟨news, h4, h5, h6⟩ := yRows_src hH hs hy h3 hok
    exact ⟨news, .slice (by first | exact h2 | exact h2.symm) h4, h5, h6⟩
theorem appendV_sem (st : St cx K N S μ env h tmps w) {t1 t2 : TypeId} {x y : AV} {u v : Value} (hx : Rep S w μ x u) (hy : Rep S w μ y v) {ty : TypeId} {av : AV} {h' : Heap} (ha : appendV cx t1 t2 x y h (fun v h => some (v, h)) = some (av, h')) :
    ∃ r w' μ', (Builtin.append_ #[t1, t2] ty #[u, v]).run cx.P w = .ok r w' ∧ Rep S w' μ' av r ∧ St cx K N S μ' env h' tmps w' := by
  unfold appendV at ha
  obtain ⟨q, h2, ha2⟩ := bind_some_iff ha
  clear ha
  obtain ⟨ys, h3, ha3⟩ := bind_some_iff ha2
  clear ha2
  obtain ⟨i, z, i1, i2, i3, i4, i5, i6, i7, i8, i9⟩ := sliceInfo_spec h2
  cases hok : ysOk ys with
  | false => rw [hok] at ha3; cases ha3
  | true =>
    rw [hok] at ha3
    simp only [cond_true] at ha3
    have hs : 0 < q.2.1 := by rw [i7]; exact i5
    obtain ⟨news, hsrc, hyl, hyc⟩ := srcRows_src st.heap hs hy h3 hok
    split at ha3
    · rw [hx.inv_val]
      exact appFin_sem st h2 (xs := []) ⟨by simp, .inl ⟨rfl, rfl⟩⟩ hsrc (fun e he => by cases he) hyl (fun i j e a he => by simp at he) hyc (fun r hr => by cases hr) (fun g hg => by simp [Value.ownBlock] at hg) ha3
    · rename_i r ver off n
      obtain ⟨_, g1, ha4⟩ := bind_some_iff ha3
      clear ha3
      obtain ⟨o, g2, ha5⟩ := bind_some_iff ha4
      clear ha4
      obtain ⟨_, g3, ha6⟩ := bind_some_iff ha5
      clear ha5
      obtain ⟨_, g4, ha7⟩ := bind_some_iff ha6
      clear ha6
      obtain ⟨_, g5, ha8⟩ := bind_some_iff ha7
      clear ha7
      have g1 := chk_eq g1
      have g4 := chk_eq g4
      have g5 := chk_eq g5
      rw [g1] at hx
      split at ha8
      · rename_i hk
        obtain ⟨_, g6, ha9⟩ := bind_some_iff ha8
        clear ha8
        have g6 := chk_eq g6
        have hkill : ∀ r', some r = some r' → ∃ o0, h[r']? = some o0 ∧ o0.k = .arr := fun r' hr => by cases hr; exact ⟨o, g2, hk⟩
        cases hx with
        | arr0 a ha0 => omega
        | anil =>
          have he0 : o.es = [] := List.eq_nil_of_length_eq_zero (by first | exact g6 | exact g6.symm)
          rw [he0] at ha9
          exact appFin_sem st h2 (xs := []) ⟨by simp, .inl ⟨rfl, rfl⟩⟩ hsrc (fun e he => by cases he) hyl (fun i j e a he => by simp at he) hyc hkill (fun g hg => by simp [Value.ownBlock] at hg) ha9
        | arr b cap hb hcap =>
          have hn : n = o.es.length := by first | exact g6 | exact g6.symm
          subst hn
          have hsol : ObRel S w μ r o := by
            rcases st.heap r o g2 with ⟨d, _⟩ | ⟨_, _, d⟩ | ⟨_, d⟩
            · rw [hk] at d; cases d
            · rw [hb] at d; cases d
            · exact d
          obtain ⟨b', vs, t, C', e1, e2, e3, e4, e5, e5', e6, e7⟩ := hsol.ex
          rw [hb] at e1
          cases e1
          obtain ⟨e8, e9⟩ := e5' hk
          subst e9
          have hsz : o.sz = q.2.1 := g4
          refine appFin_sem st h2 (xs := vs.toList.take (o.es.length * q.2.1)) ⟨?_, .inr ⟨b, cap, vs, ?_, ?_, hcap, ?_, rfl⟩⟩ hsrc (fun e he => ?_) hyl (fun i j e a he ha' => ?_) hyc hkill (fun g hg => ?_) ha9
          · rw [List.length_take, Array.length_toList]
            rw [hsz] at e5
            omega
          · simp
          · rw [← g5]; exact e2
          · rw [e8, Nat.zero_add, hsz]
          · obtain ⟨k, hk'⟩ := List.mem_iff_getElem?.1 he
            rw [← hsz]; exact e6 k e hk'
          · obtain ⟨x, hx', hrx⟩ := e7 i j e a he ha'
            have hi := (List.getElem?_eq_some_iff.1 he).1
            have hj := (List.getElem?_eq_some_iff.1 ha').1
            have hel := e6 i e he
            refine ⟨x, ?_, ?_⟩
            · rw [← hsz, List.getElem?_take, if_pos (by
                have : (i + 1) * o.sz ≤ o.es.length * o.sz := Nat.mul_le_mul_right _ hi
                rw [Nat.add_mul, Nat.one_mul] at this
                omega)]
              simpa using hx'
            · unfold Ob.mu at hrx
              rw [hk] at hrx
              exact hrx
          · simp [Value.ownBlock] at hg
            subst hg
            exact ⟨r, _, rfl, hb⟩
      · cases ha8
    · cases ha3
end
end Go.Proofs.Av
