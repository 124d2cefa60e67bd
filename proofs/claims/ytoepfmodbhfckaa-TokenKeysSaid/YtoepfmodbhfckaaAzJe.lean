/- A row of one's own, written over: copy and clear. -/
import Derived.Test.YtoepfmodbhfckaaAzJd
namespace Go.Proofs.Av
open Go
section
variable {cx : Cx} {K : Kf} {N : Nat} {S : Nat → Prop} {μ : Mu} {env : Env} {h : Heap} {tmps : Array Value} {w : World}
/-- An object's row is another one. -/
theorem St.reset (st : St cx K N S μ env h tmps w) {r b C : Nat} {o : Ob} {es' : List (List AV)} {vs vs' : Array Value} {t : TypeId} (ho : h[r]? = some o) (hk : o.k = .arr) (hb : μ r = some (b, o.sz, C))
    (hw : w.heap[b]? = some (.cells vs t (0, 0))) (hvs : vs'.size = vs.size) (hle : es'.length * o.sz ≤ vs'.size) (hlen : ∀ (i : Nat) (e : List AV), es'[i]? = some e → e.length = o.sz)
    (hcell : ∀ (i j : Nat) (e : List AV) (a : AV), es'[i]? = some e → e[j]? = some a → ∃ u, vs'[i * o.sz + j]? = some u ∧ Rep S w Mu.none a u) :
    St cx K N S μ env (h.set r { o with es := es' }) tmps (w.setRow b vs') := by
  have hsol : ObRel S w μ r o := by
    rcases st.heap r o ho with ⟨d, _⟩ | ⟨_, _, d⟩ | ⟨_, d⟩
    · rw [hk] at d; cases d
    · rw [hb] at d; cases d
    · exact d
  obtain ⟨b', vs0, t0, C', h1, h2, h3, h4, h5, h5', h6, h7⟩ := hsol.ex
  rw [hb] at h1
  cases h1
  rw [hw] at h2
  cases h2
  have hnS : ¬ S b := h4 (by rw [hk]; simp)
  have hother : ∀ k, k ≠ b → (w.setRow b vs').heap[k]? = w.heap[k]? := fun k hk => setRow_other w b k _ hk
  have hkd : o.k ≠ .dead := by rw [hk]; simp
  have hal : ∀ k, alive (h.set r { o with es := es' }) k → alive h k := fun k ha x hx => by
    by_cases hkr : r = k
    · subst hkr
      rw [ho] at hx
      cases hx
      exact hkd
    · exact ha x (by rw [List.getElem?_set_ne hkr]; exact hx)
  have hSk : ∀ k, S k → (w.setRow b vs').heap[k]? = w.heap[k]? := fun k hk => hother k fun e => hnS (e ▸ hk)
  refine ⟨st.size, fun t v ht => (st.env t v ht).mono (fun _ h => h) hSk fun _ _ h => h, fun g cs hg => (st.g g cs hg).mono (fun _ h => h) hSk fun _ _ h => h, ?_, fun r1 r2 b1 s1 s2 hb1 hb2 ha1 ha2 => st.inj r1 r2 b1 s1 s2 hb1 hb2 (hal r1 ha1) (hal r2 ha2), fun r x hx => by simpa using st.dom r x hx, st.own, st.s0, st.snew, fun b hb => by simpa using st.slt b hb, ?_, by simpa using st.le, st.os, st.tape, ⟨st.output.out, st.output.drawn⟩, st.fix⟩
  · intro r' o' ho'
    by_cases hr : r = r'
    · subst hr
      have hrl := (List.getElem?_eq_some_iff.1 ho).1
      rw [List.getElem?_set_self hrl] at ho'
      cases ho'
      refine .inr (.inr ⟨hkd, ⟨b, vs', t, C, hb, setRow_heap w b vs _ t _ hw, fun hk' => absurd hk' (by rw [hk]; simp), fun _ => hnS, hle, ?_, hlen, ?_⟩⟩)
      · intro hka
        have := h5' hka
        exact ⟨hvs.trans this.1, this.2⟩
      · intro i j e a he ha
        obtain ⟨u, hu, hru⟩ := hcell i j e a he ha
        refine ⟨u, hu, ?_⟩
        unfold Ob.mu
        simp only [hk]
        exact hru.mono (fun _ h => h) hSk fun _ _ h => h
    · rw [List.getElem?_set_ne hr] at ho'
      exact (st.heap r' o' ho').mono (fun _ h => h) hSk (fun _ _ h => h) rfl (by simp) (fun hkd' b' s hb' => hother b' fun e => hr (by
        subst e
        exact st.inj r r' b' _ _ hb hb' (fun x hx => by rw [ho] at hx; cases hx; exact hkd) fun x hx => by rw [ho'] at hx; cases hx; exact hkd')) fun _ _ _ h => h
  · intro k hk ho'
    have hne : k ≠ b := fun e => by
      subst e
      rcases st.own r k _ hb with h | h
      · exact ho' h
      · omega
    rw [hother k hne]
    exact st.frame k hk ho'
/-- Rows laid over rows, in cells. -/
theorem rows_over {sz off C : Nat} {es ys : List (List AV)} {vs : Array Value} {news : List Value} (hC : vs.size = C * sz) (hle : es.length * sz ≤ vs.size) (hoy : off + ys.length ≤ es.length) (hnl : news.length = ys.length * sz)
    (hel : ∀ (i : Nat) (e : List AV), es[i]? = some e → e.length = sz) (hyl : ∀ e ∈ ys, e.length = sz)
    (hec : ∀ (i j : Nat) (e : List AV) (a : AV), es[i]? = some e → e[j]? = some a → ∃ u, vs[i * sz + j]? = some u ∧ Rep S w Mu.none a u)
    (hyc : ∀ (i j : Nat) (e : List AV) (a : AV), ys[i]? = some e → e[j]? = some a → ∃ u, news[i * sz + j]? = some u ∧ Rep S w Mu.none a u) :
    let es' := es.take off ++ ys ++ es.drop (off + ys.length)
    let vs' := (vs.toList.take (off * sz) ++ news ++ vs.toList.drop (off * sz + news.length)).toArray
    vs'.size = vs.size ∧ es'.length * sz ≤ vs'.size ∧ (∀ (i : Nat) (e : List AV), es'[i]? = some e → e.length = sz) ∧
      ∀ (i j : Nat) (e : List AV) (a : AV), es'[i]? = some e → e[j]? = some a → ∃ u, vs'[i * sz + j]? = some u ∧ Rep S w Mu.none a u := by
  intro es' vs'
  have hm1 : (off + ys.length) * sz ≤ es.length * sz := Nat.mul_le_mul_right _ hoy
  rw [Nat.add_mul] at hm1
  have hfit : off * sz + news.length ≤ vs.toList.length := by simp; omega
  have hsz : vs'.size = vs.size := by
    simp only [vs', List.size_toArray, List.length_append, List.length_take, List.length_drop, Array.length_toList]
    omega
  have hlen : es'.length = es.length := by
    simp only [es', List.length_append, List.length_take, List.length_drop]
    omega
  have get : ∀ i, es'[i]? = if off ≤ i ∧ i < off + ys.length then ys[i - off]? else es[i]? := by
    intro i
    have hl : (es.take off).length = off := by simp; omega
    simp only [es']
    by_cases h1 : i < off
    · rw [if_neg (by omega), List.append_assoc, List.getElem?_append_left (by omega)]
      simp [h1]
    · by_cases h2 : i < off + ys.length
      · rw [if_pos (by omega), List.getElem?_append_left (by simp; omega), List.getElem?_append_right (by omega), hl]
      · rw [if_neg (by omega), List.getElem?_append_right (by simp; omega)]
        simp only [List.getElem?_drop, List.length_append, hl]
        congr 1
        omega
  refine ⟨hsz, by rw [hlen, hsz]; exact hle, fun i e he => ?_, fun i j e a he ha => ?_⟩
  · rw [get] at he
    split at he
    · exact hyl e (List.mem_of_getElem? he)
    · exact hel i e he
  · have hj : j < sz := by
      have h1 := (List.getElem?_eq_some_iff.1 ha).1
      rw [get] at he
      split at he
      · have := hyl e (List.mem_of_getElem? he); omega
      · have := hel i e he; omega
    have hget : vs'[i * sz + j]? = if off * sz ≤ i * sz + j ∧ i * sz + j < off * sz + news.length then news[i * sz + j - off * sz]? else vs[i * sz + j]? := by
      simp only [vs']
      rw [List.getElem?_toArray, splice_get_val hfit]
      simp
    rw [get] at he
    rw [hget]
    split at he
    · rename_i hc
      obtain ⟨u, hu, hru⟩ := hyc _ j e a he ha
      have h1 : off * sz ≤ i * sz := Nat.mul_le_mul_right _ hc.1
      have h2 : (i + 1) * sz ≤ (off + ys.length) * sz := Nat.mul_le_mul_right _ hc.2
      rw [Nat.add_mul, Nat.add_mul, Nat.one_mul] at h2
      refine ⟨u, ?_, hru⟩
      rw [if_pos (by omega), ← hu, Nat.sub_mul]
      congr 1
      omega
    · rename_i hc
      obtain ⟨u, hu, hru⟩ := hec i j e a he ha
      refine ⟨u, ?_, hru⟩
      rw [if_neg]
      · exact hu
      · intro ⟨h1, h2⟩
        apply hc
        rw [hnl, ← Nat.add_mul] at h2
        constructor
        · refine Nat.le_of_lt_succ (Nat.lt_of_mul_lt_mul_right (a := sz) ?_)
          rw [Nat.succ_mul]
          omega
        · refine Nat.lt_of_mul_lt_mul_right (a := sz) ?_
          omega
/-- copy. -/
theorem copyV_sem (st : St cx K N S μ env h tmps w) {t1 t2 ty : TypeId} {x y : AV} {u v : Value} (hx : Rep S w μ x u) (hy : Rep S w μ y v) {av : AV} {h' : Heap} (hm : copyV cx t1 x y h (fun v h => some (v, h)) = some (av, h')) :
    ∃ r w' μ', (Builtin.copy_ #[t1, t2] ty #[u, v]).run cx.P w = .ok r w' ∧ Rep S w' μ' av r ∧ St cx K N S μ' env h' tmps w' := by
  unfold copyV at hm
  obtain ⟨q, h1, hm1⟩ := bind_some_iff hm
  clear hm
  obtain ⟨ys, h2, hm⟩ := bind_some_iff hm1
  clear hm1
  obtain ⟨i, z, i1, i2, i3, i4, i5, i6, i7, i8, i9⟩ := sliceInfo_spec h1
  cases hok : ysOk ys with
  | false => rw [hok] at hm; cases hm
  | true =>
    rw [hok] at hm
    simp only [cond_true] at hm
    have hs : 0 < q.2.1 := by rw [i7]; exact i5
    obtain ⟨news, hsrc, hyl, hyc⟩ := yRows_src st.heap hs hy h2 hok
    split at hm
    · rename_i r ver off len
      obtain ⟨o, g1, hm2⟩ := bind_some_iff hm
      clear hm
      obtain ⟨_, g2, hm3⟩ := bind_some_iff hm2
      clear hm2
      obtain ⟨_, g3, hm4⟩ := bind_some_iff hm3
      clear hm3
      have g2 := chk_eq g2
      have g3 := chk_eq g3
      split at hm4
      · rename_i hk
        obtain ⟨_, g4, hm5⟩ := bind_some_iff hm4
        clear hm4
        have hle : off + len ≤ o.es.length := by
          unfold chkLe at g4
          split at g4
          · assumption
          · cases g4
        cases hm5
        have hsz : i.size = o.sz := by rw [← i7]; exact g3.symm
        rw [i7] at hsrc hyl hyc
        have trivial0 : ∀ {ad : Option Addr}, len = 0 → ∃ r' w' μ', (Builtin.copy_ #[t1, t2] ty #[.slice ad 0 0, v]).run cx.P w = .ok r' w' ∧ Rep S w' μ' (.val (.int .i64 (Nat.min ys.length len))) r' ∧
            St cx K N S μ' env (h.set r { o with es := o.es.take off ++ ys.take (Nat.min ys.length len) ++ o.es.drop (off + Nat.min ys.length len) }) tmps w' := by
          intro ad h0
          subst h0
          have hmin : Nat.min ys.length 0 = 0 := Nat.min_eq_right (Nat.zero_le _)
          rw [hmin]
          have hself : (h.set r { o with es := o.es.take off ++ ys.take 0 ++ o.es.drop (off + 0) }) = h := by
            have : o.es.take off ++ ys.take 0 ++ o.es.drop (off + 0) = o.es := by simp
            rw [this]
            apply List.ext_getElem?
            intro k
            by_cases hkr : r = k
            · subst hkr
              rw [List.getElem?_set_self (List.getElem?_eq_some_iff.1 g1).1, g1]
            · rw [List.getElem?_set_ne hkr]
          rw [hself]
          refine ⟨.int .i64 0, w, μ, ?_, by simpa using Rep.val (S := S) (w := w) (μ := μ) (.int .i64 0), st⟩
          obtain ⟨_, _, hv⟩ := hsrc
          rcases hv with ⟨rfl, hm0⟩ | ⟨a, c, rfl, _⟩
          · cases ad <;> simp [Builtin.copy_, run_underlying i1, sizeOf, typeInfo, i2, Builtin.lenOf, Builtin.firstCells, storeCells, goInt]
          · cases ad <;> simp [Builtin.copy_, run_underlying i1, sizeOf, typeInfo, i2, Builtin.lenOf, Builtin.firstCells, storeCells, loadCells, loadCellsFrom, goInt]
        cases hx with
        | arr0 a ha => exact trivial0 rfl
        | anil => exact trivial0 rfl
        | arr b cap hb hcap =>
          have hsol : ObRel S w μ r o := by
            rcases st.heap r o g1 with ⟨d, _⟩ | ⟨_, _, d⟩ | ⟨_, d⟩
            · rw [hk] at d; cases d
            · rw [hb] at d; cases d
            · exact d
          obtain ⟨b', vs, t, C', e1, e2, e3, e4, e5, e5', e6, e7⟩ := hsol.ex
          rw [hb] at e1
          cases e1
          obtain ⟨e8, e9⟩ := e5' hk
          have hmin : (news.take (Nat.min ys.length len * i.size)).length = Nat.min ys.length len * i.size := by
            rw [List.length_take, hsrc.1]
            have : Nat.min ys.length len * i.size ≤ ys.length * i.size := Nat.mul_le_mul_right _ (Nat.min_le_left _ _)
            omega
          have hml : Nat.min ys.length len ≤ len := Nat.min_le_right _ _
          have hmy : Nat.min ys.length len ≤ ys.length := Nat.min_le_left _ _
          have hroom : off * o.sz + Nat.min ys.length len * o.sz ≤ vs.size := by
            rw [← Nat.add_mul]
            exact Nat.le_trans (Nat.mul_le_mul_right _ (by omega)) e5
          have hrun := copy_run (P := cx.P) w t1 t2 ty q.1 i i1 i2 b (off * o.sz) len cap vs t e2 v ys.length news hsrc (by rw [hmin, hsz]; exact hroom)
          obtain ⟨r1, r2, r3, r4⟩ := rows_over (S := S) (w := w) (sz := o.sz) (off := off) (C := off + cap) (es := o.es) (ys := ys.take (Nat.min ys.length len)) (vs := vs) (news := news.take (Nat.min ys.length len * i.size)) e8 e5
            (by rw [List.length_take]; omega) (by rw [hmin, List.length_take, Nat.min_eq_left hmy, hsz]) e6 (fun e he => by rw [← hsz]; exact hyl e (List.mem_of_mem_take he))
            (fun i' j e a he ha => by
              obtain ⟨u, hu, hru⟩ := e7 i' j e a he ha
              refine ⟨u, hu, ?_⟩
              unfold Ob.mu at hru
              rw [hk] at hru
              exact hru)
            (fun i' j e a he ha => by
              rw [List.getElem?_take] at he
              split at he
              · rename_i hi'
                obtain ⟨u, hu, hru⟩ := hyc i' j e a he ha
                refine ⟨u, ?_, hru⟩
                have hj := (List.getElem?_eq_some_iff.1 ha).1
                have hel := hyl e (List.mem_of_getElem? he)
                have : (i' + 1) * i.size ≤ Nat.min ys.length len * i.size := Nat.mul_le_mul_right _ hi'
                rw [Nat.add_mul, Nat.one_mul] at this
                rw [List.getElem?_take, if_pos (by rw [← hsz]; omega), ← hsz]
                exact hu
              · cases he)
          have hl' : (ys.take (Nat.min ys.length len)).length = Nat.min ys.length len := by rw [List.length_take]; omega
          rw [hl'] at r2 r3 r4
          refine ⟨_, _, μ, hrun, ?_, st.reset g1 hk hb e2 r1 r2 r3 r4⟩
          exact Rep.val _
      · cases hm4
    · cases hm
theorem zeroCells_get {z : Array Value} {n s i j : Nat} (hz : z.size = s) (hs : 0 < s) (hi : i < n) (hj : j < s) : (Builtin.zeroCells z n)[i * s + j]? = z[j]? := by
  subst hz
  have hlt : i * z.size + j < n * z.size := by
    have : (i + 1) * z.size ≤ n * z.size := Nat.mul_le_mul_right _ hi
    rw [Nat.add_mul, Nat.one_mul] at this
    omega
  have hm : (i * z.size + j) % z.size = j := by rw [Nat.mul_comm, Nat.mul_add_mod, Nat.mod_eq_of_lt hj]
  simp [Builtin.zeroCells, hlt, hm, hj]
/-- clear. -/
theorem clearV_sem (st : St cx K N S μ env h tmps w) {t1 ty : TypeId} {x : AV} {u : Value} (hx : Rep S w μ x u) {av : AV} {h' : Heap} (hm : clearV cx t1 x h (fun v h => some (v, h)) = some (av, h')) :
    ∃ r w' μ', (Builtin.clear_ #[t1] ty #[u]).run cx.P w = .ok r w' ∧ Rep S w' μ' av r ∧ St cx K N S μ' env h' tmps w' := by
  unfold clearV at hm
  obtain ⟨q, h1, hm1⟩ := bind_some_iff hm
  clear hm
  obtain ⟨i, z, i1, i2, i3, i4, i5, i6, i7, i8, i9⟩ := sliceInfo_spec h1
  split at hm1
  · rename_i r ver off len
    obtain ⟨o, g1, hm2⟩ := bind_some_iff hm1
    clear hm1
    obtain ⟨_, g2, hm3⟩ := bind_some_iff hm2
    clear hm2
    obtain ⟨_, g3, hm4⟩ := bind_some_iff hm3
    clear hm3
    have g2 := chk_eq g2
    have g3 := chk_eq g3
    split at hm4
    · rename_i hk
      obtain ⟨_, g4, hm5⟩ := bind_some_iff hm4
      clear hm4
      have hle : off + len ≤ o.es.length := by
        unfold chkLe at g4
        split at g4
        · assumption
        · cases g4
      cases hone : (q.2.2.1.all AV.one) with
      | false => rw [hone] at hm5; cases hm5
      | true =>
        rw [hone] at hm5
        cases hm5
        have hsz : i.size = o.sz := by rw [← i7]; exact g3.symm
        have hzr : (zeroValue q.1).run cx.P w = .ok z w := by simp [zeroValue, typeInfo, i2, i3]
        have trivial0 : ∀ {ad : Option Addr} {cap : Nat}, len = 0 → ∃ r' w' μ', (Builtin.clear_ #[t1] ty #[.slice ad 0 cap]).run cx.P w = .ok r' w' ∧ Rep S w' μ' (.val (.tuple #[])) r' ∧
            St cx K N S μ' env (h.set r { o with es := o.es.take off ++ List.replicate len q.2.2.1 ++ o.es.drop (off + len) }) tmps w' := by
          intro ad cap h0
          subst h0
          have hself : (h.set r { o with es := o.es.take off ++ List.replicate 0 q.2.2.1 ++ o.es.drop (off + 0) }) = h := by
            have : o.es.take off ++ List.replicate 0 q.2.2.1 ++ o.es.drop (off + 0) = o.es := by simp
            rw [this]
            apply List.ext_getElem?
            intro k
            by_cases hkr : r = k
            · subst hkr
              rw [List.getElem?_set_self (List.getElem?_eq_some_iff.1 g1).1, g1]
            · rw [List.getElem?_set_ne hkr]
          rw [hself]
          exact ⟨.tuple #[], w, μ, by cases ad <;> simp [Builtin.clear_, run_underlying i1], .val _, st⟩
        cases hx with
        | arr0 a ha => exact trivial0 rfl
        | anil => exact trivial0 rfl
        | arr b cap hb hcap =>
          by_cases h0 : len = 0
          · subst h0
            exact trivial0 rfl
          · have hsol : ObRel S w μ r o := by
              rcases st.heap r o g1 with ⟨d, _⟩ | ⟨_, _, d⟩ | ⟨_, d⟩
              · rw [hk] at d; cases d
              · rw [hb] at d; cases d
              · exact d
            obtain ⟨b', vs, t, C', e1, e2, e3, e4, e5, e5', e6, e7⟩ := hsol.ex
            rw [hb] at e1
            cases e1
            obtain ⟨e8, e9⟩ := e5' hk
            have hnl : (Builtin.zeroCells z.cells len).toList.length = len * o.sz := by rw [Array.length_toList, size_zeroCells, i4, hsz]
            have hroom : off * o.sz + len * o.sz ≤ vs.size := by
              rw [← Nat.add_mul]
              exact Nat.le_trans (Nat.mul_le_mul_right _ (by omega)) e5
            have hval : ∀ y ∈ (Builtin.zeroCells z.cells len).toList, y.oneCell' = true := by
              intro y hy
              obtain ⟨k, hk'⟩ := List.mem_iff_getElem?.1 hy
              have hkl := (List.getElem?_eq_some_iff.1 hk').1
              rw [hnl, ← hsz] at hkl
              obtain ⟨d1, d2, d3⟩ := div_mod_lt i5 hkl
              have hg := zeroCells_get (z := z.cells) i4 i5 d1 d2
              rw [d3] at hg
              rw [Array.getElem?_toList, hg] at hk'
              have hmem : AV.val y ∈ q.2.2.1 := by
                rw [i8]
                exact List.mem_map.2 ⟨y, by simpa using Array.mem_of_getElem? hk', rfl⟩
              exact one_cell (S := S) (w := w) (μ := μ) (List.all_eq_true.1 hone _ hmem) (.val y)
            have hst := run_storeCells_at cx.P b (off * o.sz) t (Builtin.zeroCells z.cells len).toList 0 vs w e2 (by simp only [Nat.add_zero]; rw [hnl]; exact hroom) hval
            simp only [Nat.add_zero] at hst
            obtain ⟨r1, r2, r3, r4⟩ := rows_over (S := S) (w := w) (sz := o.sz) (off := off) (C := off + cap) (es := o.es) (ys := List.replicate len q.2.2.1) (vs := vs) (news := (Builtin.zeroCells z.cells len).toList) e8 e5
              (by rw [List.length_replicate]; exact hle) (by rw [hnl, List.length_replicate]) e6 (fun e he => by
                rw [List.eq_of_mem_replicate he, i8, ← hsz]
                simpa using i4)
              (fun i' j e a he ha => by
                obtain ⟨u, hu, hru⟩ := e7 i' j e a he ha
                refine ⟨u, hu, ?_⟩
                unfold Ob.mu at hru
                rw [hk] at hru
                exact hru)
              (fun i' j e a he ha => by
                have hi' := (List.getElem?_eq_some_iff.1 he).1
                simp at hi'
                rw [List.eq_of_mem_replicate (List.mem_of_getElem? he), i8] at ha
                simp only [List.getElem?_map] at ha
                cases hz : z.cells.toList[j]? with
                | none => rw [hz] at ha; cases ha
                | some y =>
                  rw [hz] at ha
                  cases ha
                  have hz' : z.cells[j]? = some y := by simpa using hz
                  have hj : j < i.size := by
                    have := (Array.getElem?_eq_some_iff.1 hz').1
                    omega
                  refine ⟨y, ?_, .val y⟩
                  rw [Array.getElem?_toList, ← hsz, zeroCells_get i4 i5 hi' hj]
                  exact hz')
            rw [List.length_replicate] at r2 r3 r4
            refine ⟨.tuple #[], _, μ, ?_, .val _, st.reset g1 hk hb e2 r1 r2 r3 r4⟩
            obtain ⟨len', rfl⟩ : ∃ l, len = l + 1 := ⟨len - 1, by omega⟩
            simp [Builtin.clear_, run_underlying i1, hzr, hst]
    · cases hm4
  · cases hm1
end
end Go.Proofs.Av
