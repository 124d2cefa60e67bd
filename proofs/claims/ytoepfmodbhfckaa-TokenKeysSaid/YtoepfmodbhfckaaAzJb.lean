/- What append, make and copy do, told of one's own rows. -/
import Derived.Test.YtoepfmodbhfckaaAzJa
import Derived.Lib.AppendStr
namespace Go.Proofs.Av
open Go
/-- A slice that is one's own: nil, or from its row's begin on. -/
def OwnV (w : World) (e : TypeId) (size : Nat) (v : Value) (n : Nat) (xs : List Value) : Prop := xs.length = n * size ∧ ((v = .slice none 0 0 ∧ n = 0) ∨
  ∃ g cap cur, v = .slice (some ⟨g, 0, none⟩) n cap ∧ w.heap[g]? = some (.cells cur e (0, 0)) ∧ n ≤ cap ∧ cur.size = cap * size ∧ cur.toList.take (n * size) = xs)
theorem app_run {P : Program} (w : World) (t ty e : TypeId) (i : TypeInfo) (z : Value) (ht : P.underlying t = some (.slice e)) (hi : P.info? e = some i) (hz : i.zero = some z)
    (hzs : z.cells.size = i.size) (_hsz : 0 < i.size) (v : Value) (n : Nat) (xs : List Value) (hown : OwnV w e i.size v n xs) (y : Value) (m : Nat) (news : List Value) (hy : SrcV w i.size y m news)
    (h63 : n + m ≤ maxLen) (hbytes : (n + m) * i.bytes ≤ 140737488355328) :
    ∃ v' w', (Builtin.append_ #[t, t] ty #[v, y]).run P w = .ok v' w' ∧ w.grownBy w' v.ownBlock ∧ w.drawn ≤ w'.drawn ∧ ((v' = .slice none 0 0 ∧ v = .slice none 0 0 ∧ m = 0) ∨
      ∃ g' cap' cur', v' = .slice (some ⟨g', 0, none⟩) (n + m) cap' ∧ w'.heap[g']? = some (.cells cur' e (0, 0)) ∧ n + m ≤ cap' ∧ cur'.size = cap' * i.size ∧ cur'.toList.take ((n + m) * i.size) = xs ++ news ∧
        (v.ownBlock = some g' ∨ w.heap.size ≤ g')) := by
  obtain ⟨hl, h1, hy⟩ := hy
  have hsmall : n + m ≤ 9223372036854775807 := by simp only [maxLen] at h63; omega
  have hlen : (xs ++ news).length = (n + m) * i.size := by rw [List.length_append, hown.1, hl, Nat.add_mul]
  rcases hy with ⟨rfl, rfl⟩ | ⟨a, c, rfl, hnews⟩
  · have hn : news = [] := List.eq_nil_of_length_eq_zero (by simpa using hl)
    subst hn
    refine ⟨v, w, ?_, ⟨rfl, rfl, rfl, Nat.le_refl _, fun _ _ _ => rfl⟩, Nat.le_refl _, ?_⟩
    · rcases hown.2 with ⟨rfl, rfl⟩ | ⟨g, cap, cur, rfl, _, hnc, _⟩
      · simp [Builtin.append_, run_underlying ht, sizeOf, typeInfo, hi, Builtin.lenOf, Builtin.firstCells]
      · simp [Builtin.append_, run_underlying ht, sizeOf, typeInfo, hi, Builtin.lenOf, Builtin.firstCells, hnc, storeCells]
    · rcases hown.2 with ⟨rfl, rfl⟩ | ⟨g, cap, cur, rfl, h2, h3, h4, h5⟩
      · exact .inl ⟨rfl, rfl, rfl⟩
      · exact .inr ⟨g, cap, cur, rfl, h2, h3, h4, by simpa using h5, .inl rfl⟩
  have grown : ∀ (old : Nat), old < n + m → ∀ (row : Option Nat),
      (∃ g' cap' cur', (Value.slice (some ⟨w.heap.size, 0, none⟩) (n + m) (grownCap w (n + m) old e)) = .slice (some ⟨g', 0, none⟩) (n + m) cap' ∧
        (w.drew.alloc (.cells (xs.toArray ++ news.toArray ++ Builtin.zeroCells z.cells (grownCap w (n + m) old e - (n + m))) e)).heap[g']? = some (.cells cur' e (0, 0)) ∧ n + m ≤ cap' ∧ cur'.size = cap' * i.size ∧
        cur'.toList.take ((n + m) * i.size) = xs ++ news ∧ w.heap.size ≤ g') ∧
      w.grownBy (w.drew.alloc (.cells (xs.toArray ++ news.toArray ++ Builtin.zeroCells z.cells (grownCap w (n + m) old e - (n + m))) e)) row := by
    intro old ho row
    have hge := grownCap_ge w (n + m) old e
    refine ⟨⟨w.heap.size, _, _, rfl, heap_alloc_new w.drew _, hge, ?_, ?_, Nat.le_refl _⟩, ⟨rfl, rfl, rfl, by simp, fun k hk _ => heap_alloc_old w.drew _ hk⟩⟩
    · simp only [Array.size_append, List.size_toArray, size_zeroCells, hzs, hown.1, hl, ← Nat.add_mul]
      congr 1
      omega
    · simp only [Array.toList_append, List.append_assoc]
      rw [← List.append_assoc, ← hlen]
      exact List.take_left
  rcases hown.2 with ⟨rfl, rfl⟩ | ⟨g, cap, cur, rfl, hg, hnc, hcs, htake⟩
  · have hx : xs = [] := List.eq_nil_of_length_eq_zero (by simpa using hown.1)
    subst hx
    by_cases hm : m = 0
    · subst hm
      have hn : news = [] := List.eq_nil_of_length_eq_zero (by simpa using hl)
      subst hn
      refine ⟨.slice none 0 0, w, ?_, ⟨rfl, rfl, rfl, Nat.le_refl _, fun _ _ _ => rfl⟩, Nat.le_refl _, .inl ⟨rfl, rfl, rfl⟩⟩
      simp [Builtin.append_, run_underlying ht, sizeOf, typeInfo, hi, Builtin.lenOf, Builtin.firstCells, loadCells, loadCellsFrom]
    · have hr := run_append_nil (P := P) w t ty e i z ht hi hz a m c news hl hnews (by omega) (by omega) (by have hb := hbytes; simp only [Nat.zero_add] at hb; omega)
      have hgr := grown 0 (by omega) (Value.ownBlock (.slice none 0 0))
      simp only [Nat.zero_add, List.nil_append, Array.empty_append] at hgr ⊢
      obtain ⟨⟨g', cap', cur', q1, q2, q3, q4, q5, q6⟩, q7⟩ := hgr
      exact ⟨_, _, hr, q7, Nat.le_succ _, .inr ⟨g', cap', cur', q1, q2, q3, q4, q5, .inr q6⟩⟩
  · by_cases hroom : n + m ≤ cap
    · have hfit : n * i.size + news.length ≤ cur.size := by rw [hl, hcs, ← Nat.add_mul]; exact Nat.mul_le_mul_right _ hroom
      have hr := run_append_room (P := P) w t ty e i ht hi g n cap cur hg a m c news hl hnews h1 hroom hfit
      refine ⟨_, _, hr, ⟨rfl, rfl, rfl, by simp, fun k _ hk => setRow_other w g k _ (fun e => hk (by simp [Value.ownBlock, e]))⟩, Nat.le_refl _, .inr ⟨g, cap, _, rfl, setRow_heap w g cur _ e _ hg, hroom, ?_, ?_, .inl rfl⟩⟩
      · simp only [List.size_toArray, List.length_append, List.length_take, List.length_drop, Array.length_toList]
        omega
      · rw [htake, ← hlen]
        exact List.take_left
    · have holds : ∀ j u, xs[j]? = some u → w.cell? ((⟨g, 0, none⟩ : Addr).add j) = some u := by
        intro j u hu
        have hadd : (⟨g, 0, none⟩ : Addr).add j = ⟨g, j, none⟩ := by unfold Addr.add; split <;> simp_all
        rw [hadd, cell_of_row w g j cur e (0, 0) hg]
        rw [← htake, List.getElem?_take] at hu
        split at hu
        · simpa using hu
        · cases hu
      have hr := run_append_grow (P := P) w t ty e i z ht hi hz ⟨g, 0, none⟩ n cap xs hown.1 holds a m c news hl hnews (by omega) (by omega) (growslice_fits (by omega) hbytes)
      obtain ⟨⟨g', cap', cur', q1, q2, q3, q4, q5, q6⟩, q7⟩ := grown cap (by omega) (Value.ownBlock (.slice (some ⟨g, 0, none⟩) n cap))
      exact ⟨_, _, hr, q7, Nat.le_succ _, .inr ⟨g', cap', cur', q1, q2, q3, q4, q5, .inr q6⟩⟩
/-- What is appended: a slice of the same type, or a text. -/
inductive SrcA (P : Program) (w : World) (t t2 : TypeId) (size : Nat) (y : Value) (m : Nat) (news : List Value) : Prop
  | slice (ht : t2 = t) (h : SrcV w size y m news)
  | str (hu : P.underlying t2 = some .string) (h1 : size = 1) (s : ByteArray) (hy : y = .string s) (hm : m = s.size) (hn : news = Lib.strCells s)
theorem SrcA.len {P : Program} {w : World} {t t2 : TypeId} {size : Nat} {y : Value} {m : Nat} {news : List Value} (h : SrcA P w t t2 size y m news) : news.length = m * size := by
  cases h with
  | slice _ h => exact h.1
  | str hu h1 s hy hm hn => rw [hn, hm, h1, Lib.strCells_length, Nat.mul_one]
theorem app_runA {P : Program} (w : World) (t t2 ty e : TypeId) (i : TypeInfo) (z : Value) (ht : P.underlying t = some (.slice e)) (hi : P.info? e = some i) (hz : i.zero = some z)
    (hzs : z.cells.size = i.size) (hsz : 0 < i.size) (v : Value) (n : Nat) (xs : List Value) (hown : OwnV w e i.size v n xs) (y : Value) (m : Nat) (news : List Value) (hy : SrcA P w t t2 i.size y m news)
    (h63 : n + m ≤ maxLen) (hbytes : (n + m) * i.bytes ≤ 140737488355328) :
    ∃ v' w', (Builtin.append_ #[t, t2] ty #[v, y]).run P w = .ok v' w' ∧ w.grownBy w' v.ownBlock ∧ w.drawn ≤ w'.drawn ∧ ((v' = .slice none 0 0 ∧ v = .slice none 0 0 ∧ m = 0) ∨
      ∃ g' cap' cur', v' = .slice (some ⟨g', 0, none⟩) (n + m) cap' ∧ w'.heap[g']? = some (.cells cur' e (0, 0)) ∧ n + m ≤ cap' ∧ cur'.size = cap' * i.size ∧ cur'.toList.take ((n + m) * i.size) = xs ++ news ∧
        (v.ownBlock = some g' ∨ w.heap.size ≤ g')) := by
  have hl := hy.len
  cases hy with
  | slice ht2 hy => rw [ht2]; exact app_run w t ty e i z ht hi hz hzs hsz v n xs hown y m news hy h63 hbytes
  | str hu h1 s hy hm hn =>
  subst hy
  have hl' : news.length = m := by rw [hl, h1, Nat.mul_one]
  have hsmall : n + m ≤ 9223372036854775807 := by simp only [maxLen] at h63; omega
  have hlen : (xs ++ news).length = (n + m) * i.size := by rw [List.length_append, hown.1, hl, Nat.add_mul]
  have grown : ∀ (old : Nat), old < n + m → ∀ (row : Option Nat),
      (∃ g' cap' cur', (Value.slice (some ⟨w.heap.size, 0, none⟩) (n + m) (grownCap w (n + m) old e)) = .slice (some ⟨g', 0, none⟩) (n + m) cap' ∧
        (w.drew.alloc (.cells (xs.toArray ++ news.toArray ++ Builtin.zeroCells z.cells (grownCap w (n + m) old e - (n + m))) e)).heap[g']? = some (.cells cur' e (0, 0)) ∧ n + m ≤ cap' ∧ cur'.size = cap' * i.size ∧
        cur'.toList.take ((n + m) * i.size) = xs ++ news ∧ w.heap.size ≤ g') ∧
      w.grownBy (w.drew.alloc (.cells (xs.toArray ++ news.toArray ++ Builtin.zeroCells z.cells (grownCap w (n + m) old e - (n + m))) e)) row := by
    intro old ho row
    have hge := grownCap_ge w (n + m) old e
    refine ⟨⟨w.heap.size, _, _, rfl, heap_alloc_new w.drew _, hge, ?_, ?_, Nat.le_refl _⟩, ⟨rfl, rfl, rfl, by simp, fun k hk _ => heap_alloc_old w.drew _ hk⟩⟩
    · simp only [Array.size_append, List.size_toArray, size_zeroCells, hzs, hown.1, hl, ← Nat.add_mul]
      congr 1
      omega
    · simp only [Array.toList_append, List.append_assoc]
      rw [← List.append_assoc, ← hlen]
      exact List.take_left
  rcases hown.2 with ⟨rfl, rfl⟩ | ⟨g, cap, cur, rfl, hg, hnc, hcs, htake⟩
  · have hx : xs = [] := List.eq_nil_of_length_eq_zero (by simpa using hown.1)
    subst hx
    by_cases hm0 : m = 0
    · subst hm0
      have hn0 : news = [] := List.eq_nil_of_length_eq_zero hl'
      refine ⟨.slice none 0 0, w, ?_, ⟨rfl, rfl, rfl, Nat.le_refl _, fun _ _ _ => rfl⟩, Nat.le_refl _, .inl ⟨rfl, rfl, rfl⟩⟩
      have hs0 : s.size = 0 := hm.symm
      simp [Builtin.append_, run_underlying ht, run_underlying hu, sizeOf, typeInfo, hi, Builtin.lenOf, Builtin.firstCells, hs0]
    · subst hm
      have hr := run_append_nil_string (P := P) w t t2 ty e i z ht hu hi hz s (by omega) (by omega) (by have hb := hbytes; simp only [Nat.zero_add] at hb; omega)
      have hgr := grown 0 (by omega) (Value.ownBlock (.slice none 0 0))
      have hnn : news.toArray = s.data.map (fun b => Value.int .u8 b.toNat) := by
        rw [hn]
        apply Array.ext'
        simp [Lib.strCells]
      rw [hnn] at hgr
      simp only [Nat.zero_add, List.nil_append, Array.empty_append] at hgr ⊢
      obtain ⟨⟨g', cap', cur', q1, q2, q3, q4, q5, q6⟩, q7⟩ := hgr
      exact ⟨_, _, hr, q7, Nat.le_succ _, .inr ⟨g', cap', cur', q1, q2, q3, q4, q5, .inr q6⟩⟩
  · subst hm
    by_cases hroom : n + s.size ≤ cap
    · have hfit : n + s.size ≤ cur.size := by rw [hcs, h1, Nat.mul_one]; exact hroom
      have hr := Lib.run_append_room_string (P := P) w t t2 ty e i ht hu hi h1 g n cap cur hg s hroom hfit
      refine ⟨_, _, hr, ⟨rfl, rfl, rfl, by simp, fun k _ hk => setRow_other w g k _ (fun e => hk (by simp [Value.ownBlock, e]))⟩, Nat.le_refl _, .inr ⟨g, cap, _, rfl, setRow_heap w g cur _ e _ hg, hroom, ?_, ?_, .inl rfl⟩⟩
      · simp only [List.size_toArray, List.length_append, List.length_take, List.length_drop, Array.length_toList, Lib.strCells_length]
        omega
      · rw [h1, Nat.mul_one] at htake hlen
        rw [htake, ← hn, h1, Nat.mul_one, ← hlen]
        exact List.take_left
    · have holds : ∀ j u, xs[j]? = some u → w.cell? ((⟨g, 0, none⟩ : Addr).add j) = some u := by
        intro j u hu
        have hadd : (⟨g, 0, none⟩ : Addr).add j = ⟨g, j, none⟩ := by unfold Addr.add; split <;> simp_all
        rw [hadd, cell_of_row w g j cur e (0, 0) hg]
        rw [← htake, List.getElem?_take] at hu
        split at hu
        · simpa using hu
        · cases hu
      have hr := Lib.run_append_grow_string (P := P) w t t2 ty e i z ht hu hi hz ⟨g, 0, none⟩ n cap xs hown.1 holds s (by omega) (by omega) (growslice_fits (by omega) hbytes)
      rw [← hn] at hr
      obtain ⟨⟨g', cap', cur', q1, q2, q3, q4, q5, q6⟩, q7⟩ := grown cap (by omega) (Value.ownBlock (.slice (some ⟨g, 0, none⟩) n cap))
      exact ⟨_, _, hr, q7, Nat.le_succ _, .inr ⟨g', cap', cur', q1, q2, q3, q4, q5, .inr q6⟩⟩
/-- copy into a row of one's own. -/
theorem copy_run {P : Program} (w : World) (dT sT ty elem : TypeId) (i : TypeInfo) (hu : P.underlying dT = some (.slice elem)) (hi : P.info? elem = some i)
    (g o dLen dCap : Nat) (cur : Array Value) (t : TypeId) (hg : w.heap[g]? = some (.cells cur t (0, 0))) (y : Value) (m : Nat) (news : List Value) (hy : SrcV w i.size y m news)
    (hfit : o + (news.take (Nat.min m dLen * i.size)).length ≤ cur.size) :
    (Builtin.copy_ #[dT, sT] ty #[.slice (some ⟨g, o, none⟩) dLen dCap, y]).run P w =
      .ok (goInt (Nat.min m dLen)) (w.setRow g (cur.toList.take o ++ news.take (Nat.min m dLen * i.size) ++ cur.toList.drop (o + (news.take (Nat.min m dLen * i.size)).length)).toArray) := by
  obtain ⟨hl, h1, hy⟩ := hy
  have hst := run_storeCells_at P g o t (news.take (Nat.min m dLen * i.size)) 0 cur w hg (by simpa using hfit) (fun v hv => h1 v (List.mem_of_mem_take hv))
  simp only [Nat.add_zero] at hst
  have hmin : Nat.min m dLen * i.size ≤ news.length := by
    rw [hl]
    exact Nat.mul_le_mul_right _ (Nat.min_le_left _ _)
  rcases hy with ⟨rfl, rfl⟩ | ⟨a, c, rfl, hsrc⟩
  · have hn : news = [] := List.eq_nil_of_length_eq_zero (by simpa using hl)
    subst hn
    have hz : w.setRow g (cur.toList.take o ++ cur.toList.drop o).toArray = w := by
      rw [List.take_append_drop]
      simpa using setRow_self w g cur t (0, 0) hg
    simp only [List.take_nil, List.length_nil, Nat.add_zero, List.append_nil]
    rw [hz]
    simp [Builtin.copy_, run_underlying hu, Builtin.lenOf, Builtin.firstCells, sizeOf, typeInfo, hi, storeCells, Nat.min_def]
  · have hlen : (news.take (Nat.min m dLen * i.size)).length = Nat.min m dLen * i.size := by rw [List.length_take]; omega
    have hld := run_loadCells_list (P := P) w a (news.take (Nat.min m dLen * i.size)) (fun j v hv => by
      rw [List.getElem?_take] at hv
      split at hv
      · exact hsrc j v hv
      · cases hv)
    rw [hlen] at hld
    simp [Builtin.copy_, run_underlying hu, Builtin.lenOf, Builtin.firstCells, sizeOf, typeInfo, hi, hld, hst]
end Go.Proofs.Av
