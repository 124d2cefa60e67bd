/- Slices of one's own: new ones, ones given up for longer ones, ones written over. -/
import Derived.Test.YtoepfmodbhfckaaAzJ
import Derived.Laws.AppendOwn
import Derived.Laws.MakeOwn
import Derived.Laws.OwnMore
namespace Go.Proofs.Av
open Go
section
variable {cx : Cx} {K : Kf} {N : Nat} {S : Nat → Prop} {μ : Mu} {env : Env} {h : Heap} {tmps : Array Value} {w : World}
def Mu.updO (μ : Mu) (r : Nat) (x : Option (Nat × Nat × Nat)) : Mu := match x with
  | .none => μ
  | .some x => μ.upd r x
theorem killH_len (h : Heap) (kill : Option Nat) : (killH h kill).length = h.length := by
  unfold killH
  split
  · rfl
  · split <;> simp
theorem killH_get {h : Heap} {kill : Option Nat} {r : Nat} {o : Ob} (ho : (killH h kill)[r]? = some o) : (kill = some r ∧ ∃ o0, h[r]? = some o0 ∧ o = { o0 with k := .dead, es := [] }) ∨ (kill ≠ some r ∧ h[r]? = some o) := by
  unfold killH at ho
  split at ho
  · exact .inr ⟨by simp, ho⟩
  · rename_i k
    split at ho
    · rename_i o0 h0
      by_cases hkr : k = r
      · subst hkr
        rw [List.getElem?_set_self (List.getElem?_eq_some_iff.1 h0).1] at ho
        cases ho
        exact .inl ⟨rfl, o0, h0, rfl⟩
      · rw [List.getElem?_set_ne hkr] at ho
        exact .inr ⟨by simpa using hkr, ho⟩
    · rename_i h0
      by_cases hkr : k = r
      · subst hkr
        rw [h0] at ho
        cases ho
      · exact .inr ⟨by simpa using hkr, ho⟩
/-- What is asked of a new slice's row. -/
structure RowOk (S : Nat → Prop) (w w' : World) (μ : Mu) (kill : Option Nat) (o : Ob) (b s C : Nat) : Prop where
  sz : s = o.sz
  new : (∃ r s', kill = some r ∧ μ r = some (b, s')) ∨ w.heap.size ≤ b
  row : ∃ vs, w'.heap[b]? = some (.cells vs o.t (0, 0)) ∧ vs.size = C * o.sz ∧ o.es.length * o.sz ≤ vs.size ∧ (∀ (i : Nat) (e : List AV), o.es[i]? = some e → e.length = o.sz) ∧
    (∀ (i j : Nat) (e : List AV) (v : AV), o.es[i]? = some e → e[j]? = some v → ∃ u, vs[i * o.sz + j]? = some u ∧ Rep S w' Mu.none v u)
theorem St.step (st : St cx K N S μ env h tmps w) {w' : World} {kill : Option Nat} {o : Ob} {x : Option (Nat × Nat × Nat)} (hle : w.heap.size ≤ w'.heap.size) (h1 : w'.os = w.os) (h2 : w'.tape = w.tape) (h3 : OutD cx w w')
    (hblk : ∀ b, b < w.heap.size → (∀ r s, kill = some r → μ r ≠ some (b, s)) → w'.heap[b]? = w.heap[b]?) (hkill : ∀ r, kill = some r → ∃ o0, h[r]? = some o0 ∧ o0.k = .arr) (hk : o.k = .arr)
    (hn : x = none → o.es = []) (hs : ∀ b s C, x = some (b, s, C) → RowOk S w w' μ kill o b s C) : St cx K N S (μ.updO h.length x) env (killH h kill ++ [o]) tmps w' := by
  have hfresh : μ h.length = none := by
    cases hx : μ h.length with
    | none => rfl
    | some x => have := st.dom _ _ hx; omega
  have hμ : ∀ r y, μ r = some y → (μ.updO h.length x) r = some y := fun r y hy => by
    unfold Mu.updO
    cases x with
    | none => exact hy
    | some x =>
      simp only [Mu.upd]
      rw [if_neg (by intro e; subst e; rw [hfresh] at hy; cases hy)]
      exact hy
  have hold : ∀ r, r ≠ h.length → (μ.updO h.length x) r = μ r := fun r hr => by
    unfold Mu.updO
    cases x with
    | none => rfl
    | some x => simp only [Mu.upd]; rw [if_neg hr]
  have hkS : ∀ r b s, kill = some r → μ r = some (b, s) → ¬ S b := fun r b s hkr hm => by
    obtain ⟨o0, g1, g2⟩ := hkill r hkr
    rcases st.heap r o0 g1 with ⟨d1, _⟩ | ⟨_, _, d1⟩ | ⟨_, d1⟩
    · rw [g2] at d1; cases d1
    · rw [hm] at d1; cases d1
    · obtain ⟨b', vs, t, C, e1, e2, e3, e4, _⟩ := d1.ex
      rw [hm] at e1
      cases e1
      exact e4 (by rw [g2]; simp)
  have hSk : ∀ b, S b → w'.heap[b]? = w.heap[b]? := fun b hb => hblk b (st.slt b hb) fun r s hkr hm => hkS r b s hkr hm hb
  have hlen := killH_len h kill
  have hnew : ∀ r o', (killH h kill ++ [o])[r]? = some o' → (r < h.length ∧ (killH h kill)[r]? = some o') ∨ (r = h.length ∧ o' = o) := fun r o' ho' => by
    by_cases hr : r < h.length
    · rw [List.getElem?_append_left (by omega)] at ho'
      exact .inl ⟨hr, ho'⟩
    · rw [List.getElem?_append_right (by omega)] at ho'
      have h0 := (List.getElem?_eq_some_iff.1 ho').1
      simp at h0
      have : r - (killH h kill).length = 0 := by omega
      rw [this] at ho'
      simp at ho'
      exact .inr ⟨by omega, ho'.symm⟩
  have hal : ∀ r, r < h.length → alive (killH h kill ++ [o]) r → alive h r ∧ kill ≠ some r := fun r hr ha => by
    constructor
    · intro y hy hd
      by_cases hkr : kill = some r
      · obtain ⟨o0, g1, g2⟩ := hkill r hkr
        rw [hy] at g1
        cases g1
        rw [hd] at g2
        cases g2
      · refine ha y ?_ hd
        rw [List.getElem?_append_left (by omega)]
        unfold killH
        cases kill with
        | none => exact hy
        | some k =>
          have : k ≠ r := fun e => hkr (by rw [e])
          simp only
          split
          · rw [List.getElem?_set_ne this]; exact hy
          · exact hy
    · intro hkr
      obtain ⟨o0, g1, g2⟩ := hkill r hkr
      refine ha { o0 with k := .dead, es := [] } ?_ rfl
      rw [List.getElem?_append_left (by omega)]
      unfold killH
      rw [hkr]
      simp only [g1]
      rw [List.getElem?_set_self hr]
  refine ⟨st.size, fun t v ht => (st.env t v ht).mono (fun _ h => h) hSk hμ, fun g cs hg => (st.g g cs hg).mono (fun _ h => h) hSk fun _ _ h => h, ?_, ?_, ?_, ?_, st.s0, st.snew, fun b hb => Nat.lt_of_lt_of_le (st.slt b hb) hle, ?_, Nat.le_trans st.le hle, h1.trans st.os, h2.trans st.tape, h3.trans st.output, fun r x hx => hμ r x (st.fix r x hx)⟩
  · intro r o' ho'
    rcases hnew r o' ho' with ⟨hr, ho'⟩ | ⟨rfl, rfl⟩
    · rcases killH_get ho' with ⟨hkr, o0, g1, rfl⟩ | ⟨hkr, g1⟩
      · refine .inl ⟨rfl, rfl, fun b s C hm => ?_⟩
        rw [hold r (by omega)] at hm
        exact ⟨Nat.lt_of_lt_of_le (st.heap.lt g1 hm) hle, show s = o0.sz from st.heap.sz g1 hm⟩
      · refine (st.heap r o' g1).mono (fun _ h => h) hSk hμ (hold r (by omega)) hle (fun hkd b s hm => hblk b (st.heap.lt g1 hm) fun r2 s2 hk2 hm2 => ?_) fun _ _ _ h => h
        obtain ⟨o2, e1, e2⟩ := hkill r2 hk2
        have := st.inj r r2 b s s2 hm hm2 (fun y hy => by rw [g1] at hy; cases hy; exact hkd) (fun y hy => by rw [e1] at hy; cases hy; rw [e2]; simp)
        exact hkr (by rw [this]; exact hk2)
    · cases x with
      | none => exact .inr (.inl ⟨hk, hn rfl, hfresh⟩)
      | some x =>
        obtain ⟨b, s, C⟩ := x
        obtain ⟨q1, q2, vs, q3, q4, q5, q6, q7⟩ := hs b s C rfl
        subst q1
        refine .inr (.inr ⟨by rw [hk]; simp, b, vs, o'.t, C, by simp [Mu.updO, Mu.upd], q3, fun h => (by rw [hk] at h; cases h), fun _ hb => ?_, q5, fun _ => ⟨q4, rfl⟩, q6, fun i j e v he hv => ?_⟩)
        · rcases q2 with ⟨r, s', hkr, hm⟩ | hb'
          · exact hkS r b s' hkr hm hb
          · have := st.slt b hb; omega
        · obtain ⟨u, hu, hru⟩ := q7 i j e v he hv
          refine ⟨u, hu, ?_⟩
          unfold Ob.mu
          rw [hk]
          exact hru
  · intro r r' b s s' hr hr' ha ha'
    have dom' : ∀ r y, (μ.updO h.length x) r = some y → r < h.length ∨ r = h.length := fun r y hy => by
      by_cases hrl : r = h.length
      · exact .inr hrl
      · rw [hold r hrl] at hy
        exact .inl (st.dom r _ hy)
    have key : ∀ r1 s1 s2, r1 < h.length → μ r1 = some (b, s1) → alive (killH h kill ++ [o]) r1 → (μ.updO h.length x) h.length = some (b, s2) → False := fun r1 s1 s2 hr1 hm1 ha1 hm2 => by
      cases x with
      | none => rw [show (μ.updO h.length none) h.length = μ h.length from rfl, hfresh] at hm2; cases hm2
      | some x =>
        obtain ⟨b2, s3, C3⟩ := x
        simp only [Mu.updO, Mu.upd, if_true] at hm2
        cases hm2
        obtain ⟨q1, q2, _⟩ := hs b s3 C3 rfl
        obtain ⟨al1, al2⟩ := hal r1 hr1 ha1
        rcases q2 with ⟨r2, s', hkr, hm⟩ | hb'
        · obtain ⟨o2, e1, e2⟩ := hkill r2 hkr
          have := st.inj r1 r2 b s1 s' hm1 hm al1 (fun y hy => by rw [e1] at hy; cases hy; rw [e2]; simp)
          exact al2 (by rw [this]; exact hkr)
        · have := st.lt hm1; omega
    rcases dom' r _ hr with hrl | rfl <;> rcases dom' r' _ hr' with hrl' | hrl'
    · rw [hold r (by omega)] at hr
      rw [hold r' (by omega)] at hr'
      exact st.inj r r' b s s' hr hr' (hal r hrl ha).1 (hal r' hrl' ha').1
    · subst hrl'
      rw [hold r (by omega)] at hr
      exact (key r s s' hrl hr ha hr').elim
    · rw [hold r' (by omega)] at hr'
      exact (key r' s' s hrl' hr' ha' hr).elim
    · exact hrl'.symm
  · intro r y hy
    rw [List.length_append, hlen]
    by_cases hrl : r = h.length
    · simp; omega
    · rw [hold r hrl] at hy
      have := st.dom r _ hy
      simp; omega
  · intro r b s hm
    by_cases hrl : r = h.length
    · subst hrl
      cases x with
      | none => rw [show (μ.updO h.length none) h.length = μ h.length from rfl, hfresh] at hm; cases hm
      | some x =>
        obtain ⟨b2, s3, C3⟩ := x
        simp only [Mu.updO, Mu.upd, if_true] at hm
        cases hm
        obtain ⟨_, q2, _⟩ := hs b s3 C3 rfl
        rcases q2 with ⟨r2, s', hkr, hm⟩ | hb'
        · exact st.own r2 b s' hm
        · exact .inr (Nat.le_trans st.le hb')
    · rw [hold r hrl] at hm
      exact st.own r b s hm
  · intro b hb ho
    rw [hblk b (Nat.lt_of_lt_of_le hb st.le) fun r s hkr hm => ?_]
    · exact st.frame b hb ho
    · rcases st.own r b s hm with h | h
      · exact ho h
      · omega
end
end Go.Proofs.Av
