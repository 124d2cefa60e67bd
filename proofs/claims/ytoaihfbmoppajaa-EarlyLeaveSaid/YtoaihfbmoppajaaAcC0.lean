/- What every law of this seat needs: slices.Clone walked; the setting's facts; arguments as plain lists. -/
import Derived.Test.YtoaihfbmoppajaaAcZe
import Derived.Test.YtoaihfbmoppajaaAxV
import Derived.ProofKit
import Derived.OpenShut
import Derived.WalkKit
import Derived.Lib.Walk
import Derived.Lib.SliceRun
namespace Go.Proofs.Av
open Go Go.ChangeShapes Go.WideShapes Go.ChangeAt Go.RowKit

theorem wpList_append_run {P : Program} {w : World} {ops : Array Oper} {rest : List Oper} {o : Oper} {a : Act} {Q : Exit → Act → World → Prop} (hgd : o.guard = none) (s x : Operand) (t : TypeId)
    (ho : o.op = .call { callee := .builtin .append, args := #[s, x], argTypes := #[t, t] }) (v u : Value) (hs : a.eval s = v) (hx : a.eval x = u) (r : Value) (w' : World)
    (hr : (Builtin.append_ #[t, t] o.type #[v, u]).run P w = .ok r w') (h : wpList P ops Q rest (a.put o.dst r) w') : wpList P ops Q (o :: rest) a w :=
  wpList_plain hgd fun _ hK => by
    unfold Oper.wp execOp
    simp only [ho, resolve, invoke, builtin, Sem.run_bind, Sem.run_pure, Result.andThen_ok, List.map_toArray, List.map_cons, List.map_nil, hs, hx, hr]
    exact hK _ _ h

set_option maxHeartbeats 1000000 in
theorem clone_nil (w : World) : Calls Try.prog 49 #[.slice none 0 0] w fun x w' => x = .returned (.slice none 0 0) ∧ w' = w := by
  have q47 : ∀ (w : World) (a : Option Addr) (n c n' c' : Nat), (binOp .eql 47 (.slice a n c) (.slice none n' c')).run Try.prog w = .ok (.bool a.isNone) w := fun w a n c n' c' => Lib.run_eql_slice_nil w _ _ a n c n' c' Try.underlying47
  go_enter Try.func49, Try.ntmps49
  go_wp2
  go_ret
  exact ⟨rfl, rfl⟩
set_option maxHeartbeats 1000000 in
theorem clone_row (w : World) (a : Addr) (n c : Nat) (r : Value) (w' : World) (hr : (Builtin.append_ #[47, 47] 47 #[.slice (some ⟨w.heap.size, 0, none⟩) 0 0, .slice (some a) n c]).run Try.prog (w.alloc (.cells #[] 50)) = .ok r w') :
    Calls Try.prog 49 #[.slice (some a) n c] w fun x w'' => x = .returned r ∧ w'' = w' := by
  have q47 : ∀ (w : World) (a : Option Addr) (n c n' c' : Nat), (binOp .eql 47 (.slice a n c) (.slice none n' c')).run Try.prog w = .ok (.bool a.isNone) w := fun w a n c n' c' => Lib.run_eql_slice_nil w _ _ a n c n' c' Try.underlying47
  have u47 : ∀ w, Sem.run Try.prog (underlying 47) w = .ok (TypeDesc.slice 50) w := run_underlying Try.underlying47
  go_enter Try.func49, Try.ntmps49
  go_wp2_with (at_builtin; refine wpList_append_run rfl _ _ 47 rfl _ _ rfl rfl r w' hr ?_)
  go_wp2
  go_ret
  exact ⟨rfl, rfl⟩
theorem clone_runs : CloneRuns Try.prog 49 47 50 := ⟨47, clone_nil, fun w a n c r w' hr => clone_row w a n c r w' hr⟩
theorem own : ownKnob Try.prog.godebug = none := by kernel_rfl
theorem lays : laidOutB cx.P = true := by kernel_rfl
theorem u4 : cx.P.underlying 4 = some .bool := Try.underlying4
theorem cx_ext : ExtSound cx := fun f e h => by
  have hf : extT f = some e := h
  unfold extT at hf
  split at hf
  · rename_i hb
    have := Nat.eq_of_beq_eq_true hb
    subst this
    cases hf
    exact ext_clone ⟨Try.f49, Try.func49, rfl, by kernel_rfl⟩ Try.underlying47 clone_runs
  · cases hf
theorem no_globals {W : World} : GRel cx (Old W) W := fun g cs hg => by cases hg
theorem u3 : cx.P.underlying 3 = some (.int .i64) := Try.underlying3
theorem u9 : cx.P.underlying 9 = some .string := Try.underlying9
theorem u51 : cx.P.underlying 51 = some (.array 3 3) := Try.underlying51
theorem u48 : cx.P.underlying 48 = some (.slice 51) := Try.underlying48
theorem u47 : cx.P.underlying 47 = some (.slice 50) := Try.underlying47
theorem u27 : cx.P.underlying 27 = some (.slice 3) := Try.underlying27
theorem arg_int {av : AV} (h : ArgFits cx.P 3 av) : ∃ n, av = vi n ∧ RI n := by
  obtain ⟨n, hn, hw⟩ := fits_int u3 (arg_one (by rw [isAgg, u3]) h)
  cases hn
  exact ⟨n, rfl, wf_i64 hw⟩
theorem row3 {x : List AV} (h : Fits cx.P 51 x) : ∃ r : R3, x = r.row ∧ r.ok := by
  obtain ⟨parts, rfl, hl, hp⟩ := fits_array u51 h
  obtain ⟨ns, h1, h2, h3⟩ := parts_i64 u3 parts hp
  rw [hl] at h2
  match ns, h2, h1, h3 with
  | [a, b, c], _, h1, h3 => exact ⟨⟨a, b, c⟩, h1, h3 a (by simp), h3 b (by simp), h3 c (by simp)⟩
theorem rowW {x : List AV} (h : Fits cx.P 50 x) : ∃ w : W, x = w.row ∧ True := by
  obtain ⟨parts, rfl, hl, hp⟩ := fits_struct Try.underlying50 h
  match parts, hl, hp with
  | [p0, p1, p2, p3], _, hp =>
    obtain ⟨a, ha, _⟩ := fits_int u3 (hp 0 _ p0 rfl rfl)
    obtain ⟨b, hb, _⟩ := fits_int u3 (hp 1 _ p1 rfl rfl)
    obtain ⟨c, hc, _⟩ := fits_int u3 (hp 2 _ p2 rfl rfl)
    obtain ⟨d, hd, _⟩ := fits_str u9 (hp 3 _ p3 rfl rfl)
    subst ha hb hc hd
    exact ⟨⟨a, b, c, d⟩, rfl, trivial⟩
theorem row1 {x : List AV} (h : Fits cx.P 3 x) : ∃ n : Int, x = [vi n] ∧ RI n := by
  obtain ⟨n, hn, hw⟩ := fits_int u3 h
  exact ⟨n, hn, wf_i64 hw⟩
theorem arg_raws {av : AV} (h : ArgFits cx.P 48 av) : ∃ l : List R3, av = .list 0 3 (raws l) ∧ (∀ r ∈ l, r.ok) ∧ l.length ≤ 9223372036854775807 := by
  obtain ⟨es, he, hl, hf⟩ := fits_slice u48 (arg_one (by rw [isAgg, u48]) h)
  cases he
  obtain ⟨l, rfl, hok⟩ := rows_of R3.row R3.ok es fun x hx => row3 (hf x hx)
  exact ⟨l, rfl, hok, by simpa [maxLen] using hl⟩
theorem arg_ticks {av : AV} (h : ArgFits cx.P 27 av) : ∃ l : List Int, av = .list 0 1 (l.map fun n => [vi n]) ∧ (∀ n ∈ l, RI n) := by
  obtain ⟨es, he, hl, hf⟩ := fits_slice u27 (arg_one (by rw [isAgg, u27]) h)
  cases he
  obtain ⟨l, rfl, hok⟩ := rows_of (fun n => [vi n]) RI es fun x hx => row1 (hf x hx)
  exact ⟨l, rfl, hok⟩
theorem arg_waits {av : AV} (h : ArgFits cx.P 47 av) : ∃ q : List W, av = lq q := by
  obtain ⟨es, he, hl, hf⟩ := fits_slice u47 (arg_one (by rw [isAgg, u47]) h)
  cases he
  obtain ⟨l, rfl, _⟩ := rows_of W.row (fun _ => True) es fun x hx => rowW (hf x hx)
  exact ⟨l, rfl⟩
theorem arg_wait {av : AV} (h : ArgFits cx.P 50 av) : ∃ w : W, av = w.av := by
  obtain ⟨avs, rfl, hf⟩ := arg_agg (by rw [isAgg, show cx.P.underlying 50 = _ from Try.underlying50]) h
  obtain ⟨w, rfl, _⟩ := rowW hf
  exact ⟨w, rfl⟩
theorem arg_r3 {av : AV} (h : ArgFits cx.P 51 av) : ∃ r : R3, av = .agg r.row ∧ r.ok := by
  obtain ⟨avs, rfl, hf⟩ := arg_agg (by rw [isAgg, u51]) h
  obtain ⟨r, rfl, hr⟩ := row3 hf
  exact ⟨r, rfl, hr⟩
end Go.Proofs.Av
