/- A chain among the arguments; the way through lists that are in sight. -/
import Derived.Test.YtogopainnioiiaaDoorAwZb
namespace Go.Proofs.Av
open Go
section
variable {P : Program}
theorem struct_of {t : TypeId} {l : List TypeId} (h : (match P.underlying t with | some (.struct fs) => fs.toList.map (·.type) | _ => []) = l) (hl : l ≠ []) : ∃ fs : Array Field, P.underlying t = some (.struct fs) ∧ fs.toList.map (·.type) = l := by
  split at h
  · rename_i fs hfs
    exact ⟨fs, hfs, h⟩
  · exact absurd h.symm hl
theorem fits_parts {t : TypeId} {l : List TypeId} {avs : List AV} (hu : ∃ fs : Array Field, P.underlying t = some (.struct fs) ∧ fs.toList.map (·.type) = l) (h : Fits P t avs) :
    ∃ parts : List (List AV), avs = parts.flatten ∧ parts.length = l.length ∧ ∀ (i : Nat) (ty : TypeId) (p : List AV), l[i]? = some ty → parts[i]? = some p → Fits P ty p := by
  obtain ⟨fs, hu, hl⟩ := hu
  subst hl
  cases h with
  | struct h' parts hl hp =>
    rw [hu] at h'
    cases h'
    refine ⟨parts, rfl, by simpa using hl, fun i ty p h1 h2 => ?_⟩
    rw [List.getElem?_map] at h1
    cases hx : fs[i]? with
    | none => simp [hx] at h1
    | some f =>
      have h3 : fs.toList[i]? = some f := by simpa using hx
      rw [h3] at h1
      cases h1
      exact hp i f p hx h2
  | bool h' => rw [hu] at h'; cases h'
  | int h' => rw [hu] at h'; cases h'
  | float h' => rw [hu] at h'; cases h'
  | string h' => rw [hu] at h'; cases h'
  | slice h' => rw [hu] at h'; cases h'
  | array h' => rw [hu] at h'; cases h'
theorem fits_u64 {t : TypeId} {avs : List AV} (hu : P.underlying t = some (.int .u64)) (h : Fits P t avs) : ∃ n, avs = [vu n] := by
  cases h <;> first
    | (rename_i k n hw h'; rw [hu] at h'; cases h'; exact ⟨n, rfl⟩)
    | (rename_i h'; rw [hu] at h'; cases h'; done)
    | (rename_i h' _; rw [hu] at h'; cases h'; done)
    | (rename_i h' _ _; rw [hu] at h'; cases h'; done)
    | (rename_i h' _ _ _; rw [hu] at h'; cases h'; done)
    | (rename_i h' _ _ _ _; rw [hu] at h'; cases h'; done)
    | skip
end
theorem u22 : cx.P.underlying 22 = some (.int .u64) := by kernel_rfl
theorem u24 : ∃ fs : Array Field, cx.P.underlying 24 = some (.struct fs) ∧ fs.toList.map (·.type) = [3, 3, 3, 3, 3, 3, 3, 3, 3, 22] := struct_of (by kernel_rfl) (by simp)
theorem arg_chain {av : AV} (h : ArgFits cx.P 24 av) : ∃ c : Ch, av = c.av := by
  cases h with
  | agg _ hf =>
    obtain ⟨parts, rfl, hl, hp⟩ := fits_parts u24 hf
    match parts, hl, hp with
    | [p1, p2, p3, p4, p5, p6, p7, p8, p9, p10], _, hp =>
      obtain ⟨a1, rfl, _⟩ := fits_i64 u3 (hp 0 _ _ rfl rfl)
      obtain ⟨a2, rfl, _⟩ := fits_i64 u3 (hp 1 _ _ rfl rfl)
      obtain ⟨a3, rfl, _⟩ := fits_i64 u3 (hp 2 _ _ rfl rfl)
      obtain ⟨a4, rfl, _⟩ := fits_i64 u3 (hp 3 _ _ rfl rfl)
      obtain ⟨a5, rfl, _⟩ := fits_i64 u3 (hp 4 _ _ rfl rfl)
      obtain ⟨a6, rfl, _⟩ := fits_i64 u3 (hp 5 _ _ rfl rfl)
      obtain ⟨a7, rfl, _⟩ := fits_i64 u3 (hp 6 _ _ rfl rfl)
      obtain ⟨a8, rfl, _⟩ := fits_i64 u3 (hp 7 _ _ rfl rfl)
      obtain ⟨a9, rfl, _⟩ := fits_i64 u3 (hp 8 _ _ rfl rfl)
      obtain ⟨a10, rfl⟩ := fits_u64 u22 (hp 9 _ _ rfl rfl)
      exact ⟨⟨a1, a2, a3, a4, a5, a6, a7, a8, a9, a10⟩, rfl⟩
  | one h =>
    obtain ⟨fs, hu, _⟩ := u24
    rw [isAgg, hu] at h; cases h
end Go.Proofs.Av
