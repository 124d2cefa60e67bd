/- A row's closed facts, where the dump's head is long: part by part. -/
import Derived.Test.YtoepfmodbhfckaaAgH
import Derived.Stop.Joined
namespace Go.Proofs.Av
open Go
theorem joined_of {P : Program} {f : FuncId} {fn : Func} {s : ChangeSpec} {c : OpenClaim}
  (a : (c.wf (OpenSpec.ofChange s) && laidOutB P && mapsRowed P &&
   fn.params.all (P.readableRec ·) && namedTie P c.named s.vars &&
   (c.stops == []) && (P.stops == []) && (c.knobs == []) && (P.stopKnobs == []) &&
   (c.inPlace == P.inPlace f) && (c.unfollowed == P.unfollowed f) && (c.recurses == P.recurses f) && (c.named == P.varsNamed f) &&
   (c.maps == (fn.params.toList ++ s.plain.varTypes P).any (P.mapsRec ·)) && (c.ifaces == (fn.params.toList ++ s.plain.varTypes P).any (P.ifacesRec ·)) && (c.mapsOut == P.mapsAmong fn.resultTypes.toList) &&
   (c.loops == (fn.params.toList ++ s.plain.varTypes P).any (P.loopsFrom ·)) && (c.wideKeys == (fn.params.toList ++ s.plain.varTypes P ++ fn.resultTypes.toList).any (P.wideKeysFrom ·)) &&
   s.vars.all (P.varReadable ·) && fn.resultTypes.all (fun t => P.readableRec t && decide (t < P.types.size)) && (c.ifacesOut == fn.resultTypes.toList.any (P.ifacesRec ·)) && (c.loopsOut == fn.resultTypes.toList.any (P.loopsFrom ·)) && (c.plainKeys == P.plainKeys) && c.shortTexts.isNone && P.stopsHeard) = true)
  (hm : P.mayEnter = true) (hl : P.liftsFinal = false) (hc : c.lifted = false) (hk : P.make = some .cut) (hd : c.make = .cut)
  (b : (c.kinds == (if c.domain.isEmpty then [] else fn.params.toList.map fun t => match P.underlying t with | some (.int k) => some k | _ => none)) = true) (b2 : (c.pinned == c.pinnedBy) = true)
  (b3 : (c.veiled == (fn.params.toList ++ s.plain.varTypes P ++ fn.resultTypes.toList).any (P.veiledRec ·)) = true) (b4 : c.veiledFits P fn.params.toList (fn.params.toList ++ s.plain.varTypes P ++ fn.resultTypes.toList) = true) :
  joinedFacts P f fn s c = true := by
 unfold joinedFacts
 rw [a, hm, hl, hc, hk, hd, Bool.and_eq_true, Bool.and_eq_true, Bool.and_eq_true, Bool.and_eq_true]
 exact ⟨⟨⟨⟨rfl, b⟩, b2⟩, b3⟩, b4⟩
theorem instance_of {P : Program} {fn : Func} (h1 : fn.origin = "") (h2 : fn.targs.toList.map (P.typeSigns typeSignsDepth) = []) (h3 : fn.name.toList.contains '[' = false) : fn.isInstance P "" [] := by
 refine ⟨h1, h2, ?_⟩
 rw [if_pos rfl]
 exact ⟨rfl, h3⟩
theorem wrapper_of {P : Program} {fn : Func} (h : (Check.packageOf fn.name == "main") = false) : fn.isWrapper P false "" := by
 unfold Func.isWrapper
 rw [if_neg (fun e => by rw [e] at h; simp at h)]
 exact ⟨rfl, rfl⟩
end Go.Proofs.Av
