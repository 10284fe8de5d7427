/- Merge: for the laws: a deed in its parts. -/
import Derived.Test.YtpmpefkcmokoiaaGreatDoorMg11
set_option linter.unusedSimpArgs false
set_option linter.unusedVariables false
set_option linter.unusedSectionVars false
set_option maxRecDepth 4000
namespace Go.Mer
open Go.Rn Go.Rec Go.Dee Go.RowKit Go.Sg Go.NT
theorem part_has {ls : List Ll} {d : Dr} (h : d ∈ allD ls) : (ls.any fun x => thereL Dr.d x.l d.d) = true := by
 obtain ⟨x, hx, hd⟩ := List.mem_flatMap.1 h
 refine List.any_eq_true.2 ⟨x, hx, ?_⟩
 unfold thereL
 exact List.any_eq_true.2 ⟨d, hd, sameF_refl d.d⟩
theorem list_has {l : List Dr} {d : Deed} (h : ∃ z ∈ l.map Dr.d, sameF z d = true) : thereL Dr.d l d = true := by
 obtain ⟨z, hz, hs⟩ := h
 obtain ⟨y, hy, rfl⟩ := List.mem_map.1 hz
 unfold thereL
 exact List.any_eq_true.2 ⟨y, hy, hs⟩
def frkK (x : Fr) : Int := x.a.d.person
def frkV (x : Fr) : Value := .int .i64 x.a.d.no
end Go.Mer
