/- Offices: arguments. -/
import Derived.Test.YtgccoipbcbccnaaOpenL
import Derived.Test.YtgccoipbcbccnaaOffF
set_option linter.unusedSimpArgs false
set_option linter.unusedVariables false
set_option linter.unusedSectionVars false
namespace Go.Sg
open Go.Rn Go.Proofs Go.Off Go.Rec Go.RowKit Go.WideShapes Go.ChangeShapes
theorem ap_cells {cs : List Value} (hl : cs.length = 7) (h : ∀ (i : Nat) (x : TypeId × FK), [(3, FK.int .i64), (3, FK.int .i64), (3, FK.int .i64), (3, FK.int .i64), (3, FK.int .i64), (3, FK.int .i64), (4, FK.bool)][i]? = some x → ∃ u, cs[i]? = some u ∧ x.2.wf u) : ∃ x : Ap, cs = x.cells := by
  obtain ⟨_, h0, a, rfl, -⟩ := h 0 _ rfl
  obtain ⟨_, h1, b, rfl, -⟩ := h 1 _ rfl
  obtain ⟨_, h2, c, rfl, -⟩ := h 2 _ rfl
  obtain ⟨_, h3, d, rfl, -⟩ := h 3 _ rfl
  obtain ⟨_, h4, e, rfl, -⟩ := h 4 _ rfl
  obtain ⟨_, h5, f, rfl, -⟩ := h 5 _ rfl
  obtain ⟨_, h6, g, rfl⟩ := h 6 _ rfl
  refine ⟨⟨a, b, c, d, e, f, g⟩, ?_⟩
  apply List.ext_getElem?
  intro i
  rcases i with _ | _ | _ | _ | _ | _ | _ | i
  · exact h0
  · exact h1
  · exact h2
  · exact h3
  · exact h4
  · exact h5
  · exact h6
  · rw [List.getElem?_eq_none (by omega), List.getElem?_eq_none (by simp)]
section
variable {H : Type} {enc : TypeId × Value → H} {w : World}
set_option maxRecDepth 4000 in
theorem ap_row (fuel : Nat) (cs : List Value) (h : Shp Try.prog w fuel 47 cs) : ∃ x : Ap, cs = x.cells ∧ True := by
  have hh := shp_flat apFlat h
  obtain ⟨h1, h2⟩ := hh
  obtain ⟨x, h⟩ := ap_cells h1 h2
  exact ⟨x, h, trivial⟩
set_option maxRecDepth 4000 in
theorem ap_open {v : Value} {d : DataW H} {ps : List MemPlace} {held : Bool} {r : Reach} {b0 : Nat} (hval : Value.okWide Try.prog w r b0 47 v)
    (h : DataW.Trod enc Try.prog w 0 (fun _ => true) held 47 v d ps) : ∃ x : Ap, v = .agg x.cells.toArray := by
  obtain ⟨cs, rfl, h1, h2⟩ := open_flat apFlat hval h
  obtain ⟨x, rfl⟩ := ap_cells h1 h2
  exact ⟨x, rfl⟩
set_option maxRecDepth 4000 in
theorem aps_open {v : Value} {d : DataW H} {ps : List MemPlace} {held : Bool} {r : Reach} {b0 : Nat} (hval : Value.okWide Try.prog w r b0 45 v)
    (h : DataW.Trod enc Try.prog w 0 (fun _ => true) held 45 v d ps) : ∃ l : List Ap, l.length < 9223372036854775808 ∧ LA w v l := by
  obtain ⟨l, h1, h2, -⟩ := open_rows encA Try.underlying45 (by kernel_rfl) ap_row hval h
  exact ⟨l, h1, h2⟩
end
end Go.Sg
