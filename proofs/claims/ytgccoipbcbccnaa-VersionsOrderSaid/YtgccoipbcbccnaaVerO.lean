/- Registers: arguments. -/
import Derived.Test.YtgccoipbcbccnaaOpenL
import Derived.Test.YtgccoipbcbccnaaVerE
set_option linter.unusedSimpArgs false
set_option linter.unusedVariables false
set_option linter.unusedSectionVars false
namespace Go.Sg
open Go.Rn Go.Proofs Go.Ver Go.Rec Go.RowKit Go.WideShapes Go.ChangeShapes
theorem am_cells {cs : List Value} (hl : cs.length = 6) (h : ∀ (i : Nat) (x : TypeId × FK), [(3, FK.int .i64), (3, FK.int .i64), (3, FK.int .i64), (3, FK.int .i64), (3, FK.int .i64), (4, FK.bool)][i]? = some x → ∃ u, cs[i]? = some u ∧ x.2.wf u) : ∃ x : Am, cs = x.cells := by
  obtain ⟨_, h0, a, rfl, -⟩ := h 0 _ rfl
  obtain ⟨_, h1, b, rfl, -⟩ := h 1 _ rfl
  obtain ⟨_, h2, c, rfl, -⟩ := h 2 _ rfl
  obtain ⟨_, h3, d, rfl, -⟩ := h 3 _ rfl
  obtain ⟨_, h4, e, rfl, -⟩ := h 4 _ rfl
  obtain ⟨_, h5, f, rfl⟩ := h 5 _ rfl
  refine ⟨⟨a, b, c, d, e, f⟩, ?_⟩
  apply List.ext_getElem?
  intro i
  rcases i with _ | _ | _ | _ | _ | _ | i
  · exact h0
  · exact h1
  · exact h2
  · exact h3
  · exact h4
  · exact h5
  · rw [List.getElem?_eq_none (by omega), List.getElem?_eq_none (by simp)]
section
variable {H : Type} {enc : TypeId × Value → H} {w : World}
set_option maxRecDepth 4000 in
theorem am_row (fuel : Nat) (cs : List Value) (h : Shp Try.prog w fuel 24 cs) : ∃ x : Am, cs = x.cells ∧ True := by
  have hh := shp_flat amFlat h
  obtain ⟨h1, h2⟩ := hh
  obtain ⟨x, h⟩ := am_cells h1 h2
  exact ⟨x, h, trivial⟩
set_option maxRecDepth 4000 in
theorem am_open {v : Value} {d : DataW H} {ps : List MemPlace} {held : Bool} {r : Reach} {b0 : Nat} (hval : Value.okWide Try.prog w r b0 24 v)
    (h : DataW.Trod enc Try.prog w 0 (fun _ => true) held 24 v d ps) : ∃ x : Am, v = .agg x.cells.toArray := by
  obtain ⟨cs, rfl, h1, h2⟩ := open_flat amFlat hval h
  obtain ⟨x, rfl⟩ := am_cells h1 h2
  exact ⟨x, rfl⟩
set_option maxRecDepth 4000 in
theorem ams_open {v : Value} {d : DataW H} {ps : List MemPlace} {held : Bool} {r : Reach} {b0 : Nat} (hval : Value.okWide Try.prog w r b0 22 v)
    (h : DataW.Trod enc Try.prog w 0 (fun _ => true) held 22 v d ps) : ∃ l : List Am, l.length < 9223372036854775808 ∧ LV w v l := by
  obtain ⟨l, h1, h2, -⟩ := open_rows encV Try.underlying22 (by kernel_rfl) am_row hval h
  exact ⟨l, h1, h2⟩
end
end Go.Sg
