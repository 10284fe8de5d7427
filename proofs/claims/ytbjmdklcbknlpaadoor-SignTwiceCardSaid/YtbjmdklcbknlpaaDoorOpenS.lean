/- Arguments that are structs. -/
import Derived.Test.YtbjmdklcbknlpaaDoorLaid
import Derived.Test.YtbjmdklcbknlpaaDoorSigEq
namespace Go.Sg
open Go.Rn Go.RowKit Go.WideShapes Go.ChangeShapes
section
variable {H : Type} {enc : TypeId × Value → H} {P : Program} {w : World}
theorem open_struct {t : TypeId} {v : Value} {d : DataW H} {ps : List MemPlace} {held : Bool} {r : Reach} {b0 : Nat} (ht : P.underlying t = some (.struct (P.fieldsOf t))) (hval : Value.okWide P w r b0 t v)
    (h : DataW.Trod enc P w 0 (fun _ => true) held t v d ps) : ∃ fuel cs, v = .agg cs.toArray ∧ Shp P w fuel t cs := by
  unfold Value.okWide at hval
  rw [ht] at hval
  obtain ⟨cs, rfl, -, -⟩ := hval
  obtain ⟨fuel, hf⟩ := shp_of_Trod h
  exact ⟨fuel, cs.toList, by simp, hf⟩
theorem shp_two {t ti : TypeId} (h : TwoInts P t ti) (hc : P.cellsOf t = 2) (hi : P.cellsOf ti = 1) {fuel : Nat} {cs : List Value} (hs : Shp P w fuel t cs) :
    ∃ a b, cs = [.int .i64 a, .int .i64 b] ∧ (Lit.int .i64 a).wf = true ∧ (Lit.int .i64 b).wf = true := by
  obtain ⟨hl, f, hs⟩ := hs.struct h.und
  have hf := h.fields
  generalize (P.fieldsOf t).toList = fs at hf hs
  obtain ⟨f0, f1, rfl⟩ : ∃ f0 f1, fs = [f0, f1] := by
    rcases fs with _ | ⟨f0, _ | ⟨f1, _ | ⟨f2, r⟩⟩⟩
    · simp at hf
    · simp at hf
    · exact ⟨f0, f1, rfl⟩
    · simp at hf
  simp only [List.map_cons, List.map_nil, List.cons.injEq, Prod.mk.injEq, and_true] at hf
  obtain ⟨⟨-, t0, o0⟩, -, t1, o1⟩ := hf
  have h0 := hs f0 (by simp)
  have h1 := hs f1 (by simp)
  rw [t0, o0, hi] at h0
  rw [t1, o1, hi] at h1
  obtain ⟨a, e0, w0⟩ := h0.int h.int
  obtain ⟨b, e1, w1⟩ := h1.int h.int
  rw [hc] at hl
  match cs, hl with
  | [x, y], _ =>
    simp at e0 e1
    exact ⟨a, b, by rw [e0, e1], w0, w1⟩
theorem open_two {t ti : TypeId} (h : TwoInts P t ti) (hc : P.cellsOf t = 2) (hi : P.cellsOf ti = 1) {v : Value} {d : DataW H} {ps : List MemPlace} {held : Bool} {r : Reach} {b0 : Nat} (hval : Value.okWide P w r b0 t v)
    (h' : DataW.Trod enc P w 0 (fun _ => true) held t v d ps) : ∃ a b, v = .agg #[.int .i64 a, .int .i64 b] ∧ (Lit.int .i64 a).wf = true ∧ (Lit.int .i64 b).wf = true := by
  obtain ⟨fuel, cs, rfl, hs⟩ := open_struct h.und hval h'
  obtain ⟨a, b, rfl, h1, h2⟩ := shp_two h hc hi hs
  exact ⟨a, b, rfl, h1, h2⟩
end
end Go.Sg
