/- Arguments that are structs, lists of structs. -/
import Derived.Test.YtgccoipbcbccnaaClose
import Derived.Test.YtgccoipbcbccnaaFlat
import Derived.Test.YtgccoipbcbccnaaStep
set_option linter.unusedSimpArgs false
set_option linter.unusedVariables false
set_option linter.unusedSectionVars false
namespace Go.Sg
open Go.Rn Go.RowKit Go.WideShapes Go.ChangeShapes Go.Rec
section
variable {H : Type} {enc : TypeId × Value → H} {P : Program} {w : World}
theorem okWide_sl {t e : TypeId} {r : Reach} {b0 : Nat} {v : Value} (ht : P.underlying t = some (.slice e)) (h : Value.okWide P w r b0 t v) : ∃ d n c, v = .slice d n c := by
  unfold Value.okWide at h
  rw [ht] at h
  simp only [Cell.okWide, ht, Cell.ok] at h
  cases v <;> simp_all

theorem open_flat {t : TypeId} {v : Value} {d : DataW H} {ps : List MemPlace} {held : Bool} {r : Reach} {b0 : Nat} {ts : List (TypeId × FK)} (hF : Flat P t ts) (hval : Value.okWide P w r b0 t v)
    (h : DataW.Trod enc P w 0 (fun _ => true) held t v d ps) : ∃ cs : List Value, v = .agg cs.toArray ∧ cs.length = ts.length ∧ ∀ (i : Nat) (x : TypeId × FK), ts[i]? = some x → ∃ u, cs[i]? = some u ∧ x.2.wf u := by
  unfold Value.okWide at hval
  rw [hF.und] at hval
  obtain ⟨cs, rfl, -, -⟩ := hval
  obtain ⟨fuel, hf⟩ := shp_of_Trod h
  exact ⟨cs.toList, by simp, shp_flat hF hf⟩
theorem open_rows {α : Type} {en : α → List Value} {k : Nat} (hk : EncOk en k) {wfx : α → Prop} {t e : TypeId} {v : Value} {d : DataW H} {ps : List MemPlace} {held : Bool} {r : Reach} {b0 : Nat} (ht : P.underlying t = some (.slice e)) (hs : P.cellsOf e = k)
    (hrow : ∀ fuel cs, Shp P w fuel e cs → ∃ x, cs = en x ∧ wfx x) (hval : Value.okWide P w r b0 t v)
    (h : DataW.Trod enc P w 0 (fun _ => true) held t v d ps) : ∃ l : List α, l.length < 9223372036854775808 ∧ IsL w en k v l ∧ ∀ x ∈ l, wfx x := by
  obtain ⟨a, n, c, rfl⟩ := okWide_sl ht hval
  obtain ⟨fuel, hf⟩ := shp_of_Trod h
  obtain ⟨f, u, m, rows, hv, hm, hr, hrs, hsl⟩ := hf.slice ht hs hk.pos
  have hu : u = .slice a n c := by simpa [Value.cells] using hv.symm
  subst hu
  obtain ⟨l, hl, hw⟩ : ∃ l : List α, rows = l.map en ∧ ∀ x ∈ l, wfx x := by
    clear hr hsl
    induction rows with
    | nil => exact ⟨[], rfl, by simp⟩
    | cons r rs ih =>
      obtain ⟨l, rfl, h2⟩ := ih fun r hr => hrs r (List.mem_cons_of_mem _ hr)
      obtain ⟨x, rfl, hx⟩ := hrow f r (hrs r List.mem_cons_self).2
      exact ⟨x :: l, rfl, fun y hy => by
        rcases List.mem_cons.1 hy with rfl | hy
        · exact hx
        · exact h2 y hy⟩
  subst hl
  have hlm : l.length = m := by simpa using hr
  refine ⟨l, by simp only [maxLen] at hm; omega, ?_, hw⟩
  rw [← hlm] at hsl
  exact hsl
end
end Go.Sg
