/- Lists that are compared one by one. -/
set_option linter.unusedSimpArgs false
set_option linter.unusedVariables false
set_option linter.unusedSectionVars false
namespace Go.Sg
theorem same_lists {α : Type} [DecidableEq α] {a b : List α} (hl : a.length = b.length) {i : Nat} (hp : a.take i = b.take i) : (i = a.length → a = b) ∧ (∀ x y, a[i]? = some x → b[i]? = some y → (x = y → a.take (i + 1) = b.take (i + 1)) ∧ (x ≠ y → a ≠ b)) := by
  refine ⟨fun h => ?_, fun x y hx hy => ⟨fun e => ?_, fun hn e => ?_⟩⟩
  · rw [h, List.take_length, hl, List.take_length] at hp; exact hp
  · rw [List.take_add_one, List.take_add_one, hx, hy, hp, e]
  · subst e; rw [hx] at hy; exact hn (Option.some.inj hy)
end Go.Sg
