/- Devices: the last one, plain. -/
import Derived.Test.YtamcgoplhnbmcaaDoorY05
set_option linter.unusedSimpArgs false
set_option linter.unusedVariables false
set_option linter.unusedSectionVars false
namespace Go.Dev
open Go.Best
def afterD (x y : Dev) : Bool := decide (x.at_ < y.at_ ∨ (x.at_ = y.at_ ∧ x.no < y.no))
/-- Is it the last one of those that count? -/
def isLastD (l : List Dev) (p t time : Int) (x : Dev) : Bool := !(l.any fun y => ownD p t time y && afterD x y)
theorem best_iffD {l : List Dev} (hs : SrtD l) {p t time : Int} {x : Dev} (hx : x ∈ l) : (ownD p t time x = true ∧ isLastD l p t time x = true) ↔ bestD l p t time = some x := by
  have hf := hs.filter (kd p time)
  constructor
  · rintro ⟨h1, h2⟩
    have h1 := of_decide_eq_true h1
    unfold isLastD at h2
    rw [Bool.not_eq_true', List.any_eq_false] at h2
    refine bst_eq (no := Dev.no) hf ⟨List.mem_filter.2 ⟨hx, decide_eq_true ⟨h1.1, h1.2.1⟩⟩, h1.2.2, fun y hy hyt => ?_⟩
    obtain ⟨hy1, hy2⟩ := List.mem_filter.1 hy
    have hy2 := of_decide_eq_true hy2
    have := h2 y hy1
    rw [Bool.and_eq_true, not_and] at this
    have h3 := this (decide_eq_true ⟨hy2.1, hy2.2, hyt⟩)
    have h3 : ¬ (x.at_ < y.at_ ∨ (x.at_ = y.at_ ∧ x.no < y.no)) := fun h => h3 (decide_eq_true h)
    omega
  · intro hb
    have hm := bestD_mem hs hb
    have hB := bst_isB (at_ := Dev.at_) hf t
    rw [show bst Dev.at_ _ t = some x from hb] at hB
    refine ⟨decide_eq_true ⟨hm.2.1, hm.2.2.1, hm.2.2.2⟩, ?_⟩
    unfold isLastD
    rw [Bool.not_eq_true', List.any_eq_false]
    intro y hy h
    rw [Bool.and_eq_true] at h
    have h1 := of_decide_eq_true h.1
    have h2 := of_decide_eq_true h.2
    have := hB.2.2 y (List.mem_filter.2 ⟨hy, decide_eq_true ⟨h1.1, h1.2.1⟩⟩) h1.2.2
    omega
/-- What has been found so far. -/
def foundD (l : List Dev) (p t time : Int) (pre : List Dev) (f : Bool) : Prop :=
  (f = true → (heldD (bestD l p t time)).isSome = true) ∧ ∀ z ∈ pre, heldD (bestD l p t time) = some z → f = true
theorem foundD_nil (l : List Dev) (p t time : Int) : foundD l p t time [] false := ⟨by simp, by simp⟩
theorem foundD_last {l : List Dev} {p t time : Int} {pre : List Dev} {x : Dev} (h : bestD l p t time = some x) : foundD l p t time (pre ++ [x]) (!x.gone) := by
  unfold foundD
  rw [h]
  cases hg : x.gone with
  | false => exact ⟨fun _ => by simp [heldD, hg], fun _ _ _ => rfl⟩
  | true => exact ⟨by simp, fun z _ e => by simp [heldD, hg] at e⟩
theorem foundD_other {l : List Dev} {p t time : Int} {pre : List Dev} {f : Bool} {x : Dev} (hf : foundD l p t time pre f) (h : bestD l p t time ≠ some x) : foundD l p t time (pre ++ [x]) f := by
  refine ⟨hf.1, fun z hz e => ?_⟩
  rcases List.mem_append.1 hz with hz | hz
  · exact hf.2 z hz e
  · simp at hz; subst hz
    exact absurd (heldD_some.1 e).1 h
theorem foundD_end {l : List Dev} {p t time : Int} {f : Bool} (hs : SrtD l) (hf : foundD l p t time l f) : f = (heldD (bestD l p t time)).isSome := by
  cases hh : heldD (bestD l p t time) with
  | none =>
    cases f with
    | false => rfl
    | true => have := hf.1 rfl; rw [hh] at this; simp at this
  | some z =>
    have := hf.2 z (bestD_mem hs (heldD_some.1 hh).1).1 hh
    rw [this]; rfl
end Go.Dev
