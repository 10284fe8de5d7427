/- Registers: what an amendment changes. -/
import Derived.Test.YtgccoipbcbccnaaVerP
set_option linter.unusedSimpArgs false
set_option linter.unusedVariables false
set_option linter.unusedSectionVars false
namespace Go.Ver
open Go.Best
theorem mem_fil_more {l : List Am} {x y : Am} {key time : Int} (h : addEV l x = 0) : y ∈ fil (addLV l x) key time ↔ (y = x ∧ kn key time x = true) ∨ y ∈ fil l key time := by
  rw [(addV_chk h).2]
  unfold fil
  rw [List.mem_filter, mem_insS, List.mem_filter]
  constructor
  · rintro ⟨rfl | h1, h2⟩
    · exact .inl ⟨rfl, h2⟩
    · exact .inr ⟨h1, h2⟩
  · rintro (⟨rfl, h2⟩ | ⟨h1, h2⟩)
    · exact ⟨.inl rfl, h2⟩
    · exact ⟨.inr h1, h2⟩
theorem before_same {l : List Am} {x : Am} {key time t : Int} (hc : chkV l = 0) (h : addEV l x = 0) (hb : t < x.at_ ∨ ∃ y ∈ fil l key time, y.at_ ≤ t ∧ (x.at_ < y.at_ ∨ (x.at_ = y.at_ ∧ x.no < y.no))) :
    V (fil (addLV l x) key time) t = V (fil l key time) t := by
  have h1 := bst_isB (at_ := Am.at_) (fil_srt hc key time) t
  show val (bst Am.at_ _ t) = val (bst Am.at_ _ t)
  rw [bst_eq (no := Am.no) (at_ := Am.at_) (fil_srt (addV_chk h).1 key time) (o := bst Am.at_ (fil l key time) t)]
  generalize bst Am.at_ (fil l key time) t = o at h1
  cases o with
  | none =>
    intro y hy
    rcases (mem_fil_more h).1 hy with ⟨rfl, -⟩ | hy
    · rcases hb with hb | ⟨z, hz, hzt, -⟩
      · exact hb
      · have := h1 z hz; omega
    · exact h1 y hy
  | some z =>
    obtain ⟨z1, z2, z3⟩ := h1
    refine ⟨(mem_fil_more h).2 (.inr z1), z2, fun y hy hyt => ?_⟩
    rcases (mem_fil_more h).1 hy with ⟨rfl, -⟩ | hy
    · rcases hb with hb | ⟨u, hu, hut, hux⟩
      · omega
      · have := z3 u hu hut; omega
    · exact z3 y hy hyt
theorem before_new {l : List Am} {x : Am} {key time t : Int} (h : addEV l x = 0) (hk : kn key time x = true) (ht : x.at_ ≤ t) (hn : ∀ y ∈ fil l key time, y.at_ ≤ t → ¬ (x.at_ < y.at_ ∨ (x.at_ = y.at_ ∧ x.no < y.no))) :
    V (fil (addLV l x) key time) t = (x.value, !x.gone) := by
  show val (bst Am.at_ _ t) = _
  rw [bst_eq (no := Am.no) (at_ := Am.at_) (fil_srt (addV_chk h).1 key time) (o := some x)]
  · rfl
  · refine ⟨(mem_fil_more h).2 (.inl ⟨rfl, hk⟩), ht, fun y hy hyt => ?_⟩
    rcases (mem_fil_more h).1 hy with ⟨rfl, -⟩ | hy
    · exact .inr ⟨rfl, Int.le_refl _⟩
    · have := hn y hy hyt; omega
theorem valE_more {l : List Am} {x : Am} {key time t : Int} (hc : chkV l = 0) (h : addEV l x = 0) : valE (addLV l x) key t time = valE l key t time := by
  unfold valE; rw [hc, (addV_chk h).1]
theorem valV_of {l : List Am} {key time t : Int} (he : valE l key t time = 0) : valV l key t time = V (fil l key time) t := if_pos he
theorem valV_no {l : List Am} {key time t : Int} (he : valE l key t time ≠ 0) : valV l key t time = (0, false) := if_neg he
end Go.Ver
