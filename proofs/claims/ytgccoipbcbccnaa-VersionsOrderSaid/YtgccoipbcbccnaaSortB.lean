/- The library's sort, in this calculus. -/
import Derived.Test.YtgccoipbcbccnaaIter
import Derived.Shelf.SlSortCmp.NoneTotal
set_option linter.unusedSimpArgs false
set_option linter.unusedVariables false
set_option linter.unusedSectionVars false
namespace Go.Rn
open Go.RowKit Go.Sort Go.Proofs Go.Rec
theorem ownsRow_lt {w : World} {base : Nat} {e : TypeId} {sz n : Nat} {v : Value} {xs : List Value} (h : w.ownsRow base e sz v n xs) {k : Nat} (hk : v.ownBlock = some k) : k < w.heap.size := by
  rcases h.2 with ⟨rfl, -⟩ | ⟨g, c, cur, rfl, -, hg, -⟩
  · simp [Value.ownBlock] at hk
  · simp [Value.ownBlock] at hk; subst hk; exact lt_of_get hg
theorem ext_grow {w w' : World} (h : Ext w w') : ∃ q os, w' = grow (w.drewN q) os := by
  refine ⟨w'.drawn - w.drawn, w'.heap.extract w.heap.size, ?_⟩
  obtain ⟨hp, tp, dr, os, ou⟩ := w
  obtain ⟨hp', tp', dr', os', ou'⟩ := w'
  obtain ⟨h1, h2, h3, h4, h5, h6⟩ := h
  simp only at h1 h2 h3 h4 h5 h6
  subst h2; subst h3; subst h4
  unfold grow World.drewN
  simp only
  congr 1
  · apply Array.ext_getElem?
    intro k
    rcases Nat.lt_or_ge k hp.size with hk | hk
    · rw [h6 k hk id, Array.getElem?_append_left hk]
    · rw [Array.getElem?_append_right hk, Array.getElem?_extract]
      split
      · congr 1; omega
      · rw [Array.getElem?_eq_none]; omega
  · omega
theorem get_grow {w : World} {os : Array Obj} {k : Nat} (hk : k < w.heap.size) : (grow w os).heap[k]? = w.heap[k]? := by
  unfold grow; simp only; rw [Array.getElem?_append_left hk]
section
variable {α : Type} [Inhabited α] {enc : α → List Value} {k : Nat}
theorem ext_sortWorld {w : World} {blk off m : Nat} {d : Array α} {os : Array Obj} : ExtB (· = blk) w (sortWorldK enc k w blk off m d os) := by
  unfold sortWorldK putRowK putRow mapBlock
  refine ⟨?_, rfl, rfl, rfl, ?_, fun i hi hn => ?_⟩
  · show w.drawn ≤ w.drawn + m; omega
  · show w.heap.size ≤ (w.heap.modify _ _ ++ os).size
    simp
  · rw [get_grow (by simpa [Sort.ahead] using hi)]
    simp only [Sort.ahead]
    rw [Array.getElem?_modify, if_neg (fun h => hn h.symm)]
theorem flatK_get (h : EncOk enc k) {d : Array α} {t : Nat} (ht : t < d.size * k) : (flat enc d.toList)[t]? = some (flatK enc k d)[t]! := by
  rw [get_flatK enc k d t ht]
  have hq : t / k < d.size := Nat.div_lt_of_lt_mul (by rw [Nat.mul_comm]; exact ht)
  have hm : t % k < k := Nat.mod_lt _ h.pos
  have hlen := h.len d[t / k]
  have hx : d.toList[t / k]? = some d[t / k] := by rw [Array.getElem?_toList, Array.getElem?_eq_getElem hq]
  have hdrop : d.toList.drop (t / k) = d[t / k] :: d.toList.drop (t / k + 1) := by
    rw [List.drop_eq_getElem_cons (by simpa using hq)]; simp
  have e := congrArg (·[t % k]?) (flat_drop h d.toList (t / k))
  simp only [List.getElem?_drop] at e
  rw [show t / k * k + t % k = t by rw [Nat.mul_comm]; exact Nat.div_add_mod t k, hdrop, flat_cons, List.getElem?_append_left (by omega)] at e
  rw [e, getElem!_pos d (t / k) hq, getElem!_pos _ (t % k) (by omega)]
  exact List.getElem?_eq_getElem _
theorem holds_of {w : World} {g n cap : Nat} {base : Nat} {e : TypeId} {d : Array α} (h : EncOk enc k) (hO : w.ownsRow base e k (.slice (some ⟨g, 0, none⟩) n cap) n (flat enc d.toList)) (hn : d.size = n) : HoldsK enc k w g 0 d := by
  intro j hj
  rw [size_flatK] at hj
  rcases hO.2 with ⟨h0, -⟩ | ⟨g', cap', cur, he, hbg, hg, hnc, hcm, hcs, htake⟩
  · simp at h0
  · simp at he
    obtain ⟨rfl, rfl⟩ := he
    have hget := flatK_get h hj
    rw [← htake, List.getElem?_take] at hget
    split at hget
    · refine ⟨?_, ?_⟩
      · unfold World.cell?
        rw [hg]
        simpa using hget
      · unfold World.frozen?
        rw [hg]; simp
    · simp at hget
theorem isL_holds {w : World} {g cap : Nat} {d : Array α} (h : EncOk enc k) (hH : HoldsK enc k w g 0 d) (hc : d.size ≤ cap) : IsL w enc k (.slice (some ⟨g, 0, none⟩) d.size cap) d.toList := by
  have hl := flat_length h d.toList
  have hr : Row w g 0 (flat enc d.toList) := fun i v hv => by
    have hi : i < d.size * k := by
      rcases Nat.lt_or_ge i (flat enc d.toList).length with h' | h'
      · rw [hl] at h'; simpa using h'
      · rw [List.getElem?_eq_none h'] at hv; simp at hv
    have := (hH i (by rw [size_flatK]; exact hi)).1
    rw [flatK_get h hi] at hv
    cases hv
    exact this
  have := IsSl.row (sz := k) (n := d.size) (cap := cap) hr (by rw [hl]; simp) hc
  simpa [IsL] using this
end
end Go.Rn
