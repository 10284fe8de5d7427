/- Offices: for the laws, plain. -/
import Derived.Test.YtgccoipbcbccnaaOffS
set_option linter.unusedSimpArgs false
set_option linter.unusedVariables false
set_option linter.unusedSectionVars false
namespace Go.Off
open Go.Best Go.Rn
theorem addEA_ok {l : List Ap} {x : Ap} : addEA l x = 0 ↔ chkA l = 0 ∧ rightA x = true ∧ (∀ y ∈ l, y.no ≠ x.no) ∧ l.length ≠ 4096 := by
  show (if chkA l = 0 then _ else _) = 0 ↔ _
  split
  · rename_i h
    split
    · rename_i h2
      split
      · rename_i h3
        simp only [List.any_eq_true, decide_eq_true_eq] at h3
        obtain ⟨y, hy, hyx⟩ := h3
        exact ⟨fun h => absurd h (by decide), fun h => absurd hyx (h.2.2.1 y hy)⟩
      · rename_i h3
        simp only [List.any_eq_true, decide_eq_true_eq, not_exists, not_and] at h3
        split
        · rename_i h4; exact ⟨fun h => absurd h (by decide), fun h => absurd h4 h.2.2.2⟩
        · rename_i h4; exact ⟨fun _ => ⟨h, h2, h3, h4⟩, fun _ => rfl⟩
    · rename_i h2; exact ⟨fun h => absurd h (by decide), fun h => absurd h.2.1 h2⟩
  · rename_i h; exact ⟨fun h' => absurd h' h, fun h' => absurd h'.1 h⟩
theorem addA_chk {l : List Ap} {x : Ap} (h : addEA l x = 0) : chkA (addLA l x) = 0 ∧ addLA l x = insS Ap.no x l := by
  have e : addLA l x = insS Ap.no x l := if_pos h
  obtain ⟨h1, h2, h3, h4⟩ := addEA_ok.1 h
  obtain ⟨h5, h6⟩ := chkA_srt h1
  have h7 := (chkA_ok.1 h1).1
  rw [e]
  refine ⟨chkA_of (by rw [length_insS]; omega) (srt_insS h5 h3) fun y hy => ?_, rfl⟩
  rcases mem_insS.1 hy with rfl | hy
  · exact h2
  · exact h6 y hy
theorem addLA_length {l : List Ap} {x : Ap} (h : addEA l x = 0) : (addLA l x).length = l.length + 1 := by rw [(addA_chk h).2, length_insS]
theorem addLA_nil {l : List Ap} {x : Ap} (h : addEA l x ≠ 0) : addLA l x = [] := if_neg h
theorem fewA_cases {l : List Ap} (h : l.length ≤ 40 ∨ (4096 < l.length ∧ l.length ≤ 4200)) (hc : chkA l = 0) : l.length ≤ 40 := by
  have := (chkA_ok.1 hc).1; omega
/-! ### The last one -/
/-- An appointment of an office and a person that counts. -/
def match_ (o p t time : Int) (y : Ap) : Bool := decide (y.office = o ∧ y.person = p ∧ y.at_ ≤ t ∧ y.known ≤ time)
def after (x y : Ap) : Bool := decide (x.at_ < y.at_ ∨ (x.at_ = y.at_ ∧ x.no < y.no))
/-- Is it the last one of those that count? -/
def isLast (l : List Ap) (o p t time : Int) (x : Ap) : Bool := !(l.any fun y => match_ o p t time y && after x y)
theorem best_iff {l : List Ap} (hs : SrtA l) {o p t time : Int} {x : Ap} (hx : x ∈ l) : (match_ o p t time x = true ∧ isLast l o p t time x = true) ↔ best l o p t time = some x := by
  have hf := hs.filter (ko o p time)
  constructor
  · rintro ⟨h1, h2⟩
    have h1 := of_decide_eq_true h1
    unfold isLast at h2
    rw [Bool.not_eq_true', List.any_eq_false] at h2
    refine bst_eq (no := Ap.no) hf ⟨List.mem_filter.2 ⟨hx, decide_eq_true ⟨h1.1, h1.2.1, h1.2.2.2⟩⟩, h1.2.2.1, fun y hy hyt => ?_⟩
    obtain ⟨hy1, hy2⟩ := List.mem_filter.1 hy
    have hy2 := of_decide_eq_true hy2
    have := h2 y hy1
    rw [Bool.and_eq_true, not_and] at this
    have h3 := this (decide_eq_true ⟨hy2.1, hy2.2.1, hyt, hy2.2.2⟩)
    have h3 : ¬ (x.at_ < y.at_ ∨ (x.at_ = y.at_ ∧ x.no < y.no)) := fun h => h3 (decide_eq_true h)
    omega
  · intro hb
    have hm := best_mem hs hb
    have hB := bst_isB (at_ := Ap.at_) hf t
    rw [show bst Ap.at_ _ t = some x from hb] at hB
    refine ⟨decide_eq_true ⟨hm.2.1, hm.2.2.1, hm.2.2.2.2, hm.2.2.2.1⟩, ?_⟩
    unfold isLast
    rw [Bool.not_eq_true', List.any_eq_false]
    intro y hy h
    rw [Bool.and_eq_true] at h
    have h1 := of_decide_eq_true h.1
    have h2 := of_decide_eq_true h.2
    have := hB.2.2 y (List.mem_filter.2 ⟨hy, decide_eq_true ⟨h1.1, h1.2.1, h1.2.2.2⟩⟩) h1.2.2.1
    omega
/-- Those that hold it: one at most. -/
def hit (l : List Ap) (o p t time : Int) (x : Ap) : Bool := match_ o p t time x && !x.gone && isLast l o p t time x
theorem hit_iff {l : List Ap} (hs : SrtA l) {o p t time : Int} {x : Ap} (hx : x ∈ l) : hit l o p t time x = true ↔ held (best l o p t time) = some x := by
  unfold hit
  rw [Bool.and_eq_true, Bool.and_eq_true, and_assoc, and_comm (a := (!x.gone) = true), ← and_assoc, best_iff hs hx]
  unfold held
  constructor
  · rintro ⟨h1, h2⟩
    rw [h1]
    simp only
    rw [if_neg (by simpa using h2)]
  · intro h
    split at h
    · simp at h
    · rename_i y hy
      split at h
      · simp at h
      · rename_i hg
        simp only [Option.some.injEq] at h
        subst h
        exact ⟨hy, by simpa using hg⟩
theorem hit_count {l : List Ap} (hs : SrtA l) {o p t time : Int} : l.countP (hit l o p t time) = if (held (best l o p t time)).isSome then 1 else 0 := by
  have hnd : l.Nodup := by
    rw [List.nodup_iff_pairwise_ne]
    exact hs.imp fun h e => by subst e; omega
  have hc : l.countP (hit l o p t time) = l.countP fun x => decide (held (best l o p t time) = some x) := by
    refine List.countP_congr fun x hx => ?_
    rw [hit_iff hs hx]; simp
  rw [hc]
  cases hh : held (best l o p t time) with
  | none => simp
  | some x =>
    have hxl : x ∈ l := by
      have hb : best l o p t time = some x := by
        unfold held at hh
        split at hh
        · simp at hh
        · rename_i y hy
          split at hh
          · simp at hh
          · rw [hy]; exact hh
      exact (best_mem hs hb).1
    simp only [Option.isSome_some, if_true, Option.some.injEq]
    have e : (fun y => decide (x = y)) = fun y => y == x := by funext y; rw [Bool.eq_iff_iff, decide_eq_true_eq, beq_iff_eq]; exact eq_comm
    rw [e, ← List.count_eq_countP', hnd.count, if_pos hxl]
end Go.Off
