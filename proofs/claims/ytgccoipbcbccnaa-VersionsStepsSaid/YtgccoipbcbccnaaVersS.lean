/- Registers: steps and order, plain. -/
import Derived.Test.YtgccoipbcbccnaaVerP
set_option linter.unusedSimpArgs false
set_option linter.unusedVariables false
set_option linter.unusedSectionVars false
namespace Go.Ver
open Go.Best
/-- What a history says, read step by step. -/
theorem times_okH {l : List Am} (hc : chkV l = 0) (key time : Int) : okH (fil l key time) (-1) (0, false) (times l key time) := by
  have hp := List.mergeSort_perm (fil l key time) (fun a b => decide (a.at_ < b.at_ ∨ (a.at_ = b.at_ ∧ a.no ≤ b.no)))
  have hs := List.pairwise_mergeSort (le := fun a b : Am => decide (a.at_ < b.at_ ∨ (a.at_ = b.at_ ∧ a.no ≤ b.no))) (by intro a b c h1 h2; simp at *; omega) (by intro a b; simp; omega) (fil l key time)
  generalize (fil l key time).mergeSort (fun a b => decide (a.at_ < b.at_ ∨ (a.at_ = b.at_ ∧ a.no ≤ b.no))) = s at hp hs
  have hnd : s.Pairwise (fun a b => a.no ≠ b.no) := by
    have h1 : (fil l key time).Pairwise (fun a b => a.no ≠ b.no) := (fil_srt hc key time).imp (by intro a b h; omega)
    exact (hp.pairwise_iff (by intro a b h; exact Ne.symm h)).2 h1
  have hlex : s.Pairwise Lex := (hs.and hnd).imp (by intro a b h; have := of_decide_eq_true h.1; unfold Lex; have := h.2; omega)
  rw [hist_sorted hc (s := s) (fun x => hp.mem_iff) hlex]
  have hr := (chkV_srt hc).2
  refine hp_okH (fil_srt hc key time) (fun x => hp.mem_iff) hlex s.length s [] (-1) (0, false) (Nat.le_refl _) rfl (fun y hy => ?_) fun t ht h => ?_
  · have := (right_ge (hr y (List.mem_filter.1 (hp.mem_iff.1 hy)).1)).2.1; omega
  · show val (bst Am.at_ _ t) = _
    rw [bst_eq (no := Am.no) (at_ := Am.at_) (fil_srt hc key time) (o := none) (isB_mem (f := s) (fun x => hp.mem_iff) h)]; rfl
theorem hp_zero : ∀ (s : List Am) (last : Int × Bool), (∀ a ∈ s, a.gone = true → a.value = 0) → ∀ x ∈ hp last s, x.ok = false → x.value = 0
  | [], _, _, x, hx, _ => by simp [hp] at hx
  | a :: s, last, h, x, hx, ho => by
    have ih := fun l => hp_zero s l (fun b hb => h b (List.mem_cons_of_mem _ hb)) x
    rw [hp] at hx
    split at hx
    · exact ih _ hx ho
    · split at hx
      · exact ih _ hx ho
      · rcases List.mem_cons.1 hx with rfl | hx
        · simp only at ho ⊢
          exact h a List.mem_cons_self (by simpa using ho)
        · exact ih _ hx ho
theorem times_zero {l : List Am} (hc : chkV l = 0) (key time : Int) : ∀ x ∈ times l key time, x.ok = false → x.value = 0 := by
  have hp' := List.mergeSort_perm (fil l key time) (fun a b => decide (a.at_ < b.at_ ∨ (a.at_ = b.at_ ∧ a.no ≤ b.no)))
  have hs := List.pairwise_mergeSort (le := fun a b : Am => decide (a.at_ < b.at_ ∨ (a.at_ = b.at_ ∧ a.no ≤ b.no))) (by intro a b c h1 h2; simp at *; omega) (by intro a b; simp; omega) (fil l key time)
  generalize (fil l key time).mergeSort (fun a b => decide (a.at_ < b.at_ ∨ (a.at_ = b.at_ ∧ a.no ≤ b.no))) = s at hp' hs
  have hnd : s.Pairwise (fun a b => a.no ≠ b.no) := by
    have h1 : (fil l key time).Pairwise (fun a b => a.no ≠ b.no) := (fil_srt hc key time).imp (by intro a b h; omega)
    exact (hp'.pairwise_iff (by intro a b h; exact Ne.symm h)).2 h1
  have hlex : s.Pairwise Lex := (hs.and hnd).imp (by intro a b h; have := of_decide_eq_true h.1; unfold Lex; have := h.2; omega)
  rw [hist_sorted hc (s := s) (fun x => hp'.mem_iff) hlex]
  exact hp_zero s _ fun a ha hg => (right_ge ((chkV_srt hc).2 a (List.mem_filter.1 (hp'.mem_iff.1 ha)).1)).2.2 hg
end Go.Ver
