/- Registers: for the laws. -/
import Derived.Test.YtgccoipbcbccnaaVerH
import Derived.Test.YtgccoipbcbccnaaVerO
set_option linter.unusedSimpArgs false
set_option linter.unusedVariables false
set_option linter.unusedSectionVars false
namespace Go.Ver
open Go.Best
theorem hr_length (l f : List Am) : ∀ (n : Nat) (t : Int) (last : Int × Bool), (hr l f n t last).length ≤ n
  | 0, _, _ => Nat.le_refl _
  | n + 1, t, last => by
    rw [hr]
    split
    · simp
    · rw [List.length_append]
      have := hr_length l f n (nextT l t) (V f t)
      have : (emit last t (V f t)).length ≤ 1 := by unfold emit; split <;> simp
      omega
theorem histL_length {l : List Am} (hl : l.length < 9223372036854775807) (key time : Int) : (histL l key time).length < 9223372036854775808 := by
  unfold histL
  split
  · have := hr_length l (fil l key time) (l.length + 1) (nextT l (-1)) (0, false)
    unfold times; omega
  · simp
end Go.Ver
namespace Go.Sg
open Go.Rn Go.Proofs Go.Ver Go.Rec Go.Best
theorem fewV_le {l : List Am} (h : fewV l = true) : l.length ≤ 4100 := by unfold fewV at h; have := of_decide_eq_true h; omega
theorem rightL_ok {l : List Am} (h : rightL l = true) : l.length ≤ 30 ∧ chkV l = 0 := by
  unfold rightL at h
  rw [Bool.and_eq_true, decide_eq_true_eq, decide_eq_true_eq] at h; exact h
theorem rsameS_at (l : List Step) (u v : Value) (w : World) (hu : LS w u l) (hv : LS w v l) (hl : l.length < 9223372036854775808) : Rets Try.prog 26 [u, v] w fun r w' => r = .bool true ∧ Ext w w' := by
  have h := rsameS14_ok l l u v w hu hv hl hl
  rwa [decide_eq_true rfl] at h
theorem addLV_length {l : List Am} {x : Am} (h : addEV l x = 0) : (addLV l x).length = l.length + 1 := by rw [(addV_chk h).2, length_insS]
theorem addLV_nil {l : List Am} {x : Am} (h : addEV l x ≠ 0) : addLV l x = [] := if_neg h
end Go.Sg
namespace Go.Ver
open Go.Best
/-- What becomes known later does not matter. -/
theorem later_same {l : List Am} {x : Am} {key time : Int} (h : addEV l x = 0) (hk : time < x.known) : fil (addLV l x) key time = fil l key time := by
  rw [(addV_chk h).2]
  exact filter_insS (p := kn key time) (show kn key time x = false from decide_eq_false (by rintro ⟨-, h⟩; omega)) l
theorem fil_same {l m : List Am} {key time : Int} (hl : chkV l = 0) (hm : chkV m = 0) (hf : fil m key time = fil l key time) (t : Int) :
    valE m key t time = valE l key t time ∧ valV m key t time = valV l key t time ∧ histE m key time = histE l key time ∧ histL m key time = histL l key time := by
  have e1 : valE m key t time = valE l key t time := by unfold valE; rw [hl, hm]
  have e2 : histE m key time = histE l key time := by unfold histE; rw [hl, hm]
  refine ⟨e1, ?_, e2, ?_⟩
  · unfold valV; rw [e1]
    show (if _ then V (fil m key time) t else _) = if _ then V (fil l key time) t else _
    rw [hf]
  · unfold histL; rw [e2]
    split
    · have hp := List.mergeSort_perm (fil l key time) (fun a b => decide (a.at_ < b.at_ ∨ (a.at_ = b.at_ ∧ a.no ≤ b.no)))
      have hs := List.pairwise_mergeSort (le := fun a b : Am => decide (a.at_ < b.at_ ∨ (a.at_ = b.at_ ∧ a.no ≤ b.no))) (by intro a b c h1 h2; simp at *; omega) (by intro a b; simp; omega) (fil l key time)
      generalize (fil l key time).mergeSort (fun a b => decide (a.at_ < b.at_ ∨ (a.at_ = b.at_ ∧ a.no ≤ b.no))) = s at hp hs
      have hnd : s.Pairwise (fun a b => a.no ≠ b.no) := by
        have h1 : (fil l key time).Pairwise (fun a b => a.no ≠ b.no) := (fil_srt hl key time).imp (by intro a b h; omega)
        exact (hp.pairwise_iff (by intro a b h; exact Ne.symm h)).2 h1
      have hlex : s.Pairwise Lex := (hs.and hnd).imp (by intro a b h; have := of_decide_eq_true h.1; unfold Lex; have := h.2; omega)
      rw [hist_sorted hl (s := s) (fun x => hp.mem_iff) hlex, hist_sorted hm (s := s) (fun x => by rw [hf]; exact hp.mem_iff) hlex]
    · rfl
end Go.Ver
