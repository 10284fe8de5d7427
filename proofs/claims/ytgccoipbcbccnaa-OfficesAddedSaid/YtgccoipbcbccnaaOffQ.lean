/- Offices: what does not matter, plain. -/
import Derived.Test.YtgccoipbcbccnaaOffP
set_option linter.unusedSimpArgs false
set_option linter.unusedVariables false
set_option linter.unusedSectionVars false
namespace Go.Off
open Go.Best Go.Rn
theorem filterMap_congr' {α β : Type} {f g : α → Option β} : ∀ {l : List α}, (∀ x ∈ l, f x = g x) → l.filterMap f = l.filterMap g
  | [], _ => rfl
  | a :: l, h => by
    rw [List.filterMap_cons, List.filterMap_cons, h a List.mem_cons_self, filterMap_congr' fun x hx => h x (List.mem_cons_of_mem _ hx)]
theorem fold_le {t : Int} : ∀ (f : List Ap) (b : Option Ap), (f.filter fun x => decide (x.at_ ≤ t)).foldl (pickS Ap.at_ t) b = f.foldl (pickS Ap.at_ t) b
  | [], _ => rfl
  | x :: f, b => by
    rw [List.filter_cons]
    by_cases h : x.at_ ≤ t
    · rw [if_pos (decide_eq_true h), List.foldl_cons, List.foldl_cons]; exact fold_le f _
    · rw [if_neg (by simpa using h), List.foldl_cons]
      have : pickS Ap.at_ t b x = b := by unfold pickS; rw [if_neg h]
      rw [this]; exact fold_le f b
def qo (o t time : Int) (x : Ap) : Bool := decide (x.office = o ∧ x.at_ ≤ t ∧ x.known ≤ time)
theorem best_some (l : List Ap) (o p t time : Int) : best (l.filter (qo o t time)) o p t time = best l o p t time := by
  unfold best bst
  rw [← fold_le (l.filter (ko o p time)), List.filter_filter, List.filter_filter]
  congr 1
  refine List.filter_congr fun x _ => ?_
  unfold ko qo
  rw [Bool.eq_iff_iff]
  simp
  omega
theorem chk_sub {l : List Ap} (hc : chkA l = 0) (q : Ap → Bool) : chkA (l.filter q) = 0 := by
  obtain ⟨hs, hr⟩ := chkA_srt hc
  exact chkA_of (Nat.le_trans (List.length_filter_le _ _) (chkA_ok.1 hc).1) (hs.filter _) fun x hx => hr x (List.mem_filter.1 hx).1
theorem hsUpto_congr {l m : List Ap} {o t time : Int} (h : ∀ p, best m o p t time = best l o p t time) (n : Nat) : hsUpto m o t time n = hsUpto l o t time n := by
  unfold hsUpto; simp only [h]
theorem later_hs {l : List Ap} {o t time : Int} (he : hsE l o t time = 0) : hsE (l.filter (qo o t time)) o t time = 0 ∧ hsL (l.filter (qo o t time)) o t time = hsL l o t time := by
  have hc : chkA l = 0 := by
    unfold hsE at he
    split at he
    · assumption
    · exact he
  have e1 : hsE (l.filter (qo o t time)) o t time = 0 := by
    unfold hsE at he ⊢
    rw [if_pos (chk_sub hc _)]
    rwa [if_pos hc] at he
  refine ⟨e1, ?_⟩
  unfold hsL
  rw [if_pos e1, if_pos he]
  exact hsUpto_congr (fun p => best_some l o p t time) 64
/-! ### One more -/
theorem best_more {l : List Ap} {a : Ap} {o p t time : Int} (h : addEA l a = 0) (hp : a.office ≠ o ∨ a.person ≠ p) : best (addLA l a) o p t time = best l o p t time := by
  rw [(addA_chk h).2]
  unfold best
  rw [filter_insS (p := ko o p time) (decide_eq_false (by rintro ⟨h1, h2, -⟩; rcases hp with h | h; exact h h1; exact h h2)) l]
/-- The holders but for one person of one office. -/
def others (o : Int) (a : Ap) (x : Hold) : Bool := decide (o ≠ a.office ∨ x.person ≠ a.person)
theorem others_same {l : List Ap} {a : Ap} {o t time : Int} (h : addEA l a = 0) (n : Nat) : (hsUpto (addLA l a) o t time n).filter (others o a) = (hsUpto l o t time n).filter (others o a) := by
  unfold hsUpto
  rw [List.filter_filterMap, List.filter_filterMap]
  refine filterMap_congr' fun p _ => ?_
  by_cases hp : a.office ≠ o ∨ a.person ≠ (p : Int)
  · rw [best_more h hp]
  · have hp1 : a.office = o := by omega
    have hp2 : a.person = (p : Int) := by omega
    have : ∀ w : Int, others o a ⟨(p : Int), w⟩ = false := fun w => decide_eq_false (by simp only; omega)
    cases held (best (addLA l a) o (p : Int) t time) <;> cases held (best l o (p : Int) t time) <;> simp [this, Option.filter]
theorem hsE_more {l : List Ap} {a : Ap} {o t time : Int} (h : addEA l a = 0) : hsE (addLA l a) o t time = hsE l o t time := by
  unfold hsE; rw [(addEA_ok.1 h).1, (addA_chk h).1]
theorem add_order {l : List Ap} {a b : Ap} (hle : l.length ≤ 40) (h1 : addEA l a = 0) (h2 : addEA (addLA l a) b = 0) : addEA l b = 0 ∧ addEA (addLA l b) a = 0 ∧ addLA (addLA l b) a = addLA (addLA l a) b := by
  have ea := (addA_chk h1).2
  obtain ⟨hc, ra, na, -⟩ := addEA_ok.1 h1
  obtain ⟨-, rb, nb, -⟩ := addEA_ok.1 h2
  rw [ea] at nb
  have nab : a.no ≠ b.no := nb a (mem_insS.2 (.inl rfl))
  have hb : addEA l b = 0 := addEA_ok.2 ⟨hc, rb, fun y hy => nb y (mem_insS.2 (.inr hy)), by omega⟩
  have eb := (addA_chk hb).2
  have hba : addEA (addLA l b) a = 0 := by
    refine addEA_ok.2 ⟨(addA_chk hb).1, ra, fun y hy => ?_, by rw [addLA_length hb]; omega⟩
    rw [eb] at hy
    rcases mem_insS.1 hy with rfl | hy
    · exact fun e => nab e.symm
    · exact na y hy
  refine ⟨hb, hba, srt_ext (chkA_srt (addA_chk hba).1).1 (chkA_srt (addA_chk h2).1).1 fun x => ?_⟩
  rw [(addA_chk hba).2, (addA_chk h2).2, mem_insS, mem_insS, eb, ea, mem_insS, mem_insS]
  constructor
  · rintro (h | h | h)
    · exact .inr (.inl h)
    · exact .inl h
    · exact .inr (.inr h)
  · rintro (h | h | h)
    · exact .inr (.inl h)
    · exact .inl h
    · exact .inr (.inr h)
theorem add_fail {l : List Ap} {a b : Ap} (hle : l.length ≤ 40) (h1 : addEA l a = 0) (h2 : addEA (addLA l a) b ≠ 0) : addEA l b ≠ 0 ∨ a.no = b.no := by
  by_cases hb : addEA l b = 0
  · by_cases hn : a.no = b.no
    · exact .inr hn
    · refine absurd ?_ h2
      obtain ⟨-, rb, nb, -⟩ := addEA_ok.1 hb
      refine addEA_ok.2 ⟨(addA_chk h1).1, rb, fun y hy => ?_, by rw [addLA_length h1]; omega⟩
      rw [(addA_chk h1).2] at hy
      rcases mem_insS.1 hy with rfl | hy
      · exact hn
      · exact nb y hy
  · exact .inl hb
end Go.Off
