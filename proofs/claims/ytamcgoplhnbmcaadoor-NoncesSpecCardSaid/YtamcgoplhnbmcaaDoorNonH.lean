/- Nonces: for the laws, plain. -/
import Derived.Test.YtamcgoplhnbmcaaDoorN09
set_option linter.unusedSimpArgs false
set_option linter.unusedVariables false
set_option linter.unusedSectionVars false
namespace Go.Non
open Go.Rn Go.Sg Go.Dev Go.Rec
theorem bookAt_add (b : Book) (P : Nat) : ∀ Q, bookAt b (P + Q) = bookAt (bookAt b P) Q
  | 0 => by rw [bookAt_zero]; rfl
  | Q + 1 => by rw [← Nat.add_assoc, bookAt_succ, bookAt_succ, bookAt_add b P Q]
theorem upB_add (b : Book) (P : Nat) : ∀ Q, upB b (P + Q) = upB b P ++ upB (bookAt b P) Q
  | 0 => by simp [upB]
  | Q + 1 => by
    rw [← Nat.add_assoc, upB_succ, upB_succ, upB_add b P Q, List.append_assoc]
    congr 2
    simp only [bookAt, List.cons.injEq, and_true]
    omega
theorem upB_mem {b : Book} {n : Nat} {x : Int} : x ∈ upB b n ↔ b.next ≤ x ∧ x < b.next + (n : Int) := by
  simp only [upB, List.mem_map, List.mem_range]
  constructor
  · rintro ⟨i, hi, rfl⟩; omega
  · rintro ⟨h1, h2⟩; exact ⟨(x - b.next).toNat, by omega, by omega⟩
theorem upB_pairwise (b : Book) : ∀ n, (upB b n).Pairwise (· < ·)
  | 0 => by simp [upB]
  | n + 1 => by
    rw [upB_succ, List.pairwise_append]
    refine ⟨upB_pairwise b n, by simp, fun x hx y hy => ?_⟩
    have := upB_mem.1 hx
    simp at hy; omega
theorem rtB_bookAt {b : Book} {n : Nat} (h : rtB b = true) (hn : b.next + (n : Int) ≤ 4096) : rtB (bookAt b n) = true := by
  obtain ⟨h1, h2, h3, -⟩ := rtB_inv h
  refine rtB_of (by simp only [bookAt]; omega) ?_ fun x hx => ?_
  · simp only [bookAt, List.pairwise_append]
    refine ⟨h2, upB_pairwise b n, fun x hx y hy => ?_⟩
    have := h3 x hx
    have := upB_mem.1 hy
    omega
  · simp only [bookAt, List.mem_append] at hx ⊢
    rcases hx with hx | hx
    · have := h3 x hx; omega
    · have := upB_mem.1 hx; omega
theorem makeE_two {b : Book} {n : Nat} (hr : rtB b = true) (h : 4096 - b.next < (n : Int)) : makeE b n = 2 := by
  unfold makeE; rw [hr, if_pos rfl, if_neg (by omega), if_pos (by omega)]
theorem makeE_nil {b : Book} {n : Nat} (hr : rtB b = true) (h : (n : Int) ≤ 4096 - b.next) : makeE b n = 0 := by
  unfold makeE; rw [hr, if_pos rfl, if_neg (by omega), if_neg (by omega)]
theorem parts_facts {b : Book} (hr : rtB b = true) (p q : Nat) :
    (makeE b p = 2 ∧ makeE b ((p : Int) + (q : Int)) = 2) ∨ (makeE b p = 0 ∧ makeB b p = bookAt b p ∧ rtB (bookAt b p) = true ∧
      ((makeE (bookAt b p) q = 2 ∧ makeE b ((p : Int) + (q : Int)) = 2) ∨ (makeE (bookAt b p) q = 0 ∧ makeE b ((p : Int) + (q : Int)) = 0 ∧ makeB b ((p : Int) + (q : Int)) = makeB (bookAt b p) q ∧ makeL b ((p : Int) + (q : Int)) = makeL b p ++ makeL (bookAt b p) q))) := by
  have e : (p : Int) + (q : Int) = ((p + q : Nat) : Int) := by omega
  rw [e]
  by_cases h1 : (p : Int) ≤ 4096 - b.next
  · have a1 := makeE_nil hr h1
    have hr' := rtB_bookAt (n := p) hr (by omega)
    refine .inr ⟨a1, (make_good a1 rfl).1, hr', ?_⟩
    by_cases h2 : (q : Int) ≤ 4096 - (bookAt b p).next
    · have a2 := makeE_nil hr' h2
      have h2' : (q : Int) ≤ 4096 - (b.next + (p : Int)) := h2
      have a3 := makeE_nil (n := p + q) hr (by omega)
      refine .inr ⟨a2, a3, ?_, ?_⟩
      · rw [(make_good a2 rfl).1, (make_good a3 rfl).1, bookAt_add]
      · rw [(make_good a1 rfl).2, (make_good a2 rfl).2, (make_good a3 rfl).2, upB_add, List.map_append]; rfl
    · have h2' : ¬ (q : Int) ≤ 4096 - (b.next + (p : Int)) := h2
      exact .inl ⟨makeE_two hr' (by omega), makeE_two hr (by omega)⟩
  · exact .inl ⟨makeE_two hr (by omega), makeE_two hr (by omega)⟩
theorem make_len (b : Book) (n : Int) : (makeL b n).length < 9223372036854775808 := by
  rcases makeE_cases b n with ⟨-, h⟩ | ⟨-, -, h⟩ | ⟨-, -, -, h⟩ | ⟨hr, h0, h1, h⟩
  · rw [(make_bad (by rw [h]; decide)).2]; decide
  · rw [(make_bad (by rw [h]; decide)).2]; decide
  · rw [(make_bad (by rw [h]; decide)).2]; decide
  · have := rtB_inv hr
    rw [(make_good (N := n.toNat) h (by omega)).2, List.length_map, upB_length]; omega
theorem make_left (b : Book) (n : Int) : (makeB b n).left.length < 9223372036854775808 := by
  rcases makeE_cases b n with ⟨-, h⟩ | ⟨-, -, h⟩ | ⟨-, -, -, h⟩ | ⟨hr, h0, h1, h⟩
  · rw [(make_bad (by rw [h]; decide)).1]; decide
  · rw [(make_bad (by rw [h]; decide)).1]; decide
  · rw [(make_bad (by rw [h]; decide)).1]; decide
  · have := rtB_inv hr
    rw [(make_good (N := n.toNat) h (by omega)).1]
    simp only [bookAt, List.length_append, upB_length]; omega
end Go.Non
