/- Nonces: a book in use, plain. -/
import Derived.Test.YtamcgoplhnbmcaaDoorNonH
import Derived.Test.YtamcgoplhnbmcaaDoorN06
set_option linter.unusedSimpArgs false
set_option linter.unusedVariables false
set_option linter.unusedSectionVars false
namespace Go.Rn
theorem setM_new {α β : Type} [DecidableEq α] {k : α} {v : β} : ∀ {m : List (α × β)}, k ∉ m.map (·.1) → setM k v m = m ++ [(k, v)]
  | [], _ => rfl
  | (j, u) :: r, h => by
    simp only [List.map_cons, List.mem_cons, not_or] at h
    simp only [setM, if_neg h.1, List.cons_append]
    rw [setM_new h.2]
theorem getM_map_range {β : Type} (f : Nat → β) (no : Int) : ∀ N : Nat, getM no ((List.range N).map fun (i : Nat) => ((i : Int), f i)) = if 0 ≤ no ∧ no < (N : Int) then some (f no.toNat) else none
  | 0 => by simp only [List.range_zero, List.map_nil, getM]; rw [if_neg (by omega)]
  | N + 1 => by
    have app : ∀ (a b : List (Int × β)), getM no (a ++ b) = (getM no a).or (getM no b) := by
      intro a b
      induction a with
      | nil => simp [getM]
      | cons e a ih =>
        obtain ⟨j, u⟩ := e
        simp only [List.cons_append, getM]
        split
        · rfl
        · exact ih
    rw [List.range_succ, List.map_append, app, getM_map_range f no N]
    simp only [List.map_cons, List.map_nil, getM]
    by_cases h : 0 ≤ no ∧ no < (N : Int)
    · rw [if_pos h, if_pos (show 0 ≤ no ∧ no < ((N + 1 : Nat) : Int) by omega)]; rfl
    · rw [if_neg h]
      by_cases h2 : no = (N : Int)
      · subst h2
        rw [if_pos rfl, if_pos (show 0 ≤ (N : Int) ∧ (N : Int) < ((N + 1 : Nat) : Int) by omega)]; simp
      · rw [if_neg h2, if_neg (show ¬ (0 ≤ no ∧ no < ((N + 1 : Nat) : Int)) by omega)]; rfl
end Go.Rn
namespace Go.Non
open Go.Rn Go.Sg Go.Dev Go.Rec
def madeV (k s i : Int) : Value := .agg (pairN k s i).cells.toArray
def madeM (k s : Int) (N : Nat) : List (Int × Value) := (List.range N).map fun (i : Nat) => ((i : Int), madeV k s (i : Int))
theorem madeM_keys (k s : Int) (N : Nat) : (madeM k s N).map (·.1) = (List.range N).map fun (i : Nat) => (i : Int) := by simp [madeM]
theorem madeM_length (k s : Int) (N : Nat) : (madeM k s N).length = N := by simp [madeM]
theorem madeM_mem {k s : Int} {N : Nat} {no : Int} : no ∈ (madeM k s N).map (·.1) ↔ 0 ≤ no ∧ no < (N : Int) := by
  rw [madeM_keys, List.mem_map]
  constructor
  · rintro ⟨i, hi, rfl⟩; rw [List.mem_range] at hi; omega
  · rintro ⟨h1, h2⟩; exact ⟨no.toNat, List.mem_range.2 (by omega), by omega⟩
theorem madeM_get (k s no : Int) (N : Nat) : getM no (madeM k s N) = if 0 ≤ no ∧ no < (N : Int) then some (madeV k s no) else none := by
  rw [madeM, getM_map_range (fun (i : Nat) => madeV k s (i : Int))]
  by_cases h : 0 ≤ no ∧ no < (N : Int)
  · rw [if_pos h, if_pos h]; congr 2; omega
  · rw [if_neg h, if_neg h]
theorem madeM_set (k s : Int) (N : Nat) : setM (N : Int) (madeV k s (N : Int)) (madeM k s N) = madeM k s (N + 1) := by
  rw [setM_new (by rw [madeM_mem]; omega)]
  simp [madeM, List.range_succ]
/-- What is said of each number: taken or burned. -/
def OverOk (ov : List (Int × Value)) (N : Nat) (left : List Int) : Prop := ∀ no : Int, (getM no ov).getD (.bool false) = .bool (decide (0 ≤ no ∧ no < (N : Int) ∧ no ∉ left))
theorem overOk_nil : OverOk [] 0 [] := fun no => by
  have : ¬ (0 ≤ no ∧ no < ((0 : Nat) : Int) ∧ no ∉ ([] : List Int)) := by omega
  rw [decide_eq_false this]; rfl
theorem OverOk.make {ov : List (Int × Value)} {N n : Nat} {left : List Int} {b : Book} (h : OverOk ov N left) (hb : b.next = (N : Int)) : OverOk ov (N + n) (left ++ upB b n) := fun no => by
  rw [h no]
  congr 1
  rw [decide_eq_decide]
  constructor
  · rintro ⟨h1, h2, h3⟩
    refine ⟨h1, by omega, fun hm => ?_⟩
    rcases List.mem_append.1 hm with hm | hm
    · exact h3 hm
    · have := upB_mem.1 hm; omega
  · rintro ⟨h1, h2, h3⟩
    refine ⟨h1, ?_, fun hm => h3 (List.mem_append_left _ hm)⟩
    rcases Int.lt_or_le no (N : Int) with h4 | h4
    · exact h4
    · exact absurd (List.mem_append_right _ (upB_mem.2 ⟨by omega, by omega⟩)) h3
theorem OverOk.take {ov : List (Int × Value)} {N : Nat} {left : List Int} {no : Int} (h : OverOk ov N left) (h1 : 0 ≤ no ∧ no < (N : Int)) : OverOk (setM no (.bool true) ov) N (left.filter fun x => decide (x ≠ no)) := fun x => by
  rw [getM_set]
  by_cases e : x = no
  · subst e
    rw [if_pos rfl, decide_eq_true (by refine ⟨h1.1, h1.2, ?_⟩; simp)]; rfl
  · rw [if_neg e, h x]
    congr 1
    rw [decide_eq_decide]
    simp [e]
/-- While all are burned. -/
def OverAt (ov : List (Int × Value)) (N : Nat) (left ys : List Int) : Prop := ∀ no : Int, (getM no ov).getD (.bool false) = .bool (decide ((0 ≤ no ∧ no < (N : Int) ∧ no ∉ left) ∨ no ∈ ys))
theorem OverOk.at_ {ov : List (Int × Value)} {N : Nat} {left : List Int} (h : OverOk ov N left) : OverAt ov N left [] := fun no => by
  rw [h no]; congr 1; rw [decide_eq_decide]; simp
theorem OverAt.next {ov : List (Int × Value)} {N : Nat} {left ys : List Int} {no : Int} (h : OverAt ov N left ys) : OverAt (setM no (.bool true) ov) N left (ys ++ [no]) := fun x => by
  rw [getM_set]
  by_cases e : x = no
  · subst e
    rw [if_pos rfl, decide_eq_true (by right; simp)]; rfl
  · rw [if_neg e, h x]
    congr 1
    rw [decide_eq_decide]
    simp [e]
theorem OverAt.done {ov : List (Int × Value)} {N : Nat} {left ys : List Int} (h : OverAt ov N left ys) (hy : ∀ no, no ∈ ys ↔ 0 ≤ no ∧ no < (N : Int)) : OverOk ov N [] := fun no => by
  rw [h no]
  congr 1
  rw [decide_eq_decide, hy]
  simp
  omega
theorem perm_keys {k s : Int} {N : Nat} {ys : List (Int × Value)} (h : ys.Perm (madeM k s N)) (no : Int) : no ∈ ys.map (·.1) ↔ 0 ≤ no ∧ no < (N : Int) := by
  rw [(h.map (·.1)).mem_iff, madeM_mem]
theorem count_left {k s : Int} {N : Nat} {ys : List (Int × Value)} {left : List Int} (h : ys.Perm (madeM k s N)) (hs : left.Pairwise (· < ·)) (hr : ∀ x ∈ left, 0 ≤ x ∧ x < (N : Int)) :
    (ys.filter fun y => decide (y.1 ∈ left)).length = left.length := by
  rw [(h.filter _).length_eq]
  have e1 : ((madeM k s N).filter fun y => decide (y.1 ∈ left)).length = (((madeM k s N).map (·.1)).filter fun x => decide (x ∈ left)).length := by
    rw [List.filter_map, List.length_map]; rfl
  rw [e1, madeM_keys]
  have n1 : (((List.range N).map fun (i : Nat) => (i : Int)).filter fun x => decide (x ∈ left)).Nodup := by
    refine List.Pairwise.filter _ ?_
    rw [List.pairwise_map]
    exact List.nodup_range.imp fun h e => h (by omega)
  have n2 : left.Nodup := hs.imp fun h => by omega
  refine List.Perm.length_eq ?_
  rw [List.perm_iff_count]
  intro a
  rw [n1.count, n2.count]
  have : a ∈ (((List.range N).map fun (i : Nat) => (i : Int)).filter fun x => decide (x ∈ left)) ↔ a ∈ left := by
    rw [List.mem_filter, decide_eq_true_eq]
    refine ⟨fun h => h.2, fun h => ⟨?_, h⟩⟩
    have := hr a h
    rw [List.mem_map]
    exact ⟨a.toNat, List.mem_range.2 (by omega), by omega⟩
  by_cases h : a ∈ left
  · rw [if_pos h, if_pos (this.2 h)]
  · rw [if_neg h, if_neg fun hh => h (this.1 hh)]
/-- The book after N nonces. -/
def bk (k s : Int) (N : Nat) (left : List Int) : Book := ⟨k, s, (N : Int), left⟩
theorem once_make {k s : Int} {N n : Nat} {left : List Int} (hr : rtB (bk k s N left) = true) (hn : N + n ≤ 4096) :
    makeE (bk k s N left) (n : Int) = 0 ∧ makeB (bk k s N left) (n : Int) = bk k s (N + n) (left ++ upB (bk k s N left) n) ∧ makeL (bk k s N left) (n : Int) = (List.range n).map (fun i => pairN k s ((N + i : Nat) : Int)) ∧ rtB (bk k s (N + n) (left ++ upB (bk k s N left) n)) = true := by
  have e0 : makeE (bk k s N left) (n : Int) = 0 := makeE_nil hr (by show (n : Int) ≤ 4096 - (N : Int); omega)
  have e1 : bookAt (bk k s N left) n = bk k s (N + n) (left ++ upB (bk k s N left) n) := by
    simp [bookAt, bk]
  refine ⟨e0, (make_good e0 rfl).1.trans e1, ?_, ?_⟩
  · rw [(make_good e0 rfl).2, upB, List.map_map]
    refine List.map_congr_left fun i _ => ?_
    simp [bk]
  · rw [← e1]; exact rtB_bookAt hr (by show (N : Int) + (n : Int) ≤ 4096; omega)
theorem once_range {k s : Int} {N : Nat} {left : List Int} (hr : rtB (bk k s N left) = true) : left.Pairwise (· < ·) ∧ ∀ x ∈ left, 0 ≤ x ∧ x < (N : Int) := by
  obtain ⟨-, h2, h3, -⟩ := rtB_inv hr
  exact ⟨h2, h3⟩
theorem once_new {k s : Int} (h : newE k s = 0) : rtB (bk k s 0 []) = true := by
  unfold newE at h
  split at h
  · rename_i hh
    refine rtB_of ?_ List.Pairwise.nil (by simp [bk])
    simp only [bk]; omega
  · cases h
theorem once_len {k s : Int} {N : Nat} {left : List Int} (hr : rtB (bk k s N left) = true) : left.length ≤ N := by
  have := rtB_len hr
  simp only [bk] at this; omega
def pairC (k s no : Int) : List Value := [.int .i64 k, .int .i64 no, .int .i64 (powC 4 (numN k s no 0)), .int .i64 (powC 4 (numN k s no 1))]
def pz : List Value := [.int .i64 0, .int .i64 0, .int .i64 0, .int .i64 0]
theorem pairN_C (k s no : Int) : (pairN k s no).cells = pairC k s no := by
  unfold pairN pairC
  generalize powC 4 (numN k s no 0) = a
  generalize powC 4 (numN k s no 1) = c
  rfl
theorem madeV_eq (k s no : Int) : madeV k s no = .agg (pairC k s no).toArray := by unfold madeV; rw [pairN_C]
theorem once_sub {k s : Int} {N : Nat} {left left' : List Int} (hr : rtB (bk k s N left) = true) (h : left'.Sublist left) : rtB (bk k s N left') = true := by
  obtain ⟨h1, h2, h3, -⟩ := rtB_inv hr
  exact rtB_of h1 (h2.sublist h) fun x hx => h3 x (h.subset hx)
theorem once_not {k s : Int} {N : Nat} {left : List Int} {no : Int} (hr : rtB (bk k s N left) = true) (hn : no ∉ left) : takeE (bk k s N left) no 0 = 411 := by
  unfold takeE
  rw [hr, if_pos rfl, if_pos (by omega), if_neg]
  simp only [List.any_eq_true, decide_eq_true_eq, not_exists, not_and]
  rintro x hx rfl
  exact hn hx
theorem once_take {k s : Int} {N : Nat} {left : List Int} {no : Int} (hr : rtB (bk k s N left) = true) (hn : no ∈ left) :
    takeE (bk k s N left) no 0 = 0 ∧ takeB (bk k s N left) no 0 = bk k s N (left.filter fun x => decide (x ≠ no)) := by
  have h : takeE (bk k s N left) no 0 = 0 := by
    unfold takeE
    rw [hr, if_pos rfl, if_pos (by omega), if_pos]
    simp only [List.any_eq_true, decide_eq_true_eq]
    exact ⟨no, hn, rfl⟩
  exact ⟨h, (take_good h).1⟩
theorem once_burn {k s : Int} {N : Nat} {left : List Int} (hr : rtB (bk k s N left) = true) : burnE (bk k s N left) = 0 ∧ burnB (bk k s N left) = bk k s N [] := by
  unfold burnE burnB
  rw [hr]
  exact ⟨rfl, rfl⟩
end Go.Non
