/- Offices (chapter 15): plain. -/
import Derived.Test.YtgccoipbcbccnaaBestS
import Derived.Test.YtgccoipbcbccnaaMap
set_option linter.unusedSimpArgs false
set_option linter.unusedVariables false
set_option linter.unusedSectionVars false
namespace Go.Off
open Go.Best Go.Rn
structure Ap where
  no : Int
  at_ : Int
  known : Int
  office : Int
  person : Int
  weight : Int
  gone : Bool
deriving DecidableEq, Inhabited
structure Hold where
  person : Int
  weight : Int
deriving DecidableEq
def rightA (x : Ap) : Bool := decide (0 ≤ x.no ∧ x.no ≤ 1048576 ∧ 0 ≤ x.at_ ∧ x.at_ < 1099511627776 ∧ 0 ≤ x.known ∧ x.known < 1099511627776 ∧ 0 ≤ x.office ∧ x.office < 32 ∧ 0 ≤ x.person ∧ x.person < 64 ∧ (x.gone = true → x.weight = 0) ∧ (x.gone = false → 1 ≤ x.weight ∧ x.weight ≤ 64))
abbrev SrtA := Srt Ap.no
abbrev chkA (l : List Ap) : Int := chk Ap.no rightA 4096 150 l
abbrev addEA (l : List Ap) (x : Ap) : Int := addE Ap.no rightA 4096 150 l x
abbrev addLA (l : List Ap) (x : Ap) : List Ap := addL Ap.no rightA 4096 150 l x
/-- Of an office and a person, known at a time. -/
def ko (o p time : Int) (x : Ap) : Bool := decide (x.office = o ∧ x.person = p ∧ x.known ≤ time)
def best (l : List Ap) (o p t time : Int) : Option Ap := bst Ap.at_ (l.filter (ko o p time)) t
def held : Option Ap → Option Ap
  | none => none
  | some x => if x.gone then none else some x
/-- What Holds says: number, weight, whether. -/
def answer : Option Ap → Int × Int × Bool
  | none => (0, 0, false)
  | some x => (x.no, x.weight, true)
def argO (o : Int) : Bool := decide (0 ≤ o ∧ o < 32)
def argP (p : Int) : Bool := decide (0 ≤ p ∧ p < 64)
def argT (t : Int) : Bool := decide (0 ≤ t ∧ t < 1099511627776)
def holdE (l : List Ap) (o p t time : Int) : Int := if chkA l = 0 then (if argO o && argP p && argT t && argT time then 0 else 1) else chkA l
def holdV (l : List Ap) (o p t time : Int) : Int × Int × Bool := if holdE l o p t time = 0 then answer (held (best l o p t time)) else (0, 0, false)
def hsE (l : List Ap) (o t time : Int) : Int := if chkA l = 0 then (if argO o && argT t && argT time then 0 else 1) else chkA l
/-- The holders below a person's number. -/
def hsUpto (l : List Ap) (o t time : Int) (n : Nat) : List Hold := (List.range n).filterMap fun p : Nat => (held (best l o (p : Int) t time)).map fun x => ⟨(p : Int), x.weight⟩
def hsL (l : List Ap) (o t time : Int) : List Hold := if hsE l o t time = 0 then hsUpto l o t time 64 else []
/-! ### What stands -/
def counts (t time : Int) (x : Ap) : Bool := decide (x.at_ ≤ t ∧ x.known ≤ time)
abbrev Seat := Int × Int
def later : Option Ap → Ap → Bool
  | none, _ => false
  | some y, x => decide (x.at_ < y.at_)
def stepM (t time : Int) (m : List (Seat × Ap)) (x : Ap) : List (Seat × Ap) :=
  if counts t time x && !later (getM (x.office, x.person) m) x then setM (x.office, x.person) x m else m
def standing (l : List Ap) (t time : Int) : List (Seat × Ap) := l.foldl (stepM t time) []
theorem standing_get_aux (t time : Int) (o p : Int) : ∀ (l : List Ap) (m : List (Seat × Ap)), getM (o, p) (l.foldl (stepM t time) m) = (l.filter (ko o p time)).foldl (pickS Ap.at_ t) (getM (o, p) m)
  | [], m => rfl
  | x :: l, m => by
    rw [List.foldl_cons, standing_get_aux t time o p l, List.filter_cons]
    by_cases hk : ko o p time x
    · rw [if_pos hk, List.foldl_cons]
      congr 1
      have hk := of_decide_eq_true hk
      obtain ⟨rfl, rfl, hk3⟩ := hk
      unfold stepM counts pickS
      by_cases ht : x.at_ ≤ t
      · rw [if_pos ht, decide_eq_true ⟨ht, hk3⟩, Bool.true_and]
        cases hg : getM (x.office, x.person) m with
        | none => simp [later, getM_set]
        | some y =>
          simp only [later]
          by_cases hy : y.at_ ≤ x.at_
          · have h1 : ¬ x.at_ < y.at_ := by omega
            simp [hy, h1, getM_set]
          · have h1 : x.at_ < y.at_ := by omega
            simp [hy, h1, hg]
      · rw [if_neg ht, decide_eq_false (fun h => ht h.1)]; simp
    · rw [if_neg hk]
      congr 1
      unfold stepM
      split
      · rename_i hc
        rw [Bool.and_eq_true] at hc
        have hc1 := of_decide_eq_true hc.1
        rw [getM_set, if_neg]
        intro e
        injection e with e1 e2
        exact hk (decide_eq_true ⟨e1.symm, e2.symm, hc1.2⟩)
      · rfl
theorem standing_get (l : List Ap) (t time o p : Int) : getM (o, p) (standing l t time) = best l o p t time := standing_get_aux t time o p l []
theorem standing_nodup (l : List Ap) (t time : Int) : ((standing l t time).map (·.1)).Nodup := by
  unfold standing
  suffices h : ∀ (l : List Ap) (m : List (Seat × Ap)), (m.map (·.1)).Nodup → ((l.foldl (stepM t time) m).map (·.1)).Nodup from h l [] List.nodup_nil
  intro l
  induction l with
  | nil => exact fun m h => h
  | cons x l ih =>
    intro m h
    rw [List.foldl_cons]
    refine ih _ ?_
    unfold stepM
    split
    · exact setM_nodup h
    · exact h
theorem standing_length (l : List Ap) (t time : Int) : (standing l t time).length ≤ l.length := by
  unfold standing
  suffices h : ∀ (l : List Ap) (m : List (Seat × Ap)), (l.foldl (stepM t time) m).length ≤ m.length + l.length by simpa using h l []
  intro l
  induction l with
  | nil => exact fun m => Nat.le_refl _
  | cons x l ih =>
    intro m
    rw [List.foldl_cons, List.length_cons]
    have h1 := ih (stepM t time m x)
    have h2 : (stepM t time m x).length ≤ m.length + 1 := by
      unfold stepM
      split
      · have := congrArg List.length (setM_keys (x.office, x.person) x m)
        split at this <;> simp at this <;> omega
      · omega
    omega
/-! ### Facts of lists -/
theorem rightA_inv {x : Ap} (h : rightA x = true) : 0 ≤ x.no ∧ 0 ≤ x.office ∧ x.office < 32 ∧ 0 ≤ x.person ∧ x.person < 64 := by
  unfold rightA at h; have := of_decide_eq_true h; omega
theorem chkA_ok {l : List Ap} : chkA l = 0 ↔ l.length ≤ 4096 ∧ good Ap.no rightA (-1) l = true := chk_ok (by decide)
theorem chkA_srt {l : List Ap} (h : chkA l = 0) : SrtA l ∧ ∀ x ∈ l, rightA x = true := by
  obtain ⟨h1, h2⟩ := good_srt (chkA_ok.1 h).2; exact ⟨h1, fun x hx => (h2 x hx).2⟩
theorem chkA_of {l : List Ap} (h1 : l.length ≤ 4096) (h2 : SrtA l) (h3 : ∀ x ∈ l, rightA x = true) : chkA l = 0 :=
  chkA_ok.2 ⟨h1, good_of h2 fun x hx => ⟨by have := (rightA_inv (h3 x hx)).1; omega, h3 x hx⟩⟩
theorem best_mem {l : List Ap} (hs : SrtA l) {o p t time : Int} {x : Ap} (h : best l o p t time = some x) : x ∈ l ∧ x.office = o ∧ x.person = p ∧ x.known ≤ time ∧ x.at_ ≤ t := by
  obtain ⟨h1, h2⟩ := bst_mem (no := Ap.no) (hs.filter _) h
  obtain ⟨h3, h4⟩ := List.mem_filter.1 h1
  have h4 := of_decide_eq_true h4
  exact ⟨h3, h4.1, h4.2.1, h4.2.2, h2⟩
theorem hsUpto_succ (l : List Ap) (o t time : Int) (n : Nat) : hsUpto l o t time (n + 1) = hsUpto l o t time n ++ ((held (best l o (n : Int) t time)).map fun x => (⟨(n : Int), x.weight⟩ : Hold)).toList := by
  unfold hsUpto
  rw [List.range_succ, List.filterMap_append, List.filterMap_cons]
  cases (held (best l o (n : Int) t time)) <;> simp
theorem hsUpto_mem {l : List Ap} {o t time : Int} {n : Nat} {h : Hold} : h ∈ hsUpto l o t time n ↔ ∃ x, 0 ≤ h.person ∧ h.person < n ∧ held (best l o h.person t time) = some x ∧ h.weight = x.weight := by
  unfold hsUpto
  rw [List.mem_filterMap]
  constructor
  · rintro ⟨p, hp, h1⟩
    obtain ⟨x, hx, rfl⟩ := Option.map_eq_some_iff.1 h1
    have := List.mem_range.1 hp
    exact ⟨x, by simp only; omega, by simp only; omega, hx, rfl⟩
  · rintro ⟨x, h1, h2, h3, h4⟩
    obtain ⟨p, hp⟩ := Int.eq_ofNat_of_zero_le h1
    refine ⟨p, List.mem_range.2 (by omega), ?_⟩
    rw [← hp, h3, Option.map_some]
    obtain ⟨a, b⟩ := h
    simp only at h4 ⊢; rw [h4]
theorem hsUpto_srt (l : List Ap) (o t time : Int) : ∀ n, Srt Hold.person (hsUpto l o t time n)
  | 0 => List.Pairwise.nil
  | n + 1 => by
    rw [hsUpto_succ]
    refine List.pairwise_append.2 ⟨hsUpto_srt l o t time n, ?_, fun a ha b hb => ?_⟩
    · cases held (best l o (n : Int) t time) <;> simp
    · obtain ⟨x, h1, h2, -⟩ := hsUpto_mem.1 ha
      cases h : held (best l o (n : Int) t time) with
      | none => rw [h] at hb; simp at hb
      | some y => rw [h] at hb; simp at hb; subst hb; simp only; omega
theorem hsUpto_length (l : List Ap) (o t time : Int) (n : Nat) : (hsUpto l o t time n).length ≤ n := by
  unfold hsUpto
  have := List.length_filterMap_le (fun p : Nat => (held (best l o (p : Int) t time)).map fun x => (⟨(p : Int), x.weight⟩ : Hold)) (List.range n)
  rwa [List.length_range] at this
/-- What the program makes of the seats, whatever the order of those of one person. -/
def pickH (m : List (Seat × Ap)) (o : Int) (s : Seat) : Option Hold := if s.1 = o then (held (getM s m)).map fun x => ⟨x.person, x.weight⟩ else none
theorem holders_eq {l : List Ap} (hc : chkA l = 0) (o t time : Int) {ss : List Seat} (hp : ss.Perm ((standing l t time).map (·.1))) (hs : ss.Pairwise fun a b => ¬ b.2 < a.2) :
    ss.filterMap (pickH (standing l t time) o) = hsUpto l o t time 64 := by
  obtain ⟨hsl, hr⟩ := chkA_srt hc
  have hnd : ss.Nodup := hp.nodup_iff.2 (standing_nodup l t time)
  have hpk : ∀ s h, pickH (standing l t time) o s = some h → s.1 = o ∧ ∃ x, held (best l s.1 s.2 t time) = some x ∧ best l s.1 s.2 t time = some x ∧ h = ⟨x.person, x.weight⟩ ∧ x.person = s.2 ∧ x ∈ l := by
    intro s h hh
    unfold pickH at hh
    split at hh
    · rename_i h1
      obtain ⟨x, hx, rfl⟩ := Option.map_eq_some_iff.1 hh
      have hx2 := hx
      rw [show s = (s.1, s.2) from rfl, standing_get] at hx2
      have hb : best l s.1 s.2 t time = some x := by
        unfold held at hx2
        split at hx2
        · simp at hx2
        · rename_i y hy
          split at hx2
          · simp at hx2
          · rw [hy]; exact hx2
      have := best_mem hsl hb
      exact ⟨h1, x, hx2, hb, rfl, this.2.2.1, this.1⟩
    · simp at hh
  refine srt_ext (no := Hold.person) ?_ (hsUpto_srt l o t time 64) fun h => ?_
  · -- sorted
    refine List.Pairwise.filterMap (R := fun a b : Seat => a ≠ b ∧ ¬ b.2 < a.2) _ ?_ (List.pairwise_and_iff.2 ⟨hnd, hs⟩)
    intro a b hab u hu v hv
    obtain ⟨a1, x, -, -, rfl, a3, -⟩ := hpk a u hu
    obtain ⟨b1, y, -, -, rfl, b3, -⟩ := hpk b v hv
    simp only
    have : a.2 ≠ b.2 := fun e => hab.1 (Prod.ext (by rw [a1, b1]) e)
    have := hab.2
    omega
  · rw [List.mem_filterMap, hsUpto_mem]
    constructor
    · rintro ⟨s, hs1, hs2⟩
      obtain ⟨h1, x, h2, h3, rfl, h5, h6⟩ := hpk s h hs2
      have := rightA_inv (hr x h6)
      refine ⟨x, by simp only; omega, by simp only; omega, ?_, rfl⟩
      simp only
      rw [h5, ← h1]; exact h2
    · rintro ⟨x, h1, h2, h3, h4⟩
      have hb : best l o h.person t time = some x := by
        unfold held at h3
        split at h3
        · simp at h3
        · rename_i y hy
          split at h3
          · simp at h3
          · rw [hy]; exact h3
      refine ⟨(o, h.person), ?_, ?_⟩
      · rw [hp.mem_iff, ← getM_isSome, standing_get, hb]; rfl
      · unfold pickH
        rw [if_pos rfl, standing_get, h3, Option.map_some]
        have := best_mem hsl hb
        obtain ⟨a, b⟩ := h
        simp only at this h4 ⊢
        rw [h4, this.2.2.1]
end Go.Off
