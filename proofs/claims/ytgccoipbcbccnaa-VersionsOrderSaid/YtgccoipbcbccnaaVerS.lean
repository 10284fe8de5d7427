/- Registers (chapter 14): plain. -/
import Derived.Test.YtgccoipbcbccnaaBestS
set_option linter.unusedSimpArgs false
set_option linter.unusedVariables false
set_option linter.unusedSectionVars false
namespace Go.Ver
open Go.Best
structure Am where
  no : Int
  at_ : Int
  known : Int
  key : Int
  value : Int
  gone : Bool
deriving DecidableEq, Inhabited
structure Step where
  at_ : Int
  value : Int
  ok : Bool
deriving DecidableEq
def rightV (x : Am) : Bool := decide (0 ≤ x.no ∧ x.no ≤ 1048576 ∧ 0 ≤ x.key ∧ x.key ≤ 1048576 ∧ 0 ≤ x.at_ ∧ x.at_ < 1099511627776 ∧ 0 ≤ x.known ∧ x.known < 1099511627776 ∧ 0 ≤ x.value ∧ x.value ≤ 1099511627776 ∧ (x.gone = true → x.value = 0))
abbrev SrtV := Srt Am.no
abbrev chkV (l : List Am) : Int := chk Am.no rightV 4096 140 l
abbrev addEV (l : List Am) (x : Am) : Int := addE Am.no rightV 4096 140 l x
abbrev addLV (l : List Am) (x : Am) : List Am := addL Am.no rightV 4096 140 l x
def kn (key time : Int) (x : Am) : Bool := decide (x.key = key ∧ x.known ≤ time)
def val : Option Am → Int × Bool
  | none => (0, false)
  | some x => (x.value, !x.gone)
abbrev bstV (f : List Am) (t : Int) : Option Am := bst Am.at_ f t
def V (f : List Am) (t : Int) : Int × Bool := val (bstV f t)
def argV (key t time : Int) : Bool := decide (0 ≤ key ∧ key ≤ 1048576 ∧ 0 ≤ t ∧ t < 1099511627776 ∧ 0 ≤ time ∧ time < 1099511627776)
def valE (l : List Am) (key t time : Int) : Int := if chkV l = 0 then (if argV key t time then 0 else 1) else chkV l
def valV (l : List Am) (key t time : Int) : Int × Bool := if valE l key t time = 0 then V (l.filter (kn key time)) t else (0, false)
/-- The program's history of a sorted list. -/
def hp (last : Int × Bool) : List Am → List Step
  | [] => []
  | x :: r => if r.head?.map Am.at_ = some x.at_ then hp last r else if (x.value, !x.gone) = last then hp last r else ⟨x.at_, x.value, !x.gone⟩ :: hp (x.value, !x.gone) r
def emit (last : Int × Bool) (t : Int) (v : Int × Bool) : List Step := if v = last then [] else [⟨t, v.1, v.2⟩]
def Lex (a b : Am) : Prop := a.at_ < b.at_ ∨ (a.at_ = b.at_ ∧ a.no < b.no)
theorem emit_app (last : Int × Bool) (x : Am) (r : List Am) (h : r.head?.map Am.at_ ≠ some x.at_) : hp last (x :: r) = emit last x.at_ (x.value, !x.gone) ++ hp (x.value, !x.gone) r := by
  simp only [hp, if_neg h, emit]
  split
  · rename_i e; rw [e]; rfl
  · rfl
theorem hp_group {t : Int} {B : List Am} (hB : ∀ b ∈ B, t < b.at_) : ∀ (A : List Am) (z : Am) (last : Int × Bool), (∀ a ∈ A, a.at_ = t) → z.at_ = t →
    hp last (A ++ z :: B) = emit last t (z.value, !z.gone) ++ hp (z.value, !z.gone) B
  | [], z, last, _, hz => by
    rw [List.nil_append, emit_app, hz]
    intro e
    cases B with
    | nil => simp at e
    | cons b B => simp at e; have := hB b List.mem_cons_self; omega
  | a :: A, z, last, hA, hz => by
    have ha := hA a List.mem_cons_self
    have h1 : ((A ++ z :: B).head?.map Am.at_) = some a.at_ := by
      cases A with
      | nil => simp [hz, ha]
      | cons a' A => simp [ha, hA a' (by simp)]
    rw [List.cons_append, hp, if_pos h1]
    exact hp_group hB A z last (fun x hx => hA x (List.mem_cons_of_mem _ hx)) hz
/-- A sorted list begins with those of its least time. -/
theorem split_first {a : Am} {q : List Am} (hs : (a :: q).Pairwise Lex) : ∃ (A : List Am) (z : Am) (B : List Am), a :: q = A ++ z :: B ∧ (∀ x ∈ A, x.at_ = a.at_) ∧ z.at_ = a.at_ ∧ ∀ b ∈ B, a.at_ < b.at_ := by
  induction q generalizing a with
  | nil => exact ⟨[], a, [], rfl, by simp, rfl, by simp⟩
  | cons b q ih =>
    obtain ⟨h1, h2⟩ := List.pairwise_cons.1 hs
    by_cases e : b.at_ = a.at_
    · obtain ⟨A, z, B, h, hA, hz, hB⟩ := ih h2
      refine ⟨a :: A, z, B, by rw [h]; rfl, fun x hx => ?_, by omega, fun c hc => by have := hB c hc; omega⟩
      rcases List.mem_cons.1 hx with rfl | hx
      · rfl
      · have := hA x hx; omega
    · refine ⟨[], a, b :: q, rfl, by simp, rfl, fun c hc => ?_⟩
      have hab : a.at_ < b.at_ := by rcases h1 b List.mem_cons_self with h | h <;> omega
      rcases List.mem_cons.1 hc with rfl | hc
      · exact hab
      · rcases (List.pairwise_cons.1 h2).1 c hc with h | h <;> omega
/-- What a history says. -/
def okH (f : List Am) : Int → Int × Bool → List Step → Prop
  | t0, last, [] => ∀ t, t0 ≤ t → V f t = last
  | t0, last, x :: r => t0 < x.at_ ∧ (x.value, x.ok) ≠ last ∧ (∃ y ∈ f, y.at_ = x.at_) ∧ (∀ t, t0 ≤ t → t < x.at_ → V f t = last) ∧ okH f x.at_ (x.value, x.ok) r
theorem okH_lower {f : List Am} {t0 t1 : Int} {last : Int × Bool} (h01 : t0 ≤ t1) (hc : ∀ t, t0 ≤ t → t < t1 → V f t = last) : ∀ {hs : List Step}, okH f t1 last hs → okH f t0 last hs
  | [], h => fun t ht => by
    rcases Int.lt_or_le t t1 with h' | h'
    · exact hc t ht h'
    · exact h t h'
  | x :: r, ⟨h1, h2, h3, h4, h5⟩ => ⟨by omega, h2, h3, fun t ht ht' => by
      rcases Int.lt_or_le t t1 with h' | h'
      · exact hc t ht h'
      · exact h4 t h' ht', h5⟩
section
variable {f s : List Am} (hf : SrtV f) (hm : ∀ x, x ∈ s ↔ x ∈ f) (hs : s.Pairwise Lex)
include hf hm hs
theorem V_group {p A : List Am} {z : Am} {B : List Am} (e : s = p ++ (A ++ z :: B)) {t : Int} (h1 : z.at_ ≤ t) (h2 : ∀ b ∈ B, t < b.at_) : V f t = (z.value, !z.gone) := by
  show val (bst Am.at_ f t) = _
  rw [bst_eq (no := Am.no) hf (o := some z) ?_]
  · rfl
  · refine isB_mem hm ⟨by rw [e]; simp, h1, fun y hy hyt => ?_⟩
    rw [e] at hy hs
    simp only [List.mem_append, List.mem_cons] at hy
    rcases hy with hy | hy | rfl | hy
    · rcases (List.pairwise_append.1 hs).2.2 y hy z (by simp) with h | h
      · exact .inl h
      · exact .inr ⟨h.1, by omega⟩
    · rcases (List.pairwise_append.1 (List.pairwise_append.1 hs).2.1).2.2 y hy z List.mem_cons_self with h | h
      · exact .inl h
      · exact .inr ⟨h.1, by omega⟩
    · exact .inr ⟨rfl, Int.le_refl _⟩
    · have := h2 y hy; omega
theorem hp_okH : ∀ (n : Nat) (q p : List Am) (t0 : Int) (last : Int × Bool), q.length ≤ n → s = p ++ q → (∀ y ∈ q, t0 < y.at_) → (∀ t, t0 ≤ t → (∀ y ∈ q, t < y.at_) → V f t = last) → okH f t0 last (hp last q) := by
  intro n
  induction n with
  | zero =>
    intro q p t0 last hq e h1 h2
    obtain rfl := List.length_eq_zero_iff.1 (Nat.le_zero.1 hq)
    exact fun t ht => h2 t ht (by simp)
  | succ n ih =>
    intro q p t0 last hq e h1 h2
    cases q with
    | nil => exact fun t ht => h2 t ht (by simp)
    | cons a q =>
      have hs' : (a :: q).Pairwise Lex := by rw [e] at hs; exact (List.pairwise_append.1 hs).2.1
      obtain ⟨A, z, B, e2, hA, hz, hB⟩ := split_first hs'
      have ha := h1 a List.mem_cons_self
      have hall : ∀ t, t < a.at_ → ∀ y ∈ a :: q, t < y.at_ := fun t ht y hy => by
        rcases List.mem_cons.1 hy with rfl | hy
        · exact ht
        · rcases (List.pairwise_cons.1 hs').1 y hy with h | h <;> omega
      have hV : ∀ t, a.at_ ≤ t → (∀ b ∈ B, t < b.at_) → V f t = (z.value, !z.gone) := fun t ht hb => V_group hf hm hs (p := p) (A := A) (B := B) (by rw [e, e2]) (by omega) hb
      have hlen : B.length ≤ n := by
        have := congrArg List.length e2
        simp only [List.length_cons, List.length_append] at this hq
        omega
      have hB' := ih B (p ++ (A ++ [z])) a.at_ (z.value, !z.gone) hlen (by rw [e, e2]; simp) hB hV
      rw [e2, hp_group hB A z last hA hz]
      unfold emit
      split
      · rename_i ev
        rw [ev] at hB' ⊢
        exact okH_lower (by omega) (fun t ht ht' => h2 t ht (hall t ht')) hB'
      · rename_i ev
        refine ⟨ha, ev, ⟨z, (hm z).1 (by rw [e, e2]; simp), by simp only; omega⟩, fun t ht ht' => h2 t ht (hall t ht'), hB'⟩
end
/-- The reference's history. -/
def nextF (t u : Int) (x : Am) : Int := if t < x.at_ ∧ (u < 0 ∨ x.at_ < u) then x.at_ else u
def nextT (l : List Am) (t : Int) : Int := l.foldl (nextF t) (-1)
theorem nextF_spec {t : Int} (ht : -1 ≤ t) : ∀ (l pre : List Am) (u : Int), (u = -1 ∧ (∀ x ∈ pre, x.at_ ≤ t) ∨ (t < u ∧ (∃ x ∈ pre, x.at_ = u) ∧ ∀ x ∈ pre, t < x.at_ → u ≤ x.at_)) →
    ((l.foldl (nextF t) u) = -1 ∧ (∀ x ∈ pre ++ l, x.at_ ≤ t) ∨ (t < l.foldl (nextF t) u ∧ (∃ x ∈ pre ++ l, x.at_ = l.foldl (nextF t) u) ∧ ∀ x ∈ pre ++ l, t < x.at_ → l.foldl (nextF t) u ≤ x.at_))
  | [], pre, u, h => by simpa using h
  | x :: l, pre, u, h => by
    have := nextF_spec ht l (pre ++ [x]) (nextF t u x) ?_
    · simpa using this
    · unfold nextF
      rcases h with ⟨rfl, h⟩ | ⟨h1, ⟨y, hy, hyu⟩, h2⟩
      · split
        · rename_i hc
          refine .inr ⟨hc.1, ⟨x, by simp, rfl⟩, fun z hz hzt => ?_⟩
          rcases List.mem_append.1 hz with hz | hz
          · have := h z hz; omega
          · simp at hz; subst hz; exact Int.le_refl _
        · rename_i hc
          refine .inl ⟨rfl, fun z hz => ?_⟩
          rcases List.mem_append.1 hz with hz | hz
          · exact h z hz
          · simp at hz; subst hz; omega
      · split
        · rename_i hc
          refine .inr ⟨hc.1, ⟨x, by simp, rfl⟩, fun z hz hzt => ?_⟩
          rcases List.mem_append.1 hz with hz | hz
          · have := h2 z hz hzt; omega
          · simp at hz; subst hz; exact Int.le_refl _
        · rename_i hc
          refine .inr ⟨h1, ⟨y, by simp [hy], hyu⟩, fun z hz hzt => ?_⟩
          rcases List.mem_append.1 hz with hz | hz
          · exact h2 z hz hzt
          · simp at hz; subst hz; omega
theorem nextT_spec (l : List Am) {t : Int} (ht : -1 ≤ t) : (nextT l t = -1 ∧ ∀ x ∈ l, x.at_ ≤ t) ∨ (t < nextT l t ∧ (∃ x ∈ l, x.at_ = nextT l t) ∧ ∀ x ∈ l, t < x.at_ → nextT l t ≤ x.at_) := by
  have := nextF_spec ht l [] (-1) (.inl ⟨rfl, by simp⟩)
  simpa [nextT] using this
def hr (l f : List Am) : Nat → Int → Int × Bool → List Step
  | 0, _, _ => []
  | n + 1, t, last => if t < 0 then [] else emit last t (V f t) ++ hr l f n (nextT l t) (V f t)
def above (l : List Am) (t : Int) : Nat := l.countP fun x => decide (t < x.at_)
theorem above_lt {l : List Am} {t t' : Int} (h : t ≤ t') (hx : ∃ x ∈ l, t < x.at_ ∧ x.at_ ≤ t') : above l t' < above l t := by
  unfold above
  induction l with
  | nil => obtain ⟨x, hx, _⟩ := hx; simp at hx
  | cons a l ih =>
    have hle : l.countP (fun x => decide (t' < x.at_)) ≤ l.countP (fun x => decide (t < x.at_)) := List.countP_mono_left (by intro x _ hx; simp at hx ⊢; omega)
    rw [List.countP_cons, List.countP_cons]
    obtain ⟨x, hx, h1, h2⟩ := hx
    rcases List.mem_cons.1 hx with rfl | hx
    · rw [if_neg (by simp; omega), if_pos (by simpa using h1)]; omega
    · have := ih ⟨x, hx, h1, h2⟩
      by_cases ha : t' < a.at_
      · rw [if_pos (by simpa using ha), if_pos (by simp; omega)]; omega
      · rw [if_neg (by simpa using ha)]; split <;> omega
section
variable {l f s : List Am} (hf : SrtV f) (hm : ∀ x, x ∈ s ↔ x ∈ f) (hs : s.Pairwise Lex) (hl : ∀ x ∈ f, x ∈ l) (h0 : ∀ x ∈ l, 0 ≤ x.at_)
include hf hm hs hl h0
theorem hr_eq : ∀ (n : Nat) (t0 : Int) (last : Int × Bool) (p q : List Am), -1 ≤ t0 → above l t0 < n → s = p ++ q → (∀ y ∈ q, t0 < y.at_) → (∀ t, t0 ≤ t → (∀ y ∈ q, t < y.at_) → V f t = last) →
    hr l f n (nextT l t0) last = hp last q := by
  intro n
  induction n with
  | zero => intro t0 last p q _ h; omega
  | succ n ih =>
    intro t0 last p q ht0 hn e h1 h2
    rcases nextT_spec l ht0 with ⟨hn1, hall⟩ | ⟨hlt, ⟨x0, hx0, hx0t⟩, hmin⟩
    · rw [hn1, hr, if_pos (by decide)]
      cases q with
      | nil => rfl
      | cons a q =>
        have ha := h1 a List.mem_cons_self
        have := hall a (hl a ((hm a).1 (by rw [e]; simp)))
        omega
    · generalize hT : nextT l t0 = T at *
      have hT0 : ¬ T < 0 := by have := h0 x0 hx0; omega
      rw [hr, if_neg hT0]
      have habove : above l T < n := by have := above_lt (l := l) (t := t0) (t' := T) (by omega) ⟨x0, hx0, by omega, by omega⟩; omega
      cases q with
      | nil =>
        have hV := h2 T (by omega) (by simp)
        rw [hV]
        simp only [emit, if_pos, List.nil_append]
        exact ih T last p [] (by omega) habove e (by simp) (fun t ht h => h2 t (by omega) h)
      | cons a q =>
        have hs' : (a :: q).Pairwise Lex := by rw [e] at hs; exact (List.pairwise_append.1 hs).2.1
        obtain ⟨A, z, B, e2, hA, hz, hB⟩ := split_first hs'
        have ha := h1 a List.mem_cons_self
        have hTa := hmin a (hl a ((hm a).1 (by rw [e]; simp))) ha
        have hall : ∀ t, t < a.at_ → ∀ y ∈ a :: q, t < y.at_ := fun t ht y hy => by
          rcases List.mem_cons.1 hy with rfl | hy
          · exact ht
          · rcases (List.pairwise_cons.1 hs').1 y hy with h | h <;> omega
        by_cases hTa' : T < a.at_
        · have hV := h2 T (by omega) (hall T hTa')
          rw [hV]
          simp only [emit, if_pos, List.nil_append]
          exact ih T last p (a :: q) (by omega) habove e (hall T hTa') (fun t ht h => h2 t (by omega) h)
        · obtain rfl : T = a.at_ := by omega
          have hV : ∀ t, a.at_ ≤ t → (∀ b ∈ B, t < b.at_) → V f t = (z.value, !z.gone) := fun t ht hb => V_group hf hm hs (p := p) (A := A) (B := B) (by rw [e, e2]) (by omega) hb
          rw [hV _ (Int.le_refl _) hB, e2, hp_group hB A z last hA hz]
          rw [ih a.at_ (z.value, !z.gone) (p ++ (A ++ [z])) B (by omega) habove (by rw [e, e2]; simp) hB hV]
end
end Go.Ver
namespace Go.Ver
open Go.Best
/-! The laws. -/
theorem right_ge {x : Am} (h : rightV x = true) : 0 ≤ x.no ∧ 0 ≤ x.at_ ∧ (x.gone = true → x.value = 0) := by
  unfold rightV at h; have := of_decide_eq_true h; exact ⟨this.1, this.2.2.2.2.1, this.2.2.2.2.2.2.2.2.2.2⟩
theorem chkV_ok {l : List Am} : chkV l = 0 ↔ l.length ≤ 4096 ∧ good Am.no rightV (-1) l = true := chk_ok (by decide)
theorem chkV_srt {l : List Am} (h : chkV l = 0) : SrtV l ∧ ∀ x ∈ l, rightV x = true := by
  obtain ⟨h1, h2⟩ := good_srt (chkV_ok.1 h).2; exact ⟨h1, fun x hx => (h2 x hx).2⟩
theorem chkV_of {l : List Am} (h1 : l.length ≤ 4096) (h2 : SrtV l) (h3 : ∀ x ∈ l, rightV x = true) : chkV l = 0 :=
  chkV_ok.2 ⟨h1, good_of h2 fun x hx => ⟨by have := (right_ge (h3 x hx)).1; omega, h3 x hx⟩⟩
theorem addEV_ok {l : List Am} {x : Am} : addEV l x = 0 ↔ chkV l = 0 ∧ rightV x = true ∧ (∀ y ∈ l, y.no ≠ x.no) ∧ l.length ≠ 4096 := by
  show (if chkV l = 0 then _ else _) = 0 ↔ _
  split
  · rename_i h
    split
    · rename_i h2
      split
      · rename_i h3
        simp only [List.any_eq_true, decide_eq_true_eq] at h3
        obtain ⟨y, hy, hyx⟩ := h3
        exact ⟨fun h => absurd h (by decide), fun h => absurd hyx (h.2.2.1 y hy)⟩
      · rename_i h3
        simp only [List.any_eq_true, decide_eq_true_eq, not_exists, not_and] at h3
        split
        · rename_i h4; exact ⟨fun h => absurd h (by decide), fun h => absurd h4 h.2.2.2⟩
        · rename_i h4; exact ⟨fun _ => ⟨h, h2, h3, h4⟩, fun _ => rfl⟩
    · rename_i h2; exact ⟨fun h => absurd h (by decide), fun h => absurd h.2.1 h2⟩
  · rename_i h; exact ⟨fun h' => absurd h' h, fun h' => absurd h'.1 h⟩
theorem addV_chk {l : List Am} {x : Am} (h : addEV l x = 0) : chkV (addLV l x) = 0 ∧ addLV l x = insS Am.no x l := by
  have e : addLV l x = insS Am.no x l := if_pos h
  obtain ⟨h1, h2, h3, h4⟩ := addEV_ok.1 h
  obtain ⟨h5, h6⟩ := chkV_srt h1
  have h7 := (chkV_ok.1 h1).1
  rw [e]
  refine ⟨chkV_of (by rw [length_insS]; omega) (srt_insS h5 h3) fun y hy => ?_, rfl⟩
  rcases mem_insS.1 hy with rfl | hy
  · exact h2
  · exact h6 y hy
/-- The history, as the statement reads it. -/
def histE (l : List Am) (key time : Int) : Int := if chkV l = 0 then (if argV key 0 time then 0 else 1) else chkV l
def fil (l : List Am) (key time : Int) : List Am := l.filter (kn key time)
theorem fil_srt {l : List Am} (h : chkV l = 0) (key time : Int) : SrtV (fil l key time) := (chkV_srt h).1.filter _
def times (l : List Am) (key time : Int) : List Step := hr l (fil l key time) (l.length + 1) (nextT l (-1)) (0, false)
def histL (l : List Am) (key time : Int) : List Step := if histE l key time = 0 then times l key time else []
/-- Whatever the sort makes of them. -/
theorem hist_sorted {l : List Am} {key time : Int} (hc : chkV l = 0) {s : List Am} (hm : ∀ x, x ∈ s ↔ x ∈ fil l key time) (hs : s.Pairwise Lex) : times l key time = hp (0, false) s := by
  have hf := fil_srt hc key time
  have hr0 := (chkV_srt hc).2
  refine hr_eq hf hm hs (fun x hx => (List.mem_filter.1 hx).1) (fun x hx => (right_ge (hr0 x hx)).2.1) (l.length + 1) (-1) (0, false) [] s (by omega) (by have := List.countP_le_length (p := fun x : Am => decide (-1 < x.at_)) (l := l); unfold above; omega) rfl (fun y hy => ?_) fun t ht h => ?_
  · have := (right_ge (hr0 y (List.mem_filter.1 ((hm y).1 hy)).1)).2.1; omega
  · show val (bst Am.at_ _ t) = _
    rw [bst_eq (no := Am.no) (at_ := Am.at_) hf (o := none) (isB_mem (f := s) hm h)]; rfl
end Go.Ver
