/- Lists sorted by number; the last of the greatest: plain. -/
set_option linter.unusedSimpArgs false
set_option linter.unusedVariables false
set_option linter.unusedSectionVars false
namespace Go.Best
section
variable {α : Type} (no at_ : α → Int)
def Srt (l : List α) : Prop := l.Pairwise fun a b => no a < no b
def good (rt : α → Bool) : Int → List α → Bool
  | _, [] => true
  | last, x :: r => rt x && decide (last < no x) && good rt (no x) r
def chk (rt : α → Bool) (lim : Nat) (code : Int) (l : List α) : Int := if lim < l.length then 2 else if good no rt (-1) l then 0 else code
def insS (x : α) (l : List α) : List α := l.takeWhile (fun y => decide (no y < no x)) ++ x :: l.dropWhile (fun y => decide (no y < no x))
def addE (rt : α → Bool) (lim : Nat) (code : Int) (l : List α) (x : α) : Int :=
  if chk no rt lim code l = 0 then (if rt x then (if l.any (fun y => decide (no y = no x)) then 151 else if l.length = lim then 2 else 0) else code) else chk no rt lim code l
def addL (rt : α → Bool) (lim : Nat) (code : Int) (l : List α) (x : α) : List α := if addE no rt lim code l x = 0 then insS no x l else []
variable {no at_}
theorem good_srt {rt : α → Bool} : ∀ {l : List α} {last : Int}, good no rt last l = true → Srt no l ∧ ∀ x ∈ l, last < no x ∧ rt x = true
  | [], last, _ => ⟨List.Pairwise.nil, by simp⟩
  | x :: r, last, h => by
    simp only [good, Bool.and_eq_true, decide_eq_true_eq] at h
    obtain ⟨⟨h1, h2⟩, h3⟩ := h
    obtain ⟨h4, h5⟩ := good_srt h3
    refine ⟨List.pairwise_cons.2 ⟨fun y hy => (h5 y hy).1, h4⟩, fun y hy => ?_⟩
    rcases List.mem_cons.1 hy with rfl | hy
    · exact ⟨h2, h1⟩
    · exact ⟨by have := (h5 y hy).1; omega, (h5 y hy).2⟩
theorem good_of {rt : α → Bool} : ∀ {l : List α} {last : Int}, Srt no l → (∀ x ∈ l, last < no x ∧ rt x = true) → good no rt last l = true
  | [], _, _, _ => rfl
  | x :: r, last, h, h' => by
    obtain ⟨h1, h2⟩ := List.pairwise_cons.1 h
    have := h' x List.mem_cons_self
    simp only [good, Bool.and_eq_true, decide_eq_true_eq]
    exact ⟨⟨this.2, this.1⟩, good_of h2 fun y hy => ⟨h1 y hy, (h' y (List.mem_cons_of_mem _ hy)).2⟩⟩
theorem chk_ok {rt : α → Bool} {lim : Nat} {code : Int} {l : List α} (hc : code ≠ 0) : chk no rt lim code l = 0 ↔ l.length ≤ lim ∧ good no rt (-1) l = true := by
  unfold chk; split
  · simp; omega
  · split
    · rename_i h; simp [h]; omega
    · rename_i h; simp [h, hc]
theorem mem_insS {x y : α} {l : List α} : y ∈ insS no x l ↔ y = x ∨ y ∈ l := by
  unfold insS
  have := List.takeWhile_append_dropWhile (p := fun y => decide (no y < no x)) (l := l)
  conv => rhs; rw [← this]
  simp only [List.mem_append, List.mem_cons]
  constructor <;> intro h
  · rcases h with h | h | h
    · exact .inr (.inl h)
    · exact .inl h
    · exact .inr (.inr h)
  · rcases h with h | h | h
    · exact .inr (.inl h)
    · exact .inl h
    · exact .inr (.inr h)
theorem length_insS (x : α) (l : List α) : (insS no x l).length = l.length + 1 := by
  unfold insS
  have := congrArg List.length (List.takeWhile_append_dropWhile (p := fun y => decide (no y < no x)) (l := l))
  simp only [List.length_append, List.length_cons] at this ⊢
  omega
theorem srt_cons {x : α} {l : List α} : Srt no (x :: l) ↔ (∀ y ∈ l, no x < no y) ∧ Srt no l := List.pairwise_cons
theorem insS_cons (x y : α) (l : List α) : insS no x (y :: l) = if no y < no x then y :: insS no x l else x :: y :: l := by
  unfold insS
  simp only [List.takeWhile_cons, List.dropWhile_cons]
  by_cases h : no y < no x <;> simp [h]
theorem srt_insS {x : α} : ∀ {l : List α}, Srt no l → (∀ y ∈ l, no y ≠ no x) → Srt no (insS no x l)
  | [], _, _ => by simp [insS, Srt]
  | y :: l, h, h' => by
    obtain ⟨h1, h2⟩ := srt_cons.1 h
    rw [insS_cons]
    split
    · rename_i hlt
      refine srt_cons.2 ⟨fun z hz => ?_, srt_insS h2 fun z hz => h' z (List.mem_cons_of_mem _ hz)⟩
      rcases mem_insS.1 hz with rfl | hz
      · exact hlt
      · exact h1 z hz
    · rename_i hge
      have := h' y List.mem_cons_self
      refine srt_cons.2 ⟨fun z hz => ?_, h⟩
      rcases List.mem_cons.1 hz with rfl | hz
      · omega
      · have := h1 z hz; omega
theorem filter_insS {p : α → Bool} {x : α} (hx : p x = false) (l : List α) : (insS no x l).filter p = l.filter p := by
  unfold insS
  conv => rhs; rw [← List.takeWhile_append_dropWhile (p := fun y => decide (no y < no x)) (l := l)]
  rw [List.filter_append, List.filter_append, List.filter_cons, hx]; simp
theorem srt_ext : ∀ {a b : List α}, Srt no a → Srt no b → (∀ x, x ∈ a ↔ x ∈ b) → a = b
  | [], [], _, _, _ => rfl
  | [], y :: b, _, _, h => by have := (h y).2 List.mem_cons_self; simp at this
  | x :: a, [], _, _, h => by have := (h x).1 List.mem_cons_self; simp at this
  | x :: a, y :: b, ha, hb, h => by
    obtain ⟨a1, a2⟩ := srt_cons.1 ha
    obtain ⟨b1, b2⟩ := srt_cons.1 hb
    have hxy : x = y := by
      rcases List.mem_cons.1 ((h x).1 List.mem_cons_self) with e | e
      · exact e
      · rcases List.mem_cons.1 ((h y).2 List.mem_cons_self) with e' | e'
        · exact e'.symm
        · have := b1 x e; have := a1 y e'; omega
    subst hxy
    rw [srt_ext a2 b2 fun z => ?_]
    constructor
    · intro hz
      rcases List.mem_cons.1 ((h z).1 (List.mem_cons_of_mem _ hz)) with e | e
      · subst e; have := a1 z hz; omega
      · exact e
    · intro hz
      rcases List.mem_cons.1 ((h z).2 (List.mem_cons_of_mem _ hz)) with e | e
      · subst e; have := b1 z hz; omega
      · exact e
theorem Srt.filter {l : List α} (h : Srt no l) (p : α → Bool) : Srt no (l.filter p) := h.sublist List.filter_sublist
theorem Srt.inj {l : List α} : Srt no l → ∀ x ∈ l, ∀ y ∈ l, no x = no y → x = y := by
  induction l with
  | nil => intro _ x hx; simp at hx
  | cons a l ih =>
    intro h x hx y hy e
    obtain ⟨h1, h2⟩ := srt_cons.1 h
    rcases List.mem_cons.1 hx with e1 | hx1
    · rcases List.mem_cons.1 hy with e2 | hy1
      · rw [e1, e2]
      · have := h1 y hy1; subst e1; omega
    · rcases List.mem_cons.1 hy with e2 | hy1
      · have := h1 x hx1; subst e2; omega
      · exact ih h2 x hx1 y hy1 e
theorem split_at {m : Int} : ∀ {l : List α}, Srt no l → (l.takeWhile fun y => decide (no y < m)).length ≤ l.length ∧ (∀ i x, l[i]? = some x → i < (l.takeWhile fun y => decide (no y < m)).length → no x < m) ∧
    (∀ i x, l[i]? = some x → (l.takeWhile fun y => decide (no y < m)).length ≤ i → m ≤ no x) ∧
    (l.any fun y => decide (no y = m)) = (match l[(l.takeWhile fun y => decide (no y < m)).length]? with | some x => decide (no x = m) | none => false)
  | [], _ => by simp
  | y :: l, h => by
    obtain ⟨h1, h2⟩ := srt_cons.1 h
    obtain ⟨i1, i2, i3, i4⟩ := split_at (m := m) h2
    by_cases hy : no y < m
    · simp only [List.takeWhile_cons, hy, decide_true, if_true, List.length_cons, List.any_cons, List.getElem?_cons_succ]
      refine ⟨by omega, fun i x hx hi => ?_, fun i x hx hi => ?_, ?_⟩
      · cases i with
        | zero => simp at hx; subst hx; exact hy
        | succ i => exact i2 i x (by simpa using hx) (by omega)
      · cases i with
        | zero => omega
        | succ i => exact i3 i x (by simpa using hx) (by omega)
      · rw [← i4, decide_eq_false (by omega), Bool.false_or]
    · simp only [List.takeWhile_cons, hy, decide_false, List.length_nil, List.any_cons]
      refine ⟨Nat.zero_le _, fun i x _ hi => by simp at hi, fun i x hx _ => ?_, ?_⟩
      · cases i with
        | zero => simp at hx; subst hx; omega
        | succ i => have := h1 x (List.mem_of_getElem? (by simpa using hx)); omega
      · have : (l.any fun y => decide (no y = m)) = false := by
          rw [List.any_eq_false]; intro x hx; have := h1 x hx; simp; omega
        rw [this]; simp
theorem take_while {p : α → Bool} : ∀ (l : List α), l.take (l.takeWhile p).length = l.takeWhile p ∧ l.drop (l.takeWhile p).length = l.dropWhile p
  | [] => by simp
  | x :: l => by
    obtain ⟨h1, h2⟩ := take_while (p := p) l
    simp only [List.takeWhile_cons, List.dropWhile_cons]
    cases p x <;> simp [h1, h2]
def cmpI (a b : Int) : Int := if a < b then -1 else if b < a then 1 else 0
theorem cmpI_neg {a b : Int} : cmpI a b < 0 ↔ a < b := by unfold cmpI; split <;> (try split) <;> omega
theorem cmpI_zero {a b : Int} : cmpI a b = 0 ↔ a = b := by unfold cmpI; split <;> (try split) <;> omega
theorem cmpI_bd (a b : Int) : -1 ≤ cmpI a b ∧ cmpI a b ≤ 1 := by unfold cmpI; split <;> (try split) <;> omega
variable (no at_)
/-- o is the last of the greatest at time t. -/
def isB (f : List α) (t : Int) : Option α → Prop
  | none => ∀ y ∈ f, t < at_ y
  | some z => z ∈ f ∧ at_ z ≤ t ∧ ∀ y ∈ f, at_ y ≤ t → at_ y < at_ z ∨ (at_ y = at_ z ∧ no y ≤ no z)
def pickS (t : Int) (best : Option α) (x : α) : Option α :=
  if at_ x ≤ t then (match best with
    | none => some x
    | some y => if at_ y ≤ at_ x then some x else some y) else best
def bst (f : List α) (t : Int) : Option α := f.foldl (pickS at_ t) none
variable {no at_}
theorem isB_uniq {f : List α} {t : Int} (hi : ∀ x ∈ f, ∀ y ∈ f, no x = no y → x = y) : ∀ {o o' : Option α}, isB no at_ f t o → isB no at_ f t o' → o = o'
  | none, none, _, _ => rfl
  | none, some z, h, h' => by have := h z h'.1; have := h'.2.1; omega
  | some z, none, h, h' => by have := h' z h.1; have := h.2.1; omega
  | some z, some z', h, h' => by
    have h1 := h.2.2 z' h'.1 h'.2.1
    have h2 := h'.2.2 z h.1 h.2.1
    rw [hi z h.1 z' h'.1 (by omega)]
theorem isB_mem {f g : List α} {t : Int} {o : Option α} (h : ∀ x, x ∈ f ↔ x ∈ g) : isB no at_ f t o → isB no at_ g t o := by
  cases o with
  | none => exact fun hb y hy => hb y ((h y).2 hy)
  | some z => exact fun hb => ⟨(h z).1 hb.1, hb.2.1, fun y hy => hb.2.2 y ((h y).2 hy)⟩
theorem pick_isB {pre : List α} {t : Int} {b : Option α} {x : α} (hb : isB no at_ pre t b) (hx : ∀ y ∈ pre, no y < no x) : isB no at_ (pre ++ [x]) t (pickS at_ t b x) := by
  unfold pickS
  split
  · rename_i hle
    cases b with
    | none =>
      refine ⟨by simp, hle, fun y hy hyt => ?_⟩
      rcases List.mem_append.1 hy with hy | hy
      · have := hb y hy; omega
      · simp at hy; subst hy; exact .inr ⟨rfl, Int.le_refl _⟩
    | some z =>
      simp only
      split
      · rename_i hz
        refine ⟨by simp, hle, fun y hy hyt => ?_⟩
        rcases List.mem_append.1 hy with hy | hy
        · have := hb.2.2 y hy hyt
          have := hx y hy
          rcases Int.lt_or_eq_of_le (show at_ y ≤ at_ x by omega) with h | h
          · exact .inl h
          · exact .inr ⟨h, by omega⟩
        · simp at hy; subst hy; exact .inr ⟨rfl, Int.le_refl _⟩
      · rename_i hz
        refine ⟨by simp [hb.1], hb.2.1, fun y hy hyt => ?_⟩
        rcases List.mem_append.1 hy with hy | hy
        · exact hb.2.2 y hy hyt
        · simp at hy; subst hy; exact .inl (by omega)
  · rename_i hgt
    cases b with
    | none =>
      intro y hy
      rcases List.mem_append.1 hy with hy | hy
      · exact hb y hy
      · simp at hy; subst hy; omega
    | some z =>
      refine ⟨by simp [hb.1], hb.2.1, fun y hy hyt => ?_⟩
      rcases List.mem_append.1 hy with hy | hy
      · exact hb.2.2 y hy hyt
      · simp at hy; subst hy; omega
theorem fold_isB {t : Int} : ∀ (post pre : List α) (b : Option α), isB no at_ pre t b → Srt no (pre ++ post) → isB no at_ (pre ++ post) t (post.foldl (pickS at_ t) b)
  | [], pre, b, hb, _ => by simpa using hb
  | x :: post, pre, b, hb, hs => by
    have h1 : Srt no ((pre ++ [x]) ++ post) := by simpa using hs
    have := fold_isB post (pre ++ [x]) _ (pick_isB hb fun y hy => (List.pairwise_append.1 hs).2.2 y hy x List.mem_cons_self) h1
    simpa using this
theorem bst_isB {f : List α} (hs : Srt no f) (t : Int) : isB no at_ f t (bst at_ f t) := by
  have := fold_isB (no := no) (at_ := at_) (t := t) f [] none (by intro y hy; simp at hy) (by simpa using hs)
  exact this
theorem bst_eq {f : List α} (hs : Srt no f) {t : Int} {o : Option α} (h : isB no at_ f t o) : bst at_ f t = o := isB_uniq hs.inj (bst_isB hs t) h
theorem bst_mem {f : List α} {t : Int} {z : α} (hs : Srt no f) (h : bst at_ f t = some z) : z ∈ f ∧ at_ z ≤ t := by
  have := bst_isB (at_ := at_) hs t
  rw [h] at this; exact ⟨this.1, this.2.1⟩
theorem bst_snoc (f : List α) (x : α) (t : Int) : bst at_ (f ++ [x]) t = pickS at_ t (bst at_ f t) x := by simp [bst]
end
end Go.Best
