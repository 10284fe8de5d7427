/- Registers: the order of adding; a walk over a history: plain. -/
import Derived.Test.YtgccoipbcbccnaaVerS
set_option linter.unusedSimpArgs false
set_option linter.unusedVariables false
set_option linter.unusedSectionVars false
namespace Go.Ver
open Go.Best
/-! ### Steps -/
/-- What is known on the way through a history: the last step, and the one that counts at t. -/
def atI (f : List Am) (t t0 : Int) (last : Step) (lst : Step) : Prop :=
  (t0 ≤ t → (lst.value, lst.ok) = (last.value, last.ok)) ∧ (t < t0 → V f t = (lst.value, lst.ok))
theorem atI_step {f : List Am} {t t0 : Int} {last lst x : Step} {r : List Step} (h : atI f t t0 last lst) (ho : okH f t0 (last.value, last.ok) (x :: r)) :
    atI f t x.at_ x (if x.at_ ≤ t then x else lst) := by
  obtain ⟨h1, h2, h3, h4, h5⟩ := ho
  obtain ⟨a1, a2⟩ := h
  refine ⟨fun hx => by rw [if_pos hx], fun hx => ?_⟩
  rw [if_neg (by omega)]
  rcases Int.lt_or_le t t0 with hc | hc
  · exact a2 hc
  · rw [h4 t hc hx, a1 hc]
theorem atI_end {f : List Am} {t t0 : Int} {last lst : Step} (h : atI f t t0 last lst) (ho : okH f t0 (last.value, last.ok) []) : V f t = (lst.value, lst.ok) := by
  rcases Int.lt_or_le t t0 with hc | hc
  · exact h.2 hc
  · rw [ho t hc, h.1 hc]
/-! ### Order -/
theorem order_step {l ts x : List Am} {i : Nat} {y : Am} (hc : chkV l = 0) (hp : ts.Perm l) (hle : l.length ≤ 30) (hy : ts[i]? = some y) (hs : SrtV x) (hm : ∀ z, z ∈ x ↔ z ∈ ts.take i) (hl : x.length = i) :
    addEV x y = 0 ∧ SrtV (addLV x y) ∧ (∀ z, z ∈ addLV x y ↔ z ∈ ts.take (i + 1)) ∧ (addLV x y).length = i + 1 := by
  obtain ⟨hsl, hr⟩ := chkV_srt hc
  have hil := (List.getElem?_eq_some_iff.1 hy).1
  have hlen := hp.length_eq
  have hin : ∀ z, z ∈ x → z ∈ l := fun z hz => hp.mem_iff.1 (List.mem_of_mem_take ((hm z).1 hz))
  have hcx : chkV x = 0 := chkV_of (by omega) hs fun z hz => hr z (hin z hz)
  have hne : ∀ z ∈ x, z.no ≠ y.no := by
    intro z hz
    have hpw : ts.Pairwise (fun a b => a.no ≠ b.no) := (hp.pairwise_iff (by intro a b h; exact Ne.symm h)).2 (hsl.imp (by intro a b h; omega))
    obtain ⟨j, hj, e⟩ := List.mem_take_iff_getElem.1 ((hm z).1 hz)
    obtain ⟨hi', e'⟩ := List.getElem?_eq_some_iff.1 hy
    have := List.pairwise_iff_getElem.1 hpw j i (by omega) hi' (by omega)
    rw [e, e'] at this; exact this
  have he : addEV x y = 0 := addEV_ok.2 ⟨hcx, hr y (hp.mem_iff.1 (List.mem_of_getElem? hy)), hne, by omega⟩
  have e2 := (addV_chk he).2
  refine ⟨he, (chkV_srt (addV_chk he).1).1, fun z => ?_, by rw [e2, length_insS]; omega⟩
  rw [e2, mem_insS, hm, List.take_add_one, hy]
  simp [or_comm]
theorem order_end {l ts x : List Am} (hc : chkV l = 0) (hp : ts.Perm l) (hs : SrtV x) (hm : ∀ z, z ∈ x ↔ z ∈ ts) : x = l :=
  srt_ext hs (chkV_srt hc).1 fun z => (hm z).trans hp.mem_iff
/-- Those of one key alone. -/
theorem own_same {l : List Am} (hc : chkV l = 0) (key t time : Int) : chkV (l.filter fun y => decide (y.key = key)) = 0 ∧ fil (l.filter fun y => decide (y.key = key)) key time = fil l key time := by
  obtain ⟨hsl, hr⟩ := chkV_srt hc
  refine ⟨chkV_of (Nat.le_trans (List.length_filter_le _ _) (chkV_ok.1 hc).1) (hsl.filter _) fun x hx => hr x (List.mem_filter.1 hx).1, ?_⟩
  unfold fil
  rw [List.filter_filter]
  refine List.filter_congr fun x _ => ?_
  unfold kn
  rw [Bool.eq_iff_iff]
  simp
  intro h _; exact h
/-- Two places change their elements. -/
theorem swap_perm {α : Type} {ts : List α} {i k : Nat} {a b : α} (hi : ts[i]? = some a) (hk : ts[k]? = some b) : ((ts.set i b).set k a).Perm ts := by
  obtain ⟨h1, e1⟩ := List.getElem?_eq_some_iff.1 hi
  obtain ⟨h2, e2⟩ := List.getElem?_eq_some_iff.1 hk
  have := List.set_set_perm (as := ts) h1 h2
  rwa [e1, e2] at this
end Go.Ver
