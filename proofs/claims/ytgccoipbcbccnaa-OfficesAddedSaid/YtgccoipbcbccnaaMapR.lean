/- Ranging over a map that the loop does not write. -/
import Derived.Test.YtgccoipbcbccnaaMap
import Derived.Maps.RangeRun
set_option linter.unusedSimpArgs false
set_option linter.unusedVariables false
set_option linter.unusedSectionVars false
namespace Go.Rn
open Go.RowKit
theorem range_filterMap {β : Type} (m : List β) : (List.range m.length).filterMap (fun j => m[j]?) = m := by
  induction m with
  | nil => rfl
  | cons a m ih =>
    rw [List.length_cons, List.range_succ_eq_map, List.filterMap_cons]
    simp only [List.getElem?_cons_zero, List.filterMap_map]
    congr 1
section
variable {α : Type} [DecidableEq α] {kv : α → Value} {good : α → Prop}
/-- Which entries have been handed out, by their places. -/
structure SeenOk (es : Array MapEntry) (seen : Array Nat) (js : List Nat) : Prop where
  nodup : js.Nodup
  lt : ∀ j ∈ js, j < es.size
  mem : ∀ i e, es[i]? = some e → (e.born ∈ seen ↔ i ∈ js)
  back : seen.back? = js.getLast?.bind fun j => es[j]?.map (·.born)
/-- An iterator over a map: what it has handed out. -/
def IterAt (kv : α → Value) (good : α → Prop) (w : World) (it r : Nat) (m ys : List (α × Value)) : Prop :=
  ∃ (es : Array MapEntry) (clock since : Nat) (seen : Array Nat) (js : List Nat), w.heap[it]? = some (.mapIter (some r) since seen clock) ∧ w.heap[r]? = some (.map es clock) ∧
    entsOk kv good es.toList m ∧ bornOk es.toList clock ∧ (∀ e ∈ es.toList, e.born < since) ∧ since ≤ clock ∧ SeenOk es seen js ∧ ys = js.filterMap fun j => m[j]?
theorem entsOk_length {es : List MapEntry} {m : List (α × Value)} (h : entsOk kv good es m) : es.length = m.length := by
  have := congrArg List.length h.1; simpa using this
theorem entsOk_get {es : List MapEntry} {m : List (α × Value)} (h : entsOk kv good es m) {i : Nat} {e : MapEntry} (he : es[i]? = some e) : ∃ x, m[i]? = some x ∧ e.key = kv x.1 ∧ e.val = x.2 ∧ good x.1 := by
  have h1 := congrArg (·[i]?) h.1
  simp only [List.getElem?_map, he, Option.map_some] at h1
  cases hx : m[i]? with
  | none => rw [hx] at h1; simp at h1
  | some x =>
    rw [hx] at h1
    simp only [Option.map_some, Option.some.injEq, Prod.mk.injEq] at h1
    exact ⟨x, rfl, h1.1, h1.2, h.2 x (List.mem_of_getElem? hx)⟩
theorem IterAt.ext {S : Nat → Prop} {w w' : World} {it r : Nat} {m ys : List (α × Value)} (h : IterAt kv good w it r m ys) (e : ExtB S w w') (h1 : ¬ S it) (h2 : ¬ S r) : IterAt kv good w' it r m ys := by
  obtain ⟨es, clock, since, seen, js, a, b, rest⟩ := h
  exact ⟨es, clock, since, seen, js, by rw [e.block it (lt_of_get a) h1]; exact a, by rw [e.block r (lt_of_get b) h2]; exact b, rest⟩
theorem IterAt.up {w w' : World} {it r : Nat} {m ys : List (α × Value)} (h : IterAt kv good w it r m ys) (e : Ext w w') : IterAt kv good w' it r m ys := h.ext e id id
theorem IterAt.map {w : World} {it r : Nat} {m ys : List (α × Value)} (h : IterAt kv good w it r m ys) : MapK kv good w r m := by
  obtain ⟨es, clock, since, seen, js, a, b, c, d, rest⟩ := h
  exact ⟨es, clock, b, c, d⟩
theorem IterAt.lt {w : World} {it r : Nat} {m ys : List (α × Value)} (h : IterAt kv good w it r m ys) : it < w.heap.size := by
  obtain ⟨es, clock, since, seen, js, a, rest⟩ := h; exact lt_of_get a
theorem MapK.up {w w' : World} {r : Nat} {m : List (α × Value)} (h : MapK kv good w r m) (e : Ext w w') : MapK kv good w' r m := h.ext e id
theorem MapK.other {w w' : World} {r B : Nat} {m : List (α × Value)} (h : MapK kv good w r m) (e : ExtB (· = B) w w') (hn : r ≠ B) : MapK kv good w' r m := h.ext e hn
theorem IterAt.other {w w' : World} {it r B : Nat} {m ys : List (α × Value)} (h : IterAt kv good w it r m ys) (e : ExtB (· = B) w w') (h1 : it ≠ B) (h2 : r ≠ B) : IterAt kv good w' it r m ys := h.ext e h1 h2
theorem perm_rest (js : List Nat) (n : Nat) (h1 : js.Nodup) (h2 : ∀ j ∈ js, j < n) : (js ++ (List.range n).filter fun j => decide (j ∉ js)).Perm (List.range n) := by
  rw [List.perm_iff_count]
  intro a
  rw [List.count_append]
  have hr : (List.range n).count a = if a < n then 1 else 0 := by
    by_cases h : a < n
    · rw [if_pos h]; exact by rw [List.Nodup.count List.nodup_range, if_pos (List.mem_range.2 h)]
    · rw [if_neg h]; exact List.count_eq_zero.2 (by simpa using h)
  by_cases hj : a ∈ js
  · have e1 : js.count a = 1 := by rw [h1.count, if_pos hj]
    have e2 : ((List.range n).filter fun j => decide (j ∉ js)).count a = 0 := List.count_eq_zero.2 (by simp [hj])
    rw [e1, e2, hr, if_pos (h2 a hj)]
  · have e1 : js.count a = 0 := List.count_eq_zero.2 hj
    have e2 : ((List.range n).filter fun j => decide (j ∉ js)).count a = (List.range n).count a := List.count_filter (by simpa using hj)
    rw [e1, e2, Nat.zero_add]
theorem IterAt.sub {w : World} {it r : Nat} {m ys : List (α × Value)} (h : IterAt kv good w it r m ys) : ∃ zs, (ys ++ zs).Perm m := by
  obtain ⟨es, clock, since, seen, js, -, -, hok, -, -, -, hs, rfl⟩ := h
  have hn : es.size = m.length := by have := entsOk_length hok; simpa using this
  refine ⟨((List.range m.length).filter fun j => decide (j ∉ js)).filterMap fun j => m[j]?, ?_⟩
  rw [← List.filterMap_append]
  have := (perm_rest js m.length hs.nodup (by rw [← hn]; exact hs.lt)).filterMap fun j => m[j]?
  rwa [range_filterMap] at this
variable {P : Program} {w : World} {env : Env} {dst : Option Tmp} {ty : TypeId} {pos : String} {after : Array Edge} {guard : Option (Nat × Bool)}
theorem OpE.rangeMap {t kt et : TypeId} {x : Operand} {r : Nat} {m : List (α × Value)} (ht : P.underlying t = some (.map kt et)) (hx : evO env x = some (.map (some r))) (hm : MapK kv good w r m) :
    OpE P env w ⟨dst, .range t x, ty, pos, after, guard⟩ (fun v w' => ∃ it, v = .pointer (some ⟨it, 0, none⟩) ∧ it = w.heap.size ∧ w'.heap.size = w.heap.size + 1 ∧ Ext w w' ∧ IterAt kv good w' it r m []) fun _ _ => False := by
  obtain ⟨es, clock, h1, h2, h3⟩ := hm
  have ha := added_push w (.mapIter (some r) clock #[] clock)
  refine .of_run (w' := { w with heap := w.heap.push (.mapIter (some r) clock #[] clock) }) (v := .pointer (some ⟨w.heap.size, 0, none⟩)) ⟨w.heap.size, rfl, rfl, ha.size, ha.ext, ?_⟩ fun ρ hρ => ⟨_, by simp only [execOp, hρ _ _ hx] <;> rfl, ?_⟩
  · refine ⟨es, clock, clock, #[], [], ha.at_, ?_, h2, h3, h3.2, Nat.le_refl _, ⟨List.nodup_nil, by simp, by simp, by simp⟩, rfl⟩
    rw [ha.ext.block r (lt_of_get h1) id]; exact h1
  · exact run_range_map w t kt et r es clock ht h1
theorem ext_setBlock {w : World} {b : Nat} {o : Obj} (hb : b < w.heap.size) : Turned w (Go.ChangeMaps.setBlock w b o) b o := turned_set w hb o
theorem OpE.nextMap {x : Operand} {it r : Nat} {m ys : List (α × Value)} (hx : evO env x = some (.pointer (some ⟨it, 0, none⟩))) (hi : IterAt kv good w it r m ys) :
    OpE P env w ⟨dst, .next x false, ty, pos, after, guard⟩ (fun v w' => (v = .tuple #[.bool false] ∧ w' = w ∧ ys.Perm m) ∨
      ∃ y, v = .tuple #[.bool true, kv y.1, y.2] ∧ good y.1 ∧ IterAt kv good w' it r m (ys ++ [y]) ∧ ExtB (· = it) w w' ∧ w'.heap.size = w.heap.size) fun _ _ => False := by
  obtain ⟨es, clock, since, seen, js, a, b, c, d, ho, hcl, hs, rfl⟩ := hi
  have hn : es.size = m.length := by have := entsOk_length c; simpa using this
  have hir : it ≠ r := by intro e; subst e; rw [a] at b; simp at b
  rcases run_next_at (P := P) w ty it r since clock seen es clock a b ho hcl with ⟨h0, hrun⟩ | ⟨e, he, w1, hw1, hrun⟩
  · refine .of_run (w' := w) (v := .tuple #[.bool false]) (.inl ⟨rfl, rfl, ?_⟩) fun ρ hρ => ⟨_, by simp only [execOp, hρ _ _ hx] <;> rfl, hrun⟩
    have hall : ∀ i, i < es.size → i ∈ js := by
      intro i hi
      refine (hs.mem i es[i] (Array.getElem?_eq_getElem hi)).1 ?_
      have hl : leftOf es seen = #[] := Array.eq_empty_of_size_eq_zero h0
      unfold leftOf at hl
      rw [Array.filter_eq_empty_iff] at hl
      have := hl es[i] (Array.getElem_mem hi)
      simpa using this
    have hp := perm_rest js m.length hs.nodup (by rw [← hn]; exact hs.lt)
    have hz : ((List.range m.length).filter fun j => decide (j ∉ js)) = [] := by
      rw [List.filter_eq_nil_iff]
      intro j hj
      have := hall j (by rw [hn]; exact List.mem_range.1 hj)
      simpa using this
    rw [hz, List.append_nil] at hp
    have := hp.filterMap fun j => m[j]?
    rwa [range_filterMap] at this
  · unfold leftOf at he
    rw [Array.mem_toList_iff, Array.mem_filter] at he
    obtain ⟨he1, he2⟩ := he
    have he2 : e.born ∉ seen := by simpa using he2
    obtain ⟨i, hi, hie⟩ := Array.getElem_of_mem he1
    have hge : es[i]? = some e := by rw [Array.getElem?_eq_getElem hi, hie]
    have hij : i ∉ js := fun h => he2 ((hs.mem i e hge).2 h)
    obtain ⟨y, hy, hk, hv, hgd⟩ := entsOk_get c (i := i) (e := e) (by rw [Array.getElem?_toList]; exact hge)
    have hw1s : w1.heap = w.heap := by rcases hw1 with rfl | rfl <;> rfl
    have X1 : Ext w w1 := by
      rcases hw1 with rfl | rfl
      · exact ExtB.refl _ _
      · exact ⟨Nat.le_succ _, rfl, rfl, rfl, Nat.le_refl _, fun _ _ _ => rfl⟩
    have hT := ext_setBlock (w := w1) (b := it) (o := .mapIter (some r) since (seen.push e.born) clock) (by rw [hw1s]; exact lt_of_get a)
    rw [hk, hv] at hrun
    refine .of_run (w' := _) (v := _) (.inr ⟨y, rfl, hgd, ⟨es, clock, since, seen.push e.born, js ++ [i], hT.at_, ?_, c, d, ho, hcl, ⟨?_, ?_, ?_, ?_⟩, ?_⟩, ?_, ?_⟩) fun ρ hρ => ⟨_, by simp only [execOp, hρ _ _ hx] <;> rfl, hrun⟩
    · rw [hT.ext.block r (by rw [hw1s]; exact lt_of_get b) (fun h => hir h.symm), hw1s]; exact b
    · rw [List.nodup_append]
      refine ⟨hs.nodup, by simp, fun u hu v hv e => ?_⟩
      simp only [List.mem_singleton] at hv
      subst hv; subst e; exact hij hu
    · intro j hj
      rcases List.mem_append.1 hj with hj | hj
      · exact hs.lt j hj
      · simp only [List.mem_singleton] at hj; subst hj; exact hi
    · intro j f hf
      rw [Array.mem_push, List.mem_append, List.mem_singleton, hs.mem j f hf]
      refine or_congr Iff.rfl ⟨fun hb => ?_, fun hb => ?_⟩
      · have hnd := List.pairwise_iff_getElem.1 d.1
        have hjl : j < es.size := (Array.getElem?_eq_some_iff.1 hf).1
        have ej : es[j] = f := (Array.getElem?_eq_some_iff.1 hf).2
        rcases Nat.lt_trichotomy j i with h | h | h
        · have := hnd j i (by simpa using hjl) (by simpa using hi) h
          simp only [List.getElem_map, Array.getElem_toList, ej, hie] at this
          exact absurd hb this
        · exact h
        · have := hnd i j (by simpa using hi) (by simpa using hjl) h
          simp only [List.getElem_map, Array.getElem_toList, ej, hie] at this
          exact absurd hb.symm this
      · subst hb; rw [hge] at hf; cases hf; rfl
    · rw [Array.back?_push]; simp [hge]
    · rw [List.filterMap_append]; simp [hy]
    · exact (ExtB.of_ext X1).trans hT.ext
    · rw [hT.size, hw1s]
theorem OpV.entryMap {x : Operand} {it r : Nat} {m ys : List (α × Value)} {y : α × Value} (hx : evO env x = some (.pointer (some ⟨it, 0, none⟩))) (hi : IterAt kv good w it r m (ys ++ [y])) :
    OpV P env w ⟨dst, .entry x, ty, pos, after, guard⟩ (.tuple #[kv y.1, y.2]) := .of_run fun ρ hρ => by
  refine ⟨_, by simp only [execOp, hρ _ _ hx] <;> rfl, ?_⟩
  obtain ⟨es, clock, since, seen, js, a, b, c, d, ho, hcl, hs, hys⟩ := hi
  have hn : es.size = m.length := by have := entsOk_length c; simpa using this
  -- the last place
  rcases List.eq_nil_or_concat js with rfl | ⟨js', i, rfl⟩
  · simp at hys
  have hil : i < es.size := hs.lt i (by simp)
  have hmi : i < m.length := by omega
  rw [List.concat_eq_append, List.filterMap_append] at hys
  have e1 : [i].filterMap (fun j => m[j]?) = [m[i]] := by simp [hmi]
  rw [e1] at hys
  have hy : y = m[i] := by
    have := List.append_inj_right' hys (by rfl)
    simpa using this
  obtain ⟨z, hz, hk, hv, -⟩ := entsOk_get c (i := i) (e := es[i]) (by rw [Array.getElem?_toList]; exact Array.getElem?_eq_getElem hil)
  have hzy : z = y := by rw [hy]; rw [List.getElem?_eq_getElem hmi] at hz; exact (Option.some.inj hz).symm
  subst hzy
  have hb2 : seen.back? = some es[i].born := by
    rw [hs.back, List.concat_eq_append]; simp [hil]
  obtain ⟨seen', hpush⟩ : ∃ s' : Array Nat, seen = s'.push es[i].born := by
    rw [Array.back?_eq_some_iff] at hb2
    obtain ⟨ys', hys'⟩ := hb2
    exact ⟨ys', hys'⟩
  rw [hpush] at a
  have hs0 := run_entry_at (P := P) w it r since seen' es clock es[i] a b (by simp) d.1
  rw [hk, hv] at hs0
  exact hs0
end
end Go.Rn
