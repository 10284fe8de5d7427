/- Maps whose keys are structs of numbers, bools and texts. -/
import Derived.Test.YtgccoipbcbccnaaMapR
import Derived.Test.YtgccoipbcbccnaaFlat
set_option linter.unusedSimpArgs false
set_option linter.unusedVariables false
set_option linter.unusedSectionVars false
namespace Go.Rn
open Go.RowKit
section
variable {P : Program} {w : World} {α : Type} [DecidableEq α] {enc : α → List Value} {kt : TypeId} {ts : List (TypeId × FK)}
def encV' (enc : α → List Value) (a : α) : Value := .agg (enc a).toArray
theorem findAskingF_ok (h : Flat P kt ts) (hf : ∀ a, fits ts (enc a)) (he : ∀ a b, eqAll (enc a) (enc b) = decide (a = b)) (k : α) : ∀ (es : List MapEntry) (m : List (α × Value)) (i : Nat), entsOk (encV' enc) (fun _ => True) es m →
    ∃ r, (Instr.findAsking kt (encV' enc k) es i).run P w = .ok r w ∧ Found (encV' enc) (fun _ => True) k es m i r
  | [], m, i, hm => ⟨none, rfl, found_nil k i hm⟩
  | x :: es, m, i, hm => by
    obtain ⟨j, u, m', -, hkj, hg, hr, h1, h2⟩ := found_cons (k := k) (i := i) trivial hm
    have hq : (Op.equal kt (encV' enc k) (encV' enc j)).run P w = .ok (eqAll (enc k) (enc j)) w := h.run (hf k) (hf j)
    simp only [Instr.findAsking]
    rw [hkj, run_bind _ _ hq, he]
    by_cases hh : k = j
    · rw [decide_eq_true hh]
      exact ⟨some (i, x.val), rfl, h1 hh⟩
    · rw [decide_eq_false hh]
      obtain ⟨r, h3, h4⟩ := findAskingF_ok h hf he k es m' (i + 1) hr
      exact ⟨r, h3, h2 hh r h4⟩
theorem run_checkF (n : Nat) (b : Bool) (cs : List Value) : ∀ (fs : List Field) (ts : List (TypeId × FK)) (k : Nat), fs.map (fun f => ((f.name == "_"), f.type, f.offset)) = (ts.zipIdx k).map (fun x => (false, x.1.1, x.2)) →
    (∀ x ∈ ts, P.underlying x.1 = some x.2.desc ∧ cellsAgg P x.1 = some (1, false) ∧ P.cellsOf x.1 = 1) → (∀ (i : Nat) (x : TypeId × FK), ts[i]? = some x → ∃ u, cs[k + i]? = some u ∧ x.2.ok u) →
    (forIn (m := Sem) fs PUnit.unit fun f _ => if f.name ≠ "_" then do Instr.checkKey b (n + 1) f.type (← part f.type cs.toArray f.offset); pure (ForInStep.yield PUnit.unit) else pure (ForInStep.yield PUnit.unit)).run P w = .ok PUnit.unit w
  | [], _, _, _, _, _ => rfl
  | f :: fs, [], k, h, _, _ => by simp at h
  | f :: fs, x :: ts, k, h, hk, hv => by
    simp only [List.map_cons, List.zipIdx_cons, List.cons.injEq, Prod.mk.injEq] at h
    obtain ⟨⟨n0, t0, o0⟩, hr⟩ := h
    have n0' : f.name ≠ "_" := by simpa using n0
    obtain ⟨u, hu, ku⟩ := hv 0 x rfl
    obtain ⟨hd, hc, -⟩ := hk x List.mem_cons_self
    rw [Nat.add_zero] at hu
    have pu : (part f.type cs.toArray f.offset).run P w = .ok u w := by rw [t0, o0]; exact run_part hc _ _ (by simpa using hu)
    have hchk : (Instr.checkKey b (n + 1) f.type u).run P w = .ok () w := by
      rw [t0]
      unfold Instr.checkKey
      rw [run_bind _ _ (run_underlying hd)]
      obtain ⟨ti, kd⟩ := x
      cases kd <;> rfl
    have ih := run_checkF n b cs fs ts (k + 1) hr (fun y hy => hk y (List.mem_cons_of_mem _ hy)) (fun i y hi => by obtain ⟨u, h1, h3⟩ := hv (i + 1) y hi; exact ⟨u, by rw [← h1]; congr 1; omega, h3⟩)
    rw [List.forIn_cons]
    refine Eq.trans (run_bind (v := ForInStep.yield PUnit.unit) (w' := w) _ _ ?_) ih
    rw [if_pos n0', run_bind _ _ pu, run_bind _ _ hchk]
    rfl
theorem sameBits_flat {x : FK} {u : Value} (n : Nat) (h : x.ok u) : Instr.sameBits (n + 1) u u = true := by
  cases x with
  | int k => obtain ⟨a, rfl⟩ := h; simp [Instr.sameBits]
  | bool => obtain ⟨a, rfl⟩ := h; simp [Instr.sameBits]
  | str =>
    obtain ⟨a, rfl⟩ := h
    simp only [Instr.sameBits]
    obtain ⟨d⟩ := a
    show (d == d) = true
    simp
theorem keyOk_flat (h : Flat P kt ts) (hf : ∀ a, fits ts (enc a)) (he : ∀ a b, eqAll (enc a) (enc b) = decide (a = b)) : KeyOk P kt (encV' enc) fun _ => True where
  find w k es m hk hm := by
    unfold Instr.findKey
    cases es with
    | nil =>
      refine ⟨none, ?_, found_nil k 0 hm⟩
      rw [run_bind _ _ (run_underlying h.und)]; rfl
    | cons x es =>
      obtain ⟨r, h1, h2⟩ := findAskingF_ok (w := w) h hf he k (x :: es) m 0 hm
      refine ⟨r, ?_, h2⟩
      rw [run_bind _ _ (run_underlying h.und)]
      exact h1
  check w k b hk := by
    show (Instr.checkKey b (9999 + 1) kt (.agg (enc k).toArray)).run P w = _
    unfold Instr.checkKey
    rw [run_bind _ _ (run_underlying h.und)]
    simp only
    have := run_checkF (P := P) (w := w) 9998 b (enc k) (P.fieldsOf kt).toList ts 0 h.fields h.kinds (fun i x hi => by obtain ⟨u, h1, h2⟩ := (hf k).2 i x hi; exact ⟨u, by rw [Nat.zero_add]; exact h1, h2⟩)
    rw [← Array.forIn_toList]
    exact run_bind _ _ this |>.trans rfl
  same k _ := by
    show Instr.sameBits (9999 + 1) (.agg (enc k).toArray) (.agg (enc k).toArray) = true
    simp only [Instr.sameBits, beq_self_eq_true, Bool.true_and]
    rw [List.all_eq_true]
    rintro ⟨a, b⟩ hx
    obtain ⟨i, hi⟩ := List.getElem?_of_mem hx
    rw [List.getElem?_zip_eq_some] at hi
    have hab : a = b := Option.some.inj (hi.1.symm.trans hi.2)
    subst hab
    have hi := hi.1
    have hl : i < ts.length := by
      have := (List.getElem?_eq_some_iff.1 hi).1
      have := (hf k).1
      simp at *; omega
    obtain ⟨u, h1, h2⟩ := (hf k).2 i ts[i] (List.getElem?_eq_getElem hl)
    have : u = a := by
      have hi' : (enc k)[i]? = some a := by simpa using hi
      rw [h1] at hi'; exact Option.some.inj hi'
    subst this
    exact sameBits_flat 9998 h2
end
end Go.Rn
