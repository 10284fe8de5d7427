/- Functions that are ranged over: what they give; a range that goes to its end. -/
import Derived.Test.YtgccoipbcbccnaaStep
set_option linter.unusedSimpArgs false
set_option linter.unusedVariables false
set_option linter.unusedSectionVars false
namespace Go.Rn
open Go.RowKit
theorem obj_ext {S : Nat → Prop} {w w' : World} {b : Nat} {o : Obj} (h : w.heap[b]? = some o) (e : ExtB S w w') (hn : ¬ S b) : w'.heap[b]? = some o := by rw [e.block b (lt_of_get h) hn]; exact h
/-- f, called with a yield that goes on, hands it xs in this order; it reads no block outside F. -/
def Gives (P : Program) (f : Value) (xs : List (List Value)) (w0 : World) (F : Nat → Prop) : Prop :=
  ∀ (S : Nat → Prop) (J : Nat → World → Prop) (y : Value) (w : World), (∀ k, F k → ¬ S k) → J 0 w → (∀ i w1, J i w1 → ExtB S w0 w1) → (∀ i w1 w2, J i w1 → Ext w1 w2 → J i w2) →
    (∀ i x w1, xs[i]? = some x → J i w1 → FnV P y x w1 (fun r w2 => r = .bool true ∧ J (i + 1) w2) fun _ _ => False) → FnV P f [y] w (fun _ w' => J xs.length w') fun _ _ => False
theorem Gives.up {P : Program} {f : Value} {xs : List (List Value)} {w0 w1 : World} {F : Nat → Prop} (h : Gives P f xs w0 F) (e : Ext w0 w1) : Gives P f xs w1 F :=
  fun S J y w hS h0 hJ => h S J y w hS h0 fun i u hu => (ExtB.of_ext e).trans (hJ i u hu)
structure LoopAt (w : World) (L D : Nat) (lp : Loop) : Prop where
  l : w.heap[L]? = some (.loop lp)
  d : w.heap[D]? = some (.deferred (some []))
theorem LoopAt.ext {S : Nat → Prop} {w w' : World} {L D : Nat} {lp : Loop} (h : LoopAt w L D lp) (e : ExtB S w w') (h1 : ¬ S L) (h2 : ¬ S D) : LoopAt w' L D lp := ⟨obj_ext h.l e h1, obj_ext h.d e h2⟩
theorem LoopAt.up {w w' : World} {L D : Nat} {lp : Loop} (h : LoopAt w L D lp) (e : Ext w w') : LoopAt w' L D lp := h.ext e id id
/-- A round that ends at its end. -/
def RoundJ (L D : Nat) (lp : Loop) (K : World → Prop) : Out → Act → World → Prop
  | .fall, _, w => K w ∧ LoopAt w L D { lp with state := .busy }
  | _, _, _ => False
section
variable {P : Program} {c : Ctx} {k : List Item} {Q : Out → Act → World → Prop} {w : World} {n : Nat} {ds : List Deferred} {env : Env}
theorem RunE.beginR {fn : FuncId} {kind : CallKind} {L D : Nat} {lp : Loop} (hl : LoopAt w L D lp) (hs : lp.state = .ready) (hn : L ≠ D)
    (h : ∀ w', ExtB (· = L) w w' → LoopAt w' L D { lp with state := .busy } → RunE P ⟨fn, kind, some L⟩ n ds k Q env w') : RunE P ⟨fn, kind, some L⟩ n ds (.beginRound :: k) Q env w :=
  .beginRound hl.l hs fun w' t => h w' t.ext ⟨t.at_, obj_ext hl.d t.ext (fun e => hn e.symm)⟩
theorem RunE.endR {L D : Nat} {lp : Loop} {K : World → Prop} (hK : K w) (hl : LoopAt w L D { lp with state := .busy }) : RunE P c n ds [] (RoundJ L D lp K) env w := .nil fun _ _ => ⟨hK, hl⟩
theorem RunE.rangeGives {f : Operand} {params : Array Tmp} {assign body : Code} {fv : Value} {xs : List (List Value)} {w0 : World} {F : Nat → Prop} (hc : c.round = none) (hfn : ∃ g, P.funcs[c.fn]? = some g)
    (hf : evO env f = some fv) (hG : Gives P fv xs w0 F) (S0 : Nat → Prop) (hF : ∀ k, F k → ¬ S0 k ∧ k < w.heap.size) (hX : ExtB S0 w0 w)
    (hlen : ∀ x ∈ xs, x.length = params.toList.length) (hp : params.toList.all (Nat.blt · n) = true) (J : Nat → World → Prop)
    (h0 : ∀ w2, Ext w w2 → w2.heap.size = w.heap.size + 2 → J 0 w2) (hJS : ∀ i w1, J i w1 → ExtB S0 w w1)
    (hJup : ∀ i w1 w2, J i w1 → ExtB (fun k => k = w.heap.size ∨ k = w.heap.size + 1) w1 w2 → J i w2)
    (hb : ∀ i x w1 lp, xs[i]? = some x → J i w1 → LoopAt w1 (w.heap.size + 1) w.heap.size lp → lp.state = .ready →
      RunE P ⟨c.fn, .normal, some (w.heap.size + 1)⟩ n [] [.code assign, .beginRound, .code body] (RoundJ (w.heap.size + 1) w.heap.size lp (J (i + 1))) (parEnv params.toList x env) w1)
    (h : ∀ w', J xs.length w' → w'.heap[w.heap.size]? = some (.deferred (some [])) → RunE P c n (markOf w.heap.size :: ds) k Q env w') :
    RunE P c n ds (.code (.rangeFunc f params assign body) :: k) Q env w := by
  refine RunE.rangeFunc hc hf fun a D L w1 w2 lp hst h1 h2 hlp => ?_
  obtain rfl : D = w.heap.size := h1.eq
  have e2 := h2.eq
  rw [h1.size] at e2
  subst e2
  have hX2 : Ext w w2 := h1.ext.trans h2.ext
  have hL2 : LoopAt w2 (w.heap.size + 1) w.heap.size lp := ⟨h2.at_, obj_ext h1.at_ h2.ext id⟩
  have hsz : w2.heap.size = w.heap.size + 2 := h2.size
  refine FnV.mono (hG (fun k => S0 k ∨ w.heap.size ≤ k) (fun i w' => J i w' ∧ LoopAt w' (w.heap.size + 1) w.heap.size lp) (yieldV (w.heap.size + 1)) w2 ?_ ⟨h0 w2 hX2 hsz, hL2⟩ ?_ ?_ ?_) ?_ (fun _ _ h => h)
  · intro k hk hs
    have := hF k hk
    rcases hs with hs | hs
    · exact this.1 hs
    · omega
  · rintro i w' ⟨hj, -⟩
    exact (hX.trans (hJS i w' hj)).mono fun k _ h => .inl h
  · rintro i u u' ⟨hj, hl⟩ e
    exact ⟨hJup i u u' hj (ExtB.of_ext e), hl.up e⟩
  · rintro i x u hx ⟨hj, hl⟩
    refine Yield.run (env := env) hl.l hfn hst (params := params.toList) (assign := assign) (body := body) (by simpa using hlp) (hlen x (List.mem_of_getElem? hx)) hp rfl ?_
    intro a' ha' cs
    obtain ⟨o, a1, u1, hq, hfin⟩ := hb i x u lp hx hj hl hlp.state a' ha' cs
    refine ⟨o, a1, u1, ?_, hfin⟩
    cases o with
    | fall =>
      obtain ⟨hK, hl1⟩ := hq
      refine ⟨_, hl1.l, fun u2 t2 => ⟨rfl, hJup _ _ _ hK (t2.ext.mono fun k _ h => .inr h), ?_, obj_ext hl1.d t2.ext (by omega)⟩⟩
      have := t2.at_
      rwa [show ({ ({ lp with state := .busy } : Loop) with state := .ready, pending := none } : Loop) = lp from hlp.back] at this
    | ret => exact hq.elim
    | exit id => exact hq.elim
    | panic ch => exact hq.elim
  · rintro _ w3 ⟨hj, hl⟩
    refine ⟨lp, hl.l, by rw [hlp.state]; rfl, fun w4 t4 => ?_⟩
    rw [hlp.pending]
    refine RunE.at_ hst (h w4 (hJup _ _ _ hj (t4.ext.mono fun k _ h => .inr h)) (obj_ext hl.d t4.ext (by omega)))
end
/-- The elements that are chosen. -/
theorem filter_take {α : Type} (p : α → Bool) {l : List α} {i : Nat} {x : α} (hx : l[i]? = some x) :
    (l.take (i + 1)).filter p = (l.take i).filter p ++ (if p x then [x] else []) ∧ (p x = true → (l.filter p)[((l.take i).filter p).length]? = some x) := by
  have e1 : l.take (i + 1) = l.take i ++ [x] := by rw [List.take_add_one, hx]; rfl
  have e2 : l = l.take i ++ x :: l.drop (i + 1) := by
    obtain ⟨hi, e⟩ := List.getElem?_eq_some_iff.1 hx
    rw [← e, List.getElem_cons_drop, List.take_append_drop]
  refine ⟨by rw [e1, List.filter_append]; congr 1; cases h : p x <;> simp [h], fun hp => ?_⟩
  have e3 : l.filter p = (l.take i).filter p ++ x :: (l.drop (i + 1)).filter p := by
    conv => lhs; rw [e2]
    rw [List.filter_append, List.filter_cons, if_pos hp]
  rw [e3, List.getElem?_append_right (Nat.le_refl _)]; simp
end Go.Rn
