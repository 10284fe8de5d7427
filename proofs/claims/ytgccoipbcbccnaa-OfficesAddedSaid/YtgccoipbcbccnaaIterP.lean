/- Functions that are ranged over and give what they have in an order of their own (the keys of a map). -/
import Derived.Test.YtgccoipbcbccnaaIter
set_option linter.unusedSimpArgs false
set_option linter.unusedVariables false
set_option linter.unusedSectionVars false
namespace Go.Rn
open Go.RowKit
/-- f, called with a yield that goes on, hands it what it has, in an order that is allowed; it keeps blocks of its own, which yield leaves as they are. -/
def GivesK {β : Type} (P : Program) (f : Value) (ok : List β → Prop) (en : β → List Value) (w0 : World) (F : Nat → Prop) : Prop :=
  ∀ (S : Nat → Prop) (J : (Nat → Prop) → List β → World → Prop) (y : Value) (w : World), (∀ k, F k → ¬ S k) → ExtB S w0 w → (∀ G w1, Ext w w1 → (∀ k, G k → w.heap.size ≤ k ∧ k < w1.heap.size) → J G [] w1) →
    (∀ G ys w1, J G ys w1 → ExtB S w0 w1) → (∀ G ys w1 w2, J G ys w1 → ExtB G w1 w2 → J G ys w2) →
    (∀ G ys x zs w1, ok (ys ++ x :: zs) → J G ys w1 → FnV P y (en x) w1 (fun r w2 => r = .bool true ∧ J G (ys ++ [x]) w2 ∧ ∀ k, G k → w2.heap[k]? = w1.heap[k]?) fun _ _ => False) →
    FnV P f [y] w (fun _ w' => ∃ G ys, ok ys ∧ J G ys w') fun _ _ => False
section
variable {P : Program} {c : Ctx} {k : List Item} {Q : Out → Act → World → Prop} {w : World} {n : Nat} {ds : List Deferred} {env : Env}
theorem RunE.rangeGivesK {β : Type} {f : Operand} {params : Array Tmp} {assign body : Code} {fv : Value} {ok : List β → Prop} {en : β → List Value} {w0 : World} {F : Nat → Prop} (hc : c.round = none) (hfn : ∃ g, P.funcs[c.fn]? = some g)
    (hf : evO env f = some fv) (hG : GivesK P fv ok en w0 F) (S0 : Nat → Prop) (hF : ∀ k, F k → ¬ S0 k ∧ k < w.heap.size) (hX : ExtB S0 w0 w)
    (hlen : ∀ x, (en x).length = params.toList.length) (hp : params.toList.all (Nat.blt · n) = true) (J : (Nat → Prop) → List β → World → Prop)
    (h0 : ∀ G w2, Ext w w2 → (∀ k, G k → w.heap.size + 2 ≤ k ∧ k < w2.heap.size) → J G [] w2) (hJS : ∀ G ys w1, J G ys w1 → ExtB S0 w w1) (hit : ∀ G ys w1, J G ys w1 → ∀ k, G k → w.heap.size + 2 ≤ k)
    (hJup : ∀ G ys w1 w2, J G ys w1 → ExtB (fun k => k = w.heap.size ∨ k = w.heap.size + 1 ∨ G k) w1 w2 → J G ys w2)
    (hb : ∀ G ys x zs w1 lp, ok (ys ++ x :: zs) → J G ys w1 → LoopAt w1 (w.heap.size + 1) w.heap.size lp → lp.state = .ready →
      RunE P ⟨c.fn, .normal, some (w.heap.size + 1)⟩ n [] [.code assign, .beginRound, .code body] (RoundJ (w.heap.size + 1) w.heap.size lp fun w2 => J G (ys ++ [x]) w2 ∧ ∀ k, G k → w2.heap[k]? = w1.heap[k]?) (parEnv params.toList (en x) env) w1)
    (h : ∀ G ys w', ok ys → J G ys w' → w'.heap[w.heap.size]? = some (.deferred (some [])) → RunE P c n (markOf w.heap.size :: ds) k Q env w') :
    RunE P c n ds (.code (.rangeFunc f params assign body) :: k) Q env w := by
  refine RunE.rangeFunc hc hf fun a D L w1 w2 lp hst h1 h2 hlp => ?_
  obtain rfl : D = w.heap.size := h1.eq
  have e2 := h2.eq
  rw [h1.size] at e2
  subst e2
  have hX2 : Ext w w2 := h1.ext.trans h2.ext
  have hL2 : LoopAt w2 (w.heap.size + 1) w.heap.size lp := ⟨h2.at_, obj_ext h1.at_ h2.ext id⟩
  have hsz : w2.heap.size = w.heap.size + 2 := h2.size
  refine FnV.mono (hG (fun k => S0 k ∨ w.heap.size ≤ k) (fun G ys w' => J G ys w' ∧ LoopAt w' (w.heap.size + 1) w.heap.size lp) (yieldV (w.heap.size + 1)) w2 ?_ ?_ ?_ ?_ ?_ ?_) ?_ (fun _ _ h => h)
  · intro k hk hs
    have := hF k hk
    rcases hs with hs | hs
    · exact this.1 hs
    · omega
  · exact (hX.trans (ExtB.of_ext hX2)).mono fun k _ h => .inl h
  · intro G u e hG
    exact ⟨h0 G u (hX2.trans e) (fun k hk => by have := hG k hk; omega), hL2.up e⟩
  · rintro G ys w' ⟨hj, -⟩
    exact (hX.trans (hJS G ys w' hj)).mono fun k _ h => .inl h
  · rintro G ys u u' ⟨hj, hl⟩ e
    have := hit G ys u hj
    exact ⟨hJup G ys u u' hj (e.mono fun k _ h => .inr (.inr h)), hl.ext e (fun h => by have := this _ h; omega) (fun h => by have := this _ h; omega)⟩
  · rintro G ys x zs u hx ⟨hj, hl⟩
    have hit' := hit G ys u hj
    refine Yield.run (env := env) hl.l hfn hst (params := params.toList) (assign := assign) (body := body) (by simpa using hlp) (hlen x) hp rfl ?_
    intro a' ha' cs
    obtain ⟨o, a1, u1, hq, hfin⟩ := hb G ys x zs u lp hx hj hl hlp.state a' ha' cs
    refine ⟨o, a1, u1, ?_, hfin⟩
    cases o with
    | fall =>
      obtain ⟨⟨hK, hKi⟩, hl1⟩ := hq
      refine ⟨_, hl1.l, fun u2 t2 => ⟨rfl, ⟨hJup _ _ _ _ hK (t2.ext.mono fun k _ h => .inr (.inl h)), ?_, obj_ext hl1.d t2.ext (by omega)⟩, ?_⟩⟩
      · have := t2.at_
        rwa [show ({ ({ lp with state := .busy } : Loop) with state := .ready, pending := none } : Loop) = lp from hlp.back] at this
      · intro it hg
        have := hit' it hg
        rw [← hKi it hg]
        rcases Nat.lt_or_ge it u1.heap.size with hlt | hge
        · exact t2.ext.block it hlt (by omega)
        · rw [Array.getElem?_eq_none (by rw [t2.size]; exact hge), Array.getElem?_eq_none hge]
    | ret => exact hq.elim
    | exit id => exact hq.elim
    | panic ch => exact hq.elim
  · rintro _ w3 ⟨G, ys, hys, hj, hl⟩
    refine ⟨lp, hl.l, by rw [hlp.state]; rfl, fun w4 t4 => ?_⟩
    rw [hlp.pending]
    refine RunE.at_ hst (h G ys w4 hys (hJup _ _ _ _ hj (t4.ext.mono fun k _ h => .inr (.inl h))) (obj_ext hl.d t4.ext (by omega)))
end
end Go.Rn
