/- Nonces: what is made and taken at once; more of what the calls give. -/
import Derived.Test.YtamcgoplhnbmcaaDoorN09
import Derived.Test.YtamcgoplhnbmcaaDoorNonH
set_option linter.unusedSimpArgs false
set_option linter.unusedVariables false
set_option linter.unusedSectionVars false
namespace Go.Non
open Go.Rn Go.Sg Go.Dev Go.Rec
def HidN (p : Prop) : Prop := p
theorem upB_one (b : Book) : upB b 1 = [b.next] := by simp [upB]
theorem valid_facts {b : Book} {doc : Int} (hr : rtB b = true) (hn : b.next ≠ 4096) (hd : 0 ≤ doc ∧ doc < 4096) :
    makeE b 1 = 0 ∧ makeB b 1 = bookAt b 1 ∧ makeL b 1 = [pairN b.keeper b.seed b.next] ∧ takeE (bookAt b 1) b.next doc = 0 ∧ takeB (bookAt b 1) b.next doc = ⟨b.keeper, b.seed, b.next + 1, b.left⟩ ∧ rtB (bookAt b 1) = true ∧ 0 ≤ b.next ∧ b.next < 4096 := by
  obtain ⟨h1, h2, h3, -⟩ := rtB_inv hr
  have e1 : makeE b ((1 : Nat) : Int) = 0 := makeE_nil hr (by omega)
  have e2 : rtB (bookAt b 1) = true := rtB_bookAt hr (by omega)
  have e3 : takeE (bookAt b 1) b.next doc = 0 := by
    unfold takeE
    rw [e2, if_pos rfl, if_pos hd, if_pos]
    simp [bookAt, upB_one]
  refine ⟨e1, (make_good e1 rfl).1, ?_, e3, ?_, e2, by omega, by omega⟩
  · rw [show (1 : Int) = ((1 : Nat) : Int) from rfl, (make_good e1 rfl).2, upB_one]; rfl
  · rw [(take_good e3).1]
    simp only [bookAt, upB_one, List.filter_append]
    congr 1
    have : b.left.filter (fun x => decide (x ≠ b.next)) = b.left := by
      rw [List.filter_eq_self]
      intro x hx
      have := h3 x hx
      simp; omega
    rw [this]; simp
end Go.Non
namespace Go.Sg
open Go.Rn Go.Proofs Go.Non Go.Rec Go.RowKit Go.Dev Go.Sha Go.NT Go.Cod
attribute [local irreducible] Go.Rn.RetsX Go.Rn.RunLN Go.Rn.AsyN Go.Rn.RunL Go.Rn.RunE Go.Rn.Asy Go.Rn.OpV Go.Rn.OpE Go.Rn.ExecE
theorem make_own {b b' : Book} {n e : Int} {l : List Pr} (h : makeE b n = e ∧ makeB b n = b' ∧ makeL b n = l) (v : Value) (w : World) (hv : LI' w v b.left) (hl : b.left.length < 9223372036854775808) (hS : Row w 0 0 (vals init8.l)) (hkT : Row w 1 0 (vals kTab)) :
    Rets Tryd.prog 17 [.agg (bkV b v).toArray, .int .i64 n] w fun r w' => (∃ d c lv, r = .tuple #[.agg (bkV b' (.slice d b'.left.length c)).toArray, lv, .int .i64 e] ∧ w'.ownsRow w.heap.size 3 1 (.slice d b'.left.length c) b'.left.length (flat intC b'.left) ∧ LP w' lv l) ∧ Ext w w' := by
  have := nmake_ok b v n w hv hl hS hkT
  rw [h.1, h.2.1, h.2.2] at this
  exact this.mono fun _ _ ⟨⟨u, lv, h1, h2, h3⟩, h4⟩ => by
    obtain ⟨d, c, rfl⟩ := isSl_slice (isSl_own h2)
    exact ⟨⟨d, c, lv, h1, h2, h3⟩, h4⟩
theorem take_own {b b' : Book} {no doc e d0 d1 : Int} (h : takeE b no doc = e) (hB : takeB b no doc = b') (h0 : takeD b no doc 0 = d0) (h1 : takeD b no doc 1 = d1) (v : Value) (w : World) (hv : LI' w v b.left) (hl : b.left.length < 9223372036854775808) (hS : Row w 0 0 (vals init8.l)) (hkT : Row w 1 0 (vals kTab)) :
    Rets Tryd.prog 21 [.agg (bkV b v).toArray, .int .i64 no, .int .i64 doc] w fun r w' => (∃ d c, r = .tuple #[.agg (bkV b' (.slice d b'.left.length c)).toArray, .int .i64 d0, .int .i64 d1, .int .i64 e] ∧ w'.ownsRow w.heap.size 3 1 (.slice d b'.left.length c) b'.left.length (flat intC b'.left)) ∧ Ext w w' := by
  have := ntake_ok b v no doc w hv hl hS hkT
  rw [h, hB, h0, h1] at this
  exact this.mono fun _ _ ⟨⟨u, h1, h2⟩, h4⟩ => by
    obtain ⟨d, c, rfl⟩ := isSl_slice (isSl_own h2)
    exact ⟨⟨d, c, h1, h2⟩, h4⟩
end Go.Sg
