/- Parts of this project that the claims share: Sha4, Sha5, Sha6, GroupC, GroupFacts, Sign1. -/
import Derived.Test.YtamcgoplhnbmcaaDoorY07
import Derived.Test.YtamcgoplhnbmcaaDoorY04
set_option linter.unusedSimpArgs false
set_option linter.unusedVariables false
set_option linter.unusedSectionVars false
section
/- The program's tagged digest and the group's hash. -/
namespace Go.Sg
open Go.Rn Go.Sha Go.Proofs
attribute [local irreducible] Go.Rn.RunL Go.Rn.RunE Go.Rn.Asy Go.Rn.OpV Go.Rn.OpE Go.Rn.ExecE

theorem grow_ok (n : Nat) (w : World) (h : n ≤ 1000000) : Rets Tryd.prog 125 [.slice none 0 0, .int .i64 (n : Int)] w fun v w' => w'.ownsRow w.heap.size 5 1 v 0 [] ∧ Ext w w' := by
  refine RetsX.of (nt := 27) Tryd.func125 (by kernel_rfl) rfl rfl (by simp) (by simp only [argEnv]; rfl) ?_
  repeat (first | refine RunL.pureI Tryd.tOk rfl rfl rfl (by (first | exact wr_i64 (by omega) (by omega) | exact wm_i64 (by omega) | exact wq_i64 (by omega) (by omega) (by omega) | rfl)) ?_ | refine RunL.pure Tryd.tOk rfl rfl rfl ?_ | refine RunL.unwantedD rfl rfl ?_ | refine RunE.seq ?_ | refine RunE.region ?_ | refine RunL.nil ?_ | refine RunE.block ?_ | refine RunE.inBlock ?_ | refine RunE.skip ?_ | refine RunE.exit rfl ?_ | refine RunE.scope ?_ | refine RunE.inScope ?_ | refine RunE.label ?_)
  refine RunE.condF rfl (decide_eq_false (by omega)) ?_
  repeat (first | refine RunL.pureI Tryd.tOk rfl rfl rfl (by (first | exact wr_i64 (by omega) (by omega) | exact wm_i64 (by omega) | exact wq_i64 (by omega) (by omega) (by omega) | rfl)) ?_ | refine RunL.pure Tryd.tOk rfl rfl rfl ?_ | refine RunL.unwantedD rfl rfl ?_ | refine RunE.seq ?_ | refine RunE.region ?_ | refine RunL.nil ?_ | refine RunE.block ?_ | refine RunE.inBlock ?_ | refine RunE.skip ?_ | refine RunE.exit rfl ?_ | refine RunE.scope ?_ | refine RunE.inScope ?_ | refine RunE.label ?_)
  refine RunL.val rfl rfl rfl (OpV.cap Tryd.tOk rfl rfl) ?_
  repeat (first | refine RunL.pureI Tryd.tOk rfl rfl rfl (by (first | exact wr_i64 (by omega) (by omega) | exact wm_i64 (by omega) | exact wq_i64 (by omega) (by omega) (by omega) | rfl)) ?_ | refine RunL.pure Tryd.tOk rfl rfl rfl ?_ | refine RunL.unwantedD rfl rfl ?_ | refine RunE.seq ?_ | refine RunE.region ?_ | refine RunL.nil ?_ | refine RunE.block ?_ | refine RunE.inBlock ?_ | refine RunE.skip ?_ | refine RunE.exit rfl ?_ | refine RunE.scope ?_ | refine RunE.inScope ?_ | refine RunE.label ?_)
  refine RunE.cond rfl (fun hn => ?_) (fun hn => ?_) <;> (first | replace hn := of_decide_eq_true hn | replace hn := of_decide_eq_false hn | replace hn := beq_iff_eq.1 hn | replace hn := beq_eq_false_iff_ne.1 hn | replace hn := bne_iff_ne.1 hn | replace hn := bne_eq_false_iff_eq.1 hn | skip)
  · repeat (first | refine RunL.pureI Tryd.tOk rfl rfl rfl (by (first | exact wr_i64 (by omega) (by omega) | exact wm_i64 (by omega) | exact wq_i64 (by omega) (by omega) (by omega) | rfl)) ?_ | refine RunL.pure Tryd.tOk rfl rfl rfl ?_ | refine RunL.unwantedD rfl rfl ?_ | refine RunE.seq ?_ | refine RunE.region ?_ | refine RunL.nil ?_ | refine RunE.block ?_ | refine RunE.inBlock ?_ | refine RunE.skip ?_ | refine RunE.exit rfl ?_ | refine RunE.scope ?_ | refine RunE.inScope ?_ | refine RunE.label ?_)
    refine RunL.val rfl rfl rfl (OpV.cap Tryd.tOk rfl rfl) ?_
    refine RunL.val rfl rfl rfl (OpV.sliceNil Tryd.tOk rfl rfl .none (.some rfl rfl)) ?_
    repeat (first | refine RunL.pureI Tryd.tOk rfl rfl rfl (by (first | exact wr_i64 (by omega) (by omega) | exact wm_i64 (by omega) | exact wq_i64 (by omega) (by omega) (by omega) | rfl)) ?_ | refine RunL.pure Tryd.tOk rfl rfl rfl ?_ | refine RunL.unwantedD rfl rfl ?_ | refine RunE.seq ?_ | refine RunE.region ?_ | refine RunL.nil ?_ | refine RunE.block ?_ | refine RunE.inBlock ?_ | refine RunE.skip ?_ | refine RunE.exit rfl ?_ | refine RunE.scope ?_ | refine RunE.inScope ?_ | refine RunE.label ?_)
    refine RunL.ex rfl rfl rfl (OpE.growNil (m := n) Tryd.tOk rfl rfl rfl rfl rfl rfl rfl (by simp) (by omega) (by show n * 1 ≤ _; omega) (by omega)) ?_
    rintro _ w1 ⟨B, cap, rfl, hc, hcm, hB, X1, cur, hcur, hsz⟩
    repeat (first | refine RunL.pureI Tryd.tOk rfl rfl rfl (by (first | exact wr_i64 (by omega) (by omega) | exact wm_i64 (by omega) | exact wq_i64 (by omega) (by omega) (by omega) | rfl)) ?_ | refine RunL.pure Tryd.tOk rfl rfl rfl ?_ | refine RunL.unwantedD rfl rfl ?_ | refine RunE.seq ?_ | refine RunE.region ?_ | refine RunL.nil ?_ | refine RunE.block ?_ | refine RunE.inBlock ?_ | refine RunE.skip ?_ | refine RunE.exit rfl ?_ | refine RunE.scope ?_ | refine RunE.inScope ?_ | refine RunE.label ?_)
    refine RunL.val rfl rfl rfl (OpV.slice0 (hi := 0) Tryd.tOk rfl rfl .none (.some rfl rfl) (by omega)) ?_
    repeat (first | refine RunL.pureI Tryd.tOk rfl rfl rfl (by (first | exact wr_i64 (by omega) (by omega) | exact wm_i64 (by omega) | exact wq_i64 (by omega) (by omega) (by omega) | rfl)) ?_ | refine RunL.pure Tryd.tOk rfl rfl rfl ?_ | refine RunL.unwantedD rfl rfl ?_ | refine RunE.seq ?_ | refine RunE.region ?_ | refine RunL.nil ?_ | refine RunE.block ?_ | refine RunE.inBlock ?_ | refine RunE.skip ?_ | refine RunE.exit rfl ?_ | refine RunE.scope ?_ | refine RunE.inScope ?_ | refine RunE.label ?_)
    refine RunE.retFn Tryd.func125 (.tmp rfl .nil) ⟨⟨by simp, .inr ⟨B, cap, cur, rfl, by omega, hcur, by omega, hcm, hsz, by simp⟩⟩, X1⟩
  · repeat (first | refine RunL.pureI Tryd.tOk rfl rfl rfl (by (first | exact wr_i64 (by omega) (by omega) | exact wm_i64 (by omega) | exact wq_i64 (by omega) (by omega) (by omega) | rfl)) ?_ | refine RunL.pure Tryd.tOk rfl rfl rfl ?_ | refine RunL.unwantedD rfl rfl ?_ | refine RunE.seq ?_ | refine RunE.region ?_ | refine RunL.nil ?_ | refine RunE.block ?_ | refine RunE.inBlock ?_ | refine RunE.skip ?_ | refine RunE.exit rfl ?_ | refine RunE.scope ?_ | refine RunE.inScope ?_ | refine RunE.label ?_)
    exact RunE.retFn Tryd.func125 (.tmp rfl .nil) ⟨World.ownsRow_nil _ _ _ _, .refl _ _⟩

def flatB (xs : List (Value × List UInt8)) (j : Nat) : List UInt8 := (xs.take j).flatMap (·.2)
theorem flatB_succ {xs : List (Value × List UInt8)} {j : Nat} {x : Value × List UInt8} (h : xs[j]? = some x) : flatB xs (j + 1) = flatB xs j ++ x.2 := by
  unfold flatB; rw [List.take_add_one, h, List.flatMap_append]; simp
theorem flatB_le (xs : List (Value × List UInt8)) (j : Nat) : (flatB xs j).length ≤ (xs.flatMap (·.2)).length := by
  unfold flatB
  conv => rhs; rw [← List.take_append_drop j xs]
  rw [List.flatMap_append, List.length_append]; omega

theorem concatB_ok (xs : List (Value × List UInt8)) (B o cap : Nat) (w : World) (hr : Row w B o (xs.map (·.1))) (hx : ∀ (j : Nat) x, xs[j]? = some x → IsSl w 1 x.1 x.2.length (bytesV x.2)) (hn : xs.length ≤ 1000) (h : (xs.flatMap (·.2)).length ≤ 1000000) :
    Rets Tryd.prog 111 [.slice (some ⟨B, o, none⟩) xs.length cap] w fun v w' =>
      w'.ownsRow w.heap.size 5 1 v (xs.flatMap (·.2)).length (bytesV (xs.flatMap (·.2))) ∧ Ext w w' := by
  have hF := flatB_le xs
  have hcell : ∀ {j : Nat} {x : Value × List UInt8}, xs[j]? = some x → w.cell? ⟨B, o + j, none⟩ = some x.1 := fun {j x} hj => hr j x.1 (by simp [hj])
  refine RetsX.of (nt := 36) Tryd.func111 (by kernel_rfl) rfl rfl (by simp) (by simp only [argEnv]; rfl) ?_
  repeat (first | refine RunL.pureI Tryd.tOk rfl rfl rfl (by (first | exact wr_i64 (by omega) (by omega) | exact wm_i64 (by omega) | exact wq_i64 (by omega) (by omega) (by omega) | rfl)) ?_ | refine RunL.pure Tryd.tOk rfl rfl rfl ?_ | refine RunL.unwantedD rfl rfl ?_ | refine RunE.seq ?_ | refine RunE.region ?_ | refine RunL.nil ?_ | refine RunE.block ?_ | refine RunE.inBlock ?_ | refine RunE.skip ?_ | refine RunE.exit rfl ?_ | refine RunE.scope ?_ | refine RunE.inScope ?_ | refine RunE.label ?_)
  refine RunE.loop (ι := Nat) (fun j => [(0, .slice (some ⟨B, o, none⟩) xs.length cap), (3, .int .i64 ((flatB xs j).length : Int)), (9, .slice (some ⟨B, o, none⟩) xs.length cap), (10, .int .i64 (xs.length : Int)), (11, .int .i64 (j : Int))])
    (fun j w' => w = w' ∧ j ≤ xs.length) (fun j => xs.length - j) 0 (by repeat (first | exact Sub.nil _ | refine Sub.cons rfl ?_)) ⟨rfl, by omega⟩ ?_
  rintro j _ ⟨rfl, hj⟩ again
  have hFj := hF j
  repeat (first | refine RunL.pureI Tryd.tOk rfl rfl rfl (by (first | exact wr_i64 (by omega) (by omega) | exact wm_i64 (by omega) | exact wq_i64 (by omega) (by omega) (by omega) | rfl)) ?_ | refine RunL.pure Tryd.tOk rfl rfl rfl ?_ | refine RunL.unwantedD rfl rfl ?_ | refine RunE.seq ?_ | refine RunE.region ?_ | refine RunL.nil ?_ | refine RunE.block ?_ | refine RunE.inBlock ?_ | refine RunE.skip ?_ | refine RunE.exit rfl ?_ | refine RunE.scope ?_ | refine RunE.inScope ?_ | refine RunE.label ?_)
  refine RunE.cond rfl (fun hlt => ?_) (fun hlt => ?_) <;> (first | replace hlt := of_decide_eq_true hlt | replace hlt := of_decide_eq_false hlt | replace hlt := beq_iff_eq.1 hlt | replace hlt := beq_eq_false_iff_ne.1 hlt | replace hlt := bne_iff_ne.1 hlt | replace hlt := bne_eq_false_iff_eq.1 hlt | skip)
  · have hlt' : j < xs.length := by omega
    obtain ⟨x, hxj⟩ : ∃ x, xs[j]? = some x := ⟨_, List.getElem?_eq_getElem hlt'⟩
    have hs := flatB_succ hxj
    have hFj1 := hF (j + 1)
    rw [hs, List.length_append] at hFj1
    repeat (first | refine RunL.pureI Tryd.tOk rfl rfl rfl (by (first | exact wr_i64 (by omega) (by omega) | exact wm_i64 (by omega) | exact wq_i64 (by omega) (by omega) (by omega) | rfl)) ?_ | refine RunL.pure Tryd.tOk rfl rfl rfl ?_ | refine RunL.unwantedD rfl rfl ?_ | refine RunE.seq ?_ | refine RunE.region ?_ | refine RunL.nil ?_ | refine RunE.block ?_ | refine RunE.inBlock ?_ | refine RunE.skip ?_ | refine RunE.exit rfl ?_ | refine RunE.scope ?_ | refine RunE.inScope ?_ | refine RunE.label ?_)
    refine RunL.val rfl rfl rfl (OpV.indexS Tryd.tOk j rfl rfl rfl rfl hlt') ?_
    refine RunL.val rfl rfl rfl (OpV.load1 (v := x.1) Tryd.tOk rfl rfl rfl (by rw [show j * 1 = j from Nat.mul_one j]; exact hcell hxj)) ?_
    repeat (first | refine RunL.pureI Tryd.tOk rfl rfl rfl (by (first | exact wr_i64 (by omega) (by omega) | exact wm_i64 (by omega) | exact wq_i64 (by omega) (by omega) (by omega) | rfl)) ?_ | refine RunL.pure Tryd.tOk rfl rfl rfl ?_ | refine RunL.unwantedD rfl rfl ?_ | refine RunE.seq ?_ | refine RunE.region ?_ | refine RunL.nil ?_ | refine RunE.block ?_ | refine RunE.inBlock ?_ | refine RunE.skip ?_ | refine RunE.exit rfl ?_ | refine RunE.scope ?_ | refine RunE.inScope ?_ | refine RunE.label ?_)
    refine RunL.val rfl rfl rfl (OpV.lenSl Tryd.tOk rfl rfl (hx j x hxj)) ?_
    repeat (first | refine RunL.pureI Tryd.tOk rfl rfl rfl (by (first | exact i64_add _ _ (by omega) | exact wr_i64 (by omega) (by omega) | exact wm_i64 (by omega) | exact wq_i64 (by omega) (by omega) (by omega) | rfl)) ?_ | refine RunL.pure Tryd.tOk rfl rfl rfl ?_ | refine RunL.unwantedD rfl rfl ?_ | refine RunL.val rfl rfl rfl (OpV.indexAK Tryd.tOk rfl rfl rfl rfl) ?_ | refine RunL.val rfl rfl rfl (OpV.indexSK Tryd.tOk rfl rfl rfl rfl) ?_ | refine RunE.seq ?_ | refine RunE.region ?_ | refine RunL.nil ?_ | refine RunE.block ?_ | refine RunE.inBlock ?_ | refine RunE.skip ?_ | refine RunE.exit rfl ?_ | refine RunE.scope ?_ | refine RunE.inScope ?_ | refine RunE.label ?_)
    refine RunE.condF rfl (decide_eq_false (by omega)) ?_
    repeat (first | refine RunL.pureI Tryd.tOk rfl rfl rfl (by (first | exact wr_i64 (by omega) (by omega) | exact wm_i64 (by omega) | exact wq_i64 (by omega) (by omega) (by omega) | rfl)) ?_ | refine RunL.pure Tryd.tOk rfl rfl rfl ?_ | refine RunL.unwantedD rfl rfl ?_ | refine RunE.seq ?_ | refine RunE.region ?_ | refine RunL.nil ?_ | refine RunE.block ?_ | refine RunE.inBlock ?_ | refine RunE.skip ?_ | refine RunE.exit rfl ?_ | refine RunE.scope ?_ | refine RunE.inScope ?_ | refine RunE.label ?_)
    refine RunE.weaken (by
      refine Sub.cons rfl (Sub.cons ?_ (Sub.cons rfl (Sub.cons rfl (Sub.cons rfl (Sub.nil _)))))
      rw [hs, List.length_append]; rfl) (again (j + 1) _ (by omega) ⟨rfl, by omega⟩)
  · have hjn : j = xs.length := by omega
    subst hjn
    clear again
    have hfl : flatB xs xs.length = xs.flatMap (·.2) := by unfold flatB; rw [List.take_length]
    rw [hfl]
    repeat (first | refine RunL.pureI Tryd.tOk rfl rfl rfl (by (first | exact wr_i64 (by omega) (by omega) | exact wm_i64 (by omega) | exact wq_i64 (by omega) (by omega) (by omega) | rfl)) ?_ | refine RunL.pure Tryd.tOk rfl rfl rfl ?_ | refine RunL.unwantedD rfl rfl ?_ | refine RunE.seq ?_ | refine RunE.region ?_ | refine RunL.nil ?_ | refine RunE.block ?_ | refine RunE.inBlock ?_ | refine RunE.skip ?_ | refine RunE.exit rfl ?_ | refine RunE.scope ?_ | refine RunE.inScope ?_ | refine RunE.label ?_)
    refine RunL.call rfl rfl rfl (grow_ok _ w h) ?_
    rintro v0 w1 ⟨O1, X1⟩
    repeat (first | refine RunL.pureI Tryd.tOk rfl rfl rfl (by (first | exact wr_i64 (by omega) (by omega) | exact wm_i64 (by omega) | exact wq_i64 (by omega) (by omega) (by omega) | rfl)) ?_ | refine RunL.pure Tryd.tOk rfl rfl rfl ?_ | refine RunL.unwantedD rfl rfl ?_ | refine RunE.seq ?_ | refine RunE.region ?_ | refine RunL.nil ?_ | refine RunE.block ?_ | refine RunE.inBlock ?_ | refine RunE.skip ?_ | refine RunE.exit rfl ?_ | refine RunE.scope ?_ | refine RunE.inScope ?_ | refine RunE.label ?_)
    refine RunE.loop (ι := Nat × Value) (fun x => [(6, x.2), (25, .slice (some ⟨B, o, none⟩) xs.length cap), (26, .int .i64 (xs.length : Int)), (27, .int .i64 (x.1 : Int))])
      (fun x w' => x.1 ≤ xs.length ∧ Ext w w' ∧ w'.ownsRow w.heap.size 5 1 x.2 (flatB xs x.1).length (bytesV (flatB xs x.1))) (fun x => xs.length - x.1) (0, v0) (by repeat (first | exact Sub.nil _ | refine Sub.cons rfl ?_)) ⟨by simp, X1, O1⟩ ?_
    clear O1 X1
    rintro ⟨j, u⟩ w2 ⟨hj, X2, O2⟩ again
    simp only at hj O2 again ⊢
    repeat (first | refine RunL.pureI Tryd.tOk rfl rfl rfl (by (first | exact wr_i64 (by omega) (by omega) | exact wm_i64 (by omega) | exact wq_i64 (by omega) (by omega) (by omega) | rfl)) ?_ | refine RunL.pure Tryd.tOk rfl rfl rfl ?_ | refine RunL.unwantedD rfl rfl ?_ | refine RunE.seq ?_ | refine RunE.region ?_ | refine RunL.nil ?_ | refine RunE.block ?_ | refine RunE.inBlock ?_ | refine RunE.skip ?_ | refine RunE.exit rfl ?_ | refine RunE.scope ?_ | refine RunE.inScope ?_ | refine RunE.label ?_)
    refine RunE.cond rfl (fun hlt => ?_) (fun hlt => ?_) <;> (first | replace hlt := of_decide_eq_true hlt | replace hlt := of_decide_eq_false hlt | replace hlt := beq_iff_eq.1 hlt | replace hlt := beq_eq_false_iff_ne.1 hlt | replace hlt := bne_iff_ne.1 hlt | replace hlt := bne_eq_false_iff_eq.1 hlt | skip)
    · have hlt' : j < xs.length := by omega
      obtain ⟨x, hxj⟩ : ∃ x, xs[j]? = some x := ⟨_, List.getElem?_eq_getElem hlt'⟩
      have hs := flatB_succ hxj
      have hFj1 := hF (j + 1)
      rw [hs, List.length_append] at hFj1
      repeat (first | refine RunL.pureI Tryd.tOk rfl rfl rfl (by (first | exact wr_i64 (by omega) (by omega) | exact wm_i64 (by omega) | exact wq_i64 (by omega) (by omega) (by omega) | rfl)) ?_ | refine RunL.pure Tryd.tOk rfl rfl rfl ?_ | refine RunL.unwantedD rfl rfl ?_ | refine RunE.seq ?_ | refine RunE.region ?_ | refine RunL.nil ?_ | refine RunE.block ?_ | refine RunE.inBlock ?_ | refine RunE.skip ?_ | refine RunE.exit rfl ?_ | refine RunE.scope ?_ | refine RunE.inScope ?_ | refine RunE.label ?_)
      refine RunL.val rfl rfl rfl (OpV.indexS Tryd.tOk j rfl rfl rfl rfl hlt') ?_
      refine RunL.val rfl rfl rfl (OpV.load1 (v := x.1) Tryd.tOk rfl rfl rfl (by rw [show j * 1 = j from Nat.mul_one j]; exact cell_ext (hcell hxj) X2 id)) ?_
      repeat (first | refine RunL.pureI Tryd.tOk rfl rfl rfl (by (first | exact wr_i64 (by omega) (by omega) | exact wm_i64 (by omega) | exact wq_i64 (by omega) (by omega) (by omega) | rfl)) ?_ | refine RunL.pure Tryd.tOk rfl rfl rfl ?_ | refine RunL.unwantedD rfl rfl ?_ | refine RunE.seq ?_ | refine RunE.region ?_ | refine RunL.nil ?_ | refine RunE.block ?_ | refine RunE.inBlock ?_ | refine RunE.skip ?_ | refine RunE.exit rfl ?_ | refine RunE.scope ?_ | refine RunE.inScope ?_ | refine RunE.label ?_)
      refine RunL.ex rfl rfl rfl (OpE.append Tryd.tOk rfl rfl rfl rfl rfl rfl O2 ((hx j x hxj).extE X2) (bytesV_plain _) (by show _ * 1 ≤ _; omega) (by omega) X2.size) ?_
      rintro u3 w3 ⟨O3, E3⟩
      have X3 : Ext w w3 := X2.write E3 (by intro i hi hlt; have := ownsRow_ge O2 hi; omega)
      repeat (first | refine RunL.pureI Tryd.tOk rfl rfl rfl (by (first | exact wr_i64 (by omega) (by omega) | exact wm_i64 (by omega) | exact wq_i64 (by omega) (by omega) (by omega) | rfl)) ?_ | refine RunL.pure Tryd.tOk rfl rfl rfl ?_ | refine RunL.unwantedD rfl rfl ?_ | refine RunE.seq ?_ | refine RunE.region ?_ | refine RunL.nil ?_ | refine RunE.block ?_ | refine RunE.inBlock ?_ | refine RunE.skip ?_ | refine RunE.exit rfl ?_ | refine RunE.scope ?_ | refine RunE.inScope ?_ | refine RunE.label ?_)
      refine RunE.weaken (by repeat (first | exact Sub.nil _ | refine Sub.cons rfl ?_)) (again (j + 1, u3) _ (by simp only; omega) ⟨by simp only; omega, X3, ?_⟩)
      simp only
      rw [hs, List.length_append, bytesV_append]; exact O3
    · have hjn : j = xs.length := by omega
      subst hjn
      repeat (first | refine RunL.pureI Tryd.tOk rfl rfl rfl (by (first | exact wr_i64 (by omega) (by omega) | exact wm_i64 (by omega) | exact wq_i64 (by omega) (by omega) (by omega) | rfl)) ?_ | refine RunL.pure Tryd.tOk rfl rfl rfl ?_ | refine RunL.unwantedD rfl rfl ?_ | refine RunE.seq ?_ | refine RunE.region ?_ | refine RunL.nil ?_ | refine RunE.block ?_ | refine RunE.inBlock ?_ | refine RunE.skip ?_ | refine RunE.exit rfl ?_ | refine RunE.scope ?_ | refine RunE.inScope ?_ | refine RunE.label ?_)
      rw [hfl] at O2
      exact RunE.retFn Tryd.func111 (.tmp rfl .nil) ⟨O2, X2⟩

theorem tagged_ok (tag : ByteArray) (v : Value) (l : List UInt8) (w : World) (ht : tag.size ≤ 1000000) (hv : IsSl w 1 v l.length (bytesV l)) (hl : l.length ≤ 900000) (hS : Row w 0 0 (vals init8.l)) (hkT : Row w 1 0 (vals kTab)) :
    Rets Tryd.prog 82 [.string tag, v] w fun r w' => r = .agg (bytesV (tagged tag.data.toList l)).toArray ∧ Ext w w' := by
  refine RetsX.of (nt := 14) Tryd.func82 (by kernel_rfl) rfl rfl (by simp) (by simp only [argEnv]; rfl) ?_
  repeat (first | refine RunL.pureI Tryd.tOk rfl rfl rfl (by (first | exact wr_i64 (by omega) (by omega) | exact wm_i64 (by omega) | exact wq_i64 (by omega) (by omega) (by omega) | rfl)) ?_ | refine RunL.pure Tryd.tOk rfl rfl rfl ?_ | refine RunL.unwantedD rfl rfl ?_ | refine RunE.seq ?_ | refine RunE.region ?_ | refine RunL.nil ?_ | refine RunE.block ?_ | refine RunE.inBlock ?_ | refine RunE.skip ?_ | refine RunE.exit rfl ?_ | refine RunE.scope ?_ | refine RunE.inScope ?_ | refine RunE.label ?_)
  refine RunL.alloc Tryd.tOk rfl rfl rfl fun B4 w1 a1 => ?_
  repeat (first | refine RunL.pureI Tryd.tOk rfl rfl rfl (by (first | exact wr_i64 (by omega) (by omega) | exact wm_i64 (by omega) | exact wq_i64 (by omega) (by omega) (by omega) | rfl)) ?_ | refine RunL.pure Tryd.tOk rfl rfl rfl ?_ | refine RunL.unwantedD rfl rfl ?_ | refine RunE.seq ?_ | refine RunE.region ?_ | refine RunL.nil ?_ | refine RunE.block ?_ | refine RunE.inBlock ?_ | refine RunE.skip ?_ | refine RunE.exit rfl ?_ | refine RunE.scope ?_ | refine RunE.inScope ?_ | refine RunE.label ?_)
  refine RunL.ex rfl rfl rfl (OpE.s2b Tryd.tOk rfl rfl rfl rfl) ?_
  rintro _ w2 ⟨B, cap, rfl, X2, hB, hr, hc⟩
  have hlen : tag.data.toList.length = tag.size := rfl
  have Y2 := a1.ext.trans X2
  refine RunL.call rfl rfl rfl (sum_ok _ tag.data.toList w2 (by rw [hlen]; exact .row hr (by rw [bytesV_length, hlen, Nat.mul_one]) hc) (by omega) (hS.extE Y2) (hkT.extE Y2)) ?_
  rintro _ w3 ⟨rfl, X3⟩
  have Y3 := Y2.trans X3
  refine RunL.alloc Tryd.tOk rfl rfl rfl fun B5 w4 a4 => ?_
  have hsl := sha_length tag.data.toList
  unfold tagged
  generalize sha tag.data.toList = D at hsl ⊢
  refine RunL.store (v := .agg (bytesV D).toArray) Tryd.tOk rfl rfl rfl rfl (by simp [Value.cells, bytesV_length, hsl]) (cs := List.replicate 32 (.int .u8 0)) a4.at_ (by simp [Value.cells, bytesV_length, hsl]) (by simp [Value.cells, bytesV_plain]) fun w5 t5 => ?_
  have D5 : Blk w5 B5 (bytesV D) 130 := by
    have := t5.at_
    rw [show (Value.agg (bytesV D).toArray).cells.toList = bytesV D from rfl, setAt_all _ _ (by simp [bytesV_length, hsl])] at this
    exact this
  have hB4 := a1.eq
  have hB5 := a4.eq
  have hs1 := a1.size
  have hs4 := a4.size
  have z1 := X2.size
  have z2 := X3.size
  have X5 : Ext w w5 := (Y3.trans a4.ext).write t5.ext (by intro i hi hlt; subst hi; omega)
  have R4 : Blk w5 B4 (bytesV (List.replicate 32 0)) 130 := Blk.ext (Blk.ext (Blk.ext (w := w1) (cs := List.replicate 32 (.int .u8 0)) a1.at_ (X2.trans X3) id) a4.ext id) t5.ext (by omega)
  clear a1 a4 t5 Y3 Y2
  repeat (first | refine RunL.pureI Tryd.tOk rfl rfl rfl (by (first | exact wr_i64 (by omega) (by omega) | exact wm_i64 (by omega) | exact wq_i64 (by omega) (by omega) (by omega) | rfl)) ?_ | refine RunL.pure Tryd.tOk rfl rfl rfl ?_ | refine RunL.unwantedD rfl rfl ?_ | refine RunE.seq ?_ | refine RunE.region ?_ | refine RunL.nil ?_ | refine RunE.block ?_ | refine RunE.inBlock ?_ | refine RunE.skip ?_ | refine RunE.exit rfl ?_ | refine RunE.scope ?_ | refine RunE.inScope ?_ | refine RunE.label ?_)
  refine RunL.val rfl rfl rfl (OpV.sliceA0 (hi := 32) Tryd.tOk rfl rfl .none .none (by decide)) ?_
  repeat (first | refine RunL.pureI Tryd.tOk rfl rfl rfl (by (first | exact wr_i64 (by omega) (by omega) | exact wm_i64 (by omega) | exact wq_i64 (by omega) (by omega) (by omega) | rfl)) ?_ | refine RunL.pure Tryd.tOk rfl rfl rfl ?_ | refine RunL.unwantedD rfl rfl ?_ | refine RunE.seq ?_ | refine RunE.region ?_ | refine RunL.nil ?_ | refine RunE.block ?_ | refine RunE.inBlock ?_ | refine RunE.skip ?_ | refine RunE.exit rfl ?_ | refine RunE.scope ?_ | refine RunE.inScope ?_ | refine RunE.label ?_)
  have hvc : v.cells = #[v] := by rcases hv.inv with ⟨_, rfl, -⟩ | ⟨_, _, _, rfl, -⟩ <;> rfl
  refine RunL.ex rfl rfl rfl (OpE.buildSl Tryd.tOk [.slice (some ⟨B5, 0, none⟩) 32 32, v] rfl rfl rfl rfl rfl rfl (by intro u hu; rcases List.mem_cons.1 hu with rfl | hu; rfl; obtain rfl := List.mem_singleton.1 hu; rw [hvc]; rfl)) ?_
  rintro _ w6 ⟨B11, rfl, a6⟩
  have ec : cellsAll [.slice (some ⟨B5, 0, none⟩) 32 32, v] = [.slice (some ⟨B5, 0, none⟩) 32 32, v] := by
    have hc5 : (Value.slice (some ⟨B5, 0, none⟩) 32 32).cells = #[.slice (some ⟨B5, 0, none⟩) 32 32] := rfl
    simp [cellsAll, hvc, hc5]
  rw [ec] at a6
  have hB11 := a6.eq
  have X6 := X5.trans a6.ext
  have sl5 : IsSl w6 1 (.slice (some ⟨B5, 0, none⟩) 32 32) D.length (bytesV D) := by
    rw [hsl]; exact .row (D5.row.extE a6.ext) (by rw [bytesV_length, hsl]) (by omega)
  refine RunL.call rfl rfl rfl (concatB_ok [(.slice (some ⟨B5, 0, none⟩) 32 32, D), (v, l)] B11 0 2 w6 (Blk.row (show Blk w6 B11 [.slice (some ⟨B5, 0, none⟩) 32 32, v] _ from a6.at_))
    (fun j x hj => by
      match j, hj with
      | 0, hj => injection hj with hj; subst hj; exact sl5
      | 1, hj => injection hj with hj; subst hj; exact hv.extE X6) (by simp) (by simp [hsl]; omega)) ?_
  rintro u w7 ⟨O7, X7⟩
  have e : List.flatMap (fun x : Value × List UInt8 => x.2) [(.slice (some ⟨B5, 0, none⟩) 32 32, D), (v, l)] = D ++ l := by simp
  rw [e] at O7
  have Y7 := X6.trans X7
  refine RunL.call rfl rfl rfl (sum_ok _ (D ++ l) w7 (isSl_own O7) (by simp [hsl]; omega) (hS.extE Y7) (hkT.extE Y7)) ?_
  rintro _ w8 ⟨rfl, X8⟩
  have Y8 := Y7.trans X8
  have R8 := R4.ext ((a6.ext.trans X7).trans X8) id
  have hsl2 := sha_length (D ++ l)
  generalize sha (D ++ l) = G at hsl2 ⊢
  refine RunL.store (v := .agg (bytesV G).toArray) Tryd.tOk rfl rfl rfl rfl (by simp [Value.cells, bytesV_length, hsl2]) R8 (by simp [Value.cells, bytesV_length, hsl2]) (by simp [Value.cells, bytesV_plain]) fun w9 t9 => ?_
  have X9 : Ext w w9 := Y8.write t9.ext (by intro i hi hlt; subst hi; omega)
  have D9 : Blk w9 B4 (bytesV G) 130 := by
    have := t9.at_
    rw [show (Value.agg (bytesV G).toArray).cells.toList = bytesV G from rfl, setAt_all _ _ (by simp [bytesV_length, hsl2])] at this
    exact this
  repeat (first | refine RunL.pureI Tryd.tOk rfl rfl rfl (by (first | exact wr_i64 (by omega) (by omega) | exact wm_i64 (by omega) | exact wq_i64 (by omega) (by omega) (by omega) | rfl)) ?_ | refine RunL.pure Tryd.tOk rfl rfl rfl ?_ | refine RunL.unwantedD rfl rfl ?_ | refine RunE.seq ?_ | refine RunE.region ?_ | refine RunL.nil ?_ | refine RunE.block ?_ | refine RunE.inBlock ?_ | refine RunE.skip ?_ | refine RunE.exit rfl ?_ | refine RunE.scope ?_ | refine RunE.inScope ?_ | refine RunE.label ?_)
  exact RunE.retFn Tryd.func82 (.cell rfl (.agg Tryd.tOk rfl rfl (by rw [bytesV_length]; exact hsl2) D9.row) .nil) ⟨rfl, X9⟩

def hashN (d : List UInt8) (j : Nat) : Nat := (d.take j).foldl (fun n c => n * 256 + c.toNat) 0
theorem hashN_succ {d : List UInt8} {j : Nat} (h : j < d.length) : hashN d (j + 1) = hashN d j * 256 + (d.getD j 0).toNat := by
  unfold hashN
  rw [List.take_add_one, List.getElem?_eq_getElem h, List.getD_eq_getElem?_getD, List.getElem?_eq_getElem h, Option.toList_some, List.foldl_append]
  rfl
theorem hashN_lt (d : List UInt8) : ∀ j, j ≤ d.length → hashN d j < 256 ^ j
  | 0, _ => by simp [hashN]
  | j + 1, h => by
    have := hashN_lt d j (by omega)
    have hb := (d.getD j 0).toNat_lt
    rw [hashN_succ (by omega), Nat.pow_succ]; omega
/-- The first byte without its highest bit. -/
def low7 : List UInt8 → List UInt8
  | [] => []
  | b :: r => UInt8.ofNat (b.toNat % 128) :: r
theorem low7_length (d : List UInt8) : (low7 d).length = d.length := by cases d <;> rfl
/-- The number of a digest. -/
def hashNum (d : List UInt8) : Nat := hashN (low7 d) 8
theorem hashNum_lt (d : List UInt8) (h : d.length = 32) : hashNum d < 9223372036854775808 := by
  unfold hashNum
  cases d with
  | nil => simp at h
  | cons b r =>
    have h1 : (low7 (b :: r)).length = 32 := h
    have : ∀ j, j ≤ 7 → hashN (low7 (b :: r)) (j + 1) < 128 * 256 ^ j := by
      intro j
      induction j with
      | zero =>
        intro _
        have : (UInt8.ofNat (b.toNat % 128)).toNat = b.toNat % 128 := by rw [UInt8.toNat_ofNat']; omega
        simp [hashN, low7]; omega
      | succ j ih =>
        intro hj
        have := ih (by omega)
        have hb := ((low7 (b :: r)).getD (j + 1) 0).toNat_lt
        rw [hashN_succ (by omega), Nat.pow_succ]; omega
    have := this 7 (by omega)
    exact this
def hashS (tag l : List UInt8) : Int := (hashNum (tagged tag l) % 1073741789 : Nat)

theorem u8_and127 (b : UInt8) : IntKind.u8.wrap ((BitVec.ofInt IntKind.u8.bits (b.toNat : Int) &&& BitVec.ofInt IntKind.u8.bits 127).toNat : Int) = ((UInt8.ofNat (b.toNat % 128)).toNat : Int) := by
  have : ∀ n : Fin 256, IntKind.u8.wrap ((BitVec.ofInt IntKind.u8.bits (n.val : Int) &&& BitVec.ofInt IntKind.u8.bits 127).toNat : Int) = ((UInt8.ofNat (n.val % 128)).toNat : Int) := by decide +kernel
  exact this ⟨b.toNat, b.toNat_lt⟩
theorem i64_or8 (n c : Nat) (hn : n < 36028797018963968) (hc : c < 256) : IntKind.i64.wrap ((BitVec.ofInt IntKind.i64.bits (((n * 256 : Nat) : Int)) ||| BitVec.ofInt IntKind.i64.bits ((c : Nat) : Int)).toNat : Int) = ((n * 256 + c : Nat) : Int) := by
  have e : IntKind.i64.bits = 64 := rfl
  rw [e, BitVec.ofInt_natCast, BitVec.ofInt_natCast, BitVec.toNat_or, BitVec.toNat_ofNat, BitVec.toNat_ofNat, Nat.mod_eq_of_lt (by omega), Nat.mod_eq_of_lt (by omega)]
  have h : n * 256 + c = n * 256 ||| c := by
    have := Nat.shiftLeft_add_eq_or_of_lt (i := 8) (b := c) (by omega) n
    rw [Nat.shiftLeft_eq] at this
    exact this
  rw [← h]; exact wr_i64 (by omega) (by omega)
theorem i64_shl8 (n : Nat) (hn : n < 36028797018963968) : IntKind.i64.wrap (((n : Nat) : Int) * 2 ^ (min 8 IntKind.i64.bits)) = ((n * 256 : Nat) : Int) := by
  have e : (2 : Int) ^ (min 8 IntKind.i64.bits) = 256 := by decide
  rw [e, Int.natCast_mul]; exact wr_i64 (by omega) (by omega)
theorem i64_u8 (b : UInt8) : IntKind.i64.wrap ((b.toNat : Nat) : Int) = ((b.toNat : Nat) : Int) := by
  have := b.toNat_lt
  exact wr_i64 (by omega) (by omega)

theorem hash_ok (tag : ByteArray) (v : Value) (l : List UInt8) (w : World) (ht : tag.size ≤ 1000000) (hv : IsSl w 1 v l.length (bytesV l)) (hl : l.length ≤ 900000) (hS : Row w 0 0 (vals init8.l)) (hkT : Row w 1 0 (vals kTab)) :
    Rets Tryd.prog 46 [.string tag, v] w fun r w' => r = .int .i64 (hashS tag.data.toList l) ∧ Ext w w' := by
  refine RetsX.of (nt := 27) Tryd.func46 (by kernel_rfl) rfl rfl (by simp) (by simp only [argEnv]; rfl) ?_
  repeat (first | refine RunL.pureI Tryd.tOk rfl rfl rfl (by (first | exact wr_i64 (by omega) (by omega) | exact wm_i64 (by omega) | exact wq_i64 (by omega) (by omega) (by omega) | rfl)) ?_ | refine RunL.pure Tryd.tOk rfl rfl rfl ?_ | refine RunL.unwantedD rfl rfl ?_ | refine RunE.seq ?_ | refine RunE.region ?_ | refine RunL.nil ?_ | refine RunE.block ?_ | refine RunE.inBlock ?_ | refine RunE.skip ?_ | refine RunE.exit rfl ?_ | refine RunE.scope ?_ | refine RunE.inScope ?_ | refine RunE.label ?_)
  refine RunL.call rfl rfl rfl (tagged_ok _ _ _ _ ht hv hl hS hkT) ?_
  rintro _ w1 ⟨rfl, X1⟩
  refine RunL.alloc Tryd.tOk rfl rfl rfl fun B w2 a2 => ?_
  unfold hashS
  have hsl := tagged_length tag.data.toList l
  generalize tagged tag.data.toList l = D at hsl ⊢
  refine RunL.store (v := .agg (bytesV D).toArray) Tryd.tOk rfl rfl rfl rfl (by simp [Value.cells, bytesV_length, hsl]) (cs := List.replicate 32 (.int .u8 0)) a2.at_ (by simp [Value.cells, bytesV_length, hsl]) (by simp [Value.cells, bytesV_plain]) fun w3 t3 => ?_
  have D3 : Blk w3 B (bytesV D) 130 := by
    have := t3.at_
    rw [show (Value.agg (bytesV D).toArray).cells.toList = bytesV D from rfl, setAt_all _ _ (by simp [bytesV_length, hsl])] at this
    exact this
  have hB := a2.eq
  have z1 := X1.size
  have X3 : Ext w w3 := (X1.trans a2.ext).write t3.ext (by intro i hi hlt; subst hi; omega)
  clear a2 t3
  match D, hsl, D3 with
  | [], hsl, _ => simp at hsl
  | b :: r, hsl, D3 =>
  repeat (first | refine RunL.pureI Tryd.tOk rfl rfl rfl (by (first | exact u8_and127 _ | exact wr_i64 (by omega) (by omega) | exact wm_i64 (by omega) | exact wq_i64 (by omega) (by omega) (by omega) | rfl)) ?_ | refine RunL.pure Tryd.tOk rfl rfl rfl ?_ | refine RunL.unwantedD rfl rfl ?_ | refine RunL.val rfl rfl rfl (OpV.indexAK Tryd.tOk rfl rfl rfl rfl) ?_ | refine RunL.val rfl rfl rfl (OpV.indexSK Tryd.tOk rfl rfl rfl rfl) ?_ | refine RunL.val rfl rfl rfl (OpV.load1 Tryd.tOk rfl rfl rfl (Blk.cell D3 rfl)) ?_ | refine RunE.seq ?_ | refine RunE.region ?_ | refine RunL.nil ?_ | refine RunE.block ?_ | refine RunE.inBlock ?_ | refine RunE.skip ?_ | refine RunE.exit rfl ?_ | refine RunE.scope ?_ | refine RunE.inScope ?_ | refine RunE.label ?_)
  refine RunL.store Tryd.tOk rfl rfl rfl rfl rfl D3 (by simp [bytesV_length, Value.cells, hsl]) rfl fun w4 t4 => ?_
  have X4 : Ext w w4 := X3.write t4.ext (by intro i hi hlt; subst hi; omega)
  have D4 : Blk w4 B (bytesV (low7 (b :: r))) 130 := t4.at_
  clear t4 D3
  have hb64 : hashNum (b :: r) < 9223372036854775808 := hashNum_lt _ hsl
  have hlen : (low7 (b :: r)).length = 32 := hsl
  unfold hashNum at hb64 ⊢
  generalize low7 (b :: r) = L at D4 hlen hb64 ⊢
  repeat (first | refine RunL.pureI Tryd.tOk rfl rfl rfl (by (first | exact wr_i64 (by omega) (by omega) | exact wm_i64 (by omega) | exact wq_i64 (by omega) (by omega) (by omega) | rfl)) ?_ | refine RunL.pure Tryd.tOk rfl rfl rfl ?_ | refine RunL.unwantedD rfl rfl ?_ | refine RunE.seq ?_ | refine RunE.region ?_ | refine RunL.nil ?_ | refine RunE.block ?_ | refine RunE.inBlock ?_ | refine RunE.skip ?_ | refine RunE.exit rfl ?_ | refine RunE.scope ?_ | refine RunE.inScope ?_ | refine RunE.label ?_)
  refine RunE.loop (ι := Nat) (fun i => [(4, .int .i64 (hashN L i : Int)), (5, .pointer (some ⟨B, 0, none⟩)), (14, .int .i64 (i : Int))])
    (fun i w' => w4 = w' ∧ i ≤ 8) (fun i => 8 - i) 0 (by repeat (first | exact Sub.nil _ | refine Sub.cons rfl ?_)) ⟨rfl, by omega⟩ ?_
  rintro i _ ⟨rfl, hi⟩ again
  repeat (first | refine RunL.pureI Tryd.tOk rfl rfl rfl (by (first | exact wr_i64 (by omega) (by omega) | exact wm_i64 (by omega) | exact wq_i64 (by omega) (by omega) (by omega) | rfl)) ?_ | refine RunL.pure Tryd.tOk rfl rfl rfl ?_ | refine RunL.unwantedD rfl rfl ?_ | refine RunE.seq ?_ | refine RunE.region ?_ | refine RunL.nil ?_ | refine RunE.block ?_ | refine RunE.inBlock ?_ | refine RunE.skip ?_ | refine RunE.exit rfl ?_ | refine RunE.scope ?_ | refine RunE.inScope ?_ | refine RunE.label ?_)
  refine RunE.cond rfl (fun hlt => ?_) (fun hlt => ?_) <;> (first | replace hlt := of_decide_eq_true hlt | replace hlt := of_decide_eq_false hlt | replace hlt := beq_iff_eq.1 hlt | replace hlt := beq_eq_false_iff_ne.1 hlt | replace hlt := bne_iff_ne.1 hlt | replace hlt := bne_eq_false_iff_eq.1 hlt | skip)
  · have hi8 : i < 8 := by omega
    have hs := hashN_succ (d := L) (j := i) (by omega)
    have hcl := (L.getD i 0).toNat_lt
    have hbd : hashN L i < 36028797018963968 := by
      have mono : ∀ k j, j + k ≤ 8 → hashN L j * 256 ^ k ≤ hashN L (j + k) := by
        intro k
        induction k with
        | zero => intro j _; simp
        | succ k ih =>
          intro j hj
          have h1 := ih j (by omega)
          have h2 := hashN_succ (d := L) (j := j + k) (by omega)
          rw [show j + (k + 1) = j + k + 1 by omega, h2, Nat.pow_succ, ← Nat.mul_assoc]
          omega
      have h1 := mono (8 - i) i (by omega)
      rw [show i + (8 - i) = 8 by omega] at h1
      have h2 : 256 ^ 1 ≤ 256 ^ (8 - i) := Nat.pow_le_pow_right (by decide) (by omega)
      have h3 := Nat.mul_le_mul_left (hashN L i) h2
      omega
    repeat (first | refine RunL.pureI Tryd.tOk rfl rfl rfl (by (first | exact i64_shl8 _ hbd | exact wr_i64 (by omega) (by omega) | exact wm_i64 (by omega) | exact wq_i64 (by omega) (by omega) (by omega) | rfl)) ?_ | refine RunL.pure Tryd.tOk rfl rfl rfl ?_ | refine RunL.unwantedD rfl rfl ?_ | refine RunL.val rfl rfl rfl (OpV.indexAK Tryd.tOk rfl rfl rfl rfl) ?_ | refine RunL.val rfl rfl rfl (OpV.indexSK Tryd.tOk rfl rfl rfl rfl) ?_ | refine RunE.seq ?_ | refine RunE.region ?_ | refine RunL.nil ?_ | refine RunE.block ?_ | refine RunE.inBlock ?_ | refine RunE.skip ?_ | refine RunE.exit rfl ?_ | refine RunE.scope ?_ | refine RunE.inScope ?_ | refine RunE.label ?_)
    refine RunL.val rfl rfl rfl (OpV.indexA1 Tryd.tOk i rfl rfl rfl rfl (by omega)) ?_
    refine RunL.val rfl rfl rfl (OpV.load1 (v := .int .u8 ((L.getD i 0).toNat : Int)) Tryd.tOk rfl rfl rfl (by rw [Nat.zero_add]; exact D4.cell (bytesV_get (by omega)))) ?_
    repeat (first | refine RunL.pureI Tryd.tOk rfl rfl rfl (by (first | exact i64_u8 _ | exact i64_or8 _ _ hbd hcl | exact wr_i64 (by omega) (by omega) | exact wm_i64 (by omega) | exact wq_i64 (by omega) (by omega) (by omega) | rfl)) ?_ | refine RunL.pure Tryd.tOk rfl rfl rfl ?_ | refine RunL.unwantedD rfl rfl ?_ | refine RunL.val rfl rfl rfl (OpV.indexAK Tryd.tOk rfl rfl rfl rfl) ?_ | refine RunL.val rfl rfl rfl (OpV.indexSK Tryd.tOk rfl rfl rfl rfl) ?_ | refine RunE.seq ?_ | refine RunE.region ?_ | refine RunL.nil ?_ | refine RunE.block ?_ | refine RunE.inBlock ?_ | refine RunE.skip ?_ | refine RunE.exit rfl ?_ | refine RunE.scope ?_ | refine RunE.inScope ?_ | refine RunE.label ?_)
    refine RunE.weaken (by
      refine Sub.cons ?_ (Sub.cons rfl (Sub.cons rfl (Sub.nil _)))
      rw [hs]; rfl) (again (i + 1) _ (by omega) ⟨rfl, by omega⟩)
  · have hi8 : i = 8 := by omega
    subst hi8
    repeat (first | refine RunL.pureI Tryd.tOk rfl rfl rfl (by (first | exact wr_i64 (by omega) (by omega) | exact wm_i64 (by omega) | exact wq_i64 (by omega) (by omega) (by omega) | rfl)) ?_ | refine RunL.pure Tryd.tOk rfl rfl rfl ?_ | refine RunL.unwantedD rfl rfl ?_ | refine RunE.seq ?_ | refine RunE.region ?_ | refine RunL.nil ?_ | refine RunE.block ?_ | refine RunE.inBlock ?_ | refine RunE.skip ?_ | refine RunE.exit rfl ?_ | refine RunE.scope ?_ | refine RunE.inScope ?_ | refine RunE.label ?_)
    refine RunE.retFn Tryd.func46 (.tmp rfl .nil) ⟨?_, X4⟩
    simp only [oneOr]
    congr 1
end Go.Sg
end
section
/- The reference's SHA-256. -/
namespace Go.Sg
open Go.Rn Go.Sha Go.Proofs
attribute [local irreducible] Go.Rn.RunL Go.Rn.RunE Go.Rn.Asy Go.Rn.OpV Go.Rn.OpE Go.Rn.ExecE

theorem u32_compl (x : W) : IntKind.u32.wrap ((BitVec.ofInt IntKind.u32.bits (if IntKind.u32.signed then -1 else IntKind.u32.max) ^^^ BitVec.ofInt IntKind.u32.bits (x.toNat : Int)).toNat : Int) = ((~~~x).toNat : Int) := by
  have h2 : (BitVec.ofInt 32 (if IntKind.u32.signed then -1 else IntKind.u32.max) : BitVec 32) = BitVec.allOnes 32 := by decide
  have h1 : BitVec.ofInt 32 (x.toNat : Int) = x := bv_of x
  show IntKind.u32.wrap (((BitVec.ofInt 32 (if IntKind.u32.signed then -1 else IntKind.u32.max) : BitVec 32) ^^^ (BitVec.ofInt 32 (x.toNat : Int) : BitVec 32)).toNat : Int) = _
  rw [h1, h2]
  have h3 : (BitVec.allOnes 32 ^^^ x) = ~~~x := by
    exact BitVec.allOnes_xor
  rw [h3]
  exact u32_wrap_nat _ (BitVec.isLt (~~~x))

set_option maxRecDepth 4000 in
theorem numbers_ok (w : World) : Rets Tryd.prog 142 [] w fun v w' => v = .agg (vals kTab).toArray ∧ Ext w w' := by
  refine RetsX.of (nt := 2) Tryd.func142 (by kernel_rfl) rfl rfl (by simp) (by simp only [argEnv]; rfl) ?_
  repeat (first | refine RunE.seq ?_ | refine RunE.region ?_)
  refine RunL.alloc Tryd.tOk rfl rfl rfl fun B w1 a1 => ?_
  repeat (first | refine RunL.pure Tryd.tOk rfl rfl rfl ?_ | refine RunE.seq ?_ | refine RunE.region ?_ | refine RunL.nil ?_)
  have hB := a1.eq
  refine RunL.store (v := .agg (vals kTab).toArray) Tryd.tOk rfl rfl rfl rfl rfl (cs := List.replicate 64 (.int .u32 0)) a1.at_ rfl rfl fun w2 t2 => ?_
  have X2 : Ext w w2 := a1.ext.write t2.ext (by intro i hi hlt; subst hi; omega)
  have D2 : Blk w2 B (vals kTab) 179 := by
    have := t2.at_
    rw [show (Value.agg (vals kTab).toArray).cells.toList = vals kTab from rfl, setAt_all _ _ (by rw [vals_length]; rfl)] at this
    exact this
  repeat (first | refine RunL.nil ?_)
  exact RunE.retFn Tryd.func142 (.cell rfl (.agg Tryd.tOk rfl rfl rfl D2.row) .nil) ⟨rfl, X2⟩

set_option maxRecDepth 4000 in
set_option maxHeartbeats 4000000 in
set_option maxRecDepth 4000 in
theorem rblock_ok (s : S8) (l : List UInt8) (v : Value) (w : World) (hl : l.length = 64) (hv : IsSl w 1 v 64 (bytesV l)) :
    Rets Tryd.prog 139 [.agg (vals s.l).toArray, v] w fun r w' => r = .agg (vals (block s l).l).toArray ∧ Ext w w' := by
  obtain ⟨b', o', cap, rfl, hr, -, hc⟩ := hv.held (by decide)
  refine RetsX.of (nt := 191) Tryd.func139 (by kernel_rfl) rfl rfl (by simp) (by simp only [argEnv]; rfl) ?_
  repeat (first | refine RunE.seq ?_ | refine RunE.region ?_)
  refine RunL.box rfl rfl rfl fun B2 w1 a1 => ?_
  refine RunL.alloc Tryd.tOk rfl rfl rfl fun B4 w2 a2 => ?_
  repeat (first | refine RunL.pure Tryd.tOk rfl rfl rfl ?_ | refine RunE.seq ?_ | refine RunE.region ?_ | refine RunL.nil ?_)
  refine RunL.alloc Tryd.tOk rfl rfl rfl fun B5 w3 a3 => ?_
  refine RunL.store (v := .agg (vals (List.replicate 64 0)).toArray) Tryd.tOk rfl rfl rfl rfl rfl (cs := List.replicate 64 (.int .u32 0)) a3.at_ rfl rfl fun w4 t4 => ?_
  have hB2 := a1.eq
  have hB4 := a2.eq
  have hB5 := a3.eq
  have z1 := a1.size
  have z2 := a2.size
  have z3 := a3.size
  have X4 : Ext w w4 := ((a1.ext.trans a2.ext).trans a3.ext).write t4.ext (by intro i hi hlt; subst hi; omega)
  have S4 : Blk w4 B2 (vals s.l) 170 := Blk.ext (Blk.ext (w := w1) (cs := vals s.l) a1.at_ (a2.ext.trans a3.ext) id) t4.ext (by omega)
  have R4 : Blk w4 B4 (List.replicate 8 (.int .u32 0)) 170 := Blk.ext (Blk.ext (w := w2) (cs := List.replicate 8 (.int .u32 0)) a2.at_ a3.ext id) t4.ext (by omega)
  have Z4 : Blk w4 B5 (vals (words l 0 ++ List.replicate (64 - 0) 0)) 179 := by
    have := t4.at_
    rw [show (Value.agg (vals (List.replicate 64 0)).toArray).cells.toList = vals (List.replicate 64 0) from rfl, setAt_all _ _ (by rw [vals_length]; rfl)] at this
    exact this
  clear a1 a2 a3 t4
  repeat (first | refine RunL.pureI Tryd.tOk rfl rfl rfl (by (first | exact wr_i64 (by omega) (by omega) | exact wm_i64 (by omega) | exact wq_i64 (by omega) (by omega) (by omega) | rfl)) ?_ | refine RunE.seq ?_ | refine RunE.region ?_ | refine RunL.nil ?_ | refine RunE.block ?_)
  refine RunE.loop (ι := Nat) (fun j => [(1, .slice (some ⟨b', o', none⟩) 64 cap), (2, .pointer (some ⟨B2, 0, none⟩)), (4, .pointer (some ⟨B4, 0, none⟩)), (5, .pointer (some ⟨B5, 0, none⟩)), (6, .int .i64 (j : Int))])
    (fun j w' => j ≤ 16 ∧ Ext w w' ∧ Blk w' B2 (vals s.l) 170 ∧ Blk w' B4 (List.replicate 8 (.int .u32 0)) 170 ∧ Blk w' B5 (vals (words l j ++ List.replicate (64 - j) 0)) 179) (fun j => 16 - j) 0 (by repeat (first | exact Sub.nil _ | refine Sub.cons rfl ?_)) ⟨by omega, X4, S4, R4, Z4⟩ ?_
  clear X4 S4 R4 Z4
  rintro j w5 ⟨hj, X5, S5, R5, Z5⟩ again
  repeat (first | refine RunL.pureI Tryd.tOk rfl rfl rfl (by (first | exact wr_i64 (by omega) (by omega) | exact wm_i64 (by omega) | exact wq_i64 (by omega) (by omega) (by omega) | rfl)) ?_ | refine RunL.pure Tryd.tOk rfl rfl rfl ?_ | refine RunE.seq ?_ | refine RunE.region ?_ | refine RunL.nil ?_)
  refine RunE.cond rfl (fun hlt => ?_) (fun hlt => ?_) <;> (first | replace hlt := of_decide_eq_true hlt | replace hlt := of_decide_eq_false hlt | replace hlt := beq_iff_eq.1 hlt | replace hlt := beq_eq_false_iff_ne.1 hlt | replace hlt := bne_iff_ne.1 hlt | replace hlt := bne_eq_false_iff_eq.1 hlt | skip)
  · repeat (first | refine RunL.pureI Tryd.tOk rfl rfl rfl (by (first | exact wr_i64 (by omega) (by omega) | exact wm_i64 (by omega) | exact wq_i64 (by omega) (by omega) (by omega) | rfl)) ?_ | refine RunL.pure Tryd.tOk rfl rfl rfl ?_ | refine RunE.seq ?_ | refine RunE.region ?_ | refine RunE.block ?_ | refine RunE.skip ?_)
    refine RunL.val rfl rfl rfl (OpV.sliceSq (lo := 4 * j) (hi := 4 * j + 4) (q := o' + 4 * j) (len := 4) (cap := cap - 4 * j) Tryd.tOk rfl rfl (.some rfl (by omega)) (.some rfl (by omega)) (by omega) (by omega) (by rw [offOf_lt (by omega)]; omega) (by omega) rfl) ?_
    have hrow : Row w5 b' (o' + 4 * j) (bytesV [l.getD (4 * j) 0, l.getD (4 * j + 1) 0, l.getD (4 * j + 2) 0, l.getD (4 * j + 3) 0]) := by
      refine (hr.extE X5).window fun i v hv => ?_
      match i, hv with
      | 0, hv => rw [bytesV_get (by omega)]; exact hv
      | 1, hv => rw [bytesV_get (by omega)]; exact hv
      | 2, hv => rw [bytesV_get (by omega)]; exact hv
      | 3, hv => rw [bytesV_get (by omega)]; exact hv
    refine RunL.call rfl rfl rfl (refWord_ok _ _ _ _ _ _ _ _ _ (by omega) hrow) ?_
    rintro _ w6 ⟨rfl, X6⟩
    have Y6 := X5.trans X6
    refine RunL.val rfl rfl rfl (OpV.indexA1 Tryd.tOk j rfl rfl rfl rfl (by omega)) ?_
    refine RunL.store Tryd.tOk rfl rfl rfl rfl rfl (Z5.ext X6 id) (by simp [vals_length, words_length, Value.cells]; omega) rfl fun w7 t7 => ?_
    have X7 : Ext w w7 := Y6.write t7.ext (by intro i hi hlt; subst hi; omega)
    have S7 := (S5.ext X6 id).ext t7.ext (by omega)
    have R7 := (R5.ext X6 id).ext t7.ext (by omega)
    have Z7 : Blk w7 B5 (vals (words l (j + 1) ++ List.replicate (64 - (j + 1)) 0)) 179 := by
      have := t7.at_
      have e := set_next (words l j) (64 - (j + 1)) (word (l.getD (4 * j) 0) (l.getD (4 * j + 1) 0) (l.getD (4 * j + 2) 0) (l.getD (4 * j + 3) 0))
      rw [words_length, show 64 - (j + 1) + 1 = 64 - j by omega] at e
      unfold Blk
      rw [words, ← e, this]
      rw [Nat.zero_add]
      rfl
    repeat (first | refine RunL.pureI Tryd.tOk rfl rfl rfl (by (first | exact wr_i64 (by omega) (by omega) | exact wm_i64 (by omega) | exact wq_i64 (by omega) (by omega) (by omega) | rfl)) ?_ | refine RunE.region ?_ | refine RunL.nil ?_ | refine RunE.inBlock ?_)
    exact RunE.weaken (by repeat (first | exact Sub.nil _ | refine Sub.cons rfl ?_)) (again (j + 1) _ (by omega) ⟨by omega, X7, S7, R7, Z7⟩)
  · have hj16 : j = 16 := by omega
    subst hj16
    clear again
    repeat (first | refine RunL.pureI Tryd.tOk rfl rfl rfl (by (first | exact wr_i64 (by omega) (by omega) | exact wm_i64 (by omega) | exact wq_i64 (by omega) (by omega) (by omega) | rfl)) ?_ | refine RunE.seq ?_ | refine RunE.region ?_ | refine RunL.nil ?_ | refine RunE.block ?_ | refine RunE.exit rfl ?_)
    refine RunE.loop (ι := Nat) (fun k => [(2, .pointer (some ⟨B2, 0, none⟩)), (4, .pointer (some ⟨B4, 0, none⟩)), (5, .pointer (some ⟨B5, 0, none⟩)), (7, .int .i64 ((16 + k : Nat) : Int))])
      (fun k w' => k ≤ 48 ∧ Ext w w' ∧ Blk w' B2 (vals s.l) 170 ∧ Blk w' B4 (List.replicate 8 (.int .u32 0)) 170 ∧ Blk w' B5 (vals (sched (words l 16) k ++ List.replicate (48 - k) 0)) 179) (fun k => 48 - k) 0 (by repeat (first | exact Sub.nil _ | refine Sub.cons rfl ?_)) ⟨by omega, X5, S5, R5, Z5⟩ ?_
    clear X5 S5 R5 Z5
    rintro k w4 ⟨hk48, X4, S4, R4, Z4⟩ again
    have hsl : (sched (words l 16) k).length = 16 + k := by rw [sched_length, words_length]
    repeat (first | refine RunL.pureI Tryd.tOk rfl rfl rfl (by (first | exact wr_i64 (by omega) (by omega) | exact wm_i64 (by omega) | exact wq_i64 (by omega) (by omega) (by omega) | rfl)) ?_ | refine RunL.pure Tryd.tOk rfl rfl rfl ?_ | refine RunE.seq ?_ | refine RunE.region ?_ | refine RunL.nil ?_)
    refine RunE.cond rfl (fun hlt2 => ?_) (fun hlt2 => ?_) <;> (first | replace hlt2 := of_decide_eq_true hlt2 | replace hlt2 := of_decide_eq_false hlt2 | replace hlt2 := beq_iff_eq.1 hlt2 | replace hlt2 := beq_eq_false_iff_ne.1 hlt2 | replace hlt2 := bne_iff_ne.1 hlt2 | replace hlt2 := bne_eq_false_iff_eq.1 hlt2 | skip)
    · repeat (first | refine RunL.pureI Tryd.tOk rfl rfl rfl (by (first | exact wr_i64 (by omega) (by omega) | exact wm_i64 (by omega) | exact wq_i64 (by omega) (by omega) (by omega) | rfl)) ?_ | refine RunE.seq ?_ | refine RunE.region ?_ | refine RunE.block ?_ | refine RunE.skip ?_)
      refine RunL.val rfl rfl rfl (OpV.indexA1 Tryd.tOk (k + 1) rfl rfl rfl (by omega) (by omega)) ?_
      refine RunL.val rfl rfl rfl (OpV.load1 Tryd.tOk rfl rfl rfl (Z4.row (k + 1) _ (vals_get _ (by omega)))) ?_
      repeat (first | refine RunL.pureI Tryd.tOk rfl rfl rfl (by (first | exact wr_i64 (by omega) (by omega) | exact wm_i64 (by omega) | exact wq_i64 (by omega) (by omega) (by omega) | rfl)) ?_ | refine RunE.seq ?_ | refine RunE.region ?_ | refine RunL.nil ?_)
      refine RunL.val rfl rfl rfl (OpV.indexA1 Tryd.tOk (k + 14) rfl rfl rfl (by omega) (by omega)) ?_
      refine RunL.val rfl rfl rfl (OpV.load1 Tryd.tOk rfl rfl rfl (Z4.row (k + 14) _ (vals_get _ (by omega)))) ?_
      repeat (first | refine RunL.pureI Tryd.tOk rfl rfl rfl (by (first | exact wr_i64 (by omega) (by omega) | exact wm_i64 (by omega) | exact wq_i64 (by omega) (by omega) (by omega) | rfl)) ?_ | refine RunL.nil ?_)
      refine RunE.draw (fun _ => False) mix ?_
      intro w8 X8
      have Z8 := Z4.ext X8 id
      repeat (first | refine Asy.pureI Tryd.tOk rfl rfl rfl (by (first | exact wr_i64 (by omega) (by omega) | exact wm_i64 (by omega) | exact wq_i64 (by omega) (by omega) (by omega) | rfl)) ?_)
      refine Asy.v rfl rfl rfl rfl (fun _ _ => OpV.indexA1 Tryd.tOk k rfl rfl rfl (by omega) (by omega)) ?_
      refine Asy.v rfl rfl rfl rfl (fun _ X' => OpV.load1 Tryd.tOk rfl rfl rfl ((Z8.ext X' id).row k _ (vals_get _ (by omega)))) ?_
      repeat (first | refine Asy.pureI Tryd.tOk rfl rfl rfl (by (first | exact wr_i64 (by omega) (by omega) | exact wm_i64 (by omega) | exact wq_i64 (by omega) (by omega) (by omega) | rfl)) ?_)
      refine Asy.val rfl rfl rfl rfl (fun _ _ => OpE.call rfl (ror_ok _ 7 (by decide) _)) ?_
      repeat (first | refine Asy.pureI Tryd.tOk rfl rfl rfl (by (first | exact wr_i64 (by omega) (by omega) | exact wm_i64 (by omega) | exact wq_i64 (by omega) (by omega) (by omega) | rfl)) ?_)
      refine Asy.val rfl rfl rfl rfl (fun _ _ => OpE.call rfl (ror_ok _ 18 (by decide) _)) ?_
      repeat (first | refine Asy.v rfl rfl rfl rfl (fun _ X_ => OpV.xor32 rfl rfl) ?_ | refine Asy.v rfl rfl rfl rfl (fun _ X_ => OpV.add32 rfl rfl) ?_ | refine Asy.v rfl rfl rfl rfl (fun _ X_ => OpV.shr32 rfl rfl rfl) ?_ | refine Asy.pureI Tryd.tOk rfl rfl rfl (by (first | exact wr_i64 (by omega) (by omega) | exact wm_i64 (by omega) | exact wq_i64 (by omega) (by omega) (by omega) | rfl)) ?_)
      refine Asy.v rfl rfl rfl rfl (fun _ _ => OpV.indexA1 Tryd.tOk (k + 9) rfl rfl rfl (by omega) (by omega)) ?_
      refine Asy.v rfl rfl rfl rfl (fun _ X' => OpV.load1 Tryd.tOk rfl rfl rfl ((Z8.ext X' id).row (k + 9) _ (vals_get _ (by omega)))) ?_
      repeat (first | refine Asy.v rfl rfl rfl rfl (fun _ X_ => OpV.add32 rfl rfl) ?_ | refine Asy.pureI Tryd.tOk rfl rfl rfl (by (first | exact wr_i64 (by omega) (by omega) | exact wm_i64 (by omega) | exact wq_i64 (by omega) (by omega) (by omega) | rfl)) ?_)
      refine Asy.val rfl rfl rfl rfl (fun _ _ => OpE.call rfl (ror_ok _ 17 (by decide) _)) ?_
      repeat (first | refine Asy.pureI Tryd.tOk rfl rfl rfl (by (first | exact wr_i64 (by omega) (by omega) | exact wm_i64 (by omega) | exact wq_i64 (by omega) (by omega) (by omega) | rfl)) ?_)
      refine Asy.val rfl rfl rfl rfl (fun _ _ => OpE.call rfl (ror_ok _ 19 (by decide) _)) ?_
      repeat (first | refine Asy.v rfl rfl rfl rfl (fun _ X_ => OpV.xor32 rfl rfl) ?_ | refine Asy.v rfl rfl rfl rfl (fun _ X_ => OpV.add32 rfl rfl) ?_ | refine Asy.v rfl rfl rfl rfl (fun _ X_ => OpV.shr32 rfl rfl rfl) ?_ | refine Asy.pureI Tryd.tOk rfl rfl rfl (by (first | exact wr_i64 (by omega) (by omega) | exact wm_i64 (by omega) | exact wq_i64 (by omega) (by omega) (by omega) | rfl)) ?_)
      refine Asy.tail (by kernel_rfl) ?_
      intro w9 X9
      simp only [satsAll]
      refine RunL.val rfl rfl rfl (OpV.indexA1 Tryd.tOk (16 + k) rfl rfl rfl rfl (by omega)) ?_
      refine RunL.store Tryd.tOk rfl rfl rfl rfl rfl (Z8.ext X9 id) (by simp [vals_length, hsl, Value.cells]; omega) rfl fun w10 t10 => ?_
      have X10 : Ext w w10 := (X4.trans (X8.trans X9)).write t10.ext (by intro i hi hlt; subst hi; omega)
      have S10 := (S4.ext (X8.trans X9) id).ext t10.ext (by omega)
      have R10 := (R4.ext (X8.trans X9) id).ext t10.ext (by omega)
      have Z10 : Blk w10 B5 (vals (sched (words l 16) (k + 1) ++ List.replicate (48 - (k + 1)) 0)) 179 := by
        have := t10.at_
        have e := set_at (n := 48 - (k + 1)) (nextW (sched (words l 16) k) k) hsl
        rw [show 48 - (k + 1) + 1 = 48 - k by omega] at e
        unfold Blk
        rw [sched, ← e, this]
        rw [Nat.zero_add]
        rfl
      repeat (first | refine RunL.pureI Tryd.tOk rfl rfl rfl (by (first | exact wr_i64 (by omega) (by omega) | exact wm_i64 (by omega) | exact wq_i64 (by omega) (by omega) (by omega) | rfl)) ?_ | refine RunE.region ?_ | refine RunL.nil ?_ | refine RunE.inBlock ?_)
      exact RunE.weaken (by repeat (first | exact Sub.nil _ | refine Sub.cons rfl ?_)) (again (k + 1) _ (by omega) ⟨by omega, X10, S10, R10, Z10⟩)
    · have hk : k = 48 := by omega
      subst hk
      clear again
      repeat (first | refine RunE.seq ?_ | refine RunE.region ?_ | refine RunE.exit rfl ?_)
      refine RunL.call rfl rfl rfl (numbers_ok _) ?_
      rintro _ w5 ⟨rfl, X5⟩
      refine RunL.alloc Tryd.tOk rfl rfl rfl fun B10 w6 a6 => ?_
      refine RunL.store (v := .agg (vals kTab).toArray) Tryd.tOk rfl rfl rfl rfl rfl (cs := List.replicate 64 (.int .u32 0)) a6.at_ rfl rfl fun w7 t7 => ?_
      have hB10 := a6.eq
      have y5 := X5.size
      have lt5 := Z4.lt
      have X7 : Ext w w7 := ((X4.trans X5).trans a6.ext).write t7.ext (by intro i hi hlt; subst hi; have := X4.size; omega)
      have S7 := (S4.ext (X5.trans a6.ext) id).ext t7.ext (by have := S4.lt; omega)
      have R7 := (R4.ext (X5.trans a6.ext) id).ext t7.ext (by have := R4.lt; omega)
      have Z7 := (Z4.ext (X5.trans a6.ext) id).ext t7.ext (by omega)
      have K7 : Blk w7 B10 (vals kTab) 179 := by
        have := t7.at_
        rw [show (Value.agg (vals kTab).toArray).cells.toList = vals kTab from rfl, setAt_all _ _ (by rw [vals_length]; rfl)] at this
        exact this
      clear X4 S4 R4 Z4 X5 a6 t7
      generalize hws : sched (words l 16) 48 = ws at Z7 hsl
      repeat (first | refine RunE.seq ?_ | refine RunL.nil ?_)
      refine RunE.draw (fun _ => False) mix ?_
      intro w8 X8
      have S8 := S7.ext X8 id
      repeat (first | refine Asy.pureI Tryd.tOk rfl rfl rfl (by (first | exact wr_i64 (by omega) (by omega) | exact wm_i64 (by omega) | exact wq_i64 (by omega) (by omega) (by omega) | rfl)) ?_ | refine Asy.v rfl rfl rfl rfl (fun _ X_ => OpV.indexAK Tryd.tOk rfl rfl rfl rfl) ?_ | refine Asy.v rfl rfl rfl rfl (fun _ X_ => OpV.load1 Tryd.tOk rfl rfl rfl (Blk.cell (S8.ext X_ id) rfl)) ?_)
      refine Asy.tail (by kernel_rfl) ?_
      intro w9 X9
      simp only [satsAll]
      repeat (first | refine RunL.pureI Tryd.tOk rfl rfl rfl (by (first | exact wr_i64 (by omega) (by omega) | exact wm_i64 (by omega) | exact wq_i64 (by omega) (by omega) (by omega) | rfl)) ?_ | refine RunE.seq ?_ | refine RunE.region ?_ | refine RunL.nil ?_ | refine RunE.block ?_)
      have Y9 := X8.trans X9
      have X10 := X7.trans Y9
      have S10 := S7.ext Y9 id
      have R10 := R7.ext Y9 id
      have Z10 := Z7.ext Y9 id
      have K10 := K7.ext Y9 id
      clear X7 S7 R7 Z7 K7 X8 X9 Y9 S8
      refine RunE.loop (ι := Nat) (fun t => [(2, .pointer (some ⟨B2, 0, none⟩)), (4, .pointer (some ⟨B4, 0, none⟩)), (5, .pointer (some ⟨B5, 0, none⟩)), (10, .pointer (some ⟨B10, 0, none⟩)), (11, .int .u32 ((rnds ws s t).a.toNat : Int)),
          (12, .int .u32 ((rnds ws s t).b.toNat : Int)), (13, .int .u32 ((rnds ws s t).c.toNat : Int)), (14, .int .u32 ((rnds ws s t).d.toNat : Int)), (15, .int .u32 ((rnds ws s t).e.toNat : Int)), (16, .int .u32 ((rnds ws s t).f.toNat : Int)),
          (17, .int .u32 ((rnds ws s t).g.toNat : Int)), (18, .int .u32 ((rnds ws s t).h.toNat : Int)), (19, .int .i64 (t : Int))])
        (fun t w' => t ≤ 64 ∧ Ext w w' ∧ Blk w' B2 (vals s.l) 170 ∧ Blk w' B4 (List.replicate 8 (.int .u32 0)) 170 ∧ Blk w' B5 (vals (ws ++ [])) 179 ∧ Blk w' B10 (vals (kTab ++ [])) 179) (fun t => 64 - t) 0 (by repeat (first | exact Sub.nil _ | refine Sub.cons rfl ?_)) ⟨by omega, X10, S10, R10, Z10, K10⟩ ?_
      clear X10 S10 R10 Z10 K10
      rintro t u0 ⟨ht, X0, S0, R0, Z0, K0⟩ again
      repeat (first | refine RunL.pureI Tryd.tOk rfl rfl rfl (by (first | exact wr_i64 (by omega) (by omega) | exact wm_i64 (by omega) | exact wq_i64 (by omega) (by omega) (by omega) | rfl)) ?_ | refine RunL.pure Tryd.tOk rfl rfl rfl ?_ | refine RunE.seq ?_ | refine RunE.region ?_ | refine RunL.nil ?_)
      refine RunE.cond rfl (fun hlt3 => ?_) (fun hlt3 => ?_) <;> (first | replace hlt3 := of_decide_eq_true hlt3 | replace hlt3 := of_decide_eq_false hlt3 | replace hlt3 := beq_iff_eq.1 hlt3 | replace hlt3 := beq_eq_false_iff_ne.1 hlt3 | replace hlt3 := bne_iff_ne.1 hlt3 | replace hlt3 := bne_eq_false_iff_eq.1 hlt3 | skip)
      · have ht' : t < kTab.length := by simp [kTab]; omega
        repeat (first | refine RunE.seq ?_ | refine RunE.block ?_ | refine RunE.skip ?_)
        refine RunE.draw (fun _ => False) mix ?_
        intro u1 X1
        repeat (first | refine Asy.pureI Tryd.tOk rfl rfl rfl (by (first | exact wr_i64 (by omega) (by omega) | exact wm_i64 (by omega) | exact wq_i64 (by omega) (by omega) (by omega) | rfl)) ?_)
        refine Asy.val rfl rfl rfl rfl (fun _ _ => OpE.call rfl (ror_ok _ 6 (by decide) _)) ?_
        repeat (first | refine Asy.pureI Tryd.tOk rfl rfl rfl (by (first | exact wr_i64 (by omega) (by omega) | exact wm_i64 (by omega) | exact wq_i64 (by omega) (by omega) (by omega) | rfl)) ?_)
        refine Asy.val rfl rfl rfl rfl (fun _ _ => OpE.call rfl (ror_ok _ 11 (by decide) _)) ?_
        repeat (first | refine Asy.v rfl rfl rfl rfl (fun _ X_ => OpV.xor32 rfl rfl) ?_ | refine Asy.pureI Tryd.tOk rfl rfl rfl (by (first | exact wr_i64 (by omega) (by omega) | exact wm_i64 (by omega) | exact wq_i64 (by omega) (by omega) (by omega) | rfl)) ?_)
        refine Asy.val rfl rfl rfl rfl (fun _ _ => OpE.call rfl (ror_ok _ 25 (by decide) _)) ?_
        repeat (first | refine Asy.v rfl rfl rfl rfl (fun _ X_ => OpV.xor32 rfl rfl) ?_ | refine Asy.v rfl rfl rfl rfl (fun _ X_ => OpV.and32 rfl rfl) ?_ | refine Asy.v rfl rfl rfl rfl (fun _ X_ => OpV.add32 rfl rfl) ?_ | refine Asy.pureI Tryd.tOk rfl rfl rfl (by (first | exact wr_i64 (by omega) (by omega) | exact wm_i64 (by omega) | exact wq_i64 (by omega) (by omega) (by omega) | rfl)) ?_)
        refine Asy.v rfl rfl rfl rfl (fun _ _ => OpV.compl rfl (u32_compl _)) ?_
        repeat (first | refine Asy.v rfl rfl rfl rfl (fun _ X_ => OpV.xor32 rfl rfl) ?_ | refine Asy.v rfl rfl rfl rfl (fun _ X_ => OpV.and32 rfl rfl) ?_ | refine Asy.v rfl rfl rfl rfl (fun _ X_ => OpV.add32 rfl rfl) ?_ | refine Asy.pureI Tryd.tOk rfl rfl rfl (by (first | exact wr_i64 (by omega) (by omega) | exact wm_i64 (by omega) | exact wq_i64 (by omega) (by omega) (by omega) | rfl)) ?_)
        refine Asy.v rfl rfl rfl rfl (fun _ _ => OpV.indexA1 Tryd.tOk t rfl rfl rfl rfl (by omega)) ?_
        refine Asy.v rfl rfl rfl rfl (fun _ X' => OpV.load1 Tryd.tOk rfl rfl rfl (((K0.ext X1 id).ext X' id).row t _ (vals_get _ ht'))) ?_
        repeat (first | refine Asy.v rfl rfl rfl rfl (fun _ X_ => OpV.add32 rfl rfl) ?_ | refine Asy.pureI Tryd.tOk rfl rfl rfl (by (first | exact wr_i64 (by omega) (by omega) | exact wm_i64 (by omega) | exact wq_i64 (by omega) (by omega) (by omega) | rfl)) ?_)
        refine Asy.v rfl rfl rfl rfl (fun _ _ => OpV.indexA1 Tryd.tOk t rfl rfl rfl rfl (by omega)) ?_
        refine Asy.v rfl rfl rfl rfl (fun _ X' => OpV.load1 Tryd.tOk rfl rfl rfl (((Z0.ext X1 id).ext X' id).row t _ (vals_get _ (by omega)))) ?_
        repeat (first | refine Asy.v rfl rfl rfl rfl (fun _ X_ => OpV.add32 rfl rfl) ?_ | refine Asy.pureI Tryd.tOk rfl rfl rfl (by (first | exact wr_i64 (by omega) (by omega) | exact wm_i64 (by omega) | exact wq_i64 (by omega) (by omega) (by omega) | rfl)) ?_)
        refine Asy.tail (by kernel_rfl) ?_
        intro u2 X2
        simp only [satsAll]
        have Y2 := X1.trans X2
        clear X1 X2
        repeat (first | refine RunL.pureI Tryd.tOk rfl rfl rfl (by (first | exact wr_i64 (by omega) (by omega) | exact wm_i64 (by omega) | exact wq_i64 (by omega) (by omega) (by omega) | rfl)) ?_ | refine RunE.seq ?_ | refine RunE.region ?_ | refine RunL.nil ?_)
        refine RunL.call rfl rfl rfl (ror_ok _ 2 (by decide) _) ?_
        rintro _ u3 ⟨rfl, X3⟩
        repeat (first | refine RunL.pureI Tryd.tOk rfl rfl rfl (by (first | exact wr_i64 (by omega) (by omega) | exact wm_i64 (by omega) | exact wq_i64 (by omega) (by omega) (by omega) | rfl)) ?_)
        refine RunL.call rfl rfl rfl (ror_ok _ 13 (by decide) _) ?_
        rintro _ u4 ⟨rfl, X4⟩
        repeat (first | refine RunL.val rfl rfl rfl (OpV.xor32 rfl rfl) ?_ | refine RunL.pureI Tryd.tOk rfl rfl rfl (by (first | exact wr_i64 (by omega) (by omega) | exact wm_i64 (by omega) | exact wq_i64 (by omega) (by omega) (by omega) | rfl)) ?_)
        refine RunL.call rfl rfl rfl (ror_ok _ 22 (by decide) _) ?_
        rintro _ u5 ⟨rfl, X5⟩
        have Y5 := ((Y2.trans X3).trans X4).trans X5
        repeat (first | refine RunL.val rfl rfl rfl (OpV.xor32 rfl rfl) ?_ | refine RunL.val rfl rfl rfl (OpV.and32 rfl rfl) ?_ | refine RunL.val rfl rfl rfl (OpV.add32 rfl rfl) ?_ | refine RunL.pureI Tryd.tOk rfl rfl rfl (by (first | exact wr_i64 (by omega) (by omega) | exact wm_i64 (by omega) | exact wq_i64 (by omega) (by omega) (by omega) | rfl)) ?_ | refine RunE.region ?_ | refine RunL.nil ?_ | refine RunE.inBlock ?_)
        refine RunE.weaken (by repeat (first | exact Sub.nil _ | refine Sub.cons rfl ?_)) (again (t + 1) _ (by omega) ⟨by omega, X0.trans Y5, S0.ext Y5 id, R0.ext Y5 id, Z0.ext Y5 id, K0.ext Y5 id⟩)
      · have ht64 : t = 64 := by omega
        subst ht64
        clear again
        have hbl : block s l = s.add (rnds ws s 64) := by rw [block, hws]
        generalize rnds ws s 64 = v at hbl ⊢
        repeat (first | refine RunL.val rfl rfl rfl (OpV.add32 rfl rfl) ?_ | refine RunL.pureI Tryd.tOk rfl rfl rfl (by (first | exact wr_i64 (by omega) (by omega) | exact wm_i64 (by omega) | exact wq_i64 (by omega) (by omega) (by omega) | rfl)) ?_ | refine RunL.pure Tryd.tOk rfl rfl rfl ?_ | refine RunL.val rfl rfl rfl (OpV.indexAK Tryd.tOk rfl rfl rfl rfl) ?_ | refine RunL.val rfl rfl rfl (OpV.load1 Tryd.tOk rfl rfl rfl (Blk.cell S0 rfl)) ?_ | refine RunE.seq ?_ | refine RunE.region ?_ | refine RunE.exit rfl ?_)
        refine RunL.store Tryd.tOk rfl rfl rfl rfl rfl R0 rfl rfl fun u1 t1 => ?_
        have X1 : Ext w u1 := X0.write t1.ext (by intro i hi hlt; subst hi; omega)
        repeat (first | refine RunL.nil ?_)
        refine RunE.retFn Tryd.func139 (.cell rfl (.agg Tryd.tOk rfl rfl rfl (Blk.row (show Blk u1 B4 (vals (s.add v).l) _ from t1.at_))) .nil) ⟨?_, X1⟩
        rw [hbl]; rfl

set_option maxRecDepth 4000 in
theorem padded_ok (v : Value) (l : List UInt8) (w : World) (hv : IsSl w 1 v l.length (bytesV l)) (hl : l.length ≤ 1000000000) :
    Rets Tryd.prog 138 [v] w fun r w' => w'.ownsRow w.heap.size 5 1 r (pad l).length (bytesV (pad l)) ∧ Ext w w' := by
  refine RetsX.of (nt := 35) Tryd.func138 (by kernel_rfl) rfl rfl (by simp) (by simp only [argEnv]; rfl) ?_
  repeat (first | refine RunL.pure Tryd.tOk rfl rfl rfl ?_ | refine RunE.seq ?_ | refine RunE.region ?_ | refine RunL.nil ?_)
  refine RunL.ex rfl rfl rfl (OpE.buildSl Tryd.tOk [] rfl rfl rfl rfl rfl rfl (by simp)) ?_
  rintro _ w1 ⟨B6, rfl, a1⟩
  have O1 := ownsRow_added (n := 0) (sz := 1) a1 (Nat.le_of_eq a1.eq.symm) rfl (by simp [maxLen])
  have X1 := a1.ext
  clear a1
  repeat (first | refine RunL.pure Tryd.tOk rfl rfl rfl ?_)
  refine RunL.ex rfl rfl rfl (OpE.append Tryd.tOk rfl rfl rfl rfl rfl rfl O1 (hv.extE X1) (bytesV_plain _) (by show _ * 1 ≤ _; omega) (by omega) X1.size) ?_
  rintro v2 w2 ⟨O2, E2⟩
  have X2 : Ext w w2 := X1.write E2 (by intro i hi hlt; have := ownsRow_ge O1 hi; omega)
  clear O1 X1 E2
  refine RunL.ex rfl rfl rfl (OpE.buildSl Tryd.tOk [.int .u8 128] rfl rfl rfl rfl rfl rfl (by simp [Value.cells])) ?_
  rintro _ w3 ⟨B9, rfl, a3⟩
  have X3 := X2.trans a3.ext
  have O3 := ownsRow_ext O2 a3.ext (fun _ _ h => h)
  refine RunL.ex rfl rfl rfl (OpE.append Tryd.tOk rfl rfl rfl rfl rfl rfl O3 (isSl_added (n := 1) (sz := 1) a3 rfl) rfl (by show _ * 1 ≤ _; omega) (by omega) X3.size) ?_
  rintro v4 w4 ⟨O4, E4⟩
  have X4 : Ext w w4 := X3.write E4 (by intro i hi hlt; have := ownsRow_ge O3 hi; omega)
  clear X2 X3 O2 O3 a3 E4
  repeat (first | refine RunL.pure Tryd.tOk rfl rfl rfl ?_ | refine RunE.seq ?_ | refine RunL.nil ?_ | refine RunE.block ?_)
  have O4' : w4.ownsRow w.heap.size 5 1 v4 (l.length + 1 + 0) (bytesV (l ++ 128 :: List.replicate 0 0)) := by
    rw [bytesV_append]; simpa [cellsAll, Value.cells, bytesV] using O4
  have hz64 : padz l.length < 64 := by unfold padz; omega
  refine RunE.loop (ι := Nat × Value) (fun x => [(0, v), (3, x.2)])
    (fun x w' => x.1 ≤ padz l.length ∧ Ext w w' ∧ w'.ownsRow w.heap.size 5 1 x.2 (l.length + 1 + x.1) (bytesV (l ++ 128 :: List.replicate x.1 0))) (fun x => padz l.length - x.1) (0, v4) (by repeat (first | exact Sub.nil _ | refine Sub.cons rfl ?_)) ⟨by simp, X4, O4'⟩ ?_
  clear O4 O4' X4
  rintro ⟨j, u⟩ w5 ⟨hj, X5, O5⟩ again
  simp only at hj O5 again ⊢
  repeat (first | refine RunL.pure Tryd.tOk rfl rfl rfl ?_ | refine RunE.seq ?_ | refine RunE.region ?_)
  refine RunL.val rfl rfl rfl (OpV.lenSl Tryd.tOk rfl rfl (isSl_own O5)) ?_
  repeat (first | refine RunL.pureI Tryd.tOk rfl rfl rfl (by (first | exact wr_i64 (by omega) (by omega) | exact wm_i64 (by omega) | exact wq_i64 (by omega) (by omega) (by omega) | rfl)) ?_ | refine RunL.pure Tryd.tOk rfl rfl rfl ?_ | refine RunL.nil ?_)
  refine RunE.cond rfl (fun hne => ?_) (fun hne => ?_) <;> (first | replace hne := of_decide_eq_true hne | replace hne := of_decide_eq_false hne | replace hne := beq_iff_eq.1 hne | replace hne := beq_eq_false_iff_ne.1 hne | replace hne := bne_iff_ne.1 hne | replace hne := bne_eq_false_iff_eq.1 hne | skip)
  · have hj' : j < padz l.length := by
      rcases Nat.lt_or_ge j (padz l.length) with h | h
      · exact h
      · exfalso; apply hne; have : j = padz l.length := by omega
        subst this; unfold padz; omega
    repeat (first | refine RunL.pure Tryd.tOk rfl rfl rfl ?_ | refine RunE.region ?_ | refine RunE.block ?_ | refine RunE.skip ?_)
    refine RunL.ex rfl rfl rfl (OpE.buildSl Tryd.tOk [.int .u8 0] rfl rfl rfl rfl rfl rfl (by simp [Value.cells])) ?_
    rintro _ w6 ⟨B16, rfl, a6⟩
    have X6 := X5.trans a6.ext
    have O6 := ownsRow_ext O5 a6.ext (fun _ _ h => h)
    refine RunL.ex rfl rfl rfl (OpE.append Tryd.tOk rfl rfl rfl rfl rfl rfl O6 (isSl_added (n := 1) (sz := 1) a6 rfl) rfl (by show _ * 1 ≤ _; omega) (by omega) X6.size) ?_
    rintro u7 w7 ⟨O7, E7⟩
    have X7 : Ext w w7 := X6.write E7 (by intro i hi hlt; have := ownsRow_ge O6 hi; omega)
    repeat (first | refine RunL.pure Tryd.tOk rfl rfl rfl ?_ | refine RunL.nil ?_ | refine RunE.inBlock ?_)
    refine RunE.weaken (by repeat (first | exact Sub.nil _ | refine Sub.cons rfl ?_)) (again (j + 1, u7) _ (by simp only; omega) ⟨by simp only; omega, X7, ?_⟩)
    simp only
    have e : l ++ 128 :: List.replicate (j + 1) (0 : UInt8) = (l ++ 128 :: List.replicate j 0) ++ [0] := by rw [List.replicate_succ']; simp
    rw [e, bytesV_append]
    exact O7
  · have hjz : j = padz l.length := by unfold padz at hj ⊢; omega
    subst hjz
    clear again
    repeat (first | refine RunL.pure Tryd.tOk rfl rfl rfl ?_ | refine RunE.seq ?_ | refine RunE.region ?_ | refine RunE.exit rfl ?_)
    refine RunL.val rfl rfl rfl (OpV.lenSl Tryd.tOk rfl rfl hv) ?_
    repeat (first | refine RunL.pureI Tryd.tOk rfl rfl rfl (by (first | exact u64_nat _ (by omega) | exact u64_mul _ 8 (by omega) | exact wr_i64 (by omega) (by omega) | exact wm_i64 (by omega) | exact wq_i64 (by omega) (by omega) (by omega) | rfl)) ?_ | refine RunE.seq ?_ | refine RunE.region ?_ | refine RunL.nil ?_ | refine RunE.block ?_)
    rw [Nat.mul_comm l.length 8]
    refine RunE.loop (ι := Nat × Value) (fun x => [(3, x.2), (4, .int .u64 ((8 * l.length : Nat) : Int)), (5, .int .i64 (7 - (x.1 : Int)))])
      (fun x w' => x.1 ≤ 8 ∧ Ext w w' ∧ w'.ownsRow w.heap.size 5 1 x.2 (l.length + 1 + padz l.length + x.1) (bytesV (l ++ 128 :: (List.replicate (padz l.length) 0 ++ (be 8 (8 * l.length)).take x.1)))) (fun x => 8 - x.1) (0, u) (by repeat (first | exact Sub.nil _ | refine Sub.cons rfl ?_))
      ⟨by simp, X5, by simpa using O5⟩ ?_
    clear O5 X5
    rintro ⟨k, u⟩ w5 ⟨hk, X5, O5⟩ again
    simp only at hk O5 again ⊢
    repeat (first | refine RunL.pureI Tryd.tOk rfl rfl rfl (by (first | exact wr_i64 (by omega) (by omega) | exact wm_i64 (by omega) | exact wq_i64 (by omega) (by omega) (by omega) | rfl)) ?_ | refine RunL.pure Tryd.tOk rfl rfl rfl ?_ | refine RunE.seq ?_ | refine RunE.region ?_ | refine RunL.nil ?_)
    refine RunE.cond rfl (fun hge => ?_) (fun hge => ?_) <;> (first | replace hge := of_decide_eq_true hge | replace hge := of_decide_eq_false hge | replace hge := beq_iff_eq.1 hge | replace hge := beq_eq_false_iff_ne.1 hge | replace hge := bne_iff_ne.1 hge | replace hge := bne_eq_false_iff_eq.1 hge | skip)
    · have hk8 : k < 8 := by omega
      have e7 : (8 : Int) * (7 - (k : Int)) = ((8 * (7 - k) : Nat) : Int) := by omega
      repeat (first | refine RunL.pureI Tryd.tOk rfl rfl rfl (by (first | exact (congrArg IntKind.i64.wrap e7).trans (wr_i64 (by omega) (by omega)) | exact u64_shr _ _ (by omega) | exact u8_of_nat _ | exact wr_i64 (by omega) (by omega) | exact wm_i64 (by omega) | exact wq_i64 (by omega) (by omega) (by omega) | rfl)) ?_ | refine RunL.pure Tryd.tOk rfl rfl rfl ?_ | refine RunE.seq ?_ | refine RunE.region ?_ | refine RunE.block ?_ | refine RunE.skip ?_)
      refine RunL.ex rfl rfl rfl (OpE.buildSl Tryd.tOk [.int .u8 ((UInt8.ofNat (8 * l.length / 2 ^ (8 * (7 - k)))).toNat : Int)] rfl rfl rfl rfl rfl rfl (by simp [Value.cells])) ?_
      rintro _ w6 ⟨B16, rfl, a6⟩
      have X6 := X5.trans a6.ext
      have O6 := ownsRow_ext O5 a6.ext (fun _ _ h => h)
      refine RunL.ex rfl rfl rfl (OpE.append Tryd.tOk rfl rfl rfl rfl rfl rfl O6 (isSl_added (n := 1) (sz := 1) a6 rfl) rfl (by show _ * 1 ≤ _; omega) (by omega) X6.size) ?_
      rintro u7 w7 ⟨O7, E7⟩
      have X7 : Ext w w7 := X6.write E7 (by intro i hi hlt; have := ownsRow_ge O6 hi; omega)
      repeat (first | refine RunL.pureI Tryd.tOk rfl rfl rfl (by (first | exact wr_i64 (by omega) (by omega) | exact wm_i64 (by omega) | exact wq_i64 (by omega) (by omega) (by omega) | rfl)) ?_ | refine RunL.pure Tryd.tOk rfl rfl rfl ?_ | refine RunE.region ?_ | refine RunL.nil ?_ | refine RunE.inBlock ?_)
      refine RunE.weaken (by
        refine Sub.cons rfl (Sub.cons rfl (Sub.cons ?_ (Sub.nil _)))
        rw [show (7 : Int) - ((k + 1 : Nat) : Int) = 7 - (k : Int) - 1 by omega]; rfl) (again (k + 1, u7) _ (by simp only; omega) ⟨by simp only; omega, X7, ?_⟩)
      simp only
      have e : (be 8 (8 * l.length)).take (k + 1) = (be 8 (8 * l.length)).take k ++ [UInt8.ofNat (8 * l.length / 2 ^ (8 * (7 - k)))] := by
        rw [List.take_add_one, be_get _ _ _ hk8]; rfl
      have e2 : l ++ 128 :: (List.replicate (padz l.length) 0 ++ (be 8 (8 * l.length)).take (k + 1)) = (l ++ 128 :: (List.replicate (padz l.length) 0 ++ (be 8 (8 * l.length)).take k)) ++ [UInt8.ofNat (8 * l.length / 2 ^ (8 * (7 - k)))] := by rw [e]; simp
      rw [e2, bytesV_append]
      exact O7
    · have hk8 : k = 8 := by omega
      subst hk8
      repeat (first | refine RunL.pure Tryd.tOk rfl rfl rfl ?_ | refine RunE.seq ?_ | refine RunE.region ?_ | refine RunL.nil ?_ | refine RunE.exit rfl ?_)
      refine RunE.retFn Tryd.func138 (.tmp rfl .nil) ⟨?_, X5⟩
      have e : (be 8 (8 * l.length)).take 8 = be 8 (8 * l.length) := rfl
      rw [e] at O5
      simp only [oneOr]
      rw [pad_length, show l.length + 9 + padz l.length = l.length + 1 + padz l.length + 8 by omega]
      exact O5

/-- The words of a state, byte by byte. -/
theorem dig_get (S : S8) (i : Nat) (h : i < 32) : (dig S)[i]? = some (UInt8.ofNat ((S.l.getD (i / 4) 0).toNat / 2 ^ (24 - 8 * (i % 4)))) := by
  have key : ∀ (L : List W) (q r : Nat), r < 4 → q < L.length → (L.flatMap fun x => be 4 x.toNat)[4 * q + r]? = some (UInt8.ofNat ((L.getD q 0).toNat / 2 ^ (8 * (3 - r)))) := by
    intro L
    induction L with
    | nil => intro q r _ hq; simp at hq
    | cons x L ih =>
      intro q r hr hq
      rw [List.flatMap_cons]
      cases q with
      | zero =>
        rw [List.getElem?_append_left (by rw [be_length]; omega), Nat.mul_zero, Nat.zero_add, be_get _ _ _ hr]
        rfl
      | succ q =>
        rw [List.getElem?_append_right (by rw [be_length]; omega), be_length, show 4 * (q + 1) + r - 4 = 4 * q + r by omega]
        rw [ih q r hr (by simpa using hq)]
        simp
  have h8 : S.l.length = 8 := rfl
  have := key S.l (i / 4) (i % 4) (by omega) (by omega)
  rw [show 4 * (i / 4) + i % 4 = i by omega, show 8 * (3 - i % 4) = 24 - 8 * (i % 4) by omega] at this
  exact this

set_option maxRecDepth 4000 in
set_option maxHeartbeats 4000000 in
set_option maxRecDepth 4000 in
theorem rsum_ok (v : Value) (l : List UInt8) (w : World) (hv : IsSl w 1 v l.length (bytesV l)) (hl : l.length ≤ 1000000000) :
    Rets Tryd.prog 137 [v] w fun r w' => r = .agg (bytesV (sha l)).toArray ∧ Ext w w' := by
  refine RetsX.of (nt := 42) Tryd.func137 (by kernel_rfl) rfl rfl (by simp) (by simp only [argEnv]; rfl) ?_
  repeat (first | refine RunE.seq ?_ | refine RunE.region ?_)
  refine RunL.alloc Tryd.tOk rfl rfl rfl fun B2 w1 a1 => ?_
  repeat (first | refine RunL.pure Tryd.tOk rfl rfl rfl ?_ | refine RunE.seq ?_ | refine RunE.region ?_ | refine RunL.nil ?_)
  refine RunL.alloc Tryd.tOk rfl rfl rfl fun B3 w2 a2 => ?_
  refine RunL.store (v := .agg (vals init8.l).toArray) Tryd.tOk rfl rfl rfl rfl rfl (cs := List.replicate 8 (.int .u32 0)) a2.at_ rfl rfl fun w3 t3 => ?_
  have hB2 := a1.eq
  have hB3 := a2.eq
  have hs1 := a1.size
  have X3 : Ext w w3 := (a1.ext.trans a2.ext).write t3.ext (by intro i hi hlt; subst hi; omega)
  have D3 : Blk w3 B2 (bytesV (List.replicate 32 0)) 130 := Blk.ext (Blk.ext (w := w1) (cs := List.replicate 32 (.int .u8 0)) a1.at_ a2.ext id) t3.ext (by omega)
  have V3 : Blk w3 B3 (vals (run init8 (pad l) 0).l) 170 := t3.at_
  clear a1 a2 t3
  repeat (first | refine RunL.pure Tryd.tOk rfl rfl rfl ?_ | refine RunE.seq ?_ | refine RunE.region ?_ | refine RunL.nil ?_)
  refine RunL.call rfl rfl rfl (padded_ok v l w3 (hv.extE X3) hl) ?_
  rintro p w4 ⟨O4, X4⟩
  have hpl := pad_length64 l
  have hpb := pad_length l
  have hz64 : padz l.length < 64 := by unfold padz; omega
  repeat (first | refine RunL.pureI Tryd.tOk rfl rfl rfl (by (first | exact wr_i64 (by omega) (by omega) | exact wm_i64 (by omega) | exact wq_i64 (by omega) (by omega) (by omega) | rfl)) ?_ | refine RunL.pure Tryd.tOk rfl rfl rfl ?_ | refine RunE.seq ?_ | refine RunE.region ?_ | refine RunL.nil ?_ | refine RunE.block ?_)
  refine RunE.loop (ι := Nat) (fun k => [(2, .pointer (some ⟨B2, 0, none⟩)), (3, .pointer (some ⟨B3, 0, none⟩)), (4, p), (5, .int .i64 ((64 * k : Nat) : Int))])
    (fun k w' => 64 * k ≤ (pad l).length ∧ Ext w w' ∧ Blk w' B2 (bytesV (List.replicate 32 0)) 130 ∧ Blk w' B3 (vals (run init8 (pad l) k).l) 170 ∧ w'.ownsRow w3.heap.size 5 1 p (pad l).length (bytesV (pad l)))
    (fun k => (pad l).length - 64 * k) 0 (by repeat (first | exact Sub.nil _ | refine Sub.cons rfl ?_)) ⟨by omega, X3.trans X4, D3.ext X4 id, V3.ext X4 id, O4⟩ ?_
  have hlt3 := V3.lt
  have hlt2 := D3.lt
  clear V3 D3 O4 X4
  rintro k w5 ⟨hk, X5, D5, V5, O5⟩ again
  repeat (first | refine RunL.pureI Tryd.tOk rfl rfl rfl (by (first | exact wr_i64 (by omega) (by omega) | exact wm_i64 (by omega) | exact wq_i64 (by omega) (by omega) (by omega) | rfl)) ?_ | refine RunL.pure Tryd.tOk rfl rfl rfl ?_ | refine RunE.seq ?_ | refine RunE.region ?_)
  refine RunL.val rfl rfl rfl (OpV.lenSl Tryd.tOk rfl rfl (isSl_own O5)) ?_
  repeat (first | refine RunL.pure Tryd.tOk rfl rfl rfl ?_ | refine RunL.nil ?_)
  refine RunE.cond rfl (fun hlt => ?_) (fun hlt => ?_) <;> (first | replace hlt := of_decide_eq_true hlt | replace hlt := of_decide_eq_false hlt | replace hlt := beq_iff_eq.1 hlt | replace hlt := beq_eq_false_iff_ne.1 hlt | replace hlt := bne_iff_ne.1 hlt | replace hlt := bne_eq_false_iff_eq.1 hlt | skip)
  · have hlt' : 64 * k + 64 ≤ (pad l).length := by omega
    obtain ⟨b', o', cap, rfl, hr, hln, hc⟩ := (isSl_own O5).held (by omega)
    repeat (first | refine RunE.seq ?_ | refine RunE.block ?_ | refine RunE.skip ?_)
    refine RunE.draw (fun _ => False) mix ?_
    intro w6 X6
    refine Asy.v rfl rfl rfl rfl (fun _ X' => OpV.loadN (cs := vals (run init8 (pad l) k).l) Tryd.tOk rfl rfl rfl rfl ((V5.ext X6 id).ext X' id).row) ?_
    repeat (first | refine Asy.pureI Tryd.tOk rfl rfl rfl (by (first | exact wr_i64 (by omega) (by omega) | exact wm_i64 (by omega) | exact wq_i64 (by omega) (by omega) (by omega) | rfl)) ?_ | refine Asy.pure Tryd.tOk rfl rfl rfl ?_)
    refine Asy.v rfl rfl rfl rfl (fun _ _ => OpV.sliceSq (lo := 64 * k) (hi := 64 * k + 64) (q := o' + 64 * k) (len := 64) (cap := cap - 64 * k) Tryd.tOk rfl rfl (.some rfl rfl) (.some rfl (by omega)) (by omega) (by omega) (by rw [offOf_lt (by omega)]; omega) (by omega) rfl) ?_
    have sl : IsSl w6 1 (.slice (some ⟨b', o' + 64 * k, none⟩) 64 (cap - 64 * k)) 64 (bytesV (((pad l).drop (64 * k)).take 64)) := by
      refine .row ?_ (by rw [bytesV_length, List.length_take, List.length_drop]; omega) (by omega)
      rw [← bytesV_take, ← bytesV_drop]
      exact ((hr.extE X6).drop _).take _
    refine Asy.val rfl rfl rfl rfl (fun w' X' => OpE.call rfl (rblock_ok (run init8 (pad l) k) (((pad l).drop (64 * k)).take 64) _ _ (by rw [List.length_take, List.length_drop]; omega) (sl.extE X'))) ?_
    refine Asy.tail (by kernel_rfl) ?_
    intro w7 X7
    simp only [satsAll]
    have Y7 := X6.trans X7
    have e8 : run init8 (pad l) (k + 1) = block (run init8 (pad l) k) (((pad l).drop (64 * k)).take 64) := rfl
    rw [← e8]
    refine RunL.store (v := .agg (vals (run init8 (pad l) (k + 1)).l).toArray) Tryd.tOk rfl rfl rfl rfl rfl (V5.ext Y7 id) rfl rfl fun w8 t8 => ?_
    have X8 : Ext w w8 := (X5.trans Y7).write t8.ext (by intro i hi hlt; subst hi; omega)
    have D8 := (D5.ext Y7 id).ext t8.ext (by omega)
    have V8 : Blk w8 B3 (vals (run init8 (pad l) (k + 1)).l) 170 := t8.at_
    have O8 := ownsRow_ext (ownsRow_ext O5 Y7 fun _ _ h => h) t8.ext (by intro j hj e; have := ownsRow_ge O5 hj; omega)
    repeat (first | refine RunL.pureI Tryd.tOk rfl rfl rfl (by (first | exact wr_i64 (by omega) (by omega) | exact wm_i64 (by omega) | exact wq_i64 (by omega) (by omega) (by omega) | rfl)) ?_ | refine RunE.region ?_ | refine RunL.nil ?_ | refine RunE.inBlock ?_)
    refine RunE.weaken (by
      refine Sub.cons rfl (Sub.cons rfl (Sub.cons rfl (Sub.cons ?_ (Sub.nil _))))
      rw [show ((64 * (k + 1) : Nat) : Int) = ((64 * k : Nat) : Int) + 64 by omega]; rfl) (again (k + 1) _ (by omega) ⟨by omega, X8, D8, V8, O8⟩)
  · have hkn : k = (pad l).length / 64 := by omega
    clear again
    have hsha : sha l = dig (run init8 (pad l) k) := by rw [sha, hkn]
    rw [hsha]
    generalize run init8 (pad l) k = S at V5 ⊢
    repeat (first | refine RunL.pure Tryd.tOk rfl rfl rfl ?_ | refine RunE.seq ?_ | refine RunE.region ?_ | refine RunE.exit rfl ?_)
    refine RunL.alloc Tryd.tOk rfl rfl rfl fun B6 w6 a6 => ?_
    have hB6 := a6.eq
    have y5 := X5.size
    have lt2 := D5.lt
    have lt3 := V5.lt
    refine RunL.store (v := .agg (bytesV (List.replicate 32 0)).toArray) Tryd.tOk rfl rfl rfl rfl rfl (cs := List.replicate 32 (.int .u8 0)) a6.at_ rfl rfl fun w7 t7 => ?_
    have X7 : Ext w w7 := (X5.trans a6.ext).write t7.ext (by intro i hi hlt; subst hi; omega)
    have D7 := (D5.ext a6.ext id).ext t7.ext (by omega)
    have V7 := (V5.ext a6.ext id).ext t7.ext (by omega)
    have G7 : Blk w7 B6 (bytesV ((dig S).take 0 ++ List.replicate (32 - 0) 0)) 130 := t7.at_
    clear a6 t7 X5 D5 V5 O5
    have hdl := dig_length S
    repeat (first | refine RunL.pureI Tryd.tOk rfl rfl rfl (by (first | exact wr_i64 (by omega) (by omega) | exact wm_i64 (by omega) | exact wq_i64 (by omega) (by omega) (by omega) | rfl)) ?_ | refine RunE.seq ?_ | refine RunE.region ?_ | refine RunL.nil ?_ | refine RunE.block ?_)
    refine RunE.loop (ι := Nat) (fun i => [(2, .pointer (some ⟨B2, 0, none⟩)), (3, .pointer (some ⟨B3, 0, none⟩)), (6, .pointer (some ⟨B6, 0, none⟩)), (7, .int .i64 (i : Int))])
      (fun i w' => i ≤ 32 ∧ Ext w w' ∧ Blk w' B2 (bytesV (List.replicate 32 0)) 130 ∧ Blk w' B3 (vals S.l) 170 ∧ Blk w' B6 (bytesV ((dig S).take i ++ List.replicate (32 - i) 0)) 130) (fun i => 32 - i) 0 (by repeat (first | exact Sub.nil _ | refine Sub.cons rfl ?_)) ⟨by omega, X7, D7, V7, G7⟩ ?_
    clear X7 D7 V7 G7
    rintro i u0 ⟨hi, X0, D0, V0, G0⟩ again
    repeat (first | refine RunL.pureI Tryd.tOk rfl rfl rfl (by (first | exact wr_i64 (by omega) (by omega) | exact wm_i64 (by omega) | exact wq_i64 (by omega) (by omega) (by omega) | rfl)) ?_ | refine RunL.pure Tryd.tOk rfl rfl rfl ?_ | refine RunE.seq ?_ | refine RunE.region ?_ | refine RunL.nil ?_)
    refine RunE.cond rfl (fun hlt32 => ?_) (fun hlt32 => ?_) <;> (first | replace hlt32 := of_decide_eq_true hlt32 | replace hlt32 := of_decide_eq_false hlt32 | replace hlt32 := beq_iff_eq.1 hlt32 | replace hlt32 := beq_eq_false_iff_ne.1 hlt32 | replace hlt32 := bne_iff_ne.1 hlt32 | replace hlt32 := bne_eq_false_iff_eq.1 hlt32 | skip)
    · have hi32 : i < 32 := by omega
      have h24 : (24 : Int) - 8 * ((i : Int) % 4) = ((24 - 8 * (i % 4) : Nat) : Int) := by omega
      repeat (first | refine RunL.pureI Tryd.tOk rfl rfl rfl (by (first | exact wr_i64 (by omega) (by omega) | exact wm_i64 (by omega) | exact wq_i64 (by omega) (by omega) (by omega) | rfl)) ?_ | refine RunE.seq ?_ | refine RunE.region ?_ | refine RunE.block ?_ | refine RunE.skip ?_)
      refine RunL.val rfl rfl rfl (OpV.indexA1 Tryd.tOk (i / 4) rfl rfl rfl (by omega) (by omega)) ?_
      refine RunL.val rfl rfl rfl (OpV.load1 (v := .int .u32 ((S.l.getD (i / 4) 0).toNat : Int)) Tryd.tOk rfl rfl rfl (by rw [Nat.zero_add]; exact V0.cell (vals_get' (by show i / 4 < 8; omega)))) ?_
      repeat (first | refine RunL.pureI Tryd.tOk rfl rfl rfl (by (first | exact (congrArg IntKind.i64.wrap h24).trans (wr_i64 (by omega) (by omega)) | exact u32_shr' _ _ (by omega) | exact u8_of_nat _ | exact wr_i64 (by omega) (by omega) | exact wm_i64 (by omega) | exact wq_i64 (by omega) (by omega) (by omega) | rfl)) ?_)
      refine RunL.val rfl rfl rfl (OpV.indexA1 Tryd.tOk i rfl rfl rfl rfl (by omega)) ?_
      have eG : (dig S).take i ++ List.replicate (32 - i) 0 = (dig S).take i ++ 0 :: List.replicate (32 - (i + 1)) 0 := by rw [show 32 - i = (32 - (i + 1)) + 1 by omega, List.replicate_succ]
      rw [eG] at G0
      refine RunL.store Tryd.tOk rfl rfl rfl rfl rfl G0 (by simp [bytesV_length, Value.cells, hdl]; omega) rfl fun u1 t1 => ?_
      have X1 : Ext w u1 := X0.write t1.ext (by intro i hi hlt; subst hi; omega)
      have D1 := D0.ext t1.ext (by omega)
      have V1 := V0.ext t1.ext (by omega)
      have G1 : Blk u1 B6 (bytesV ((dig S).take (i + 1) ++ List.replicate (32 - (i + 1)) 0)) 130 := by
        have := t1.at_
        have e := set_byte ((dig S).take i) (List.replicate (32 - (i + 1)) 0) 0 (UInt8.ofNat ((S.l.getD (i / 4) 0).toNat / 2 ^ (24 - 8 * (i % 4)))) i (by rw [List.length_take, hdl]; omega)
        unfold Blk
        rw [List.take_add_one, dig_get S i hi32, List.append_assoc]
        rw [Nat.zero_add] at this
        rw [this]
        exact congrArg (fun x : List Value => some (Obj.cells x.toArray 130 (0, 0))) e
      repeat (first | refine RunL.pureI Tryd.tOk rfl rfl rfl (by (first | exact wr_i64 (by omega) (by omega) | exact wm_i64 (by omega) | exact wq_i64 (by omega) (by omega) (by omega) | rfl)) ?_ | refine RunE.region ?_ | refine RunL.nil ?_ | refine RunE.inBlock ?_)
      exact RunE.weaken (by repeat (first | exact Sub.nil _ | refine Sub.cons rfl ?_)) (again (i + 1) _ (by omega) ⟨by omega, X1, D1, V1, G1⟩)
    · have hi32 : i = 32 := by omega
      subst hi32
      have Gf : Blk u0 B6 (bytesV (dig S)) 130 := by
        rw [List.take_of_length_le (by omega)] at G0; simpa using G0
      clear G0
      generalize dig S = D at Gf hdl ⊢
      repeat (first | refine RunE.seq ?_ | refine RunE.region ?_ | refine RunE.exit rfl ?_)
      refine RunL.val rfl rfl rfl (OpV.loadN (cs := bytesV D) Tryd.tOk rfl rfl rfl (by rw [bytesV_length]; exact hdl) Gf.row) ?_
      refine RunL.store (v := .agg (bytesV D).toArray) Tryd.tOk rfl rfl rfl rfl (by simp [Value.cells, bytesV_length, hdl]) D0 (by simp [Value.cells, bytesV_length, hdl]) (by simp [Value.cells, bytesV_plain]) fun u2 t2 => ?_
      have X2 : Ext w u2 := X0.write t2.ext (by intro i hi hlt; subst hi; omega)
      have D2 : Blk u2 B2 (bytesV D) 130 := by
        have := t2.at_
        rw [show (Value.agg (bytesV D).toArray).cells.toList = bytesV D from rfl, setAt_all _ _ (by simp [bytesV_length, hdl])] at this
        exact this
      repeat (first | refine RunL.nil ?_)
      exact RunE.retFn Tryd.func137 (.cell rfl (.agg Tryd.tOk rfl rfl (by rw [bytesV_length]; exact hdl) D2.row) .nil) ⟨rfl, X2⟩
end Go.Sg
end
section
/- The reference's tagged digest and hash. -/
namespace Go.Sg
open Go.Rn Go.Sha Go.Proofs
attribute [local irreducible] Go.Rn.RunL Go.Rn.RunE Go.Rn.Asy Go.Rn.OpV Go.Rn.OpE Go.Rn.ExecE

set_option maxRecDepth 4000 in
theorem rtagged_ok (tag : ByteArray) (v : Value) (l : List UInt8) (w : World) (ht : tag.size ≤ 1000000) (hv : IsSl w 1 v l.length (bytesV l)) (hl : l.length ≤ 900000) :
    Rets Tryd.prog 128 [.string tag, v] w fun r w' => r = .agg (bytesV (tagged tag.data.toList l)).toArray ∧ Ext w w' := by
  refine RetsX.of (nt := 15) Tryd.func128 (by kernel_rfl) rfl rfl (by simp) (by simp only [argEnv]; rfl) ?_
  repeat (first | refine RunL.pureI Tryd.tOk rfl rfl rfl (by (first | exact wr_i64 (by omega) (by omega) | exact wm_i64 (by omega) | exact wq_i64 (by omega) (by omega) (by omega) | rfl)) ?_ | refine RunL.pure Tryd.tOk rfl rfl rfl ?_ | refine RunL.unwantedD rfl rfl ?_ | refine RunE.seq ?_ | refine RunE.region ?_ | refine RunL.nil ?_ | refine RunE.block ?_ | refine RunE.inBlock ?_ | refine RunE.skip ?_ | refine RunE.exit rfl ?_ | refine RunE.scope ?_ | refine RunE.inScope ?_ | refine RunE.label ?_)
  refine RunL.alloc Tryd.tOk rfl rfl rfl fun B4 w1 a1 => ?_
  repeat (first | refine RunL.pureI Tryd.tOk rfl rfl rfl (by (first | exact wr_i64 (by omega) (by omega) | exact wm_i64 (by omega) | exact wq_i64 (by omega) (by omega) (by omega) | rfl)) ?_ | refine RunL.pure Tryd.tOk rfl rfl rfl ?_ | refine RunL.unwantedD rfl rfl ?_ | refine RunE.seq ?_ | refine RunE.region ?_ | refine RunL.nil ?_ | refine RunE.block ?_ | refine RunE.inBlock ?_ | refine RunE.skip ?_ | refine RunE.exit rfl ?_ | refine RunE.scope ?_ | refine RunE.inScope ?_ | refine RunE.label ?_)
  refine RunL.ex rfl rfl rfl (OpE.s2b Tryd.tOk rfl rfl rfl rfl) ?_
  rintro _ w2 ⟨B, cap, rfl, X2, hB, hr, hc⟩
  have hlen : tag.data.toList.length = tag.size := rfl
  have Y2 := a1.ext.trans X2
  refine RunL.call rfl rfl rfl (rsum_ok _ tag.data.toList w2 (by rw [hlen]; exact .row hr (by rw [bytesV_length, hlen, Nat.mul_one]) hc) (by omega)) ?_
  rintro _ w3 ⟨rfl, X3⟩
  have Y3 := Y2.trans X3
  refine RunL.alloc Tryd.tOk rfl rfl rfl fun B5 w4 a4 => ?_
  have hsl := sha_length tag.data.toList
  unfold tagged
  generalize sha tag.data.toList = D at hsl ⊢
  refine RunL.store (v := .agg (bytesV D).toArray) Tryd.tOk rfl rfl rfl rfl (by simp [Value.cells, bytesV_length, hsl]) (cs := List.replicate 32 (.int .u8 0)) a4.at_ (by simp [Value.cells, bytesV_length, hsl]) (by simp [Value.cells, bytesV_plain]) fun w5 t5 => ?_
  have D5 : Blk w5 B5 (bytesV D) 130 := by
    have := t5.at_
    rw [show (Value.agg (bytesV D).toArray).cells.toList = bytesV D from rfl, setAt_all _ _ (by simp [bytesV_length, hsl])] at this
    exact this
  have hB4 := a1.eq
  have hB5 := a4.eq
  have hs1 := a1.size
  have hs4 := a4.size
  have z1 := X2.size
  have z2 := X3.size
  have X5 : Ext w w5 := (Y3.trans a4.ext).write t5.ext (by intro i hi hlt; subst hi; omega)
  have R4 : Blk w5 B4 (bytesV (List.replicate 32 0)) 130 := Blk.ext (Blk.ext (Blk.ext (w := w1) (cs := List.replicate 32 (.int .u8 0)) a1.at_ (X2.trans X3) id) a4.ext id) t5.ext (by omega)
  clear a1 a4 t5 Y3 Y2
  repeat (first | refine RunL.pureI Tryd.tOk rfl rfl rfl (by (first | exact wr_i64 (by omega) (by omega) | exact wm_i64 (by omega) | exact wq_i64 (by omega) (by omega) (by omega) | rfl)) ?_ | refine RunL.pure Tryd.tOk rfl rfl rfl ?_ | refine RunL.unwantedD rfl rfl ?_ | refine RunE.seq ?_ | refine RunE.region ?_ | refine RunL.nil ?_ | refine RunE.block ?_ | refine RunE.inBlock ?_ | refine RunE.skip ?_ | refine RunE.exit rfl ?_ | refine RunE.scope ?_ | refine RunE.inScope ?_ | refine RunE.label ?_)
  refine RunL.ex rfl rfl rfl (OpE.buildSl Tryd.tOk [] rfl rfl rfl rfl rfl rfl (by simp)) ?_
  rintro _ w6 ⟨B6, rfl, a6⟩
  have O6 := ownsRow_added (n := 0) (sz := 1) a6 (Nat.le_refl _) rfl (by simp [maxLen])
  have X6 := a6.ext
  have D6 := D5.ext X6 id
  refine RunL.val rfl rfl rfl (OpV.sliceA0 (hi := 32) Tryd.tOk rfl rfl .none .none (by decide)) ?_
  have sl5 : IsSl w6 1 (.slice (some ⟨B5, 0, none⟩) 32 32) 32 (bytesV D) := .row D6.row (by rw [bytesV_length, hsl]) (by omega)
  refine RunL.ex rfl rfl rfl (OpE.append Tryd.tOk rfl rfl rfl rfl rfl rfl O6 sl5 (bytesV_plain _) (by decide) (by omega) (by have := a6.eq; have := a6.size; omega)) ?_
  rintro v7 w7 ⟨O7, E7⟩
  have hb6 := a6.eq
  have X7 : Ext w5 w7 := X6.write E7 (by intro i hi hlt; have := ownsRow_ge O6 hi; omega)
  repeat (first | refine RunL.pureI Tryd.tOk rfl rfl rfl (by (first | exact wr_i64 (by omega) (by omega) | exact wm_i64 (by omega) | exact wq_i64 (by omega) (by omega) (by omega) | rfl)) ?_ | refine RunL.pure Tryd.tOk rfl rfl rfl ?_ | refine RunL.unwantedD rfl rfl ?_ | refine RunE.seq ?_ | refine RunE.region ?_ | refine RunL.nil ?_ | refine RunE.block ?_ | refine RunE.inBlock ?_ | refine RunE.skip ?_ | refine RunE.exit rfl ?_ | refine RunE.scope ?_ | refine RunE.inScope ?_ | refine RunE.label ?_)
  refine RunL.ex rfl rfl rfl (OpE.append Tryd.tOk rfl rfl rfl rfl rfl rfl O7 (hv.extE (X5.trans X7)) (bytesV_plain _) (by show _ * 1 ≤ _; omega) (by omega) (by have := X7.size; omega)) ?_
  rintro v8 w8 ⟨O8, E8⟩
  have X8 : Ext w5 w8 := X7.write E8 (by intro i hi hlt; have := ownsRow_ge O7 hi; omega)
  have O8' : IsSl w8 1 v8 (D ++ l).length (bytesV (D ++ l)) := by
    have := isSl_own O8
    rw [List.length_append, hsl, bytesV_append]
    simpa [cellsAll] using this
  refine RunL.call rfl rfl rfl (rsum_ok _ (D ++ l) w8 O8' (by simp [hsl]; omega)) ?_
  rintro _ w9 ⟨rfl, X9⟩
  have Y9 := X8.trans X9
  have R9 := R4.ext Y9 id
  have hsl2 := sha_length (D ++ l)
  generalize sha (D ++ l) = G at hsl2 ⊢
  refine RunL.store (v := .agg (bytesV G).toArray) Tryd.tOk rfl rfl rfl rfl (by simp [Value.cells, bytesV_length, hsl2]) R9 (by simp [Value.cells, bytesV_length, hsl2]) (by simp [Value.cells, bytesV_plain]) fun wa ta => ?_
  have Xa : Ext w wa := (X5.trans Y9).write ta.ext (by intro i hi hlt; subst hi; omega)
  have Da : Blk wa B4 (bytesV G) 130 := by
    have := ta.at_
    rw [show (Value.agg (bytesV G).toArray).cells.toList = bytesV G from rfl, setAt_all _ _ (by simp [bytesV_length, hsl2])] at this
    exact this
  repeat (first | refine RunL.pureI Tryd.tOk rfl rfl rfl (by (first | exact wr_i64 (by omega) (by omega) | exact wm_i64 (by omega) | exact wq_i64 (by omega) (by omega) (by omega) | rfl)) ?_ | refine RunL.pure Tryd.tOk rfl rfl rfl ?_ | refine RunL.unwantedD rfl rfl ?_ | refine RunE.seq ?_ | refine RunE.region ?_ | refine RunL.nil ?_ | refine RunE.block ?_ | refine RunE.inBlock ?_ | refine RunE.skip ?_ | refine RunE.exit rfl ?_ | refine RunE.scope ?_ | refine RunE.inScope ?_ | refine RunE.label ?_)
  exact RunE.retFn Tryd.func128 (.cell rfl (.agg Tryd.tOk rfl rfl (by rw [bytesV_length]; exact hsl2) Da.row) .nil) ⟨rfl, Xa⟩

theorem low7_get (d : List UInt8) (j : Nat) (hj : 0 < j) : (low7 d).getD j 0 = d.getD j 0 := by
  cases d with
  | nil => rfl
  | cons b r => cases j with
    | zero => omega
    | succ j => rfl
theorem hashN_bound (L : List UInt8) (hl : 8 ≤ L.length) (hb : hashN L 8 < 9223372036854775808) (i : Nat) (hi : i < 8) : hashN L i < 36028797018963968 := by
  have mono : ∀ k j, j + k ≤ 8 → hashN L j * 256 ^ k ≤ hashN L (j + k) := by
    intro k
    induction k with
    | zero => intro j _; simp
    | succ k ih =>
      intro j hj
      have h1 := ih j (by omega)
      have h2 := hashN_succ (d := L) (j := j + k) (by omega)
      rw [show j + (k + 1) = j + k + 1 by omega, h2, Nat.pow_succ, ← Nat.mul_assoc]
      omega
  have h1 := mono (8 - i) i (by omega)
  rw [show i + (8 - i) = 8 by omega] at h1
  have h2 : 256 ^ 1 ≤ 256 ^ (8 - i) := Nat.pow_le_pow_right (by decide) (by omega)
  have h3 := Nat.mul_le_mul_left (hashN L i) h2
  omega

set_option maxRecDepth 4000 in
theorem rhash_ok (tag : ByteArray) (v : Value) (l : List UInt8) (w : World) (ht : tag.size ≤ 1000000) (hv : IsSl w 1 v l.length (bytesV l)) (hl : l.length ≤ 900000) :
    Rets Tryd.prog 116 [.string tag, v] w fun r w' => r = .int .i64 (hashS tag.data.toList l) ∧ Ext w w' := by
  refine RetsX.of (nt := 28) Tryd.func116 (by kernel_rfl) rfl rfl (by simp) (by simp only [argEnv]; rfl) ?_
  repeat (first | refine RunL.pureI Tryd.tOk rfl rfl rfl (by (first | exact wr_i64 (by omega) (by omega) | exact wm_i64 (by omega) | exact wq_i64 (by omega) (by omega) (by omega) | rfl)) ?_ | refine RunL.pure Tryd.tOk rfl rfl rfl ?_ | refine RunL.unwantedD rfl rfl ?_ | refine RunE.seq ?_ | refine RunE.region ?_ | refine RunL.nil ?_ | refine RunE.block ?_ | refine RunE.inBlock ?_ | refine RunE.skip ?_ | refine RunE.exit rfl ?_ | refine RunE.scope ?_ | refine RunE.inScope ?_ | refine RunE.label ?_)
  refine RunL.call rfl rfl rfl (rtagged_ok _ _ _ _ ht hv hl) ?_
  rintro _ w1 ⟨rfl, X1⟩
  refine RunL.alloc Tryd.tOk rfl rfl rfl fun B w2 a2 => ?_
  unfold hashS
  have hsl := tagged_length tag.data.toList l
  generalize tagged tag.data.toList l = D at hsl ⊢
  refine RunL.store (v := .agg (bytesV D).toArray) Tryd.tOk rfl rfl rfl rfl (by simp [Value.cells, bytesV_length, hsl]) (cs := List.replicate 32 (.int .u8 0)) a2.at_ (by simp [Value.cells, bytesV_length, hsl]) (by simp [Value.cells, bytesV_plain]) fun w3 t3 => ?_
  have D3 : Blk w3 B (bytesV D) 130 := by
    have := t3.at_
    rw [show (Value.agg (bytesV D).toArray).cells.toList = bytesV D from rfl, setAt_all _ _ (by simp [bytesV_length, hsl])] at this
    exact this
  have hB := a2.eq
  have z1 := X1.size
  have X3 : Ext w w3 := (X1.trans a2.ext).write t3.ext (by intro i hi hlt; subst hi; omega)
  clear a2 t3
  have hb64 : hashNum D < 9223372036854775808 := hashNum_lt _ hsl
  have hlen : (low7 D).length = 32 := by rw [low7_length]; exact hsl
  unfold hashNum at hb64 ⊢
  have hbd := hashN_bound (low7 D) (by omega) hb64
  repeat (first | refine RunL.pureI Tryd.tOk rfl rfl rfl (by (first | exact wr_i64 (by omega) (by omega) | exact wm_i64 (by omega) | exact wq_i64 (by omega) (by omega) (by omega) | rfl)) ?_ | refine RunL.pure Tryd.tOk rfl rfl rfl ?_ | refine RunL.unwantedD rfl rfl ?_ | refine RunL.val rfl rfl rfl (OpV.indexAK Tryd.tOk rfl rfl rfl rfl) ?_ | refine RunL.val rfl rfl rfl (OpV.indexSK Tryd.tOk rfl rfl rfl rfl) ?_ | refine RunL.val rfl rfl rfl (OpV.load1 Tryd.tOk rfl rfl rfl (Blk.cell D3 rfl)) ?_ | refine RunE.seq ?_ | refine RunE.region ?_ | refine RunL.nil ?_ | refine RunE.block ?_ | refine RunE.inBlock ?_ | refine RunE.skip ?_ | refine RunE.exit rfl ?_ | refine RunE.scope ?_ | refine RunE.inScope ?_ | refine RunE.label ?_)
  refine RunL.val rfl rfl rfl (OpV.load1 (v := .int .u8 ((D.getD 0 0).toNat : Int)) Tryd.tOk rfl rfl rfl (D3.cell (bytesV_get (by omega)))) ?_
  have h1 : ((D.getD 0 0).toNat : Int) % 128 = (hashN (low7 D) 1 : Nat) := by
    match D, hsl with
    | [], h => simp at h
    | b :: r, _ =>
      have : (UInt8.ofNat (b.toNat % 128)).toNat = b.toNat % 128 := by rw [UInt8.toNat_ofNat']; omega
      simp [hashN, low7]; omega
  repeat (first | refine RunL.pureI Tryd.tOk rfl rfl rfl (by (first | exact i64_u8 _ | exact (wm_i64 (by omega)).trans h1 | exact wr_i64 (by omega) (by omega) | exact wm_i64 (by omega) | exact wq_i64 (by omega) (by omega) (by omega) | rfl)) ?_ | refine RunL.pure Tryd.tOk rfl rfl rfl ?_ | refine RunL.unwantedD rfl rfl ?_ | refine RunL.val rfl rfl rfl (OpV.indexAK Tryd.tOk rfl rfl rfl rfl) ?_ | refine RunL.val rfl rfl rfl (OpV.indexSK Tryd.tOk rfl rfl rfl rfl) ?_ | refine RunE.seq ?_ | refine RunE.region ?_ | refine RunL.nil ?_ | refine RunE.block ?_ | refine RunE.inBlock ?_ | refine RunE.skip ?_ | refine RunE.exit rfl ?_ | refine RunE.scope ?_ | refine RunE.inScope ?_ | refine RunE.label ?_)
  refine RunE.loop (ι := Nat) (fun i => [(5, .pointer (some ⟨B, 0, none⟩)), (6, .int .i64 (hashN (low7 D) (i + 1) : Int)), (7, .int .i64 ((1 + i : Nat) : Int))])
    (fun i w' => w3 = w' ∧ i ≤ 7) (fun i => 7 - i) 0 (by repeat (first | exact Sub.nil _ | refine Sub.cons rfl ?_)) ⟨rfl, by omega⟩ ?_
  rintro i _ ⟨rfl, hi⟩ again
  repeat (first | refine RunL.pureI Tryd.tOk rfl rfl rfl (by (first | exact wr_i64 (by omega) (by omega) | exact wm_i64 (by omega) | exact wq_i64 (by omega) (by omega) (by omega) | rfl)) ?_ | refine RunL.pure Tryd.tOk rfl rfl rfl ?_ | refine RunL.unwantedD rfl rfl ?_ | refine RunE.seq ?_ | refine RunE.region ?_ | refine RunL.nil ?_ | refine RunE.block ?_ | refine RunE.inBlock ?_ | refine RunE.skip ?_ | refine RunE.exit rfl ?_ | refine RunE.scope ?_ | refine RunE.inScope ?_ | refine RunE.label ?_)
  refine RunE.cond rfl (fun hlt => ?_) (fun hlt => ?_) <;> (first | replace hlt := of_decide_eq_true hlt | replace hlt := of_decide_eq_false hlt | replace hlt := beq_iff_eq.1 hlt | replace hlt := beq_eq_false_iff_ne.1 hlt | replace hlt := bne_iff_ne.1 hlt | replace hlt := bne_eq_false_iff_eq.1 hlt | skip)
  · have hi8 : i < 7 := by omega
    have hs := hashN_succ (d := low7 D) (j := i + 1) (by omega)
    have hcl := (D.getD (i + 1) 0).toNat_lt
    have hbi := hbd (i + 1) (by omega)
    rw [low7_get D _ (by omega)] at hs
    repeat (first | refine RunL.pureI Tryd.tOk rfl rfl rfl (by (first | exact i64_mul _ 256 (by omega) | exact wr_i64 (by omega) (by omega) | exact wm_i64 (by omega) | exact wq_i64 (by omega) (by omega) (by omega) | rfl)) ?_ | refine RunL.pure Tryd.tOk rfl rfl rfl ?_ | refine RunL.unwantedD rfl rfl ?_ | refine RunL.val rfl rfl rfl (OpV.indexAK Tryd.tOk rfl rfl rfl rfl) ?_ | refine RunL.val rfl rfl rfl (OpV.indexSK Tryd.tOk rfl rfl rfl rfl) ?_ | refine RunE.seq ?_ | refine RunE.region ?_ | refine RunL.nil ?_ | refine RunE.block ?_ | refine RunE.inBlock ?_ | refine RunE.skip ?_ | refine RunE.exit rfl ?_ | refine RunE.scope ?_ | refine RunE.inScope ?_ | refine RunE.label ?_)
    refine RunL.val rfl rfl rfl (OpV.indexA1 Tryd.tOk (i + 1) rfl rfl rfl (by omega) (by omega)) ?_
    refine RunL.val rfl rfl rfl (OpV.load1 (v := .int .u8 ((D.getD (i + 1) 0).toNat : Int)) Tryd.tOk rfl rfl rfl (by rw [Nat.zero_add]; exact D3.cell (bytesV_get (by omega)))) ?_
    repeat (first | refine RunL.pureI Tryd.tOk rfl rfl rfl (by (first | exact i64_u8 _ | exact i64_add _ _ (by omega) | exact wr_i64 (by omega) (by omega) | exact wm_i64 (by omega) | exact wq_i64 (by omega) (by omega) (by omega) | rfl)) ?_ | refine RunL.pure Tryd.tOk rfl rfl rfl ?_ | refine RunL.unwantedD rfl rfl ?_ | refine RunL.val rfl rfl rfl (OpV.indexAK Tryd.tOk rfl rfl rfl rfl) ?_ | refine RunL.val rfl rfl rfl (OpV.indexSK Tryd.tOk rfl rfl rfl rfl) ?_ | refine RunE.seq ?_ | refine RunE.region ?_ | refine RunL.nil ?_ | refine RunE.block ?_ | refine RunE.inBlock ?_ | refine RunE.skip ?_ | refine RunE.exit rfl ?_ | refine RunE.scope ?_ | refine RunE.inScope ?_ | refine RunE.label ?_)
    refine RunE.weaken (by
      refine Sub.cons rfl (Sub.cons ?_ (Sub.cons rfl (Sub.nil _)))
      rw [hs]; rfl) (again (i + 1) _ (by omega) ⟨rfl, by omega⟩)
  · have hi8 : i = 7 := by omega
    subst hi8
    repeat (first | refine RunL.pureI Tryd.tOk rfl rfl rfl (by (first | exact wr_i64 (by omega) (by omega) | exact wm_i64 (by omega) | exact wq_i64 (by omega) (by omega) (by omega) | rfl)) ?_ | refine RunL.pure Tryd.tOk rfl rfl rfl ?_ | refine RunL.unwantedD rfl rfl ?_ | refine RunE.seq ?_ | refine RunE.region ?_ | refine RunL.nil ?_ | refine RunE.block ?_ | refine RunE.inBlock ?_ | refine RunE.skip ?_ | refine RunE.exit rfl ?_ | refine RunE.scope ?_ | refine RunE.inScope ?_ | refine RunE.label ?_)
    refine RunE.retFn Tryd.func116 (.tmp rfl .nil) ⟨?_, X3⟩
    simp only [oneOr]
    congr 1
end Go.Sg
end
section
/- Facts of single numbers. -/
namespace Go.Sg
open Go.Rn Go.NT Go.Proofs

theorem v4 : validS 4 = true := by
  have h := valid_sq (x := 2) (by decide) (by decide)
  have e : (2 : Int) * 2 % 2147483579 = 4 := by decide
  exact (congrArg validS e).symm.trans h
theorem v1 : validS 1 = true := valid_one
theorem v0 : validS 0 = false := by unfold validS; exact decide_eq_false fun h => absurd h.1 (by decide)
theorem vP : validS 2147483579 = false := by unfold validS; exact decide_eq_false fun h => absurd h.2.1 (by decide)
theorem v2 : validS 2 = false := by
  have h := validS_iff (x := 2) (by decide) (by decide)
  have g := G_two (n := 2147483579) (by decide)
  rw [if_pos (.inl (by decide))] at g
  have e : ((2 : Nat) : Int) = 2 := rfl
  rw [e] at h
  rw [h]
  exact decide_eq_false (by omega)
theorem vP1 : validS 2147483578 = false := by
  have h := valid_neg (x := 1) (by decide) (by decide)
  rw [v1] at h; exact h
theorem vP2 : validS 2147483577 = true := by
  have h := valid_neg (x := 2) (by decide) (by decide)
  rw [v2] at h; exact h
theorem p42 : powC 4 2 = 16 := by
  unfold powC; rw [v4, if_pos rfl]; decide
theorem p4Q : powC 4 1073741789 = 1 := by
  unfold powC; rw [v4, if_pos rfl]; decide
theorem pow_neg1 {a : Int} (ha : validS a = true) : a * powC a (-1) % 2147483579 = 1 := by
  have e : ((-1 : Int) % 1073741789).toNat = 1073741788 := by decide
  unfold powC; rw [ha, if_pos rfl, e]
  have h1 : a * (a ^ 1073741788 % 2147483579) % 2147483579 = a * a ^ 1073741788 % 2147483579 := mul_mod_congr rfl (Int.emod_emod_of_dvd _ (Int.dvd_refl _))
  rw [h1, Int.mul_comm, ← Int.pow_succ]
  exact (validS_inv ha).2.2
theorem powC_bd (a n : Int) : 0 ≤ powC a n ∧ powC a n < 2147483579 := by
  have h : ∀ y : Int, 0 ≤ y % 2147483579 ∧ y % 2147483579 < 2147483579 := fun y => ⟨Int.emod_nonneg y (by decide), Int.emod_lt_of_pos y (by decide)⟩
  unfold powC
  cases validS a with
  | true => rw [if_pos rfl]; exact h _
  | false => rw [if_neg (by decide)]; exact ⟨by decide, by decide⟩
theorem inv4 (y : Int) (h : 4 * y % 2147483579 = 1) (h1 : 0 ≤ y) (h2 : y < 2147483579) : y = 536870895 := by
  have e1 : (4 * y * 536870895) % 2147483579 = 536870895 := by
    rw [Int.mul_emod, h]; decide
  have e2 : 4 * y * 536870895 = y + 2147483579 * y := by omega
  rw [e2, Int.add_mul_emod_self_left, Int.emod_eq_of_lt h1 h2] at e1
  exact e1
theorem p4m : powC 4 (-1) = 536870895 := inv4 _ (pow_neg1 v4) (powC_bd 4 (-1)).1 (powC_bd 4 (-1)).2
theorem p01 : powC 0 1 = 0 := by unfold powC; rw [v0, if_neg (by decide)]
theorem m44 : mulC 4 4 = 16 := by unfold mulC; rw [v4]; rfl
theorem m42 : mulC 4 2 = 0 := by unfold mulC; rw [v4, v2]; rfl
theorem el2 : elemC 2 = 2147483577 := by unfold elemC; rw [v2]; rfl
theorem nm2 : numC 2 = 0 := by unfold numC; rw [v2]; rfl
theorem nmP2 : numC 2147483577 = 2 := by unfold numC; rw [vP2]; rfl
end Go.Sg
end
section
/- What the group's powers and products are. Plain mathematics over the numbers that the walks name. -/
namespace Go.Sg
open Go.Rn Go.NT Go.Proofs

/-- What element returns is an element. -/
theorem elem_valid (x : Int) : validS (elemC (x % 1073741789 + 1)) = true := by
  have h1 := Int.emod_nonneg x (by decide : (1073741789 : Int) ≠ 0)
  have h2 := Int.emod_lt_of_pos x (by decide : (0 : Int) < 1073741789)
  generalize hn : x % 1073741789 + 1 = n
  have h3 : 1 ≤ n := by omega
  have h4 : n ≤ 1073741789 := by omega
  unfold elemC
  rw [if_neg (by omega)]
  cases hv : validS n with
  | true => rw [if_pos rfl]; exact hv
  | false =>
    rw [if_neg (by decide)]
    have h := valid_neg h3 (by omega)
    rw [hv] at h; exact h

theorem mulC_eq {a b : Int} (ha : validS a = true) (hb : validS b = true) : mulC a b = a * b % 2147483579 := by unfold mulC; rw [ha, hb]; rfl
theorem mulC_valid {a b : Int} (ha : validS a = true) (hb : validS b = true) : validS (mulC a b) = true := by rw [mulC_eq ha hb]; exact valid_mul ha hb
theorem powC_eq {a : Int} (ha : validS a = true) (n : Int) : powC a n = a ^ (n % 1073741789).toNat % 2147483579 := by unfold powC; rw [ha, if_pos rfl]
theorem powC_valid {a : Int} (ha : validS a = true) (n : Int) : validS (powC a n) = true := by rw [powC_eq ha]; exact valid_pow ha _
theorem mulC_comm {a b : Int} (ha : validS a = true) (hb : validS b = true) : mulC a b = mulC b a := by rw [mulC_eq ha hb, mulC_eq hb ha, Int.mul_comm]
theorem emod_twice (x : Int) : x % 2147483579 % 2147483579 = x % 2147483579 := Int.emod_emod_of_dvd _ (Int.dvd_refl _)
theorem mulC_assoc {a b c : Int} (ha : validS a = true) (hb : validS b = true) (hc : validS c = true) : mulC (mulC a b) c = mulC a (mulC b c) := by
  rw [mulC_eq (mulC_valid ha hb) hc, mulC_eq ha (mulC_valid hb hc), mulC_eq ha hb, mulC_eq hb hc]
  rw [mul_mod_congr (emod_twice (a * b)) (rfl : c % 2147483579 = c % 2147483579), mul_mod_congr (rfl : a % 2147483579 = a % 2147483579) (emod_twice (b * c)), Int.mul_assoc]
theorem mulC_one {a : Int} (ha : validS a = true) : mulC a 1 = a := by
  rw [mulC_eq ha v1, Int.mul_one]
  exact Int.emod_eq_of_lt (by have := (validS_inv ha).1; omega) (validS_inv ha).2.1
theorem mulC_inv {a : Int} (ha : validS a = true) : mulC a (powC a (-1)) = 1 := by
  rw [mulC_eq ha (powC_valid ha _)]; exact pow_neg1 ha
theorem mulC_cancel {a b : Int} (ha : validS a = true) (hb : validS b = true) : mulC (mulC a b) (powC b (-1)) = a := by
  rw [mulC_assoc ha hb (powC_valid hb _), mulC_inv hb, mulC_one ha]
theorem powC_mulC {a b : Int} (ha : validS a = true) (hb : validS b = true) (n : Int) : powC (mulC a b) n = mulC (powC a n) (powC b n) := by
  rw [mulC_eq (powC_valid ha n) (powC_valid hb n), powC_eq (mulC_valid ha hb), powC_eq ha, powC_eq hb, mulC_eq ha hb, pow_mod, Int.mul_pow]
  exact (mul_mod_congr (emod_twice _) (emod_twice _)).symm


theorem powC_nat {a : Int} (ha : validS a = true) {n : Int} (m : Nat) (h : (m : Int) % 1073741789 = n % 1073741789) : powC a n = a ^ m % 2147483579 := by
  rw [powC_eq ha, ← h, ← pow_period ha m]
  congr 2
theorem expo (n : Int) : (((n % 1073741789).toNat : Nat) : Int) = n % 1073741789 := Int.toNat_of_nonneg (Int.emod_nonneg n (by decide))
theorem powC_zero {a : Int} (ha : validS a = true) : powC a 0 = 1 := by rw [powC_nat (n := 0) ha 0 (by decide)]; simp
theorem powC_one {a : Int} (ha : validS a = true) : powC a 1 = a := by
  rw [powC_nat (n := 1) ha 1 (by decide), Int.pow_one]
  exact Int.emod_eq_of_lt (by have := (validS_inv ha).1; omega) (validS_inv ha).2.1
theorem powC_two {a : Int} (ha : validS a = true) : powC a 2 = mulC a a := by
  rw [powC_nat (n := 2) ha 2 (by decide), mulC_eq ha ha, Int.pow_succ, Int.pow_one]
theorem powC_Q {a : Int} (ha : validS a = true) : powC a 1073741789 = 1 := by
  rw [powC_nat (n := 1073741789) ha 0 (by decide)]; simp
theorem powC_addQ {a : Int} (n : Int) : powC a (n + 1073741789) = powC a n := by
  unfold powC; rw [show (n + 1073741789) % 1073741789 = n % 1073741789 by omega]
theorem powC_subQ {a : Int} (n : Int) : powC a (n - 1073741789) = powC a n := by
  unfold powC; rw [show (n - 1073741789) % 1073741789 = n % 1073741789 by omega]
theorem powC_add {a : Int} (ha : validS a = true) (i k : Int) : mulC (powC a i) (powC a k) = powC a (i + k) := by
  rw [mulC_eq (powC_valid ha i) (powC_valid ha k), powC_eq ha, powC_eq ha, powC_nat ha ((i % 1073741789).toNat + (k % 1073741789).toNat) (by rw [Int.natCast_add, expo, expo]; omega), Int.pow_add]
  exact mul_mod_congr (emod_twice _) (emod_twice _)
theorem powC_mul {a : Int} (ha : validS a = true) (i k : Int) : powC (powC a i) k = powC a (i * k) := by
  rw [powC_eq (powC_valid ha i), powC_eq ha, pow_mod, ← Int.pow_mul, powC_nat ha ((i % 1073741789).toNat * (k % 1073741789).toNat)]
  rw [Int.natCast_mul, expo, expo, ← Int.mul_emod]
theorem mul_bd32 {i k : Int} (hi : -2147483648 ≤ i ∧ i < 2147483648) (hk : -2147483648 ≤ k ∧ k < 2147483648) : -4611686018427387904 ≤ i * k ∧ i * k ≤ 4611686018427387904 := by
  have h1 : (i * k).natAbs ≤ 2147483648 * 2147483648 := by
    rw [Int.natAbs_mul]; exact Nat.mul_le_mul (by omega) (by omega)
  omega
end Go.Sg
end
section
/- sign: the list that is hashed. -/
namespace Go.Rn
open Go.RowKit Go.Lib
variable {P : Program} {w : World} {env : Env} {dst : Option Tmp} {ty : TypeId} {pos : String} {after : Array Edge} {guard : Option (Nat × Bool)}
theorem OpV.b2sSl {T : Tab} (hT : T.Ok P) {t t' e : TypeId} {ag : Bool} {s bb s' bb' s2 bb2 : Nat} {z z' z2 : List Value} {a u a' u' a2 u2 : Bool} {x : Operand} {v : Value} {l : List UInt8} {n : Nat}
    (ht : T.get t = some ⟨.slc 1 ag e, s, bb, z, a, u⟩) (ht' : T.get t' = some ⟨.str, s', bb', z', a', u'⟩) (he : T.get e = some ⟨.int .u8, s2, bb2, z2, a2, u2⟩)
    (hx : evO env x = some v) (hv : IsSl w 1 v n (bytesV l)) :
    OpV P env w ⟨dst, .convert t t' x, ty, pos, after, guard⟩ (.string (strOf l)) := by
  rcases hv.inv with ⟨d, rfl, rfl, he0⟩ | ⟨b, o, cap, rfl, hr, hl, -⟩
  · have hl0 : l = [] := by cases l with | nil => rfl | cons => simp [bytesV] at he0
    subst hl0
    refine .of_run fun ρ hρ => ⟨_, by simp only [execOp, hρ _ _ hx]; rfl, ?_⟩
    obtain ⟨hu, -⟩ := TD.of_slc (TI.tdof (hT.get _ _ ht)).symm
    have hu' := TD.of_str (TI.tdof (hT.get _ _ ht')).symm
    have hue := TD.of_int (TI.tdof (hT.get _ _ he)).symm
    rw [run_convert_bytes_string w t t' e d 0 0 hu hue hu']
    cases d <;> rfl
  · exact OpV.b2s hT ht ht' he hx hr (by rw [bytesV_length] at hl; omega)
end Go.Rn
namespace Go.Cod
open Go.Rn Go.Sha
inductive ArgIn (w : World) : CV → Value → Prop where
  | int {n : Int} (h : -9223372036854775808 ≤ n ∧ n < 9223372036854775808) : ArgIn w (.int n) (.iface 3 (.int .i64 n))
  | text {s : List UInt8} {v : Value} (h : IsSl w 1 v s.length (bytesV s)) (hl : s.length ≤ 1000000000) : ArgIn w (.text s) (.iface 64 v)
theorem ArgIn.ext {w w' : World} {c : CV} {a : Value} (h : ArgIn w c a) (e : Ext w w') : ArgIn w' c a := by
  cases h with
  | int h => exact .int h
  | text h hl => exact .text (h.extE e) hl
def rowOf : CV → List Value
  | .int n => [.int .i64 1, .int .i64 n, .string ⟨#[]⟩, .slice none 0 0]
  | .text s => [.int .i64 2, .int .i64 0, .string (strOf s), .slice none 0 0]
  | .list _ => []
theorem ArgIn.in_ {w w' : World} {c : CV} {a : Value} (h : ArgIn w c a) : c.In w' (rowOf c) := by
  cases h with
  | int h => exact ⟨h, _, rfl⟩
  | text h hl => exact ⟨hl, _, rfl⟩
theorem ArgIn.depth {w : World} {c : CV} {a : Value} (h : ArgIn w c a) : c.depth = 0 := by cases h <;> rfl
theorem ins_rows {w : World} : ∀ (l : List CV), (∀ c ∈ l, c.In w (rowOf c)) → Ins w l (l.map rowOf)
  | [], _ => by simp [Ins]
  | c :: l, h => by
    simp only [Ins, List.map_cons]
    exact ⟨_, _, rfl, h c List.mem_cons_self, ins_rows l fun c hc => h c (List.mem_cons_of_mem _ hc)⟩
theorem depths_zero : ∀ (l : List CV), (∀ c ∈ l, c.depth = 0) → depths l = 0
  | [], _ => rfl
  | c :: l, h => by simp only [depths]; rw [h c List.mem_cons_self, depths_zero l fun c hc => h c (List.mem_cons_of_mem _ hc)]; rfl
theorem rows_take {l : List CV} {i : Nat} {c : CV} (h : l[i]? = some c) : ((l.take (i + 1)).map rowOf).flatten = ((l.take i).map rowOf).flatten ++ rowOf c := by
  rw [List.take_add_one, h]; simp
end Go.Cod
namespace Go.Sg
open Go.Rn Go.Sha Go.Cod Go.Proofs
attribute [local irreducible] Go.Rn.RunL Go.Rn.RunE Go.Rn.Asy Go.Rn.OpV Go.Rn.OpE Go.Rn.ExecE

set_option maxRecDepth 4000 in
set_option maxHeartbeats 2000000 in
set_option maxRecDepth 4000 in
theorem list_ok (l : List CV) (v : Value) (vs : List Value) (w : World) (hv : IsSl w 1 v l.length vs) (ha : ∀ (i : Nat) (c : CV), l[i]? = some c → ∃ a, vs[i]? = some a ∧ ArgIn w c a) (hl : l.length ≤ 1000)
    (he : (CV.list l).enc.length ≤ 900000) :
    Rets Tryd.prog 77 [v] w fun r w' => w'.ownsRow w.heap.size 5 1 r (CV.list l).enc.length (bytesV (CV.list l).enc) ∧ Ext w w' := by
  refine RetsX.of (nt := 46) Tryd.func77 (by kernel_rfl) rfl rfl (by simp) (by simp only [argEnv]; rfl) ?_
  repeat (first | refine RunL.pureI Tryd.tOk rfl rfl rfl (by (first | exact wr_i64 (by omega) (by omega) | exact wm_i64 (by omega) | exact wq_i64 (by omega) (by omega) (by omega) | rfl)) ?_ | refine RunL.pure Tryd.tOk rfl rfl rfl ?_ | refine RunL.unwantedD rfl rfl ?_ | refine RunE.seq ?_ | refine RunE.region ?_ | refine RunL.nil ?_ | refine RunE.block ?_ | refine RunE.inBlock ?_ | refine RunE.skip ?_ | refine RunE.exit rfl ?_ | refine RunE.scope ?_ | refine RunE.inScope ?_ | refine RunE.label ?_)
  refine RunL.alloc Tryd.tOk rfl rfl rfl fun B3 w1 a1 => ?_
  have hB3 := a1.eq
  have z1 := a1.size
  repeat (first | refine RunL.pureI Tryd.tOk rfl rfl rfl (by (first | exact wr_i64 (by omega) (by omega) | exact wm_i64 (by omega) | exact wq_i64 (by omega) (by omega) (by omega) | rfl)) ?_ | refine RunL.pure Tryd.tOk rfl rfl rfl ?_ | refine RunL.unwantedD rfl rfl ?_ | refine RunE.seq ?_ | refine RunE.region ?_ | refine RunL.nil ?_ | refine RunE.block ?_ | refine RunE.inBlock ?_ | refine RunE.skip ?_ | refine RunE.exit rfl ?_ | refine RunE.scope ?_ | refine RunE.inScope ?_ | refine RunE.label ?_)
  refine RunL.store Tryd.tOk rfl rfl rfl rfl rfl (cs := [.int .i64 0, .int .i64 0, .string ⟨#[]⟩, .slice none 0 0]) a1.at_ rfl rfl fun w2 t2 => ?_
  have Z2 : Blk w2 B3 [.int .i64 3, .int .i64 0, .string ⟨#[]⟩, .slice none 0 0] 83 := t2.at_
  have X2 : Ext w w2 := a1.ext.write t2.ext (by intro i hi hlt; subst hi; omega)
  have z2 := t2.size
  clear a1 t2
  repeat (first | refine RunL.pureI Tryd.tOk rfl rfl rfl (by (first | exact wr_i64 (by omega) (by omega) | exact wm_i64 (by omega) | exact wq_i64 (by omega) (by omega) (by omega) | rfl)) ?_ | refine RunL.pure Tryd.tOk rfl rfl rfl ?_ | refine RunL.unwantedD rfl rfl ?_ | refine RunE.seq ?_ | refine RunE.region ?_ | refine RunL.nil ?_ | refine RunE.block ?_ | refine RunE.inBlock ?_ | refine RunE.skip ?_ | refine RunE.exit rfl ?_ | refine RunE.scope ?_ | refine RunE.inScope ?_ | refine RunE.label ?_)
  refine RunL.val rfl rfl rfl (OpV.lenSl Tryd.tOk rfl rfl hv) ?_
  repeat (first | refine RunL.pureI Tryd.tOk rfl rfl rfl (by (first | exact wr_i64 (by omega) (by omega) | exact wm_i64 (by omega) | exact wq_i64 (by omega) (by omega) (by omega) | rfl)) ?_ | refine RunL.pure Tryd.tOk rfl rfl rfl ?_ | refine RunL.unwantedD rfl rfl ?_ | refine RunE.seq ?_ | refine RunE.region ?_ | refine RunL.nil ?_ | refine RunE.block ?_ | refine RunE.inBlock ?_ | refine RunE.skip ?_ | refine RunE.exit rfl ?_ | refine RunE.scope ?_ | refine RunE.inScope ?_ | refine RunE.label ?_)
  refine RunE.loop (ι := Nat × Value) (fun x => [(3, .pointer (some ⟨B3, 0, none⟩)), (11, v), (12, .int .i64 (l.length : Int)), (13, .int .i64 (x.1 : Int))])
    (fun x w' => x.1 ≤ l.length ∧ Ext w w' ∧ Blk w' B3 [.int .i64 3, .int .i64 0, .string ⟨#[]⟩, x.2] 83 ∧ w'.ownsRow (B3 + 1) 83 4 x.2 x.1 ((l.take x.1).map rowOf).flatten) (fun x => l.length - x.1) (0, .slice none 0 0) (by repeat (first | exact Sub.nil _ | refine Sub.cons rfl ?_)) ⟨by simp, X2, Z2, World.ownsRow_nil _ _ _ _⟩ ?_
  clear X2 Z2
  rintro ⟨i, u⟩ w3 ⟨hi, X3, Z3, O3⟩ again
  simp only at hi Z3 O3 again ⊢
  have hz3 := X3.size
  have hB := Z3.lt
  repeat (first | refine RunL.pureI Tryd.tOk rfl rfl rfl (by (first | exact wr_i64 (by omega) (by omega) | exact wm_i64 (by omega) | exact wq_i64 (by omega) (by omega) (by omega) | rfl)) ?_ | refine RunL.pure Tryd.tOk rfl rfl rfl ?_ | refine RunL.unwantedD rfl rfl ?_ | refine RunE.seq ?_ | refine RunE.region ?_ | refine RunL.nil ?_ | refine RunE.block ?_ | refine RunE.inBlock ?_ | refine RunE.skip ?_ | refine RunE.exit rfl ?_ | refine RunE.scope ?_ | refine RunE.inScope ?_ | refine RunE.label ?_)
  refine RunE.cond rfl (fun hlt => ?_) (fun hlt => ?_) <;> (first | replace hlt := of_decide_eq_true hlt | replace hlt := of_decide_eq_false hlt | replace hlt := beq_iff_eq.1 hlt | replace hlt := beq_eq_false_iff_ne.1 hlt | replace hlt := bne_iff_ne.1 hlt | replace hlt := bne_eq_false_iff_eq.1 hlt | skip)
  · have hi' : i < l.length := by omega
    obtain ⟨c, hc⟩ : ∃ c, l[i]? = some c := ⟨_, List.getElem?_eq_getElem hi'⟩
    obtain ⟨a, haa, hac⟩ := ha i c hc
    obtain ⟨b, o, cap, rfl, hrow, -, -⟩ := hv.held (by omega)
    repeat (first | refine RunL.pureI Tryd.tOk rfl rfl rfl (by (first | exact wr_i64 (by omega) (by omega) | exact wm_i64 (by omega) | exact wq_i64 (by omega) (by omega) (by omega) | rfl)) ?_ | refine RunL.pure Tryd.tOk rfl rfl rfl ?_ | refine RunL.unwantedD rfl rfl ?_ | refine RunE.seq ?_ | refine RunE.region ?_ | refine RunL.nil ?_ | refine RunE.block ?_ | refine RunE.inBlock ?_ | refine RunE.skip ?_ | refine RunE.exit rfl ?_ | refine RunE.scope ?_ | refine RunE.inScope ?_ | refine RunE.label ?_)
    refine RunL.val rfl rfl rfl (OpV.indexS Tryd.tOk i rfl rfl rfl rfl hi') ?_
    refine RunL.val rfl rfl rfl (OpV.load1 (v := a) Tryd.tOk rfl rfl rfl ((hrow.extE X3) _ _ (by simpa using haa))) ?_
    cases hac with
    | @int n hn =>
      repeat (first | refine RunL.pureI Tryd.tOk rfl rfl rfl (by (first | exact wr_i64 (by omega) (by omega) | exact wm_i64 (by omega) | exact wq_i64 (by omega) (by omega) (by omega) | rfl)) ?_ | refine RunL.pure Tryd.tOk rfl rfl rfl ?_ | refine RunL.unwantedD rfl rfl ?_ | refine RunE.seq ?_ | refine RunE.region ?_ | refine RunL.nil ?_ | refine RunE.block ?_ | refine RunE.inBlock ?_ | refine RunE.skip ?_ | refine RunE.exit rfl ?_ | refine RunE.scope ?_ | refine RunE.inScope ?_ | refine RunE.label ?_)
      refine RunL.val rfl rfl rfl (OpV.assertT (v := .int .i64 n) rfl (TD.of_int (TI.tdof (Tryd.tOk.get 3 _ rfl)).symm) rfl) ?_
      repeat (first | refine RunL.pureI Tryd.tOk rfl rfl rfl (by (first | exact wr_i64 (by omega) (by omega) | exact wm_i64 (by omega) | exact wq_i64 (by omega) (by omega) (by omega) | rfl)) ?_ | refine RunL.pure Tryd.tOk rfl rfl rfl ?_ | refine RunL.unwantedD rfl rfl ?_ | refine RunL.val rfl rfl rfl (OpV.indexAK Tryd.tOk rfl rfl rfl rfl) ?_ | refine RunL.val rfl rfl rfl (OpV.indexSK Tryd.tOk rfl rfl rfl rfl) ?_ | refine RunL.val rfl rfl rfl (OpV.load1 Tryd.tOk rfl rfl rfl (Blk.cell Z3 rfl)) ?_ | refine RunE.seq ?_ | refine RunE.region ?_ | refine RunL.nil ?_ | refine RunE.block ?_ | refine RunE.inBlock ?_ | refine RunE.skip ?_ | refine RunE.exit rfl ?_ | refine RunE.scope ?_ | refine RunE.inScope ?_ | refine RunE.label ?_)
      refine RunE.condT rfl rfl ?_
      repeat (first | refine RunL.pureI Tryd.tOk rfl rfl rfl (by (first | exact wr_i64 (by omega) (by omega) | exact wm_i64 (by omega) | exact wq_i64 (by omega) (by omega) (by omega) | rfl)) ?_ | refine RunL.pure Tryd.tOk rfl rfl rfl ?_ | refine RunL.unwantedD rfl rfl ?_ | refine RunL.val rfl rfl rfl (OpV.indexAK Tryd.tOk rfl rfl rfl rfl) ?_ | refine RunL.val rfl rfl rfl (OpV.indexSK Tryd.tOk rfl rfl rfl rfl) ?_ | refine RunL.val rfl rfl rfl (OpV.load1 Tryd.tOk rfl rfl rfl (Blk.cell Z3 rfl)) ?_ | refine RunE.seq ?_ | refine RunE.region ?_ | refine RunL.nil ?_ | refine RunE.block ?_ | refine RunE.inBlock ?_ | refine RunE.skip ?_ | refine RunE.exit rfl ?_ | refine RunE.scope ?_ | refine RunE.inScope ?_ | refine RunE.label ?_)
      refine RunL.ex rfl rfl rfl (OpE.buildSl Tryd.tOk [.agg (rowOf (.int n)).toArray] rfl rfl rfl rfl rfl rfl (by simp [Value.cells, rowOf])) ?_
      rintro _ w4 ⟨B, rfl, a4⟩
      have hB4 := a4.eq
      have X4 := X3.trans a4.ext
      have Z4 := Z3.ext a4.ext id
      have O4 := ownsRow_ext O3 a4.ext (fun _ _ h => h)
      have hz4 := a4.size
      refine RunL.ex rfl rfl rfl (OpE.append' Tryd.tOk rfl rfl rfl rfl rfl rfl O4 (isSl_added (n := 1) (sz := 4) a4 rfl) rfl (by show _ * 56 ≤ _; omega) (by omega) (by omega)) ?_
      rintro v5 w5 ⟨O5, E5, -⟩
      clear a4
      have X5 : Ext w w5 := X4.write E5 (by intro k hk hlt; have := ownsRow_ge O4 hk; omega)
      have Z5 := Z4.ext E5 (by intro hk; have := ownsRow_ge O4 hk; omega)
      obtain ⟨b5, o5, cap5, rfl, -, -, -⟩ := (isSl_own O5).held (by omega)
      repeat (first | refine RunL.pureI Tryd.tOk rfl rfl rfl (by (first | exact wr_i64 (by omega) (by omega) | exact wm_i64 (by omega) | exact wq_i64 (by omega) (by omega) (by omega) | rfl)) ?_ | refine RunL.pure Tryd.tOk rfl rfl rfl ?_ | refine RunL.unwantedD rfl rfl ?_ | refine RunE.seq ?_ | refine RunE.region ?_ | refine RunL.nil ?_ | refine RunE.block ?_ | refine RunE.inBlock ?_ | refine RunE.skip ?_ | refine RunE.exit rfl ?_ | refine RunE.scope ?_ | refine RunE.inScope ?_ | refine RunE.label ?_)
      refine RunL.store Tryd.tOk rfl rfl rfl rfl rfl Z5 rfl rfl fun w6 t6 => ?_
      have X6 : Ext w w6 := X5.write t6.ext (by intro k hk hlt; subst hk; omega)
      have Z6 : Blk w6 B3 [.int .i64 3, .int .i64 0, .string ⟨#[]⟩, .slice (some ⟨b5, o5, none⟩) (i + 1) cap5] 83 := t6.at_
      have O6 := ownsRow_ext O5 t6.ext (fun k hk e => by have := ownsRow_ge O5 hk; omega)
      clear t6
      repeat (first | refine RunL.pureI Tryd.tOk rfl rfl rfl (by (first | exact wr_i64 (by omega) (by omega) | exact wm_i64 (by omega) | exact wq_i64 (by omega) (by omega) (by omega) | rfl)) ?_ | refine RunL.pure Tryd.tOk rfl rfl rfl ?_ | refine RunL.unwantedD rfl rfl ?_ | refine RunE.seq ?_ | refine RunE.region ?_ | refine RunL.nil ?_ | refine RunE.block ?_ | refine RunE.inBlock ?_ | refine RunE.skip ?_ | refine RunE.exit rfl ?_ | refine RunE.scope ?_ | refine RunE.inScope ?_ | refine RunE.label ?_)
      refine RunE.weaken (by repeat (first | exact Sub.nil _ | refine Sub.cons rfl ?_)) (again (i + 1, _) _ (by simp only; omega) ⟨by simp only; omega, X6, Z6, ?_⟩)
      simp only
      rw [rows_take hc]; exact O6
    | @text s sv hs hsl =>
      repeat (first | refine RunL.pureI Tryd.tOk rfl rfl rfl (by (first | exact wr_i64 (by omega) (by omega) | exact wm_i64 (by omega) | exact wq_i64 (by omega) (by omega) (by omega) | rfl)) ?_ | refine RunL.pure Tryd.tOk rfl rfl rfl ?_ | refine RunL.unwantedD rfl rfl ?_ | refine RunE.seq ?_ | refine RunE.region ?_ | refine RunL.nil ?_ | refine RunE.block ?_ | refine RunE.inBlock ?_ | refine RunE.skip ?_ | refine RunE.exit rfl ?_ | refine RunE.scope ?_ | refine RunE.inScope ?_ | refine RunE.label ?_)
      refine RunL.val rfl rfl rfl (OpV.assertF rfl rfl (TD.of_int (TI.tdof (Tryd.tOk.get 3 _ rfl)).symm) rfl (zv := .int .i64 0) (by kernel_rfl)) ?_
      repeat (first | refine RunL.pureI Tryd.tOk rfl rfl rfl (by (first | exact wr_i64 (by omega) (by omega) | exact wm_i64 (by omega) | exact wq_i64 (by omega) (by omega) (by omega) | rfl)) ?_ | refine RunL.pure Tryd.tOk rfl rfl rfl ?_ | refine RunL.unwantedD rfl rfl ?_ | refine RunL.val rfl rfl rfl (OpV.indexAK Tryd.tOk rfl rfl rfl rfl) ?_ | refine RunL.val rfl rfl rfl (OpV.indexSK Tryd.tOk rfl rfl rfl rfl) ?_ | refine RunL.val rfl rfl rfl (OpV.load1 Tryd.tOk rfl rfl rfl (Blk.cell Z3 rfl)) ?_ | refine RunE.seq ?_ | refine RunE.region ?_ | refine RunL.nil ?_ | refine RunE.block ?_ | refine RunE.inBlock ?_ | refine RunE.skip ?_ | refine RunE.exit rfl ?_ | refine RunE.scope ?_ | refine RunE.inScope ?_ | refine RunE.label ?_)
      refine RunE.condF rfl rfl ?_
      repeat (first | refine RunL.pureI Tryd.tOk rfl rfl rfl (by (first | exact wr_i64 (by omega) (by omega) | exact wm_i64 (by omega) | exact wq_i64 (by omega) (by omega) (by omega) | rfl)) ?_ | refine RunL.pure Tryd.tOk rfl rfl rfl ?_ | refine RunL.unwantedD rfl rfl ?_ | refine RunE.seq ?_ | refine RunE.region ?_ | refine RunL.nil ?_ | refine RunE.block ?_ | refine RunE.inBlock ?_ | refine RunE.skip ?_ | refine RunE.exit rfl ?_ | refine RunE.scope ?_ | refine RunE.inScope ?_ | refine RunE.label ?_)
      refine RunL.val rfl rfl rfl (OpV.assertT (v := sv) rfl (TD.of_slc (TI.tdof (Tryd.tOk.get 64 _ rfl)).symm).1 rfl) ?_
      repeat (first | refine RunL.pureI Tryd.tOk rfl rfl rfl (by (first | exact wr_i64 (by omega) (by omega) | exact wm_i64 (by omega) | exact wq_i64 (by omega) (by omega) (by omega) | rfl)) ?_ | refine RunL.pure Tryd.tOk rfl rfl rfl ?_ | refine RunL.unwantedD rfl rfl ?_ | refine RunL.val rfl rfl rfl (OpV.indexAK Tryd.tOk rfl rfl rfl rfl) ?_ | refine RunL.val rfl rfl rfl (OpV.indexSK Tryd.tOk rfl rfl rfl rfl) ?_ | refine RunL.val rfl rfl rfl (OpV.load1 Tryd.tOk rfl rfl rfl (Blk.cell Z3 rfl)) ?_ | refine RunE.seq ?_ | refine RunE.region ?_ | refine RunL.nil ?_ | refine RunE.block ?_ | refine RunE.inBlock ?_ | refine RunE.skip ?_ | refine RunE.exit rfl ?_ | refine RunE.scope ?_ | refine RunE.inScope ?_ | refine RunE.label ?_)
      refine RunE.condT rfl rfl ?_
      repeat (first | refine RunL.pureI Tryd.tOk rfl rfl rfl (by (first | exact wr_i64 (by omega) (by omega) | exact wm_i64 (by omega) | exact wq_i64 (by omega) (by omega) (by omega) | rfl)) ?_ | refine RunL.pure Tryd.tOk rfl rfl rfl ?_ | refine RunL.unwantedD rfl rfl ?_ | refine RunL.val rfl rfl rfl (OpV.indexAK Tryd.tOk rfl rfl rfl rfl) ?_ | refine RunL.val rfl rfl rfl (OpV.indexSK Tryd.tOk rfl rfl rfl rfl) ?_ | refine RunL.val rfl rfl rfl (OpV.load1 Tryd.tOk rfl rfl rfl (Blk.cell Z3 rfl)) ?_ | refine RunE.seq ?_ | refine RunE.region ?_ | refine RunL.nil ?_ | refine RunE.block ?_ | refine RunE.inBlock ?_ | refine RunE.skip ?_ | refine RunE.exit rfl ?_ | refine RunE.scope ?_ | refine RunE.inScope ?_ | refine RunE.label ?_)
      refine RunL.val rfl rfl rfl (OpV.b2sSl (l := s) Tryd.tOk rfl rfl rfl rfl (hs.extE X3)) ?_
      repeat (first | refine RunL.pureI Tryd.tOk rfl rfl rfl (by (first | exact wr_i64 (by omega) (by omega) | exact wm_i64 (by omega) | exact wq_i64 (by omega) (by omega) (by omega) | rfl)) ?_ | refine RunL.pure Tryd.tOk rfl rfl rfl ?_ | refine RunL.unwantedD rfl rfl ?_ | refine RunL.val rfl rfl rfl (OpV.indexAK Tryd.tOk rfl rfl rfl rfl) ?_ | refine RunL.val rfl rfl rfl (OpV.indexSK Tryd.tOk rfl rfl rfl rfl) ?_ | refine RunL.val rfl rfl rfl (OpV.load1 Tryd.tOk rfl rfl rfl (Blk.cell Z3 rfl)) ?_ | refine RunE.seq ?_ | refine RunE.region ?_ | refine RunL.nil ?_ | refine RunE.block ?_ | refine RunE.inBlock ?_ | refine RunE.skip ?_ | refine RunE.exit rfl ?_ | refine RunE.scope ?_ | refine RunE.inScope ?_ | refine RunE.label ?_)
      refine RunL.ex rfl rfl rfl (OpE.buildSl Tryd.tOk [.agg (rowOf (.text s)).toArray] rfl rfl rfl rfl rfl rfl (by simp [Value.cells, rowOf])) ?_
      rintro _ w4 ⟨B, rfl, a4⟩
      have hB4 := a4.eq
      have X4 := X3.trans a4.ext
      have Z4 := Z3.ext a4.ext id
      have O4 := ownsRow_ext O3 a4.ext (fun _ _ h => h)
      have hz4 := a4.size
      refine RunL.ex rfl rfl rfl (OpE.append' Tryd.tOk rfl rfl rfl rfl rfl rfl O4 (isSl_added (n := 1) (sz := 4) a4 rfl) rfl (by show _ * 56 ≤ _; omega) (by omega) (by omega)) ?_
      rintro v5 w5 ⟨O5, E5, -⟩
      clear a4
      have X5 : Ext w w5 := X4.write E5 (by intro k hk hlt; have := ownsRow_ge O4 hk; omega)
      have Z5 := Z4.ext E5 (by intro hk; have := ownsRow_ge O4 hk; omega)
      obtain ⟨b5, o5, cap5, rfl, -, -, -⟩ := (isSl_own O5).held (by omega)
      repeat (first | refine RunL.pureI Tryd.tOk rfl rfl rfl (by (first | exact wr_i64 (by omega) (by omega) | exact wm_i64 (by omega) | exact wq_i64 (by omega) (by omega) (by omega) | rfl)) ?_ | refine RunL.pure Tryd.tOk rfl rfl rfl ?_ | refine RunL.unwantedD rfl rfl ?_ | refine RunE.seq ?_ | refine RunE.region ?_ | refine RunL.nil ?_ | refine RunE.block ?_ | refine RunE.inBlock ?_ | refine RunE.skip ?_ | refine RunE.exit rfl ?_ | refine RunE.scope ?_ | refine RunE.inScope ?_ | refine RunE.label ?_)
      refine RunL.store Tryd.tOk rfl rfl rfl rfl rfl Z5 rfl rfl fun w6 t6 => ?_
      have X6 : Ext w w6 := X5.write t6.ext (by intro k hk hlt; subst hk; omega)
      have Z6 : Blk w6 B3 [.int .i64 3, .int .i64 0, .string ⟨#[]⟩, .slice (some ⟨b5, o5, none⟩) (i + 1) cap5] 83 := t6.at_
      have O6 := ownsRow_ext O5 t6.ext (fun k hk e => by have := ownsRow_ge O5 hk; omega)
      clear t6
      repeat (first | refine RunL.pureI Tryd.tOk rfl rfl rfl (by (first | exact wr_i64 (by omega) (by omega) | exact wm_i64 (by omega) | exact wq_i64 (by omega) (by omega) (by omega) | rfl)) ?_ | refine RunL.pure Tryd.tOk rfl rfl rfl ?_ | refine RunL.unwantedD rfl rfl ?_ | refine RunE.seq ?_ | refine RunE.region ?_ | refine RunL.nil ?_ | refine RunE.block ?_ | refine RunE.inBlock ?_ | refine RunE.skip ?_ | refine RunE.exit rfl ?_ | refine RunE.scope ?_ | refine RunE.inScope ?_ | refine RunE.label ?_)
      refine RunE.weaken (by repeat (first | exact Sub.nil _ | refine Sub.cons rfl ?_)) (again (i + 1, _) _ (by simp only; omega) ⟨by simp only; omega, X6, Z6, ?_⟩)
      simp only
      rw [rows_take hc]; exact O6
  · have hil : i = l.length := by omega
    subst hil
    rw [List.take_length] at O3
    repeat (first | refine RunL.pureI Tryd.tOk rfl rfl rfl (by (first | exact wr_i64 (by omega) (by omega) | exact wm_i64 (by omega) | exact wq_i64 (by omega) (by omega) (by omega) | rfl)) ?_ | refine RunL.pure Tryd.tOk rfl rfl rfl ?_ | refine RunL.unwantedD rfl rfl ?_ | refine RunE.seq ?_ | refine RunE.region ?_ | refine RunL.nil ?_ | refine RunE.block ?_ | refine RunE.inBlock ?_ | refine RunE.skip ?_ | refine RunE.exit rfl ?_ | refine RunE.scope ?_ | refine RunE.inScope ?_ | refine RunE.label ?_)
    have hd : (CV.list l).depth ≤ 16 := by
      simp only [CV.depth]
      rw [depths_zero l fun c hc => ?_]
      · omega
      · obtain ⟨i, hi⟩ := List.getElem?_of_mem hc
        obtain ⟨a, -, h⟩ := ha i c hi
        exact h.depth
    have hin : (CV.list l).In w3 [.int .i64 3, .int .i64 0, .string ⟨#[]⟩, u] := by
      simp only [CV.In]
      refine ⟨by omega, u, _, rfl, isSl_own O3, ins_rows l fun c hc => ?_⟩
      obtain ⟨i, hi⟩ := List.getElem?_of_mem hc
      obtain ⟨a, -, h⟩ := ha i c hi
      exact h.in_
    refine RunL.val rfl rfl rfl (OpV.loadN (cs := [.int .i64 3, .int .i64 0, .string ⟨#[]⟩, u]) Tryd.tOk rfl rfl rfl rfl Z3.row) ?_
    refine RunL.call rfl rfl rfl (encode_ok (.list l) _ w3 hin hd (by omega)) ?_
    rintro _ w4 ⟨r, rfl, O4, X4⟩
    repeat (first | refine RunL.pureI Tryd.tOk rfl rfl rfl (by (first | exact wr_i64 (by omega) (by omega) | exact wm_i64 (by omega) | exact wq_i64 (by omega) (by omega) (by omega) | rfl)) ?_ | refine RunL.pure Tryd.tOk rfl rfl rfl ?_ | refine RunL.unwantedD rfl rfl ?_ | refine RunE.seq ?_ | refine RunE.region ?_ | refine RunL.nil ?_ | refine RunE.block ?_ | refine RunE.inBlock ?_ | refine RunE.skip ?_ | refine RunE.exit rfl ?_ | refine RunE.scope ?_ | refine RunE.inScope ?_ | refine RunE.label ?_)
    exact RunE.retFn Tryd.func77 (.tmp rfl .nil) ⟨ownsRow_base O4 hz3, X3.trans X4⟩
end Go.Sg
end
