/- The walks of package group: Mul, Element, Number. -/
import Derived.Test.YtbjmdklcbknlpaaDoorValid
namespace Go.Sg
open Go.Rn Go.NT Go.Proofs

def grpE (b : Bool) : Int := if b then 0 else 100
def mulC (a b : Int) : Int := if validS a && validS b then a * b % 2147483579 else 0

theorem mul_ok (a b : Int) (w : World) : Rets Tryd.prog 28 [.int .i64 a, .int .i64 b] w fun v w' => v = .tuple #[.int .i64 (mulC a b), .int .i64 (grpE (validS a && validS b))] ∧ w = w' := by
  refine RetsX.of (nt := 18) Tryd.func28 (by kernel_rfl) rfl rfl (by simp) (by simp only [argEnv]; rfl) ?_
  repeat (first | refine RunL.pureI Tryd.tOk rfl rfl rfl (by (first | exact wr_i64 (by omega) (by omega) | exact wm_i64 (by omega) | exact wq_i64 (by omega) (by omega) (by omega) | rfl)) ?_ | refine RunL.pure Tryd.tOk rfl rfl rfl ?_ | refine RunL.unwantedD rfl rfl ?_ | refine RunE.seq ?_ | refine RunE.region ?_ | refine RunL.nil ?_ | refine RunE.block ?_ | refine RunE.inBlock ?_ | refine RunE.skip ?_ | refine RunE.exit rfl ?_ | refine RunE.scope ?_ | refine RunE.inScope ?_ | refine RunE.label ?_)
  refine RunL.call rfl rfl rfl (valid_ok _ _) ?_
  rintro _ _ ⟨rfl, rfl⟩
  cases ha : validS a with
  | false =>
    repeat (first | refine RunL.pureI Tryd.tOk rfl rfl rfl (by (first | exact wr_i64 (by omega) (by omega) | exact wm_i64 (by omega) | exact wq_i64 (by omega) (by omega) (by omega) | rfl)) ?_ | refine RunL.pure Tryd.tOk rfl rfl rfl ?_ | refine RunL.unwantedD rfl rfl ?_ | refine RunE.seq ?_ | refine RunE.region ?_ | refine RunL.nil ?_ | refine RunE.block ?_ | refine RunE.inBlock ?_ | refine RunE.skip ?_ | refine RunE.exit rfl ?_ | refine RunE.scope ?_ | refine RunE.inScope ?_ | refine RunE.label ?_)
    refine RunE.condT rfl rfl ?_
    repeat (first | refine RunL.pureI Tryd.tOk rfl rfl rfl (by (first | exact wr_i64 (by omega) (by omega) | exact wm_i64 (by omega) | exact wq_i64 (by omega) (by omega) (by omega) | rfl)) ?_ | refine RunL.pure Tryd.tOk rfl rfl rfl ?_ | refine RunL.unwantedD rfl rfl ?_ | refine RunE.seq ?_ | refine RunE.region ?_ | refine RunL.nil ?_ | refine RunE.block ?_ | refine RunE.inBlock ?_ | refine RunE.skip ?_ | refine RunE.exit rfl ?_ | refine RunE.scope ?_ | refine RunE.inScope ?_ | refine RunE.label ?_)
    exact RunE.retFn Tryd.func28 (.tmp rfl (.tmp rfl .nil)) ⟨by simp [oneOr, mulC, ha, grpE], rfl⟩
  | true =>
    repeat (first | refine RunL.pureI Tryd.tOk rfl rfl rfl (by (first | exact wr_i64 (by omega) (by omega) | exact wm_i64 (by omega) | exact wq_i64 (by omega) (by omega) (by omega) | rfl)) ?_ | refine RunL.pure Tryd.tOk rfl rfl rfl ?_ | refine RunL.unwantedD rfl rfl ?_ | refine RunE.seq ?_ | refine RunE.region ?_ | refine RunL.nil ?_ | refine RunE.block ?_ | refine RunE.inBlock ?_ | refine RunE.skip ?_ | refine RunE.exit rfl ?_ | refine RunE.scope ?_ | refine RunE.inScope ?_ | refine RunE.label ?_)
    refine RunL.call rfl rfl rfl (valid_ok _ _) ?_
    rintro _ _ ⟨rfl, rfl⟩
    cases hb : validS b with
    | false =>
      repeat (first | refine RunL.pureI Tryd.tOk rfl rfl rfl (by (first | exact wr_i64 (by omega) (by omega) | exact wm_i64 (by omega) | exact wq_i64 (by omega) (by omega) (by omega) | rfl)) ?_ | refine RunL.pure Tryd.tOk rfl rfl rfl ?_ | refine RunL.unwantedD rfl rfl ?_ | refine RunE.seq ?_ | refine RunE.region ?_ | refine RunL.nil ?_ | refine RunE.block ?_ | refine RunE.inBlock ?_ | refine RunE.skip ?_ | refine RunE.exit rfl ?_ | refine RunE.scope ?_ | refine RunE.inScope ?_ | refine RunE.label ?_)
      refine RunE.condT rfl rfl ?_
      repeat (first | refine RunL.pureI Tryd.tOk rfl rfl rfl (by (first | exact wr_i64 (by omega) (by omega) | exact wm_i64 (by omega) | exact wq_i64 (by omega) (by omega) (by omega) | rfl)) ?_ | refine RunL.pure Tryd.tOk rfl rfl rfl ?_ | refine RunL.unwantedD rfl rfl ?_ | refine RunE.seq ?_ | refine RunE.region ?_ | refine RunL.nil ?_ | refine RunE.block ?_ | refine RunE.inBlock ?_ | refine RunE.skip ?_ | refine RunE.exit rfl ?_ | refine RunE.scope ?_ | refine RunE.inScope ?_ | refine RunE.label ?_)
      exact RunE.retFn Tryd.func28 (.tmp rfl (.tmp rfl .nil)) ⟨by simp [oneOr, mulC, ha, hb, grpE], rfl⟩
    | true =>
      have h1 := validS_inv ha
      have h2 := validS_inv hb
      have hm := mulmod_bd (by omega : 0 ≤ a) h1.2.1 (by omega : 0 ≤ b) h2.2.1
      clear h1 h2
      repeat (first | refine RunL.pureI Tryd.tOk rfl rfl rfl (by (first | exact wr_i64 (by omega) (by omega) | exact wm_i64 (by omega) | exact wq_i64 (by omega) (by omega) (by omega) | rfl)) ?_ | refine RunL.pure Tryd.tOk rfl rfl rfl ?_ | refine RunL.unwantedD rfl rfl ?_ | refine RunE.seq ?_ | refine RunE.region ?_ | refine RunL.nil ?_ | refine RunE.block ?_ | refine RunE.inBlock ?_ | refine RunE.skip ?_ | refine RunE.exit rfl ?_ | refine RunE.scope ?_ | refine RunE.inScope ?_ | refine RunE.label ?_)
      refine RunE.condF rfl rfl ?_
      repeat (first | refine RunL.pureI Tryd.tOk rfl rfl rfl (by (first | exact wr_i64 (by omega) (by omega) | exact wm_i64 (by omega) | exact wq_i64 (by omega) (by omega) (by omega) | rfl)) ?_ | refine RunL.pure Tryd.tOk rfl rfl rfl ?_ | refine RunL.unwantedD rfl rfl ?_ | refine RunE.seq ?_ | refine RunE.region ?_ | refine RunL.nil ?_ | refine RunE.block ?_ | refine RunE.inBlock ?_ | refine RunE.skip ?_ | refine RunE.exit rfl ?_ | refine RunE.scope ?_ | refine RunE.inScope ?_ | refine RunE.label ?_)
      exact RunE.retFn Tryd.func28 (.tmp rfl (.tmp rfl .nil)) ⟨by simp [oneOr, mulC, ha, hb, grpE], rfl⟩

def elemC (n : Int) : Int := if n < 1 ∨ n > 1073741789 then 0 else if validS n then n else 2147483579 - n
def elemE (n : Int) : Int := if n < 1 ∨ n > 1073741789 then 1 else 0

theorem element_ok (n : Int) (w : World) : Rets Tryd.prog 10 [.int .i64 n] w fun v w' => v = .tuple #[.int .i64 (elemC n), .int .i64 (elemE n)] ∧ w = w' := by
  refine RetsX.of (nt := 15) Tryd.func10 (by kernel_rfl) rfl rfl (by simp) (by simp only [argEnv]; rfl) ?_
  repeat (first | refine RunL.pureI Tryd.tOk rfl rfl rfl (by (first | exact wr_i64 (by omega) (by omega) | exact wm_i64 (by omega) | exact wq_i64 (by omega) (by omega) (by omega) | rfl)) ?_ | refine RunL.pure Tryd.tOk rfl rfl rfl ?_ | refine RunL.unwantedD rfl rfl ?_ | refine RunE.seq ?_ | refine RunE.region ?_ | refine RunL.nil ?_ | refine RunE.block ?_ | refine RunE.inBlock ?_ | refine RunE.skip ?_ | refine RunE.exit rfl ?_ | refine RunE.scope ?_ | refine RunE.inScope ?_ | refine RunE.label ?_)
  cases h1 : decide (n < 1) with
  | true =>
    have h1' := of_decide_eq_true h1
    repeat (first | refine RunL.pureI Tryd.tOk rfl rfl rfl (by (first | exact wr_i64 (by omega) (by omega) | exact wm_i64 (by omega) | exact wq_i64 (by omega) (by omega) (by omega) | rfl)) ?_ | refine RunL.pure Tryd.tOk rfl rfl rfl ?_ | refine RunL.unwantedD rfl rfl ?_ | refine RunE.seq ?_ | refine RunE.region ?_ | refine RunL.nil ?_ | refine RunE.block ?_ | refine RunE.inBlock ?_ | refine RunE.skip ?_ | refine RunE.exit rfl ?_ | refine RunE.scope ?_ | refine RunE.inScope ?_ | refine RunE.label ?_)
    refine RunE.condT rfl rfl ?_
    repeat (first | refine RunL.pureI Tryd.tOk rfl rfl rfl (by (first | exact wr_i64 (by omega) (by omega) | exact wm_i64 (by omega) | exact wq_i64 (by omega) (by omega) (by omega) | rfl)) ?_ | refine RunL.pure Tryd.tOk rfl rfl rfl ?_ | refine RunL.unwantedD rfl rfl ?_ | refine RunE.seq ?_ | refine RunE.region ?_ | refine RunL.nil ?_ | refine RunE.block ?_ | refine RunE.inBlock ?_ | refine RunE.skip ?_ | refine RunE.exit rfl ?_ | refine RunE.scope ?_ | refine RunE.inScope ?_ | refine RunE.label ?_)
    exact RunE.retFn Tryd.func10 (.tmp rfl (.tmp rfl .nil)) ⟨by simp [oneOr, elemC, elemE, h1'], rfl⟩
  | false =>
    have h1' := of_decide_eq_false h1
    repeat (first | refine RunL.pureI Tryd.tOk rfl rfl rfl (by (first | exact wr_i64 (by omega) (by omega) | exact wm_i64 (by omega) | exact wq_i64 (by omega) (by omega) (by omega) | rfl)) ?_ | refine RunL.pure Tryd.tOk rfl rfl rfl ?_ | refine RunL.unwantedD rfl rfl ?_ | refine RunE.seq ?_ | refine RunE.region ?_ | refine RunL.nil ?_ | refine RunE.block ?_ | refine RunE.inBlock ?_ | refine RunE.skip ?_ | refine RunE.exit rfl ?_ | refine RunE.scope ?_ | refine RunE.inScope ?_ | refine RunE.label ?_)
    refine RunE.cond rfl (fun h2 => ?_) (fun h2 => ?_) <;> (first | replace h2 := of_decide_eq_true h2 | replace h2 := of_decide_eq_false h2 | replace h2 := beq_iff_eq.1 h2 | replace h2 := beq_eq_false_iff_ne.1 h2 | replace h2 := bne_iff_ne.1 h2 | replace h2 := bne_eq_false_iff_eq.1 h2 | skip)
    · repeat (first | refine RunL.pureI Tryd.tOk rfl rfl rfl (by (first | exact wr_i64 (by omega) (by omega) | exact wm_i64 (by omega) | exact wq_i64 (by omega) (by omega) (by omega) | rfl)) ?_ | refine RunL.pure Tryd.tOk rfl rfl rfl ?_ | refine RunL.unwantedD rfl rfl ?_ | refine RunE.seq ?_ | refine RunE.region ?_ | refine RunL.nil ?_ | refine RunE.block ?_ | refine RunE.inBlock ?_ | refine RunE.skip ?_ | refine RunE.exit rfl ?_ | refine RunE.scope ?_ | refine RunE.inScope ?_ | refine RunE.label ?_)
      exact RunE.retFn Tryd.func10 (.tmp rfl (.tmp rfl .nil)) ⟨by simp [oneOr, elemC, elemE, h2], rfl⟩
    · have h3 : ¬ (n < 1 ∨ n > 1073741789) := by omega
      repeat (first | refine RunL.pureI Tryd.tOk rfl rfl rfl (by (first | exact wr_i64 (by omega) (by omega) | exact wm_i64 (by omega) | exact wq_i64 (by omega) (by omega) (by omega) | rfl)) ?_ | refine RunL.pure Tryd.tOk rfl rfl rfl ?_ | refine RunL.unwantedD rfl rfl ?_ | refine RunE.seq ?_ | refine RunE.region ?_ | refine RunL.nil ?_ | refine RunE.block ?_ | refine RunE.inBlock ?_ | refine RunE.skip ?_ | refine RunE.exit rfl ?_ | refine RunE.scope ?_ | refine RunE.inScope ?_ | refine RunE.label ?_)
      refine RunL.call rfl rfl rfl (valid_ok _ _) ?_
      rintro _ _ ⟨rfl, rfl⟩
      repeat (first | refine RunL.pureI Tryd.tOk rfl rfl rfl (by (first | exact wr_i64 (by omega) (by omega) | exact wm_i64 (by omega) | exact wq_i64 (by omega) (by omega) (by omega) | rfl)) ?_ | refine RunL.pure Tryd.tOk rfl rfl rfl ?_ | refine RunL.unwantedD rfl rfl ?_ | refine RunE.seq ?_ | refine RunE.region ?_ | refine RunL.nil ?_ | refine RunE.block ?_ | refine RunE.inBlock ?_ | refine RunE.skip ?_ | refine RunE.exit rfl ?_ | refine RunE.scope ?_ | refine RunE.inScope ?_ | refine RunE.label ?_)
      cases hv : validS n with
      | true =>
        refine RunE.condT rfl rfl ?_
        repeat (first | refine RunL.pureI Tryd.tOk rfl rfl rfl (by (first | exact wr_i64 (by omega) (by omega) | exact wm_i64 (by omega) | exact wq_i64 (by omega) (by omega) (by omega) | rfl)) ?_ | refine RunL.pure Tryd.tOk rfl rfl rfl ?_ | refine RunL.unwantedD rfl rfl ?_ | refine RunE.seq ?_ | refine RunE.region ?_ | refine RunL.nil ?_ | refine RunE.block ?_ | refine RunE.inBlock ?_ | refine RunE.skip ?_ | refine RunE.exit rfl ?_ | refine RunE.scope ?_ | refine RunE.inScope ?_ | refine RunE.label ?_)
        exact RunE.retFn Tryd.func10 (.tmp rfl (.tmp rfl .nil)) ⟨by simp only [oneOr, elemC, elemE, if_neg h3, hv, if_true], rfl⟩
      | false =>
        refine RunE.condF rfl rfl ?_
        repeat (first | refine RunL.pureI Tryd.tOk rfl rfl rfl (by (first | exact wr_i64 (by omega) (by omega) | exact wm_i64 (by omega) | exact wq_i64 (by omega) (by omega) (by omega) | rfl)) ?_ | refine RunL.pure Tryd.tOk rfl rfl rfl ?_ | refine RunL.unwantedD rfl rfl ?_ | refine RunE.seq ?_ | refine RunE.region ?_ | refine RunL.nil ?_ | refine RunE.block ?_ | refine RunE.inBlock ?_ | refine RunE.skip ?_ | refine RunE.exit rfl ?_ | refine RunE.scope ?_ | refine RunE.inScope ?_ | refine RunE.label ?_)
        exact RunE.retFn Tryd.func10 (.tmp rfl (.tmp rfl .nil)) ⟨by simp only [oneOr, elemC, elemE, if_neg h3, hv, Bool.false_eq_true, if_false], rfl⟩

def numC (x : Int) : Int := if validS x then (if x ≤ 1073741789 then x else 2147483579 - x) else 0

theorem number_ok (x : Int) (w : World) : Rets Tryd.prog 12 [.int .i64 x] w fun v w' => v = .tuple #[.int .i64 (numC x), .int .i64 (grpE (validS x))] ∧ w = w' := by
  refine RetsX.of (nt := 11) Tryd.func12 (by kernel_rfl) rfl rfl (by simp) (by simp only [argEnv]; rfl) ?_
  repeat (first | refine RunL.pureI Tryd.tOk rfl rfl rfl (by (first | exact wr_i64 (by omega) (by omega) | exact wm_i64 (by omega) | exact wq_i64 (by omega) (by omega) (by omega) | rfl)) ?_ | refine RunL.pure Tryd.tOk rfl rfl rfl ?_ | refine RunL.unwantedD rfl rfl ?_ | refine RunE.seq ?_ | refine RunE.region ?_ | refine RunL.nil ?_ | refine RunE.block ?_ | refine RunE.inBlock ?_ | refine RunE.skip ?_ | refine RunE.exit rfl ?_ | refine RunE.scope ?_ | refine RunE.inScope ?_ | refine RunE.label ?_)
  refine RunL.call rfl rfl rfl (valid_ok _ _) ?_
  rintro _ _ ⟨rfl, rfl⟩
  repeat (first | refine RunL.pureI Tryd.tOk rfl rfl rfl (by (first | exact wr_i64 (by omega) (by omega) | exact wm_i64 (by omega) | exact wq_i64 (by omega) (by omega) (by omega) | rfl)) ?_ | refine RunL.pure Tryd.tOk rfl rfl rfl ?_ | refine RunL.unwantedD rfl rfl ?_ | refine RunE.seq ?_ | refine RunE.region ?_ | refine RunL.nil ?_ | refine RunE.block ?_ | refine RunE.inBlock ?_ | refine RunE.skip ?_ | refine RunE.exit rfl ?_ | refine RunE.scope ?_ | refine RunE.inScope ?_ | refine RunE.label ?_)
  cases hv : validS x with
  | false =>
    refine RunE.condT rfl rfl ?_
    repeat (first | refine RunL.pureI Tryd.tOk rfl rfl rfl (by (first | exact wr_i64 (by omega) (by omega) | exact wm_i64 (by omega) | exact wq_i64 (by omega) (by omega) (by omega) | rfl)) ?_ | refine RunL.pure Tryd.tOk rfl rfl rfl ?_ | refine RunL.unwantedD rfl rfl ?_ | refine RunE.seq ?_ | refine RunE.region ?_ | refine RunL.nil ?_ | refine RunE.block ?_ | refine RunE.inBlock ?_ | refine RunE.skip ?_ | refine RunE.exit rfl ?_ | refine RunE.scope ?_ | refine RunE.inScope ?_ | refine RunE.label ?_)
    exact RunE.retFn Tryd.func12 (.tmp rfl (.tmp rfl .nil)) ⟨by simp [oneOr, numC, hv, grpE], rfl⟩
  | true =>
    have h1 := validS_inv hv
    refine RunE.condF rfl rfl ?_
    repeat (first | refine RunL.pureI Tryd.tOk rfl rfl rfl (by (first | exact wr_i64 (by omega) (by omega) | exact wm_i64 (by omega) | exact wq_i64 (by omega) (by omega) (by omega) | rfl)) ?_ | refine RunL.pure Tryd.tOk rfl rfl rfl ?_ | refine RunL.unwantedD rfl rfl ?_ | refine RunE.seq ?_ | refine RunE.region ?_ | refine RunL.nil ?_ | refine RunE.block ?_ | refine RunE.inBlock ?_ | refine RunE.skip ?_ | refine RunE.exit rfl ?_ | refine RunE.scope ?_ | refine RunE.inScope ?_ | refine RunE.label ?_)
    refine RunE.retFn Tryd.func12 (.tmp rfl (.tmp rfl .nil)) ⟨?_, rfl⟩
    have e : (if 2147483579 - x < x then 2147483579 - x else x) = numC x := by
      simp only [numC, hv, if_true]; split <;> split <;> omega
    simp only [oneOr, e, grpE, if_true]
end Go.Sg
