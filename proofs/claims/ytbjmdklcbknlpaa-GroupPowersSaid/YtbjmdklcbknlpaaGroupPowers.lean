/- signatorylaw10.GroupPowers returns true for every input; no condition. -/
import Derived.Test.YtbjmdklcbknlpaaGroupFacts
import Derived.Test.YtbjmdklcbknlpaaClose
namespace Go.Sg
open Go.Rn Go.NT Go.Proofs

theorem groupPowers_walk (x y m n : Int) (_ : -9223372036854775808 ≤ x ∧ x < 9223372036854775808) (_ : -9223372036854775808 ≤ y ∧ y < 9223372036854775808) (hm : -2147483648 ≤ m ∧ m < 2147483648) (hn : -2147483648 ≤ n ∧ n < 2147483648) (w : World) :
    Rets Try.prog 5 [.int .i64 x, .int .i64 y, .int .i32 m, .int .i32 n] w fun v w' => v = .bool true ∧ Ext w w' := by
  have hmn := mul_bd32 hm hn
  refine RetsX.of (nt := 110) Try.func5 (by kernel_rfl) rfl rfl (by simp) (by simp only [argEnv]; rfl) ?_
  repeat (first | refine RunL.pureI Try.tOk rfl rfl rfl (by (first | exact wr_i64 (by omega) (by omega) | exact wm_i64 (by omega) | exact wq_i64 (by omega) (by omega) (by omega) | rfl)) ?_ | refine RunL.pure Try.tOk rfl rfl rfl ?_ | refine RunL.unwantedD rfl rfl ?_ | refine RunE.seq ?_ | refine RunE.region ?_ | refine RunL.nil ?_ | refine RunE.block ?_ | refine RunE.inBlock ?_ | refine RunE.skip ?_ | refine RunE.exit rfl ?_ | refine RunE.scope ?_ | refine RunE.inScope ?_ | refine RunE.label ?_)
  refine RunL.call rfl rfl rfl (l10_sane_ok _) ?_
  rintro _ u0 ⟨rfl, X⟩
  repeat (first | refine RunL.pureI Try.tOk rfl rfl rfl (by (first | exact wr_i64 (by omega) (by omega) | exact wm_i64 (by omega) | exact wq_i64 (by omega) (by omega) (by omega) | rfl)) ?_ | refine RunL.pure Try.tOk rfl rfl rfl ?_ | refine RunL.unwantedD rfl rfl ?_ | refine RunE.seq ?_ | refine RunE.region ?_ | refine RunL.nil ?_ | refine RunE.block ?_ | refine RunE.inBlock ?_ | refine RunE.skip ?_ | refine RunE.exit rfl ?_ | refine RunE.scope ?_ | refine RunE.inScope ?_ | refine RunE.label ?_)
  refine RunE.condF rfl rfl ?_
  repeat (first | refine RunL.pureI Try.tOk rfl rfl rfl (by (first | exact wr_i64 (by omega) (by omega) | exact wm_i64 (by omega) | exact wq_i64 (by omega) (by omega) (by omega) | rfl)) ?_ | refine RunL.pure Try.tOk rfl rfl rfl ?_ | refine RunL.unwantedD rfl rfl ?_ | refine RunE.seq ?_ | refine RunE.region ?_ | refine RunL.nil ?_ | refine RunE.block ?_ | refine RunE.inBlock ?_ | refine RunE.skip ?_ | refine RunE.exit rfl ?_ | refine RunE.scope ?_ | refine RunE.inScope ?_ | refine RunE.label ?_)
  refine RunL.call rfl rfl rfl (l10_element_ok _ _) ?_
  rintro _ _ ⟨rfl, rfl⟩
  repeat (first | refine RunL.pureI Try.tOk rfl rfl rfl (by (first | exact wr_i64 (by omega) (by omega) | exact wm_i64 (by omega) | exact wq_i64 (by omega) (by omega) (by omega) | rfl)) ?_ | refine RunL.pure Try.tOk rfl rfl rfl ?_ | refine RunL.unwantedD rfl rfl ?_ | refine RunE.seq ?_ | refine RunE.region ?_ | refine RunL.nil ?_ | refine RunE.block ?_ | refine RunE.inBlock ?_ | refine RunE.skip ?_ | refine RunE.exit rfl ?_ | refine RunE.scope ?_ | refine RunE.inScope ?_ | refine RunE.label ?_)
  refine RunL.call rfl rfl rfl (l10_element_ok _ _) ?_
  rintro _ _ ⟨rfl, rfl⟩
  have ha := elem_valid x
  have hb := elem_valid y
  generalize elemC (x % 1073741789 + 1) = a at *
  generalize elemC (y % 1073741789 + 1) = b at *
  repeat (first | refine RunL.pureI Try.tOk rfl rfl rfl (by (first | exact wr_i64 (by omega) (by omega) | exact wm_i64 (by omega) | exact wq_i64 (by omega) (by omega) (by omega) | rfl)) ?_ | refine RunL.pure Try.tOk rfl rfl rfl ?_ | refine RunL.unwantedD rfl rfl ?_ | refine RunE.seq ?_ | refine RunE.region ?_ | refine RunL.nil ?_ | refine RunE.block ?_ | refine RunE.inBlock ?_ | refine RunE.skip ?_ | refine RunE.exit rfl ?_ | refine RunE.scope ?_ | refine RunE.inScope ?_ | refine RunE.label ?_)
  refine RunL.call rfl rfl rfl (l10_pow_ok _ _ _) ?_
  rintro _ u1 ⟨rfl, h1⟩
  have X := X.trans h1; clear h1
  rw [powC_zero ha]
  repeat (first | refine RunL.pureB Try.tOk true rfl rfl rfl (by first | exact beq_self_eq_true _) ?_ | refine RunL.pureB Try.tOk false rfl rfl rfl (by exact bne_self_eq_false _) ?_ | refine RunL.pureI Try.tOk rfl rfl rfl (by (first | exact wr_i64 (by omega) (by omega) | exact wm_i64 (by omega) | exact wq_i64 (by omega) (by omega) (by omega) | rfl)) ?_ | refine RunL.pure Try.tOk rfl rfl rfl ?_ | refine RunL.unwantedD rfl rfl ?_ | refine RunE.seq ?_ | refine RunE.region ?_ | refine RunL.nil ?_ | refine RunE.block ?_ | refine RunE.inBlock ?_ | refine RunE.skip ?_ | refine RunE.exit rfl ?_ | refine RunE.scope ?_ | refine RunE.inScope ?_ | refine RunE.label ?_)
  refine RunL.call rfl rfl rfl (l10_pow_ok _ _ _) ?_
  rintro _ u2 ⟨rfl, h2⟩
  have X := X.trans h2; clear h2
  rw [powC_one ha]
  repeat (first | refine RunL.pureB Try.tOk true rfl rfl rfl (by first | exact beq_self_eq_true _) ?_ | refine RunL.pureB Try.tOk false rfl rfl rfl (by exact bne_self_eq_false _) ?_ | refine RunL.pureI Try.tOk rfl rfl rfl (by (first | exact wr_i64 (by omega) (by omega) | exact wm_i64 (by omega) | exact wq_i64 (by omega) (by omega) (by omega) | rfl)) ?_ | refine RunL.pure Try.tOk rfl rfl rfl ?_ | refine RunL.unwantedD rfl rfl ?_ | refine RunE.seq ?_ | refine RunE.region ?_ | refine RunL.nil ?_ | refine RunE.block ?_ | refine RunE.inBlock ?_ | refine RunE.skip ?_ | refine RunE.exit rfl ?_ | refine RunE.scope ?_ | refine RunE.inScope ?_ | refine RunE.label ?_)
  refine RunL.call rfl rfl rfl (l10_pow_ok _ _ _) ?_
  rintro _ u3 ⟨rfl, h3⟩
  have X := X.trans h3; clear h3
  rw [powC_two ha]
  repeat (first | refine RunL.pureB Try.tOk true rfl rfl rfl (by first | exact beq_self_eq_true _) ?_ | refine RunL.pureB Try.tOk false rfl rfl rfl (by exact bne_self_eq_false _) ?_ | refine RunL.pureI Try.tOk rfl rfl rfl (by (first | exact wr_i64 (by omega) (by omega) | exact wm_i64 (by omega) | exact wq_i64 (by omega) (by omega) (by omega) | rfl)) ?_ | refine RunL.pure Try.tOk rfl rfl rfl ?_ | refine RunL.unwantedD rfl rfl ?_ | refine RunE.seq ?_ | refine RunE.region ?_ | refine RunL.nil ?_ | refine RunE.block ?_ | refine RunE.inBlock ?_ | refine RunE.skip ?_ | refine RunE.exit rfl ?_ | refine RunE.scope ?_ | refine RunE.inScope ?_ | refine RunE.label ?_)
  refine RunL.buildSlice Try.tOk rfl rfl rfl rfl rfl rfl rfl rfl fun B4 u4 h4 => ?_
  refine RunL.call rfl rfl rfl (l10_mul2_ok _ _ B4 0 2 u4 (Blk.row (show Blk u4 B4 (ints [_, _]) _ from h4.at_)) ha) ?_
  rintro _ _ ⟨rfl, rfl⟩
  have X := X.trans h4.ext; clear h4
  repeat (first | refine RunL.pureB Try.tOk true rfl rfl rfl (by first | exact beq_self_eq_true _) ?_ | refine RunL.pureB Try.tOk false rfl rfl rfl (by exact bne_self_eq_false _) ?_ | refine RunL.pureI Try.tOk rfl rfl rfl (by (first | exact wr_i64 (by omega) (by omega) | exact wm_i64 (by omega) | exact wq_i64 (by omega) (by omega) (by omega) | rfl)) ?_ | refine RunL.pure Try.tOk rfl rfl rfl ?_ | refine RunL.unwantedD rfl rfl ?_ | refine RunE.seq ?_ | refine RunE.region ?_ | refine RunL.nil ?_ | refine RunE.block ?_ | refine RunE.inBlock ?_ | refine RunE.skip ?_ | refine RunE.exit rfl ?_ | refine RunE.scope ?_ | refine RunE.inScope ?_ | refine RunE.label ?_)
  refine RunL.call rfl rfl rfl (l10_pow_ok _ _ _) ?_
  rintro _ u5 ⟨rfl, h5⟩
  have X := X.trans h5; clear h5
  rw [powC_Q ha]
  repeat (first | refine RunL.pureB Try.tOk true rfl rfl rfl (by first | exact beq_self_eq_true _) ?_ | refine RunL.pureB Try.tOk false rfl rfl rfl (by exact bne_self_eq_false _) ?_ | refine RunL.pureI Try.tOk rfl rfl rfl (by (first | exact wr_i64 (by omega) (by omega) | exact wm_i64 (by omega) | exact wq_i64 (by omega) (by omega) (by omega) | rfl)) ?_ | refine RunL.pure Try.tOk rfl rfl rfl ?_ | refine RunL.unwantedD rfl rfl ?_ | refine RunE.seq ?_ | refine RunE.region ?_ | refine RunL.nil ?_ | refine RunE.block ?_ | refine RunE.inBlock ?_ | refine RunE.skip ?_ | refine RunE.exit rfl ?_ | refine RunE.scope ?_ | refine RunE.inScope ?_ | refine RunE.label ?_)
  refine RunL.call rfl rfl rfl (l10_pow_ok _ _ _) ?_
  rintro _ u6 ⟨rfl, h6⟩
  have X := X.trans h6; clear h6
  rw [powC_addQ]
  repeat (first | refine RunL.pureB Try.tOk true rfl rfl rfl (by first | exact beq_self_eq_true _) ?_ | refine RunL.pureB Try.tOk false rfl rfl rfl (by exact bne_self_eq_false _) ?_ | refine RunL.pureI Try.tOk rfl rfl rfl (by (first | exact wr_i64 (by omega) (by omega) | exact wm_i64 (by omega) | exact wq_i64 (by omega) (by omega) (by omega) | rfl)) ?_ | refine RunL.pure Try.tOk rfl rfl rfl ?_ | refine RunL.unwantedD rfl rfl ?_ | refine RunE.seq ?_ | refine RunE.region ?_ | refine RunL.nil ?_ | refine RunE.block ?_ | refine RunE.inBlock ?_ | refine RunE.skip ?_ | refine RunE.exit rfl ?_ | refine RunE.scope ?_ | refine RunE.inScope ?_ | refine RunE.label ?_)
  refine RunL.call rfl rfl rfl (l10_pow_ok _ _ _) ?_
  rintro _ u7 ⟨rfl, h7⟩
  have X := X.trans h7; clear h7
  repeat (first | refine RunL.pureB Try.tOk true rfl rfl rfl (by first | exact beq_self_eq_true _) ?_ | refine RunL.pureB Try.tOk false rfl rfl rfl (by exact bne_self_eq_false _) ?_ | refine RunL.pureI Try.tOk rfl rfl rfl (by (first | exact wr_i64 (by omega) (by omega) | exact wm_i64 (by omega) | exact wq_i64 (by omega) (by omega) (by omega) | rfl)) ?_ | refine RunL.pure Try.tOk rfl rfl rfl ?_ | refine RunL.unwantedD rfl rfl ?_ | refine RunE.seq ?_ | refine RunE.region ?_ | refine RunL.nil ?_ | refine RunE.block ?_ | refine RunE.inBlock ?_ | refine RunE.skip ?_ | refine RunE.exit rfl ?_ | refine RunE.scope ?_ | refine RunE.inScope ?_ | refine RunE.label ?_)
  refine RunL.call rfl rfl rfl (l10_pow_ok _ _ _) ?_
  rintro _ u8 ⟨rfl, h8⟩
  have X := X.trans h8; clear h8
  rw [powC_subQ]
  repeat (first | refine RunL.pureB Try.tOk true rfl rfl rfl (by first | exact beq_self_eq_true _) ?_ | refine RunL.pureB Try.tOk false rfl rfl rfl (by exact bne_self_eq_false _) ?_ | refine RunL.pureI Try.tOk rfl rfl rfl (by (first | exact wr_i64 (by omega) (by omega) | exact wm_i64 (by omega) | exact wq_i64 (by omega) (by omega) (by omega) | rfl)) ?_ | refine RunL.pure Try.tOk rfl rfl rfl ?_ | refine RunL.unwantedD rfl rfl ?_ | refine RunE.seq ?_ | refine RunE.region ?_ | refine RunL.nil ?_ | refine RunE.block ?_ | refine RunE.inBlock ?_ | refine RunE.skip ?_ | refine RunE.exit rfl ?_ | refine RunE.scope ?_ | refine RunE.inScope ?_ | refine RunE.label ?_)
  refine RunL.call rfl rfl rfl (l10_pow_ok _ _ _) ?_
  rintro _ u9 ⟨rfl, h9⟩
  have X := X.trans h9; clear h9
  repeat (first | refine RunL.pureB Try.tOk true rfl rfl rfl (by first | exact beq_self_eq_true _) ?_ | refine RunL.pureB Try.tOk false rfl rfl rfl (by exact bne_self_eq_false _) ?_ | refine RunL.pureI Try.tOk rfl rfl rfl (by (first | exact wr_i64 (by omega) (by omega) | exact wm_i64 (by omega) | exact wq_i64 (by omega) (by omega) (by omega) | rfl)) ?_ | refine RunL.pure Try.tOk rfl rfl rfl ?_ | refine RunL.unwantedD rfl rfl ?_ | refine RunE.seq ?_ | refine RunE.region ?_ | refine RunL.nil ?_ | refine RunE.block ?_ | refine RunE.inBlock ?_ | refine RunE.skip ?_ | refine RunE.exit rfl ?_ | refine RunE.scope ?_ | refine RunE.inScope ?_ | refine RunE.label ?_)
  refine RunE.condF rfl rfl ?_
  repeat (first | refine RunL.pureB Try.tOk true rfl rfl rfl (by first | exact beq_self_eq_true _) ?_ | refine RunL.pureB Try.tOk false rfl rfl rfl (by exact bne_self_eq_false _) ?_ | refine RunL.pureI Try.tOk rfl rfl rfl (by (first | exact wr_i64 (by omega) (by omega) | exact wm_i64 (by omega) | exact wq_i64 (by omega) (by omega) (by omega) | rfl)) ?_ | refine RunL.pure Try.tOk rfl rfl rfl ?_ | refine RunL.unwantedD rfl rfl ?_ | refine RunE.seq ?_ | refine RunE.region ?_ | refine RunL.nil ?_ | refine RunE.block ?_ | refine RunE.inBlock ?_ | refine RunE.skip ?_ | refine RunE.exit rfl ?_ | refine RunE.scope ?_ | refine RunE.inScope ?_ | refine RunE.label ?_)
  refine RunL.call rfl rfl rfl (l10_pow_ok _ _ _) ?_
  rintro _ u10 ⟨rfl, h10⟩
  have X := X.trans h10; clear h10
  repeat (first | refine RunL.pureB Try.tOk true rfl rfl rfl (by first | exact beq_self_eq_true _) ?_ | refine RunL.pureB Try.tOk false rfl rfl rfl (by exact bne_self_eq_false _) ?_ | refine RunL.pureI Try.tOk rfl rfl rfl (by (first | exact wr_i64 (by omega) (by omega) | exact wm_i64 (by omega) | exact wq_i64 (by omega) (by omega) (by omega) | rfl)) ?_ | refine RunL.pure Try.tOk rfl rfl rfl ?_ | refine RunL.unwantedD rfl rfl ?_ | refine RunE.seq ?_ | refine RunE.region ?_ | refine RunL.nil ?_ | refine RunE.block ?_ | refine RunE.inBlock ?_ | refine RunE.skip ?_ | refine RunE.exit rfl ?_ | refine RunE.scope ?_ | refine RunE.inScope ?_ | refine RunE.label ?_)
  refine RunL.call rfl rfl rfl (l10_pow_ok _ _ _) ?_
  rintro _ u11 ⟨rfl, h11⟩
  have X := X.trans h11; clear h11
  have hpa := powC_valid ha m
  refine RunL.buildSlice Try.tOk rfl rfl rfl rfl rfl rfl rfl rfl fun B12 u12 h12 => ?_
  refine RunL.call rfl rfl rfl (l10_mul2_ok _ _ B12 0 2 u12 (Blk.row (show Blk u12 B12 (ints [_, _]) _ from h12.at_)) hpa) ?_
  rintro _ _ ⟨rfl, rfl⟩
  have X := X.trans h12.ext; clear h12
  rw [powC_add ha]
  repeat (first | refine RunL.pureB Try.tOk true rfl rfl rfl (by first | exact beq_self_eq_true _) ?_ | refine RunL.pureB Try.tOk false rfl rfl rfl (by exact bne_self_eq_false _) ?_ | refine RunL.pureI Try.tOk rfl rfl rfl (by (first | exact wr_i64 (by omega) (by omega) | exact wm_i64 (by omega) | exact wq_i64 (by omega) (by omega) (by omega) | rfl)) ?_ | refine RunL.pure Try.tOk rfl rfl rfl ?_ | refine RunL.unwantedD rfl rfl ?_ | refine RunE.seq ?_ | refine RunE.region ?_ | refine RunL.nil ?_ | refine RunE.block ?_ | refine RunE.inBlock ?_ | refine RunE.skip ?_ | refine RunE.exit rfl ?_ | refine RunE.scope ?_ | refine RunE.inScope ?_ | refine RunE.label ?_)
  refine RunL.call rfl rfl rfl (l10_pow_ok _ _ _) ?_
  rintro _ u13 ⟨rfl, h13⟩
  have X := X.trans h13; clear h13
  repeat (first | refine RunL.pureB Try.tOk true rfl rfl rfl (by first | exact beq_self_eq_true _) ?_ | refine RunL.pureB Try.tOk false rfl rfl rfl (by exact bne_self_eq_false _) ?_ | refine RunL.pureI Try.tOk rfl rfl rfl (by (first | exact wr_i64 (by omega) (by omega) | exact wm_i64 (by omega) | exact wq_i64 (by omega) (by omega) (by omega) | rfl)) ?_ | refine RunL.pure Try.tOk rfl rfl rfl ?_ | refine RunL.unwantedD rfl rfl ?_ | refine RunE.seq ?_ | refine RunE.region ?_ | refine RunL.nil ?_ | refine RunE.block ?_ | refine RunE.inBlock ?_ | refine RunE.skip ?_ | refine RunE.exit rfl ?_ | refine RunE.scope ?_ | refine RunE.inScope ?_ | refine RunE.label ?_)
  refine RunL.call rfl rfl rfl (l10_pow_ok _ _ _) ?_
  rintro _ u14 ⟨rfl, h14⟩
  have X := X.trans h14; clear h14
  repeat (first | refine RunL.pureB Try.tOk true rfl rfl rfl (by first | exact beq_self_eq_true _) ?_ | refine RunL.pureB Try.tOk false rfl rfl rfl (by exact bne_self_eq_false _) ?_ | refine RunL.pureI Try.tOk rfl rfl rfl (by (first | exact wr_i64 (by omega) (by omega) | exact wm_i64 (by omega) | exact wq_i64 (by omega) (by omega) (by omega) | rfl)) ?_ | refine RunL.pure Try.tOk rfl rfl rfl ?_ | refine RunL.unwantedD rfl rfl ?_ | refine RunE.seq ?_ | refine RunE.region ?_ | refine RunL.nil ?_ | refine RunE.block ?_ | refine RunE.inBlock ?_ | refine RunE.skip ?_ | refine RunE.exit rfl ?_ | refine RunE.scope ?_ | refine RunE.inScope ?_ | refine RunE.label ?_)
  refine RunL.call rfl rfl rfl (l10_pow_ok _ _ _) ?_
  rintro _ u15 ⟨rfl, h15⟩
  have X := X.trans h15; clear h15
  rw [powC_mul ha]
  repeat (first | refine RunL.pureB Try.tOk true rfl rfl rfl (by first | exact beq_self_eq_true _) ?_ | refine RunL.pureB Try.tOk false rfl rfl rfl (by exact bne_self_eq_false _) ?_ | refine RunL.pureI Try.tOk rfl rfl rfl (by (first | exact wr_i64 (by omega) (by omega) | exact wm_i64 (by omega) | exact wq_i64 (by omega) (by omega) (by omega) | rfl)) ?_ | refine RunL.pure Try.tOk rfl rfl rfl ?_ | refine RunL.unwantedD rfl rfl ?_ | refine RunE.seq ?_ | refine RunE.region ?_ | refine RunL.nil ?_ | refine RunE.block ?_ | refine RunE.inBlock ?_ | refine RunE.skip ?_ | refine RunE.exit rfl ?_ | refine RunE.scope ?_ | refine RunE.inScope ?_ | refine RunE.label ?_)
  refine RunL.call rfl rfl rfl (l10_pow_ok _ _ _) ?_
  rintro _ u16 ⟨rfl, h16⟩
  have X := X.trans h16; clear h16
  repeat (first | refine RunL.pureB Try.tOk true rfl rfl rfl (by first | exact beq_self_eq_true _) ?_ | refine RunL.pureB Try.tOk false rfl rfl rfl (by exact bne_self_eq_false _) ?_ | refine RunL.pureI Try.tOk rfl rfl rfl (by (first | exact wr_i64 (by omega) (by omega) | exact wm_i64 (by omega) | exact wq_i64 (by omega) (by omega) (by omega) | rfl)) ?_ | refine RunL.pure Try.tOk rfl rfl rfl ?_ | refine RunL.unwantedD rfl rfl ?_ | refine RunE.seq ?_ | refine RunE.region ?_ | refine RunL.nil ?_ | refine RunE.block ?_ | refine RunE.inBlock ?_ | refine RunE.skip ?_ | refine RunE.exit rfl ?_ | refine RunE.scope ?_ | refine RunE.inScope ?_ | refine RunE.label ?_)
  refine RunL.buildSlice Try.tOk rfl rfl rfl rfl rfl rfl rfl rfl fun B17 u17 h17 => ?_
  refine RunL.call rfl rfl rfl (l10_mul2_ok _ _ B17 0 2 u17 (Blk.row (show Blk u17 B17 (ints [_, _]) _ from h17.at_)) ha) ?_
  rintro _ _ ⟨rfl, rfl⟩
  have X := X.trans h17.ext; clear h17
  repeat (first | refine RunL.pureB Try.tOk true rfl rfl rfl (by first | exact beq_self_eq_true _) ?_ | refine RunL.pureB Try.tOk false rfl rfl rfl (by exact bne_self_eq_false _) ?_ | refine RunL.pureI Try.tOk rfl rfl rfl (by (first | exact wr_i64 (by omega) (by omega) | exact wm_i64 (by omega) | exact wq_i64 (by omega) (by omega) (by omega) | rfl)) ?_ | refine RunL.pure Try.tOk rfl rfl rfl ?_ | refine RunL.unwantedD rfl rfl ?_ | refine RunE.seq ?_ | refine RunE.region ?_ | refine RunL.nil ?_ | refine RunE.block ?_ | refine RunE.inBlock ?_ | refine RunE.skip ?_ | refine RunE.exit rfl ?_ | refine RunE.scope ?_ | refine RunE.inScope ?_ | refine RunE.label ?_)
  refine RunL.call rfl rfl rfl (l10_pow_ok _ _ _) ?_
  rintro _ u18 ⟨rfl, h18⟩
  have X := X.trans h18; clear h18
  rw [powC_mulC ha hb]
  repeat (first | refine RunL.pureB Try.tOk true rfl rfl rfl (by first | exact beq_self_eq_true _) ?_ | refine RunL.pureB Try.tOk false rfl rfl rfl (by exact bne_self_eq_false _) ?_ | refine RunL.pureI Try.tOk rfl rfl rfl (by (first | exact wr_i64 (by omega) (by omega) | exact wm_i64 (by omega) | exact wq_i64 (by omega) (by omega) (by omega) | rfl)) ?_ | refine RunL.pure Try.tOk rfl rfl rfl ?_ | refine RunL.unwantedD rfl rfl ?_ | refine RunE.seq ?_ | refine RunE.region ?_ | refine RunL.nil ?_ | refine RunE.block ?_ | refine RunE.inBlock ?_ | refine RunE.skip ?_ | refine RunE.exit rfl ?_ | refine RunE.scope ?_ | refine RunE.inScope ?_ | refine RunE.label ?_)
  refine RunL.call rfl rfl rfl (l10_pow_ok _ _ _) ?_
  rintro _ u19 ⟨rfl, h19⟩
  have X := X.trans h19; clear h19
  repeat (first | refine RunL.pureB Try.tOk true rfl rfl rfl (by first | exact beq_self_eq_true _) ?_ | refine RunL.pureB Try.tOk false rfl rfl rfl (by exact bne_self_eq_false _) ?_ | refine RunL.pureI Try.tOk rfl rfl rfl (by (first | exact wr_i64 (by omega) (by omega) | exact wm_i64 (by omega) | exact wq_i64 (by omega) (by omega) (by omega) | rfl)) ?_ | refine RunL.pure Try.tOk rfl rfl rfl ?_ | refine RunL.unwantedD rfl rfl ?_ | refine RunE.seq ?_ | refine RunE.region ?_ | refine RunL.nil ?_ | refine RunE.block ?_ | refine RunE.inBlock ?_ | refine RunE.skip ?_ | refine RunE.exit rfl ?_ | refine RunE.scope ?_ | refine RunE.inScope ?_ | refine RunE.label ?_)
  refine RunL.call rfl rfl rfl (l10_pow_ok _ _ _) ?_
  rintro _ u20 ⟨rfl, h20⟩
  have X := X.trans h20; clear h20
  refine RunL.buildSlice Try.tOk rfl rfl rfl rfl rfl rfl rfl rfl fun B21 u21 h21 => ?_
  refine RunL.call rfl rfl rfl (l10_mul2_ok _ _ B21 0 2 u21 (Blk.row (show Blk u21 B21 (ints [_, _]) _ from h21.at_)) hpa) ?_
  rintro _ _ ⟨rfl, rfl⟩
  have X := X.trans h21.ext; clear h21
  repeat (first | refine RunL.pureB Try.tOk true rfl rfl rfl (by first | exact beq_self_eq_true _) ?_ | refine RunL.pureB Try.tOk false rfl rfl rfl (by exact bne_self_eq_false _) ?_ | refine RunL.pureI Try.tOk rfl rfl rfl (by (first | exact wr_i64 (by omega) (by omega) | exact wm_i64 (by omega) | exact wq_i64 (by omega) (by omega) (by omega) | rfl)) ?_ | refine RunL.pure Try.tOk rfl rfl rfl ?_ | refine RunL.unwantedD rfl rfl ?_ | refine RunE.seq ?_ | refine RunE.region ?_ | refine RunL.nil ?_ | refine RunE.block ?_ | refine RunE.inBlock ?_ | refine RunE.skip ?_ | refine RunE.exit rfl ?_ | refine RunE.scope ?_ | refine RunE.inScope ?_ | refine RunE.label ?_)
  exact RunE.retFn Try.func5 (.tmp rfl .nil) ⟨rfl, X⟩
end Go.Sg
namespace Go.Proofs.Ytbjmdklcbknlpaa
open Go.ChangeShapes Go.WideShapes Go.ChangeAt Go.RowKit Go.Sg
namespace groupPowers
theorem own : ownKnob Try.prog.godebug = none := by kernel_rfl
theorem laidOut : laidOutB Try.prog = true := by kernel_rfl
set_option maxRecDepth 100000 in
theorem lifted (os : Os) (started : os.Started) (H : Type) (enc : TypeId × Value → H) :
    ReturnsInHanded {} Try.checked os 5 .any (Rows.groupPowersSpec.pre6 enc Try.prog Try.f5 Rows.groupPowersRow.domain false) (Rows.groupPowersSpec.post enc Try.prog Try.f5 false true false false) := by
  refine returnsInHanded_of_change (C := Try.checked) own started (by kernel_rfl) Try.func5
    (ChangeSpec.witness6 (enc := enc) (C := Try.checked) false ⟨#[], #[.int .i64 0, .int .i64 0, .int .i32 0, .int .i32 0], []⟩ 8 (by kernel_rfl) (by kernel_rfl) (by kernel_rfl) (by kernel_rfl)) ?_
  intro W base args ds gs before hval0 hW hcnd _
  have hval : ∀ (j : Nat) t v, Try.f5.params[j]? = some t → args[j]? = some v → Value.okWide Try.prog W .any base t v := hval0
  have hW' := hW
  obtain ⟨p, q, hA0, hV, rfl, hfz, hnd⟩ := hW
  have hA : DataW.TrodAll enc Try.prog W 0 (fun _ => true) true Try.f5.params.toList args.toList ds p := hA0
  rw [Try.params5] at hA hval
  obtain ⟨v0, vs0, d0, ds0, p0, q0, hargs, rfl, rfl, h0, r0⟩ := trodAll_cons hA
  obtain ⟨v1, vs1, d1, ds1, p1, q1, rfl, rfl, rfl, h1, r1⟩ := trodAll_cons r0
  obtain ⟨v2, vs2, d2, ds2, p2, q2, rfl, rfl, rfl, h2, r2⟩ := trodAll_cons r1
  obtain ⟨v3, vs3, d3, ds3, p3, q3, rfl, rfl, rfl, h3, r3⟩ := trodAll_cons r2
  obtain ⟨rfl, rfl, rfl⟩ := trodAll_nil r3
  obtain rfl : args = #[v0, v1, v2, v3] := by cases args; simp_all
  obtain ⟨a0, rfl, rfl, rfl, w0⟩ := open_int Try.underlying3 (hval 0 3 v0 rfl rfl) h0
  obtain ⟨a1, rfl, rfl, rfl, w1⟩ := open_int Try.underlying3 (hval 1 3 v1 rfl rfl) h1
  obtain ⟨a2, rfl, rfl, rfl, w2⟩ := open_int Try.underlying21 (hval 2 21 v2 rfl rfl) h2
  obtain ⟨a3, rfl, rfl, rfl, w3⟩ := open_int Try.underlying21 (hval 3 21 v3 rfl rfl) h3
  refine (Rets.calls (groupPowers_walk a0 a1 a2 a3 (i64_of_wf w0) (i64_of_wf w1) (i32_of_wf w2) (i32_of_wf w3) W)).mono fun e W' he => ?_
  obtain ⟨_, rfl, rfl, hx⟩ := he
  exact ⟨_, rfl, law_post (t := 4) laidOut (by kernel_rfl) (by kernel_rfl) (by kernel_rfl) rfl (fun ds h => by
    rcases ds with _ | ⟨_, _ | ⟨_, _ | ⟨_, _ | ⟨_, _ | ⟨_, _⟩⟩⟩⟩⟩ <;> first | rfl | (exact absurd h (by decide)) | (simp at h)) hW' hx⟩

theorem proved : Rows.GroupPowersSaid :=
  OpenClaim.holds_of_wide 5 Try.f5 rfl rfl rfl rfl rfl rfl rfl ⟨rfl, rfl, rfl, rfl, rfl⟩ rfl rfl rfl rfl rfl (by kernel_rfl) Try.func5 (by kernel_rfl)
    (of_decide_eq_true (by kernel_rfl)) (by unfold Func.isWrapper; first | (rw [if_pos (by decide +kernel)]; kernel_rfl) | (rw [if_neg (by decide +kernel)]; exact ⟨rfl, rfl⟩))
    (fun os started H enc _ => lifted os started H enc)
#print axioms proved
end groupPowers
end Go.Proofs.Ytbjmdklcbknlpaa
