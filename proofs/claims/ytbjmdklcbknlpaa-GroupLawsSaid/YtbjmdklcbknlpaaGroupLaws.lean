/- signatorylaw10.GroupLaws returns true for every input; no condition. -/
import Derived.Test.YtbjmdklcbknlpaaGroupFacts
import Derived.Test.YtbjmdklcbknlpaaClose
namespace Go.Sg
open Go.Rn Go.NT Go.Proofs

theorem groupLaws_walk (x y z : Int) (_ : -9223372036854775808 ≤ x ∧ x < 9223372036854775808) (_ : -9223372036854775808 ≤ y ∧ y < 9223372036854775808) (_ : -9223372036854775808 ≤ z ∧ z < 9223372036854775808) (w : World) :
    Rets Try.prog 4 [.int .i64 x, .int .i64 y, .int .i64 z] w fun v w' => v = .bool true ∧ Ext w w' := by
  refine RetsX.of (nt := 89) Try.func4 (by kernel_rfl) rfl rfl (by simp) (by simp only [argEnv]; rfl) ?_
  repeat (first | refine RunL.pureI Try.tOk rfl rfl rfl (by (first | exact wr_i64 (by omega) (by omega) | exact wm_i64 (by omega) | exact wq_i64 (by omega) (by omega) (by omega) | rfl)) ?_ | refine RunL.pure Try.tOk rfl rfl rfl ?_ | refine RunL.unwantedD rfl rfl ?_ | refine RunE.seq ?_ | refine RunE.region ?_ | refine RunL.nil ?_ | refine RunE.block ?_ | refine RunE.inBlock ?_ | refine RunE.skip ?_ | refine RunE.exit rfl ?_ | refine RunE.scope ?_ | refine RunE.inScope ?_ | refine RunE.label ?_)
  refine RunL.call rfl rfl rfl (l10_sane_ok _) ?_
  rintro _ u0 ⟨rfl, X⟩
  repeat (first | refine RunL.pureI Try.tOk rfl rfl rfl (by (first | exact wr_i64 (by omega) (by omega) | exact wm_i64 (by omega) | exact wq_i64 (by omega) (by omega) (by omega) | rfl)) ?_ | refine RunL.pure Try.tOk rfl rfl rfl ?_ | refine RunL.unwantedD rfl rfl ?_ | refine RunE.seq ?_ | refine RunE.region ?_ | refine RunL.nil ?_ | refine RunE.block ?_ | refine RunE.inBlock ?_ | refine RunE.skip ?_ | refine RunE.exit rfl ?_ | refine RunE.scope ?_ | refine RunE.inScope ?_ | refine RunE.label ?_)
  refine RunE.condF rfl rfl ?_
  repeat (first | refine RunL.pureI Try.tOk rfl rfl rfl (by (first | exact wr_i64 (by omega) (by omega) | exact wm_i64 (by omega) | exact wq_i64 (by omega) (by omega) (by omega) | rfl)) ?_ | refine RunL.pure Try.tOk rfl rfl rfl ?_ | refine RunL.unwantedD rfl rfl ?_ | refine RunE.seq ?_ | refine RunE.region ?_ | refine RunL.nil ?_ | refine RunE.block ?_ | refine RunE.inBlock ?_ | refine RunE.skip ?_ | refine RunE.exit rfl ?_ | refine RunE.scope ?_ | refine RunE.inScope ?_ | refine RunE.label ?_)
  refine RunL.call rfl rfl rfl (l10_element_ok _ _) ?_
  rintro _ _ ⟨rfl, rfl⟩
  repeat (first | refine RunL.pureI Try.tOk rfl rfl rfl (by (first | exact wr_i64 (by omega) (by omega) | exact wm_i64 (by omega) | exact wq_i64 (by omega) (by omega) (by omega) | rfl)) ?_ | refine RunL.pure Try.tOk rfl rfl rfl ?_ | refine RunL.unwantedD rfl rfl ?_ | refine RunE.seq ?_ | refine RunE.region ?_ | refine RunL.nil ?_ | refine RunE.block ?_ | refine RunE.inBlock ?_ | refine RunE.skip ?_ | refine RunE.exit rfl ?_ | refine RunE.scope ?_ | refine RunE.inScope ?_ | refine RunE.label ?_)
  refine RunL.call rfl rfl rfl (l10_element_ok _ _) ?_
  rintro _ _ ⟨rfl, rfl⟩
  repeat (first | refine RunL.pureI Try.tOk rfl rfl rfl (by (first | exact wr_i64 (by omega) (by omega) | exact wm_i64 (by omega) | exact wq_i64 (by omega) (by omega) (by omega) | rfl)) ?_ | refine RunL.pure Try.tOk rfl rfl rfl ?_ | refine RunL.unwantedD rfl rfl ?_ | refine RunE.seq ?_ | refine RunE.region ?_ | refine RunL.nil ?_ | refine RunE.block ?_ | refine RunE.inBlock ?_ | refine RunE.skip ?_ | refine RunE.exit rfl ?_ | refine RunE.scope ?_ | refine RunE.inScope ?_ | refine RunE.label ?_)
  refine RunL.call rfl rfl rfl (l10_element_ok _ _) ?_
  rintro _ _ ⟨rfl, rfl⟩
  have ha := elem_valid x
  have hb := elem_valid y
  have hc := elem_valid z
  generalize elemC (x % 1073741789 + 1) = a at *
  generalize elemC (y % 1073741789 + 1) = b at *
  generalize elemC (z % 1073741789 + 1) = c at *
  have hab := mulC_valid ha hb
  have hbc := mulC_valid hb hc
  repeat (first | refine RunL.pureI Try.tOk rfl rfl rfl (by (first | exact wr_i64 (by omega) (by omega) | exact wm_i64 (by omega) | exact wq_i64 (by omega) (by omega) (by omega) | rfl)) ?_ | refine RunL.pure Try.tOk rfl rfl rfl ?_ | refine RunL.unwantedD rfl rfl ?_ | refine RunE.seq ?_ | refine RunE.region ?_ | refine RunL.nil ?_ | refine RunE.block ?_ | refine RunE.inBlock ?_ | refine RunE.skip ?_ | refine RunE.exit rfl ?_ | refine RunE.scope ?_ | refine RunE.inScope ?_ | refine RunE.label ?_)
  refine RunL.buildSlice Try.tOk rfl rfl rfl rfl rfl rfl rfl rfl fun B1 u1 h1 => ?_
  refine RunL.call rfl rfl rfl (l10_mul2_ok _ _ B1 0 2 u1 (Blk.row (show Blk u1 B1 (ints [_, _]) _ from h1.at_)) ha) ?_
  rintro _ _ ⟨rfl, rfl⟩
  have X := X.trans h1.ext; clear h1
  repeat (first | refine RunL.pureI Try.tOk rfl rfl rfl (by (first | exact wr_i64 (by omega) (by omega) | exact wm_i64 (by omega) | exact wq_i64 (by omega) (by omega) (by omega) | rfl)) ?_ | refine RunL.pure Try.tOk rfl rfl rfl ?_ | refine RunL.unwantedD rfl rfl ?_ | refine RunE.seq ?_ | refine RunE.region ?_ | refine RunL.nil ?_ | refine RunE.block ?_ | refine RunE.inBlock ?_ | refine RunE.skip ?_ | refine RunE.exit rfl ?_ | refine RunE.scope ?_ | refine RunE.inScope ?_ | refine RunE.label ?_)
  refine RunL.call rfl rfl rfl (valid_ok _ _) ?_
  rintro _ _ ⟨rfl, rfl⟩
  rw [ha]
  repeat (first | refine RunL.pureI Try.tOk rfl rfl rfl (by (first | exact wr_i64 (by omega) (by omega) | exact wm_i64 (by omega) | exact wq_i64 (by omega) (by omega) (by omega) | rfl)) ?_ | refine RunL.pure Try.tOk rfl rfl rfl ?_ | refine RunL.unwantedD rfl rfl ?_ | refine RunE.seq ?_ | refine RunE.region ?_ | refine RunL.nil ?_ | refine RunE.block ?_ | refine RunE.inBlock ?_ | refine RunE.skip ?_ | refine RunE.exit rfl ?_ | refine RunE.scope ?_ | refine RunE.inScope ?_ | refine RunE.label ?_)
  refine RunL.call rfl rfl rfl (valid_ok _ _) ?_
  rintro _ _ ⟨rfl, rfl⟩
  rw [hab]
  repeat (first | refine RunL.pureI Try.tOk rfl rfl rfl (by (first | exact wr_i64 (by omega) (by omega) | exact wm_i64 (by omega) | exact wq_i64 (by omega) (by omega) (by omega) | rfl)) ?_ | refine RunL.pure Try.tOk rfl rfl rfl ?_ | refine RunL.unwantedD rfl rfl ?_ | refine RunE.seq ?_ | refine RunE.region ?_ | refine RunL.nil ?_ | refine RunE.block ?_ | refine RunE.inBlock ?_ | refine RunE.skip ?_ | refine RunE.exit rfl ?_ | refine RunE.scope ?_ | refine RunE.inScope ?_ | refine RunE.label ?_)
  refine RunL.buildSlice Try.tOk rfl rfl rfl rfl rfl rfl rfl rfl fun B2 u2 h2 => ?_
  refine RunL.call rfl rfl rfl (l10_mul2_ok _ _ B2 0 2 u2 (Blk.row (show Blk u2 B2 (ints [_, _]) _ from h2.at_)) hb) ?_
  rintro _ _ ⟨rfl, rfl⟩
  have X := X.trans h2.ext; clear h2
  rw [mulC_comm hb ha]
  repeat (first | refine RunL.pureB Try.tOk true rfl rfl rfl (by first | exact beq_self_eq_true _) ?_ | refine RunL.pureB Try.tOk false rfl rfl rfl (by exact bne_self_eq_false _) ?_ | refine RunL.pureI Try.tOk rfl rfl rfl (by (first | exact wr_i64 (by omega) (by omega) | exact wm_i64 (by omega) | exact wq_i64 (by omega) (by omega) (by omega) | rfl)) ?_ | refine RunL.pure Try.tOk rfl rfl rfl ?_ | refine RunL.unwantedD rfl rfl ?_ | refine RunE.seq ?_ | refine RunE.region ?_ | refine RunL.nil ?_ | refine RunE.block ?_ | refine RunE.inBlock ?_ | refine RunE.skip ?_ | refine RunE.exit rfl ?_ | refine RunE.scope ?_ | refine RunE.inScope ?_ | refine RunE.label ?_)
  refine RunL.buildSlice Try.tOk rfl rfl rfl rfl rfl rfl rfl rfl fun B3 u3 h3 => ?_
  refine RunL.call rfl rfl rfl (l10_mul2_ok _ _ B3 0 2 u3 (Blk.row (show Blk u3 B3 (ints [_, _]) _ from h3.at_)) hab) ?_
  rintro _ _ ⟨rfl, rfl⟩
  have X := X.trans h3.ext; clear h3
  repeat (first | refine RunL.pureB Try.tOk true rfl rfl rfl (by first | exact beq_self_eq_true _) ?_ | refine RunL.pureB Try.tOk false rfl rfl rfl (by exact bne_self_eq_false _) ?_ | refine RunL.pureI Try.tOk rfl rfl rfl (by (first | exact wr_i64 (by omega) (by omega) | exact wm_i64 (by omega) | exact wq_i64 (by omega) (by omega) (by omega) | rfl)) ?_ | refine RunL.pure Try.tOk rfl rfl rfl ?_ | refine RunL.unwantedD rfl rfl ?_ | refine RunE.seq ?_ | refine RunE.region ?_ | refine RunL.nil ?_ | refine RunE.block ?_ | refine RunE.inBlock ?_ | refine RunE.skip ?_ | refine RunE.exit rfl ?_ | refine RunE.scope ?_ | refine RunE.inScope ?_ | refine RunE.label ?_)
  refine RunL.buildSlice Try.tOk rfl rfl rfl rfl rfl rfl rfl rfl fun B4 u4 h4 => ?_
  refine RunL.call rfl rfl rfl (l10_mul2_ok _ _ B4 0 2 u4 (Blk.row (show Blk u4 B4 (ints [_, _]) _ from h4.at_)) hb) ?_
  rintro _ _ ⟨rfl, rfl⟩
  have X := X.trans h4.ext; clear h4
  refine RunL.buildSlice Try.tOk rfl rfl rfl rfl rfl rfl rfl rfl fun B5 u5 h5 => ?_
  refine RunL.call rfl rfl rfl (l10_mul2_ok _ _ B5 0 2 u5 (Blk.row (show Blk u5 B5 (ints [_, _]) _ from h5.at_)) ha) ?_
  rintro _ _ ⟨rfl, rfl⟩
  have X := X.trans h5.ext; clear h5
  rw [← mulC_assoc ha hb hc]
  repeat (first | refine RunL.pureB Try.tOk true rfl rfl rfl (by first | exact beq_self_eq_true _) ?_ | refine RunL.pureB Try.tOk false rfl rfl rfl (by exact bne_self_eq_false _) ?_ | refine RunL.pureI Try.tOk rfl rfl rfl (by (first | exact wr_i64 (by omega) (by omega) | exact wm_i64 (by omega) | exact wq_i64 (by omega) (by omega) (by omega) | rfl)) ?_ | refine RunL.pure Try.tOk rfl rfl rfl ?_ | refine RunL.unwantedD rfl rfl ?_ | refine RunE.seq ?_ | refine RunE.region ?_ | refine RunL.nil ?_ | refine RunE.block ?_ | refine RunE.inBlock ?_ | refine RunE.skip ?_ | refine RunE.exit rfl ?_ | refine RunE.scope ?_ | refine RunE.inScope ?_ | refine RunE.label ?_)
  refine RunL.buildSlice Try.tOk rfl rfl rfl rfl rfl rfl rfl rfl fun B6 u6 h6 => ?_
  refine RunL.call rfl rfl rfl (l10_mul2_ok _ _ B6 0 2 u6 (Blk.row (show Blk u6 B6 (ints [_, _]) _ from h6.at_)) ha) ?_
  rintro _ _ ⟨rfl, rfl⟩
  have X := X.trans h6.ext; clear h6
  rw [mulC_one ha]
  repeat (first | refine RunL.pureB Try.tOk true rfl rfl rfl (by first | exact beq_self_eq_true _) ?_ | refine RunL.pureB Try.tOk false rfl rfl rfl (by exact bne_self_eq_false _) ?_ | refine RunL.pureI Try.tOk rfl rfl rfl (by (first | exact wr_i64 (by omega) (by omega) | exact wm_i64 (by omega) | exact wq_i64 (by omega) (by omega) (by omega) | rfl)) ?_ | refine RunL.pure Try.tOk rfl rfl rfl ?_ | refine RunL.unwantedD rfl rfl ?_ | refine RunE.seq ?_ | refine RunE.region ?_ | refine RunL.nil ?_ | refine RunE.block ?_ | refine RunE.inBlock ?_ | refine RunE.skip ?_ | refine RunE.exit rfl ?_ | refine RunE.scope ?_ | refine RunE.inScope ?_ | refine RunE.label ?_)
  refine RunE.condF rfl rfl ?_
  repeat (first | refine RunL.pureB Try.tOk true rfl rfl rfl (by first | exact beq_self_eq_true _) ?_ | refine RunL.pureB Try.tOk false rfl rfl rfl (by exact bne_self_eq_false _) ?_ | refine RunL.pureI Try.tOk rfl rfl rfl (by (first | exact wr_i64 (by omega) (by omega) | exact wm_i64 (by omega) | exact wq_i64 (by omega) (by omega) (by omega) | rfl)) ?_ | refine RunL.pure Try.tOk rfl rfl rfl ?_ | refine RunL.unwantedD rfl rfl ?_ | refine RunE.seq ?_ | refine RunE.region ?_ | refine RunL.nil ?_ | refine RunE.block ?_ | refine RunE.inBlock ?_ | refine RunE.skip ?_ | refine RunE.exit rfl ?_ | refine RunE.scope ?_ | refine RunE.inScope ?_ | refine RunE.label ?_)
  refine RunL.call rfl rfl rfl (l10_pow_ok _ _ _) ?_
  rintro _ u7 ⟨rfl, h7⟩
  have X := X.trans h7; clear h7
  refine RunL.buildSlice Try.tOk rfl rfl rfl rfl rfl rfl rfl rfl fun B8 u8 h8 => ?_
  refine RunL.call rfl rfl rfl (l10_mul2_ok _ _ B8 0 2 u8 (Blk.row (show Blk u8 B8 (ints [_, _]) _ from h8.at_)) ha) ?_
  rintro _ _ ⟨rfl, rfl⟩
  have X := X.trans h8.ext; clear h8
  rw [mulC_inv ha]
  repeat (first | refine RunL.pureB Try.tOk true rfl rfl rfl (by first | exact beq_self_eq_true _) ?_ | refine RunL.pureB Try.tOk false rfl rfl rfl (by exact bne_self_eq_false _) ?_ | refine RunL.pureI Try.tOk rfl rfl rfl (by (first | exact wr_i64 (by omega) (by omega) | exact wm_i64 (by omega) | exact wq_i64 (by omega) (by omega) (by omega) | rfl)) ?_ | refine RunL.pure Try.tOk rfl rfl rfl ?_ | refine RunL.unwantedD rfl rfl ?_ | refine RunE.seq ?_ | refine RunE.region ?_ | refine RunL.nil ?_ | refine RunE.block ?_ | refine RunE.inBlock ?_ | refine RunE.skip ?_ | refine RunE.exit rfl ?_ | refine RunE.scope ?_ | refine RunE.inScope ?_ | refine RunE.label ?_)
  refine RunL.buildSlice Try.tOk rfl rfl rfl rfl rfl rfl rfl rfl fun B9 u9 h9 => ?_
  refine RunL.call rfl rfl rfl (l10_mul2_ok _ _ B9 0 2 u9 (Blk.row (show Blk u9 B9 (ints [_, _]) _ from h9.at_)) ha) ?_
  rintro _ _ ⟨rfl, rfl⟩
  have X := X.trans h9.ext; clear h9
  repeat (first | refine RunL.pureB Try.tOk true rfl rfl rfl (by first | exact beq_self_eq_true _) ?_ | refine RunL.pureB Try.tOk false rfl rfl rfl (by exact bne_self_eq_false _) ?_ | refine RunL.pureI Try.tOk rfl rfl rfl (by (first | exact wr_i64 (by omega) (by omega) | exact wm_i64 (by omega) | exact wq_i64 (by omega) (by omega) (by omega) | rfl)) ?_ | refine RunL.pure Try.tOk rfl rfl rfl ?_ | refine RunL.unwantedD rfl rfl ?_ | refine RunE.seq ?_ | refine RunE.region ?_ | refine RunL.nil ?_ | refine RunE.block ?_ | refine RunE.inBlock ?_ | refine RunE.skip ?_ | refine RunE.exit rfl ?_ | refine RunE.scope ?_ | refine RunE.inScope ?_ | refine RunE.label ?_)
  refine RunL.call rfl rfl rfl (l10_pow_ok _ _ _) ?_
  rintro _ u10 ⟨rfl, h10⟩
  have X := X.trans h10; clear h10
  refine RunL.buildSlice Try.tOk rfl rfl rfl rfl rfl rfl rfl rfl fun B11 u11 h11 => ?_
  refine RunL.call rfl rfl rfl (l10_mul2_ok _ _ B11 0 2 u11 (Blk.row (show Blk u11 B11 (ints [_, _]) _ from h11.at_)) hab) ?_
  rintro _ _ ⟨rfl, rfl⟩
  have X := X.trans h11.ext; clear h11
  rw [mulC_cancel ha hb]
  repeat (first | refine RunL.pureB Try.tOk true rfl rfl rfl (by first | exact beq_self_eq_true _) ?_ | refine RunL.pureB Try.tOk false rfl rfl rfl (by exact bne_self_eq_false _) ?_ | refine RunL.pureI Try.tOk rfl rfl rfl (by (first | exact wr_i64 (by omega) (by omega) | exact wm_i64 (by omega) | exact wq_i64 (by omega) (by omega) (by omega) | rfl)) ?_ | refine RunL.pure Try.tOk rfl rfl rfl ?_ | refine RunL.unwantedD rfl rfl ?_ | refine RunE.seq ?_ | refine RunE.region ?_ | refine RunL.nil ?_ | refine RunE.block ?_ | refine RunE.inBlock ?_ | refine RunE.skip ?_ | refine RunE.exit rfl ?_ | refine RunE.scope ?_ | refine RunE.inScope ?_ | refine RunE.label ?_)
  refine RunL.call rfl rfl rfl (l10_pow_ok _ _ _) ?_
  rintro _ u12 ⟨rfl, h12⟩
  have X := X.trans h12; clear h12
  rw [powC_mulC ha hb]
  repeat (first | refine RunL.pureB Try.tOk true rfl rfl rfl (by first | exact beq_self_eq_true _) ?_ | refine RunL.pureB Try.tOk false rfl rfl rfl (by exact bne_self_eq_false _) ?_ | refine RunL.pureI Try.tOk rfl rfl rfl (by (first | exact wr_i64 (by omega) (by omega) | exact wm_i64 (by omega) | exact wq_i64 (by omega) (by omega) (by omega) | rfl)) ?_ | refine RunL.pure Try.tOk rfl rfl rfl ?_ | refine RunL.unwantedD rfl rfl ?_ | refine RunE.seq ?_ | refine RunE.region ?_ | refine RunL.nil ?_ | refine RunE.block ?_ | refine RunE.inBlock ?_ | refine RunE.skip ?_ | refine RunE.exit rfl ?_ | refine RunE.scope ?_ | refine RunE.inScope ?_ | refine RunE.label ?_)
  refine RunL.call rfl rfl rfl (l10_pow_ok _ _ _) ?_
  rintro _ u13 ⟨rfl, h13⟩
  have X := X.trans h13; clear h13
  repeat (first | refine RunL.pureB Try.tOk true rfl rfl rfl (by first | exact beq_self_eq_true _) ?_ | refine RunL.pureB Try.tOk false rfl rfl rfl (by exact bne_self_eq_false _) ?_ | refine RunL.pureI Try.tOk rfl rfl rfl (by (first | exact wr_i64 (by omega) (by omega) | exact wm_i64 (by omega) | exact wq_i64 (by omega) (by omega) (by omega) | rfl)) ?_ | refine RunL.pure Try.tOk rfl rfl rfl ?_ | refine RunL.unwantedD rfl rfl ?_ | refine RunE.seq ?_ | refine RunE.region ?_ | refine RunL.nil ?_ | refine RunE.block ?_ | refine RunE.inBlock ?_ | refine RunE.skip ?_ | refine RunE.exit rfl ?_ | refine RunE.scope ?_ | refine RunE.inScope ?_ | refine RunE.label ?_)
  refine RunL.call rfl rfl rfl (l10_pow_ok _ _ _) ?_
  rintro _ u14 ⟨rfl, h14⟩
  have X := X.trans h14; clear h14
  have hpa := powC_valid ha (-1)
  refine RunL.buildSlice Try.tOk rfl rfl rfl rfl rfl rfl rfl rfl fun B15 u15 h15 => ?_
  refine RunL.call rfl rfl rfl (l10_mul2_ok _ _ B15 0 2 u15 (Blk.row (show Blk u15 B15 (ints [_, _]) _ from h15.at_)) hpa) ?_
  rintro _ _ ⟨rfl, rfl⟩
  have X := X.trans h15.ext; clear h15
  repeat (first | refine RunL.pureB Try.tOk true rfl rfl rfl (by first | exact beq_self_eq_true _) ?_ | refine RunL.pureB Try.tOk false rfl rfl rfl (by exact bne_self_eq_false _) ?_ | refine RunL.pureI Try.tOk rfl rfl rfl (by (first | exact wr_i64 (by omega) (by omega) | exact wm_i64 (by omega) | exact wq_i64 (by omega) (by omega) (by omega) | rfl)) ?_ | refine RunL.pure Try.tOk rfl rfl rfl ?_ | refine RunL.unwantedD rfl rfl ?_ | refine RunE.seq ?_ | refine RunE.region ?_ | refine RunL.nil ?_ | refine RunE.block ?_ | refine RunE.inBlock ?_ | refine RunE.skip ?_ | refine RunE.exit rfl ?_ | refine RunE.scope ?_ | refine RunE.inScope ?_ | refine RunE.label ?_)
  exact RunE.retFn Try.func4 (.tmp rfl .nil) ⟨rfl, X⟩
end Go.Sg
namespace Go.Proofs.Ytbjmdklcbknlpaa
open Go.ChangeShapes Go.WideShapes Go.ChangeAt Go.RowKit Go.Sg
namespace groupLaws
theorem own : ownKnob Try.prog.godebug = none := by kernel_rfl
theorem laidOut : laidOutB Try.prog = true := by kernel_rfl
set_option maxRecDepth 100000 in
theorem lifted (os : Os) (started : os.Started) (H : Type) (enc : TypeId × Value → H) :
    ReturnsInHanded {} Try.checked os 4 .any (Rows.groupLawsSpec.pre6 enc Try.prog Try.f4 Rows.groupLawsRow.domain false) (Rows.groupLawsSpec.post enc Try.prog Try.f4 false true false false) := by
  refine returnsInHanded_of_change (C := Try.checked) own started (by kernel_rfl) Try.func4
    (ChangeSpec.witness6 (enc := enc) (C := Try.checked) false ⟨#[], #[.int .i64 0, .int .i64 0, .int .i64 0], []⟩ 8 (by kernel_rfl) (by kernel_rfl) (by kernel_rfl) (by kernel_rfl)) ?_
  intro W base args ds gs before hval0 hW hcnd _
  have hval : ∀ (j : Nat) t v, Try.f4.params[j]? = some t → args[j]? = some v → Value.okWide Try.prog W .any base t v := hval0
  have hW' := hW
  obtain ⟨p, q, hA0, hV, rfl, hfz, hnd⟩ := hW
  have hA : DataW.TrodAll enc Try.prog W 0 (fun _ => true) true Try.f4.params.toList args.toList ds p := hA0
  rw [Try.params4] at hA hval
  obtain ⟨v0, vs0, d0, ds0, p0, q0, hargs, rfl, rfl, h0, r0⟩ := trodAll_cons hA
  obtain ⟨v1, vs1, d1, ds1, p1, q1, rfl, rfl, rfl, h1, r1⟩ := trodAll_cons r0
  obtain ⟨v2, vs2, d2, ds2, p2, q2, rfl, rfl, rfl, h2, r2⟩ := trodAll_cons r1
  obtain ⟨rfl, rfl, rfl⟩ := trodAll_nil r2
  obtain rfl : args = #[v0, v1, v2] := by cases args; simp_all
  obtain ⟨a0, rfl, rfl, rfl, w0⟩ := open_int Try.underlying3 (hval 0 3 v0 rfl rfl) h0
  obtain ⟨a1, rfl, rfl, rfl, w1⟩ := open_int Try.underlying3 (hval 1 3 v1 rfl rfl) h1
  obtain ⟨a2, rfl, rfl, rfl, w2⟩ := open_int Try.underlying3 (hval 2 3 v2 rfl rfl) h2
  refine (Rets.calls (groupLaws_walk a0 a1 a2 (i64_of_wf w0) (i64_of_wf w1) (i64_of_wf w2) W)).mono fun e W' he => ?_
  obtain ⟨_, rfl, rfl, hx⟩ := he
  exact ⟨_, rfl, law_post (t := 4) laidOut (by kernel_rfl) (by kernel_rfl) (by kernel_rfl) rfl (fun ds h => by
    rcases ds with _ | ⟨_, _ | ⟨_, _ | ⟨_, _ | ⟨_, _⟩⟩⟩⟩ <;> first | rfl | (exact absurd h (by decide)) | (simp at h)) hW' hx⟩

theorem proved : Rows.GroupLawsSaid :=
  OpenClaim.holds_of_wide 4 Try.f4 rfl rfl rfl rfl rfl rfl rfl ⟨rfl, rfl, rfl, rfl, rfl⟩ rfl rfl rfl rfl rfl (by kernel_rfl) Try.func4 (by kernel_rfl)
    (of_decide_eq_true (by kernel_rfl)) (by unfold Func.isWrapper; first | (rw [if_pos (by decide +kernel)]; kernel_rfl) | (rw [if_neg (by decide +kernel)]; exact ⟨rfl, rfl⟩))
    (fun os started H enc _ => lifted os started H enc)
#print axioms proved
end groupLaws
end Go.Proofs.Ytbjmdklcbknlpaa
