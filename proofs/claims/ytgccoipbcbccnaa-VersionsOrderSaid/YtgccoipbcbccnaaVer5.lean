/- Registers: Add. -/
import Derived.Test.YtgccoipbcbccnaaVer2
import Derived.Test.YtgccoipbcbccnaaVer3
import Derived.Test.YtgccoipbcbccnaaVer4
set_option linter.unusedSimpArgs false
set_option linter.unusedVariables false
set_option linter.unusedSectionVars false
namespace Go.Sg
open Go.Rn Go.Proofs Go.Ver Go.Rec Go.Best
attribute [local irreducible] Go.Rn.RunLN Go.Rn.AsyN Go.Rn.RunL Go.Rn.RunE Go.Rn.Asy Go.Rn.OpV Go.Rn.OpE Go.Rn.ExecE
set_option maxHeartbeats 2000000 in
theorem vadd_ok (l : List Am) (x : Am) (v : Value) (w : World) (hv : LV w v l) (hl : l.length < 9223372036854775808) :
    Rets Try.prog 17 [v, .agg x.cells.toArray] w fun r w' => (∃ u, r = .tuple #[u, .int .i64 (addEV l x)] ∧ LV w' u (addLV l x)) ∧ Ext w w' := by
  refine RetsX.of (nt := 35) Try.func17 (by kernel_rfl) rfl rfl (by simp) (by simp only [argEnv]; rfl) ?_
  have X := ExtB.refl (fun _ => False) w
  repeat' (first | with_reducible refine RunLN.boolT rfl ?_ | with_reducible refine RunLN.boolF rfl ?_ | refine RunLN.boolT (by assumption) ?_ | refine RunLN.boolF (by assumption) ?_ | (with_reducible refine RunLN.decT ?_ ?_; focus omega) | (with_reducible refine RunLN.decF ?_ ?_; focus omega) | (with_reducible refine RunLN.eqT ?_ ?_; focus omega) | (with_reducible refine RunLN.eqF ?_ ?_; focus omega) | (with_reducible refine RunLN.neT ?_ ?_; focus omega) | (with_reducible refine RunLN.neF ?_ ?_; focus omega) | refine RunLN.boolT (by exact rfl) ?_ | refine RunLN.boolF (by exact rfl) ?_ | refine RunLN.int (by (first | exact wr_i64 (by omega) (by omega) | exact wm_i64 (by omega) | exact wq_i64 (by omega) (by omega) (by omega) | rfl)) ?_ | (refine RunLN.boolC (fun h_ => ?_) (fun h_ => ?_) <;> (try simp only [decide_eq_true_eq, decide_eq_false_iff_not, beq_iff_eq, bne_iff_ne, ne_eq, Bool.not_eq_true, Bool.not_eq_false, beq_eq_false_iff_ne, bne_eq_false_iff_eq, Bool.not_eq_eq_eq_not, Bool.not_true, Bool.not_false, Bool.not_not, Int.not_lt, Int.not_le, gt_iff_lt, ge_iff_le, Decidable.not_not] at h_)) | refine RunLN.any ?_ | refine RunL.ev Try.tOk rfl rfl rfl ?_ | refine RunL.unwantedD rfl rfl ?_ | refine RunL.unwantedN rfl ?_ | refine RunL.evV rfl rfl rfl (OpV.indexS Try.tOk _ rfl rfl rfl rfl (by omega)) ?_ | refine RunE.condT rfl rfl ?_ | refine RunE.condF rfl rfl ?_ | refine RunE.seq ?_ | refine RunE.region ?_ | refine RunL.nil ?_ | refine RunE.block ?_ | refine RunE.inBlock ?_ | refine RunE.skip ?_ | refine RunE.exit rfl ?_ | refine RunE.scope ?_ | refine RunE.inScope ?_ | refine RunE.label ?_)
  refine RunL.box rfl rfl rfl fun B3 w3_ a_ => ?_
  have Z3 : Blk w3_ B3 (x.cells) 24 := a_.at_
  have gB3 := a_.ge X
  replace X := X.trans a_.ext
  clear a_
  repeat' (first | with_reducible refine RunLN.boolT rfl ?_ | with_reducible refine RunLN.boolF rfl ?_ | refine RunLN.boolT (by assumption) ?_ | refine RunLN.boolF (by assumption) ?_ | (with_reducible refine RunLN.decT ?_ ?_; focus omega) | (with_reducible refine RunLN.decF ?_ ?_; focus omega) | (with_reducible refine RunLN.eqT ?_ ?_; focus omega) | (with_reducible refine RunLN.eqF ?_ ?_; focus omega) | (with_reducible refine RunLN.neT ?_ ?_; focus omega) | (with_reducible refine RunLN.neF ?_ ?_; focus omega) | refine RunLN.boolT (by exact rfl) ?_ | refine RunLN.boolF (by exact rfl) ?_ | refine RunLN.int (by (first | exact wr_i64 (by omega) (by omega) | exact wm_i64 (by omega) | exact wq_i64 (by omega) (by omega) (by omega) | rfl)) ?_ | (refine RunLN.boolC (fun h_ => ?_) (fun h_ => ?_) <;> (try simp only [decide_eq_true_eq, decide_eq_false_iff_not, beq_iff_eq, bne_iff_ne, ne_eq, Bool.not_eq_true, Bool.not_eq_false, beq_eq_false_iff_ne, bne_eq_false_iff_eq, Bool.not_eq_eq_eq_not, Bool.not_true, Bool.not_false, Bool.not_not, Int.not_lt, Int.not_le, gt_iff_lt, ge_iff_le, Decidable.not_not] at h_)) | refine RunLN.any ?_ | refine RunL.ev Try.tOk rfl rfl rfl ?_ | refine RunL.unwantedD rfl rfl ?_ | refine RunL.unwantedN rfl ?_ | refine RunL.evV rfl rfl rfl (OpV.indexS Try.tOk _ rfl rfl rfl rfl (by omega)) ?_ | refine RunE.condT rfl rfl ?_ | refine RunE.condF rfl rfl ?_ | refine RunE.seq ?_ | refine RunE.region ?_ | refine RunL.nil ?_ | refine RunE.block ?_ | refine RunE.inBlock ?_ | refine RunE.skip ?_ | refine RunE.exit rfl ?_ | refine RunE.scope ?_ | refine RunE.inScope ?_ | refine RunE.label ?_)
  refine RunL.call rfl rfl rfl (vcheck_ok l v _ (hv.up X) hl) ?_
  rintro _ _ ⟨rfl, Xa_⟩
  replace Z3 := Z3.up Xa_
  replace X := X.trans Xa_
  clear Xa_
  by_cases hc : chkV l = 0
  · have hle := (chkV_ok.1 hc).1
    have hsrt := (chkV_srt hc).1
    have hE : addEV l x = (if rightV x then (if l.any (fun y => decide (y.no = x.no)) then 151 else if l.length = 4096 then 2 else 0) else 140) := if_pos hc
    rw [hc]
    repeat' (first | with_reducible refine RunLN.boolT rfl ?_ | with_reducible refine RunLN.boolF rfl ?_ | refine RunLN.boolT (by assumption) ?_ | refine RunLN.boolF (by assumption) ?_ | (with_reducible refine RunLN.decT ?_ ?_; focus omega) | (with_reducible refine RunLN.decF ?_ ?_; focus omega) | (with_reducible refine RunLN.eqT ?_ ?_; focus omega) | (with_reducible refine RunLN.eqF ?_ ?_; focus omega) | (with_reducible refine RunLN.neT ?_ ?_; focus omega) | (with_reducible refine RunLN.neF ?_ ?_; focus omega) | refine RunLN.boolT (by exact rfl) ?_ | refine RunLN.boolF (by exact rfl) ?_ | refine RunLN.int (by (first | exact wr_i64 (by omega) (by omega) | exact wm_i64 (by omega) | exact wq_i64 (by omega) (by omega) (by omega) | rfl)) ?_ | (refine RunLN.boolC (fun h_ => ?_) (fun h_ => ?_) <;> (try simp only [decide_eq_true_eq, decide_eq_false_iff_not, beq_iff_eq, bne_iff_ne, ne_eq, Bool.not_eq_true, Bool.not_eq_false, beq_eq_false_iff_ne, bne_eq_false_iff_eq, Bool.not_eq_eq_eq_not, Bool.not_true, Bool.not_false, Bool.not_not, Int.not_lt, Int.not_le, gt_iff_lt, ge_iff_le, Decidable.not_not] at h_)) | refine RunLN.any ?_ | refine RunL.ev Try.tOk rfl rfl rfl ?_ | refine RunL.unwantedD rfl rfl ?_ | refine RunL.unwantedN rfl ?_ | refine RunL.evV rfl rfl rfl (OpV.loadN Try.tOk rfl rfl rfl rfl (Blk.row Z3)) ?_ | refine RunL.evV rfl rfl rfl (OpV.indexS Try.tOk _ rfl rfl rfl rfl (by omega)) ?_ | refine RunE.condT rfl rfl ?_ | refine RunE.condF rfl rfl ?_ | refine RunE.seq ?_ | refine RunE.region ?_ | refine RunL.nil ?_ | refine RunE.block ?_ | refine RunE.inBlock ?_ | refine RunE.skip ?_ | refine RunE.exit rfl ?_ | refine RunE.scope ?_ | refine RunE.inScope ?_ | refine RunE.label ?_)
    refine RunL.call rfl rfl rfl (vbsearch_ok l v _ x Am.no x.no _ (hv.up X) hsrt (by omega) (fun w' y e => Rets.v (fi := []) (byNo_ok y x w') rfl)) ?_
    rintro _ _ ⟨rfl, Xa_⟩
    replace Z3 := Z3.up Xa_
    replace X := X.trans Xa_
    clear Xa_
    repeat' (first | with_reducible refine RunLN.boolT rfl ?_ | with_reducible refine RunLN.boolF rfl ?_ | refine RunLN.boolT (by assumption) ?_ | refine RunLN.boolF (by assumption) ?_ | (with_reducible refine RunLN.decT ?_ ?_; focus omega) | (with_reducible refine RunLN.decF ?_ ?_; focus omega) | (with_reducible refine RunLN.eqT ?_ ?_; focus omega) | (with_reducible refine RunLN.eqF ?_ ?_; focus omega) | (with_reducible refine RunLN.neT ?_ ?_; focus omega) | (with_reducible refine RunLN.neF ?_ ?_; focus omega) | refine RunLN.boolT (by exact rfl) ?_ | refine RunLN.boolF (by exact rfl) ?_ | refine RunLN.int (by (first | exact wr_i64 (by omega) (by omega) | exact wm_i64 (by omega) | exact wq_i64 (by omega) (by omega) (by omega) | rfl)) ?_ | refine RunLN.any ?_ | refine RunL.ev Try.tOk rfl rfl rfl ?_ | refine RunL.unwantedD rfl rfl ?_ | refine RunL.unwantedN rfl ?_ | refine RunL.evV rfl rfl rfl (OpV.loadN Try.tOk rfl rfl rfl rfl (Blk.row Z3)) ?_ | refine RunL.evV rfl rfl rfl (OpV.indexS Try.tOk _ rfl rfl rfl rfl (by omega)) ?_ | refine RunE.condT rfl rfl ?_ | refine RunE.condF rfl rfl ?_ | refine RunE.seq ?_ | refine RunE.region ?_ | refine RunL.nil ?_ | refine RunE.block ?_ | refine RunE.inBlock ?_ | refine RunE.skip ?_ | refine RunE.exit rfl ?_ | refine RunE.scope ?_ | refine RunE.inScope ?_ | refine RunE.label ?_)
    refine RunL.call rfl rfl rfl (vright_ok x _) ?_
    rintro _ _ ⟨rfl, Xa_⟩
    replace Z3 := Z3.up Xa_
    replace X := X.trans Xa_
    clear Xa_
    cases hr : rightV x with
    | false =>
      have he : addEV l x = 140 := by rw [hE, hr]; rfl
      repeat' (first | with_reducible refine RunLN.boolT rfl ?_ | with_reducible refine RunLN.boolF rfl ?_ | refine RunLN.boolT (by assumption) ?_ | refine RunLN.boolF (by assumption) ?_ | (with_reducible refine RunLN.decT ?_ ?_; focus omega) | (with_reducible refine RunLN.decF ?_ ?_; focus omega) | (with_reducible refine RunLN.eqT ?_ ?_; focus omega) | (with_reducible refine RunLN.eqF ?_ ?_; focus omega) | (with_reducible refine RunLN.neT ?_ ?_; focus omega) | (with_reducible refine RunLN.neF ?_ ?_; focus omega) | refine RunLN.boolT (by exact rfl) ?_ | refine RunLN.boolF (by exact rfl) ?_ | refine RunLN.int (by (first | exact wr_i64 (by omega) (by omega) | exact wm_i64 (by omega) | exact wq_i64 (by omega) (by omega) (by omega) | rfl)) ?_ | (refine RunLN.boolC (fun h_ => ?_) (fun h_ => ?_) <;> (try simp only [decide_eq_true_eq, decide_eq_false_iff_not, beq_iff_eq, bne_iff_ne, ne_eq, Bool.not_eq_true, Bool.not_eq_false, beq_eq_false_iff_ne, bne_eq_false_iff_eq, Bool.not_eq_eq_eq_not, Bool.not_true, Bool.not_false, Bool.not_not, Int.not_lt, Int.not_le, gt_iff_lt, ge_iff_le, Decidable.not_not] at h_)) | refine RunLN.any ?_ | refine RunL.ev Try.tOk rfl rfl rfl ?_ | refine RunL.unwantedD rfl rfl ?_ | refine RunL.unwantedN rfl ?_ | refine RunL.evV rfl rfl rfl (OpV.indexS Try.tOk _ rfl rfl rfl rfl (by omega)) ?_ | refine RunE.condT rfl rfl ?_ | refine RunE.condF rfl rfl ?_ | refine RunE.seq ?_ | refine RunE.region ?_ | refine RunL.nil ?_ | refine RunE.block ?_ | refine RunE.inBlock ?_ | refine RunE.skip ?_ | refine RunE.exit rfl ?_ | refine RunE.scope ?_ | refine RunE.inScope ?_ | refine RunE.label ?_)
      refine RunE.retFn Try.func17 (.tmp rfl (.tmp rfl .nil)) ⟨⟨.slice none 0 0, ?_, ?_⟩, X⟩
      · rw [he]; rfl
      · unfold addLV addL; rw [show addE Am.no rightV 4096 140 l x = addEV l x from rfl, he, if_neg (by first | decide | exact hc)]; exact IsSl.nil
    | true =>
      cases ha : l.any (fun y => decide (y.no = x.no)) with
      | true =>
        have he : addEV l x = 151 := by rw [hE, hr, ha]; rfl
        repeat' (first | with_reducible refine RunLN.boolT rfl ?_ | with_reducible refine RunLN.boolF rfl ?_ | refine RunLN.boolT (by assumption) ?_ | refine RunLN.boolF (by assumption) ?_ | (with_reducible refine RunLN.decT ?_ ?_; focus omega) | (with_reducible refine RunLN.decF ?_ ?_; focus omega) | (with_reducible refine RunLN.eqT ?_ ?_; focus omega) | (with_reducible refine RunLN.eqF ?_ ?_; focus omega) | (with_reducible refine RunLN.neT ?_ ?_; focus omega) | (with_reducible refine RunLN.neF ?_ ?_; focus omega) | refine RunLN.boolT (by exact rfl) ?_ | refine RunLN.boolF (by exact rfl) ?_ | refine RunLN.int (by (first | exact wr_i64 (by omega) (by omega) | exact wm_i64 (by omega) | exact wq_i64 (by omega) (by omega) (by omega) | rfl)) ?_ | (refine RunLN.boolC (fun h_ => ?_) (fun h_ => ?_) <;> (try simp only [decide_eq_true_eq, decide_eq_false_iff_not, beq_iff_eq, bne_iff_ne, ne_eq, Bool.not_eq_true, Bool.not_eq_false, beq_eq_false_iff_ne, bne_eq_false_iff_eq, Bool.not_eq_eq_eq_not, Bool.not_true, Bool.not_false, Bool.not_not, Int.not_lt, Int.not_le, gt_iff_lt, ge_iff_le, Decidable.not_not] at h_)) | refine RunLN.any ?_ | refine RunL.ev Try.tOk rfl rfl rfl ?_ | refine RunL.unwantedD rfl rfl ?_ | refine RunL.unwantedN rfl ?_ | refine RunL.evV rfl rfl rfl (OpV.indexS Try.tOk _ rfl rfl rfl rfl (by omega)) ?_ | refine RunE.condT rfl rfl ?_ | refine RunE.condF rfl rfl ?_ | refine RunE.seq ?_ | refine RunE.region ?_ | refine RunL.nil ?_ | refine RunE.block ?_ | refine RunE.inBlock ?_ | refine RunE.skip ?_ | refine RunE.exit rfl ?_ | refine RunE.scope ?_ | refine RunE.inScope ?_ | refine RunE.label ?_)
        refine RunE.retFn Try.func17 (.tmp rfl (.tmp rfl .nil)) ⟨⟨.slice none 0 0, ?_, ?_⟩, X⟩
        · rw [he]; rfl
        · unfold addLV addL; rw [show addE Am.no rightV 4096 140 l x = addEV l x from rfl, he, if_neg (by first | decide | exact hc)]; exact IsSl.nil
      | false =>
        by_cases h4 : l.length = 4096
        · have he : addEV l x = 2 := by rw [hE, hr, ha, h4]; rfl
          repeat' (first | with_reducible refine RunLN.boolT rfl ?_ | with_reducible refine RunLN.boolF rfl ?_ | refine RunLN.boolT (by assumption) ?_ | refine RunLN.boolF (by assumption) ?_ | (with_reducible refine RunLN.decT ?_ ?_; focus omega) | (with_reducible refine RunLN.decF ?_ ?_; focus omega) | (with_reducible refine RunLN.eqT ?_ ?_; focus omega) | (with_reducible refine RunLN.eqF ?_ ?_; focus omega) | (with_reducible refine RunLN.neT ?_ ?_; focus omega) | (with_reducible refine RunLN.neF ?_ ?_; focus omega) | refine RunLN.boolT (by exact rfl) ?_ | refine RunLN.boolF (by exact rfl) ?_ | refine RunLN.int (by (first | exact wr_i64 (by omega) (by omega) | exact wm_i64 (by omega) | exact wq_i64 (by omega) (by omega) (by omega) | rfl)) ?_ | (refine RunLN.boolC (fun h_ => ?_) (fun h_ => ?_) <;> (try simp only [decide_eq_true_eq, decide_eq_false_iff_not, beq_iff_eq, bne_iff_ne, ne_eq, Bool.not_eq_true, Bool.not_eq_false, beq_eq_false_iff_ne, bne_eq_false_iff_eq, Bool.not_eq_eq_eq_not, Bool.not_true, Bool.not_false, Bool.not_not, Int.not_lt, Int.not_le, gt_iff_lt, ge_iff_le, Decidable.not_not] at h_)) | refine RunLN.any ?_ | refine RunL.ev Try.tOk rfl rfl rfl ?_ | refine RunL.unwantedD rfl rfl ?_ | refine RunL.unwantedN rfl ?_ | refine RunL.evV rfl rfl rfl (OpV.lenSl Try.tOk rfl rfl hv) ?_ | refine RunL.evV rfl rfl rfl (OpV.indexS Try.tOk _ rfl rfl rfl rfl (by omega)) ?_ | refine RunE.condT rfl rfl ?_ | refine RunE.condF rfl rfl ?_ | refine RunE.seq ?_ | refine RunE.region ?_ | refine RunL.nil ?_ | refine RunE.block ?_ | refine RunE.inBlock ?_ | refine RunE.skip ?_ | refine RunE.exit rfl ?_ | refine RunE.scope ?_ | refine RunE.inScope ?_ | refine RunE.label ?_)
          refine RunE.retFn Try.func17 (.tmp rfl (.tmp rfl .nil)) ⟨⟨.slice none 0 0, ?_, ?_⟩, X⟩
          · rw [he]; rfl
          · unfold addLV addL; rw [show addE Am.no rightV 4096 140 l x = addEV l x from rfl, he, if_neg (by first | decide | exact hc)]; exact IsSl.nil
        · have he : addEV l x = 0 := by rw [hE, hr, ha, if_neg h4]; rfl
          have hno : ∀ y ∈ l, y.no ≠ x.no := by
            intro y hy e
            have := List.any_eq_false.1 ha y hy
            simp [e] at this
          repeat' (first | with_reducible refine RunLN.boolT rfl ?_ | with_reducible refine RunLN.boolF rfl ?_ | refine RunLN.boolT (by assumption) ?_ | refine RunLN.boolF (by assumption) ?_ | (with_reducible refine RunLN.decT ?_ ?_; focus omega) | (with_reducible refine RunLN.decF ?_ ?_; focus omega) | (with_reducible refine RunLN.eqT ?_ ?_; focus omega) | (with_reducible refine RunLN.eqF ?_ ?_; focus omega) | (with_reducible refine RunLN.neT ?_ ?_; focus omega) | (with_reducible refine RunLN.neF ?_ ?_; focus omega) | refine RunLN.boolT (by exact rfl) ?_ | refine RunLN.boolF (by exact rfl) ?_ | refine RunLN.int (by (first | exact wr_i64 (by omega) (by omega) | exact wm_i64 (by omega) | exact wq_i64 (by omega) (by omega) (by omega) | rfl)) ?_ | (refine RunLN.boolC (fun h_ => ?_) (fun h_ => ?_) <;> (try simp only [decide_eq_true_eq, decide_eq_false_iff_not, beq_iff_eq, bne_iff_ne, ne_eq, Bool.not_eq_true, Bool.not_eq_false, beq_eq_false_iff_ne, bne_eq_false_iff_eq, Bool.not_eq_eq_eq_not, Bool.not_true, Bool.not_false, Bool.not_not, Int.not_lt, Int.not_le, gt_iff_lt, ge_iff_le, Decidable.not_not] at h_)) | refine RunLN.any ?_ | refine RunL.ev Try.tOk rfl rfl rfl ?_ | refine RunL.unwantedD rfl rfl ?_ | refine RunL.unwantedN rfl ?_ | refine RunL.evV rfl rfl rfl (OpV.lenSl Try.tOk rfl rfl hv) ?_ | refine RunL.evV rfl rfl rfl (OpV.indexS Try.tOk _ rfl rfl rfl rfl (by omega)) ?_ | refine RunE.condT rfl rfl ?_ | refine RunE.condF rfl rfl ?_ | refine RunE.seq ?_ | refine RunE.region ?_ | refine RunL.nil ?_ | refine RunE.block ?_ | refine RunE.inBlock ?_ | refine RunE.skip ?_ | refine RunE.exit rfl ?_ | refine RunE.scope ?_ | refine RunE.inScope ?_ | refine RunE.label ?_)
          refine RunE.draw (fun _ => False) mix ?_
          intro wd_ Xd_
          repeat' (first | with_reducible refine AsyN.boolT rfl ?_ | with_reducible refine AsyN.boolF rfl ?_ | refine AsyN.boolT (by assumption) ?_ | refine AsyN.boolF (by assumption) ?_ | (with_reducible refine AsyN.decT ?_ ?_; focus omega) | (with_reducible refine AsyN.decF ?_ ?_; focus omega) | (with_reducible refine AsyN.eqT ?_ ?_; focus omega) | (with_reducible refine AsyN.eqF ?_ ?_; focus omega) | (with_reducible refine AsyN.neT ?_ ?_; focus omega) | (with_reducible refine AsyN.neF ?_ ?_; focus omega) | refine AsyN.boolT (by exact rfl) ?_ | refine AsyN.boolF (by exact rfl) ?_ | refine AsyN.int (by (first | exact wr_i64 (by omega) (by omega) | exact wm_i64 (by omega) | exact wq_i64 (by omega) (by omega) (by omega) | rfl)) ?_ | (refine AsyN.boolC (fun h_ => ?_) (fun h_ => ?_) <;> (try simp only [decide_eq_true_eq, decide_eq_false_iff_not, beq_iff_eq, bne_iff_ne, ne_eq, Bool.not_eq_true, Bool.not_eq_false, beq_eq_false_iff_ne, bne_eq_false_iff_eq, Bool.not_eq_eq_eq_not, Bool.not_true, Bool.not_false, Bool.not_not, Int.not_lt, Int.not_le, gt_iff_lt, ge_iff_le, Decidable.not_not] at h_)) | refine AsyN.any ?_ | refine Asy.ev Try.tOk rfl rfl rfl ?_ | refine Asy.unwantedD rfl rfl rfl ?_ | refine Asy.evV rfl rfl rfl rfl (fun _ X_ => OpV.indexS Try.tOk _ rfl rfl rfl rfl (by omega)) ?_)
          refine Asy.sat0 (fun u w' => w'.ownsRow wd_.heap.size 24 6 u l.length (flat Am.cells l)) rfl rfl rfl rfl (fun u w' w'' _ e h => ownsRow_ext h e (fun _ _ h => h)) (fun w' e => ?_) ?_
          · refine OpE.mono (OpE.call rfl (vclone_ok l v w' (hv.up (X.trans (Xd_.trans e))) (by omega))) ?_ fun _ _ h => h
            rintro r w'' ⟨h1, h2⟩; exact ⟨h2, ownsRow_base h1 e.size⟩
          repeat' (first | with_reducible refine AsyN.boolT rfl ?_ | with_reducible refine AsyN.boolF rfl ?_ | refine AsyN.boolT (by assumption) ?_ | refine AsyN.boolF (by assumption) ?_ | (with_reducible refine AsyN.decT ?_ ?_; focus omega) | (with_reducible refine AsyN.decF ?_ ?_; focus omega) | (with_reducible refine AsyN.eqT ?_ ?_; focus omega) | (with_reducible refine AsyN.eqF ?_ ?_; focus omega) | (with_reducible refine AsyN.neT ?_ ?_; focus omega) | (with_reducible refine AsyN.neF ?_ ?_; focus omega) | refine AsyN.boolT (by exact rfl) ?_ | refine AsyN.boolF (by exact rfl) ?_ | refine AsyN.int (by (first | exact wr_i64 (by omega) (by omega) | exact wm_i64 (by omega) | exact wq_i64 (by omega) (by omega) (by omega) | rfl)) ?_ | (refine AsyN.boolC (fun h_ => ?_) (fun h_ => ?_) <;> (try simp only [decide_eq_true_eq, decide_eq_false_iff_not, beq_iff_eq, bne_iff_ne, ne_eq, Bool.not_eq_true, Bool.not_eq_false, beq_eq_false_iff_ne, bne_eq_false_iff_eq, Bool.not_eq_eq_eq_not, Bool.not_true, Bool.not_false, Bool.not_not, Int.not_lt, Int.not_le, gt_iff_lt, ge_iff_le, Decidable.not_not] at h_)) | refine AsyN.any ?_ | refine Asy.ev Try.tOk rfl rfl rfl ?_ | refine Asy.unwantedD rfl rfl rfl ?_ | refine Asy.evV rfl rfl rfl rfl (fun _ X_ => OpV.loadN Try.tOk rfl rfl rfl rfl (Blk.row (Z3.up (Xd_.trans X_)))) ?_ | refine Asy.evV rfl rfl rfl rfl (fun _ X_ => OpV.indexS Try.tOk _ rfl rfl rfl rfl (by omega)) ?_)
          refine Asy.sat0 (fun u w' => ∃ B, u = .slice (some ⟨B, 0, none⟩) 1 1 ∧ Blk w' B x.cells 24) rfl rfl rfl rfl (fun u w' w'' _ e h => ?_) (fun w' _ => ?_) ?_
          · obtain ⟨B, h1, h2⟩ := h; exact ⟨B, h1, h2.up e⟩
          · refine OpE.mono (OpE.buildSl Try.tOk [.agg x.cells.toArray] rfl rfl rfl rfl rfl rfl (by simp [Value.cells])) ?_ fun _ _ h => h
            rintro _ w'' ⟨B, rfl, a⟩; exact ⟨a.ext, B, rfl, a.at_⟩
          refine Asy.tail (by kernel_rfl) ?_
          intro we_ Xe_
          simp only [satsAll]
          rintro _ ⟨B, rfl, hB⟩ r hr
          have hbase := Xe_.size
          replace Xe_ := Xd_.trans Xe_
          have X' := X.trans Xe_
          refine RunL.call rfl rfl rfl ((vinsert_ok l x r _ B wd_.heap.size we_ (split_at (no := Am.no) (m := x.no) hsrt).1 hr (by omega) hbase hB ?_).mono fun _ _ h => h) ?_
          · intro hlt k hk e
            subst e
            cases l with
            | nil => simp at hlt
            | cons a l =>
              rcases (isSl_own hr).inv with ⟨d, rfl, h0, -⟩ | ⟨b, o, cap, rfl, hrow, -, -⟩
              · simp at h0
              · simp [Value.ownBlock] at hk
                subst hk
                have hO := hr.2
                rcases hO with ⟨h, -⟩ | ⟨g, cap', cur, h, -⟩
                · simp at h
                · simp at h
                  obtain ⟨⟨-, rfl⟩, -⟩ := h
                  have h1 := hrow 0 (.int .i64 a.no) rfl
                  have h2 := hB.cell (i := 0) (v := .int .i64 x.no) rfl
                  rw [Nat.add_zero, h2] at h1
                  simp at h1
                  exact hno a List.mem_cons_self h1.symm
          rintro u w5 ⟨h5, E5⟩
          have X5 : Ext w w5 := X'.write E5 (by intro k hk hlt; have := ownsRow_ge hr hk; have := X.size; have := Xd_.size; omega)
          repeat' (first | with_reducible refine RunLN.boolT rfl ?_ | with_reducible refine RunLN.boolF rfl ?_ | refine RunLN.boolT (by assumption) ?_ | refine RunLN.boolF (by assumption) ?_ | (with_reducible refine RunLN.decT ?_ ?_; focus omega) | (with_reducible refine RunLN.decF ?_ ?_; focus omega) | (with_reducible refine RunLN.eqT ?_ ?_; focus omega) | (with_reducible refine RunLN.eqF ?_ ?_; focus omega) | (with_reducible refine RunLN.neT ?_ ?_; focus omega) | (with_reducible refine RunLN.neF ?_ ?_; focus omega) | refine RunLN.boolT (by exact rfl) ?_ | refine RunLN.boolF (by exact rfl) ?_ | refine RunLN.int (by (first | exact wr_i64 (by omega) (by omega) | exact wm_i64 (by omega) | exact wq_i64 (by omega) (by omega) (by omega) | rfl)) ?_ | (refine RunLN.boolC (fun h_ => ?_) (fun h_ => ?_) <;> (try simp only [decide_eq_true_eq, decide_eq_false_iff_not, beq_iff_eq, bne_iff_ne, ne_eq, Bool.not_eq_true, Bool.not_eq_false, beq_eq_false_iff_ne, bne_eq_false_iff_eq, Bool.not_eq_eq_eq_not, Bool.not_true, Bool.not_false, Bool.not_not, Int.not_lt, Int.not_le, gt_iff_lt, ge_iff_le, Decidable.not_not] at h_)) | refine RunLN.any ?_ | refine RunL.ev Try.tOk rfl rfl rfl ?_ | refine RunL.unwantedD rfl rfl ?_ | refine RunL.unwantedN rfl ?_ | refine RunL.evV rfl rfl rfl (OpV.indexS Try.tOk _ rfl rfl rfl rfl (by omega)) ?_ | refine RunE.condT rfl rfl ?_ | refine RunE.condF rfl rfl ?_ | refine RunE.seq ?_ | refine RunE.region ?_ | refine RunL.nil ?_ | refine RunE.block ?_ | refine RunE.inBlock ?_ | refine RunE.skip ?_ | refine RunE.exit rfl ?_ | refine RunE.scope ?_ | refine RunE.inScope ?_ | refine RunE.label ?_)
          refine RunE.retFn Try.func17 (.tmp rfl (.tmp rfl .nil)) ⟨⟨u, ?_, ?_⟩, X5⟩
          · rw [he]; rfl
          · have : addLV l x = insS Am.no x l := if_pos he
            rw [this]
            unfold insS
            rwa [(take_while l).1, (take_while l).2] at h5
  · have he : addEV l x = chkV l := if_neg hc
    repeat' (first | with_reducible refine RunLN.boolT rfl ?_ | with_reducible refine RunLN.boolF rfl ?_ | refine RunLN.boolT (by assumption) ?_ | refine RunLN.boolF (by assumption) ?_ | (with_reducible refine RunLN.decT ?_ ?_; focus omega) | (with_reducible refine RunLN.decF ?_ ?_; focus omega) | (with_reducible refine RunLN.eqT ?_ ?_; focus omega) | (with_reducible refine RunLN.eqF ?_ ?_; focus omega) | (with_reducible refine RunLN.neT ?_ ?_; focus omega) | (with_reducible refine RunLN.neF ?_ ?_; focus omega) | refine RunLN.boolT (by exact rfl) ?_ | refine RunLN.boolF (by exact rfl) ?_ | refine RunLN.int (by (first | exact wr_i64 (by omega) (by omega) | exact wm_i64 (by omega) | exact wq_i64 (by omega) (by omega) (by omega) | rfl)) ?_ | (refine RunLN.boolC (fun h_ => ?_) (fun h_ => ?_) <;> (try simp only [decide_eq_true_eq, decide_eq_false_iff_not, beq_iff_eq, bne_iff_ne, ne_eq, Bool.not_eq_true, Bool.not_eq_false, beq_eq_false_iff_ne, bne_eq_false_iff_eq, Bool.not_eq_eq_eq_not, Bool.not_true, Bool.not_false, Bool.not_not, Int.not_lt, Int.not_le, gt_iff_lt, ge_iff_le, Decidable.not_not] at h_)) | refine RunLN.any ?_ | refine RunL.ev Try.tOk rfl rfl rfl ?_ | refine RunL.unwantedD rfl rfl ?_ | refine RunL.unwantedN rfl ?_ | refine RunL.evV rfl rfl rfl (OpV.indexS Try.tOk _ rfl rfl rfl rfl (by omega)) ?_ | refine RunE.condT rfl rfl ?_ | refine RunE.condF rfl rfl ?_ | refine RunE.seq ?_ | refine RunE.region ?_ | refine RunL.nil ?_ | refine RunE.block ?_ | refine RunE.inBlock ?_ | refine RunE.skip ?_ | refine RunE.exit rfl ?_ | refine RunE.scope ?_ | refine RunE.inScope ?_ | refine RunE.label ?_)
    refine RunE.retFn Try.func17 (.tmp rfl (.tmp rfl .nil)) ⟨⟨.slice none 0 0, ?_, ?_⟩, X⟩
    · rw [he]; rfl
    · unfold addLV addL; rw [show addE Am.no rightV 4096 140 l x = addEV l x from rfl, he, if_neg (by first | decide | exact hc)]; exact IsSl.nil
end Go.Sg
