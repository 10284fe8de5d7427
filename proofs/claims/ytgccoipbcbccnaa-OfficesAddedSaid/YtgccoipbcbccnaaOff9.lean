/- Offices: Holds. -/
import Derived.Test.YtgccoipbcbccnaaOff8
set_option linter.unusedSimpArgs false
set_option linter.unusedVariables false
set_option linter.unusedSectionVars false
namespace Go.Sg
open Go.Rn Go.Proofs Go.Off Go.Rec Go.Best
attribute [local irreducible] Go.Rn.RetsX Go.Rn.RunLN Go.Rn.AsyN Go.Rn.RunL Go.Rn.RunE Go.Rn.Asy Go.Rn.OpV Go.Rn.OpE Go.Rn.ExecE
theorem standing_ok (l : List Ap) (v : Value) (t time : Int) (w : World) (hv : LA w v l) (hl : l.length < 9223372036854775808) :
    Rets Try.prog 67 [v, .int .i64 t, .int .i64 time] w fun r w' => (∃ R, r = .map (some R) ∧ MapS w' R (standing l t time)) ∧ Ext w w' := by
  refine RetsX.of (nt := 12) Try.func67 (by kernel_rfl) rfl rfl (by simp) (by simp only [argEnv]; rfl) ?_
  have X := ExtB.refl (fun _ => False) w
  repeat' (first | refine RunE.seq ?_ | refine RunE.region ?_)
  refine RunL.box rfl rfl rfl fun B4 w4_ a_ => ?_
  have Z4 : Blk w4_ B4 ([.int .i64 t]) 3 := a_.at_
  have gB4 := a_.ge X
  replace X := X.trans a_.ext
  clear a_
  skip
  refine RunL.box rfl rfl rfl fun B5 w5_ a_ => ?_
  have Z5 : Blk w5_ B5 ([.int .i64 time]) 3 := a_.at_
  have gB5 := a_.ge X
  have n4_5 : B4 ≠ B5 := by have := Z4.lt; have := a_.eq; omega
  have n5_4 : B5 ≠ B4 := Ne.symm n4_5
  replace Z4 := Z4.up a_.ext
  replace X := X.trans a_.ext
  clear a_
  repeat' (first | refine RunLN.any ?_ | refine RunL.ev Try.tOk rfl rfl rfl ?_ | refine RunE.seq ?_ | refine RunE.region ?_ | refine RunL.nil ?_)
  refine RunL.call rfl rfl rfl (keep_ok l v t time B4 B5 _ (hv.up X) hl Z4 Z5) ?_
  rintro _ w9 ⟨⟨R, rfl, hM⟩, Xa⟩
  repeat' (first | refine RunLN.any ?_ | refine RunL.ev Try.tOk rfl rfl rfl ?_ | refine RunL.nil ?_)
  exact RunE.retFn Try.func67 (.tmp rfl .nil) ⟨⟨R, rfl, hM⟩, X.trans Xa⟩
theorem argAll {a b c d : Bool} (h : (a && b && c && d) = true) : a = true ∧ b = true ∧ c = true ∧ d = true := by
  cases a <;> cases b <;> cases c <;> cases d <;> simp at h <;> simp
theorem argAny {a b c d : Bool} (h : (a && b && c && d) = false) (ha : a = true) (hb : b = true) (hc : c = true) (hd : d = true) : False := by
  subst ha; subst hb; subst hc; subst hd; simp at h
set_option maxHeartbeats 2000000 in
theorem oholds_ok (l : List Ap) (v : Value) (o p t time : Int) (w : World) (hv : LA w v l) (hl : l.length < 9223372036854775808) :
    Rets Try.prog 35 [v, .int .i64 o, .int .i64 p, .int .i64 t, .int .i64 time] w fun r w' => r = .tuple #[.int .i64 (holdV l o p t time).1, .int .i64 (holdV l o p t time).2.1, .bool (holdV l o p t time).2.2, .int .i64 (holdE l o p t time)] ∧ Ext w w' := by
  refine RetsX.of (nt := 60) Try.func35 (by kernel_rfl) rfl rfl (by simp) (by simp only [argEnv]; rfl) ?_
  have X := ExtB.refl (fun _ => False) w
  repeat' (first | with_reducible refine RunLN.boolF rfl ?_ | refine RunLN.int (by (first | exact wr_i64 (by omega) (by omega) | exact wm_i64 (by omega) | exact wq_i64 (by omega) (by omega) (by omega) | rfl)) ?_ | refine RunLN.any ?_ | refine RunL.ev Try.tOk rfl rfl rfl ?_ | refine RunE.seq ?_ | refine RunE.region ?_ | refine RunL.nil ?_)
  refine RunL.call rfl rfl rfl (ocheck_ok l v _ (hv.up X) hl) ?_
  rintro _ _ ⟨rfl, Xa_⟩
  replace X := X.trans Xa_
  clear Xa_
  by_cases hc : chkA l = 0
  · have hE : holdE l o p t time = if argO o && argP p && argT t && argT time then 0 else 1 := if_pos hc
    rw [hc]
    cases hA : (argO o && argP p && argT t && argT time) with
    | true =>
      have he : holdE l o p t time = 0 := by rw [hE, hA]; rfl
      have hV0 : holdV l o p t time = answer (held (best l o p t time)) := if_pos he
      obtain ⟨a1, a2, a3, a4⟩ := argAll hA
      have hget := standing_get l t time o p
      repeat' (first | with_reducible refine RunLN.boolF rfl ?_ | refine RunLN.boolT (by assumption) ?_ | refine RunLN.int (by (first | exact wr_i64 (by omega) (by omega) | exact wm_i64 (by omega) | exact wq_i64 (by omega) (by omega) (by omega) | rfl)) ?_ | refine RunLN.any ?_ | refine RunL.ev Try.tOk rfl rfl rfl ?_ | refine RunL.callN rfl rfl rfl (oisOffice_ok _ _) ?_ | refine RunL.callN rfl rfl rfl (oisPerson_ok _ _) ?_ | refine RunL.callN rfl rfl rfl (oisTime_ok _ _) ?_ | refine RunE.condF rfl rfl ?_ | refine RunE.seq ?_ | refine RunE.region ?_ | refine RunL.nil ?_ | refine RunE.skip ?_)
      refine RunL.call rfl rfl rfl (standing_ok l v t time _ (hv.up X) hl) ?_
      rintro _ _ ⟨⟨R, rfl, hM⟩, Xa_⟩
      replace X := X.trans Xa_
      clear Xa_
      have hg2 := mapV_get (o, p) (standing l t time)
      rw [hget] at hg2
      repeat' (first | refine RunLN.int (by (first | exact wr_i64 (by omega) (by omega) | exact wm_i64 (by omega) | exact wq_i64 (by omega) (by omega) (by omega) | rfl)) ?_ | refine RunLN.any ?_ | refine RunL.ev Try.tOk rfl rfl rfl ?_)
      refine RunL.evV rfl rfl rfl (OpV.lookup2 (kv := seatV) (good := fun _ => True) (k := (o, p)) (z := apV zeroP) Try.underlying90 seatKey (by kernel_rfl) rfl rfl trivial hM) ?_
      rw [hg2]
      cases hb : best l o p t time with
      | none =>
        have hV : holdV l o p t time = (0, 0, false) := by rw [hV0, hb]; rfl
        simp only [Option.map_none, Option.getD_none, Option.isSome_none]
        repeat' (first | with_reducible refine RunLN.boolF rfl ?_ | refine RunLN.any ?_ | refine RunL.ev Try.tOk rfl rfl rfl ?_)
        refine RunL.alloc Try.tOk rfl rfl rfl fun B14 w14_ a_ => ?_
        have Z14 : Blk w14_ B14 (zeroP.cells) 47 := a_.at_
        have gB14 := a_.ge X
        replace X := X.trans a_.ext
        clear a_
        skip
        refine RunL.store Try.tOk rfl rfl rfl rfl rfl Z14 rfl rfl fun w_ t_ => ?_
        replace X := X.own t_.ext gB14
        replace Z14 : Blk w_ B14 (zeroP.cells) 47 := t_.at_
        clear t_
        repeat' (first | with_reducible refine RunLN.boolT rfl ?_ | with_reducible refine RunLN.boolF rfl ?_ | refine RunLN.int (by (first | exact wr_i64 (by omega) (by omega) | exact wm_i64 (by omega) | exact wq_i64 (by omega) (by omega) (by omega) | rfl)) ?_ | refine RunL.ev Try.tOk rfl rfl rfl ?_ | refine RunL.unwantedD rfl rfl ?_ | refine RunE.condT rfl rfl ?_ | refine RunE.seq ?_ | refine RunE.region ?_ | refine RunL.nil ?_)
        refine RunE.retFn Try.func35 (.tmp rfl (.tmp rfl (.tmp rfl (.tmp rfl .nil)))) ⟨?_, X⟩
        rw [he, hV]; rfl
      | some x =>
        simp only [Option.map_some, Option.getD_some, Option.isSome_some]
        obtain ⟨no, at_, known, office, person, weight, gone⟩ := x
        cases gone with
        | true =>
          have hV : holdV l o p t time = (0, 0, false) := by rw [hV0, hb]; rfl
          repeat' (first | with_reducible refine RunLN.boolT rfl ?_ | refine RunLN.any ?_ | refine RunL.ev Try.tOk rfl rfl rfl ?_)
          refine RunL.alloc Try.tOk rfl rfl rfl fun B14 w14_ a_ => ?_
          have Z14 : Blk w14_ B14 (zeroP.cells) 47 := a_.at_
          have gB14 := a_.ge X
          replace X := X.trans a_.ext
          clear a_
          skip
          refine RunL.store Try.tOk rfl rfl rfl rfl rfl Z14 rfl rfl fun w_ t_ => ?_
          replace X := X.own t_.ext gB14
          replace Z14 : Blk w_ B14 (Ap.cells ⟨no, at_, known, office, person, weight, true⟩) 47 := t_.at_
          clear t_
          repeat' (first | with_reducible refine RunLN.boolT rfl ?_ | with_reducible refine RunLN.boolF rfl ?_ | refine RunLN.int (by (first | exact wr_i64 (by omega) (by omega) | exact wm_i64 (by omega) | exact wq_i64 (by omega) (by omega) (by omega) | rfl)) ?_ | refine RunLN.any ?_ | refine RunL.ev Try.tOk rfl rfl rfl ?_ | refine RunL.evV rfl rfl rfl (OpV.load1 Try.tOk rfl rfl rfl (Blk.cell Z14 rfl)) ?_ | refine RunE.condT rfl rfl ?_ | refine RunE.seq ?_ | refine RunE.region ?_ | refine RunL.nil ?_)
          refine RunE.retFn Try.func35 (.tmp rfl (.tmp rfl (.tmp rfl (.tmp rfl .nil)))) ⟨?_, X⟩
          rw [he, hV]; rfl
        | false =>
          have hV : holdV l o p t time = (no, weight, true) := by rw [hV0, hb]; rfl
          repeat' (first | with_reducible refine RunLN.boolT rfl ?_ | refine RunLN.any ?_ | refine RunL.ev Try.tOk rfl rfl rfl ?_)
          refine RunL.alloc Try.tOk rfl rfl rfl fun B14 w14_ a_ => ?_
          have Z14 : Blk w14_ B14 (zeroP.cells) 47 := a_.at_
          have gB14 := a_.ge X
          replace X := X.trans a_.ext
          clear a_
          skip
          refine RunL.store Try.tOk rfl rfl rfl rfl rfl Z14 rfl rfl fun w_ t_ => ?_
          replace X := X.own t_.ext gB14
          replace Z14 : Blk w_ B14 (Ap.cells ⟨no, at_, known, office, person, weight, false⟩) 47 := t_.at_
          clear t_
          repeat' (first | with_reducible refine RunLN.boolT rfl ?_ | with_reducible refine RunLN.boolF rfl ?_ | refine RunLN.any ?_ | refine RunL.ev Try.tOk rfl rfl rfl ?_ | refine RunL.evV rfl rfl rfl (OpV.load1 Try.tOk rfl rfl rfl (Blk.cell Z14 rfl)) ?_ | refine RunE.condF rfl rfl ?_ | refine RunE.seq ?_ | refine RunE.region ?_ | refine RunL.nil ?_ | refine RunE.skip ?_)
          refine RunE.draw (fun _ => False) mix ?_
          intro wd_ Xd_
          repeat' (first | with_reducible refine AsyN.boolT rfl ?_ | refine AsyN.int (by (first | exact wr_i64 (by omega) (by omega) | exact wm_i64 (by omega) | exact wq_i64 (by omega) (by omega) (by omega) | rfl)) ?_ | refine AsyN.any ?_ | refine Asy.ev Try.tOk rfl rfl rfl ?_ | refine Asy.evV rfl rfl rfl rfl (fun _ X_ => OpV.load1 Try.tOk rfl rfl rfl (Blk.cell (Z14.up (Xd_.trans X_)) rfl)) ?_)
          refine Asy.end_ (by kernel_rfl) ?_
          intro we_ Xe_
          replace X := X.trans (Xd_.trans Xe_)
          repeat' (first | refine RunL.nil ?_)
          refine RunE.retFn Try.func35 (.tmp rfl (.tmp rfl (.tmp rfl (.tmp rfl .nil)))) ⟨?_, X⟩
          rw [he, hV]; rfl
    | false =>
      have he : holdE l o p t time = 1 := by rw [hE, hA]; rfl
      have hV : holdV l o p t time = (0, 0, false) := if_neg (by rw [he]; decide)
      repeat' (first | with_reducible refine RunLN.boolT rfl ?_ | with_reducible refine RunLN.boolF rfl ?_ | refine RunLN.int (by (first | exact wr_i64 (by omega) (by omega) | exact wm_i64 (by omega) | exact wq_i64 (by omega) (by omega) (by omega) | rfl)) ?_ | (refine RunLN.boolC (fun h_ => ?_) (fun h_ => ?_) <;> (try simp only [decide_eq_true_eq, decide_eq_false_iff_not, beq_iff_eq, bne_iff_ne, ne_eq, Bool.not_eq_true, Bool.not_eq_false, beq_eq_false_iff_ne, bne_eq_false_iff_eq, Bool.not_eq_eq_eq_not, Bool.not_true, Bool.not_false, Bool.not_not, Int.not_lt, Int.not_le, gt_iff_lt, ge_iff_le, Decidable.not_not] at h_)) | refine RunLN.any ?_ | refine RunL.ev Try.tOk rfl rfl rfl ?_ | refine RunL.unwantedD rfl rfl ?_ | refine RunL.callN rfl rfl rfl (oisOffice_ok _ _) ?_ | refine RunL.callN rfl rfl rfl (oisPerson_ok _ _) ?_ | refine RunL.callN rfl rfl rfl (oisTime_ok _ _) ?_ | refine RunE.condT rfl rfl ?_ | refine RunE.condF rfl rfl ?_ | refine RunE.seq ?_ | refine RunE.region ?_ | refine RunL.nil ?_ | refine RunE.skip ?_)
      all_goals first
        | (exfalso; exact argAny hA (by assumption) (by assumption) (by assumption) (by assumption))
        | (refine RunE.retFn Try.func35 (.tmp rfl (.tmp rfl (.tmp rfl (.tmp rfl .nil)))) ⟨?_, X⟩
           rw [he, hV]; rfl)
  · have he : holdE l o p t time = chkA l := if_neg hc
    rw [← he] at hc ⊢
    have hV : holdV l o p t time = (0, 0, false) := if_neg hc
    repeat' (first | with_reducible refine RunLN.boolF rfl ?_ | (with_reducible refine RunLN.neT ?_ ?_; focus omega) | refine RunLN.int (by (first | exact wr_i64 (by omega) (by omega) | exact wm_i64 (by omega) | exact wq_i64 (by omega) (by omega) (by omega) | rfl)) ?_ | refine RunL.ev Try.tOk rfl rfl rfl ?_ | refine RunE.condT rfl rfl ?_ | refine RunE.seq ?_ | refine RunE.region ?_ | refine RunL.nil ?_)
    refine RunE.retFn Try.func35 (.tmp rfl (.tmp rfl (.tmp rfl (.tmp rfl .nil)))) ⟨?_, X⟩
    rw [hV]; rfl
end Go.Sg
