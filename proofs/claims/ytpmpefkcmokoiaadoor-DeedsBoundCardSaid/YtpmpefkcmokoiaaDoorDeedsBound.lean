/- signatorylaw49.DeedsBound returns true for every input; condition: the package variables digest.start and digest.numbers hold what the program lays in them (the card ties this). -/
import Derived.Test.YtpmpefkcmokoiaaDoorDa09
set_option linter.unusedSimpArgs false
set_option linter.unusedVariables false
set_option linter.unusedSectionVars false
namespace Go.Sg
open Go.Rn Go.Proofs Go.Dee Go.Rec Go.RowKit Go.Sha Go.Cod Go.NT
attribute [local irreducible] powC makeE makeD idD idG idE textD sameF strOf Go.Rn.RetsX Go.Rn.RunLN Go.Rn.AsyN Go.Rn.RunL Go.Rn.RunE Go.Rn.Asy Go.Rn.OpV Go.Rn.OpE Go.Rn.ExecE
set_option maxRecDepth 4000 in
set_option maxHeartbeats 8000000 in
theorem deedsBound_walk (x y : Dr) (W : World) (h : WfX W x) (h' : WfX W y) (hS : Row W 0 0 (vals init8.l)) (hkT : Row W 1 0 (vals kTab)) :
    Rets Tryd.prog 4 [.agg x.cells.toArray, .agg y.cells.toArray] W fun r w' => r = .bool true ∧ Ext W w' := by
  obtain ⟨hwf, hl, hl', hs, hb⟩ := h
  obtain ⟨kwf, kl, kl', ks, kb⟩ := h'
  have c1 := fun w h h' => rfewD_ok x.d x.u x.v w h h'
  have c2 := fun w h h' => rfewD_ok y.d y.u y.v w h h'
  have c3 := fun w h h' h1 h2 => dId_ok x.d x.u x.v w h h' hl hl' h1 h2
  have c4 := fun w h h' h1 h2 => dId_ok y.d y.u y.v w h h' kl kl' h1 h2
  have eid : ∀ d : Deed, (formedD d = true ∧ idE d = 0 ∧ idG d = idD d) ∨ (formedD d = false ∧ idE d = 490 ∧ idG d = zeroG) := fun d => by
    unfold idE idG
    cases formedD d with
    | true => exact .inl ⟨rfl, rfl, rfl⟩
    | false => exact .inr ⟨rfl, rfl, rfl⟩
  have hzz : (zeroG == zeroG) = true := beq_self_eq_true _
  refine RetsX.of (nt := 98) Tryd.func4 (by kernel_rfl) rfl rfl (by simp) (by simp only [argEnv]; rfl) ?_
  have X := ExtB.refl (fun _ => False) W
  repeat' (first | refine RunE.seq ?_ | refine RunE.region ?_)
  refine RunL.box rfl rfl rfl fun B2 w2_ a_ => ?_
  have Z2 : Blk w2_ B2 (dCells x.d x.u x.v) 29 := a_.at_
  have gB2 := a_.ge X
  replace X := X.trans a_.ext
  clear a_
  skip
  refine RunL.box rfl rfl rfl fun B3 w3_ a_ => ?_
  have Z3 : Blk w3_ B3 (dCells y.d y.u y.v) 29 := a_.at_
  have gB3 := a_.ge X
  have n2_3 : B2 ≠ B3 := by have := Z2.lt; have := a_.eq; omega
  have n3_2 : B3 ≠ B2 := Ne.symm n2_3
  replace Z2 := Z2.up a_.ext
  replace X := X.trans a_.ext
  clear a_
  repeat' (first | with_reducible refine RunLN.boolF rfl ?_ | refine RunL.ev Tryd.tOk rfl rfl rfl ?_ | refine RunE.seq ?_ | refine RunE.region ?_ | refine RunL.nil ?_)
  refine RunL.call rfl rfl rfl (l49_sane_ok _ (hS.up X) (hkT.up X)) ?_
  rintro _ _ ⟨rfl, Xa_⟩
  replace Z2 := Z2.up Xa_
  replace Z3 := Z3.up Xa_
  replace X := X.trans Xa_
  clear Xa_
  repeat' (first | with_reducible refine RunLN.boolF rfl ?_ | refine RunLN.any ?_ | refine RunL.ev Tryd.tOk rfl rfl rfl ?_ | refine RunL.evV rfl rfl rfl (OpV.loadN Tryd.tOk rfl rfl rfl rfl (Blk.row Z2)) ?_ | refine RunE.condF rfl rfl ?_ | refine RunE.seq ?_ | refine RunE.region ?_ | refine RunL.nil ?_ | refine RunE.skip ?_)
  refine RunL.call rfl rfl rfl (c1 _ (hs.up X) (hb.up X)) ?_
  rintro _ _ ⟨rfl, Xa_⟩
  replace Z2 := Z2.up Xa_
  replace Z3 := Z3.up Xa_
  replace X := X.trans Xa_
  clear Xa_
  cases fewD x.d with
  | false =>
    repeat' (first | with_reducible refine RunLN.boolT rfl ?_ | refine RunL.ev Tryd.tOk rfl rfl rfl ?_ | refine RunL.unwantedD rfl rfl ?_ | refine RunE.condT rfl rfl ?_ | refine RunE.seq ?_ | refine RunE.region ?_ | refine RunL.nil ?_)
    exact RunE.retFn Tryd.func4 (.tmp rfl .nil) ⟨rfl, X⟩
  | true =>
  repeat' (first | with_reducible refine RunLN.boolF rfl ?_ | refine RunLN.any ?_ | refine RunL.ev Tryd.tOk rfl rfl rfl ?_ | refine RunL.evV rfl rfl rfl (OpV.loadN Tryd.tOk rfl rfl rfl rfl (Blk.row Z3)) ?_)
  refine RunL.call rfl rfl rfl (c2 _ (ks.up X) (kb.up X)) ?_
  rintro _ _ ⟨rfl, Xa_⟩
  replace Z2 := Z2.up Xa_
  replace Z3 := Z3.up Xa_
  replace X := X.trans Xa_
  clear Xa_
  cases fewD y.d with
  | false =>
    repeat' (first | with_reducible refine RunLN.boolT rfl ?_ | refine RunL.ev Tryd.tOk rfl rfl rfl ?_ | refine RunE.condT rfl rfl ?_ | refine RunE.seq ?_ | refine RunE.region ?_ | refine RunL.nil ?_)
    exact RunE.retFn Tryd.func4 (.tmp rfl .nil) ⟨rfl, X⟩
  | true =>
  clear c1 c2
  have q1 := eid x.d
  have q2 := eid y.d
  rcases q1 with ⟨fx, ex, gx⟩ | ⟨fx, ex, gx⟩
  rotate_left
  · rw [ex, gx] at c3
    have q2' : (idE y.d = 0) ∨ (idE y.d = 490 ∧ idG y.d = zeroG) := by
      rcases q2 with ⟨-, h, -⟩ | ⟨-, h, h'⟩
      · exact .inl h
      · exact .inr ⟨h, h'⟩
    clear q2 eid ex gx
    rcases q2' with ey | ⟨ey, gy⟩
    · rw [ey] at c4
      generalize idG y.d = gy at c4
      repeat' (first | with_reducible refine RunLN.boolF rfl ?_ | refine RunLN.any ?_ | refine RunL.ev Tryd.tOk rfl rfl rfl ?_ | refine RunL.evV rfl rfl rfl (OpV.loadN Tryd.tOk rfl rfl rfl rfl (Blk.row Z2)) ?_ | refine RunE.condF rfl rfl ?_ | refine RunE.seq ?_ | refine RunE.region ?_ | refine RunL.nil ?_ | refine RunE.skip ?_)
      refine RunL.call rfl rfl rfl (c3 _ (hs.up X) (hb.up X) (hS.up X) (hkT.up X)) ?_
      rintro _ _ ⟨rfl, Xa_⟩
      replace Z2 := Z2.up Xa_
      replace Z3 := Z3.up Xa_
      replace X := X.trans Xa_
      clear Xa_
      repeat' (first | (with_reducible refine RunLN.chk ?_; refine RunLN.int (by (first | (refine wr_i64 ?_ ?_; omega; omega) | (refine wm_i64 ?_; omega) | (refine wq_i64 ?_ ?_ ?_; omega; omega; omega) | rfl)) ?_) | refine RunLN.any ?_ | refine RunL.ev Tryd.tOk rfl rfl rfl ?_)
      refine RunL.alloc Tryd.tOk rfl rfl rfl fun B5 wa_ aa_ => ?_
      have gB5 := aa_.ge X
      refine RunL.storeW (vs := digC zeroG) Tryd.tOk rfl rfl rfl rfl rfl aa_.at_ rfl rfl fun w5_ tb_ => ?_
      have Xa_ : Ext _ w5_ := aa_.ext.write tb_.ext (by intro i_ hi_ hlt_; have := aa_.eq; omega)
      have Z5 : Blk w5_ B5 (digC zeroG) 23 := tb_.at_
      have n3_5 : B3 ≠ B5 := by have := Z3.lt; have := aa_.eq; omega
      have n5_3 : B5 ≠ B3 := Ne.symm n3_5
      replace Z3 := Z3.up Xa_
      replace X := X.trans Xa_
      clear Xa_ aa_ tb_
      repeat' (first | (with_reducible refine RunLN.chk ?_; refine RunLN.int (by (first | (refine wr_i64 ?_ ?_; omega; omega) | (refine wm_i64 ?_; omega) | (refine wq_i64 ?_ ?_ ?_; omega; omega; omega) | rfl)) ?_) | refine RunLN.any ?_ | refine RunL.ev Tryd.tOk rfl rfl rfl ?_ | refine RunL.evV rfl rfl rfl (OpV.loadN Tryd.tOk rfl rfl rfl rfl (Blk.row Z3)) ?_ | refine RunE.seq ?_ | refine RunE.region ?_ | refine RunL.nil ?_)
      refine RunL.call rfl rfl rfl (c4 _ (ks.up X) (kb.up X) (hS.up X) (hkT.up X)) ?_
      rintro _ _ ⟨rfl, Xa_⟩
      replace Z5 := Z5.up Xa_
      replace X := X.trans Xa_
      clear Xa_
      repeat' (first | (with_reducible refine RunLN.chk ?_; refine RunLN.int (by (first | (refine wr_i64 ?_ ?_; omega; omega) | (refine wm_i64 ?_; omega) | (refine wq_i64 ?_ ?_ ?_; omega; omega; omega) | rfl)) ?_) | refine RunLN.any ?_ | refine RunL.ev Tryd.tOk rfl rfl rfl ?_)
      refine RunL.alloc Tryd.tOk rfl rfl rfl fun B7 wa_ aa_ => ?_
      have gB7 := aa_.ge X
      refine RunL.storeW (vs := digC gy) Tryd.tOk rfl rfl rfl rfl rfl aa_.at_ rfl rfl fun w7_ tb_ => ?_
      have Xa_ : Ext _ w7_ := aa_.ext.write tb_.ext (by intro i_ hi_ hlt_; have := aa_.eq; omega)
      have Z7 : Blk w7_ B7 (digC gy) 23 := tb_.at_
      have n5_7 : B5 ≠ B7 := by have := Z5.lt; have := aa_.eq; omega
      have n7_5 : B7 ≠ B5 := Ne.symm n5_7
      replace Z5 := Z5.up Xa_
      replace X := X.trans Xa_
      clear Xa_ aa_ tb_
      repeat' (first | with_reducible refine RunLN.boolT rfl ?_ | with_reducible refine RunLN.boolF rfl ?_ | (with_reducible refine RunLN.chk ?_; refine RunLN.int (by (first | (refine wr_i64 ?_ ?_; omega; omega) | (refine wm_i64 ?_; omega) | (refine wq_i64 ?_ ?_ ?_; omega; omega; omega) | rfl)) ?_) | refine RunLN.any ?_ | refine RunL.ev Tryd.tOk rfl rfl rfl ?_ | refine RunL.unwantedD rfl rfl ?_ | refine RunL.evV rfl rfl rfl (OpV.loadN Tryd.tOk rfl rfl rfl rfl (Blk.row Z5)) ?_ | refine RunL.evV rfl rfl rfl ((OpV.eqDg (a := zeroG) (b := zeroG) bytesArr rfl rfl)) ?_ | refine RunE.condT rfl rfl ?_ | refine RunE.seq ?_ | refine RunE.region ?_ | refine RunL.nil ?_)
      exact RunE.retFn Tryd.func4 (.tmp rfl .nil) ⟨rfl, X⟩
    · rw [ey, gy] at c4
      repeat' (first | with_reducible refine RunLN.boolF rfl ?_ | refine RunLN.any ?_ | refine RunL.ev Tryd.tOk rfl rfl rfl ?_ | refine RunL.evV rfl rfl rfl (OpV.loadN Tryd.tOk rfl rfl rfl rfl (Blk.row Z2)) ?_ | refine RunE.condF rfl rfl ?_ | refine RunE.seq ?_ | refine RunE.region ?_ | refine RunL.nil ?_ | refine RunE.skip ?_)
      refine RunL.call rfl rfl rfl (c3 _ (hs.up X) (hb.up X) (hS.up X) (hkT.up X)) ?_
      rintro _ _ ⟨rfl, Xa_⟩
      replace Z2 := Z2.up Xa_
      replace Z3 := Z3.up Xa_
      replace X := X.trans Xa_
      clear Xa_
      repeat' (first | (with_reducible refine RunLN.chk ?_; refine RunLN.int (by (first | (refine wr_i64 ?_ ?_; omega; omega) | (refine wm_i64 ?_; omega) | (refine wq_i64 ?_ ?_ ?_; omega; omega; omega) | rfl)) ?_) | refine RunLN.any ?_ | refine RunL.ev Tryd.tOk rfl rfl rfl ?_)
      refine RunL.alloc Tryd.tOk rfl rfl rfl fun B5 wa_ aa_ => ?_
      have gB5 := aa_.ge X
      refine RunL.storeW (vs := digC zeroG) Tryd.tOk rfl rfl rfl rfl rfl aa_.at_ rfl rfl fun w5_ tb_ => ?_
      have Xa_ : Ext _ w5_ := aa_.ext.write tb_.ext (by intro i_ hi_ hlt_; have := aa_.eq; omega)
      have Z5 : Blk w5_ B5 (digC zeroG) 23 := tb_.at_
      have n3_5 : B3 ≠ B5 := by have := Z3.lt; have := aa_.eq; omega
      have n5_3 : B5 ≠ B3 := Ne.symm n3_5
      replace Z3 := Z3.up Xa_
      replace X := X.trans Xa_
      clear Xa_ aa_ tb_
      repeat' (first | (with_reducible refine RunLN.chk ?_; refine RunLN.int (by (first | (refine wr_i64 ?_ ?_; omega; omega) | (refine wm_i64 ?_; omega) | (refine wq_i64 ?_ ?_ ?_; omega; omega; omega) | rfl)) ?_) | refine RunLN.any ?_ | refine RunL.ev Tryd.tOk rfl rfl rfl ?_ | refine RunL.evV rfl rfl rfl (OpV.loadN Tryd.tOk rfl rfl rfl rfl (Blk.row Z3)) ?_ | refine RunE.seq ?_ | refine RunE.region ?_ | refine RunL.nil ?_)
      refine RunL.call rfl rfl rfl (c4 _ (ks.up X) (kb.up X) (hS.up X) (hkT.up X)) ?_
      rintro _ _ ⟨rfl, Xa_⟩
      replace Z5 := Z5.up Xa_
      replace X := X.trans Xa_
      clear Xa_
      repeat' (first | (with_reducible refine RunLN.chk ?_; refine RunLN.int (by (first | (refine wr_i64 ?_ ?_; omega; omega) | (refine wm_i64 ?_; omega) | (refine wq_i64 ?_ ?_ ?_; omega; omega; omega) | rfl)) ?_) | refine RunLN.any ?_ | refine RunL.ev Tryd.tOk rfl rfl rfl ?_)
      refine RunL.alloc Tryd.tOk rfl rfl rfl fun B7 wa_ aa_ => ?_
      have gB7 := aa_.ge X
      refine RunL.storeW (vs := digC zeroG) Tryd.tOk rfl rfl rfl rfl rfl aa_.at_ rfl rfl fun w7_ tb_ => ?_
      have Xa_ : Ext _ w7_ := aa_.ext.write tb_.ext (by intro i_ hi_ hlt_; have := aa_.eq; omega)
      have Z7 : Blk w7_ B7 (digC zeroG) 23 := tb_.at_
      have n5_7 : B5 ≠ B7 := by have := Z5.lt; have := aa_.eq; omega
      have n7_5 : B7 ≠ B5 := Ne.symm n5_7
      replace Z5 := Z5.up Xa_
      replace X := X.trans Xa_
      clear Xa_ aa_ tb_
      repeat' (first | with_reducible refine RunLN.boolT rfl ?_ | with_reducible refine RunLN.boolF rfl ?_ | (with_reducible refine RunLN.chk ?_; refine RunLN.int (by (first | (refine wr_i64 ?_ ?_; omega; omega) | (refine wm_i64 ?_; omega) | (refine wq_i64 ?_ ?_ ?_; omega; omega; omega) | rfl)) ?_) | refine RunLN.any ?_ | refine RunL.ev Tryd.tOk rfl rfl rfl ?_ | refine RunL.unwantedD rfl rfl ?_ | refine RunL.evV rfl rfl rfl (OpV.loadN Tryd.tOk rfl rfl rfl rfl (Blk.row Z5)) ?_ | refine RunL.evV rfl rfl rfl (OpV.loadN Tryd.tOk rfl rfl rfl rfl (Blk.row Z7)) ?_ | refine RunL.evV rfl rfl rfl ((OpV.eqDg (a := zeroG) (b := zeroG) bytesArr rfl rfl)) ?_ | refine RunE.condT rfl rfl ?_ | refine RunE.seq ?_ | refine RunE.region ?_ | refine RunL.nil ?_)
      exact RunE.retFn Tryd.func4 (.tmp rfl .nil) ⟨rfl, X⟩
  rw [ex, gx] at c3
  clear ex gx eid
  rcases q2 with ⟨fy, ey, gy⟩ | ⟨fy, ey, gy⟩
  rotate_left
  · rw [ey, gy] at c4
    generalize idD x.d = gx at c3
    repeat' (first | with_reducible refine RunLN.boolF rfl ?_ | refine RunLN.any ?_ | refine RunL.ev Tryd.tOk rfl rfl rfl ?_ | refine RunL.evV rfl rfl rfl (OpV.loadN Tryd.tOk rfl rfl rfl rfl (Blk.row Z2)) ?_ | refine RunE.condF rfl rfl ?_ | refine RunE.seq ?_ | refine RunE.region ?_ | refine RunL.nil ?_ | refine RunE.skip ?_)
    refine RunL.call rfl rfl rfl (c3 _ (hs.up X) (hb.up X) (hS.up X) (hkT.up X)) ?_
    rintro _ _ ⟨rfl, Xa_⟩
    replace Z2 := Z2.up Xa_
    replace Z3 := Z3.up Xa_
    replace X := X.trans Xa_
    clear Xa_
    repeat' (first | (with_reducible refine RunLN.chk ?_; refine RunLN.int (by (first | (refine wr_i64 ?_ ?_; omega; omega) | (refine wm_i64 ?_; omega) | (refine wq_i64 ?_ ?_ ?_; omega; omega; omega) | rfl)) ?_) | refine RunLN.any ?_ | refine RunL.ev Tryd.tOk rfl rfl rfl ?_)
    refine RunL.alloc Tryd.tOk rfl rfl rfl fun B5 wa_ aa_ => ?_
    have gB5 := aa_.ge X
    refine RunL.storeW (vs := digC gx) Tryd.tOk rfl rfl rfl rfl rfl aa_.at_ rfl rfl fun w5_ tb_ => ?_
    have Xa_ : Ext _ w5_ := aa_.ext.write tb_.ext (by intro i_ hi_ hlt_; have := aa_.eq; omega)
    have Z5 : Blk w5_ B5 (digC gx) 23 := tb_.at_
    have n3_5 : B3 ≠ B5 := by have := Z3.lt; have := aa_.eq; omega
    have n5_3 : B5 ≠ B3 := Ne.symm n3_5
    replace Z3 := Z3.up Xa_
    replace X := X.trans Xa_
    clear Xa_ aa_ tb_
    repeat' (first | (with_reducible refine RunLN.chk ?_; refine RunLN.int (by (first | (refine wr_i64 ?_ ?_; omega; omega) | (refine wm_i64 ?_; omega) | (refine wq_i64 ?_ ?_ ?_; omega; omega; omega) | rfl)) ?_) | refine RunLN.any ?_ | refine RunL.ev Tryd.tOk rfl rfl rfl ?_ | refine RunL.evV rfl rfl rfl (OpV.loadN Tryd.tOk rfl rfl rfl rfl (Blk.row Z3)) ?_ | refine RunE.seq ?_ | refine RunE.region ?_ | refine RunL.nil ?_)
    refine RunL.call rfl rfl rfl (c4 _ (ks.up X) (kb.up X) (hS.up X) (hkT.up X)) ?_
    rintro _ _ ⟨rfl, Xa_⟩
    replace Z5 := Z5.up Xa_
    replace X := X.trans Xa_
    clear Xa_
    repeat' (first | (with_reducible refine RunLN.chk ?_; refine RunLN.int (by (first | (refine wr_i64 ?_ ?_; omega; omega) | (refine wm_i64 ?_; omega) | (refine wq_i64 ?_ ?_ ?_; omega; omega; omega) | rfl)) ?_) | refine RunLN.any ?_ | refine RunL.ev Tryd.tOk rfl rfl rfl ?_)
    refine RunL.alloc Tryd.tOk rfl rfl rfl fun B7 wa_ aa_ => ?_
    have gB7 := aa_.ge X
    refine RunL.storeW (vs := digC zeroG) Tryd.tOk rfl rfl rfl rfl rfl aa_.at_ rfl rfl fun w7_ tb_ => ?_
    have Xa_ : Ext _ w7_ := aa_.ext.write tb_.ext (by intro i_ hi_ hlt_; have := aa_.eq; omega)
    have Z7 : Blk w7_ B7 (digC zeroG) 23 := tb_.at_
    have n5_7 : B5 ≠ B7 := by have := Z5.lt; have := aa_.eq; omega
    have n7_5 : B7 ≠ B5 := Ne.symm n5_7
    replace Z5 := Z5.up Xa_
    replace X := X.trans Xa_
    clear Xa_ aa_ tb_
    repeat' (first | with_reducible refine RunLN.boolT rfl ?_ | with_reducible refine RunLN.boolF rfl ?_ | (with_reducible refine RunLN.chk ?_; refine RunLN.int (by (first | (refine wr_i64 ?_ ?_; omega; omega) | (refine wm_i64 ?_; omega) | (refine wq_i64 ?_ ?_ ?_; omega; omega; omega) | rfl)) ?_) | refine RunLN.any ?_ | refine RunL.ev Tryd.tOk rfl rfl rfl ?_ | refine RunL.unwantedD rfl rfl ?_ | refine RunL.evV rfl rfl rfl (OpV.loadN Tryd.tOk rfl rfl rfl rfl (Blk.row Z7)) ?_ | refine RunL.evV rfl rfl rfl ((OpV.eqDg (a := zeroG) (b := zeroG) bytesArr rfl rfl)) ?_ | refine RunE.condT rfl rfl ?_ | refine RunE.seq ?_ | refine RunE.region ?_ | refine RunL.nil ?_)
    exact RunE.retFn Tryd.func4 (.tmp rfl .nil) ⟨rfl, X⟩
  rw [ey, gy] at c4
  clear ey gy hzz
  have c5 := fun w h h' => rText_ok x.d x.u x.v w h h' fx
  have c6 := fun w h h' => rText_ok y.d y.u y.v w h h' fy
  have c7 := fun v w h h1 h2 => dtag_ok x.d v w h fx h1 h2
  have c8 := fun v w h h1 h2 => dtag_ok y.d v w h fy h1 h2
  have cs := fun w a b c d => rsameF_ok x.d y.d x.u x.v y.u y.v w a b c d hl kl
  have hst : ((strOf (textD x.d)).toList == (strOf (textD y.d)).toList) = sameF x.d y.d := by
    rw [str_toList, str_toList, Bool.eq_iff_iff, sameF_text, beq_iff_eq]
  have hgs : sameF x.d y.d = true → idD x.d = idD y.d := sameF_id
  generalize idD x.d = gx at *
  generalize idD y.d = gy at *
  repeat' (first | with_reducible refine RunLN.boolF rfl ?_ | refine RunLN.any ?_ | refine RunL.ev Tryd.tOk rfl rfl rfl ?_ | refine RunL.evV rfl rfl rfl (OpV.loadN Tryd.tOk rfl rfl rfl rfl (Blk.row Z2)) ?_ | refine RunE.condF rfl rfl ?_ | refine RunE.seq ?_ | refine RunE.region ?_ | refine RunL.nil ?_ | refine RunE.skip ?_)
  refine RunL.call rfl rfl rfl (c3 _ (hs.up X) (hb.up X) (hS.up X) (hkT.up X)) ?_
  rintro _ _ ⟨rfl, Xa_⟩
  replace Z2 := Z2.up Xa_
  replace Z3 := Z3.up Xa_
  replace X := X.trans Xa_
  clear Xa_
  repeat' (first | (with_reducible refine RunLN.chk ?_; refine RunLN.int (by (first | (refine wr_i64 ?_ ?_; omega; omega) | (refine wm_i64 ?_; omega) | (refine wq_i64 ?_ ?_ ?_; omega; omega; omega) | rfl)) ?_) | refine RunLN.any ?_ | refine RunL.ev Tryd.tOk rfl rfl rfl ?_)
  refine RunL.alloc Tryd.tOk rfl rfl rfl fun B5 wa_ aa_ => ?_
  have gB5 := aa_.ge X
  refine RunL.storeW (vs := digC gx) Tryd.tOk rfl rfl rfl rfl rfl aa_.at_ rfl rfl fun w5_ tb_ => ?_
  have Xa_ : Ext _ w5_ := aa_.ext.write tb_.ext (by intro i_ hi_ hlt_; have := aa_.eq; omega)
  have Z5 : Blk w5_ B5 (digC gx) 23 := tb_.at_
  have n2_5 : B2 ≠ B5 := by have := Z2.lt; have := aa_.eq; omega
  have n5_2 : B5 ≠ B2 := Ne.symm n2_5
  have n3_5 : B3 ≠ B5 := by have := Z3.lt; have := aa_.eq; omega
  have n5_3 : B5 ≠ B3 := Ne.symm n3_5
  replace Z2 := Z2.up Xa_
  replace Z3 := Z3.up Xa_
  replace X := X.trans Xa_
  clear Xa_ aa_ tb_
  repeat' (first | (with_reducible refine RunLN.chk ?_; refine RunLN.int (by (first | (refine wr_i64 ?_ ?_; omega; omega) | (refine wm_i64 ?_; omega) | (refine wq_i64 ?_ ?_ ?_; omega; omega; omega) | rfl)) ?_) | refine RunLN.any ?_ | refine RunL.ev Tryd.tOk rfl rfl rfl ?_ | refine RunL.evV rfl rfl rfl (OpV.loadN Tryd.tOk rfl rfl rfl rfl (Blk.row Z3)) ?_ | refine RunE.seq ?_ | refine RunE.region ?_ | refine RunL.nil ?_)
  refine RunL.call rfl rfl rfl (c4 _ (ks.up X) (kb.up X) (hS.up X) (hkT.up X)) ?_
  rintro _ _ ⟨rfl, Xa_⟩
  replace Z2 := Z2.up Xa_
  replace Z3 := Z3.up Xa_
  replace Z5 := Z5.up Xa_
  replace X := X.trans Xa_
  clear Xa_
  repeat' (first | (with_reducible refine RunLN.chk ?_; refine RunLN.int (by (first | (refine wr_i64 ?_ ?_; omega; omega) | (refine wm_i64 ?_; omega) | (refine wq_i64 ?_ ?_ ?_; omega; omega; omega) | rfl)) ?_) | refine RunLN.any ?_ | refine RunL.ev Tryd.tOk rfl rfl rfl ?_)
  refine RunL.alloc Tryd.tOk rfl rfl rfl fun B7 wa_ aa_ => ?_
  have gB7 := aa_.ge X
  refine RunL.storeW (vs := digC gy) Tryd.tOk rfl rfl rfl rfl rfl aa_.at_ rfl rfl fun w7_ tb_ => ?_
  have Xa_ : Ext _ w7_ := aa_.ext.write tb_.ext (by intro i_ hi_ hlt_; have := aa_.eq; omega)
  have Z7 : Blk w7_ B7 (digC gy) 23 := tb_.at_
  have n2_7 : B2 ≠ B7 := by have := Z2.lt; have := aa_.eq; omega
  have n7_2 : B7 ≠ B2 := Ne.symm n2_7
  have n3_7 : B3 ≠ B7 := by have := Z3.lt; have := aa_.eq; omega
  have n7_3 : B7 ≠ B3 := Ne.symm n3_7
  have n5_7 : B5 ≠ B7 := by have := Z5.lt; have := aa_.eq; omega
  have n7_5 : B7 ≠ B5 := Ne.symm n5_7
  replace Z2 := Z2.up Xa_
  replace Z3 := Z3.up Xa_
  replace Z5 := Z5.up Xa_
  replace X := X.trans Xa_
  clear Xa_ aa_ tb_
  repeat' (first | with_reducible refine RunLN.boolF rfl ?_ | (with_reducible refine RunLN.chk ?_; refine RunLN.int (by (first | (refine wr_i64 ?_ ?_; omega; omega) | (refine wm_i64 ?_; omega) | (refine wq_i64 ?_ ?_ ?_; omega; omega; omega) | rfl)) ?_) | refine RunL.ev Tryd.tOk rfl rfl rfl ?_ | refine RunE.condF rfl rfl ?_ | refine RunE.seq ?_ | refine RunE.region ?_ | refine RunL.nil ?_ | refine RunE.skip ?_)
  refine RunE.draw (fun _ => False) mix ?_
  intro wd_ Xd_
  repeat' (first | refine AsyN.any ?_ | refine Asy.evV rfl rfl rfl rfl (fun _ X_ => OpV.loadN Tryd.tOk rfl rfl rfl rfl (Blk.row (Z2.up (Xd_.trans X_)))) ?_)
  refine Asy.sat0 (fun q w' => LBy w' q (textD x.d)) rfl rfl rfl rfl (fun q w' w'' _ e h => h.up e) (fun w' e => ?_) ?_
  · refine OpE.mono (OpE.call rfl (c5 _ (hs.up (X.trans (Xd_.trans e))) (hb.up (X.trans (Xd_.trans e))))) ?_ fun _ _ h => h
    rintro r w'' ⟨h1, h2⟩
    exact ⟨h2, isSl_own h1⟩
  repeat' (first | refine AsyN.any ?_ | refine Asy.evV rfl rfl rfl rfl (fun _ X_ => OpV.loadN Tryd.tOk rfl rfl rfl rfl (Blk.row (Z3.up (Xd_.trans X_)))) ?_)
  refine Asy.sat0 (fun q w' => LBy w' q (textD y.d)) rfl rfl rfl rfl (fun q w' w'' _ e h => h.up e) (fun w' e => ?_) ?_
  · refine OpE.mono (OpE.call rfl (c6 _ (ks.up (X.trans (Xd_.trans e))) (kb.up (X.trans (Xd_.trans e))))) ?_ fun _ _ h => h
    rintro r w'' ⟨h1, h2⟩
    exact ⟨h2, isSl_own h1⟩
  refine Asy.sat1P Tryd.tOk 1 (fun q w' => LBy w' q (textD x.d)) rfl rfl rfl rfl rfl rfl (fun q w' w'' _ e h => h.up e) (fun w' q e hx => ⟨q, rfl, hx⟩) ?_
  refine Asy.tail (by kernel_rfl) ?_
  intro we_ Xe_
  simp only [satsAll]
  rintro t9 h9 t56 h10 _ -
  replace Xe_ := Xd_.trans Xe_
  replace Z2 := Z2.up Xe_
  replace Z3 := Z3.up Xe_
  replace Z5 := Z5.up Xe_
  replace Z7 := Z7.up Xe_
  replace X := X.trans Xe_
  clear Xd_ Xe_ c3 c4 c5 c6
  cases hq : sameF x.d y.d with
  | true =>
    rw [hq] at hst cs
    obtain rfl := hgs hq
    have hgg : (!(gx == gx)) = false := by rw [beq_self_eq_true]; rfl
    clear hgs hq
    repeat' (first | refine RunLN.any ?_ | refine RunL.ev Tryd.tOk rfl rfl rfl ?_ | refine RunE.seq ?_ | refine RunL.nil ?_)
    refine RunE.draw (fun _ => False) mix ?_
    intro wd_ Xd_
    repeat' (first | with_reducible refine AsyN.boolT rfl ?_ | with_reducible refine AsyN.boolF rfl ?_ | refine AsyN.boolT (by assumption) ?_ | refine AsyN.boolF (by assumption) ?_ | refine AsyN.any ?_ | refine Asy.ev Tryd.tOk rfl rfl rfl ?_ | refine Asy.evV rfl rfl rfl rfl (fun _ X_ => OpV.loadN Tryd.tOk rfl rfl rfl rfl (Blk.row (Z2.up (Xd_.trans X_)))) ?_ | refine Asy.evV rfl rfl rfl rfl (fun _ X_ => OpV.loadN Tryd.tOk rfl rfl rfl rfl (Blk.row (Z3.up (Xd_.trans X_)))) ?_ | refine Asy.evV rfl rfl rfl rfl (fun _ X_ => OpV.loadN Tryd.tOk rfl rfl rfl rfl (Blk.row (Z5.up (Xd_.trans X_)))) ?_ | refine Asy.evV rfl rfl rfl rfl (fun _ X_ => OpV.loadN Tryd.tOk rfl rfl rfl rfl (Blk.row (Z7.up (Xd_.trans X_)))) ?_ | refine Asy.evV rfl rfl rfl rfl (fun _ X_ => (OpV.b2sSl (l := textD x.d) Tryd.tOk rfl rfl rfl rfl (h9.up (Xd_.trans X_)))) ?_ | refine Asy.evV rfl rfl rfl rfl (fun _ X_ => (OpV.b2sSl (l := textD y.d) Tryd.tOk rfl rfl rfl rfl (h10.up (Xd_.trans X_)))) ?_ | refine Asy.callN rfl rfl rfl (fun _ X_ => (cs _ (hs.up (X.trans (Xd_.trans X_))) (hb.up (X.trans (Xd_.trans X_))) (ks.up (X.trans (Xd_.trans X_))) (kb.up (X.trans (Xd_.trans X_))))) ?_ | refine Asy.evV rfl rfl rfl rfl (fun _ X_ => (OpV.neDg (a := gx) (b := gx) bytesArr rfl rfl)) ?_)
    refine Asy.end_ (by kernel_rfl) ?_
    intro we_ Xe_
    replace Xe_ := Xd_.trans Xe_
    replace Z2 := Z2.up Xe_
    replace Z3 := Z3.up Xe_
    replace Z5 := Z5.up Xe_
    replace Z7 := Z7.up Xe_
    replace X := X.trans Xe_
    clear Xd_ Xe_
    repeat' (first | with_reducible refine RunLN.boolF rfl ?_ | refine RunLN.boolF (by assumption) ?_ | refine RunLN.any ?_ | refine RunL.ev Tryd.tOk rfl rfl rfl ?_ | refine RunL.evV rfl rfl rfl (OpV.loadN Tryd.tOk rfl rfl rfl rfl (Blk.row Z2)) ?_ | refine RunL.evV rfl rfl rfl (OpV.loadN Tryd.tOk rfl rfl rfl rfl (Blk.row Z3)) ?_ | refine RunL.evV rfl rfl rfl (OpV.loadN Tryd.tOk rfl rfl rfl rfl (Blk.row Z5)) ?_ | refine RunL.evV rfl rfl rfl (OpV.loadN Tryd.tOk rfl rfl rfl rfl (Blk.row Z7)) ?_ | refine RunL.evV rfl rfl rfl ((OpV.neDg (a := gx) (b := gx) bytesArr rfl rfl)) ?_ | refine RunE.condF rfl rfl ?_ | refine RunE.seq ?_ | refine RunE.region ?_ | refine RunL.nil ?_ | refine RunE.skip ?_)
    refine RunL.call rfl rfl rfl (cs _ (hs.up X) (hb.up X) (ks.up X) (kb.up X)) ?_
    rintro _ _ ⟨rfl, Xa_⟩
    replace X := X.trans Xa_
    clear Xa_
    repeat' (first | with_reducible refine RunLN.boolT rfl ?_ | refine RunL.ev Tryd.tOk rfl rfl rfl ?_ | refine RunL.unwantedD rfl rfl ?_ | refine RunL.nil ?_)
    exact RunE.retFn Tryd.func4 (.tmp rfl .nil) ⟨rfl, X⟩
  | false =>
    rw [hq] at hst cs
    clear hgs hq
    repeat' (first | refine RunLN.any ?_ | refine RunL.ev Tryd.tOk rfl rfl rfl ?_ | refine RunE.seq ?_ | refine RunL.nil ?_)
    refine RunE.draw (fun _ => False) mix ?_
    intro wd_ Xd_
    repeat' (first | with_reducible refine AsyN.boolF rfl ?_ | refine AsyN.boolF (by assumption) ?_ | refine AsyN.any ?_ | refine Asy.ev Tryd.tOk rfl rfl rfl ?_ | refine Asy.unwantedD rfl rfl rfl ?_ | refine Asy.evV rfl rfl rfl rfl (fun _ X_ => OpV.loadN Tryd.tOk rfl rfl rfl rfl (Blk.row (Z2.up (Xd_.trans X_)))) ?_ | refine Asy.evV rfl rfl rfl rfl (fun _ X_ => OpV.loadN Tryd.tOk rfl rfl rfl rfl (Blk.row (Z3.up (Xd_.trans X_)))) ?_ | refine Asy.evV rfl rfl rfl rfl (fun _ X_ => (OpV.b2sSl (l := textD x.d) Tryd.tOk rfl rfl rfl rfl (h9.up (Xd_.trans X_)))) ?_ | refine Asy.evV rfl rfl rfl rfl (fun _ X_ => (OpV.b2sSl (l := textD y.d) Tryd.tOk rfl rfl rfl rfl (h10.up (Xd_.trans X_)))) ?_ | refine Asy.callN rfl rfl rfl (fun _ X_ => (cs _ (hs.up (X.trans (Xd_.trans X_))) (hb.up (X.trans (Xd_.trans X_))) (ks.up (X.trans (Xd_.trans X_))) (kb.up (X.trans (Xd_.trans X_))))) ?_)
    refine Asy.end_ (by kernel_rfl) ?_
    intro we_ Xe_
    replace Xe_ := Xd_.trans Xe_
    replace Z2 := Z2.up Xe_
    replace Z3 := Z3.up Xe_
    replace Z5 := Z5.up Xe_
    replace Z7 := Z7.up Xe_
    replace h9 := h9.up Xe_
    replace h10 := h10.up Xe_
    replace X := X.trans Xe_
    clear Xd_ Xe_
    cases hg : (gx == gy) with
    | false =>
      have hgg : (!(gx == gy)) = true := by rw [hg]; rfl
      repeat' (first | with_reducible refine RunLN.boolT rfl ?_ | refine RunLN.boolT (by assumption) ?_ | refine RunLN.any ?_ | refine RunL.ev Tryd.tOk rfl rfl rfl ?_ | refine RunL.unwantedD rfl rfl ?_ | refine RunL.evV rfl rfl rfl (OpV.loadN Tryd.tOk rfl rfl rfl rfl (Blk.row Z5)) ?_ | refine RunL.evV rfl rfl rfl (OpV.loadN Tryd.tOk rfl rfl rfl rfl (Blk.row Z7)) ?_ | refine RunL.evV rfl rfl rfl ((OpV.neDg (a := gx) (b := gy) bytesArr rfl rfl)) ?_ | refine RunE.condF rfl rfl ?_ | refine RunE.seq ?_ | refine RunE.region ?_ | refine RunL.nil ?_ | refine RunE.skip ?_)
      exact RunE.retFn Tryd.func4 (.tmp rfl .nil) ⟨rfl, X⟩
    | true =>
      have hgg : (!(gx == gy)) = false := by rw [hg]; rfl
      have hsn : (!((strOf (textD x.d)).toList == (strOf (textD y.d)).toList)) = true := by rw [hst]; rfl
      repeat' (first | with_reducible refine RunLN.boolF rfl ?_ | refine RunLN.boolF (by assumption) ?_ | refine RunLN.any ?_ | refine RunL.ev Tryd.tOk rfl rfl rfl ?_ | refine RunL.evV rfl rfl rfl (OpV.loadN Tryd.tOk rfl rfl rfl rfl (Blk.row Z2)) ?_ | refine RunL.evV rfl rfl rfl (OpV.loadN Tryd.tOk rfl rfl rfl rfl (Blk.row Z3)) ?_ | refine RunL.evV rfl rfl rfl (OpV.loadN Tryd.tOk rfl rfl rfl rfl (Blk.row Z5)) ?_ | refine RunL.evV rfl rfl rfl (OpV.loadN Tryd.tOk rfl rfl rfl rfl (Blk.row Z7)) ?_ | refine RunL.evV rfl rfl rfl ((OpV.neDg (a := gx) (b := gy) bytesArr rfl rfl)) ?_ | refine RunE.condF rfl rfl ?_ | refine RunE.seq ?_ | refine RunE.region ?_ | refine RunL.nil ?_ | refine RunE.skip ?_)
      refine RunL.call rfl rfl rfl (cs _ (hs.up X) (hb.up X) (ks.up X) (kb.up X)) ?_
      rintro _ _ ⟨rfl, Xa_⟩
      replace h9 := h9.up Xa_
      replace h10 := h10.up Xa_
      replace X := X.trans Xa_
      clear Xa_
      repeat' (first | with_reducible refine RunLN.boolT rfl ?_ | with_reducible refine RunLN.boolF rfl ?_ | refine RunLN.boolT (by assumption) ?_ | refine RunLN.any ?_ | refine RunL.ev Tryd.tOk rfl rfl rfl ?_ | refine RunL.evV rfl rfl rfl ((OpV.b2sSl (l := textD x.d) Tryd.tOk rfl rfl rfl rfl h9)) ?_ | refine RunL.evV rfl rfl rfl ((OpV.b2sSl (l := textD y.d) Tryd.tOk rfl rfl rfl rfl h10)) ?_)
      refine RunL.call rfl rfl rfl (c7 _ _ h9 (hS.up X) (hkT.up X)) ?_
      rintro _ _ ⟨rfl, Xa_⟩
      replace h10 := h10.up Xa_
      replace X := X.trans Xa_
      clear Xa_
      repeat' (first | refine RunLN.any ?_ | refine RunL.ev Tryd.tOk rfl rfl rfl ?_)
      refine RunL.call rfl rfl rfl (c8 _ _ h10 (hS.up X) (hkT.up X)) ?_
      rintro _ _ ⟨rfl, Xa_⟩
      replace X := X.trans Xa_
      clear Xa_
      repeat' (first | with_reducible refine RunLN.boolT rfl ?_ | refine RunLN.boolT (by assumption) ?_ | refine RunL.ev Tryd.tOk rfl rfl rfl ?_ | refine RunL.evV rfl rfl rfl ((OpV.eqDg (a := gx) (b := gy) bytesArr rfl rfl)) ?_ | refine RunL.nil ?_)
      exact RunE.retFn Tryd.func4 (.tmp rfl .nil) ⟨rfl, X⟩
end Go.Sg
namespace Go.Proofs.YtpmpefkcmokoiaaDoor
open Go.ChangeShapes Go.WideShapes Go.ChangeAt Go.RowKit Go.Sg
namespace deedsBound
theorem own : ownKnob Tryd.prog.godebug = none := by kernel_rfl
theorem laidOut : laidOutB Tryd.prog = true := by kernel_rfl
theorem door_met (os : Os) (args : Array Value) : laidMetH Tryd.prog Rows.deedsBoundRow.laid ((World.doorLaid Tryd.prog 19 os).forCall (fun _ _ => 0) ⟨#[], args, []⟩).memory :=
  laidMetH_of_parts3 (fuel := 8) (laidMet_of_run' 8 (by kernel_rfl) (by kernel_rfl)) (by kernel_rfl) (by kernel_rfl)
set_option maxRecDepth 100000 in
theorem lifted (os : Os) (started : os.Started) (H : Type) (enc : TypeId × Value → H) :
    ReturnsInHanded {} Tryd.checked os 4 .any (fun w args => (Rows.deedsBoundSpec.pre enc Tryd.prog Tryd.f4 [] false w args ∧ laidMetH Tryd.prog Rows.deedsBoundRow.laid w) ∧ sizedMet enc Tryd.prog Tryd.f4 (OpenSpec.ofChange Rows.deedsBoundSpec) false w args)
      (Rows.deedsBoundSpec.post enc Tryd.prog Tryd.f4 false true false false) := by
  refine returnsInHanded_of_change_and (C := Tryd.checked) (X := fun w _ => laidMetH Tryd.prog Rows.deedsBoundRow.laid w) (fun _ _ _ hh h => h.of_heap hh) own started (by kernel_rfl) Tryd.func4
    (ChangeSpec.witness_shaped (enc := enc) (C := Tryd.checked) (os := os) (X := fun w _ => laidMetH Tryd.prog Rows.deedsBoundRow.laid w) false (World.doorLaid Tryd.prog 19 os) #[.agg (Go.Dee.Dr.cells Go.Dee.zeroR).toArray, .agg (Go.Dee.Dr.cells Go.Dee.zeroR).toArray] 8 rfl (World.shaped_of_RefB (by kernel_rfl) (by kernel_rfl)) (by kernel_rfl) (by kernel_rfl) (by kernel_rfl) (door_met os _)) ?_
  intro W base args ds gs before hval0 hW _ _ hL _
  have hval : ∀ (j : Nat) t v, Tryd.f4.params[j]? = some t → args[j]? = some v → Value.okWide Tryd.prog W .any base t v := hval0
  have hW' := hW
  obtain ⟨p, q, hA0, hV, rfl, hfz, hnd⟩ := hW
  have hA : DataW.TrodAll enc Tryd.prog W 0 (fun _ => true) true Tryd.f4.params.toList args.toList ds p := hA0
  rw [Tryd.params4] at hA hval
  obtain ⟨v0, vs0, d0, ds0, p0, q0, hargs, rfl, rfl, h0, r0⟩ := trodAll_cons hA
  obtain ⟨v1, vs1, d1, ds1, p1, q1, rfl, rfl, rfl, h1, r1⟩ := trodAll_cons r0
  obtain ⟨rfl, rfl, rfl⟩ := trodAll_nil r1
  obtain rfl : args = #[v0, v1] := by cases args; simp_all
  obtain ⟨x0, rfl, m0⟩ := deed_open (hval 0 29 v0 rfl rfl) h0
  obtain ⟨x1, rfl, m1⟩ := deed_open (hval 1 29 v1 rfl rfl) h1
  have L0 := start_of_laid (by kernel_rfl) rfl (.head _) hL
  have L1 := numbers_of_laid (by kernel_rfl) rfl (.tail _ (.head _)) hL
  refine (Rets.calls (deedsBound_walk x0 x1 W m0 m1 L0 L1)).mono fun e W' he => ?_
  obtain ⟨_, rfl, rfl, hx⟩ := he
  exact ⟨_, rfl, law_post (t := 4) laidOut (by kernel_rfl) (by kernel_rfl) (by kernel_rfl) rfl (fun ds h => by
    rcases ds with _ | ⟨_, _ | ⟨_, _ | ⟨_, _⟩⟩⟩ <;> first | rfl | (exact absurd h (by decide)) | (simp at h)) hW' hx⟩

theorem holds : Rows.DeedsBoundSaid :=
  OpenClaim.holds_of_wide 4 Tryd.f4 rfl rfl rfl rfl rfl rfl rfl ⟨rfl, rfl, rfl, rfl, rfl⟩ rfl rfl rfl rfl rfl (by kernel_rfl) Tryd.func4 (by kernel_rfl)
    (of_decide_eq_true (by kernel_rfl)) (by unfold Func.isWrapper; first | (rw [if_pos (by decide +kernel)]; kernel_rfl) | (rw [if_neg (by decide +kernel)]; exact ⟨rfl, rfl⟩))
    (fun os started H enc _ => lifted os started H enc)
theorem proved : Rows.DeedsBoundCardSaid :=
  Claim7.holds_tied_plain_at .later [] [.data, .data] true (true, "b4bd5900933cd1c32d7ed6686b9c79531316ce8527525fd23780c777f75ab3e5") true
    holds (fun _ h => by cases h) (by kernel_rfl) (fun _ h => by cases h) deedsBound_row_tie rfl ⟨rfl, rfl⟩ (by kernel_rfl) rfl
    (fun f fn hf hfn => by
      obtain rfl : f = 4 := Option.some.inj ((show Tryd.prog.funcNamed Tryd.f4.name = some 4 by kernel_rfl).symm.trans hf) |>.symm
      obtain rfl : fn = Tryd.f4 := (Option.some.inj (Tryd.func4.symm.trans hfn)).symm
      exact ⟨by kernel_rfl, fun j t ht => by
        have hall : Tryd.f4.params.toList.all (fun t => !Tryd.prog.wantsStandIn t) = true := by kernel_rfl
        have hm : t ∈ Tryd.f4.params.toList := by
          obtain ⟨hj, rfl⟩ := Array.getElem?_eq_some_iff.1 ht
          simp
        have := List.all_eq_true.1 hall t hm
        exact (by simpa using this : Tryd.prog.wantsStandIn t = false)⟩)
    (by kernel_rfl)
#print axioms proved
end deedsBound
end Go.Proofs.YtpmpefkcmokoiaaDoor
