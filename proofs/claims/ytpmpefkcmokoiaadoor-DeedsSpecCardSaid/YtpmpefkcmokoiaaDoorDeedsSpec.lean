/- signatorylaw49.DeedsSpec returns true for every input; condition: the package variables digest.start and digest.numbers hold what the program lays in them (the card ties this). -/
import Derived.Test.YtpmpefkcmokoiaaDoorDa09
set_option linter.unusedSimpArgs false
set_option linter.unusedVariables false
set_option linter.unusedSectionVars false
namespace Go.Sg
open Go.Rn Go.Proofs Go.Dee Go.Rec Go.RowKit Go.Sha Go.Cod Go.NT
attribute [local irreducible] powC makeE makeD idD idG idE Go.Rn.RetsX Go.Rn.RunLN Go.Rn.AsyN Go.Rn.RunL Go.Rn.RunE Go.Rn.Asy Go.Rn.OpV Go.Rn.OpE Go.Rn.ExecE
set_option maxRecDepth 4000 in
set_option maxHeartbeats 4000000 in
theorem deedsSpec_walk (x : Dr) (s : Int) (_ : -9223372036854775808 ≤ s ∧ s < 9223372036854775808) (W : World) (h : WfX W x) (hS : Row W 0 0 (vals init8.l)) (hkT : Row W 1 0 (vals kTab)) :
    Rets Tryd.prog 3 [.agg x.cells.toArray, .int .i64 s] W fun r w' => r = .bool true ∧ Ext W w' := by
  obtain ⟨hwf, hl, hl', hs, hb⟩ := h
  have c1 := fun w h h' => rfewD_ok x.d x.u x.v w h h'
  have c2 := fun w h h' h1 h2 => dId_ok x.d x.u x.v w h h' hl hl' h1 h2
  have c3 := fun w h h' => rId_ok x.d x.u x.v w h h' hl hl'
  have c4 := fun w h h' h1 h2 => dMake_ok s x.d.person x.d.no x.d.at_ x.d.prev x.d.seen x.d.data x.u x.v w (by assumption) h h' hl hl' h1 h2
  have c5 := fun w h h' => rMake_ok s x.d.person x.d.no x.d.at_ x.d.prev x.d.seen x.d.data x.u x.v w (by assumption) h h' hl hl'
  have hml : (makeD s (askD x.d.person x.d.no x.d.at_ x.d.prev x.d.seen x.d.data)).seen.length < 9223372036854775808 := by
    unfold makeD
    split
    · exact hl
    · decide
  generalize idG x.d = ig at c2 c3
  generalize idE x.d = ie at c2 c3
  generalize makeD s (askD x.d.person x.d.no x.d.at_ x.d.prev x.d.seen x.d.data) = md at c4 c5 hml
  generalize makeE s (askD x.d.person x.d.no x.d.at_ x.d.prev x.d.seen x.d.data) = me at c4 c5
  refine RetsX.of (nt := 80) Tryd.func3 (by kernel_rfl) rfl rfl (by simp) (by simp only [argEnv]; rfl) ?_
  have X := ExtB.refl (fun _ => False) W
  repeat' (first | refine RunE.seq ?_ | refine RunE.region ?_)
  refine RunL.box rfl rfl rfl fun B2 w2_ a_ => ?_
  have Z2 : Blk w2_ B2 (dCells x.d x.u x.v) 29 := a_.at_
  have gB2 := a_.ge X
  replace X := X.trans a_.ext
  clear a_
  repeat' (first | with_reducible refine RunLN.boolF rfl ?_ | refine RunL.ev Tryd.tOk rfl rfl rfl ?_ | refine RunE.seq ?_ | refine RunE.region ?_ | refine RunL.nil ?_)
  refine RunL.call rfl rfl rfl (l49_sane_ok _ (hS.up X) (hkT.up X)) ?_
  rintro _ _ ⟨rfl, Xa_⟩
  replace Z2 := Z2.up Xa_
  replace X := X.trans Xa_
  clear Xa_
  repeat' (first | with_reducible refine RunLN.boolF rfl ?_ | refine RunLN.any ?_ | refine RunL.ev Tryd.tOk rfl rfl rfl ?_ | refine RunL.evV rfl rfl rfl (OpV.loadN Tryd.tOk rfl rfl rfl rfl (Blk.row Z2)) ?_ | refine RunE.condF rfl rfl ?_ | refine RunE.seq ?_ | refine RunE.region ?_ | refine RunL.nil ?_ | refine RunE.skip ?_)
  refine RunL.call rfl rfl rfl (c1 _ (hs.up X) (hb.up X)) ?_
  rintro _ _ ⟨rfl, Xa_⟩
  replace Z2 := Z2.up Xa_
  replace X := X.trans Xa_
  clear Xa_
  cases fewD x.d with
  | false =>
    repeat' (first | with_reducible refine RunLN.boolT rfl ?_ | refine RunL.ev Tryd.tOk rfl rfl rfl ?_ | refine RunE.condT rfl rfl ?_ | refine RunE.seq ?_ | refine RunE.region ?_ | refine RunL.nil ?_)
    exact RunE.retFn Tryd.func3 (.tmp rfl .nil) ⟨rfl, X⟩
  | true =>
    repeat' (first | with_reducible refine RunLN.boolF rfl ?_ | refine RunLN.any ?_ | refine RunL.ev Tryd.tOk rfl rfl rfl ?_ | refine RunL.evV rfl rfl rfl (OpV.loadN Tryd.tOk rfl rfl rfl rfl (Blk.row Z2)) ?_ | refine RunE.condF rfl rfl ?_ | refine RunE.seq ?_ | refine RunE.region ?_ | refine RunL.nil ?_ | refine RunE.skip ?_)
    refine RunL.call rfl rfl rfl (c2 _ (hs.up X) (hb.up X) (hS.up X) (hkT.up X)) ?_
    rintro _ _ ⟨rfl, Xa_⟩
    replace Z2 := Z2.up Xa_
    replace X := X.trans Xa_
    clear Xa_
    repeat' (first | (with_reducible refine RunLN.chk ?_; refine RunLN.int (by (first | (refine wr_i64 ?_ ?_; omega; omega) | (refine wm_i64 ?_; omega) | (refine wq_i64 ?_ ?_ ?_; omega; omega; omega) | rfl)) ?_) | refine RunLN.any ?_ | refine RunL.ev Tryd.tOk rfl rfl rfl ?_)
    refine RunL.alloc Tryd.tOk rfl rfl rfl fun B5 wa_ aa_ => ?_
    have gB5 := aa_.ge X
    refine RunL.storeW (vs := digC ig) Tryd.tOk rfl rfl rfl rfl rfl aa_.at_ rfl rfl fun w5_ tb_ => ?_
    have Xa_ : Ext _ w5_ := aa_.ext.write tb_.ext (by intro i_ hi_ hlt_; have := aa_.eq; omega)
    have Z5 : Blk w5_ B5 (digC ig) 23 := tb_.at_
    have n2_5 : B2 ≠ B5 := by have := Z2.lt; have := aa_.eq; omega
    have n5_2 : B5 ≠ B2 := Ne.symm n2_5
    replace Z2 := Z2.up Xa_
    replace X := X.trans Xa_
    clear Xa_ aa_ tb_
    repeat' (first | (with_reducible refine RunLN.chk ?_; refine RunLN.int (by (first | (refine wr_i64 ?_ ?_; omega; omega) | (refine wm_i64 ?_; omega) | (refine wq_i64 ?_ ?_ ?_; omega; omega; omega) | rfl)) ?_) | refine RunLN.any ?_ | refine RunL.ev Tryd.tOk rfl rfl rfl ?_ | refine RunL.evV rfl rfl rfl (OpV.loadN Tryd.tOk rfl rfl rfl rfl (Blk.row Z2)) ?_ | refine RunE.seq ?_ | refine RunE.region ?_ | refine RunL.nil ?_)
    refine RunL.call rfl rfl rfl (c3 _ (hs.up X) (hb.up X)) ?_
    rintro _ _ ⟨rfl, Xa_⟩
    replace Z2 := Z2.up Xa_
    replace Z5 := Z5.up Xa_
    replace X := X.trans Xa_
    clear Xa_
    repeat' (first | (with_reducible refine RunLN.chk ?_; refine RunLN.int (by (first | (refine wr_i64 ?_ ?_; omega; omega) | (refine wm_i64 ?_; omega) | (refine wq_i64 ?_ ?_ ?_; omega; omega; omega) | rfl)) ?_) | refine RunLN.any ?_ | refine RunL.ev Tryd.tOk rfl rfl rfl ?_)
    refine RunL.alloc Tryd.tOk rfl rfl rfl fun B7 wa_ aa_ => ?_
    have gB7 := aa_.ge X
    refine RunL.storeW (vs := digC ig) Tryd.tOk rfl rfl rfl rfl rfl aa_.at_ rfl rfl fun w7_ tb_ => ?_
    have Xa_ : Ext _ w7_ := aa_.ext.write tb_.ext (by intro i_ hi_ hlt_; have := aa_.eq; omega)
    have Z7 : Blk w7_ B7 (digC ig) 23 := tb_.at_
    have n2_7 : B2 ≠ B7 := by have := Z2.lt; have := aa_.eq; omega
    have n7_2 : B7 ≠ B2 := Ne.symm n2_7
    have n5_7 : B5 ≠ B7 := by have := Z5.lt; have := aa_.eq; omega
    have n7_5 : B7 ≠ B5 := Ne.symm n5_7
    replace Z2 := Z2.up Xa_
    replace Z5 := Z5.up Xa_
    replace X := X.trans Xa_
    clear Xa_ aa_ tb_
    repeat' (first | (with_reducible refine RunLN.chk ?_; refine RunLN.int (by (first | (refine wr_i64 ?_ ?_; omega; omega) | (refine wm_i64 ?_; omega) | (refine wq_i64 ?_ ?_ ?_; omega; omega; omega) | rfl)) ?_) | refine RunLN.any ?_ | refine RunL.ev Tryd.tOk rfl rfl rfl ?_ | refine RunL.evV rfl rfl rfl (OpV.load1 Tryd.tOk rfl rfl rfl (Blk.cell Z2 rfl)) ?_ | refine RunL.evV rfl rfl rfl (OpV.loadN Tryd.tOk rfl rfl rfl rfl (row_prev (Blk.row Z2))) ?_ | refine RunE.seq ?_ | refine RunE.region ?_ | refine RunL.nil ?_)
    refine RunL.call rfl rfl rfl (c4 _ (hs.up X) (hb.up X) (hS.up X) (hkT.up X)) ?_
    rintro _ w9 ⟨⟨u9, v9, rfl, h9, k9⟩, Xa_⟩
    replace Z2 := Z2.up Xa_
    replace Z5 := Z5.up Xa_
    replace Z7 := Z7.up Xa_
    replace X := X.trans Xa_
    clear Xa_
    obtain ⟨ua, uc, rfl⟩ := isSl_slice h9
    obtain ⟨va, vc, rfl⟩ := isSl_slice k9
    repeat' (first | (with_reducible refine RunLN.chk ?_; refine RunLN.int (by (first | (refine wr_i64 ?_ ?_; omega; omega) | (refine wm_i64 ?_; omega) | (refine wq_i64 ?_ ?_ ?_; omega; omega; omega) | rfl)) ?_) | refine RunLN.any ?_ | refine RunL.ev Tryd.tOk rfl rfl rfl ?_)
    refine RunL.alloc Tryd.tOk rfl rfl rfl fun B9 wa_ aa_ => ?_
    have gB9 := aa_.ge X
    refine RunL.storeW (vs := dCells md (.slice ua md.seen.length uc) (.slice va md.data.length vc)) Tryd.tOk rfl rfl rfl rfl rfl aa_.at_ rfl rfl fun w9_ tb_ => ?_
    have Xa_ : Ext _ w9_ := aa_.ext.write tb_.ext (by intro i_ hi_ hlt_; have := aa_.eq; omega)
    have Z9 : Blk w9_ B9 (dCells md (.slice ua md.seen.length uc) (.slice va md.data.length vc)) 29 := tb_.at_
    have n2_9 : B2 ≠ B9 := by have := Z2.lt; have := aa_.eq; omega
    have n9_2 : B9 ≠ B2 := Ne.symm n2_9
    have n5_9 : B5 ≠ B9 := by have := Z5.lt; have := aa_.eq; omega
    have n9_5 : B9 ≠ B5 := Ne.symm n5_9
    have n7_9 : B7 ≠ B9 := by have := Z7.lt; have := aa_.eq; omega
    have n9_7 : B9 ≠ B7 := Ne.symm n7_9
    replace Z2 := Z2.up Xa_
    replace Z5 := Z5.up Xa_
    replace Z7 := Z7.up Xa_
    replace h9 := h9.up Xa_
    replace k9 := k9.up Xa_
    replace X := X.trans Xa_
    clear Xa_ aa_ tb_
    repeat' (first | (with_reducible refine RunLN.chk ?_; refine RunLN.int (by (first | (refine wr_i64 ?_ ?_; omega; omega) | (refine wm_i64 ?_; omega) | (refine wq_i64 ?_ ?_ ?_; omega; omega; omega) | rfl)) ?_) | refine RunLN.any ?_ | refine RunL.ev Tryd.tOk rfl rfl rfl ?_ | refine RunL.evV rfl rfl rfl (OpV.load1 Tryd.tOk rfl rfl rfl (Blk.cell Z2 rfl)) ?_ | refine RunL.evV rfl rfl rfl (OpV.loadN Tryd.tOk rfl rfl rfl rfl (row_prev (Blk.row Z2))) ?_ | refine RunE.seq ?_ | refine RunE.region ?_ | refine RunL.nil ?_)
    refine RunL.call rfl rfl rfl (c5 _ (hs.up X) (hb.up X)) ?_
    rintro _ w11 ⟨⟨u11, v11, rfl, h11, k11⟩, Xa_⟩
    replace Z5 := Z5.up Xa_
    replace Z7 := Z7.up Xa_
    replace Z9 := Z9.up Xa_
    replace h9 := h9.up Xa_
    replace k9 := k9.up Xa_
    replace X := X.trans Xa_
    clear Xa_ Z2
    obtain ⟨ub, ucb, rfl⟩ := isSl_slice h11
    obtain ⟨vb, vcb, rfl⟩ := isSl_slice k11
    repeat' (first | (with_reducible refine RunLN.chk ?_; refine RunLN.int (by (first | (refine wr_i64 ?_ ?_; omega; omega) | (refine wm_i64 ?_; omega) | (refine wq_i64 ?_ ?_ ?_; omega; omega; omega) | rfl)) ?_) | refine RunLN.any ?_ | refine RunL.ev Tryd.tOk rfl rfl rfl ?_)
    refine RunL.alloc Tryd.tOk rfl rfl rfl fun B11 wa_ aa_ => ?_
    have gB11 := aa_.ge X
    refine RunL.storeW (vs := dCells md (.slice ub md.seen.length ucb) (.slice vb md.data.length vcb)) Tryd.tOk rfl rfl rfl rfl rfl aa_.at_ rfl rfl fun w11_ tb_ => ?_
    have Xa_ : Ext _ w11_ := aa_.ext.write tb_.ext (by intro i_ hi_ hlt_; have := aa_.eq; omega)
    have Z11 : Blk w11_ B11 (dCells md (.slice ub md.seen.length ucb) (.slice vb md.data.length vcb)) 29 := tb_.at_
    have n5_11 : B5 ≠ B11 := by have := Z5.lt; have := aa_.eq; omega
    have n11_5 : B11 ≠ B5 := Ne.symm n5_11
    have n7_11 : B7 ≠ B11 := by have := Z7.lt; have := aa_.eq; omega
    have n11_7 : B11 ≠ B7 := Ne.symm n7_11
    have n9_11 : B9 ≠ B11 := by have := Z9.lt; have := aa_.eq; omega
    have n11_9 : B11 ≠ B9 := Ne.symm n9_11
    replace Z5 := Z5.up Xa_
    replace Z7 := Z7.up Xa_
    replace Z9 := Z9.up Xa_
    replace h9 := h9.up Xa_
    replace k9 := k9.up Xa_
    replace h11 := h11.up Xa_
    replace k11 := k11.up Xa_
    replace X := X.trans Xa_
    clear Xa_ aa_ tb_
    have hgg : (ig == ig) = true := beq_self_eq_true _
    have cs := fun u v u' v' w a b c d => rsameD_ok md md u v u' v' w a b c d hml hml
    rw [sameD_iff.2 rfl] at cs
    repeat' (first | with_reducible refine RunLN.boolT rfl ?_ | refine RunLN.boolT (by assumption) ?_ | with_reducible refine RunLN.eqT rfl ?_ | (with_reducible refine RunLN.chk ?_; refine RunLN.int (by (first | (refine wr_i64 ?_ ?_; omega; omega) | (refine wm_i64 ?_; omega) | (refine wq_i64 ?_ ?_ ?_; omega; omega; omega) | rfl)) ?_) | refine RunLN.any ?_ | refine RunL.ev Tryd.tOk rfl rfl rfl ?_ | refine RunL.evV rfl rfl rfl (OpV.loadN Tryd.tOk rfl rfl rfl rfl (Blk.row Z5)) ?_ | refine RunL.evV rfl rfl rfl (OpV.loadN Tryd.tOk rfl rfl rfl rfl (Blk.row Z7)) ?_ | refine RunL.evV rfl rfl rfl (OpV.loadN Tryd.tOk rfl rfl rfl rfl (Blk.row Z9)) ?_ | refine RunL.evV rfl rfl rfl (OpV.loadN Tryd.tOk rfl rfl rfl rfl (Blk.row Z11)) ?_ | refine RunL.evV rfl rfl rfl ((OpV.eqDg (a := ig) (b := ig) bytesArr rfl rfl)) ?_ | refine RunE.seq ?_ | refine RunE.region ?_ | refine RunL.nil ?_)
    refine RunL.call rfl rfl rfl (cs _ _ _ _ _ h9 k9 h11 k11) ?_
    rintro _ _ ⟨rfl, Xa_⟩
    replace X := X.trans Xa_
    clear Xa_
    repeat' (first | with_reducible refine RunLN.boolT rfl ?_ | with_reducible refine RunLN.eqT rfl ?_ | (with_reducible refine RunLN.chk ?_; refine RunLN.int (by (first | (refine wr_i64 ?_ ?_; omega; omega) | (refine wm_i64 ?_; omega) | (refine wq_i64 ?_ ?_ ?_; omega; omega; omega) | rfl)) ?_) | refine RunL.ev Tryd.tOk rfl rfl rfl ?_ | refine RunL.nil ?_)
    exact RunE.retFn Tryd.func3 (.tmp rfl .nil) ⟨rfl, X⟩
end Go.Sg
namespace Go.Proofs.YtpmpefkcmokoiaaDoor
open Go.ChangeShapes Go.WideShapes Go.ChangeAt Go.RowKit Go.Sg
namespace deedsSpec
theorem own : ownKnob Tryd.prog.godebug = none := by kernel_rfl
theorem laidOut : laidOutB Tryd.prog = true := by kernel_rfl
theorem door_met (os : Os) (args : Array Value) : laidMetH Tryd.prog Rows.deedsSpecRow.laid ((World.doorLaid Tryd.prog 19 os).forCall (fun _ _ => 0) ⟨#[], args, []⟩).memory :=
  laidMetH_of_parts3 (fuel := 8) (laidMet_of_run' 8 (by kernel_rfl) (by kernel_rfl)) (by kernel_rfl) (by kernel_rfl)
set_option maxRecDepth 100000 in
theorem lifted (os : Os) (started : os.Started) (H : Type) (enc : TypeId × Value → H) :
    ReturnsInHanded {} Tryd.checked os 3 .any (fun w args => (Rows.deedsSpecSpec.pre enc Tryd.prog Tryd.f3 [] false w args ∧ laidMetH Tryd.prog Rows.deedsSpecRow.laid w) ∧ sizedMet enc Tryd.prog Tryd.f3 (OpenSpec.ofChange Rows.deedsSpecSpec) false w args)
      (Rows.deedsSpecSpec.post enc Tryd.prog Tryd.f3 false true false false) := by
  refine returnsInHanded_of_change_and (C := Tryd.checked) (X := fun w _ => laidMetH Tryd.prog Rows.deedsSpecRow.laid w) (fun _ _ _ hh h => h.of_heap hh) own started (by kernel_rfl) Tryd.func3
    (ChangeSpec.witness_shaped (enc := enc) (C := Tryd.checked) (os := os) (X := fun w _ => laidMetH Tryd.prog Rows.deedsSpecRow.laid w) false (World.doorLaid Tryd.prog 19 os) #[.agg (Go.Dee.Dr.cells Go.Dee.zeroR).toArray, .int .i64 0] 8 rfl (World.shaped_of_RefB (by kernel_rfl) (by kernel_rfl)) (by kernel_rfl) (by kernel_rfl) (by kernel_rfl) (door_met os _)) ?_
  intro W base args ds gs before hval0 hW _ _ hL _
  have hval : ∀ (j : Nat) t v, Tryd.f3.params[j]? = some t → args[j]? = some v → Value.okWide Tryd.prog W .any base t v := hval0
  have hW' := hW
  obtain ⟨p, q, hA0, hV, rfl, hfz, hnd⟩ := hW
  have hA : DataW.TrodAll enc Tryd.prog W 0 (fun _ => true) true Tryd.f3.params.toList args.toList ds p := hA0
  rw [Tryd.params3] at hA hval
  obtain ⟨v0, vs0, d0, ds0, p0, q0, hargs, rfl, rfl, h0, r0⟩ := trodAll_cons hA
  obtain ⟨v1, vs1, d1, ds1, p1, q1, rfl, rfl, rfl, h1, r1⟩ := trodAll_cons r0
  obtain ⟨rfl, rfl, rfl⟩ := trodAll_nil r1
  obtain rfl : args = #[v0, v1] := by cases args; simp_all
  obtain ⟨x0, rfl, m0⟩ := deed_open (hval 0 29 v0 rfl rfl) h0
  obtain ⟨a1, rfl, rfl, rfl, w1⟩ := open_int Tryd.underlying3 (hval 1 3 v1 rfl rfl) h1
  have L0 := start_of_laid (by kernel_rfl) rfl (.head _) hL
  have L1 := numbers_of_laid (by kernel_rfl) rfl (.tail _ (.head _)) hL
  refine (Rets.calls (deedsSpec_walk x0 a1 (i64_of_wf w1) W m0 L0 L1)).mono fun e W' he => ?_
  obtain ⟨_, rfl, rfl, hx⟩ := he
  exact ⟨_, rfl, law_post (t := 4) laidOut (by kernel_rfl) (by kernel_rfl) (by kernel_rfl) rfl (fun ds h => by
    rcases ds with _ | ⟨_, _ | ⟨_, _ | ⟨_, _⟩⟩⟩ <;> first | rfl | (exact absurd h (by decide)) | (simp at h)) hW' hx⟩

theorem holds : Rows.DeedsSpecSaid :=
  OpenClaim.holds_of_wide 3 Tryd.f3 rfl rfl rfl rfl rfl rfl rfl ⟨rfl, rfl, rfl, rfl, rfl⟩ rfl rfl rfl rfl rfl (by kernel_rfl) Tryd.func3 (by kernel_rfl)
    (of_decide_eq_true (by kernel_rfl)) (by unfold Func.isWrapper; first | (rw [if_pos (by decide +kernel)]; kernel_rfl) | (rw [if_neg (by decide +kernel)]; exact ⟨rfl, rfl⟩))
    (fun os started H enc _ => lifted os started H enc)
theorem proved : Rows.DeedsSpecCardSaid :=
  Claim7.holds_tied_plain_at .later [] [.data, .data] true (true, "b4bd5900933cd1c32d7ed6686b9c79531316ce8527525fd23780c777f75ab3e5") true
    holds (fun _ h => by cases h) (by kernel_rfl) (fun _ h => by cases h) deedsSpec_row_tie rfl ⟨rfl, rfl⟩ (by kernel_rfl) rfl
    (fun f fn hf hfn => by
      obtain rfl : f = 3 := Option.some.inj ((show Tryd.prog.funcNamed Tryd.f3.name = some 3 by kernel_rfl).symm.trans hf) |>.symm
      obtain rfl : fn = Tryd.f3 := (Option.some.inj (Tryd.func3.symm.trans hfn)).symm
      exact ⟨by kernel_rfl, fun j t ht => by
        have hall : Tryd.f3.params.toList.all (fun t => !Tryd.prog.wantsStandIn t) = true := by kernel_rfl
        have hm : t ∈ Tryd.f3.params.toList := by
          obtain ⟨hj, rfl⟩ := Array.getElem?_eq_some_iff.1 ht
          simp
        have := List.all_eq_true.1 hall t hm
        exact (by simpa using this : Tryd.prog.wantsStandIn t = false)⟩)
    (by kernel_rfl)
#print axioms proved
end deedsSpec
end Go.Proofs.YtpmpefkcmokoiaaDoor
