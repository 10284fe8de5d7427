/- signatorylaw41.NoncesTakeSpec returns true for every input; condition: the package variables digest.start and digest.numbers hold what the program lays in them (the card ties this). -/
import Derived.Test.YtamcgoplhnbmcaaDoorN07
import Derived.Test.YtamcgoplhnbmcaaDoorN09
set_option linter.unusedSimpArgs false
set_option linter.unusedVariables false
set_option linter.unusedSectionVars false
namespace Go.Sg
open Go.Rn Go.Proofs Go.Non Go.Rec Go.RowKit Go.Dev Go.Sha
attribute [local irreducible] Go.Rn.RetsX Go.Rn.RunLN Go.Rn.AsyN Go.Rn.RunL Go.Rn.RunE Go.Rn.Asy Go.Rn.OpV Go.Rn.OpE Go.Rn.ExecE
set_option maxHeartbeats 4000000 in
theorem noncesTakeSpec_walk (b : Book) (v : Value) (no doc : Int) (_ : -9223372036854775808 ≤ no ∧ no < 9223372036854775808) (_ : -9223372036854775808 ≤ doc ∧ doc < 9223372036854775808) (W : World) (hl : b.left.length < 9223372036854775808) (hv : LI' W v b.left) (hS : Row W 0 0 (vals init8.l)) (hkT : Row W 1 0 (vals kTab)) :
    Rets Tryd.prog 4 [.agg (bkV b v).toArray, .int .i64 no, .int .i64 doc] W fun r w' => r = .bool true ∧ Ext W w' := by
  have c1 := fun w h h1 h2 => take_at (b := b) (no := no) (doc := doc) rfl rfl rfl rfl v w h hl h1 h2
  have c2 := fun w h => rtake41_ok b v no doc w h hl
  have c3 := fun w h => nburn_ok b v w h hl
  have c4 := fun w h => rburn41_ok b v w h hl
  have hbl : (takeB b no doc).left.length < 9223372036854775808 := by
    unfold takeB
    split
    · exact Nat.lt_of_le_of_lt (List.length_filter_le _ _) hl
    · decide
  have hbb : (burnB b).left = [] := by unfold burnB; split <;> rfl
  have hz : ∀ w, LI' w (.slice none 0 0) (burnB b).left := fun w => by rw [hbb]; exact IsSl.nil
  have hzl : (burnB b).left.length < 9223372036854775808 := by rw [hbb]; decide
  clear hbb
  generalize takeB b no doc = tb at *
  generalize takeD b no doc 0 = t0 at *
  generalize takeD b no doc 1 = t1 at *
  generalize takeE b no doc = te at *
  generalize burnB b = bb at *
  generalize burnE b = be at *
  refine RetsX.of (nt := 80) Tryd.func4 (by kernel_rfl) rfl rfl (by simp) (by simp only [argEnv]; rfl) ?_
  have X := ExtB.refl (fun _ => False) W
  repeat' (first | refine RunE.seq ?_ | refine RunE.region ?_)
  refine RunL.box rfl rfl rfl fun B3 w3_ a_ => ?_
  have Z3 : Blk w3_ B3 (bkV b v) 24 := a_.at_
  have gB3 := a_.ge X
  replace X := X.trans a_.ext
  clear a_
  repeat' (first | with_reducible refine RunLN.boolF rfl ?_ | refine RunL.ev Tryd.tOk rfl rfl rfl ?_ | refine RunE.seq ?_ | refine RunE.region ?_ | refine RunL.nil ?_)
  refine RunL.call rfl rfl rfl (l41_sane_ok _ (hS.up X) (hkT.up X)) ?_
  rintro _ _ ⟨rfl, Xa_⟩
  replace Z3 := Z3.up Xa_
  replace X := X.trans Xa_
  clear Xa_
  repeat' (first | with_reducible refine RunLN.boolF rfl ?_ | refine RunLN.any ?_ | refine RunL.ev Tryd.tOk rfl rfl rfl ?_ | refine RunL.evV rfl rfl rfl (OpV.loadN Tryd.tOk rfl rfl rfl rfl (Blk.row Z3)) ?_ | refine RunE.condF rfl rfl ?_ | refine RunE.seq ?_ | refine RunE.region ?_ | refine RunL.nil ?_ | refine RunE.skip ?_)
  refine RunL.call rfl rfl rfl (few41_ok b v 0 _ (hv.up X) hl) ?_
  rintro _ _ ⟨⟨q, rfl⟩, Xa_⟩
  replace Z3 := Z3.up Xa_
  replace X := X.trans Xa_
  clear Xa_
  cases q with
  | false =>
    repeat' (first | with_reducible refine RunLN.boolT rfl ?_ | refine RunL.ev Tryd.tOk rfl rfl rfl ?_ | refine RunE.condT rfl rfl ?_ | refine RunE.seq ?_ | refine RunE.region ?_ | refine RunL.nil ?_)
    exact RunE.retFn Tryd.func4 (.tmp rfl .nil) ⟨rfl, X⟩
  | true =>
    repeat' (first | with_reducible refine RunLN.boolF rfl ?_ | refine RunLN.int (by (first | exact wr_i64 (by omega) (by omega) | exact wm_i64 (by omega) | exact wq_i64 (by omega) (by omega) (by omega) | rfl)) ?_ | refine RunLN.any ?_ | refine RunL.ev Tryd.tOk rfl rfl rfl ?_ | refine RunL.evV rfl rfl rfl (OpV.loadN Tryd.tOk rfl rfl rfl rfl (Blk.row Z3)) ?_ | refine RunE.condF rfl rfl ?_ | refine RunE.seq ?_ | refine RunE.region ?_ | refine RunL.nil ?_ | refine RunE.skip ?_)
    refine RunL.call rfl rfl rfl (c1 _ (hv.up X) (hS.up X) (hkT.up X)) ?_
    rintro _ _ ⟨⟨d7, c7, rfl, h7⟩, Xa_⟩
    replace Z3 := Z3.up Xa_
    replace X := X.trans Xa_
    clear Xa_
    repeat' (first | refine RunLN.int (by (first | exact wr_i64 (by omega) (by omega) | exact wm_i64 (by omega) | exact wq_i64 (by omega) (by omega) (by omega) | rfl)) ?_ | refine RunLN.any ?_ | refine RunL.ev Tryd.tOk rfl rfl rfl ?_)
    refine RunL.alloc Tryd.tOk rfl rfl rfl fun B7 wa_ aa_ => ?_
    have gB7 := aa_.ge X
    refine RunL.store Tryd.tOk rfl rfl rfl rfl rfl (cs := bk0) aa_.at_ rfl rfl fun w7_ tb_ => ?_
    have Xa_ : Ext _ w7_ := aa_.ext.write tb_.ext (by intro i_ hi_ hlt_; have := aa_.eq; omega)
    have Z7 : Blk w7_ B7 (bkV tb (.slice d7 tb.left.length c7)) 24 := tb_.at_
    have n3_7 : B3 ≠ B7 := by have := Z3.lt; have := aa_.eq; omega
    have n7_3 : B7 ≠ B3 := Ne.symm n3_7
    replace Z3 := Z3.up Xa_
    replace h7 := h7.up Xa_
    replace X := X.trans Xa_
    clear Xa_ aa_ tb_
    repeat' (first | refine RunLN.int (by (first | exact wr_i64 (by omega) (by omega) | exact wm_i64 (by omega) | exact wq_i64 (by omega) (by omega) (by omega) | rfl)) ?_ | refine RunLN.any ?_ | refine RunL.ev Tryd.tOk rfl rfl rfl ?_ | refine RunL.evV rfl rfl rfl (OpV.loadN Tryd.tOk rfl rfl rfl rfl (Blk.row Z3)) ?_ | refine RunE.seq ?_ | refine RunE.region ?_ | refine RunL.nil ?_)
    refine RunL.call rfl rfl rfl (c2 _ (hv.up X)) ?_
    rintro _ _ ⟨⟨u11, rfl, h11⟩, Xa_⟩
    replace Z3 := Z3.up Xa_
    replace Z7 := Z7.up Xa_
    replace h7 := h7.up Xa_
    replace X := X.trans Xa_
    clear Xa_
    obtain ⟨d11, c11, rfl⟩ := isSl_slice h11
    repeat' (first | refine RunLN.int (by (first | exact wr_i64 (by omega) (by omega) | exact wm_i64 (by omega) | exact wq_i64 (by omega) (by omega) (by omega) | rfl)) ?_ | refine RunLN.any ?_ | refine RunL.ev Tryd.tOk rfl rfl rfl ?_)
    refine RunL.alloc Tryd.tOk rfl rfl rfl fun B11 wa_ aa_ => ?_
    have gB11 := aa_.ge X
    refine RunL.store Tryd.tOk rfl rfl rfl rfl rfl (cs := bk0) aa_.at_ rfl rfl fun w11_ tb_ => ?_
    have Xa_ : Ext _ w11_ := aa_.ext.write tb_.ext (by intro i_ hi_ hlt_; have := aa_.eq; omega)
    have Z11 : Blk w11_ B11 (bkV tb (.slice d11 tb.left.length c11)) 24 := tb_.at_
    have n3_11 : B3 ≠ B11 := by have := Z3.lt; have := aa_.eq; omega
    have n11_3 : B11 ≠ B3 := Ne.symm n3_11
    have n7_11 : B7 ≠ B11 := by have := Z7.lt; have := aa_.eq; omega
    have n11_7 : B11 ≠ B7 := Ne.symm n7_11
    replace Z3 := Z3.up Xa_
    replace Z7 := Z7.up Xa_
    replace h7 := h7.up Xa_
    replace h11 := h11.up Xa_
    replace X := X.trans Xa_
    clear Xa_ aa_ tb_
    repeat' (first | refine RunLN.int (by (first | exact wr_i64 (by omega) (by omega) | exact wm_i64 (by omega) | exact wq_i64 (by omega) (by omega) (by omega) | rfl)) ?_ | refine RunLN.any ?_ | refine RunL.ev Tryd.tOk rfl rfl rfl ?_ | refine RunL.evV rfl rfl rfl (OpV.loadN Tryd.tOk rfl rfl rfl rfl (Blk.row Z3)) ?_ | refine RunE.seq ?_ | refine RunE.region ?_ | refine RunL.nil ?_)
    refine RunL.call rfl rfl rfl (c3 _ (hv.up X)) ?_
    rintro _ _ ⟨rfl, Xa_⟩
    replace Z3 := Z3.up Xa_
    replace Z7 := Z7.up Xa_
    replace h7 := h7.up Xa_
    replace Z11 := Z11.up Xa_
    replace h11 := h11.up Xa_
    replace X := X.trans Xa_
    clear Xa_
    repeat' (first | refine RunLN.int (by (first | exact wr_i64 (by omega) (by omega) | exact wm_i64 (by omega) | exact wq_i64 (by omega) (by omega) (by omega) | rfl)) ?_ | refine RunLN.any ?_ | refine RunL.ev Tryd.tOk rfl rfl rfl ?_)
    refine RunL.alloc Tryd.tOk rfl rfl rfl fun B15 wa_ aa_ => ?_
    have gB15 := aa_.ge X
    refine RunL.store Tryd.tOk rfl rfl rfl rfl rfl (cs := bk0) aa_.at_ rfl rfl fun w15_ tb_ => ?_
    have Xa_ : Ext _ w15_ := aa_.ext.write tb_.ext (by intro i_ hi_ hlt_; have := aa_.eq; omega)
    have Z15 : Blk w15_ B15 (bkV bb (.slice none 0 0)) 24 := tb_.at_
    have n3_15 : B3 ≠ B15 := by have := Z3.lt; have := aa_.eq; omega
    have n15_3 : B15 ≠ B3 := Ne.symm n3_15
    have n7_15 : B7 ≠ B15 := by have := Z7.lt; have := aa_.eq; omega
    have n15_7 : B15 ≠ B7 := Ne.symm n7_15
    have n11_15 : B11 ≠ B15 := by have := Z11.lt; have := aa_.eq; omega
    have n15_11 : B15 ≠ B11 := Ne.symm n11_15
    replace Z3 := Z3.up Xa_
    replace Z7 := Z7.up Xa_
    replace h7 := h7.up Xa_
    replace Z11 := Z11.up Xa_
    replace h11 := h11.up Xa_
    replace X := X.trans Xa_
    clear Xa_ aa_ tb_
    repeat' (first | refine RunLN.int (by (first | exact wr_i64 (by omega) (by omega) | exact wm_i64 (by omega) | exact wq_i64 (by omega) (by omega) (by omega) | rfl)) ?_ | refine RunLN.any ?_ | refine RunL.ev Tryd.tOk rfl rfl rfl ?_ | refine RunL.evV rfl rfl rfl (OpV.loadN Tryd.tOk rfl rfl rfl rfl (Blk.row Z3)) ?_ | refine RunE.seq ?_ | refine RunE.region ?_ | refine RunL.nil ?_)
    refine RunL.call rfl rfl rfl (c4 _ (hv.up X)) ?_
    rintro _ _ ⟨rfl, Xa_⟩
    replace Z7 := Z7.up Xa_
    replace h7 := h7.up Xa_
    replace Z11 := Z11.up Xa_
    replace h11 := h11.up Xa_
    replace Z15 := Z15.up Xa_
    replace X := X.trans Xa_
    clear Xa_
    repeat' (first | refine RunLN.int (by (first | exact wr_i64 (by omega) (by omega) | exact wm_i64 (by omega) | exact wq_i64 (by omega) (by omega) (by omega) | rfl)) ?_ | refine RunLN.any ?_ | refine RunL.ev Tryd.tOk rfl rfl rfl ?_)
    refine RunL.alloc Tryd.tOk rfl rfl rfl fun B17 wa_ aa_ => ?_
    have gB17 := aa_.ge X
    refine RunL.store Tryd.tOk rfl rfl rfl rfl rfl (cs := bk0) aa_.at_ rfl rfl fun w17_ tb_ => ?_
    have Xa_ : Ext _ w17_ := aa_.ext.write tb_.ext (by intro i_ hi_ hlt_; have := aa_.eq; omega)
    have Z17 : Blk w17_ B17 (bkV bb (.slice none 0 0)) 24 := tb_.at_
    have n7_17 : B7 ≠ B17 := by have := Z7.lt; have := aa_.eq; omega
    have n17_7 : B17 ≠ B7 := Ne.symm n7_17
    have n11_17 : B11 ≠ B17 := by have := Z11.lt; have := aa_.eq; omega
    have n17_11 : B17 ≠ B11 := Ne.symm n11_17
    have n15_17 : B15 ≠ B17 := by have := Z15.lt; have := aa_.eq; omega
    have n17_15 : B17 ≠ B15 := Ne.symm n15_17
    replace Z7 := Z7.up Xa_
    replace h7 := h7.up Xa_
    replace Z11 := Z11.up Xa_
    replace h11 := h11.up Xa_
    replace Z15 := Z15.up Xa_
    replace X := X.trans Xa_
    clear Xa_ aa_ tb_
    repeat' (first | refine RunLN.int (by (first | exact wr_i64 (by omega) (by omega) | exact wm_i64 (by omega) | exact wq_i64 (by omega) (by omega) (by omega) | rfl)) ?_ | refine RunLN.any ?_ | refine RunL.ev Tryd.tOk rfl rfl rfl ?_ | refine RunL.evV rfl rfl rfl (OpV.loadN Tryd.tOk rfl rfl rfl rfl (Blk.row Z7)) ?_ | refine RunL.evV rfl rfl rfl (OpV.loadN Tryd.tOk rfl rfl rfl rfl (Blk.row Z11)) ?_ | refine RunE.seq ?_ | refine RunE.region ?_ | refine RunL.nil ?_)
    refine RunL.call rfl rfl rfl (rsame41_at tb _ _ _ h7 h11 hbl) ?_
    rintro _ _ ⟨rfl, Xa_⟩
    replace Z15 := Z15.up Xa_
    replace Z17 := Z17.up Xa_
    replace X := X.trans Xa_
    clear Xa_
    repeat' (first | with_reducible refine RunLN.boolT rfl ?_ | (with_reducible refine RunLN.eqT ?_ ?_; focus omega) | refine RunLN.int (by (first | exact wr_i64 (by omega) (by omega) | exact wm_i64 (by omega) | exact wq_i64 (by omega) (by omega) (by omega) | rfl)) ?_ | refine RunLN.any ?_ | refine RunL.ev Tryd.tOk rfl rfl rfl ?_ | refine RunL.evV rfl rfl rfl (OpV.loadN Tryd.tOk rfl rfl rfl rfl (Blk.row Z15)) ?_ | refine RunL.evV rfl rfl rfl (OpV.loadN Tryd.tOk rfl rfl rfl rfl (Blk.row Z17)) ?_)
    refine RunL.call rfl rfl rfl (rsame41_at bb (.slice none 0 0) (.slice none 0 0) _ (hz _) (hz _) hzl) ?_
    rintro _ _ ⟨rfl, Xa_⟩
    replace X := X.trans Xa_
    clear Xa_
    repeat' (first | with_reducible refine RunLN.boolT rfl ?_ | (with_reducible refine RunLN.eqT ?_ ?_; focus omega) | refine RunLN.int (by (first | exact wr_i64 (by omega) (by omega) | exact wm_i64 (by omega) | exact wq_i64 (by omega) (by omega) (by omega) | rfl)) ?_ | refine RunL.ev Tryd.tOk rfl rfl rfl ?_ | refine RunL.nil ?_)
    exact RunE.retFn Tryd.func4 (.tmp rfl .nil) ⟨rfl, X⟩
end Go.Sg
namespace Go.Proofs.YtamcgoplhnbmcaaDoor
open Go.ChangeShapes Go.WideShapes Go.ChangeAt Go.RowKit Go.Sg
namespace noncesTakeSpec
theorem own : ownKnob Tryd.prog.godebug = none := by kernel_rfl
theorem laidOut : laidOutB Tryd.prog = true := by kernel_rfl
theorem door_met (os : Os) (args : Array Value) : laidMetH Tryd.prog Rows.noncesTakeSpecRow.laid ((World.doorLaid Tryd.prog 19 os).forCall (fun _ _ => 0) ⟨#[], args, []⟩).memory :=
  laidMetH_of_parts3 (fuel := 8) (laidMet_of_run' 8 (by kernel_rfl) (by kernel_rfl)) (by kernel_rfl) (by kernel_rfl)
set_option maxRecDepth 100000 in
theorem lifted (os : Os) (started : os.Started) (H : Type) (enc : TypeId × Value → H) :
    ReturnsInHanded {} Tryd.checked os 4 .any (fun w args => (Rows.noncesTakeSpecSpec.pre enc Tryd.prog Tryd.f4 [] false w args ∧ laidMetH Tryd.prog Rows.noncesTakeSpecRow.laid w) ∧ sizedMet enc Tryd.prog Tryd.f4 (OpenSpec.ofChange Rows.noncesTakeSpecSpec) false w args)
      (Rows.noncesTakeSpecSpec.post enc Tryd.prog Tryd.f4 false true false false) := by
  refine returnsInHanded_of_change_and (C := Tryd.checked) (X := fun w _ => laidMetH Tryd.prog Rows.noncesTakeSpecRow.laid w) (fun _ _ _ hh h => h.of_heap hh) own started (by kernel_rfl) Tryd.func4
    (ChangeSpec.witness_shaped (enc := enc) (C := Tryd.checked) (os := os) (X := fun w _ => laidMetH Tryd.prog Rows.noncesTakeSpecRow.laid w) false (World.doorLaid Tryd.prog 19 os) #[.agg #[.int .i64 0, .int .i64 0, .int .i64 0, .slice none 0 0], .int .i64 0, .int .i64 0] 8 rfl (World.shaped_of_RefB (by kernel_rfl) (by kernel_rfl)) (by kernel_rfl) (by kernel_rfl) (by kernel_rfl) (door_met os _)) ?_
  intro W base args ds gs before hval0 hW _ _ hL _
  have hval : ∀ (j : Nat) t v, Tryd.f4.params[j]? = some t → args[j]? = some v → Value.okWide Tryd.prog W .any base t v := hval0
  have hW' := hW
  obtain ⟨p, q, hA0, hV, rfl, hfz, hnd⟩ := hW
  have hA : DataW.TrodAll enc Tryd.prog W 0 (fun _ => true) true Tryd.f4.params.toList args.toList ds p := hA0
  rw [Tryd.params4] at hA hval
  obtain ⟨v0, vs0, d0, ds0, p0, q0, hargs, rfl, rfl, h0, r0⟩ := trodAll_cons hA
  obtain ⟨v1, vs1, d1, ds1, p1, q1, rfl, rfl, rfl, h1, r1⟩ := trodAll_cons r0
  obtain ⟨v2, vs2, d2, ds2, p2, q2, rfl, rfl, rfl, h2, r2⟩ := trodAll_cons r1
  obtain ⟨rfl, rfl, rfl⟩ := trodAll_nil r2
  obtain rfl : args = #[v0, v1, v2] := by cases args; simp_all
  obtain ⟨b0, u0, rfl, m0, s0⟩ := book_open (hval 0 24 v0 rfl rfl) h0
  obtain ⟨a1, rfl, rfl, rfl, w1⟩ := open_int Tryd.underlying3 (hval 1 3 v1 rfl rfl) h1
  obtain ⟨a2, rfl, rfl, rfl, w2⟩ := open_int Tryd.underlying3 (hval 2 3 v2 rfl rfl) h2
  have L0 := start_of_laid (by kernel_rfl) rfl (.head _) hL
  have L1 := numbers_of_laid (by kernel_rfl) rfl (.tail _ (.head _)) hL
  refine (Rets.calls (noncesTakeSpec_walk b0 u0 a1 a2 (i64_of_wf w1) (i64_of_wf w2) W m0 s0 L0 L1)).mono fun e W' he => ?_
  obtain ⟨_, rfl, rfl, hx⟩ := he
  exact ⟨_, rfl, law_post (t := 4) laidOut (by kernel_rfl) (by kernel_rfl) (by kernel_rfl) rfl (fun ds h => by
    rcases ds with _ | ⟨_, _ | ⟨_, _ | ⟨_, _ | ⟨_, _⟩⟩⟩⟩ <;> first | rfl | (exact absurd h (by decide)) | (simp at h)) hW' hx⟩

theorem holds : Rows.NoncesTakeSpecSaid :=
  OpenClaim.holds_of_wide 4 Tryd.f4 rfl rfl rfl rfl rfl rfl rfl ⟨rfl, rfl, rfl, rfl, rfl⟩ rfl rfl rfl rfl rfl (by kernel_rfl) Tryd.func4 (by kernel_rfl)
    (of_decide_eq_true (by kernel_rfl)) (by unfold Func.isWrapper; first | (rw [if_pos (by decide +kernel)]; kernel_rfl) | (rw [if_neg (by decide +kernel)]; exact ⟨rfl, rfl⟩))
    (fun os started H enc _ => lifted os started H enc)
theorem proved : Rows.NoncesTakeSpecCardSaid :=
  Claim7.holds_tied_plain_at .later [] [.data, .data] true (true, "ae6f700ea2bd30feb0747e63825e7d966e37b71281da2088991cb0a2928709ec") true
    holds (fun _ h => by cases h) (by kernel_rfl) (fun _ h => by cases h) noncesTakeSpec_row_tie rfl ⟨rfl, rfl⟩ (by kernel_rfl) rfl
    (fun f fn hf hfn => by
      obtain rfl : f = 4 := Option.some.inj ((show Tryd.prog.funcNamed Tryd.f4.name = some 4 by kernel_rfl).symm.trans hf) |>.symm
      obtain rfl : fn = Tryd.f4 := (Option.some.inj (Tryd.func4.symm.trans hfn)).symm
      exact ⟨by kernel_rfl, fun j t ht => by
        have hall : Tryd.f4.params.toList.all (fun t => !Tryd.prog.wantsStandIn t) = true := by kernel_rfl
        have hm : t ∈ Tryd.f4.params.toList := by
          obtain ⟨hj, rfl⟩ := Array.getElem?_eq_some_iff.1 ht
          simp
        have := List.all_eq_true.1 hall t hm
        exact (by simpa using this : Tryd.prog.wantsStandIn t = false)⟩)
    (by kernel_rfl)
#print axioms proved
end noncesTakeSpec
end Go.Proofs.YtamcgoplhnbmcaaDoor
