/- signatorylaw41.NoncesSpec returns true for every input; condition: the package variables digest.start and digest.numbers hold what the program lays in them (the card ties this). -/
import Derived.Test.YtamcgoplhnbmcaaDoorN07
import Derived.Test.YtamcgoplhnbmcaaDoorN09
import Derived.Test.YtamcgoplhnbmcaaDoorNonH
set_option linter.unusedSimpArgs false
set_option linter.unusedVariables false
set_option linter.unusedSectionVars false
namespace Go.Sg
open Go.Rn Go.Proofs Go.Non Go.Rec Go.RowKit Go.Dev Go.Sha
attribute [local irreducible] Go.Rn.RetsX Go.Rn.RunLN Go.Rn.AsyN Go.Rn.RunL Go.Rn.RunE Go.Rn.Asy Go.Rn.OpV Go.Rn.OpE Go.Rn.ExecE
set_option maxHeartbeats 4000000 in
theorem noncesSpec_walk (k s : Int) (b : Book) (v : Value) (n : Int) (_ : -9223372036854775808 ≤ k ∧ k < 9223372036854775808) (_ : -9223372036854775808 ≤ s ∧ s < 9223372036854775808) (_ : -9223372036854775808 ≤ n ∧ n < 9223372036854775808) (W : World) (hl : b.left.length < 9223372036854775808) (hv : LI' W v b.left) (hS : Row W 0 0 (vals init8.l)) (hkT : Row W 1 0 (vals kTab)) :
    Rets Tryd.prog 3 [.int .i64 k, .int .i64 s, .agg (bkV b v).toArray, .int .i64 n] W fun r w' => r = .bool true ∧ Ext W w' := by
  have c1 := fun w => new_ok k s w
  have c2 := fun w => rnew41_ok k s w
  have c3 := fun w h h1 h2 => make_at (b := b) (n := n) ⟨rfl, rfl, rfl⟩ v w h hl h1 h2
  have c4 := fun w h => rmake41_ok b v n w h hl
  have hml := make_len b n
  have hmb := make_left b n
  have hnl := newB_left k s
  have hz : ∀ w, LI' w (.slice none 0 0) (newB k s).left := fun w => by rw [hnl]; exact IsSl.nil
  have hzl : (newB k s).left.length < 9223372036854775808 := by rw [hnl]; decide
  clear hnl
  generalize newB k s = nb at *
  generalize newE k s = ne at *
  generalize makeB b n = mb at *
  generalize makeE b n = me at *
  generalize makeL b n = ml at *
  refine RetsX.of (nt := 74) Tryd.func3 (by kernel_rfl) rfl rfl (by simp) (by simp only [argEnv]; rfl) ?_
  have X := ExtB.refl (fun _ => False) W
  repeat' (first | refine RunE.seq ?_ | refine RunE.region ?_)
  refine RunL.box rfl rfl rfl fun B6 w6_ a_ => ?_
  have Z6 : Blk w6_ B6 (bkV b v) 24 := a_.at_
  have gB6 := a_.ge X
  replace X := X.trans a_.ext
  clear a_
  repeat' (first | with_reducible refine RunLN.boolF rfl ?_ | refine RunL.ev Tryd.tOk rfl rfl rfl ?_ | refine RunE.seq ?_ | refine RunE.region ?_ | refine RunL.nil ?_)
  refine RunL.call rfl rfl rfl (l41_sane_ok _ (hS.up X) (hkT.up X)) ?_
  rintro _ _ ⟨rfl, Xa_⟩
  replace Z6 := Z6.up Xa_
  replace X := X.trans Xa_
  clear Xa_
  repeat' (first | with_reducible refine RunLN.boolF rfl ?_ | refine RunLN.int (by (first | exact wr_i64 (by omega) (by omega) | exact wm_i64 (by omega) | exact wq_i64 (by omega) (by omega) (by omega) | rfl)) ?_ | refine RunLN.any ?_ | refine RunL.ev Tryd.tOk rfl rfl rfl ?_ | refine RunL.evV rfl rfl rfl (OpV.loadN Tryd.tOk rfl rfl rfl rfl (Blk.row Z6)) ?_ | refine RunE.condF rfl rfl ?_ | refine RunE.seq ?_ | refine RunE.region ?_ | refine RunL.nil ?_ | refine RunE.skip ?_)
  refine RunL.call rfl rfl rfl (few41_ok b v n _ (hv.up X) hl) ?_
  rintro _ _ ⟨⟨q, rfl⟩, Xa_⟩
  replace Z6 := Z6.up Xa_
  replace X := X.trans Xa_
  clear Xa_
  cases q with
  | false =>
    repeat' (first | with_reducible refine RunLN.boolT rfl ?_ | refine RunL.ev Tryd.tOk rfl rfl rfl ?_ | refine RunE.condT rfl rfl ?_ | refine RunE.seq ?_ | refine RunE.region ?_ | refine RunL.nil ?_)
    exact RunE.retFn Tryd.func3 (.tmp rfl .nil) ⟨rfl, X⟩
  | true =>
    repeat' (first | with_reducible refine RunLN.boolF rfl ?_ | refine RunLN.int (by (first | exact wr_i64 (by omega) (by omega) | exact wm_i64 (by omega) | exact wq_i64 (by omega) (by omega) (by omega) | rfl)) ?_ | refine RunL.ev Tryd.tOk rfl rfl rfl ?_ | refine RunE.condF rfl rfl ?_ | refine RunE.seq ?_ | refine RunE.region ?_ | refine RunL.nil ?_ | refine RunE.skip ?_)
    refine RunL.call rfl rfl rfl (c1 _) ?_
    rintro _ _ ⟨rfl, Xa_⟩
    replace Z6 := Z6.up Xa_
    replace X := X.trans Xa_
    clear Xa_
    repeat' (first | refine RunLN.int (by (first | exact wr_i64 (by omega) (by omega) | exact wm_i64 (by omega) | exact wq_i64 (by omega) (by omega) (by omega) | rfl)) ?_ | refine RunLN.any ?_ | refine RunL.ev Tryd.tOk rfl rfl rfl ?_)
    refine RunL.alloc Tryd.tOk rfl rfl rfl fun B9 wa_ aa_ => ?_
    have gB9 := aa_.ge X
    refine RunL.store Tryd.tOk rfl rfl rfl rfl rfl (cs := bk0) aa_.at_ rfl rfl fun w9_ tb_ => ?_
    have Xa_ : Ext _ w9_ := aa_.ext.write tb_.ext (by intro i_ hi_ hlt_; have := aa_.eq; omega)
    have Z9 : Blk w9_ B9 (bkV nb (.slice none 0 0)) 24 := tb_.at_
    have n6_9 : B6 ≠ B9 := by have := Z6.lt; have := aa_.eq; omega
    have n9_6 : B9 ≠ B6 := Ne.symm n6_9
    replace Z6 := Z6.up Xa_
    replace X := X.trans Xa_
    clear Xa_ aa_ tb_
    repeat' (first | refine RunLN.int (by (first | exact wr_i64 (by omega) (by omega) | exact wm_i64 (by omega) | exact wq_i64 (by omega) (by omega) (by omega) | rfl)) ?_ | refine RunL.ev Tryd.tOk rfl rfl rfl ?_ | refine RunE.seq ?_ | refine RunE.region ?_ | refine RunL.nil ?_)
    refine RunL.call rfl rfl rfl (c2 _) ?_
    rintro _ _ ⟨rfl, Xa_⟩
    replace Z6 := Z6.up Xa_
    replace Z9 := Z9.up Xa_
    replace X := X.trans Xa_
    clear Xa_
    repeat' (first | refine RunLN.int (by (first | exact wr_i64 (by omega) (by omega) | exact wm_i64 (by omega) | exact wq_i64 (by omega) (by omega) (by omega) | rfl)) ?_ | refine RunLN.any ?_ | refine RunL.ev Tryd.tOk rfl rfl rfl ?_)
    refine RunL.alloc Tryd.tOk rfl rfl rfl fun B11 wa_ aa_ => ?_
    have gB11 := aa_.ge X
    refine RunL.store Tryd.tOk rfl rfl rfl rfl rfl (cs := bk0) aa_.at_ rfl rfl fun w11_ tb_ => ?_
    have Xa_ : Ext _ w11_ := aa_.ext.write tb_.ext (by intro i_ hi_ hlt_; have := aa_.eq; omega)
    have Z11 : Blk w11_ B11 (bkV nb (.slice none 0 0)) 24 := tb_.at_
    have n6_11 : B6 ≠ B11 := by have := Z6.lt; have := aa_.eq; omega
    have n11_6 : B11 ≠ B6 := Ne.symm n6_11
    have n9_11 : B9 ≠ B11 := by have := Z9.lt; have := aa_.eq; omega
    have n11_9 : B11 ≠ B9 := Ne.symm n9_11
    replace Z6 := Z6.up Xa_
    replace Z9 := Z9.up Xa_
    replace X := X.trans Xa_
    clear Xa_ aa_ tb_
    repeat' (first | refine RunLN.int (by (first | exact wr_i64 (by omega) (by omega) | exact wm_i64 (by omega) | exact wq_i64 (by omega) (by omega) (by omega) | rfl)) ?_ | refine RunLN.any ?_ | refine RunL.ev Tryd.tOk rfl rfl rfl ?_ | refine RunL.evV rfl rfl rfl (OpV.loadN Tryd.tOk rfl rfl rfl rfl (Blk.row Z6)) ?_ | refine RunE.seq ?_ | refine RunE.region ?_ | refine RunL.nil ?_)
    refine RunL.call rfl rfl rfl (c3 _ (hv.up X) (hS.up X) (hkT.up X)) ?_
    rintro _ _ ⟨⟨d13, c13, l13, rfl, h13, p13⟩, Xa_⟩
    replace Z6 := Z6.up Xa_
    replace Z9 := Z9.up Xa_
    replace Z11 := Z11.up Xa_
    replace X := X.trans Xa_
    clear Xa_
    repeat' (first | refine RunLN.int (by (first | exact wr_i64 (by omega) (by omega) | exact wm_i64 (by omega) | exact wq_i64 (by omega) (by omega) (by omega) | rfl)) ?_ | refine RunLN.any ?_ | refine RunL.ev Tryd.tOk rfl rfl rfl ?_)
    refine RunL.alloc Tryd.tOk rfl rfl rfl fun B13 wa_ aa_ => ?_
    have gB13 := aa_.ge X
    refine RunL.store Tryd.tOk rfl rfl rfl rfl rfl (cs := bk0) aa_.at_ rfl rfl fun w13_ tb_ => ?_
    have Xa_ : Ext _ w13_ := aa_.ext.write tb_.ext (by intro i_ hi_ hlt_; have := aa_.eq; omega)
    have Z13 : Blk w13_ B13 (bkV mb (.slice d13 mb.left.length c13)) 24 := tb_.at_
    have n6_13 : B6 ≠ B13 := by have := Z6.lt; have := aa_.eq; omega
    have n13_6 : B13 ≠ B6 := Ne.symm n6_13
    have n9_13 : B9 ≠ B13 := by have := Z9.lt; have := aa_.eq; omega
    have n13_9 : B13 ≠ B9 := Ne.symm n9_13
    have n11_13 : B11 ≠ B13 := by have := Z11.lt; have := aa_.eq; omega
    have n13_11 : B13 ≠ B11 := Ne.symm n11_13
    replace Z6 := Z6.up Xa_
    replace Z9 := Z9.up Xa_
    replace Z11 := Z11.up Xa_
    replace h13 := h13.up Xa_
    replace p13 := p13.up Xa_
    replace X := X.trans Xa_
    clear Xa_ aa_ tb_
    repeat' (first | refine RunLN.int (by (first | exact wr_i64 (by omega) (by omega) | exact wm_i64 (by omega) | exact wq_i64 (by omega) (by omega) (by omega) | rfl)) ?_ | refine RunLN.any ?_ | refine RunL.ev Tryd.tOk rfl rfl rfl ?_ | refine RunL.evV rfl rfl rfl (OpV.loadN Tryd.tOk rfl rfl rfl rfl (Blk.row Z6)) ?_ | refine RunE.seq ?_ | refine RunE.region ?_ | refine RunL.nil ?_)
    refine RunL.call rfl rfl rfl (c4 _ (hv.up X)) ?_
    rintro _ _ ⟨⟨u16, l16, rfl, h16, p16⟩, Xa_⟩
    replace Z9 := Z9.up Xa_
    replace Z11 := Z11.up Xa_
    replace Z13 := Z13.up Xa_
    replace h13 := h13.up Xa_
    replace p13 := p13.up Xa_
    replace X := X.trans Xa_
    clear Xa_
    obtain ⟨d16, c16, rfl⟩ := isSl_slice h16
    repeat' (first | refine RunLN.int (by (first | exact wr_i64 (by omega) (by omega) | exact wm_i64 (by omega) | exact wq_i64 (by omega) (by omega) (by omega) | rfl)) ?_ | refine RunLN.any ?_ | refine RunL.ev Tryd.tOk rfl rfl rfl ?_)
    refine RunL.alloc Tryd.tOk rfl rfl rfl fun B16 wa_ aa_ => ?_
    have gB16 := aa_.ge X
    refine RunL.store Tryd.tOk rfl rfl rfl rfl rfl (cs := bk0) aa_.at_ rfl rfl fun w16_ tb_ => ?_
    have Xa_ : Ext _ w16_ := aa_.ext.write tb_.ext (by intro i_ hi_ hlt_; have := aa_.eq; omega)
    have Z16 : Blk w16_ B16 (bkV mb (.slice d16 mb.left.length c16)) 24 := tb_.at_
    have n9_16 : B9 ≠ B16 := by have := Z9.lt; have := aa_.eq; omega
    have n16_9 : B16 ≠ B9 := Ne.symm n9_16
    have n11_16 : B11 ≠ B16 := by have := Z11.lt; have := aa_.eq; omega
    have n16_11 : B16 ≠ B11 := Ne.symm n11_16
    have n13_16 : B13 ≠ B16 := by have := Z13.lt; have := aa_.eq; omega
    have n16_13 : B16 ≠ B13 := Ne.symm n13_16
    replace Z9 := Z9.up Xa_
    replace Z11 := Z11.up Xa_
    replace Z13 := Z13.up Xa_
    replace h13 := h13.up Xa_
    replace p13 := p13.up Xa_
    replace h16 := h16.up Xa_
    replace p16 := p16.up Xa_
    replace X := X.trans Xa_
    clear Xa_ aa_ tb_
    repeat' (first | refine RunLN.int (by (first | exact wr_i64 (by omega) (by omega) | exact wm_i64 (by omega) | exact wq_i64 (by omega) (by omega) (by omega) | rfl)) ?_ | refine RunLN.any ?_ | refine RunL.ev Tryd.tOk rfl rfl rfl ?_ | refine RunL.evV rfl rfl rfl (OpV.loadN Tryd.tOk rfl rfl rfl rfl (Blk.row Z9)) ?_ | refine RunL.evV rfl rfl rfl (OpV.loadN Tryd.tOk rfl rfl rfl rfl (Blk.row Z11)) ?_ | refine RunE.seq ?_ | refine RunE.region ?_ | refine RunL.nil ?_)
    refine RunL.call rfl rfl rfl (rsame41_at nb (.slice none 0 0) (.slice none 0 0) _ (hz _) (hz _) hzl) ?_
    rintro _ _ ⟨rfl, Xa_⟩
    replace Z13 := Z13.up Xa_
    replace h13 := h13.up Xa_
    replace p13 := p13.up Xa_
    replace Z16 := Z16.up Xa_
    replace h16 := h16.up Xa_
    replace p16 := p16.up Xa_
    replace X := X.trans Xa_
    clear Xa_
    repeat' (first | with_reducible refine RunLN.boolT rfl ?_ | (with_reducible refine RunLN.eqT ?_ ?_; focus omega) | refine RunLN.int (by (first | exact wr_i64 (by omega) (by omega) | exact wm_i64 (by omega) | exact wq_i64 (by omega) (by omega) (by omega) | rfl)) ?_ | refine RunLN.any ?_ | refine RunL.ev Tryd.tOk rfl rfl rfl ?_ | refine RunL.evV rfl rfl rfl (OpV.loadN Tryd.tOk rfl rfl rfl rfl (Blk.row Z13)) ?_ | refine RunL.evV rfl rfl rfl (OpV.loadN Tryd.tOk rfl rfl rfl rfl (Blk.row Z16)) ?_)
    refine RunL.call rfl rfl rfl (rsame41_at mb _ _ _ h13 h16 hmb) ?_
    rintro _ _ ⟨rfl, Xa_⟩
    replace p13 := p13.up Xa_
    replace p16 := p16.up Xa_
    replace X := X.trans Xa_
    clear Xa_
    repeat' (first | with_reducible refine RunLN.boolT rfl ?_ | refine RunLN.any ?_ | refine RunL.ev Tryd.tOk rfl rfl rfl ?_)
    refine RunL.call rfl rfl rfl (rsamePairs_at ml _ _ _ p13 p16 hml) ?_
    rintro _ _ ⟨rfl, Xa_⟩
    replace X := X.trans Xa_
    clear Xa_
    repeat' (first | with_reducible refine RunLN.boolT rfl ?_ | (with_reducible refine RunLN.eqT ?_ ?_; focus omega) | refine RunLN.int (by (first | exact wr_i64 (by omega) (by omega) | exact wm_i64 (by omega) | exact wq_i64 (by omega) (by omega) (by omega) | rfl)) ?_ | refine RunL.ev Tryd.tOk rfl rfl rfl ?_ | refine RunL.nil ?_)
    exact RunE.retFn Tryd.func3 (.tmp rfl .nil) ⟨rfl, X⟩
end Go.Sg
namespace Go.Proofs.YtamcgoplhnbmcaaDoor
open Go.ChangeShapes Go.WideShapes Go.ChangeAt Go.RowKit Go.Sg
namespace noncesSpec
theorem own : ownKnob Tryd.prog.godebug = none := by kernel_rfl
theorem laidOut : laidOutB Tryd.prog = true := by kernel_rfl
theorem door_met (os : Os) (args : Array Value) : laidMetH Tryd.prog Rows.noncesSpecRow.laid ((World.doorLaid Tryd.prog 19 os).forCall (fun _ _ => 0) ⟨#[], args, []⟩).memory :=
  laidMetH_of_parts3 (fuel := 8) (laidMet_of_run' 8 (by kernel_rfl) (by kernel_rfl)) (by kernel_rfl) (by kernel_rfl)
set_option maxRecDepth 100000 in
theorem lifted (os : Os) (started : os.Started) (H : Type) (enc : TypeId × Value → H) :
    ReturnsInHanded {} Tryd.checked os 3 .any (fun w args => (Rows.noncesSpecSpec.pre enc Tryd.prog Tryd.f3 [] false w args ∧ laidMetH Tryd.prog Rows.noncesSpecRow.laid w) ∧ sizedMet enc Tryd.prog Tryd.f3 (OpenSpec.ofChange Rows.noncesSpecSpec) false w args)
      (Rows.noncesSpecSpec.post enc Tryd.prog Tryd.f3 false true false false) := by
  refine returnsInHanded_of_change_and (C := Tryd.checked) (X := fun w _ => laidMetH Tryd.prog Rows.noncesSpecRow.laid w) (fun _ _ _ hh h => h.of_heap hh) own started (by kernel_rfl) Tryd.func3
    (ChangeSpec.witness_shaped (enc := enc) (C := Tryd.checked) (os := os) (X := fun w _ => laidMetH Tryd.prog Rows.noncesSpecRow.laid w) false (World.doorLaid Tryd.prog 19 os) #[.int .i64 0, .int .i64 0, .agg #[.int .i64 0, .int .i64 0, .int .i64 0, .slice none 0 0], .int .i64 0] 8 rfl (World.shaped_of_RefB (by kernel_rfl) (by kernel_rfl)) (by kernel_rfl) (by kernel_rfl) (by kernel_rfl) (door_met os _)) ?_
  intro W base args ds gs before hval0 hW _ _ hL _
  have hval : ∀ (j : Nat) t v, Tryd.f3.params[j]? = some t → args[j]? = some v → Value.okWide Tryd.prog W .any base t v := hval0
  have hW' := hW
  obtain ⟨p, q, hA0, hV, rfl, hfz, hnd⟩ := hW
  have hA : DataW.TrodAll enc Tryd.prog W 0 (fun _ => true) true Tryd.f3.params.toList args.toList ds p := hA0
  rw [Tryd.params3] at hA hval
  obtain ⟨v0, vs0, d0, ds0, p0, q0, hargs, rfl, rfl, h0, r0⟩ := trodAll_cons hA
  obtain ⟨v1, vs1, d1, ds1, p1, q1, rfl, rfl, rfl, h1, r1⟩ := trodAll_cons r0
  obtain ⟨v2, vs2, d2, ds2, p2, q2, rfl, rfl, rfl, h2, r2⟩ := trodAll_cons r1
  obtain ⟨v3, vs3, d3, ds3, p3, q3, rfl, rfl, rfl, h3, r3⟩ := trodAll_cons r2
  obtain ⟨rfl, rfl, rfl⟩ := trodAll_nil r3
  obtain rfl : args = #[v0, v1, v2, v3] := by cases args; simp_all
  obtain ⟨a0, rfl, rfl, rfl, w0⟩ := open_int Tryd.underlying3 (hval 0 3 v0 rfl rfl) h0
  obtain ⟨a1, rfl, rfl, rfl, w1⟩ := open_int Tryd.underlying3 (hval 1 3 v1 rfl rfl) h1
  obtain ⟨b2, u2, rfl, m2, s2⟩ := book_open (hval 2 24 v2 rfl rfl) h2
  obtain ⟨a3, rfl, rfl, rfl, w3⟩ := open_int Tryd.underlying3 (hval 3 3 v3 rfl rfl) h3
  have L0 := start_of_laid (by kernel_rfl) rfl (.head _) hL
  have L1 := numbers_of_laid (by kernel_rfl) rfl (.tail _ (.head _)) hL
  refine (Rets.calls (noncesSpec_walk a0 a1 b2 u2 a3 (i64_of_wf w0) (i64_of_wf w1) (i64_of_wf w3) W m2 s2 L0 L1)).mono fun e W' he => ?_
  obtain ⟨_, rfl, rfl, hx⟩ := he
  exact ⟨_, rfl, law_post (t := 4) laidOut (by kernel_rfl) (by kernel_rfl) (by kernel_rfl) rfl (fun ds h => by
    rcases ds with _ | ⟨_, _ | ⟨_, _ | ⟨_, _ | ⟨_, _ | ⟨_, _⟩⟩⟩⟩⟩ <;> first | rfl | (exact absurd h (by decide)) | (simp at h)) hW' hx⟩

theorem holds : Rows.NoncesSpecSaid :=
  OpenClaim.holds_of_wide 3 Tryd.f3 rfl rfl rfl rfl rfl rfl rfl ⟨rfl, rfl, rfl, rfl, rfl⟩ rfl rfl rfl rfl rfl (by kernel_rfl) Tryd.func3 (by kernel_rfl)
    (of_decide_eq_true (by kernel_rfl)) (by unfold Func.isWrapper; first | (rw [if_pos (by decide +kernel)]; kernel_rfl) | (rw [if_neg (by decide +kernel)]; exact ⟨rfl, rfl⟩))
    (fun os started H enc _ => lifted os started H enc)
theorem proved : Rows.NoncesSpecCardSaid :=
  Claim7.holds_tied_plain_at .later [] [.data, .data] true (true, "ae6f700ea2bd30feb0747e63825e7d966e37b71281da2088991cb0a2928709ec") true
    holds (fun _ h => by cases h) (by kernel_rfl) (fun _ h => by cases h) noncesSpec_row_tie rfl ⟨rfl, rfl⟩ (by kernel_rfl) rfl
    (fun f fn hf hfn => by
      obtain rfl : f = 3 := Option.some.inj ((show Tryd.prog.funcNamed Tryd.f3.name = some 3 by kernel_rfl).symm.trans hf) |>.symm
      obtain rfl : fn = Tryd.f3 := (Option.some.inj (Tryd.func3.symm.trans hfn)).symm
      exact ⟨by kernel_rfl, fun j t ht => by
        have hall : Tryd.f3.params.toList.all (fun t => !Tryd.prog.wantsStandIn t) = true := by kernel_rfl
        have hm : t ∈ Tryd.f3.params.toList := by
          obtain ⟨hj, rfl⟩ := Array.getElem?_eq_some_iff.1 ht
          simp
        have := List.all_eq_true.1 hall t hm
        exact (by simpa using this : Tryd.prog.wantsStandIn t = false)⟩)
    (by kernel_rfl)
#print axioms proved
end noncesSpec
end Go.Proofs.YtamcgoplhnbmcaaDoor
