/- signatorylaw48.DevicesSpec returns true for every input; condition: the package variables digest.start and digest.numbers hold what the program lays in them (the card ties this). -/
import Derived.Test.YtamcgoplhnbmcaaDoorY10
import Derived.Test.YtamcgoplhnbmcaaDoorY05
import Derived.Test.YtamcgoplhnbmcaaDoorDev7
set_option linter.unusedSimpArgs false
set_option linter.unusedVariables false
set_option linter.unusedSectionVars false
namespace Go.Sg
open Go.Rn Go.Proofs Go.Dev Go.Rec Go.Best Go.Sha
attribute [local irreducible] Go.Rn.RetsX Go.Rn.RunLN Go.Rn.AsyN Go.Rn.RunL Go.Rn.RunE Go.Rn.Asy Go.Rn.OpV Go.Rn.OpE Go.Rn.ExecE
theorem rsame48_at (l : List Dev) (u v : Value) (w : World) (hu : LD w u l) (hv : LD w v l) (hl : l.length < 9223372036854775808) : Rets Tryd.prog 36 [u, v] w fun r w' => r = .bool true ∧ Ext w w' := by
  have h := rsame48_ok l l u v w hu hv hl hl
  rwa [decide_eq_true rfl] at h
set_option maxHeartbeats 2000000 in
theorem devicesSpec_walk (v : Value) (l : List Dev) (x : Dev) (W : World) (hlk : l.length < 9223372036854775808 ∧ ∀ x ∈ l, okD x) (hv : LD W v l) (hS0 : Row W 0 0 (vals init8.l)) (hkT : Row W 1 0 (vals kTab)) :
    Rets Tryd.prog 8 [v, .agg x.cells.toArray] W fun r w' => r = .bool true ∧ Ext W w' := by
  obtain ⟨hl, -⟩ := hlk
  have hc1 := fun w h => dadd_ok l x v w h hl
  have hc2 := fun w h => radd48_ok l x v w h hl
  have hc3 := fun w h => dcheck_ok l v w h hl
  have hc4 := fun w h => rcheck48_ok l v w h hl
  have hb : (addLD l x).length < 9223372036854775808 := by
    unfold addLD
    split
    · rename_i h
      have := (chkD_ok.1 (addED_ok.1 h).1).1
      rw [length_insS]; omega
    · simp
  generalize addED l x = e at hc1 hc2
  generalize addLD l x = al at hc1 hc2 hb
  generalize chkD l = ce at hc3 hc4
  refine RetsX.of (nt := 41) Tryd.func8 (by kernel_rfl) rfl rfl (by simp) (by simp only [argEnv]; rfl) ?_
  have X := ExtB.refl (fun _ => False) W
  repeat' (first | refine RunE.seq ?_ | refine RunE.region ?_)
  refine RunL.box rfl rfl rfl fun B3 w3_ a_ => ?_
  have Z3 : Blk w3_ B3 (x.cells) 57 := a_.at_
  have gB3 := a_.ge X
  replace X := X.trans a_.ext
  clear a_
  repeat' (first | with_reducible refine RunLN.boolF rfl ?_ | refine RunL.ev Tryd.tOk rfl rfl rfl ?_ | refine RunE.seq ?_ | refine RunE.region ?_ | refine RunL.nil ?_)
  refine RunL.call rfl rfl rfl (l48_sane_ok _ (hS0.up X) (hkT.up X)) ?_
  rintro _ _ ⟨rfl, Xa_⟩
  replace Z3 := Z3.up Xa_
  replace X := X.trans Xa_
  clear Xa_
  repeat' (first | with_reducible refine RunLN.boolF rfl ?_ | refine RunLN.any ?_ | refine RunL.ev Tryd.tOk rfl rfl rfl ?_ | refine RunE.condF rfl rfl ?_ | refine RunE.seq ?_ | refine RunE.region ?_ | refine RunL.nil ?_ | refine RunE.skip ?_)
  refine RunL.call rfl rfl rfl (few48_ok l v _ (hv.up X) hl) ?_
  rintro _ _ ⟨rfl, rfl⟩
  cases hf : fewD l with
  | false =>
    repeat' (first | with_reducible refine RunLN.boolT rfl ?_ | refine RunL.ev Tryd.tOk rfl rfl rfl ?_ | refine RunE.condT rfl rfl ?_ | refine RunE.seq ?_ | refine RunE.region ?_ | refine RunL.nil ?_)
    exact RunE.retFn Tryd.func8 (.tmp rfl .nil) ⟨rfl, X⟩
  | true =>
    repeat' (first | with_reducible refine RunLN.boolF rfl ?_ | refine RunLN.any ?_ | refine RunL.ev Tryd.tOk rfl rfl rfl ?_ | refine RunL.evV rfl rfl rfl (OpV.loadN Tryd.tOk rfl rfl rfl rfl (Blk.row Z3)) ?_ | refine RunE.condF rfl rfl ?_ | refine RunE.seq ?_ | refine RunE.region ?_ | refine RunL.nil ?_ | refine RunE.skip ?_)
    refine RunL.call rfl rfl rfl (hc1 _ (hv.up X)) ?_
    rintro _ w1 ⟨⟨u1, rfl, h1⟩, Xa⟩
    replace X := X.trans Xa
    replace Z3 := Z3.up Xa
    clear Xa
    repeat' (first | refine RunLN.int (by (first | exact wr_i64 (by omega) (by omega) | exact wm_i64 (by omega) | exact wq_i64 (by omega) (by omega) (by omega) | rfl)) ?_ | refine RunLN.any ?_ | refine RunL.ev Tryd.tOk rfl rfl rfl ?_ | refine RunL.evV rfl rfl rfl (OpV.loadN Tryd.tOk rfl rfl rfl rfl (Blk.row Z3)) ?_ | refine RunE.seq ?_ | refine RunE.region ?_ | refine RunL.nil ?_)
    refine RunL.call rfl rfl rfl (hc2 _ (hv.up X)) ?_
    rintro _ w2 ⟨⟨u2, rfl, h2⟩, Xa⟩
    replace X := X.trans Xa
    replace h1 := h1.up Xa
    clear Xa
    repeat' (first | refine RunLN.int (by (first | exact wr_i64 (by omega) (by omega) | exact wm_i64 (by omega) | exact wq_i64 (by omega) (by omega) (by omega) | rfl)) ?_ | refine RunLN.any ?_ | refine RunL.ev Tryd.tOk rfl rfl rfl ?_ | refine RunE.seq ?_ | refine RunE.region ?_ | refine RunL.nil ?_)
    refine RunL.call rfl rfl rfl (hc3 _ (hv.up X)) ?_
    rintro _ w3 ⟨rfl, Xa⟩
    replace X := X.trans Xa
    replace h1 := h1.up Xa
    replace h2 := h2.up Xa
    clear Xa
    repeat' (first | refine RunLN.any ?_ | refine RunL.ev Tryd.tOk rfl rfl rfl ?_)
    refine RunL.call rfl rfl rfl (hc4 _ (hv.up X)) ?_
    rintro _ w4 ⟨rfl, Xa⟩
    replace X := X.trans Xa
    replace h1 := h1.up Xa
    replace h2 := h2.up Xa
    clear Xa
    repeat' (first | with_reducible refine RunLN.boolT rfl ?_ | (with_reducible refine RunLN.eqT ?_ ?_; focus omega) | refine RunLN.any ?_ | refine RunL.ev Tryd.tOk rfl rfl rfl ?_)
    refine RunL.call rfl rfl rfl (rsame48_at al u1 u2 _ h1 h2 hb) ?_
    rintro _ w5 ⟨rfl, Xa⟩
    replace X := X.trans Xa
    repeat' (first | with_reducible refine RunLN.boolT rfl ?_ | (with_reducible refine RunLN.eqT ?_ ?_; focus omega) | refine RunLN.int (by (first | exact wr_i64 (by omega) (by omega) | exact wm_i64 (by omega) | exact wq_i64 (by omega) (by omega) (by omega) | rfl)) ?_ | refine RunL.ev Tryd.tOk rfl rfl rfl ?_ | refine RunL.nil ?_)
    exact RunE.retFn Tryd.func8 (.tmp rfl .nil) ⟨rfl, X⟩
end Go.Sg
namespace Go.Proofs.YtamcgoplhnbmcaaDoor
open Go.ChangeShapes Go.WideShapes Go.ChangeAt Go.RowKit Go.Sg
namespace devicesSpec
theorem own : ownKnob Tryd.prog.godebug = none := by kernel_rfl
theorem laidOut : laidOutB Tryd.prog = true := by kernel_rfl
theorem door_met (os : Os) (args : Array Value) : laidMetH Tryd.prog Rows.devicesSpecRow.laid ((World.doorLaid Tryd.prog 19 os).forCall (fun _ _ => 0) ⟨#[], args, []⟩).memory :=
  laidMetH_of_parts3 (fuel := 8) (laidMet_of_run' 8 (by kernel_rfl) (by kernel_rfl)) (by kernel_rfl) (by kernel_rfl)
set_option maxRecDepth 100000 in
theorem lifted (os : Os) (started : os.Started) (H : Type) (enc : TypeId × Value → H) :
    ReturnsInHanded {} Tryd.checked os 8 .any (fun w args => (Rows.devicesSpecSpec.pre enc Tryd.prog Tryd.f8 [] false w args ∧ laidMetH Tryd.prog Rows.devicesSpecRow.laid w) ∧ sizedMet enc Tryd.prog Tryd.f8 (OpenSpec.ofChange Rows.devicesSpecSpec) false w args)
      (Rows.devicesSpecSpec.post enc Tryd.prog Tryd.f8 false true false false) := by
  refine returnsInHanded_of_change_and (C := Tryd.checked) (X := fun w _ => laidMetH Tryd.prog Rows.devicesSpecRow.laid w) (fun _ _ _ hh h => h.of_heap hh) own started (by kernel_rfl) Tryd.func8
    (ChangeSpec.witness_shaped (enc := enc) (C := Tryd.checked) (os := os) (X := fun w _ => laidMetH Tryd.prog Rows.devicesSpecRow.laid w) false (World.doorLaid Tryd.prog 19 os) #[.slice none 0 0, .agg #[.int .i64 0, .int .i64 0, .int .i64 0, .int .i64 0, .int .i64 0, .bool false]] 8 rfl (World.shaped_of_RefB (by kernel_rfl) (by kernel_rfl)) (by kernel_rfl) (by kernel_rfl) (by kernel_rfl) (door_met os _)) ?_
  intro W base args ds gs before hval0 hW _ _ hL _
  have hval : ∀ (j : Nat) t v, Tryd.f8.params[j]? = some t → args[j]? = some v → Value.okWide Tryd.prog W .any base t v := hval0
  have hW' := hW
  obtain ⟨p, q, hA0, hV, rfl, hfz, hnd⟩ := hW
  have hA : DataW.TrodAll enc Tryd.prog W 0 (fun _ => true) true Tryd.f8.params.toList args.toList ds p := hA0
  rw [Tryd.params8] at hA hval
  obtain ⟨v0, vs0, d0, ds0, p0, q0, hargs, rfl, rfl, h0, r0⟩ := trodAll_cons hA
  obtain ⟨v1, vs1, d1, ds1, p1, q1, rfl, rfl, rfl, h1, r1⟩ := trodAll_cons r0
  obtain ⟨rfl, rfl, rfl⟩ := trodAll_nil r1
  obtain rfl : args = #[v0, v1] := by cases args; simp_all
  obtain ⟨l0, m0, s0⟩ := devs_open (hval 0 55 v0 rfl rfl) h0
  obtain ⟨x1, rfl⟩ := dev_open (hval 1 57 v1 rfl rfl) h1
  have L0 := start_of_laid (by kernel_rfl) rfl (.head _) hL
  have L1 := numbers_of_laid (by kernel_rfl) rfl (.tail _ (.head _)) hL
  refine (Rets.calls (devicesSpec_walk v0 l0 x1 W m0 s0 L0 L1)).mono fun e W' he => ?_
  obtain ⟨_, rfl, rfl, hx⟩ := he
  exact ⟨_, rfl, law_post (t := 4) laidOut (by kernel_rfl) (by kernel_rfl) (by kernel_rfl) rfl (fun ds h => by
    rcases ds with _ | ⟨_, _ | ⟨_, _ | ⟨_, _⟩⟩⟩ <;> first | rfl | (exact absurd h (by decide)) | (simp at h)) hW' hx⟩

theorem holds : Rows.DevicesSpecSaid :=
  OpenClaim.holds_of_wide 8 Tryd.f8 rfl rfl rfl rfl rfl rfl rfl ⟨rfl, rfl, rfl, rfl, rfl⟩ rfl rfl rfl rfl rfl (by kernel_rfl) Tryd.func8 (by kernel_rfl)
    (of_decide_eq_true (by kernel_rfl)) (by unfold Func.isWrapper; first | (rw [if_pos (by decide +kernel)]; kernel_rfl) | (rw [if_neg (by decide +kernel)]; exact ⟨rfl, rfl⟩))
    (fun os started H enc _ => lifted os started H enc)
theorem proved : Rows.DevicesSpecCardSaid :=
  Claim7.holds_tied_plain_at .later [] [.data, .data] true (true, "ae6f700ea2bd30feb0747e63825e7d966e37b71281da2088991cb0a2928709ec") true
    holds (fun _ h => by cases h) (by kernel_rfl) (fun _ h => by cases h) devicesSpec_row_tie rfl ⟨rfl, rfl⟩ (by kernel_rfl) rfl
    (fun f fn hf hfn => by
      obtain rfl : f = 8 := Option.some.inj ((show Tryd.prog.funcNamed Tryd.f8.name = some 8 by kernel_rfl).symm.trans hf) |>.symm
      obtain rfl : fn = Tryd.f8 := (Option.some.inj (Tryd.func8.symm.trans hfn)).symm
      exact ⟨by kernel_rfl, fun j t ht => by
        have hall : Tryd.f8.params.toList.all (fun t => !Tryd.prog.wantsStandIn t) = true := by kernel_rfl
        have hm : t ∈ Tryd.f8.params.toList := by
          obtain ⟨hj, rfl⟩ := Array.getElem?_eq_some_iff.1 ht
          simp
        have := List.all_eq_true.1 hall t hm
        exact (by simpa using this : Tryd.prog.wantsStandIn t = false)⟩)
    (by kernel_rfl)
#print axioms proved
end devicesSpec
end Go.Proofs.YtamcgoplhnbmcaaDoor
