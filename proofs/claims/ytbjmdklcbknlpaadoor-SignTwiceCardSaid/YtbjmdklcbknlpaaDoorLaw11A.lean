/- signatorylaw11: point, sane. -/
import Derived.Test.YtbjmdklcbknlpaaDoorConst
namespace Go.Sg
open Go.Rn Go.NT Go.Sha Go.Cod Go.Proofs
attribute [local irreducible] Go.Rn.RunL Go.Rn.RunE Go.Rn.Asy Go.Rn.OpV Go.Rn.OpE Go.Rn.ExecE

theorem powC_congr (a : Int) {m n : Int} (h : m % 1073741789 = n % 1073741789) : powC a m = powC a n := by unfold powC; rw [h]
theorem sigE_bd (x : Int) (b : List UInt8) : 0 ≤ sigE x b ∧ sigE x b < 1073741789 := by
  unfold sigE; split
  · exact hashS_bd _ _
  · decide
theorem sigS_bd (x : Int) (b : List UInt8) : 0 ≤ sigS x b ∧ sigS x b < 1073741789 := by
  unfold sigS; split
  · exact ⟨Int.emod_nonneg _ (by decide), Int.emod_lt_of_pos _ (by decide)⟩
  · decide
theorem ver_sign {x : Int} (b : List UInt8) (hx : inQ x = true) : verS (powC 4 x) b (sigE x b) (sigS x b) = true := by
  have hv := powC_valid v4 x
  have hE := sigE_bd x b
  have hS := sigS_bd x b
  have hok : sigOk (powC 4 x) (sigE x b) (sigS x b) = true := by unfold sigOk; rw [hv, decide_eq_true ⟨hE.1, hE.2, hS.1, hS.2⟩]; rfl
  have hEe : sigE x b = chal (powC 4 (noncN x b)) (powC 4 x) b := by unfold sigE; rw [hx, if_pos rfl]
  have hSe : sigS x b = (noncN x b + sigE x b * x % 1073741789) % 1073741789 := by unfold sigS; rw [hx, if_pos rfl]
  have hpt : mulC (powC 4 (sigS x b)) (powC (powC 4 x) (-sigE x b)) = powC 4 (noncN x b) := by
    rw [powC_mul v4, powC_add v4]
    refine powC_congr 4 ?_
    rw [hSe, Int.mul_neg, Int.mul_comm x]
    generalize sigE x b * x = y
    omega
  unfold verS
  rw [hok, Bool.true_and, hpt, ← hEe]
  exact beq_self_eq_true _
theorem ver_key {key : Int} (b : List UInt8) (E S : Int) (h : validS key = false) : verS key b E S = false := by
  unfold verS sigOk; rw [h, Bool.and_false]; rfl
theorem ver_big (key : Int) (b : List UInt8) (E S : Int) (h : 1073741789 ≤ S) : verS key b E S = false := by
  unfold verS sigOk; rw [decide_eq_false (by omega)]; rfl

theorem l11_point_ok (key E S : Int) (w : World) (hE : -9223372036854775807 ≤ E ∧ E < 9223372036854775808) (hk : validS key = true) :
    Rets Tryd.prog 24 [.int .i64 key, .agg #[.int .i64 E, .int .i64 S]] w fun v w' => v = .tuple #[.int .i64 (mulC (powC 4 S) (powC key (-E))), .bool true] ∧ Ext w w' := by
  have hp1 := fun w => pow_ok 4 S w
  have hp2 := fun w => pow_ok key (-E) w
  have hp3 := fun w => mul_ok (powC 4 S) (powC key (-E)) w
  rw [powC_valid v4, powC_valid hk] at hp3
  rw [v4] at hp1
  rw [hk] at hp2
  generalize mulC (powC 4 S) (powC key (-E)) = R at *
  generalize powC 4 S = p1 at *
  generalize powC key (-E) = p2 at *
  refine RetsX.of (nt := 41) Tryd.func24 (by kernel_rfl) rfl rfl (by simp) (by simp only [argEnv]; rfl) ?_
  repeat (first | refine RunL.pureI Tryd.tOk rfl rfl rfl (by (first | exact wr_i64 (by omega) (by omega) | exact wm_i64 (by omega) | exact wq_i64 (by omega) (by omega) (by omega) | rfl)) ?_ | refine RunL.pure Tryd.tOk rfl rfl rfl ?_ | refine RunL.unwantedD rfl rfl ?_ | refine RunE.seq ?_ | refine RunE.region ?_ | refine RunL.nil ?_ | refine RunE.block ?_ | refine RunE.inBlock ?_ | refine RunE.skip ?_ | refine RunE.exit rfl ?_ | refine RunE.scope ?_ | refine RunE.inScope ?_ | refine RunE.label ?_)
  refine RunL.box rfl rfl rfl fun B3 w1 a1 => ?_
  have Z1 : Blk w1 B3 [.int .i64 E, .int .i64 S] 34 := a1.at_
  have X1 := a1.ext
  clear a1
  repeat (first | refine RunL.pureI Tryd.tOk rfl rfl rfl (by (first | exact wr_i64 (by omega) (by omega) | exact wm_i64 (by omega) | exact wq_i64 (by omega) (by omega) (by omega) | rfl)) ?_ | refine RunL.pure Tryd.tOk rfl rfl rfl ?_ | refine RunL.unwantedD rfl rfl ?_ | refine RunL.val rfl rfl rfl (OpV.indexAK Tryd.tOk rfl rfl rfl rfl) ?_ | refine RunL.val rfl rfl rfl (OpV.indexSK Tryd.tOk rfl rfl rfl rfl) ?_ | refine RunL.val rfl rfl rfl (OpV.load1 Tryd.tOk rfl rfl rfl (Blk.cell Z1 rfl)) ?_ | refine RunE.seq ?_ | refine RunE.region ?_ | refine RunL.nil ?_ | refine RunE.block ?_ | refine RunE.inBlock ?_ | refine RunE.skip ?_ | refine RunE.exit rfl ?_ | refine RunE.scope ?_ | refine RunE.inScope ?_ | refine RunE.label ?_)
  refine RunL.call rfl rfl rfl (hp1 _) ?_
  rintro _ w2 ⟨rfl, X2⟩
  have Z1' := Z1.ext X2 id
  repeat (first | refine RunL.pureI Tryd.tOk rfl rfl rfl (by (first | exact wr_i64 (by omega) (by omega) | exact wm_i64 (by omega) | exact wq_i64 (by omega) (by omega) (by omega) | rfl)) ?_ | refine RunL.pure Tryd.tOk rfl rfl rfl ?_ | refine RunL.unwantedD rfl rfl ?_ | refine RunL.val rfl rfl rfl (OpV.indexAK Tryd.tOk rfl rfl rfl rfl) ?_ | refine RunL.val rfl rfl rfl (OpV.indexSK Tryd.tOk rfl rfl rfl rfl) ?_ | refine RunL.val rfl rfl rfl (OpV.load1 Tryd.tOk rfl rfl rfl (Blk.cell Z1' rfl)) ?_ | refine RunE.seq ?_ | refine RunE.region ?_ | refine RunL.nil ?_ | refine RunE.block ?_ | refine RunE.inBlock ?_ | refine RunE.skip ?_ | refine RunE.exit rfl ?_ | refine RunE.scope ?_ | refine RunE.inScope ?_ | refine RunE.label ?_)
  refine RunL.call rfl rfl rfl (hp2 _) ?_
  rintro _ w3 ⟨rfl, X3⟩
  repeat (first | refine RunL.pureI Tryd.tOk rfl rfl rfl (by (first | exact wr_i64 (by omega) (by omega) | exact wm_i64 (by omega) | exact wq_i64 (by omega) (by omega) (by omega) | rfl)) ?_ | refine RunL.pure Tryd.tOk rfl rfl rfl ?_ | refine RunL.unwantedD rfl rfl ?_ | refine RunE.seq ?_ | refine RunE.region ?_ | refine RunL.nil ?_ | refine RunE.block ?_ | refine RunE.inBlock ?_ | refine RunE.skip ?_ | refine RunE.exit rfl ?_ | refine RunE.scope ?_ | refine RunE.inScope ?_ | refine RunE.label ?_)
  refine RunE.condF rfl rfl ?_
  repeat (first | refine RunL.pureI Tryd.tOk rfl rfl rfl (by (first | exact wr_i64 (by omega) (by omega) | exact wm_i64 (by omega) | exact wq_i64 (by omega) (by omega) (by omega) | rfl)) ?_ | refine RunL.pure Tryd.tOk rfl rfl rfl ?_ | refine RunL.unwantedD rfl rfl ?_ | refine RunE.seq ?_ | refine RunE.region ?_ | refine RunL.nil ?_ | refine RunE.block ?_ | refine RunE.inBlock ?_ | refine RunE.skip ?_ | refine RunE.exit rfl ?_ | refine RunE.scope ?_ | refine RunE.inScope ?_ | refine RunE.label ?_)
  refine RunL.call rfl rfl rfl (hp3 _) ?_
  rintro _ _ ⟨rfl, rfl⟩
  repeat (first | refine RunL.pureI Tryd.tOk rfl rfl rfl (by (first | exact wr_i64 (by omega) (by omega) | exact wm_i64 (by omega) | exact wq_i64 (by omega) (by omega) (by omega) | rfl)) ?_ | refine RunL.pure Tryd.tOk rfl rfl rfl ?_ | refine RunL.unwantedD rfl rfl ?_ | refine RunE.seq ?_ | refine RunE.region ?_ | refine RunL.nil ?_ | refine RunE.block ?_ | refine RunE.inBlock ?_ | refine RunE.skip ?_ | refine RunE.exit rfl ?_ | refine RunE.scope ?_ | refine RunE.inScope ?_ | refine RunE.label ?_)
  exact RunE.retFn Tryd.func24 (.tmp rfl (.tmp rfl .nil)) ⟨rfl, (X1.trans X2).trans X3⟩

def letB : List UInt8 := [108, 101, 116, 116, 101, 114]
theorem sig0 : sigE 0 letB = 0 ∧ sigS 0 letB = 0 ∧ sigR 0 = 110 := by
  have h : inQ 0 = false := by decide
  unfold sigE sigS sigR; rw [h]; exact ⟨rfl, rfl, rfl⟩
theorem sigQ : sigE 1073741789 letB = 0 ∧ sigS 1073741789 letB = 0 ∧ sigR 1073741789 = 110 := by
  have h : inQ 1073741789 = false := by decide
  unfold sigE sigS sigR; rw [h]; exact ⟨rfl, rfl, rfl⟩
theorem p45 : powC 4 5 = 1024 := by rw [powC_nat v4 (n := 5) 5 (by decide)]; decide
theorem p4Q1 : powC 4 1073741788 = 536870895 := by rw [← p4m]; exact powC_congr 4 (by decide)

set_option maxHeartbeats 4000000 in
theorem l11_sane_ok (w : World) (hS : Row w 0 0 (vals init8.l)) (hkT : Row w 1 0 (vals kTab)) : Rets Tryd.prog 17 [] w fun v w' => v = .bool true ∧ Ext w w' := by
  have hv1 : verS 1024 letB (sigE 5 letB) (sigS 5 letB) = true := by have := ver_sign letB (x := 5) (by decide); rwa [p45] at this
  have hv2 : verS 536870895 [] (sigE 1073741788 []) (sigS 1073741788 []) = true := by have := ver_sign [] (x := 1073741788) (by decide); rwa [p4Q1] at this
  have bE5 := sigE_bd 5 letB
  have bS5 := sigS_bd 5 letB
  have bEn := sigE_bd 1073741788 []
  have bSn := sigS_bd 1073741788 []
  have c5 := fun v w hv h1 h2 => sign_ok 5 v letB w (by decide) hv (by decide) h1 h2
  have c0 := fun v w hv h1 h2 => sign_ok 0 v letB w (by decide) hv (by decide) h1 h2
  have cq := fun v w hv h1 h2 => sign_ok 1073741789 v letB w (by decide) hv (by decide) h1 h2
  have cn := fun v w hv h1 h2 => sign_ok 1073741788 v [] w (by decide) hv (by decide) h1 h2
  rw [sig0.1, sig0.2.1, sig0.2.2] at c0
  rw [sigQ.1, sigQ.2.1, sigQ.2.2] at cq
  rw [show sigR 5 = 0 by decide] at c5
  rw [show sigR 1073741788 = 0 by decide] at cn
  generalize sigE 5 letB = e5 at *
  generalize sigS 5 letB = s5 at *
  generalize sigE 1073741788 [] = en at *
  generalize sigS 1073741788 [] = sn at *
  have k1 := fun v w hv h1 h2 => verify_ok 1024 e5 s5 v letB w (by decide) (by omega) (by omega) hv (by decide) h1 h2
  have k2 := fun v w hv h1 h2 => verify_ok 2 e5 s5 v letB w (by decide) (by omega) (by omega) hv (by decide) h1 h2
  have k3 := fun v w hv h1 h2 => verify_ok 1024 e5 (s5 + 1073741789) v letB w (by decide) (by omega) (by omega) hv (by decide) h1 h2
  have k4 := fun v w hv h1 h2 => verify_ok 536870895 en sn v [] w (by decide) (by omega) (by omega) hv (by decide) h1 h2
  have k5 := fun v w hv h1 h2 => verify_ok 0 en sn v [] w (by decide) (by omega) (by omega) hv (by decide) h1 h2
  rw [hv1] at k1
  rw [ver_key letB e5 s5 v2] at k2
  rw [ver_big 1024 letB e5 (s5 + 1073741789) (by omega)] at k3
  rw [hv2] at k4
  rw [ver_key [] en sn v0] at k5
  refine RetsX.of (nt := 91) Tryd.func17 (by kernel_rfl) rfl rfl (by simp) (by simp only [argEnv]; rfl) ?_
  repeat (first | refine RunL.pureI Tryd.tOk rfl rfl rfl (by (first | exact wr_i64 (by omega) (by omega) | exact wm_i64 (by omega) | exact wq_i64 (by omega) (by omega) (by omega) | rfl)) ?_ | refine RunL.pure Tryd.tOk rfl rfl rfl ?_ | refine RunL.unwantedD rfl rfl ?_ | refine RunE.seq ?_ | refine RunE.region ?_ | refine RunL.nil ?_ | refine RunE.block ?_ | refine RunE.inBlock ?_ | refine RunE.skip ?_ | refine RunE.exit rfl ?_ | refine RunE.scope ?_ | refine RunE.inScope ?_ | refine RunE.label ?_)
  refine RunL.ex rfl rfl rfl (OpE.buildSl Tryd.tOk (bytesV letB) rfl rfl rfl rfl rfl rfl (by simp [Value.cells, bytesV])) ?_
  rintro _ wa ⟨B, rfl, aa⟩
  have ZB : Blk wa B (bytesV letB) 5 := aa.at_
  have hBe := aa.eq
  refine RunL.ex rfl rfl rfl (OpE.bytesC Tryd.tOk rfl rfl rfl ZB) ?_
  rintro _ wb ⟨rfl, tb⟩
  have X : Ext w wb := aa.ext.write tb.ext (by intro i hi hlt; subst hi; omega)
  have hv : IsSl wb 1 (.slice (some ⟨B, 0, none⟩) 6 6) letB.length (bytesV letB) := .row (row_cells tb.at_) rfl (Nat.le_refl _)
  have tb_size := tb.size
  have aa_size := aa.size
  clear aa tb ZB
  have hBu : B < wb.heap.size := by have := tb_size; omega
  replace hS := hS.extE X
  replace hkT := hkT.extE X
  repeat (first | refine RunL.pureI Tryd.tOk rfl rfl rfl (by (first | exact wr_i64 (by omega) (by omega) | exact wm_i64 (by omega) | exact wq_i64 (by omega) (by omega) (by omega) | rfl)) ?_ | refine RunL.pure Tryd.tOk rfl rfl rfl ?_ | refine RunL.unwantedD rfl rfl ?_ | refine RunE.seq ?_ | refine RunE.region ?_ | refine RunL.nil ?_ | refine RunE.block ?_ | refine RunE.inBlock ?_ | refine RunE.skip ?_ | refine RunE.exit rfl ?_ | refine RunE.scope ?_ | refine RunE.inScope ?_ | refine RunE.label ?_)
  refine RunL.call rfl rfl rfl (c5 _ _ hv hS hkT) ?_
  rintro _ u2 ⟨rfl, Xa⟩
  replace X := X.trans Xa
  replace hS := hS.extE Xa
  replace hkT := hkT.extE Xa
  replace hv := hv.extE Xa
  clear Xa
  repeat (first | refine RunL.pureI Tryd.tOk rfl rfl rfl (by (first | exact wr_i64 (by omega) (by omega) | exact wm_i64 (by omega) | exact wq_i64 (by omega) (by omega) (by omega) | rfl)) ?_ | refine RunL.pure Tryd.tOk rfl rfl rfl ?_ | refine RunL.unwantedD rfl rfl ?_ | refine RunE.seq ?_ | refine RunE.region ?_ | refine RunL.nil ?_ | refine RunE.block ?_ | refine RunE.inBlock ?_ | refine RunE.skip ?_ | refine RunE.exit rfl ?_ | refine RunE.scope ?_ | refine RunE.inScope ?_ | refine RunE.label ?_)
  refine RunL.alloc Tryd.tOk rfl rfl rfl fun B2 a2 b2 => ?_
  have h2 := b2.eq
  have s2 := X.size
  repeat (first | refine RunL.pureI Tryd.tOk rfl rfl rfl (by (first | exact wr_i64 (by omega) (by omega) | exact wm_i64 (by omega) | exact wq_i64 (by omega) (by omega) (by omega) | rfl)) ?_ | refine RunL.pure Tryd.tOk rfl rfl rfl ?_ | refine RunL.unwantedD rfl rfl ?_ | refine RunE.seq ?_ | refine RunE.region ?_ | refine RunL.nil ?_ | refine RunE.block ?_ | refine RunE.inBlock ?_ | refine RunE.skip ?_ | refine RunE.exit rfl ?_ | refine RunE.scope ?_ | refine RunE.inScope ?_ | refine RunE.label ?_)
  refine RunL.store Tryd.tOk rfl rfl rfl rfl rfl (cs := [.int .i64 0, .int .i64 0]) b2.at_ rfl rfl fun y2 t2 => ?_
  have Xa : Ext u2 y2 := b2.ext.write t2.ext (by intro i hi hlt; subst hi; omega)
  replace X := X.trans Xa
  replace hS := hS.extE Xa
  replace hkT := hkT.extE Xa
  replace hv := hv.extE Xa
  have Z2 : Blk y2 B2 [.int .i64 e5, .int .i64 s5] 34 := t2.at_
  clear Xa b2 t2
  repeat (first | refine RunL.pureI Tryd.tOk rfl rfl rfl (by (first | exact wr_i64 (by omega) (by omega) | exact wm_i64 (by omega) | exact wq_i64 (by omega) (by omega) (by omega) | rfl)) ?_ | refine RunL.pure Tryd.tOk rfl rfl rfl ?_ | refine RunL.unwantedD rfl rfl ?_ | refine RunE.seq ?_ | refine RunE.region ?_ | refine RunL.nil ?_ | refine RunE.block ?_ | refine RunE.inBlock ?_ | refine RunE.skip ?_ | refine RunE.exit rfl ?_ | refine RunE.scope ?_ | refine RunE.inScope ?_ | refine RunE.label ?_)
  refine RunL.call rfl rfl rfl (c5 _ _ hv hS hkT) ?_
  rintro _ u4 ⟨rfl, Xa⟩
  replace X := X.trans Xa
  replace hS := hS.extE Xa
  replace hkT := hkT.extE Xa
  replace hv := hv.extE Xa
  replace Z2 := Z2.ext Xa id
  clear Xa
  repeat (first | refine RunL.pureI Tryd.tOk rfl rfl rfl (by (first | exact wr_i64 (by omega) (by omega) | exact wm_i64 (by omega) | exact wq_i64 (by omega) (by omega) (by omega) | rfl)) ?_ | refine RunL.pure Tryd.tOk rfl rfl rfl ?_ | refine RunL.unwantedD rfl rfl ?_ | refine RunE.seq ?_ | refine RunE.region ?_ | refine RunL.nil ?_ | refine RunE.block ?_ | refine RunE.inBlock ?_ | refine RunE.skip ?_ | refine RunE.exit rfl ?_ | refine RunE.scope ?_ | refine RunE.inScope ?_ | refine RunE.label ?_)
  refine RunL.alloc Tryd.tOk rfl rfl rfl fun B4 a4 b4 => ?_
  have h4 := b4.eq
  have s4 := X.size
  repeat (first | refine RunL.pureI Tryd.tOk rfl rfl rfl (by (first | exact wr_i64 (by omega) (by omega) | exact wm_i64 (by omega) | exact wq_i64 (by omega) (by omega) (by omega) | rfl)) ?_ | refine RunL.pure Tryd.tOk rfl rfl rfl ?_ | refine RunL.unwantedD rfl rfl ?_ | refine RunE.seq ?_ | refine RunE.region ?_ | refine RunL.nil ?_ | refine RunE.block ?_ | refine RunE.inBlock ?_ | refine RunE.skip ?_ | refine RunE.exit rfl ?_ | refine RunE.scope ?_ | refine RunE.inScope ?_ | refine RunE.label ?_)
  refine RunL.store Tryd.tOk rfl rfl rfl rfl rfl (cs := [.int .i64 0, .int .i64 0]) b4.at_ rfl rfl fun y4 t4 => ?_
  have Xa : Ext u4 y4 := b4.ext.write t4.ext (by intro i hi hlt; subst hi; omega)
  replace X := X.trans Xa
  replace hS := hS.extE Xa
  replace hkT := hkT.extE Xa
  replace hv := hv.extE Xa
  have Z4 : Blk y4 B4 [.int .i64 e5, .int .i64 s5] 34 := t4.at_
  replace Z2 := Z2.ext Xa id
  clear Xa b4 t4
  repeat (first | refine RunL.pureI Tryd.tOk rfl rfl rfl (by (first | exact wr_i64 (by omega) (by omega) | exact wm_i64 (by omega) | exact wq_i64 (by omega) (by omega) (by omega) | rfl)) ?_ | refine RunL.pure Tryd.tOk rfl rfl rfl ?_ | refine RunL.unwantedD rfl rfl ?_ | refine RunE.seq ?_ | refine RunE.region ?_ | refine RunL.nil ?_ | refine RunE.block ?_ | refine RunE.inBlock ?_ | refine RunE.skip ?_ | refine RunE.exit rfl ?_ | refine RunE.scope ?_ | refine RunE.inScope ?_ | refine RunE.label ?_)
  refine RunL.call rfl rfl rfl (c0 _ _ hv hS hkT) ?_
  rintro _ u6 ⟨rfl, Xa⟩
  replace X := X.trans Xa
  replace hS := hS.extE Xa
  replace hkT := hkT.extE Xa
  replace hv := hv.extE Xa
  replace Z2 := Z2.ext Xa id
  replace Z4 := Z4.ext Xa id
  clear Xa
  repeat (first | refine RunL.pureI Tryd.tOk rfl rfl rfl (by (first | exact wr_i64 (by omega) (by omega) | exact wm_i64 (by omega) | exact wq_i64 (by omega) (by omega) (by omega) | rfl)) ?_ | refine RunL.pure Tryd.tOk rfl rfl rfl ?_ | refine RunL.unwantedD rfl rfl ?_ | refine RunE.seq ?_ | refine RunE.region ?_ | refine RunL.nil ?_ | refine RunE.block ?_ | refine RunE.inBlock ?_ | refine RunE.skip ?_ | refine RunE.exit rfl ?_ | refine RunE.scope ?_ | refine RunE.inScope ?_ | refine RunE.label ?_)
  refine RunL.alloc Tryd.tOk rfl rfl rfl fun B6 a6 b6 => ?_
  have h6 := b6.eq
  have s6 := X.size
  repeat (first | refine RunL.pureI Tryd.tOk rfl rfl rfl (by (first | exact wr_i64 (by omega) (by omega) | exact wm_i64 (by omega) | exact wq_i64 (by omega) (by omega) (by omega) | rfl)) ?_ | refine RunL.pure Tryd.tOk rfl rfl rfl ?_ | refine RunL.unwantedD rfl rfl ?_ | refine RunE.seq ?_ | refine RunE.region ?_ | refine RunL.nil ?_ | refine RunE.block ?_ | refine RunE.inBlock ?_ | refine RunE.skip ?_ | refine RunE.exit rfl ?_ | refine RunE.scope ?_ | refine RunE.inScope ?_ | refine RunE.label ?_)
  refine RunL.store Tryd.tOk rfl rfl rfl rfl rfl (cs := [.int .i64 0, .int .i64 0]) b6.at_ rfl rfl fun y6 t6 => ?_
  have Xa : Ext u6 y6 := b6.ext.write t6.ext (by intro i hi hlt; subst hi; omega)
  replace X := X.trans Xa
  replace hS := hS.extE Xa
  replace hkT := hkT.extE Xa
  replace hv := hv.extE Xa
  replace Z2 := Z2.ext Xa id
  replace Z4 := Z4.ext Xa id
  clear Xa b6 t6
  repeat (first | refine RunL.pureI Tryd.tOk rfl rfl rfl (by (first | exact wr_i64 (by omega) (by omega) | exact wm_i64 (by omega) | exact wq_i64 (by omega) (by omega) (by omega) | rfl)) ?_ | refine RunL.pure Tryd.tOk rfl rfl rfl ?_ | refine RunL.unwantedD rfl rfl ?_ | refine RunE.seq ?_ | refine RunE.region ?_ | refine RunL.nil ?_ | refine RunE.block ?_ | refine RunE.inBlock ?_ | refine RunE.skip ?_ | refine RunE.exit rfl ?_ | refine RunE.scope ?_ | refine RunE.inScope ?_ | refine RunE.label ?_)
  refine RunL.call rfl rfl rfl (cq _ _ hv hS hkT) ?_
  rintro _ u8 ⟨rfl, Xa⟩
  replace X := X.trans Xa
  replace hS := hS.extE Xa
  replace hkT := hkT.extE Xa
  replace hv := hv.extE Xa
  replace Z2 := Z2.ext Xa id
  replace Z4 := Z4.ext Xa id
  clear Xa
  repeat (first | refine RunL.pureI Tryd.tOk rfl rfl rfl (by (first | exact wr_i64 (by omega) (by omega) | exact wm_i64 (by omega) | exact wq_i64 (by omega) (by omega) (by omega) | rfl)) ?_ | refine RunL.pure Tryd.tOk rfl rfl rfl ?_ | refine RunL.unwantedD rfl rfl ?_ | refine RunE.seq ?_ | refine RunE.region ?_ | refine RunL.nil ?_ | refine RunE.block ?_ | refine RunE.inBlock ?_ | refine RunE.skip ?_ | refine RunE.exit rfl ?_ | refine RunE.scope ?_ | refine RunE.inScope ?_ | refine RunE.label ?_)
  refine RunL.alloc Tryd.tOk rfl rfl rfl fun B8 a8 b8 => ?_
  have h8 := b8.eq
  have s8 := X.size
  repeat (first | refine RunL.pureI Tryd.tOk rfl rfl rfl (by (first | exact wr_i64 (by omega) (by omega) | exact wm_i64 (by omega) | exact wq_i64 (by omega) (by omega) (by omega) | rfl)) ?_ | refine RunL.pure Tryd.tOk rfl rfl rfl ?_ | refine RunL.unwantedD rfl rfl ?_ | refine RunE.seq ?_ | refine RunE.region ?_ | refine RunL.nil ?_ | refine RunE.block ?_ | refine RunE.inBlock ?_ | refine RunE.skip ?_ | refine RunE.exit rfl ?_ | refine RunE.scope ?_ | refine RunE.inScope ?_ | refine RunE.label ?_)
  refine RunL.store Tryd.tOk rfl rfl rfl rfl rfl (cs := [.int .i64 0, .int .i64 0]) b8.at_ rfl rfl fun y8 t8 => ?_
  have Xa : Ext u8 y8 := b8.ext.write t8.ext (by intro i hi hlt; subst hi; omega)
  replace X := X.trans Xa
  replace hS := hS.extE Xa
  replace hkT := hkT.extE Xa
  replace hv := hv.extE Xa
  replace Z2 := Z2.ext Xa id
  replace Z4 := Z4.ext Xa id
  clear Xa b8 t8
  repeat (first | refine RunL.pureI Tryd.tOk rfl rfl rfl (by (first | exact wr_i64 (by omega) (by omega) | exact wm_i64 (by omega) | exact wq_i64 (by omega) (by omega) (by omega) | rfl)) ?_ | refine RunL.pure Tryd.tOk rfl rfl rfl ?_ | refine RunL.unwantedD rfl rfl ?_ | refine RunE.seq ?_ | refine RunE.region ?_ | refine RunL.nil ?_ | refine RunE.block ?_ | refine RunE.inBlock ?_ | refine RunE.skip ?_ | refine RunE.exit rfl ?_ | refine RunE.scope ?_ | refine RunE.inScope ?_ | refine RunE.label ?_)
  refine RunL.call rfl rfl rfl (cn _ _ .nil hS hkT) ?_
  rintro _ u10 ⟨rfl, Xa⟩
  replace X := X.trans Xa
  replace hS := hS.extE Xa
  replace hkT := hkT.extE Xa
  replace hv := hv.extE Xa
  replace Z2 := Z2.ext Xa id
  replace Z4 := Z4.ext Xa id
  clear Xa
  repeat (first | refine RunL.pureI Tryd.tOk rfl rfl rfl (by (first | exact wr_i64 (by omega) (by omega) | exact wm_i64 (by omega) | exact wq_i64 (by omega) (by omega) (by omega) | rfl)) ?_ | refine RunL.pure Tryd.tOk rfl rfl rfl ?_ | refine RunL.unwantedD rfl rfl ?_ | refine RunE.seq ?_ | refine RunE.region ?_ | refine RunL.nil ?_ | refine RunE.block ?_ | refine RunE.inBlock ?_ | refine RunE.skip ?_ | refine RunE.exit rfl ?_ | refine RunE.scope ?_ | refine RunE.inScope ?_ | refine RunE.label ?_)
  refine RunL.alloc Tryd.tOk rfl rfl rfl fun B10 a10 b10 => ?_
  have h10 := b10.eq
  have s10 := X.size
  repeat (first | refine RunL.pureI Tryd.tOk rfl rfl rfl (by (first | exact wr_i64 (by omega) (by omega) | exact wm_i64 (by omega) | exact wq_i64 (by omega) (by omega) (by omega) | rfl)) ?_ | refine RunL.pure Tryd.tOk rfl rfl rfl ?_ | refine RunL.unwantedD rfl rfl ?_ | refine RunE.seq ?_ | refine RunE.region ?_ | refine RunL.nil ?_ | refine RunE.block ?_ | refine RunE.inBlock ?_ | refine RunE.skip ?_ | refine RunE.exit rfl ?_ | refine RunE.scope ?_ | refine RunE.inScope ?_ | refine RunE.label ?_)
  refine RunL.store Tryd.tOk rfl rfl rfl rfl rfl (cs := [.int .i64 0, .int .i64 0]) b10.at_ rfl rfl fun y10 t10 => ?_
  have Xa : Ext u10 y10 := b10.ext.write t10.ext (by intro i hi hlt; subst hi; omega)
  replace X := X.trans Xa
  replace hS := hS.extE Xa
  replace hkT := hkT.extE Xa
  replace hv := hv.extE Xa
  have Z10 : Blk y10 B10 [.int .i64 en, .int .i64 sn] 34 := t10.at_
  replace Z2 := Z2.ext Xa id
  replace Z4 := Z4.ext Xa id
  clear Xa b10 t10
  repeat (first | refine RunL.pureI Tryd.tOk rfl rfl rfl (by (first | exact wr_i64 (by omega) (by omega) | exact wm_i64 (by omega) | exact wq_i64 (by omega) (by omega) (by omega) | rfl)) ?_ | refine RunL.pure Tryd.tOk rfl rfl rfl ?_ | refine RunL.unwantedD rfl rfl ?_ | refine RunE.seq ?_ | refine RunE.region ?_ | refine RunL.nil ?_ | refine RunE.block ?_ | refine RunE.inBlock ?_ | refine RunE.skip ?_ | refine RunE.exit rfl ?_ | refine RunE.scope ?_ | refine RunE.inScope ?_ | refine RunE.label ?_)
  refine RunL.val rfl rfl rfl (OpV.loadN (cs := [.int .i64 e5, .int .i64 s5]) Tryd.tOk rfl rfl rfl rfl Z2.row) ?_
  refine RunL.val rfl rfl rfl (OpV.loadN (cs := [.int .i64 e5, .int .i64 s5]) Tryd.tOk rfl rfl rfl rfl Z4.row) ?_
  refine RunL.val rfl rfl rfl (OpV.neTwo sigTwo rfl rfl) ?_
  rw [show (!(e5 == e5 && s5 == s5)) = false by simp]
  repeat (first | refine RunL.pureI Tryd.tOk rfl rfl rfl (by (first | exact wr_i64 (by omega) (by omega) | exact wm_i64 (by omega) | exact wq_i64 (by omega) (by omega) (by omega) | rfl)) ?_ | refine RunL.pure Tryd.tOk rfl rfl rfl ?_ | refine RunL.unwantedD rfl rfl ?_ | refine RunE.seq ?_ | refine RunE.region ?_ | refine RunL.nil ?_ | refine RunE.block ?_ | refine RunE.inBlock ?_ | refine RunE.skip ?_ | refine RunE.exit rfl ?_ | refine RunE.scope ?_ | refine RunE.inScope ?_ | refine RunE.label ?_)
  refine RunE.condF rfl rfl ?_
  repeat (first | refine RunL.pureI Tryd.tOk rfl rfl rfl (by (first | exact wr_i64 (by omega) (by omega) | exact wm_i64 (by omega) | exact wq_i64 (by omega) (by omega) (by omega) | rfl)) ?_ | refine RunL.pure Tryd.tOk rfl rfl rfl ?_ | refine RunL.unwantedD rfl rfl ?_ | refine RunE.seq ?_ | refine RunE.region ?_ | refine RunL.nil ?_ | refine RunE.block ?_ | refine RunE.inBlock ?_ | refine RunE.skip ?_ | refine RunE.exit rfl ?_ | refine RunE.scope ?_ | refine RunE.inScope ?_ | refine RunE.label ?_)
  refine RunL.val rfl rfl rfl (OpV.loadN (cs := [.int .i64 e5, .int .i64 s5]) Tryd.tOk rfl rfl rfl rfl Z2.row) ?_
  refine RunL.alloc Tryd.tOk rfl rfl rfl fun B12 a12 b12 => ?_
  have h12 := b12.eq
  have s12 := X.size
  have l0 : 0 < y10.heap.size := cell_lt (hS 0 _ rfl)
  have l1 : 1 < y10.heap.size := cell_lt (hkT 0 _ rfl)
  have lB : B < y10.heap.size := hv.lt (by decide) (by decide) (k := B) rfl
  refine RunL.store Tryd.tOk rfl rfl rfl rfl rfl (cs := [.int .i64 0, .int .i64 0]) b12.at_ rfl rfl fun y12 t12 => ?_
  have Xa : Ext y10 y12 := b12.ext.write t12.ext (by intro i hi hlt; subst hi; omega)
  replace X := X.trans Xa
  replace hS := hS.extE Xa
  replace hkT := hkT.extE Xa
  replace hv := hv.extE Xa
  have hne2 : B2 ≠ B12 := by have := Z2.lt; omega
  have hne10 : B10 ≠ B12 := by have := Z10.lt; omega
  replace Z2 := Z2.ext Xa id
  replace Z10 := Z10.ext Xa id
  have Z12 : Blk y12 B12 [.int .i64 e5, .int .i64 s5] 34 := t12.at_
  clear Xa b12 t12
  repeat (first | refine RunL.pureI Tryd.tOk rfl rfl rfl (by (first | exact wr_i64 (by omega) (by omega) | exact wm_i64 (by omega) | exact wq_i64 (by omega) (by omega) (by omega) | rfl)) ?_ | refine RunL.pure Tryd.tOk rfl rfl rfl ?_ | refine RunL.unwantedD rfl rfl ?_ | refine RunL.val rfl rfl rfl (OpV.indexAK Tryd.tOk rfl rfl rfl rfl) ?_ | refine RunL.val rfl rfl rfl (OpV.indexSK Tryd.tOk rfl rfl rfl rfl) ?_ | refine RunL.val rfl rfl rfl (OpV.load1 Tryd.tOk rfl rfl rfl (Blk.cell Z2 rfl)) ?_ | refine RunE.seq ?_ | refine RunE.region ?_ | refine RunL.nil ?_ | refine RunE.block ?_ | refine RunE.inBlock ?_ | refine RunE.skip ?_ | refine RunE.exit rfl ?_ | refine RunE.scope ?_ | refine RunE.inScope ?_ | refine RunE.label ?_)
  refine RunL.store Tryd.tOk rfl rfl rfl rfl rfl Z12 rfl rfl fun y13 t13 => ?_
  have Xa : ExtB (fun k => k = B12) y12 y13 := t13.ext
  have hBw : w.heap.size ≤ B12 := by omega
  replace X := X.write Xa (S := fun _ => False) (by intro i hi hlt; subst hi; omega)
  have hadb : ∀ k, (Value.slice (some ⟨B, 0, none⟩) 6 6).ownBlock = some k → ¬ k = B12 := fun k hk => by
    have hk' : B = k := Option.some.inj hk
    omega
  replace hv := hv.ext Xa hadb
  replace hS := hS.ext Xa (by omega)
  replace hkT := hkT.ext Xa (by omega)
  replace Z2 := Z2.ext Xa hne2
  replace Z10 := Z10.ext Xa hne10
  replace Z12 : Blk y13 B12 [.int .i64 e5, .int .i64 (s5 + 1073741789)] 34 := t13.at_
  clear Xa t13
  repeat (first | refine RunL.pureI Tryd.tOk rfl rfl rfl (by (first | exact wr_i64 (by omega) (by omega) | exact wm_i64 (by omega) | exact wq_i64 (by omega) (by omega) (by omega) | rfl)) ?_ | refine RunL.pure Tryd.tOk rfl rfl rfl ?_ | refine RunL.unwantedD rfl rfl ?_ | refine RunE.seq ?_ | refine RunE.region ?_ | refine RunL.nil ?_ | refine RunE.block ?_ | refine RunE.inBlock ?_ | refine RunE.skip ?_ | refine RunE.exit rfl ?_ | refine RunE.scope ?_ | refine RunE.inScope ?_ | refine RunE.label ?_)
  refine RunL.val rfl rfl rfl (OpV.loadN (cs := [.int .i64 e5, .int .i64 s5]) Tryd.tOk rfl rfl rfl rfl Z2.row) ?_
  refine RunL.call rfl rfl rfl (k1 _ _ hv hS hkT) ?_
  rintro _ zk1 ⟨rfl, Xa⟩
  replace X := X.trans Xa
  replace hS := hS.extE Xa
  replace hkT := hkT.extE Xa
  replace hv := hv.extE Xa
  replace Z2 := Z2.ext Xa id
  replace Z10 := Z10.ext Xa id
  replace Z12 := Z12.ext Xa id
  clear Xa
  repeat (first | refine RunL.pureI Tryd.tOk rfl rfl rfl (by (first | exact wr_i64 (by omega) (by omega) | exact wm_i64 (by omega) | exact wq_i64 (by omega) (by omega) (by omega) | rfl)) ?_ | refine RunL.pure Tryd.tOk rfl rfl rfl ?_ | refine RunL.unwantedD rfl rfl ?_ | refine RunE.seq ?_ | refine RunE.region ?_ | refine RunL.nil ?_ | refine RunE.block ?_ | refine RunE.inBlock ?_ | refine RunE.skip ?_ | refine RunE.exit rfl ?_ | refine RunE.scope ?_ | refine RunE.inScope ?_ | refine RunE.label ?_)
  refine RunL.val rfl rfl rfl (OpV.loadN (cs := [.int .i64 e5, .int .i64 s5]) Tryd.tOk rfl rfl rfl rfl Z2.row) ?_
  refine RunL.call rfl rfl rfl (k2 _ _ hv hS hkT) ?_
  rintro _ zk2 ⟨rfl, Xa⟩
  replace X := X.trans Xa
  replace hS := hS.extE Xa
  replace hkT := hkT.extE Xa
  replace hv := hv.extE Xa
  replace Z2 := Z2.ext Xa id
  replace Z10 := Z10.ext Xa id
  replace Z12 := Z12.ext Xa id
  clear Xa
  repeat (first | refine RunL.pureI Tryd.tOk rfl rfl rfl (by (first | exact wr_i64 (by omega) (by omega) | exact wm_i64 (by omega) | exact wq_i64 (by omega) (by omega) (by omega) | rfl)) ?_ | refine RunL.pure Tryd.tOk rfl rfl rfl ?_ | refine RunL.unwantedD rfl rfl ?_ | refine RunE.seq ?_ | refine RunE.region ?_ | refine RunL.nil ?_ | refine RunE.block ?_ | refine RunE.inBlock ?_ | refine RunE.skip ?_ | refine RunE.exit rfl ?_ | refine RunE.scope ?_ | refine RunE.inScope ?_ | refine RunE.label ?_)
  refine RunL.val rfl rfl rfl (OpV.loadN (cs := [.int .i64 e5, .int .i64 (s5 + 1073741789)]) Tryd.tOk rfl rfl rfl rfl Z12.row) ?_
  refine RunL.call rfl rfl rfl (k3 _ _ hv hS hkT) ?_
  rintro _ zk3 ⟨rfl, Xa⟩
  replace X := X.trans Xa
  replace hS := hS.extE Xa
  replace hkT := hkT.extE Xa
  replace hv := hv.extE Xa
  replace Z2 := Z2.ext Xa id
  replace Z10 := Z10.ext Xa id
  replace Z12 := Z12.ext Xa id
  clear Xa
  repeat (first | refine RunL.pureI Tryd.tOk rfl rfl rfl (by (first | exact wr_i64 (by omega) (by omega) | exact wm_i64 (by omega) | exact wq_i64 (by omega) (by omega) (by omega) | rfl)) ?_ | refine RunL.pure Tryd.tOk rfl rfl rfl ?_ | refine RunL.unwantedD rfl rfl ?_ | refine RunE.seq ?_ | refine RunE.region ?_ | refine RunL.nil ?_ | refine RunE.block ?_ | refine RunE.inBlock ?_ | refine RunE.skip ?_ | refine RunE.exit rfl ?_ | refine RunE.scope ?_ | refine RunE.inScope ?_ | refine RunE.label ?_)
  refine RunL.val rfl rfl rfl (OpV.loadN (cs := [.int .i64 en, .int .i64 sn]) Tryd.tOk rfl rfl rfl rfl Z10.row) ?_
  refine RunL.call rfl rfl rfl (k4 _ _ .nil hS hkT) ?_
  rintro _ zk4 ⟨rfl, Xa⟩
  replace X := X.trans Xa
  replace hS := hS.extE Xa
  replace hkT := hkT.extE Xa
  replace hv := hv.extE Xa
  replace Z2 := Z2.ext Xa id
  replace Z10 := Z10.ext Xa id
  replace Z12 := Z12.ext Xa id
  clear Xa
  repeat (first | refine RunL.pureI Tryd.tOk rfl rfl rfl (by (first | exact wr_i64 (by omega) (by omega) | exact wm_i64 (by omega) | exact wq_i64 (by omega) (by omega) (by omega) | rfl)) ?_ | refine RunL.pure Tryd.tOk rfl rfl rfl ?_ | refine RunL.unwantedD rfl rfl ?_ | refine RunE.seq ?_ | refine RunE.region ?_ | refine RunL.nil ?_ | refine RunE.block ?_ | refine RunE.inBlock ?_ | refine RunE.skip ?_ | refine RunE.exit rfl ?_ | refine RunE.scope ?_ | refine RunE.inScope ?_ | refine RunE.label ?_)
  refine RunL.val rfl rfl rfl (OpV.loadN (cs := [.int .i64 en, .int .i64 sn]) Tryd.tOk rfl rfl rfl rfl Z10.row) ?_
  refine RunL.call rfl rfl rfl (k5 _ _ .nil hS hkT) ?_
  rintro _ zk5 ⟨rfl, Xa⟩
  replace X := X.trans Xa
  replace hS := hS.extE Xa
  replace hkT := hkT.extE Xa
  replace hv := hv.extE Xa
  replace Z2 := Z2.ext Xa id
  replace Z10 := Z10.ext Xa id
  replace Z12 := Z12.ext Xa id
  clear Xa
  repeat (first | refine RunL.pureI Tryd.tOk rfl rfl rfl (by (first | exact wr_i64 (by omega) (by omega) | exact wm_i64 (by omega) | exact wq_i64 (by omega) (by omega) (by omega) | rfl)) ?_ | refine RunL.pure Tryd.tOk rfl rfl rfl ?_ | refine RunL.unwantedD rfl rfl ?_ | refine RunE.seq ?_ | refine RunE.region ?_ | refine RunL.nil ?_ | refine RunE.block ?_ | refine RunE.inBlock ?_ | refine RunE.skip ?_ | refine RunE.exit rfl ?_ | refine RunE.scope ?_ | refine RunE.inScope ?_ | refine RunE.label ?_)
  exact RunE.retFn Tryd.func17 (.tmp rfl .nil) ⟨rfl, X⟩
end Go.Sg
