/- signatorylaw41.NoncesParts returns true for every input; condition: the package variables digest.start and digest.numbers hold what the program lays in them (the card ties this). -/
import Derived.Test.YtamcgoplhnbmcaaDoorN07
import Derived.Test.YtamcgoplhnbmcaaDoorN09
import Derived.Test.YtamcgoplhnbmcaaDoorNonH
set_option linter.unusedSimpArgs false
set_option linter.unusedVariables false
set_option linter.unusedSectionVars false
namespace Go.Sg
open Go.Rn Go.Proofs Go.Non Go.Rec Go.RowKit Go.Dev Go.Sha
attribute [local irreducible] Go.Rn.RetsX Go.Rn.RunLN Go.Rn.AsyN Go.Rn.RunL Go.Rn.RunE Go.Rn.Asy Go.Rn.OpV Go.Rn.OpE Go.Rn.ExecE
theorem tmod11 (n : Int) (h : 0 ≤ n ∧ n < 256) : ∃ p : Nat, n % 11 = (p : Int) ∧ p ≤ 10 := by
  exact ⟨(n % 11).toNat, by omega, by omega⟩
set_option maxHeartbeats 4000000 in
theorem noncesParts_walk (b : Book) (v : Value) (n m : Int) (hn : 0 ≤ n ∧ n < 256) (hm : 0 ≤ m ∧ m < 256) (W : World) (hl : b.left.length < 9223372036854775808) (hv : LI' W v b.left) (hS : Row W 0 0 (vals init8.l)) (hkT : Row W 1 0 (vals kTab)) :
    Rets Tryd.prog 6 [.agg (bkV b v).toArray, .int .u8 n, .int .u8 m] W fun r w' => r = .bool true ∧ Ext W w' := by
  have c1 := fun w h => rright41_ok b v w h hl
  obtain ⟨p, hp, hp1⟩ := tmod11 n hn
  obtain ⟨q, hq, hq1⟩ := tmod11 m hm
  refine RetsX.of (nt := 98) Tryd.func6 (by kernel_rfl) rfl rfl (by simp) (by simp only [argEnv]; rfl) ?_
  have X := ExtB.refl (fun _ => False) W
  repeat' (first | refine RunE.seq ?_ | refine RunE.region ?_)
  refine RunL.box rfl rfl rfl fun B3 w3_ a_ => ?_
  have Z3 : Blk w3_ B3 (bkV b v) 24 := a_.at_
  have gB3 := a_.ge X
  replace X := X.trans a_.ext
  clear a_
  repeat' (first | with_reducible refine RunLN.boolF rfl ?_ | refine RunL.ev Tryd.tOk rfl rfl rfl ?_ | refine RunE.seq ?_ | refine RunE.region ?_ | refine RunL.nil ?_)
  refine RunL.call rfl rfl rfl (l41_sane_ok _ (hS.up X) (hkT.up X)) ?_
  rintro _ _ ⟨rfl, Xa_⟩
  replace Z3 := Z3.up Xa_
  replace X := X.trans Xa_
  clear Xa_
  repeat' (first | with_reducible refine RunLN.boolF rfl ?_ | refine RunLN.any ?_ | refine RunL.ev Tryd.tOk rfl rfl rfl ?_ | refine RunL.evV rfl rfl rfl (OpV.loadN Tryd.tOk rfl rfl rfl rfl (Blk.row Z3)) ?_ | refine RunE.condF rfl rfl ?_ | refine RunE.seq ?_ | refine RunE.region ?_ | refine RunL.nil ?_ | refine RunE.skip ?_)
  refine RunL.call rfl rfl rfl (c1 _ (hv.up X)) ?_
  rintro _ _ ⟨rfl, Xa_⟩
  replace Z3 := Z3.up Xa_
  replace X := X.trans Xa_
  clear Xa_
  cases hr : rtB b with
  | false =>
    repeat' (first | with_reducible refine RunLN.boolT rfl ?_ | refine RunL.ev Tryd.tOk rfl rfl rfl ?_ | refine RunL.unwantedD rfl rfl ?_ | refine RunE.condT rfl rfl ?_ | refine RunE.seq ?_ | refine RunE.region ?_ | refine RunL.nil ?_)
    exact RunE.retFn Tryd.func6 (.tmp rfl .nil) ⟨rfl, X⟩
  | true =>
    by_cases h200 : b.left.length ≤ 200
    · obtain ⟨hnum, -, -, -⟩ := rtB_inv hr
      repeat' (first | with_reducible refine RunLN.boolF rfl ?_ | (with_reducible refine RunLN.decF ?_ ?_; focus omega) | refine RunLN.int (by (first | exact wr_i64 (by omega) (by omega) | exact wm_i64 (by omega) | exact wq_i64 (by omega) (by omega) (by omega) | rfl)) ?_ | refine RunLN.any ?_ | refine RunL.ev Tryd.tOk rfl rfl rfl ?_ | refine RunL.evV rfl rfl rfl (OpV.load1 Tryd.tOk rfl rfl rfl (Blk.cell Z3 rfl)) ?_ | refine RunL.evV rfl rfl rfl (OpV.lenSl Tryd.tOk rfl rfl hv) ?_ | refine RunE.condF rfl rfl ?_ | refine RunE.seq ?_ | refine RunE.region ?_ | refine RunL.nil ?_ | refine RunE.skip ?_)
      rw [hp, hq]
      have F := parts_facts hr p q
      have c2 := fun v w h h1 h2 => make_at (b := b) (n := (p : Int) + (q : Int)) ⟨rfl, rfl, rfl⟩ v w h hl h1 h2
      have c3 := fun v w h h1 h2 => make_at (b := b) (n := (p : Int)) ⟨rfl, rfl, rfl⟩ v w h hl h1 h2
      repeat' (first | refine RunLN.int (by (first | exact wr_i64 (by omega) (by omega) | exact wm_i64 (by omega) | exact wq_i64 (by omega) (by omega) (by omega) | rfl)) ?_ | refine RunLN.any ?_ | refine RunL.ev Tryd.tOk rfl rfl rfl ?_ | refine RunL.evV rfl rfl rfl (OpV.loadN Tryd.tOk rfl rfl rfl rfl (Blk.row Z3)) ?_)
      refine RunL.call rfl rfl rfl (c2 _ _ (hv.up X) (hS.up X) (hkT.up X)) ?_
      rintro _ _ ⟨⟨d9, c9, l9, rfl, h9, p9⟩, Xa_⟩
      replace Z3 := Z3.up Xa_
      replace X := X.trans Xa_
      clear Xa_
      repeat' (first | refine RunLN.int (by (first | exact wr_i64 (by omega) (by omega) | exact wm_i64 (by omega) | exact wq_i64 (by omega) (by omega) (by omega) | rfl)) ?_ | refine RunLN.any ?_ | refine RunL.ev Tryd.tOk rfl rfl rfl ?_)
      refine RunL.alloc Tryd.tOk rfl rfl rfl fun B9 wa_ aa_ => ?_
      have gB9 := aa_.ge X
      refine RunL.store Tryd.tOk rfl rfl rfl rfl rfl (cs := bk0) aa_.at_ rfl rfl fun w9_ tb_ => ?_
      have Xa_ : Ext _ w9_ := aa_.ext.write tb_.ext (by intro i_ hi_ hlt_; have := aa_.eq; omega)
      have Z9 : Blk w9_ B9 (bkV (makeB b ((p : Int) + (q : Int))) (.slice d9 (makeB b ((p : Int) + (q : Int))).left.length c9)) 24 := tb_.at_
      have n3_9 : B3 ≠ B9 := by have := Z3.lt; have := aa_.eq; omega
      have n9_3 : B9 ≠ B3 := Ne.symm n3_9
      replace Z3 := Z3.up Xa_
      replace h9 := h9.up Xa_
      replace p9 := p9.up Xa_
      replace X := X.trans Xa_
      clear Xa_ aa_ tb_
      repeat' (first | refine RunLN.int (by (first | exact wr_i64 (by omega) (by omega) | exact wm_i64 (by omega) | exact wq_i64 (by omega) (by omega) (by omega) | rfl)) ?_ | refine RunLN.any ?_ | refine RunL.ev Tryd.tOk rfl rfl rfl ?_ | refine RunL.evV rfl rfl rfl (OpV.loadN Tryd.tOk rfl rfl rfl rfl (Blk.row Z3)) ?_ | refine RunE.seq ?_ | refine RunE.region ?_ | refine RunL.nil ?_)
      refine RunL.call rfl rfl rfl (c3 _ _ (hv.up X) (hS.up X) (hkT.up X)) ?_
      rintro _ _ ⟨⟨d12, c12, l12, rfl, h12, p12⟩, Xa_⟩
      replace Z9 := Z9.up Xa_
      replace h9 := h9.up Xa_
      replace p9 := p9.up Xa_
      replace X := X.trans Xa_
      clear Xa_
      repeat' (first | refine RunLN.int (by (first | exact wr_i64 (by omega) (by omega) | exact wm_i64 (by omega) | exact wq_i64 (by omega) (by omega) (by omega) | rfl)) ?_ | refine RunLN.any ?_ | refine RunL.ev Tryd.tOk rfl rfl rfl ?_)
      refine RunL.alloc Tryd.tOk rfl rfl rfl fun B12 wa_ aa_ => ?_
      have gB12 := aa_.ge X
      refine RunL.store Tryd.tOk rfl rfl rfl rfl rfl (cs := bk0) aa_.at_ rfl rfl fun w12_ tb_ => ?_
      have Xa_ : Ext _ w12_ := aa_.ext.write tb_.ext (by intro i_ hi_ hlt_; have := aa_.eq; omega)
      have Z12 : Blk w12_ B12 (bkV (makeB b (p : Int)) (.slice d12 (makeB b (p : Int)).left.length c12)) 24 := tb_.at_
      have n9_12 : B9 ≠ B12 := by have := Z9.lt; have := aa_.eq; omega
      have n12_9 : B12 ≠ B9 := Ne.symm n9_12
      replace Z9 := Z9.up Xa_
      replace h9 := h9.up Xa_
      replace p9 := p9.up Xa_
      replace h12 := h12.up Xa_
      replace p12 := p12.up Xa_
      replace X := X.trans Xa_
      clear Xa_ aa_ tb_
      clear c2 c3 c1
      rcases F with ⟨f1, f2⟩ | ⟨f1, f2, hr', F⟩
      · rw [(make_bad (b := b) (n := (p : Int) + (q : Int)) (by rw [f2]; decide)).2] at p9
        rw [(make_bad (b := b) (n := (p : Int)) (by rw [f1]; decide)).2] at p12
        rw [f1, f2]
        repeat' (first | with_reducible refine RunLN.boolT rfl ?_ | refine RunLN.int (by (first | exact wr_i64 (by omega) (by omega) | exact wm_i64 (by omega) | exact wq_i64 (by omega) (by omega) (by omega) | rfl)) ?_ | refine RunLN.any ?_ | refine RunL.ev Tryd.tOk rfl rfl rfl ?_ | refine RunL.evV rfl rfl rfl (OpV.lenSl Tryd.tOk rfl rfl p9) ?_ | refine RunL.evV rfl rfl rfl (OpV.lenSl Tryd.tOk rfl rfl p12) ?_ | refine RunE.condT rfl rfl ?_ | refine RunE.seq ?_ | refine RunE.region ?_ | refine RunL.nil ?_)
        exact RunE.retFn Tryd.func6 (.tmp rfl .nil) ⟨rfl, X⟩
      · rw [f1]
        have hl2 : (bookAt b p).left.length < 9223372036854775808 := by have := make_left b (p : Int); rwa [f2] at this
        have c4 := fun v w h h1 h2 => make_at (b := bookAt b p) (n := (q : Int)) ⟨rfl, rfl, rfl⟩ v w h hl2 h1 h2
        rw [f2] at h12 Z12
        repeat' (first | with_reducible refine RunLN.boolF rfl ?_ | refine RunLN.int (by (first | exact wr_i64 (by omega) (by omega) | exact wm_i64 (by omega) | exact wq_i64 (by omega) (by omega) (by omega) | rfl)) ?_ | refine RunLN.any ?_ | refine RunL.ev Tryd.tOk rfl rfl rfl ?_ | refine RunL.evV rfl rfl rfl (OpV.loadN Tryd.tOk rfl rfl rfl rfl (Blk.row Z12)) ?_ | refine RunE.condF rfl rfl ?_ | refine RunE.seq ?_ | refine RunE.region ?_ | refine RunL.nil ?_ | refine RunE.skip ?_)
        refine RunL.call rfl rfl rfl (c4 _ _ h12 (hS.up X) (hkT.up X)) ?_
        rintro _ _ ⟨⟨d15, c15, l15, rfl, h15, p15⟩, Xa_⟩
        replace Z9 := Z9.up Xa_
        replace h9 := h9.up Xa_
        replace p9 := p9.up Xa_
        replace p12 := p12.up Xa_
        replace X := X.trans Xa_
        clear Xa_
        repeat' (first | refine RunLN.int (by (first | exact wr_i64 (by omega) (by omega) | exact wm_i64 (by omega) | exact wq_i64 (by omega) (by omega) (by omega) | rfl)) ?_ | refine RunLN.any ?_ | refine RunL.ev Tryd.tOk rfl rfl rfl ?_)
        refine RunL.alloc Tryd.tOk rfl rfl rfl fun B15 wa_ aa_ => ?_
        have gB15 := aa_.ge X
        refine RunL.store Tryd.tOk rfl rfl rfl rfl rfl (cs := bk0) aa_.at_ rfl rfl fun w15_ tb_ => ?_
        have Xa_ : Ext _ w15_ := aa_.ext.write tb_.ext (by intro i_ hi_ hlt_; have := aa_.eq; omega)
        have Z15 : Blk w15_ B15 (bkV (makeB (bookAt b p) (q : Int)) (.slice d15 (makeB (bookAt b p) (q : Int)).left.length c15)) 24 := tb_.at_
        have n9_15 : B9 ≠ B15 := by have := Z9.lt; have := aa_.eq; omega
        have n15_9 : B15 ≠ B9 := Ne.symm n9_15
        replace Z9 := Z9.up Xa_
        replace h9 := h9.up Xa_
        replace p9 := p9.up Xa_
        replace p12 := p12.up Xa_
        replace h15 := h15.up Xa_
        replace p15 := p15.up Xa_
        replace X := X.trans Xa_
        clear Xa_ aa_ tb_
        rcases F with ⟨g1, g2⟩ | ⟨g1, g2, g3, g4⟩
        · rw [g1, g2]
          repeat' (first | with_reducible refine RunLN.boolT rfl ?_ | refine RunLN.int (by (first | exact wr_i64 (by omega) (by omega) | exact wm_i64 (by omega) | exact wq_i64 (by omega) (by omega) (by omega) | rfl)) ?_ | refine RunLN.any ?_ | refine RunL.ev Tryd.tOk rfl rfl rfl ?_ | refine RunE.condT rfl rfl ?_ | refine RunE.seq ?_ | refine RunE.region ?_ | refine RunL.nil ?_)
          exact RunE.retFn Tryd.func6 (.tmp rfl .nil) ⟨rfl, X⟩
        · rw [g1, g2]
          rw [g3] at h9 Z9
          rw [g4] at p9
          have hlx := make_len b (p : Int)
          have hly := make_len (bookAt b p) (q : Int)
          have hlx' : (makeL b (p : Int)).length ≤ 4096 := by
            obtain ⟨-, h⟩ := make_good f1 rfl
            rw [h, List.length_map, upB_length]; omega
          have hly' : (makeL (bookAt b p) (q : Int)).length ≤ 4096 := by
            obtain ⟨-, h⟩ := make_good g1 rfl
            rw [h, List.length_map, upB_length]; omega
          repeat' (first | with_reducible refine RunLN.boolT rfl ?_ | with_reducible refine RunLN.boolF rfl ?_ | refine RunLN.int (by (first | exact wr_i64 (by omega) (by omega) | exact wm_i64 (by omega) | exact wq_i64 (by omega) (by omega) (by omega) | rfl)) ?_ | refine RunLN.any ?_ | refine RunL.ev Tryd.tOk rfl rfl rfl ?_ | refine RunL.evV rfl rfl rfl (OpV.loadN Tryd.tOk rfl rfl rfl rfl (Blk.row Z9)) ?_ | refine RunL.evV rfl rfl rfl (OpV.loadN Tryd.tOk rfl rfl rfl rfl (Blk.row Z15)) ?_ | refine RunE.condF rfl rfl ?_ | refine RunE.seq ?_ | refine RunE.region ?_ | refine RunL.nil ?_ | refine RunE.skip ?_)
          refine RunL.call rfl rfl rfl (rsame41_at (makeB (bookAt b p) (q : Int)) _ _ _ h9 h15 (make_left _ _)) ?_
          rintro _ _ ⟨rfl, Xa_⟩
          replace p9 := p9.up Xa_
          replace p12 := p12.up Xa_
          replace p15 := p15.up Xa_
          replace X := X.trans Xa_
          clear Xa_
          generalize makeL b (p : Int) = L1 at *
          generalize makeL (bookAt b p) (q : Int) = L2 at *
          repeat' (first | with_reducible refine RunLN.boolT rfl ?_ | refine RunLN.any ?_ | refine RunL.ev Tryd.tOk rfl rfl rfl ?_)
          have o9 : L1 ++ L2 ≠ [] → ∀ j, l9.ownBlock = some j → j < _ := fun h j hj => isL_own p9 (by decide) h hj
          have o15 : L2 ≠ [] → ∀ j, l15.ownBlock = some j → j < _ := fun h j hj => isL_own p15 (by decide) h hj
          refine RunL.ex rfl rfl rfl (OpE.buildSl Tryd.tOk [] rfl rfl rfl rfl rfl rfl (by simp)) ?_
          rintro _ w1 ⟨B, rfl, a1⟩
          have hO : w1.ownsRow W.heap.size 46 4 (.slice (some ⟨B, 0, none⟩) 0 0) 0 [] := ownsRow_added (cs := []) a1 (a1.ge X) rfl (by decide)
          replace p9 := p9.up a1.ext
          replace p12 := p12.up a1.ext
          replace p15 := p15.up a1.ext
          replace X := X.trans a1.ext
          have hB := a1.eq
          clear a1
          repeat' (first | refine RunLN.any ?_ | refine RunL.ev Tryd.tOk rfl rfl rfl ?_)
          refine RunL.ex rfl rfl rfl (OpE.append' Tryd.tOk rfl rfl rfl rfl rfl rfl hO p12 (flat_plain encP _) (by show _ * 32 ≤ _; omega) (by omega) X.size) ?_
          rintro r2 w2 ⟨O2, E2, hown2⟩
          rw [List.nil_append, Nat.zero_add] at O2
          have hsz1 : B < w1.heap.size := ownsRow_lt' hO rfl
          replace p9 := isL_ext p9 E2 (fun h j hj hs => by have := o9 h j hj; simp [Value.ownBlock] at hs; omega)
          replace p15 := isL_ext p15 E2 (fun h j hj hs => by have := o15 h j hj; simp [Value.ownBlock] at hs; omega)
          replace X := X.write E2 (by intro k hk hlt; have := ownsRow_ge hO hk; omega)
          clear E2 hO
          repeat' (first | refine RunLN.any ?_ | refine RunL.ev Tryd.tOk rfl rfl rfl ?_)
          refine RunL.ex rfl rfl rfl (OpE.append' Tryd.tOk rfl rfl rfl rfl rfl rfl O2 p15 (flat_plain encP _) (by show _ * 32 ≤ _; omega) (by omega) X.size) ?_
          rintro r3 w3 ⟨O3, E3, -⟩
          replace p9 := isL_ext p9 E3 (fun h j hj hs => by
            have h1 := o9 h j hj
            have h2 := hown2 j hs (by omega)
            simp [Value.ownBlock] at h2; omega)
          replace X := X.write E3 (by intro k hk hlt; have := ownsRow_ge O2 hk; omega)
          clear E3 O2
          have hl12 : (L1 ++ L2).length < 9223372036854775808 := by rw [List.length_append]; omega
          have h3 : LP w3 r3 (L1 ++ L2) := by
            have := isSl_own O3
            show IsSl w3 4 r3 (L1 ++ L2).length (flat Pr.cells (L1 ++ L2))
            rw [List.length_append, flat_append]; exact this
          skip
          refine RunL.call rfl rfl rfl (rsamePairs_at (L1 ++ L2) _ _ _ p9 h3 hl12) ?_
          rintro _ _ ⟨rfl, Xa_⟩
          replace X := X.trans Xa_
          clear Xa_
          repeat' (first | with_reducible refine RunLN.boolT rfl ?_ | refine RunL.ev Tryd.tOk rfl rfl rfl ?_ | refine RunL.nil ?_)
          exact RunE.retFn Tryd.func6 (.tmp rfl .nil) ⟨rfl, X⟩
    · repeat' (first | with_reducible refine RunLN.boolT rfl ?_ | with_reducible refine RunLN.boolF rfl ?_ | (with_reducible refine RunLN.decT ?_ ?_; focus omega) | refine RunLN.int (by (first | exact wr_i64 (by omega) (by omega) | exact wm_i64 (by omega) | exact wq_i64 (by omega) (by omega) (by omega) | rfl)) ?_ | refine RunLN.any ?_ | refine RunL.ev Tryd.tOk rfl rfl rfl ?_ | refine RunL.evV rfl rfl rfl (OpV.load1 Tryd.tOk rfl rfl rfl (Blk.cell Z3 rfl)) ?_ | refine RunL.evV rfl rfl rfl (OpV.lenSl Tryd.tOk rfl rfl hv) ?_ | refine RunE.condT rfl rfl ?_ | refine RunE.seq ?_ | refine RunE.region ?_ | refine RunL.nil ?_)
      exact RunE.retFn Tryd.func6 (.tmp rfl .nil) ⟨rfl, X⟩
end Go.Sg
namespace Go.Proofs.YtamcgoplhnbmcaaDoor
open Go.ChangeShapes Go.WideShapes Go.ChangeAt Go.RowKit Go.Sg
namespace noncesParts
theorem own : ownKnob Tryd.prog.godebug = none := by kernel_rfl
theorem laidOut : laidOutB Tryd.prog = true := by kernel_rfl
theorem door_met (os : Os) (args : Array Value) : laidMetH Tryd.prog Rows.noncesPartsRow.laid ((World.doorLaid Tryd.prog 19 os).forCall (fun _ _ => 0) ⟨#[], args, []⟩).memory :=
  laidMetH_of_parts3 (fuel := 8) (laidMet_of_run' 8 (by kernel_rfl) (by kernel_rfl)) (by kernel_rfl) (by kernel_rfl)
set_option maxRecDepth 100000 in
theorem lifted (os : Os) (started : os.Started) (H : Type) (enc : TypeId × Value → H) :
    ReturnsInHanded {} Tryd.checked os 6 .any (fun w args => (Rows.noncesPartsSpec.pre enc Tryd.prog Tryd.f6 [] false w args ∧ laidMetH Tryd.prog Rows.noncesPartsRow.laid w) ∧ sizedMet enc Tryd.prog Tryd.f6 (OpenSpec.ofChange Rows.noncesPartsSpec) false w args)
      (Rows.noncesPartsSpec.post enc Tryd.prog Tryd.f6 false true false false) := by
  refine returnsInHanded_of_change_and (C := Tryd.checked) (X := fun w _ => laidMetH Tryd.prog Rows.noncesPartsRow.laid w) (fun _ _ _ hh h => h.of_heap hh) own started (by kernel_rfl) Tryd.func6
    (ChangeSpec.witness_shaped (enc := enc) (C := Tryd.checked) (os := os) (X := fun w _ => laidMetH Tryd.prog Rows.noncesPartsRow.laid w) false (World.doorLaid Tryd.prog 19 os) #[.agg #[.int .i64 0, .int .i64 0, .int .i64 0, .slice none 0 0], .int .u8 0, .int .u8 0] 8 rfl (World.shaped_of_RefB (by kernel_rfl) (by kernel_rfl)) (by kernel_rfl) (by kernel_rfl) (by kernel_rfl) (door_met os _)) ?_
  intro W base args ds gs before hval0 hW _ _ hL _
  have hval : ∀ (j : Nat) t v, Tryd.f6.params[j]? = some t → args[j]? = some v → Value.okWide Tryd.prog W .any base t v := hval0
  have hW' := hW
  obtain ⟨p, q, hA0, hV, rfl, hfz, hnd⟩ := hW
  have hA : DataW.TrodAll enc Tryd.prog W 0 (fun _ => true) true Tryd.f6.params.toList args.toList ds p := hA0
  rw [Tryd.params6] at hA hval
  obtain ⟨v0, vs0, d0, ds0, p0, q0, hargs, rfl, rfl, h0, r0⟩ := trodAll_cons hA
  obtain ⟨v1, vs1, d1, ds1, p1, q1, rfl, rfl, rfl, h1, r1⟩ := trodAll_cons r0
  obtain ⟨v2, vs2, d2, ds2, p2, q2, rfl, rfl, rfl, h2, r2⟩ := trodAll_cons r1
  obtain ⟨rfl, rfl, rfl⟩ := trodAll_nil r2
  obtain rfl : args = #[v0, v1, v2] := by cases args; simp_all
  obtain ⟨b0, u0, rfl, m0, s0⟩ := book_open (hval 0 24 v0 rfl rfl) h0
  obtain ⟨a1, rfl, rfl, rfl, w1⟩ := open_int Tryd.underlying5 (hval 1 5 v1 rfl rfl) h1
  obtain ⟨a2, rfl, rfl, rfl, w2⟩ := open_int Tryd.underlying5 (hval 2 5 v2 rfl rfl) h2
  have L0 := start_of_laid (by kernel_rfl) rfl (.head _) hL
  have L1 := numbers_of_laid (by kernel_rfl) rfl (.tail _ (.head _)) hL
  refine (Rets.calls (noncesParts_walk b0 u0 a1 a2 (u8_of_wf w1) (u8_of_wf w2) W m0 s0 L0 L1)).mono fun e W' he => ?_
  obtain ⟨_, rfl, rfl, hx⟩ := he
  exact ⟨_, rfl, law_post (t := 4) laidOut (by kernel_rfl) (by kernel_rfl) (by kernel_rfl) rfl (fun ds h => by
    rcases ds with _ | ⟨_, _ | ⟨_, _ | ⟨_, _ | ⟨_, _⟩⟩⟩⟩ <;> first | rfl | (exact absurd h (by decide)) | (simp at h)) hW' hx⟩

theorem holds : Rows.NoncesPartsSaid :=
  OpenClaim.holds_of_wide 6 Tryd.f6 rfl rfl rfl rfl rfl rfl rfl ⟨rfl, rfl, rfl, rfl, rfl⟩ rfl rfl rfl rfl rfl (by kernel_rfl) Tryd.func6 (by kernel_rfl)
    (of_decide_eq_true (by kernel_rfl)) (by unfold Func.isWrapper; first | (rw [if_pos (by decide +kernel)]; kernel_rfl) | (rw [if_neg (by decide +kernel)]; exact ⟨rfl, rfl⟩))
    (fun os started H enc _ => lifted os started H enc)
theorem proved : Rows.NoncesPartsCardSaid :=
  Claim7.holds_tied_plain_at .later [] [.data, .data] true (true, "ae6f700ea2bd30feb0747e63825e7d966e37b71281da2088991cb0a2928709ec") true
    holds (fun _ h => by cases h) (by kernel_rfl) (fun _ h => by cases h) noncesParts_row_tie rfl ⟨rfl, rfl⟩ (by kernel_rfl) rfl
    (fun f fn hf hfn => by
      obtain rfl : f = 6 := Option.some.inj ((show Tryd.prog.funcNamed Tryd.f6.name = some 6 by kernel_rfl).symm.trans hf) |>.symm
      obtain rfl : fn = Tryd.f6 := (Option.some.inj (Tryd.func6.symm.trans hfn)).symm
      exact ⟨by kernel_rfl, fun j t ht => by
        have hall : Tryd.f6.params.toList.all (fun t => !Tryd.prog.wantsStandIn t) = true := by kernel_rfl
        have hm : t ∈ Tryd.f6.params.toList := by
          obtain ⟨hj, rfl⟩ := Array.getElem?_eq_some_iff.1 ht
          simp
        have := List.all_eq_true.1 hall t hm
        exact (by simpa using this : Tryd.prog.wantsStandIn t = false)⟩)
    (by kernel_rfl)
#print axioms proved
end noncesParts
end Go.Proofs.YtamcgoplhnbmcaaDoor
