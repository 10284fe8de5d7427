/- Parts of this project that the claims share: Non3, Wri, Non8, Iter, AsyK, IterM, NonA, NonB, NonC. -/
import Derived.Test.YtamcgoplhnbmcaaDoorN07
import Derived.Test.YtamcgoplhnbmcaaDoorN03
import Derived.Test.YtamcgoplhnbmcaaDoorN04
set_option linter.unusedSimpArgs false
set_option linter.unusedVariables false
set_option linter.unusedSectionVars false
section
/- Nonces: New, Burn; comparing. -/
namespace Go.Non
open Go.Rn
theorem rtB_new (k s : Int) : rtB ⟨k, s, 0, []⟩ = decide (newE k s = 0) := by
  unfold rtB numsB newE incB
  rw [Bool.true_and]
  by_cases h : 0 ≤ k ∧ k < 64 ∧ 0 ≤ s ∧ s ≤ 1099511627776
  · rw [if_pos h, decide_eq_true (by simp only; omega), decide_eq_true rfl]
  · rw [if_neg h, decide_eq_false (by simp only; omega), decide_eq_false (by decide)]
theorem newE_cases (k s : Int) : newE k s = 0 ∨ newE k s = 1 := by unfold newE; split <;> simp
theorem newB_left (k s : Int) : (newB k s).left = [] := by unfold newB; split <;> rfl
end Go.Non
namespace Go.Sg
open Go.Rn Go.Proofs Go.Non Go.Rec Go.RowKit Go.Dev
attribute [local irreducible] Go.Rn.RetsX Go.Rn.RunLN Go.Rn.AsyN Go.Rn.RunL Go.Rn.RunE Go.Rn.Asy Go.Rn.OpV Go.Rn.OpE Go.Rn.ExecE
abbrev bk0 : List Value := bkV zeroB (.slice none 0 0)
theorem new_ok (k s : Int) (w : World) : Rets Tryd.prog 15 [.int .i64 k, .int .i64 s] w fun r w' => r = .tuple #[.agg (bkV (newB k s) (.slice none 0 0)).toArray, .int .i64 (newE k s)] ∧ Ext w w' := by
  have c1 := fun w => nright_ok ⟨k, s, 0, []⟩ (.slice none 0 0) w IsSl.nil (by simp)
  rw [rtB_new] at c1
  refine RetsX.of (nt := 14) Tryd.func15 (by kernel_rfl) rfl rfl (by simp) (by simp only [argEnv]; rfl) ?_
  have X := ExtB.refl (fun _ => False) w
  repeat' (first | refine RunE.seq ?_ | refine RunE.region ?_)
  refine RunL.alloc Tryd.tOk rfl rfl rfl fun B4 w4_ a_ => ?_
  have Z4 : Blk w4_ B4 (bk0) 24 := a_.at_
  have gB4 := a_.ge X
  replace X := X.trans a_.ext
  clear a_
  repeat' (first | refine RunLN.int (by (first | exact wr_i64 (by omega) (by omega) | exact wm_i64 (by omega) | exact wq_i64 (by omega) (by omega) (by omega) | rfl)) ?_ | refine RunLN.any ?_ | refine RunL.ev Tryd.tOk rfl rfl rfl ?_ | refine RunE.seq ?_ | refine RunE.region ?_ | refine RunL.nil ?_)
  refine RunL.store Tryd.tOk rfl rfl rfl rfl rfl Z4 rfl rfl fun w_ t_ => ?_
  replace X := X.own t_.ext gB4
  replace Z4 : Blk w_ B4 (bkV ⟨k, s, 0, []⟩ (.slice none 0 0)) 24 := t_.at_
  clear t_
  repeat' (first | refine RunLN.any ?_ | refine RunL.evV rfl rfl rfl (OpV.loadN Tryd.tOk rfl rfl rfl rfl (Blk.row Z4)) ?_ | refine RunE.seq ?_ | refine RunE.region ?_ | refine RunL.nil ?_)
  refine RunL.call rfl rfl rfl (c1 _) ?_
  rintro _ _ ⟨rfl, Xa_⟩
  replace Z4 := Z4.up Xa_
  replace X := X.trans Xa_
  clear Xa_
  rcases newE_cases k s with h | h
  · have hB : newB k s = ⟨k, s, 0, []⟩ := if_pos h
    rw [h, hB]
    repeat' (first | with_reducible refine RunLN.boolF rfl ?_ | refine RunLN.any ?_ | refine RunL.ev Tryd.tOk rfl rfl rfl ?_ | refine RunL.evV rfl rfl rfl (OpV.loadN Tryd.tOk rfl rfl rfl rfl (Blk.row Z4)) ?_ | refine RunE.condF rfl rfl ?_ | refine RunE.seq ?_ | refine RunE.region ?_ | refine RunL.nil ?_ | refine RunE.skip ?_)
    refine RunL.store Tryd.tOk rfl rfl rfl rfl rfl Z4 rfl rfl fun w_ t_ => ?_
    replace X := X.own t_.ext gB4
    replace Z4 : Blk w_ B4 (bkV ⟨k, s, 0, []⟩ (.slice none 0 0)) 24 := t_.at_
    clear t_
    repeat' (first | refine RunLN.int (by (first | exact wr_i64 (by omega) (by omega) | exact wm_i64 (by omega) | exact wq_i64 (by omega) (by omega) (by omega) | rfl)) ?_ | refine RunL.ev Tryd.tOk rfl rfl rfl ?_ | refine RunL.nil ?_)
    exact RunE.retFn Tryd.func15 (.cell rfl (.agg Tryd.tOk rfl rfl rfl Z4.row) (.tmp rfl .nil)) ⟨rfl, X⟩
  · have hB : newB k s = zeroB := if_neg (by rw [h]; decide)
    rw [h, hB]
    repeat' (first | with_reducible refine RunLN.boolT rfl ?_ | refine RunLN.any ?_ | refine RunL.ev Tryd.tOk rfl rfl rfl ?_ | refine RunE.condT rfl rfl ?_ | refine RunE.seq ?_ | refine RunE.region ?_ | refine RunL.nil ?_)
    refine RunL.store Tryd.tOk rfl rfl rfl rfl rfl Z4 rfl rfl fun w_ t_ => ?_
    replace X := X.own t_.ext gB4
    replace Z4 : Blk w_ B4 (bk0) 24 := t_.at_
    clear t_
    repeat' (first | refine RunLN.int (by (first | exact wr_i64 (by omega) (by omega) | exact wm_i64 (by omega) | exact wq_i64 (by omega) (by omega) (by omega) | rfl)) ?_ | refine RunL.ev Tryd.tOk rfl rfl rfl ?_ | refine RunL.nil ?_)
    exact RunE.retFn Tryd.func15 (.cell rfl (.agg Tryd.tOk rfl rfl rfl Z4.row) (.tmp rfl .nil)) ⟨rfl, X⟩
theorem rnew41_ok (k s : Int) (w : World) : Rets Tryd.prog 16 [.int .i64 k, .int .i64 s] w fun r w' => r = .tuple #[.agg (bkV (newB k s) (.slice none 0 0)).toArray, .int .i64 (newE k s)] ∧ Ext w w' := by
  have c1 := fun w => rright41_ok ⟨k, s, 0, []⟩ (.slice none 0 0) w IsSl.nil (by simp)
  rw [rtB_new] at c1
  refine RetsX.of (nt := 15) Tryd.func16 (by kernel_rfl) rfl rfl (by simp) (by simp only [argEnv]; rfl) ?_
  have X := ExtB.refl (fun _ => False) w
  repeat' (first | refine RunE.seq ?_ | refine RunE.region ?_)
  refine RunL.alloc Tryd.tOk rfl rfl rfl fun B4 w4_ a_ => ?_
  have Z4 : Blk w4_ B4 (bk0) 24 := a_.at_
  have gB4 := a_.ge X
  replace X := X.trans a_.ext
  clear a_
  repeat' (first | refine RunLN.int (by (first | exact wr_i64 (by omega) (by omega) | exact wm_i64 (by omega) | exact wq_i64 (by omega) (by omega) (by omega) | rfl)) ?_ | refine RunLN.any ?_ | refine RunL.ev Tryd.tOk rfl rfl rfl ?_ | refine RunE.seq ?_ | refine RunE.region ?_ | refine RunL.nil ?_)
  refine RunL.alloc Tryd.tOk rfl rfl rfl fun B6 w6_ a_ => ?_
  have Z6 : Blk w6_ B6 (bk0) 24 := a_.at_
  have gB6 := a_.ge X
  have n4_6 : B4 ≠ B6 := by have := Z4.lt; have := a_.eq; omega
  have n6_4 : B6 ≠ B4 := Ne.symm n4_6
  replace Z4 := Z4.up a_.ext
  replace X := X.trans a_.ext
  clear a_
  skip
  refine RunL.store Tryd.tOk rfl rfl rfl rfl rfl Z6 rfl rfl fun w_ t_ => ?_
  replace X := X.own t_.ext gB6
  replace Z4 := Z4.other t_.ext n4_6
  replace Z6 : Blk w_ B6 (bkV ⟨k, s, 0, []⟩ (.slice none 0 0)) 24 := t_.at_
  clear t_
  repeat' (first | refine RunLN.any ?_ | refine RunL.evV rfl rfl rfl (OpV.loadN Tryd.tOk rfl rfl rfl rfl (Blk.row Z6)) ?_ | refine RunE.seq ?_ | refine RunE.region ?_ | refine RunL.nil ?_)
  refine RunL.call rfl rfl rfl (c1 _) ?_
  rintro _ _ ⟨rfl, Xa_⟩
  replace Z4 := Z4.up Xa_
  replace Z6 := Z6.up Xa_
  replace X := X.trans Xa_
  clear Xa_
  rcases newE_cases k s with h | h
  · have hB : newB k s = ⟨k, s, 0, []⟩ := if_pos h
    rw [h, hB]
    repeat' (first | with_reducible refine RunLN.boolF rfl ?_ | refine RunLN.any ?_ | refine RunL.ev Tryd.tOk rfl rfl rfl ?_ | refine RunL.evV rfl rfl rfl (OpV.loadN Tryd.tOk rfl rfl rfl rfl (Blk.row Z6)) ?_ | refine RunE.condF rfl rfl ?_ | refine RunE.seq ?_ | refine RunE.region ?_ | refine RunL.nil ?_ | refine RunE.skip ?_)
    refine RunL.store Tryd.tOk rfl rfl rfl rfl rfl Z4 rfl rfl fun w_ t_ => ?_
    replace X := X.own t_.ext gB4
    replace Z4 : Blk w_ B4 (bkV ⟨k, s, 0, []⟩ (.slice none 0 0)) 24 := t_.at_
    clear t_
    repeat' (first | refine RunLN.int (by (first | exact wr_i64 (by omega) (by omega) | exact wm_i64 (by omega) | exact wq_i64 (by omega) (by omega) (by omega) | rfl)) ?_ | refine RunL.ev Tryd.tOk rfl rfl rfl ?_ | refine RunL.nil ?_)
    exact RunE.retFn Tryd.func16 (.cell rfl (.agg Tryd.tOk rfl rfl rfl Z4.row) (.tmp rfl .nil)) ⟨rfl, X⟩
  · have hB : newB k s = zeroB := if_neg (by rw [h]; decide)
    rw [h, hB]
    repeat' (first | with_reducible refine RunLN.boolT rfl ?_ | refine RunLN.any ?_ | refine RunL.ev Tryd.tOk rfl rfl rfl ?_ | refine RunE.condT rfl rfl ?_ | refine RunE.seq ?_ | refine RunE.region ?_ | refine RunL.nil ?_)
    refine RunL.store Tryd.tOk rfl rfl rfl rfl rfl Z4 rfl rfl fun w_ t_ => ?_
    replace X := X.own t_.ext gB4
    replace Z4 : Blk w_ B4 (bk0) 24 := t_.at_
    clear t_
    repeat' (first | refine RunLN.int (by (first | exact wr_i64 (by omega) (by omega) | exact wm_i64 (by omega) | exact wq_i64 (by omega) (by omega) (by omega) | rfl)) ?_ | refine RunL.ev Tryd.tOk rfl rfl rfl ?_ | refine RunL.nil ?_)
    exact RunE.retFn Tryd.func16 (.cell rfl (.agg Tryd.tOk rfl rfl rfl Z4.row) (.tmp rfl .nil)) ⟨rfl, X⟩
theorem nburn_ok (b : Book) (v : Value) (w : World) (hv : LI' w v b.left) (hl : b.left.length < 9223372036854775808) :
    Rets Tryd.prog 23 [.agg (bkV b v).toArray] w fun r w' => r = .tuple #[.agg (bkV (burnB b) (.slice none 0 0)).toArray, .int .i64 (burnE b)] ∧ Ext w w' := by
  refine RetsX.of (nt := 15) Tryd.func23 (by kernel_rfl) rfl rfl (by simp) (by simp only [argEnv]; rfl) ?_
  have X := ExtB.refl (fun _ => False) w
  repeat' (first | refine RunE.seq ?_ | refine RunE.region ?_)
  refine RunL.box rfl rfl rfl fun B1 w1_ a_ => ?_
  have Z1 : Blk w1_ B1 (bkV b v) 24 := a_.at_
  have gB1 := a_.ge X
  replace X := X.trans a_.ext
  clear a_
  skip
  refine RunL.alloc Tryd.tOk rfl rfl rfl fun B2 w2_ a_ => ?_
  have Z2 : Blk w2_ B2 (bk0) 24 := a_.at_
  have gB2 := a_.ge X
  have n1_2 : B1 ≠ B2 := by have := Z1.lt; have := a_.eq; omega
  have n2_1 : B2 ≠ B1 := Ne.symm n1_2
  replace Z1 := Z1.up a_.ext
  replace X := X.trans a_.ext
  clear a_
  skip
  refine RunL.alloc Tryd.tOk rfl rfl rfl fun B3 w3_ a_ => ?_
  have Z3 : Blk w3_ B3 ([.int .i64 0]) 27 := a_.at_
  have gB3 := a_.ge X
  have n1_3 : B1 ≠ B3 := by have := Z1.lt; have := a_.eq; omega
  have n3_1 : B3 ≠ B1 := Ne.symm n1_3
  have n2_3 : B2 ≠ B3 := by have := Z2.lt; have := a_.eq; omega
  have n3_2 : B3 ≠ B2 := Ne.symm n2_3
  replace Z1 := Z1.up a_.ext
  replace Z2 := Z2.up a_.ext
  replace X := X.trans a_.ext
  clear a_
  repeat' (first | refine RunE.seq ?_ | refine RunE.region ?_ | refine RunL.nil ?_)
  refine RunL.defer rfl rfl rfl ?_
  repeat' (first | refine RunLN.any ?_ | refine RunL.evV rfl rfl rfl (OpV.loadN Tryd.tOk rfl rfl rfl rfl (Blk.row Z1)) ?_ | refine RunE.seq ?_ | refine RunE.region ?_ | refine RunL.nil ?_)
  cases hr : rtB b with
  | false =>
    have hB : burnB b = zeroB := by unfold burnB; rw [hr]; rfl
    have hE : burnE b = 410 := by unfold burnE; rw [hr]; rfl
    rw [hB, hE]
    refine RunL.exS rfl rfl rfl (OpE.call rfl (open_no b v _ (hv.up X) hl hr)) (fun ch w' a hX hst => ?_) (fun _ _ h => h.elim)
    obtain ⟨rfl, Xa_⟩ := hX
    replace Z2 := Z2.up Xa_
    replace X := X.trans Xa_
    exact FnQ.panicD Tryd.func23 caught_body hst ((caught_pan B3 0 410 w' (Z3.up Xa_)).mono fun u' w'' h => ⟨h.1, _, .cell rfl (.agg Tryd.tOk rfl rfl rfl (Z2.other h.2.ext n2_3).row) (.cell rfl (.scalar Tryd.tOk rfl rfl (Blk.cell (show Blk w'' B3 [.int .i64 410] 27 from h.2.at_) rfl)) .nil), rfl, X.own h.2.ext gB3⟩)
  | true =>
    have hB : burnB b = { b with left := [] } := by unfold burnB; rw [hr]; rfl
    have hE : burnE b = 0 := by unfold burnE; rw [hr]; rfl
    rw [hB, hE]
    refine RunL.call rfl rfl rfl (open_ok b v _ (hv.up X) hr) ?_
    rintro _ w' ⟨B, u, rfl, Z4, hge, -, -, Xa_⟩
    have l2 := Z2.lt
    have l3 := Z3.lt
    have hX := X.size
    have n2 : B2 ≠ B := by omega
    have n3 : B3 ≠ B := by omega
    replace Z2 := Z2.up Xa_
    replace Z3 := Z3.up Xa_
    replace X := X.trans Xa_
    clear Xa_
    repeat' (first | refine RunLN.any ?_ | refine RunL.ev Tryd.tOk rfl rfl rfl ?_ | refine RunE.seq ?_ | refine RunE.region ?_ | refine RunL.nil ?_)
    refine RunL.store Tryd.tOk rfl rfl rfl rfl rfl Z4 rfl rfl fun w5 t5 => ?_
    replace Z2 := Z2.other t5.ext n2
    replace Z3 := Z3.other t5.ext n3
    replace Z4 : Blk w5 B (bkV b (.slice none 0 0)) 91 := t5.at_
    replace X := X.own t5.ext (by omega)
    clear t5
    repeat' (first | refine RunLN.any ?_ | refine RunL.ev Tryd.tOk rfl rfl rfl ?_ | refine RunL.evV rfl rfl rfl (OpV.loadN Tryd.tOk rfl rfl rfl rfl (Blk.row Z4)) ?_ | refine RunE.seq ?_ | refine RunE.region ?_ | refine RunL.nil ?_)
    refine RunL.store Tryd.tOk rfl rfl rfl rfl rfl Z2 rfl rfl fun w6 t6 => ?_
    replace Z3 := Z3.other t6.ext n3_2
    replace Z2 : Blk w6 B2 (bkV b (.slice none 0 0)) 24 := t6.at_
    replace X := X.own t6.ext gB2
    clear t6
    skip
    refine RunL.store Tryd.tOk rfl rfl rfl rfl rfl Z3 rfl rfl fun w7 t7 => ?_
    replace Z2 := Z2.other t7.ext n2_3
    replace Z3 : Blk w7 B3 [.int .i64 0] 27 := t7.at_
    replace X := X.own t7.ext gB3
    clear t7
    repeat' (first | refine RunL.nil ?_)
    exact RunE.retD Tryd.func23 caught_body ((caught_ret B3 w7).mono fun u' w'' h => ⟨h.1, _, .cell rfl (.agg Tryd.tOk rfl rfl rfl (h.2 ▸ Z2).row) (.cell rfl (.scalar Tryd.tOk rfl rfl (Blk.cell (h.2 ▸ Z3) rfl)) .nil), rfl, h.2 ▸ X⟩)
theorem rburn41_ok (b : Book) (v : Value) (w : World) (hv : LI' w v b.left) (hl : b.left.length < 9223372036854775808) :
    Rets Tryd.prog 24 [.agg (bkV b v).toArray] w fun r w' => r = .tuple #[.agg (bkV (burnB b) (.slice none 0 0)).toArray, .int .i64 (burnE b)] ∧ Ext w w' := by
  obtain ⟨dv, cv, rfl⟩ := isSl_slice hv
  have c1 := fun w h => rright41_ok b (.slice dv b.left.length cv) w h hl
  refine RetsX.of (nt := 12) Tryd.func24 (by kernel_rfl) rfl rfl (by simp) (by simp only [argEnv]; rfl) ?_
  have X := ExtB.refl (fun _ => False) w
  repeat' (first | refine RunE.seq ?_ | refine RunE.region ?_)
  refine RunL.box rfl rfl rfl fun B1 w1_ a_ => ?_
  have Z1 : Blk w1_ B1 (bkV b (.slice dv b.left.length cv)) 24 := a_.at_
  have gB1 := a_.ge X
  replace X := X.trans a_.ext
  clear a_
  skip
  refine RunL.alloc Tryd.tOk rfl rfl rfl fun B2 w2_ a_ => ?_
  have Z2 : Blk w2_ B2 (bk0) 24 := a_.at_
  have gB2 := a_.ge X
  have n1_2 : B1 ≠ B2 := by have := Z1.lt; have := a_.eq; omega
  have n2_1 : B2 ≠ B1 := Ne.symm n1_2
  replace Z1 := Z1.up a_.ext
  replace X := X.trans a_.ext
  clear a_
  repeat' (first | refine RunLN.int (by (first | exact wr_i64 (by omega) (by omega) | exact wm_i64 (by omega) | exact wq_i64 (by omega) (by omega) (by omega) | rfl)) ?_ | refine RunLN.any ?_ | refine RunL.ev Tryd.tOk rfl rfl rfl ?_ | refine RunL.evV rfl rfl rfl (OpV.loadN Tryd.tOk rfl rfl rfl rfl (Blk.row Z1)) ?_ | refine RunE.seq ?_ | refine RunE.region ?_ | refine RunL.nil ?_)
  refine RunL.call rfl rfl rfl (c1 _ (hv.up X)) ?_
  rintro _ _ ⟨rfl, Xa_⟩
  replace Z1 := Z1.up Xa_
  replace Z2 := Z2.up Xa_
  replace X := X.trans Xa_
  clear Xa_
  cases hr : rtB b with
  | false =>
    have hB : burnB b = zeroB := by unfold burnB; rw [hr]; rfl
    have hE : burnE b = 410 := by unfold burnE; rw [hr]; rfl
    rw [hB, hE]
    repeat' (first | with_reducible refine RunLN.boolT rfl ?_ | refine RunLN.any ?_ | refine RunL.ev Tryd.tOk rfl rfl rfl ?_ | refine RunE.condT rfl rfl ?_ | refine RunE.seq ?_ | refine RunE.region ?_ | refine RunL.nil ?_)
    refine RunL.store Tryd.tOk rfl rfl rfl rfl rfl Z2 rfl rfl fun w_ t_ => ?_
    replace X := X.own t_.ext gB2
    replace Z2 : Blk w_ B2 (bk0) 24 := t_.at_
    clear t_
    repeat' (first | refine RunLN.int (by (first | exact wr_i64 (by omega) (by omega) | exact wm_i64 (by omega) | exact wq_i64 (by omega) (by omega) (by omega) | rfl)) ?_ | refine RunL.ev Tryd.tOk rfl rfl rfl ?_ | refine RunL.nil ?_)
    exact RunE.retFn Tryd.func24 (.cell rfl (.agg Tryd.tOk rfl rfl rfl Z2.row) (.tmp rfl .nil)) ⟨rfl, X⟩
  | true =>
    have hB : burnB b = { b with left := [] } := by unfold burnB; rw [hr]; rfl
    have hE : burnE b = 0 := by unfold burnE; rw [hr]; rfl
    rw [hB, hE]
    repeat' (first | with_reducible refine RunLN.boolF rfl ?_ | refine RunLN.any ?_ | refine RunL.ev Tryd.tOk rfl rfl rfl ?_ | refine RunL.evV rfl rfl rfl (OpV.loadN Tryd.tOk rfl rfl rfl rfl (Blk.row Z1)) ?_ | refine RunE.condF rfl rfl ?_ | refine RunE.seq ?_ | refine RunE.region ?_ | refine RunL.nil ?_ | refine RunE.skip ?_)
    refine RunL.alloc Tryd.tOk rfl rfl rfl fun B4 w4_ a_ => ?_
    have Z4 : Blk w4_ B4 (bk0) 24 := a_.at_
    have gB4 := a_.ge X
    have n2_4 : B2 ≠ B4 := by have := Z2.lt; have := a_.eq; omega
    have n4_2 : B4 ≠ B2 := Ne.symm n2_4
    replace Z2 := Z2.up a_.ext
    replace X := X.trans a_.ext
    clear a_
    skip
    refine RunL.store Tryd.tOk rfl rfl rfl rfl rfl Z4 rfl rfl fun w_ t_ => ?_
    replace X := X.own t_.ext gB4
    replace Z2 := Z2.other t_.ext n2_4
    replace Z4 : Blk w_ B4 (bkV b (.slice dv b.left.length cv)) 24 := t_.at_
    clear t_
    repeat' (first | refine RunLN.any ?_ | refine RunL.ev Tryd.tOk rfl rfl rfl ?_ | refine RunE.seq ?_ | refine RunE.region ?_ | refine RunL.nil ?_)
    refine RunL.store Tryd.tOk rfl rfl rfl rfl rfl Z4 rfl rfl fun w_ t_ => ?_
    replace X := X.own t_.ext gB4
    replace Z2 := Z2.other t_.ext n2_4
    replace Z4 : Blk w_ B4 (bkV b (.slice none 0 0)) 24 := t_.at_
    clear t_
    repeat' (first | refine RunLN.any ?_ | refine RunL.evV rfl rfl rfl (OpV.loadN Tryd.tOk rfl rfl rfl rfl (Blk.row Z4)) ?_ | refine RunE.seq ?_ | refine RunE.region ?_ | refine RunL.nil ?_)
    refine RunL.store Tryd.tOk rfl rfl rfl rfl rfl Z2 rfl rfl fun w_ t_ => ?_
    replace X := X.own t_.ext gB2
    replace Z2 : Blk w_ B2 (bkV b (.slice none 0 0)) 24 := t_.at_
    clear t_
    repeat' (first | refine RunLN.int (by (first | exact wr_i64 (by omega) (by omega) | exact wm_i64 (by omega) | exact wq_i64 (by omega) (by omega) (by omega) | rfl)) ?_ | refine RunL.ev Tryd.tOk rfl rfl rfl ?_ | refine RunL.nil ?_)
    exact RunE.retFn Tryd.func24 (.cell rfl (.agg Tryd.tOk rfl rfl rfl Z2.row) (.tmp rfl .nil)) ⟨rfl, X⟩
end Go.Sg
end
section
/- A region whose order is drawn, in which something is stored. -/
namespace Go.Rn
open Go.RowKit
section
variable {P : Program} {c : Ctx} {k : List Item} {Q : Out → Act → World → Prop} {w0 : World} {n : Nat} {ds : List Deferred} {env : Env} {S : Nat → Prop} {sats pres : List (Nat × Pred)} {ph : Option (Option Nat × Pred)} {mu : List Bool}
variable {l : List Oper} {d : Tmp} {op : Op} {ty : TypeId} {pos : String} {after : Array Edge} {guard : Option (Nat × Bool)} {rest : List Oper}
/-- It writes and gives nothing; nothing has been written yet. -/
theorem Asy.wriN (V : World → Prop) (hw : wantE l env ⟨none, op, ty, pos, after, guard⟩ = some true) (hd : isDefer op = false) (hs : isSel op = false)
    (hV : ∀ w' w'', ExtB S w0 w' → Ext w' w'' → V w' → V w'')
    (h : ∀ w', Ext w0 w' → OpE P env w' ⟨none, op, ty, pos, after, guard⟩ (fun _ w'' => ExtB S w' w'' ∧ V w'') fun _ _ => False)
    (h' : Asy P c n ds S w0 l k Q rest ⟨env, sats, some (none, fun _ w => V w), true :: mu, pres⟩) : Asy P c n ds S w0 l k Q (⟨none, op, ty, pos, after, guard⟩ :: rest) ⟨env, sats, none, mu, pres⟩ :=
  .step (e := .wri fun _ w => V w) ⟨rfl, hs, hw, hd, fun _ => hV, fun w' ρ hx hg _ => h w' hx ρ hg.ev⟩ h'
/-- As wriN, after another that wrote and gave nothing. -/
theorem Asy.wriNN {U : Pred} (V : World → Prop) (hw : wantE l env ⟨none, op, ty, pos, after, guard⟩ = some true) (hd : isDefer op = false) (hs : isSel op = false)
    (hV : ∀ w' w'', ExtB S w0 w' → Ext w' w'' → V w' → V w'')
    (h : ∀ w' x, ExtB S w0 w' → U x w' → OpE P env w' ⟨none, op, ty, pos, after, guard⟩ (fun _ w'' => ExtB S w' w'' ∧ V w'') fun _ _ => False)
    (h' : Asy P c n ds S w0 l k Q rest ⟨env, sats, some (none, fun _ w => V w), true :: mu, pres⟩) : Asy P c n ds S w0 l k Q (⟨none, op, ty, pos, after, guard⟩ :: rest) ⟨env, sats, some (none, U), mu, pres⟩ :=
  .step (e := .wri fun _ w => V w) ⟨rfl, hs, hw, hd, fun _ => hV, fun w' ρ ⟨hx, x, hU, _⟩ hg _ => h w' x hx hU ρ hg.ev⟩ h'
/-- As wriN; it reads one value that is known by a lasting law. -/
theorem Asy.wriN1 (i : Nat) {t : Nat} {U : Pred} (V : World → Prop) (hi : sats[i]? = some (t, U)) (hl : (Oper.looksAt l.toArray ⟨none, op, ty, pos, after, guard⟩).contains t = true)
    (hw : wantE l env ⟨none, op, ty, pos, after, guard⟩ = some true) (hd : isDefer op = false) (hs : isSel op = false)
    (hV : ∀ w' w'', ExtB S w0 w' → Ext w' w'' → V w' → V w'')
    (h : ∀ w' x, Ext w0 w' → U x w' → OpE P ((t, x) :: env) w' ⟨none, op, ty, pos, after, guard⟩ (fun _ w'' => ExtB S w' w'' ∧ V w'') fun _ _ => False)
    (h' : Asy P c n ds S w0 l k Q rest ⟨env, sats, some (none, fun _ w => V w), true :: mu, pres⟩) : Asy P c n ds S w0 l k Q (⟨none, op, ty, pos, after, guard⟩ :: rest) ⟨env, sats, none, mu, pres⟩ :=
  .step (e := .wri fun _ w => V w) ⟨rfl, hs, hw, hd, fun _ => hV, fun w' ρ hx hg _ => h w' _ hx (hg.sat t U (List.mem_of_getElem? hi) (by simpa using hl)) ρ (ev_cons hg.ev rfl)⟩ h'
theorem Asy.tailN {U : Pred} (hc : chk l mu.reverse l [] = true) (h : ∀ w' x, ExtB S w0 w' → U x w' → satsAll sats w' env fun e => RunL P c n ds l.toArray rest k Q e w') :
    Asy P c n ds S w0 l k Q rest ⟨env, sats, some (none, U), mu, pres⟩ :=
  ⟨[], hc, fun w' xs hx hs hp i hi a ha => by
    obtain ⟨x, hU, -⟩ := hp
    exact satsAll_run (xs := xs) sats env hs (h w' x hx hU) i hi a (ha.sub fun t' v ht => get_swap (A := sats.map fun s => (s.1, xs s.1)) (xs := xs) (by
      intro t v hm
      obtain ⟨s, -, he⟩ := List.mem_map.1 hm
      injection he with h1 h2; subst h1; exact h2.symm) t' v ht)⟩
end
theorem OpE.store {P : Program} {w : World} {env : Env} {ty : TypeId} {pos : String} {after : Array Edge} {guard : Option (Nat × Bool)} {T : Tab} (hT : T.Ok P) {t bt : TypeId} {i : TI} {x y : Operand} {b o : Nat} {v : Value} {cs : List Value}
    (hx : evO env x = some (.pointer (some ⟨b, o, none⟩))) (hy : evO env y = some v)
    (ht : T.get t = some i) (hsz : v.cells.toList.length = i.size) (hb : Blk w b cs bt) (hlen : Nat.ble (o + v.cells.toList.length) cs.length = true) (hp : v.cells.toList.all plainV = true) :
    OpE P env w ⟨none, .store t x y, ty, pos, after, guard⟩ (fun _ w' => Turned w w' b (.cells (setAt cs o v.cells.toList).toArray bt (0, 0))) fun _ _ => False := fun ρ hρ => by
  refine ExecE.of_skip (w' := World.setObj w b (.cells (setAt cs o v.cells.toList).toArray bt (0, 0))) ?_ (turned_set w hb.lt _)
  simp only [execOp, Instr.storeAt, hρ _ _ hx, hρ _ _ hy]
  refine Eq.trans (run_bind (v := ()) (w' := World.setObj w b (.cells (setAt cs o v.cells.toList).toArray bt (0, 0))) _ _ ?_) rfl
  rw [run_bind _ _ (show (Instr.sureAddr (.pointer (some ⟨b, o, none⟩))).run P w = .ok ⟨b, o, none⟩ w from rfl)]
  obtain ⟨j, hj, hs, _⟩ := TI.info (hT.get _ _ ht)
  unfold storeVar
  rw [run_bind _ _ (run_sizeOf hj)]
  rw [if_neg (by rw [hs, ← hsz]; simp)]
  have := run_storeCells (P := P) v.cells.toList 0 cs hb (by have := Nat.le_of_ble_eq_true hlen; omega) (List.all_eq_true.1 hp)
  simpa using this
end Go.Rn
end
section
/- Nonces: Take. -/
namespace Go.Non
open Go.Dev
theorem takeE_cases (b : Book) (no doc : Int) : (rtB b = false ∧ takeE b no doc = 410) ∨ (rtB b = true ∧ ¬ (0 ≤ doc ∧ doc < 4096) ∧ takeE b no doc = 1) ∨ (rtB b = true ∧ (0 ≤ doc ∧ doc < 4096) ∧ (b.left.any fun x => decide (x = no)) = false ∧ takeE b no doc = 411) ∨
    (rtB b = true ∧ (0 ≤ doc ∧ doc < 4096) ∧ (b.left.any fun x => decide (x = no)) = true ∧ takeE b no doc = 0) := by
  unfold takeE
  cases rtB b with
  | false => exact .inl ⟨rfl, rfl⟩
  | true =>
    by_cases h : 0 ≤ doc ∧ doc < 4096
    · cases ha : (b.left.any fun x => decide (x = no)) with
      | false => exact .inr (.inr (.inl ⟨rfl, h, rfl, by rw [if_pos rfl, if_pos h]; rfl⟩))
      | true => exact .inr (.inr (.inr ⟨rfl, h, rfl, by rw [if_pos rfl, if_pos h]; rfl⟩))
    · exact .inr (.inl ⟨rfl, h, by rw [if_pos rfl, if_neg h]⟩)
theorem take_bad {b : Book} {no doc : Int} (h : takeE b no doc ≠ 0) : takeB b no doc = zeroB ∧ ∀ which, takeD b no doc which = 0 := ⟨if_neg h, fun _ => if_neg h⟩
theorem take_good {b : Book} {no doc : Int} (h : takeE b no doc = 0) : takeB b no doc = { b with left := b.left.filter fun x => decide (x ≠ no) } ∧ ∀ which, takeD b no doc which = numN b.keeper b.seed no which := ⟨if_pos h, fun _ => if_pos h⟩
theorem found_at {l : List Int} {no : Int} (hs : l.Pairwise (· < ·)) (h : (l.any fun x => decide (x = no)) = true) : l[(l.takeWhile fun y => decide (y < no)).length]? = some no := by
  have h4 := (Go.Best.split_at (no := fun x : Int => x) (m := no) (l := l) hs).2.2.2
  rw [h] at h4
  cases hx : l[(l.takeWhile fun y => decide (y < no)).length]? with
  | none => rw [hx] at h4; simp at h4
  | some x => rw [hx] at h4; simp at h4; rw [h4]
end Go.Non
namespace Go.Rn
theorem owns_held {w : World} {base : Nat} {e : TypeId} {sz n : Nat} {v : Value} {xs : List Value} (h : w.ownsRow base e sz v n xs) (hn : 0 < n) : ∃ g cap, v = .slice (some ⟨g, 0, none⟩) n cap ∧ base ≤ g := by
  rcases h.2 with ⟨-, h0⟩ | ⟨g, cap, cur, rfl, hb, -⟩
  · omega
  · exact ⟨g, cap, rfl, hb⟩
end Go.Rn
namespace Go.Sg
open Go.Rn Go.Proofs Go.Non Go.Rec Go.RowKit Go.Dev Go.Sha
attribute [local irreducible] Go.Rn.RetsX Go.Rn.RunLN Go.Rn.AsyN Go.Rn.RunL Go.Rn.RunE Go.Rn.Asy Go.Rn.OpV Go.Rn.OpE Go.Rn.ExecE
set_option maxHeartbeats 2000000 in
theorem ntake_ok (b : Book) (v : Value) (no doc : Int) (w : World) (hv : LI' w v b.left) (hl : b.left.length < 9223372036854775808) (hS : Row w 0 0 (vals init8.l)) (hkT : Row w 1 0 (vals kTab)) :
    Rets Tryd.prog 21 [.agg (bkV b v).toArray, .int .i64 no, .int .i64 doc] w fun r w' => (∃ u, r = .tuple #[.agg (bkV (takeB b no doc) u).toArray, .int .i64 (takeD b no doc 0), .int .i64 (takeD b no doc 1), .int .i64 (takeE b no doc)] ∧ w'.ownsRow w.heap.size 3 1 u (takeB b no doc).left.length (flat intC (takeB b no doc).left)) ∧ Ext w w' := by
  refine RetsX.of (nt := 59) Tryd.func21 (by kernel_rfl) rfl rfl (by simp) (by simp only [argEnv]; rfl) ?_
  have X := ExtB.refl (fun _ => False) w
  repeat' (first | refine RunE.seq ?_ | refine RunE.region ?_)
  refine RunL.box rfl rfl rfl fun B3 w3_ a_ => ?_
  have Z3 : Blk w3_ B3 (bkV b v) 24 := a_.at_
  have gB3 := a_.ge X
  replace X := X.trans a_.ext
  clear a_
  skip
  refine RunL.alloc Tryd.tOk rfl rfl rfl fun B6 w6_ a_ => ?_
  have Z6 : Blk w6_ B6 (bk0) 24 := a_.at_
  have gB6 := a_.ge X
  have n3_6 : B3 ≠ B6 := by have := Z3.lt; have := a_.eq; omega
  have n6_3 : B6 ≠ B3 := Ne.symm n3_6
  replace Z3 := Z3.up a_.ext
  replace X := X.trans a_.ext
  clear a_
  repeat' (first | (with_reducible refine RunLN.chk ?_; refine RunLN.int (by (first | (refine wr_i64 ?_ ?_; omega; omega) | (refine wm_i64 ?_; omega) | (refine wq_i64 ?_ ?_ ?_; omega; omega; omega) | rfl)) ?_) | refine RunL.ev Tryd.tOk rfl rfl rfl ?_)
  refine RunL.alloc Tryd.tOk rfl rfl rfl fun B9 w9_ a_ => ?_
  have Z9 : Blk w9_ B9 ([.int .i64 0]) 27 := a_.at_
  have gB9 := a_.ge X
  have n3_9 : B3 ≠ B9 := by have := Z3.lt; have := a_.eq; omega
  have n9_3 : B9 ≠ B3 := Ne.symm n3_9
  have n6_9 : B6 ≠ B9 := by have := Z6.lt; have := a_.eq; omega
  have n9_6 : B9 ≠ B6 := Ne.symm n6_9
  replace Z3 := Z3.up a_.ext
  replace Z6 := Z6.up a_.ext
  replace X := X.trans a_.ext
  clear a_
  repeat' (first | refine RunE.seq ?_ | refine RunE.region ?_ | refine RunL.nil ?_)
  refine RunL.defer rfl rfl rfl ?_
  repeat' (first | refine RunLN.any ?_ | refine RunL.evV rfl rfl rfl (OpV.loadN Tryd.tOk rfl rfl rfl rfl (Blk.row Z3)) ?_ | refine RunE.seq ?_ | refine RunE.region ?_ | refine RunL.nil ?_)
  rcases takeE_cases b no doc with ⟨hr, hE⟩ | ⟨hr, hd, hE⟩ | ⟨hr, hd, ha, hE⟩ | ⟨hr, hd, ha, hE⟩
  · obtain ⟨hB, hD⟩ := take_bad (b := b) (no := no) (doc := doc) (by rw [hE]; decide)
    rw [hB, hD, hD, hE]
    refine RunL.exS rfl rfl rfl (OpE.call rfl (open_no b v _ (hv.up X) hl hr)) (fun ch w' a hX hst => ?_) (fun _ _ h => h.elim)
    obtain ⟨rfl, Xa_⟩ := hX
    replace Z6 := Z6.up Xa_
    replace Z9 := Z9.up Xa_
    replace X := X.trans Xa_
    exact FnQ.panicD Tryd.func21 caught_body hst ((caught_pan B9 0 _ _ Z9).mono fun u' w'' h => ⟨h.1, _, .cell rfl (.agg Tryd.tOk rfl rfl rfl (Z6.other h.2.ext n6_9).row) (.tmp rfl (.tmp rfl (.cell rfl (.scalar Tryd.tOk rfl rfl (Blk.cell (show Blk w'' B9 [.int .i64 _] 27 from h.2.at_) rfl)) .nil))), ⟨_, rfl, World.ownsRow_nil _ _ _ _⟩, X.own h.2.ext gB9⟩)
  · obtain ⟨hB, hD⟩ := take_bad (b := b) (no := no) (doc := doc) (by rw [hE]; decide)
    rw [hB, hD, hD, hE]
    refine RunL.call rfl rfl rfl (open_ok b v _ (hv.up X) hr) ?_
    rintro _ w' ⟨B, u, rfl, ZB, hge, -, -, Xa_⟩
    replace Z6 := Z6.up Xa_
    replace Z9 := Z9.up Xa_
    replace X := X.trans Xa_
    clear Xa_ ZB
    have hd' : doc < 0 ∨ (0 ≤ doc ∧ 4096 ≤ doc) := by omega
    rcases hd' with hd' | hd'
    · repeat' (first | with_reducible refine RunLN.boolF rfl ?_ | (with_reducible refine RunLN.decF ?_ ?_; focus omega) | (with_reducible refine RunLN.chk ?_; refine RunLN.int (by (first | (refine wr_i64 ?_ ?_; omega; omega) | (refine wm_i64 ?_; omega) | (refine wq_i64 ?_ ?_ ?_; omega; omega; omega) | rfl)) ?_) | refine RunLN.any ?_ | refine RunL.ev Tryd.tOk rfl rfl rfl ?_ | refine RunL.unwantedD rfl rfl ?_ | refine RunE.seq ?_ | refine RunE.region ?_ | refine RunL.nil ?_)
      refine RunL.exS rfl rfl rfl (OpE.call rfl (need_no 1 _)) (fun ch w' a hX hst => ?_) (fun _ _ h => h.elim)
      obtain ⟨rfl, rfl⟩ := hX
      exact FnQ.panicD Tryd.func21 caught_body hst ((caught_pan B9 0 _ _ Z9).mono fun u' w'' h => ⟨h.1, _, .cell rfl (.agg Tryd.tOk rfl rfl rfl (Z6.other h.2.ext n6_9).row) (.tmp rfl (.tmp rfl (.cell rfl (.scalar Tryd.tOk rfl rfl (Blk.cell (show Blk w'' B9 [.int .i64 _] 27 from h.2.at_) rfl)) .nil))), ⟨_, rfl, World.ownsRow_nil _ _ _ _⟩, X.own h.2.ext gB9⟩)
    · repeat' (first | with_reducible refine RunLN.boolT rfl ?_ | with_reducible refine RunLN.boolF rfl ?_ | (with_reducible refine RunLN.decT ?_ ?_; focus omega) | (with_reducible refine RunLN.decF ?_ ?_; focus omega) | (with_reducible refine RunLN.chk ?_; refine RunLN.int (by (first | (refine wr_i64 ?_ ?_; omega; omega) | (refine wm_i64 ?_; omega) | (refine wq_i64 ?_ ?_ ?_; omega; omega; omega) | rfl)) ?_) | refine RunLN.any ?_ | refine RunL.ev Tryd.tOk rfl rfl rfl ?_ | refine RunE.seq ?_ | refine RunE.region ?_ | refine RunL.nil ?_)
      refine RunL.exS rfl rfl rfl (OpE.call rfl (need_no 1 _)) (fun ch w' a hX hst => ?_) (fun _ _ h => h.elim)
      obtain ⟨rfl, rfl⟩ := hX
      exact FnQ.panicD Tryd.func21 caught_body hst ((caught_pan B9 0 _ _ Z9).mono fun u' w'' h => ⟨h.1, _, .cell rfl (.agg Tryd.tOk rfl rfl rfl (Z6.other h.2.ext n6_9).row) (.tmp rfl (.tmp rfl (.cell rfl (.scalar Tryd.tOk rfl rfl (Blk.cell (show Blk w'' B9 [.int .i64 _] 27 from h.2.at_) rfl)) .nil))), ⟨_, rfl, World.ownsRow_nil _ _ _ _⟩, X.own h.2.ext gB9⟩)
  · obtain ⟨hB, hD⟩ := take_bad (b := b) (no := no) (doc := doc) (by rw [hE]; decide)
    obtain ⟨-, hs, -, hle⟩ := rtB_inv hr
    rw [hB, hD, hD, hE]
    refine RunL.call rfl rfl rfl (open_ok b v _ (hv.up X) hr) ?_
    rintro _ w' ⟨B, u, rfl, ZB, hge, hO, -, Xa_⟩
    replace Z6 := Z6.up Xa_
    replace Z9 := Z9.up Xa_
    replace X := X.trans Xa_
    clear Xa_
    obtain ⟨hd1, hd2⟩ := hd
    repeat' (first | with_reducible refine RunLN.boolT rfl ?_ | (with_reducible refine RunLN.decT ?_ ?_; focus omega) | (with_reducible refine RunLN.chk ?_; refine RunLN.int (by (first | (refine wr_i64 ?_ ?_; omega; omega) | (refine wm_i64 ?_; omega) | (refine wq_i64 ?_ ?_ ?_; omega; omega; omega) | rfl)) ?_) | refine RunLN.any ?_ | refine RunL.ev Tryd.tOk rfl rfl rfl ?_ | refine RunE.seq ?_ | refine RunE.region ?_ | refine RunL.nil ?_)
    refine RunL.call rfl rfl rfl (need_ok 1 _) ?_
    rintro _ _ ⟨rfl, rfl⟩
    repeat' (first | (with_reducible refine RunLN.chk ?_; refine RunLN.int (by (first | (refine wr_i64 ?_ ?_; omega; omega) | (refine wm_i64 ?_; omega) | (refine wq_i64 ?_ ?_ ?_; omega; omega; omega) | rfl)) ?_) | refine RunLN.any ?_ | refine RunL.ev Tryd.tOk rfl rfl rfl ?_ | refine RunL.evV rfl rfl rfl (OpV.load1 Tryd.tOk rfl rfl rfl (Blk.cell ZB rfl)) ?_ | refine RunE.seq ?_ | refine RunE.region ?_ | refine RunL.nil ?_)
    refine RunL.call rfl rfl rfl (isearch_ok b.left u no _ (isSl_own hO) hs (by omega)) ?_
    rintro _ w5 ⟨rfl, Xa_⟩
    replace Z6 := Z6.up Xa_
    replace Z9 := Z9.up Xa_
    replace X := X.trans Xa_
    clear Xa_
    rw [ha]
    repeat' (first | with_reducible refine RunLN.boolF rfl ?_ | (with_reducible refine RunLN.chk ?_; refine RunLN.int (by (first | (refine wr_i64 ?_ ?_; omega; omega) | (refine wm_i64 ?_; omega) | (refine wq_i64 ?_ ?_ ?_; omega; omega; omega) | rfl)) ?_) | refine RunLN.any ?_ | refine RunL.ev Tryd.tOk rfl rfl rfl ?_ | refine RunE.seq ?_ | refine RunE.region ?_ | refine RunL.nil ?_)
    refine RunL.exS rfl rfl rfl (OpE.call rfl (need_no 411 _)) (fun ch w' a hX hst => ?_) (fun _ _ h => h.elim)
    obtain ⟨rfl, rfl⟩ := hX
    exact FnQ.panicD Tryd.func21 caught_body hst ((caught_pan B9 0 _ _ Z9).mono fun u' w'' h => ⟨h.1, _, .cell rfl (.agg Tryd.tOk rfl rfl rfl (Z6.other h.2.ext n6_9).row) (.tmp rfl (.tmp rfl (.cell rfl (.scalar Tryd.tOk rfl rfl (Blk.cell (show Blk w'' B9 [.int .i64 _] 27 from h.2.at_) rfl)) .nil))), ⟨_, rfl, World.ownsRow_nil _ _ _ _⟩, X.own h.2.ext gB9⟩)
  · obtain ⟨hB, hD⟩ := take_good hE
    obtain ⟨hnum, hs, hrange, hle⟩ := rtB_inv hr
    have hk := found_at hs ha
    have hkl := (List.getElem?_eq_some_iff.1 hk).1
    have hno := hrange no (List.mem_of_getElem? hk)
    have hfd := filter_del hs hk
    rw [hB, hD, hD, hE]
    refine RunL.call rfl rfl rfl (open_ok b v _ (hv.up X) hr) ?_
    rintro _ w' ⟨B, u, rfl, ZB, hge, hO, hne, Xa_⟩
    have l6 := Z6.lt
    have l9 := Z9.lt
    have lX := X.size
    have nB6 : B ≠ B6 := by omega
    have nB9 : B ≠ B9 := by omega
    replace Z6 := Z6.up Xa_
    replace Z9 := Z9.up Xa_
    replace X := X.trans Xa_
    clear Xa_
    obtain ⟨hd1, hd2⟩ := hd
    repeat' (first | with_reducible refine RunLN.boolT rfl ?_ | (with_reducible refine RunLN.decT ?_ ?_; focus omega) | (with_reducible refine RunLN.chk ?_; refine RunLN.int (by (first | (refine wr_i64 ?_ ?_; omega; omega) | (refine wm_i64 ?_; omega) | (refine wq_i64 ?_ ?_ ?_; omega; omega; omega) | rfl)) ?_) | refine RunLN.any ?_ | refine RunL.ev Tryd.tOk rfl rfl rfl ?_ | refine RunE.seq ?_ | refine RunE.region ?_ | refine RunL.nil ?_)
    refine RunL.call rfl rfl rfl (need_ok 1 _) ?_
    rintro _ _ ⟨rfl, rfl⟩
    repeat' (first | (with_reducible refine RunLN.chk ?_; refine RunLN.int (by (first | (refine wr_i64 ?_ ?_; omega; omega) | (refine wm_i64 ?_; omega) | (refine wq_i64 ?_ ?_ ?_; omega; omega; omega) | rfl)) ?_) | refine RunLN.any ?_ | refine RunL.ev Tryd.tOk rfl rfl rfl ?_ | refine RunL.evV rfl rfl rfl (OpV.load1 Tryd.tOk rfl rfl rfl (Blk.cell ZB rfl)) ?_ | refine RunE.seq ?_ | refine RunE.region ?_ | refine RunL.nil ?_)
    refine RunL.call rfl rfl rfl (isearch_ok b.left u no _ (isSl_own hO) hs (by omega)) ?_
    rintro _ w5 ⟨rfl, Xa_⟩
    replace Z6 := Z6.up Xa_
    replace Z9 := Z9.up Xa_
    replace ZB := ZB.up Xa_
    replace X := X.trans Xa_
    replace hO := ownsRow_ext hO Xa_ (fun _ _ h => h)
    clear Xa_
    rw [ha]
    generalize (b.left.takeWhile fun y => decide (y < no)).length = k at hk hkl hfd ⊢
    repeat' (first | with_reducible refine RunLN.boolT rfl ?_ | (with_reducible refine RunLN.chk ?_; refine RunLN.int (by (first | (refine wr_i64 ?_ ?_; omega; omega) | (refine wm_i64 ?_; omega) | (refine wq_i64 ?_ ?_ ?_; omega; omega; omega) | rfl)) ?_) | refine RunLN.any ?_ | refine RunL.ev Tryd.tOk rfl rfl rfl ?_ | refine RunE.seq ?_ | refine RunE.region ?_ | refine RunL.nil ?_)
    refine RunL.call rfl rfl rfl (need_ok 411 _) ?_
    rintro _ _ ⟨rfl, rfl⟩
    repeat' (first | (with_reducible refine RunLN.chk ?_; refine RunLN.int (by (first | (refine wr_i64 ?_ ?_; omega; omega) | (refine wm_i64 ?_; omega) | (refine wq_i64 ?_ ?_ ?_; omega; omega; omega) | rfl)) ?_) | refine RunLN.any ?_ | refine RunL.ev Tryd.tOk rfl rfl rfl ?_ | refine RunL.evV rfl rfl rfl (OpV.load1 Tryd.tOk rfl rfl rfl (Blk.cell ZB rfl)) ?_ | refine RunE.seq ?_ | refine RunE.region ?_ | refine RunL.nil ?_)
    obtain ⟨g, cap, rfl, hg⟩ := owns_held hO (by omega)
    have nBg : B ≠ g := fun e => hne g rfl e.symm
    have n6g : B6 ≠ g := by omega
    have n9g : B9 ≠ g := by omega
    refine RunL.call rfl rfl rfl (delete_ok b.left g cap k _ _ hO hkl) ?_
    rintro _ w6 ⟨rfl, h6, Xa_⟩
    replace Z6 := Z6.other Xa_ n6g
    replace Z9 := Z9.other Xa_ n9g
    replace ZB := ZB.other Xa_ nBg
    replace X := X.own Xa_ (by omega)
    clear Xa_ hO
    rw [← hfd] at h6
    repeat' (first | refine RunLN.any ?_ | refine RunL.ev Tryd.tOk rfl rfl rfl ?_)
    refine RunL.store Tryd.tOk rfl rfl rfl rfl rfl ZB rfl rfl fun w7 t7 => ?_
    replace Z6 := Z6.other t7.ext nB6.symm
    replace Z9 := Z9.other t7.ext nB9.symm
    replace ZB : Blk w7 B (bkV b (.slice (some ⟨g, 0, none⟩) (b.left.length - 1) cap)) 91 := t7.at_
    replace h6 := ownsRow_ext h6 t7.ext (fun j hj => by simp [Value.ownBlock] at hj; omega)
    replace X := X.own t7.ext (by omega)
    clear t7
    repeat' (first | (with_reducible refine RunLN.chk ?_; refine RunLN.int (by (first | (refine wr_i64 ?_ ?_; omega; omega) | (refine wm_i64 ?_; omega) | (refine wq_i64 ?_ ?_ ?_; omega; omega; omega) | rfl)) ?_) | refine RunLN.any ?_ | refine RunL.ev Tryd.tOk rfl rfl rfl ?_ | refine RunE.seq ?_ | refine RunE.region ?_ | refine RunL.nil ?_)
    refine RunL.call rfl rfl rfl (bnumbers_ok b _ no B _ (decide_eq_true hnum) (by omega) ZB (hS.up X) (hkT.up X)) ?_
    rintro _ w8 ⟨rfl, Xa_⟩
    replace Z6 := Z6.up Xa_
    replace Z9 := Z9.up Xa_
    replace ZB := ZB.up Xa_
    replace h6 := ownsRow_ext h6 Xa_ (fun _ _ h => h)
    replace X := X.trans Xa_
    clear Xa_
    generalize numN b.keeper b.seed no 0 = n0
    generalize numN b.keeper b.seed no 1 = n1
    skip
    refine RunL.alloc Tryd.tOk rfl rfl rfl fun B13 wa aa => ?_
    have e13 := aa.eq
    refine RunL.store Tryd.tOk rfl rfl rfl rfl rfl (cs := [.int .i64 0, .int .i64 0]) aa.at_ rfl rfl fun wb tb => ?_
    have Xa_ : Ext w8 wb := aa.ext.write tb.ext (by intro k hk hlt; omega)
    have Z13 : Blk wb B13 [.int .i64 n0, .int .i64 n1] 100 := tb.at_
    have n13 : B13 ≠ B6 := by have := Z6.lt; omega
    replace Z6 := Z6.up Xa_
    replace Z9 := Z9.up Xa_
    replace ZB := ZB.up Xa_
    replace h6 := ownsRow_ext h6 Xa_ (fun _ _ h => h)
    replace X := X.trans Xa_
    clear Xa_ aa tb e13
    repeat' (first | refine RunE.seq ?_ | refine RunL.nil ?_)
    refine RunE.draw (fun k => k = B6) mix ?_
    intro wd_ Xd_
    replace Z6 := Z6.up Xd_
    replace Z9 := Z9.up Xd_
    replace ZB := ZB.up Xd_
    replace Z13 := Z13.up Xd_
    replace h6 := ownsRow_ext h6 Xd_ (fun _ _ h => h)
    replace X := X.trans Xd_
    clear Xd_
    repeat' (first | (with_reducible refine AsyN.chk ?_; refine AsyN.int (by (first | (refine wr_i64 ?_ ?_; omega; omega) | (refine wm_i64 ?_; omega) | (refine wq_i64 ?_ ?_ ?_; omega; omega; omega) | rfl)) ?_) | refine AsyN.any ?_ | refine Asy.ev Tryd.tOk rfl rfl rfl ?_ | refine Asy.evV rfl rfl rfl rfl (fun _ X_ => (OpV.loadN Tryd.tOk rfl rfl rfl rfl (Blk.row (ZB.ext X_ nB6)))) ?_ | refine Asy.evV rfl rfl rfl rfl (fun _ X_ => (OpV.indexAK Tryd.tOk rfl rfl rfl rfl)) ?_ | refine Asy.evV rfl rfl rfl rfl (fun _ X_ => (OpV.load1 Tryd.tOk rfl rfl rfl (Blk.cell (Z13.ext X_ n13) rfl))) ?_)
    refine Asy.wriN (fun w' => Blk w' B6 (bkV b (.slice (some ⟨g, 0, none⟩) (b.left.length - 1) cap)) 24) rfl rfl rfl (fun w' w'' _ e h => h.up e) (fun w' e => ?_) ?_
    · refine OpE.mono (OpE.store Tryd.tOk rfl rfl rfl rfl (Z6.up e) rfl rfl) (fun _ w'' t => ⟨t.ext, t.at_⟩) fun _ _ h => h
    repeat' (first | (with_reducible refine AsyN.chk ?_; refine AsyN.int (by (first | (refine wr_i64 ?_ ?_; omega; omega) | (refine wm_i64 ?_; omega) | (refine wq_i64 ?_ ?_ ?_; omega; omega; omega) | rfl)) ?_) | refine Asy.ev Tryd.tOk rfl rfl rfl ?_)
    refine Asy.tailN (by kernel_rfl) fun we_ _ Xe_ Z6' => ?_
    simp only [satsAll]
    replace Z9 := Z9.other Xe_ n9_6
    replace h6 := ownsRow_ext h6 Xe_ (fun j hj => by simp [Value.ownBlock] at hj; omega)
    replace X := X.own Xe_ gB6
    clear Xe_ Z6
    refine RunL.store Tryd.tOk rfl rfl rfl rfl rfl Z9 rfl rfl fun w9 t9 => ?_
    replace Z6' := Z6'.other t9.ext n6_9
    replace h6 := ownsRow_ext h6 t9.ext (fun j hj => by simp [Value.ownBlock] at hj; omega)
    replace Z9 : Blk w9 B9 [.int .i64 0] 27 := t9.at_
    replace X := X.own t9.ext gB9
    clear t9
    repeat' (first | refine RunL.nil ?_)
    replace h6 := ownsRow_base h6 lX
    exact RunE.retD Tryd.func21 caught_body ((caught_ret B9 w9).mono fun u' w'' h => ⟨h.1, _, .cell rfl (.agg Tryd.tOk rfl rfl rfl (h.2 ▸ Z6').row) (.tmp rfl (.tmp rfl (.cell rfl (.scalar Tryd.tOk rfl rfl (Blk.cell (h.2 ▸ Z9) rfl)) .nil))), ⟨_, rfl, h.2 ▸ h6⟩, h.2 ▸ X⟩)
end Go.Sg
end
section
/- Functions that are ranged over: what they give; a range that goes to its end. -/
namespace Go.Rn
open Go.RowKit
theorem obj_ext {S : Nat → Prop} {w w' : World} {b : Nat} {o : Obj} (h : w.heap[b]? = some o) (e : ExtB S w w') (hn : ¬ S b) : w'.heap[b]? = some o := by rw [e.block b (lt_of_get h) hn]; exact h
/-- f, called with a yield that goes on, hands it xs in this order; it reads no block outside F. -/
def Gives (P : Program) (f : Value) (xs : List (List Value)) (w0 : World) (F : Nat → Prop) : Prop :=
  ∀ (S : Nat → Prop) (J : Nat → World → Prop) (y : Value) (w : World), (∀ k, F k → ¬ S k) → J 0 w → (∀ i w1, J i w1 → ExtB S w0 w1) → (∀ i w1 w2, J i w1 → Ext w1 w2 → J i w2) →
    (∀ i x w1, xs[i]? = some x → J i w1 → FnV P y x w1 (fun r w2 => r = .bool true ∧ J (i + 1) w2) fun _ _ => False) → FnV P f [y] w (fun _ w' => J xs.length w') fun _ _ => False
theorem Gives.up {P : Program} {f : Value} {xs : List (List Value)} {w0 w1 : World} {F : Nat → Prop} (h : Gives P f xs w0 F) (e : Ext w0 w1) : Gives P f xs w1 F :=
  fun S J y w hS h0 hJ => h S J y w hS h0 fun i u hu => (ExtB.of_ext e).trans (hJ i u hu)
structure LoopAt (w : World) (L D : Nat) (lp : Loop) : Prop where
  l : w.heap[L]? = some (.loop lp)
  d : w.heap[D]? = some (.deferred (some []))
theorem LoopAt.ext {S : Nat → Prop} {w w' : World} {L D : Nat} {lp : Loop} (h : LoopAt w L D lp) (e : ExtB S w w') (h1 : ¬ S L) (h2 : ¬ S D) : LoopAt w' L D lp := ⟨obj_ext h.l e h1, obj_ext h.d e h2⟩
theorem LoopAt.up {w w' : World} {L D : Nat} {lp : Loop} (h : LoopAt w L D lp) (e : Ext w w') : LoopAt w' L D lp := h.ext e id id
/-- A round that ends at its end. -/
def RoundJ (L D : Nat) (lp : Loop) (K : World → Prop) : Out → Act → World → Prop
  | .fall, _, w => K w ∧ LoopAt w L D { lp with state := .busy }
  | _, _, _ => False
section
variable {P : Program} {c : Ctx} {k : List Item} {Q : Out → Act → World → Prop} {w : World} {n : Nat} {ds : List Deferred} {env : Env}
theorem RunE.beginR {fn : FuncId} {kind : CallKind} {L D : Nat} {lp : Loop} (hl : LoopAt w L D lp) (hs : lp.state = .ready) (hn : L ≠ D)
    (h : ∀ w', ExtB (· = L) w w' → LoopAt w' L D { lp with state := .busy } → RunE P ⟨fn, kind, some L⟩ n ds k Q env w') : RunE P ⟨fn, kind, some L⟩ n ds (.beginRound :: k) Q env w :=
  .beginRound hl.l hs fun w' t => h w' t.ext ⟨t.at_, obj_ext hl.d t.ext (fun e => hn e.symm)⟩
theorem RunE.endR {L D : Nat} {lp : Loop} {K : World → Prop} (hK : K w) (hl : LoopAt w L D { lp with state := .busy }) : RunE P c n ds [] (RoundJ L D lp K) env w := .nil fun _ _ => ⟨hK, hl⟩
theorem RunE.rangeGives {f : Operand} {params : Array Tmp} {assign body : Code} {fv : Value} {xs : List (List Value)} {w0 : World} {F : Nat → Prop} (hc : c.round = none) (hfn : ∃ g, P.funcs[c.fn]? = some g)
    (hf : evO env f = some fv) (hG : Gives P fv xs w0 F) (S0 : Nat → Prop) (hF : ∀ k, F k → ¬ S0 k ∧ k < w.heap.size) (hX : ExtB S0 w0 w)
    (hlen : ∀ x ∈ xs, x.length = params.toList.length) (hp : params.toList.all (Nat.blt · n) = true) (J : Nat → World → Prop)
    (h0 : ∀ w2, Ext w w2 → w2.heap.size = w.heap.size + 2 → J 0 w2) (hJS : ∀ i w1, J i w1 → ExtB S0 w w1)
    (hJup : ∀ i w1 w2, J i w1 → ExtB (fun k => k = w.heap.size ∨ k = w.heap.size + 1) w1 w2 → J i w2)
    (hb : ∀ i x w1 lp, xs[i]? = some x → J i w1 → LoopAt w1 (w.heap.size + 1) w.heap.size lp → lp.state = .ready →
      RunE P ⟨c.fn, .normal, some (w.heap.size + 1)⟩ n [] [.code assign, .beginRound, .code body] (RoundJ (w.heap.size + 1) w.heap.size lp (J (i + 1))) (parEnv params.toList x env) w1)
    (h : ∀ w', J xs.length w' → w'.heap[w.heap.size]? = some (.deferred (some [])) → RunE P c n (markOf w.heap.size :: ds) k Q env w') :
    RunE P c n ds (.code (.rangeFunc f params assign body) :: k) Q env w := by
  refine RunE.rangeFunc hc hf fun a D L w1 w2 lp hst h1 h2 hlp => ?_
  obtain rfl : D = w.heap.size := h1.eq
  have e2 := h2.eq
  rw [h1.size] at e2
  subst e2
  have hX2 : Ext w w2 := h1.ext.trans h2.ext
  have hL2 : LoopAt w2 (w.heap.size + 1) w.heap.size lp := ⟨h2.at_, obj_ext h1.at_ h2.ext id⟩
  have hsz : w2.heap.size = w.heap.size + 2 := h2.size
  refine FnV.mono (hG (fun k => S0 k ∨ w.heap.size ≤ k) (fun i w' => J i w' ∧ LoopAt w' (w.heap.size + 1) w.heap.size lp) (yieldV (w.heap.size + 1)) w2 ?_ ⟨h0 w2 hX2 hsz, hL2⟩ ?_ ?_ ?_) ?_ (fun _ _ h => h)
  · intro k hk hs
    have := hF k hk
    rcases hs with hs | hs
    · exact this.1 hs
    · omega
  · rintro i w' ⟨hj, -⟩
    exact (hX.trans (hJS i w' hj)).mono fun k _ h => .inl h
  · rintro i u u' ⟨hj, hl⟩ e
    exact ⟨hJup i u u' hj (ExtB.of_ext e), hl.up e⟩
  · rintro i x u hx ⟨hj, hl⟩
    refine Yield.run (env := env) hl.l hfn hst (params := params.toList) (assign := assign) (body := body) (by simpa using hlp) (hlen x (List.mem_of_getElem? hx)) hp rfl ?_
    intro a' ha' cs
    obtain ⟨o, a1, u1, hq, hfin⟩ := hb i x u lp hx hj hl hlp.state a' ha' cs
    refine ⟨o, a1, u1, ?_, hfin⟩
    cases o with
    | fall =>
      obtain ⟨hK, hl1⟩ := hq
      refine ⟨_, hl1.l, fun u2 t2 => ⟨rfl, hJup _ _ _ hK (t2.ext.mono fun k _ h => .inr h), ?_, obj_ext hl1.d t2.ext (by omega)⟩⟩
      have := t2.at_
      rwa [show ({ ({ lp with state := .busy } : Loop) with state := .ready, pending := none } : Loop) = lp from hlp.back] at this
    | ret => exact hq.elim
    | exit id => exact hq.elim
    | panic ch => exact hq.elim
  · rintro _ w3 ⟨hj, hl⟩
    refine ⟨lp, hl.l, by rw [hlp.state]; rfl, fun w4 t4 => ?_⟩
    rw [hlp.pending]
    refine RunE.at_ hst (h w4 (hJup _ _ _ hj (t4.ext.mono fun k _ h => .inr h)) (obj_ext hl.d t4.ext (by omega)))
end
/-- The elements that are chosen. -/
theorem filter_take {α : Type} (p : α → Bool) {l : List α} {i : Nat} {x : α} (hx : l[i]? = some x) :
    (l.take (i + 1)).filter p = (l.take i).filter p ++ (if p x then [x] else []) ∧ (p x = true → (l.filter p)[((l.take i).filter p).length]? = some x) := by
  have e1 : l.take (i + 1) = l.take i ++ [x] := by rw [List.take_add_one, hx]; rfl
  have e2 : l = l.take i ++ x :: l.drop (i + 1) := by
    obtain ⟨hi, e⟩ := List.getElem?_eq_some_iff.1 hx
    rw [← e, List.getElem_cons_drop, List.take_append_drop]
  refine ⟨by rw [e1, List.filter_append]; congr 1; cases h : p x <;> simp [h], fun hp => ?_⟩
  have e3 : l.filter p = (l.take i).filter p ++ x :: (l.drop (i + 1)).filter p := by
    conv => lhs; rw [e2]
    rw [List.filter_append, List.filter_cons, if_pos hp]
  rw [e3, List.getElem?_append_right (Nat.le_refl _)]; simp
end Go.Rn
end
section
/- As Asy, over whatever relation of worlds: in a region whose order is drawn something holds of the block that is written, all along. -/
namespace Go.RnK
open Go.RowKit Go.Rn
/-- What the operations of a region may do to the world. -/
structure RelOk (S : World → World → Prop) : Prop where
  refl : ∀ w, S w w
  trans : ∀ {a b c}, S a b → S b c → S a c
  of_ext : ∀ {a b}, Ext a b → S a b
/-- The early ones come before all that write. -/
def earChk (mu : List Bool) (E : List Nat) : List Oper → List Nat → Bool
  | [], _ => true
  | o :: rest, ms => (bif mu.getD ms.length false then E.all (fun i => (maskOf ms o).testBit i) else true) && earChk mu E rest (ms ++ [maskOf ms o])
theorem earChk_ok {ops : List Oper} {mu : List Bool} {E : List Nat} (h : earChk mu E ops [] = true) : ∀ i ∈ E, ∀ j, mu.getD j false = true → j < ops.length → Ord ops i j := by
  have key : ∀ (rest : List Oper) (ms : List Nat), ops.drop ms.length = rest → (∀ k i, (ms.getD k 0).testBit i = true → Ord ops i k) → earChk mu E rest ms = true →
      ∀ i ∈ E, ∀ j, ms.length ≤ j → mu.getD j false = true → j < ops.length → Ord ops i j := by
    intro rest
    induction rest with
    | nil =>
      intro ms hd hm hc i _ j hj _ hjl
      have := List.drop_eq_nil_iff.1 hd
      omega
    | cons a rest ih =>
      intro ms hd hm hc i hi j hj hmu hjl
      obtain ⟨h1, h2⟩ := drop_cons hd
      simp only [earChk, Bool.and_eq_true] at hc
      rcases Nat.lt_or_ge ms.length j with hlt | hge
      · refine ih (ms ++ [maskOf ms a]) (by simpa using h2) ?_ hc.2 i hi j (by simp; omega) hmu hjl
        intro k i hki
        rcases Nat.lt_trichotomy k ms.length with hk | hk | hk
        · refine hm k i ?_
          rw [List.getD_eq_getElem?_getD, List.getElem?_append_left hk, ← List.getD_eq_getElem?_getD] at hki
          exact hki
        · subst hk
          rw [List.getD_eq_getElem?_getD, List.getElem?_append_right (Nat.le_refl _)] at hki
          simp only [Nat.sub_self, List.getElem?_cons_zero, Option.getD_some] at hki
          exact maskOf_ord h1 hm hki
        · rw [List.getD_eq_getElem?_getD, List.getElem?_eq_none (by simp; omega)] at hki
          simp at hki
      · have hj' : j = ms.length := by omega
        subst hj'
        have := hc.1
        rw [hmu, cond_true, List.all_eq_true] at this
        exact maskOf_ord h1 hm (this i hi)
  exact fun i hi j hm hj => key ops [] rfl (fun k i h => by simp at h) h i hi j (by simp) hm hj
def PhOk (S : World → World → Prop) (w0 : World) (ops : Array Oper) (s : Know) (o : Oper) (w' : World) (ρ : Operand → Value) : Prop :=
  match s.ph with
  | none => Ext w0 w'
  | some (d, U) => S w0 w' ∧ ∃ x, U x w' ∧ ∀ t, d = some t → t ∈ o.looksAt ops → ρ (.tmp t) = x

def OpOk (P : Program) (n : Nat) (E : List Nat) (S : World → World → Prop) (w0 : World) (ops : Array Oper) (s : Know) (o : Oper) : Ent → Prop
  | .val v => dstOk n o.dst = true ∧ isSel o.op = false ∧ ((wantE ops.toList s.env o = some false ∧ v = undef) ∨
      (wantE ops.toList s.env o = some true ∧ isDefer o.op = false ∧
        ∀ w' ρ, (if E.contains s.mu.length = true then Ext w0 w' else S w0 w') → Goes ops s o w' ρ → ExecE P (execOp ρ o) w' (fun u w'' => u = v ∧ Ext w' w'') fun _ _ => False))
  | .sat V => dstOk n o.dst = true ∧ isSel o.op = false ∧ wantE ops.toList s.env o = some true ∧ isDefer o.op = false ∧
      (∀ v w' w'', S w0 w' → S w' w'' → V v w' → V v w'') ∧
      ∀ w' ρ, S w0 w' → Goes ops s o w' ρ → ExecE P (execOp ρ o) w' (fun u w'' => Ext w' w'' ∧ V u w'') fun _ _ => False
  | .wri V => dstOk n o.dst = true ∧ isSel o.op = false ∧ wantE ops.toList s.env o = some true ∧ isDefer o.op = false ∧
      (∀ v w' w'', S w0 w' → Ext w' w'' → V v w' → V v w'') ∧
      ∀ w' ρ, PhOk S w0 ops s o w' ρ → Goes ops s o w' ρ → (s.ph = none → ∀ d V, (d, V) ∈ s.pres → d ∈ o.looksAt ops → V (ρ (.tmp d)) w') → ExecE P (execOp ρ o) w' (fun u w'' => S w' w'' ∧ V u w'') fun _ _ => False
  | .pre V => dstOk n o.dst = true ∧ isSel o.op = false ∧ wantE ops.toList s.env o = some true ∧ isDefer o.op = false ∧
      (∀ v w' w'', S w0 w' → Ext w' w'' → V v w' → V v w'') ∧
      ∀ w' ρ, S w0 w' → Goes ops s o w' ρ → ExecE P (execOp ρ o) w' (fun u w'' => Ext w' w'' ∧ V u w'') fun _ _ => False

/-- What has to be shown of the operations that are left. -/
def AsyF (P : Program) (n : Nat) (E : List Nat) (S : World → World → Prop) (w0 : World) (ops : Array Oper) (T : Know → List Oper → Prop) : List Ent → List Oper → Know → Prop
  | [], rest, s => T s rest
  | e :: es, o :: rest, s => OpOk P n E S w0 ops s o e ∧ AsyF P n E S w0 ops T es rest (s.add o.dst e)
  | _ :: _, [], _ => False

theorem asyF_all {P : Program} {n : Nat} {E : List Nat} {S : World → World → Prop} {w0 : World} {ops : Array Oper} {T : Know → List Oper → Prop} {l : List Oper} {es : List Ent} {s0 : Know}
    (h : AsyF P n E S w0 ops T es l s0) : es.length ≤ l.length ∧ (∀ (i : Nat) o e, l[i]? = some o → es[i]? = some e → OpOk P n E S w0 ops (stN l es s0 i) o e) ∧ T (stN l es s0 es.length) (l.drop es.length) := by
  have key : ∀ k, k ≤ es.length → AsyF P n E S w0 ops T (es.drop k) (l.drop k) (stN l es s0 k) ∧ k ≤ l.length := by
    intro k
    induction k with
    | zero => intro _; exact ⟨h, Nat.zero_le _⟩
    | succ k ih =>
      intro hk
      obtain ⟨ih, hkl⟩ := ih (by omega)
      have he : es[k]? = some es[k] := List.getElem?_eq_getElem (by omega)
      rw [List.drop_eq_getElem_cons (by omega : k < es.length)] at ih
      rcases Nat.lt_or_ge k l.length with hl | hl
      · rw [List.drop_eq_getElem_cons hl] at ih
        refine ⟨?_, hl⟩
        have := ih.2
        simp only [stN, List.getElem?_eq_getElem hl, he]
        exact this
      · rw [List.drop_eq_nil_iff.2 hl] at ih
        exact ih.elim
  refine ⟨(key _ (Nat.le_refl _)).2, ?_, ?_⟩
  · intro i o e ho he
    have hi : i < es.length := by
      rcases Nat.lt_or_ge i es.length with h | h
      · exact h
      · rw [List.getElem?_eq_none h] at he; simp at he
    have hl : i < l.length := by
      rcases Nat.lt_or_ge i l.length with h | h
      · exact h
      · rw [List.getElem?_eq_none h] at ho; simp at ho
    have := (key i (by omega)).1
    rw [List.drop_eq_getElem_cons hi, List.drop_eq_getElem_cons hl] at this
    rw [List.getElem?_eq_getElem hi] at he
    rw [List.getElem?_eq_getElem hl] at ho
    injection he with he; injection ho with ho
    subst he; subst ho
    exact this.1
  · have := (key es.length (Nat.le_refl _)).1
    rw [List.drop_length] at this
    exact this

section
variable {P : Program} {c : Ctx} {n : Nat} {ds : List Deferred} {l : List Oper} {es : List Ent} {env : Env} {E : List Nat} {S : World → World → Prop} {w0 : World} {k : List Item} {Q : Out → Act → World → Prop}

abbrev Lst (listed : Array Bool) (j : Nat) : Prop := listed.getD j false = true

structure Inv (n : Nat) (ds : List Deferred) (l : List Oper) (es : List Ent) (env : Env) (S : World → World → Prop) (w0 : World) (listed : Array Bool) (a : Act) (w : World) : Prop where
  lsz : listed.size = l.length
  sz : a.tmps.size = n
  df : a.defers = ds
  ext : S w0 w
  lt : ∀ j, Lst listed j → j < es.length
  down : ∀ (j : Nat) (o : Oper) e, Lst listed j → l[j]? = some o → e ∈ o.after → Region.binds .any e = true → Lst listed e.on
  val : ∀ (j : Nat) (o : Oper) v t, Lst listed j → l[j]? = some o → es[j]? = some (.val v) → o.dst = some t → a.tmps[t]? = some v
  sat : ∀ (j : Nat) (o : Oper) V t, Lst listed j → l[j]? = some o → es[j]? = some (.sat V) → o.dst = some t → V (a.eval (.tmp t)) w
  wri : (Ext w0 w ∧ ∀ (j : Nat) e, Lst listed j → es[j]? = some e → e.isMut = false) ∨
    (∃ (j : Nat) (o : Oper) (U : Pred), Lst listed j ∧ l[j]? = some o ∧ es[j]? = some (.wri U) ∧ (∀ (i : Nat) e, Lst listed i → es[i]? = some e → e.isMut = true → i ≤ j) ∧
      ∃ x, U x w ∧ ∀ t, o.dst = some t → a.eval (.tmp t) = x)
  base : ∀ t v, env.get t = some v → (∀ (j : Nat) (o : Oper), Lst listed j → l[j]? = some o → o.dst ≠ some t) → a.tmps[t]? = some v
  pre : (∀ (j : Nat) e, Lst listed j → es[j]? = some e → e.isMut = false) → ∀ (j : Nat) (o : Oper) V t, Lst listed j → l[j]? = some o → es[j]? = some (.pre V) → o.dst = some t → V (a.eval (.tmp t)) w

theorem ord_listed {listed : Array Bool} (hdn : ∀ (j : Nat) (o : Oper) e, Lst listed j → l[j]? = some o → e ∈ o.after → Region.binds .any e = true → Lst listed e.on)
    {i j : Nat} (h : Ord l i j) : (∀ (o : Oper) e, l[j]? = some o → e ∈ o.after → Region.binds .any e = true → Lst listed e.on) → Lst listed i := by
  induction h with
  | edge ho he hb => intro hr; exact hr _ _ ho he hb
  | step ho he hb _ ih => intro hr; exact ih fun o e h1 h2 h3 => hdn _ _ _ (hr _ _ ho he hb) h1 h2 h3

theorem mu_getD {i : Nat} : ((es.map Ent.isMut).getD i false = true) ↔ ∃ e, es[i]? = some e ∧ e.isMut = true := by
  rw [List.getD_eq_getElem?_getD, List.getElem?_map]
  cases es[i]? <;> simp

theorem lst_set {listed : Array Bool} {i j : Nat} (hsz : i < listed.size) : Lst (listed.setIfInBounds i true) j ↔ (j = i ∨ Lst listed j) := by
  unfold Lst
  by_cases h : i = j
  · subst h; simp [hsz]
  · rw [getD_set_ne false h]
    exact ⟨.inr, fun hh => hh.resolve_left fun e => h e.symm⟩

theorem eval_put_ne (a : Act) {d : Option Nat} {t : Nat} (v : Value) (h : d ≠ some t) : (a.put d v).eval (.tmp t) = a.eval (.tmp t) :=
  Act.eval_put fun d' hd e => h (by rw [hd]; injection e with e; rw [e])
theorem tmps_put_ne (a : Act) {d : Option Nat} {t : Nat} (v : Value) (h : d ≠ some t) : (a.put d v).tmps[t]? = a.tmps[t]? := by
  cases d with
  | none => rfl
  | some d => simp [Act.put, Array.getElem?_setIfInBounds_ne (fun e => h (by rw [e]) : d ≠ t)]

variable (hok : Okay l (es.map Ent.isMut)) (hop : ∀ (i : Nat) o e, l[i]? = some o → es[i]? = some e → OpOk P n E S w0 l.toArray (stN l es (know0 env) i) o e) (hm : es.length ≤ l.length)
include hok hm

theorem wri_lt {listed : Array Bool} {a : Act} {w : World} (h : Inv n ds l es env S w0 listed a w) {i j : Nat} {e e' : Ent} (hi : es[i]? = some e) (hmi : e.isMut = true)
    (hun : ¬ Lst listed i) (hj : Lst listed j) (hej : es[j]? = some e') (hmj : e'.isMut = true) : j < i := by
  rcases Nat.lt_trichotomy j i with hlt | heq | hgt
  · exact hlt
  · subst heq; exact absurd hj hun
  · exfalso
    have hi' : i < l.length := by
      have : i < es.length := by
        rcases Nat.lt_or_ge i es.length with h | h
        · exact h
        · rw [List.getElem?_eq_none h] at hi; simp at hi
      omega
    have hj' : j < l.length := by have := h.lt j hj; omega
    rcases hok.pair i j l[i] l[j] hgt (List.getElem?_eq_getElem hi') (List.getElem?_eq_getElem hj') with ho | ⟨-, -, hn⟩
    · exact hun (ord_listed h.down ho fun o e h1 h2 h3 => h.down j o e hj h1 h2 h3)
    · exact hn ⟨mu_getD.2 ⟨_, hi, hmi⟩, mu_getD.2 ⟨_, hej, hmj⟩⟩

include hop

theorem Inv.next (hS : RelOk S) {listed : Array Bool} {a : Act} {w : World} (h : Inv n ds l es env S w0 listed a w) {i : Nat} {o : Oper} {e : Ent} (hi : l[i]? = some o) (he : es[i]? = some e)
    (hun : ¬ Lst listed i) (hr : ∀ e ∈ o.after, Region.binds .any e = true → Lst listed e.on) {v : Value} {w' : World} (hx : S w w') (hx' : e.isMut = false → Ext w w')
    (hv : e.Holds v w') : Inv n ds l es env S w0 (listed.setIfInBounds i true) (a.put o.dst v) w' := by
  have hie : i < es.length := by
    rcases Nat.lt_or_ge i es.length with h | h
    · exact h
    · rw [List.getElem?_eq_none h] at he; simp at he
  have hil : i < listed.size := by rw [h.lsz]; omega
  have hdst : ∀ (j : Nat) (x : Oper), j ≠ i → j < es.length → l[j]? = some x → ∀ d, x.dst = some d → o.dst ≠ some d := by
    intro j x hne hj hx d hd
    rcases Nat.lt_or_gt_of_ne hne with hlt | hgt
    · exact hok.dst j i x o hlt (by simpa using hie) hx hi d hd
    · intro hod; exact hok.dst i j o x hgt (by simpa using hj) hi hx d hod hd
  have hdk : dstOk n o.dst = true := by
    have := hop i o e hi he
    cases e <;> exact this.1
  have hput : ∀ t, o.dst = some t → (a.put o.dst v).tmps[t]? = some v := by
    intro t ht
    have := dstOk_lt hdk t ht
    rw [ht]
    simp [Act.put, h.sz, this]
  have hputE : ∀ t, o.dst = some t → (a.put o.dst v).eval (.tmp t) = v := by
    intro t ht; simp [Act.eval, hput t ht]
  refine ⟨by simp [h.lsz], ?_, ?_, hS.trans h.ext hx, ?_, ?_, ?_, ?_, ?_, ?_, ?_⟩
  · cases o.dst <;> simp [Act.put, h.sz]
  · cases o.dst <;> exact h.df
  · intro j hj
    rcases (lst_set hil).1 hj with rfl | hj
    · exact hie
    · exact h.lt j hj
  · intro j x ed hj hx hed hb
    rcases (lst_set hil).1 hj with rfl | hj
    · rw [hi] at hx; injection hx with hx; subst hx
      exact (lst_set hil).2 (.inr (hr ed hed hb))
    · exact (lst_set hil).2 (.inr (h.down j x ed hj hx hed hb))
  · intro j x u t hj hx hu ht
    rcases (lst_set hil).1 hj with rfl | hj
    · rw [hi] at hx; injection hx with hx; subst hx
      rw [he] at hu; injection hu with hu; subst hu
      have hv : v = u := hv
      subst hv; exact hput t ht
    · have hne : j ≠ i := fun e => hun (e ▸ hj)
      rw [tmps_put_ne a v (hdst j x hne (h.lt j hj) hx t ht)]
      exact h.val j x u t hj hx hu ht
  · intro j x V t hj hx' hu ht
    rcases (lst_set hil).1 hj with rfl | hj
    · rw [hi] at hx'; injection hx' with hx'; subst hx'
      rw [he] at hu; injection hu with hu; subst hu
      rw [hputE t ht]; exact hv
    · have hne : j ≠ i := fun e => hun (e ▸ hj)
      rw [eval_put_ne a v (hdst j x hne (h.lt j hj) hx' t ht)]
      exact (hop j x _ hx' hu).2.2.2.2.1 _ _ _ h.ext hx (h.sat j x V t hj hx' hu ht)
  · cases hmu : e.isMut with
    | true =>
      right
      obtain ⟨V, rfl⟩ : ∃ V, e = .wri V := by cases e <;> simp_all [Ent.isMut]
      refine ⟨i, o, V, (lst_set hil).2 (.inl rfl), hi, he, ?_, v, hv, hputE⟩
      intro j e' hj he' hm'
      rcases (lst_set hil).1 hj with rfl | hj
      · exact Nat.le_refl _
      · exact Nat.le_of_lt (wri_lt hok hm h he rfl hun hj he' hm')
    | false =>
      have hE := hx' hmu
      rcases h.wri with ⟨h1, h2⟩ | ⟨j, x, U, hj, h1, h2, h3, y, h4, h5⟩
      · left
        refine ⟨h1.trans hE, fun j e' hj he' => ?_⟩
        rcases (lst_set hil).1 hj with rfl | hj
        · rw [he] at he'; injection he' with he'; subst he'; exact hmu
        · exact h2 j e' hj he'
      · right
        have hne : j ≠ i := fun e => hun (e ▸ hj)
        refine ⟨j, x, U, (lst_set hil).2 (.inr hj), h1, h2, ?_, y, ?_, ?_⟩
        · intro i' e' hi' he' hm'
          rcases (lst_set hil).1 hi' with rfl | hi'
          · rw [he] at he'; injection he' with he'; subst he'; rw [hmu] at hm'; simp at hm'
          · exact h3 i' e' hi' he' hm'
        · exact (hop j x _ h1 h2).2.2.2.2.1 _ _ _ h.ext hE h4
        · intro t ht
          rw [eval_put_ne a v (hdst j x hne (h.lt j hj) h1 t ht)]
          exact h5 t ht
  · intro t u ht hall
    have hne : o.dst ≠ some t := hall i o ((lst_set hil).2 (.inl rfl)) hi
    rw [tmps_put_ne a v hne]
    exact h.base t u ht fun j x hj hx => hall j x ((lst_set hil).2 (.inr hj)) hx
  · intro hno j x V t hj hxj hu ht
    have hmu : e.isMut = false := hno i e ((lst_set hil).2 (.inl rfl)) he
    have hE := hx' hmu
    rcases (lst_set hil).1 hj with rfl | hj
    · rw [hi] at hxj; injection hxj with hxj; subst hxj
      rw [he] at hu; injection hu with hu; subst hu
      rw [hputE t ht]; exact hv
    · have hne : j ≠ i := fun e => hun (e ▸ hj)
      rw [eval_put_ne a v (hdst j x hne (h.lt j hj) hxj t ht)]
      exact (hop j x _ hxj hu).2.2.2.2.1 _ _ _ h.ext hE (h.pre (fun j' e' hj' he' => hno j' e' ((lst_set hil).2 (.inr hj')) he') j x V t hj hxj hu ht)

omit hop hm in
/-- What an operation that may come next reads. -/
theorem Inv.read {listed : Array Bool} {a : Act} {w : World} (h : Inv n ds l es env S w0 listed a w) {i : Nat} {o : Oper} (hi : l[i]? = some o) (hie : i < es.length)
    (hun : ¬ Lst listed i) (hr : ∀ e ∈ o.after, Region.binds .any e = true → Lst listed e.on) {t : Nat} (ht : t ∈ o.looksAt l.toArray) {v : Value}
    (hv : (stN l es (know0 env) i).env.get t = some v) : a.tmps[t]? = some v := by
  have rdy : ∀ j, Ord l j i → Lst listed j := fun j hj => ord_listed h.down hj fun o' e h1 h2 h3 => by
    rw [hi] at h1; injection h1 with h1; subst h1; exact hr e h2 h3
  rcases stN_env (fun i j x o hij hj hx ho d => hok.dst i j x o hij (by simpa using hj) hx ho d) i (by omega) t v hv with ⟨j, x, hj, h1, h2, h3⟩ | ⟨h1, h2⟩
  · rcases hok.pair j i x o hj h1 hi with ho | ⟨-, ha, -⟩
    · exact h.val j x v t (rdy j ho) h1 h3 h2
    · exact absurd ht ((Oper.apart_spec ha).1 t h2)
  · refine h.base t v h2 fun j x hj hx hd => ?_
    rcases Nat.lt_trichotomy j i with hlt | heq | hgt
    · exact h1 j x hlt hx hd
    · subst heq; exact hun hj
    · rcases hok.pair i j o x hgt hi hx with ho | ⟨-, ha, -⟩
      · exact hun (ord_listed h.down ho fun o e h1 h2 h3 => h.down j o e hj h1 h2 h3)
      · exact (Oper.apart_spec ha).2.2 t hd ht

omit hop hm in
theorem Inv.readS {listed : Array Bool} {a : Act} {w : World} (h : Inv n ds l es env S w0 listed a w) {i : Nat} {o : Oper} (hi : l[i]? = some o) (hie : i < es.length)
    (hr : ∀ e ∈ o.after, Region.binds .any e = true → Lst listed e.on) {d : Nat} (ht : d ∈ o.looksAt l.toArray) {V : Pred}
    (hv : (d, V) ∈ (stN l es (know0 env) i).sats) : V (a.eval (.tmp d)) w := by
  obtain ⟨j, x, hj, h1, h2, h3⟩ := stN_sats i (by omega) d V hv
  have rdy : ∀ j, Ord l j i → Lst listed j := fun j hj => ord_listed h.down hj fun o' e h1 h2 h3 => by
    rw [hi] at h1; injection h1 with h1; subst h1; exact hr e h2 h3
  rcases hok.pair j i x o hj h1 hi with ho | ⟨-, ha, -⟩
  · exact h.sat j x V d (rdy j ho) h1 h3 h2
  · exact absurd ht ((Oper.apart_spec ha).1 d h2)

omit hop hm in
theorem Inv.readP {listed : Array Bool} {a : Act} {w : World} (h : Inv n ds l es env S w0 listed a w) {i : Nat} {o : Oper} (hi : l[i]? = some o) (hie : i < es.length)
    (hr : ∀ e ∈ o.after, Region.binds .any e = true → Lst listed e.on) (hno : ∀ (j : Nat) e, Lst listed j → es[j]? = some e → e.isMut = false) {d : Nat} (ht : d ∈ o.looksAt l.toArray) {V : Pred}
    (hv : (d, V) ∈ (stN l es (know0 env) i).pres) : V (a.eval (.tmp d)) w := by
  obtain ⟨j, x, hj, h1, h2, h3⟩ := stN_pres i (by omega) d V hv
  have rdy : ∀ j, Ord l j i → Lst listed j := fun j hj => ord_listed h.down hj fun o' e h1 h2 h3 => by
    rw [hi] at h1; injection h1 with h1; subst h1; exact hr e h2 h3
  rcases hok.pair j i x o hj h1 hi with ho | ⟨-, ha, -⟩
  · exact h.pre hno j x V d (rdy j ho) h1 h3 h2
  · exact absurd ht ((Oper.apart_spec ha).1 d h2)

def tailEnv (s : Know) (xs : Nat → Value) : Env :=
  s.sats.map (fun e => (e.1, xs e.1)) ++ ((match s.ph with | some (some t, _) => [(t, xs t)] | _ => []) ++ s.env)

omit hok hop hm in
theorem order_run (hmr : P.follows .mixedOrders = true) {x : Nat} {a : Act} (h : ∀ t, Run P c (.inRegion l.toArray (Region.linearise.go .any l.toArray l.length t (Array.replicate l.length false) []) :: k) Q a { w0 with drawn := w0.drawn + 1 }) :
    Run P c (.code (.region x l.toArray true) :: k) Q a w0 := by
  refine .regionDraw fun t => ?_
  simp only [Region.schedule, hmr, Bool.true_or, if_true, Region.linearise, List.size_toArray]
  exact h t

omit hop hm in
theorem tail_order {fuel t : Nat} {listed : Array Bool} {j : Nat} (hsz : listed.size = l.length) (hl : ∀ i, Lst listed i ↔ i < j) (hj : es.length ≤ j) (hjl : j ≤ l.length) (hf : l.length ≤ j + fuel) :
    Region.linearise.go .any l.toArray fuel t listed [] = List.range' j (l.length - j) := by
  induction fuel generalizing t listed j with
  | zero => rw [show l.length - j = 0 by omega]; rfl
  | succ fuel ih =>
    simp only [Region.linearise.go]
    change (match (Region.ready .any l.toArray listed)[t % (Region.ready .any l.toArray listed).length]? with
      | some i => Region.linearise.go .any l.toArray fuel (t / (Region.ready .any l.toArray listed).length) (listed.setIfInBounds i true) [i]
      | none => [].reverse) = _
    have only : ∀ i, i ∈ Region.ready .any l.toArray listed → i = j := by
      intro i hi
      obtain ⟨h0, o, ho, hr⟩ := mem_ready.1 hi
      have ho' : l[i]? = some o := by simpa using ho
      have hil : i < l.length := by
        rcases Nat.lt_or_ge i l.length with h | h
        · exact h
        · rw [List.getElem?_eq_none h] at ho'; simp at ho'
      have hge : j ≤ i := by
        rcases Nat.lt_or_ge i j with h | h
        · have h1 := (hl i).2 h
          unfold Lst at h1
          have h2 : i < listed.size := by omega
          simp [h2] at h0 h1
          rw [h0] at h1; simp at h1
        · exact h
      rcases Nat.lt_or_eq_of_le hge with hlt | heq
      · exfalso
        rcases hok.pair j i l[j] o hlt (List.getElem?_eq_getElem (by omega)) ho' with h | ⟨h, -⟩
        · have : Lst listed j := by
            have hback : ∀ a b, Ord l a b → a < b := by
              intro a b hab
              induction hab with
              | edge ho he hb => exact hok.back _ _ ho _ he hb
              | step ho he hb _ ih => exact Nat.lt_trans ih (hok.back _ _ ho _ he hb)
            cases h with
            | edge ho2 he hb =>
              rw [ho'] at ho2; injection ho2 with ho2; subst ho2
              exact hr _ he hb
            | step ho2 he hb h =>
              rw [ho'] at ho2; injection ho2 with ho2; subst ho2
              have h1 := (hl _).1 (hr _ he hb)
              have h2 := hback _ _ h
              omega
          have := (hl j).1 this
          omega
        · simp at h; omega
      · exact heq.symm
    rcases Nat.lt_or_ge j l.length with hlt | hge
    · have hjr : j ∈ Region.ready .any l.toArray listed := by
        refine mem_ready.2 ⟨?_, l[j], by simp [hlt], fun e he hb => (hl _).2 ?_⟩
        · have h1 : ¬ Lst listed j := fun h => by have := (hl j).1 h; omega
          unfold Lst at h1
          have h2 : j < listed.size := by omega
          simp [h2] at h1 ⊢
          exact h1
        · exact hok.back j l[j] (List.getElem?_eq_getElem hlt) e he hb
      have hpos : 0 < (Region.ready .any l.toArray listed).length := List.length_pos_of_mem hjr
      have hget : (Region.ready .any l.toArray listed)[t % (Region.ready .any l.toArray listed).length]? = some j := by
        have hlt' := Nat.mod_lt t hpos
        rw [List.getElem?_eq_getElem hlt']
        rw [only _ (List.getElem_mem hlt')]
      rw [hget]
      simp only
      rw [linearise_go_acc, List.reverse_singleton, List.singleton_append, ih (by simp [hsz]) (j := j + 1) ?_ (by omega) (by omega) (by omega)]
      · rw [show l.length - j = (l.length - (j + 1)) + 1 by omega, List.range'_succ]
      · intro i
        rw [lst_set (by omega), hl]
        omega
    · have hnil : Region.ready .any l.toArray listed = [] := by
        cases hr : Region.ready .any l.toArray listed with
        | nil => rfl
        | cons x xs =>
          have hx : x ∈ Region.ready .any l.toArray listed := by rw [hr]; exact List.mem_cons_self
          have := only x hx
          subst this
          obtain ⟨-, o, ho, -⟩ := mem_ready.1 hx
          have ho' : l[x]? = some o := by simpa using ho
          rw [List.getElem?_eq_none hge] at ho'; simp at ho'
      rw [hnil, show l.length - j = 0 by omega]
      rfl

def AsyT (P : Program) (c : Ctx) (n : Nat) (ds : List Deferred) (E : List Nat) (S : World → World → Prop) (w0 : World) (l : List Oper) (k : List Item) (Q : Out → Act → World → Prop) (s : Know) (rest : List Oper) : Prop :=
  chk l s.mu.reverse l [] = true ∧ earChk s.mu.reverse E l [] = true ∧ ∀ w' (xs : Nat → Value), S w0 w' → (∀ d V, (d, V) ∈ s.sats → V (xs d) w') →
    (match s.ph with | none => Ext w0 w' | some (d, U) => ∃ x, U x w' ∧ ∀ t, d = some t → xs t = x) → RunL P c n ds l.toArray rest k Q (tailEnv s xs) w'

theorem asy_end (htail : AsyT P c n ds E S w0 l k Q (stN l es (know0 env) es.length) (l.drop es.length)) {fuel t : Nat} {listed : Array Bool} {a : Act} {w : World}
    (h : Inv n ds l es env S w0 listed a w) (hc : listed.toList.count false ≤ fuel) (hall : ∀ i, i < es.length → Lst listed i) :
      Run P c (.inRegion l.toArray (Region.linearise.go .any l.toArray fuel t listed []) :: k) Q a w := by
  have hl : ∀ i, Lst listed i ↔ i < es.length := fun i => ⟨h.lt i, hall i⟩
  have hfuel : l.length ≤ es.length + fuel := by
    have h1 : (listed.toList.drop es.length).count false = (listed.toList.drop es.length).length := by
      rw [List.count_eq_length]
      intro b hb
      obtain ⟨i, hi, rfl⟩ := List.getElem_of_mem hb
      have hn : ¬ Lst listed (es.length + i) := fun hh => by have := (hl _).1 hh; omega
      simp only [List.getElem_drop, Array.getElem_toList]
      unfold Lst at hn
      simp only [List.length_drop, Array.length_toList] at hi
      have h2 : es.length + i < listed.size := by omega
      simp only [Array.getD_eq_getD_getElem?, Array.getElem?_eq_getElem h2, Option.getD_some] at hn
      simpa using hn
    have h2 : (listed.toList.drop es.length).count false ≤ listed.toList.count false := (List.drop_sublist _ _).count_le _
    have h3 : (listed.toList.drop es.length).length = l.length - es.length := by simp [h.lsz]
    omega
  rw [tail_order hok (by exact h.lsz) hl (Nat.le_refl _) hm hfuel]
  have hdst : ∀ (i j : Nat) (x o : Oper), i < j → j < es.length → l[i]? = some x → l[j]? = some o → ∀ d, x.dst = some d → o.dst ≠ some d := fun i j x o hij hj hx ho d => hok.dst i j x o hij (by simpa using hj) hx ho d
  have hlt : ∀ (j : Nat) (o : Oper) e, l[j]? = some o → es[j]? = some e → ∀ t, o.dst = some t → t < n := by
    intro j o e ho he
    have := hop j o e ho he
    have hk : dstOk n o.dst = true := by cases e <;> exact this.1
    exact dstOk_lt hk
  have hcell : ∀ t, t < n → a.tmps[t]? = some (a.eval (.tmp t)) := by
    intro t ht
    have : t < a.tmps.size := by rw [h.sz]; exact ht
    simp [Act.eval, Array.getElem?_eq_getElem this]
  have hlen : ∀ {j : Nat} {e : Ent}, es[j]? = some e → j < es.length := by
    intro j e he
    rcases Nat.lt_or_ge j es.length with h | h
    · exact h
    · rw [List.getElem?_eq_none h] at he; simp at he
  have hph := stN_ph (l := l) (es := es) (env := env) es.length (Nat.le_refl _) hm
  have := htail.2.2 w (fun t => a.eval (.tmp t)) h.ext (fun d V hd => by
      obtain ⟨j, o, hj, h1, h2, h3⟩ := stN_sats es.length (Nat.le_refl _) d V hd
      exact h.sat j o V d (hall j hj) h1 h3 h2) (by
      cases hp : (stN l es (know0 env) es.length).ph with
      | none =>
        rw [hp] at hph
        simp only at hph ⊢
        rcases h.wri with ⟨h1, -⟩ | ⟨j, o, U, hj, -, h2, -⟩
        · exact h1
        · have := hph j _ (h.lt j hj) h2; simp [Ent.isMut] at this
      | some x =>
        obtain ⟨d, U⟩ := x
        rw [hp] at hph
        simp only at hph ⊢
        obtain ⟨j, o, hj, h1, h2, h3, h4⟩ := hph
        rcases h.wri with ⟨-, h5⟩ | ⟨i, o', U', hi, h5, h6, h7, y, h8, h9⟩
        · have := h5 j _ (hall j hj) h3; simp [Ent.isMut] at this
        · have hij : i = j := by
            have h10 := h7 j _ (hall j hj) h3 rfl
            rcases Nat.lt_or_eq_of_le h10 with hlt | heq
            · have := h4 i _ hlt (h.lt i hi) h6; simp [Ent.isMut] at this
            · exact heq.symm
          subst hij
          rw [h1] at h5; injection h5 with h5; subst h5
          rw [h3] at h6; injection h6 with h6; injection h6 with h6; subst h6
          exact ⟨y, h8, fun t ht => h9 t (by rw [h2, ht])⟩)
  have hrun := this es.length (by simp) a ⟨h.sz, h.df, ?_⟩
  · rw [List.length_drop] at hrun; exact hrun
  · intro t v ht
    unfold tailEnv at ht
    have app : ∀ (A B : Env) (t : Nat) (v : Value), Env.get (A ++ B) t = some v → (t, v) ∈ A ∨ Env.get B t = some v := by
      intro A
      induction A with
      | nil => intro B t v h; exact .inr h
      | cons e r ih =>
        intro B t v h
        obtain ⟨kk, u⟩ := e
        by_cases hk : kk = t
        · subst hk
          rw [List.cons_append, Env.get_cons_same] at h
          injection h with h; subst h; exact .inl List.mem_cons_self
        · rw [List.cons_append, Env.get_cons_ne hk] at h
          rcases ih B t v h with h | h
          · exact .inl (List.mem_cons_of_mem _ h)
          · exact .inr h
    rcases app _ _ _ _ ht with ht | ht
    · obtain ⟨⟨d, V⟩, hd, he⟩ := List.mem_map.1 ht
      simp only at he
      injection he with h1 h2; subst h1; subst h2
      obtain ⟨j, o, hj, h1, h2, h3⟩ := stN_sats es.length (Nat.le_refl _) d V hd
      exact hcell d (hlt j o _ h1 h3 d h2)
    · rcases app _ _ _ _ ht with ht | ht
      · cases hp : (stN l es (know0 env) es.length).ph with
        | none => rw [hp] at ht; simp at ht
        | some x =>
          obtain ⟨d, U⟩ := x
          rw [hp] at ht hph
          cases d with
          | none => simp at ht
          | some d =>
            simp only [List.mem_singleton] at ht
            injection ht with h1 h2; subst h1; subst h2
            obtain ⟨j, o, hj, h1, h2, h3, -⟩ := hph
            exact hcell _ (hlt j o _ h1 h3 _ h2)
      · rcases stN_env hdst es.length (Nat.le_refl _) t v ht with ⟨j, o, hj, h1, h2, h3⟩ | ⟨h1, h2⟩
        · exact h.val j o v t (hall j hj) h1 h3 h2
        · exact h.base t v h2 fun j o hj hx => h1 j o (h.lt j hj) hx

theorem asy_go (hS : RelOk S) (hear : ∀ i ∈ E, ∀ j, (es.map Ent.isMut).getD j false = true → j < l.length → Ord l i j) (htail : AsyT P c n ds E S w0 l k Q (stN l es (know0 env) es.length) (l.drop es.length)) :
    ∀ (fuel t : Nat) (listed : Array Bool) (a : Act) (w : World), Inv n ds l es env S w0 listed a w → listed.toList.count false ≤ fuel →
      Run P c (.inRegion l.toArray (Region.linearise.go .any l.toArray fuel t listed []) :: k) Q a w := by
  intro fuel
  induction fuel with
  | zero =>
    intro t listed a w h hc
    refine asy_end hok hop hm htail h hc fun i hi => ?_
    unfold Lst
    have h2 : i < listed.size := by rw [h.lsz]; omega
    simp only [Array.getD_eq_getD_getElem?, Array.getElem?_eq_getElem h2, Option.getD_some]
    cases hb : listed[i] with
    | true => rfl
    | false =>
      have : false ∈ listed.toList := by rw [← hb]; simp
      have := List.count_pos_iff.2 this
      omega
  | succ fuel ih =>
    intro t listed a w h hc
    by_cases hall : ∀ i, i < es.length → Lst listed i
    · exact asy_end hok hop hm htail h hc hall
    · -- the least one that is not listed may come next
      have hex : ∃ i, i < es.length ∧ ¬ Lst listed i := by
        refine Classical.byContradiction fun hn => hall fun i hi => Classical.byContradiction fun hc => hn ⟨i, hi, hc⟩
      have unl : ∀ i, i < es.length → ¬ Lst listed i → listed.getD i true = false := by
        intro i hi hn
        have h2 : i < listed.size := by rw [h.lsz]; omega
        unfold Lst at hn
        simp only [Array.getD_eq_getD_getElem?, Array.getElem?_eq_getElem h2, Option.getD_some] at hn ⊢
        simpa using hn
      obtain ⟨i0, hi0, hmin⟩ : ∃ i, (i < es.length ∧ ¬ Lst listed i) ∧ ∀ j, j < i → Lst listed j := by
        obtain ⟨i, hi, hn⟩ := hex
        induction i using Nat.strongRecOn with
        | ind i ihi =>
          by_cases hq : ∀ j, j < i → Lst listed j
          · exact ⟨i, ⟨hi, hn⟩, hq⟩
          · obtain ⟨j, hj, hnj⟩ : ∃ j, j < i ∧ ¬ Lst listed j := Classical.byContradiction fun hn' => hq fun j hj => Classical.byContradiction fun hc => hn' ⟨j, hj, hc⟩
            exact ihi j hj (by omega) hnj
      have hr0 : i0 ∈ Region.ready .any l.toArray listed := by
        have hil : i0 < l.length := by omega
        refine mem_ready.2 ⟨unl i0 hi0.1 hi0.2, l[i0], by simp [hil], fun e he hb => hmin _ ?_⟩
        exact hok.back i0 l[i0] (List.getElem?_eq_getElem hil) e he hb
      simp only [Region.linearise.go]
      change Run P c (.inRegion l.toArray (match (Region.ready .any l.toArray listed)[t % (Region.ready .any l.toArray listed).length]? with
        | some i => Region.linearise.go .any l.toArray fuel (t / (Region.ready .any l.toArray listed).length) (listed.setIfInBounds i true) [i]
        | none => [].reverse) :: k) Q a w
      have hpos : 0 < (Region.ready .any l.toArray listed).length := List.length_pos_of_mem hr0
      have hlt' := Nat.mod_lt t hpos
      rw [List.getElem?_eq_getElem hlt']
      have hi := List.getElem_mem hlt'
      generalize (Region.ready .any l.toArray listed)[t % (Region.ready .any l.toArray listed).length] = i at hi ⊢
      simp only
      rw [linearise_go_acc, List.reverse_singleton, List.singleton_append]
      obtain ⟨h0, o, ho, hr⟩ := mem_ready.1 hi
      have ho' : l[i]? = some o := by simpa using ho
      have hil : i < l.length := by
        rcases Nat.lt_or_ge i l.length with h | h
        · exact h
        · rw [List.getElem?_eq_none h] at ho'; simp at ho'
      have hsz : i < listed.size := by rw [h.lsz]; exact hil
      have hun : ¬ Lst listed i := by
        unfold Lst
        simp only [Array.getD_eq_getD_getElem?, Array.getElem?_eq_getElem hsz, Option.getD_some] at h0 ⊢
        rw [h0]; simp
      have hie : i < es.length := by
        rcases Nat.lt_or_ge i es.length with h' | h'
        · exact h'
        · exfalso
          have hlt : i0 < i := by omega
          rcases hok.pair i0 i l[i0] o hlt (List.getElem?_eq_getElem (by omega)) ho' with h1 | ⟨h1, -⟩
          · exact hi0.2 (ord_listed h.down h1 fun o' e h2 h3 h4 => by
              rw [ho'] at h2; injection h2 with h2; subst h2; exact hr e h3 h4)
          · simp at h1; omega
      have he : es[i]? = some es[i] := List.getElem?_eq_getElem hie
      have hO := hop i o _ ho' he
      have hcount : (listed.setIfInBounds i true).toList.count false ≤ fuel := by
        have h1 : listed[i] = false := by
          simpa only [Array.getD_eq_getD_getElem?, Array.getElem?_eq_getElem hsz, Option.getD_some] using h0
        rw [Array.toList_setIfInBounds, List.count_set (by simpa using hsz)]
        simp only [Array.getElem_toList, h1]
        simp only [beq_self_eq_true, if_true]
        rw [if_neg (by decide)]
        omega
      have step : ∀ {v : Value} {w' : World}, S w w' → (es[i].isMut = false → Ext w w') → es[i].Holds v w' →
          Run P c (.inRegion l.toArray (Region.linearise.go .any l.toArray fuel (t / (Region.ready .any l.toArray listed).length) (listed.setIfInBounds i true) []) :: k) Q (a.put o.dst v) w' :=
        fun hx hx' hv => ih _ _ _ _ (h.next hok hop hm hS ho' he hun hr hx hx' hv) hcount
      -- what the operation reads
      let ρ : Operand → Value := fun x => match x with
        | .tmp t => bif (o.looksAt l.toArray).contains t then a.eval (.tmp t) else ((stN l es (know0 env) i).env.get t).getD undef
        | x => a.eval x
      have hρt : ∀ t, t ∈ o.looksAt l.toArray → ρ (.tmp t) = a.eval (.tmp t) := by
        intro t ht
        have : (o.looksAt l.toArray).contains t = true := by simpa using ht
        simp only [ρ, this, cond_true]
      have hgo : Goes l.toArray (stN l es (know0 env) i) o w ρ := by
        refine ⟨?_, ?_⟩
        · intro x v hx
          cases x with
          | tmp t =>
            by_cases ht : t ∈ o.looksAt l.toArray
            · rw [hρt t ht]
              have := h.read hok ho' hie hun hr ht hx
              simp [Act.eval, this]
            · have hb : (o.looksAt l.toArray).contains t = false := by simpa using ht
              simp only [evO] at hx
              simp only [ρ, hb, cond_false, hx, Option.getD_some]
          | const u => simpa [evO, Act.eval, ρ] using hx
          | global g => simpa [evO, Act.eval, ρ] using hx
          | func f => simpa [evO, Act.eval, ρ] using hx
        · intro d V hd hl
          rw [hρt d hl]
          exact h.readS hok ho' hie hr hl hd
      have hcong : isSel o.op = false → execOp ρ o = execOp a.eval o := by
        intro hs
        refine execOp_congr o (fun cs b e => by rw [e] at hs; simp [isSel] at hs) fun x hx => ?_
        cases x with
        | tmp t =>
          refine hρt t ?_
          exact List.mem_append_left _ (List.mem_filterMap.2 ⟨.tmp t, by simpa using hx, rfl⟩)
        | _ => rfl
      have hwant : ∀ b, wantE l.toArray.toList (stN l es (know0 env) i).env o = some b → Region.wanted o (yielded l.toArray a.tmps) = b := by
        intro b hb
        unfold wantE at hb
        unfold Region.wanted
        split at hb
        · rename_i hg; simp at hb; subst hb; simp [hg]
        · rename_i j b0 hg
          rw [hg]
          split at hb
          · rename_i t' ht'
            have hd : (l.toArray[j]?).bind (·.dst) = some t' := by simpa using ht'
            have hlook : t' ∈ o.looksAt l.toArray := List.mem_append_right _ (by simp only [hg, hd]; simp)
            split at hb
            · rename_i b' hb'
              have := h.read hok ho' hie hun hr hlook hb'
              simp only [yielded, hd, Option.bind_some, this]
              simp at hb; subst hb
              cases b0 <;> cases b' <;> rfl
            · rename_i hb'
              have := h.read hok ho' hie hun hr hlook hb'
              simp only [yielded, hd, Option.bind_some, this]
              simp at hb; subst hb
              cases b0 <;> rfl
            · simp at hb
          · simp at hb
      cases hE : es[i] with
      | val v =>
        rw [hE] at hO step
        obtain ⟨hdk, hsel, hw | ⟨hw, hdf, hex⟩⟩ := hO
        · refine Run.opSkip (by rw [ho]; simp [hwant _ hw.1]) ?_
          rw [ho]
          exact step (hS.refl w) (fun _ => ExtB.refl _ w) hw.2.symm
        · refine Run.op ho (hwant _ hw) hdf ?_
          rw [← hcong hsel]
          have hW : if E.contains (stN l es (know0 env) i).mu.length = true then Ext w0 w else S w0 w := by
            have hlen : (stN l es (know0 env) i).mu.length = i := by
              rw [stN_mu i (by omega) (by omega), List.length_reverse, List.length_map, List.length_take]; omega
            rw [hlen]
            split
            · rename_i hE'
              rcases h.wri with ⟨h1, -⟩ | ⟨j, x, U, hj, hx, h2, -⟩
              · exact h1
              · exfalso
                have hjl : j < l.length := by have := h.lt j hj; omega
                have ho := hear i (by simpa using hE') j (mu_getD.2 ⟨_, h2, rfl⟩) hjl
                exact hun (ord_listed h.down ho fun o e h1 h2 h3 => h.down j o e hj h1 h2 h3)
            · exact h.ext
          exact (hex w ρ hW hgo).mono (fun u w' hu => step (hS.of_ext hu.2) (fun _ => hu.2) hu.1) (fun _ _ hf => hf.elim)
      | sat V =>
        rw [hE] at hO step
        obtain ⟨hdk, hsel, hw, hdf, -, hex⟩ := hO
        refine Run.op ho (hwant _ hw) hdf ?_
        rw [← hcong hsel]
        exact (hex w ρ h.ext hgo).mono (fun u w' hu => step (hS.of_ext hu.1) (fun _ => hu.1) hu.2) (fun _ _ hf => hf.elim)
      | pre V =>
        rw [hE] at hO step
        obtain ⟨hdk, hsel, hw, hdf, -, hex⟩ := hO
        refine Run.op ho (hwant _ hw) hdf ?_
        rw [← hcong hsel]
        exact (hex w ρ h.ext hgo).mono (fun u w' hu => step (hS.of_ext hu.1) (fun _ => hu.1) hu.2) (fun _ _ hf => hf.elim)
      | wri V =>
        rw [hE] at hO step
        obtain ⟨hdk, hsel, hw, hdf, -, hex⟩ := hO
        refine Run.op ho (hwant _ hw) hdf ?_
        rw [← hcong hsel]
        have hnone : (stN l es (know0 env) i).ph = none → ∀ (j : Nat) e, Lst listed j → es[j]? = some e → e.isMut = false := by
          intro hp j e' hj he'
          have hph := stN_ph (l := l) (es := es) (env := env) i (by omega) (by omega)
          rw [hp] at hph
          simp only at hph
          rw [hE] at he
          cases hm' : e'.isMut with
          | false => rfl
          | true =>
            have hlt := wri_lt hok hm h he rfl hun hj he' hm'
            have := hph j _ hlt he'; rw [hm'] at this; simp at this
        refine (hex w ρ ?_ hgo (fun hp d V hd hl => by rw [hρt d hl]; exact h.readP hok ho' hie hr (hnone hp) hl hd)).mono (fun u w' hu => step hu.1 (fun hf => by simp [Ent.isMut] at hf) hu.2) (fun _ _ hf => hf.elim)
        have hph := stN_ph (l := l) (es := es) (env := env) i (by omega) (by omega)
        unfold PhOk
        rw [hE] at he
        cases hp : (stN l es (know0 env) i).ph with
        | none =>
          rw [hp] at hph
          simp only at hph ⊢
          rcases h.wri with ⟨h1, -⟩ | ⟨j, x, U, hj, -, h2, -⟩
          · exact h1
          · have hlt := wri_lt hok hm h he rfl hun hj h2 rfl
            have := hph j _ hlt h2; simp [Ent.isMut] at this
        | some y =>
          obtain ⟨d, U⟩ := y
          rw [hp] at hph
          simp only at hph ⊢
          obtain ⟨j, x, hj, h1, h2, h3, h4⟩ := hph
          have hlj : Lst listed j := by
            rcases hok.pair j i x o hj h1 ho' with h5 | ⟨-, -, h5⟩
            · exact ord_listed h.down h5 fun o' e h2 h3 h4 => by
                rw [ho'] at h2; injection h2 with h2; subst h2; exact hr e h3 h4
            · exact absurd ⟨mu_getD.2 ⟨_, h3, rfl⟩, mu_getD.2 ⟨_, he, rfl⟩⟩ h5
          rcases h.wri with ⟨-, h5⟩ | ⟨i', o', U', hi', h5, h6, h7, y, h8, h9⟩
          · have := h5 j _ hlj h3; simp [Ent.isMut] at this
          · have hij : i' = j := by
              have h10 := h7 j _ hlj h3 rfl
              rcases Nat.lt_or_eq_of_le h10 with hlt | heq
              · have h11 := wri_lt hok hm h he rfl hun hi' h6 rfl
                have := h4 i' _ hlt h11 h6; simp [Ent.isMut] at this
              · exact heq.symm
            subst hij
            rw [h1] at h5; injection h5 with h5; subst h5
            rw [h3] at h6; injection h6 with h6; injection h6 with h6; subst h6
            exact ⟨h.ext, y, h8, fun t ht hl => by rw [hρt t hl]; exact h9 t (by rw [h2, ht])⟩
end

/-- Of a region whose order is drawn. -/
def Asy (P : Program) (c : Ctx) (n : Nat) (ds : List Deferred) (E : List Nat) (S : World → World → Prop) (w0 : World) (l : List Oper) (k : List Item) (Q : Out → Act → World → Prop) (rest : List Oper) (s : Know) : Prop :=
  ∃ es, AsyF P n E S w0 l.toArray (AsyT P c n ds E S w0 l k Q) es rest s

theorem RunE.draw {P : Program} {c : Ctx} {n : Nat} {ds : List Deferred} {k : List Item} {Q : Out → Act → World → Prop} {env : Env} {w : World} {l : List Oper} {id : Nat} (E : List Nat) (S : World → World → Prop) (hS : RelOk S)
    (hmr : P.follows .mixedOrders = true) (h : ∀ w0, Ext w w0 → Asy P c n ds E S w0 l k Q l (know0 env)) : RunE P c n ds (.code (.region id l.toArray true) :: k) Q env w := fun a ha => by
  refine order_run hmr fun t => ?_
  obtain ⟨es, hF⟩ := h _ ((ExtB.refl _ w).draw (w.drawn + 1) (Nat.le_succ _))
  obtain ⟨hm, hop, htail⟩ := asyF_all hF
  have hmu : (stN l es (know0 env) es.length).mu.reverse = es.map Ent.isMut := by
    rw [stN_mu es.length (Nat.le_refl _) hm, List.reverse_reverse, List.take_length]
  have hok : Okay l (es.map Ent.isMut) := chk_okay (by rw [← hmu]; exact htail.1)
  refine asy_go hok hop hm hS (by rw [← hmu]; exact earChk_ok htail.2.1) htail l.length t _ a _ ?_ ?_
  · have hn : ∀ j, ¬ Lst (Array.replicate l.length false) j := by
      intro j hj
      unfold Lst at hj
      simp only [Array.getD_eq_getD_getElem?, Array.getElem?_replicate] at hj
      split at hj <;> simp at hj
    refine ⟨by simp, ha.size, ha.defers, hS.refl _, fun j hj => (hn j hj).elim, fun j _ _ hj => (hn j hj).elim, fun j _ _ _ hj => (hn j hj).elim, fun j _ _ _ hj => (hn j hj).elim,
      .inl ⟨ExtB.refl _ _, fun j _ hj => (hn j hj).elim⟩, fun t v ht _ => ha.get t v ht, fun _ j _ _ _ hj => (hn j hj).elim⟩
  · refine Nat.le_trans List.count_le_length ?_
    simp
end Go.RnK
/-! AsyKL: its steps. -/
namespace Go.RnK
open Go.RowKit Go.Rn
section
variable {P : Program} {c : Ctx} {k : List Item} {Q : Out → Act → World → Prop} {w0 : World} {n : Nat} {ds : List Deferred} {env : Env} {E : List Nat} {S : World → World → Prop} {sats pres : List (Nat × Pred)} {ph : Option (Option Nat × Pred)} {mu : List Bool}
variable {l : List Oper} {d : Tmp} {op : Op} {ty : TypeId} {pos : String} {after : Array Edge} {guard : Option (Nat × Bool)} {rest : List Oper}
theorem Asy.step {o : Oper} {s : Know} {e : Ent} (h : OpOk P n E S w0 l.toArray s o e) (h' : Asy P c n ds E S w0 l k Q rest (s.add o.dst e)) : Asy P c n ds E S w0 l k Q (o :: rest) s :=
  let ⟨es, hes⟩ := h'; ⟨e :: es, h, hes⟩
/-- A value that the world does not touch. -/
theorem Asy.pure {T : Tab} (hT : T.Ok P) {v : Value} (hw : wantE l env ⟨some d, op, ty, pos, after, guard⟩ = some true) (hdst : Nat.blt d n = true) (hv : evalOp T env op = some v)
    (h : Asy P c n ds E S w0 l k Q rest ⟨(d, v) :: env, sats, ph, false :: mu, pres⟩) : Asy P c n ds E S w0 l k Q (⟨some d, op, ty, pos, after, guard⟩ :: rest) ⟨env, sats, ph, mu, pres⟩ :=
  .step (e := .val v) ⟨hdst, evalOp_notSel hv, .inr ⟨hw, evalOp_notDefer hv, fun w' ρ _ hg => (evalOp_v (w := w') hT (o := ⟨some d, op, ty, pos, after, guard⟩) hv).e ρ hg.ev |>.mono (fun _ _ h => ⟨h.1, by rw [h.2]; exact ExtB.refl _ _⟩) (fun _ _ h => h)⟩⟩ h
theorem Asy.val {v : Value} (hw : wantE l env ⟨some d, op, ty, pos, after, guard⟩ = some true) (hdst : Nat.blt d n = true) (hd : isDefer op = false) (hs : isSel op = false)
    (hv : ∀ w', OpV P env w' ⟨some d, op, ty, pos, after, guard⟩ v)
    (h : Asy P c n ds E S w0 l k Q rest ⟨(d, v) :: env, sats, ph, false :: mu, pres⟩) : Asy P c n ds E S w0 l k Q (⟨some d, op, ty, pos, after, guard⟩ :: rest) ⟨env, sats, ph, mu, pres⟩ :=
  .step (e := .val v) ⟨hdst, hs, .inr ⟨hw, hd, fun w' ρ _ hg => (hv w').e ρ hg.ev |>.mono (fun _ _ h => ⟨h.1, by rw [h.2]; exact ExtB.refl _ _⟩) (fun _ _ h => h)⟩⟩ h
/-- It comes before all that write. -/
theorem Asy.early {v : Value} (he : E.contains mu.length = true) (hw : wantE l env ⟨some d, op, ty, pos, after, guard⟩ = some true) (hdst : Nat.blt d n = true) (hd : isDefer op = false) (hs : isSel op = false)
    (hv : ∀ w', Ext w0 w' → OpV P env w' ⟨some d, op, ty, pos, after, guard⟩ v)
    (h : Asy P c n ds E S w0 l k Q rest ⟨(d, v) :: env, sats, ph, false :: mu, pres⟩) : Asy P c n ds E S w0 l k Q (⟨some d, op, ty, pos, after, guard⟩ :: rest) ⟨env, sats, ph, mu, pres⟩ :=
  .step (e := .val v) ⟨hdst, hs, .inr ⟨hw, hd, fun w' ρ hx hg => (hv w' (by rw [if_pos he] at hx; exact hx)).e ρ hg.ev |>.mono (fun _ _ h => ⟨h.1, by rw [h.2]; exact ExtB.refl _ _⟩) (fun _ _ h => h)⟩⟩ h
theorem Asy.wriN (V : World → Prop) (hw : wantE l env ⟨none, op, ty, pos, after, guard⟩ = some true) (hd : isDefer op = false) (hs : isSel op = false)
    (hV : ∀ w' w'', Ext w' w'' → V w' → V w'')
    (h : ∀ w', Ext w0 w' → OpE P env w' ⟨none, op, ty, pos, after, guard⟩ (fun _ w'' => S w' w'' ∧ V w'') fun _ _ => False)
    (h' : Asy P c n ds E S w0 l k Q rest ⟨env, sats, some (none, fun _ w => V w), true :: mu, pres⟩) : Asy P c n ds E S w0 l k Q (⟨none, op, ty, pos, after, guard⟩ :: rest) ⟨env, sats, none, mu, pres⟩ :=
  .step (e := .wri fun _ w => V w) ⟨rfl, hs, hw, hd, fun _ w' w'' _ e h => hV w' w'' e h, fun w' ρ hx hg _ => h w' hx ρ hg.ev⟩ h'
theorem Asy.tailN {U : Pred} (hc : chk l mu.reverse l [] = true) (he : earChk mu.reverse E l [] = true) (h : ∀ w' x, S w0 w' → U x w' → RunL P c n ds l.toArray rest k Q env w') :
    Asy P c n ds E S w0 l k Q rest ⟨env, [], some (none, U), mu, pres⟩ :=
  ⟨[], hc, he, fun w' xs hx _ hp i hi a ha => by
    obtain ⟨x, hU, -⟩ := hp
    exact h w' x hx hU i hi a (ha.sub fun t v ht => ht)⟩
end
end Go.RnK
end
section
/- Functions that are ranged over and change a state of their own; more steps where the order is drawn. -/
namespace Go.RnK
open Go.RowKit Go.Rn
section
variable {P : Program} {c : Ctx} {k : List Item} {Q : Out → Act → World → Prop} {w0 : World} {n : Nat} {ds : List Deferred} {env : Env} {S : World → World → Prop} {sats pres : List (Nat × Pred)} {ph : Option (Option Nat × Pred)} {mu : List Bool}
variable {l : List Oper} {d : Tmp} {op : Op} {ty : TypeId} {pos : String} {after : Array Edge} {guard : Option (Nat × Bool)} {rest : List Oper}
theorem Asy.vS {v : Value} (hw : wantE l env ⟨some d, op, ty, pos, after, guard⟩ = some true) (hdst : Nat.blt d n = true) (hd : isDefer op = false) (hs : isSel op = false)
    (hv : ∀ w', S w0 w' → OpV P env w' ⟨some d, op, ty, pos, after, guard⟩ v)
    (h : Asy P c n ds [] S w0 l k Q rest ⟨(d, v) :: env, sats, ph, false :: mu, pres⟩) : Asy P c n ds [] S w0 l k Q (⟨some d, op, ty, pos, after, guard⟩ :: rest) ⟨env, sats, ph, mu, pres⟩ :=
  .step (e := .val v) ⟨hdst, hs, .inr ⟨hw, hd, fun w' ρ hx hg => (hv w' (by simpa using hx)).e ρ hg.ev |>.mono (fun _ _ h => ⟨h.1, by rw [h.2]; exact ExtB.refl _ _⟩) (fun _ _ h => h)⟩⟩ h
theorem Asy.sat0 (V : Pred) (hw : wantE l env ⟨some d, op, ty, pos, after, guard⟩ = some true) (hdst : Nat.blt d n = true) (hd : isDefer op = false) (hs : isSel op = false)
    (hV : ∀ v w' w'', S w0 w' → S w' w'' → V v w' → V v w'')
    (h : ∀ w', S w0 w' → OpE P env w' ⟨some d, op, ty, pos, after, guard⟩ (fun u w'' => Ext w' w'' ∧ V u w'') fun _ _ => False)
    (h' : Asy P c n ds [] S w0 l k Q rest ⟨env.del (some d), (d, V) :: sats, ph, false :: mu, pres⟩) : Asy P c n ds [] S w0 l k Q (⟨some d, op, ty, pos, after, guard⟩ :: rest) ⟨env, sats, ph, mu, pres⟩ :=
  .step (e := .sat V) ⟨hdst, hs, hw, hd, hV, fun w' ρ hx hg => h w' hx ρ hg.ev⟩ h'
theorem Asy.wri0 (V : Pred) (hw : wantE l env ⟨some d, op, ty, pos, after, guard⟩ = some true) (hdst : Nat.blt d n = true) (hd : isDefer op = false) (hs : isSel op = false)
    (hV : ∀ v w' w'', S w0 w' → Ext w' w'' → V v w' → V v w'')
    (h : ∀ w', Ext w0 w' → OpE P env w' ⟨some d, op, ty, pos, after, guard⟩ (fun u w'' => S w' w'' ∧ V u w'') fun _ _ => False)
    (h' : Asy P c n ds [] S w0 l k Q rest ⟨env.del (some d), sats, some (some d, V), true :: mu, pres⟩) : Asy P c n ds [] S w0 l k Q (⟨some d, op, ty, pos, after, guard⟩ :: rest) ⟨env, sats, none, mu, pres⟩ :=
  .step (e := .wri V) ⟨hdst, hs, hw, hd, hV, fun w' ρ hx hg _ => h w' hx ρ hg.ev⟩ h'
theorem Asy.wri1 {t : Nat} {U : Pred} (V : Pred) (hl : (Oper.looksAt l.toArray ⟨some d, op, ty, pos, after, guard⟩).contains t = true)
    (hw : wantE l env ⟨some d, op, ty, pos, after, guard⟩ = some true) (hdst : Nat.blt d n = true) (hd : isDefer op = false) (hs : isSel op = false)
    (hV : ∀ v w' w'', S w0 w' → Ext w' w'' → V v w' → V v w'')
    (h : ∀ w' x, S w0 w' → U x w' → OpE P ((t, x) :: env) w' ⟨some d, op, ty, pos, after, guard⟩ (fun u w'' => S w' w'' ∧ V u w'') fun _ _ => False)
    (h' : Asy P c n ds [] S w0 l k Q rest ⟨env.del (some d), sats, some (some d, V), true :: mu, pres⟩) : Asy P c n ds [] S w0 l k Q (⟨some d, op, ty, pos, after, guard⟩ :: rest) ⟨env, sats, some (some t, U), mu, pres⟩ :=
  .step (e := .wri V) ⟨hdst, hs, hw, hd, hV, fun w' ρ ⟨hx, x, hU, hr⟩ hg _ => h w' x hx hU ρ (ev_cons hg.ev (hr t rfl (by simpa using hl)))⟩ h'
theorem Asy.tailW {t : Nat} {U : Pred} (hc : chk l mu.reverse l [] = true) (he : earChk mu.reverse [] l [] = true) (h : ∀ w' x, S w0 w' → U x w' → satsAll sats w' ((t, x) :: env) fun e => RunL P c n ds l.toArray rest k Q e w') :
    Asy P c n ds [] S w0 l k Q rest ⟨env, sats, some (some t, U), mu, pres⟩ :=
  ⟨[], hc, he, fun w' xs hx hs hp i hi a ha => by
    obtain ⟨x, hU, hr⟩ := hp
    have hx' := hr t rfl
    subst hx'
    exact satsAll_run (xs := xs) sats _ hs (h w' _ hx hU) i hi a (ha.sub fun t' v ht => get_swap (A := sats.map fun s => (s.1, xs s.1)) (xs := xs) (by
      intro t v hm
      obtain ⟨s, -, he⟩ := List.mem_map.1 hm
      injection he with h1 h2; subst h1; exact h2.symm) t' v ht)⟩
end
end Go.RnK
namespace Go.Rn
open Go.RowKit
/-- f, called with a yield that goes on, hands it xs in this order; K is what it keeps, G the blocks that matter to it; nothing that W0 had is written. -/
def GivesM (P : Program) (f : Value) (xs : List (List Value)) (K : Nat → (Nat → Prop) → World → Prop) (W0 : World) : Prop :=
  ∀ (J : (Nat → Prop) → Nat → World → Prop) (y : Value) (w : World) (G0 : Nat → Prop), K 0 G0 w → J G0 0 w →
    (∀ G G' i w1 w2, J G i w1 → ExtB (fun k => G k ∧ W0.heap.size ≤ k) w1 w2 → (∀ k, G' k → G k ∨ w1.heap.size ≤ k) → J G' i w2) →
    (∀ G i x w1, xs[i]? = some x → (∀ k, G k → k < w1.heap.size) → J G i w1 → FnV P y x w1 (fun r w2 => r = .bool true ∧ J G (i + 1) w2 ∧ ExtB (fun k => ¬ G k) w1 w2) fun _ _ => False) →
    FnV P f [y] w (fun _ w' => ∃ G, K xs.length G w' ∧ J G xs.length w') fun _ _ => False
section
variable {P : Program} {c : Ctx} {k : List Item} {Q : Out → Act → World → Prop} {w : World} {n : Nat} {ds : List Deferred} {env : Env}
theorem RunE.rangeGivesM {f : Operand} {params : Array Tmp} {assign body : Code} {fv : Value} {xs : List (List Value)} {K : Nat → (Nat → Prop) → World → Prop} {W0 : World} {G0 : Nat → Prop} (hc : c.round = none) (hfn : ∃ g, P.funcs[c.fn]? = some g)
    (hf : evO env f = some fv) (hG : GivesM P fv xs K W0) (hG0 : ∀ k, G0 k → k < w.heap.size)
    (hlen : ∀ x ∈ xs, x.length = params.toList.length) (hp : params.toList.all (Nat.blt · n) = true) (J : (Nat → Prop) → Nat → World → Prop)
    (hK : ∀ w2, Ext w w2 → K 0 G0 w2) (h0 : ∀ w2, Ext w w2 → w2.heap.size = w.heap.size + 2 → J G0 0 w2)
    (hJsz : ∀ G i w1, J G i w1 → w.heap.size + 2 ≤ w1.heap.size)
    (hJup : ∀ G G' i w1 w2, (∀ k, G k → k ≠ w.heap.size ∧ k ≠ w.heap.size + 1) → J G i w1 → ExtB (fun k => (k = w.heap.size ∨ k = w.heap.size + 1) ∨ G k ∧ W0.heap.size ≤ k) w1 w2 → (∀ k, G' k → G k ∨ w1.heap.size ≤ k) → J G' i w2)
    (hb : ∀ G i x w1 lp, xs[i]? = some x → (∀ k, G k → k < w1.heap.size ∧ k ≠ w.heap.size ∧ k ≠ w.heap.size + 1) → J G i w1 → LoopAt w1 (w.heap.size + 1) w.heap.size lp → lp.state = .ready →
      RunE P ⟨c.fn, .normal, some (w.heap.size + 1)⟩ n [] [.code assign, .beginRound, .code body] (RoundJ (w.heap.size + 1) w.heap.size lp fun w2 => J G (i + 1) w2 ∧ ExtB (fun k => ¬ G k) w1 w2) (parEnv params.toList x env) w1)
    (h : ∀ G w', K xs.length G w' → J G xs.length w' → w'.heap[w.heap.size]? = some (.deferred (some [])) → (∀ k, G k → k ≠ w.heap.size ∧ k ≠ w.heap.size + 1) → RunE P c n (markOf w.heap.size :: ds) k Q env w')
    (hKup : ∀ G i w1 w2, K i G w1 → ExtB (fun k => ¬ G k) w1 w2 → K i G w2) :
    RunE P c n ds (.code (.rangeFunc f params assign body) :: k) Q env w := by
  refine RunE.rangeFunc hc hf fun a D L w1 w2 lp hst h1 h2 hlp => ?_
  obtain rfl : D = w.heap.size := h1.eq
  have e2 := h2.eq
  rw [h1.size] at e2
  subst e2
  have hX2 : Ext w w2 := h1.ext.trans h2.ext
  have hL2 : LoopAt w2 (w.heap.size + 1) w.heap.size lp := ⟨h2.at_, obj_ext h1.at_ h2.ext id⟩
  have hsz : w2.heap.size = w.heap.size + 2 := h2.size
  refine FnV.mono (hG (fun G i w' => J G i w' ∧ LoopAt w' (w.heap.size + 1) w.heap.size lp ∧ ∀ k, G k → k ≠ w.heap.size ∧ k ≠ w.heap.size + 1) (yieldV (w.heap.size + 1)) w2 G0 (hK _ hX2) ⟨h0 w2 hX2 hsz, hL2, fun k hk => by have := hG0 k hk; omega⟩ ?_ ?_) ?_ (fun _ _ h => h)
  · rintro G G' i u u' ⟨hj, hl, hn⟩ e hg
    have hs := hJsz _ _ _ hj
    exact ⟨hJup G G' i u u' hn hj (e.mono fun k _ h => .inr h) hg, hl.ext e (fun h => (hn _ h.1).2 rfl) (fun h => (hn _ h.1).1 rfl), fun k hk => by
      rcases hg k hk with h | h
      · exact hn k h
      · omega⟩
  · rintro G i x u hx hlt ⟨hj, hl, hn⟩
    refine Yield.run (env := env) hl.l hfn hst (params := params.toList) (assign := assign) (body := body) (by simpa using hlp) (hlen x (List.mem_of_getElem? hx)) hp rfl ?_
    intro a' ha' cs
    obtain ⟨o, a1, u1, hq, hfin⟩ := hb G i x u lp hx (fun k hk => ⟨hlt k hk, hn k hk⟩) hj hl hlp.state a' ha' cs
    refine ⟨o, a1, u1, ?_, hfin⟩
    cases o with
    | fall =>
      obtain ⟨⟨hK1, hE1⟩, hl1⟩ := hq
      refine ⟨_, hl1.l, fun u2 t2 => ⟨rfl, ⟨hJup G G _ _ _ hn hK1 (t2.ext.mono fun k _ h => .inl (.inr h)) (fun k hk => .inl hk), ?_, hn⟩, ?_⟩⟩
      · have := t2.at_
        exact ⟨by rwa [show ({ ({ lp with state := .busy } : Loop) with state := .ready, pending := none } : Loop) = lp from hlp.back] at this, obj_ext hl1.d t2.ext (by omega)⟩
      · exact hE1.trans (t2.ext.mono fun k _ h hk => (hn k hk).2 h)
    | ret => exact hq.elim
    | exit id => exact hq.elim
    | panic ch => exact hq.elim
  · rintro _ w3 ⟨G, hk, hj, hl, hn⟩
    refine ⟨lp, hl.l, by rw [hlp.state]; rfl, fun w4 t4 => ?_⟩
    rw [hlp.pending]
    refine RunE.at_ hst (h G w4 (hKup _ _ _ _ hk (t4.ext.mono fun k _ h hk => (hn k hk).2 h)) (hJup G G _ _ _ hn hj (t4.ext.mono fun k _ h => .inl (.inr h)) (fun k hk => .inl hk)) (obj_ext hl.d t4.ext (by omega)) hn)
end
end Go.Rn
end
section
/- Nonces: the next one. -/
namespace Go.Sg
open Go.Rn Go.Proofs Go.Non Go.Rec Go.RowKit Go.Dev Go.Sha
attribute [local irreducible] Go.Rn.RetsX Go.Rn.RunLN Go.Rn.AsyN Go.Rn.RunL Go.Rn.RunE Go.Rn.Asy Go.Rn.OpV Go.Rn.OpE Go.Rn.ExecE
def nextB (b : Book) : Book := { b with left := b.left ++ [b.next], next := b.next + 1 }
set_option maxHeartbeats 2000000 in
theorem next_ok (b : Book) (u : Value) (Bk base : Nat) (w : World) (ZB : Blk w Bk (bkV b u) 91) (hO : w.ownsRow base 3 1 u b.left.length (flat intC b.left)) (hne : ∀ k, u.ownBlock = some k → k ≠ Bk)
    (hbase : base ≤ w.heap.size) (hlen : b.left.length ≤ 5000) (hnx : 0 ≤ b.next ∧ b.next ≤ 5000) :
    Rets Tryd.prog 85 [.pointer (some ⟨Bk, 0, none⟩)] w fun r w' => r = .int .i64 b.next ∧ ∃ u', Blk w' Bk (bkV (nextB b) u') 91 ∧ w'.ownsRow base 3 1 u' (nextB b).left.length (flat intC (nextB b).left) ∧ (∀ k, u'.ownBlock = some k → k ≠ Bk ∧ (u.ownBlock = some k ∨ w.heap.size ≤ k)) ∧ ExtB (fun k => k = Bk ∨ u.ownBlock = some k) w w' := by
  have hlt : ∀ k, u.ownBlock = some k → k < w.heap.size := fun k hk => by
    rcases hO.2 with ⟨h, -⟩ | ⟨g, c, cur, h, -, hg, -⟩
    · rw [h] at hk; simp [Value.ownBlock] at hk
    · rw [h] at hk; simp [Value.ownBlock] at hk; subst hk; exact lt_of_get hg
  have hnB : ¬ (u.ownBlock = some Bk) := fun h => hne _ h rfl
  refine RetsX.of (nt := 34) Tryd.func85 (by kernel_rfl) rfl rfl (by simp) (by simp only [argEnv]; rfl) ?_
  repeat' (first | refine RunLN.int (by (first | exact wr_i64 (by omega) (by omega) | exact wm_i64 (by omega) | exact wq_i64 (by omega) (by omega) (by omega) | rfl)) ?_ | refine RunL.ev Tryd.tOk rfl rfl rfl ?_ | refine RunE.seq ?_ | refine RunE.region ?_ | refine RunL.nil ?_)
  refine RunE.draw (fun k => u.ownBlock = some k) mix ?_
  intro wd_ Xd_
  have YB := ZB.up Xd_
  have YO := ownsRow_ext hO Xd_ (fun _ _ h => h)
  have hsd := Xd_.size
  repeat' (first | refine AsyN.int (by (first | exact wr_i64 (by omega) (by omega) | exact wm_i64 (by omega) | exact wq_i64 (by omega) (by omega) (by omega) | rfl)) ?_ | refine AsyN.any ?_ | refine Asy.ev Tryd.tOk rfl rfl rfl ?_ | refine Asy.evV rfl rfl rfl rfl (fun _ X_ => (OpV.load1 Tryd.tOk rfl rfl rfl (Blk.cell (YB.ext X_ hnB) rfl))) ?_)
  refine Asy.sat0 (fun r w' => ∃ B, wd_.heap.size ≤ B ∧ r = .slice (some ⟨B, 0, none⟩) 1 1 ∧ LI' w' r [b.next]) rfl rfl rfl rfl (fun r w' w'' _ e h => ?_) (fun w' e => ?_) ?_
  · obtain ⟨B, h0, rfl, h2⟩ := h
    exact ⟨B, h0, rfl, isL_ext h2 e (fun _ j hj hs => by simp [Value.ownBlock] at hj; subst hj; have := hlt _ hs; omega)⟩
  · refine OpE.mono (OpE.buildSl Tryd.tOk [.int .i64 b.next] rfl rfl rfl rfl rfl rfl (by simp [Value.cells])) ?_ fun _ _ h => h
    rintro _ w'' ⟨B, rfl, a⟩
    refine ⟨a.ext, B, by have := a.eq; have := e.size; omega, rfl, ?_⟩
    have := isSl_added (n := 1) (sz := 1) a rfl
    simpa [LI', IsL, flat, cellsAll, Value.cells] using this
  refine Asy.wri01 0 (fun r w' => w'.ownsRow base 3 1 r (b.left.length + 1) (flat intC (b.left ++ [b.next])) ∧ ∀ k, r.ownBlock = some k → u.ownBlock = some k ∨ wd_.heap.size ≤ k) rfl rfl rfl rfl rfl rfl (fun r w' w'' _ e h => ⟨ownsRow_ext h.1 e (fun _ _ h => h), h.2⟩) (fun w' x e hx => ?_) ?_
  · obtain ⟨B, h0, rfl, h2⟩ := hx
    have hsz := e.size
    refine OpE.mono (OpE.append' Tryd.tOk rfl rfl rfl rfl rfl rfl (ownsRow_ext YO e (fun _ _ h => h)) h2 (flat_plain encT [b.next]) (by show _ * 8 ≤ _; simp only [List.length_singleton]; omega) (by simp only [List.length_singleton]; omega) (by omega)) ?_ fun _ _ h => h
    rintro r w'' ⟨O5, E5, hown⟩
    refine ⟨E5, by rw [flat_append]; exact O5, fun k hk => ?_⟩
    rcases Nat.lt_or_ge k w'.heap.size with h | h
    · exact .inl (hown _ hk h)
    · exact .inr (by omega)
  refine Asy.tailW (by kernel_rfl) fun we_ r Xe_ hr => ?_
  simp only [satsAll]
  intro r14 _
  obtain ⟨hO', hown⟩ := hr
  obtain ⟨dr, cr, rfl⟩ := isSl_slice (isSl_own hO')
  have hrB : ∀ k, (Value.slice dr (b.left.length + 1) cr).ownBlock = some k → k ≠ Bk := fun k hk => by
    rcases hown k hk with h | h
    · exact hne k h
    · have := YB.lt; omega
  have hown' : ∀ k, (Value.slice dr (b.left.length + 1) cr).ownBlock = some k → k ≠ Bk ∧ (u.ownBlock = some k ∨ w.heap.size ≤ k) := fun k hk => ⟨hrB k hk, by
    rcases hown k hk with h | h
    · exact .inl h
    · exact .inr (by omega)⟩
  have X : ExtB (fun k => k = Bk ∨ u.ownBlock = some k) w we_ := ((ExtB.of_ext Xd_).trans Xe_).mono fun k _ h => .inr h
  replace YB := YB.ext Xe_ hnB
  clear Xd_ Xe_ YO hown ZB hO
  repeat' (first | refine RunLN.any ?_ | refine RunL.ev Tryd.tOk rfl rfl rfl ?_)
  refine RunL.store Tryd.tOk rfl rfl rfl rfl rfl YB rfl rfl fun w2 t2 => ?_
  replace hO' := ownsRow_ext hO' t2.ext hrB
  replace X : ExtB (fun k => k = Bk ∨ u.ownBlock = some k) w w2 := X.trans (t2.ext.mono fun k _ h => .inl h)
  replace YB : Blk w2 Bk [.int .i64 b.keeper, .int .i64 b.seed, .int .i64 b.next, .slice dr (b.left.length + 1) cr] 91 := t2.at_
  clear t2
  repeat' (first | refine RunLN.int (by (first | exact wr_i64 (by omega) (by omega) | exact wm_i64 (by omega) | exact wq_i64 (by omega) (by omega) (by omega) | rfl)) ?_ | refine RunLN.any ?_ | refine RunL.ev Tryd.tOk rfl rfl rfl ?_ | refine RunL.evV rfl rfl rfl (OpV.load1 Tryd.tOk rfl rfl rfl (Blk.cell YB rfl)) ?_ | refine RunE.seq ?_ | refine RunE.region ?_ | refine RunL.nil ?_)
  refine RunL.store Tryd.tOk rfl rfl rfl rfl rfl YB rfl rfl fun w3 t3 => ?_
  replace hO' := ownsRow_ext hO' t3.ext hrB
  replace X : ExtB (fun k => k = Bk ∨ u.ownBlock = some k) w w3 := X.trans (t3.ext.mono fun k _ h => .inl h)
  replace YB : Blk w3 Bk [.int .i64 b.keeper, .int .i64 b.seed, .int .i64 (b.next + 1), .slice dr (b.left.length + 1) cr] 91 := t3.at_
  clear t3
  repeat' (first | refine RunLN.int (by (first | exact wr_i64 (by omega) (by omega) | exact wm_i64 (by omega) | exact wq_i64 (by omega) (by omega) (by omega) | rfl)) ?_ | refine RunLN.any ?_ | refine RunL.ev Tryd.tOk rfl rfl rfl ?_ | refine RunL.evV rfl rfl rfl (OpV.load1 Tryd.tOk rfl rfl rfl (Blk.cell YB rfl)) ?_ | refine RunE.seq ?_ | refine RunE.region ?_ | refine RunL.nil ?_)
  refine RunE.retFn Tryd.func85 (.tmp rfl .nil) ⟨?_, _, YB, ?_, hown', X⟩
  · show Value.int .i64 (b.next + 1 - 1) = _; congr 1; omega
  · show World.ownsRow _ _ _ _ _ (b.left ++ [b.next]).length _
    rw [List.length_append]; exact hO'
end Go.Sg
end
section
/- Nonces: the pairs that are made, one after the other. -/
namespace Go.Rn
theorem OpE.alloc {P : Program} {w : World} {env : Env} {dst : Option Tmp} {ty : TypeId} {pos : String} {after : Array Edge} {guard : Option (Nat × Bool)} {T : Tab} (hT : T.Ok P) {t : TypeId} {i : TI} (ht : T.get t = some i) :
    OpE P env w ⟨dst, .alloc t, ty, pos, after, guard⟩ (fun v w' => ∃ B, v = .pointer (some ⟨B, 0, none⟩) ∧ Added w w' B (.cells i.zero.toArray t (0, 0))) fun _ _ => False := fun ρ hρ => by
  obtain ⟨j, dd, z, hj, hd, hz, h1, h2, h3, h4, h5, _⟩ := TI.inv (hT.get _ _ ht)
  refine ExecE.of_value (w' := { w with heap := w.heap.push (.cells i.zero.toArray t) }) (v := .pointer (some ⟨w.heap.size, 0, none⟩)) ?_ ⟨_, rfl, added_push w _⟩
  simp only [execOp, Instr.alloc]
  have hzv : (zeroValue t).run P w = .ok z w := by unfold zeroValue; rw [run_bind _ _ (run_typeInfo hj), hz]; rfl
  refine Eq.trans (run_bind (v := .pointer (some ⟨w.heap.size, 0, none⟩)) (w' := { w with heap := w.heap.push (.cells i.zero.toArray t) }) _ _ ?_) rfl
  rw [run_bind _ _ hzv]
  rw [h3]
  rfl
theorem ownsRow_type {w : World} {base : Nat} {e t : TypeId} {sz n B : Nat} {v : Value} {xs cs : List Value} (h : w.ownsRow base e sz v n xs) (hB : Blk w B cs t) (hne : t ≠ e) : ∀ k, v.ownBlock = some k → k ≠ B := fun k hk e' => by
  rcases h.2 with ⟨rfl, -⟩ | ⟨g, c, cur, rfl, -, hg, -⟩
  · simp [Value.ownBlock] at hk
  · simp [Value.ownBlock] at hk
    subst hk; subst e'
    unfold Blk at hB
    rw [hg] at hB
    injection hB with hB
    injection hB with _ h2
    exact hne h2.symm
theorem ownsRow_lt' {w : World} {base : Nat} {e : TypeId} {sz n : Nat} {v : Value} {xs : List Value} (h : w.ownsRow base e sz v n xs) {k : Nat} (hk : v.ownBlock = some k) : k < w.heap.size := by
  rcases h.2 with ⟨rfl, -⟩ | ⟨g, c, cur, rfl, -, hg, -⟩
  · simp [Value.ownBlock] at hk
  · simp [Value.ownBlock] at hk; subst hk; exact lt_of_get hg
/-- These blocks, and one cell of one of them, stay. -/
def keepC (F : Nat → Prop) (B : Nat) (a c : World) : Prop := ExtB F a c ∧ ∀ v, a.cell? ⟨B, 0, none⟩ = some v → c.cell? ⟨B, 0, none⟩ = some v
theorem keepC_ok (F : Nat → Prop) (B : Nat) : Go.RnK.RelOk (keepC F B) :=
  ⟨fun _ => ⟨ExtB.refl _ _, fun _ h => h⟩, fun h1 h2 => ⟨h1.1.trans h2.1, fun v hv => h2.2 v (h1.2 v hv)⟩, fun e => ⟨ExtB.of_ext e, fun v hv => by
    have hr : Row _ B 0 [v] := fun i x hx => by
      rcases i with _ | i
      · simp at hx; subst hx; exact hv
      · simp at hx
    exact (hr.up e) 0 v rfl⟩⟩
end Go.Rn
namespace Go.Non
open Go.Rn Go.Sg Go.Dev Go.Rec Go.Sha
def bookAt (b : Book) (i : Nat) : Book := { b with left := b.left ++ upB b i, next := b.next + (i : Int) }
theorem upB_succ (b : Book) (i : Nat) : upB b (i + 1) = upB b i ++ [b.next + (i : Int)] := by simp [upB, List.range_succ]
theorem upB_length (b : Book) (i : Nat) : (upB b i).length = i := by simp [upB]
theorem upB_get (b : Book) {i n : Nat} (h : i < n) : (upB b n)[i]? = some (b.next + (i : Int)) := by simp [upB, h]
theorem bookAt_zero (b : Book) : bookAt b 0 = b := by simp [bookAt, upB]
theorem bookAt_succ (b : Book) (i : Nat) : bookAt b (i + 1) = nextB (bookAt b i) := by
  simp only [bookAt, nextB, upB_succ, List.append_assoc]
  congr 1
  omega
end Go.Non
namespace Go.Sg
open Go.Rn Go.Proofs Go.Non Go.Rec Go.RowKit Go.Dev Go.Sha Go.NT
def nextV (Bk : Nat) : Value := .func (.func 85) #[.pointer (some ⟨Bk, 0, none⟩)] #[]
def pairsV (Bn Bp Bf : Nat) : Value := .func (.func 86) #[] #[.pointer (some ⟨Bn, 0, none⟩), .pointer (some ⟨Bp, 0, none⟩), .pointer (some ⟨Bf, 0, none⟩)]
/-- What the iterator keeps. -/
structure PairK (b : Book) (n Bn Bp Bf Bk base : Nat) (i : Nat) (u : Value) (w : World) : Prop where
  s : Row w 0 0 (vals init8.l)
  t : Row w 1 0 (vals kTab)
  n : Blk w Bn [.int .i64 (n : Int)] 3
  p : Blk w Bp [.pointer (some ⟨Bk, 0, none⟩)] 87
  f : Blk w Bf [nextV Bk] 136
  k : Blk w Bk (bkV (bookAt b i) u) 91
  o : w.ownsRow base 3 1 u (bookAt b i).left.length (flat intC (bookAt b i).left)
  ne : ∀ j, u.ownBlock = some j → j ≠ Bn ∧ j ≠ Bp ∧ j ≠ Bf ∧ j ≠ Bk
def pairG (Bn Bp Bf Bk : Nat) (u : Value) (j : Nat) : Prop := j = 0 ∨ j = 1 ∨ j = Bn ∨ j = Bp ∨ j = Bf ∨ j = Bk ∨ u.ownBlock = some j
theorem PairK.ext {b : Book} {n Bn Bp Bf Bk base i : Nat} {u : Value} {w w' : World} {S : Nat → Prop} (h : PairK b n Bn Bp Bf Bk base i u w) (e : ExtB S w w') (hs : ∀ j, pairG Bn Bp Bf Bk u j → ¬ S j) : PairK b n Bn Bp Bf Bk base i u w' :=
  ⟨h.s.ext e (hs 0 (.inl rfl)), h.t.ext e (hs 1 (.inr (.inl rfl))), h.n.ext e (hs _ (.inr (.inr (.inl rfl)))), h.p.ext e (hs _ (.inr (.inr (.inr (.inl rfl))))), h.f.ext e (hs _ (.inr (.inr (.inr (.inr (.inl rfl)))))),
   h.k.ext e (hs _ (.inr (.inr (.inr (.inr (.inr (.inl rfl))))))), ownsRow_ext h.o e (fun j hj => hs j (.inr (.inr (.inr (.inr (.inr (.inr hj))))))), h.ne⟩
attribute [local irreducible] Go.RnK.Asy Go.Rn.RetsX Go.Rn.RunLN Go.Rn.AsyN Go.Rn.RunL Go.Rn.RunE Go.Rn.Asy Go.Rn.OpV Go.Rn.OpE Go.Rn.ExecE
set_option maxHeartbeats 4000000 in
theorem pairs_gives (b : Book) (n Bn Bp Bf Bk : Nat) (W0 : World) (hb : numsB b = true) (hn : b.next + (n : Int) ≤ 4096) (hl : (b.left.length : Int) ≤ b.next) (h01 : 1 < W0.heap.size) (hBk : W0.heap.size ≤ Bk) (hd : Bk ≠ Bn ∧ Bk ≠ Bp ∧ Bk ≠ Bf) (hB2 : 1 < Bn ∧ 1 < Bp ∧ 1 < Bf) :
    GivesM Tryd.prog (pairsV Bn Bp Bf) ((upB b n).map fun no => [.agg (pairN b.keeper b.seed no).cells.toArray]) (fun i G w => ∃ u, PairK b n Bn Bp Bf Bk W0.heap.size i u w ∧ G = pairG Bn Bp Bf Bk u) W0 := by
  intro J y w G0 hK hJ0 hJup hy
  have hb' := of_decide_eq_true hb
  refine RetsX.v (fi := []) (args := [y]) (ca := [.pointer (some ⟨Bn, 0, none⟩), .pointer (some ⟨Bp, 0, none⟩), .pointer (some ⟨Bf, 0, none⟩)]) ?_
  show RetsX Tryd.prog 86 [y, .pointer (some ⟨Bn, 0, none⟩), .pointer (some ⟨Bp, 0, none⟩), .pointer (some ⟨Bf, 0, none⟩)] w _ _
  refine RetsX.of (nt := 53) Tryd.func86 (by kernel_rfl) rfl rfl (by simp) (by simp only [argEnv]; rfl) ?_
  obtain ⟨u0, k0, hG0⟩ := hK
  have Yn := k0.n
  repeat' (first | refine RunLN.int (by (first | exact wr_i64 (by omega) (by omega) | exact wm_i64 (by omega) | exact wq_i64 (by omega) (by omega) (by omega) | rfl)) ?_ | refine RunL.ev Tryd.tOk rfl rfl rfl ?_ | refine RunL.evV rfl rfl rfl (OpV.load1 Tryd.tOk rfl rfl rfl (Blk.cell Yn rfl)) ?_ | refine RunE.seq ?_ | refine RunE.region ?_ | refine RunL.nil ?_ | refine RunE.block ?_)
  clear Yn
  refine RunE.loop (ι := Nat) (fun i => [(0, y), (1, .pointer (some ⟨Bn, 0, none⟩)), (2, .pointer (some ⟨Bp, 0, none⟩)), (3, .pointer (some ⟨Bf, 0, none⟩)), (11, .int .i64 (n : Int)), (12, .int .i64 (i : Int))])
    (fun i w' => i ≤ n ∧ ∃ u, PairK b n Bn Bp Bf Bk W0.heap.size i u w' ∧ J (pairG Bn Bp Bf Bk u) i w') (fun i => n - i) 0 (by repeat (first | exact Sub.nil _ | refine Sub.cons rfl ?_)) ⟨Nat.zero_le _, u0, k0, by rw [← hG0]; exact hJ0⟩ ?_
  clear k0 hJ0 hG0
  rintro i w3 ⟨hi, u, K, hJ⟩ again
  by_cases hlt : i < n
  · have Yk := K.k
    have Yp := K.p
    have Yf := K.f
    have hbl : (bookAt b i).left.length ≤ 5000 := by simp only [bookAt, List.length_append, upB_length]; omega
    have hbn : 0 ≤ (bookAt b i).next ∧ (bookAt b i).next ≤ 5000 := by simp only [bookAt]; omega
    repeat' (first | (with_reducible refine RunLN.decT ?_ ?_; focus omega) | refine RunL.ev Tryd.tOk rfl rfl rfl ?_ | refine RunE.condT rfl rfl ?_ | refine RunE.seq ?_ | refine RunE.region ?_ | refine RunL.nil ?_ | refine RunE.block ?_ | refine RunE.skip ?_)
    refine Go.RnK.RunE.draw [] (keepC (fun j => j = Bk ∨ u.ownBlock = some j) Bk) (keepC_ok _ _) mix ?_
    intro wd_ Xd_
    have hw3 : ∀ j, pairG Bn Bp Bf Bk u j → j < w3.heap.size := by
      rintro j (rfl | rfl | rfl | rfl | rfl | rfl | h)
      · exact cell_lt (K.s 0 _ rfl)
      · exact cell_lt (K.t 0 _ rfl)
      · exact K.n.lt
      · exact K.p.lt
      · exact K.f.lt
      · exact K.k.lt
      · exact ownsRow_lt' K.o h
    have hsd := Xd_.size
    have Kd := K.ext Xd_ (fun _ _ h => h)
    have hBkd : Bk < wd_.heap.size := Kd.k.lt
    have hne := Kd.ne
    refine Go.RnK.Asy.vS rfl rfl rfl rfl (fun w' s => OpV.load1 Tryd.tOk rfl rfl rfl (Blk.cell (Kd.p.ext s.1 (by rintro (h | h); exact hd.2.1 h.symm; exact (hne _ h).2.1 rfl)) rfl)) ?_
    repeat (refine Go.RnK.Asy.pure Tryd.tOk rfl rfl rfl ?_)
    refine Go.RnK.Asy.vS rfl rfl rfl rfl (fun w' s => OpV.load1 (v := .int .i64 b.keeper) Tryd.tOk rfl rfl rfl (s.2 _ (Blk.cell Kd.k rfl))) ?_
    refine Go.RnK.Asy.vS rfl rfl rfl rfl (fun w' s => OpV.load1 Tryd.tOk rfl rfl rfl (Blk.cell (Kd.f.ext s.1 (by rintro (h | h); exact hd.2.2 h.symm; exact (hne _ h).2.2.1 rfl)) rfl)) ?_
    refine Go.RnK.Asy.wri0 (fun r w' => r = .int .i64 (b.next + (i : Int)) ∧ ∃ u', PairK b n Bn Bp Bf Bk W0.heap.size (i + 1) u' w' ∧ ∀ j, u'.ownBlock = some j → u.ownBlock = some j ∨ wd_.heap.size ≤ j) rfl rfl rfl rfl (fun r w' w'' _ e h => ?_) (fun w' e => ?_) ?_
    · obtain ⟨h1, u', h2, h3⟩ := h
      exact ⟨h1, u', h2.ext e (fun _ _ h => h), h3⟩
    · have Ke := Kd.ext e (fun _ _ h => h)
      have hse := e.size
      refine OpE.mono (OpE.callV rfl rfl (RetsX.v (fi := [.pointer (some ⟨Bk, 0, none⟩)]) (args := []) (ca := []) (next_ok (bookAt b i) u Bk W0.heap.size w' Ke.k Ke.o (fun j hj => (Ke.ne j hj).2.2.2) (by have := cell_lt (Ke.s 0 _ rfl); omega) hbl hbn))) ?_ fun _ _ h => h
      rintro r w'' ⟨rfl, u', hk', ho', hn', E5⟩
      rw [← bookAt_succ] at hk' ho'
      have h0 : ∀ j, j < W0.heap.size → ¬ (j = Bk ∨ u.ownBlock = some j) := fun j hj h => by
        rcases h with rfl | h
        · omega
        · have := ownsRow_ge Ke.o h; omega
      have l1 := Kd.n.lt
      have l2 := Kd.p.lt
      have l3 := Kd.f.lt
      refine ⟨⟨E5, fun v hv => ?_⟩, rfl, u', ⟨Ke.s.ext E5 (h0 0 (by omega)), Ke.t.ext E5 (h0 1 h01), Ke.n.ext E5 ?_, Ke.p.ext E5 ?_, Ke.f.ext E5 ?_, hk', ho', ?_⟩, ?_⟩
      · have h1 : w'.cell? ⟨Bk, 0, none⟩ = some (.int .i64 b.keeper) := Blk.cell Ke.k rfl
        rw [h1] at hv
        cases hv
        exact Blk.cell hk' rfl
      · rintro (h | h)
        · exact hd.1 h.symm
        · exact (Ke.ne _ h).1 rfl
      · rintro (h | h)
        · exact hd.2.1 h.symm
        · exact (Ke.ne _ h).2.1 rfl
      · rintro (h | h)
        · exact hd.2.2 h.symm
        · exact (Ke.ne _ h).2.2.1 rfl
      · intro j hj
        obtain ⟨q1, q2⟩ := hn' j hj
        rcases q2 with q2 | q2
        · exact Ke.ne j q2
        · exact ⟨by omega, by omega, by omega, q1⟩
      · intro j hj
        rcases (hn' j hj).2 with q2 | q2
        · exact .inl q2
        · exact .inr (by omega)
    refine Go.RnK.Asy.wri1 (fun r w' => r = .agg #[.int .i64 b.keeper, .int .i64 (b.next + (i : Int)), .int .i64 0, .int .i64 0] ∧ ∃ u', PairK b n Bn Bp Bf Bk W0.heap.size (i + 1) u' w' ∧ ∀ j, u'.ownBlock = some j → u.ownBlock = some j ∨ wd_.heap.size ≤ j) rfl rfl rfl rfl rfl (fun r w' w'' _ e h => ?_) (fun w' x e hx => ?_) ?_
    · obtain ⟨h1, u', h2, h3⟩ := h
      exact ⟨h1, u', h2.ext e (fun _ _ h => h), h3⟩
    · obtain ⟨rfl, hst⟩ := hx
      refine OpE.mono (OpV.e (evalOp_v Tryd.tOk rfl)) ?_ fun _ _ h => h
      rintro r w'' ⟨rfl, rfl⟩
      exact ⟨(keepC_ok _ _).refl _, rfl, hst⟩
    refine Go.RnK.Asy.sat0 (fun r w' => ∃ B, r = .pointer (some ⟨B, 0, none⟩) ∧ wd_.heap.size ≤ B ∧ Blk w' B [.int .i64 0, .int .i64 0, .int .i64 0, .int .i64 0] 46) rfl rfl rfl rfl (fun r w' w'' _ e h => ?_) (fun w' e => ?_) ?_
    · obtain ⟨B, h1, h2, h3⟩ := h
      refine ⟨B, h1, h2, h3.ext e.1 ?_⟩
      rintro (h | h)
      · omega
      · have := ownsRow_lt' Kd.o h; omega
    · refine OpE.mono (OpE.alloc Tryd.tOk rfl) ?_ fun _ _ h => h
      rintro _ w'' ⟨B, rfl, a⟩
      exact ⟨a.ext, B, rfl, by have := a.eq; have := e.1.size; omega, a.at_⟩
    refine Go.RnK.Asy.tailW (by kernel_rfl) (by kernel_rfl) fun we_ x Xe_ hx => ?_
    simp only [satsAll]
    rintro _ ⟨B5, rfl, hB5, Z5⟩
    obtain ⟨rfl, u', K', hown⟩ := hx
    have E : ExtB (fun j => j = Bk ∨ u.ownBlock = some j) w3 we_ := (ExtB.of_ext Xd_).trans Xe_.1
    clear Xe_ Xd_ Kd Yk Yp Yf
    have hu5 := ownsRow_type K'.o Z5 (by decide)
    have hG5 : ∀ j, pairG Bn Bp Bf Bk u' j → ¬ (j = B5) := by
      rintro j h rfl
      have l0 := hw3 0 (.inl rfl); have l1 := hw3 1 (.inr (.inl rfl)); have l2 := hw3 Bn (.inr (.inr (.inl rfl))); have l3 := hw3 Bp (.inr (.inr (.inr (.inl rfl)))); have l4 := hw3 Bf (.inr (.inr (.inr (.inr (.inl rfl)))))
      rcases h with h | h | h | h | h | h | h
      · omega
      · omega
      · omega
      · omega
      · omega
      · omega
      · exact hu5 _ h rfl
    refine RunL.store Tryd.tOk rfl rfl rfl rfl rfl Z5 rfl rfl fun w4 t4 => ?_
    replace K' := K'.ext t4.ext hG5
    replace E := E.write t4.ext (by intro k hk hlt; subst hk; omega)
    replace Z5 : Blk w4 B5 [.int .i64 b.keeper, .int .i64 (b.next + (i : Int)), .int .i64 0, .int .i64 0] 46 := t4.at_
    clear t4
    have Yp := K'.p
    repeat' (first | refine RunLN.int (by (first | exact wr_i64 (by omega) (by omega) | exact wm_i64 (by omega) | exact wq_i64 (by omega) (by omega) (by omega) | rfl)) ?_ | refine RunLN.any ?_ | refine RunL.ev Tryd.tOk rfl rfl rfl ?_ | refine RunL.evV rfl rfl rfl (OpV.load1 Tryd.tOk rfl rfl rfl (Blk.cell Yp rfl)) ?_ | refine RunL.evV rfl rfl rfl (OpV.load1 Tryd.tOk rfl rfl rfl (Blk.cell Z5 rfl)) ?_ | refine RunE.seq ?_ | refine RunE.region ?_ | refine RunL.nil ?_)
    have hnB : numsB (bookAt b (i + 1)) = true := decide_eq_true (by simp only [bookAt]; omega)
    refine RunL.call rfl rfl rfl (bnumbers_ok (bookAt b (i + 1)) u' (b.next + (i : Int)) Bk _ hnB (by omega) K'.k K'.s K'.t) ?_
    rintro _ w5 ⟨rfl, Xa_⟩
    replace K' := K'.ext Xa_ (fun _ _ h => h)
    replace E := E.trans (ExtB.of_ext Xa_)
    replace Z5 := Z5.up Xa_
    clear Xa_ Yp
    have hpair : pairN b.keeper b.seed (b.next + (i : Int)) = ⟨b.keeper, b.next + (i : Int), powC 4 (numN b.keeper b.seed (b.next + (i : Int)) 0), powC 4 (numN b.keeper b.seed (b.next + (i : Int)) 1)⟩ := rfl
    have c0 := fun w => pow_ok 4 (numN b.keeper b.seed (b.next + (i : Int)) 0) w
    have c1 := fun w => pow_ok 4 (numN b.keeper b.seed (b.next + (i : Int)) 1) w
    rw [v4, show grpE true = 0 from rfl] at c0 c1
    show RunL _ _ _ _ _ _ _ _ ((25, .agg #[.int .i64 (numN b.keeper b.seed (b.next + (i : Int)) 0), .int .i64 (numN b.keeper b.seed (b.next + (i : Int)) 1)]) :: _) _
    generalize powC 4 (numN b.keeper b.seed (b.next + (i : Int)) 0) = p0 at c0 hpair
    generalize powC 4 (numN b.keeper b.seed (b.next + (i : Int)) 1) = p1 at c1 hpair
    generalize numN b.keeper b.seed (b.next + (i : Int)) 0 = n0 at *
    generalize numN b.keeper b.seed (b.next + (i : Int)) 1 = n1 at *
    skip
    refine RunL.alloc Tryd.tOk rfl rfl rfl fun B6 wa aa => ?_
    have e6 := aa.eq
    have l5 := Z5.lt
    refine RunL.store Tryd.tOk rfl rfl rfl rfl rfl (cs := [.int .i64 0, .int .i64 0]) aa.at_ rfl rfl fun wb tb => ?_
    have Xa_ : Ext w5 wb := aa.ext.write tb.ext (by intro k hk hlt; omega)
    have Z6 : Blk wb B6 [.int .i64 n0, .int .i64 n1] 100 := tb.at_
    have n65 : B6 ≠ B5 := by omega
    replace K' := K'.ext Xa_ (fun _ _ h => h)
    replace E := E.trans (ExtB.of_ext Xa_)
    replace Z5 := Z5.up Xa_
    clear Xa_ aa tb e6
    repeat' (first | refine RunLN.int (by (first | exact wr_i64 (by omega) (by omega) | exact wm_i64 (by omega) | exact wq_i64 (by omega) (by omega) (by omega) | rfl)) ?_ | refine RunLN.any ?_ | refine RunL.ev Tryd.tOk rfl rfl rfl ?_ | refine RunE.seq ?_ | refine RunE.region ?_ | refine RunL.nil ?_ | refine RunE.block ?_)
    refine RunE.unroll ?_
    repeat' (first | with_reducible refine RunLN.boolT rfl ?_ | refine RunLN.int (by (first | exact wr_i64 (by omega) (by omega) | exact wm_i64 (by omega) | exact wq_i64 (by omega) (by omega) (by omega) | rfl)) ?_ | refine RunL.ev Tryd.tOk rfl rfl rfl ?_ | refine RunE.condT rfl rfl ?_ | refine RunE.seq ?_ | refine RunE.region ?_ | refine RunL.nil ?_ | refine RunE.block ?_ | refine RunE.skip ?_)
    refine RunL.evV rfl rfl rfl (OpV.indexV Tryd.tOk 0 rfl rfl rfl rfl (by decide) rfl) ?_
    repeat' (first | refine RunLN.int (by (first | exact wr_i64 (by omega) (by omega) | exact wm_i64 (by omega) | exact wq_i64 (by omega) (by omega) (by omega) | rfl)) ?_ | refine RunLN.any ?_ | refine RunL.ev Tryd.tOk rfl rfl rfl ?_ | refine RunL.evV rfl rfl rfl (OpV.load1 Tryd.tOk rfl rfl rfl (Blk.cell Z6 rfl)) ?_ | refine RunL.evV rfl rfl rfl ((OpV.indexAK Tryd.tOk rfl rfl rfl rfl)) ?_ | refine RunE.seq ?_ | refine RunE.region ?_ | refine RunL.nil ?_)
    refine RunL.call rfl rfl rfl (c0 _) ?_
    rintro _ w6 ⟨rfl, Xa_⟩
    replace K' := K'.ext Xa_ (fun _ _ h => h)
    replace E := E.trans (ExtB.of_ext Xa_)
    replace Z5 := Z5.up Xa_
    replace Z6 := Z6.up Xa_
    clear Xa_
    repeat' (first | with_reducible refine RunLN.boolT rfl ?_ | refine RunLN.int (by (first | exact wr_i64 (by omega) (by omega) | exact wm_i64 (by omega) | exact wq_i64 (by omega) (by omega) (by omega) | rfl)) ?_ | refine RunLN.any ?_ | refine RunL.ev Tryd.tOk rfl rfl rfl ?_ | refine RunE.seq ?_ | refine RunE.region ?_ | refine RunL.nil ?_)
    refine RunL.call rfl rfl rfl (need_ok 0 _) ?_
    rintro _ _ ⟨rfl, rfl⟩
    repeat' (first | refine RunLN.int (by (first | exact wr_i64 (by omega) (by omega) | exact wm_i64 (by omega) | exact wq_i64 (by omega) (by omega) (by omega) | rfl)) ?_ | refine RunLN.any ?_ | refine RunL.ev Tryd.tOk rfl rfl rfl ?_ | refine RunE.region ?_ | refine RunL.nil ?_)
    refine RunL.store Tryd.tOk rfl rfl rfl rfl rfl Z5 rfl rfl fun w7 t7 => ?_
    replace K' := K'.ext t7.ext hG5
    replace E := E.write t7.ext (by intro k hk hlt; subst hk; omega)
    replace Z6 := Z6.other t7.ext n65
    replace Z5 : Blk w7 B5 [.int .i64 b.keeper, .int .i64 (b.next + (i : Int)), .int .i64 p0, .int .i64 0] 46 := t7.at_
    clear t7 c0
    repeat' (first | refine RunLN.int (by (first | exact wr_i64 (by omega) (by omega) | exact wm_i64 (by omega) | exact wq_i64 (by omega) (by omega) (by omega) | rfl)) ?_ | refine RunL.ev Tryd.tOk rfl rfl rfl ?_ | refine RunE.region ?_ | refine RunL.nil ?_ | refine RunE.inBlock ?_)
    refine RunE.again ?_
    repeat' (first | with_reducible refine RunLN.boolT rfl ?_ | refine RunLN.int (by (first | exact wr_i64 (by omega) (by omega) | exact wm_i64 (by omega) | exact wq_i64 (by omega) (by omega) (by omega) | rfl)) ?_ | refine RunL.ev Tryd.tOk rfl rfl rfl ?_ | refine RunE.condT rfl rfl ?_ | refine RunE.seq ?_ | refine RunE.region ?_ | refine RunL.nil ?_ | refine RunE.block ?_ | refine RunE.skip ?_)
    refine RunL.evV rfl rfl rfl (OpV.indexV Tryd.tOk 1 rfl rfl rfl rfl (by decide) rfl) ?_
    repeat' (first | refine RunLN.int (by (first | exact wr_i64 (by omega) (by omega) | exact wm_i64 (by omega) | exact wq_i64 (by omega) (by omega) (by omega) | rfl)) ?_ | refine RunLN.any ?_ | refine RunL.ev Tryd.tOk rfl rfl rfl ?_ | refine RunL.evV rfl rfl rfl (OpV.load1 Tryd.tOk rfl rfl rfl (Blk.cell Z6 rfl)) ?_ | refine RunL.evV rfl rfl rfl ((OpV.indexAK Tryd.tOk rfl rfl rfl rfl)) ?_ | refine RunE.seq ?_ | refine RunE.region ?_ | refine RunL.nil ?_)
    refine RunL.call rfl rfl rfl (c1 _) ?_
    rintro _ w8 ⟨rfl, Xa_⟩
    replace K' := K'.ext Xa_ (fun _ _ h => h)
    replace E := E.trans (ExtB.of_ext Xa_)
    replace Z5 := Z5.up Xa_
    clear Xa_ c1
    repeat' (first | with_reducible refine RunLN.boolT rfl ?_ | refine RunLN.int (by (first | exact wr_i64 (by omega) (by omega) | exact wm_i64 (by omega) | exact wq_i64 (by omega) (by omega) (by omega) | rfl)) ?_ | refine RunLN.any ?_ | refine RunL.ev Tryd.tOk rfl rfl rfl ?_ | refine RunE.seq ?_ | refine RunE.region ?_ | refine RunL.nil ?_)
    refine RunL.call rfl rfl rfl (need_ok 0 _) ?_
    rintro _ _ ⟨rfl, rfl⟩
    repeat' (first | refine RunLN.int (by (first | exact wr_i64 (by omega) (by omega) | exact wm_i64 (by omega) | exact wq_i64 (by omega) (by omega) (by omega) | rfl)) ?_ | refine RunLN.any ?_ | refine RunL.ev Tryd.tOk rfl rfl rfl ?_ | refine RunE.region ?_ | refine RunL.nil ?_)
    refine RunL.store Tryd.tOk rfl rfl rfl rfl rfl Z5 rfl rfl fun w9 t9 => ?_
    replace K' := K'.ext t9.ext hG5
    replace E := E.write t9.ext (by intro k hk hlt; subst hk; omega)
    replace Z5 : Blk w9 B5 [.int .i64 b.keeper, .int .i64 (b.next + (i : Int)), .int .i64 p0, .int .i64 p1] 46 := t9.at_
    clear t9 Z6
    repeat' (first | refine RunLN.int (by (first | exact wr_i64 (by omega) (by omega) | exact wm_i64 (by omega) | exact wq_i64 (by omega) (by omega) (by omega) | rfl)) ?_ | refine RunL.ev Tryd.tOk rfl rfl rfl ?_ | refine RunE.region ?_ | refine RunL.nil ?_ | refine RunE.inBlock ?_)
    refine RunE.again ?_
    repeat' (first | with_reducible refine RunLN.boolF rfl ?_ | refine RunLN.any ?_ | refine RunL.ev Tryd.tOk rfl rfl rfl ?_ | refine RunL.evV rfl rfl rfl (OpV.loadN Tryd.tOk rfl rfl rfl rfl (Blk.row Z5)) ?_ | refine RunE.condF rfl rfl ?_ | refine RunE.seq ?_ | refine RunE.region ?_ | refine RunL.nil ?_ | refine RunE.exit rfl ?_)
    have hxs : ((upB b n).map fun no => [Value.agg (pairN b.keeper b.seed no).cells.toArray])[i]? = some [.agg #[.int .i64 b.keeper, .int .i64 (b.next + (i : Int)), .int .i64 p0, .int .i64 p1]] := by
      rw [List.getElem?_map, upB_get b hlt, Option.map_some, hpair]
    have hlt9 : ∀ j, pairG Bn Bp Bf Bk u' j → j < w9.heap.size := by
      rintro j (rfl | rfl | rfl | rfl | rfl | rfl | h)
      · exact cell_lt (K'.s 0 _ rfl)
      · exact cell_lt (K'.t 0 _ rfl)
      · exact K'.n.lt
      · exact K'.p.lt
      · exact K'.f.lt
      · exact K'.k.lt
      · exact ownsRow_lt' K'.o h
    have hJ' : J (pairG Bn Bp Bf Bk u') i w9 := by
      refine hJup (pairG Bn Bp Bf Bk u) _ i w3 w9 hJ (E.mono fun j _ h => ?_) fun j h => ?_
      · rcases h with rfl | h
        · exact ⟨.inr (.inr (.inr (.inr (.inr (.inl rfl))))), hBk⟩
        · exact ⟨.inr (.inr (.inr (.inr (.inr (.inr h))))), ownsRow_ge K.o h⟩
      · rcases h with h | h | h | h | h | h | h
        · exact .inl (.inl h)
        · exact .inl (.inr (.inl h))
        · exact .inl (.inr (.inr (.inl h)))
        · exact .inl (.inr (.inr (.inr (.inl h))))
        · exact .inl (.inr (.inr (.inr (.inr (.inl h)))))
        · exact .inl (.inr (.inr (.inr (.inr (.inr (.inl h))))))
        · rcases hown _ h with q | q
          · exact .inl (.inr (.inr (.inr (.inr (.inr (.inr q))))))
          · exact .inr (by omega)
    refine RunL.ex rfl rfl rfl (OpE.callV rfl rfl (hy _ i _ w9 hxs hlt9 hJ')) ?_
    rintro _ w10 ⟨rfl, hJ10, E10⟩
    replace K' := K'.ext E10 (fun j hj h => h hj)
    clear E10 hJ' Z5 E hJ K
    repeat' (first | with_reducible refine RunLN.boolF rfl ?_ | refine RunLN.int (by (first | exact wr_i64 (by omega) (by omega) | exact wm_i64 (by omega) | exact wq_i64 (by omega) (by omega) (by omega) | rfl)) ?_ | refine RunL.ev Tryd.tOk rfl rfl rfl ?_ | refine RunE.condF rfl rfl ?_ | refine RunE.region ?_ | refine RunL.nil ?_ | refine RunE.inBlock ?_ | refine RunE.skip ?_)
    exact RunE.weaken (by repeat (first | exact Sub.nil _ | refine Sub.cons rfl ?_)) (again (i + 1) _ (by omega) ⟨by omega, u', K', hJ10⟩)
  · obtain rfl : i = n := by omega
    repeat' (first | (with_reducible refine RunLN.decF ?_ ?_; focus omega) | refine RunL.ev Tryd.tOk rfl rfl rfl ?_ | refine RunE.condF rfl rfl ?_ | refine RunE.seq ?_ | refine RunE.region ?_ | refine RunL.nil ?_ | refine RunE.exit rfl ?_)
    exact RunE.fallFn Tryd.func86 .nil ⟨_, by rw [List.length_map, upB_length]; exact ⟨u, K, rfl⟩, by rw [List.length_map, upB_length]; exact hJ⟩
end Go.Sg
end
section
/- Nonces: pairs collected. -/
namespace Go.Sg
open Go.Rn Go.Proofs Go.Non Go.Rec Go.RowKit Go.Dev Go.Sha Go.NT
attribute [local irreducible] Go.Rn.RetsX Go.Rn.RunLN Go.Rn.AsyN Go.Rn.RunL Go.Rn.RunE Go.Rn.Asy Go.Rn.OpV Go.Rn.OpE Go.Rn.ExecE
set_option maxHeartbeats 4000000 in
theorem pappendSeq_ok (xs : List Pr) (f : Value) (K : Nat → (Nat → Prop) → World → Prop) (W0 w : World) (G0 : Nat → Prop) (hG : GivesM Tryd.prog f (xs.map fun x => [.agg x.cells.toArray]) K W0) (hK : ∀ w2, Ext w w2 → K 0 G0 w2) (hG0 : ∀ k, G0 k → k < w.heap.size) (hW : W0.heap.size ≤ w.heap.size)
    (hKup : ∀ G i w1 w2, K i G w1 → ExtB (fun k => ¬ G k) w1 w2 → K i G w2) (hl : xs.length ≤ 100000) :
    Rets Tryd.prog 84 [.slice none 0 0, f] w fun r w' => ∃ G, K xs.length G w' ∧ w'.ownsRow w.heap.size 46 4 r xs.length (flat Pr.cells xs) ∧ (∀ k, r.ownBlock = some k → ¬ G k) ∧ ExtB (fun k => W0.heap.size ≤ k) w w' := by
  refine RetsX.of (nt := 13) Tryd.func84 (by kernel_rfl) rfl rfl (by simp) (by simp only [argEnv]; rfl) ?_
  have X := ExtB.refl (fun _ => False) w
  repeat' (first | refine RunE.seq ?_ | refine RunE.region ?_)
  refine RunL.box rfl rfl rfl fun B2 w2_ a_ => ?_
  have Z2 : Blk w2_ B2 ([.slice none 0 0]) 30 := a_.at_
  have gB2 := a_.ge X
  replace X := X.trans a_.ext
  clear a_
  repeat' (first | refine RunLN.any ?_ | refine RunL.ev Tryd.tOk rfl rfl rfl ?_ | refine RunE.seq ?_ | refine RunE.region ?_ | refine RunL.nil ?_ | refine RunE.block ?_)
  have hl2 := Z2.lt
  have hXs := X.size
  have hG2 : ¬ G0 B2 := fun h => by have := hG0 _ h; omega
  refine RunE.rangeGivesM (W0 := W0) (G0 := G0) rfl ⟨_, Tryd.func84⟩ rfl hG (fun k hk => by have := hG0 k hk; omega) (fun ys hx => ?_) rfl
    (fun G i w' => (∃ u, Blk w' B2 [u] 30 ∧ w'.ownsRow (w2_.heap.size + 2) 46 4 u i (flat Pr.cells (xs.take i)) ∧ ∀ k, u.ownBlock = some k → ¬ G k) ∧ ¬ G B2 ∧ w2_.heap.size + 2 ≤ w'.heap.size ∧ ExtB (fun k => W0.heap.size ≤ k) w2_ w') (fun w2 e => hK w2 (X.trans e)) ?_ ?_ ?_ ?_ ?_ hKup
  · simp only [List.mem_map] at hx
    obtain ⟨a, -, rfl⟩ := hx; rfl
  · intro w2 e hsz; exact ⟨⟨_, Z2.up e, World.ownsRow_nil _ _ _ _, fun k hk => by simp [Value.ownBlock] at hk⟩, hG2, by omega, ExtB.of_ext e⟩
  · rintro G i u ⟨-, -, h, -⟩; exact h
  · rintro G G' i u u' hn ⟨⟨y, h2, ho, hy⟩, hB, hs, e1⟩ e2 hg
    refine ⟨⟨y, h2.ext e2 ?_, ownsRow_ext ho e2 (fun k hk h => ?_), fun k hk h => ?_⟩, fun h => ?_, by have := e2.size; omega, e1.write e2 (fun k hk hlt => ?_)⟩
    · rintro ((h | h) | ⟨h, -⟩)
      · omega
      · omega
      · exact hB h
    · have := ownsRow_ge ho hk
      rcases h with (h | h) | ⟨h, -⟩
      · omega
      · omega
      · exact hy k hk h
    · rcases hg k h with h | h
      · exact hy k hk h
      · have := ownsRow_lt' ho hk; omega
    · rcases hg _ h with h | h
      · exact hB h
      · have := h2.lt; omega
    · rcases hk with (h | h) | ⟨-, h⟩
      · omega
      · omega
      · exact h
  · rintro G i ys u lp hx hlt ⟨⟨y, h2, ho, hn⟩, hB, hsz, e1⟩ hL hs
    obtain ⟨x, hxl, rfl⟩ : ∃ x, xs[i]? = some x ∧ ys = [.agg x.cells.toArray] := by
      simp only [List.getElem?_map, Option.map_eq_some_iff] at hx
      obtain ⟨a, h, rfl⟩ := hx; exact ⟨a, h, rfl⟩
    have hil : i < xs.length := (List.getElem?_eq_some_iff.1 hxl).1
    have hLl := lt_of_get hL.l
    obtain ⟨dy, cy, rfl⟩ := isSl_slice (isSl_own ho)
    simp only [parEnv]
    repeat' (first | refine RunE.region ?_)
    refine RunL.alloc Tryd.tOk rfl rfl rfl fun B5 u1 a1 => ?_
    have Z5 : Blk u1 B5 _ 46 := a1.at_
    have e5 := a1.eq
    skip
    refine RunL.store Tryd.tOk rfl rfl rfl rfl rfl Z5 rfl rfl fun u2 t2 => ?_
    replace Z5 : Blk u2 B5 x.cells 46 := t2.at_
    have XA : Ext u u2 := a1.ext.write t2.ext (by intro k hk hlt; omega)
    clear a1 t2
    repeat' (first | refine RunL.nil ?_)
    refine RunE.beginR (hL.up XA) hs (by omega) fun u3 t3 hL3 => ?_
    have Y2 := (h2.up XA).ext t3 (by omega)
    have Y5 := Z5.ext t3 (by omega)
    have hO := ownsRow_ext (ownsRow_ext ho XA (fun _ _ h => h)) t3 (fun k hk h => by have := ownsRow_ge ho hk; omega)
    have XG : ExtB (fun k => ¬ G k) u u3 := (ExtB.of_ext XA).trans (t3.mono fun k _ h hk => by have := hlt k hk; omega)
    have XB : ExtB (fun k => W0.heap.size ≤ k) w2_ u3 := (e1.trans (ExtB.of_ext XA)).write t3 (by intro k hk hlt; omega)
    clear h2 ho Z5 XA t3 hL e1
    repeat' (first | refine RunLN.any ?_ | refine RunL.evV rfl rfl rfl (OpV.load1 Tryd.tOk rfl rfl rfl (Blk.cell Y2 rfl)) ?_ | refine RunL.evV rfl rfl rfl (OpV.loadN Tryd.tOk rfl rfl rfl rfl (Blk.row Y5)) ?_ | refine RunE.region ?_ | refine RunE.block ?_)
    refine RunL.ex rfl rfl rfl (OpE.buildSl Tryd.tOk [.agg x.cells.toArray] rfl rfl rfl rfl rfl rfl (by simp [Value.cells])) ?_
    rintro _ u4 ⟨B, rfl, a4⟩
    have hx1 : IsL u4 Pr.cells 4 (.slice (some ⟨B, 0, none⟩) 1 1) [x] := by
      have := isSl_added (n := 1) (sz := 4) a4 rfl
      simpa [IsL, flat, cellsAll, Value.cells] using this
    replace hO := ownsRow_ext hO a4.ext (fun _ _ h => h)
    replace XG := XG.trans (ExtB.of_ext a4.ext)
    replace XB := XB.trans (ExtB.of_ext a4.ext)
    replace Y2 := Y2.up a4.ext
    replace hL3 := hL3.up a4.ext
    clear a4
    have hs4 := XG.size
    skip
    refine RunL.ex rfl rfl rfl (OpE.append' Tryd.tOk rfl rfl rfl rfl rfl rfl hO hx1 (flat_plain encP [x]) (by show _ * 32 ≤ _; simp only [List.length_singleton]; omega) (by simp only [List.length_singleton]; omega) (by omega)) ?_
    rintro y' u5 ⟨O5, E5, hown⟩
    obtain ⟨b5, o5, c5, rfl, -, -, -⟩ := (isSl_own O5).held (by simp only [List.length_singleton]; omega)
    have hne : ∀ k, (Value.slice dy i cy).ownBlock = some k → w2_.heap.size + 2 ≤ k := fun k hk => ownsRow_ge hO hk
    have hn5 : ∀ k, (Value.slice (some ⟨b5, o5, none⟩) (i + [x].length) c5).ownBlock = some k → ¬ G k := fun k hk h => hn _ (hown _ hk (by have := hlt k h; omega)) h
    replace Y2 := Y2.ext E5 (fun h => by have := hne _ h; omega)
    replace hL3 := hL3.ext E5 (fun h => by have := hne _ h; omega) (fun h => by have := hne _ h; omega)
    replace XG := XG.trans (E5.mono fun k _ h => hn k h)
    replace XB := XB.write E5 (by intro k hk hlt; have := hne k hk; omega)
    clear hO E5 hown
    skip
    refine RunL.store Tryd.tOk rfl rfl rfl rfl rfl Y2 rfl rfl fun u6 t6 => ?_
    replace Y2 : Blk u6 B2 [.slice (some ⟨b5, o5, none⟩) (i + [x].length) c5] 30 := t6.at_
    replace hL3 := hL3.ext t6.ext (by omega) (by omega)
    replace XG := XG.trans (t6.ext.mono fun k _ h hk => hB (h ▸ hk))
    replace XB := XB.write t6.ext (by intro k hk hlt; omega)
    replace O5 := ownsRow_ext O5 t6.ext (fun k hk h => by have := ownsRow_ge O5 hk; omega)
    have hs6 := XG.size
    repeat' (first | refine RunL.nil ?_ | refine RunE.inBlock ?_)
    refine RunE.endR ⟨⟨⟨_, Y2, ?_, hn5⟩, hB, by omega, XB⟩, XG⟩ hL3
    rw [List.take_add_one, hxl, flat_append]
    exact O5
  · rintro G w' hk ⟨⟨y, h2, ho, hn⟩, hB, hsz, e1⟩ hD hnG
    rw [List.length_map, List.take_length] at ho
    rw [List.length_map] at hk
    obtain ⟨dy, cy, rfl⟩ := isSl_slice (isSl_own ho)
    repeat' (first | refine RunLN.any ?_ | refine RunL.ev Tryd.tOk rfl rfl rfl ?_ | refine RunL.evV rfl rfl rfl (OpV.load1 Tryd.tOk rfl rfl rfl (Blk.cell h2 rfl)) ?_ | refine RunE.seq ?_ | refine RunE.region ?_ | refine RunL.nil ?_ | refine RunE.inBlock ?_)
    refine RunE.retFn1 Tryd.func84 hD fun w9 t9 => ?_
    refine ⟨_, .tmp rfl .nil, G, hKup _ _ _ _ hk (t9.ext.mono fun k _ h hk => (hnG k hk).1 h), ownsRow_base (ownsRow_ext ho t9.ext (fun k hk h => by have := ownsRow_ge ho hk; omega)) (by omega), hn, ?_⟩
    exact ((ExtB.of_ext X).trans e1).write t9.ext (by intro k hk hlt; omega)
theorem pcollect_ok (xs : List Pr) (f : Value) (K : Nat → (Nat → Prop) → World → Prop) (W0 w : World) (G0 : Nat → Prop) (hG : GivesM Tryd.prog f (xs.map fun x => [.agg x.cells.toArray]) K W0) (hK : ∀ w2, Ext w w2 → K 0 G0 w2) (hG0 : ∀ k, G0 k → k < w.heap.size) (hW : W0.heap.size ≤ w.heap.size)
    (hKup : ∀ G i w1 w2, K i G w1 → ExtB (fun k => ¬ G k) w1 w2 → K i G w2) (hl : xs.length ≤ 100000) :
    Rets Tryd.prog 51 [f] w fun r w' => ∃ G, K xs.length G w' ∧ w'.ownsRow w.heap.size 46 4 r xs.length (flat Pr.cells xs) ∧ (∀ k, r.ownBlock = some k → ¬ G k) ∧ ExtB (fun k => W0.heap.size ≤ k) w w' := by
  refine RetsX.of (nt := 5) Tryd.func51 (by kernel_rfl) rfl rfl (by simp) (by simp only [argEnv]; rfl) ?_
  repeat' (first | refine RunLN.any ?_ | refine RunL.ev Tryd.tOk rfl rfl rfl ?_ | refine RunE.seq ?_ | refine RunE.region ?_ | refine RunL.nil ?_)
  refine RunL.call rfl rfl rfl (pappendSeq_ok xs f K W0 w G0 hG hK hG0 hW hKup hl) ?_
  rintro r w1 h1
  repeat' (first | refine RunLN.any ?_ | refine RunL.ev Tryd.tOk rfl rfl rfl ?_ | refine RunL.nil ?_)
  exact RunE.retFn Tryd.func51 (.tmp rfl .nil) h1
end Go.Sg
end
