/- Devices: Check. -/
import Derived.Test.YtamcgoplhnbmcaaDoorN06
set_option linter.unusedSimpArgs false
set_option linter.unusedVariables false
set_option linter.unusedSectionVars false
namespace Go.Sg
open Go.Rn Go.Proofs Go.Dev Go.Rec Go.Best Go.NT
attribute [local irreducible] Go.Rn.RetsX Go.Rn.RunLN Go.Rn.AsyN Go.Rn.RunL Go.Rn.RunE Go.Rn.Asy Go.Rn.OpV Go.Rn.OpE Go.Rn.ExecE
theorem intKey : KeyOk Tryd.prog 3 (Value.int .i64) fun _ => True := keyOk_int Tryd.underlying3
set_option maxHeartbeats 2000000 in
theorem dcheck_ok (l : List Dev) (v : Value) (w : World) (hv : LD w v l) (hl : l.length < 9223372036854775808) : Rets Tryd.prog 34 [v] w fun r w' => r = .int .i64 (chkD l) ∧ Ext w w' := by
  refine RetsX.of (nt := 41) Tryd.func34 (by kernel_rfl) rfl rfl (by simp) (by simp only [argEnv]; rfl) ?_
  have X := ExtB.refl (fun _ => False) w
  repeat' (first | refine RunLN.int (by (first | exact wr_i64 (by omega) (by omega) | exact wm_i64 (by omega) | exact wq_i64 (by omega) (by omega) (by omega) | rfl)) ?_ | (refine RunLN.boolC (fun h_ => ?_) (fun h_ => ?_) <;> (try simp only [decide_eq_true_eq, decide_eq_false_iff_not, beq_iff_eq, bne_iff_ne, ne_eq, Bool.not_eq_true, Bool.not_eq_false, beq_eq_false_iff_ne, bne_eq_false_iff_eq, Bool.not_eq_eq_eq_not, Bool.not_true, Bool.not_false, Bool.not_not, Int.not_lt, Int.not_le, gt_iff_lt, ge_iff_le, Decidable.not_not] at h_)) | refine RunLN.any ?_ | refine RunL.ev Tryd.tOk rfl rfl rfl ?_ | refine RunL.evV rfl rfl rfl (OpV.lenSl Tryd.tOk rfl rfl hv) ?_ | refine RunE.condT rfl rfl ?_ | refine RunE.condF rfl rfl ?_ | refine RunE.seq ?_ | refine RunE.region ?_ | refine RunL.nil ?_ | refine RunE.skip ?_)
  · exact RunE.retFn Tryd.func34 (.tmp rfl .nil) ⟨by simp only [oneOr]; unfold chkD; rw [if_pos (by omega)], X⟩
  refine RunL.ex rfl rfl rfl (OpE.makeMap (Value.int .i64) (fun _ => True)) ?_
  rintro _ w1 ⟨BM, rfl, a, ZM⟩
  have gBM := a.ge X
  replace X := X.trans a.ext
  clear a
  repeat' (first | refine RunLN.int (by (first | exact wr_i64 (by omega) (by omega) | exact wm_i64 (by omega) | exact wq_i64 (by omega) (by omega) (by omega) | rfl)) ?_ | refine RunLN.any ?_ | refine RunL.ev Tryd.tOk rfl rfl rfl ?_ | refine RunL.evV rfl rfl rfl (OpV.lenSl Tryd.tOk rfl rfl hv) ?_ | refine RunE.seq ?_ | refine RunE.region ?_ | refine RunL.nil ?_ | refine RunE.block ?_)
  refine RunE.loop (ι := Nat × Int × List (Int × Value)) (fun s => [(3, .map (some BM)), (4, .int .i64 s.2.1), (11, v), (12, .int .i64 (l.length : Int)), (13, .int .i64 (s.1 : Int))])
    (fun s w' => s.1 ≤ l.length ∧ goodL (l.take s.1) s.2.1 (l.drop s.1) = goodL [] (-1) l ∧ UsedM s.2.2 (l.take s.1) ∧ MapK (Value.int .i64) (fun _ => True) w' BM s.2.2 ∧ Ext w w') (fun s => l.length - s.1) (0, -1, []) (by repeat (first | exact Sub.nil _ | refine Sub.cons rfl ?_)) ⟨Nat.zero_le _, rfl, usedM_nil, ZM, X⟩ ?_
  clear X ZM
  rintro ⟨i, last, m⟩ w3 ⟨hi, hg, hu, ZM, X⟩ again
  simp only at hi hg hu ZM X again ⊢
  by_cases hlt : i < l.length
  · obtain ⟨b, o, cap, rfl, hr, hc⟩ := isL_held hv hlt
    obtain ⟨x, hx⟩ : ∃ x, l[i]? = some x := ⟨_, List.getElem?_eq_getElem hlt⟩
    have hrx := flat_row encD hr hx
    have hd : l.drop i = x :: l.drop (i + 1) := by
      obtain ⟨hi, e⟩ := List.getElem?_eq_some_iff.1 hx
      rw [List.drop_eq_getElem_cons hi, e]
    have ht : l.take (i + 1) = l.take i ++ [x] := by rw [List.take_add_one, hx]; rfl
    rw [hd] at hg
    simp only [goodL] at hg
    repeat' (first | (with_reducible refine RunLN.decT ?_ ?_; focus omega) | refine RunLN.any ?_ | refine RunL.ev Tryd.tOk rfl rfl rfl ?_ | refine RunL.evV rfl rfl rfl (OpV.loadN Tryd.tOk rfl rfl rfl rfl (hrx.up X)) ?_ | refine RunL.evV rfl rfl rfl (OpV.indexS Tryd.tOk _ rfl rfl rfl rfl (by omega)) ?_ | refine RunE.condT rfl rfl ?_ | refine RunE.seq ?_ | refine RunE.region ?_ | refine RunL.nil ?_ | refine RunE.block ?_ | refine RunE.skip ?_)
    refine RunL.alloc Tryd.tOk rfl rfl rfl fun B6 w6_ a_ => ?_
    have Z6 : Blk w6_ B6 (zeroD.cells) 57 := a_.at_
    have gB6 := a_.ge X
    have nM_6 : BM ≠ B6 := by have := ZM.lt; have := a_.eq; omega
    have n6_M : B6 ≠ BM := Ne.symm nM_6
    replace ZM := ZM.up a_.ext
    replace X := X.trans a_.ext
    clear a_
    skip
    refine RunL.store Tryd.tOk rfl rfl rfl rfl rfl Z6 rfl rfl fun w_ t_ => ?_
    replace X := X.own t_.ext gB6
    replace ZM := ZM.other t_.ext nM_6
    replace Z6 : Blk w_ B6 (x.cells) 57 := t_.at_
    clear t_
    repeat' (first | refine RunLN.any ?_ | refine RunL.evV rfl rfl rfl (OpV.loadN Tryd.tOk rfl rfl rfl rfl (Blk.row Z6)) ?_ | refine RunE.seq ?_ | refine RunE.region ?_ | refine RunL.nil ?_)
    refine RunL.call rfl rfl rfl (dright_ok x _) ?_
    rintro _ _ ⟨rfl, Xa_⟩
    replace Z6 := Z6.up Xa_
    replace ZM := ZM.up Xa_
    replace X := X.trans Xa_
    clear Xa_
    cases hrt : rightD x with
    | false =>
      rw [hrt, Bool.false_and, Bool.false_and, Bool.false_and] at hg
      repeat' (first | with_reducible refine RunLN.boolT rfl ?_ | refine RunLN.int (by (first | exact wr_i64 (by omega) (by omega) | exact wm_i64 (by omega) | exact wq_i64 (by omega) (by omega) (by omega) | rfl)) ?_ | refine RunL.ev Tryd.tOk rfl rfl rfl ?_ | refine RunL.unwantedD rfl rfl ?_ | refine RunE.condT rfl rfl ?_ | refine RunE.seq ?_ | refine RunE.region ?_ | refine RunL.nil ?_)
      exact RunE.retFn Tryd.func34 (.tmp rfl .nil) ⟨by simp only [oneOr]; unfold chkD; rw [if_neg (by omega), if_neg (by rw [← hg]; simp)], X⟩
    | true =>
      rw [hrt, Bool.true_and] at hg
      by_cases hlast : last < x.no
      · rw [decide_eq_true hlast, Bool.true_and] at hg
        obtain ⟨bu, hb1, hb2⟩ := hu x.key
        repeat' (first | with_reducible refine RunLN.boolF rfl ?_ | (with_reducible refine RunLN.decF ?_ ?_; focus omega) | refine RunLN.int (by (first | exact wr_i64 (by omega) (by omega) | exact wm_i64 (by omega) | exact wq_i64 (by omega) (by omega) (by omega) | rfl)) ?_ | refine RunLN.any ?_ | refine RunL.ev Tryd.tOk rfl rfl rfl ?_ | refine RunL.evV rfl rfl rfl (OpV.load1 Tryd.tOk rfl rfl rfl (Blk.cell Z6 rfl)) ?_)
        refine RunL.evV rfl rfl rfl (OpV.lookup (kv := Value.int .i64) (good := fun _ => True) (k := x.key) (z := .bool false) Tryd.underlying42 intKey (by kernel_rfl) rfl rfl trivial ZM) ?_
        rw [hb1]
        cases bu with
        | true =>
          rw [← hb2, Bool.not_true, Bool.false_and] at hg
          repeat' (first | with_reducible refine RunLN.boolT rfl ?_ | refine RunLN.int (by (first | exact wr_i64 (by omega) (by omega) | exact wm_i64 (by omega) | exact wq_i64 (by omega) (by omega) (by omega) | rfl)) ?_ | refine RunL.ev Tryd.tOk rfl rfl rfl ?_ | refine RunE.condT rfl rfl ?_ | refine RunE.seq ?_ | refine RunE.region ?_ | refine RunL.nil ?_)
          exact RunE.retFn Tryd.func34 (.tmp rfl .nil) ⟨by simp only [oneOr]; unfold chkD; rw [if_neg (by omega), if_neg (by rw [← hg]; simp)], X⟩
        | false =>
          have hus := usedM_set hu hrt hb2.symm
          rw [← hb2, Bool.not_false, Bool.true_and, ← ht] at hg
          rw [← ht] at hus
          repeat' (first | with_reducible refine RunLN.boolF rfl ?_ | refine RunL.ev Tryd.tOk rfl rfl rfl ?_ | refine RunE.condF rfl rfl ?_ | refine RunL.nil ?_ | refine RunE.skip ?_)
          refine RunE.draw (fun _ => False) mix ?_
          intro wd_ Xd_
          repeat' (first | refine AsyN.int (by (first | exact wr_i64 (by omega) (by omega) | exact wm_i64 (by omega) | exact wq_i64 (by omega) (by omega) (by omega) | rfl)) ?_ | refine AsyN.any ?_ | refine Asy.ev Tryd.tOk rfl rfl rfl ?_ | refine Asy.evV rfl rfl rfl rfl (fun _ X_ => OpV.load1 Tryd.tOk rfl rfl rfl (Blk.cell (Z6.up (Xd_.trans X_)) rfl)) ?_)
          refine Asy.tail (by kernel_rfl) ?_
          intro we_ Xe_
          simp only [satsAll]
          have ZM' := (ZM.up Xd_).up Xe_
          replace X := X.trans (Xd_.trans Xe_)
          refine RunL.exN rfl rfl (OpE.mapSet (kv := Value.int .i64) (good := fun _ => True) (k := x.key) (v := .bool (!x.gone)) Tryd.underlying42 intKey rfl rfl rfl trivial ZM') ?_
          rintro _ w9 ⟨hM9, E9, -⟩
          replace X : Ext w w9 := X.write E9 (by intro k hk hlt; omega)
          repeat' (first | refine RunLN.int (by (first | exact wr_i64 (by omega) (by omega) | exact wm_i64 (by omega) | exact wq_i64 (by omega) (by omega) (by omega) | rfl)) ?_ | refine RunL.ev Tryd.tOk rfl rfl rfl ?_ | refine RunE.region ?_ | refine RunL.nil ?_ | refine RunE.inBlock ?_)
          exact RunE.weaken (by repeat (first | exact Sub.nil _ | refine Sub.cons rfl ?_)) (again (i + 1, x.no, setM x.key (.bool (!x.gone)) m) _ (by simp only; omega) ⟨by simp only; omega, hg, hus, hM9, X⟩)
      · rw [decide_eq_false hlast, Bool.false_and, Bool.false_and] at hg
        repeat' (first | with_reducible refine RunLN.boolT rfl ?_ | with_reducible refine RunLN.boolF rfl ?_ | (with_reducible refine RunLN.decT ?_ ?_; focus omega) | refine RunLN.int (by (first | exact wr_i64 (by omega) (by omega) | exact wm_i64 (by omega) | exact wq_i64 (by omega) (by omega) (by omega) | rfl)) ?_ | refine RunLN.any ?_ | refine RunL.ev Tryd.tOk rfl rfl rfl ?_ | refine RunL.unwantedD rfl rfl ?_ | refine RunL.evV rfl rfl rfl (OpV.load1 Tryd.tOk rfl rfl rfl (Blk.cell Z6 rfl)) ?_ | refine RunE.condT rfl rfl ?_ | refine RunE.seq ?_ | refine RunE.region ?_ | refine RunL.nil ?_)
        exact RunE.retFn Tryd.func34 (.tmp rfl .nil) ⟨by simp only [oneOr]; unfold chkD; rw [if_neg (by omega), if_neg (by rw [← hg]; simp)], X⟩
  · obtain rfl : i = l.length := by omega
    rw [List.drop_length] at hg
    simp only [goodL] at hg
    repeat' (first | (with_reducible refine RunLN.decF ?_ ?_; focus omega) | refine RunLN.int (by (first | exact wr_i64 (by omega) (by omega) | exact wm_i64 (by omega) | exact wq_i64 (by omega) (by omega) (by omega) | rfl)) ?_ | refine RunL.ev Tryd.tOk rfl rfl rfl ?_ | refine RunE.condF rfl rfl ?_ | refine RunE.seq ?_ | refine RunE.region ?_ | refine RunL.nil ?_ | refine RunE.exit rfl ?_)
    exact RunE.retFn Tryd.func34 (.tmp rfl .nil) ⟨by simp only [oneOr]; unfold chkD; rw [if_neg (by omega), if_pos hg.symm], X⟩
end Go.Sg
