/- Devices: the reference's Current, Accepts. -/
import Derived.Test.YtamcgoplhnbmcaaDoorDevB
import Derived.Test.YtamcgoplhnbmcaaDoorY09
import Derived.Test.YtamcgoplhnbmcaaDoorY10
set_option linter.unusedSimpArgs false
set_option linter.unusedVariables false
set_option linter.unusedSectionVars false
namespace Go.Sg
open Go.Rn Go.Proofs Go.Dev Go.Rec Go.Best Go.Sha
attribute [local irreducible] Go.Rn.RetsX Go.Rn.RunLN Go.Rn.AsyN Go.Rn.RunL Go.Rn.RunE Go.Rn.Asy Go.Rn.OpV Go.Rn.OpE Go.Rn.ExecE
set_option maxHeartbeats 2000000 in
theorem rCurrent48_ok (l : List Dev) (v : Value) (p t time : Int) (w : World) (hv : LD w v l) (hl : l.length < 9223372036854775808) :
    Rets Tryd.prog 38 [v, .int .i64 p, .int .i64 t, .int .i64 time] w fun r w' => r = .tuple #[.int .i64 (ansD (curD l p t time)).1, .int .i64 (ansD (curD l p t time)).2.1, .bool (ansD (curD l p t time)).2.2, .int .i64 (curE l p t time)] ∧ Ext w w' := by
  refine RetsX.of (nt := 39) Tryd.func38 (by kernel_rfl) rfl rfl (by simp) (by simp only [argEnv]; rfl) ?_
  have X := ExtB.refl (fun _ => False) w
  repeat' (first | with_reducible refine RunLN.boolF rfl ?_ | refine RunLN.int (by (first | exact wr_i64 (by omega) (by omega) | exact wm_i64 (by omega) | exact wq_i64 (by omega) (by omega) (by omega) | rfl)) ?_ | refine RunLN.any ?_ | refine RunL.ev Tryd.tOk rfl rfl rfl ?_ | refine RunE.seq ?_ | refine RunE.region ?_ | refine RunL.nil ?_)
  refine RunL.call rfl rfl rfl (rerror48_ok l v p t time _ (hv.up X) hl) ?_
  rintro _ _ ⟨rfl, Xa_⟩
  replace X := X.trans Xa_
  clear Xa_
  by_cases he : curE l p t time = 0
  · have hD0 : curD l p t time = heldD (bestD l p t time) := if_pos he
    rw [he]
    repeat' (first | with_reducible refine RunLN.boolF rfl ?_ | refine RunLN.int (by (first | exact wr_i64 (by omega) (by omega) | exact wm_i64 (by omega) | exact wq_i64 (by omega) (by omega) (by omega) | rfl)) ?_ | refine RunLN.any ?_ | refine RunL.ev Tryd.tOk rfl rfl rfl ?_ | refine RunE.condF rfl rfl ?_ | refine RunE.seq ?_ | refine RunE.region ?_ | refine RunL.nil ?_ | refine RunE.skip ?_)
    refine RunL.call rfl rfl rfl (rcur48_ok l v p t time _ (hv.up X) hl) ?_
    rintro _ _ ⟨⟨b, rfl, hbe, hbk⟩, Xa_⟩
    replace X := X.trans Xa_
    clear Xa_
    rw [← hD0] at hbe
    cases b with
    | none =>
      have hD : curD l p t time = none := hbe.symm
      simp only [idxD]
      repeat' (first | with_reducible refine RunLN.boolT rfl ?_ | with_reducible refine RunLN.boolF rfl ?_ | refine RunLN.int (by (first | exact wr_i64 (by omega) (by omega) | exact wm_i64 (by omega) | exact wq_i64 (by omega) (by omega) (by omega) | rfl)) ?_ | refine RunL.ev Tryd.tOk rfl rfl rfl ?_ | refine RunE.condT rfl rfl ?_ | refine RunE.seq ?_ | refine RunE.region ?_ | refine RunL.nil ?_)
      refine RunE.retFn Tryd.func38 (.tmp rfl (.tmp rfl (.tmp rfl (.tmp rfl .nil)))) ⟨?_, X⟩
      rw [hD]; rfl
    | some z =>
      obtain ⟨k, y⟩ := z
      have hD : curD l p t time = some y := hbe.symm
      have hy := hbk k y rfl
      have hkl : k < l.length := (List.getElem?_eq_some_iff.1 hy).1
      obtain ⟨blk, of, cap, rfl, hr, hc2⟩ := isL_held hv hkl
      have hry := flat_row encD hr hy
      simp only [idxD]
      repeat' (first | with_reducible refine RunLN.boolF rfl ?_ | refine RunLN.int (by (first | exact wr_i64 (by omega) (by omega) | exact wm_i64 (by omega) | exact wq_i64 (by omega) (by omega) (by omega) | rfl)) ?_ | refine RunL.ev Tryd.tOk rfl rfl rfl ?_ | refine RunE.condF rfl rfl ?_ | refine RunE.seq ?_ | refine RunE.region ?_ | refine RunL.nil ?_ | refine RunE.skip ?_)
      refine RunE.draw (fun _ => False) mix ?_
      intro wd_ Xd_
      repeat' (first | with_reducible refine AsyN.boolT rfl ?_ | refine AsyN.int (by (first | exact wr_i64 (by omega) (by omega) | exact wm_i64 (by omega) | exact wq_i64 (by omega) (by omega) (by omega) | rfl)) ?_ | refine AsyN.any ?_ | refine Asy.ev Tryd.tOk rfl rfl rfl ?_ | refine Asy.evV rfl rfl rfl rfl (fun _ X_ => OpV.load1 Tryd.tOk rfl rfl rfl ((hry.up (X.trans (Xd_.trans X_))) _ _ rfl)) ?_ | refine Asy.evV rfl rfl rfl rfl (fun _ X_ => OpV.indexS Tryd.tOk _ rfl rfl rfl rfl (by omega)) ?_)
      refine Asy.end_ (by kernel_rfl) ?_
      intro we_ Xe_
      replace X := X.trans (Xd_.trans Xe_)
      clear Xd_ Xe_
      repeat' (first | refine RunL.nil ?_)
      refine RunE.retFn Tryd.func38 (.tmp rfl (.tmp rfl (.tmp rfl (.tmp rfl .nil)))) ⟨?_, X⟩
      rw [hD]; rfl
  · have hD : curD l p t time = none := if_neg he
    repeat' (first | with_reducible refine RunLN.boolF rfl ?_ | (with_reducible refine RunLN.neT ?_ ?_; focus omega) | refine RunLN.int (by (first | exact wr_i64 (by omega) (by omega) | exact wm_i64 (by omega) | exact wq_i64 (by omega) (by omega) (by omega) | rfl)) ?_ | refine RunL.ev Tryd.tOk rfl rfl rfl ?_ | refine RunE.condT rfl rfl ?_ | refine RunE.seq ?_ | refine RunE.region ?_ | refine RunL.nil ?_)
    refine RunE.retFn Tryd.func38 (.tmp rfl (.tmp rfl (.tmp rfl (.tmp rfl .nil)))) ⟨?_, X⟩
    rw [hD]; rfl
set_option maxHeartbeats 2000000 in
theorem rAccepts48_ok (l : List Dev) (v m : Value) (b : List UInt8) (E S p t time : Int) (w : World) (hv : LD w v l) (hl : l.length < 9223372036854775808) (hk : ∀ x ∈ l, -9223372036854775808 ≤ x.key ∧ x.key < 9223372036854775808)
    (hE : -9223372036854775808 ≤ E ∧ E < 9223372036854775808) (hS : -9223372036854775808 ≤ S ∧ S < 9223372036854775808) (hm : IsSl w 1 m b.length (bytesV b)) (hb : b.length ≤ 800000) :
    Rets Tryd.prog 40 [v, .int .i64 p, m, .agg #[.int .i64 E, .int .i64 S], .int .i64 t, .int .i64 time] w fun r w' => r = .tuple #[.int .i64 (accD (curD l p t time) b E S).1, .bool (accD (curD l p t time) b E S).2, .int .i64 (curE l p t time)] ∧ Ext w w' := by
  refine RetsX.of (nt := 48) Tryd.func40 (by kernel_rfl) rfl rfl (by simp) (by simp only [argEnv]; rfl) ?_
  have X := ExtB.refl (fun _ => False) w
  repeat' (first | refine RunE.seq ?_ | refine RunE.region ?_)
  refine RunL.box rfl rfl rfl fun B9 w9_ a_ => ?_
  have Z9 : Blk w9_ B9 ([.int .i64 E, .int .i64 S]) 66 := a_.at_
  have gB9 := a_.ge X
  replace X := X.trans a_.ext
  clear a_
  repeat' (first | with_reducible refine RunLN.boolF rfl ?_ | refine RunLN.int (by (first | exact wr_i64 (by omega) (by omega) | exact wm_i64 (by omega) | exact wq_i64 (by omega) (by omega) (by omega) | rfl)) ?_ | refine RunLN.any ?_ | refine RunL.ev Tryd.tOk rfl rfl rfl ?_ | refine RunE.seq ?_ | refine RunE.region ?_ | refine RunL.nil ?_)
  refine RunL.call rfl rfl rfl (rerror48_ok l v p t time _ (hv.up X) hl) ?_
  rintro _ _ ⟨rfl, Xa_⟩
  replace Z9 := Z9.up Xa_
  replace X := X.trans Xa_
  clear Xa_
  by_cases he : curE l p t time = 0
  · have hD0 : curD l p t time = heldD (bestD l p t time) := if_pos he
    rw [he]
    repeat' (first | with_reducible refine RunLN.boolF rfl ?_ | refine RunLN.int (by (first | exact wr_i64 (by omega) (by omega) | exact wm_i64 (by omega) | exact wq_i64 (by omega) (by omega) (by omega) | rfl)) ?_ | refine RunLN.any ?_ | refine RunL.ev Tryd.tOk rfl rfl rfl ?_ | refine RunE.condF rfl rfl ?_ | refine RunE.seq ?_ | refine RunE.region ?_ | refine RunL.nil ?_ | refine RunE.skip ?_)
    refine RunL.call rfl rfl rfl (rcur48_ok l v p t time _ (hv.up X) hl) ?_
    rintro _ _ ⟨⟨b', rfl, hbe, hbk⟩, Xa_⟩
    replace X := X.trans Xa_
    replace Z9 := Z9.up Xa_
    clear Xa_
    rw [← hD0] at hbe
    cases b' with
    | none =>
      have hD : curD l p t time = none := hbe.symm
      simp only [idxD]
      repeat' (first | refine RunLN.int (by (first | exact wr_i64 (by omega) (by omega) | exact wm_i64 (by omega) | exact wq_i64 (by omega) (by omega) (by omega) | rfl)) ?_ | refine RunL.ev Tryd.tOk rfl rfl rfl ?_ | refine RunE.seq ?_ | refine RunL.nil ?_)
      refine RunE.draw (fun _ => False) mix ?_
      intro wd_ Xd_
      repeat' (first | with_reducible refine AsyN.boolT rfl ?_ | refine AsyN.int (by (first | exact wr_i64 (by omega) (by omega) | exact wm_i64 (by omega) | exact wq_i64 (by omega) (by omega) (by omega) | rfl)) ?_ | refine Asy.ev Tryd.tOk rfl rfl rfl ?_ | refine Asy.unwantedD rfl rfl rfl ?_)
      refine Asy.end_ (by kernel_rfl) ?_
      intro we_ Xe_
      replace X := X.trans (Xd_.trans Xe_)
      clear Xd_ Xe_
      repeat' (first | with_reducible refine RunLN.boolF rfl ?_ | refine RunLN.int (by (first | exact wr_i64 (by omega) (by omega) | exact wm_i64 (by omega) | exact wq_i64 (by omega) (by omega) (by omega) | rfl)) ?_ | refine RunL.ev Tryd.tOk rfl rfl rfl ?_ | refine RunE.condT rfl rfl ?_ | refine RunE.seq ?_ | refine RunE.region ?_ | refine RunL.nil ?_)
      refine RunE.retFn Tryd.func40 (.tmp rfl (.tmp rfl (.tmp rfl .nil))) ⟨?_, X⟩
      rw [hD]
      rfl
    | some z =>
      obtain ⟨k, y⟩ := z
      have hD : curD l p t time = some y := hbe.symm
      have hy := hbk k y rfl
      have hkl : k < l.length := (List.getElem?_eq_some_iff.1 hy).1
      have hkx := hk y (List.mem_of_getElem? hy)
      obtain ⟨blk, of, cap, rfl, hr, hc2⟩ := isL_held hv hkl
      have hry := flat_row encD hr hy
      simp only [idxD]
      have hver := fun w' (e : Ext w w') => r11_verify_ok y.key E S m b w' hkx hE hS (hm.up e) hb
      cases hvv : verS y.key b E S with
      | false =>
        rw [hvv] at hver
        repeat' (first | refine RunLN.int (by (first | exact wr_i64 (by omega) (by omega) | exact wm_i64 (by omega) | exact wq_i64 (by omega) (by omega) (by omega) | rfl)) ?_ | refine RunL.ev Tryd.tOk rfl rfl rfl ?_ | refine RunE.seq ?_ | refine RunL.nil ?_)
        refine RunE.draw (fun _ => False) mix ?_
        intro wd_ Xd_
        repeat' (first | with_reducible refine AsyN.boolT rfl ?_ | with_reducible refine AsyN.boolF rfl ?_ | refine AsyN.int (by (first | exact wr_i64 (by omega) (by omega) | exact wm_i64 (by omega) | exact wq_i64 (by omega) (by omega) (by omega) | rfl)) ?_ | refine AsyN.any ?_ | refine Asy.ev Tryd.tOk rfl rfl rfl ?_ | refine Asy.evV rfl rfl rfl rfl (fun _ X_ => OpV.load1 Tryd.tOk rfl rfl rfl ((hry.up (X.trans (Xd_.trans X_))) _ _ rfl)) ?_ | refine Asy.evV rfl rfl rfl rfl (fun _ X_ => OpV.loadN Tryd.tOk rfl rfl rfl rfl (Blk.row (Z9.up (Xd_.trans X_)))) ?_ | refine Asy.callN rfl rfl rfl (fun _ _ => (hver _ ((X.trans Xd_).trans (by assumption)))) ?_ | refine Asy.evV rfl rfl rfl rfl (fun _ X_ => OpV.indexS Tryd.tOk _ rfl rfl rfl rfl (by omega)) ?_)
        refine Asy.end_ (by kernel_rfl) ?_
        intro we_ Xe_
        replace X := X.trans (Xd_.trans Xe_)
        clear Xd_ Xe_
        repeat' (first | with_reducible refine RunLN.boolF rfl ?_ | refine RunLN.int (by (first | exact wr_i64 (by omega) (by omega) | exact wm_i64 (by omega) | exact wq_i64 (by omega) (by omega) (by omega) | rfl)) ?_ | refine RunL.ev Tryd.tOk rfl rfl rfl ?_ | refine RunE.condT rfl rfl ?_ | refine RunE.seq ?_ | refine RunE.region ?_ | refine RunL.nil ?_)
        refine RunE.retFn Tryd.func40 (.tmp rfl (.tmp rfl (.tmp rfl .nil))) ⟨?_, X⟩
        rw [hD]
        show _ = Value.tuple #[.int .i64 (if verS y.key b E S = true then (y.no, true) else (0, false)).1, .bool (if verS y.key b E S = true then (y.no, true) else (0, false)).2, .int .i64 0]
        rw [hvv]; rfl
      | true =>
        rw [hvv] at hver
        repeat' (first | refine RunLN.int (by (first | exact wr_i64 (by omega) (by omega) | exact wm_i64 (by omega) | exact wq_i64 (by omega) (by omega) (by omega) | rfl)) ?_ | refine RunL.ev Tryd.tOk rfl rfl rfl ?_ | refine RunE.seq ?_ | refine RunL.nil ?_)
        refine RunE.draw (fun _ => False) mix ?_
        intro wd_ Xd_
        repeat' (first | with_reducible refine AsyN.boolT rfl ?_ | with_reducible refine AsyN.boolF rfl ?_ | refine AsyN.int (by (first | exact wr_i64 (by omega) (by omega) | exact wm_i64 (by omega) | exact wq_i64 (by omega) (by omega) (by omega) | rfl)) ?_ | refine AsyN.any ?_ | refine Asy.ev Tryd.tOk rfl rfl rfl ?_ | refine Asy.evV rfl rfl rfl rfl (fun _ X_ => OpV.load1 Tryd.tOk rfl rfl rfl ((hry.up (X.trans (Xd_.trans X_))) _ _ rfl)) ?_ | refine Asy.evV rfl rfl rfl rfl (fun _ X_ => OpV.loadN Tryd.tOk rfl rfl rfl rfl (Blk.row (Z9.up (Xd_.trans X_)))) ?_ | refine Asy.callN rfl rfl rfl (fun _ _ => (hver _ ((X.trans Xd_).trans (by assumption)))) ?_ | refine Asy.evV rfl rfl rfl rfl (fun _ X_ => OpV.indexS Tryd.tOk _ rfl rfl rfl rfl (by omega)) ?_)
        refine Asy.end_ (by kernel_rfl) ?_
        intro we_ Xe_
        replace X := X.trans (Xd_.trans Xe_)
        clear Xd_ Xe_
        repeat' (first | with_reducible refine RunLN.boolT rfl ?_ | refine RunLN.int (by (first | exact wr_i64 (by omega) (by omega) | exact wm_i64 (by omega) | exact wq_i64 (by omega) (by omega) (by omega) | rfl)) ?_ | refine RunLN.any ?_ | refine RunL.ev Tryd.tOk rfl rfl rfl ?_ | refine RunL.evV rfl rfl rfl (OpV.load1 Tryd.tOk rfl rfl rfl ((hry.up X) _ _ rfl)) ?_ | refine RunL.evV rfl rfl rfl (OpV.indexS Tryd.tOk _ rfl rfl rfl rfl (by omega)) ?_ | refine RunE.condF rfl rfl ?_ | refine RunE.seq ?_ | refine RunE.region ?_ | refine RunL.nil ?_ | refine RunE.skip ?_)
        refine RunE.retFn Tryd.func40 (.tmp rfl (.tmp rfl (.tmp rfl .nil))) ⟨?_, X⟩
        rw [hD]
        show _ = Value.tuple #[.int .i64 (if verS y.key b E S = true then (y.no, true) else (0, false)).1, .bool (if verS y.key b E S = true then (y.no, true) else (0, false)).2, .int .i64 0]
        rw [hvv]; rfl
  · have hD : curD l p t time = none := if_neg he
    repeat' (first | with_reducible refine RunLN.boolF rfl ?_ | (with_reducible refine RunLN.neT ?_ ?_; focus omega) | refine RunLN.int (by (first | exact wr_i64 (by omega) (by omega) | exact wm_i64 (by omega) | exact wq_i64 (by omega) (by omega) (by omega) | rfl)) ?_ | refine RunL.ev Tryd.tOk rfl rfl rfl ?_ | refine RunE.condT rfl rfl ?_ | refine RunE.seq ?_ | refine RunE.region ?_ | refine RunL.nil ?_)
    refine RunE.retFn Tryd.func40 (.tmp rfl (.tmp rfl (.tmp rfl .nil))) ⟨?_, X⟩
    rw [hD]
    rfl
end Go.Sg
