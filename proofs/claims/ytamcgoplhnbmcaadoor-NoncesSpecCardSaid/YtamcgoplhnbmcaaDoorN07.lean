/- Parts of this project that the claims share: Dev6, Lists, DevD, DevE, Non1, NonG, Non2, Non4, Non5, Non6, DelS, Cmp, Non7. -/
import Derived.Test.YtamcgoplhnbmcaaDoorN04
import Derived.Test.YtamcgoplhnbmcaaDoorN06
import Derived.Test.YtamcgoplhnbmcaaDoorN03
import Derived.Test.YtamcgoplhnbmcaaDoorN05
import Derived.Test.YtamcgoplhnbmcaaDoorN01
import Derived.Shelf.Slices.Delete
set_option linter.unusedSimpArgs false
set_option linter.unusedVariables false
set_option linter.unusedSectionVars false
section
/- Devices: the reference's Check. -/
namespace Go.Sg
open Go.Rn Go.Proofs Go.Dev Go.Rec Go.Best Go.NT
attribute [local irreducible] Go.Rn.RetsX Go.Rn.RunLN Go.Rn.AsyN Go.Rn.RunL Go.Rn.RunE Go.Rn.Asy Go.Rn.OpV Go.Rn.OpE Go.Rn.ExecE
set_option maxHeartbeats 2000000 in
theorem rcheck48_ok (l : List Dev) (v : Value) (w : World) (hv : LD w v l) (hl : l.length < 9223372036854775808) : Rets Tryd.prog 35 [v] w fun r w' => r = .int .i64 (chkD l) ∧ Ext w w' := by
  refine RetsX.of (nt := 48) Tryd.func35 (by kernel_rfl) rfl rfl (by simp) (by simp only [argEnv]; rfl) ?_
  have X := ExtB.refl (fun _ => False) w
  repeat' (first | (with_reducible refine RunLN.chk ?_; refine RunLN.int (by (first | (refine wr_i64 ?_ ?_; omega; omega) | (refine wm_i64 ?_; omega) | (refine wq_i64 ?_ ?_ ?_; omega; omega; omega) | rfl)) ?_) | (refine RunLN.boolC (fun h_ => ?_) (fun h_ => ?_) <;> (try simp only [decide_eq_true_eq, decide_eq_false_iff_not, beq_iff_eq, bne_iff_ne, ne_eq, Bool.not_eq_true, Bool.not_eq_false, beq_eq_false_iff_ne, bne_eq_false_iff_eq, Bool.not_eq_eq_eq_not, Bool.not_true, Bool.not_false, Bool.not_not, Int.not_lt, Int.not_le, gt_iff_lt, ge_iff_le, Decidable.not_not] at h_)) | refine RunLN.any ?_ | refine RunL.ev Tryd.tOk rfl rfl rfl ?_ | refine RunL.evV rfl rfl rfl (OpV.lenSl Tryd.tOk rfl rfl hv) ?_ | refine RunE.condT rfl rfl ?_ | refine RunE.condF rfl rfl ?_ | refine RunE.seq ?_ | refine RunE.region ?_ | refine RunL.nil ?_ | refine RunE.block ?_ | refine RunE.skip ?_)
  · exact RunE.retFn Tryd.func35 (.tmp rfl .nil) ⟨by simp only [oneOr]; unfold chkD; rw [if_pos (by omega)], X⟩
  skip
  refine RunE.loop (ι := Nat) (fun x => [(0, v), (3, .int .i64 (x : Int))])
    (fun i w' => i ≤ l.length ∧ (∃ last, -1 ≤ last ∧ (i = 0 → last = -1) ∧ (∀ y, l[i - 1]? = some y → 0 < i → y.no = last) ∧ goodL (l.take i) last (l.drop i) = goodL [] (-1) l) ∧ Ext w w') (fun x => l.length - x) 0 (by repeat (first | exact Sub.nil _ | refine Sub.cons rfl ?_))
    ⟨Nat.zero_le _, ⟨-1, by omega, fun _ => rfl, fun y _ h => absurd h (by omega), rfl⟩, X⟩ ?_
  clear X
  rintro i w3 ⟨hi, ⟨last, hm, h0, hp, hg⟩, X⟩ again
  by_cases hlt : i < l.length
  · obtain ⟨b, o, cap, rfl, hr, hc⟩ := isL_held hv hlt
    obtain ⟨x, hx⟩ : ∃ x, l[i]? = some x := ⟨_, List.getElem?_eq_getElem hlt⟩
    have hrx := flat_row encD hr hx
    have hd : l.drop i = x :: l.drop (i + 1) := by
      obtain ⟨hi, e⟩ := List.getElem?_eq_some_iff.1 hx
      rw [List.drop_eq_getElem_cons hi, e]
    have ht : l.take (i + 1) = l.take i ++ [x] := by rw [List.take_add_one, hx]; rfl
    have hpre : ∀ w', Ext w w' → LD w' (.slice (some ⟨b, o, none⟩) i cap) (l.take i) := fun w' e => by
      have h1 : Row w' b o (flat Dev.cells (l.take i)) := by have := (hr.extE e).take (i * 6); rwa [flat_take encD] at this
      have h2 : (l.take i).length = i := by rw [List.length_take, Nat.min_eq_left hi]
      have h3 := IsSl.row (n := i) (cap := cap) (sz := 6) h1 (by rw [flat_length encD, h2]) (by omega)
      exact (congrArg (fun n => IsSl _ _ _ n _) h2).mpr h3
    rw [hd] at hg
    simp only [goodL] at hg
    rw [← ht] at hg
    repeat' (first | (with_reducible refine RunLN.decT ?_ ?_; focus omega) | (with_reducible refine RunLN.chk ?_; refine RunLN.int (by (first | (refine wr_i64 ?_ ?_; omega; omega) | (refine wm_i64 ?_; omega) | (refine wq_i64 ?_ ?_ ?_; omega; omega; omega) | rfl)) ?_) | refine RunLN.any ?_ | refine RunL.ev Tryd.tOk rfl rfl rfl ?_ | refine RunE.condT rfl rfl ?_ | refine RunE.seq ?_ | refine RunE.region ?_ | refine RunL.nil ?_ | refine RunE.block ?_ | refine RunE.skip ?_)
    refine RunE.draw (fun _ => False) mix ?_
    intro wd_ Xd_
    have hcx := fun w => rright48_ok x w
    cases hrt : rightD x with
    | false =>
      rw [hrt] at hcx hg
      simp only [Bool.false_and] at hg
      repeat' (first | with_reducible refine AsyN.boolT rfl ?_ | with_reducible refine AsyN.boolF rfl ?_ | (with_reducible refine AsyN.chk ?_; refine AsyN.int (by (first | (refine wr_i64 ?_ ?_; omega; omega) | (refine wm_i64 ?_; omega) | (refine wq_i64 ?_ ?_ ?_; omega; omega; omega) | rfl)) ?_) | refine AsyN.any ?_ | refine Asy.ev Tryd.tOk rfl rfl rfl ?_ | refine Asy.unwantedD rfl rfl rfl ?_ | refine Asy.evV rfl rfl rfl rfl (fun _ X_ => OpV.loadN Tryd.tOk rfl rfl rfl rfl (hrx.up (X.trans (Xd_.trans X_)))) ?_ | refine Asy.callN rfl rfl rfl (fun _ _ => (hcx _)) ?_ | refine Asy.evV rfl rfl rfl rfl (fun _ X_ => OpV.indexS Tryd.tOk _ rfl rfl rfl rfl (by omega)) ?_)
      refine Asy.end_ (by kernel_rfl) ?_
      intro we_ Xe_
      replace X := X.trans (Xd_.trans Xe_)
      repeat' (first | (with_reducible refine RunLN.chk ?_; refine RunLN.int (by (first | (refine wr_i64 ?_ ?_; omega; omega) | (refine wm_i64 ?_; omega) | (refine wq_i64 ?_ ?_ ?_; omega; omega; omega) | rfl)) ?_) | refine RunL.ev Tryd.tOk rfl rfl rfl ?_ | refine RunE.condT rfl rfl ?_ | refine RunE.seq ?_ | refine RunE.region ?_ | refine RunL.nil ?_)
      exact RunE.retFn Tryd.func35 (.tmp rfl .nil) ⟨by simp only [oneOr]; unfold chkD; rw [if_neg (by omega), if_neg (by rw [← hg]; simp)], X⟩
    | true =>
      rw [hrt] at hcx
      rw [hrt, Bool.true_and] at hg
      have hx0 := (right_no hrt).1
      have next : goodL (l.take (i + 1)) x.no (l.drop (i + 1)) = goodL [] (-1) l → ∀ w', Ext w w' → _ := fun h2 w' X' => again (i + 1) w' (by omega) ⟨by omega, ⟨x.no, by omega, fun h => by omega, fun y hy _ => by rw [Nat.add_sub_cancel, hx] at hy; cases hy; rfl, h2⟩, X'⟩
      clear again
      by_cases hz : i = 0
      · have hlast := h0 hz
        have hlx : last < x.no := by omega
        rw [decide_eq_true hlx, Bool.true_and] at hg
        repeat' (first | with_reducible refine AsyN.boolT rfl ?_ | with_reducible refine AsyN.boolF rfl ?_ | (with_reducible refine AsyN.decF ?_ ?_; focus omega) | (with_reducible refine AsyN.chk ?_; refine AsyN.int (by (first | (refine wr_i64 ?_ ?_; omega; omega) | (refine wm_i64 ?_; omega) | (refine wq_i64 ?_ ?_ ?_; omega; omega; omega) | rfl)) ?_) | refine AsyN.any ?_ | refine Asy.ev Tryd.tOk rfl rfl rfl ?_ | refine Asy.unwantedD rfl rfl rfl ?_ | refine Asy.evV rfl rfl rfl rfl (fun _ X_ => OpV.loadN Tryd.tOk rfl rfl rfl rfl (hrx.up (X.trans (Xd_.trans X_)))) ?_ | refine Asy.evV rfl rfl rfl rfl (fun _ X_ => OpV.load1 Tryd.tOk rfl rfl rfl ((hrx.up (X.trans (Xd_.trans X_))) _ _ rfl)) ?_ | refine Asy.callN rfl rfl rfl (fun _ _ => (hcx _)) ?_ | refine Asy.evV rfl rfl rfl rfl (fun _ X_ => (OpV.slice0 Tryd.tOk (hi := i) rfl rfl .none (.some rfl rfl) (by omega))) ?_ | refine Asy.evV rfl rfl rfl rfl (fun _ X_ => OpV.indexS Tryd.tOk _ rfl rfl rfl rfl (by omega)) ?_)
        refine Asy.callN rfl rfl rfl (fun w' e => (rused48_ok (l.take i) _ x.key w' (hpre _ (X.trans (Xd_.trans e))) (by simp only [List.length_take]; omega)).mono (fun _ _ h => ⟨h.1, by rw [h.2]; exact ExtB.refl _ _⟩)) ?_
        cases hus : usedD (l.take i) x.key with
        | true =>
          rw [hus, Bool.not_true, Bool.false_and] at hg
          repeat' (first | with_reducible refine AsyN.boolT rfl ?_ | refine Asy.ev Tryd.tOk rfl rfl rfl ?_)
          refine Asy.end_ (by kernel_rfl) ?_
          intro we_ Xe_
          replace X := X.trans (Xd_.trans Xe_)
          repeat' (first | (with_reducible refine RunLN.chk ?_; refine RunLN.int (by (first | (refine wr_i64 ?_ ?_; omega; omega) | (refine wm_i64 ?_; omega) | (refine wq_i64 ?_ ?_ ?_; omega; omega; omega) | rfl)) ?_) | refine RunL.ev Tryd.tOk rfl rfl rfl ?_ | refine RunE.condT rfl rfl ?_ | refine RunE.seq ?_ | refine RunE.region ?_ | refine RunL.nil ?_)
          exact RunE.retFn Tryd.func35 (.tmp rfl .nil) ⟨by simp only [oneOr]; unfold chkD; rw [if_neg (by omega), if_neg (by rw [← hg]; simp)], X⟩
        | false =>
          rw [hus, Bool.not_false, Bool.true_and] at hg
          repeat' (first | with_reducible refine AsyN.boolF rfl ?_ | refine Asy.ev Tryd.tOk rfl rfl rfl ?_)
          refine Asy.end_ (by kernel_rfl) ?_
          intro we_ Xe_
          replace X := X.trans (Xd_.trans Xe_)
          repeat' (first | (with_reducible refine RunLN.chk ?_; refine RunLN.int (by (first | (refine wr_i64 ?_ ?_; omega; omega) | (refine wm_i64 ?_; omega) | (refine wq_i64 ?_ ?_ ?_; omega; omega; omega) | rfl)) ?_) | refine RunL.ev Tryd.tOk rfl rfl rfl ?_ | refine RunE.condF rfl rfl ?_ | refine RunE.region ?_ | refine RunL.nil ?_ | refine RunE.inBlock ?_ | refine RunE.skip ?_)
          exact RunE.weaken (by repeat (first | exact Sub.nil _ | refine Sub.cons rfl ?_)) (next hg _ X)
      · obtain ⟨y, hy⟩ : ∃ y, l[i - 1]? = some y := ⟨_, List.getElem?_eq_getElem (by omega)⟩
        have hry := flat_row encD hr hy
        have hyl := hp y hy (by omega)
        have him : ((i : Int) - 1) = ((i - 1 : Nat) : Int) := by omega
        by_cases hlast : last < x.no
        · rw [decide_eq_true hlast, Bool.true_and] at hg
          repeat' (first | with_reducible refine AsyN.boolT rfl ?_ | with_reducible refine AsyN.boolF rfl ?_ | (with_reducible refine AsyN.decT ?_ ?_; focus omega) | (with_reducible refine AsyN.decF ?_ ?_; focus omega) | (with_reducible refine AsyN.chk ?_; refine AsyN.int (by (first | (refine wr_i64 ?_ ?_; omega; omega) | (refine wm_i64 ?_; omega) | (refine wq_i64 ?_ ?_ ?_; omega; omega; omega) | rfl)) ?_) | refine AsyN.any ?_ | refine Asy.ev Tryd.tOk rfl rfl rfl ?_ | refine Asy.evV rfl rfl rfl rfl (fun _ X_ => OpV.loadN Tryd.tOk rfl rfl rfl rfl (hrx.up (X.trans (Xd_.trans X_)))) ?_ | refine Asy.callN rfl rfl rfl (fun _ _ => (hcx _)) ?_ | refine Asy.evV rfl rfl rfl rfl (fun _ X_ => OpV.load1 Tryd.tOk rfl rfl rfl ((hry.up (X.trans (Xd_.trans X_))) _ _ rfl)) ?_ | refine Asy.evV rfl rfl rfl rfl (fun _ X_ => OpV.load1 Tryd.tOk rfl rfl rfl ((hrx.up (X.trans (Xd_.trans X_))) _ _ rfl)) ?_ | refine Asy.evV rfl rfl rfl rfl (fun _ X_ => OpV.indexS Tryd.tOk (i - 1) rfl rfl rfl (by first | rfl | omega) (by omega)) ?_ | refine Asy.evV rfl rfl rfl rfl (fun _ X_ => (OpV.slice0 Tryd.tOk (hi := i) rfl rfl .none (.some rfl rfl) (by omega))) ?_ | refine Asy.evV rfl rfl rfl rfl (fun _ X_ => OpV.indexS Tryd.tOk _ rfl rfl rfl rfl (by omega)) ?_)
          refine Asy.callN rfl rfl rfl (fun w' e => (rused48_ok (l.take i) _ x.key w' (hpre _ (X.trans (Xd_.trans e))) (by simp only [List.length_take]; omega)).mono (fun _ _ h => ⟨h.1, by rw [h.2]; exact ExtB.refl _ _⟩)) ?_
          cases hus : usedD (l.take i) x.key with
          | true =>
            rw [hus, Bool.not_true, Bool.false_and] at hg
            repeat' (first | with_reducible refine AsyN.boolT rfl ?_ | refine Asy.ev Tryd.tOk rfl rfl rfl ?_)
            refine Asy.end_ (by kernel_rfl) ?_
            intro we_ Xe_
            replace X := X.trans (Xd_.trans Xe_)
            repeat' (first | (with_reducible refine RunLN.chk ?_; refine RunLN.int (by (first | (refine wr_i64 ?_ ?_; omega; omega) | (refine wm_i64 ?_; omega) | (refine wq_i64 ?_ ?_ ?_; omega; omega; omega) | rfl)) ?_) | refine RunL.ev Tryd.tOk rfl rfl rfl ?_ | refine RunE.condT rfl rfl ?_ | refine RunE.seq ?_ | refine RunE.region ?_ | refine RunL.nil ?_)
            exact RunE.retFn Tryd.func35 (.tmp rfl .nil) ⟨by simp only [oneOr]; unfold chkD; rw [if_neg (by omega), if_neg (by rw [← hg]; simp)], X⟩
          | false =>
            rw [hus, Bool.not_false, Bool.true_and] at hg
            repeat' (first | with_reducible refine AsyN.boolF rfl ?_ | refine Asy.ev Tryd.tOk rfl rfl rfl ?_)
            refine Asy.end_ (by kernel_rfl) ?_
            intro we_ Xe_
            replace X := X.trans (Xd_.trans Xe_)
            repeat' (first | (with_reducible refine RunLN.chk ?_; refine RunLN.int (by (first | (refine wr_i64 ?_ ?_; omega; omega) | (refine wm_i64 ?_; omega) | (refine wq_i64 ?_ ?_ ?_; omega; omega; omega) | rfl)) ?_) | refine RunL.ev Tryd.tOk rfl rfl rfl ?_ | refine RunE.condF rfl rfl ?_ | refine RunE.region ?_ | refine RunL.nil ?_ | refine RunE.inBlock ?_ | refine RunE.skip ?_)
            exact RunE.weaken (by repeat (first | exact Sub.nil _ | refine Sub.cons rfl ?_)) (next hg _ X)
        · rw [decide_eq_false hlast, Bool.false_and, Bool.false_and] at hg
          repeat' (first | with_reducible refine AsyN.boolT rfl ?_ | with_reducible refine AsyN.boolF rfl ?_ | (with_reducible refine AsyN.decT ?_ ?_; focus omega) | (with_reducible refine AsyN.chk ?_; refine AsyN.int (by (first | (refine wr_i64 ?_ ?_; omega; omega) | (refine wm_i64 ?_; omega) | (refine wq_i64 ?_ ?_ ?_; omega; omega; omega) | rfl)) ?_) | refine AsyN.any ?_ | refine Asy.ev Tryd.tOk rfl rfl rfl ?_ | refine Asy.unwantedD rfl rfl rfl ?_ | refine Asy.evV rfl rfl rfl rfl (fun _ X_ => OpV.loadN Tryd.tOk rfl rfl rfl rfl (hrx.up (X.trans (Xd_.trans X_)))) ?_ | refine Asy.callN rfl rfl rfl (fun _ _ => (hcx _)) ?_ | refine Asy.evV rfl rfl rfl rfl (fun _ X_ => OpV.load1 Tryd.tOk rfl rfl rfl ((hry.up (X.trans (Xd_.trans X_))) _ _ rfl)) ?_ | refine Asy.evV rfl rfl rfl rfl (fun _ X_ => OpV.load1 Tryd.tOk rfl rfl rfl ((hrx.up (X.trans (Xd_.trans X_))) _ _ rfl)) ?_ | refine Asy.evV rfl rfl rfl rfl (fun _ X_ => OpV.indexS Tryd.tOk (i - 1) rfl rfl rfl (by first | rfl | omega) (by omega)) ?_ | refine Asy.evV rfl rfl rfl rfl (fun _ X_ => OpV.indexS Tryd.tOk _ rfl rfl rfl rfl (by omega)) ?_)
          refine Asy.end_ (by kernel_rfl) ?_
          intro we_ Xe_
          replace X := X.trans (Xd_.trans Xe_)
          repeat' (first | (with_reducible refine RunLN.chk ?_; refine RunLN.int (by (first | (refine wr_i64 ?_ ?_; omega; omega) | (refine wm_i64 ?_; omega) | (refine wq_i64 ?_ ?_ ?_; omega; omega; omega) | rfl)) ?_) | refine RunL.ev Tryd.tOk rfl rfl rfl ?_ | refine RunE.condT rfl rfl ?_ | refine RunE.seq ?_ | refine RunE.region ?_ | refine RunL.nil ?_)
          exact RunE.retFn Tryd.func35 (.tmp rfl .nil) ⟨by simp only [oneOr]; unfold chkD; rw [if_neg (by omega), if_neg (by rw [← hg]; simp)], X⟩
  · obtain rfl : i = l.length := by omega
    rw [List.drop_length] at hg
    simp only [goodL] at hg
    repeat' (first | (with_reducible refine RunLN.decF ?_ ?_; focus omega) | (with_reducible refine RunLN.chk ?_; refine RunLN.int (by (first | (refine wr_i64 ?_ ?_; omega; omega) | (refine wm_i64 ?_; omega) | (refine wq_i64 ?_ ?_ ?_; omega; omega; omega) | rfl)) ?_) | refine RunLN.any ?_ | refine RunL.ev Tryd.tOk rfl rfl rfl ?_ | refine RunL.evV rfl rfl rfl (OpV.lenSl Tryd.tOk rfl rfl hv) ?_ | refine RunE.condF rfl rfl ?_ | refine RunE.seq ?_ | refine RunE.region ?_ | refine RunL.nil ?_ | refine RunE.exit rfl ?_)
    exact RunE.retFn Tryd.func35 (.tmp rfl .nil) ⟨by simp only [oneOr]; unfold chkD; rw [if_neg (by omega), if_pos hg.symm], X⟩
end Go.Sg
end
section
/- Lists that are compared one by one. -/
namespace Go.Sg
theorem same_lists {α : Type} [DecidableEq α] {a b : List α} (hl : a.length = b.length) {i : Nat} (hp : a.take i = b.take i) : (i = a.length → a = b) ∧ (∀ x y, a[i]? = some x → b[i]? = some y → (x = y → a.take (i + 1) = b.take (i + 1)) ∧ (x ≠ y → a ≠ b)) := by
  refine ⟨fun h => ?_, fun x y hx hy => ⟨fun e => ?_, fun hn e => ?_⟩⟩
  · rw [h, List.take_length, hl, List.take_length] at hp; exact hp
  · rw [List.take_add_one, List.take_add_one, hx, hy, hp, e]
  · subst e; rw [hx] at hy; exact hn (Option.some.inj hy)
end Go.Sg
end
section
/- Devices: equality, what is few, right. -/
namespace Go.Sg
open Go.Rn Go.Proofs Go.Dev Go.Rec Go.Best Go.RowKit
attribute [local irreducible] Go.Rn.RetsX Go.Rn.RunLN Go.Rn.AsyN Go.Rn.RunL Go.Rn.RunE Go.Rn.Asy Go.Rn.OpV Go.Rn.OpE Go.Rn.ExecE
theorem devFlat : Flat Tryd.prog 57 [(3, .int .i64), (3, .int .i64), (3, .int .i64), (3, .int .i64), (3, .int .i64), (4, .bool)] :=
  ⟨by kernel_rfl, by kernel_rfl, by kernel_rfl, by kernel_rfl, by kernel_rfl, fun x hx => by
    simp only [List.mem_cons, List.not_mem_nil, or_false] at hx
    rcases hx with rfl | rfl | rfl | rfl | rfl | rfl
    · exact ⟨Tryd.underlying3, by kernel_rfl, by kernel_rfl⟩
    · exact ⟨Tryd.underlying3, by kernel_rfl, by kernel_rfl⟩
    · exact ⟨Tryd.underlying3, by kernel_rfl, by kernel_rfl⟩
    · exact ⟨Tryd.underlying3, by kernel_rfl, by kernel_rfl⟩
    · exact ⟨Tryd.underlying3, by kernel_rfl, by kernel_rfl⟩
    · exact ⟨Tryd.underlying4, by kernel_rfl, by kernel_rfl⟩⟩
theorem devFits (x : Dev) : fits [(3, FK.int .i64), (3, FK.int .i64), (3, FK.int .i64), (3, FK.int .i64), (3, FK.int .i64), (4, FK.bool)] x.cells := by
  obtain ⟨a, b, c, d, e, f⟩ := x
  refine ⟨rfl, fun i y h => ?_⟩
  rcases i with _ | _ | _ | _ | _ | _ | n
  all_goals (simp only [List.getElem?_cons_zero, List.getElem?_cons_succ, List.getElem?_nil, Option.some.injEq, reduceCtorEq] at h)
  all_goals (subst h; exact ⟨_, rfl, _, rfl⟩)
theorem devEq (x y : Dev) : eqAll x.cells y.cells = decide (x = y) := by
  obtain ⟨a, b, c, d, e, f⟩ := x; obtain ⟨a', b', c', d', e', f'⟩ := y
  simp [eqAll, veq, Dev.cells]
  rw [Bool.eq_iff_iff]; simp
set_option maxHeartbeats 1000000 in
theorem rsame48_ok (a b : List Dev) (u v : Value) (w : World) (ha : IsL w Dev.cells 6 u a) (hb : IsL w Dev.cells 6 v b) (hla : a.length < 9223372036854775808) (hlb : b.length < 9223372036854775808) :
    Rets Tryd.prog 36 [u, v] w fun r w' => r = .bool (decide (a = b)) ∧ Ext w w' := by
  refine RetsX.of (nt := 26) Tryd.func36 (by kernel_rfl) rfl rfl (by simp) (by simp only [argEnv]; rfl) ?_
  have X := ExtB.refl (fun _ => False) w
  repeat' (first | with_reducible refine RunLN.boolF rfl ?_ | refine RunLN.any ?_ | refine RunL.ev Tryd.tOk rfl rfl rfl ?_ | refine RunE.seq ?_ | refine RunE.region ?_ | refine RunL.nil ?_)
  refine RunL.evV rfl rfl rfl (OpV.lenSl Tryd.tOk rfl rfl ha) ?_
  repeat' (first | refine RunLN.int (by (first | exact wr_i64 (by omega) (by omega) | exact wm_i64 (by omega) | exact wq_i64 (by omega) (by omega) (by omega) | rfl)) ?_ | refine RunLN.any ?_ | refine RunL.ev Tryd.tOk rfl rfl rfl ?_)
  refine RunL.evV rfl rfl rfl (OpV.lenSl Tryd.tOk rfl rfl hb) ?_
  by_cases hl : a.length = b.length
  · repeat' (first | (with_reducible refine RunLN.neF ?_ ?_; focus omega) | refine RunLN.int (by (first | exact wr_i64 (by omega) (by omega) | exact wm_i64 (by omega) | exact wq_i64 (by omega) (by omega) (by omega) | rfl)) ?_ | refine RunL.ev Tryd.tOk rfl rfl rfl ?_ | refine RunE.condF rfl rfl ?_ | refine RunE.seq ?_ | refine RunE.region ?_ | refine RunL.nil ?_ | refine RunE.block ?_ | refine RunE.skip ?_)
    refine RunE.loop (ι := Nat) (fun i => [(0, u), (1, v), (5, .int .i64 (i : Int))]) (fun i w' => i ≤ a.length ∧ a.take i = b.take i ∧ Ext w w') (fun i => a.length - i) 0 (by repeat (first | exact Sub.nil _ | refine Sub.cons rfl ?_)) ⟨Nat.zero_le _, by simp, X⟩ ?_
    clear X
    rintro i w3 ⟨hi, hp, X⟩ again
    obtain ⟨s1, s2⟩ := same_lists hl hp
    by_cases hlt : i < a.length
    · obtain ⟨b1, o1, c1, rfl, hr1, hc1⟩ := isL_held ha hlt
      obtain ⟨b2, o2, c2, rfl, hr2, hc2⟩ := isL_held hb (i := i) (by omega)
      obtain ⟨x, hx⟩ : ∃ x, a[i]? = some x := ⟨_, List.getElem?_eq_getElem hlt⟩
      obtain ⟨y, hy⟩ : ∃ y, b[i]? = some y := ⟨_, List.getElem?_eq_getElem (by omega)⟩
      have hrx := flat_row encD hr1 hx
      have hry := flat_row encD hr2 hy
      obtain ⟨s3, s4⟩ := s2 x y hx hy
      repeat' (first | (with_reducible refine RunLN.decT ?_ ?_; focus omega) | refine RunLN.int (by (first | exact wr_i64 (by omega) (by omega) | exact wm_i64 (by omega) | exact wq_i64 (by omega) (by omega) (by omega) | rfl)) ?_ | refine RunLN.any ?_ | refine RunL.ev Tryd.tOk rfl rfl rfl ?_ | refine RunE.condT rfl rfl ?_ | refine RunE.seq ?_ | refine RunE.region ?_ | refine RunL.nil ?_ | refine RunE.block ?_ | refine RunE.skip ?_)
      refine RunE.draw (fun _ => False) mix ?_
      intro wd_ Xd_
      by_cases hxy : x = y
      · have e : eqAll (Dev.cells x) (Dev.cells y) = true := by rw [devEq, decide_eq_true hxy]
        repeat' (first | refine AsyN.int (by (first | exact wr_i64 (by omega) (by omega) | exact wm_i64 (by omega) | exact wq_i64 (by omega) (by omega) (by omega) | rfl)) ?_ | refine AsyN.any ?_ | refine Asy.ev Tryd.tOk rfl rfl rfl ?_ | refine Asy.evV rfl rfl rfl rfl (fun _ X_ => OpV.loadN Tryd.tOk rfl rfl rfl rfl (hrx.up (X.trans (Xd_.trans X_)))) ?_ | refine Asy.evV rfl rfl rfl rfl (fun _ X_ => OpV.loadN Tryd.tOk rfl rfl rfl rfl (hry.up (X.trans (Xd_.trans X_)))) ?_ | refine Asy.evV rfl rfl rfl rfl (fun _ X_ => (OpV.neFlat devFlat (xs := Dev.cells x) (ys := Dev.cells y) rfl rfl (devFits x) (devFits y))) ?_ | refine Asy.evV rfl rfl rfl rfl (fun _ X_ => OpV.indexS Tryd.tOk _ rfl rfl rfl rfl (by omega)) ?_)
        rw [e]
        skip
        refine Asy.end_ (by kernel_rfl) ?_
        intro we_ Xe_
        replace X := X.trans (Xd_.trans Xe_)
        repeat' (first | refine RunLN.int (by (first | exact wr_i64 (by omega) (by omega) | exact wm_i64 (by omega) | exact wq_i64 (by omega) (by omega) (by omega) | rfl)) ?_ | refine RunL.ev Tryd.tOk rfl rfl rfl ?_ | refine RunE.condF rfl rfl ?_ | refine RunE.region ?_ | refine RunL.nil ?_ | refine RunE.inBlock ?_ | refine RunE.skip ?_)
        exact RunE.weaken (by repeat (first | exact Sub.nil _ | refine Sub.cons rfl ?_)) (again (i + 1) _ (by omega) ⟨by omega, s3 hxy, X⟩)
      · have e : eqAll (Dev.cells x) (Dev.cells y) = false := by rw [devEq, decide_eq_false hxy]
        repeat' (first | refine AsyN.int (by (first | exact wr_i64 (by omega) (by omega) | exact wm_i64 (by omega) | exact wq_i64 (by omega) (by omega) (by omega) | rfl)) ?_ | refine AsyN.any ?_ | refine Asy.ev Tryd.tOk rfl rfl rfl ?_ | refine Asy.evV rfl rfl rfl rfl (fun _ X_ => OpV.loadN Tryd.tOk rfl rfl rfl rfl (hrx.up (X.trans (Xd_.trans X_)))) ?_ | refine Asy.evV rfl rfl rfl rfl (fun _ X_ => OpV.loadN Tryd.tOk rfl rfl rfl rfl (hry.up (X.trans (Xd_.trans X_)))) ?_ | refine Asy.evV rfl rfl rfl rfl (fun _ X_ => (OpV.neFlat devFlat (xs := Dev.cells x) (ys := Dev.cells y) rfl rfl (devFits x) (devFits y))) ?_ | refine Asy.evV rfl rfl rfl rfl (fun _ X_ => OpV.indexS Tryd.tOk _ rfl rfl rfl rfl (by omega)) ?_)
        rw [e]
        skip
        refine Asy.end_ (by kernel_rfl) ?_
        intro we_ Xe_
        replace X := X.trans (Xd_.trans Xe_)
        repeat' (first | with_reducible refine RunLN.boolF rfl ?_ | refine RunL.ev Tryd.tOk rfl rfl rfl ?_ | refine RunE.condT rfl rfl ?_ | refine RunE.seq ?_ | refine RunE.region ?_ | refine RunL.nil ?_)
        exact RunE.retFn Tryd.func36 (.tmp rfl .nil) ⟨by rw [decide_eq_false (s4 hxy)]; rfl, X⟩
    · have hil : i = a.length := by omega
      repeat' (first | with_reducible refine RunLN.boolT rfl ?_ | (with_reducible refine RunLN.decF ?_ ?_; focus omega) | refine RunLN.int (by (first | exact wr_i64 (by omega) (by omega) | exact wm_i64 (by omega) | exact wq_i64 (by omega) (by omega) (by omega) | rfl)) ?_ | refine RunLN.any ?_ | refine RunL.ev Tryd.tOk rfl rfl rfl ?_ | refine RunL.evV rfl rfl rfl (OpV.lenSl Tryd.tOk rfl rfl ha) ?_ | refine RunE.condF rfl rfl ?_ | refine RunE.seq ?_ | refine RunE.region ?_ | refine RunL.nil ?_ | refine RunE.exit rfl ?_)
      exact RunE.retFn Tryd.func36 (.tmp rfl .nil) ⟨by rw [decide_eq_true (s1 hil)]; rfl, X⟩
  · have hne : a ≠ b := fun e => hl (by rw [e])
    repeat' (first | with_reducible refine RunLN.boolF rfl ?_ | (with_reducible refine RunLN.neT ?_ ?_; focus omega) | refine RunLN.int (by (first | exact wr_i64 (by omega) (by omega) | exact wm_i64 (by omega) | exact wq_i64 (by omega) (by omega) (by omega) | rfl)) ?_ | refine RunL.ev Tryd.tOk rfl rfl rfl ?_ | refine RunE.condT rfl rfl ?_ | refine RunE.seq ?_ | refine RunE.region ?_ | refine RunL.nil ?_)
    exact RunE.retFn Tryd.func36 (.tmp rfl .nil) ⟨by rw [decide_eq_false hne]; rfl, X⟩
def fewD (l : List Dev) : Bool := decide (l.length ≤ 20 ∨ (1024 < l.length ∧ l.length ≤ 1100))
theorem few48_ok (l : List Dev) (v : Value) (w : World) (hv : LD w v l) (hl : l.length < 9223372036854775808) : Rets Tryd.prog 31 [v] w fun r w' => r = .bool (fewD l) ∧ w = w' := by
  refine RetsX.of (nt := 16) Tryd.func31 (by kernel_rfl) rfl rfl (by simp) (by simp only [argEnv]; rfl) ?_
  repeat' (first | with_reducible refine RunLN.boolT rfl ?_ | with_reducible refine RunLN.boolF rfl ?_ | refine RunLN.int (by (first | exact wr_i64 (by omega) (by omega) | exact wm_i64 (by omega) | exact wq_i64 (by omega) (by omega) (by omega) | rfl)) ?_ | (refine RunLN.boolC (fun h_ => ?_) (fun h_ => ?_) <;> (try simp only [decide_eq_true_eq, decide_eq_false_iff_not, beq_iff_eq, bne_iff_ne, ne_eq, Bool.not_eq_true, Bool.not_eq_false, beq_eq_false_iff_ne, bne_eq_false_iff_eq, Bool.not_eq_eq_eq_not, Bool.not_true, Bool.not_false, Bool.not_not, Int.not_lt, Int.not_le, gt_iff_lt, ge_iff_le, Decidable.not_not] at h_)) | refine RunLN.any ?_ | refine RunL.ev Tryd.tOk rfl rfl rfl ?_ | refine RunL.unwantedD rfl rfl ?_ | refine RunL.evV rfl rfl rfl (OpV.lenSl Tryd.tOk rfl rfl hv) ?_ | refine RunE.seq ?_ | refine RunE.region ?_ | refine RunL.nil ?_)
  all_goals
    refine RunE.retFn Tryd.func31 (.tmp rfl .nil) ⟨?_, rfl⟩
    simp only [oneOr]
    congr 1
    unfold fewD
    first | exact (decide_eq_true (by omega)).symm | exact (decide_eq_false (by omega)).symm
end Go.Sg
end
section
/- Devices: right. -/
namespace Go.Dev
open Go.Rn Go.Rec
@[reducible] def intC (x : Int) : List Value := [.int .i64 x]
theorem encT : EncOk intC 1 := ⟨fun _ => rfl, fun _ => rfl, by decide⟩
def timeT (t : Int) : Bool := decide (0 ≤ t ∧ t < 1099511627776)
def rightQ (l : List Dev) (p : Int) (ts : List Int) : Bool := ts.all timeT && decide (l.length ≤ 20 ∧ chkD l = 0 ∧ 0 ≤ p ∧ p < 64)
end Go.Dev
namespace Go.Sg
open Go.Rn Go.Proofs Go.Dev Go.Rec Go.Best Go.RowKit
attribute [local irreducible] Go.Rn.RetsX Go.Rn.RunLN Go.Rn.AsyN Go.Rn.RunL Go.Rn.RunE Go.Rn.Asy Go.Rn.OpV Go.Rn.OpE Go.Rn.ExecE
set_option maxHeartbeats 1000000 in
theorem right48_ok (l : List Dev) (v u : Value) (p : Int) (ts : List Int) (w : World) (hv : LD w v l) (hl : l.length < 9223372036854775808) (hu : IsL w intC 1 u ts) (ht : ts.length < 9223372036854775808) :
    Rets Tryd.prog 41 [v, .int .i64 p, u] w fun r w' => r = .bool (rightQ l p ts) ∧ Ext w w' := by
  refine RetsX.of (nt := 31) Tryd.func41 (by kernel_rfl) rfl rfl (by simp) (by simp only [argEnv]; rfl) ?_
  have X := ExtB.refl (fun _ => False) w
  repeat' (first | with_reducible refine RunLN.boolF rfl ?_ | refine RunLN.int (by (first | exact wr_i64 (by omega) (by omega) | exact wm_i64 (by omega) | exact wq_i64 (by omega) (by omega) (by omega) | rfl)) ?_ | refine RunLN.any ?_ | refine RunL.ev Tryd.tOk rfl rfl rfl ?_ | refine RunL.evV rfl rfl rfl (OpV.lenSl Tryd.tOk rfl rfl hu) ?_ | refine RunE.seq ?_ | refine RunE.region ?_ | refine RunL.nil ?_ | refine RunE.block ?_)
  refine RunE.loop (ι := Nat) (fun i => [(0, v), (1, .int .i64 p), (2, u), (9, u), (10, .int .i64 (ts.length : Int)), (11, .int .i64 (i : Int))]) (fun i w' => i ≤ ts.length ∧ (ts.take i).all timeT = true ∧ Ext w w') (fun i => ts.length - i) 0 (by repeat (first | exact Sub.nil _ | refine Sub.cons rfl ?_)) ⟨Nat.zero_le _, by simp, X⟩ ?_
  clear X
  rintro i w3 ⟨hi, hp, X⟩ again
  by_cases hlt : i < ts.length
  · obtain ⟨b1, o1, c1, rfl, hr1, hc1⟩ := isL_held hu hlt
    obtain ⟨x, hx⟩ : ∃ x, ts[i]? = some x := ⟨_, List.getElem?_eq_getElem hlt⟩
    have hrx := flat_row encT hr1 hx
    have hc := r48Time_ok x
    by_cases hxt : 0 ≤ x ∧ x < 1099511627776
    · have e1 : (ts.take (i + 1)).all timeT = true := by
        rw [List.take_add_one, hx, List.all_append, hp]
        simp [timeT, hxt]
      repeat' (first | (with_reducible refine RunLN.decT ?_ ?_; focus omega) | refine RunLN.any ?_ | refine RunL.ev Tryd.tOk rfl rfl rfl ?_ | refine RunL.evV rfl rfl rfl (OpV.indexS Tryd.tOk _ rfl rfl rfl rfl (by omega)) ?_ | refine RunE.condT rfl rfl ?_ | refine RunE.seq ?_ | refine RunE.region ?_ | refine RunL.nil ?_ | refine RunE.block ?_ | refine RunE.skip ?_)
      refine RunL.evV rfl rfl rfl (OpV.load1 Tryd.tOk rfl rfl rfl ((hrx.up X) 0 _ rfl)) ?_
      repeat' (first | with_reducible refine RunLN.boolF rfl ?_ | (with_reducible refine RunLN.decT ?_ ?_; focus omega) | refine RunLN.int (by (first | exact wr_i64 (by omega) (by omega) | exact wm_i64 (by omega) | exact wq_i64 (by omega) (by omega) (by omega) | rfl)) ?_ | refine RunL.ev Tryd.tOk rfl rfl rfl ?_ | refine RunL.callN rfl rfl rfl (hc _) ?_ | refine RunE.condF rfl rfl ?_ | refine RunE.seq ?_ | refine RunE.region ?_ | refine RunL.nil ?_ | refine RunE.inBlock ?_ | refine RunE.skip ?_)
      all_goals first
        | (exfalso; omega)
        | exact RunE.weaken (by repeat (first | exact Sub.nil _ | refine Sub.cons rfl ?_)) (again (i + 1) _ (by omega) ⟨by omega, e1, X⟩)
    · have e1 : rightQ l p ts = false := by
        have : ts.all timeT = false := by
          rw [List.all_eq_false]
          exact ⟨x, List.mem_of_getElem? hx, by simp [timeT]; omega⟩
        unfold rightQ; rw [this]; rfl
      repeat' (first | (with_reducible refine RunLN.decT ?_ ?_; focus omega) | refine RunLN.any ?_ | refine RunL.ev Tryd.tOk rfl rfl rfl ?_ | refine RunL.evV rfl rfl rfl (OpV.indexS Tryd.tOk _ rfl rfl rfl rfl (by omega)) ?_ | refine RunE.condT rfl rfl ?_ | refine RunE.seq ?_ | refine RunE.region ?_ | refine RunL.nil ?_ | refine RunE.block ?_ | refine RunE.skip ?_)
      refine RunL.evV rfl rfl rfl (OpV.load1 Tryd.tOk rfl rfl rfl ((hrx.up X) 0 _ rfl)) ?_
      repeat' (first | with_reducible refine RunLN.boolT rfl ?_ | with_reducible refine RunLN.boolF rfl ?_ | (with_reducible refine RunLN.decF ?_ ?_; focus omega) | refine RunLN.int (by (first | exact wr_i64 (by omega) (by omega) | exact wm_i64 (by omega) | exact wq_i64 (by omega) (by omega) (by omega) | rfl)) ?_ | refine RunL.ev Tryd.tOk rfl rfl rfl ?_ | refine RunL.callN rfl rfl rfl (hc _) ?_ | refine RunE.condT rfl rfl ?_ | refine RunE.seq ?_ | refine RunE.region ?_ | refine RunL.nil ?_)
      all_goals first
        | (exfalso; omega)
        | exact RunE.retFn Tryd.func41 (.tmp rfl .nil) ⟨by rw [e1]; rfl, X⟩
  · obtain rfl : i = ts.length := by omega
    rw [List.take_length] at hp
    have e1 : rightQ l p ts = decide (l.length ≤ 20 ∧ chkD l = 0 ∧ 0 ≤ p ∧ p < 64) := by unfold rightQ; rw [hp]; rfl
    clear again
    by_cases hs : l.length ≤ 20
    · repeat' (first | with_reducible refine RunLN.boolT rfl ?_ | (with_reducible refine RunLN.decT ?_ ?_; focus omega) | (with_reducible refine RunLN.decF ?_ ?_; focus omega) | refine RunLN.int (by (first | exact wr_i64 (by omega) (by omega) | exact wm_i64 (by omega) | exact wq_i64 (by omega) (by omega) (by omega) | rfl)) ?_ | refine RunLN.any ?_ | refine RunL.ev Tryd.tOk rfl rfl rfl ?_ | refine RunL.evV rfl rfl rfl (OpV.lenSl Tryd.tOk rfl rfl hv) ?_ | refine RunE.condF rfl rfl ?_ | refine RunE.seq ?_ | refine RunE.region ?_ | refine RunL.nil ?_ | refine RunE.exit rfl ?_)
      refine RunL.call rfl rfl rfl (rcheck48_ok l v _ (hv.up X) hl) ?_
      rintro _ _ ⟨rfl, Xa_⟩
      replace X := X.trans Xa_
      clear Xa_
      generalize chkD l = c at *
      repeat' (first | with_reducible refine RunLN.boolT rfl ?_ | with_reducible refine RunLN.boolF rfl ?_ | refine RunLN.int (by (first | exact wr_i64 (by omega) (by omega) | exact wm_i64 (by omega) | exact wq_i64 (by omega) (by omega) (by omega) | rfl)) ?_ | (refine RunLN.boolC (fun h_ => ?_) (fun h_ => ?_) <;> (try simp only [decide_eq_true_eq, decide_eq_false_iff_not, beq_iff_eq, bne_iff_ne, ne_eq, Bool.not_eq_true, Bool.not_eq_false, beq_eq_false_iff_ne, bne_eq_false_iff_eq, Bool.not_eq_eq_eq_not, Bool.not_true, Bool.not_false, Bool.not_not, Int.not_lt, Int.not_le, gt_iff_lt, ge_iff_le, Decidable.not_not] at h_)) | refine RunL.ev Tryd.tOk rfl rfl rfl ?_ | refine RunL.unwantedD rfl rfl ?_ | refine RunL.callN rfl rfl rfl (r48Person_ok _ _) ?_ | refine RunL.nil ?_)
      all_goals
        refine RunE.retFn Tryd.func41 (.tmp rfl .nil) ⟨?_, X⟩
        rw [e1]
        simp only [oneOr]
        congr 1
        first | exact (decide_eq_true (by omega)).symm | exact (decide_eq_false (by omega)).symm
    · repeat' (first | with_reducible refine RunLN.boolF rfl ?_ | (with_reducible refine RunLN.decF ?_ ?_; focus omega) | refine RunLN.int (by (first | exact wr_i64 (by omega) (by omega) | exact wm_i64 (by omega) | exact wq_i64 (by omega) (by omega) (by omega) | rfl)) ?_ | refine RunLN.any ?_ | refine RunL.ev Tryd.tOk rfl rfl rfl ?_ | refine RunL.unwantedD rfl rfl ?_ | refine RunL.evV rfl rfl rfl (OpV.lenSl Tryd.tOk rfl rfl hv) ?_ | refine RunE.condF rfl rfl ?_ | refine RunE.seq ?_ | refine RunE.region ?_ | refine RunL.nil ?_ | refine RunE.exit rfl ?_)
      all_goals
        refine RunE.retFn Tryd.func41 (.tmp rfl .nil) ⟨?_, X⟩
        rw [e1]
        simp only [oneOr]
        congr 1
        first | exact (decide_eq_true (by omega)).symm | exact (decide_eq_false (by omega)).symm
end Go.Sg
end
section
/- Nonces: need, caught, right. -/
namespace Go.Sg
open Go.Rn Go.Proofs Go.Non Go.Rec Go.RowKit Go.Dev
attribute [local irreducible] Go.Rn.RetsX Go.Rn.RunLN Go.Rn.AsyN Go.Rn.RunL Go.Rn.RunE Go.Rn.Asy Go.Rn.OpV Go.Rn.OpE Go.Rn.ExecE
theorem need_ok (e : Int) (w : World) : Rets Tryd.prog 50 [.bool true, .int .i64 e] w fun v w' => v = .tuple #[] ∧ w = w' := by
  refine RetsX.of (nt := 8) Tryd.func50 (by kernel_rfl) rfl rfl (by simp) (by simp only [argEnv]; rfl) ?_
  repeat' (first | with_reducible refine RunLN.boolT rfl ?_ | with_reducible refine RunLN.boolF rfl ?_ | refine RunL.ev Tryd.tOk rfl rfl rfl ?_ | refine RunE.condF rfl rfl ?_ | refine RunE.seq ?_ | refine RunE.region ?_ | refine RunL.nil ?_ | refine RunE.skip ?_)
  exact RunE.fallFn Tryd.func50 .nil ⟨rfl, rfl⟩
theorem need_no (e : Int) (w : World) : RetsX Tryd.prog 50 [.bool false, .int .i64 e] w (fun _ _ => False) fun ch w' => ch = panOf 27 (.int .i64 e) ∧ w = w' := by
  refine RetsX.of (nt := 8) Tryd.func50 (by kernel_rfl) rfl rfl (by simp) (by simp only [argEnv]; rfl) ?_
  repeat' (first | with_reducible refine RunLN.boolT rfl ?_ | with_reducible refine RunLN.boolF rfl ?_ | (with_reducible refine RunLN.chk ?_; refine RunLN.int (by (first | (refine wr_i64 ?_ ?_; omega; omega) | (refine wm_i64 ?_; omega) | (refine wq_i64 ?_ ?_ ?_; omega; omega; omega) | rfl)) ?_) | refine RunLN.any ?_ | refine RunL.ev Tryd.tOk rfl rfl rfl ?_ | refine RunE.condT rfl rfl ?_ | refine RunE.seq ?_ | refine RunE.region ?_ | refine RunL.nil ?_)
  exact RunL.panicN Tryd.func50 rfl rfl rfl ⟨rfl, rfl⟩
theorem caught_body : Body Tryd.prog 48 := ⟨_, Tryd.func48, by kernel_rfl, rfl⟩
theorem caught_ret (b : Nat) (w : World) : Mends Tryd.prog 48 [.pointer (some ⟨b, 0, none⟩)] .returning w fun u w' => u = .returning ∧ w' = w := by
  unfold Mends
  refine callsD_of (args := [.pointer (some ⟨b, 0, none⟩)]) Tryd.func48 rfl fun c0 cs hm => ?_
  refine RunAt.seq ?_
  refine RunAt.region ?_
  refine RunAt.recov (v := .nilIface) (cs' := c0 :: cs) rfl rfl rfl (.inr ⟨?_, rfl, rfl⟩) ?_
  · simp [recoverD, hm]
  refine RunAt.body (i := 1) (n := 19) (ds := []) (env := [(5, .nilIface), (0, .pointer (some ⟨b, 0, none⟩))]) ((argSt (nm := Tryd.f48.ntmps) (nt := 19) (args := [.pointer (some ⟨b, 0, none⟩)]) rfl (by simp)).put (d := 5) (by decide) _) rfl ?_
  repeat' (first | refine RunLN.any ?_ | refine RunL.ev Tryd.tOk rfl rfl rfl ?_ | refine RunE.seq ?_ | refine RunE.region ?_ | refine RunL.nil ?_)
  refine RunL.evV rfl rfl rfl (OpV.neNilN Tryd.underlying20 rfl) ?_
  repeat' (first | with_reducible refine RunLN.boolF rfl ?_ | refine RunE.condF rfl rfl ?_ | refine RunL.nil ?_ | refine RunE.skip ?_)
  exact RunE.nil fun a ha => ⟨.inl rfl, ha.defers, .returning, by rw [← hm], _, (ResOk.nil (P := Tryd.prog) (w := w)).resultsRun (fn := Tryd.f48) ha, ⟨_, rfl⟩, rfl, rfl⟩
theorem caught_pan (b : Nat) (x e : Int) (w : World) (hb : Blk w b [.int .i64 x] 27) : Mends Tryd.prog 48 [.pointer (some ⟨b, 0, none⟩)] (.panicking (panOf 27 (.int .i64 e))) w fun u w' => u = .returning ∧ Turned w w' b (.cells #[.int .i64 e] 27 (0, 0)) := by
  unfold Mends
  refine callsD_of (args := [.pointer (some ⟨b, 0, none⟩)]) Tryd.func48 rfl fun c0 cs hm => ?_
  refine RunAt.seq ?_
  refine RunAt.region ?_
  refine RunAt.recov (v := .iface 27 (.int .i64 e)) (cs' := { c0 with mode := .panicking [{ v := .iface 27 (.int .i64 e), recovered := true }] } :: cs) rfl rfl rfl (.inl ?_) ?_
  · simp [recoverD, hm, panOf]
  refine RunAt.body (i := 1) (n := 19) (ds := []) (env := [(5, .iface 27 (.int .i64 e)), (0, .pointer (some ⟨b, 0, none⟩))]) ((argSt (nm := Tryd.f48.ntmps) (nt := 19) (args := [.pointer (some ⟨b, 0, none⟩)]) rfl (by simp)).put (d := 5) (by decide) _) rfl ?_
  repeat' (first | refine RunLN.any ?_ | refine RunL.ev Tryd.tOk rfl rfl rfl ?_ | refine RunE.seq ?_ | refine RunE.region ?_ | refine RunL.nil ?_)
  refine RunL.evV rfl rfl rfl (OpV.neNilI Tryd.underlying20 rfl rfl) ?_
  repeat' (first | with_reducible refine RunLN.boolT rfl ?_ | refine RunLN.any ?_ | refine RunL.ev Tryd.tOk rfl rfl rfl ?_ | refine RunE.condT rfl rfl ?_ | refine RunE.seq ?_ | refine RunE.region ?_ | refine RunL.nil ?_)
  refine RunL.evV rfl rfl rfl (OpV.assertT rfl Tryd.underlying27 rfl) ?_
  repeat' (first | with_reducible refine RunLN.boolT rfl ?_ | with_reducible refine RunLN.boolF rfl ?_ | (with_reducible refine RunLN.chk ?_; refine RunLN.int (by (first | (refine wr_i64 ?_ ?_; omega; omega) | (refine wm_i64 ?_; omega) | (refine wq_i64 ?_ ?_ ?_; omega; omega; omega) | rfl)) ?_) | refine RunLN.any ?_ | refine RunL.ev Tryd.tOk rfl rfl rfl ?_ | refine RunE.condF rfl rfl ?_ | refine RunE.seq ?_ | refine RunE.region ?_ | refine RunL.nil ?_ | refine RunE.skip ?_)
  refine RunL.store Tryd.tOk rfl rfl rfl rfl rfl hb rfl rfl fun w_ t_ => ?_
  repeat' (first | refine RunL.nil ?_)
  exact RunE.nil fun a ha => ⟨.inl rfl, ha.defers, _, rfl, _, (ResOk.nil (P := Tryd.prog) (w := w_)).resultsRun (fn := Tryd.f48) ha, ⟨_, rfl⟩, rfl, t_⟩
/-- A book as a value. -/
def bkV (b : Book) (v : Value) : List Value := [.int .i64 b.keeper, .int .i64 b.seed, .int .i64 b.next, v]
abbrev LI' (w : World) (v : Value) (l : List Int) : Prop := IsL w intC 1 v l
set_option maxHeartbeats 2000000 in
theorem nright_ok (b : Book) (v : Value) (w : World) (hv : LI' w v b.left) (hl : b.left.length < 9223372036854775808) : Rets Tryd.prog 47 [.agg (bkV b v).toArray] w fun r w' => r = .bool (rtB b) ∧ Ext w w' := by
  refine RetsX.of (nt := 52) Tryd.func47 (by kernel_rfl) rfl rfl (by simp) (by simp only [argEnv]; rfl) ?_
  have X := ExtB.refl (fun _ => False) w
  repeat' (first | refine RunE.seq ?_ | refine RunE.region ?_)
  refine RunL.box rfl rfl rfl fun B1 w1_ a_ => ?_
  have Z1 : Blk w1_ B1 (bkV b v) 24 := a_.at_
  have gB1 := a_.ge X
  replace X := X.trans a_.ext
  clear a_
  repeat' (first | with_reducible refine RunLN.boolF rfl ?_ | (with_reducible refine RunLN.chk ?_; refine RunLN.int (by (first | (refine wr_i64 ?_ ?_; omega; omega) | (refine wm_i64 ?_; omega) | (refine wq_i64 ?_ ?_ ?_; omega; omega; omega) | rfl)) ?_) | refine RunLN.any ?_ | refine RunL.ev Tryd.tOk rfl rfl rfl ?_ | refine RunL.evV rfl rfl rfl (OpV.load1 Tryd.tOk rfl rfl rfl (Blk.cell Z1 rfl)) ?_ | refine RunL.evV rfl rfl rfl (OpV.lenSl Tryd.tOk rfl rfl hv) ?_ | refine RunE.seq ?_ | refine RunE.region ?_ | refine RunL.nil ?_ | refine RunE.block ?_)
  refine RunE.loop (ι := Nat × Int) (fun s => [(0, .agg (bkV b v).toArray), (1, .pointer (some ⟨B1, 0, none⟩)), (2, .bool false), (3, .int .i64 s.2), (7, v), (8, .int .i64 (b.left.length : Int)), (9, .int .i64 (s.1 : Int))])
    (fun s w' => s.1 ≤ b.left.length ∧ incB b.next (-1) b.left = incB b.next s.2 (b.left.drop s.1) ∧ Ext w w' ∧ Blk w' B1 (bkV b v) 24) (fun s => b.left.length - s.1) (0, -1) (by repeat (first | exact Sub.nil _ | refine Sub.cons rfl ?_)) ⟨Nat.zero_le _, rfl, X, Z1⟩ ?_
  clear X Z1
  rintro ⟨i, last⟩ w3 ⟨hi, hinc, X, Z1⟩ again
  simp only at hi hinc again ⊢
  by_cases hlt : i < b.left.length
  · obtain ⟨b1, o1, c1, rfl, hr1, -⟩ := isL_held hv hlt
    obtain ⟨x, hx⟩ : ∃ x, b.left[i]? = some x := ⟨_, List.getElem?_eq_getElem hlt⟩
    have hrx := flat_row encT hr1 hx
    have hd : b.left.drop i = x :: b.left.drop (i + 1) := by
      obtain ⟨hi, e⟩ := List.getElem?_eq_some_iff.1 hx
      rw [← e, List.drop_eq_getElem_cons hi]
    rw [hd] at hinc
    by_cases hc : last < x ∧ x < b.next
    · have hinc' : incB b.next (-1) b.left = incB b.next x (b.left.drop (i + 1)) := by
        rw [hinc]; show (decide _ && _) = _; rw [decide_eq_true hc, Bool.true_and]
      obtain ⟨hc1, hc2⟩ := hc
      repeat' (first | with_reducible refine RunLN.boolF rfl ?_ | (with_reducible refine RunLN.decT ?_ ?_; focus omega) | (with_reducible refine RunLN.decF ?_ ?_; focus omega) | (with_reducible refine RunLN.chk ?_; refine RunLN.int (by (first | (refine wr_i64 ?_ ?_; omega; omega) | (refine wm_i64 ?_; omega) | (refine wq_i64 ?_ ?_ ?_; omega; omega; omega) | rfl)) ?_) | refine RunLN.any ?_ | refine RunL.ev Tryd.tOk rfl rfl rfl ?_ | refine RunL.evV rfl rfl rfl (OpV.load1 Tryd.tOk rfl rfl rfl (Blk.cell Z1 rfl)) ?_ | refine RunL.evV rfl rfl rfl (OpV.load1 Tryd.tOk rfl rfl rfl ((hrx.up X) 0 _ rfl)) ?_ | refine RunL.evV rfl rfl rfl (OpV.indexS Tryd.tOk _ rfl rfl rfl rfl (by omega)) ?_ | refine RunE.condT rfl rfl ?_ | refine RunE.condF rfl rfl ?_ | refine RunE.seq ?_ | refine RunE.region ?_ | refine RunL.nil ?_ | refine RunE.block ?_ | refine RunE.inBlock ?_ | refine RunE.skip ?_)
      exact RunE.weaken (by repeat (first | exact Sub.nil _ | refine Sub.cons rfl ?_)) (again (i + 1, x) _ (by simp only; omega) ⟨by simp only; omega, hinc', X, Z1⟩)
    · have hf : rtB b = false := by
        unfold rtB; rw [hinc]; show ((decide _ && _) && _) = _; rw [decide_eq_false hc]; rfl
      have hc' : x ≤ last ∨ (last < x ∧ b.next ≤ x) := by omega
      rcases hc' with hc' | ⟨hc1, hc2⟩
      · repeat' (first | with_reducible refine RunLN.boolT rfl ?_ | with_reducible refine RunLN.boolF rfl ?_ | (with_reducible refine RunLN.decT ?_ ?_; focus omega) | (with_reducible refine RunLN.chk ?_; refine RunLN.int (by (first | (refine wr_i64 ?_ ?_; omega; omega) | (refine wm_i64 ?_; omega) | (refine wq_i64 ?_ ?_ ?_; omega; omega; omega) | rfl)) ?_) | refine RunLN.any ?_ | refine RunL.ev Tryd.tOk rfl rfl rfl ?_ | refine RunL.unwantedD rfl rfl ?_ | refine RunL.evV rfl rfl rfl (OpV.load1 Tryd.tOk rfl rfl rfl ((hrx.up X) 0 _ rfl)) ?_ | refine RunL.evV rfl rfl rfl (OpV.indexS Tryd.tOk _ rfl rfl rfl rfl (by omega)) ?_ | refine RunE.condT rfl rfl ?_ | refine RunE.seq ?_ | refine RunE.region ?_ | refine RunL.nil ?_ | refine RunE.block ?_ | refine RunE.skip ?_)
        exact RunE.retFn Tryd.func47 (.tmp rfl .nil) ⟨by rw [hf]; rfl, X⟩
      · repeat' (first | with_reducible refine RunLN.boolT rfl ?_ | with_reducible refine RunLN.boolF rfl ?_ | (with_reducible refine RunLN.decT ?_ ?_; focus omega) | (with_reducible refine RunLN.decF ?_ ?_; focus omega) | (with_reducible refine RunLN.chk ?_; refine RunLN.int (by (first | (refine wr_i64 ?_ ?_; omega; omega) | (refine wm_i64 ?_; omega) | (refine wq_i64 ?_ ?_ ?_; omega; omega; omega) | rfl)) ?_) | refine RunLN.any ?_ | refine RunL.ev Tryd.tOk rfl rfl rfl ?_ | refine RunL.evV rfl rfl rfl (OpV.load1 Tryd.tOk rfl rfl rfl (Blk.cell Z1 rfl)) ?_ | refine RunL.evV rfl rfl rfl (OpV.load1 Tryd.tOk rfl rfl rfl ((hrx.up X) 0 _ rfl)) ?_ | refine RunL.evV rfl rfl rfl (OpV.indexS Tryd.tOk _ rfl rfl rfl rfl (by omega)) ?_ | refine RunE.condT rfl rfl ?_ | refine RunE.seq ?_ | refine RunE.region ?_ | refine RunL.nil ?_ | refine RunE.block ?_ | refine RunE.skip ?_)
        exact RunE.retFn Tryd.func47 (.tmp rfl .nil) ⟨by rw [hf]; rfl, X⟩
  · obtain rfl : i = b.left.length := by omega
    rw [List.drop_length] at hinc
    have hf : rtB b = numsB b := by unfold rtB; rw [hinc]; show (true && _) = _; rfl
    clear again hinc
    repeat' (first | with_reducible refine RunLN.boolT rfl ?_ | with_reducible refine RunLN.boolF rfl ?_ | (with_reducible refine RunLN.decF ?_ ?_; focus omega) | (with_reducible refine RunLN.chk ?_; refine RunLN.int (by (first | (refine wr_i64 ?_ ?_; omega; omega) | (refine wm_i64 ?_; omega) | (refine wq_i64 ?_ ?_ ?_; omega; omega; omega) | rfl)) ?_) | (refine RunLN.boolC (fun h_ => ?_) (fun h_ => ?_) <;> (try simp only [decide_eq_true_eq, decide_eq_false_iff_not, beq_iff_eq, bne_iff_ne, ne_eq, Bool.not_eq_true, Bool.not_eq_false, beq_eq_false_iff_ne, bne_eq_false_iff_eq, Bool.not_eq_eq_eq_not, Bool.not_true, Bool.not_false, Bool.not_not, Int.not_lt, Int.not_le, gt_iff_lt, ge_iff_le, Decidable.not_not] at h_)) | refine RunLN.any ?_ | refine RunL.ev Tryd.tOk rfl rfl rfl ?_ | refine RunL.unwantedD rfl rfl ?_ | refine RunL.evV rfl rfl rfl (OpV.load1 Tryd.tOk rfl rfl rfl (Blk.cell Z1 rfl)) ?_ | refine RunE.condF rfl rfl ?_ | refine RunE.seq ?_ | refine RunE.region ?_ | refine RunL.nil ?_ | refine RunE.exit rfl ?_)
    all_goals
      refine RunE.retFn Tryd.func47 (.tmp rfl .nil) ⟨?_, X⟩
      rw [hf]
      simp only [oneOr]
      congr 1
      unfold numsB
      first | exact (decide_eq_true (by omega)).symm | exact (decide_eq_false (by omega)).symm
set_option maxHeartbeats 4000000 in
set_option maxRecDepth 4000 in
theorem rright41_ok (b : Book) (v : Value) (w : World) (hv : LI' w v b.left) (hl : b.left.length < 9223372036854775808) : Rets Tryd.prog 26 [.agg (bkV b v).toArray] w fun r w' => r = .bool (rtB b) ∧ Ext w w' := by
  refine RetsX.of (nt := 73) Tryd.func26 (by kernel_rfl) rfl rfl (by simp) (by simp only [argEnv]; rfl) ?_
  have X := ExtB.refl (fun _ => False) w
  repeat' (first | refine RunE.seq ?_ | refine RunE.region ?_)
  refine RunL.box rfl rfl rfl fun B1 w1_ a_ => ?_
  have Z1 : Blk w1_ B1 (bkV b v) 24 := a_.at_
  have gB1 := a_.ge X
  replace X := X.trans a_.ext
  clear a_
  have hn : numsB b = true ∨ numsB b = false := by cases numsB b <;> simp
  rcases hn with hn | hn
  · have hn' := of_decide_eq_true hn
    obtain ⟨n1, n2, n3, n4, n5, n6⟩ := hn'
    repeat' (first | with_reducible refine RunLN.boolF rfl ?_ | (with_reducible refine RunLN.decF ?_ ?_; focus omega) | (with_reducible refine RunLN.chk ?_; refine RunLN.int (by (first | (refine wr_i64 ?_ ?_; omega; omega) | (refine wm_i64 ?_; omega) | (refine wq_i64 ?_ ?_ ?_; omega; omega; omega) | rfl)) ?_) | refine RunLN.any ?_ | refine RunL.ev Tryd.tOk rfl rfl rfl ?_ | refine RunL.evV rfl rfl rfl (OpV.load1 Tryd.tOk rfl rfl rfl (Blk.cell Z1 rfl)) ?_ | refine RunE.condF rfl rfl ?_ | refine RunE.seq ?_ | refine RunE.region ?_ | refine RunL.nil ?_ | refine RunE.block ?_ | refine RunE.skip ?_)
    refine RunE.loop (ι := Nat × Int) (fun s => [(0, .agg (bkV b v).toArray), (1, .pointer (some ⟨B1, 0, none⟩)), (2, .bool false), (3, .int .i64 (s.1 : Int))])
      (fun s w' => s.1 ≤ b.left.length ∧ incB b.next (-1) b.left = incB b.next s.2 (b.left.drop s.1) ∧ -1 ≤ s.2 ∧ (s.1 = 0 → s.2 = -1) ∧ (∀ j, s.1 = j + 1 → b.left[j]? = some s.2) ∧ Ext w w' ∧ Blk w' B1 (bkV b v) 24) (fun s => b.left.length - s.1) (0, -1) (by repeat (first | exact Sub.nil _ | refine Sub.cons rfl ?_)) ⟨Nat.zero_le _, rfl, by simp, fun _ => rfl, fun j h => by simp at h, X, Z1⟩ ?_
    clear X Z1
    rintro ⟨i, last⟩ w3 ⟨hi, hinc, hlb, h0, hp, X, Z1⟩ again
    simp only at hi hinc hlb h0 hp again ⊢
    by_cases hlt : i < b.left.length
    · obtain ⟨b1, o1, c1, rfl, hr1, -⟩ := isL_held hv hlt
      obtain ⟨x, hx⟩ : ∃ x, b.left[i]? = some x := ⟨_, List.getElem?_eq_getElem hlt⟩
      have hrx := flat_row encT hr1 hx
      have hd : b.left.drop i = x :: b.left.drop (i + 1) := by
        obtain ⟨hi, e⟩ := List.getElem?_eq_some_iff.1 hx
        rw [← e, List.drop_eq_getElem_cons hi]
      rw [hd] at hinc
      repeat' (first | (with_reducible refine RunLN.decT ?_ ?_; focus omega) | (with_reducible refine RunLN.chk ?_; refine RunLN.int (by (first | (refine wr_i64 ?_ ?_; omega; omega) | (refine wm_i64 ?_; omega) | (refine wq_i64 ?_ ?_ ?_; omega; omega; omega) | rfl)) ?_) | refine RunLN.any ?_ | refine RunL.ev Tryd.tOk rfl rfl rfl ?_ | refine RunL.evV rfl rfl rfl (OpV.load1 Tryd.tOk rfl rfl rfl (Blk.cell Z1 rfl)) ?_ | refine RunE.condT rfl rfl ?_ | refine RunE.seq ?_ | refine RunE.region ?_ | refine RunL.nil ?_ | refine RunE.block ?_ | refine RunE.skip ?_)
      by_cases hc : last < x ∧ x < b.next
      · have hinc' : incB b.next (-1) b.left = incB b.next x (b.left.drop (i + 1)) := by
          rw [hinc]; show (decide _ && _) = _; rw [decide_eq_true hc, Bool.true_and]
        obtain ⟨hc1, hc2⟩ := hc
        rcases Nat.eq_zero_or_pos i with rfl | hpos
        · have q1 : ∀ j, 0 + 1 = j + 1 → b.left[j]? = some x := by
            intro j h
            have : j = 0 := by omega
            rw [this]; exact hx
          refine RunE.draw (fun _ => False) mix ?_
          intro wd_ Xd_
          repeat' (first | with_reducible refine AsyN.boolF rfl ?_ | (with_reducible refine AsyN.decF ?_ ?_; focus omega) | (with_reducible refine AsyN.chk ?_; refine AsyN.int (by (first | (refine wr_i64 ?_ ?_; omega; omega) | (refine wm_i64 ?_; omega) | (refine wq_i64 ?_ ?_ ?_; omega; omega; omega) | rfl)) ?_) | refine AsyN.any ?_ | refine Asy.ev Tryd.tOk rfl rfl rfl ?_ | refine Asy.unwantedD rfl rfl rfl ?_ | refine Asy.evV rfl rfl rfl rfl (fun _ X_ => OpV.load1 Tryd.tOk rfl rfl rfl (Blk.cell (Z1.up (Xd_.trans X_)) rfl)) ?_ | refine Asy.evV rfl rfl rfl rfl (fun _ X_ => OpV.load1 Tryd.tOk rfl rfl rfl ((hrx.up (X.trans (Xd_.trans X_))) 0 _ rfl)) ?_ | refine Asy.evV rfl rfl rfl rfl (fun _ X_ => OpV.indexS Tryd.tOk _ rfl rfl rfl rfl (by omega)) ?_)
          refine Asy.end_ (by kernel_rfl) ?_
          intro we_ Xe_
          replace X := X.trans (Xd_.trans Xe_)
          replace Z1 := Z1.up (Xd_.trans Xe_)
          clear Xd_ Xe_
          repeat' (first | (with_reducible refine RunLN.chk ?_; refine RunLN.int (by (first | (refine wr_i64 ?_ ?_; omega; omega) | (refine wm_i64 ?_; omega) | (refine wq_i64 ?_ ?_ ?_; omega; omega; omega) | rfl)) ?_) | refine RunL.ev Tryd.tOk rfl rfl rfl ?_ | refine RunE.condF rfl rfl ?_ | refine RunE.region ?_ | refine RunL.nil ?_ | refine RunE.inBlock ?_ | refine RunE.skip ?_)
          exact RunE.weaken (by repeat (first | exact Sub.nil _ | refine Sub.cons rfl ?_)) (again (0 + 1, x) _ (by simp only; omega) ⟨by simp only; omega, hinc', by simp only; omega, by simp, q1, X, Z1⟩)
        · obtain ⟨j, rfl⟩ : ∃ j, i = j + 1 := ⟨i - 1, by omega⟩
          have hpx := hp j rfl
          have q1 : ∀ j', j + 1 + 1 = j' + 1 → b.left[j']? = some x := by
            intro j' h
            have : j' = j + 1 := by omega
            rw [this]; exact hx
          have hrp := flat_row encT hr1 hpx
          refine RunE.draw (fun _ => False) mix ?_
          intro wd_ Xd_
          repeat' (first | with_reducible refine AsyN.boolT rfl ?_ | with_reducible refine AsyN.boolF rfl ?_ | (with_reducible refine AsyN.decT ?_ ?_; focus omega) | (with_reducible refine AsyN.decF ?_ ?_; focus omega) | (with_reducible refine AsyN.chk ?_; refine AsyN.int (by (first | (refine wr_i64 ?_ ?_; omega; omega) | (refine wm_i64 ?_; omega) | (refine wq_i64 ?_ ?_ ?_; omega; omega; omega) | rfl)) ?_) | refine AsyN.any ?_ | refine Asy.ev Tryd.tOk rfl rfl rfl ?_ | refine Asy.evV rfl rfl rfl rfl (fun _ X_ => OpV.load1 Tryd.tOk rfl rfl rfl (Blk.cell (Z1.up (Xd_.trans X_)) rfl)) ?_ | refine Asy.evV rfl rfl rfl rfl (fun _ X_ => OpV.load1 Tryd.tOk rfl rfl rfl ((hrx.up (X.trans (Xd_.trans X_))) 0 _ rfl)) ?_ | refine Asy.evV rfl rfl rfl rfl (fun _ X_ => OpV.indexS Tryd.tOk _ rfl rfl rfl rfl (by omega)) ?_)
          refine Asy.evV rfl rfl rfl rfl (fun _ X_ => OpV.indexS Tryd.tOk j rfl rfl rfl (by omega) (by omega)) ?_
          repeat' (first | with_reducible refine AsyN.boolF rfl ?_ | (with_reducible refine AsyN.decF ?_ ?_; focus omega) | (with_reducible refine AsyN.chk ?_; refine AsyN.int (by (first | (refine wr_i64 ?_ ?_; omega; omega) | (refine wm_i64 ?_; omega) | (refine wq_i64 ?_ ?_ ?_; omega; omega; omega) | rfl)) ?_) | refine AsyN.any ?_ | refine Asy.ev Tryd.tOk rfl rfl rfl ?_ | refine Asy.evV rfl rfl rfl rfl (fun _ X_ => OpV.load1 Tryd.tOk rfl rfl rfl ((hrp.up (X.trans (Xd_.trans X_))) 0 _ rfl)) ?_)
          refine Asy.end_ (by kernel_rfl) ?_
          intro we_ Xe_
          replace X := X.trans (Xd_.trans Xe_)
          replace Z1 := Z1.up (Xd_.trans Xe_)
          clear Xd_ Xe_
          repeat' (first | (with_reducible refine RunLN.chk ?_; refine RunLN.int (by (first | (refine wr_i64 ?_ ?_; omega; omega) | (refine wm_i64 ?_; omega) | (refine wq_i64 ?_ ?_ ?_; omega; omega; omega) | rfl)) ?_) | refine RunL.ev Tryd.tOk rfl rfl rfl ?_ | refine RunE.condF rfl rfl ?_ | refine RunE.region ?_ | refine RunL.nil ?_ | refine RunE.inBlock ?_ | refine RunE.skip ?_)
          exact RunE.weaken (by repeat (first | exact Sub.nil _ | refine Sub.cons rfl ?_)) (again (j + 1 + 1, x) _ (by simp only; omega) ⟨by simp only; omega, hinc', by simp only; omega, by simp, q1, X, Z1⟩)
      · have hf : rtB b = false := by
          unfold rtB; rw [hinc]; show ((decide _ && _) && _) = _; rw [decide_eq_false hc]; rfl
        have hc' : x < 0 ∨ (0 ≤ x ∧ b.next ≤ x) ∨ (0 ≤ x ∧ x < b.next ∧ x ≤ last) := by omega
        rcases hc' with hc' | hc' | ⟨hc1, hc2, hc3⟩
        · refine RunE.draw (fun _ => False) mix ?_
          intro wd_ Xd_
          repeat' (first | with_reducible refine AsyN.boolT rfl ?_ | (with_reducible refine AsyN.decT ?_ ?_; focus omega) | (with_reducible refine AsyN.chk ?_; refine AsyN.int (by (first | (refine wr_i64 ?_ ?_; omega; omega) | (refine wm_i64 ?_; omega) | (refine wq_i64 ?_ ?_ ?_; omega; omega; omega) | rfl)) ?_) | refine AsyN.any ?_ | refine Asy.ev Tryd.tOk rfl rfl rfl ?_ | refine Asy.unwantedD rfl rfl rfl ?_ | refine Asy.evV rfl rfl rfl rfl (fun _ X_ => OpV.load1 Tryd.tOk rfl rfl rfl (Blk.cell (Z1.up (Xd_.trans X_)) rfl)) ?_ | refine Asy.evV rfl rfl rfl rfl (fun _ X_ => OpV.load1 Tryd.tOk rfl rfl rfl ((hrx.up (X.trans (Xd_.trans X_))) 0 _ rfl)) ?_ | refine Asy.evV rfl rfl rfl rfl (fun _ X_ => OpV.indexS Tryd.tOk _ rfl rfl rfl rfl (by omega)) ?_)
          refine Asy.end_ (by kernel_rfl) ?_
          intro we_ Xe_
          replace X := X.trans (Xd_.trans Xe_)
          clear Xd_ Xe_
          repeat' (first | with_reducible refine RunLN.boolF rfl ?_ | refine RunL.ev Tryd.tOk rfl rfl rfl ?_ | refine RunE.condT rfl rfl ?_ | refine RunE.seq ?_ | refine RunE.region ?_ | refine RunL.nil ?_)
          exact RunE.retFn Tryd.func26 (.tmp rfl .nil) ⟨by rw [hf]; rfl, X⟩
        · refine RunE.draw (fun _ => False) mix ?_
          intro wd_ Xd_
          repeat' (first | with_reducible refine AsyN.boolT rfl ?_ | with_reducible refine AsyN.boolF rfl ?_ | (with_reducible refine AsyN.decT ?_ ?_; focus omega) | (with_reducible refine AsyN.decF ?_ ?_; focus omega) | (with_reducible refine AsyN.chk ?_; refine AsyN.int (by (first | (refine wr_i64 ?_ ?_; omega; omega) | (refine wm_i64 ?_; omega) | (refine wq_i64 ?_ ?_ ?_; omega; omega; omega) | rfl)) ?_) | refine AsyN.any ?_ | refine Asy.ev Tryd.tOk rfl rfl rfl ?_ | refine Asy.unwantedD rfl rfl rfl ?_ | refine Asy.evV rfl rfl rfl rfl (fun _ X_ => OpV.load1 Tryd.tOk rfl rfl rfl (Blk.cell (Z1.up (Xd_.trans X_)) rfl)) ?_ | refine Asy.evV rfl rfl rfl rfl (fun _ X_ => OpV.load1 Tryd.tOk rfl rfl rfl ((hrx.up (X.trans (Xd_.trans X_))) 0 _ rfl)) ?_ | refine Asy.evV rfl rfl rfl rfl (fun _ X_ => OpV.indexS Tryd.tOk _ rfl rfl rfl rfl (by omega)) ?_)
          refine Asy.end_ (by kernel_rfl) ?_
          intro we_ Xe_
          replace X := X.trans (Xd_.trans Xe_)
          clear Xd_ Xe_
          repeat' (first | with_reducible refine RunLN.boolF rfl ?_ | refine RunL.ev Tryd.tOk rfl rfl rfl ?_ | refine RunE.condT rfl rfl ?_ | refine RunE.seq ?_ | refine RunE.region ?_ | refine RunL.nil ?_)
          exact RunE.retFn Tryd.func26 (.tmp rfl .nil) ⟨by rw [hf]; rfl, X⟩
        · obtain ⟨j, rfl⟩ : ∃ j, i = j + 1 := ⟨i - 1, by
            have : i ≠ 0 := fun h => by have := h0 h; omega
            omega⟩
          have hpx := hp j rfl
          have hrp := flat_row encT hr1 hpx
          refine RunE.draw (fun _ => False) mix ?_
          intro wd_ Xd_
          repeat' (first | with_reducible refine AsyN.boolT rfl ?_ | with_reducible refine AsyN.boolF rfl ?_ | (with_reducible refine AsyN.decT ?_ ?_; focus omega) | (with_reducible refine AsyN.decF ?_ ?_; focus omega) | (with_reducible refine AsyN.chk ?_; refine AsyN.int (by (first | (refine wr_i64 ?_ ?_; omega; omega) | (refine wm_i64 ?_; omega) | (refine wq_i64 ?_ ?_ ?_; omega; omega; omega) | rfl)) ?_) | refine AsyN.any ?_ | refine Asy.ev Tryd.tOk rfl rfl rfl ?_ | refine Asy.evV rfl rfl rfl rfl (fun _ X_ => OpV.load1 Tryd.tOk rfl rfl rfl (Blk.cell (Z1.up (Xd_.trans X_)) rfl)) ?_ | refine Asy.evV rfl rfl rfl rfl (fun _ X_ => OpV.load1 Tryd.tOk rfl rfl rfl ((hrx.up (X.trans (Xd_.trans X_))) 0 _ rfl)) ?_ | refine Asy.evV rfl rfl rfl rfl (fun _ X_ => OpV.indexS Tryd.tOk _ rfl rfl rfl rfl (by omega)) ?_)
          refine Asy.evV rfl rfl rfl rfl (fun _ X_ => OpV.indexS Tryd.tOk j rfl rfl rfl (by omega) (by omega)) ?_
          repeat' (first | with_reducible refine AsyN.boolT rfl ?_ | (with_reducible refine AsyN.decT ?_ ?_; focus omega) | (with_reducible refine AsyN.chk ?_; refine AsyN.int (by (first | (refine wr_i64 ?_ ?_; omega; omega) | (refine wm_i64 ?_; omega) | (refine wq_i64 ?_ ?_ ?_; omega; omega; omega) | rfl)) ?_) | refine AsyN.any ?_ | refine Asy.ev Tryd.tOk rfl rfl rfl ?_ | refine Asy.evV rfl rfl rfl rfl (fun _ X_ => OpV.load1 Tryd.tOk rfl rfl rfl ((hrp.up (X.trans (Xd_.trans X_))) 0 _ rfl)) ?_)
          refine Asy.end_ (by kernel_rfl) ?_
          intro we_ Xe_
          replace X := X.trans (Xd_.trans Xe_)
          clear Xd_ Xe_
          repeat' (first | with_reducible refine RunLN.boolF rfl ?_ | refine RunL.ev Tryd.tOk rfl rfl rfl ?_ | refine RunE.condT rfl rfl ?_ | refine RunE.seq ?_ | refine RunE.region ?_ | refine RunL.nil ?_)
          exact RunE.retFn Tryd.func26 (.tmp rfl .nil) ⟨by rw [hf]; rfl, X⟩
    · obtain rfl : i = b.left.length := by omega
      rw [List.drop_length] at hinc
      have hf : rtB b = true := by unfold rtB; rw [hinc, hn]; rfl
      clear again hinc
      repeat' (first | with_reducible refine RunLN.boolT rfl ?_ | (with_reducible refine RunLN.decF ?_ ?_; focus omega) | (with_reducible refine RunLN.chk ?_; refine RunLN.int (by (first | (refine wr_i64 ?_ ?_; omega; omega) | (refine wm_i64 ?_; omega) | (refine wq_i64 ?_ ?_ ?_; omega; omega; omega) | rfl)) ?_) | refine RunLN.any ?_ | refine RunL.ev Tryd.tOk rfl rfl rfl ?_ | refine RunL.evV rfl rfl rfl (OpV.load1 Tryd.tOk rfl rfl rfl (Blk.cell Z1 rfl)) ?_ | refine RunL.evV rfl rfl rfl (OpV.lenSl Tryd.tOk rfl rfl hv) ?_ | refine RunE.condF rfl rfl ?_ | refine RunE.seq ?_ | refine RunE.region ?_ | refine RunL.nil ?_ | refine RunE.exit rfl ?_)
      exact RunE.retFn Tryd.func26 (.tmp rfl .nil) ⟨by rw [hf]; rfl, X⟩
  · have hf : rtB b = false := by unfold rtB; rw [hn, Bool.and_false]
    have hn' := of_decide_eq_false hn
    have : b.keeper < 0 ∨ (0 ≤ b.keeper ∧ 64 ≤ b.keeper) ∨ ((0 ≤ b.keeper ∧ b.keeper < 64) ∧ b.seed < 0) ∨ ((0 ≤ b.keeper ∧ b.keeper < 64) ∧ 0 ≤ b.seed ∧ 1099511627776 < b.seed) ∨ ((0 ≤ b.keeper ∧ b.keeper < 64) ∧ (0 ≤ b.seed ∧ b.seed ≤ 1099511627776) ∧ b.next < 0) ∨ ((0 ≤ b.keeper ∧ b.keeper < 64) ∧ (0 ≤ b.seed ∧ b.seed ≤ 1099511627776) ∧ 0 ≤ b.next ∧ 4096 < b.next) := by omega
    rcases this with h | h | h | h | h | h
    all_goals
      repeat' (first | with_reducible refine RunLN.boolT rfl ?_ | with_reducible refine RunLN.boolF rfl ?_ | (with_reducible refine RunLN.decT ?_ ?_; focus omega) | (with_reducible refine RunLN.decF ?_ ?_; focus omega) | (with_reducible refine RunLN.chk ?_; refine RunLN.int (by (first | (refine wr_i64 ?_ ?_; omega; omega) | (refine wm_i64 ?_; omega) | (refine wq_i64 ?_ ?_ ?_; omega; omega; omega) | rfl)) ?_) | refine RunLN.any ?_ | refine RunL.ev Tryd.tOk rfl rfl rfl ?_ | refine RunL.unwantedD rfl rfl ?_ | refine RunL.evV rfl rfl rfl (OpV.load1 Tryd.tOk rfl rfl rfl (Blk.cell Z1 rfl)) ?_ | refine RunE.condT rfl rfl ?_ | refine RunE.seq ?_ | refine RunE.region ?_ | refine RunL.nil ?_)
      exact RunE.retFn Tryd.func26 (.tmp rfl .nil) ⟨by rw [hf]; rfl, X⟩
end Go.Sg
end
section
/- Nonces: arguments. -/
namespace Go.Sg
open Go.Rn Go.RowKit Go.WideShapes Go.ChangeShapes Go.Rec
theorem shp_rows {P : Program} {w : World} {α : Type} {en : α → List Value} {k : Nat} (hk : EncOk en k) {wfx : α → Prop} {t e : TypeId} {fuel : Nat} {cs : List Value} (ht : P.underlying t = some (.slice e)) (hs : P.cellsOf e = k)
    (hrow : ∀ fuel cs, Shp P w fuel e cs → ∃ x, cs = en x ∧ wfx x) (hf : Shp P w fuel t cs) : ∃ u, ∃ l : List α, cs = [u] ∧ l.length < 9223372036854775808 ∧ IsL w en k u l ∧ ∀ x ∈ l, wfx x := by
  obtain ⟨f, u, m, rows, hv, hm, hr, hrs, hsl⟩ := hf.slice ht hs hk.pos
  obtain ⟨l, hl, hw⟩ : ∃ l : List α, rows = l.map en ∧ ∀ x ∈ l, wfx x := by
    clear hr hsl
    induction rows with
    | nil => exact ⟨[], rfl, by simp⟩
    | cons r rs ih =>
      obtain ⟨l, rfl, h2⟩ := ih fun r hr => hrs r (List.mem_cons_of_mem _ hr)
      obtain ⟨x, rfl, hx⟩ := hrow f r (hrs r List.mem_cons_self).2
      exact ⟨x :: l, rfl, fun y hy => by
        rcases List.mem_cons.1 hy with rfl | hy
        · exact hx
        · exact h2 y hy⟩
  subst hl
  have hlm : l.length = m := by simpa using hr
  refine ⟨u, l, hv, by simp only [maxLen] at hm; omega, ?_, hw⟩
  rw [← hlm] at hsl
  exact hsl
end Go.Sg
namespace Go.Sg
open Go.Rn Go.Proofs Go.Non Go.Rec Go.RowKit Go.WideShapes Go.ChangeShapes Go.Dev
section
variable {H : Type} {enc : TypeId × Value → H} {w : World}
theorem int_row (fuel : Nat) (cs : List Value) (h : Shp Tryd.prog w fuel 3 cs) : ∃ x : Int, cs = intC x ∧ True := by
  obtain ⟨a, e, -⟩ := h.int Tryd.underlying3
  exact ⟨a, e, trivial⟩
set_option maxRecDepth 4000 in
theorem book_shp {fuel : Nat} {cs : List Value} (h : Shp Tryd.prog w fuel 24 cs) : ∃ (b : Book) (u : Value), cs = bkV b u ∧ b.left.length < 9223372036854775808 ∧ LI' w u b.left := by
  obtain ⟨hl, f, hs⟩ := h.struct (by kernel_rfl : Tryd.prog.underlying 24 = some (.struct (Tryd.prog.fieldsOf 24)))
  have hf : (Tryd.prog.fieldsOf 24).toList.map (fun f => (f.type, f.offset)) = [(3, 0), (3, 1), (3, 2), (22, 3)] := by kernel_rfl
  have hc : Tryd.prog.cellsOf 24 = 4 := by kernel_rfl
  have hi : Tryd.prog.cellsOf 3 = 1 := by kernel_rfl
  have hsl : Tryd.prog.cellsOf 22 = 1 := by kernel_rfl
  generalize (Tryd.prog.fieldsOf 24).toList = fs at hf hs
  obtain ⟨f0, f1, f2, f3, rfl⟩ : ∃ f0 f1 f2 f3, fs = [f0, f1, f2, f3] := by
    rcases fs with _ | ⟨f0, _ | ⟨f1, _ | ⟨f2, _ | ⟨f3, _ | ⟨f4, r⟩⟩⟩⟩⟩
    · simp at hf
    · simp at hf
    · simp at hf
    · simp at hf
    · exact ⟨f0, f1, f2, f3, rfl⟩
    · simp at hf
  simp only [List.map_cons, List.map_nil, List.cons.injEq, Prod.mk.injEq, and_true] at hf
  obtain ⟨⟨t0, o0⟩, ⟨t1, o1⟩, ⟨t2, o2⟩, t3, o3⟩ := hf
  have h0 := hs f0 (by simp)
  have h1 := hs f1 (by simp)
  have h2 := hs f2 (by simp)
  have h3 := hs f3 (by simp)
  rw [t0, o0, hi] at h0
  rw [t1, o1, hi] at h1
  rw [t2, o2, hi] at h2
  rw [t3, o3, hsl] at h3
  obtain ⟨a, e0, -⟩ := h0.int Tryd.underlying3
  obtain ⟨c, e1, -⟩ := h1.int Tryd.underlying3
  obtain ⟨d, e2, -⟩ := h2.int Tryd.underlying3
  obtain ⟨u, l, e3, hlen, hL, -⟩ := shp_rows encT Tryd.underlying22 (by kernel_rfl) int_row h3
  rw [hc] at hl
  match cs, hl with
  | [x0, x1, x2, x3], _ =>
    simp at e0 e1 e2 e3
    exact ⟨⟨a, c, d, l⟩, u, by rw [e0, e1, e2, e3]; rfl, hlen, hL⟩
set_option maxRecDepth 4000 in
theorem book_open {v : Value} {d : DataW H} {ps : List MemPlace} {held : Bool} {r : Reach} {b0 : Nat} (hval : Value.okWide Tryd.prog w r b0 24 v)
    (h : DataW.Trod enc Tryd.prog w 0 (fun _ => true) held 24 v d ps) : ∃ (b : Book) (u : Value), v = .agg (bkV b u).toArray ∧ b.left.length < 9223372036854775808 ∧ LI' w u b.left := by
  obtain ⟨fuel, cs, rfl, hs⟩ := open_struct (by kernel_rfl) hval h
  obtain ⟨b, u, rfl, h1, h2⟩ := book_shp hs
  exact ⟨b, u, rfl, h1, h2⟩
end
end Go.Sg
end
section
/- Nonces: copying, opening, New, Burn. -/
namespace Go.Non
open Go.Rn
theorem incB_len {next : Int} : ∀ {l : List Int} {last : Int}, incB next last l = true → l = [] ∨ (l.length : Int) ≤ next - 1 - last
  | [], _, _ => .inl rfl
  | n :: r, last, h => by
    simp only [incB, Bool.and_eq_true, decide_eq_true_eq] at h
    obtain ⟨⟨h1, h2⟩, h3⟩ := h
    rcases incB_len h3 with rfl | h
    · right; simp; omega
    · right; simp only [List.length_cons]; omega
theorem rtB_inv {b : Book} (h : rtB b = true) : (0 ≤ b.keeper ∧ b.keeper < 64 ∧ 0 ≤ b.seed ∧ b.seed ≤ 1099511627776 ∧ 0 ≤ b.next ∧ b.next ≤ 4096) ∧ b.left.Pairwise (· < ·) ∧ (∀ x ∈ b.left, 0 ≤ x ∧ x < b.next) ∧ b.left.length ≤ 4096 := by
  unfold rtB at h
  rw [Bool.and_eq_true] at h
  have h2 := of_decide_eq_true h.2
  obtain ⟨h3, h4⟩ := incB_inv h.1
  refine ⟨h2, h3, fun x hx => by have := h4 x hx; omega, ?_⟩
  rcases incB_len h.1 with h | h
  · rw [h]; simp
  · omega
theorem rtB_of {b : Book} (h1 : 0 ≤ b.keeper ∧ b.keeper < 64 ∧ 0 ≤ b.seed ∧ b.seed ≤ 1099511627776 ∧ 0 ≤ b.next ∧ b.next ≤ 4096) (h2 : b.left.Pairwise (· < ·)) (h3 : ∀ x ∈ b.left, 0 ≤ x ∧ x < b.next) : rtB b = true := by
  unfold rtB numsB
  rw [incB_of h2 fun x hx => by have := h3 x hx; omega, decide_eq_true h1]; rfl
end Go.Non
namespace Go.Rn
theorem Mends.mono {P : Program} {g : FuncId} {vs : List Value} {u : FrameMode} {w : World} {R R' : FrameMode → World → Prop} (h : Mends P g vs u w R) (hr : ∀ u' w', R u' w' → R' u' w') : Mends P g vs u w R' :=
  CallsD.mono h fun _ _ _ ⟨h1, h2⟩ => ⟨h1, hr _ _ h2⟩
end Go.Rn
namespace Go.Sg
open Go.Rn Go.Proofs Go.Non Go.Rec Go.RowKit Go.Dev
attribute [local irreducible] Go.Rn.RetsX Go.Rn.RunLN Go.Rn.AsyN Go.Rn.RunL Go.Rn.RunE Go.Rn.Asy Go.Rn.OpV Go.Rn.OpE Go.Rn.ExecE
theorem intClone_ok (l : List Int) (v : Value) (w : World) (hv : LI' w v l) (hl : l.length ≤ 5000) :
    Rets Tryd.prog 83 [v] w fun r w' => w'.ownsRow w.heap.size 3 1 r l.length (flat intC l) ∧ Ext w w' := by
  obtain ⟨d, c, rfl⟩ : ∃ d c, v = .slice d l.length c := by
    rcases hv.inv with ⟨d, rfl, h, -⟩ | ⟨b, o, c, rfl, -⟩
    · exact ⟨d, 0, by rw [h]⟩
    · exact ⟨_, c, rfl⟩
  refine RetsX.of (nt := 8) Tryd.func83 (by kernel_rfl) rfl rfl (by simp) (by simp only [argEnv]; rfl) ?_
  repeat' (first | refine RunLN.any ?_ | refine RunL.ev Tryd.tOk rfl rfl rfl ?_ | refine RunE.seq ?_ | refine RunE.region ?_ | refine RunL.nil ?_)
  refine RunL.evV rfl rfl rfl (OpV.eqNilSl (TD.of_slc (TI.tdof (Tryd.tOk.get 22 _ rfl)).symm).1 rfl rfl) ?_
  cases d with
  | none =>
    obtain rfl : l = [] := by
      rcases hv.inv with ⟨d, h, h', -⟩ | ⟨b, o, c, h, -⟩
      · exact List.length_eq_zero_iff.1 h'
      · simp at h
    repeat' (first | with_reducible refine RunLN.boolT rfl ?_ | refine RunLN.any ?_ | refine RunL.ev Tryd.tOk rfl rfl rfl ?_ | refine RunE.condT rfl rfl ?_ | refine RunE.seq ?_ | refine RunE.region ?_ | refine RunL.nil ?_)
    exact RunE.retFn Tryd.func83 (.tmp rfl .nil) ⟨World.ownsRow_nil _ _ _ _, ExtB.refl _ _⟩
  | some d =>
    repeat' (first | with_reducible refine RunLN.boolF rfl ?_ | refine RunE.condF rfl rfl ?_ | refine RunE.seq ?_ | refine RunE.region ?_ | refine RunL.nil ?_ | refine RunE.skip ?_)
    refine RunL.ex rfl rfl rfl (OpE.buildSl Tryd.tOk [] rfl rfl rfl rfl rfl rfl (by simp)) ?_
    rintro _ w1 ⟨B, rfl, a1⟩
    have O1 : w1.ownsRow w.heap.size 3 1 (.slice (some ⟨B, 0, none⟩) 0 0) 0 [] := ownsRow_added (cs := []) a1 (by rw [a1.eq]; exact Nat.le_refl _) rfl (by decide)
    repeat' (first | refine RunLN.any ?_ | refine RunL.ev Tryd.tOk rfl rfl rfl ?_)
    refine RunL.ex rfl rfl rfl (OpE.append' Tryd.tOk rfl rfl rfl rfl rfl rfl O1 (hv.extE a1.ext) (flat_plain encT l) (by show _ * 8 ≤ _; omega) (by omega) a1.ext.size) ?_
    rintro r w2 ⟨O2, E2, -⟩
    rw [Nat.zero_add, List.nil_append] at O2
    repeat' (first | refine RunLN.any ?_ | refine RunL.ev Tryd.tOk rfl rfl rfl ?_ | refine RunL.nil ?_)
    exact RunE.retFn Tryd.func83 (.tmp rfl .nil) ⟨O2, a1.ext.write E2 (by intro k hk hlt; simp [Value.ownBlock] at hk; subst hk; have := a1.eq; omega)⟩
theorem open_no (b : Book) (v : Value) (w : World) (hv : LI' w v b.left) (hl : b.left.length < 9223372036854775808) (hr : rtB b = false) :
    RetsX Tryd.prog 49 [.agg (bkV b v).toArray] w (fun _ _ => False) fun ch w' => ch = panOf 27 (.int .i64 410) ∧ Ext w w' := by
  have c1 := fun w h => nright_ok b v w h hl
  rw [hr] at c1
  refine RetsX.of (nt := 13) Tryd.func49 (by kernel_rfl) rfl rfl (by simp) (by simp only [argEnv]; rfl) ?_
  have X := ExtB.refl (fun _ => False) w
  repeat' (first | refine RunE.seq ?_ | refine RunE.region ?_)
  refine RunL.box rfl rfl rfl fun B1 w1_ a_ => ?_
  have Z1 : Blk w1_ B1 (bkV b v) 24 := a_.at_
  have gB1 := a_.ge X
  replace X := X.trans a_.ext
  clear a_
  repeat' (first | refine RunLN.any ?_ | refine RunL.ev Tryd.tOk rfl rfl rfl ?_ | refine RunL.evV rfl rfl rfl (OpV.loadN Tryd.tOk rfl rfl rfl rfl (Blk.row Z1)) ?_ | refine RunE.seq ?_ | refine RunE.region ?_ | refine RunL.nil ?_)
  refine RunL.call rfl rfl rfl (c1 _ (hv.up X)) ?_
  rintro _ _ ⟨rfl, Xa_⟩
  replace X := X.trans Xa_
  clear Xa_
  skip
  exact RunL.callP Tryd.func49 rfl rfl rfl (need_no 410 _) (by rintro ch w' ⟨rfl, rfl⟩; exact ⟨rfl, X⟩) (fun _ _ h => h.elim)
theorem open_ok (b : Book) (v : Value) (w : World) (hv : LI' w v b.left) (hr : rtB b = true) :
    Rets Tryd.prog 49 [.agg (bkV b v).toArray] w fun r w' => ∃ B u, r = .pointer (some ⟨B, 0, none⟩) ∧ Blk w' B (bkV b u) 91 ∧ w.heap.size ≤ B ∧ w'.ownsRow w.heap.size 3 1 u b.left.length (flat intC b.left) ∧ (∀ k, u.ownBlock = some k → k ≠ B) ∧ Ext w w' := by
  have hl := (rtB_inv hr).2.2.2
  have c1 := fun w h => nright_ok b v w h (by omega)
  rw [hr] at c1
  refine RetsX.of (nt := 13) Tryd.func49 (by kernel_rfl) rfl rfl (by simp) (by simp only [argEnv]; rfl) ?_
  have X := ExtB.refl (fun _ => False) w
  repeat' (first | refine RunE.seq ?_ | refine RunE.region ?_)
  refine RunL.box rfl rfl rfl fun B1 w1_ a_ => ?_
  have Z1 : Blk w1_ B1 (bkV b v) 24 := a_.at_
  have gB1 := a_.ge X
  replace X := X.trans a_.ext
  clear a_
  repeat' (first | refine RunLN.any ?_ | refine RunL.ev Tryd.tOk rfl rfl rfl ?_ | refine RunL.evV rfl rfl rfl (OpV.loadN Tryd.tOk rfl rfl rfl rfl (Blk.row Z1)) ?_ | refine RunE.seq ?_ | refine RunE.region ?_ | refine RunL.nil ?_)
  refine RunL.call rfl rfl rfl (c1 _ (hv.up X)) ?_
  rintro _ _ ⟨rfl, Xa_⟩
  replace Z1 := Z1.up Xa_
  replace X := X.trans Xa_
  clear Xa_
  skip
  refine RunL.call rfl rfl rfl (need_ok 410 _) ?_
  rintro _ _ ⟨rfl, rfl⟩
  repeat' (first | refine RunLN.any ?_ | refine RunL.ev Tryd.tOk rfl rfl rfl ?_ | refine RunL.evV rfl rfl rfl (OpV.load1 Tryd.tOk rfl rfl rfl (Blk.cell Z1 rfl)) ?_ | refine RunE.seq ?_ | refine RunE.region ?_ | refine RunL.nil ?_)
  have hB1 := Z1.lt
  have hX := X.size
  refine RunL.call rfl rfl rfl (intClone_ok b.left v _ (hv.up X) (by omega)) ?_
  rintro u w2 ⟨hO, Xa_⟩
  have hge : ∀ k, u.ownBlock = some k → k ≠ B1 := fun k hk => by have := ownsRow_ge hO hk; omega
  have hlt : ∀ k, u.ownBlock = some k → k < w2.heap.size := fun k hk => by
    rcases hO.2 with ⟨rfl, -⟩ | ⟨g, c, cur, rfl, -, hg, -⟩
    · simp [Value.ownBlock] at hk
    · simp [Value.ownBlock] at hk; subst hk; exact lt_of_get hg
  replace hO := ownsRow_base hO hX
  replace Z1 := Z1.up Xa_
  replace X := X.trans Xa_
  clear Xa_
  obtain ⟨du, cu, rfl⟩ := isSl_slice (isSl_own hO)
  repeat' (first | refine RunLN.any ?_ | refine RunL.ev Tryd.tOk rfl rfl rfl ?_)
  refine RunL.store Tryd.tOk rfl rfl rfl rfl rfl Z1 rfl rfl fun w3 t3 => ?_
  replace hO := ownsRow_ext hO t3.ext hge
  replace X := X.own t3.ext gB1
  have hs3 := t3.ext.size
  replace Z1 : Blk w3 B1 (bkV b (.slice du b.left.length cu)) 24 := t3.at_
  clear t3
  repeat' (first | refine RunLN.any ?_ | refine RunL.ev Tryd.tOk rfl rfl rfl ?_ | refine RunL.evV rfl rfl rfl (OpV.loadN Tryd.tOk rfl rfl rfl rfl (Blk.row Z1)) ?_ | refine RunE.seq ?_ | refine RunE.region ?_ | refine RunL.nil ?_)
  refine RunL.box rfl rfl rfl fun B2 w4 a4 => ?_
  have e4 := a4.eq
  have g4 := a4.ge X
  have Z2 : Blk w4 B2 (bkV b (.slice du b.left.length cu)) 91 := a4.at_
  replace hO := ownsRow_ext hO a4.ext (fun _ _ h => h)
  replace X := X.trans a4.ext
  clear a4
  repeat' (first | refine RunLN.any ?_ | refine RunL.ev Tryd.tOk rfl rfl rfl ?_ | refine RunL.nil ?_)
  exact RunE.retFn Tryd.func49 (.tmp rfl .nil) ⟨B2, _, rfl, Z2, g4, hO, fun k hk e => by have := hlt k hk; omega, X⟩
end Go.Sg
end
section
/- Nonces: the numbers of a nonce. -/
namespace Go.Non
open Go.Rn Go.Rec Go.Cod
@[reducible] def rowI (n : Int) : List Value := [.int .i64 1, .int .i64 n, .string ⟨#[]⟩, .slice none 0 0]
theorem encI : EncOk rowI 4 := ⟨fun _ => rfl, fun _ => rfl, by decide⟩
theorem flatI : ∀ l : List Int, flat rowI l = ((l.map CV.int).map rowOf).flatten
  | [] => rfl
  | x :: l => by rw [flat_cons, flatI l]; rfl
theorem list_in {w : World} {l : List Int} {v : Value} (hl : l.length ≤ 100) (hv : IsL w rowI 4 v l) (hb : ∀ x ∈ l, -9223372036854775808 ≤ x ∧ x < 9223372036854775808) :
    (CV.list (l.map CV.int)).In w [.int .i64 3, .int .i64 0, .string ⟨#[]⟩, v] := by
  refine ⟨by simp; omega, _, _, rfl, ?_, ins_rows _ fun c hc => ?_⟩
  · have : IsSl w 4 v l.length (flat rowI l) := hv
    rw [flatI] at this
    simpa using this
  · obtain ⟨x, hx, rfl⟩ := List.mem_map.1 hc
    exact ⟨hb x hx, _, rfl⟩
theorem enc4_le (a b c d : Int) (ha : -9223372036854775808 ≤ a ∧ a < 9223372036854775808) (hb : -9223372036854775808 ≤ b ∧ b < 9223372036854775808) (hc : -9223372036854775808 ≤ c ∧ c < 9223372036854775808) (hd : -9223372036854775808 ≤ d ∧ d < 9223372036854775808) :
    (CV.list [.int a, .int b, .int c, .int d]).enc.length ≤ 900000 := by
  have h1 := num_le _ (zig_lt a ha)
  have h2 := num_le _ (zig_lt b hb)
  have h3 := num_le _ (zig_lt c hc)
  have h4 := num_le _ (zig_lt d hd)
  have h5 := num_le [CV.int a, CV.int b, CV.int c, CV.int d].length (by simp)
  simp only [CV.enc, encs, List.length_cons, List.length_append, List.length_nil] at h5 ⊢
  omega
end Go.Non
namespace Go.Sg
open Go.Rn Go.Proofs Go.Non Go.Rec Go.RowKit Go.Dev Go.Cod Go.Sha Go.NT
attribute [local irreducible] Go.Rn.RetsX Go.Rn.RunLN Go.Rn.AsyN Go.Rn.RunL Go.Rn.RunE Go.Rn.Asy Go.Rn.OpV Go.Rn.OpE Go.Rn.ExecE
/-- One of the numbers, by the closure. -/
theorem numbers1_ok (b : Book) (v : Value) (no which : Int) (B2 B3 Bk : Nat) (w : World) (hb : numsB b = true) (hno : 0 ≤ no ∧ no < 9223372036854775808) (hwh : 0 ≤ which ∧ which < 2)
    (H2 : Blk w B2 [.pointer (some ⟨Bk, 0, none⟩)] 87) (H3 : Blk w B3 [.int .i64 no] 3) (HB : Blk w Bk (bkV b v) 91) (hS : Row w 0 0 (vals init8.l)) (hkT : Row w 1 0 (vals kTab)) :
    Rets Tryd.prog 90 [.int .i64 which, .pointer (some ⟨B2, 0, none⟩), .pointer (some ⟨B3, 0, none⟩)] w fun r w' => r = .int .i64 (numN b.keeper b.seed no which) ∧ Ext w w' := by
  have hb := of_decide_eq_true hb
  refine RetsX.of (nt := 47) Tryd.func90 (by kernel_rfl) rfl rfl (by simp) (by simp only [argEnv]; rfl) ?_
  have X := ExtB.refl (fun _ => False) w
  repeat' (first | refine RunLN.int (by (first | exact wr_i64 (by omega) (by omega) | exact wm_i64 (by omega) | exact wq_i64 (by omega) (by omega) (by omega) | rfl)) ?_ | refine RunLN.any ?_ | refine RunL.ev Tryd.tOk rfl rfl rfl ?_ | refine RunE.seq ?_ | refine RunE.region ?_ | refine RunL.nil ?_)
  refine RunL.alloc Tryd.tOk rfl rfl rfl fun B5 w5_ a_ => ?_
  have Z5 : Blk w5_ B5 ([.int .i64 0, .int .i64 0, .string ⟨#[]⟩, .slice none 0 0]) 83 := a_.at_
  have gB5 := a_.ge X
  replace X := X.trans a_.ext
  clear a_
  skip
  refine RunL.store Tryd.tOk rfl rfl rfl rfl rfl Z5 rfl rfl fun w_ t_ => ?_
  replace X := X.own t_.ext gB5
  replace Z5 : Blk w_ B5 ([.int .i64 3, .int .i64 0, .string ⟨#[]⟩, .slice none 0 0]) 83 := t_.at_
  clear t_
  repeat' (first | refine RunE.seq ?_ | refine RunL.nil ?_)
  have Y2 := H2.up X
  have Y3 := H3.up X
  have YB := HB.up X
  refine RunE.draw (fun _ => False) mix ?_
  intro wd_ Xd_
  repeat' (first | refine AsyN.int (by (first | exact wr_i64 (by omega) (by omega) | exact wm_i64 (by omega) | exact wq_i64 (by omega) (by omega) (by omega) | rfl)) ?_ | refine AsyN.any ?_ | refine Asy.ev Tryd.tOk rfl rfl rfl ?_ | refine Asy.evV rfl rfl rfl rfl (fun _ X_ => OpV.load1 Tryd.tOk rfl rfl rfl (Blk.cell (Y2.up (Xd_.trans X_)) rfl)) ?_ | refine Asy.evV rfl rfl rfl rfl (fun _ X_ => OpV.load1 Tryd.tOk rfl rfl rfl (Blk.cell (Y3.up (Xd_.trans X_)) rfl)) ?_ | refine Asy.evV rfl rfl rfl rfl (fun _ X_ => OpV.load1 Tryd.tOk rfl rfl rfl (Blk.cell (YB.up (Xd_.trans X_)) rfl)) ?_)
  refine Asy.end_ (by kernel_rfl) ?_
  intro we_ Xe_
  replace X := X.trans (Xd_.trans Xe_)
  replace Z5 := Z5.up (Xd_.trans Xe_)
  clear Xd_ Xe_ Y2 Y3 YB
  repeat' (first | refine RunL.nil ?_ | refine RunE.block ?_)
  refine RunE.loop (ι := Nat × Value) (fun s => [(0, .int .i64 which), (5, .pointer (some ⟨B5, 0, none⟩)), (23, .agg #[.int .i64 b.keeper, .int .i64 b.seed, .int .i64 no, .int .i64 which]), (24, .int .i64 (s.1 : Int))])
    (fun s w' => s.1 ≤ 4 ∧ w'.ownsRow w.heap.size 83 4 s.2 ([b.keeper, b.seed, no, which].take s.1).length (flat rowI ([b.keeper, b.seed, no, which].take s.1)) ∧ (∀ k, s.2.ownBlock = some k → k ≠ B5) ∧ Ext w w' ∧ Blk w' B5 [.int .i64 3, .int .i64 0, .string ⟨#[]⟩, s.2] 83) (fun s => 4 - s.1) (0, .slice none 0 0) (by repeat (first | exact Sub.nil _ | refine Sub.cons rfl ?_))
    ⟨Nat.zero_le _, World.ownsRow_nil _ _ _ _, fun k hk => by simp [Value.ownBlock] at hk, X, Z5⟩ ?_
  clear X Z5
  rintro ⟨i, u⟩ w3 ⟨hi, hO, hne, X, Z5⟩ again
  simp only at hi hO hne Z5 again ⊢
  by_cases hlt : i < 4
  · obtain ⟨x, hx⟩ : ∃ x, [b.keeper, b.seed, no, which][i]? = some x := ⟨_, List.getElem?_eq_getElem (by simpa using hlt)⟩
    have hix : [Value.int .i64 b.keeper, .int .i64 b.seed, .int .i64 no, .int .i64 which][i * 1]? = some (.int .i64 x) := by
      rw [Nat.mul_one]
      rcases i with _ | _ | _ | _ | i
      · simp at hx; simp [hx]
      · simp at hx; simp [hx]
      · simp at hx; simp [hx]
      · simp at hx; simp [hx]
      · omega
    have e1 : [b.keeper, b.seed, no, which].take (i + 1) = [b.keeper, b.seed, no, which].take i ++ [x] := by rw [List.take_add_one, hx]; rfl
    have hfl : ([b.keeper, b.seed, no, which].take i).length ≤ 4 := by simp; omega
    have next : ∀ (u' : Value) w', _ → _ → _ → _ → _ := fun u' w' a b c d => again (i + 1, u') w' (by simp only; omega) ⟨by simp only; omega, a, b, c, d⟩
    simp only [e1] at next
    clear again e1
    generalize [b.keeper, b.seed, no, which].take i = f at hO next hfl
    repeat' (first | (with_reducible refine RunLN.decT ?_ ?_; focus omega) | refine RunL.ev Tryd.tOk rfl rfl rfl ?_ | refine RunE.condT rfl rfl ?_ | refine RunE.seq ?_ | refine RunE.region ?_ | refine RunL.nil ?_ | refine RunE.block ?_ | refine RunE.skip ?_)
    refine RunL.evV rfl rfl rfl (OpV.indexV Tryd.tOk i rfl rfl rfl rfl (by omega) hix) ?_
    obtain ⟨du, cu, rfl⟩ := isSl_slice (isSl_own hO)
    repeat' (first | refine RunLN.int (by (first | exact wr_i64 (by omega) (by omega) | exact wm_i64 (by omega) | exact wq_i64 (by omega) (by omega) (by omega) | rfl)) ?_ | refine RunLN.any ?_ | refine RunL.ev Tryd.tOk rfl rfl rfl ?_ | refine RunL.evV rfl rfl rfl (OpV.load1 Tryd.tOk rfl rfl rfl (Blk.cell Z5 rfl)) ?_ | refine RunE.region ?_ | refine RunL.nil ?_)
    refine RunL.ex rfl rfl rfl (OpE.buildSl Tryd.tOk [.agg (rowI x).toArray] rfl rfl rfl rfl rfl rfl (by simp [Value.cells])) ?_
    rintro _ u4 ⟨B, rfl, a4⟩
    have hx1 : IsL u4 rowI 4 (.slice (some ⟨B, 0, none⟩) 1 1) [x] := by
      have := isSl_added (n := 1) (sz := 4) a4 rfl
      simpa [IsL, flat, cellsAll, Value.cells] using this
    replace hO := ownsRow_ext hO a4.ext (fun _ _ h => h)
    replace X := X.trans a4.ext
    replace Z5 := Z5.up a4.ext
    have l5 := Z5.lt
    clear a4
    skip
    refine RunL.ex rfl rfl rfl (OpE.append' Tryd.tOk rfl rfl rfl rfl rfl rfl hO hx1 (flat_plain encI [x]) (by show _ * 56 ≤ _; simp only [List.length_singleton]; omega) (by simp only [List.length_singleton]; omega) X.size) ?_
    rintro u' u5 ⟨O5, E5, hown⟩
    have hne5 : ∀ k, u'.ownBlock = some k → k ≠ B5 := fun k hk e => hne _ (hown _ hk (by omega)) e
    replace X : Ext w u5 := X.write E5 (by intro k hk hlt; have := ownsRow_ge hO hk; omega)
    replace Z5 := Z5.ext E5 (fun h => hne _ h rfl)
    clear E5 hown hx1 hO
    obtain ⟨b5, o5, c5, rfl, -, -, -⟩ := (isSl_own O5).held (by simp only [List.length_singleton]; omega)
    repeat' (first | refine RunLN.any ?_ | refine RunL.ev Tryd.tOk rfl rfl rfl ?_)
    refine RunL.store Tryd.tOk rfl rfl rfl rfl rfl Z5 rfl rfl fun w6 t6 => ?_
    replace O5 := ownsRow_ext O5 t6.ext hne5
    replace X := X.own t6.ext gB5
    replace Z5 : Blk w6 B5 [.int .i64 3, .int .i64 0, .string ⟨#[]⟩, .slice (some ⟨b5, o5, none⟩) (f.length + [x].length) c5] 83 := t6.at_
    clear t6
    repeat' (first | refine RunLN.int (by (first | exact wr_i64 (by omega) (by omega) | exact wm_i64 (by omega) | exact wq_i64 (by omega) (by omega) (by omega) | rfl)) ?_ | refine RunL.ev Tryd.tOk rfl rfl rfl ?_ | refine RunE.region ?_ | refine RunL.nil ?_ | refine RunE.inBlock ?_)
    exact RunE.weaken (by repeat (first | exact Sub.nil _ | refine Sub.cons rfl ?_)) (next _ _ (by rw [List.length_append, flat_append]; exact O5) hne5 X Z5)
  · obtain rfl : i = 4 := by omega
    have hO' : IsL w3 rowI 4 u [b.keeper, b.seed, no, which] := isSl_own hO
    obtain ⟨du, cu, rfl⟩ := isSl_slice hO'
    have hin := list_in (by simp) hO' (fun x hx => by
      simp only [List.mem_cons, List.not_mem_nil, or_false] at hx
      omega)
    have hle := enc4_le b.keeper b.seed no which (by omega) (by omega) (by omega) (by omega)
    clear again hO hO'
    repeat' (first | with_reducible refine RunLN.boolF rfl ?_ | refine RunLN.any ?_ | refine RunL.ev Tryd.tOk rfl rfl rfl ?_ | refine RunL.evV rfl rfl rfl (OpV.loadN Tryd.tOk rfl rfl rfl rfl (Blk.row Z5)) ?_ | refine RunE.condF rfl rfl ?_ | refine RunE.seq ?_ | refine RunE.region ?_ | refine RunL.nil ?_ | refine RunE.exit rfl ?_)
    refine RunL.call rfl rfl rfl (encode_ok _ _ _ hin (by simp [CV.depth, depths]) (by simp only [List.map_cons, List.map_nil]; omega)) ?_
    rintro _ w6 ⟨r, rfl, O6, Xa⟩
    replace X := X.trans Xa
    clear Xa hin
    have hr6 := isSl_own O6
    clear O6
    repeat' (first | with_reducible refine RunLN.boolT rfl ?_ | refine RunLN.int (by (first | exact wr_i64 (by omega) (by omega) | exact wm_i64 (by omega) | exact wq_i64 (by omega) (by omega) (by omega) | rfl)) ?_ | refine RunLN.any ?_ | refine RunL.ev Tryd.tOk rfl rfl rfl ?_ | refine RunE.seq ?_ | refine RunE.region ?_ | refine RunL.nil ?_)
    refine RunL.call rfl rfl rfl (need_ok 0 _) ?_
    rintro _ _ ⟨rfl, rfl⟩
    repeat' (first | refine RunLN.any ?_ | refine RunL.ev Tryd.tOk rfl rfl rfl ?_ | refine RunE.seq ?_ | refine RunE.region ?_ | refine RunL.nil ?_)
    refine RunL.call rfl rfl rfl (hash_ok ⟨#[110, 111, 110, 99, 101]⟩ r _ _ (by decide) hr6 hle (hS.up X) (hkT.up X)) ?_
    rintro _ w7 ⟨rfl, Xa⟩
    replace X := X.trans Xa
    clear Xa
    show RunL _ _ _ _ _ _ _ _ ((45, .int .i64 (hshN b.keeper b.seed no which)) :: _) _
    have hnn : numN b.keeper b.seed no which = if hshN b.keeper b.seed no which > (1 : Int) then hshN b.keeper b.seed no which else 1 := rfl
    rw [hnn]
    generalize hshN b.keeper b.seed no which = h0
    repeat' (first | refine RunLN.int (by (first | exact wr_i64 (by omega) (by omega) | exact wm_i64 (by omega) | exact wq_i64 (by omega) (by omega) (by omega) | rfl)) ?_ | refine RunL.ev Tryd.tOk rfl rfl rfl ?_ | refine RunL.nil ?_)
    exact RunE.retFn Tryd.func90 (.tmp rfl .nil) ⟨rfl, X⟩
end Go.Sg
end
section
/- Nonces: numbers of a nonce, by the code and by the reference. -/
namespace Go.Sg
open Go.Rn Go.Proofs Go.Non Go.Rec Go.RowKit Go.Dev Go.Cod Go.Sha Go.NT
attribute [local irreducible] Go.Rn.RetsX Go.Rn.RunLN Go.Rn.AsyN Go.Rn.RunL Go.Rn.RunE Go.Rn.Asy Go.Rn.OpV Go.Rn.OpE Go.Rn.ExecE
theorem bnumbers_ok (b : Book) (v : Value) (no : Int) (Bk : Nat) (w : World) (hb : numsB b = true) (hno : 0 ≤ no ∧ no < 9223372036854775808)
    (HB : Blk w Bk (bkV b v) 91) (hS : Row w 0 0 (vals init8.l)) (hkT : Row w 1 0 (vals kTab)) :
    Rets Tryd.prog 56 [.pointer (some ⟨Bk, 0, none⟩), .int .i64 no] w fun r w' => r = .agg #[.int .i64 (numN b.keeper b.seed no 0), .int .i64 (numN b.keeper b.seed no 1)] ∧ Ext w w' := by
  have c := fun which B2 B3 w h h2 h3 h4 h5 h6 => numbers1_ok b v no which B2 B3 Bk w hb hno h h2 h3 h4 h5 h6
  refine RetsX.of (nt := 12) Tryd.func56 (by kernel_rfl) rfl rfl (by simp) (by simp only [argEnv]; rfl) ?_
  have X := ExtB.refl (fun _ => False) w
  repeat' (first | refine RunE.seq ?_ | refine RunE.region ?_)
  refine RunL.box rfl rfl rfl fun B2 w2_ a_ => ?_
  have Z2 : Blk w2_ B2 ([.pointer (some ⟨Bk, 0, none⟩)]) 87 := a_.at_
  have gB2 := a_.ge X
  replace X := X.trans a_.ext
  clear a_
  skip
  refine RunL.box rfl rfl rfl fun B3 w3_ a_ => ?_
  have Z3 : Blk w3_ B3 ([.int .i64 no]) 3 := a_.at_
  have gB3 := a_.ge X
  have n2_3 : B2 ≠ B3 := by have := Z2.lt; have := a_.eq; omega
  have n3_2 : B3 ≠ B2 := Ne.symm n2_3
  replace Z2 := Z2.up a_.ext
  replace X := X.trans a_.ext
  clear a_
  skip
  refine RunL.alloc Tryd.tOk rfl rfl rfl fun B4 w4_ a_ => ?_
  have Z4 : Blk w4_ B4 ([.int .i64 0, .int .i64 0]) 100 := a_.at_
  have gB4 := a_.ge X
  have n2_4 : B2 ≠ B4 := by have := Z2.lt; have := a_.eq; omega
  have n4_2 : B4 ≠ B2 := Ne.symm n2_4
  have n3_4 : B3 ≠ B4 := by have := Z3.lt; have := a_.eq; omega
  have n4_3 : B4 ≠ B3 := Ne.symm n3_4
  replace Z2 := Z2.up a_.ext
  replace Z3 := Z3.up a_.ext
  replace X := X.trans a_.ext
  clear a_
  repeat' (first | refine RunLN.any ?_ | refine RunL.ev Tryd.tOk rfl rfl rfl ?_ | refine RunE.seq ?_ | refine RunE.region ?_ | refine RunL.nil ?_)
  refine RunL.ex rfl rfl rfl (OpE.callV rfl rfl (RetsX.v (fi := []) (args := [.int .i64 0]) (ca := [.pointer (some ⟨B2, 0, none⟩), .pointer (some ⟨B3, 0, none⟩)]) (c 0 B2 B3 _ (by decide) Z2 Z3 (HB.up X) (hS.up X) (hkT.up X)))) ?_
  rintro _ w5 ⟨rfl, Xa_⟩
  replace Z2 := Z2.up Xa_
  replace Z3 := Z3.up Xa_
  replace Z4 := Z4.up Xa_
  replace X := X.trans Xa_
  clear Xa_
  repeat' (first | refine RunLN.any ?_ | refine RunL.ev Tryd.tOk rfl rfl rfl ?_)
  refine RunL.ex rfl rfl rfl (OpE.callV rfl rfl (RetsX.v (fi := []) (args := [.int .i64 1]) (ca := [.pointer (some ⟨B2, 0, none⟩), .pointer (some ⟨B3, 0, none⟩)]) (c 1 B2 B3 _ (by decide) Z2 Z3 (HB.up X) (hS.up X) (hkT.up X)))) ?_
  rintro _ w6 ⟨rfl, Xa_⟩
  replace Z4 := Z4.up Xa_
  replace X := X.trans Xa_
  clear Xa_ c Z2 Z3
  generalize numN b.keeper b.seed no 0 = n0
  generalize numN b.keeper b.seed no 1 = n1
  repeat' (first | refine RunLN.any ?_ | refine RunL.ev Tryd.tOk rfl rfl rfl ?_)
  refine RunL.store Tryd.tOk rfl rfl rfl rfl rfl Z4 rfl rfl fun w7 t7 => ?_
  replace X := X.own t7.ext gB4
  have Z4 : Blk w7 B4 [.int .i64 n0, .int .i64 n1] 100 := t7.at_
  repeat' (first | refine RunL.nil ?_)
  exact RunE.retFn Tryd.func56 (.cell rfl (.agg Tryd.tOk rfl rfl rfl Z4.row) .nil) ⟨rfl, X⟩
theorem rints_ok (l : List Int) (u : Value) (w : World) (hu : LI' w u l) (hl : l.length ≤ 100) :
    Rets Tryd.prog 115 [u] w fun r w' => (∃ d c, r = .agg #[.int .i64 3, .int .i64 0, .string ⟨#[]⟩, .slice d l.length c] ∧ IsL w' rowI 4 (.slice d l.length c) l) ∧ Ext w w' := by
  refine RetsX.of (nt := 23) Tryd.func115 (by kernel_rfl) rfl rfl (by simp) (by simp only [argEnv]; rfl) ?_
  have X := ExtB.refl (fun _ => False) w
  repeat' (first | refine RunE.seq ?_ | refine RunE.region ?_)
  refine RunL.alloc Tryd.tOk rfl rfl rfl fun B2 w2_ a_ => ?_
  have Z2 : Blk w2_ B2 ([.int .i64 0, .int .i64 0, .string ⟨#[]⟩, .slice none 0 0]) 83 := a_.at_
  have gB2 := a_.ge X
  replace X := X.trans a_.ext
  clear a_
  repeat' (first | refine RunLN.any ?_ | refine RunL.ev Tryd.tOk rfl rfl rfl ?_ | refine RunE.seq ?_ | refine RunE.region ?_ | refine RunL.nil ?_)
  refine RunL.alloc Tryd.tOk rfl rfl rfl fun B3 w3_ a_ => ?_
  have Z3 : Blk w3_ B3 ([.int .i64 0, .int .i64 0, .string ⟨#[]⟩, .slice none 0 0]) 83 := a_.at_
  have gB3 := a_.ge X
  have n2_3 : B2 ≠ B3 := by have := Z2.lt; have := a_.eq; omega
  have n3_2 : B3 ≠ B2 := Ne.symm n2_3
  replace Z2 := Z2.up a_.ext
  replace X := X.trans a_.ext
  clear a_
  skip
  refine RunL.store Tryd.tOk rfl rfl rfl rfl rfl Z3 rfl rfl fun w_ t_ => ?_
  replace X := X.own t_.ext gB3
  replace Z2 := Z2.other t_.ext n2_3
  replace Z3 : Blk w_ B3 ([.int .i64 3, .int .i64 0, .string ⟨#[]⟩, .slice none 0 0]) 83 := t_.at_
  clear t_
  repeat' (first | refine RunLN.int (by (first | exact wr_i64 (by omega) (by omega) | exact wm_i64 (by omega) | exact wq_i64 (by omega) (by omega) (by omega) | rfl)) ?_ | refine RunL.ev Tryd.tOk rfl rfl rfl ?_ | refine RunE.seq ?_ | refine RunE.region ?_ | refine RunL.nil ?_ | refine RunE.block ?_)
  refine RunE.loop (ι := Nat × Value) (fun s => [(0, u), (2, .pointer (some ⟨B2, 0, none⟩)), (3, .pointer (some ⟨B3, 0, none⟩)), (4, .int .i64 (s.1 : Int))])
    (fun s w' => s.1 ≤ l.length ∧ w'.ownsRow w.heap.size 83 4 s.2 (l.take s.1).length (flat rowI (l.take s.1)) ∧ (∀ k, s.2.ownBlock = some k → k ≠ B2 ∧ k ≠ B3) ∧ Ext w w' ∧ Blk w' B2 [.int .i64 0, .int .i64 0, .string ⟨#[]⟩, .slice none 0 0] 83 ∧ Blk w' B3 [.int .i64 3, .int .i64 0, .string ⟨#[]⟩, s.2] 83) (fun s => l.length - s.1) (0, .slice none 0 0) (by repeat (first | exact Sub.nil _ | refine Sub.cons rfl ?_))
    ⟨Nat.zero_le _, World.ownsRow_nil _ _ _ _, fun k hk => by simp [Value.ownBlock] at hk, X, Z2, Z3⟩ ?_
  clear X Z2 Z3
  rintro ⟨i, y⟩ w3 ⟨hi, hO, hne, X, Z2, Z3⟩ again
  simp only at hi hO hne Z2 Z3 again ⊢
  by_cases hlt : i < l.length
  · obtain ⟨b1, o1, c1, rfl, hr1, -⟩ := isL_held hu hlt
    obtain ⟨x, hx⟩ : ∃ x, l[i]? = some x := ⟨_, List.getElem?_eq_getElem hlt⟩
    have hrx := flat_row encT hr1 hx
    have e1 : l.take (i + 1) = l.take i ++ [x] := by rw [List.take_add_one, hx]; rfl
    have hfl : (l.take i).length ≤ 100 := by simp; omega
    have next : ∀ (u' : Value) w', _ → _ → _ → _ → _ → _ := fun u' w' a b c d e => again (i + 1, u') w' (by simp only; omega) ⟨by simp only; omega, a, b, c, d, e⟩
    simp only [e1] at next
    clear again e1
    generalize l.take i = f at hO next hfl
    obtain ⟨dy, cy, rfl⟩ := isSl_slice (isSl_own hO)
    repeat' (first | (with_reducible refine RunLN.decT ?_ ?_; focus omega) | refine RunLN.int (by (first | exact wr_i64 (by omega) (by omega) | exact wm_i64 (by omega) | exact wq_i64 (by omega) (by omega) (by omega) | rfl)) ?_ | refine RunLN.any ?_ | refine RunL.ev Tryd.tOk rfl rfl rfl ?_ | refine RunE.condT rfl rfl ?_ | refine RunE.seq ?_ | refine RunE.region ?_ | refine RunL.nil ?_ | refine RunE.block ?_ | refine RunE.skip ?_)
    refine RunE.draw (fun _ => False) mix ?_
    intro wd_ Xd_
    repeat' (first | refine AsyN.int (by (first | exact wr_i64 (by omega) (by omega) | exact wm_i64 (by omega) | exact wq_i64 (by omega) (by omega) (by omega) | rfl)) ?_ | refine AsyN.any ?_ | refine Asy.ev Tryd.tOk rfl rfl rfl ?_ | refine Asy.evV rfl rfl rfl rfl (fun _ X_ => OpV.load1 Tryd.tOk rfl rfl rfl (Blk.cell (Z3.up (Xd_.trans X_)) rfl)) ?_ | refine Asy.evV rfl rfl rfl rfl (fun _ X_ => OpV.load1 Tryd.tOk rfl rfl rfl ((hrx.up (X.trans (Xd_.trans X_))) 0 _ rfl)) ?_ | refine Asy.callN rfl rfl rfl (fun _ _ => (rint_ok _ _)) ?_ | refine Asy.evV rfl rfl rfl rfl (fun _ X_ => OpV.indexS Tryd.tOk _ rfl rfl rfl rfl (by omega)) ?_)
    refine Asy.sat0 (fun u w' => ∃ B, u = .slice (some ⟨B, 0, none⟩) 1 1 ∧ IsL w' rowI 4 u [x]) rfl rfl rfl rfl (fun u w' w'' _ e h => ?_) (fun w' _ => ?_) ?_
    · obtain ⟨B, h1, h2⟩ := h; exact ⟨B, h1, h2.up e⟩
    · refine OpE.mono (OpE.buildSl Tryd.tOk [.agg (rowI x).toArray] rfl rfl rfl rfl rfl rfl (by simp [Value.cells])) ?_ fun _ _ h => h
      rintro _ w'' ⟨B, rfl, a⟩
      refine ⟨a.ext, B, rfl, ?_⟩
      have := isSl_added (n := 1) (sz := 4) a rfl
      simpa [IsL, flat, cellsAll, Value.cells] using this
    refine Asy.tail (by kernel_rfl) ?_
    intro we_ Xe_
    simp only [satsAll]
    rintro _ ⟨B, rfl, hx1⟩
    replace Xe_ := Xd_.trans Xe_
    clear Xd_
    replace hO := ownsRow_ext hO Xe_ (fun _ _ h => h)
    replace X := X.trans Xe_
    replace Z2 := Z2.up Xe_
    replace Z3 := Z3.up Xe_
    have l2 := Z2.lt
    have l3 := Z3.lt
    clear Xe_
    refine RunL.ex rfl rfl rfl (OpE.append' Tryd.tOk rfl rfl rfl rfl rfl rfl hO hx1 (flat_plain encI [x]) (by show _ * 56 ≤ _; simp only [List.length_singleton]; omega) (by simp only [List.length_singleton]; omega) X.size) ?_
    rintro u' u5 ⟨O5, E5, hown⟩
    have hne5 : ∀ k, u'.ownBlock = some k → k ≠ B2 ∧ k ≠ B3 := fun k hk => ⟨fun e => (hne _ (hown _ hk (by omega))).1 e, fun e => (hne _ (hown _ hk (by omega))).2 e⟩
    replace X : Ext w u5 := X.write E5 (by intro k hk hlt; have := ownsRow_ge hO hk; omega)
    replace Z2 := Z2.ext E5 (fun h => (hne _ h).1 rfl)
    replace Z3 := Z3.ext E5 (fun h => (hne _ h).2 rfl)
    clear E5 hown hx1 hO
    obtain ⟨b5, o5, c5, rfl, -, -, -⟩ := (isSl_own O5).held (by simp only [List.length_singleton]; omega)
    repeat' (first | refine RunLN.any ?_ | refine RunL.ev Tryd.tOk rfl rfl rfl ?_)
    refine RunL.store Tryd.tOk rfl rfl rfl rfl rfl Z3 rfl rfl fun w6 t6 => ?_
    replace O5 := ownsRow_ext O5 t6.ext (fun k hk => (hne5 k hk).2)
    replace X := X.own t6.ext gB3
    replace Z2 := Z2.other t6.ext n2_3
    replace Z3 : Blk w6 B3 [.int .i64 3, .int .i64 0, .string ⟨#[]⟩, .slice (some ⟨b5, o5, none⟩) (f.length + [x].length) c5] 83 := t6.at_
    clear t6
    repeat' (first | refine RunLN.int (by (first | exact wr_i64 (by omega) (by omega) | exact wm_i64 (by omega) | exact wq_i64 (by omega) (by omega) (by omega) | rfl)) ?_ | refine RunL.ev Tryd.tOk rfl rfl rfl ?_ | refine RunE.region ?_ | refine RunL.nil ?_ | refine RunE.inBlock ?_)
    exact RunE.weaken (by repeat (first | exact Sub.nil _ | refine Sub.cons rfl ?_)) (next _ _ (by rw [List.length_append, flat_append]; exact O5) hne5 X Z2 Z3)
  · obtain rfl : i = l.length := by omega
    rw [List.take_length] at hO
    obtain ⟨dy, cy, rfl⟩ := isSl_slice (isSl_own hO)
    clear again
    repeat' (first | (with_reducible refine RunLN.decF ?_ ?_; focus omega) | refine RunLN.int (by (first | exact wr_i64 (by omega) (by omega) | exact wm_i64 (by omega) | exact wq_i64 (by omega) (by omega) (by omega) | rfl)) ?_ | refine RunLN.any ?_ | refine RunL.ev Tryd.tOk rfl rfl rfl ?_ | refine RunL.evV rfl rfl rfl (OpV.lenSl Tryd.tOk rfl rfl hu) ?_ | refine RunL.evV rfl rfl rfl (OpV.loadN Tryd.tOk rfl rfl rfl rfl (Blk.row Z3)) ?_ | refine RunE.condF rfl rfl ?_ | refine RunE.seq ?_ | refine RunE.region ?_ | refine RunL.nil ?_ | refine RunE.exit rfl ?_)
    refine RunL.store Tryd.tOk rfl rfl rfl rfl rfl Z2 rfl rfl fun w6 t6 => ?_
    replace hO := ownsRow_ext hO t6.ext (fun k hk => (hne k hk).1)
    replace X := X.own t6.ext gB2
    replace Z2 : Blk w6 B2 [.int .i64 3, .int .i64 0, .string ⟨#[]⟩, .slice dy l.length cy] 83 := t6.at_
    repeat' (first | refine RunL.nil ?_)
    exact RunE.retFn Tryd.func115 (.cell rfl (.agg Tryd.tOk rfl rfl rfl Z2.row) .nil) ⟨⟨dy, cy, rfl, isSl_own hO⟩, X⟩
theorem rnumber_ok (k s no which : Int) (w : World) (hk : 0 ≤ k ∧ k < 64) (hs : 0 ≤ s ∧ s ≤ 1099511627776) (hno : 0 ≤ no ∧ no < 9223372036854775808) (hwh : 0 ≤ which ∧ which < 2) :
    Rets Tryd.prog 91 [.int .i64 k, .int .i64 s, .int .i64 no, .int .i64 which] w fun r w' => r = .int .i64 (numN k s no which) ∧ Ext w w' := by
  refine RetsX.of (nt := 24) Tryd.func91 (by kernel_rfl) rfl rfl (by simp) (by simp only [argEnv]; rfl) ?_
  have X := ExtB.refl (fun _ => False) w
  repeat' (first | refine RunLN.int (by (first | exact wr_i64 (by omega) (by omega) | exact wm_i64 (by omega) | exact wq_i64 (by omega) (by omega) (by omega) | rfl)) ?_ | refine RunL.ev Tryd.tOk rfl rfl rfl ?_ | refine RunE.seq ?_ | refine RunE.region ?_ | refine RunL.nil ?_)
  refine RunL.ex rfl rfl rfl (OpE.buildSl Tryd.tOk [.int .i64 k, .int .i64 s, .int .i64 no, .int .i64 which] rfl rfl rfl rfl rfl rfl (by simp [Value.cells])) ?_
  rintro _ w_ ⟨B_, rfl, a_⟩
  have hl : LI' w_ (.slice (some ⟨B_, 0, none⟩) 4 4) [k, s, no, which] := (isSl_added (n := 4) (sz := 1) a_ rfl)
  replace X := X.trans a_.ext
  clear a_
  skip
  refine RunL.call rfl rfl rfl (rints_ok [k, s, no, which] _ _ hl (by simp)) ?_
  rintro _ w5 ⟨⟨d, c, rfl, h5⟩, Xa_⟩
  replace X := X.trans Xa_
  clear Xa_ hl
  have hin := list_in (by simp) h5 (fun x hx => by
    simp only [List.mem_cons, List.not_mem_nil, or_false] at hx
    omega)
  have hle := enc4_le k s no which (by omega) (by omega) (by omega) (by omega)
  skip
  refine RunL.call rfl rfl rfl (rEncode_ok _ _ _ hin (by simp [CV.depth, depths]) (by simp only [List.map_cons, List.map_nil]; omega)) ?_
  rintro _ w6 ⟨r, rfl, O6, Xa⟩
  replace X := X.trans Xa
  clear Xa hin
  have hr6 := isSl_own O6
  clear O6
  repeat' (first | refine RunLN.int (by (first | exact wr_i64 (by omega) (by omega) | exact wm_i64 (by omega) | exact wq_i64 (by omega) (by omega) (by omega) | rfl)) ?_ | refine RunLN.any ?_ | refine RunL.ev Tryd.tOk rfl rfl rfl ?_ | refine RunE.seq ?_ | refine RunE.region ?_ | refine RunL.nil ?_)
  refine RunL.call rfl rfl rfl (rhash_ok ⟨#[110, 111, 110, 99, 101]⟩ r _ _ (by decide) hr6 hle) ?_
  rintro _ w7 ⟨rfl, Xa⟩
  replace X := X.trans Xa
  clear Xa
  show RunL _ _ _ _ _ _ _ _ ((22, .int .i64 (hshN k s no which)) :: _) _
  have hnn : numN k s no which = if hshN k s no which > (1 : Int) then hshN k s no which else 1 := rfl
  rw [hnn]
  generalize hshN k s no which = h0
  repeat' (first | refine RunLN.int (by (first | exact wr_i64 (by omega) (by omega) | exact wm_i64 (by omega) | exact wq_i64 (by omega) (by omega) (by omega) | rfl)) ?_ | refine RunL.ev Tryd.tOk rfl rfl rfl ?_ | refine RunL.nil ?_)
  exact RunE.retFn Tryd.func91 (.tmp rfl .nil) ⟨rfl, X⟩
theorem rnumbers_ok (k s no : Int) (w : World) (hk : 0 ≤ k ∧ k < 64) (hs : 0 ≤ s ∧ s ≤ 1099511627776) (hno : 0 ≤ no ∧ no < 9223372036854775808) :
    Rets Tryd.prog 57 [.int .i64 k, .int .i64 s, .int .i64 no] w fun r w' => r = .tuple #[.int .i64 (numN k s no 0), .int .i64 (numN k s no 1)] ∧ Ext w w' := by
  have c := fun which w h => rnumber_ok k s no which w hk hs hno h
  refine RetsX.of (nt := 16) Tryd.func57 (by kernel_rfl) rfl rfl (by simp) (by simp only [argEnv]; rfl) ?_
  have X := ExtB.refl (fun _ => False) w
  repeat' (first | refine RunLN.int (by (first | exact wr_i64 (by omega) (by omega) | exact wm_i64 (by omega) | exact wq_i64 (by omega) (by omega) (by omega) | rfl)) ?_ | refine RunL.ev Tryd.tOk rfl rfl rfl ?_ | refine RunE.seq ?_ | refine RunE.region ?_ | refine RunL.nil ?_)
  refine RunL.call rfl rfl rfl (c 0 _ (by decide)) ?_
  rintro _ _ ⟨rfl, Xa_⟩
  replace X := X.trans Xa_
  clear Xa_
  repeat' (first | refine RunLN.int (by (first | exact wr_i64 (by omega) (by omega) | exact wm_i64 (by omega) | exact wq_i64 (by omega) (by omega) (by omega) | rfl)) ?_ | refine RunL.ev Tryd.tOk rfl rfl rfl ?_)
  refine RunL.call rfl rfl rfl (c 1 _ (by decide)) ?_
  rintro _ _ ⟨rfl, Xa_⟩
  replace X := X.trans Xa_
  clear Xa_
  generalize numN k s no 0 = n0
  generalize numN k s no 1 = n1
  repeat' (first | refine RunLN.int (by (first | exact wr_i64 (by omega) (by omega) | exact wm_i64 (by omega) | exact wq_i64 (by omega) (by omega) (by omega) | rfl)) ?_ | refine RunL.ev Tryd.tOk rfl rfl rfl ?_ | refine RunL.nil ?_)
  exact RunE.retFn Tryd.func57 (.tmp rfl (.tmp rfl .nil)) ⟨rfl, X⟩
end Go.Sg
end
section
/- Nonces: pairs; comparing; few. -/
namespace Go.Non
open Go.Rn Go.Rec
@[reducible] def Pr.cells (p : Pr) : List Value := [.int .i64 p.keeper, .int .i64 p.no, .int .i64 p.d, .int .i64 p.e]
theorem encP : EncOk Pr.cells 4 := ⟨fun _ => rfl, fun _ => rfl, by decide⟩
abbrev LP (w : World) (v : Value) (l : List Pr) : Prop := IsL w Pr.cells 4 v l
end Go.Non
namespace Go.Sg
open Go.Rn Go.Proofs Go.Non Go.Rec Go.RowKit Go.Dev Go.Cod Go.Sha Go.NT Go.Best
attribute [local irreducible] Go.Rn.RetsX Go.Rn.RunLN Go.Rn.AsyN Go.Rn.RunL Go.Rn.RunE Go.Rn.Asy Go.Rn.OpV Go.Rn.OpE Go.Rn.ExecE
theorem rpairOf_ok (k s no : Int) (w : World) (hk : 0 ≤ k ∧ k < 64) (hs : 0 ≤ s ∧ s ≤ 1099511627776) (hno : 0 ≤ no ∧ no < 9223372036854775808) :
    Rets Tryd.prog 53 [.int .i64 k, .int .i64 s, .int .i64 no] w fun r w' => r = .agg (pairN k s no).cells.toArray ∧ Ext w w' := by
  have c := fun w => rnumbers_ok k s no w hk hs hno
  have c1 := fun w => r10_pow_ok 4 (numN k s no 0) w
  have c2 := fun w => r10_pow_ok 4 (numN k s no 1) w
  unfold pairN
  generalize powC 4 (numN k s no 0) = p0 at *
  generalize powC 4 (numN k s no 1) = p1 at *
  generalize numN k s no 0 = n0 at *
  generalize numN k s no 1 = n1 at *
  generalize grpE (validS 4) = ge at *
  refine RetsX.of (nt := 35) Tryd.func53 (by kernel_rfl) rfl rfl (by simp) (by simp only [argEnv]; rfl) ?_
  have X := ExtB.refl (fun _ => False) w
  repeat' (first | refine RunE.seq ?_ | refine RunE.region ?_)
  refine RunL.alloc Tryd.tOk rfl rfl rfl fun B6 w6_ a_ => ?_
  have Z6 : Blk w6_ B6 ([.int .i64 0, .int .i64 0, .int .i64 0, .int .i64 0]) 46 := a_.at_
  have gB6 := a_.ge X
  replace X := X.trans a_.ext
  clear a_
  repeat' (first | refine RunLN.int (by (first | exact wr_i64 (by omega) (by omega) | exact wm_i64 (by omega) | exact wq_i64 (by omega) (by omega) (by omega) | rfl)) ?_ | refine RunL.ev Tryd.tOk rfl rfl rfl ?_ | refine RunE.seq ?_ | refine RunE.region ?_ | refine RunL.nil ?_)
  refine RunL.call rfl rfl rfl (c _) ?_
  rintro _ _ ⟨rfl, Xa_⟩
  replace Z6 := Z6.up Xa_
  replace X := X.trans Xa_
  clear Xa_
  repeat' (first | refine RunLN.int (by (first | exact wr_i64 (by omega) (by omega) | exact wm_i64 (by omega) | exact wq_i64 (by omega) (by omega) (by omega) | rfl)) ?_ | refine RunLN.any ?_ | refine RunL.ev Tryd.tOk rfl rfl rfl ?_ | refine RunE.seq ?_ | refine RunE.region ?_ | refine RunL.nil ?_)
  refine RunL.call rfl rfl rfl (c1 _) ?_
  rintro _ _ ⟨rfl, rfl⟩
  repeat' (first | refine RunLN.int (by (first | exact wr_i64 (by omega) (by omega) | exact wm_i64 (by omega) | exact wq_i64 (by omega) (by omega) (by omega) | rfl)) ?_ | refine RunLN.any ?_ | refine RunL.ev Tryd.tOk rfl rfl rfl ?_ | refine RunE.seq ?_ | refine RunE.region ?_ | refine RunL.nil ?_)
  refine RunL.call rfl rfl rfl (c2 _) ?_
  rintro _ _ ⟨rfl, rfl⟩
  repeat' (first | refine RunLN.int (by (first | exact wr_i64 (by omega) (by omega) | exact wm_i64 (by omega) | exact wq_i64 (by omega) (by omega) (by omega) | rfl)) ?_ | refine RunLN.any ?_ | refine RunL.ev Tryd.tOk rfl rfl rfl ?_ | refine RunE.seq ?_ | refine RunE.region ?_ | refine RunL.nil ?_)
  refine RunL.store Tryd.tOk rfl rfl rfl rfl rfl Z6 rfl rfl fun w7 t7 => ?_
  replace X := X.own t7.ext gB6
  have Z6 : Blk w7 B6 [.int .i64 k, .int .i64 no, .int .i64 p0, .int .i64 p1] 46 := t7.at_
  repeat' (first | refine RunL.nil ?_)
  exact RunE.retFn Tryd.func53 (.cell rfl (.agg Tryd.tOk rfl rfl rfl Z6.row) .nil) ⟨rfl, X⟩
theorem pairFlat : Flat Tryd.prog 46 [(3, .int .i64), (3, .int .i64), (3, .int .i64), (3, .int .i64)] :=
  ⟨by kernel_rfl, by kernel_rfl, by kernel_rfl, by kernel_rfl, by kernel_rfl, fun x hx => by
    simp only [List.mem_cons, List.not_mem_nil, or_false] at hx
    rcases hx with rfl | rfl | rfl | rfl
    · exact ⟨Tryd.underlying3, by kernel_rfl, by kernel_rfl⟩
    · exact ⟨Tryd.underlying3, by kernel_rfl, by kernel_rfl⟩
    · exact ⟨Tryd.underlying3, by kernel_rfl, by kernel_rfl⟩
    · exact ⟨Tryd.underlying3, by kernel_rfl, by kernel_rfl⟩⟩
theorem pairFits (x : Pr) : fits [(3, FK.int .i64), (3, FK.int .i64), (3, FK.int .i64), (3, FK.int .i64)] x.cells := by
  obtain ⟨a, b, c, d⟩ := x
  refine ⟨rfl, fun i y h => ?_⟩
  rcases i with _ | _ | _ | _ | n
  all_goals (simp only [List.getElem?_cons_zero, List.getElem?_cons_succ, List.getElem?_nil, Option.some.injEq, reduceCtorEq] at h)
  all_goals (subst h; exact ⟨_, rfl, _, rfl⟩)
theorem pairEq (x y : Pr) : eqAll x.cells y.cells = decide (x = y) := by
  obtain ⟨a, b, c, d⟩ := x; obtain ⟨a', b', c', d'⟩ := y
  simp [eqAll, veq, Pr.cells]
  rw [Bool.eq_iff_iff]; simp
set_option maxHeartbeats 1000000 in
theorem rsamePairs_ok (a b : List Pr) (u v : Value) (w : World) (ha : IsL w Pr.cells 4 u a) (hb : IsL w Pr.cells 4 v b) (hla : a.length < 9223372036854775808) (hlb : b.length < 9223372036854775808) :
    Rets Tryd.prog 20 [u, v] w fun r w' => r = .bool (decide (a = b)) ∧ Ext w w' := by
  refine RetsX.of (nt := 26) Tryd.func20 (by kernel_rfl) rfl rfl (by simp) (by simp only [argEnv]; rfl) ?_
  have X := ExtB.refl (fun _ => False) w
  repeat' (first | with_reducible refine RunLN.boolF rfl ?_ | refine RunLN.any ?_ | refine RunL.ev Tryd.tOk rfl rfl rfl ?_ | refine RunE.seq ?_ | refine RunE.region ?_ | refine RunL.nil ?_)
  refine RunL.evV rfl rfl rfl (OpV.lenSl Tryd.tOk rfl rfl ha) ?_
  repeat' (first | refine RunLN.int (by (first | exact wr_i64 (by omega) (by omega) | exact wm_i64 (by omega) | exact wq_i64 (by omega) (by omega) (by omega) | rfl)) ?_ | refine RunLN.any ?_ | refine RunL.ev Tryd.tOk rfl rfl rfl ?_)
  refine RunL.evV rfl rfl rfl (OpV.lenSl Tryd.tOk rfl rfl hb) ?_
  by_cases hl : a.length = b.length
  · repeat' (first | (with_reducible refine RunLN.neF ?_ ?_; focus omega) | refine RunLN.int (by (first | exact wr_i64 (by omega) (by omega) | exact wm_i64 (by omega) | exact wq_i64 (by omega) (by omega) (by omega) | rfl)) ?_ | refine RunL.ev Tryd.tOk rfl rfl rfl ?_ | refine RunE.condF rfl rfl ?_ | refine RunE.seq ?_ | refine RunE.region ?_ | refine RunL.nil ?_ | refine RunE.block ?_ | refine RunE.skip ?_)
    refine RunE.loop (ι := Nat) (fun i => [(0, u), (1, v), (5, .int .i64 (i : Int))]) (fun i w' => i ≤ a.length ∧ a.take i = b.take i ∧ Ext w w') (fun i => a.length - i) 0 (by repeat (first | exact Sub.nil _ | refine Sub.cons rfl ?_)) ⟨Nat.zero_le _, by simp, X⟩ ?_
    clear X
    rintro i w3 ⟨hi, hp, X⟩ again
    obtain ⟨s1, s2⟩ := same_lists hl hp
    by_cases hlt : i < a.length
    · obtain ⟨b1, o1, c1, rfl, hr1, hc1⟩ := isL_held ha hlt
      obtain ⟨b2, o2, c2, rfl, hr2, hc2⟩ := isL_held hb (i := i) (by omega)
      obtain ⟨x, hx⟩ : ∃ x, a[i]? = some x := ⟨_, List.getElem?_eq_getElem hlt⟩
      obtain ⟨y, hy⟩ : ∃ y, b[i]? = some y := ⟨_, List.getElem?_eq_getElem (by omega)⟩
      have hrx := flat_row encP hr1 hx
      have hry := flat_row encP hr2 hy
      obtain ⟨s3, s4⟩ := s2 x y hx hy
      repeat' (first | (with_reducible refine RunLN.decT ?_ ?_; focus omega) | refine RunLN.int (by (first | exact wr_i64 (by omega) (by omega) | exact wm_i64 (by omega) | exact wq_i64 (by omega) (by omega) (by omega) | rfl)) ?_ | refine RunLN.any ?_ | refine RunL.ev Tryd.tOk rfl rfl rfl ?_ | refine RunE.condT rfl rfl ?_ | refine RunE.seq ?_ | refine RunE.region ?_ | refine RunL.nil ?_ | refine RunE.block ?_ | refine RunE.skip ?_)
      refine RunE.draw (fun _ => False) mix ?_
      intro wd_ Xd_
      by_cases hxy : x = y
      · have e : eqAll (Pr.cells x) (Pr.cells y) = true := by rw [pairEq, decide_eq_true hxy]
        repeat' (first | refine AsyN.int (by (first | exact wr_i64 (by omega) (by omega) | exact wm_i64 (by omega) | exact wq_i64 (by omega) (by omega) (by omega) | rfl)) ?_ | refine AsyN.any ?_ | refine Asy.ev Tryd.tOk rfl rfl rfl ?_ | refine Asy.evV rfl rfl rfl rfl (fun _ X_ => OpV.loadN Tryd.tOk rfl rfl rfl rfl (hrx.up (X.trans (Xd_.trans X_)))) ?_ | refine Asy.evV rfl rfl rfl rfl (fun _ X_ => OpV.loadN Tryd.tOk rfl rfl rfl rfl (hry.up (X.trans (Xd_.trans X_)))) ?_ | refine Asy.evV rfl rfl rfl rfl (fun _ X_ => (OpV.neFlat pairFlat (xs := Pr.cells x) (ys := Pr.cells y) rfl rfl (pairFits x) (pairFits y))) ?_ | refine Asy.evV rfl rfl rfl rfl (fun _ X_ => OpV.indexS Tryd.tOk _ rfl rfl rfl rfl (by omega)) ?_)
        rw [e]
        skip
        refine Asy.end_ (by kernel_rfl) ?_
        intro we_ Xe_
        replace X := X.trans (Xd_.trans Xe_)
        repeat' (first | refine RunLN.int (by (first | exact wr_i64 (by omega) (by omega) | exact wm_i64 (by omega) | exact wq_i64 (by omega) (by omega) (by omega) | rfl)) ?_ | refine RunL.ev Tryd.tOk rfl rfl rfl ?_ | refine RunE.condF rfl rfl ?_ | refine RunE.region ?_ | refine RunL.nil ?_ | refine RunE.inBlock ?_ | refine RunE.skip ?_)
        exact RunE.weaken (by repeat (first | exact Sub.nil _ | refine Sub.cons rfl ?_)) (again (i + 1) _ (by omega) ⟨by omega, s3 hxy, X⟩)
      · have e : eqAll (Pr.cells x) (Pr.cells y) = false := by rw [pairEq, decide_eq_false hxy]
        repeat' (first | refine AsyN.int (by (first | exact wr_i64 (by omega) (by omega) | exact wm_i64 (by omega) | exact wq_i64 (by omega) (by omega) (by omega) | rfl)) ?_ | refine AsyN.any ?_ | refine Asy.ev Tryd.tOk rfl rfl rfl ?_ | refine Asy.evV rfl rfl rfl rfl (fun _ X_ => OpV.loadN Tryd.tOk rfl rfl rfl rfl (hrx.up (X.trans (Xd_.trans X_)))) ?_ | refine Asy.evV rfl rfl rfl rfl (fun _ X_ => OpV.loadN Tryd.tOk rfl rfl rfl rfl (hry.up (X.trans (Xd_.trans X_)))) ?_ | refine Asy.evV rfl rfl rfl rfl (fun _ X_ => (OpV.neFlat pairFlat (xs := Pr.cells x) (ys := Pr.cells y) rfl rfl (pairFits x) (pairFits y))) ?_ | refine Asy.evV rfl rfl rfl rfl (fun _ X_ => OpV.indexS Tryd.tOk _ rfl rfl rfl rfl (by omega)) ?_)
        rw [e]
        skip
        refine Asy.end_ (by kernel_rfl) ?_
        intro we_ Xe_
        replace X := X.trans (Xd_.trans Xe_)
        repeat' (first | with_reducible refine RunLN.boolF rfl ?_ | refine RunL.ev Tryd.tOk rfl rfl rfl ?_ | refine RunE.condT rfl rfl ?_ | refine RunE.seq ?_ | refine RunE.region ?_ | refine RunL.nil ?_)
        exact RunE.retFn Tryd.func20 (.tmp rfl .nil) ⟨by rw [decide_eq_false (s4 hxy)]; rfl, X⟩
    · have hil : i = a.length := by omega
      repeat' (first | with_reducible refine RunLN.boolT rfl ?_ | (with_reducible refine RunLN.decF ?_ ?_; focus omega) | refine RunLN.int (by (first | exact wr_i64 (by omega) (by omega) | exact wm_i64 (by omega) | exact wq_i64 (by omega) (by omega) (by omega) | rfl)) ?_ | refine RunLN.any ?_ | refine RunL.ev Tryd.tOk rfl rfl rfl ?_ | refine RunL.evV rfl rfl rfl (OpV.lenSl Tryd.tOk rfl rfl ha) ?_ | refine RunE.condF rfl rfl ?_ | refine RunE.seq ?_ | refine RunE.region ?_ | refine RunL.nil ?_ | refine RunE.exit rfl ?_)
      exact RunE.retFn Tryd.func20 (.tmp rfl .nil) ⟨by rw [decide_eq_true (s1 hil)]; rfl, X⟩
  · have hne : a ≠ b := fun e => hl (by rw [e])
    repeat' (first | with_reducible refine RunLN.boolF rfl ?_ | (with_reducible refine RunLN.neT ?_ ?_; focus omega) | refine RunLN.int (by (first | exact wr_i64 (by omega) (by omega) | exact wm_i64 (by omega) | exact wq_i64 (by omega) (by omega) (by omega) | rfl)) ?_ | refine RunL.ev Tryd.tOk rfl rfl rfl ?_ | refine RunE.condT rfl rfl ?_ | refine RunE.seq ?_ | refine RunE.region ?_ | refine RunL.nil ?_)
    exact RunE.retFn Tryd.func20 (.tmp rfl .nil) ⟨by rw [decide_eq_false hne]; rfl, X⟩
theorem rsamePairs_at (l : List Pr) (u v : Value) (w : World) (hu : LP w u l) (hv : LP w v l) (hl : l.length < 9223372036854775808) : Rets Tryd.prog 20 [u, v] w fun r w' => r = .bool true ∧ Ext w w' := by
  have h := rsamePairs_ok l l u v w hu hv hl hl
  rwa [decide_eq_true rfl] at h
set_option maxHeartbeats 1000000 in
theorem rsameInts_at (l : List Int) (u v : Value) (w : World) (hu : LI' w u l) (hv : LI' w v l) (hl : l.length < 9223372036854775808) : Rets Tryd.prog 29 [u, v] w fun r w' => r = .bool true ∧ Ext w w' := by
  refine RetsX.of (nt := 26) Tryd.func29 (by kernel_rfl) rfl rfl (by simp) (by simp only [argEnv]; rfl) ?_
  have X := ExtB.refl (fun _ => False) w
  repeat' (first | with_reducible refine RunLN.boolF rfl ?_ | refine RunLN.any ?_ | refine RunL.ev Tryd.tOk rfl rfl rfl ?_ | refine RunE.seq ?_ | refine RunE.region ?_ | refine RunL.nil ?_)
  refine RunL.evV rfl rfl rfl (OpV.lenSl Tryd.tOk rfl rfl hu) ?_
  repeat' (first | refine RunLN.int (by (first | exact wr_i64 (by omega) (by omega) | exact wm_i64 (by omega) | exact wq_i64 (by omega) (by omega) (by omega) | rfl)) ?_ | refine RunLN.any ?_ | refine RunL.ev Tryd.tOk rfl rfl rfl ?_)
  refine RunL.evV rfl rfl rfl (OpV.lenSl Tryd.tOk rfl rfl hv) ?_
  repeat' (first | (with_reducible refine RunLN.neF ?_ ?_; focus omega) | refine RunLN.int (by (first | exact wr_i64 (by omega) (by omega) | exact wm_i64 (by omega) | exact wq_i64 (by omega) (by omega) (by omega) | rfl)) ?_ | refine RunL.ev Tryd.tOk rfl rfl rfl ?_ | refine RunE.condF rfl rfl ?_ | refine RunE.seq ?_ | refine RunE.region ?_ | refine RunL.nil ?_ | refine RunE.block ?_ | refine RunE.skip ?_)
  refine RunE.loop (ι := Nat) (fun i => [(0, u), (1, v), (5, .int .i64 (i : Int))]) (fun i w' => i ≤ l.length ∧ Ext w w') (fun i => l.length - i) 0 (by repeat (first | exact Sub.nil _ | refine Sub.cons rfl ?_)) ⟨Nat.zero_le _, X⟩ ?_
  clear X
  rintro i w3 ⟨hi, X⟩ again
  by_cases hlt : i < l.length
  · obtain ⟨b1, o1, c1, rfl, hr1, hc1⟩ := isL_held hu hlt
    obtain ⟨b2, o2, c2, rfl, hr2, hc2⟩ := isL_held hv hlt
    obtain ⟨x, hx⟩ : ∃ x, l[i]? = some x := ⟨_, List.getElem?_eq_getElem hlt⟩
    have hrx := flat_row encT hr1 hx
    have hry := flat_row encT hr2 hx
    repeat' (first | (with_reducible refine RunLN.decT ?_ ?_; focus omega) | refine RunLN.int (by (first | exact wr_i64 (by omega) (by omega) | exact wm_i64 (by omega) | exact wq_i64 (by omega) (by omega) (by omega) | rfl)) ?_ | refine RunLN.any ?_ | refine RunL.ev Tryd.tOk rfl rfl rfl ?_ | refine RunE.condT rfl rfl ?_ | refine RunE.seq ?_ | refine RunE.region ?_ | refine RunL.nil ?_ | refine RunE.block ?_ | refine RunE.skip ?_)
    refine RunE.draw (fun _ => False) mix ?_
    intro wd_ Xd_
    repeat' (first | (with_reducible refine AsyN.neF ?_ ?_; focus omega) | refine AsyN.int (by (first | exact wr_i64 (by omega) (by omega) | exact wm_i64 (by omega) | exact wq_i64 (by omega) (by omega) (by omega) | rfl)) ?_ | refine AsyN.any ?_ | refine Asy.ev Tryd.tOk rfl rfl rfl ?_ | refine Asy.evV rfl rfl rfl rfl (fun _ X_ => OpV.load1 Tryd.tOk rfl rfl rfl ((hrx.up (X.trans (Xd_.trans X_))) 0 _ rfl)) ?_ | refine Asy.evV rfl rfl rfl rfl (fun _ X_ => OpV.load1 Tryd.tOk rfl rfl rfl ((hry.up (X.trans (Xd_.trans X_))) 0 _ rfl)) ?_ | refine Asy.evV rfl rfl rfl rfl (fun _ X_ => OpV.indexS Tryd.tOk _ rfl rfl rfl rfl (by omega)) ?_)
    refine Asy.end_ (by kernel_rfl) ?_
    intro we_ Xe_
    replace X := X.trans (Xd_.trans Xe_)
    repeat' (first | refine RunLN.int (by (first | exact wr_i64 (by omega) (by omega) | exact wm_i64 (by omega) | exact wq_i64 (by omega) (by omega) (by omega) | rfl)) ?_ | refine RunL.ev Tryd.tOk rfl rfl rfl ?_ | refine RunE.condF rfl rfl ?_ | refine RunE.region ?_ | refine RunL.nil ?_ | refine RunE.inBlock ?_ | refine RunE.skip ?_)
    exact RunE.weaken (by repeat (first | exact Sub.nil _ | refine Sub.cons rfl ?_)) (again (i + 1) _ (by omega) ⟨by omega, X⟩)
  · repeat' (first | with_reducible refine RunLN.boolT rfl ?_ | (with_reducible refine RunLN.decF ?_ ?_; focus omega) | refine RunLN.int (by (first | exact wr_i64 (by omega) (by omega) | exact wm_i64 (by omega) | exact wq_i64 (by omega) (by omega) (by omega) | rfl)) ?_ | refine RunLN.any ?_ | refine RunL.ev Tryd.tOk rfl rfl rfl ?_ | refine RunL.evV rfl rfl rfl (OpV.lenSl Tryd.tOk rfl rfl hu) ?_ | refine RunE.condF rfl rfl ?_ | refine RunE.seq ?_ | refine RunE.region ?_ | refine RunL.nil ?_ | refine RunE.exit rfl ?_)
    exact RunE.retFn Tryd.func29 (.tmp rfl .nil) ⟨rfl, X⟩
theorem rsame41_at (b : Book) (u v : Value) (w : World) (hu : LI' w u b.left) (hv : LI' w v b.left) (hl : b.left.length < 9223372036854775808) :
    Rets Tryd.prog 19 [.agg (bkV b u).toArray, .agg (bkV b v).toArray] w fun r w' => r = .bool true ∧ Ext w w' := by
  refine RetsX.of (nt := 31) Tryd.func19 (by kernel_rfl) rfl rfl (by simp) (by simp only [argEnv]; rfl) ?_
  have X := ExtB.refl (fun _ => False) w
  repeat' (first | refine RunE.seq ?_ | refine RunE.region ?_)
  refine RunL.box rfl rfl rfl fun B2 w2_ a_ => ?_
  have Z2 : Blk w2_ B2 (bkV b u) 24 := a_.at_
  have gB2 := a_.ge X
  replace X := X.trans a_.ext
  clear a_
  skip
  refine RunL.box rfl rfl rfl fun B3 w3_ a_ => ?_
  have Z3 : Blk w3_ B3 (bkV b v) 24 := a_.at_
  have gB3 := a_.ge X
  have n2_3 : B2 ≠ B3 := by have := Z2.lt; have := a_.eq; omega
  have n3_2 : B3 ≠ B2 := Ne.symm n2_3
  replace Z2 := Z2.up a_.ext
  replace X := X.trans a_.ext
  clear a_
  repeat' (first | with_reducible refine RunLN.boolT rfl ?_ | with_reducible refine RunLN.boolF rfl ?_ | (with_reducible refine RunLN.eqT ?_ ?_; focus omega) | refine RunLN.int (by (first | exact wr_i64 (by omega) (by omega) | exact wm_i64 (by omega) | exact wq_i64 (by omega) (by omega) (by omega) | rfl)) ?_ | refine RunLN.any ?_ | refine RunL.ev Tryd.tOk rfl rfl rfl ?_ | refine RunL.evV rfl rfl rfl (OpV.load1 Tryd.tOk rfl rfl rfl (Blk.cell Z2 rfl)) ?_ | refine RunL.evV rfl rfl rfl (OpV.load1 Tryd.tOk rfl rfl rfl (Blk.cell Z3 rfl)) ?_ | refine RunE.seq ?_ | refine RunE.region ?_ | refine RunL.nil ?_)
  refine RunL.call rfl rfl rfl (rsameInts_at b.left u v _ (hu.up X) (hv.up X) hl) ?_
  rintro _ _ ⟨rfl, Xa_⟩
  replace X := X.trans Xa_
  clear Xa_
  repeat' (first | with_reducible refine RunLN.boolT rfl ?_ | refine RunL.ev Tryd.tOk rfl rfl rfl ?_ | refine RunL.nil ?_)
  exact RunE.retFn Tryd.func19 (.tmp rfl .nil) ⟨rfl, X⟩
theorem few41_ok (b : Book) (v : Value) (n : Int) (w : World) (hv : LI' w v b.left) (hl : b.left.length < 9223372036854775808) :
    Rets Tryd.prog 14 [.agg (bkV b v).toArray, .int .i64 n] w fun r w' => (∃ q, r = .bool q) ∧ Ext w w' := by
  have c1 := fun w h => rright41_ok b v w h hl
  refine RetsX.of (nt := 25) Tryd.func14 (by kernel_rfl) rfl rfl (by simp) (by simp only [argEnv]; rfl) ?_
  have X := ExtB.refl (fun _ => False) w
  repeat' (first | refine RunE.seq ?_ | refine RunE.region ?_)
  refine RunL.box rfl rfl rfl fun B2 w2_ a_ => ?_
  have Z2 : Blk w2_ B2 (bkV b v) 24 := a_.at_
  have gB2 := a_.ge X
  replace X := X.trans a_.ext
  clear a_
  repeat' (first | with_reducible refine RunLN.boolT rfl ?_ | with_reducible refine RunLN.boolF rfl ?_ | refine RunLN.int (by (first | exact wr_i64 (by omega) (by omega) | exact wm_i64 (by omega) | exact wq_i64 (by omega) (by omega) (by omega) | rfl)) ?_ | (refine RunLN.boolC (fun h_ => ?_) (fun h_ => ?_) <;> (try simp only [decide_eq_true_eq, decide_eq_false_iff_not, beq_iff_eq, bne_iff_ne, ne_eq, Bool.not_eq_true, Bool.not_eq_false, beq_eq_false_iff_ne, bne_eq_false_iff_eq, Bool.not_eq_eq_eq_not, Bool.not_true, Bool.not_false, Bool.not_not, Int.not_lt, Int.not_le, gt_iff_lt, ge_iff_le, Decidable.not_not] at h_)) | refine RunLN.any ?_ | refine RunL.ev Tryd.tOk rfl rfl rfl ?_ | refine RunL.unwantedD rfl rfl ?_ | refine RunL.evV rfl rfl rfl (OpV.load1 Tryd.tOk rfl rfl rfl (Blk.cell Z2 rfl)) ?_ | refine RunL.evV rfl rfl rfl (OpV.loadN Tryd.tOk rfl rfl rfl rfl (Blk.row Z2)) ?_ | refine RunL.evV rfl rfl rfl (OpV.lenSl Tryd.tOk rfl rfl hv) ?_ | refine RunE.seq ?_ | refine RunE.region ?_ | refine RunL.nil ?_)
  all_goals first
    | exact RunE.retFn Tryd.func14 (.tmp rfl .nil) ⟨⟨_, rfl⟩, X⟩
    | skip
  refine RunL.call rfl rfl rfl (c1 _ (hv.up X)) ?_
  rintro _ _ ⟨rfl, Xa_⟩
  replace X := X.trans Xa_
  clear Xa_
  cases rtB b
  all_goals
    repeat' (first | with_reducible refine RunLN.boolT rfl ?_ | with_reducible refine RunLN.boolF rfl ?_ | refine RunL.ev Tryd.tOk rfl rfl rfl ?_ | refine RunL.nil ?_)
    exact RunE.retFn Tryd.func14 (.tmp rfl .nil) ⟨⟨_, rfl⟩, X⟩
end Go.Sg
end
section
/- The library's sort, laid at this program. -/
namespace Go.Proofs
open Go.Shelf Go.RowKit Go.Lib Go.Sort
def Tryd.delSt_ren : Go.Shelf.Ren := ⟨fun | 23 => 55 | n => n, fun | 22 => 22 | 3 => 3 | 4 => 4 | 0 => 0 | n => n, fun | n => n⟩
theorem Tryd.delSt : Go.Proofs.Lays2.n23 Tryd.prog Tryd.delSt_ren where
  mixed := by kernel_rfl
  f23 := Tryd.func55.trans (congrArg some (by kernel_rfl))
  t0 := Tryd.underlying0
  a0 := Tryd.isAgg0
  z0 := Tryd.sizeOf0
  v0 := Tryd.zeroValue0
  t3 := Tryd.underlying3
  a3 := Tryd.isAgg3
  z3 := Tryd.sizeOf3
  v3 := Tryd.zeroValue3
  t4 := Tryd.underlying4
  a4 := Tryd.isAgg4
  z4 := Tryd.sizeOf4
  v4 := Tryd.zeroValue4
  t22 := Tryd.underlying22
  a22 := Tryd.isAgg22
  z22 := Tryd.sizeOf22
  v22 := Tryd.zeroValue22
  i3 := by kernel_rfl
end Go.Proofs
end
section
/- cmp.Compare, cmp.Or at int. -/
namespace Go.Sg
open Go.Rn Go.Proofs Go.Rec Go.Best
attribute [local irreducible] Go.Rn.RunLN Go.Rn.AsyN Go.Rn.RunL Go.Rn.RunE Go.Rn.Asy Go.Rn.OpV Go.Rn.OpE Go.Rn.ExecE

theorem isNaN_ok (a : Int) (w : World) : Rets Tryd.prog 93 [.int .i64 a] w fun v w' => v = .bool false ∧ w = w' := by
  refine RetsX.of (nt := 6) Tryd.func93 (by kernel_rfl) rfl rfl (by simp) (by simp only [argEnv]; rfl) ?_
  repeat' (first | with_reducible refine RunLN.boolF rfl ?_ | (with_reducible refine RunLN.neF ?_ ?_; focus omega) | refine RunLN.int (by (first | exact wr_i64 (by omega) (by omega) | exact wm_i64 (by omega) | exact wq_i64 (by omega) (by omega) (by omega) | rfl)) ?_ | refine RunL.ev Tryd.tOk rfl rfl rfl ?_ | refine RunE.seq ?_ | refine RunE.region ?_ | refine RunL.nil ?_)
  exact RunE.retFn Tryd.func93 (.tmp rfl .nil) ⟨rfl, rfl⟩
theorem compare_ok (a b : Int) (w : World) : Rets Tryd.prog 63 [.int .i64 a, .int .i64 b] w fun v w' => v = .int .i64 (cmpI a b) ∧ w = w' := by
  refine RetsX.of (nt := 20) Tryd.func63 (by kernel_rfl) rfl rfl (by simp) (by simp only [argEnv]; rfl) ?_
  repeat' (first | with_reducible refine RunLN.boolF rfl ?_ | refine RunLN.int (by (first | exact wr_i64 (by omega) (by omega) | exact wm_i64 (by omega) | exact wq_i64 (by omega) (by omega) (by omega) | rfl)) ?_ | (refine RunLN.boolC (fun h_ => ?_) (fun h_ => ?_) <;> (try simp only [decide_eq_true_eq, decide_eq_false_iff_not, beq_iff_eq, bne_iff_ne, ne_eq, Bool.not_eq_true, Bool.not_eq_false, beq_eq_false_iff_ne, bne_eq_false_iff_eq, Bool.not_eq_eq_eq_not, Bool.not_true, Bool.not_false, Bool.not_not, Int.not_lt, Int.not_le, gt_iff_lt, ge_iff_le, Decidable.not_not] at h_)) | refine RunL.ev Tryd.tOk rfl rfl rfl ?_ | refine RunL.callN rfl rfl rfl (isNaN_ok _ _) ?_ | refine RunE.condT rfl rfl ?_ | refine RunE.condF rfl rfl ?_ | refine RunE.seq ?_ | refine RunE.region ?_ | refine RunL.nil ?_ | refine RunE.skip ?_)
  all_goals
    refine RunE.retFn Tryd.func63 (.tmp rfl .nil) ⟨?_, rfl⟩
    simp only [oneOr]
    congr 1
    unfold cmpI
    split <;> (try split) <;> omega
end Go.Sg
end
section
/- Nonces: searching and deleting. -/
namespace Go.Non
open Go.Rn Go.Rec Go.Best Go.Dev
theorem flat_intC : ∀ l : List Int, flat intC l = l.map (Value.int .i64)
  | [] => rfl
  | x :: l => by rw [flat_cons, flat_intC l]; rfl
theorem filter_del {no : Int} : ∀ {l : List Int} {k : Nat}, l.Pairwise (· < ·) → l[k]? = some no → (l.filter fun x => decide (x ≠ no)) = l.take k ++ l.drop (k + 1)
  | [], k, _, h => by simp at h
  | a :: r, 0, hp, h => by
    simp only [List.getElem?_cons_zero, Option.some.injEq] at h
    subst h
    obtain ⟨h1, -⟩ := List.pairwise_cons.1 hp
    rw [List.filter_cons, if_neg (by simp)]
    simp only [List.take_zero, List.nil_append, List.drop_succ_cons, List.drop_zero]
    exact List.filter_eq_self.2 fun x hx => decide_eq_true (by have := h1 x hx; omega)
  | a :: r, k + 1, hp, h => by
    obtain ⟨h1, h2⟩ := List.pairwise_cons.1 hp
    have h' : r[k]? = some no := by simpa using h
    have := h1 no (List.mem_of_getElem? h')
    rw [List.filter_cons, if_pos (decide_eq_true (by omega)), filter_del h2 h']
    simp
end Go.Non
namespace Go.Rn
open Go.RowKit Go.Sort Go.Proofs Go.Rec Go.Non Go.Dev
theorem ext_putRow {w : World} {blk off q : Nat} {d : Array Int} : ExtB (· = blk) w (putRow (Value.int .i64) (Sort.ahead w q) blk off d) := by
  refine ⟨?_, rfl, rfl, rfl, ?_, fun i hi hn => ?_⟩
  · show w.drawn ≤ w.drawn + q; omega
  · simp
  · unfold putRow mapBlock
    simp only [Sort.ahead]
    rw [Array.getElem?_modify, if_neg (fun h => hn h.symm)]
theorem holds_int {w : World} {g n cap base : Nat} {e : TypeId} {l : List Int} (hO : w.ownsRow base e 1 (.slice (some ⟨g, 0, none⟩) n cap) n (flat intC l)) (hn : l.length = n) : Holds (Value.int .i64) w g 0 l.toArray := by
  intro j hj
  simp only [List.size_toArray] at hj
  rcases hO.2 with ⟨h0, -⟩ | ⟨g', cap', cur, he, hbg, hg, hnc, hcm, hcs, htake⟩
  · simp at h0
  · simp at he
    obtain ⟨rfl, rfl⟩ := he
    have hget : (flat intC l)[j]? = some (.int .i64 l.toArray[j]!) := by
      rw [flat_intC, List.getElem?_map, List.getElem?_eq_getElem hj]
      simp [hj]
    rw [← htake, List.getElem?_take] at hget
    split at hget
    · refine ⟨?_, ?_⟩
      · unfold World.cell?
        rw [hg]
        simpa using hget
      · unfold World.frozen?
        rw [hg]; simp
    · simp at hget
theorem putCells_size {α : Type} [Inhabited α] (f : α → Value) (off : Nat) (d : Array α) (c : Array Value) : (putCells f off d c).size = c.size := by unfold putCells; exact Array.size_mapIdx
theorem putRow_cells {w : World} {g off q : Nat} {d : Array Int} {cur : Array Value} {e : TypeId} (h : w.heap[g]? = some (.cells cur e (0, 0))) : (putRow (Value.int .i64) (Sort.ahead w q) g off d).heap[g]? = some (.cells (putCells (Value.int .i64) off d cur) e (0, 0)) := by
  unfold putRow mapBlock
  simp only [Sort.ahead]
  rw [Array.getElem?_modify, if_pos rfl, h]
  rfl
theorem owns_of_row {w : World} {g cap n base : Nat} {cur : Array Value} {e : TypeId} {xs : List Value} (hb : base ≤ g) (hg : w.heap[g]? = some (.cells cur e (0, 0))) (hn : n ≤ cap) (hm : cap ≤ maxLen) (hs : cur.size = cap * 1) (hr : Row w g 0 xs) (hl : xs.length = n) :
    w.ownsRow base e 1 (.slice (some ⟨g, 0, none⟩) n cap) n xs := by
  refine ⟨by omega, .inr ⟨g, cap, cur, rfl, hb, hg, hn, hm, hs, ?_⟩⟩
  apply List.ext_getElem?
  intro i
  rw [List.getElem?_take]
  split
  · rename_i hi
    have hi' : i < xs.length := by omega
    have h1 := hr i xs[i] (List.getElem?_eq_getElem hi')
    unfold World.cell? at h1
    rw [hg] at h1
    rw [List.getElem?_eq_getElem hi']
    simpa using h1
  · rw [List.getElem?_eq_none (by omega)]
theorem row_holds {w : World} {g : Nat} {d : Array Int} {l : List Int} (h : Holds (Value.int .i64) w g 0 d) (hl : ∀ (i : Nat) (x : Int), l[i]? = some x → d[i]? = some x) : Row w g 0 (flat intC l) := fun i v hv => by
  rw [flat_intC, List.getElem?_map, Option.map_eq_some_iff] at hv
  obtain ⟨x, hx, rfl⟩ := hv
  have hd := hl i x hx
  obtain ⟨hi, e⟩ := Array.getElem?_eq_some_iff.1 hd
  have := (h i hi).1
  rw [this]
  simp [hi, e]
end Go.Rn
namespace Go.Sg
open Go.Rn Go.Proofs Go.Non Go.Rec Go.RowKit Go.Dev Go.Best
set_option maxHeartbeats 2000000 in
theorem delete_ok (l : List Int) (g cap i base : Nat) (w : World) (hO : w.ownsRow base 3 1 (.slice (some ⟨g, 0, none⟩) l.length cap) l.length (flat intC l)) (hi : i < l.length) :
    Rets Tryd.prog 55 [.slice (some ⟨g, 0, none⟩) l.length cap, .int .i64 (i : Int), .int .i64 ((i + 1 : Nat) : Int)] w fun r w' => r = .slice (some ⟨g, 0, none⟩) (l.length - 1) cap ∧ w'.ownsRow base 3 1 r (l.take i ++ l.drop (i + 1)).length (flat intC (l.take i ++ l.drop (i + 1))) ∧ ExtB (· = g) w w' := by
  have hcap : l.length ≤ cap ∧ cap ≤ maxLen := by
    rcases hO.2 with ⟨h0, -⟩ | ⟨g', cap', cur, he, hbg, hg, hnc, hcm, hcs, htake⟩
    · simp at h0
    · simp at he
      obtain ⟨rfl, rfl⟩ := he
      exact ⟨hnc, hcm⟩
  have hm := hcap.2
  simp only [maxLen] at hm
  have hH := holds_int hO rfl
  have h := Any.slices_Delete_int Tryd.delSt g 0 cap i (i + 1) l w hH hcap.1 (by omega) (by omega) (by omega)
  refine ⟨⟨_, Tryd.func55, by kernel_rfl, rfl⟩, Calls.mono (show Calls Tryd.prog 55 _ w _ from h) ?_⟩
  rintro e w' ⟨rfl, q, rfl⟩
  refine ⟨by simp, ?_, ext_putRow⟩
  have hlen : (l.take i ++ l.drop (i + 1)).length = l.length - (i + 1 - i) := by simp; omega
  have hsz : (l.take i ++ l.drop (i + 1) ++ List.replicate (i + 1 - i) 0).toArray.size = l.toArray.size := by simp; omega
  have h1 := Go.Sort.holds_putRow (Value.int .i64) (Sort.ahead w q) g 0 l.toArray _ (Go.Sort.holds_ahead _ _ _ _ _ _ hH) hsz
  have hr := row_holds (l := l.take i ++ l.drop (i + 1)) h1 (fun j x hx => by
    rw [List.getElem?_toArray, List.getElem?_append_left (List.getElem?_eq_some_iff.1 hx).1]; exact hx)
  have hE := ext_putRow (w := w) (blk := g) (off := 0) (q := q) (d := (l.take i ++ l.drop (i + 1) ++ List.replicate (i + 1 - i) 0).toArray)
  rcases hO.2 with ⟨h0, -⟩ | ⟨g', cap', cur, he, hbg, hg, hnc, hcm, hcs, htake⟩
  · simp at h0
  simp at he
  obtain ⟨rfl, rfl⟩ := he
  have hcs2 := (putCells_size (Value.int .i64) 0 (l.take i ++ l.drop (i + 1) ++ List.replicate (i + 1 - i) 0).toArray cur).trans hcs
  have hg2 := putRow_cells (off := 0) (q := q) (d := (l.take i ++ l.drop (i + 1) ++ List.replicate (i + 1 - i) 0).toArray) hg
  generalize Go.Sort.putRow (Value.int .i64) (Sort.ahead w q) g 0 (l.take i ++ l.drop (i + 1) ++ List.replicate (i + 1 - i) 0).toArray = W at *
  generalize Go.Sort.putCells (Value.int .i64) 0 (l.take i ++ l.drop (i + 1) ++ List.replicate (i + 1 - i) 0).toArray cur = cur2 at *
  have e1 : l.length - (i + 1 - i) = l.length - 1 := by omega
  have hfl := (flat_length encT (l.take i ++ l.drop (i + 1))).trans (Nat.mul_one _)
  rw [e1] at hlen ⊢
  rw [hlen] at hfl ⊢
  exact owns_of_row (base := base) hbg hg2 (by omega) hcm hcs2 hr hfl
attribute [local irreducible] Go.Rn.RetsX Go.Rn.RunLN Go.Rn.AsyN Go.Rn.RunL Go.Rn.RunE Go.Rn.Asy Go.Rn.OpV Go.Rn.OpE Go.Rn.ExecE
theorem less_ok (a b : Int) (w : World) : Rets Tryd.prog 88 [.int .i64 a, .int .i64 b] w fun v w' => v = .bool (decide (a < b)) ∧ w = w' := by
  refine RetsX.of (nt := 17) Tryd.func88 (by kernel_rfl) rfl rfl (by simp) (by simp only [argEnv]; rfl) ?_
  repeat' (first | with_reducible refine RunLN.boolT rfl ?_ | with_reducible refine RunLN.boolF rfl ?_ | refine RunLN.int (by (first | exact wr_i64 (by omega) (by omega) | exact wm_i64 (by omega) | exact wq_i64 (by omega) (by omega) (by omega) | rfl)) ?_ | (refine RunLN.boolC (fun h_ => ?_) (fun h_ => ?_) <;> (try simp only [decide_eq_true_eq, decide_eq_false_iff_not, beq_iff_eq, bne_iff_ne, ne_eq, Bool.not_eq_true, Bool.not_eq_false, beq_eq_false_iff_ne, bne_eq_false_iff_eq, Bool.not_eq_eq_eq_not, Bool.not_true, Bool.not_false, Bool.not_not, Int.not_lt, Int.not_le, gt_iff_lt, ge_iff_le, Decidable.not_not] at h_)) | refine RunL.ev Tryd.tOk rfl rfl rfl ?_ | refine RunL.unwantedD rfl rfl ?_ | refine RunL.callN rfl rfl rfl (isNaN_ok _ _) ?_ | refine RunE.seq ?_ | refine RunE.region ?_ | refine RunL.nil ?_)
  all_goals
    refine RunE.retFn Tryd.func88 (.tmp rfl .nil) ⟨?_, rfl⟩
    simp only [oneOr]
    congr 1
    first | exact (decide_eq_true (by omega)).symm | exact (decide_eq_false (by omega)).symm
theorem snaN_ok (a : Int) (w : World) : Rets Tryd.prog 89 [.int .i64 a] w fun v w' => v = .bool false ∧ w = w' := by
  refine RetsX.of (nt := 6) Tryd.func89 (by kernel_rfl) rfl rfl (by simp) (by simp only [argEnv]; rfl) ?_
  repeat' (first | with_reducible refine RunLN.boolF rfl ?_ | (with_reducible refine RunLN.neF ?_ ?_; focus omega) | refine RunLN.int (by (first | exact wr_i64 (by omega) (by omega) | exact wm_i64 (by omega) | exact wq_i64 (by omega) (by omega) (by omega) | rfl)) ?_ | refine RunL.ev Tryd.tOk rfl rfl rfl ?_ | refine RunE.seq ?_ | refine RunE.region ?_ | refine RunL.nil ?_)
  exact RunE.retFn Tryd.func89 (.tmp rfl .nil) ⟨rfl, rfl⟩
set_option maxHeartbeats 4000000 in
theorem isearch_ok (l : List Int) (v : Value) (m : Int) (w : World) (hv : LI' w v l) (hs : l.Pairwise (· < ·)) (hl : l.length ≤ 5000) :
    Rets Tryd.prog 54 [v, .int .i64 m] w fun r w' => r = .tuple #[.int .i64 ((l.takeWhile fun y => decide (y < m)).length : Int), .bool (l.any fun y => decide (y = m))] ∧ Ext w w' := by
  obtain ⟨hpl, hlow, hhigh, hany⟩ := split_at (no := fun x : Int => x) (m := m) (l := l) hs
  rw [hany]
  generalize (l.takeWhile fun y => decide (y < m)).length = p at hpl hlow hhigh ⊢
  clear hany
  have hb31 : ∀ n : Nat, n ≤ 10000 → IntKind.u64.wrap (n : Int) = (n : Int) := fun n h => u64_nat n (by omega)
  refine RetsX.of (nt := 54) Tryd.func54 (by kernel_rfl) rfl rfl (by simp) (by simp only [argEnv]; rfl) ?_
  have X := ExtB.refl (fun _ => False) w
  repeat' (first | with_reducible refine RunLN.boolF rfl ?_ | refine RunLN.int (by (first | exact wr_i64 (by omega) (by omega) | exact wm_i64 (by omega) | exact wq_i64 (by omega) (by omega) (by omega) | rfl)) ?_ | refine RunLN.any ?_ | refine RunL.ev Tryd.tOk rfl rfl rfl ?_ | refine RunL.evV rfl rfl rfl (OpV.lenSl Tryd.tOk rfl rfl hv) ?_ | refine RunE.seq ?_ | refine RunE.region ?_ | refine RunL.nil ?_ | refine RunE.block ?_)
  refine RunE.loop (ι := Nat × Nat) (fun x => [(0, v), (1, .int .i64 m), (6, .int .i64 (l.length : Int)), (7, .int .i64 (x.1 : Int)), (8, .int .i64 (x.2 : Int))])
    (fun x w' => x.1 ≤ p ∧ p ≤ x.2 ∧ x.2 ≤ l.length ∧ Ext w w') (fun x => x.2 - x.1) (0, l.length) (by repeat (first | exact Sub.nil _ | refine Sub.cons rfl ?_)) ⟨Nat.zero_le _, hpl, Nat.le_refl _, X⟩ ?_
  clear X
  rintro ⟨i, j⟩ w3 ⟨h1, h2, h3, X⟩ again
  simp only at h1 h2 h3 again ⊢
  by_cases hij : i < j
  · obtain ⟨b, o, cap, rfl, hr, hc⟩ := isL_held hv (i := (i + j) / 2 ^ 1) (by omega)
    obtain ⟨x, hx⟩ : ∃ x, l[(i + j) / 2 ^ 1]? = some x := ⟨_, List.getElem?_eq_getElem (by omega)⟩
    have hrx := flat_row encT hr hx
    have hlo := hlow _ x hx
    have hhi := hhigh _ x hx
    by_cases hlt : x < m
    · repeat' (first | (with_reducible refine RunLN.decT ?_ ?_; focus omega) | refine RunLN.int (by (first | exact hb31 (i + j) (by omega) | exact u64_shr (i + j) 1 (by decide) | exact wr_i64 (by omega) (by omega) | exact wm_i64 (by omega) | exact wq_i64 (by omega) (by omega) (by omega) | rfl)) ?_ | refine RunLN.any ?_ | refine RunL.ev Tryd.tOk rfl rfl rfl ?_ | refine RunL.evV rfl rfl rfl (OpV.load1 Tryd.tOk rfl rfl rfl ((hrx.up X) 0 _ rfl)) ?_ | refine RunL.callN rfl rfl rfl (less_ok _ _ _) ?_ | refine RunL.evV rfl rfl rfl (OpV.indexS Tryd.tOk _ rfl rfl rfl rfl (by omega)) ?_ | refine RunE.condT rfl rfl ?_ | refine RunE.seq ?_ | refine RunE.region ?_ | refine RunL.nil ?_ | refine RunE.block ?_ | refine RunE.inBlock ?_ | refine RunE.skip ?_)
      refine RunE.weaken (by repeat (first | exact Sub.nil _ | refine Sub.cons rfl ?_)) (again ((i + j) / 2 ^ 1 + 1, j) _ (by simp only; omega) ⟨?_, h2, h3, X⟩)
      simp only
      rcases Nat.lt_or_ge ((i + j) / 2 ^ 1) p with h | h
      · exact h
      · have := hhi h; omega
    · repeat' (first | (with_reducible refine RunLN.decT ?_ ?_; focus omega) | (with_reducible refine RunLN.decF ?_ ?_; focus omega) | refine RunLN.int (by (first | exact hb31 (i + j) (by omega) | exact u64_shr (i + j) 1 (by decide) | exact wr_i64 (by omega) (by omega) | exact wm_i64 (by omega) | exact wq_i64 (by omega) (by omega) (by omega) | rfl)) ?_ | refine RunLN.any ?_ | refine RunL.ev Tryd.tOk rfl rfl rfl ?_ | refine RunL.evV rfl rfl rfl (OpV.load1 Tryd.tOk rfl rfl rfl ((hrx.up X) 0 _ rfl)) ?_ | refine RunL.callN rfl rfl rfl (less_ok _ _ _) ?_ | refine RunL.evV rfl rfl rfl (OpV.indexS Tryd.tOk _ rfl rfl rfl rfl (by omega)) ?_ | refine RunE.condT rfl rfl ?_ | refine RunE.condF rfl rfl ?_ | refine RunE.seq ?_ | refine RunE.region ?_ | refine RunL.nil ?_ | refine RunE.block ?_ | refine RunE.inBlock ?_ | refine RunE.skip ?_)
      refine RunE.weaken (by repeat (first | exact Sub.nil _ | refine Sub.cons rfl ?_)) (again (i, (i + j) / 2 ^ 1) _ (by simp only; omega) ⟨h1, ?_, by simp only; omega, X⟩)
      simp only
      rcases Nat.lt_or_ge ((i + j) / 2 ^ 1) p with h | h
      · have := hlo h; omega
      · exact h
  · obtain rfl : i = p := by omega
    by_cases hin : i < l.length
    · obtain ⟨b, o, cap, rfl, hr, hc⟩ := isL_held hv hin
      obtain ⟨x, hx⟩ : ∃ x, l[i]? = some x := ⟨_, List.getElem?_eq_getElem hin⟩
      have hrx := flat_row encT hr hx
      rw [hx]
      by_cases hxm : x = m
      · repeat' (first | with_reducible refine RunLN.boolT rfl ?_ | (with_reducible refine RunLN.decT ?_ ?_; focus omega) | (with_reducible refine RunLN.decF ?_ ?_; focus omega) | (with_reducible refine RunLN.eqT ?_ ?_; focus omega) | refine RunLN.int (by (first | exact wr_i64 (by omega) (by omega) | exact wm_i64 (by omega) | exact wq_i64 (by omega) (by omega) (by omega) | rfl)) ?_ | refine RunLN.any ?_ | refine RunL.ev Tryd.tOk rfl rfl rfl ?_ | refine RunL.unwantedD rfl rfl ?_ | refine RunL.evV rfl rfl rfl (OpV.load1 Tryd.tOk rfl rfl rfl ((hrx.up X) 0 _ rfl)) ?_ | refine RunL.evV rfl rfl rfl (OpV.indexS Tryd.tOk _ rfl rfl rfl rfl (by omega)) ?_ | refine RunE.condF rfl rfl ?_ | refine RunE.seq ?_ | refine RunE.region ?_ | refine RunL.nil ?_ | refine RunE.exit rfl ?_)
        refine RunE.retFn Tryd.func54 (.tmp rfl (.tmp rfl .nil)) ⟨?_, X⟩
        simp only [oneOr]
        rw [decide_eq_true hxm]
      · repeat' (first | with_reducible refine RunLN.boolT rfl ?_ | with_reducible refine RunLN.boolF rfl ?_ | (with_reducible refine RunLN.decT ?_ ?_; focus omega) | (with_reducible refine RunLN.decF ?_ ?_; focus omega) | (with_reducible refine RunLN.eqF ?_ ?_; focus omega) | refine RunLN.int (by (first | exact wr_i64 (by omega) (by omega) | exact wm_i64 (by omega) | exact wq_i64 (by omega) (by omega) (by omega) | rfl)) ?_ | refine RunLN.any ?_ | refine RunL.ev Tryd.tOk rfl rfl rfl ?_ | refine RunL.unwantedD rfl rfl ?_ | refine RunL.evV rfl rfl rfl (OpV.load1 Tryd.tOk rfl rfl rfl ((hrx.up X) 0 _ rfl)) ?_ | refine RunL.callN rfl rfl rfl (snaN_ok _ _) ?_ | refine RunL.evV rfl rfl rfl (OpV.indexS Tryd.tOk _ rfl rfl rfl rfl (by omega)) ?_ | refine RunE.condF rfl rfl ?_ | refine RunE.seq ?_ | refine RunE.region ?_ | refine RunL.nil ?_ | refine RunE.exit rfl ?_)
        refine RunE.retFn Tryd.func54 (.tmp rfl (.tmp rfl .nil)) ⟨?_, X⟩
        simp only [oneOr]
        rw [decide_eq_false hxm]
    · rw [List.getElem?_eq_none (by omega)]
      repeat' (first | with_reducible refine RunLN.boolF rfl ?_ | (with_reducible refine RunLN.decF ?_ ?_; focus omega) | refine RunLN.int (by (first | exact wr_i64 (by omega) (by omega) | exact wm_i64 (by omega) | exact wq_i64 (by omega) (by omega) (by omega) | rfl)) ?_ | refine RunL.ev Tryd.tOk rfl rfl rfl ?_ | refine RunL.unwantedD rfl rfl ?_ | refine RunE.condF rfl rfl ?_ | refine RunE.seq ?_ | refine RunE.region ?_ | refine RunL.nil ?_ | refine RunE.exit rfl ?_)
      exact RunE.retFn Tryd.func54 (.tmp rfl (.tmp rfl .nil)) ⟨rfl, X⟩
end Go.Sg
end
