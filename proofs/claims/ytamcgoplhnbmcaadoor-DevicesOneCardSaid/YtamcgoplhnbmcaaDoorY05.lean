/- Parts of this project that the claims share: DevD, DevE, Dev2, DevP, Iter, Cmp, Dev8, Dev9, Cod1, Bits, Sha1, ShaS, CodS, Cod2. -/
import Derived.Test.YtamcgoplhnbmcaaDoorY04
import Derived.Test.YtamcgoplhnbmcaaDoorY03
import Derived.Lib.AppendStr
import Derived.Test.YtamcgoplhnbmcaaDoorY02
set_option linter.unusedSimpArgs false
set_option linter.unusedVariables false
set_option linter.unusedSectionVars false
section
/- Devices: equality, what is few, right. -/
namespace Go.Sg
open Go.Rn Go.Proofs Go.Dev Go.Rec Go.Best Go.RowKit
attribute [local irreducible] Go.Rn.RetsX Go.Rn.RunLN Go.Rn.AsyN Go.Rn.RunL Go.Rn.RunE Go.Rn.Asy Go.Rn.OpV Go.Rn.OpE Go.Rn.ExecE
theorem devFlat : Flat Tryd.prog 57 [(3, .int .i64), (3, .int .i64), (3, .int .i64), (3, .int .i64), (3, .int .i64), (4, .bool)] :=
  ⟨by kernel_rfl, by kernel_rfl, by kernel_rfl, by kernel_rfl, by kernel_rfl, fun x hx => by
    simp only [List.mem_cons, List.not_mem_nil, or_false] at hx
    rcases hx with rfl | rfl | rfl | rfl | rfl | rfl
    · exact ⟨Tryd.underlying3, by kernel_rfl, by kernel_rfl⟩
    · exact ⟨Tryd.underlying3, by kernel_rfl, by kernel_rfl⟩
    · exact ⟨Tryd.underlying3, by kernel_rfl, by kernel_rfl⟩
    · exact ⟨Tryd.underlying3, by kernel_rfl, by kernel_rfl⟩
    · exact ⟨Tryd.underlying3, by kernel_rfl, by kernel_rfl⟩
    · exact ⟨Tryd.underlying4, by kernel_rfl, by kernel_rfl⟩⟩
theorem devFits (x : Dev) : fits [(3, FK.int .i64), (3, FK.int .i64), (3, FK.int .i64), (3, FK.int .i64), (3, FK.int .i64), (4, FK.bool)] x.cells := by
  obtain ⟨a, b, c, d, e, f⟩ := x
  refine ⟨rfl, fun i y h => ?_⟩
  rcases i with _ | _ | _ | _ | _ | _ | n
  all_goals (simp only [List.getElem?_cons_zero, List.getElem?_cons_succ, List.getElem?_nil, Option.some.injEq, reduceCtorEq] at h)
  all_goals (subst h; exact ⟨_, rfl, _, rfl⟩)
theorem devEq (x y : Dev) : eqAll x.cells y.cells = decide (x = y) := by
  obtain ⟨a, b, c, d, e, f⟩ := x; obtain ⟨a', b', c', d', e', f'⟩ := y
  simp [eqAll, veq, Dev.cells]
  rw [Bool.eq_iff_iff]; simp
set_option maxHeartbeats 1000000 in
theorem rsame48_ok (a b : List Dev) (u v : Value) (w : World) (ha : IsL w Dev.cells 6 u a) (hb : IsL w Dev.cells 6 v b) (hla : a.length < 9223372036854775808) (hlb : b.length < 9223372036854775808) :
    Rets Tryd.prog 36 [u, v] w fun r w' => r = .bool (decide (a = b)) ∧ Ext w w' := by
  refine RetsX.of (nt := 26) Tryd.func36 (by kernel_rfl) rfl rfl (by simp) (by simp only [argEnv]; rfl) ?_
  have X := ExtB.refl (fun _ => False) w
  repeat' (first | with_reducible refine RunLN.boolF rfl ?_ | refine RunLN.any ?_ | refine RunL.ev Tryd.tOk rfl rfl rfl ?_ | refine RunE.seq ?_ | refine RunE.region ?_ | refine RunL.nil ?_)
  refine RunL.evV rfl rfl rfl (OpV.lenSl Tryd.tOk rfl rfl ha) ?_
  repeat' (first | refine RunLN.int (by (first | exact wr_i64 (by omega) (by omega) | exact wm_i64 (by omega) | exact wq_i64 (by omega) (by omega) (by omega) | rfl)) ?_ | refine RunLN.any ?_ | refine RunL.ev Tryd.tOk rfl rfl rfl ?_)
  refine RunL.evV rfl rfl rfl (OpV.lenSl Tryd.tOk rfl rfl hb) ?_
  by_cases hl : a.length = b.length
  · repeat' (first | (with_reducible refine RunLN.neF ?_ ?_; focus omega) | refine RunLN.int (by (first | exact wr_i64 (by omega) (by omega) | exact wm_i64 (by omega) | exact wq_i64 (by omega) (by omega) (by omega) | rfl)) ?_ | refine RunL.ev Tryd.tOk rfl rfl rfl ?_ | refine RunE.condF rfl rfl ?_ | refine RunE.seq ?_ | refine RunE.region ?_ | refine RunL.nil ?_ | refine RunE.block ?_ | refine RunE.skip ?_)
    refine RunE.loop (ι := Nat) (fun i => [(0, u), (1, v), (5, .int .i64 (i : Int))]) (fun i w' => i ≤ a.length ∧ a.take i = b.take i ∧ Ext w w') (fun i => a.length - i) 0 (by repeat (first | exact Sub.nil _ | refine Sub.cons rfl ?_)) ⟨Nat.zero_le _, by simp, X⟩ ?_
    clear X
    rintro i w3 ⟨hi, hp, X⟩ again
    obtain ⟨s1, s2⟩ := same_lists hl hp
    by_cases hlt : i < a.length
    · obtain ⟨b1, o1, c1, rfl, hr1, hc1⟩ := isL_held ha hlt
      obtain ⟨b2, o2, c2, rfl, hr2, hc2⟩ := isL_held hb (i := i) (by omega)
      obtain ⟨x, hx⟩ : ∃ x, a[i]? = some x := ⟨_, List.getElem?_eq_getElem hlt⟩
      obtain ⟨y, hy⟩ : ∃ y, b[i]? = some y := ⟨_, List.getElem?_eq_getElem (by omega)⟩
      have hrx := flat_row encD hr1 hx
      have hry := flat_row encD hr2 hy
      obtain ⟨s3, s4⟩ := s2 x y hx hy
      repeat' (first | (with_reducible refine RunLN.decT ?_ ?_; focus omega) | refine RunLN.int (by (first | exact wr_i64 (by omega) (by omega) | exact wm_i64 (by omega) | exact wq_i64 (by omega) (by omega) (by omega) | rfl)) ?_ | refine RunLN.any ?_ | refine RunL.ev Tryd.tOk rfl rfl rfl ?_ | refine RunE.condT rfl rfl ?_ | refine RunE.seq ?_ | refine RunE.region ?_ | refine RunL.nil ?_ | refine RunE.block ?_ | refine RunE.skip ?_)
      refine RunE.draw (fun _ => False) mix ?_
      intro wd_ Xd_
      by_cases hxy : x = y
      · have e : eqAll (Dev.cells x) (Dev.cells y) = true := by rw [devEq, decide_eq_true hxy]
        repeat' (first | refine AsyN.int (by (first | exact wr_i64 (by omega) (by omega) | exact wm_i64 (by omega) | exact wq_i64 (by omega) (by omega) (by omega) | rfl)) ?_ | refine AsyN.any ?_ | refine Asy.ev Tryd.tOk rfl rfl rfl ?_ | refine Asy.evV rfl rfl rfl rfl (fun _ X_ => OpV.loadN Tryd.tOk rfl rfl rfl rfl (hrx.up (X.trans (Xd_.trans X_)))) ?_ | refine Asy.evV rfl rfl rfl rfl (fun _ X_ => OpV.loadN Tryd.tOk rfl rfl rfl rfl (hry.up (X.trans (Xd_.trans X_)))) ?_ | refine Asy.evV rfl rfl rfl rfl (fun _ X_ => (OpV.neFlat devFlat (xs := Dev.cells x) (ys := Dev.cells y) rfl rfl (devFits x) (devFits y))) ?_ | refine Asy.evV rfl rfl rfl rfl (fun _ X_ => OpV.indexS Tryd.tOk _ rfl rfl rfl rfl (by omega)) ?_)
        rw [e]
        skip
        refine Asy.end_ (by kernel_rfl) ?_
        intro we_ Xe_
        replace X := X.trans (Xd_.trans Xe_)
        repeat' (first | refine RunLN.int (by (first | exact wr_i64 (by omega) (by omega) | exact wm_i64 (by omega) | exact wq_i64 (by omega) (by omega) (by omega) | rfl)) ?_ | refine RunL.ev Tryd.tOk rfl rfl rfl ?_ | refine RunE.condF rfl rfl ?_ | refine RunE.region ?_ | refine RunL.nil ?_ | refine RunE.inBlock ?_ | refine RunE.skip ?_)
        exact RunE.weaken (by repeat (first | exact Sub.nil _ | refine Sub.cons rfl ?_)) (again (i + 1) _ (by omega) ⟨by omega, s3 hxy, X⟩)
      · have e : eqAll (Dev.cells x) (Dev.cells y) = false := by rw [devEq, decide_eq_false hxy]
        repeat' (first | refine AsyN.int (by (first | exact wr_i64 (by omega) (by omega) | exact wm_i64 (by omega) | exact wq_i64 (by omega) (by omega) (by omega) | rfl)) ?_ | refine AsyN.any ?_ | refine Asy.ev Tryd.tOk rfl rfl rfl ?_ | refine Asy.evV rfl rfl rfl rfl (fun _ X_ => OpV.loadN Tryd.tOk rfl rfl rfl rfl (hrx.up (X.trans (Xd_.trans X_)))) ?_ | refine Asy.evV rfl rfl rfl rfl (fun _ X_ => OpV.loadN Tryd.tOk rfl rfl rfl rfl (hry.up (X.trans (Xd_.trans X_)))) ?_ | refine Asy.evV rfl rfl rfl rfl (fun _ X_ => (OpV.neFlat devFlat (xs := Dev.cells x) (ys := Dev.cells y) rfl rfl (devFits x) (devFits y))) ?_ | refine Asy.evV rfl rfl rfl rfl (fun _ X_ => OpV.indexS Tryd.tOk _ rfl rfl rfl rfl (by omega)) ?_)
        rw [e]
        skip
        refine Asy.end_ (by kernel_rfl) ?_
        intro we_ Xe_
        replace X := X.trans (Xd_.trans Xe_)
        repeat' (first | with_reducible refine RunLN.boolF rfl ?_ | refine RunL.ev Tryd.tOk rfl rfl rfl ?_ | refine RunE.condT rfl rfl ?_ | refine RunE.seq ?_ | refine RunE.region ?_ | refine RunL.nil ?_)
        exact RunE.retFn Tryd.func36 (.tmp rfl .nil) ⟨by rw [decide_eq_false (s4 hxy)]; rfl, X⟩
    · have hil : i = a.length := by omega
      repeat' (first | with_reducible refine RunLN.boolT rfl ?_ | (with_reducible refine RunLN.decF ?_ ?_; focus omega) | refine RunLN.int (by (first | exact wr_i64 (by omega) (by omega) | exact wm_i64 (by omega) | exact wq_i64 (by omega) (by omega) (by omega) | rfl)) ?_ | refine RunLN.any ?_ | refine RunL.ev Tryd.tOk rfl rfl rfl ?_ | refine RunL.evV rfl rfl rfl (OpV.lenSl Tryd.tOk rfl rfl ha) ?_ | refine RunE.condF rfl rfl ?_ | refine RunE.seq ?_ | refine RunE.region ?_ | refine RunL.nil ?_ | refine RunE.exit rfl ?_)
      exact RunE.retFn Tryd.func36 (.tmp rfl .nil) ⟨by rw [decide_eq_true (s1 hil)]; rfl, X⟩
  · have hne : a ≠ b := fun e => hl (by rw [e])
    repeat' (first | with_reducible refine RunLN.boolF rfl ?_ | (with_reducible refine RunLN.neT ?_ ?_; focus omega) | refine RunLN.int (by (first | exact wr_i64 (by omega) (by omega) | exact wm_i64 (by omega) | exact wq_i64 (by omega) (by omega) (by omega) | rfl)) ?_ | refine RunL.ev Tryd.tOk rfl rfl rfl ?_ | refine RunE.condT rfl rfl ?_ | refine RunE.seq ?_ | refine RunE.region ?_ | refine RunL.nil ?_)
    exact RunE.retFn Tryd.func36 (.tmp rfl .nil) ⟨by rw [decide_eq_false hne]; rfl, X⟩
def fewD (l : List Dev) : Bool := decide (l.length ≤ 20 ∨ (1024 < l.length ∧ l.length ≤ 1100))
theorem few48_ok (l : List Dev) (v : Value) (w : World) (hv : LD w v l) (hl : l.length < 9223372036854775808) : Rets Tryd.prog 31 [v] w fun r w' => r = .bool (fewD l) ∧ w = w' := by
  refine RetsX.of (nt := 16) Tryd.func31 (by kernel_rfl) rfl rfl (by simp) (by simp only [argEnv]; rfl) ?_
  repeat' (first | with_reducible refine RunLN.boolT rfl ?_ | with_reducible refine RunLN.boolF rfl ?_ | refine RunLN.int (by (first | exact wr_i64 (by omega) (by omega) | exact wm_i64 (by omega) | exact wq_i64 (by omega) (by omega) (by omega) | rfl)) ?_ | (refine RunLN.boolC (fun h_ => ?_) (fun h_ => ?_) <;> (try simp only [decide_eq_true_eq, decide_eq_false_iff_not, beq_iff_eq, bne_iff_ne, ne_eq, Bool.not_eq_true, Bool.not_eq_false, beq_eq_false_iff_ne, bne_eq_false_iff_eq, Bool.not_eq_eq_eq_not, Bool.not_true, Bool.not_false, Bool.not_not, Int.not_lt, Int.not_le, gt_iff_lt, ge_iff_le, Decidable.not_not] at h_)) | refine RunLN.any ?_ | refine RunL.ev Tryd.tOk rfl rfl rfl ?_ | refine RunL.unwantedD rfl rfl ?_ | refine RunL.evV rfl rfl rfl (OpV.lenSl Tryd.tOk rfl rfl hv) ?_ | refine RunE.seq ?_ | refine RunE.region ?_ | refine RunL.nil ?_)
  all_goals
    refine RunE.retFn Tryd.func31 (.tmp rfl .nil) ⟨?_, rfl⟩
    simp only [oneOr]
    congr 1
    unfold fewD
    first | exact (decide_eq_true (by omega)).symm | exact (decide_eq_false (by omega)).symm
end Go.Sg
end
section
/- Devices: right. -/
namespace Go.Dev
open Go.Rn Go.Rec
@[reducible] def intC (x : Int) : List Value := [.int .i64 x]
theorem encT : EncOk intC 1 := ⟨fun _ => rfl, fun _ => rfl, by decide⟩
def timeT (t : Int) : Bool := decide (0 ≤ t ∧ t < 1099511627776)
def rightQ (l : List Dev) (p : Int) (ts : List Int) : Bool := ts.all timeT && decide (l.length ≤ 20 ∧ chkD l = 0 ∧ 0 ≤ p ∧ p < 64)
end Go.Dev
namespace Go.Sg
open Go.Rn Go.Proofs Go.Dev Go.Rec Go.Best Go.RowKit
attribute [local irreducible] Go.Rn.RetsX Go.Rn.RunLN Go.Rn.AsyN Go.Rn.RunL Go.Rn.RunE Go.Rn.Asy Go.Rn.OpV Go.Rn.OpE Go.Rn.ExecE
set_option maxHeartbeats 1000000 in
theorem right48_ok (l : List Dev) (v u : Value) (p : Int) (ts : List Int) (w : World) (hv : LD w v l) (hl : l.length < 9223372036854775808) (hu : IsL w intC 1 u ts) (ht : ts.length < 9223372036854775808) :
    Rets Tryd.prog 41 [v, .int .i64 p, u] w fun r w' => r = .bool (rightQ l p ts) ∧ Ext w w' := by
  refine RetsX.of (nt := 31) Tryd.func41 (by kernel_rfl) rfl rfl (by simp) (by simp only [argEnv]; rfl) ?_
  have X := ExtB.refl (fun _ => False) w
  repeat' (first | with_reducible refine RunLN.boolF rfl ?_ | refine RunLN.int (by (first | exact wr_i64 (by omega) (by omega) | exact wm_i64 (by omega) | exact wq_i64 (by omega) (by omega) (by omega) | rfl)) ?_ | refine RunLN.any ?_ | refine RunL.ev Tryd.tOk rfl rfl rfl ?_ | refine RunL.evV rfl rfl rfl (OpV.lenSl Tryd.tOk rfl rfl hu) ?_ | refine RunE.seq ?_ | refine RunE.region ?_ | refine RunL.nil ?_ | refine RunE.block ?_)
  refine RunE.loop (ι := Nat) (fun i => [(0, v), (1, .int .i64 p), (2, u), (9, u), (10, .int .i64 (ts.length : Int)), (11, .int .i64 (i : Int))]) (fun i w' => i ≤ ts.length ∧ (ts.take i).all timeT = true ∧ Ext w w') (fun i => ts.length - i) 0 (by repeat (first | exact Sub.nil _ | refine Sub.cons rfl ?_)) ⟨Nat.zero_le _, by simp, X⟩ ?_
  clear X
  rintro i w3 ⟨hi, hp, X⟩ again
  by_cases hlt : i < ts.length
  · obtain ⟨b1, o1, c1, rfl, hr1, hc1⟩ := isL_held hu hlt
    obtain ⟨x, hx⟩ : ∃ x, ts[i]? = some x := ⟨_, List.getElem?_eq_getElem hlt⟩
    have hrx := flat_row encT hr1 hx
    have hc := r48Time_ok x
    by_cases hxt : 0 ≤ x ∧ x < 1099511627776
    · have e1 : (ts.take (i + 1)).all timeT = true := by
        rw [List.take_add_one, hx, List.all_append, hp]
        simp [timeT, hxt]
      repeat' (first | (with_reducible refine RunLN.decT ?_ ?_; focus omega) | refine RunLN.any ?_ | refine RunL.ev Tryd.tOk rfl rfl rfl ?_ | refine RunL.evV rfl rfl rfl (OpV.indexS Tryd.tOk _ rfl rfl rfl rfl (by omega)) ?_ | refine RunE.condT rfl rfl ?_ | refine RunE.seq ?_ | refine RunE.region ?_ | refine RunL.nil ?_ | refine RunE.block ?_ | refine RunE.skip ?_)
      refine RunL.evV rfl rfl rfl (OpV.load1 Tryd.tOk rfl rfl rfl ((hrx.up X) 0 _ rfl)) ?_
      repeat' (first | with_reducible refine RunLN.boolF rfl ?_ | (with_reducible refine RunLN.decT ?_ ?_; focus omega) | refine RunLN.int (by (first | exact wr_i64 (by omega) (by omega) | exact wm_i64 (by omega) | exact wq_i64 (by omega) (by omega) (by omega) | rfl)) ?_ | refine RunL.ev Tryd.tOk rfl rfl rfl ?_ | refine RunL.callN rfl rfl rfl (hc _) ?_ | refine RunE.condF rfl rfl ?_ | refine RunE.seq ?_ | refine RunE.region ?_ | refine RunL.nil ?_ | refine RunE.inBlock ?_ | refine RunE.skip ?_)
      all_goals first
        | (exfalso; omega)
        | exact RunE.weaken (by repeat (first | exact Sub.nil _ | refine Sub.cons rfl ?_)) (again (i + 1) _ (by omega) ⟨by omega, e1, X⟩)
    · have e1 : rightQ l p ts = false := by
        have : ts.all timeT = false := by
          rw [List.all_eq_false]
          exact ⟨x, List.mem_of_getElem? hx, by simp [timeT]; omega⟩
        unfold rightQ; rw [this]; rfl
      repeat' (first | (with_reducible refine RunLN.decT ?_ ?_; focus omega) | refine RunLN.any ?_ | refine RunL.ev Tryd.tOk rfl rfl rfl ?_ | refine RunL.evV rfl rfl rfl (OpV.indexS Tryd.tOk _ rfl rfl rfl rfl (by omega)) ?_ | refine RunE.condT rfl rfl ?_ | refine RunE.seq ?_ | refine RunE.region ?_ | refine RunL.nil ?_ | refine RunE.block ?_ | refine RunE.skip ?_)
      refine RunL.evV rfl rfl rfl (OpV.load1 Tryd.tOk rfl rfl rfl ((hrx.up X) 0 _ rfl)) ?_
      repeat' (first | with_reducible refine RunLN.boolT rfl ?_ | with_reducible refine RunLN.boolF rfl ?_ | (with_reducible refine RunLN.decF ?_ ?_; focus omega) | refine RunLN.int (by (first | exact wr_i64 (by omega) (by omega) | exact wm_i64 (by omega) | exact wq_i64 (by omega) (by omega) (by omega) | rfl)) ?_ | refine RunL.ev Tryd.tOk rfl rfl rfl ?_ | refine RunL.callN rfl rfl rfl (hc _) ?_ | refine RunE.condT rfl rfl ?_ | refine RunE.seq ?_ | refine RunE.region ?_ | refine RunL.nil ?_)
      all_goals first
        | (exfalso; omega)
        | exact RunE.retFn Tryd.func41 (.tmp rfl .nil) ⟨by rw [e1]; rfl, X⟩
  · obtain rfl : i = ts.length := by omega
    rw [List.take_length] at hp
    have e1 : rightQ l p ts = decide (l.length ≤ 20 ∧ chkD l = 0 ∧ 0 ≤ p ∧ p < 64) := by unfold rightQ; rw [hp]; rfl
    clear again
    by_cases hs : l.length ≤ 20
    · repeat' (first | with_reducible refine RunLN.boolT rfl ?_ | (with_reducible refine RunLN.decT ?_ ?_; focus omega) | (with_reducible refine RunLN.decF ?_ ?_; focus omega) | refine RunLN.int (by (first | exact wr_i64 (by omega) (by omega) | exact wm_i64 (by omega) | exact wq_i64 (by omega) (by omega) (by omega) | rfl)) ?_ | refine RunLN.any ?_ | refine RunL.ev Tryd.tOk rfl rfl rfl ?_ | refine RunL.evV rfl rfl rfl (OpV.lenSl Tryd.tOk rfl rfl hv) ?_ | refine RunE.condF rfl rfl ?_ | refine RunE.seq ?_ | refine RunE.region ?_ | refine RunL.nil ?_ | refine RunE.exit rfl ?_)
      refine RunL.call rfl rfl rfl (rcheck48_ok l v _ (hv.up X) hl) ?_
      rintro _ _ ⟨rfl, Xa_⟩
      replace X := X.trans Xa_
      clear Xa_
      generalize chkD l = c at *
      repeat' (first | with_reducible refine RunLN.boolT rfl ?_ | with_reducible refine RunLN.boolF rfl ?_ | refine RunLN.int (by (first | exact wr_i64 (by omega) (by omega) | exact wm_i64 (by omega) | exact wq_i64 (by omega) (by omega) (by omega) | rfl)) ?_ | (refine RunLN.boolC (fun h_ => ?_) (fun h_ => ?_) <;> (try simp only [decide_eq_true_eq, decide_eq_false_iff_not, beq_iff_eq, bne_iff_ne, ne_eq, Bool.not_eq_true, Bool.not_eq_false, beq_eq_false_iff_ne, bne_eq_false_iff_eq, Bool.not_eq_eq_eq_not, Bool.not_true, Bool.not_false, Bool.not_not, Int.not_lt, Int.not_le, gt_iff_lt, ge_iff_le, Decidable.not_not] at h_)) | refine RunL.ev Tryd.tOk rfl rfl rfl ?_ | refine RunL.unwantedD rfl rfl ?_ | refine RunL.callN rfl rfl rfl (r48Person_ok _ _) ?_ | refine RunL.nil ?_)
      all_goals
        refine RunE.retFn Tryd.func41 (.tmp rfl .nil) ⟨?_, X⟩
        rw [e1]
        simp only [oneOr]
        congr 1
        first | exact (decide_eq_true (by omega)).symm | exact (decide_eq_false (by omega)).symm
    · repeat' (first | with_reducible refine RunLN.boolF rfl ?_ | (with_reducible refine RunLN.decF ?_ ?_; focus omega) | refine RunLN.int (by (first | exact wr_i64 (by omega) (by omega) | exact wm_i64 (by omega) | exact wq_i64 (by omega) (by omega) (by omega) | rfl)) ?_ | refine RunLN.any ?_ | refine RunL.ev Tryd.tOk rfl rfl rfl ?_ | refine RunL.unwantedD rfl rfl ?_ | refine RunL.evV rfl rfl rfl (OpV.lenSl Tryd.tOk rfl rfl hv) ?_ | refine RunE.condF rfl rfl ?_ | refine RunE.seq ?_ | refine RunE.region ?_ | refine RunL.nil ?_ | refine RunE.exit rfl ?_)
      all_goals
        refine RunE.retFn Tryd.func41 (.tmp rfl .nil) ⟨?_, X⟩
        rw [e1]
        simp only [oneOr]
        congr 1
        first | exact (decide_eq_true (by omega)).symm | exact (decide_eq_false (by omega)).symm
end Go.Sg
end
section
/- Devices: Check. -/
namespace Go.Sg
open Go.Rn Go.Proofs Go.Dev Go.Rec Go.Best Go.NT
attribute [local irreducible] Go.Rn.RetsX Go.Rn.RunLN Go.Rn.AsyN Go.Rn.RunL Go.Rn.RunE Go.Rn.Asy Go.Rn.OpV Go.Rn.OpE Go.Rn.ExecE
theorem intKey : KeyOk Tryd.prog 3 (Value.int .i64) fun _ => True := keyOk_int Tryd.underlying3
set_option maxHeartbeats 2000000 in
theorem dcheck_ok (l : List Dev) (v : Value) (w : World) (hv : LD w v l) (hl : l.length < 9223372036854775808) : Rets Tryd.prog 34 [v] w fun r w' => r = .int .i64 (chkD l) ∧ Ext w w' := by
  refine RetsX.of (nt := 41) Tryd.func34 (by kernel_rfl) rfl rfl (by simp) (by simp only [argEnv]; rfl) ?_
  have X := ExtB.refl (fun _ => False) w
  repeat' (first | refine RunLN.int (by (first | exact wr_i64 (by omega) (by omega) | exact wm_i64 (by omega) | exact wq_i64 (by omega) (by omega) (by omega) | rfl)) ?_ | (refine RunLN.boolC (fun h_ => ?_) (fun h_ => ?_) <;> (try simp only [decide_eq_true_eq, decide_eq_false_iff_not, beq_iff_eq, bne_iff_ne, ne_eq, Bool.not_eq_true, Bool.not_eq_false, beq_eq_false_iff_ne, bne_eq_false_iff_eq, Bool.not_eq_eq_eq_not, Bool.not_true, Bool.not_false, Bool.not_not, Int.not_lt, Int.not_le, gt_iff_lt, ge_iff_le, Decidable.not_not] at h_)) | refine RunLN.any ?_ | refine RunL.ev Tryd.tOk rfl rfl rfl ?_ | refine RunL.evV rfl rfl rfl (OpV.lenSl Tryd.tOk rfl rfl hv) ?_ | refine RunE.condT rfl rfl ?_ | refine RunE.condF rfl rfl ?_ | refine RunE.seq ?_ | refine RunE.region ?_ | refine RunL.nil ?_ | refine RunE.skip ?_)
  · exact RunE.retFn Tryd.func34 (.tmp rfl .nil) ⟨by simp only [oneOr]; unfold chkD; rw [if_pos (by omega)], X⟩
  refine RunL.ex rfl rfl rfl (OpE.makeMap (Value.int .i64) (fun _ => True)) ?_
  rintro _ w1 ⟨BM, rfl, a, ZM⟩
  have gBM := a.ge X
  replace X := X.trans a.ext
  clear a
  repeat' (first | refine RunLN.int (by (first | exact wr_i64 (by omega) (by omega) | exact wm_i64 (by omega) | exact wq_i64 (by omega) (by omega) (by omega) | rfl)) ?_ | refine RunLN.any ?_ | refine RunL.ev Tryd.tOk rfl rfl rfl ?_ | refine RunL.evV rfl rfl rfl (OpV.lenSl Tryd.tOk rfl rfl hv) ?_ | refine RunE.seq ?_ | refine RunE.region ?_ | refine RunL.nil ?_ | refine RunE.block ?_)
  refine RunE.loop (ι := Nat × Int × List (Int × Value)) (fun s => [(3, .map (some BM)), (4, .int .i64 s.2.1), (11, v), (12, .int .i64 (l.length : Int)), (13, .int .i64 (s.1 : Int))])
    (fun s w' => s.1 ≤ l.length ∧ goodL (l.take s.1) s.2.1 (l.drop s.1) = goodL [] (-1) l ∧ UsedM s.2.2 (l.take s.1) ∧ MapK (Value.int .i64) (fun _ => True) w' BM s.2.2 ∧ Ext w w') (fun s => l.length - s.1) (0, -1, []) (by repeat (first | exact Sub.nil _ | refine Sub.cons rfl ?_)) ⟨Nat.zero_le _, rfl, usedM_nil, ZM, X⟩ ?_
  clear X ZM
  rintro ⟨i, last, m⟩ w3 ⟨hi, hg, hu, ZM, X⟩ again
  simp only at hi hg hu ZM X again ⊢
  by_cases hlt : i < l.length
  · obtain ⟨b, o, cap, rfl, hr, hc⟩ := isL_held hv hlt
    obtain ⟨x, hx⟩ : ∃ x, l[i]? = some x := ⟨_, List.getElem?_eq_getElem hlt⟩
    have hrx := flat_row encD hr hx
    have hd : l.drop i = x :: l.drop (i + 1) := by
      obtain ⟨hi, e⟩ := List.getElem?_eq_some_iff.1 hx
      rw [List.drop_eq_getElem_cons hi, e]
    have ht : l.take (i + 1) = l.take i ++ [x] := by rw [List.take_add_one, hx]; rfl
    rw [hd] at hg
    simp only [goodL] at hg
    repeat' (first | (with_reducible refine RunLN.decT ?_ ?_; focus omega) | refine RunLN.any ?_ | refine RunL.ev Tryd.tOk rfl rfl rfl ?_ | refine RunL.evV rfl rfl rfl (OpV.loadN Tryd.tOk rfl rfl rfl rfl (hrx.up X)) ?_ | refine RunL.evV rfl rfl rfl (OpV.indexS Tryd.tOk _ rfl rfl rfl rfl (by omega)) ?_ | refine RunE.condT rfl rfl ?_ | refine RunE.seq ?_ | refine RunE.region ?_ | refine RunL.nil ?_ | refine RunE.block ?_ | refine RunE.skip ?_)
    refine RunL.alloc Tryd.tOk rfl rfl rfl fun B6 w6_ a_ => ?_
    have Z6 : Blk w6_ B6 (zeroD.cells) 57 := a_.at_
    have gB6 := a_.ge X
    have nM_6 : BM ≠ B6 := by have := ZM.lt; have := a_.eq; omega
    have n6_M : B6 ≠ BM := Ne.symm nM_6
    replace ZM := ZM.up a_.ext
    replace X := X.trans a_.ext
    clear a_
    skip
    refine RunL.store Tryd.tOk rfl rfl rfl rfl rfl Z6 rfl rfl fun w_ t_ => ?_
    replace X := X.own t_.ext gB6
    replace ZM := ZM.other t_.ext nM_6
    replace Z6 : Blk w_ B6 (x.cells) 57 := t_.at_
    clear t_
    repeat' (first | refine RunLN.any ?_ | refine RunL.evV rfl rfl rfl (OpV.loadN Tryd.tOk rfl rfl rfl rfl (Blk.row Z6)) ?_ | refine RunE.seq ?_ | refine RunE.region ?_ | refine RunL.nil ?_)
    refine RunL.call rfl rfl rfl (dright_ok x _) ?_
    rintro _ _ ⟨rfl, Xa_⟩
    replace Z6 := Z6.up Xa_
    replace ZM := ZM.up Xa_
    replace X := X.trans Xa_
    clear Xa_
    cases hrt : rightD x with
    | false =>
      rw [hrt, Bool.false_and, Bool.false_and, Bool.false_and] at hg
      repeat' (first | with_reducible refine RunLN.boolT rfl ?_ | refine RunLN.int (by (first | exact wr_i64 (by omega) (by omega) | exact wm_i64 (by omega) | exact wq_i64 (by omega) (by omega) (by omega) | rfl)) ?_ | refine RunL.ev Tryd.tOk rfl rfl rfl ?_ | refine RunL.unwantedD rfl rfl ?_ | refine RunE.condT rfl rfl ?_ | refine RunE.seq ?_ | refine RunE.region ?_ | refine RunL.nil ?_)
      exact RunE.retFn Tryd.func34 (.tmp rfl .nil) ⟨by simp only [oneOr]; unfold chkD; rw [if_neg (by omega), if_neg (by rw [← hg]; simp)], X⟩
    | true =>
      rw [hrt, Bool.true_and] at hg
      by_cases hlast : last < x.no
      · rw [decide_eq_true hlast, Bool.true_and] at hg
        obtain ⟨bu, hb1, hb2⟩ := hu x.key
        repeat' (first | with_reducible refine RunLN.boolF rfl ?_ | (with_reducible refine RunLN.decF ?_ ?_; focus omega) | refine RunLN.int (by (first | exact wr_i64 (by omega) (by omega) | exact wm_i64 (by omega) | exact wq_i64 (by omega) (by omega) (by omega) | rfl)) ?_ | refine RunLN.any ?_ | refine RunL.ev Tryd.tOk rfl rfl rfl ?_ | refine RunL.evV rfl rfl rfl (OpV.load1 Tryd.tOk rfl rfl rfl (Blk.cell Z6 rfl)) ?_)
        refine RunL.evV rfl rfl rfl (OpV.lookup (kv := Value.int .i64) (good := fun _ => True) (k := x.key) (z := .bool false) Tryd.underlying42 intKey (by kernel_rfl) rfl rfl trivial ZM) ?_
        rw [hb1]
        cases bu with
        | true =>
          rw [← hb2, Bool.not_true, Bool.false_and] at hg
          repeat' (first | with_reducible refine RunLN.boolT rfl ?_ | refine RunLN.int (by (first | exact wr_i64 (by omega) (by omega) | exact wm_i64 (by omega) | exact wq_i64 (by omega) (by omega) (by omega) | rfl)) ?_ | refine RunL.ev Tryd.tOk rfl rfl rfl ?_ | refine RunE.condT rfl rfl ?_ | refine RunE.seq ?_ | refine RunE.region ?_ | refine RunL.nil ?_)
          exact RunE.retFn Tryd.func34 (.tmp rfl .nil) ⟨by simp only [oneOr]; unfold chkD; rw [if_neg (by omega), if_neg (by rw [← hg]; simp)], X⟩
        | false =>
          have hus := usedM_set hu hrt hb2.symm
          rw [← hb2, Bool.not_false, Bool.true_and, ← ht] at hg
          rw [← ht] at hus
          repeat' (first | with_reducible refine RunLN.boolF rfl ?_ | refine RunL.ev Tryd.tOk rfl rfl rfl ?_ | refine RunE.condF rfl rfl ?_ | refine RunL.nil ?_ | refine RunE.skip ?_)
          refine RunE.draw (fun _ => False) mix ?_
          intro wd_ Xd_
          repeat' (first | refine AsyN.int (by (first | exact wr_i64 (by omega) (by omega) | exact wm_i64 (by omega) | exact wq_i64 (by omega) (by omega) (by omega) | rfl)) ?_ | refine AsyN.any ?_ | refine Asy.ev Tryd.tOk rfl rfl rfl ?_ | refine Asy.evV rfl rfl rfl rfl (fun _ X_ => OpV.load1 Tryd.tOk rfl rfl rfl (Blk.cell (Z6.up (Xd_.trans X_)) rfl)) ?_)
          refine Asy.tail (by kernel_rfl) ?_
          intro we_ Xe_
          simp only [satsAll]
          have ZM' := (ZM.up Xd_).up Xe_
          replace X := X.trans (Xd_.trans Xe_)
          refine RunL.exN rfl rfl (OpE.mapSet (kv := Value.int .i64) (good := fun _ => True) (k := x.key) (v := .bool (!x.gone)) Tryd.underlying42 intKey rfl rfl rfl trivial ZM') ?_
          rintro _ w9 ⟨hM9, E9, -⟩
          replace X : Ext w w9 := X.write E9 (by intro k hk hlt; omega)
          repeat' (first | refine RunLN.int (by (first | exact wr_i64 (by omega) (by omega) | exact wm_i64 (by omega) | exact wq_i64 (by omega) (by omega) (by omega) | rfl)) ?_ | refine RunL.ev Tryd.tOk rfl rfl rfl ?_ | refine RunE.region ?_ | refine RunL.nil ?_ | refine RunE.inBlock ?_)
          exact RunE.weaken (by repeat (first | exact Sub.nil _ | refine Sub.cons rfl ?_)) (again (i + 1, x.no, setM x.key (.bool (!x.gone)) m) _ (by simp only; omega) ⟨by simp only; omega, hg, hus, hM9, X⟩)
      · rw [decide_eq_false hlast, Bool.false_and, Bool.false_and] at hg
        repeat' (first | with_reducible refine RunLN.boolT rfl ?_ | with_reducible refine RunLN.boolF rfl ?_ | (with_reducible refine RunLN.decT ?_ ?_; focus omega) | refine RunLN.int (by (first | exact wr_i64 (by omega) (by omega) | exact wm_i64 (by omega) | exact wq_i64 (by omega) (by omega) (by omega) | rfl)) ?_ | refine RunLN.any ?_ | refine RunL.ev Tryd.tOk rfl rfl rfl ?_ | refine RunL.unwantedD rfl rfl ?_ | refine RunL.evV rfl rfl rfl (OpV.load1 Tryd.tOk rfl rfl rfl (Blk.cell Z6 rfl)) ?_ | refine RunE.condT rfl rfl ?_ | refine RunE.seq ?_ | refine RunE.region ?_ | refine RunL.nil ?_)
        exact RunE.retFn Tryd.func34 (.tmp rfl .nil) ⟨by simp only [oneOr]; unfold chkD; rw [if_neg (by omega), if_neg (by rw [← hg]; simp)], X⟩
  · obtain rfl : i = l.length := by omega
    rw [List.drop_length] at hg
    simp only [goodL] at hg
    repeat' (first | (with_reducible refine RunLN.decF ?_ ?_; focus omega) | refine RunLN.int (by (first | exact wr_i64 (by omega) (by omega) | exact wm_i64 (by omega) | exact wq_i64 (by omega) (by omega) (by omega) | rfl)) ?_ | refine RunL.ev Tryd.tOk rfl rfl rfl ?_ | refine RunE.condF rfl rfl ?_ | refine RunE.seq ?_ | refine RunE.region ?_ | refine RunL.nil ?_ | refine RunE.exit rfl ?_)
    exact RunE.retFn Tryd.func34 (.tmp rfl .nil) ⟨by simp only [oneOr]; unfold chkD; rw [if_neg (by omega), if_pos hg.symm], X⟩
end Go.Sg
end
section
/- Devices: for the laws, plain. -/
namespace Go.Dev
open Go.Best Go.NT Go.Sg
theorem chkD_srt {l : List Dev} (h : chkD l = 0) : SrtD l ∧ (∀ x ∈ l, rightD x = true) ∧ KeysD l := (chkD_ok.1 h).2
theorem addED_ok {l : List Dev} {x : Dev} : addED l x = 0 ↔ chkD l = 0 ∧ rightD x = true ∧ (∀ y ∈ l, y.no ≠ x.no) ∧ usedD l x.key = false ∧ l.length ≠ 1024 := by
  unfold addED
  split
  · rename_i h
    split
    · rename_i h2
      split
      · rename_i h3
        simp only [Bool.or_eq_true, List.any_eq_true, decide_eq_true_eq] at h3
        refine ⟨fun h => absurd h (by decide), fun h => ?_⟩
        rcases h3 with ⟨y, hy, hyx⟩ | h3
        · exact absurd hyx (h.2.2.1 y hy)
        · rw [h.2.2.2.1] at h3; simp at h3
      · rename_i h3
        simp only [Bool.or_eq_true, List.any_eq_true, decide_eq_true_eq, not_or, not_exists, not_and, Bool.not_eq_true] at h3
        split
        · rename_i h4; exact ⟨fun h => absurd h (by decide), fun h => absurd h4 h.2.2.2.2⟩
        · rename_i h4; exact ⟨fun _ => ⟨h, h2, h3.1, h3.2, h4⟩, fun _ => rfl⟩
    · rename_i h2; exact ⟨fun h => absurd h (by decide), fun h => absurd h.2.1 h2⟩
  · rename_i h; exact ⟨fun h' => absurd h' h, fun h' => absurd h'.1 h⟩
theorem bestD_mem {l : List Dev} (hs : SrtD l) {p t time : Int} {x : Dev} (h : bestD l p t time = some x) : x ∈ l ∧ x.person = p ∧ x.known ≤ time ∧ x.at_ ≤ t := by
  obtain ⟨h1, h2⟩ := bst_mem (no := Dev.no) (hs.filter _) h
  obtain ⟨h3, h4⟩ := List.mem_filter.1 h1
  have h4 := of_decide_eq_true h4
  exact ⟨h3, h4.1, h4.2, h2⟩
theorem heldD_some {o : Option Dev} {x : Dev} : heldD o = some x ↔ o = some x ∧ x.gone = false := by
  cases o with
  | none => simp [heldD]
  | some y =>
    simp only [heldD]
    cases hg : y.gone with
    | true =>
      simp only [if_true, reduceCtorEq, false_iff, Option.some.injEq, not_and]
      rintro rfl; rw [hg]; simp
    | false =>
      simp only [Bool.false_eq_true, if_false, Option.some.injEq]
      constructor
      · rintro rfl; exact ⟨rfl, hg⟩
      · exact fun h => h.1
/-- As time goes on, later ones count. -/
theorem bestD_later {l : List Dev} (hs : SrtD l) {p t u time : Int} (htu : t ≤ u) {a : Dev} (ha : bestD l p t time = some a) : ∃ b, bestD l p u time = some b ∧ (a = b ∨ a.at_ < b.at_ ∨ (a.at_ = b.at_ ∧ a.no < b.no)) := by
  have hf := hs.filter (kd p time)
  have hA := bst_isB (at_ := Dev.at_) hf t
  rw [show bst Dev.at_ _ t = some a from ha] at hA
  have hB := bst_isB (at_ := Dev.at_) hf u
  cases hb : bst Dev.at_ (l.filter (kd p time)) u with
  | none => rw [hb] at hB; have := hB a hA.1; have := hA.2.1; omega
  | some b =>
    rw [hb] at hB
    refine ⟨b, hb, ?_⟩
    have h1 := hB.2.2 a hA.1 (by have := hA.2.1; omega)
    rcases h1 with h1 | ⟨h1, h2⟩
    · exact .inr (.inl h1)
    · rcases Int.lt_or_eq_of_le h2 with h3 | h3
      · exact .inr (.inr ⟨h1, h3⟩)
      · exact .inl (hf.inj a hA.1 b hB.1 h3)
theorem keys_ne {l : List Dev} (h : KeysD l) : ∀ {a b : Dev}, a ∈ l → b ∈ l → a ≠ b → a.key ≠ 0 → a.key ≠ b.key := by
  induction l with
  | nil => intro a b ha; simp at ha
  | cons c l ih =>
    intro a b ha hb hn hk
    obtain ⟨h1, h2⟩ := List.pairwise_cons.1 h
    rcases List.mem_cons.1 ha with e1 | ha'
    · rcases List.mem_cons.1 hb with e2 | hb'
      · exact absurd (e1.trans e2.symm) hn
      · subst e1
        intro e
        exact h1 b hb' (by rw [← e]; exact hk) e
    · rcases List.mem_cons.1 hb with e2 | hb'
      · subst e2
        intro e
        exact h1 a ha' hk e.symm
      · exact ih h2 ha' hb' hn hk
/-- Whoever was replaced comes no more. -/
theorem old_gone {l : List Dev} (hc : chkD l = 0) {p first then_ later time : Int} (h1 : first ≤ then_) (h2 : then_ ≤ later) {a : Dev} (ha : heldD (bestD l p first time) = some a)
    (hb : ∀ b, heldD (bestD l p then_ time) = some b → b.no ≠ a.no) {c : Dev} (hcc : heldD (bestD l p later time) = some c) : c.no ≠ a.no ∧ c.key ≠ a.key := by
  obtain ⟨hs, hr, hk⟩ := chkD_srt hc
  obtain ⟨ha1, ha2⟩ := heldD_some.1 ha
  obtain ⟨hc1, hc2⟩ := heldD_some.1 hcc
  obtain ⟨b, hb1, hab⟩ := bestD_later hs h1 ha1
  obtain ⟨c', hc1', hbc⟩ := bestD_later hs h2 hb1
  rw [hc1] at hc1'
  cases hc1'
  have hne : a ≠ b := by
    rintro rfl
    exact hb a (heldD_some.2 ⟨hb1, ha2⟩) rfl
  have hca : c ≠ a := by
    rintro rfl
    rcases hab with h | h | h
    · exact hne h
    · rcases hbc with e | e | e
      · subst e; exact hne rfl
      · omega
      · omega
    · rcases hbc with e | e | e
      · subst e; exact hne rfl
      · omega
      · omega
  have ham := (bestD_mem hs ha1).1
  have hcm := (bestD_mem hs hc1).1
  refine ⟨fun e => hca (hs.inj c hcm a ham e), fun e => ?_⟩
  have hck : c.key ≠ 0 := by
    have := right_key (hr c hcm)
    rw [hc2] at this
    exact of_decide_eq_false this.symm
  exact keys_ne hk hcm ham hca hck e
/-- Of other people, and later known: nothing. -/
theorem fold_leD {t : Int} : ∀ (f : List Dev) (b : Option Dev), (f.filter fun x => decide (x.at_ ≤ t)).foldl (pickS Dev.at_ t) b = f.foldl (pickS Dev.at_ t) b
  | [], _ => rfl
  | x :: f, b => by
    rw [List.filter_cons]
    by_cases h : x.at_ ≤ t
    · rw [if_pos (decide_eq_true h), List.foldl_cons, List.foldl_cons]; exact fold_leD f _
    · rw [if_neg (by simpa using h), List.foldl_cons]
      have : pickS Dev.at_ t b x = b := by unfold pickS; rw [if_neg h]
      rw [this]; exact fold_leD f b
def ownD (p t time : Int) (x : Dev) : Bool := decide (x.person = p ∧ x.known ≤ time ∧ x.at_ ≤ t)
theorem best_own (l : List Dev) (p t time : Int) : bestD (l.filter (ownD p t time)) p t time = bestD l p t time := by
  unfold bestD bst
  rw [← fold_leD (l.filter (kd p time)), List.filter_filter, List.filter_filter]
  congr 1
  refine List.filter_congr fun x _ => ?_
  unfold kd ownD
  rw [Bool.eq_iff_iff]
  simp
  omega
theorem chk_subD {l : List Dev} (hc : chkD l = 0) (q : Dev → Bool) : chkD (l.filter q) = 0 := by
  obtain ⟨h1, hs, hr, hk⟩ := chkD_ok.1 hc
  exact chkD_ok.2 ⟨Nat.le_trans (List.length_filter_le _ _) h1, hs.filter _, fun x hx => hr x (List.mem_filter.1 hx).1, hk.sublist List.filter_sublist⟩
theorem own_cur {l : List Dev} {p t time : Int} (hc : chkD l = 0) : curE (l.filter (ownD p t time)) p t time = curE l p t time ∧ curD (l.filter (ownD p t time)) p t time = curD l p t time := by
  have e : curE (l.filter (ownD p t time)) p t time = curE l p t time := by unfold curE; rw [if_pos hc, if_pos (chk_subD hc _)]
  exact ⟨e, by unfold curD; rw [e, best_own]⟩
end Go.Dev
end
section
/- Functions that are ranged over: what they give; a range that goes to its end. -/
namespace Go.Rn
open Go.RowKit
theorem obj_ext {S : Nat → Prop} {w w' : World} {b : Nat} {o : Obj} (h : w.heap[b]? = some o) (e : ExtB S w w') (hn : ¬ S b) : w'.heap[b]? = some o := by rw [e.block b (lt_of_get h) hn]; exact h
/-- f, called with a yield that goes on, hands it xs in this order; it reads no block outside F. -/
def Gives (P : Program) (f : Value) (xs : List (List Value)) (w0 : World) (F : Nat → Prop) : Prop :=
  ∀ (S : Nat → Prop) (J : Nat → World → Prop) (y : Value) (w : World), (∀ k, F k → ¬ S k) → J 0 w → (∀ i w1, J i w1 → ExtB S w0 w1) → (∀ i w1 w2, J i w1 → Ext w1 w2 → J i w2) →
    (∀ i x w1, xs[i]? = some x → J i w1 → FnV P y x w1 (fun r w2 => r = .bool true ∧ J (i + 1) w2) fun _ _ => False) → FnV P f [y] w (fun _ w' => J xs.length w') fun _ _ => False
theorem Gives.up {P : Program} {f : Value} {xs : List (List Value)} {w0 w1 : World} {F : Nat → Prop} (h : Gives P f xs w0 F) (e : Ext w0 w1) : Gives P f xs w1 F :=
  fun S J y w hS h0 hJ => h S J y w hS h0 fun i u hu => (ExtB.of_ext e).trans (hJ i u hu)
structure LoopAt (w : World) (L D : Nat) (lp : Loop) : Prop where
  l : w.heap[L]? = some (.loop lp)
  d : w.heap[D]? = some (.deferred (some []))
theorem LoopAt.ext {S : Nat → Prop} {w w' : World} {L D : Nat} {lp : Loop} (h : LoopAt w L D lp) (e : ExtB S w w') (h1 : ¬ S L) (h2 : ¬ S D) : LoopAt w' L D lp := ⟨obj_ext h.l e h1, obj_ext h.d e h2⟩
theorem LoopAt.up {w w' : World} {L D : Nat} {lp : Loop} (h : LoopAt w L D lp) (e : Ext w w') : LoopAt w' L D lp := h.ext e id id
/-- A round that ends at its end. -/
def RoundJ (L D : Nat) (lp : Loop) (K : World → Prop) : Out → Act → World → Prop
  | .fall, _, w => K w ∧ LoopAt w L D { lp with state := .busy }
  | _, _, _ => False
section
variable {P : Program} {c : Ctx} {k : List Item} {Q : Out → Act → World → Prop} {w : World} {n : Nat} {ds : List Deferred} {env : Env}
theorem RunE.beginR {fn : FuncId} {kind : CallKind} {L D : Nat} {lp : Loop} (hl : LoopAt w L D lp) (hs : lp.state = .ready) (hn : L ≠ D)
    (h : ∀ w', ExtB (· = L) w w' → LoopAt w' L D { lp with state := .busy } → RunE P ⟨fn, kind, some L⟩ n ds k Q env w') : RunE P ⟨fn, kind, some L⟩ n ds (.beginRound :: k) Q env w :=
  .beginRound hl.l hs fun w' t => h w' t.ext ⟨t.at_, obj_ext hl.d t.ext (fun e => hn e.symm)⟩
theorem RunE.endR {L D : Nat} {lp : Loop} {K : World → Prop} (hK : K w) (hl : LoopAt w L D { lp with state := .busy }) : RunE P c n ds [] (RoundJ L D lp K) env w := .nil fun _ _ => ⟨hK, hl⟩
theorem RunE.rangeGives {f : Operand} {params : Array Tmp} {assign body : Code} {fv : Value} {xs : List (List Value)} {w0 : World} {F : Nat → Prop} (hc : c.round = none) (hfn : ∃ g, P.funcs[c.fn]? = some g)
    (hf : evO env f = some fv) (hG : Gives P fv xs w0 F) (S0 : Nat → Prop) (hF : ∀ k, F k → ¬ S0 k ∧ k < w.heap.size) (hX : ExtB S0 w0 w)
    (hlen : ∀ x ∈ xs, x.length = params.toList.length) (hp : params.toList.all (Nat.blt · n) = true) (J : Nat → World → Prop)
    (h0 : ∀ w2, Ext w w2 → w2.heap.size = w.heap.size + 2 → J 0 w2) (hJS : ∀ i w1, J i w1 → ExtB S0 w w1)
    (hJup : ∀ i w1 w2, J i w1 → ExtB (fun k => k = w.heap.size ∨ k = w.heap.size + 1) w1 w2 → J i w2)
    (hb : ∀ i x w1 lp, xs[i]? = some x → J i w1 → LoopAt w1 (w.heap.size + 1) w.heap.size lp → lp.state = .ready →
      RunE P ⟨c.fn, .normal, some (w.heap.size + 1)⟩ n [] [.code assign, .beginRound, .code body] (RoundJ (w.heap.size + 1) w.heap.size lp (J (i + 1))) (parEnv params.toList x env) w1)
    (h : ∀ w', J xs.length w' → w'.heap[w.heap.size]? = some (.deferred (some [])) → RunE P c n (markOf w.heap.size :: ds) k Q env w') :
    RunE P c n ds (.code (.rangeFunc f params assign body) :: k) Q env w := by
  refine RunE.rangeFunc hc hf fun a D L w1 w2 lp hst h1 h2 hlp => ?_
  obtain rfl : D = w.heap.size := h1.eq
  have e2 := h2.eq
  rw [h1.size] at e2
  subst e2
  have hX2 : Ext w w2 := h1.ext.trans h2.ext
  have hL2 : LoopAt w2 (w.heap.size + 1) w.heap.size lp := ⟨h2.at_, obj_ext h1.at_ h2.ext id⟩
  have hsz : w2.heap.size = w.heap.size + 2 := h2.size
  refine FnV.mono (hG (fun k => S0 k ∨ w.heap.size ≤ k) (fun i w' => J i w' ∧ LoopAt w' (w.heap.size + 1) w.heap.size lp) (yieldV (w.heap.size + 1)) w2 ?_ ⟨h0 w2 hX2 hsz, hL2⟩ ?_ ?_ ?_) ?_ (fun _ _ h => h)
  · intro k hk hs
    have := hF k hk
    rcases hs with hs | hs
    · exact this.1 hs
    · omega
  · rintro i w' ⟨hj, -⟩
    exact (hX.trans (hJS i w' hj)).mono fun k _ h => .inl h
  · rintro i u u' ⟨hj, hl⟩ e
    exact ⟨hJup i u u' hj (ExtB.of_ext e), hl.up e⟩
  · rintro i x u hx ⟨hj, hl⟩
    refine Yield.run (env := env) hl.l hfn hst (params := params.toList) (assign := assign) (body := body) (by simpa using hlp) (hlen x (List.mem_of_getElem? hx)) hp rfl ?_
    intro a' ha' cs
    obtain ⟨o, a1, u1, hq, hfin⟩ := hb i x u lp hx hj hl hlp.state a' ha' cs
    refine ⟨o, a1, u1, ?_, hfin⟩
    cases o with
    | fall =>
      obtain ⟨hK, hl1⟩ := hq
      refine ⟨_, hl1.l, fun u2 t2 => ⟨rfl, hJup _ _ _ hK (t2.ext.mono fun k _ h => .inr h), ?_, obj_ext hl1.d t2.ext (by omega)⟩⟩
      have := t2.at_
      rwa [show ({ ({ lp with state := .busy } : Loop) with state := .ready, pending := none } : Loop) = lp from hlp.back] at this
    | ret => exact hq.elim
    | exit id => exact hq.elim
    | panic ch => exact hq.elim
  · rintro _ w3 ⟨hj, hl⟩
    refine ⟨lp, hl.l, by rw [hlp.state]; rfl, fun w4 t4 => ?_⟩
    rw [hlp.pending]
    refine RunE.at_ hst (h w4 (hJup _ _ _ hj (t4.ext.mono fun k _ h => .inr h)) (obj_ext hl.d t4.ext (by omega)))
end
/-- The elements that are chosen. -/
theorem filter_take {α : Type} (p : α → Bool) {l : List α} {i : Nat} {x : α} (hx : l[i]? = some x) :
    (l.take (i + 1)).filter p = (l.take i).filter p ++ (if p x then [x] else []) ∧ (p x = true → (l.filter p)[((l.take i).filter p).length]? = some x) := by
  have e1 : l.take (i + 1) = l.take i ++ [x] := by rw [List.take_add_one, hx]; rfl
  have e2 : l = l.take i ++ x :: l.drop (i + 1) := by
    obtain ⟨hi, e⟩ := List.getElem?_eq_some_iff.1 hx
    rw [← e, List.getElem_cons_drop, List.take_append_drop]
  refine ⟨by rw [e1, List.filter_append]; congr 1; cases h : p x <;> simp [h], fun hp => ?_⟩
  have e3 : l.filter p = (l.take i).filter p ++ x :: (l.drop (i + 1)).filter p := by
    conv => lhs; rw [e2]
    rw [List.filter_append, List.filter_cons, if_pos hp]
  rw [e3, List.getElem?_append_right (Nat.le_refl _)]; simp
end Go.Rn
end
section
/- cmp.Compare, cmp.Or at int. -/
namespace Go.Sg
open Go.Rn Go.Proofs Go.Rec Go.Best
attribute [local irreducible] Go.Rn.RunLN Go.Rn.AsyN Go.Rn.RunL Go.Rn.RunE Go.Rn.Asy Go.Rn.OpV Go.Rn.OpE Go.Rn.ExecE

theorem isNaN_ok (a : Int) (w : World) : Rets Tryd.prog 93 [.int .i64 a] w fun v w' => v = .bool false ∧ w = w' := by
  refine RetsX.of (nt := 6) Tryd.func93 (by kernel_rfl) rfl rfl (by simp) (by simp only [argEnv]; rfl) ?_
  repeat' (first | with_reducible refine RunLN.boolT rfl ?_ | with_reducible refine RunLN.boolF rfl ?_ | refine RunLN.boolT (by assumption) ?_ | refine RunLN.boolF (by assumption) ?_ | (with_reducible refine RunLN.decT ?_ ?_; focus omega) | (with_reducible refine RunLN.decF ?_ ?_; focus omega) | (with_reducible refine RunLN.eqT ?_ ?_; focus omega) | (with_reducible refine RunLN.eqF ?_ ?_; focus omega) | (with_reducible refine RunLN.neT ?_ ?_; focus omega) | (with_reducible refine RunLN.neF ?_ ?_; focus omega) | refine RunLN.boolT (by exact rfl) ?_ | refine RunLN.boolF (by exact rfl) ?_ | refine RunLN.int (by (first | exact wr_i64 (by omega) (by omega) | exact wm_i64 (by omega) | exact wq_i64 (by omega) (by omega) (by omega) | rfl)) ?_ | (refine RunLN.boolC (fun h_ => ?_) (fun h_ => ?_) <;> (try simp only [decide_eq_true_eq, decide_eq_false_iff_not, beq_iff_eq, bne_iff_ne, ne_eq, Bool.not_eq_true, Bool.not_eq_false, beq_eq_false_iff_ne, bne_eq_false_iff_eq, Bool.not_eq_eq_eq_not, Bool.not_true, Bool.not_false, Bool.not_not, Int.not_lt, Int.not_le, gt_iff_lt, ge_iff_le, Decidable.not_not] at h_)) | refine RunLN.any ?_ | refine RunL.ev Tryd.tOk rfl rfl rfl ?_ | refine RunL.unwantedD rfl rfl ?_ | refine RunL.unwantedN rfl ?_ | refine RunL.evV rfl rfl rfl (OpV.indexS Tryd.tOk _ rfl rfl rfl rfl (by omega)) ?_ | refine RunE.condT rfl rfl ?_ | refine RunE.condF rfl rfl ?_ | refine RunE.seq ?_ | refine RunE.region ?_ | refine RunL.nil ?_ | refine RunE.block ?_ | refine RunE.inBlock ?_ | refine RunE.skip ?_ | refine RunE.exit rfl ?_ | refine RunE.scope ?_ | refine RunE.inScope ?_ | refine RunE.label ?_)
  exact RunE.retFn Tryd.func93 (.tmp rfl .nil) ⟨rfl, rfl⟩
theorem compare_ok (a b : Int) (w : World) : Rets Tryd.prog 63 [.int .i64 a, .int .i64 b] w fun v w' => v = .int .i64 (cmpI a b) ∧ w = w' := by
  refine RetsX.of (nt := 20) Tryd.func63 (by kernel_rfl) rfl rfl (by simp) (by simp only [argEnv]; rfl) ?_
  repeat' (first | with_reducible refine RunLN.boolT rfl ?_ | with_reducible refine RunLN.boolF rfl ?_ | refine RunLN.boolT (by assumption) ?_ | refine RunLN.boolF (by assumption) ?_ | (with_reducible refine RunLN.decT ?_ ?_; focus omega) | (with_reducible refine RunLN.decF ?_ ?_; focus omega) | (with_reducible refine RunLN.eqT ?_ ?_; focus omega) | (with_reducible refine RunLN.eqF ?_ ?_; focus omega) | (with_reducible refine RunLN.neT ?_ ?_; focus omega) | (with_reducible refine RunLN.neF ?_ ?_; focus omega) | refine RunLN.boolT (by exact rfl) ?_ | refine RunLN.boolF (by exact rfl) ?_ | refine RunLN.int (by (first | exact wr_i64 (by omega) (by omega) | exact wm_i64 (by omega) | exact wq_i64 (by omega) (by omega) (by omega) | rfl)) ?_ | (refine RunLN.boolC (fun h_ => ?_) (fun h_ => ?_) <;> (try simp only [decide_eq_true_eq, decide_eq_false_iff_not, beq_iff_eq, bne_iff_ne, ne_eq, Bool.not_eq_true, Bool.not_eq_false, beq_eq_false_iff_ne, bne_eq_false_iff_eq, Bool.not_eq_eq_eq_not, Bool.not_true, Bool.not_false, Bool.not_not, Int.not_lt, Int.not_le, gt_iff_lt, ge_iff_le, Decidable.not_not] at h_)) | refine RunLN.any ?_ | refine RunL.ev Tryd.tOk rfl rfl rfl ?_ | refine RunL.unwantedD rfl rfl ?_ | refine RunL.unwantedN rfl ?_ | refine RunL.callN rfl rfl rfl (isNaN_ok _ _) ?_ | refine RunL.evV rfl rfl rfl (OpV.indexS Tryd.tOk _ rfl rfl rfl rfl (by omega)) ?_ | refine RunE.condT rfl rfl ?_ | refine RunE.condF rfl rfl ?_ | refine RunE.seq ?_ | refine RunE.region ?_ | refine RunL.nil ?_ | refine RunE.block ?_ | refine RunE.inBlock ?_ | refine RunE.skip ?_ | refine RunE.exit rfl ?_ | refine RunE.scope ?_ | refine RunE.inScope ?_ | refine RunE.label ?_)
  all_goals
    refine RunE.retFn Tryd.func63 (.tmp rfl .nil) ⟨?_, rfl⟩
    simp only [oneOr]
    congr 1
    unfold cmpI
    split <;> (try split) <;> omega
end Go.Sg
end
section
/- Devices: those of a person, the greatest, current. -/
namespace Go.Dev
open Go.Best
/-- What the program picks. -/
def pickQ (s : Dev × Bool) (x : Dev) : Dev × Bool := if s.2 = false ∨ cmpI s.1.at_ x.at_ ≤ 0 then (x, true) else s
def asD (o : Option Dev) : Dev × Bool := match o with
  | none => (⟨0, 0, 0, 0, 0, false⟩, false)
  | some x => (x, true)
theorem cmpI_le {a b : Int} : cmpI a b ≤ 0 ↔ a ≤ b := by unfold cmpI; split <;> (try split) <;> omega
theorem pickQ_same (t : Int) : ∀ (f : List Dev) (o : Option Dev), (∀ x ∈ f, x.at_ ≤ t) → f.foldl pickQ (asD o) = asD (f.foldl (pickS Dev.at_ t) o)
  | [], _, _ => rfl
  | x :: f, o, h => by
    simp only [List.foldl_cons]
    have hx := h x List.mem_cons_self
    have e : pickQ (asD o) x = asD (pickS Dev.at_ t o x) := by
      unfold pickQ pickS
      rw [if_pos hx]
      cases o with
      | none => rw [if_pos (.inl rfl)]; rfl
      | some y =>
        show (if true = false ∨ cmpI y.at_ x.at_ ≤ 0 then (x, true) else (y, true)) = asD (if y.at_ ≤ x.at_ then some x else some y)
        by_cases hc : y.at_ ≤ x.at_
        · rw [if_pos hc, if_pos (.inr (cmpI_le.2 hc))]; rfl
        · rw [if_neg hc, if_neg (by rintro (h | h); simp at h; exact hc (cmpI_le.1 h))]; rfl
    rw [e]
    exact pickQ_same t f _ fun y hy => h y (List.mem_cons_of_mem _ hy)
theorem pick_best (l : List Dev) (p t time : Int) : (l.filter (ownD p t time)).foldl pickQ (⟨0, 0, 0, 0, 0, false⟩, false) = asD (bestD l p t time) := by
  rw [← best_own]
  have h1 := pickQ_same t (l.filter (ownD p t time)) none fun x hx => (of_decide_eq_true (List.mem_filter.1 hx).2).2.2
  refine h1.trans ?_
  unfold bestD bst
  rw [List.filter_filter]
  congr 2
  refine List.filter_congr fun x _ => ?_
  unfold kd ownD
  rw [Bool.eq_iff_iff]
  simp
  omega
end Go.Dev
namespace Go.Sg
open Go.Rn Go.Proofs Go.Dev Go.Rec Go.Best
attribute [local irreducible] Go.Rn.RunLN Go.Rn.AsyN Go.Rn.RunL Go.Rn.RunE Go.Rn.Asy Go.Rn.OpV Go.Rn.OpE Go.Rn.ExecE
/-- What known(l, key, time) gives: a function with three captured variables. -/
def ofV (b1 b2 b3 b4 : Nat) : Value := .func (.func 118) #[] #[.pointer (some ⟨b1, 0, none⟩), .pointer (some ⟨b2, 0, none⟩), .pointer (some ⟨b3, 0, none⟩), .pointer (some ⟨b4, 0, none⟩)]
def ofF (l : List Dev) (v : Value) (b1 b2 b3 b4 : Nat) (k : Nat) : Prop := k = b1 ∨ k = b2 ∨ k = b3 ∨ k = b4 ∨ (l ≠ [] ∧ v.ownBlock = some k)
def ofXs (l : List Dev) (p t time : Int) : List (List Value) := (l.filter (ownD p t time)).map fun x => [.agg x.cells.toArray]
set_option maxHeartbeats 1000000 in
theorem of_gives (l : List Dev) (v : Value) (p t time : Int) (w0 : World) (b1 b2 b3 b4 : Nat) (hv : LD w0 v l) (hl : l.length < 9223372036854775808) (Y1 : Blk w0 b1 [v] 55) (Y2 : Blk w0 b2 [.int .i64 p] 3) (Y3 : Blk w0 b3 [.int .i64 t] 3) (Y4 : Blk w0 b4 [.int .i64 time] 3) :
    Gives Tryd.prog (ofV b1 b2 b3 b4) (ofXs l p t time) w0 (ofF l v b1 b2 b3 b4) := by
  intro S J y w hS hJ0 hJX hJup hy
  refine RetsX.v (fi := []) (args := [y]) (ca := [.pointer (some ⟨b1, 0, none⟩), .pointer (some ⟨b2, 0, none⟩), .pointer (some ⟨b3, 0, none⟩), .pointer (some ⟨b4, 0, none⟩)]) ?_
  have hb : ∀ {i w1}, J i w1 → Blk w1 b1 [v] 55 ∧ Blk w1 b2 [.int .i64 p] 3 ∧ Blk w1 b3 [.int .i64 t] 3 ∧ Blk w1 b4 [.int .i64 time] 3 ∧ LD w1 v l := fun h =>
    have e := hJX _ _ h
    ⟨Y1.ext e (hS _ (.inl rfl)), Y2.ext e (hS _ (.inr (.inl rfl))), Y3.ext e (hS _ (.inr (.inr (.inl rfl)))), Y4.ext e (hS _ (.inr (.inr (.inr (.inl rfl))))), isL_ext hv e fun hl k hk => hS _ (.inr (.inr (.inr (.inr ⟨hl, hk⟩))))⟩
  change RetsX Tryd.prog 118 [y, .pointer (some ⟨b1, 0, none⟩), .pointer (some ⟨b2, 0, none⟩), .pointer (some ⟨b3, 0, none⟩), .pointer (some ⟨b4, 0, none⟩)] _ _ _
  refine RetsX.of (nt := 37) Tryd.func118 (by kernel_rfl) rfl rfl (by simp) (by simp only [argEnv]; rfl) ?_
  obtain ⟨U1, U2, U3, U4, hv'⟩ := hb hJ0
  repeat' (first | refine RunLN.int (by (first | exact wr_i64 (by omega) (by omega) | exact wm_i64 (by omega) | exact wq_i64 (by omega) (by omega) (by omega) | rfl)) ?_ | refine RunLN.any ?_ | refine RunL.ev Tryd.tOk rfl rfl rfl ?_ | refine RunL.evV rfl rfl rfl (OpV.load1 Tryd.tOk rfl rfl rfl (Blk.cell U1 rfl)) ?_ | refine RunL.evV rfl rfl rfl (OpV.lenSl Tryd.tOk rfl rfl hv') ?_ | refine RunE.seq ?_ | refine RunE.region ?_ | refine RunL.nil ?_ | refine RunE.block ?_)
  clear U1 U2 U3 U4 hv'
  refine RunE.loop (ι := Nat) (fun x => [(0, y), (1, .pointer (some ⟨b1, 0, none⟩)), (2, .pointer (some ⟨b2, 0, none⟩)), (3, .pointer (some ⟨b3, 0, none⟩)), (4, .pointer (some ⟨b4, 0, none⟩)), (8, v), (9, .int .i64 (l.length : Int)), (10, .int .i64 (x : Int))])
    (fun x w' => x ≤ l.length ∧ J ((l.take x).filter (ownD p t time)).length w') (fun x => l.length - x) 0 (by repeat (first | exact Sub.nil _ | refine Sub.cons rfl ?_)) ⟨Nat.zero_le _, hJ0⟩ ?_
  clear hJ0
  rintro i w3 ⟨hi, hJ⟩ again
  by_cases hlt : i < l.length
  · obtain ⟨U1, U2, U3, U4, hv'⟩ := hb hJ
    obtain ⟨b, o, cap, rfl, hr, hc⟩ := isL_held hv' hlt
    obtain ⟨x, hx⟩ : ∃ x, l[i]? = some x := ⟨_, List.getElem?_eq_getElem hlt⟩
    have hrx := flat_row encD hr hx
    obtain ⟨f1, f2⟩ := filter_take (ownD p t time) hx
    have X := ExtB.refl (fun _ => False) w3
    repeat' (first | (with_reducible refine RunLN.decT ?_ ?_; focus omega) | refine RunLN.any ?_ | refine RunL.ev Tryd.tOk rfl rfl rfl ?_ | refine RunL.evV rfl rfl rfl (OpV.loadN Tryd.tOk rfl rfl rfl rfl (hrx.up X)) ?_ | refine RunL.evV rfl rfl rfl (OpV.indexS Tryd.tOk _ rfl rfl rfl rfl (by omega)) ?_ | refine RunE.condT rfl rfl ?_ | refine RunE.seq ?_ | refine RunE.region ?_ | refine RunL.nil ?_ | refine RunE.block ?_ | refine RunE.skip ?_)
    refine RunL.alloc Tryd.tOk rfl rfl rfl fun B7 w7_ a_ => ?_
    have Z7 : Blk w7_ B7 ([.int .i64 0, .int .i64 0, .int .i64 0, .int .i64 0, .int .i64 0, .bool false]) 57 := a_.at_
    have gB7 := a_.ge X
    replace X := X.trans a_.ext
    clear a_
    skip
    refine RunL.store Tryd.tOk rfl rfl rfl rfl rfl Z7 rfl rfl fun w_ t_ => ?_
    replace X := X.own t_.ext gB7
    replace Z7 : Blk w_ B7 (x.cells) 57 := t_.at_
    clear t_
    replace hJ := hJup _ _ _ hJ X
    replace U2 := U2.up X
    replace U3 := U3.up X
    replace U4 := U4.up X
    clear U1 hrx hr hv'
    by_cases hk : x.person = p ∧ x.known ≤ time ∧ x.at_ ≤ t
    · have hkn : ownD p t time x = true := decide_eq_true hk
      obtain ⟨hk1, hk2, hk3⟩ := hk
      rw [hkn, if_pos rfl] at f1
      repeat' (first | with_reducible refine RunLN.boolT rfl ?_ | (with_reducible refine RunLN.decT ?_ ?_; focus omega) | (with_reducible refine RunLN.eqT ?_ ?_; focus omega) | refine RunLN.int (by (first | exact wr_i64 (by omega) (by omega) | exact wm_i64 (by omega) | exact wq_i64 (by omega) (by omega) (by omega) | rfl)) ?_ | refine RunLN.any ?_ | refine RunL.ev Tryd.tOk rfl rfl rfl ?_ | refine RunL.evV rfl rfl rfl (OpV.load1 Tryd.tOk rfl rfl rfl (Blk.cell Z7 rfl)) ?_ | refine RunL.evV rfl rfl rfl (OpV.load1 Tryd.tOk rfl rfl rfl (Blk.cell U2 rfl)) ?_ | refine RunL.evV rfl rfl rfl (OpV.load1 Tryd.tOk rfl rfl rfl (Blk.cell U3 rfl)) ?_ | refine RunL.evV rfl rfl rfl (OpV.load1 Tryd.tOk rfl rfl rfl (Blk.cell U4 rfl)) ?_ | refine RunL.evV rfl rfl rfl (OpV.loadN Tryd.tOk rfl rfl rfl rfl (Blk.row Z7)) ?_ | refine RunE.seq ?_ | refine RunE.region ?_ | refine RunL.nil ?_)
      refine RunL.ex rfl rfl rfl (OpE.callV rfl rfl (hy _ _ _ (by unfold ofXs; rw [List.getElem?_map, f2 hkn]; rfl) hJ)) ?_
      rintro _ w4 ⟨rfl, hJ4⟩
      repeat' (first | with_reducible refine RunLN.boolF rfl ?_ | refine RunLN.int (by (first | exact wr_i64 (by omega) (by omega) | exact wm_i64 (by omega) | exact wq_i64 (by omega) (by omega) (by omega) | rfl)) ?_ | refine RunL.ev Tryd.tOk rfl rfl rfl ?_ | refine RunE.condF rfl rfl ?_ | refine RunE.region ?_ | refine RunL.nil ?_ | refine RunE.inBlock ?_ | refine RunE.skip ?_)
      refine RunE.weaken (by repeat (first | exact Sub.nil _ | refine Sub.cons rfl ?_)) (again (i + 1) _ (by omega) ⟨by omega, ?_⟩)
      rw [f1, List.length_append]; exact hJ4
    · have hkn : ownD p t time x = false := decide_eq_false hk
      rw [hkn, if_neg (by simp), List.append_nil] at f1
      repeat' (first | with_reducible refine RunLN.boolT rfl ?_ | with_reducible refine RunLN.boolF rfl ?_ | (with_reducible refine RunLN.decF ?_ ?_; focus omega) | refine RunLN.int (by (first | exact wr_i64 (by omega) (by omega) | exact wm_i64 (by omega) | exact wq_i64 (by omega) (by omega) (by omega) | rfl)) ?_ | (refine RunLN.boolC (fun h_ => ?_) (fun h_ => ?_) <;> (try simp only [decide_eq_true_eq, decide_eq_false_iff_not, beq_iff_eq, bne_iff_ne, ne_eq, Bool.not_eq_true, Bool.not_eq_false, beq_eq_false_iff_ne, bne_eq_false_iff_eq, Bool.not_eq_eq_eq_not, Bool.not_true, Bool.not_false, Bool.not_not, Int.not_lt, Int.not_le, gt_iff_lt, ge_iff_le, Decidable.not_not] at h_)) | refine RunLN.any ?_ | refine RunL.ev Tryd.tOk rfl rfl rfl ?_ | refine RunL.unwantedD rfl rfl ?_ | refine RunL.evV rfl rfl rfl (OpV.load1 Tryd.tOk rfl rfl rfl (Blk.cell Z7 rfl)) ?_ | refine RunL.evV rfl rfl rfl (OpV.load1 Tryd.tOk rfl rfl rfl (Blk.cell U2 rfl)) ?_ | refine RunL.evV rfl rfl rfl (OpV.load1 Tryd.tOk rfl rfl rfl (Blk.cell U3 rfl)) ?_ | refine RunL.evV rfl rfl rfl (OpV.load1 Tryd.tOk rfl rfl rfl (Blk.cell U4 rfl)) ?_ | refine RunE.condF rfl rfl ?_ | refine RunE.seq ?_ | refine RunE.region ?_ | refine RunL.nil ?_ | refine RunE.inBlock ?_ | refine RunE.skip ?_)
      all_goals
        refine RunE.weaken (by repeat (first | exact Sub.nil _ | refine Sub.cons rfl ?_)) (again (i + 1) _ (by omega) ⟨by omega, ?_⟩)
        rw [f1]; exact hJ
  · obtain rfl : i = l.length := by omega
    repeat' (first | (with_reducible refine RunLN.decF ?_ ?_; focus omega) | refine RunL.ev Tryd.tOk rfl rfl rfl ?_ | refine RunE.condF rfl rfl ?_ | refine RunE.seq ?_ | refine RunE.region ?_ | refine RunL.nil ?_ | refine RunE.exit rfl ?_)
    refine RunE.fallFn Tryd.func118 .nil ?_
    simp only [ofXs, List.length_map]
    rwa [List.take_length] at hJ
theorem of_ok (l : List Dev) (v : Value) (p t time : Int) (w : World) (hv : LD w v l) (hl : l.length < 9223372036854775808) :
    Rets Tryd.prog 100 [v, .int .i64 p, .int .i64 t, .int .i64 time] w fun r w' => (∃ F : Nat → Prop, Gives Tryd.prog r (ofXs l p t time) w' F ∧ ∀ k, F k → k < w'.heap.size) ∧ Ext w w' := by
  obtain ⟨d, c, rfl⟩ := isSl_slice hv
  refine RetsX.of (nt := 10) Tryd.func100 (by kernel_rfl) rfl rfl (by simp) (by simp only [argEnv]; rfl) ?_
  have X := ExtB.refl (fun _ => False) w
  repeat' (first | refine RunE.seq ?_ | refine RunE.region ?_)
  refine RunL.box rfl rfl rfl fun B4 w4_ a_ => ?_
  have Z4 : Blk w4_ B4 ([.slice d l.length c]) 55 := a_.at_
  have gB4 := a_.ge X
  replace X := X.trans a_.ext
  clear a_
  skip
  refine RunL.box rfl rfl rfl fun B5 w5_ a_ => ?_
  have Z5 : Blk w5_ B5 ([.int .i64 p]) 3 := a_.at_
  have gB5 := a_.ge X
  have n4_5 : B4 ≠ B5 := by have := Z4.lt; have := a_.eq; omega
  have n5_4 : B5 ≠ B4 := Ne.symm n4_5
  replace Z4 := Z4.up a_.ext
  replace X := X.trans a_.ext
  clear a_
  skip
  refine RunL.box rfl rfl rfl fun B6 w6_ a_ => ?_
  have Z6 : Blk w6_ B6 ([.int .i64 t]) 3 := a_.at_
  have gB6 := a_.ge X
  have n4_6 : B4 ≠ B6 := by have := Z4.lt; have := a_.eq; omega
  have n6_4 : B6 ≠ B4 := Ne.symm n4_6
  have n5_6 : B5 ≠ B6 := by have := Z5.lt; have := a_.eq; omega
  have n6_5 : B6 ≠ B5 := Ne.symm n5_6
  replace Z4 := Z4.up a_.ext
  replace Z5 := Z5.up a_.ext
  replace X := X.trans a_.ext
  clear a_
  skip
  refine RunL.box rfl rfl rfl fun B7 w7_ a_ => ?_
  have Z7 : Blk w7_ B7 ([.int .i64 time]) 3 := a_.at_
  have gB7 := a_.ge X
  have n4_7 : B4 ≠ B7 := by have := Z4.lt; have := a_.eq; omega
  have n7_4 : B7 ≠ B4 := Ne.symm n4_7
  have n5_7 : B5 ≠ B7 := by have := Z5.lt; have := a_.eq; omega
  have n7_5 : B7 ≠ B5 := Ne.symm n5_7
  have n6_7 : B6 ≠ B7 := by have := Z6.lt; have := a_.eq; omega
  have n7_6 : B7 ≠ B6 := Ne.symm n6_7
  replace Z4 := Z4.up a_.ext
  replace Z5 := Z5.up a_.ext
  replace Z6 := Z6.up a_.ext
  replace X := X.trans a_.ext
  clear a_
  repeat' (first | refine RunLN.any ?_ | refine RunL.ev Tryd.tOk rfl rfl rfl ?_ | refine RunE.seq ?_ | refine RunE.region ?_ | refine RunL.nil ?_)
  refine RunE.retFn Tryd.func100 (.tmp rfl .nil) ⟨⟨_, of_gives l _ p t time _ _ _ _ _ (hv.up X) hl Z4 Z5 Z6 Z7, fun k hk => ?_⟩, X⟩
  rcases hk with rfl | rfl | rfl | rfl | ⟨hn, hk⟩
  · exact Z4.lt
  · exact Z5.lt
  · exact Z6.lt
  · exact Z7.lt
  · exact isL_own (hv.up X) (by decide) hn hk
theorem dorder_ok (x y : Dev) (w : World) : Rets Tryd.prog 101 [.agg x.cells.toArray, .agg y.cells.toArray] w fun v w' => v = .int .i64 (cmpI x.at_ y.at_) ∧ Ext w w' := by
  refine RetsX.of (nt := 10) Tryd.func101 (by kernel_rfl) rfl rfl (by simp) (by simp only [argEnv]; rfl) ?_
  have X := ExtB.refl (fun _ => False) w
  repeat' (first | refine RunE.seq ?_ | refine RunE.region ?_)
  refine RunL.box rfl rfl rfl fun B2 w2_ a_ => ?_
  have Z2 : Blk w2_ B2 (x.cells) 57 := a_.at_
  have gB2 := a_.ge X
  replace X := X.trans a_.ext
  clear a_
  skip
  refine RunL.box rfl rfl rfl fun B3 w3_ a_ => ?_
  have Z3 : Blk w3_ B3 (y.cells) 57 := a_.at_
  have gB3 := a_.ge X
  have n2_3 : B2 ≠ B3 := by have := Z2.lt; have := a_.eq; omega
  have n3_2 : B3 ≠ B2 := Ne.symm n2_3
  replace Z2 := Z2.up a_.ext
  replace X := X.trans a_.ext
  clear a_
  repeat' (first | refine RunLN.int (by (first | exact wr_i64 (by omega) (by omega) | exact wm_i64 (by omega) | exact wq_i64 (by omega) (by omega) (by omega) | rfl)) ?_ | refine RunLN.any ?_ | refine RunL.ev Tryd.tOk rfl rfl rfl ?_ | refine RunL.evV rfl rfl rfl (OpV.load1 Tryd.tOk rfl rfl rfl (Blk.cell Z2 rfl)) ?_ | refine RunL.evV rfl rfl rfl (OpV.load1 Tryd.tOk rfl rfl rfl (Blk.cell Z3 rfl)) ?_ | refine RunL.callN rfl rfl rfl (compare_ok _ _ _) ?_ | refine RunE.seq ?_ | refine RunE.region ?_ | refine RunL.nil ?_)
  exact RunE.retFn Tryd.func101 (.tmp rfl .nil) ⟨rfl, X⟩
end Go.Sg
end
section
/- Devices: the greatest; current. -/
namespace Go.Dev
def curX (l : List Dev) (p t time : Int) : Dev := if curE l p t time = 0 then (asD (bestD l p t time)).1 else ⟨0, 0, 0, 0, 0, false⟩
theorem curX_of {l : List Dev} {p t time : Int} {x : Dev} (h : curD l p t time = some x) : curX l p t time = x := by
  unfold curD at h
  split at h
  · rename_i he
    unfold curX
    rw [if_pos he, (heldD_some.1 h).1]; rfl
  · simp at h
end Go.Dev
namespace Go.Sg
open Go.Rn Go.Proofs Go.Dev Go.Rec Go.Best
attribute [local irreducible] Go.Rn.RetsX Go.Rn.RunLN Go.Rn.AsyN Go.Rn.RunL Go.Rn.RunE Go.Rn.Asy Go.Rn.OpV Go.Rn.OpE Go.Rn.ExecE
set_option maxHeartbeats 2000000 in
theorem dgreatest_ok (f : Value) (l : List Dev) (p t time : Int) (F : Nat → Prop) (w : World) (hG : Gives Tryd.prog f (ofXs l p t time) w F) (hF : ∀ k, F k → k < w.heap.size) :
    Rets Tryd.prog 99 [f, .func (.func 101) #[] #[]] w
      fun r w' => r = .tuple #[.agg (asD (bestD l p t time)).1.cells.toArray, .bool (asD (bestD l p t time)).2] ∧ Ext w w' := by
  have hpick := pick_best l p t time
  refine RetsX.of (nt := 21) Tryd.func99 (by kernel_rfl) rfl rfl (by simp) (by simp only [argEnv]; rfl) ?_
  have X := ExtB.refl (fun _ => False) w
  repeat' (first | refine RunE.seq ?_ | refine RunE.region ?_)
  refine RunL.box rfl rfl rfl fun B3 w3_ a_ => ?_
  have Z3 : Blk w3_ B3 ([.func (.func 101) #[] #[]]) 152 := a_.at_
  have gB3 := a_.ge X
  replace X := X.trans a_.ext
  clear a_
  skip
  refine RunL.alloc Tryd.tOk rfl rfl rfl fun B4 w4_ a_ => ?_
  have Z4 : Blk w4_ B4 (zeroD.cells) 57 := a_.at_
  have gB4 := a_.ge X
  have n3_4 : B3 ≠ B4 := by have := Z3.lt; have := a_.eq; omega
  have n4_3 : B4 ≠ B3 := Ne.symm n3_4
  replace Z3 := Z3.up a_.ext
  replace X := X.trans a_.ext
  clear a_
  skip
  refine RunL.alloc Tryd.tOk rfl rfl rfl fun B5 w5_ a_ => ?_
  have Z5 : Blk w5_ B5 ([.bool false]) 4 := a_.at_
  have gB5 := a_.ge X
  have n3_5 : B3 ≠ B5 := by have := Z3.lt; have := a_.eq; omega
  have n5_3 : B5 ≠ B3 := Ne.symm n3_5
  have n4_5 : B4 ≠ B5 := by have := Z4.lt; have := a_.eq; omega
  have n5_4 : B5 ≠ B4 := Ne.symm n4_5
  replace Z3 := Z3.up a_.ext
  replace Z4 := Z4.up a_.ext
  replace X := X.trans a_.ext
  clear a_
  repeat' (first | refine RunLN.any ?_ | refine RunL.ev Tryd.tOk rfl rfl rfl ?_ | refine RunE.seq ?_ | refine RunE.region ?_ | refine RunL.nil ?_ | refine RunE.block ?_)
  have hl3 := Z3.lt
  have hl4 := Z4.lt
  have hl5 := Z5.lt
  refine RunE.rangeGives (w0 := w) (F := F) rfl ⟨_, Tryd.func99⟩ rfl hG (fun k => k = B4 ∨ k = B5) (fun k hk => ?_) (ExtB.of_ext X) (fun xs hx => ?_) rfl
    (fun i w' => (Blk w' B4 (((l.filter (ownD p t time)).take i).foldl pickQ (zeroD, false)).1.cells 57 ∧ Blk w' B5 [.bool (((l.filter (ownD p t time)).take i).foldl pickQ (zeroD, false)).2] 4) ∧ ExtB (fun k => k = B4 ∨ k = B5) w5_ w') ?_ ?_ ?_ ?_ ?_
  · have h1 := hF k hk
    have h2 := X.size
    exact ⟨by rintro (h | h) <;> omega, by omega⟩
  · simp only [ofXs, List.mem_map] at hx
    obtain ⟨a, -, rfl⟩ := hx; rfl
  · intro w2 e _; exact ⟨⟨Z4.up e, Z5.up e⟩, ExtB.of_ext e⟩
  · rintro i u ⟨-, h⟩; exact h
  · rintro i u u' ⟨⟨h6, h7⟩, e1⟩ e2
    exact ⟨⟨h6.ext e2 (by omega), h7.ext e2 (by omega)⟩, e1.write e2 (by intro k hk hlt; omega)⟩
  · rintro i xs u lp hx ⟨⟨h4, h5⟩, e1⟩ hL hs
    obtain ⟨x, hxl, rfl⟩ : ∃ x, (l.filter (ownD p t time))[i]? = some x ∧ xs = [.agg x.cells.toArray] := by
      simp only [ofXs, List.getElem?_map, Option.map_eq_some_iff] at hx
      obtain ⟨a, h, rfl⟩ := hx; exact ⟨a, h, rfl⟩
    have hfold : ((l.filter (ownD p t time)).take (i + 1)).foldl pickQ (zeroD, false) = pickQ (((l.filter (ownD p t time)).take i).foldl pickQ (zeroD, false)) x := by
      rw [List.take_add_one, hxl]; simp
    rw [hfold]
    clear hfold
    generalize ((l.filter (ownD p t time)).take i).foldl pickQ (zeroD, false) = s at *
    obtain ⟨s1, s2⟩ := s
    simp only at h4 h5 ⊢
    have V3 := Z3.ext e1 (by omega)
    have hsu := e1.size
    have hLl := lt_of_get hL.l
    simp only [parEnv]
    repeat' (first | refine RunE.region ?_)
    refine RunL.alloc Tryd.tOk rfl rfl rfl fun B6 u1 a1 => ?_
    have Z6 : Blk u1 B6 zeroD.cells 57 := a1.at_
    have e6 := a1.eq
    skip
    refine RunL.store Tryd.tOk rfl rfl rfl rfl rfl Z6 rfl rfl fun u2 t2 => ?_
    replace Z6 : Blk u2 B6 x.cells 57 := t2.at_
    have XA : Ext u u2 := a1.ext.write t2.ext (by intro k hk hlt; omega)
    clear a1 t2
    repeat' (first | refine RunL.nil ?_)
    refine RunE.beginR (hL.up XA) hs (by omega) fun u3 t3 hL3 => ?_
    have Y4 := (h4.up XA).ext t3 (by omega)
    have Y5 := (h5.up XA).ext t3 (by omega)
    have Y3 := (V3.up XA).ext t3 (by omega)
    have Y6 := Z6.ext t3 (by omega)
    have XB : ExtB (fun k => k = B4 ∨ k = B5) w5_ u3 := (e1.trans (ExtB.of_ext XA)).write t3 (by intro k hk hlt; omega)
    clear h4 h5 V3 Z6 XA t3 hL e1
    cases s2 with
    | false =>
      have hp : pickQ (s1, false) x = (x, true) := if_pos (.inl rfl)
      rw [hp]
      repeat' (first | with_reducible refine RunLN.boolT rfl ?_ | with_reducible refine RunLN.boolF rfl ?_ | refine RunLN.any ?_ | refine RunL.ev Tryd.tOk rfl rfl rfl ?_ | refine RunL.unwantedD rfl rfl ?_ | refine RunL.evV rfl rfl rfl (OpV.load1 Tryd.tOk rfl rfl rfl (Blk.cell Y5 rfl)) ?_ | refine RunL.evV rfl rfl rfl (OpV.loadN Tryd.tOk rfl rfl rfl rfl (Blk.row Y6)) ?_ | refine RunE.condT rfl rfl ?_ | refine RunE.seq ?_ | refine RunE.region ?_ | refine RunL.nil ?_ | refine RunE.block ?_)
      refine RunL.store Tryd.tOk rfl rfl rfl rfl rfl Y4 rfl rfl fun u5 t5 => ?_
      replace Y4 : Blk u5 B4 x.cells 57 := t5.at_
      replace Y5 := Y5.ext t5.ext (by omega)
      replace hL3 := hL3.ext t5.ext (by omega) (by omega)
      replace XB := XB.trans (t5.ext.mono fun k _ h => .inl h)
      skip
      refine RunL.store Tryd.tOk rfl rfl rfl rfl rfl Y5 rfl rfl fun u6 t6 => ?_
      replace Y5 : Blk u6 B5 [.bool true] 4 := t6.at_
      replace Y4 := Y4.ext t6.ext (by omega)
      replace hL3 := hL3.ext t6.ext (by omega) (by omega)
      replace XB := XB.trans (t6.ext.mono fun k _ h => .inr h)
      repeat' (first | refine RunL.nil ?_ | refine RunE.inBlock ?_)
      exact RunE.endR ⟨⟨Y4, Y5⟩, XB⟩ hL3
    | true =>
      repeat' (first | with_reducible refine RunLN.boolT rfl ?_ | with_reducible refine RunLN.boolF rfl ?_ | refine RunLN.any ?_ | refine RunL.ev Tryd.tOk rfl rfl rfl ?_ | refine RunL.evV rfl rfl rfl (OpV.load1 Tryd.tOk rfl rfl rfl (Blk.cell Y5 rfl)) ?_ | refine RunL.evV rfl rfl rfl (OpV.load1 Tryd.tOk rfl rfl rfl (Blk.cell Y3 rfl)) ?_ | refine RunL.evV rfl rfl rfl (OpV.loadN Tryd.tOk rfl rfl rfl rfl (Blk.row Y4)) ?_ | refine RunL.evV rfl rfl rfl (OpV.loadN Tryd.tOk rfl rfl rfl rfl (Blk.row Y6)) ?_ | refine RunE.seq ?_ | refine RunE.region ?_ | refine RunE.block ?_)
      refine RunL.ex rfl rfl rfl (OpE.callV rfl rfl (Rets.v (fi := []) (dorder_ok s1 x _) rfl)) ?_
      rintro _ u4 ⟨rfl, Xa⟩
      replace Y4 := Y4.up Xa
      replace Y5 := Y5.up Xa
      replace Y6 := Y6.up Xa
      replace hL3 := hL3.up Xa
      replace XB := XB.trans (ExtB.of_ext Xa)
      by_cases hc : cmpI s1.at_ x.at_ ≤ 0
      · have hp : pickQ (s1, true) x = (x, true) := if_pos (.inr hc)
        rw [hp]
        repeat' (first | with_reducible refine RunLN.boolT rfl ?_ | (with_reducible refine RunLN.decT ?_ ?_; focus omega) | refine RunLN.any ?_ | refine RunL.ev Tryd.tOk rfl rfl rfl ?_ | refine RunL.evV rfl rfl rfl (OpV.loadN Tryd.tOk rfl rfl rfl rfl (Blk.row Y6)) ?_ | refine RunE.condT rfl rfl ?_ | refine RunE.region ?_ | refine RunL.nil ?_)
        refine RunL.store Tryd.tOk rfl rfl rfl rfl rfl Y4 rfl rfl fun u5 t5 => ?_
        replace Y4 : Blk u5 B4 x.cells 57 := t5.at_
        replace Y5 := Y5.ext t5.ext (by omega)
        replace hL3 := hL3.ext t5.ext (by omega) (by omega)
        replace XB := XB.trans (t5.ext.mono fun k _ h => .inl h)
        skip
        refine RunL.store Tryd.tOk rfl rfl rfl rfl rfl Y5 rfl rfl fun u6 t6 => ?_
        replace Y5 : Blk u6 B5 [.bool true] 4 := t6.at_
        replace Y4 := Y4.ext t6.ext (by omega)
        replace hL3 := hL3.ext t6.ext (by omega) (by omega)
        replace XB := XB.trans (t6.ext.mono fun k _ h => .inr h)
        repeat' (first | refine RunL.nil ?_ | refine RunE.inBlock ?_)
        exact RunE.endR ⟨⟨Y4, Y5⟩, XB⟩ hL3
      · have hn : ¬ ((s1, true).2 = false ∨ cmpI (s1, true).1.at_ x.at_ ≤ 0) := by
          rintro (h | h)
          · simp at h
          · exact hc h
        have hp : pickQ (s1, true) x = (s1, true) := if_neg hn
        rw [hp]
        repeat' (first | with_reducible refine RunLN.boolF rfl ?_ | (with_reducible refine RunLN.decF ?_ ?_; focus omega) | refine RunL.ev Tryd.tOk rfl rfl rfl ?_ | refine RunE.condF rfl rfl ?_ | refine RunL.nil ?_ | refine RunE.inBlock ?_ | refine RunE.skip ?_)
        exact RunE.endR ⟨⟨Y4, Y5⟩, XB⟩ hL3
  · rintro w' ⟨⟨h4, h5⟩, e1⟩ hD
    rw [show (ofXs l p t time).length = (l.filter (ownD p t time)).length by simp [ofXs], List.take_length, show (zeroD, false) = ((⟨0, 0, 0, 0, 0, false⟩, false) : Dev × Bool) from rfl, hpick] at h4 h5
    generalize asD (bestD l p t time) = s at *
    have X8 : Ext w w' := X.write e1 (by intro k hk hlt; omega)
    repeat' (first | refine RunE.seq ?_ | refine RunE.inBlock ?_)
    refine RunE.draw (fun _ => False) mix ?_
    intro wd_ Xd_
    repeat' (first | refine AsyN.any ?_ | refine Asy.evV rfl rfl rfl rfl (fun _ X_ => OpV.loadN Tryd.tOk rfl rfl rfl rfl (Blk.row (h4.up (Xd_.trans X_)))) ?_ | refine Asy.evV rfl rfl rfl rfl (fun _ X_ => OpV.load1 Tryd.tOk rfl rfl rfl (Blk.cell (h5.up (Xd_.trans X_)) rfl)) ?_ | refine Asy.keepN rfl rfl rfl (fun _ X_ => OpE.storeSame Tryd.tOk rfl rfl rfl rfl (h4.up (Xd_.trans X_)) rfl rfl rfl) ?_ | refine Asy.keepN rfl rfl rfl (fun _ X_ => OpE.storeSame Tryd.tOk rfl rfl rfl rfl (h5.up (Xd_.trans X_)) rfl rfl rfl) ?_)
    refine Asy.end_ (by kernel_rfl) ?_
    intro we_ Xe_
    replace Xe_ := Xd_.trans Xe_
    repeat' (first | refine RunL.nil ?_)
    refine RunE.retFn1 Tryd.func99 (obj_ext hD Xe_ id) fun w9 t9 => ?_
    exact ⟨_, .cell rfl (Loads.agg Tryd.tOk rfl rfl rfl ((h4.up Xe_).ext t9.ext (by omega)).row) (.cell rfl (Loads.scalar Tryd.tOk rfl rfl (((h5.up Xe_).ext t9.ext (by omega)).cell rfl)) .nil), rfl, (X8.trans Xe_).write t9.ext (by intro k hk hlt; omega)⟩
set_option maxHeartbeats 2000000 in
theorem dcurrent_ok (l : List Dev) (v : Value) (p t time : Int) (w : World) (hv : LD w v l) (hl : l.length < 9223372036854775808) :
    Rets Tryd.prog 71 [v, .int .i64 p, .int .i64 t, .int .i64 time] w fun r w' => r = .tuple #[.agg (curX l p t time).cells.toArray, .bool (curD l p t time).isSome, .int .i64 (curE l p t time)] ∧ Ext w w' := by
  refine RetsX.of (nt := 47) Tryd.func71 (by kernel_rfl) rfl rfl (by simp) (by simp only [argEnv]; rfl) ?_
  have X := ExtB.refl (fun _ => False) w
  repeat' (first | refine RunE.seq ?_ | refine RunE.region ?_)
  refine RunL.alloc Tryd.tOk rfl rfl rfl fun B8 w8_ a_ => ?_
  have Z8 : Blk w8_ B8 (zeroD.cells) 57 := a_.at_
  have gB8 := a_.ge X
  replace X := X.trans a_.ext
  clear a_
  repeat' (first | with_reducible refine RunLN.boolF rfl ?_ | refine RunLN.int (by (first | exact wr_i64 (by omega) (by omega) | exact wm_i64 (by omega) | exact wq_i64 (by omega) (by omega) (by omega) | rfl)) ?_ | refine RunLN.any ?_ | refine RunL.ev Tryd.tOk rfl rfl rfl ?_ | refine RunE.seq ?_ | refine RunE.region ?_ | refine RunL.nil ?_)
  refine RunL.call rfl rfl rfl (dcheck_ok l v _ (hv.up X) hl) ?_
  rintro _ _ ⟨rfl, Xa_⟩
  replace Z8 := Z8.up Xa_
  replace X := X.trans Xa_
  clear Xa_
  by_cases hc : chkD l = 0
  · have hE : curE l p t time = if argD p t time then 0 else 1 := if_pos hc
    rw [hc]
    by_cases ha : 0 ≤ p ∧ p < 64 ∧ 0 ≤ t ∧ t < 1099511627776 ∧ 0 ≤ time ∧ time < 1099511627776
    · have hA : argD p t time = true := decide_eq_true ha
      have he : curE l p t time = 0 := by rw [hE, hA]; rfl
      have hX0 : curX l p t time = (asD (bestD l p t time)).1 := if_pos he
      have hD0 : curD l p t time = heldD (bestD l p t time) := if_pos he
      repeat' (first | with_reducible refine RunLN.boolF rfl ?_ | (with_reducible refine RunLN.decT ?_ ?_; focus omega) | refine RunLN.int (by (first | exact wr_i64 (by omega) (by omega) | exact wm_i64 (by omega) | exact wq_i64 (by omega) (by omega) (by omega) | rfl)) ?_ | refine RunLN.any ?_ | refine RunL.ev Tryd.tOk rfl rfl rfl ?_ | refine RunL.callN rfl rfl rfl (dwithin_ok _ _ _) ?_ | refine RunE.condF rfl rfl ?_ | refine RunE.seq ?_ | refine RunE.region ?_ | refine RunL.nil ?_ | refine RunE.skip ?_)
      all_goals (first | (exfalso; omega) | skip)
      refine RunL.call rfl rfl rfl (of_ok l v p t time _ (hv.up X) hl) ?_
      rintro _ _ ⟨⟨F, hG, hF⟩, Xa_⟩
      replace Z8 := Z8.up Xa_
      replace X := X.trans Xa_
      clear Xa_
      skip
      refine RunL.call rfl rfl rfl (dgreatest_ok _ l p t time F _ hG hF) ?_
      rintro _ _ ⟨rfl, Xa_⟩
      replace Z8 := Z8.up Xa_
      replace X := X.trans Xa_
      clear Xa_
      cases hb : bestD l p t time with
      | none =>
        have hX : curX l p t time = zeroD := by rw [hX0, hb]; rfl
        have hD : curD l p t time = none := by rw [hD0, hb]; rfl
        simp only [asD]
        repeat' (first | with_reducible refine RunLN.boolF rfl ?_ | refine RunLN.any ?_ | refine RunL.ev Tryd.tOk rfl rfl rfl ?_)
        refine RunL.store Tryd.tOk rfl rfl rfl rfl rfl Z8 rfl rfl fun w_ t_ => ?_
        replace X := X.own t_.ext gB8
        replace Z8 : Blk w_ B8 (zeroD.cells) 57 := t_.at_
        clear t_
        repeat' (first | with_reducible refine RunLN.boolF rfl ?_ | refine RunLN.any ?_ | refine RunL.ev Tryd.tOk rfl rfl rfl ?_ | refine RunL.unwantedD rfl rfl ?_ | refine RunL.evV rfl rfl rfl (OpV.loadN Tryd.tOk rfl rfl rfl rfl (Blk.row Z8)) ?_ | refine RunE.seq ?_ | refine RunE.region ?_ | refine RunL.nil ?_)
        refine RunL.store Tryd.tOk rfl rfl rfl rfl rfl Z8 rfl rfl fun w_ t_ => ?_
        replace X := X.own t_.ext gB8
        replace Z8 : Blk w_ B8 (zeroD.cells) 57 := t_.at_
        clear t_
        repeat' (first | with_reducible refine RunLN.boolF rfl ?_ | refine RunLN.int (by (first | exact wr_i64 (by omega) (by omega) | exact wm_i64 (by omega) | exact wq_i64 (by omega) (by omega) (by omega) | rfl)) ?_ | refine RunL.ev Tryd.tOk rfl rfl rfl ?_ | refine RunL.nil ?_)
        refine RunE.retFn Tryd.func71 (.cell rfl (Loads.agg Tryd.tOk rfl rfl rfl Z8.row) (.tmp rfl (.tmp rfl .nil))) ⟨?_, X⟩
        rw [he, hX, hD]; rfl
      | some x =>
        obtain ⟨no, at_, known, person, key, gone⟩ := x
        have hX : curX l p t time = ⟨no, at_, known, person, key, gone⟩ := by rw [hX0, hb]; rfl
        simp only [asD]
        repeat' (first | with_reducible refine RunLN.boolT rfl ?_ | refine RunLN.any ?_ | refine RunL.ev Tryd.tOk rfl rfl rfl ?_)
        refine RunL.store Tryd.tOk rfl rfl rfl rfl rfl Z8 rfl rfl fun w_ t_ => ?_
        replace X := X.own t_.ext gB8
        replace Z8 : Blk w_ B8 ((Dev.cells ⟨no, at_, known, person, key, gone⟩)) 57 := t_.at_
        clear t_
        cases gone with
        | true =>
          have hD : curD l p t time = none := by rw [hD0, hb]; rfl
          repeat' (first | with_reducible refine RunLN.boolT rfl ?_ | with_reducible refine RunLN.boolF rfl ?_ | refine RunLN.any ?_ | refine RunL.ev Tryd.tOk rfl rfl rfl ?_ | refine RunL.evV rfl rfl rfl (OpV.loadN Tryd.tOk rfl rfl rfl rfl (Blk.row Z8)) ?_ | refine RunL.evV rfl rfl rfl (OpV.load1 Tryd.tOk rfl rfl rfl (Blk.cell Z8 rfl)) ?_ | refine RunE.seq ?_ | refine RunE.region ?_ | refine RunL.nil ?_)
          refine RunL.store Tryd.tOk rfl rfl rfl rfl rfl Z8 rfl rfl fun w_ t_ => ?_
          replace X := X.own t_.ext gB8
          replace Z8 : Blk w_ B8 ((Dev.cells ⟨no, at_, known, person, key, true⟩)) 57 := t_.at_
          clear t_
          repeat' (first | with_reducible refine RunLN.boolF rfl ?_ | refine RunLN.int (by (first | exact wr_i64 (by omega) (by omega) | exact wm_i64 (by omega) | exact wq_i64 (by omega) (by omega) (by omega) | rfl)) ?_ | refine RunL.ev Tryd.tOk rfl rfl rfl ?_ | refine RunL.nil ?_)
          refine RunE.retFn Tryd.func71 (.cell rfl (Loads.agg Tryd.tOk rfl rfl rfl Z8.row) (.tmp rfl (.tmp rfl .nil))) ⟨?_, X⟩
          rw [he, hX, hD]; rfl
        | false =>
          have hD : curD l p t time = some ⟨no, at_, known, person, key, false⟩ := by rw [hD0, hb]; rfl
          repeat' (first | with_reducible refine RunLN.boolT rfl ?_ | with_reducible refine RunLN.boolF rfl ?_ | refine RunLN.any ?_ | refine RunL.ev Tryd.tOk rfl rfl rfl ?_ | refine RunL.evV rfl rfl rfl (OpV.loadN Tryd.tOk rfl rfl rfl rfl (Blk.row Z8)) ?_ | refine RunL.evV rfl rfl rfl (OpV.load1 Tryd.tOk rfl rfl rfl (Blk.cell Z8 rfl)) ?_ | refine RunE.seq ?_ | refine RunE.region ?_ | refine RunL.nil ?_)
          refine RunL.store Tryd.tOk rfl rfl rfl rfl rfl Z8 rfl rfl fun w_ t_ => ?_
          replace X := X.own t_.ext gB8
          replace Z8 : Blk w_ B8 ((Dev.cells ⟨no, at_, known, person, key, false⟩)) 57 := t_.at_
          clear t_
          repeat' (first | with_reducible refine RunLN.boolT rfl ?_ | refine RunLN.int (by (first | exact wr_i64 (by omega) (by omega) | exact wm_i64 (by omega) | exact wq_i64 (by omega) (by omega) (by omega) | rfl)) ?_ | refine RunL.ev Tryd.tOk rfl rfl rfl ?_ | refine RunL.nil ?_)
          refine RunE.retFn Tryd.func71 (.cell rfl (Loads.agg Tryd.tOk rfl rfl rfl Z8.row) (.tmp rfl (.tmp rfl .nil))) ⟨?_, X⟩
          rw [he, hX, hD]; rfl
    · have hA : argD p t time = false := decide_eq_false ha
      have he : curE l p t time = 1 := by rw [hE, hA]; rfl
      have hX : curX l p t time = zeroD := if_neg (by rw [he]; decide)
      have hD : curD l p t time = none := if_neg (by rw [he]; decide)
      repeat' (first | with_reducible refine RunLN.boolT rfl ?_ | with_reducible refine RunLN.boolF rfl ?_ | (with_reducible refine RunLN.decF ?_ ?_; focus omega) | refine RunLN.int (by (first | exact wr_i64 (by omega) (by omega) | exact wm_i64 (by omega) | exact wq_i64 (by omega) (by omega) (by omega) | rfl)) ?_ | (refine RunLN.boolC (fun h_ => ?_) (fun h_ => ?_) <;> (try simp only [decide_eq_true_eq, decide_eq_false_iff_not, beq_iff_eq, bne_iff_ne, ne_eq, Bool.not_eq_true, Bool.not_eq_false, beq_eq_false_iff_ne, bne_eq_false_iff_eq, Bool.not_eq_eq_eq_not, Bool.not_true, Bool.not_false, Bool.not_not, Int.not_lt, Int.not_le, gt_iff_lt, ge_iff_le, Decidable.not_not] at h_)) | refine RunLN.any ?_ | refine RunL.ev Tryd.tOk rfl rfl rfl ?_ | refine RunL.unwantedD rfl rfl ?_ | refine RunL.callN rfl rfl rfl (dwithin_ok _ _ _) ?_ | refine RunL.evV rfl rfl rfl (OpV.loadN Tryd.tOk rfl rfl rfl rfl (Blk.row Z8)) ?_ | refine RunE.condT rfl rfl ?_ | refine RunE.condF rfl rfl ?_ | refine RunE.seq ?_ | refine RunE.region ?_ | refine RunL.nil ?_ | refine RunE.skip ?_)
      all_goals first
        | (exfalso; omega)
        | (refine RunL.store Tryd.tOk rfl rfl rfl rfl rfl Z8 rfl rfl fun w_ t_ => ?_
           replace X := X.own t_.ext gB8
           replace Z8 : Blk w_ B8 zeroD.cells 57 := t_.at_
           clear t_
           skip)
      all_goals
        repeat' (first | with_reducible refine RunLN.boolF rfl ?_ | refine RunLN.int (by (first | exact wr_i64 (by omega) (by omega) | exact wm_i64 (by omega) | exact wq_i64 (by omega) (by omega) (by omega) | rfl)) ?_ | refine RunL.ev Tryd.tOk rfl rfl rfl ?_ | refine RunL.nil ?_)
        refine RunE.retFn Tryd.func71 (.cell rfl (Loads.agg Tryd.tOk rfl rfl rfl Z8.row) (.tmp rfl (.tmp rfl .nil))) ⟨?_, X⟩
        rw [he, hX, hD]; rfl
  · have he0 : curE l p t time = chkD l := if_neg hc
    have hX : curX l p t time = zeroD := if_neg (by rw [he0]; exact hc)
    have hD : curD l p t time = none := if_neg (by rw [he0]; exact hc)
    rw [← he0] at hc ⊢
    have he : curE l p t time = curE l p t time := rfl
    repeat' (first | (with_reducible refine RunLN.neT ?_ ?_; focus omega) | refine RunLN.int (by (first | exact wr_i64 (by omega) (by omega) | exact wm_i64 (by omega) | exact wq_i64 (by omega) (by omega) (by omega) | rfl)) ?_ | refine RunLN.any ?_ | refine RunL.ev Tryd.tOk rfl rfl rfl ?_ | refine RunL.evV rfl rfl rfl (OpV.loadN Tryd.tOk rfl rfl rfl rfl (Blk.row Z8)) ?_ | refine RunE.condT rfl rfl ?_ | refine RunE.seq ?_ | refine RunE.region ?_ | refine RunL.nil ?_)
    refine RunL.store Tryd.tOk rfl rfl rfl rfl rfl Z8 rfl rfl fun w_ t_ => ?_
    replace X := X.own t_.ext gB8
    replace Z8 : Blk w_ B8 (zeroD.cells) 57 := t_.at_
    clear t_
    repeat' (first | with_reducible refine RunLN.boolF rfl ?_ | refine RunLN.int (by (first | exact wr_i64 (by omega) (by omega) | exact wm_i64 (by omega) | exact wq_i64 (by omega) (by omega) (by omega) | rfl)) ?_ | refine RunL.ev Tryd.tOk rfl rfl rfl ?_ | refine RunL.nil ?_)
    refine RunE.retFn Tryd.func71 (.cell rfl (Loads.agg Tryd.tOk rfl rfl rfl Z8.row) (.tmp rfl (.tmp rfl .nil))) ⟨?_, X⟩
    rw [hX, hD]; rfl
end Go.Sg
end
section
/- The codec's numbers and values. -/
namespace Go.Rn
open Go.RowKit Go.Lib
variable {P : Program} {w : World} {env : Env} {dst : Option Tmp} {ty : TypeId} {pos : String} {after : Array Edge} {guard : Option (Nat × Bool)}
/-- append(v, s...) of a string's bytes. -/
theorem OpE.appendStr {T : Tab} (hT : T.Ok P) {t u e : TypeId} {ag : Bool} {s bb s' bb' s2 : Nat} {z z' : List Value} {a u1 a' u' a2 u2 : Bool} {x y : Operand} {v : Value} {n base : Nat} {xs : List Value} {str : ByteArray} (hz : (P.info? e).bind (·.zero) = some (.int .u8 0))
    (ht : T.get t = some ⟨.slc 1 ag e, s, bb, z, a, u1⟩) (hu : T.get u = some ⟨.str, s', bb', z', a', u'⟩) (he : T.get e = some ⟨.int .u8, s2, 1, [.int .u8 0], a2, u2⟩)
    (hx : evO env x = some v) (hy : evO env y = some (.string str)) (hv : w.ownsRow base e 1 v n xs) (hb : n + str.size ≤ 140737488355328) (hbase : base ≤ w.heap.size) :
    OpE P env w ⟨dst, .call ⟨.builtin .append, #[x, y], #[t, u]⟩, ty, pos, after, guard⟩
      (fun v' w' => w'.ownsRow base e 1 v' (n + str.size) (xs ++ bytesV str.data.toList) ∧ ExtB (fun k => v.ownBlock = some k) w w') fun _ _ => False := by
  obtain ⟨hut, hc⟩ := TD.of_slc (TI.tdof (hT.get _ _ ht)).symm
  have hus := TD.of_str (TI.tdof (hT.get _ _ hu)).symm
  have hue := TD.of_int (TI.tdof (hT.get _ _ he)).symm
  obtain ⟨j, dd, zv, hj, hd, hzv, h1, h2, h3, h4, h5, _⟩ := TI.inv (hT.get _ _ he)
  obtain ⟨ii, d', hii, hs', _, _⟩ := cellsAgg_inv hc
  rw [hii] at hj; cases hj
  have hz : j.zero = some (.int .u8 0) := by rw [hii] at hz; exact hz
  obtain ⟨v', w', hrun, hown, hgr, -⟩ := run_append_own_string (P := P) (w := w) base t u ty e j hut hus hii hz hs' h2.symm v n xs hv str (by simp only [maxLen]; omega) hb hbase
  exact .of_run (w' := w') (v := v') ⟨hown, .of_grown hgr (run_drawn _ hrun)⟩ fun ρ hρ => ⟨_, by simp only [execOp, resolve, List.map_toArray, List.map_cons, List.map_nil, hρ _ _ hx, hρ _ _ hy] <;> rfl, hrun⟩

/-- x.(T), ok: it is one. -/
theorem OpV.assertT {t u : TypeId} {x : Operand} {v : Value} {d : TypeDesc} (hx : evO env x = some (.iface u v)) (hu : P.underlying u = some d) (hd : isIfaceD d = false) :
    OpV P env w ⟨dst, .typeAssert x t u true, ty, pos, after, guard⟩ (.tuple #[v, .bool true]) := .of_run fun ρ hρ => by
  refine ⟨_, by simp only [execOp, hρ _ _ hx]; rfl, ?_⟩
  unfold Instr.typeAssert
  rw [run_bind _ _ (run_underlying hu)]
  cases d <;> first | (simp [isIfaceD] at hd; done) | simp [Pure.pure, Sem.run]
/-- x.(T), ok: it is none. -/
theorem OpV.assertF {t u u' : TypeId} {x : Operand} {v zv : Value} {d : TypeDesc} (hx : evO env x = some (.iface u' v)) (hne : (Nat.beq u' u) = false) (hu : P.underlying u = some d) (hd : isIfaceD d = false)
    (hz : (P.info? u).bind (·.zero) = some zv) :
    OpV P env w ⟨dst, .typeAssert x t u true, ty, pos, after, guard⟩ (.tuple #[zv, .bool false]) := .of_run fun ρ hρ => by
  refine ⟨_, by simp only [execOp, hρ _ _ hx]; rfl, ?_⟩
  obtain ⟨i, hi, hiz⟩ := Option.bind_eq_some_iff.1 hz
  have hne' : ¬ u' = u := fun e => by subst e; simp at hne
  have hzr : (zeroValue u).run P w = .ok zv w := by unfold zeroValue; rw [run_bind _ _ (run_typeInfo hi), hiz]; rfl
  unfold Instr.typeAssert
  rw [run_bind _ _ (run_underlying hu)]
  cases d <;> first | (simp [isIfaceD] at hd; done) | (simp only [hne', if_false, if_true]; rw [run_bind _ _ hzr]; rfl)
end Go.Rn
end
section
/- Numbers of 32 bits as bit vectors. -/
namespace Go.Rn

theorem u32_bits : IntKind.u32.bits = 32 := rfl
theorem u32_wrap_nat (n : Nat) (h : n < 4294967296) : IntKind.u32.wrap (n : Int) = (n : Int) := wr_u32 (by omega) (by omega)
theorem bv_of (x : BitVec 32) : BitVec.ofInt IntKind.u32.bits (x.toNat : Int) = x := by
  show BitVec.ofInt 32 ((x.toNat : Nat) : Int) = x
  rw [BitVec.ofInt_natCast, BitVec.ofNat_toNat, BitVec.setWidth_eq]
theorem u32_xor (x y : BitVec 32) : IntKind.u32.wrap ((BitVec.ofInt IntKind.u32.bits (x.toNat : Int) ^^^ BitVec.ofInt IntKind.u32.bits (y.toNat : Int)).toNat : Int) = ((x ^^^ y).toNat : Int) := by
  rw [bv_of, bv_of]; exact u32_wrap_nat _ (BitVec.isLt (x ^^^ y))
theorem u32_and (x y : BitVec 32) : IntKind.u32.wrap ((BitVec.ofInt IntKind.u32.bits (x.toNat : Int) &&& BitVec.ofInt IntKind.u32.bits (y.toNat : Int)).toNat : Int) = ((x &&& y).toNat : Int) := by
  rw [bv_of, bv_of]; exact u32_wrap_nat _ (BitVec.isLt (x &&& y))
theorem u32_or (x y : BitVec 32) : IntKind.u32.wrap ((BitVec.ofInt IntKind.u32.bits (x.toNat : Int) ||| BitVec.ofInt IntKind.u32.bits (y.toNat : Int)).toNat : Int) = ((x ||| y).toNat : Int) := by
  rw [bv_of, bv_of]; exact u32_wrap_nat _ (BitVec.isLt (x ||| y))
theorem u32_add (x y : BitVec 32) : IntKind.u32.wrap ((x.toNat : Int) + (y.toNat : Int)) = ((x + y).toNat : Int) := by
  rw [wrap_u32, BitVec.toNat_add]; omega
theorem u32_shl (x : BitVec 32) (n : Nat) (h : n ≤ 32) : IntKind.u32.wrap ((x.toNat : Int) * 2 ^ (min n IntKind.u32.bits)) = ((x <<< n).toNat : Int) := by
  rw [wrap_u32, BitVec.toNat_shiftLeft, Nat.shiftLeft_eq, u32_bits, Nat.min_eq_left h]
  have : (x.toNat : Int) * 2 ^ n = ((x.toNat * 2 ^ n : Nat) : Int) := by simp
  rw [this]; omega
theorem u32_shr (x : BitVec 32) (n : Nat) (h : n ≤ 32) : ((x.toNat : Int).fdiv (2 ^ (min n IntKind.u32.bits))) = ((x >>> n).toNat : Int) := by
  rw [BitVec.toNat_ushiftRight, Nat.shiftRight_eq_div_pow, u32_bits, Nat.min_eq_left h]
  rw [Int.fdiv_eq_ediv_of_nonneg _ (by exact Int.pow_nonneg (by omega))]
  simp
theorem u32_of_u8 (b : UInt8) : IntKind.u32.wrap ((b.toNat : Nat) : Int) = ((BitVec.ofNat 32 b.toNat).toNat : Int) := by
  have := b.toNat_lt
  rw [u32_wrap_nat _ (by omega), BitVec.toNat_ofNat]
  congr 1
  rw [Nat.mod_eq_of_lt (by omega)]

/-- A rotation to the right. -/
def rotr (x : BitVec 32) (n : Nat) : BitVec 32 := (x <<< (32 - n)) ||| (x >>> n)
section
variable {P : Program} {w : World} {env : Env} {dst : Option Tmp} {ty t yt : TypeId} {pos : String} {after : Array Edge} {guard : Option (Nat × Bool)} {x y : Operand} {a b : BitVec 32}
theorem OpV.bin32 {op : BinOp} {m : Int} (hs : op ≠ .shl) (hs' : op ≠ .shr) (hx : evO env x = some (.int .u32 (a.toNat : Int))) (hy : evO env y = some (.int .u32 (b.toNat : Int)))
    (h : evInt op .u32 (a.toNat : Int) (b.toNat : Int) = some (.int .u32 m)) : OpV P env w ⟨dst, .binOp op t x y yt, ty, pos, after, guard⟩ (.int .u32 m) := .of_run fun ρ hρ => by
  refine ⟨_, by simp only [execOp, hρ _ _ hx, hρ _ _ hy]; rfl, ?_⟩
  rw [run_bind _ _ (run_eqGuard_plain (P := P) (w := w) op t x y (by intro c; simp) (by simp))]
  exact run_intOp hs hs' h t
theorem OpV.xor32 (hx : evO env x = some (.int .u32 (a.toNat : Int))) (hy : evO env y = some (.int .u32 (b.toNat : Int))) :
    OpV P env w ⟨dst, .binOp .xor t x y yt, ty, pos, after, guard⟩ (.int .u32 ((a ^^^ b).toNat : Int)) := .bin32 (by decide) (by decide) hx hy (by rw [← u32_xor]; rfl)
theorem OpV.and32 (hx : evO env x = some (.int .u32 (a.toNat : Int))) (hy : evO env y = some (.int .u32 (b.toNat : Int))) :
    OpV P env w ⟨dst, .binOp .and t x y yt, ty, pos, after, guard⟩ (.int .u32 ((a &&& b).toNat : Int)) := .bin32 (by decide) (by decide) hx hy (by rw [← u32_and]; rfl)
theorem OpV.or32 (hx : evO env x = some (.int .u32 (a.toNat : Int))) (hy : evO env y = some (.int .u32 (b.toNat : Int))) :
    OpV P env w ⟨dst, .binOp .or t x y yt, ty, pos, after, guard⟩ (.int .u32 ((a ||| b).toNat : Int)) := .bin32 (by decide) (by decide) hx hy (by rw [← u32_or]; rfl)
theorem OpV.add32 (hx : evO env x = some (.int .u32 (a.toNat : Int))) (hy : evO env y = some (.int .u32 (b.toNat : Int))) :
    OpV P env w ⟨dst, .binOp .add t x y yt, ty, pos, after, guard⟩ (.int .u32 ((a + b).toNat : Int)) := .bin32 (by decide) (by decide) hx hy (by rw [← u32_add]; rfl)
theorem OpV.shl32 {k : IntKind} {n : Nat} (hx : evO env x = some (.int .u32 (a.toNat : Int))) (hy : evO env y = some (.int k (.ofNat n))) (hn : Nat.ble n 32 = true) :
    OpV P env w ⟨dst, .binOp .shl t x y yt, ty, pos, after, guard⟩ (.int .u32 ((a <<< n).toNat : Int)) := .of_run fun ρ hρ => by
  refine ⟨_, by simp only [execOp, hρ _ _ hx, hρ _ _ hy]; rfl, ?_⟩
  rw [run_bind _ _ (run_eqGuard_plain (P := P) (w := w) .shl t x y (by intro c; simp) (by simp))]
  rw [← u32_shl a n (Nat.le_of_ble_eq_true hn)]
  simp only [binOp, Op.shift]
  rw [if_neg (by simp)]
  simp [pure]
theorem OpV.shr32 {k : IntKind} {n : Nat} (hx : evO env x = some (.int .u32 (a.toNat : Int))) (hy : evO env y = some (.int k (.ofNat n))) (hn : Nat.ble n 32 = true) :
    OpV P env w ⟨dst, .binOp .shr t x y yt, ty, pos, after, guard⟩ (.int .u32 ((a >>> n).toNat : Int)) := .of_run fun ρ hρ => by
  refine ⟨_, by simp only [execOp, hρ _ _ hx, hρ _ _ hy]; rfl, ?_⟩
  rw [run_bind _ _ (run_eqGuard_plain (P := P) (w := w) .shr t x y (by intro c; simp) (by simp))]
  rw [← u32_shr a n (Nat.le_of_ble_eq_true hn)]
  simp only [binOp, Op.shift]
  rw [if_neg (by simp)]
  simp [pure]
end
end Go.Rn
namespace Go.Sg
open Go.Rn Go.Proofs

theorem rot_count : ∀ n : Fin 32, 0 < n.val → IntKind.u64.wrap ((BitVec.ofInt IntKind.u64.bits (IntKind.u64.wrap (-(n.val : Int))) &&& BitVec.ofInt IntKind.u64.bits 31).toNat : Int) = ((32 - n.val : Nat) : Int) := by decide +kernel

theorem rotl_ok (x : BitVec 32) (n : Nat) (h0 : 0 < n) (h1 : n < 32) (w : World) : Rets Tryd.prog 131 [.int .u32 (x.toNat : Int), .int .i64 (-(n : Int))] w fun v w' => v = .int .u32 ((rotr x n).toNat : Int) ∧ w = w' := by
  have hc := rot_count ⟨n, h1⟩ h0
  simp only at hc
  refine RetsX.of (nt := 17) Tryd.func131 (by kernel_rfl) rfl rfl (by simp) (by simp only [argEnv]; rfl) ?_
  (repeat (first | refine RunE.seq ?_ | refine RunE.skip ?_)); refine RunE.region ?_; (repeat (first | refine RunL.pureI Tryd.tOk rfl rfl rfl (by (first | exact wr_i64 (by omega) (by omega) | exact wm_i64 (by omega) | exact wq_i64 (by omega) (by omega) (by omega) | rfl)) ?_ | refine RunL.pure Tryd.tOk rfl rfl rfl ?_ | refine RunL.unwantedD rfl rfl ?_)); refine RunL.nil ?_
  repeat (first | refine RunE.seq ?_ | refine RunE.region ?_ | refine RunL.nil ?_ | refine RunE.block ?_ | refine RunE.inBlock ?_ | refine RunE.skip ?_ | refine RunE.exit rfl ?_ | refine RunE.scope ?_ | refine RunE.inScope ?_ | refine RunE.label ?_)
  refine RunL.pure Tryd.tOk rfl rfl rfl ?_
  refine RunL.pure Tryd.tOk rfl rfl rfl ?_
  refine RunL.pureI Tryd.tOk rfl rfl rfl hc ?_
  refine RunL.pure Tryd.tOk rfl rfl rfl ?_
  repeat (first | refine RunE.seq ?_ | refine RunE.region ?_ | refine RunL.nil ?_ | refine RunE.block ?_ | refine RunE.inBlock ?_ | refine RunE.skip ?_ | refine RunE.exit rfl ?_ | refine RunE.scope ?_ | refine RunE.inScope ?_ | refine RunE.label ?_)
  refine RunL.pure Tryd.tOk rfl rfl rfl ?_
  refine RunL.pure Tryd.tOk rfl rfl rfl ?_
  refine RunL.pureI Tryd.tOk rfl rfl rfl (u32_shl _ _ (by omega)) ?_
  refine RunL.pure Tryd.tOk rfl rfl rfl ?_
  refine RunL.pure Tryd.tOk rfl rfl rfl ?_
  refine RunL.pureI (m' := (n : Int)) Tryd.tOk rfl rfl rfl (by rw [wrap_u64]; omega) ?_
  refine RunL.pureI Tryd.tOk rfl rfl rfl (u32_shr _ _ (by omega)) ?_
  refine RunL.pureI Tryd.tOk rfl rfl rfl (u32_or _ _) ?_
  repeat (first | refine RunL.pureI Tryd.tOk rfl rfl rfl (by (first | exact wr_i64 (by omega) (by omega) | exact wm_i64 (by omega) | exact wq_i64 (by omega) (by omega) (by omega) | rfl)) ?_ | refine RunL.pure Tryd.tOk rfl rfl rfl ?_ | refine RunL.unwantedD rfl rfl ?_ | refine RunE.seq ?_ | refine RunE.region ?_ | refine RunL.nil ?_ | refine RunE.block ?_ | refine RunE.inBlock ?_ | refine RunE.skip ?_ | refine RunE.exit rfl ?_ | refine RunE.scope ?_ | refine RunE.inScope ?_ | refine RunE.label ?_)
  exact RunE.retFn Tryd.func131 (.tmp rfl .nil) ⟨rfl, rfl⟩

theorem ror_ok (x : BitVec 32) (n : Nat) (h1 : n < 32) (w : World) : Rets Tryd.prog 141 [.int .u32 (x.toNat : Int), .int .i64 (n : Int)] w fun v w' => v = .int .u32 ((rotr x n).toNat : Int) ∧ Ext w w' := by
  refine RetsX.of (nt := 13) Tryd.func141 (by kernel_rfl) rfl rfl (by simp) (by simp only [argEnv]; rfl) ?_
  repeat (first | refine RunL.pureI Tryd.tOk rfl rfl rfl (by (first | exact wr_i64 (by omega) (by omega) | exact wm_i64 (by omega) | exact wq_i64 (by omega) (by omega) (by omega) | rfl)) ?_ | refine RunL.pure Tryd.tOk rfl rfl rfl ?_ | refine RunL.unwantedD rfl rfl ?_ | refine RunE.seq ?_ | refine RunE.region ?_ | refine RunL.nil ?_ | refine RunE.block ?_ | refine RunE.inBlock ?_ | refine RunE.skip ?_ | refine RunE.exit rfl ?_ | refine RunE.scope ?_ | refine RunE.inScope ?_ | refine RunE.label ?_)
  refine RunE.draw (fun _ => False) mix ?_
  intro w0 X
  refine Asy.pure Tryd.tOk rfl rfl rfl ?_
  refine Asy.pure Tryd.tOk rfl rfl rfl ?_
  refine Asy.pureI Tryd.tOk rfl rfl rfl (u32_shr _ _ (by omega)) ?_
  refine Asy.pure Tryd.tOk rfl rfl rfl ?_
  refine Asy.pure Tryd.tOk rfl rfl rfl ?_
  refine Asy.pureI (m' := ((32 - n : Nat) : Int)) Tryd.tOk rfl rfl rfl (by rw [wr_i64 (by omega) (by omega)]; omega) ?_
  refine Asy.pureI Tryd.tOk rfl rfl rfl (u32_shl _ _ (by omega)) ?_
  refine Asy.pureI Tryd.tOk rfl rfl rfl (u32_or _ _) ?_
  refine Asy.pure Tryd.tOk rfl rfl rfl ?_
  refine Asy.tail (by kernel_rfl) ?_
  intro w1 X1
  simp only [satsAll]
  repeat (first | refine RunL.pureI Tryd.tOk rfl rfl rfl (by (first | exact wr_i64 (by omega) (by omega) | exact wm_i64 (by omega) | exact wq_i64 (by omega) (by omega) (by omega) | rfl)) ?_ | refine RunL.pure Tryd.tOk rfl rfl rfl ?_ | refine RunL.unwantedD rfl rfl ?_ | refine RunE.seq ?_ | refine RunE.region ?_ | refine RunL.nil ?_ | refine RunE.block ?_ | refine RunE.inBlock ?_ | refine RunE.skip ?_ | refine RunE.exit rfl ?_ | refine RunE.scope ?_ | refine RunE.inScope ?_ | refine RunE.label ?_)
  exact RunE.retFn Tryd.func141 (.tmp rfl .nil) ⟨by unfold rotr; rw [BitVec.or_comm]; rfl, X.trans X1⟩
end Go.Sg
end
section
/- What SHA-256 is; words of bytes. -/
namespace Go.Sha
open Go.Rn

abbrev W := BitVec 32
def s0 (x : W) : W := (rotr x 7 ^^^ rotr x 18) ^^^ (x >>> 3)
def s1 (x : W) : W := (rotr x 17 ^^^ rotr x 19) ^^^ (x >>> 10)
def S3 (x : W) (a b c : Nat) : W := (rotr x a ^^^ rotr x b) ^^^ rotr x c
def ch (e f g : W) : W := (e &&& f) ^^^ (~~~e &&& g)
def maj (a b c : W) : W := ((a &&& b) ^^^ (a &&& c)) ^^^ (b &&& c)
theorem ch_eq (e f g : W) : g ^^^ (e &&& (f ^^^ g)) = ch e f g := by
  apply BitVec.eq_of_getLsbD_eq
  intro i hi
  simp only [ch, BitVec.getLsbD_xor, BitVec.getLsbD_and, BitVec.getLsbD_not, hi, decide_true, Bool.true_and]
  cases e.getLsbD i <;> cases f.getLsbD i <;> cases g.getLsbD i <;> rfl
theorem maj_eq (a b c : W) : (a &&& b) ||| (c &&& (a ||| b)) = maj a b c := by
  apply BitVec.eq_of_getLsbD_eq
  intro i _
  simp only [maj, BitVec.getLsbD_xor, BitVec.getLsbD_and, BitVec.getLsbD_or]
  cases a.getLsbD i <;> cases b.getLsbD i <;> cases c.getLsbD i <;> rfl

/-- The word of four bytes. -/
def word (a b c d : UInt8) : W := BitVec.ofNat 32 (((a.toNat * 256 + b.toNat) * 256 + c.toNat) * 256 + d.toNat)

theorem or_base (x c : Nat) (hc : c < 256) : ((BitVec.ofNat 32 x <<< 8) ||| BitVec.ofNat 32 c : W) = BitVec.ofNat 32 (x * 256 + c) := by
  have h : x * 256 + c = x <<< 8 ||| c := by rw [← Nat.shiftLeft_add_eq_or_of_lt (by simpa using hc), Nat.shiftLeft_eq]
  rw [h, BitVec.ofNat_or]
  congr 1
  apply BitVec.eq_of_toNat_eq
  simp [Nat.shiftLeft_eq, BitVec.toNat_shiftLeft]
theorem or_step (x c n : Nat) (hc : c < 256) : ((BitVec.ofNat 32 x <<< (8 + n)) ||| (BitVec.ofNat 32 c <<< n) : W) = BitVec.ofNat 32 (x * 256 + c) <<< n := by
  rw [BitVec.shiftLeft_add, ← BitVec.shiftLeft_or_distrib, or_base x c hc]

structure S8 where
  a : W
  b : W
  c : W
  d : W
  e : W
  f : W
  g : W
  h : W

def S8.l (s : S8) : List W := [s.a, s.b, s.c, s.d, s.e, s.f, s.g, s.h]
def rnd (s : S8) (k w : W) : S8 :=
  let p := (((s.h + S3 s.e 6 11 25) + ch s.e s.f s.g) + k) + w
  let q := S3 s.a 2 13 22 + maj s.a s.b s.c
  ⟨p + q, s.a, s.b, s.c, s.d + p, s.e, s.f, s.g⟩
def kTab : List W := [0x428a2f98, 0x71374491, 0xb5c0fbcf, 0xe9b5dba5, 0x3956c25b, 0x59f111f1, 0x923f82a4, 0xab1c5ed5,
  0xd807aa98, 0x12835b01, 0x243185be, 0x550c7dc3, 0x72be5d74, 0x80deb1fe, 0x9bdc06a7, 0xc19bf174,
  0xe49b69c1, 0xefbe4786, 0x0fc19dc6, 0x240ca1cc, 0x2de92c6f, 0x4a7484aa, 0x5cb0a9dc, 0x76f988da,
  0x983e5152, 0xa831c66d, 0xb00327c8, 0xbf597fc7, 0xc6e00bf3, 0xd5a79147, 0x06ca6351, 0x14292967,
  0x27b70a85, 0x2e1b2138, 0x4d2c6dfc, 0x53380d13, 0x650a7354, 0x766a0abb, 0x81c2c92e, 0x92722c85,
  0xa2bfe8a1, 0xa81a664b, 0xc24b8b70, 0xc76c51a3, 0xd192e819, 0xd6990624, 0xf40e3585, 0x106aa070,
  0x19a4c116, 0x1e376c08, 0x2748774c, 0x34b0bcb5, 0x391c0cb3, 0x4ed8aa4a, 0x5b9cca4f, 0x682e6ff3,
  0x748f82ee, 0x78a5636f, 0x84c87814, 0x8cc70208, 0x90befffa, 0xa4506ceb, 0xbef9a3f7, 0xc67178f2]
def init8 : S8 := ⟨0x6a09e667, 0xbb67ae85, 0x3c6ef372, 0xa54ff53a, 0x510e527f, 0x9b05688c, 0x1f83d9ab, 0x5be0cd19⟩

def nextW (l : List W) (k : Nat) : W := ((l.getD k 0 + s0 (l.getD (k + 1) 0)) + l.getD (k + 9) 0) + s1 (l.getD (k + 14) 0)
def sched (l : List W) : Nat → List W
  | 0 => l
  | k + 1 => sched l k ++ [nextW (sched l k) k]
theorem sched_length (l : List W) (k : Nat) : (sched l k).length = l.length + k := by
  induction k with
  | zero => rfl
  | succ k ih => simp [sched, ih]; omega
def words (l : List UInt8) : Nat → List W
  | 0 => []
  | k + 1 => words l k ++ [word (l.getD (4 * k) 0) (l.getD (4 * k + 1) 0) (l.getD (4 * k + 2) 0) (l.getD (4 * k + 3) 0)]
theorem words_length (l : List UInt8) (k : Nat) : (words l k).length = k := by
  induction k with
  | zero => rfl
  | succ k ih => simp [words, ih]
def rnds (ws : List W) (s : S8) : Nat → S8
  | 0 => s
  | t + 1 => rnd (rnds ws s t) (kTab.getD t 0) (ws.getD t 0)
def S8.add (s v : S8) : S8 := ⟨s.a + v.a, s.b + v.b, s.c + v.c, s.d + v.d, s.e + v.e, s.f + v.f, s.g + v.g, s.h + v.h⟩
/-- The state after a block of 64 bytes. -/
def block (s : S8) (l : List UInt8) : S8 := s.add (rnds (sched (words l 16) 48) s 64)

def vals (l : List W) : List Value := l.map fun x => .int .u32 (x.toNat : Int)
theorem vals_length (l : List W) : (vals l).length = l.length := by simp [vals]
end Go.Sha
namespace Go.Sg
open Go.Rn Go.Sha Go.Proofs

def accB (l : List UInt8) (j : Nat) : Nat := (l.take j).foldl (fun n c => n * 256 + c.toNat) 0
theorem accB_succ {l : List UInt8} {j : Nat} {x : UInt8} (h : l[j]? = some x) : accB l (j + 1) = accB l j * 256 + x.toNat := by
  unfold accB
  rw [List.take_add_one, h, List.foldl_append]
  rfl

theorem digestWord_ok (x0 x1 x2 x3 : UInt8) (b o len cap : Nat) (w : World) (h4 : 4 ≤ len) (hc : len ≤ cap) (hr : Row w b o (bytesV [x0, x1, x2, x3])) :
    Rets Tryd.prog 130 [.slice (some ⟨b, o, none⟩) len cap] w fun v w' => v = .int .u32 ((word x0 x1 x2 x3).toNat : Int) ∧ w = w' := by
  refine RetsX.of (nt := 19) Tryd.func130 (by kernel_rfl) rfl rfl (by simp) (by simp only [argEnv]; rfl) ?_
  repeat (first | refine RunL.pureI Tryd.tOk rfl rfl rfl (by (first | exact wr_i64 (by omega) (by omega) | exact wm_i64 (by omega) | exact wq_i64 (by omega) (by omega) (by omega) | rfl)) ?_ | refine RunL.pure Tryd.tOk rfl rfl rfl ?_ | refine RunL.unwantedD rfl rfl ?_ | refine RunE.seq ?_ | refine RunE.region ?_ | refine RunL.nil ?_ | refine RunE.block ?_ | refine RunE.inBlock ?_ | refine RunE.skip ?_ | refine RunE.exit rfl ?_ | refine RunE.scope ?_ | refine RunE.inScope ?_ | refine RunE.label ?_)
  refine RunL.val rfl rfl rfl (OpV.slice0 (hi := 4) Tryd.tOk rfl rfl .none (.some rfl rfl) (by omega)) ?_
  repeat (first | refine RunL.pureI Tryd.tOk rfl rfl rfl (by (first | exact wr_i64 (by omega) (by omega) | exact wm_i64 (by omega) | exact wq_i64 (by omega) (by omega) (by omega) | rfl)) ?_ | refine RunL.pure Tryd.tOk rfl rfl rfl ?_ | refine RunL.unwantedD rfl rfl ?_ | refine RunE.seq ?_ | refine RunE.region ?_ | refine RunL.nil ?_ | refine RunE.block ?_ | refine RunE.inBlock ?_ | refine RunE.skip ?_ | refine RunE.exit rfl ?_ | refine RunE.scope ?_ | refine RunE.inScope ?_ | refine RunE.label ?_)
  refine RunE.loop (ι := Nat) (fun j => [(6, .slice (some ⟨b, o, none⟩) 4 cap), (7, .int .i64 4), (8, .int .i64 (j : Int)), (2, .int .u32 ((BitVec.ofNat 32 (accB [x0, x1, x2, x3] j)).toNat : Int))])
    (fun j w' => w = w' ∧ j ≤ 4) (fun j => 4 - j) 0 (by repeat (first | exact Sub.nil _ | refine Sub.cons rfl ?_)) ⟨rfl, by omega⟩ ?_
  rintro j _ ⟨rfl, hj⟩ again
  repeat (first | refine RunL.pureI Tryd.tOk rfl rfl rfl (by (first | exact wr_i64 (by omega) (by omega) | exact wm_i64 (by omega) | exact wq_i64 (by omega) (by omega) (by omega) | rfl)) ?_ | refine RunL.pure Tryd.tOk rfl rfl rfl ?_ | refine RunL.unwantedD rfl rfl ?_ | refine RunE.seq ?_ | refine RunE.region ?_ | refine RunL.nil ?_ | refine RunE.block ?_ | refine RunE.inBlock ?_ | refine RunE.skip ?_ | refine RunE.exit rfl ?_ | refine RunE.scope ?_ | refine RunE.inScope ?_ | refine RunE.label ?_)
  refine RunE.cond rfl (fun hlt => ?_) (fun hlt => ?_) <;> (first | replace hlt := of_decide_eq_true hlt | replace hlt := of_decide_eq_false hlt | replace hlt := beq_iff_eq.1 hlt | replace hlt := beq_eq_false_iff_ne.1 hlt | replace hlt := bne_iff_ne.1 hlt | replace hlt := bne_eq_false_iff_eq.1 hlt | skip)
  · have hlt' : j < [x0, x1, x2, x3].length := by simp; omega
    have hx : [x0, x1, x2, x3][j]? = some [x0, x1, x2, x3][j] := List.getElem?_eq_getElem hlt'
    generalize [x0, x1, x2, x3][j] = x at hx
    repeat (first | refine RunL.pureI Tryd.tOk rfl rfl rfl (by (first | exact wr_i64 (by omega) (by omega) | exact wm_i64 (by omega) | exact wq_i64 (by omega) (by omega) (by omega) | rfl)) ?_ | refine RunL.pure Tryd.tOk rfl rfl rfl ?_ | refine RunL.unwantedD rfl rfl ?_ | refine RunE.seq ?_ | refine RunE.region ?_ | refine RunL.nil ?_ | refine RunE.block ?_ | refine RunE.inBlock ?_ | refine RunE.skip ?_ | refine RunE.exit rfl ?_ | refine RunE.scope ?_ | refine RunE.inScope ?_ | refine RunE.label ?_)
    refine RunL.val rfl rfl rfl (OpV.indexS1 Tryd.tOk j rfl rfl rfl rfl (by omega)) ?_
    refine RunL.val rfl rfl rfl (OpV.load1 (v := .int .u8 (x.toNat : Int)) Tryd.tOk rfl rfl rfl (hr j _ (by simp only [bytesV, List.getElem?_map, hx]; rfl))) ?_
    repeat (first | refine RunL.pureI Tryd.tOk rfl rfl rfl (by (first | with_reducible exact u32_xor _ _ | with_reducible exact u32_and _ _ | with_reducible exact u32_or _ _ | with_reducible exact u32_add _ _ | with_reducible exact u32_shl _ _ (by decide) | with_reducible exact u32_shr _ _ (by decide) | with_reducible exact u32_of_u8 _ | exact wr_i64 (by omega) (by omega) | rfl)) ?_ | refine RunL.pureI Tryd.tOk rfl rfl rfl (by (first | exact wr_i64 (by omega) (by omega) | exact wm_i64 (by omega) | exact wq_i64 (by omega) (by omega) (by omega) | rfl)) ?_ | refine RunL.pure Tryd.tOk rfl rfl rfl ?_ | refine RunL.unwantedD rfl rfl ?_ | refine RunE.seq ?_ | refine RunE.region ?_ | refine RunL.nil ?_ | refine RunE.block ?_ | refine RunE.inBlock ?_ | refine RunE.skip ?_ | refine RunE.exit rfl ?_ | refine RunE.scope ?_ | refine RunE.inScope ?_ | refine RunE.label ?_)
    exact RunE.weaken (by
      refine Sub.cons rfl (Sub.cons rfl (Sub.cons rfl (Sub.cons ?_ (Sub.nil _))))
      rw [accB_succ hx, ← or_base _ _ x.toNat_lt]
      rfl) (again (j + 1) _ (by omega) ⟨rfl, by omega⟩)
  · have hj4 : j = 4 := by omega
    subst hj4
    repeat (first | refine RunL.pureI Tryd.tOk rfl rfl rfl (by (first | exact wr_i64 (by omega) (by omega) | exact wm_i64 (by omega) | exact wq_i64 (by omega) (by omega) (by omega) | rfl)) ?_ | refine RunL.pure Tryd.tOk rfl rfl rfl ?_ | refine RunL.unwantedD rfl rfl ?_ | refine RunE.seq ?_ | refine RunE.region ?_ | refine RunL.nil ?_ | refine RunE.block ?_ | refine RunE.inBlock ?_ | refine RunE.skip ?_ | refine RunE.exit rfl ?_ | refine RunE.scope ?_ | refine RunE.inScope ?_ | refine RunE.label ?_)
    exact RunE.retFn Tryd.func130 (.tmp rfl .nil) ⟨by simp [accB, word, oneOr], rfl⟩

theorem refWord_ok (x0 x1 x2 x3 : UInt8) (b o len cap : Nat) (w : World) (h4 : 4 ≤ len) (hr : Row w b o (bytesV [x0, x1, x2, x3])) :
    Rets Tryd.prog 140 [.slice (some ⟨b, o, none⟩) len cap] w fun v w' => v = .int .u32 ((word x0 x1 x2 x3).toNat : Int) ∧ Ext w w' := by
  refine RetsX.of (nt := 25) Tryd.func140 (by kernel_rfl) rfl rfl (by simp) (by simp only [argEnv]; rfl) ?_
  repeat (first | refine RunL.pureI Tryd.tOk rfl rfl rfl (by (first | exact wr_i64 (by omega) (by omega) | exact wm_i64 (by omega) | exact wq_i64 (by omega) (by omega) (by omega) | rfl)) ?_ | refine RunL.pure Tryd.tOk rfl rfl rfl ?_ | refine RunL.unwantedD rfl rfl ?_ | refine RunE.seq ?_ | refine RunE.region ?_ | refine RunL.nil ?_ | refine RunE.block ?_ | refine RunE.inBlock ?_ | refine RunE.skip ?_ | refine RunE.exit rfl ?_ | refine RunE.scope ?_ | refine RunE.inScope ?_ | refine RunE.label ?_)
  refine RunE.draw (fun _ => False) mix ?_
  intro w0 X
  repeat (first | refine Asy.pureI Tryd.tOk rfl rfl rfl (by (first | with_reducible exact u32_xor _ _ | with_reducible exact u32_and _ _ | with_reducible exact u32_or _ _ | with_reducible exact u32_add _ _ | with_reducible exact u32_shl _ _ (by decide) | with_reducible exact u32_shr _ _ (by decide) | with_reducible exact u32_of_u8 _ | exact wr_i64 (by omega) (by omega) | rfl)) ?_ | refine Asy.pure Tryd.tOk rfl rfl rfl ?_ | refine Asy.unwantedD rfl rfl rfl ?_)
  refine Asy.v rfl rfl rfl rfl (fun _ _ => OpV.indexS1 Tryd.tOk 0 rfl rfl rfl rfl (by omega)) ?_
  refine Asy.v rfl rfl rfl rfl (fun _ X' => OpV.load1 Tryd.tOk rfl rfl rfl (hr.extE (X.trans X') 0 _ rfl)) ?_
  repeat (first | refine Asy.pureI Tryd.tOk rfl rfl rfl (by (first | with_reducible exact u32_xor _ _ | with_reducible exact u32_and _ _ | with_reducible exact u32_or _ _ | with_reducible exact u32_add _ _ | with_reducible exact u32_shl _ _ (by decide) | with_reducible exact u32_shr _ _ (by decide) | with_reducible exact u32_of_u8 _ | exact wr_i64 (by omega) (by omega) | rfl)) ?_ | refine Asy.pure Tryd.tOk rfl rfl rfl ?_ | refine Asy.unwantedD rfl rfl rfl ?_)
  refine Asy.v rfl rfl rfl rfl (fun _ _ => OpV.indexS1 Tryd.tOk 1 rfl rfl rfl rfl (by omega)) ?_
  refine Asy.v rfl rfl rfl rfl (fun _ X' => OpV.load1 Tryd.tOk rfl rfl rfl (hr.extE (X.trans X') 1 _ rfl)) ?_
  repeat (first | refine Asy.pureI Tryd.tOk rfl rfl rfl (by (first | with_reducible exact u32_xor _ _ | with_reducible exact u32_and _ _ | with_reducible exact u32_or _ _ | with_reducible exact u32_add _ _ | with_reducible exact u32_shl _ _ (by decide) | with_reducible exact u32_shr _ _ (by decide) | with_reducible exact u32_of_u8 _ | exact wr_i64 (by omega) (by omega) | rfl)) ?_ | refine Asy.pure Tryd.tOk rfl rfl rfl ?_ | refine Asy.unwantedD rfl rfl rfl ?_)
  refine Asy.v rfl rfl rfl rfl (fun _ _ => OpV.indexS1 Tryd.tOk 2 rfl rfl rfl rfl (by omega)) ?_
  refine Asy.v rfl rfl rfl rfl (fun _ X' => OpV.load1 Tryd.tOk rfl rfl rfl (hr.extE (X.trans X') 2 _ rfl)) ?_
  repeat (first | refine Asy.pureI Tryd.tOk rfl rfl rfl (by (first | with_reducible exact u32_xor _ _ | with_reducible exact u32_and _ _ | with_reducible exact u32_or _ _ | with_reducible exact u32_add _ _ | with_reducible exact u32_shl _ _ (by decide) | with_reducible exact u32_shr _ _ (by decide) | with_reducible exact u32_of_u8 _ | exact wr_i64 (by omega) (by omega) | rfl)) ?_ | refine Asy.pure Tryd.tOk rfl rfl rfl ?_ | refine Asy.unwantedD rfl rfl rfl ?_)
  refine Asy.v rfl rfl rfl rfl (fun _ _ => OpV.indexS1 Tryd.tOk 3 rfl rfl rfl rfl (by omega)) ?_
  refine Asy.v rfl rfl rfl rfl (fun _ X' => OpV.load1 Tryd.tOk rfl rfl rfl (hr.extE (X.trans X') 3 _ rfl)) ?_
  repeat (first | refine Asy.pureI Tryd.tOk rfl rfl rfl (by (first | with_reducible exact u32_xor _ _ | with_reducible exact u32_and _ _ | with_reducible exact u32_or _ _ | with_reducible exact u32_add _ _ | with_reducible exact u32_shl _ _ (by decide) | with_reducible exact u32_shr _ _ (by decide) | with_reducible exact u32_of_u8 _ | exact wr_i64 (by omega) (by omega) | rfl)) ?_ | refine Asy.pure Tryd.tOk rfl rfl rfl ?_ | refine Asy.unwantedD rfl rfl rfl ?_)
  refine Asy.tail (by kernel_rfl) ?_
  intro w1 X1
  simp only [satsAll]
  repeat (first | refine RunL.pureI Tryd.tOk rfl rfl rfl (by (first | exact wr_i64 (by omega) (by omega) | exact wm_i64 (by omega) | exact wq_i64 (by omega) (by omega) (by omega) | rfl)) ?_ | refine RunL.pure Tryd.tOk rfl rfl rfl ?_ | refine RunL.unwantedD rfl rfl ?_ | refine RunE.seq ?_ | refine RunE.region ?_ | refine RunL.nil ?_ | refine RunE.block ?_ | refine RunE.inBlock ?_ | refine RunE.skip ?_ | refine RunE.exit rfl ?_ | refine RunE.scope ?_ | refine RunE.inScope ?_ | refine RunE.label ?_)
  refine RunE.retFn Tryd.func140 (.tmp rfl .nil) ⟨?_, X.trans X1⟩
  unfold word
  rw [or_step _ _ 16 x1.toNat_lt, or_step _ _ 8 x2.toNat_lt, or_base _ _ x3.toNat_lt]
  rfl
end Go.Sg
end
section
/- What SHA-256 is: padding, blocks, the digest. Plain, no program. -/
namespace Go.Sha
open Go.Rn

/-- The bytes of a number, the greatest first. -/
def be : Nat → Nat → List UInt8
  | 0, _ => []
  | i + 1, n => UInt8.ofNat (n / 2 ^ (8 * i)) :: be i n
theorem be_length (i n : Nat) : (be i n).length = i := by
  induction i with
  | zero => rfl
  | succ i ih => simp [be, ih]
theorem be_get : ∀ (i n j : Nat), j < i → (be i n)[j]? = some (UInt8.ofNat (n / 2 ^ (8 * (i - 1 - j))))
  | 0, n, j, h => by omega
  | i + 1, n, 0, _ => by simp [be]
  | i + 1, n, j + 1, h => by
    simp only [be, List.getElem?_cons_succ]
    rw [be_get i n j (by omega)]
    congr 4; omega
def dig (s : S8) : List UInt8 := s.l.flatMap fun x => be 4 x.toNat
theorem dig_length (s : S8) : (dig s).length = 32 := rfl
theorem flat_length : ∀ L : List W, (L.flatMap fun x => be 4 x.toNat).length = 4 * L.length
  | [] => rfl
  | x :: r => by rw [List.flatMap_cons, List.length_append, be_length, flat_length r, List.length_cons]; omega
def run (s : S8) (l : List UInt8) : Nat → S8
  | 0 => s
  | k + 1 => block (run s l k) ((l.drop (64 * k)).take 64)
def padz (n : Nat) : Nat := (119 - n % 64) % 64
def pad (l : List UInt8) : List UInt8 := l ++ 128 :: (List.replicate (padz l.length) 0 ++ be 8 (8 * l.length))
def sha (l : List UInt8) : List UInt8 := dig (run init8 (pad l) ((pad l).length / 64))
theorem sha_length (l : List UInt8) : (sha l).length = 32 := rfl
def tagged (tag l : List UInt8) : List UInt8 := sha (sha tag ++ l)
theorem tagged_length (t l : List UInt8) : (tagged t l).length = 32 := rfl

theorem pad_length (l : List UInt8) : (pad l).length = l.length + 9 + padz l.length := by
  simp [pad, be_length]; omega
theorem pad_length64 (l : List UInt8) : (pad l).length = 64 * ((pad l).length / 64) := by
  rw [pad_length]; unfold padz; omega
theorem run_congr (s : S8) (l l' : List UInt8) : ∀ n, (∀ k, k < n → (l.drop (64 * k)).take 64 = (l'.drop (64 * k)).take 64) → run s l n = run s l' n
  | 0, _ => rfl
  | n + 1, h => by
    unfold run
    rw [run_congr s l l' n (fun k hk => h k (by omega)), h n (by omega)]
/-- The blocks of l itself. -/
theorem run_pad (s : S8) (l : List UInt8) (n : Nat) (h : 64 * n ≤ l.length) : run s (pad l) n = run s l n := by
  refine run_congr s _ _ n fun k hk => ?_
  unfold pad
  rw [List.drop_append_of_le_length (by omega), List.take_append_of_le_length (by rw [List.length_drop]; omega)]
/-- What the last blocks are made of. -/
def tailOf (l : List UInt8) : List UInt8 := (pad l).drop (64 * (l.length / 64))
theorem tailOf_eq (l : List UInt8) : tailOf l = l.drop (64 * (l.length / 64)) ++ 128 :: (List.replicate (padz l.length) 0 ++ be 8 (8 * l.length)) := by
  unfold tailOf pad
  rw [List.drop_append_of_le_length (by omega)]
theorem tailOf_length (l : List UInt8) : (tailOf l).length = if l.length % 64 > 55 then 128 else 64 := by
  unfold tailOf
  rw [List.length_drop, pad_length]; unfold padz; split <;> omega
theorem pad_blocks (l : List UInt8) : (pad l).length / 64 = l.length / 64 + (tailOf l).length / 64 := by
  rw [tailOf_length, pad_length]; unfold padz; split <;> omega
theorem tail_block (l : List UInt8) (j : Nat) : ((tailOf l).drop (64 * j)).take 64 = ((pad l).drop (64 * (l.length / 64 + j))).take 64 := by
  unfold tailOf; rw [List.drop_drop]; congr 2; omega
theorem tail_block_len (l : List UInt8) (k j m : Nat) (hk : k = l.length / 64) (hm : m = (tailOf l).length) (h : 64 * j + 64 ≤ m) : 64 = (((pad l).drop (64 * (k + j))).take 64).length := by
  rw [hk, ← tail_block, List.length_take, List.length_drop]; omega
theorem sha_eq (l : List UInt8) : sha l = dig (run init8 (pad l) (l.length / 64 + (tailOf l).length / 64)) := by rw [sha, pad_blocks]

/-! ### Cells -/
theorem bytesV_append (a b : List UInt8) : bytesV (a ++ b) = bytesV a ++ bytesV b := by simp [bytesV]
theorem bytesV_replicate (n : Nat) : List.replicate n (Value.int .u8 0) = bytesV (List.replicate n 0) := by simp [bytesV]
theorem bytesV_drop (l : List UInt8) (n : Nat) : (bytesV l).drop n = bytesV (l.drop n) := by simp [bytesV]
theorem bytesV_take (l : List UInt8) (n : Nat) : (bytesV l).take n = bytesV (l.take n) := by simp [bytesV]
theorem bytesV_get {l : List UInt8} {i : Nat} (h : i < l.length) : (bytesV l)[i]? = some (.int .u8 ((l.getD i 0).toNat : Int)) := by
  simp [bytesV, List.getElem?_eq_getElem h, List.getD_eq_getElem?_getD]
theorem setAt_self (cs : List Value) : setAt cs 0 cs = cs := by
  have := setAt_mid [] cs [] cs rfl
  simpa using this
theorem setAt_all (cs ds : List Value) (h : ds.length = cs.length) : setAt cs 0 ds = ds := by
  have := setAt_mid [] cs [] ds h
  simpa using this
theorem setAt_bytes (X Y Z V : List UInt8) (n : Nat) (hn : X.length = n) (h : V.length = Y.length) : setAt (bytesV (X ++ Y ++ Z)) n (bytesV V) = bytesV (X ++ V ++ Z) := by
  have := setAt_mid (bytesV X) (bytesV Y) (bytesV Z) (bytesV V) (by simpa [bytesV_length] using h)
  rw [bytesV_length, hn] at this
  simpa [bytesV_append] using this
theorem set_byte (X Z : List UInt8) (y b : UInt8) (n : Nat) (hn : X.length = n) : setAt (bytesV (X ++ y :: Z)) n [.int .u8 (b.toNat : Int)] = bytesV (X ++ b :: Z) := by
  have := setAt_bytes X [y] Z [b] n hn rfl
  simpa [bytesV] using this
end Go.Sha
end
section
/- What the codec writes. Plain, but for where values lie. -/
namespace Go.Cod
open Go.Rn Go.Sha

/-- The digits of a number. -/
def num (u : Nat) : List UInt8 := if u < 128 then [UInt8.ofNat u] else UInt8.ofNat (u % 128 + 128) :: num (u / 128)
termination_by u
decreasing_by omega
theorem num_small {u : Nat} (h : u < 128) : num u = [UInt8.ofNat u] := by rw [num, if_pos h]
theorem num_big {u : Nat} (h : ¬ u < 128) : num u = UInt8.ofNat (u % 128 + 128) :: num (u / 128) := by rw [num, if_neg h]
theorem num_length : ∀ (k u : Nat), u < 128 ^ (k + 1) → (num u).length ≤ k + 1
  | 0, u, h => by rw [num_small (by simpa using h)]; simp
  | k + 1, u, h => by
    by_cases hu : u < 128
    · rw [num_small hu]; simp
    · rw [num_big hu, List.length_cons]
      have := num_length k (u / 128) (by rw [Nat.pow_succ] at h; omega)
      omega
theorem num_le (u : Nat) (h : u < 18446744073709551616) : (num u).length ≤ 10 := num_length 9 u (by omega)
/-- The unsigned form of an integer. -/
def zig (n : Int) : Nat := if 0 ≤ n then (2 * n).toNat else (-2 * n - 1).toNat
theorem zig_lt (n : Int) (h : -9223372036854775808 ≤ n ∧ n < 9223372036854775808) : zig n < 18446744073709551616 := by unfold zig; split <;> omega

inductive CV where
  | int (n : Int)
  | text (s : List UInt8)
  | list (l : List CV)

mutual
def CV.enc : CV → List UInt8
  | .int n => 1 :: num (zig n)
  | .text s => 2 :: (num s.length ++ s)
  | .list l => 3 :: (num l.length ++ encs l)
def encs : List CV → List UInt8
  | [] => []
  | c :: r => c.enc ++ encs r
end
mutual
def CV.depth : CV → Nat
  | .int _ => 0
  | .text _ => 0
  | .list l => depths l + 1
def depths : List CV → Nat
  | [] => 0
  | c :: r => max c.depth (depths r)
end
mutual
/-- A value's four cells, and what hangs on them. -/
def CV.In (w : World) : CV → List Value → Prop
  | .int n, cs => (-9223372036854775808 ≤ n ∧ n < 9223372036854775808) ∧ ∃ d, cs = [.int .i64 1, .int .i64 n, .string ⟨#[]⟩, .slice d 0 0]
  | .text s, cs => s.length ≤ 1000000000 ∧ ∃ d, cs = [.int .i64 2, .int .i64 0, .string (strOf s), .slice d 0 0]
  | .list l, cs => l.length ≤ 1000000 ∧ ∃ v rows, cs = [.int .i64 3, .int .i64 0, .string ⟨#[]⟩, v] ∧ IsSl w 4 v l.length rows.flatten ∧ Ins w l rows
def Ins (w : World) : List CV → List (List Value) → Prop
  | [], rows => rows = []
  | c :: l, rows => ∃ r rest, rows = r :: rest ∧ c.In w r ∧ Ins w l rest
end
theorem In.length {w : World} {c : CV} {cs : List Value} (h : c.In w cs) : cs.length = 4 := by
  cases c <;> simp only [CV.In] at h
  · obtain ⟨_, _, rfl⟩ := h; rfl
  · obtain ⟨_, _, rfl⟩ := h; rfl
  · obtain ⟨_, _, _, rfl, _⟩ := h; rfl

mutual
theorem In.ext {w w' : World} (e : Ext w w') : ∀ (c : CV) (cs : List Value), c.In w cs → c.In w' cs
  | .int _, _, h => by simpa only [CV.In] using h
  | .text _, _, h => by simpa only [CV.In] using h
  | .list l, cs, h => by
    simp only [CV.In] at h ⊢
    obtain ⟨h0, v, rows, h1, h2, h3⟩ := h
    exact ⟨h0, v, rows, h1, h2.extE e, Ins.ext e l rows h3⟩
theorem Ins.ext {w w' : World} (e : Ext w w') : ∀ (l : List CV) (rows : List (List Value)), Ins w l rows → Ins w' l rows
  | [], _, h => by simpa only [Ins] using h
  | c :: l, rows, h => by
    simp only [Ins] at h ⊢
    obtain ⟨r, rest, h1, h2, h3⟩ := h
    exact ⟨r, rest, h1, In.ext e c r h2, Ins.ext e l rest h3⟩
end
theorem Ins.get {w : World} : ∀ {l : List CV} {rows : List (List Value)}, Ins w l rows → rows.length = l.length ∧ ∀ (i : Nat) (c : CV), l[i]? = some c → ∃ r, rows[i]? = some r ∧ c.In w r
  | [], rows, h => by simp only [Ins] at h; subst h; exact ⟨rfl, fun i c h => by simp at h⟩
  | c :: l, rows, h => by
    simp only [Ins] at h
    obtain ⟨r, rest, rfl, h2, h3⟩ := h
    obtain ⟨h4, h5⟩ := Ins.get h3
    refine ⟨by simp [h4], fun i c' hi => ?_⟩
    cases i with
    | zero => simp at hi; subst hi; exact ⟨r, rfl, h2⟩
    | succ i => simp at hi; obtain ⟨r', h6, h7⟩ := h5 i c' hi; exact ⟨r', by simpa using h6, h7⟩
theorem Ins.lens {w : World} : ∀ {l : List CV} {rows : List (List Value)}, Ins w l rows → ∀ r ∈ rows, r.length = 4
  | [], rows, h => by simp only [Ins] at h; subst h; simp
  | c :: l, rows, h => by
    simp only [Ins] at h
    obtain ⟨r, rest, rfl, h2, h3⟩ := h
    intro x hx
    rcases List.mem_cons.1 hx with rfl | hx
    · exact In.length h2
    · exact Ins.lens h3 x hx
/-- The cells of one element. -/
theorem Ins.row {w : World} {l : List CV} {rows : List (List Value)} (h : Ins w l rows) {i : Nat} {r : List Value} (hr : rows[i]? = some r) {b o : Nat} (hb : Row w b o rows.flatten) : Row w b (o + i * 4) r := by
  have hl := h.lens
  refine hb.window fun j v hv => ?_
  have hj : j < 4 := by
    have := hl r (List.mem_of_getElem? hr)
    rcases Nat.lt_or_ge j 4 with h | h
    · exact h
    · rw [List.getElem?_eq_none (by omega)] at hv; simp at hv
  rw [flatten_get rows hl i j hj, hr]; exact hv
theorem encs_append : ∀ (a b : List CV), encs (a ++ b) = encs a ++ encs b
  | [], b => by simp [encs]
  | c :: a, b => by simp only [List.cons_append, encs, encs_append a b, List.append_assoc]
theorem encs_take {l : List CV} {i : Nat} {c : CV} (h : l[i]? = some c) : encs (l.take (i + 1)) = encs (l.take i) ++ c.enc := by
  rw [List.take_add_one, h, encs_append]; simp [encs]
theorem depths_append : ∀ (a b : List CV), depths (a ++ b) = max (depths a) (depths b)
  | [], b => by simp [depths]
  | c :: a, b => by simp only [List.cons_append, depths, depths_append a b]; omega
theorem depths_take {l : List CV} {i : Nat} {c : CV} (h : l[i]? = some c) : depths (l.take (i + 1)) = max (depths (l.take i)) c.depth := by
  rw [List.take_add_one, h, depths_append]; simp [depths]
theorem depth_le : ∀ {l : List CV} {c : CV}, c ∈ l → c.depth ≤ depths l
  | a :: l, c, h => by
    simp only [depths]
    rcases List.mem_cons.1 h with rfl | h
    · omega
    · have := depth_le h; omega
theorem encs_le {l : List CV} {c : CV} {i : Nat} (h : l[i]? = some c) : (encs (l.take i)).length + c.enc.length ≤ (encs l).length := by
  have h1 := encs_take h
  have h2 : encs l = encs (l.take (i + 1)) ++ encs (l.drop (i + 1)) := by rw [← encs_append, List.take_append_drop]
  rw [h2, h1]; simp
end Go.Cod
end
section
/- The program's codec: numbers, forms. -/
namespace Go.Sg
open Go.Rn Go.Sha Go.Cod Go.Proofs
attribute [local irreducible] Go.Rn.RunL Go.Rn.RunE Go.Rn.Asy Go.Rn.OpV Go.Rn.OpE Go.Rn.ExecE

theorem u8_or128 (u : Nat) : IntKind.u8.wrap ((BitVec.ofInt IntKind.u8.bits ((UInt8.ofNat u).toNat : Int) ||| BitVec.ofInt IntKind.u8.bits 128).toNat : Int) = ((UInt8.ofNat (u % 128 + 128)).toNat : Int) := by
  have h : ∀ n : Fin 256, IntKind.u8.wrap ((BitVec.ofInt IntKind.u8.bits (n.val : Int) ||| BitVec.ofInt IntKind.u8.bits 128).toNat : Int) = ((n.val % 128 + 128 : Nat) : Int) := by decide +kernel
  have := h ⟨(UInt8.ofNat u).toNat, (UInt8.ofNat u).toNat_lt⟩
  simp only at this
  rw [this]
  congr 1
  rw [UInt8.toNat_ofNat', UInt8.toNat_ofNat']; omega

theorem numeral_ok (v : Value) (pre : List UInt8) (u base : Nat) (w : World) (hv : w.ownsRow base 5 1 v pre.length (bytesV pre)) (hu : u < 18446744073709551616) (hp : pre.length ≤ 1000000000000) (hb : base ≤ w.heap.size) :
    Rets Tryd.prog 106 [v, .int .u64 (u : Int)] w fun r w' => w'.ownsRow base 5 1 r (pre ++ num u).length (bytesV (pre ++ num u)) ∧ ExtB (fun k => v.ownBlock = some k) w w' := by
  have hnl := num_le u hu
  refine RetsX.of (nt := 20) Tryd.func106 (by kernel_rfl) rfl rfl (by simp) (by simp only [argEnv]; rfl) ?_
  repeat (first | refine RunL.pureI Tryd.tOk rfl rfl rfl (by (first | exact wr_i64 (by omega) (by omega) | exact wm_i64 (by omega) | exact wq_i64 (by omega) (by omega) (by omega) | rfl)) ?_ | refine RunL.pure Tryd.tOk rfl rfl rfl ?_ | refine RunL.unwantedD rfl rfl ?_ | refine RunE.seq ?_ | refine RunE.region ?_ | refine RunL.nil ?_ | refine RunE.block ?_ | refine RunE.inBlock ?_ | refine RunE.skip ?_ | refine RunE.exit rfl ?_ | refine RunE.scope ?_ | refine RunE.inScope ?_ | refine RunE.label ?_)
  refine RunE.loop (ι := Value × Nat × List UInt8) (fun x => [(0, x.1), (1, .int .u64 (x.2.1 : Int))])
    (fun x w' => x.2.1 < 18446744073709551616 ∧ x.2.2 ++ num x.2.1 = pre ++ num u ∧ ExtB (fun k => v.ownBlock = some k) w w' ∧ (∀ k, x.1.ownBlock = some k → k < w.heap.size → v.ownBlock = some k) ∧ w'.ownsRow base 5 1 x.1 x.2.2.length (bytesV x.2.2)) (fun x => x.2.1) (v, u, pre) (by repeat (first | exact Sub.nil _ | refine Sub.cons rfl ?_)) ⟨hu, rfl, .refl _ _, fun _ h _ => h, hv⟩ ?_
  rintro ⟨v1, m, acc⟩ w1 ⟨hm, hacc, X1, N1, O1⟩ again
  simp only at hm hacc N1 O1 again ⊢
  have hal : acc.length ≤ pre.length + 10 := by
    have := congrArg List.length hacc
    rw [List.length_append, List.length_append] at this; omega
  have hb1 : base ≤ w1.heap.size := Nat.le_trans hb X1.size
  repeat (first | refine RunL.pureI Tryd.tOk rfl rfl rfl (by (first | exact wr_i64 (by omega) (by omega) | exact wm_i64 (by omega) | exact wq_i64 (by omega) (by omega) (by omega) | rfl)) ?_ | refine RunL.pure Tryd.tOk rfl rfl rfl ?_ | refine RunL.unwantedD rfl rfl ?_ | refine RunE.seq ?_ | refine RunE.region ?_ | refine RunL.nil ?_ | refine RunE.block ?_ | refine RunE.inBlock ?_ | refine RunE.skip ?_ | refine RunE.exit rfl ?_ | refine RunE.scope ?_ | refine RunE.inScope ?_ | refine RunE.label ?_)
  refine RunE.cond rfl (fun hge => ?_) (fun hge => ?_) <;> (first | replace hge := of_decide_eq_true hge | replace hge := of_decide_eq_false hge | replace hge := beq_iff_eq.1 hge | replace hge := beq_eq_false_iff_ne.1 hge | replace hge := bne_iff_ne.1 hge | replace hge := bne_eq_false_iff_eq.1 hge | skip)
  · have hm128 : ¬ m < 128 := by omega
    repeat (first | refine RunL.pureI Tryd.tOk rfl rfl rfl (by (first | exact u8_or128 _ | exact u8_of_nat _ | exact wr_i64 (by omega) (by omega) | exact wm_i64 (by omega) | exact wq_i64 (by omega) (by omega) (by omega) | rfl)) ?_ | refine RunL.pure Tryd.tOk rfl rfl rfl ?_ | refine RunL.unwantedD rfl rfl ?_ | refine RunL.val rfl rfl rfl (OpV.indexAK Tryd.tOk rfl rfl rfl rfl) ?_ | refine RunL.val rfl rfl rfl (OpV.indexSK Tryd.tOk rfl rfl rfl rfl) ?_ | refine RunE.seq ?_ | refine RunE.region ?_ | refine RunL.nil ?_ | refine RunE.block ?_ | refine RunE.inBlock ?_ | refine RunE.skip ?_ | refine RunE.exit rfl ?_ | refine RunE.scope ?_ | refine RunE.inScope ?_ | refine RunE.label ?_)
    refine RunL.ex rfl rfl rfl (OpE.buildSl Tryd.tOk [.int .u8 ((UInt8.ofNat (m % 128 + 128)).toNat : Int)] rfl rfl rfl rfl rfl rfl (by simp [Value.cells])) ?_
    rintro _ w2 ⟨B, rfl, a2⟩
    have O2 := ownsRow_ext O1 a2.ext (fun _ _ h => h)
    have hB := a2.eq
    have z2 := a2.size
    refine RunL.ex rfl rfl rfl (OpE.append' Tryd.tOk rfl rfl rfl rfl rfl rfl O2 (isSl_added (n := 1) (sz := 1) a2 rfl) rfl (by show _ * 1 ≤ _; omega) (by omega) (by omega)) ?_
    rintro v3 w3 ⟨O3, E3, hnew⟩
    have X3 : ExtB (fun k => v.ownBlock = some k) w w3 := (X1.trans (.of_ext a2.ext)).write E3 (by intro i hi hlt; exact N1 i hi hlt)
    have N3 : ∀ k, v3.ownBlock = some k → k < w.heap.size → v.ownBlock = some k := fun k hk hlt => N1 k (hnew k hk (by have := X1.size; omega)) hlt
    repeat (first | refine RunL.pureI Tryd.tOk rfl rfl rfl (by (first | exact u64_shr _ 7 (by decide) | exact wr_i64 (by omega) (by omega) | exact wm_i64 (by omega) | exact wq_i64 (by omega) (by omega) (by omega) | rfl)) ?_ | refine RunL.pure Tryd.tOk rfl rfl rfl ?_ | refine RunL.unwantedD rfl rfl ?_ | refine RunL.val rfl rfl rfl (OpV.indexAK Tryd.tOk rfl rfl rfl rfl) ?_ | refine RunL.val rfl rfl rfl (OpV.indexSK Tryd.tOk rfl rfl rfl rfl) ?_ | refine RunE.seq ?_ | refine RunE.region ?_ | refine RunL.nil ?_ | refine RunE.block ?_ | refine RunE.inBlock ?_ | refine RunE.skip ?_ | refine RunE.exit rfl ?_ | refine RunE.scope ?_ | refine RunE.inScope ?_ | refine RunE.label ?_)
    refine RunE.weaken (by repeat (first | exact Sub.nil _ | refine Sub.cons rfl ?_)) (again (v3, m / 128, acc ++ [UInt8.ofNat (m % 128 + 128)]) _ (by simp only; omega) ⟨by simp only; omega, ?_, X3, N3, ?_⟩)
    · simp only
      rw [← hacc, num_big hm128]; simp
    · simp only
      rw [List.length_append, bytesV_append]; exact O3
  · have hm128 : m < 128 := by omega
    clear again
    repeat (first | refine RunL.pureI Tryd.tOk rfl rfl rfl (by (first | exact u8_of_nat _ | exact wr_i64 (by omega) (by omega) | exact wm_i64 (by omega) | exact wq_i64 (by omega) (by omega) (by omega) | rfl)) ?_ | refine RunL.pure Tryd.tOk rfl rfl rfl ?_ | refine RunL.unwantedD rfl rfl ?_ | refine RunL.val rfl rfl rfl (OpV.indexAK Tryd.tOk rfl rfl rfl rfl) ?_ | refine RunL.val rfl rfl rfl (OpV.indexSK Tryd.tOk rfl rfl rfl rfl) ?_ | refine RunE.seq ?_ | refine RunE.region ?_ | refine RunL.nil ?_ | refine RunE.block ?_ | refine RunE.inBlock ?_ | refine RunE.skip ?_ | refine RunE.exit rfl ?_ | refine RunE.scope ?_ | refine RunE.inScope ?_ | refine RunE.label ?_)
    refine RunL.ex rfl rfl rfl (OpE.buildSl Tryd.tOk [.int .u8 ((UInt8.ofNat m).toNat : Int)] rfl rfl rfl rfl rfl rfl (by simp [Value.cells])) ?_
    rintro _ w2 ⟨B, rfl, a2⟩
    have O2 := ownsRow_ext O1 a2.ext (fun _ _ h => h)
    have z2 := a2.size
    have hB := a2.eq
    refine RunL.ex rfl rfl rfl (OpE.append' Tryd.tOk rfl rfl rfl rfl rfl rfl O2 (isSl_added (n := 1) (sz := 1) a2 rfl) rfl (by show _ * 1 ≤ _; omega) (by omega) (by omega)) ?_
    rintro v3 w3 ⟨O3, E3, hnew⟩
    have X3 : ExtB (fun k => v.ownBlock = some k) w w3 := (X1.trans (.of_ext a2.ext)).write E3 (by intro i hi hlt; exact N1 i hi hlt)
    have N3 : ∀ k, v3.ownBlock = some k → k < w.heap.size → v.ownBlock = some k := fun k hk hlt => N1 k (hnew k hk (by have := X1.size; omega)) hlt
    repeat (first | refine RunL.pureI Tryd.tOk rfl rfl rfl (by (first | exact wr_i64 (by omega) (by omega) | exact wm_i64 (by omega) | exact wq_i64 (by omega) (by omega) (by omega) | rfl)) ?_ | refine RunL.pure Tryd.tOk rfl rfl rfl ?_ | refine RunL.unwantedD rfl rfl ?_ | refine RunE.seq ?_ | refine RunE.region ?_ | refine RunL.nil ?_ | refine RunE.block ?_ | refine RunE.inBlock ?_ | refine RunE.skip ?_ | refine RunE.exit rfl ?_ | refine RunE.scope ?_ | refine RunE.inScope ?_ | refine RunE.label ?_)
    refine RunE.retFn Tryd.func106 (.tmp rfl .nil) ⟨?_, X3⟩
    simp only [oneOr]
    rw [← hacc, num_small hm128, List.length_append, bytesV_append]
    exact O3

theorem zig_ok (n : Int) (h : -9223372036854775808 ≤ n ∧ n < 9223372036854775808) :
    IntKind.u64.wrap ((BitVec.ofInt IntKind.u64.bits (IntKind.u64.wrap (IntKind.u64.wrap n * 2 ^ (min 1 IntKind.u64.bits))) ^^^ BitVec.ofInt IntKind.u64.bits (IntKind.u64.wrap (n.fdiv (2 ^ (min 63 IntKind.i64.bits))))).toNat : Int) = (zig n : Int) := by
  have e1 : (2 : Int) ^ (min 1 IntKind.u64.bits) = 2 := by decide
  have e2 : (2 : Int) ^ (min 63 IntKind.i64.bits) = 9223372036854775808 := by decide
  have e3 : IntKind.u64.bits = 64 := rfl
  rw [e1, e2, e3]
  simp only [wrap_u64]
  rw [Int.fdiv_eq_ediv_of_nonneg _ (by decide)]
  unfold zig
  by_cases hn : 0 ≤ n
  · rw [if_pos hn]
    have h1 : n / 9223372036854775808 = 0 := by omega
    have h2 : n % 18446744073709551616 * 2 % 18446744073709551616 = ((2 * n).toNat : Int) := by omega
    rw [h1, h2]
    have h3 : (BitVec.ofInt 64 (0 % 18446744073709551616) : BitVec 64) = 0#64 := by decide
    rw [h3, BitVec.xor_zero, BitVec.ofInt_natCast, BitVec.toNat_ofNat]; omega
  · rw [if_neg hn]
    have h1 : n / 9223372036854775808 = -1 := by omega
    have h2 : n % 18446744073709551616 * 2 % 18446744073709551616 = ((2 * n + 18446744073709551616).toNat : Int) := by omega
    rw [h1, h2]
    have h3 : (BitVec.ofInt 64 (-1 % 18446744073709551616) : BitVec 64) = BitVec.allOnes 64 := by decide
    rw [h3, BitVec.xor_allOnes, BitVec.ofInt_natCast, BitVec.toNat_not, BitVec.toNat_ofNat]; omega

theorem unsigned_ok (n : Int) (h : -9223372036854775808 ≤ n ∧ n < 9223372036854775808) (w : World) : Rets Tryd.prog 107 [.int .i64 n] w fun v w' => v = .int .u64 (zig n : Int) ∧ w = w' := by
  refine RetsX.of (nt := 10) Tryd.func107 (by kernel_rfl) rfl rfl (by simp) (by simp only [argEnv]; rfl) ?_
  repeat (first | refine RunL.pureI Tryd.tOk rfl rfl rfl (by (first | exact zig_ok n h | exact wr_i64 (by omega) (by omega) | exact wm_i64 (by omega) | exact wq_i64 (by omega) (by omega) (by omega) | rfl)) ?_ | refine RunL.pure Tryd.tOk rfl rfl rfl ?_ | refine RunL.unwantedD rfl rfl ?_ | refine RunL.val rfl rfl rfl (OpV.indexAK Tryd.tOk rfl rfl rfl rfl) ?_ | refine RunL.val rfl rfl rfl (OpV.indexSK Tryd.tOk rfl rfl rfl rfl) ?_ | refine RunE.seq ?_ | refine RunE.region ?_ | refine RunL.nil ?_ | refine RunE.block ?_ | refine RunE.inBlock ?_ | refine RunE.skip ?_ | refine RunE.exit rfl ?_ | refine RunE.scope ?_ | refine RunE.inScope ?_ | refine RunE.label ?_)
  exact RunE.retFn Tryd.func107 (.tmp rfl .nil) ⟨rfl, rfl⟩
end Go.Sg
end
