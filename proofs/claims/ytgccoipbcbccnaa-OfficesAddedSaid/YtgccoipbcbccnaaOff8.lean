/- Offices: what stands, kept in a map. -/
import Derived.Test.YtgccoipbcbccnaaOff7
set_option linter.unusedSimpArgs false
set_option linter.unusedVariables false
set_option linter.unusedSectionVars false
namespace Go.Off
open Go.Rn Go.Rec
theorem mapV_set (k : Seat) (x : Ap) (m : List (Seat × Ap)) : setM k (apV x) (mapV m) = mapV (setM k x m) := setM_map apV k x m
theorem mapV_get (k : Seat) (m : List (Seat × Ap)) : getM k (mapV m) = (getM k m).map apV := getM_map apV k m
end Go.Off
namespace Go.Sg
open Go.Rn Go.Proofs Go.Off Go.Rec Go.Best
attribute [local irreducible] Go.Rn.RetsX Go.Rn.RunLN Go.Rn.AsyN Go.Rn.RunL Go.Rn.RunE Go.Rn.Asy Go.Rn.OpV Go.Rn.OpE Go.Rn.ExecE
abbrev countsV (b1 b2 : Nat) : Value := .func (.func 84) #[] #[.pointer (some ⟨b1, 0, none⟩), .pointer (some ⟨b2, 0, none⟩)]
abbrev laterV : Value := .func (.func 86) #[] #[]
set_option maxHeartbeats 2000000 in
theorem keep_ok (l : List Ap) (v : Value) (t time : Int) (b1 b2 : Nat) (w : World) (hv : LA w v l) (hl : l.length < 9223372036854775808) (U1 : Blk w b1 [.int .i64 t] 3) (U2 : Blk w b2 [.int .i64 time] 3) :
    Rets Try.prog 85 [v, countsV b1 b2, laterV] w fun r w' => (∃ R, r = .map (some R) ∧ MapS w' R (standing l t time)) ∧ Ext w w' := by
  refine RetsX.of (nt := 50) Try.func85 (by kernel_rfl) rfl rfl (by simp) (by simp only [argEnv]; rfl) ?_
  have X := ExtB.refl (fun _ => False) w
  repeat' (first | with_reducible refine RunLN.boolT rfl ?_ | with_reducible refine RunLN.boolF rfl ?_ | refine RunLN.boolT (by assumption) ?_ | refine RunLN.boolF (by assumption) ?_ | (with_reducible refine RunLN.decT ?_ ?_; focus omega) | (with_reducible refine RunLN.decF ?_ ?_; focus omega) | (with_reducible refine RunLN.eqT ?_ ?_; focus omega) | (with_reducible refine RunLN.eqF ?_ ?_; focus omega) | (with_reducible refine RunLN.neT ?_ ?_; focus omega) | (with_reducible refine RunLN.neF ?_ ?_; focus omega) | refine RunLN.boolT (by exact rfl) ?_ | refine RunLN.boolF (by exact rfl) ?_ | refine RunLN.int (by (first | exact wr_i64 (by omega) (by omega) | exact wm_i64 (by omega) | exact wq_i64 (by omega) (by omega) (by omega) | rfl)) ?_ | (refine RunLN.boolC (fun h_ => ?_) (fun h_ => ?_) <;> (try simp only [decide_eq_true_eq, decide_eq_false_iff_not, beq_iff_eq, bne_iff_ne, ne_eq, Bool.not_eq_true, Bool.not_eq_false, beq_eq_false_iff_ne, bne_eq_false_iff_eq, Bool.not_eq_eq_eq_not, Bool.not_true, Bool.not_false, Bool.not_not, Int.not_lt, Int.not_le, gt_iff_lt, ge_iff_le, Decidable.not_not] at h_)) | refine RunLN.any ?_ | refine RunL.ev Try.tOk rfl rfl rfl ?_ | refine RunL.unwantedD rfl rfl ?_ | refine RunL.unwantedN rfl ?_ | refine RunL.evV rfl rfl rfl (OpV.indexS Try.tOk _ rfl rfl rfl rfl (by omega)) ?_ | refine RunE.condT rfl rfl ?_ | refine RunE.condF rfl rfl ?_ | refine RunE.seq ?_ | refine RunE.region ?_ | refine RunL.nil ?_ | refine RunE.block ?_ | refine RunE.inBlock ?_ | refine RunE.skip ?_ | refine RunE.exit rfl ?_ | refine RunE.scope ?_ | refine RunE.inScope ?_ | refine RunE.label ?_)
  refine RunL.ex rfl rfl rfl (OpE.makeMap seatV (fun _ => True)) ?_
  rintro _ w1 ⟨BM, rfl, a, ZM⟩
  have gBM := a.ge X
  replace X := X.trans a.ext
  clear a
  repeat' (first | with_reducible refine RunLN.boolT rfl ?_ | with_reducible refine RunLN.boolF rfl ?_ | refine RunLN.boolT (by assumption) ?_ | refine RunLN.boolF (by assumption) ?_ | (with_reducible refine RunLN.decT ?_ ?_; focus omega) | (with_reducible refine RunLN.decF ?_ ?_; focus omega) | (with_reducible refine RunLN.eqT ?_ ?_; focus omega) | (with_reducible refine RunLN.eqF ?_ ?_; focus omega) | (with_reducible refine RunLN.neT ?_ ?_; focus omega) | (with_reducible refine RunLN.neF ?_ ?_; focus omega) | refine RunLN.boolT (by exact rfl) ?_ | refine RunLN.boolF (by exact rfl) ?_ | refine RunLN.int (by (first | exact wr_i64 (by omega) (by omega) | exact wm_i64 (by omega) | exact wq_i64 (by omega) (by omega) (by omega) | rfl)) ?_ | refine RunLN.any ?_ | refine RunL.ev Try.tOk rfl rfl rfl ?_ | refine RunL.unwantedD rfl rfl ?_ | refine RunL.unwantedN rfl ?_ | refine RunL.evV rfl rfl rfl (OpV.lenSl Try.tOk rfl rfl hv) ?_ | refine RunL.evV rfl rfl rfl (OpV.indexS Try.tOk _ rfl rfl rfl rfl (by omega)) ?_ | refine RunE.condT rfl rfl ?_ | refine RunE.condF rfl rfl ?_ | refine RunE.seq ?_ | refine RunE.region ?_ | refine RunL.nil ?_ | refine RunE.block ?_ | refine RunE.inBlock ?_ | refine RunE.skip ?_ | refine RunE.exit rfl ?_ | refine RunE.scope ?_ | refine RunE.inScope ?_ | refine RunE.label ?_)
  refine RunE.loop (ι := Nat) (fun i => [(0, v), (1, countsV b1 b2), (2, laterV), (7, .map (some BM)), (15, v), (16, .int .i64 (l.length : Int)), (17, .int .i64 (i : Int))])
    (fun i w' => i ≤ l.length ∧ MapS w' BM ((l.take i).foldl (stepM t time) []) ∧ Ext w w') (fun i => l.length - i) 0 (by repeat (first | exact Sub.nil _ | refine Sub.cons rfl ?_)) ⟨Nat.zero_le _, ZM, X⟩ ?_
  clear X ZM
  rintro i w3 ⟨hi, ZM, X⟩ again
  by_cases hlt : i < l.length
  · obtain ⟨b, o, cap, rfl, hr, hc⟩ := isL_held hv hlt
    obtain ⟨x, hx⟩ : ∃ x, l[i]? = some x := ⟨_, List.getElem?_eq_getElem hlt⟩
    have hrx := flat_row encA hr hx
    have hst : (l.take (i + 1)).foldl (stepM t time) [] = stepM t time ((l.take i).foldl (stepM t time) []) x := by rw [List.take_add_one, hx]; simp
    have next : ∀ w', Ext w w' → MapS w' BM ((l.take (i + 1)).foldl (stepM t time) []) → _ := fun w' a b => again (i + 1) w' (by omega) ⟨by omega, b, a⟩
    clear again
    generalize (l.take i).foldl (stepM t time) [] = m at ZM hst
    have hget := mapV_get (x.office, x.person) m
    repeat' (first | with_reducible refine RunLN.boolT rfl ?_ | with_reducible refine RunLN.boolF rfl ?_ | refine RunLN.boolT (by assumption) ?_ | refine RunLN.boolF (by assumption) ?_ | (with_reducible refine RunLN.decT ?_ ?_; focus omega) | (with_reducible refine RunLN.decF ?_ ?_; focus omega) | (with_reducible refine RunLN.eqT ?_ ?_; focus omega) | (with_reducible refine RunLN.eqF ?_ ?_; focus omega) | (with_reducible refine RunLN.neT ?_ ?_; focus omega) | (with_reducible refine RunLN.neF ?_ ?_; focus omega) | refine RunLN.boolT (by exact rfl) ?_ | refine RunLN.boolF (by exact rfl) ?_ | refine RunLN.int (by (first | exact wr_i64 (by omega) (by omega) | exact wm_i64 (by omega) | exact wq_i64 (by omega) (by omega) (by omega) | rfl)) ?_ | refine RunLN.any ?_ | refine RunL.ev Try.tOk rfl rfl rfl ?_ | refine RunL.unwantedD rfl rfl ?_ | refine RunL.unwantedN rfl ?_ | refine RunL.evV rfl rfl rfl (OpV.loadN Try.tOk rfl rfl rfl rfl (hrx.up X)) ?_ | refine RunL.evV rfl rfl rfl (OpV.indexS Try.tOk _ rfl rfl rfl rfl (by omega)) ?_ | refine RunE.condT rfl rfl ?_ | refine RunE.condF rfl rfl ?_ | refine RunE.seq ?_ | refine RunE.region ?_ | refine RunL.nil ?_ | refine RunE.block ?_ | refine RunE.inBlock ?_ | refine RunE.skip ?_ | refine RunE.exit rfl ?_ | refine RunE.scope ?_ | refine RunE.inScope ?_ | refine RunE.label ?_)
    refine RunL.alloc Try.tOk rfl rfl rfl fun B9 w9_ a_ => ?_
    have Z9 : Blk w9_ B9 (zeroP.cells) 47 := a_.at_
    have gB9 := a_.ge X
    have nM_9 : BM ≠ B9 := by have := ZM.lt; have := a_.eq; omega
    have n9_M : B9 ≠ BM := Ne.symm nM_9
    replace ZM := ZM.up a_.ext
    replace X := X.trans a_.ext
    clear a_
    repeat' (first | with_reducible refine RunLN.boolT rfl ?_ | with_reducible refine RunLN.boolF rfl ?_ | refine RunLN.boolT (by assumption) ?_ | refine RunLN.boolF (by assumption) ?_ | (with_reducible refine RunLN.decT ?_ ?_; focus omega) | (with_reducible refine RunLN.decF ?_ ?_; focus omega) | (with_reducible refine RunLN.eqT ?_ ?_; focus omega) | (with_reducible refine RunLN.eqF ?_ ?_; focus omega) | (with_reducible refine RunLN.neT ?_ ?_; focus omega) | (with_reducible refine RunLN.neF ?_ ?_; focus omega) | refine RunLN.boolT (by exact rfl) ?_ | refine RunLN.boolF (by exact rfl) ?_ | refine RunLN.int (by (first | exact wr_i64 (by omega) (by omega) | exact wm_i64 (by omega) | exact wq_i64 (by omega) (by omega) (by omega) | rfl)) ?_ | refine RunLN.any ?_ | refine RunL.ev Try.tOk rfl rfl rfl ?_ | refine RunL.unwantedD rfl rfl ?_ | refine RunL.unwantedN rfl ?_ | refine RunL.evV rfl rfl rfl (OpV.indexS Try.tOk _ rfl rfl rfl rfl (by omega)) ?_ | refine RunE.condT rfl rfl ?_ | refine RunE.condF rfl rfl ?_ | refine RunE.seq ?_ | refine RunE.region ?_ | refine RunL.nil ?_ | refine RunE.block ?_ | refine RunE.inBlock ?_ | refine RunE.skip ?_ | refine RunE.exit rfl ?_ | refine RunE.scope ?_ | refine RunE.inScope ?_ | refine RunE.label ?_)
    refine RunL.store Try.tOk rfl rfl rfl rfl rfl Z9 rfl rfl fun w_ t_ => ?_
    replace X := X.own t_.ext gB9
    replace ZM := ZM.other t_.ext nM_9
    replace Z9 : Blk w_ B9 (x.cells) 47 := t_.at_
    clear t_
    repeat' (first | with_reducible refine RunLN.boolT rfl ?_ | with_reducible refine RunLN.boolF rfl ?_ | refine RunLN.boolT (by assumption) ?_ | refine RunLN.boolF (by assumption) ?_ | (with_reducible refine RunLN.decT ?_ ?_; focus omega) | (with_reducible refine RunLN.decF ?_ ?_; focus omega) | (with_reducible refine RunLN.eqT ?_ ?_; focus omega) | (with_reducible refine RunLN.eqF ?_ ?_; focus omega) | (with_reducible refine RunLN.neT ?_ ?_; focus omega) | (with_reducible refine RunLN.neF ?_ ?_; focus omega) | refine RunLN.boolT (by exact rfl) ?_ | refine RunLN.boolF (by exact rfl) ?_ | refine RunLN.int (by (first | exact wr_i64 (by omega) (by omega) | exact wm_i64 (by omega) | exact wq_i64 (by omega) (by omega) (by omega) | rfl)) ?_ | refine RunLN.any ?_ | refine RunL.ev Try.tOk rfl rfl rfl ?_ | refine RunL.unwantedD rfl rfl ?_ | refine RunL.unwantedN rfl ?_ | refine RunL.evV rfl rfl rfl (OpV.loadN Try.tOk rfl rfl rfl rfl (Blk.row Z9)) ?_ | refine RunL.evV rfl rfl rfl (OpV.indexS Try.tOk _ rfl rfl rfl rfl (by omega)) ?_ | refine RunE.condT rfl rfl ?_ | refine RunE.condF rfl rfl ?_ | refine RunE.seq ?_ | refine RunE.region ?_ | refine RunL.nil ?_ | refine RunE.block ?_ | refine RunE.inBlock ?_ | refine RunE.skip ?_ | refine RunE.exit rfl ?_ | refine RunE.scope ?_ | refine RunE.inScope ?_ | refine RunE.label ?_)
    refine RunL.ex rfl rfl rfl (OpE.callV rfl rfl (RetsX.v (fi := []) (args := [.agg x.cells.toArray]) (ca := [.pointer (some ⟨b1, 0, none⟩), .pointer (some ⟨b2, 0, none⟩)]) (counts_ok x t time b1 b2 _ (U1.up X) (U2.up X)))) ?_
    rintro _ w4 ⟨rfl, Xa⟩
    replace X := X.trans Xa
    replace Z9 := Z9.up Xa
    replace ZM := ZM.up Xa
    clear Xa
    repeat' (first | with_reducible refine RunLN.boolT rfl ?_ | with_reducible refine RunLN.boolF rfl ?_ | refine RunLN.boolT (by assumption) ?_ | refine RunLN.boolF (by assumption) ?_ | (with_reducible refine RunLN.decT ?_ ?_; focus omega) | (with_reducible refine RunLN.decF ?_ ?_; focus omega) | (with_reducible refine RunLN.eqT ?_ ?_; focus omega) | (with_reducible refine RunLN.eqF ?_ ?_; focus omega) | (with_reducible refine RunLN.neT ?_ ?_; focus omega) | (with_reducible refine RunLN.neF ?_ ?_; focus omega) | refine RunLN.boolT (by exact rfl) ?_ | refine RunLN.boolF (by exact rfl) ?_ | refine RunLN.int (by (first | exact wr_i64 (by omega) (by omega) | exact wm_i64 (by omega) | exact wq_i64 (by omega) (by omega) (by omega) | rfl)) ?_ | refine RunLN.any ?_ | refine RunL.ev Try.tOk rfl rfl rfl ?_ | refine RunL.unwantedD rfl rfl ?_ | refine RunL.unwantedN rfl ?_ | refine RunL.evV rfl rfl rfl (OpV.indexS Try.tOk _ rfl rfl rfl rfl (by omega)) ?_ | refine RunE.condT rfl rfl ?_ | refine RunE.condF rfl rfl ?_ | refine RunE.seq ?_ | refine RunE.region ?_ | refine RunL.nil ?_ | refine RunE.block ?_ | refine RunE.inBlock ?_ | refine RunE.skip ?_ | refine RunE.exit rfl ?_ | refine RunE.scope ?_ | refine RunE.inScope ?_ | refine RunE.label ?_)
    refine RunL.alloc Try.tOk rfl rfl rfl fun B10 w10_ a_ => ?_
    have Z10 : Blk w10_ B10 ([.int .i64 0, .int .i64 0]) 93 := a_.at_
    have gB10 := a_.ge X
    have n9_10 : B9 ≠ B10 := by have := Z9.lt; have := a_.eq; omega
    have n10_9 : B10 ≠ B9 := Ne.symm n9_10
    have nM_10 : BM ≠ B10 := by have := ZM.lt; have := a_.eq; omega
    have n10_M : B10 ≠ BM := Ne.symm nM_10
    replace Z9 := Z9.up a_.ext
    replace ZM := ZM.up a_.ext
    replace X := X.trans a_.ext
    clear a_
    repeat' (first | with_reducible refine RunLN.boolT rfl ?_ | with_reducible refine RunLN.boolF rfl ?_ | refine RunLN.boolT (by assumption) ?_ | refine RunLN.boolF (by assumption) ?_ | (with_reducible refine RunLN.decT ?_ ?_; focus omega) | (with_reducible refine RunLN.decF ?_ ?_; focus omega) | (with_reducible refine RunLN.eqT ?_ ?_; focus omega) | (with_reducible refine RunLN.eqF ?_ ?_; focus omega) | (with_reducible refine RunLN.neT ?_ ?_; focus omega) | (with_reducible refine RunLN.neF ?_ ?_; focus omega) | refine RunLN.boolT (by exact rfl) ?_ | refine RunLN.boolF (by exact rfl) ?_ | refine RunLN.int (by (first | exact wr_i64 (by omega) (by omega) | exact wm_i64 (by omega) | exact wq_i64 (by omega) (by omega) (by omega) | rfl)) ?_ | refine RunLN.any ?_ | refine RunL.ev Try.tOk rfl rfl rfl ?_ | refine RunL.unwantedD rfl rfl ?_ | refine RunL.unwantedN rfl ?_ | refine RunL.evV rfl rfl rfl (OpV.indexS Try.tOk _ rfl rfl rfl rfl (by omega)) ?_ | refine RunE.condT rfl rfl ?_ | refine RunE.condF rfl rfl ?_ | refine RunE.seq ?_ | refine RunE.region ?_ | refine RunL.nil ?_ | refine RunE.block ?_ | refine RunE.inBlock ?_ | refine RunE.skip ?_ | refine RunE.exit rfl ?_ | refine RunE.scope ?_ | refine RunE.inScope ?_ | refine RunE.label ?_)
    refine RunL.store Try.tOk rfl rfl rfl rfl rfl Z10 rfl rfl fun w_ t_ => ?_
    replace X := X.own t_.ext gB10
    replace Z9 := Z9.other t_.ext n9_10
    replace ZM := ZM.other t_.ext nM_10
    replace Z10 : Blk w_ B10 (Seat.cells (x.office, x.person)) 93 := t_.at_
    clear t_
    repeat' (first | with_reducible refine RunLN.boolT rfl ?_ | with_reducible refine RunLN.boolF rfl ?_ | refine RunLN.boolT (by assumption) ?_ | refine RunLN.boolF (by assumption) ?_ | (with_reducible refine RunLN.decT ?_ ?_; focus omega) | (with_reducible refine RunLN.decF ?_ ?_; focus omega) | (with_reducible refine RunLN.eqT ?_ ?_; focus omega) | (with_reducible refine RunLN.eqF ?_ ?_; focus omega) | (with_reducible refine RunLN.neT ?_ ?_; focus omega) | (with_reducible refine RunLN.neF ?_ ?_; focus omega) | refine RunLN.boolT (by exact rfl) ?_ | refine RunLN.boolF (by exact rfl) ?_ | refine RunLN.int (by (first | exact wr_i64 (by omega) (by omega) | exact wm_i64 (by omega) | exact wq_i64 (by omega) (by omega) (by omega) | rfl)) ?_ | refine RunLN.any ?_ | refine RunL.ev Try.tOk rfl rfl rfl ?_ | refine RunL.unwantedD rfl rfl ?_ | refine RunL.unwantedN rfl ?_ | refine RunL.evV rfl rfl rfl (OpV.loadN Try.tOk rfl rfl rfl rfl (Blk.row Z10)) ?_ | refine RunL.evV rfl rfl rfl (OpV.indexS Try.tOk _ rfl rfl rfl rfl (by omega)) ?_ | refine RunE.condT rfl rfl ?_ | refine RunE.condF rfl rfl ?_ | refine RunE.seq ?_ | refine RunE.region ?_ | refine RunL.nil ?_ | refine RunE.block ?_ | refine RunE.inBlock ?_ | refine RunE.skip ?_ | refine RunE.exit rfl ?_ | refine RunE.scope ?_ | refine RunE.inScope ?_ | refine RunE.label ?_)
    refine RunL.evV rfl rfl rfl (OpV.lookup2 (kv := seatV) (good := fun _ => True) (k := (x.office, x.person)) (z := apV zeroP) Try.underlying90 seatKey (by kernel_rfl) rfl rfl trivial ZM) ?_
    rw [hget]
    cases hg : getM (x.office, x.person) m with
    | none =>
      have hl0 : later (getM (x.office, x.person) m) x = false := by rw [hg]; rfl
      simp only [Option.map_none, Option.getD_none, Option.isSome_none]
      repeat' (first | with_reducible refine RunLN.boolT rfl ?_ | with_reducible refine RunLN.boolF rfl ?_ | refine RunLN.boolT (by assumption) ?_ | refine RunLN.boolF (by assumption) ?_ | (with_reducible refine RunLN.decT ?_ ?_; focus omega) | (with_reducible refine RunLN.decF ?_ ?_; focus omega) | (with_reducible refine RunLN.eqT ?_ ?_; focus omega) | (with_reducible refine RunLN.eqF ?_ ?_; focus omega) | (with_reducible refine RunLN.neT ?_ ?_; focus omega) | (with_reducible refine RunLN.neF ?_ ?_; focus omega) | refine RunLN.boolT (by exact rfl) ?_ | refine RunLN.boolF (by exact rfl) ?_ | refine RunLN.int (by (first | exact wr_i64 (by omega) (by omega) | exact wm_i64 (by omega) | exact wq_i64 (by omega) (by omega) (by omega) | rfl)) ?_ | refine RunLN.any ?_ | refine RunL.ev Try.tOk rfl rfl rfl ?_ | refine RunL.unwantedD rfl rfl ?_ | refine RunL.unwantedN rfl ?_ | refine RunL.evV rfl rfl rfl (OpV.indexS Try.tOk _ rfl rfl rfl rfl (by omega)) ?_ | refine RunE.condT rfl rfl ?_ | refine RunE.condF rfl rfl ?_ | refine RunE.seq ?_ | refine RunE.region ?_ | refine RunL.nil ?_ | refine RunE.block ?_ | refine RunE.inBlock ?_ | refine RunE.skip ?_ | refine RunE.exit rfl ?_ | refine RunE.scope ?_ | refine RunE.inScope ?_ | refine RunE.label ?_)
      refine RunL.alloc Try.tOk rfl rfl rfl fun B12 w12_ a_ => ?_
      have Z12 : Blk w12_ B12 (zeroP.cells) 47 := a_.at_
      have gB12 := a_.ge X
      have n9_12 : B9 ≠ B12 := by have := Z9.lt; have := a_.eq; omega
      have n12_9 : B12 ≠ B9 := Ne.symm n9_12
      have n10_12 : B10 ≠ B12 := by have := Z10.lt; have := a_.eq; omega
      have n12_10 : B12 ≠ B10 := Ne.symm n10_12
      have nM_12 : BM ≠ B12 := by have := ZM.lt; have := a_.eq; omega
      have n12_M : B12 ≠ BM := Ne.symm nM_12
      replace Z9 := Z9.up a_.ext
      replace Z10 := Z10.up a_.ext
      replace ZM := ZM.up a_.ext
      replace X := X.trans a_.ext
      clear a_
      repeat' (first | with_reducible refine RunLN.boolT rfl ?_ | with_reducible refine RunLN.boolF rfl ?_ | refine RunLN.boolT (by assumption) ?_ | refine RunLN.boolF (by assumption) ?_ | (with_reducible refine RunLN.decT ?_ ?_; focus omega) | (with_reducible refine RunLN.decF ?_ ?_; focus omega) | (with_reducible refine RunLN.eqT ?_ ?_; focus omega) | (with_reducible refine RunLN.eqF ?_ ?_; focus omega) | (with_reducible refine RunLN.neT ?_ ?_; focus omega) | (with_reducible refine RunLN.neF ?_ ?_; focus omega) | refine RunLN.boolT (by exact rfl) ?_ | refine RunLN.boolF (by exact rfl) ?_ | refine RunLN.int (by (first | exact wr_i64 (by omega) (by omega) | exact wm_i64 (by omega) | exact wq_i64 (by omega) (by omega) (by omega) | rfl)) ?_ | refine RunLN.any ?_ | refine RunL.ev Try.tOk rfl rfl rfl ?_ | refine RunL.unwantedD rfl rfl ?_ | refine RunL.unwantedN rfl ?_ | refine RunL.evV rfl rfl rfl (OpV.indexS Try.tOk _ rfl rfl rfl rfl (by omega)) ?_ | refine RunE.condT rfl rfl ?_ | refine RunE.condF rfl rfl ?_ | refine RunE.seq ?_ | refine RunE.region ?_ | refine RunL.nil ?_ | refine RunE.block ?_ | refine RunE.inBlock ?_ | refine RunE.skip ?_ | refine RunE.exit rfl ?_ | refine RunE.scope ?_ | refine RunE.inScope ?_ | refine RunE.label ?_)
      refine RunL.store Try.tOk rfl rfl rfl rfl rfl Z12 rfl rfl fun w_ t_ => ?_
      replace X := X.own t_.ext gB12
      replace Z9 := Z9.other t_.ext n9_12
      replace Z10 := Z10.other t_.ext n10_12
      replace ZM := ZM.other t_.ext nM_12
      replace Z12 : Blk w_ B12 (zeroP.cells) 47 := t_.at_
      clear t_
      cases hc : counts t time x with
      | false =>
        have hst' : stepM t time m x = m := by unfold stepM; rw [hc]; rfl
        repeat' (first | with_reducible refine RunLN.boolT rfl ?_ | with_reducible refine RunLN.boolF rfl ?_ | refine RunLN.boolT (by assumption) ?_ | refine RunLN.boolF (by assumption) ?_ | (with_reducible refine RunLN.decT ?_ ?_; focus omega) | (with_reducible refine RunLN.decF ?_ ?_; focus omega) | (with_reducible refine RunLN.eqT ?_ ?_; focus omega) | (with_reducible refine RunLN.eqF ?_ ?_; focus omega) | (with_reducible refine RunLN.neT ?_ ?_; focus omega) | (with_reducible refine RunLN.neF ?_ ?_; focus omega) | refine RunLN.boolT (by exact rfl) ?_ | refine RunLN.boolF (by exact rfl) ?_ | refine RunLN.int (by (first | exact wr_i64 (by omega) (by omega) | exact wm_i64 (by omega) | exact wq_i64 (by omega) (by omega) (by omega) | rfl)) ?_ | refine RunLN.any ?_ | refine RunL.ev Try.tOk rfl rfl rfl ?_ | refine RunL.unwantedD rfl rfl ?_ | refine RunL.unwantedN rfl ?_ | refine RunL.evV rfl rfl rfl (OpV.indexS Try.tOk _ rfl rfl rfl rfl (by omega)) ?_ | refine RunE.condT rfl rfl ?_ | refine RunE.condF rfl rfl ?_ | refine RunE.seq ?_ | refine RunE.region ?_ | refine RunL.nil ?_ | refine RunE.block ?_ | refine RunE.inBlock ?_ | refine RunE.skip ?_ | refine RunE.exit rfl ?_ | refine RunE.scope ?_ | refine RunE.inScope ?_ | refine RunE.label ?_)
        exact RunE.weaken (by repeat (first | exact Sub.nil _ | refine Sub.cons rfl ?_)) (next _ X (by rw [hst, hst']; exact ZM))
      | true =>
        have hst' : stepM t time m x = setM (x.office, x.person) x m := by unfold stepM; rw [hc, hl0]; rfl
        rw [hst'] at hst
        repeat' (first | with_reducible refine RunLN.boolT rfl ?_ | with_reducible refine RunLN.boolF rfl ?_ | refine RunLN.boolT (by assumption) ?_ | refine RunLN.boolF (by assumption) ?_ | (with_reducible refine RunLN.decT ?_ ?_; focus omega) | (with_reducible refine RunLN.decF ?_ ?_; focus omega) | (with_reducible refine RunLN.eqT ?_ ?_; focus omega) | (with_reducible refine RunLN.eqF ?_ ?_; focus omega) | (with_reducible refine RunLN.neT ?_ ?_; focus omega) | (with_reducible refine RunLN.neF ?_ ?_; focus omega) | refine RunLN.boolT (by exact rfl) ?_ | refine RunLN.boolF (by exact rfl) ?_ | refine RunLN.int (by (first | exact wr_i64 (by omega) (by omega) | exact wm_i64 (by omega) | exact wq_i64 (by omega) (by omega) (by omega) | rfl)) ?_ | refine RunLN.any ?_ | refine RunL.ev Try.tOk rfl rfl rfl ?_ | refine RunL.unwantedD rfl rfl ?_ | refine RunL.unwantedN rfl ?_ | refine RunL.evV rfl rfl rfl (OpV.loadN Try.tOk rfl rfl rfl rfl (Blk.row Z10)) ?_ | refine RunL.evV rfl rfl rfl (OpV.loadN Try.tOk rfl rfl rfl rfl (Blk.row Z9)) ?_ | refine RunL.evV rfl rfl rfl (OpV.indexS Try.tOk _ rfl rfl rfl rfl (by omega)) ?_ | refine RunE.condT rfl rfl ?_ | refine RunE.condF rfl rfl ?_ | refine RunE.seq ?_ | refine RunE.region ?_ | refine RunL.nil ?_ | refine RunE.block ?_ | refine RunE.inBlock ?_ | refine RunE.skip ?_ | refine RunE.exit rfl ?_ | refine RunE.scope ?_ | refine RunE.inScope ?_ | refine RunE.label ?_)
        refine RunL.exN rfl rfl (OpE.mapSet (kv := seatV) (good := fun _ => True) (k := (x.office, x.person)) (v := apV x) Try.underlying90 seatKey rfl rfl rfl trivial ZM) ?_
        rintro _ w9 ⟨hM9, E9, -⟩
        rw [mapV_set] at hM9
        replace X : Ext w w9 := X.write E9 (by intro k hk hlt; omega)
        repeat' (first | with_reducible refine RunLN.boolT rfl ?_ | with_reducible refine RunLN.boolF rfl ?_ | refine RunLN.boolT (by assumption) ?_ | refine RunLN.boolF (by assumption) ?_ | (with_reducible refine RunLN.decT ?_ ?_; focus omega) | (with_reducible refine RunLN.decF ?_ ?_; focus omega) | (with_reducible refine RunLN.eqT ?_ ?_; focus omega) | (with_reducible refine RunLN.eqF ?_ ?_; focus omega) | (with_reducible refine RunLN.neT ?_ ?_; focus omega) | (with_reducible refine RunLN.neF ?_ ?_; focus omega) | refine RunLN.boolT (by exact rfl) ?_ | refine RunLN.boolF (by exact rfl) ?_ | refine RunLN.int (by (first | exact wr_i64 (by omega) (by omega) | exact wm_i64 (by omega) | exact wq_i64 (by omega) (by omega) (by omega) | rfl)) ?_ | refine RunLN.any ?_ | refine RunL.ev Try.tOk rfl rfl rfl ?_ | refine RunL.unwantedD rfl rfl ?_ | refine RunL.unwantedN rfl ?_ | refine RunL.evV rfl rfl rfl (OpV.indexS Try.tOk _ rfl rfl rfl rfl (by omega)) ?_ | refine RunE.condT rfl rfl ?_ | refine RunE.condF rfl rfl ?_ | refine RunE.seq ?_ | refine RunE.region ?_ | refine RunL.nil ?_ | refine RunE.block ?_ | refine RunE.inBlock ?_ | refine RunE.skip ?_ | refine RunE.exit rfl ?_ | refine RunE.scope ?_ | refine RunE.inScope ?_ | refine RunE.label ?_)
        exact RunE.weaken (by repeat (first | exact Sub.nil _ | refine Sub.cons rfl ?_)) (next _ X (by rw [hst]; exact hM9))
    | some y =>
      have hl0 : later (getM (x.office, x.person) m) x = decide (x.at_ < y.at_) := by rw [hg]; rfl
      simp only [Option.map_some, Option.getD_some, Option.isSome_some]
      repeat' (first | with_reducible refine RunLN.boolT rfl ?_ | with_reducible refine RunLN.boolF rfl ?_ | refine RunLN.boolT (by assumption) ?_ | refine RunLN.boolF (by assumption) ?_ | (with_reducible refine RunLN.decT ?_ ?_; focus omega) | (with_reducible refine RunLN.decF ?_ ?_; focus omega) | (with_reducible refine RunLN.eqT ?_ ?_; focus omega) | (with_reducible refine RunLN.eqF ?_ ?_; focus omega) | (with_reducible refine RunLN.neT ?_ ?_; focus omega) | (with_reducible refine RunLN.neF ?_ ?_; focus omega) | refine RunLN.boolT (by exact rfl) ?_ | refine RunLN.boolF (by exact rfl) ?_ | refine RunLN.int (by (first | exact wr_i64 (by omega) (by omega) | exact wm_i64 (by omega) | exact wq_i64 (by omega) (by omega) (by omega) | rfl)) ?_ | refine RunLN.any ?_ | refine RunL.ev Try.tOk rfl rfl rfl ?_ | refine RunL.unwantedD rfl rfl ?_ | refine RunL.unwantedN rfl ?_ | refine RunL.evV rfl rfl rfl (OpV.indexS Try.tOk _ rfl rfl rfl rfl (by omega)) ?_ | refine RunE.condT rfl rfl ?_ | refine RunE.condF rfl rfl ?_ | refine RunE.seq ?_ | refine RunE.region ?_ | refine RunL.nil ?_ | refine RunE.block ?_ | refine RunE.inBlock ?_ | refine RunE.skip ?_ | refine RunE.exit rfl ?_ | refine RunE.scope ?_ | refine RunE.inScope ?_ | refine RunE.label ?_)
      refine RunL.alloc Try.tOk rfl rfl rfl fun B12 w12_ a_ => ?_
      have Z12 : Blk w12_ B12 (zeroP.cells) 47 := a_.at_
      have gB12 := a_.ge X
      have n9_12 : B9 ≠ B12 := by have := Z9.lt; have := a_.eq; omega
      have n12_9 : B12 ≠ B9 := Ne.symm n9_12
      have n10_12 : B10 ≠ B12 := by have := Z10.lt; have := a_.eq; omega
      have n12_10 : B12 ≠ B10 := Ne.symm n10_12
      have nM_12 : BM ≠ B12 := by have := ZM.lt; have := a_.eq; omega
      have n12_M : B12 ≠ BM := Ne.symm nM_12
      replace Z9 := Z9.up a_.ext
      replace Z10 := Z10.up a_.ext
      replace ZM := ZM.up a_.ext
      replace X := X.trans a_.ext
      clear a_
      repeat' (first | with_reducible refine RunLN.boolT rfl ?_ | with_reducible refine RunLN.boolF rfl ?_ | refine RunLN.boolT (by assumption) ?_ | refine RunLN.boolF (by assumption) ?_ | (with_reducible refine RunLN.decT ?_ ?_; focus omega) | (with_reducible refine RunLN.decF ?_ ?_; focus omega) | (with_reducible refine RunLN.eqT ?_ ?_; focus omega) | (with_reducible refine RunLN.eqF ?_ ?_; focus omega) | (with_reducible refine RunLN.neT ?_ ?_; focus omega) | (with_reducible refine RunLN.neF ?_ ?_; focus omega) | refine RunLN.boolT (by exact rfl) ?_ | refine RunLN.boolF (by exact rfl) ?_ | refine RunLN.int (by (first | exact wr_i64 (by omega) (by omega) | exact wm_i64 (by omega) | exact wq_i64 (by omega) (by omega) (by omega) | rfl)) ?_ | refine RunLN.any ?_ | refine RunL.ev Try.tOk rfl rfl rfl ?_ | refine RunL.unwantedD rfl rfl ?_ | refine RunL.unwantedN rfl ?_ | refine RunL.evV rfl rfl rfl (OpV.indexS Try.tOk _ rfl rfl rfl rfl (by omega)) ?_ | refine RunE.condT rfl rfl ?_ | refine RunE.condF rfl rfl ?_ | refine RunE.seq ?_ | refine RunE.region ?_ | refine RunL.nil ?_ | refine RunE.block ?_ | refine RunE.inBlock ?_ | refine RunE.skip ?_ | refine RunE.exit rfl ?_ | refine RunE.scope ?_ | refine RunE.inScope ?_ | refine RunE.label ?_)
      refine RunL.store Try.tOk rfl rfl rfl rfl rfl Z12 rfl rfl fun w_ t_ => ?_
      replace X := X.own t_.ext gB12
      replace Z9 := Z9.other t_.ext n9_12
      replace Z10 := Z10.other t_.ext n10_12
      replace ZM := ZM.other t_.ext nM_12
      replace Z12 : Blk w_ B12 (y.cells) 47 := t_.at_
      clear t_
      cases hc : counts t time x with
      | false =>
        have hst' : stepM t time m x = m := by unfold stepM; rw [hc]; rfl
        repeat' (first | with_reducible refine RunLN.boolT rfl ?_ | with_reducible refine RunLN.boolF rfl ?_ | refine RunLN.boolT (by assumption) ?_ | refine RunLN.boolF (by assumption) ?_ | (with_reducible refine RunLN.decT ?_ ?_; focus omega) | (with_reducible refine RunLN.decF ?_ ?_; focus omega) | (with_reducible refine RunLN.eqT ?_ ?_; focus omega) | (with_reducible refine RunLN.eqF ?_ ?_; focus omega) | (with_reducible refine RunLN.neT ?_ ?_; focus omega) | (with_reducible refine RunLN.neF ?_ ?_; focus omega) | refine RunLN.boolT (by exact rfl) ?_ | refine RunLN.boolF (by exact rfl) ?_ | refine RunLN.int (by (first | exact wr_i64 (by omega) (by omega) | exact wm_i64 (by omega) | exact wq_i64 (by omega) (by omega) (by omega) | rfl)) ?_ | refine RunLN.any ?_ | refine RunL.ev Try.tOk rfl rfl rfl ?_ | refine RunL.unwantedD rfl rfl ?_ | refine RunL.unwantedN rfl ?_ | refine RunL.evV rfl rfl rfl (OpV.indexS Try.tOk _ rfl rfl rfl rfl (by omega)) ?_ | refine RunE.condT rfl rfl ?_ | refine RunE.condF rfl rfl ?_ | refine RunE.seq ?_ | refine RunE.region ?_ | refine RunL.nil ?_ | refine RunE.block ?_ | refine RunE.inBlock ?_ | refine RunE.skip ?_ | refine RunE.exit rfl ?_ | refine RunE.scope ?_ | refine RunE.inScope ?_ | refine RunE.label ?_)
        exact RunE.weaken (by repeat (first | exact Sub.nil _ | refine Sub.cons rfl ?_)) (next _ X (by rw [hst, hst']; exact ZM))
      | true =>
        repeat' (first | with_reducible refine RunLN.boolT rfl ?_ | with_reducible refine RunLN.boolF rfl ?_ | refine RunLN.boolT (by assumption) ?_ | refine RunLN.boolF (by assumption) ?_ | (with_reducible refine RunLN.decT ?_ ?_; focus omega) | (with_reducible refine RunLN.decF ?_ ?_; focus omega) | (with_reducible refine RunLN.eqT ?_ ?_; focus omega) | (with_reducible refine RunLN.eqF ?_ ?_; focus omega) | (with_reducible refine RunLN.neT ?_ ?_; focus omega) | (with_reducible refine RunLN.neF ?_ ?_; focus omega) | refine RunLN.boolT (by exact rfl) ?_ | refine RunLN.boolF (by exact rfl) ?_ | refine RunLN.int (by (first | exact wr_i64 (by omega) (by omega) | exact wm_i64 (by omega) | exact wq_i64 (by omega) (by omega) (by omega) | rfl)) ?_ | refine RunLN.any ?_ | refine RunL.ev Try.tOk rfl rfl rfl ?_ | refine RunL.unwantedD rfl rfl ?_ | refine RunL.unwantedN rfl ?_ | refine RunL.evV rfl rfl rfl (OpV.loadN Try.tOk rfl rfl rfl rfl (Blk.row Z12)) ?_ | refine RunL.evV rfl rfl rfl (OpV.loadN Try.tOk rfl rfl rfl rfl (Blk.row Z9)) ?_ | refine RunL.evV rfl rfl rfl (OpV.indexS Try.tOk _ rfl rfl rfl rfl (by omega)) ?_ | refine RunE.condT rfl rfl ?_ | refine RunE.condF rfl rfl ?_ | refine RunE.seq ?_ | refine RunE.region ?_ | refine RunL.nil ?_ | refine RunE.block ?_ | refine RunE.inBlock ?_ | refine RunE.skip ?_ | refine RunE.exit rfl ?_ | refine RunE.scope ?_ | refine RunE.inScope ?_ | refine RunE.label ?_)
        refine RunL.ex rfl rfl rfl (OpE.callV rfl rfl (Rets.v (fi := []) (laterP_ok y x _) rfl)) ?_
        rintro _ w5 ⟨rfl, Xa⟩
        replace X := X.trans Xa
        replace Z9 := Z9.up Xa
        replace Z10 := Z10.up Xa
        replace ZM := ZM.up Xa
        clear Xa
        by_cases hlt : x.at_ < y.at_
        · have hst' : stepM t time m x = m := by unfold stepM; rw [hc, hl0, decide_eq_true hlt]; rfl
          rw [decide_eq_true hlt]
          repeat' (first | with_reducible refine RunLN.boolT rfl ?_ | with_reducible refine RunLN.boolF rfl ?_ | refine RunLN.boolT (by assumption) ?_ | refine RunLN.boolF (by assumption) ?_ | (with_reducible refine RunLN.decT ?_ ?_; focus omega) | (with_reducible refine RunLN.decF ?_ ?_; focus omega) | (with_reducible refine RunLN.eqT ?_ ?_; focus omega) | (with_reducible refine RunLN.eqF ?_ ?_; focus omega) | (with_reducible refine RunLN.neT ?_ ?_; focus omega) | (with_reducible refine RunLN.neF ?_ ?_; focus omega) | refine RunLN.boolT (by exact rfl) ?_ | refine RunLN.boolF (by exact rfl) ?_ | refine RunLN.int (by (first | exact wr_i64 (by omega) (by omega) | exact wm_i64 (by omega) | exact wq_i64 (by omega) (by omega) (by omega) | rfl)) ?_ | refine RunLN.any ?_ | refine RunL.ev Try.tOk rfl rfl rfl ?_ | refine RunL.unwantedD rfl rfl ?_ | refine RunL.unwantedN rfl ?_ | refine RunL.evV rfl rfl rfl (OpV.indexS Try.tOk _ rfl rfl rfl rfl (by omega)) ?_ | refine RunE.condT rfl rfl ?_ | refine RunE.condF rfl rfl ?_ | refine RunE.seq ?_ | refine RunE.region ?_ | refine RunL.nil ?_ | refine RunE.block ?_ | refine RunE.inBlock ?_ | refine RunE.skip ?_ | refine RunE.exit rfl ?_ | refine RunE.scope ?_ | refine RunE.inScope ?_ | refine RunE.label ?_)
          exact RunE.weaken (by repeat (first | exact Sub.nil _ | refine Sub.cons rfl ?_)) (next _ X (by rw [hst, hst']; exact ZM))
        · have hst' : stepM t time m x = setM (x.office, x.person) x m := by unfold stepM; rw [hc, hl0, decide_eq_false hlt]; rfl
          rw [hst'] at hst
          rw [decide_eq_false hlt]
          repeat' (first | with_reducible refine RunLN.boolT rfl ?_ | with_reducible refine RunLN.boolF rfl ?_ | refine RunLN.boolT (by assumption) ?_ | refine RunLN.boolF (by assumption) ?_ | (with_reducible refine RunLN.decT ?_ ?_; focus omega) | (with_reducible refine RunLN.decF ?_ ?_; focus omega) | (with_reducible refine RunLN.eqT ?_ ?_; focus omega) | (with_reducible refine RunLN.eqF ?_ ?_; focus omega) | (with_reducible refine RunLN.neT ?_ ?_; focus omega) | (with_reducible refine RunLN.neF ?_ ?_; focus omega) | refine RunLN.boolT (by exact rfl) ?_ | refine RunLN.boolF (by exact rfl) ?_ | refine RunLN.int (by (first | exact wr_i64 (by omega) (by omega) | exact wm_i64 (by omega) | exact wq_i64 (by omega) (by omega) (by omega) | rfl)) ?_ | refine RunLN.any ?_ | refine RunL.ev Try.tOk rfl rfl rfl ?_ | refine RunL.unwantedD rfl rfl ?_ | refine RunL.unwantedN rfl ?_ | refine RunL.evV rfl rfl rfl (OpV.loadN Try.tOk rfl rfl rfl rfl (Blk.row Z10)) ?_ | refine RunL.evV rfl rfl rfl (OpV.loadN Try.tOk rfl rfl rfl rfl (Blk.row Z9)) ?_ | refine RunL.evV rfl rfl rfl (OpV.indexS Try.tOk _ rfl rfl rfl rfl (by omega)) ?_ | refine RunE.condT rfl rfl ?_ | refine RunE.condF rfl rfl ?_ | refine RunE.seq ?_ | refine RunE.region ?_ | refine RunL.nil ?_ | refine RunE.block ?_ | refine RunE.inBlock ?_ | refine RunE.skip ?_ | refine RunE.exit rfl ?_ | refine RunE.scope ?_ | refine RunE.inScope ?_ | refine RunE.label ?_)
          refine RunL.exN rfl rfl (OpE.mapSet (kv := seatV) (good := fun _ => True) (k := (x.office, x.person)) (v := apV x) Try.underlying90 seatKey rfl rfl rfl trivial ZM) ?_
          rintro _ w9 ⟨hM9, E9, -⟩
          rw [mapV_set] at hM9
          replace X : Ext w w9 := X.write E9 (by intro k hk hlt; omega)
          repeat' (first | with_reducible refine RunLN.boolT rfl ?_ | with_reducible refine RunLN.boolF rfl ?_ | refine RunLN.boolT (by assumption) ?_ | refine RunLN.boolF (by assumption) ?_ | (with_reducible refine RunLN.decT ?_ ?_; focus omega) | (with_reducible refine RunLN.decF ?_ ?_; focus omega) | (with_reducible refine RunLN.eqT ?_ ?_; focus omega) | (with_reducible refine RunLN.eqF ?_ ?_; focus omega) | (with_reducible refine RunLN.neT ?_ ?_; focus omega) | (with_reducible refine RunLN.neF ?_ ?_; focus omega) | refine RunLN.boolT (by exact rfl) ?_ | refine RunLN.boolF (by exact rfl) ?_ | refine RunLN.int (by (first | exact wr_i64 (by omega) (by omega) | exact wm_i64 (by omega) | exact wq_i64 (by omega) (by omega) (by omega) | rfl)) ?_ | refine RunLN.any ?_ | refine RunL.ev Try.tOk rfl rfl rfl ?_ | refine RunL.unwantedD rfl rfl ?_ | refine RunL.unwantedN rfl ?_ | refine RunL.evV rfl rfl rfl (OpV.indexS Try.tOk _ rfl rfl rfl rfl (by omega)) ?_ | refine RunE.condT rfl rfl ?_ | refine RunE.condF rfl rfl ?_ | refine RunE.seq ?_ | refine RunE.region ?_ | refine RunL.nil ?_ | refine RunE.block ?_ | refine RunE.inBlock ?_ | refine RunE.skip ?_ | refine RunE.exit rfl ?_ | refine RunE.scope ?_ | refine RunE.inScope ?_ | refine RunE.label ?_)
          exact RunE.weaken (by repeat (first | exact Sub.nil _ | refine Sub.cons rfl ?_)) (next _ X (by rw [hst]; exact hM9))
  · obtain rfl : i = l.length := by omega
    rw [List.take_length] at ZM
    repeat' (first | with_reducible refine RunLN.boolT rfl ?_ | with_reducible refine RunLN.boolF rfl ?_ | refine RunLN.boolT (by assumption) ?_ | refine RunLN.boolF (by assumption) ?_ | (with_reducible refine RunLN.decT ?_ ?_; focus omega) | (with_reducible refine RunLN.decF ?_ ?_; focus omega) | (with_reducible refine RunLN.eqT ?_ ?_; focus omega) | (with_reducible refine RunLN.eqF ?_ ?_; focus omega) | (with_reducible refine RunLN.neT ?_ ?_; focus omega) | (with_reducible refine RunLN.neF ?_ ?_; focus omega) | refine RunLN.boolT (by exact rfl) ?_ | refine RunLN.boolF (by exact rfl) ?_ | refine RunLN.int (by (first | exact wr_i64 (by omega) (by omega) | exact wm_i64 (by omega) | exact wq_i64 (by omega) (by omega) (by omega) | rfl)) ?_ | (refine RunLN.boolC (fun h_ => ?_) (fun h_ => ?_) <;> (try simp only [decide_eq_true_eq, decide_eq_false_iff_not, beq_iff_eq, bne_iff_ne, ne_eq, Bool.not_eq_true, Bool.not_eq_false, beq_eq_false_iff_ne, bne_eq_false_iff_eq, Bool.not_eq_eq_eq_not, Bool.not_true, Bool.not_false, Bool.not_not, Int.not_lt, Int.not_le, gt_iff_lt, ge_iff_le, Decidable.not_not] at h_)) | refine RunLN.any ?_ | refine RunL.ev Try.tOk rfl rfl rfl ?_ | refine RunL.unwantedD rfl rfl ?_ | refine RunL.unwantedN rfl ?_ | refine RunL.evV rfl rfl rfl (OpV.indexS Try.tOk _ rfl rfl rfl rfl (by omega)) ?_ | refine RunE.condT rfl rfl ?_ | refine RunE.condF rfl rfl ?_ | refine RunE.seq ?_ | refine RunE.region ?_ | refine RunL.nil ?_ | refine RunE.block ?_ | refine RunE.inBlock ?_ | refine RunE.skip ?_ | refine RunE.exit rfl ?_ | refine RunE.scope ?_ | refine RunE.inScope ?_ | refine RunE.label ?_)
    exact RunE.retFn Try.func85 (.tmp rfl .nil) ⟨⟨BM, rfl, ZM⟩, X⟩
end Go.Sg
