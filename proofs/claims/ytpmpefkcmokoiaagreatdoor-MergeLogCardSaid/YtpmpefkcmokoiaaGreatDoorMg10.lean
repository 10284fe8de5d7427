/- Parts of this project that the claims share: Mef4, Mef5, Mef6, Mef7, MerX, MerY, OpenW, MerZ, MerQ, Const, MerV, MerT. -/
import Derived.Test.YtpmpefkcmokoiaaGreatDoorMg09
import Derived.Test.YtpmpefkcmokoiaaGreatDoorMg08
import Derived.SizedLaws
import Derived.Test.YtpmpefkcmokoiaaGreatDoorMg02
import Derived.Lib.SlBytesConst
set_option linter.unusedSimpArgs false
set_option linter.unusedVariables false
set_option linter.unusedSectionVars false
section
/- Merge: the reference: Rests. -/
set_option maxRecDepth 4000
namespace Go.Sg
open Go.Rn Go.Proofs Go.Dee Go.Mer Go.Rec Go.RowKit Go.Sha Go.Cod Go.NT
attribute [local irreducible] idG idD befD formedD leftL keysD fineD thereL Go.Rn.RetsX Go.Rn.RunLN Go.Rn.AsyN Go.Rn.RunL Go.Rn.RunE Go.Rn.Asy Go.Rn.OpV Go.Rn.OpE Go.Rn.ExecE
set_option maxRecDepth 8000 in
set_option maxHeartbeats 8000000 in
theorem rRests_go (l : List Dr) (v : Value) (d : Deed) (ua : Option Addr) (uc : Nat) (dv : Value) (w : World) (hv : LDr w v l) (hl : l.length < 9223372036854775808) (hw : ∀ x ∈ l, WfX w x) (hs : LDg w (.slice ua d.seen.length uc) d.seen) (hsl : d.seen.length < 9223372036854775808) (hd0 : 0 ≤ d.no) (hdi : d.no < 9223372036854775808) :
  Rets Tryz.prog 25 [v, .agg (dCells d (.slice ua d.seen.length uc) dv).toArray] w fun r w' => r = .bool (restsD (l.map Dr.d) d) ∧ Ext w w' := by
 rw [rests_map]
 refine RetsX.of (nt := 104) Tryz.func25 (by kernel_rfl) rfl rfl (by simp) (by simp only [argEnv]; rfl) ?_
 have X := ExtB.refl (fun _ => False) w
 repeat' (first | refine RunE.seq ?_ | refine RunE.region ?_)
 refine RunL.box rfl rfl rfl fun B3 w3_ a_ => ?_
 have Z3 : Blk w3_ B3 (dCells d (.slice ua d.seen.length uc) dv) 38 := a_.at_
 have gB3 := a_.ge X
 replace X := X.trans a_.ext
 clear a_
 repeat' (first | with_reducible refine RunLN.boolF rfl ?_ | (with_reducible refine RunLN.chk ?_; refine RunLN.int (by (rfl)) ?_) | refine RunLN.any ?_ | refine RunL.ev Tryz.tOk rfl rfl rfl ?_ | refine RunL.evV rfl rfl rfl (OpV.load1 Tryz.tOk rfl rfl rfl (Blk.cell Z3 rfl)) ?_ | refine RunE.seq ?_ | refine RunE.region ?_ | refine RunL.nil ?_ | refine RunE.block ?_)
 refine RunE.loop (ι := Nat × Bool) (fun s => [(0, v), (3, .pointer (some ⟨B3, 0, none⟩)), (5, .bool s.2), (6, .int .i64 (s.1 : Int))])
  (fun s w' => s.1 ≤ l.length ∧ prevL (l.take s.1) d (d.no == 0) = s.2 ∧ Ext w w' ∧ Blk w' B3 (dCells d (.slice ua d.seen.length uc) dv) 38) (fun s => l.length - s.1) (0, (d.no == 0)) (by repeat (first | exact Sub.nil _ | refine Sub.cons rfl ?_)) ⟨Nat.zero_le _, by unfold prevL; simp, X, Z3⟩ ?_
 clear X Z3
 rintro ⟨i, pv⟩ w3 ⟨hi, hpv, X, Z3⟩ again
 simp only at hi hpv again ⊢
 by_cases hlt : i < l.length
 ·obtain ⟨b1, o1, c1, rfl, hr1, -⟩ := isL_held hv hlt
  obtain ⟨x, hx⟩ : ∃ x, l[i]? = some x := ⟨_, List.getElem?_eq_getElem hlt⟩
  have hrx := flat_row encR hr1 hx
  have hwx := hw x (List.mem_of_getElem? hx)
  have hnew : prevL (l.take (i + 1)) d (d.no == 0) = (pv || (decide (x.d.person = d.person ∧ x.d.no = d.no - 1 ∧ x.d.at_ ≤ d.at_) && (idG x.d == d.prev))) := by
   rw [← hpv]; unfold prevL; rw [any_snoc _ hx, Bool.or_assoc]
  have cI := fun w h h' => rid50_ok x.d x.u x.v w h h' hwx.2.1 hwx.2.2.1
  clear hpv
  repeat' (first | (with_reducible refine RunLN.decT ?_ ?_; focus omega) | (with_reducible refine RunLN.chk ?_; refine RunLN.int (by (rfl)) ?_) | refine RunLN.any ?_ | refine RunL.ev Tryz.tOk rfl rfl rfl ?_ | refine RunE.condT rfl rfl ?_ | refine RunE.seq ?_ | refine RunE.region ?_ | refine RunL.nil ?_ | refine RunE.block ?_ | refine RunE.skip ?_)
  refine RunE.draw (fun _ => False) mix ?_
  intro wd_ Xd_
  by_cases h1 : x.d.person = d.person
  rotate_left
  ·rw [decide_eq_false (fun h => h1 h.1), Bool.false_and] at hnew
   repeat' (first | with_reducible refine AsyN.boolF rfl ?_ | (with_reducible refine AsyN.eqF ?_ ?_; focus omega) | (with_reducible refine AsyN.chk ?_; refine AsyN.int (by (rfl)) ?_) | refine AsyN.any ?_ | refine Asy.ev Tryz.tOk rfl rfl rfl ?_ | refine Asy.unwantedD rfl rfl rfl ?_ | refine Asy.evV rfl rfl rfl rfl (fun _ X_ => OpV.load1 Tryz.tOk rfl rfl rfl ((hrx.up (X.trans (Xd_.trans X_))) _ _ rfl)) ?_ | refine Asy.evV rfl rfl rfl rfl (fun _ X_ => OpV.load1 Tryz.tOk rfl rfl rfl (Blk.cell (Z3.up (Xd_.trans X_)) rfl)) ?_ | refine Asy.evV rfl rfl rfl rfl (fun _ X_ => OpV.indexS Tryz.tOk _ rfl rfl rfl rfl (by omega)) ?_)
   refine Asy.end_ (by kernel_rfl) ?_
   intro we_ Xe_
   replace X := X.trans (Xd_.trans Xe_)
   replace Z3 := Z3.up (Xd_.trans Xe_)
   clear Xd_ Xe_
   repeat' (first | (with_reducible refine RunLN.chk ?_; refine RunLN.int (by (first | (refine wr_i64 ?_ ?_; omega; omega) | rfl)) ?_) | refine RunL.ev Tryz.tOk rfl rfl rfl ?_ | refine RunE.condF rfl rfl ?_ | refine RunE.region ?_ | refine RunL.nil ?_ | refine RunE.inBlock ?_ | refine RunE.skip ?_)
   exact RunE.weaken (by repeat (first | exact Sub.nil _ | refine Sub.cons rfl ?_)) (again (i + 1, pv) _ (by simp only; omega) ⟨by simp only; omega, by rw [hnew, Bool.or_false], X, Z3⟩)
  by_cases h2 : x.d.no = d.no - 1
  rotate_left
  ·rw [decide_eq_false (fun h => h2 h.2.1), Bool.false_and] at hnew
   repeat' (first | with_reducible refine AsyN.boolT rfl ?_ | with_reducible refine AsyN.boolF rfl ?_ | (with_reducible refine AsyN.eqT ?_ ?_; focus omega) | (with_reducible refine AsyN.eqF ?_ ?_; focus omega) | (with_reducible refine AsyN.chk ?_; refine AsyN.int (by (first | (refine wr_i64 ?_ ?_; omega; omega) | rfl)) ?_) | refine AsyN.any ?_ | refine Asy.ev Tryz.tOk rfl rfl rfl ?_ | refine Asy.unwantedD rfl rfl rfl ?_ | refine Asy.evV rfl rfl rfl rfl (fun _ X_ => OpV.load1 Tryz.tOk rfl rfl rfl ((hrx.up (X.trans (Xd_.trans X_))) _ _ rfl)) ?_ | refine Asy.evV rfl rfl rfl rfl (fun _ X_ => OpV.load1 Tryz.tOk rfl rfl rfl (Blk.cell (Z3.up (Xd_.trans X_)) rfl)) ?_ | refine Asy.evV rfl rfl rfl rfl (fun _ X_ => OpV.indexS Tryz.tOk _ rfl rfl rfl rfl (by omega)) ?_)
   refine Asy.end_ (by kernel_rfl) ?_
   intro we_ Xe_
   replace X := X.trans (Xd_.trans Xe_)
   replace Z3 := Z3.up (Xd_.trans Xe_)
   clear Xd_ Xe_
   repeat' (first | (with_reducible refine RunLN.chk ?_; refine RunLN.int (by (first | (refine wr_i64 ?_ ?_; omega; omega) | rfl)) ?_) | refine RunL.ev Tryz.tOk rfl rfl rfl ?_ | refine RunE.condF rfl rfl ?_ | refine RunE.region ?_ | refine RunL.nil ?_ | refine RunE.inBlock ?_ | refine RunE.skip ?_)
   exact RunE.weaken (by repeat (first | exact Sub.nil _ | refine Sub.cons rfl ?_)) (again (i + 1, pv) _ (by simp only; omega) ⟨by simp only; omega, by rw [hnew, Bool.or_false], X, Z3⟩)
  by_cases h3 : x.d.at_ ≤ d.at_
  rotate_left
  ·rw [decide_eq_false (fun h => h3 h.2.2), Bool.false_and] at hnew
   repeat' (first | with_reducible refine AsyN.boolT rfl ?_ | with_reducible refine AsyN.boolF rfl ?_ | (with_reducible refine AsyN.decF ?_ ?_; focus omega) | (with_reducible refine AsyN.eqT ?_ ?_; focus omega) | (with_reducible refine AsyN.chk ?_; refine AsyN.int (by (first | (refine wr_i64 ?_ ?_; omega; omega) | rfl)) ?_) | refine AsyN.any ?_ | refine Asy.ev Tryz.tOk rfl rfl rfl ?_ | refine Asy.unwantedD rfl rfl rfl ?_ | refine Asy.evV rfl rfl rfl rfl (fun _ X_ => OpV.load1 Tryz.tOk rfl rfl rfl ((hrx.up (X.trans (Xd_.trans X_))) _ _ rfl)) ?_ | refine Asy.evV rfl rfl rfl rfl (fun _ X_ => OpV.load1 Tryz.tOk rfl rfl rfl (Blk.cell (Z3.up (Xd_.trans X_)) rfl)) ?_ | refine Asy.evV rfl rfl rfl rfl (fun _ X_ => OpV.indexS Tryz.tOk _ rfl rfl rfl rfl (by omega)) ?_)
   refine Asy.end_ (by kernel_rfl) ?_
   intro we_ Xe_
   replace X := X.trans (Xd_.trans Xe_)
   replace Z3 := Z3.up (Xd_.trans Xe_)
   clear Xd_ Xe_
   repeat' (first | (with_reducible refine RunLN.chk ?_; refine RunLN.int (by (first | (refine wr_i64 ?_ ?_; omega; omega) | rfl)) ?_) | refine RunL.ev Tryz.tOk rfl rfl rfl ?_ | refine RunE.condF rfl rfl ?_ | refine RunE.region ?_ | refine RunL.nil ?_ | refine RunE.inBlock ?_ | refine RunE.skip ?_)
   exact RunE.weaken (by repeat (first | exact Sub.nil _ | refine Sub.cons rfl ?_)) (again (i + 1, pv) _ (by simp only; omega) ⟨by simp only; omega, by rw [hnew, Bool.or_false], X, Z3⟩)
  rw [decide_eq_true ⟨h1, h2, h3⟩, Bool.true_and] at hnew
  cases hq : (idG x.d == d.prev) with
  | false =>
   rw [hq] at hnew
   repeat' (first | with_reducible refine AsyN.boolT rfl ?_ | with_reducible refine AsyN.boolF rfl ?_ | refine AsyN.boolF (by assumption) ?_ | (with_reducible refine AsyN.decT ?_ ?_; focus omega) | (with_reducible refine AsyN.eqT ?_ ?_; focus omega) | (with_reducible refine AsyN.chk ?_; refine AsyN.int (by (first | (refine wr_i64 ?_ ?_; omega; omega) | rfl)) ?_) | refine AsyN.any ?_ | refine Asy.ev Tryz.tOk rfl rfl rfl ?_ | refine Asy.evV rfl rfl rfl rfl (fun _ X_ => OpV.load1 Tryz.tOk rfl rfl rfl ((hrx.up (X.trans (Xd_.trans X_))) _ _ rfl)) ?_ | refine Asy.evV rfl rfl rfl rfl (fun _ X_ => OpV.loadN Tryz.tOk rfl rfl rfl rfl (hrx.up (X.trans (Xd_.trans X_)))) ?_ | refine Asy.evV rfl rfl rfl rfl (fun _ X_ => OpV.load1 Tryz.tOk rfl rfl rfl (Blk.cell (Z3.up (Xd_.trans X_)) rfl)) ?_ | refine Asy.evV rfl rfl rfl rfl (fun _ X_ => OpV.loadN Tryz.tOk rfl rfl rfl rfl ((row_prev (Blk.row Z3)).up (Xd_.trans X_))) ?_ | refine Asy.evV rfl rfl rfl rfl (fun _ X_ => (OpV.eqDg (a := idG x.d) (b := d.prev) bytesArr rfl rfl)) ?_ | refine Asy.callN rfl rfl rfl (fun _ X_ => ((cI _ (hwx.2.2.2.seen.up (X.trans (Xd_.trans X_))) (hwx.2.2.2.data.up (X.trans (Xd_.trans X_)))))) ?_ | refine Asy.evV rfl rfl rfl rfl (fun _ X_ => OpV.indexS Tryz.tOk _ rfl rfl rfl rfl (by omega)) ?_)
   refine Asy.end_ (by kernel_rfl) ?_
   intro we_ Xe_
   replace X := X.trans (Xd_.trans Xe_)
   replace Z3 := Z3.up (Xd_.trans Xe_)
   clear Xd_ Xe_
   repeat' (first | (with_reducible refine RunLN.chk ?_; refine RunLN.int (by (first | (refine wr_i64 ?_ ?_; omega; omega) | rfl)) ?_) | refine RunL.ev Tryz.tOk rfl rfl rfl ?_ | refine RunE.condF rfl rfl ?_ | refine RunE.region ?_ | refine RunL.nil ?_ | refine RunE.inBlock ?_ | refine RunE.skip ?_)
   exact RunE.weaken (by repeat (first | exact Sub.nil _ | refine Sub.cons rfl ?_)) (again (i + 1, pv) _ (by simp only; omega) ⟨by simp only; omega, by rw [hnew, Bool.or_false], X, Z3⟩)
  | true =>
   rw [hq, Bool.or_true] at hnew
   repeat' (first | with_reducible refine AsyN.boolT rfl ?_ | refine AsyN.boolT (by assumption) ?_ | (with_reducible refine AsyN.decT ?_ ?_; focus omega) | (with_reducible refine AsyN.eqT ?_ ?_; focus omega) | (with_reducible refine AsyN.chk ?_; refine AsyN.int (by (first | (refine wr_i64 ?_ ?_; omega; omega) | rfl)) ?_) | refine AsyN.any ?_ | refine Asy.ev Tryz.tOk rfl rfl rfl ?_ | refine Asy.evV rfl rfl rfl rfl (fun _ X_ => OpV.load1 Tryz.tOk rfl rfl rfl ((hrx.up (X.trans (Xd_.trans X_))) _ _ rfl)) ?_ | refine Asy.evV rfl rfl rfl rfl (fun _ X_ => OpV.loadN Tryz.tOk rfl rfl rfl rfl (hrx.up (X.trans (Xd_.trans X_)))) ?_ | refine Asy.evV rfl rfl rfl rfl (fun _ X_ => OpV.load1 Tryz.tOk rfl rfl rfl (Blk.cell (Z3.up (Xd_.trans X_)) rfl)) ?_ | refine Asy.evV rfl rfl rfl rfl (fun _ X_ => OpV.loadN Tryz.tOk rfl rfl rfl rfl ((row_prev (Blk.row Z3)).up (Xd_.trans X_))) ?_ | refine Asy.evV rfl rfl rfl rfl (fun _ X_ => (OpV.eqDg (a := idG x.d) (b := d.prev) bytesArr rfl rfl)) ?_ | refine Asy.callN rfl rfl rfl (fun _ X_ => ((cI _ (hwx.2.2.2.seen.up (X.trans (Xd_.trans X_))) (hwx.2.2.2.data.up (X.trans (Xd_.trans X_)))))) ?_ | refine Asy.evV rfl rfl rfl rfl (fun _ X_ => OpV.indexS Tryz.tOk _ rfl rfl rfl rfl (by omega)) ?_)
   refine Asy.end_ (by kernel_rfl) ?_
   intro we_ Xe_
   replace X := X.trans (Xd_.trans Xe_)
   replace Z3 := Z3.up (Xd_.trans Xe_)
   clear Xd_ Xe_
   repeat' (first | with_reducible refine RunLN.boolT rfl ?_ | (with_reducible refine RunLN.chk ?_; refine RunLN.int (by (first | (refine wr_i64 ?_ ?_; omega; omega) | rfl)) ?_) | refine RunL.ev Tryz.tOk rfl rfl rfl ?_ | refine RunE.condT rfl rfl ?_ | refine RunE.region ?_ | refine RunL.nil ?_ | refine RunE.inBlock ?_)
   exact RunE.weaken (by repeat (first | exact Sub.nil _ | refine Sub.cons rfl ?_)) (again (i + 1, true) _ (by simp only; omega) ⟨by simp only; omega, hnew, X, Z3⟩)
 obtain rfl : i = l.length := by omega
 rw [List.take_length] at hpv
 clear again hdi
 rw [hpv]
 cases pv with
 | false =>
  repeat' (first | with_reducible refine RunLN.boolT rfl ?_ | with_reducible refine RunLN.boolF rfl ?_ | (with_reducible refine RunLN.decF ?_ ?_; focus omega) | (with_reducible refine RunLN.chk ?_; refine RunLN.int (by (rfl)) ?_) | refine RunLN.any ?_ | refine RunL.ev Tryz.tOk rfl rfl rfl ?_ | refine RunL.evV rfl rfl rfl (OpV.lenSl Tryz.tOk rfl rfl hv) ?_ | refine RunE.condT rfl rfl ?_ | refine RunE.condF rfl rfl ?_ | refine RunE.seq ?_ | refine RunE.region ?_ | refine RunL.nil ?_ | refine RunE.exit rfl ?_)
  exact RunE.retFn Tryz.func25 (.tmp rfl .nil) ⟨rfl, X⟩
 | true =>
 rw [Bool.true_and]
 repeat' (first | with_reducible refine RunLN.boolT rfl ?_ | with_reducible refine RunLN.boolF rfl ?_ | (with_reducible refine RunLN.decF ?_ ?_; focus omega) | (with_reducible refine RunLN.chk ?_; refine RunLN.int (by (rfl)) ?_) | refine RunLN.any ?_ | refine RunL.ev Tryz.tOk rfl rfl rfl ?_ | refine RunL.evV rfl rfl rfl (OpV.lenSl Tryz.tOk rfl rfl hv) ?_ | refine RunE.condF rfl rfl ?_ | refine RunE.seq ?_ | refine RunE.region ?_ | refine RunL.nil ?_ | refine RunE.block ?_ | refine RunE.skip ?_ | refine RunE.exit rfl ?_)
 refine RunE.loop (ι := Nat) (fun s => [(0, v), (3, .pointer (some ⟨B3, 0, none⟩)), (7, .int .i64 (s : Int))])
  (fun s w' => s ≤ d.seen.length ∧ (d.seen.take s).all (seenL l d) = true ∧ Ext w w' ∧ Blk w' B3 (dCells d (.slice ua d.seen.length uc) dv) 38) (fun s => d.seen.length - s) 0 (by repeat (first | exact Sub.nil _ | refine Sub.cons rfl ?_)) ⟨Nat.zero_le _, rfl, X, Z3⟩ ?_
 clear X Z3 hpv
 rintro k w4 ⟨hk, hall, X, Z3⟩ again2
 by_cases hkl : k < d.seen.length
 rotate_left
 ·obtain rfl : k = d.seen.length := by omega
  rw [List.take_length] at hall
  clear again2
  repeat' (first | with_reducible refine RunLN.boolT rfl ?_ | (with_reducible refine RunLN.decF ?_ ?_; focus omega) | (with_reducible refine RunLN.chk ?_; refine RunLN.int (by (rfl)) ?_) | refine RunLN.any ?_ | refine RunL.ev Tryz.tOk rfl rfl rfl ?_ | refine RunL.evV rfl rfl rfl (OpV.load1 Tryz.tOk rfl rfl rfl (Blk.cell Z3 rfl)) ?_ | refine RunE.condF rfl rfl ?_ | refine RunE.seq ?_ | refine RunE.region ?_ | refine RunL.nil ?_ | refine RunE.exit rfl ?_)
  exact RunE.retFn Tryz.func25 (.tmp rfl .nil) ⟨by rw [hall]; rfl, X⟩
 obtain ⟨g, hg⟩ : ∃ g, d.seen[k]? = some g := ⟨_, List.getElem?_eq_getElem hkl⟩
 obtain ⟨b3, o3, c3, eu, hr3, -⟩ := isL_held hs hkl
 have hrg := flat_row encG hr3 hg
 injection eu with e3 _ e4
 subst e3
 subst e4
 have hak : (d.seen.take (k + 1)).all (seenL l d) = seenL l d g := by
  rw [List.take_add_one, hg, List.all_append, hall, Bool.true_and]; simp
 repeat' (first | with_reducible refine RunLN.boolF rfl ?_ | (with_reducible refine RunLN.decT ?_ ?_; focus omega) | (with_reducible refine RunLN.chk ?_; refine RunLN.int (by (rfl)) ?_) | refine RunLN.any ?_ | refine RunL.ev Tryz.tOk rfl rfl rfl ?_ | refine RunL.evV rfl rfl rfl (OpV.load1 Tryz.tOk rfl rfl rfl (Blk.cell Z3 rfl)) ?_ | refine RunE.condT rfl rfl ?_ | refine RunE.seq ?_ | refine RunE.region ?_ | refine RunL.nil ?_ | refine RunE.block ?_ | refine RunE.skip ?_)
 refine RunE.loop (ι := Nat × Bool) (fun s => [(0, v), (3, .pointer (some ⟨B3, 0, none⟩)), (7, .int .i64 (k : Int)), (8, .bool s.2), (9, .int .i64 (s.1 : Int))])
  (fun s w' => s.1 ≤ l.length ∧ seenL (l.take s.1) d g = s.2 ∧ Ext w w' ∧ Blk w' B3 (dCells d (.slice (some ⟨b3, o3, none⟩) d.seen.length uc) dv) 38) (fun s => l.length - s.1) (0, false) (by repeat (first | exact Sub.nil _ | refine Sub.cons rfl ?_)) ⟨Nat.zero_le _, by unfold seenL; rfl, X, Z3⟩ ?_
 clear X Z3
 rintro ⟨i, sn⟩ w5 ⟨hi, hsn, X, Z3⟩ again3
 simp only at hi hsn again3 ⊢
 by_cases hlt : i < l.length
 ·obtain ⟨b1, o1, c1, rfl, hr1, -⟩ := isL_held hv hlt
  obtain ⟨x, hx⟩ : ∃ x, l[i]? = some x := ⟨_, List.getElem?_eq_getElem hlt⟩
  have hrx := flat_row encR hr1 hx
  have hwx := hw x (List.mem_of_getElem? hx)
  have hnew : seenL (l.take (i + 1)) d g = (sn || (decide (x.d.person ≠ d.person) && befD x.d d && (idG x.d == g))) := by
   rw [← hsn]; unfold seenL; rw [any_snoc _ hx]
  have cI := fun w h h' => rid50_ok x.d x.u x.v w h h' hwx.2.1 hwx.2.2.1
  have cB := fun w => rbefore_ok x.d d x.u x.v (.slice (some ⟨b3, o3, none⟩) d.seen.length uc) dv w
  clear hsn again2 hak hall
  repeat' (first | (with_reducible refine RunLN.decT ?_ ?_; focus omega) | (with_reducible refine RunLN.chk ?_; refine RunLN.int (by (rfl)) ?_) | refine RunLN.any ?_ | refine RunL.ev Tryz.tOk rfl rfl rfl ?_ | refine RunE.condT rfl rfl ?_ | refine RunE.seq ?_ | refine RunE.region ?_ | refine RunL.nil ?_ | refine RunE.block ?_ | refine RunE.skip ?_)
  refine RunE.draw (fun _ => False) mix ?_
  intro wd_ Xd_
  by_cases h1 : x.d.person = d.person
  ·rw [decide_eq_false (by simpa using h1), Bool.false_and, Bool.false_and] at hnew
   repeat' (first | with_reducible refine AsyN.boolF rfl ?_ | (with_reducible refine AsyN.neF ?_ ?_; focus omega) | (with_reducible refine AsyN.chk ?_; refine AsyN.int (by (rfl)) ?_) | refine AsyN.any ?_ | refine Asy.ev Tryz.tOk rfl rfl rfl ?_ | refine Asy.unwantedD rfl rfl rfl ?_ | refine Asy.evV rfl rfl rfl rfl (fun _ X_ => OpV.load1 Tryz.tOk rfl rfl rfl ((hrx.up (X.trans (Xd_.trans X_))) _ _ rfl)) ?_ | refine Asy.evV rfl rfl rfl rfl (fun _ X_ => OpV.load1 Tryz.tOk rfl rfl rfl (Blk.cell (Z3.up (Xd_.trans X_)) rfl)) ?_ | refine Asy.evV rfl rfl rfl rfl (fun _ X_ => OpV.indexS Tryz.tOk _ rfl rfl rfl rfl (by omega)) ?_)
   refine Asy.end_ (by kernel_rfl) ?_
   intro we_ Xe_
   replace X := X.trans (Xd_.trans Xe_)
   replace Z3 := Z3.up (Xd_.trans Xe_)
   clear Xd_ Xe_
   repeat' (first | (with_reducible refine RunLN.chk ?_; refine RunLN.int (by (first | (refine wr_i64 ?_ ?_; omega; omega) | rfl)) ?_) | refine RunL.ev Tryz.tOk rfl rfl rfl ?_ | refine RunE.condF rfl rfl ?_ | refine RunE.region ?_ | refine RunL.nil ?_ | refine RunE.inBlock ?_ | refine RunE.skip ?_)
   exact RunE.weaken (by repeat (first | exact Sub.nil _ | refine Sub.cons rfl ?_)) (again3 (i + 1, sn) _ (by simp only; omega) ⟨by simp only; omega, by rw [hnew, Bool.or_false], X, Z3⟩)
  rw [decide_eq_true (by simpa using h1), Bool.true_and] at hnew
  cases hb : befD x.d d with
  | false =>
   rw [hb] at hnew cB
   rw [Bool.false_and] at hnew
   repeat' (first | with_reducible refine AsyN.boolT rfl ?_ | with_reducible refine AsyN.boolF rfl ?_ | (with_reducible refine AsyN.neT ?_ ?_; focus omega) | (with_reducible refine AsyN.chk ?_; refine AsyN.int (by (rfl)) ?_) | refine AsyN.any ?_ | refine Asy.ev Tryz.tOk rfl rfl rfl ?_ | refine Asy.unwantedD rfl rfl rfl ?_ | refine Asy.evV rfl rfl rfl rfl (fun _ X_ => OpV.load1 Tryz.tOk rfl rfl rfl ((hrx.up (X.trans (Xd_.trans X_))) _ _ rfl)) ?_ | refine Asy.evV rfl rfl rfl rfl (fun _ X_ => OpV.loadN Tryz.tOk rfl rfl rfl rfl (hrx.up (X.trans (Xd_.trans X_)))) ?_ | refine Asy.evV rfl rfl rfl rfl (fun _ X_ => OpV.load1 Tryz.tOk rfl rfl rfl (Blk.cell (Z3.up (Xd_.trans X_)) rfl)) ?_ | refine Asy.evV rfl rfl rfl rfl (fun _ X_ => OpV.loadN Tryz.tOk rfl rfl rfl rfl (Blk.row (Z3.up (Xd_.trans X_)))) ?_ | refine Asy.callN rfl rfl rfl (fun _ X_ => ((cB _))) ?_ | refine Asy.evV rfl rfl rfl rfl (fun _ X_ => OpV.indexS Tryz.tOk _ rfl rfl rfl rfl (by omega)) ?_)
   refine Asy.end_ (by kernel_rfl) ?_
   intro we_ Xe_
   replace X := X.trans (Xd_.trans Xe_)
   replace Z3 := Z3.up (Xd_.trans Xe_)
   clear Xd_ Xe_
   repeat' (first | (with_reducible refine RunLN.chk ?_; refine RunLN.int (by (first | (refine wr_i64 ?_ ?_; omega; omega) | rfl)) ?_) | refine RunL.ev Tryz.tOk rfl rfl rfl ?_ | refine RunE.condF rfl rfl ?_ | refine RunE.region ?_ | refine RunL.nil ?_ | refine RunE.inBlock ?_ | refine RunE.skip ?_)
   exact RunE.weaken (by repeat (first | exact Sub.nil _ | refine Sub.cons rfl ?_)) (again3 (i + 1, sn) _ (by simp only; omega) ⟨by simp only; omega, by rw [hnew, Bool.or_false], X, Z3⟩)
  | true =>
  rw [hb] at hnew cB
  rw [Bool.true_and] at hnew
  cases hq : (idG x.d == g) with
  | false =>
   rw [hq] at hnew
   repeat' (first | with_reducible refine AsyN.boolT rfl ?_ | with_reducible refine AsyN.boolF rfl ?_ | refine AsyN.boolF (by assumption) ?_ | (with_reducible refine AsyN.neT ?_ ?_; focus omega) | (with_reducible refine AsyN.chk ?_; refine AsyN.int (by (rfl)) ?_) | refine AsyN.any ?_ | refine Asy.ev Tryz.tOk rfl rfl rfl ?_ | refine Asy.evV rfl rfl rfl rfl (fun _ X_ => OpV.load1 Tryz.tOk rfl rfl rfl ((hrx.up (X.trans (Xd_.trans X_))) _ _ rfl)) ?_ | refine Asy.evV rfl rfl rfl rfl (fun _ X_ => OpV.loadN Tryz.tOk rfl rfl rfl rfl (hrx.up (X.trans (Xd_.trans X_)))) ?_ | refine Asy.evV rfl rfl rfl rfl (fun _ X_ => OpV.load1 Tryz.tOk rfl rfl rfl (Blk.cell (Z3.up (Xd_.trans X_)) rfl)) ?_ | refine Asy.evV rfl rfl rfl rfl (fun _ X_ => OpV.loadN Tryz.tOk rfl rfl rfl rfl (Blk.row (Z3.up (Xd_.trans X_)))) ?_ | refine Asy.evV rfl rfl rfl rfl (fun _ X_ => OpV.indexS Tryz.tOk k rfl rfl rfl (by first | rfl | omega) (by omega)) ?_ | refine Asy.evV rfl rfl rfl rfl (fun _ X_ => OpV.loadN Tryz.tOk rfl rfl rfl rfl (hrg.up (X.trans (Xd_.trans X_)))) ?_ | refine Asy.evV rfl rfl rfl rfl (fun _ X_ => (OpV.eqDg (a := idG x.d) (b := g) bytesArr rfl rfl)) ?_ | refine Asy.callN rfl rfl rfl (fun _ X_ => ((cB _))) ?_ | refine Asy.callN rfl rfl rfl (fun _ X_ => ((cI _ (hwx.2.2.2.seen.up (X.trans (Xd_.trans X_))) (hwx.2.2.2.data.up (X.trans (Xd_.trans X_)))))) ?_ | refine Asy.evV rfl rfl rfl rfl (fun _ X_ => OpV.indexS Tryz.tOk _ rfl rfl rfl rfl (by omega)) ?_)
   refine Asy.end_ (by kernel_rfl) ?_
   intro we_ Xe_
   replace X := X.trans (Xd_.trans Xe_)
   replace Z3 := Z3.up (Xd_.trans Xe_)
   clear Xd_ Xe_
   repeat' (first | (with_reducible refine RunLN.chk ?_; refine RunLN.int (by (first | (refine wr_i64 ?_ ?_; omega; omega) | rfl)) ?_) | refine RunL.ev Tryz.tOk rfl rfl rfl ?_ | refine RunE.condF rfl rfl ?_ | refine RunE.region ?_ | refine RunL.nil ?_ | refine RunE.inBlock ?_ | refine RunE.skip ?_)
   exact RunE.weaken (by repeat (first | exact Sub.nil _ | refine Sub.cons rfl ?_)) (again3 (i + 1, sn) _ (by simp only; omega) ⟨by simp only; omega, by rw [hnew, Bool.or_false], X, Z3⟩)
  | true =>
   rw [hq, Bool.or_true] at hnew
   repeat' (first | with_reducible refine AsyN.boolT rfl ?_ | refine AsyN.boolT (by assumption) ?_ | (with_reducible refine AsyN.neT ?_ ?_; focus omega) | (with_reducible refine AsyN.chk ?_; refine AsyN.int (by (rfl)) ?_) | refine AsyN.any ?_ | refine Asy.ev Tryz.tOk rfl rfl rfl ?_ | refine Asy.evV rfl rfl rfl rfl (fun _ X_ => OpV.load1 Tryz.tOk rfl rfl rfl ((hrx.up (X.trans (Xd_.trans X_))) _ _ rfl)) ?_ | refine Asy.evV rfl rfl rfl rfl (fun _ X_ => OpV.loadN Tryz.tOk rfl rfl rfl rfl (hrx.up (X.trans (Xd_.trans X_)))) ?_ | refine Asy.evV rfl rfl rfl rfl (fun _ X_ => OpV.load1 Tryz.tOk rfl rfl rfl (Blk.cell (Z3.up (Xd_.trans X_)) rfl)) ?_ | refine Asy.evV rfl rfl rfl rfl (fun _ X_ => OpV.loadN Tryz.tOk rfl rfl rfl rfl (Blk.row (Z3.up (Xd_.trans X_)))) ?_ | refine Asy.evV rfl rfl rfl rfl (fun _ X_ => OpV.indexS Tryz.tOk k rfl rfl rfl (by first | rfl | omega) (by omega)) ?_ | refine Asy.evV rfl rfl rfl rfl (fun _ X_ => OpV.loadN Tryz.tOk rfl rfl rfl rfl (hrg.up (X.trans (Xd_.trans X_)))) ?_ | refine Asy.evV rfl rfl rfl rfl (fun _ X_ => (OpV.eqDg (a := idG x.d) (b := g) bytesArr rfl rfl)) ?_ | refine Asy.callN rfl rfl rfl (fun _ X_ => ((cB _))) ?_ | refine Asy.callN rfl rfl rfl (fun _ X_ => ((cI _ (hwx.2.2.2.seen.up (X.trans (Xd_.trans X_))) (hwx.2.2.2.data.up (X.trans (Xd_.trans X_)))))) ?_ | refine Asy.evV rfl rfl rfl rfl (fun _ X_ => OpV.indexS Tryz.tOk _ rfl rfl rfl rfl (by omega)) ?_)
   refine Asy.end_ (by kernel_rfl) ?_
   intro we_ Xe_
   replace X := X.trans (Xd_.trans Xe_)
   replace Z3 := Z3.up (Xd_.trans Xe_)
   clear Xd_ Xe_
   repeat' (first | with_reducible refine RunLN.boolT rfl ?_ | (with_reducible refine RunLN.chk ?_; refine RunLN.int (by (first | (refine wr_i64 ?_ ?_; omega; omega) | rfl)) ?_) | refine RunL.ev Tryz.tOk rfl rfl rfl ?_ | refine RunE.condT rfl rfl ?_ | refine RunE.region ?_ | refine RunL.nil ?_ | refine RunE.inBlock ?_)
   exact RunE.weaken (by repeat (first | exact Sub.nil _ | refine Sub.cons rfl ?_)) (again3 (i + 1, true) _ (by simp only; omega) ⟨by simp only; omega, hnew, X, Z3⟩)
 obtain rfl : i = l.length := by omega
 rw [List.take_length] at hsn
 clear again3
 cases sn with
 | false =>
  repeat' (first | with_reducible refine RunLN.boolT rfl ?_ | with_reducible refine RunLN.boolF rfl ?_ | (with_reducible refine RunLN.decF ?_ ?_; focus omega) | (with_reducible refine RunLN.chk ?_; refine RunLN.int (by (rfl)) ?_) | refine RunLN.any ?_ | refine RunL.ev Tryz.tOk rfl rfl rfl ?_ | refine RunL.evV rfl rfl rfl (OpV.lenSl Tryz.tOk rfl rfl hv) ?_ | refine RunE.condT rfl rfl ?_ | refine RunE.condF rfl rfl ?_ | refine RunE.seq ?_ | refine RunE.region ?_ | refine RunL.nil ?_ | refine RunE.exit rfl ?_)
  exact RunE.retFn Tryz.func25 (.tmp rfl .nil) ⟨by rw [show d.seen.all (seenL l d) = false from List.all_eq_false.2 ⟨g, List.mem_of_getElem? hg, by rw [hsn]; decide⟩]; rfl, X⟩
 | true =>
  rw [hsn] at hak
  repeat' (first | with_reducible refine RunLN.boolT rfl ?_ | with_reducible refine RunLN.boolF rfl ?_ | (with_reducible refine RunLN.decF ?_ ?_; focus omega) | (with_reducible refine RunLN.chk ?_; refine RunLN.int (by (first | (refine wr_i64 ?_ ?_; omega; omega) | rfl)) ?_) | refine RunLN.any ?_ | refine RunL.ev Tryz.tOk rfl rfl rfl ?_ | refine RunL.evV rfl rfl rfl (OpV.lenSl Tryz.tOk rfl rfl hv) ?_ | refine RunE.condF rfl rfl ?_ | refine RunE.seq ?_ | refine RunE.region ?_ | refine RunL.nil ?_ | refine RunE.inBlock ?_ | refine RunE.skip ?_ | refine RunE.exit rfl ?_)
  exact RunE.weaken (by repeat (first | exact Sub.nil _ | refine Sub.cons rfl ?_)) (again2 (k + 1) _ (by omega) ⟨by omega, hak, X, Z3⟩)
theorem rRests_ok (l : List Dr) (v : Value) (d : Dr) (w : World) (hv : LDr w v l) (hl : l.length < 9223372036854775808) (hw : ∀ x ∈ l, WfX w x) (hd : WfX w d) (hd0 : 0 ≤ d.d.no) :
  Rets Tryz.prog 25 [v, .agg d.cells.toArray] w fun r w' => r = .bool (restsD (l.map Dr.d) d.d) ∧ Ext w w' :=
 rRests_go l v d.d d.ua d.uc d.v w hv hl hw hd.2.2.2.seen hd.2.1 hd0 hd.1.no.2
end Go.Sg
end
section
/- Merge: the reference: Merge. -/
set_option maxRecDepth 4000
namespace Go.Mer
open Go.Rn Go.Rec Go.Dee Go.RowKit Go.Sg Go.NT
end Go.Mer
namespace Go.Sg
open Go.Rn Go.Proofs Go.Dee Go.Mer Go.Rec Go.RowKit Go.Sha Go.Cod Go.NT
attribute [local irreducible] restsD idG idD befD formedD leftL takenL sortR passL stepD keysD fineD thereL chkM mergeD Go.Rn.RetsX Go.Rn.RunLN Go.Rn.AsyN Go.Rn.RunL Go.Rn.RunE Go.Rn.Asy Go.Rn.OpV Go.Rn.OpE Go.Rn.ExecE
end Go.Sg
end
section
/- Merge: the reference: fork, Liars, Proves, SameForks, Few. -/
set_option maxRecDepth 4000
namespace Go.Sg
open Go.Rn Go.Proofs Go.Dee Go.Mer Go.Rec Go.RowKit Go.Sha Go.Cod Go.NT
attribute [local irreducible] restsD idG idD befD formedD leftL takenL sortR passL stepD keysD fineD thereL chkM mergeD Go.Rn.RetsX Go.Rn.RunLN Go.Rn.AsyN Go.Rn.RunL Go.Rn.RunE Go.Rn.Asy Go.Rn.OpV Go.Rn.OpE Go.Rn.ExecE
end Go.Sg
end
section
/- Merge: the reference: Liars, Proves, SameForks, Few. -/
set_option maxRecDepth 4000
namespace Go.Mer
open Go.Rn Go.Rec Go.Dee Go.RowKit Go.Sg Go.NT
end Go.Mer
namespace Go.Sg
open Go.Rn Go.Proofs Go.Dee Go.Mer Go.Rec Go.RowKit Go.Sha Go.Cod Go.NT
attribute [local irreducible] forkN restsD idG idD befD formedD leftL takenL sortR passL stepD keysD fineD thereL chkM mergeD liarsL Go.Rn.RetsX Go.Rn.RunLN Go.Rn.AsyN Go.Rn.RunL Go.Rn.RunE Go.Rn.Asy Go.Rn.OpV Go.Rn.OpE Go.Rn.ExecE
set_option maxRecDepth 8000 in
set_option maxHeartbeats 8000000 in
theorem rSameForks_ok (a b : List Fr) (u v : Value) (w : World) (ha : LFr w u a) (hb : LFr w v b) (hl : a.length < 9223372036854775808) (he : a.map pairD = b.map pairD) (hda : ∀ x ∈ a, WfX w x.a ∧ WfX w x.b) (hdb : ∀ x ∈ b, WfX w x.a ∧ WfX w x.b) :
  Rets Tryz.prog 20 [u, v] w fun r w' => r = .bool true ∧ Ext w w' := by
 have hlen : a.length = b.length := by
  have := congrArg List.length he
  simpa using this
 refine RetsX.of (nt := 43) Tryz.func20 (by kernel_rfl) rfl rfl (by simp) (by simp only [argEnv]; rfl) ?_
 have X := ExtB.refl (fun _ => False) w
 repeat' (first | with_reducible refine RunLN.boolF rfl ?_ | (with_reducible refine RunLN.neF ?_ ?_; focus omega) | (with_reducible refine RunLN.chk ?_; refine RunLN.int (by (rfl)) ?_) | refine RunLN.any ?_ | refine RunL.ev Tryz.tOk rfl rfl rfl ?_ | refine RunL.evV rfl rfl rfl (OpV.lenSl Tryz.tOk rfl rfl ha) ?_ | refine RunL.evV rfl rfl rfl (OpV.lenSl Tryz.tOk rfl rfl hb) ?_ | refine RunE.condF rfl rfl ?_ | refine RunE.seq ?_ | refine RunE.region ?_ | refine RunL.nil ?_ | refine RunE.block ?_ | refine RunE.skip ?_)
 refine RunE.loop (ι := Nat) (fun s => [(0, u), (1, v), (5, .int .i64 (s : Int))])
  (fun s w' => s ≤ a.length ∧ Ext w w') (fun s => a.length - s) 0 (by repeat (first | exact Sub.nil _ | refine Sub.cons rfl ?_)) ⟨Nat.zero_le _, X⟩ ?_
 clear X
 rintro i w3 ⟨hi, X⟩ again
 by_cases hlt : i < a.length
 ·obtain ⟨x, hx⟩ : ∃ x, a[i]? = some x := ⟨_, List.getElem?_eq_getElem hlt⟩
  obtain ⟨y, hy⟩ : ∃ y, b[i]? = some y := ⟨_, List.getElem?_eq_getElem (by omega)⟩
  have hxy : pairD x = pairD y := by
   have := congrArg (·[i]?) he
   simpa [hx, hy] using this
  obtain ⟨h1, h2⟩ := Prod.mk.inj hxy
  obtain ⟨b1, o1, c1, rfl, hr1, -⟩ := isL_held ha hlt
  obtain ⟨b2, o2, c2, rfl, hr2, -⟩ := isL_held hb (show i < b.length by omega)
  have hrx := flat_row encF (hr1.up X) hx
  have hry := flat_row encF (hr2.up X) hy
  obtain ⟨wx1, wx2⟩ := hda x (List.mem_of_getElem? hx)
  obtain ⟨wy1, wy2⟩ := hdb y (List.mem_of_getElem? hy)
  have hX3 := X
  have cA : ∀ w', Ext w3 w' → Rets Tryz.prog 44 [.agg x.a.cells.toArray, .agg y.a.cells.toArray] w' fun r w'' => r = .bool true ∧ Ext w' w'' := fun w' e => by
   have := rsameD_ok x.a.d y.a.d x.a.u x.a.v y.a.u y.a.v w' ((wx1.up (hX3.trans e)).2.2.2.seen) ((wx1.up (hX3.trans e)).2.2.2.data) ((wy1.up (hX3.trans e)).2.2.2.seen) ((wy1.up (hX3.trans e)).2.2.2.data) wx1.2.1 wy1.2.1
   rwa [sameD_iff.2 h1] at this
  have cB : ∀ w', Ext w3 w' → Rets Tryz.prog 44 [.agg x.b.cells.toArray, .agg y.b.cells.toArray] w' fun r w'' => r = .bool true ∧ Ext w' w'' := fun w' e => by
   have := rsameD_ok x.b.d y.b.d x.b.u x.b.v y.b.u y.b.v w' ((wx2.up (hX3.trans e)).2.2.2.seen) ((wx2.up (hX3.trans e)).2.2.2.data) ((wy2.up (hX3.trans e)).2.2.2.seen) ((wy2.up (hX3.trans e)).2.2.2.data) wx2.2.1 wy2.2.1
   rwa [sameD_iff.2 h2] at this
  have X := ExtB.refl (fun _ => False) w3
  repeat' (first | (with_reducible refine RunLN.decT ?_ ?_; focus omega) | (with_reducible refine RunLN.chk ?_; refine RunLN.int (by (rfl)) ?_) | refine RunLN.any ?_ | refine RunL.ev Tryz.tOk rfl rfl rfl ?_ | refine RunE.condT rfl rfl ?_ | refine RunE.seq ?_ | refine RunE.region ?_ | refine RunL.nil ?_ | refine RunE.block ?_ | refine RunE.skip ?_)
  refine RunE.draw (fun _ => False) mix ?_
  intro wd_ Xd_
  repeat' (first | with_reducible refine AsyN.boolT rfl ?_ | with_reducible refine AsyN.boolF rfl ?_ | (with_reducible refine AsyN.chk ?_; refine AsyN.int (by (rfl)) ?_) | refine AsyN.any ?_ | refine Asy.ev Tryz.tOk rfl rfl rfl ?_ | refine Asy.evV rfl rfl rfl rfl (fun _ X_ => OpV.indexS Tryz.tOk i rfl rfl rfl (by first | rfl | omega) (by omega)) ?_ | refine Asy.evV rfl rfl rfl rfl (fun _ X_ => OpV.loadN Tryz.tOk rfl rfl rfl rfl ((row_fa hrx).up (Xd_.trans X_))) ?_ | refine Asy.evV rfl rfl rfl rfl (fun _ X_ => OpV.loadN Tryz.tOk rfl rfl rfl rfl ((row_fa hry).up (Xd_.trans X_))) ?_ | refine Asy.evV rfl rfl rfl rfl (fun _ X_ => OpV.loadN Tryz.tOk rfl rfl rfl rfl ((row_fb hrx).up (Xd_.trans X_))) ?_ | refine Asy.evV rfl rfl rfl rfl (fun _ X_ => OpV.loadN Tryz.tOk rfl rfl rfl rfl ((row_fb hry).up (Xd_.trans X_))) ?_ | refine Asy.callN rfl rfl rfl (fun _ X_ => (cA _ (Xd_.trans X_))) ?_ | refine Asy.callN rfl rfl rfl (fun _ X_ => (cB _ (Xd_.trans X_))) ?_)
  refine Asy.end_ (by kernel_rfl) ?_
  intro we_ Xe_
  replace X := hX3.trans (Xd_.trans Xe_)
  clear Xd_ Xe_
  repeat' (first | (with_reducible refine RunLN.chk ?_; refine RunLN.int (by (first | (refine wr_i64 ?_ ?_; omega; omega) | rfl)) ?_) | refine RunL.ev Tryz.tOk rfl rfl rfl ?_ | refine RunE.condF rfl rfl ?_ | refine RunE.region ?_ | refine RunL.nil ?_ | refine RunE.inBlock ?_ | refine RunE.skip ?_)
  exact RunE.weaken (by repeat (first | exact Sub.nil _ | refine Sub.cons rfl ?_)) (again (i + 1) _ (by omega) ⟨by omega, X⟩)
 ·obtain rfl : i = a.length := by omega
  clear again
  repeat' (first | with_reducible refine RunLN.boolT rfl ?_ | (with_reducible refine RunLN.decF ?_ ?_; focus omega) | (with_reducible refine RunLN.chk ?_; refine RunLN.int (by (rfl)) ?_) | refine RunLN.any ?_ | refine RunL.ev Tryz.tOk rfl rfl rfl ?_ | refine RunL.evV rfl rfl rfl (OpV.lenSl Tryz.tOk rfl rfl ha) ?_ | refine RunE.condF rfl rfl ?_ | refine RunE.seq ?_ | refine RunE.region ?_ | refine RunL.nil ?_ | refine RunE.exit rfl ?_)
  exact RunE.retFn Tryz.func20 (.tmp rfl .nil) ⟨rfl, X⟩
set_option maxRecDepth 8000 in
set_option maxHeartbeats 8000000 in
theorem rFew_ok (ks : List Int) (kv : Value) (ls : List Ll) (lv : Value) (w : World) (hk : LIn w kv ks) (hkl : ks.length < 9223372036854775808) (hv : LLl w lv ls) (hl : ls.length < 9223372036854775808)
  (hp : ∀ x ∈ ls, LDr w x.v x.l) (hd : ∀ x ∈ allD ls, WfX w x) (hn : ls.length ≤ 70 → lenD ls < 9223372036854775808) :
  Rets Tryz.prog 11 [kv, lv] w fun r w' => (∃ b, r = .bool b ∧ (b = true → ls.length ≤ 70 ∧ lenD ls ≤ 4200)) ∧ Ext w w' := by
 have hpl : ∀ x ∈ ls, x.l.length < 9223372036854775808 ∨ 70 < ls.length := fun x hx => by
  by_cases h : ls.length ≤ 70
  ·left
   have h1 := hn h
   have : x.l.length ≤ lenD ls := by
    obtain ⟨i, hi⟩ := List.mem_iff_getElem?.1 hx
    have e1 := lenD_take hi
    have e2 := lenD_le ls (i + 1)
    omega
   omega
  ·right; omega
 refine RetsX.of (nt := 61) Tryz.func11 (by kernel_rfl) rfl rfl (by simp) (by simp only [argEnv]; rfl) ?_
 have X := ExtB.refl (fun _ => False) w
 by_cases h80 : 80 < ks.length
 ·repeat' (first | with_reducible refine RunLN.boolT rfl ?_ | with_reducible refine RunLN.boolF rfl ?_ | (with_reducible refine RunLN.decT ?_ ?_; focus omega) | (with_reducible refine RunLN.chk ?_; refine RunLN.int (by (rfl)) ?_) | refine RunLN.any ?_ | refine RunL.ev Tryz.tOk rfl rfl rfl ?_ | refine RunL.unwantedD rfl rfl ?_ | refine RunL.evV rfl rfl rfl (OpV.lenSl Tryz.tOk rfl rfl hk) ?_ | refine RunE.condT rfl rfl ?_ | refine RunE.seq ?_ | refine RunE.region ?_ | refine RunL.nil ?_)
  exact RunE.retFn Tryz.func11 (.tmp rfl .nil) ⟨⟨_, rfl, fun h => by cases h⟩, X⟩
 by_cases h70 : 70 < ls.length
 ·repeat' (first | with_reducible refine RunLN.boolT rfl ?_ | with_reducible refine RunLN.boolF rfl ?_ | (with_reducible refine RunLN.decT ?_ ?_; focus omega) | (with_reducible refine RunLN.decF ?_ ?_; focus omega) | (with_reducible refine RunLN.chk ?_; refine RunLN.int (by (rfl)) ?_) | refine RunLN.any ?_ | refine RunL.ev Tryz.tOk rfl rfl rfl ?_ | refine RunL.evV rfl rfl rfl (OpV.lenSl Tryz.tOk rfl rfl hk) ?_ | refine RunL.evV rfl rfl rfl (OpV.lenSl Tryz.tOk rfl rfl hv) ?_ | refine RunE.condT rfl rfl ?_ | refine RunE.seq ?_ | refine RunE.region ?_ | refine RunL.nil ?_)
  exact RunE.retFn Tryz.func11 (.tmp rfl .nil) ⟨⟨_, rfl, fun h => by cases h⟩, X⟩
 replace hn := hn (by omega)
 replace hpl : ∀ x ∈ ls, x.l.length < 9223372036854775808 := fun x hx => (hpl x hx).resolve_right h70
 repeat' (first | with_reducible refine RunLN.boolF rfl ?_ | (with_reducible refine RunLN.decF ?_ ?_; focus omega) | (with_reducible refine RunLN.chk ?_; refine RunLN.int (by (rfl)) ?_) | refine RunLN.any ?_ | refine RunL.ev Tryz.tOk rfl rfl rfl ?_ | refine RunL.evV rfl rfl rfl (OpV.lenSl Tryz.tOk rfl rfl hk) ?_ | refine RunL.evV rfl rfl rfl (OpV.lenSl Tryz.tOk rfl rfl hv) ?_ | refine RunE.condF rfl rfl ?_ | refine RunE.seq ?_ | refine RunE.region ?_ | refine RunL.nil ?_ | refine RunE.block ?_ | refine RunE.skip ?_)
 refine RunE.loop (ι := Nat) (fun s => [(1, lv), (5, .int .i64 (lenD (ls.take s) : Int)), (6, .int .i64 (s : Int))])
  (fun s w' => s ≤ ls.length ∧ Ext w w') (fun s => ls.length - s) 0 (by repeat (first | exact Sub.nil _ | refine Sub.cons rfl ?_)) ⟨Nat.zero_le _, X⟩ ?_
 clear X
 rintro i w3 ⟨hi, X⟩ again
 by_cases hlt : i < ls.length
 ·obtain ⟨b1, o1, cc, rfl, hr1, -⟩ := isL_held hv hlt
  obtain ⟨x, hx⟩ : ∃ x, ls[i]? = some x := ⟨_, List.getElem?_eq_getElem hlt⟩
  have hrx := flat_row encLl hr1 hx
  have e2 := lenD_take hx
  have e3 := lenD_le ls (i + 1)
  have next := fun w' a => again (i + 1) w' (by omega) ⟨by omega, a⟩
  have hxm := List.mem_of_getElem? hx
  have hxl := hp x hxm
  have hxn := hpl x hxm
  have hxd : ∀ y ∈ x.l, WfX w y := fun y hy => hd y (List.mem_flatMap.2 ⟨x, hxm, hy⟩)
  rw [e2, Int.natCast_add] at next
  clear again
  generalize lenD (ls.take i) = m at *
  obtain ⟨xl, xu, xc⟩ := x
  simp only at hxl hxn hxd e2 next
  replace hrx : Row w b1 (o1 + i * 1) [.slice xu xl.length xc] := hrx
  replace hxl : LDr w (.slice xu xl.length xc) xl := hxl
  repeat' (first | (with_reducible refine RunLN.decT ?_ ?_; focus omega) | (with_reducible refine RunLN.chk ?_; refine RunLN.int (by (first | (refine wr_i64 ?_ ?_; omega; omega) | rfl)) ?_) | refine RunLN.any ?_ | refine RunL.ev Tryz.tOk rfl rfl rfl ?_ | refine RunL.evV rfl rfl rfl (OpV.load1 Tryz.tOk rfl rfl rfl ((hrx.up X) 0 _ rfl)) ?_ | refine RunL.evV rfl rfl rfl (OpV.indexS Tryz.tOk _ rfl rfl rfl rfl (by omega)) ?_ | refine RunE.condT rfl rfl ?_ | refine RunE.seq ?_ | refine RunE.region ?_ | refine RunL.nil ?_ | refine RunE.block ?_ | refine RunE.skip ?_)
  refine RunE.loop (ι := Nat) (fun s => [(1, .slice (some ⟨b1, o1, none⟩) ls.length cc), (5, .int .i64 ((m : Int) + (xl.length : Int))), (6, .int .i64 (i : Int)), (7, .int .i64 (s : Int))])
   (fun s w' => s ≤ xl.length ∧ Ext w w') (fun s => xl.length - s) 0 (by repeat (first | exact Sub.nil _ | refine Sub.cons rfl ?_)) ⟨Nat.zero_le _, X⟩ ?_
  clear X
  rintro k w4 ⟨hk4, X⟩ again2
  by_cases hke : k < xl.length ∧ k < 50
  ·obtain ⟨h1, h2⟩ := hke
   obtain ⟨b2, o2, c2, e2', hr2, -⟩ := isL_held hxl h1
   obtain ⟨y, hy⟩ : ∃ y, xl[k]? = some y := ⟨_, List.getElem?_eq_getElem h1⟩
   have hry := flat_row encR hr2 hy
   have hwy := hxd y (List.mem_of_getElem? hy)
   injection e2' with e4 _ e5
   subst e4
   subst e5
   have cD := fun w h h' => rfewD_ok y.d y.u y.v w h h'
   repeat' (first | with_reducible refine RunLN.boolT rfl ?_ | (with_reducible refine RunLN.decT ?_ ?_; focus omega) | (with_reducible refine RunLN.chk ?_; refine RunLN.int (by (rfl)) ?_) | refine RunLN.any ?_ | refine RunL.ev Tryz.tOk rfl rfl rfl ?_ | refine RunL.evV rfl rfl rfl (OpV.load1 Tryz.tOk rfl rfl rfl ((hrx.up X) 0 _ rfl)) ?_ | refine RunL.evV rfl rfl rfl (OpV.loadN Tryz.tOk rfl rfl rfl rfl (hry.up X)) ?_ | refine RunL.evV rfl rfl rfl (OpV.indexS Tryz.tOk _ rfl rfl rfl rfl (by omega)) ?_ | refine RunE.condT rfl rfl ?_ | refine RunE.seq ?_ | refine RunE.region ?_ | refine RunL.nil ?_ | refine RunE.block ?_ | refine RunE.skip ?_)
   refine RunL.call rfl rfl rfl (cD _ (hwy.2.2.2.up X).seen (hwy.2.2.2.up X).data) ?_
   rintro _ _ ⟨rfl, Xa_⟩
   replace X := X.trans Xa_
   clear Xa_
   cases fewD y.d with
   | false =>
    repeat' (first | with_reducible refine RunLN.boolT rfl ?_ | with_reducible refine RunLN.boolF rfl ?_ | refine RunL.ev Tryz.tOk rfl rfl rfl ?_ | refine RunE.condT rfl rfl ?_ | refine RunE.seq ?_ | refine RunE.region ?_ | refine RunL.nil ?_)
    exact RunE.retFn Tryz.func11 (.tmp rfl .nil) ⟨⟨_, rfl, fun h => by cases h⟩, X⟩
   | true =>
    repeat' (first | with_reducible refine RunLN.boolF rfl ?_ | (with_reducible refine RunLN.chk ?_; refine RunLN.int (by (first | (refine wr_i64 ?_ ?_; omega; omega) | rfl)) ?_) | refine RunL.ev Tryz.tOk rfl rfl rfl ?_ | refine RunE.condF rfl rfl ?_ | refine RunE.region ?_ | refine RunL.nil ?_ | refine RunE.inBlock ?_ | refine RunE.skip ?_)
    exact RunE.weaken (by repeat (first | exact Sub.nil _ | refine Sub.cons rfl ?_)) (again2 (k + 1) _ (by omega) ⟨by omega, X⟩)
  ·clear again2
   by_cases h1 : k < xl.length
   ·have h2 : ¬ k < 50 := fun h => hke ⟨h1, h⟩
    repeat' (first | with_reducible refine RunLN.boolT rfl ?_ | with_reducible refine RunLN.boolF rfl ?_ | (with_reducible refine RunLN.decT ?_ ?_; focus omega) | (with_reducible refine RunLN.decF ?_ ?_; focus omega) | (with_reducible refine RunLN.chk ?_; refine RunLN.int (by (first | (refine wr_i64 ?_ ?_; omega; omega) | rfl)) ?_) | refine RunLN.any ?_ | refine RunL.ev Tryz.tOk rfl rfl rfl ?_ | refine RunL.evV rfl rfl rfl (OpV.load1 Tryz.tOk rfl rfl rfl ((hrx.up X) 0 _ rfl)) ?_ | refine RunL.evV rfl rfl rfl (OpV.indexS Tryz.tOk _ rfl rfl rfl rfl (by omega)) ?_ | refine RunE.condF rfl rfl ?_ | refine RunE.seq ?_ | refine RunE.region ?_ | refine RunL.nil ?_ | refine RunE.inBlock ?_ | refine RunE.exit rfl ?_)
    exact RunE.weaken (by repeat (first | exact Sub.nil _ | refine Sub.cons rfl ?_)) (next _ X)
   ·repeat' (first | with_reducible refine RunLN.boolF rfl ?_ | (with_reducible refine RunLN.decF ?_ ?_; focus omega) | (with_reducible refine RunLN.chk ?_; refine RunLN.int (by (first | (refine wr_i64 ?_ ?_; omega; omega) | rfl)) ?_) | refine RunLN.any ?_ | refine RunL.ev Tryz.tOk rfl rfl rfl ?_ | refine RunL.unwantedD rfl rfl ?_ | refine RunL.evV rfl rfl rfl (OpV.load1 Tryz.tOk rfl rfl rfl ((hrx.up X) 0 _ rfl)) ?_ | refine RunL.evV rfl rfl rfl (OpV.indexS Tryz.tOk _ rfl rfl rfl rfl (by omega)) ?_ | refine RunE.condF rfl rfl ?_ | refine RunE.seq ?_ | refine RunE.region ?_ | refine RunL.nil ?_ | refine RunE.inBlock ?_ | refine RunE.exit rfl ?_)
    exact RunE.weaken (by repeat (first | exact Sub.nil _ | refine Sub.cons rfl ?_)) (next _ X)
 ·obtain rfl : i = ls.length := by omega
  rw [List.take_length]
  clear again
  by_cases h1 : lenD ls ≤ 40
  ·repeat' (first | with_reducible refine RunLN.boolT rfl ?_ | (with_reducible refine RunLN.decT ?_ ?_; focus omega) | (with_reducible refine RunLN.decF ?_ ?_; focus omega) | (with_reducible refine RunLN.chk ?_; refine RunLN.int (by (rfl)) ?_) | refine RunLN.any ?_ | refine RunL.ev Tryz.tOk rfl rfl rfl ?_ | refine RunL.unwantedD rfl rfl ?_ | refine RunL.evV rfl rfl rfl (OpV.lenSl Tryz.tOk rfl rfl hv) ?_ | refine RunE.condF rfl rfl ?_ | refine RunE.seq ?_ | refine RunE.region ?_ | refine RunL.nil ?_ | refine RunE.exit rfl ?_)
   exact RunE.retFn Tryz.func11 (.tmp rfl .nil) ⟨⟨_, rfl, fun _ => ⟨by omega, by omega⟩⟩, X⟩
  by_cases h2 : 4096 < lenD ls
  rotate_left
  ·repeat' (first | with_reducible refine RunLN.boolF rfl ?_ | (with_reducible refine RunLN.decF ?_ ?_; focus omega) | (with_reducible refine RunLN.chk ?_; refine RunLN.int (by (rfl)) ?_) | refine RunLN.any ?_ | refine RunL.ev Tryz.tOk rfl rfl rfl ?_ | refine RunL.unwantedD rfl rfl ?_ | refine RunL.evV rfl rfl rfl (OpV.lenSl Tryz.tOk rfl rfl hv) ?_ | refine RunE.condF rfl rfl ?_ | refine RunE.seq ?_ | refine RunE.region ?_ | refine RunL.nil ?_ | refine RunE.exit rfl ?_)
   exact RunE.retFn Tryz.func11 (.tmp rfl .nil) ⟨⟨_, rfl, fun h => by cases h⟩, X⟩
  by_cases h3 : lenD ls ≤ 4200
  ·repeat' (first | with_reducible refine RunLN.boolT rfl ?_ | with_reducible refine RunLN.boolF rfl ?_ | (with_reducible refine RunLN.decT ?_ ?_; focus omega) | (with_reducible refine RunLN.decF ?_ ?_; focus omega) | (with_reducible refine RunLN.chk ?_; refine RunLN.int (by (rfl)) ?_) | refine RunLN.any ?_ | refine RunL.ev Tryz.tOk rfl rfl rfl ?_ | refine RunL.evV rfl rfl rfl (OpV.lenSl Tryz.tOk rfl rfl hv) ?_ | refine RunE.condF rfl rfl ?_ | refine RunE.seq ?_ | refine RunE.region ?_ | refine RunL.nil ?_ | refine RunE.exit rfl ?_)
   exact RunE.retFn Tryz.func11 (.tmp rfl .nil) ⟨⟨_, rfl, fun _ => ⟨by omega, h3⟩⟩, X⟩
  ·repeat' (first | with_reducible refine RunLN.boolT rfl ?_ | with_reducible refine RunLN.boolF rfl ?_ | (with_reducible refine RunLN.decT ?_ ?_; focus omega) | (with_reducible refine RunLN.decF ?_ ?_; focus omega) | (with_reducible refine RunLN.chk ?_; refine RunLN.int (by (rfl)) ?_) | refine RunLN.any ?_ | refine RunL.ev Tryz.tOk rfl rfl rfl ?_ | refine RunL.evV rfl rfl rfl (OpV.lenSl Tryz.tOk rfl rfl hv) ?_ | refine RunE.condF rfl rfl ?_ | refine RunE.seq ?_ | refine RunE.region ?_ | refine RunL.nil ?_ | refine RunE.exit rfl ?_)
   exact RunE.retFn Tryz.func11 (.tmp rfl .nil) ⟨⟨_, rfl, fun h => by cases h⟩, X⟩
end Go.Sg
end
section
/- Merge: the examples of the chapter (plain). -/
set_option maxRecDepth 4000
namespace Go.Mer
open Go.Rn Go.RowKit Go.Rec Go.Sha Go.Sg Go.NT Go.Dee
/-- Two keys, a log of three deeds, and another second deed. -/
structure ExM (ks : List Int) (a b c o : Deed) (x y : Dg) : Prop where
 ida : idG a = x ∧ idE a = 0
 idb : idG b = y ∧ idE b = 0
 keys : keysD ks = true
 ki : KsI ks
 kl : ks.length = 2
 all : mergeD ks [b, c, a] = [a, b, c]
 some : mergeD ks [b, c] = []
 both : mergeD ks [a, b, c, o] = [a, b]
 liars : liarsL id (leftD ks [a, b, c, o]) = [(c, o)]
 pr : provesB ks c o = true
 sm : provesB ks o o = false
 sa : a.seen = [] ∧ a.data = [97]
 sb : b.seen = [x] ∧ b.data = [98]
 sc : c.seen = [y] ∧ c.data = [99]
 so : o.seen = [] ∧ o.data = [100]
 wa : WfD a
 wb : WfD b
 wc : WfD c
 wo : WfD o
theorem liars_none {l : List Deed} (h : ∀ p : Nat, forkD l (p : Int) = none) : ∀ ps : List Nat, ps.filterMap (liarAt id l) = [] := fun ps => by
 rw [List.filterMap_eq_nil_iff]
 intro p _
 unfold liarAt
 rw [show forkL id l (p : Int) = none from h p]
theorem exM_gen {ks : List Int} {ea sa eb sb ec sc eo so : Int} (hk : keysD ks = true) (ki : KsI ks) (kl : ks.length = 2) :
  ∀ (a b c o : Deed), a = ⟨0, 0, 10, zeroG, [], [97], ea, sa⟩ → b = ⟨1, 0, 11, zeroG, [idD a], [98], eb, sb⟩ → c = ⟨0, 1, 12, idD a, [idD b], [99], ec, sc⟩ → o = ⟨0, 1, 12, idD a, [], [100], eo, so⟩ →
   fineD ks a = true → fineD ks b = true → fineD ks c = true → fineD ks o = true → WfD a → WfD b → WfD c → WfD o → ExM ks a b c o (idD a) (idD b) := by
 intro a b c o ha hb hc ho fa fb fc fo wa wb wc wo
 have na : formedD a = true := (fineD_inv fa).1
 have nb : formedD b = true := (fineD_inv fb).1
 have pa : a.person = 0 ∧ a.no = 0 ∧ a.at_ = 10 ∧ a.prev = zeroG ∧ a.seen = [] := by rw [ha]; exact ⟨rfl, rfl, rfl, rfl, rfl⟩
 have pb : b.person = 1 ∧ b.no = 0 ∧ b.at_ = 11 ∧ b.prev = zeroG ∧ b.seen = [idD a] := by rw [hb]; exact ⟨rfl, rfl, rfl, rfl, rfl⟩
 have pc : c.person = 0 ∧ c.no = 1 ∧ c.at_ = 12 ∧ c.prev = idD a ∧ c.seen = [idD b] := by rw [hc]; exact ⟨rfl, rfl, rfl, rfl, rfl⟩
 have po : o.person = 0 ∧ o.no = 1 ∧ o.at_ = 12 ∧ o.prev = idD a ∧ o.seen = [] := by rw [ho]; exact ⟨rfl, rfl, rfl, rfl, rfl⟩
 have la : a.seen = [] ∧ a.data = [97] := by rw [ha]; exact ⟨rfl, rfl⟩
 have lb : b.seen = [idD a] ∧ b.data = [98] := by rw [hb]; exact ⟨rfl, rfl⟩
 have lc : c.seen = [idD b] ∧ c.data = [99] := by rw [hc]; exact ⟨rfl, rfl⟩
 have lo : o.seen = [] ∧ o.data = [100] := by rw [ho]; exact ⟨rfl, rfl⟩
 clear ha hb hc ho
 obtain ⟨a1, a2, a3, a4, a5⟩ := pa
 obtain ⟨b1, b2, b3, b4, b5⟩ := pb
 obtain ⟨c1, c2, c3, c4, c5⟩ := pc
 obtain ⟨o1, o2, o3, o4, o5⟩ := po
 have s1 : stepD ks [] a = true := by
  refine stepD_of fa ?_ ?_ rfl ?_
  ·rw [a2]; rfl
  ·rw [a4]; rfl
  ·intro x hx; rw [a5] at hx; simp at hx
 have ob : ofD [a] b.person = [] := by unfold ofD; simp [a1, b1]
 have s2 : stepD ks [a] b = true := by
  refine stepD_of fb ?_ ?_ ?_ ?_
  ·unfold nextD; rw [ob, b2]; rfl
  ·unfold lastD; rw [ob, b4]; rfl
  ·unfold afterD; simp [befD, a3, b3]
  ·intro x hx
   have : x = idD a := by rw [b5] at hx; simpa using hx
   subst this
   unfold metD
   simp [a1, b1]
 have oc : ofD [a, b] c.person = [a] := by unfold ofD; simp [a1, b1, c1]
 have s3 : stepD ks [a, b] c = true := by
  refine stepD_of fc ?_ ?_ ?_ ?_
  ·unfold nextD; rw [oc, c2]; rfl
  ·unfold lastD; rw [oc, c4]; rfl
  ·unfold afterD; simp [befD, b3, c3]
  ·intro x hx
   have : x = idD b := by rw [c5] at hx; simpa using hx
   subst this
   unfold metD
   simp [b1, c1]
 have hlog := log_cons3 s1 s2 s3
 have hco : sameF c o = false := by
  unfold sameF; rw [c5, o5]; simp
 have d1 : ∀ p n : Int, atL id [a, b, c, o] p n = (if p = 0 ∧ n = 0 then [a] else if p = 0 ∧ n = 1 then [c, o] else if p = 1 ∧ n = 0 then [b] else []) := fun p n => by
  unfold atL
  have ea : decide ((id a).person = p ∧ (id a).no = n) = decide (p = 0 ∧ n = 0) := by simp only [id, a1, a2, eq_comm]
  have eb : decide ((id b).person = p ∧ (id b).no = n) = decide (p = 1 ∧ n = 0) := by simp only [id, b1, b2, eq_comm]
  have ec : decide ((id c).person = p ∧ (id c).no = n) = decide (p = 0 ∧ n = 1) := by simp only [id, c1, c2, eq_comm]
  have eo : decide ((id o).person = p ∧ (id o).no = n) = decide (p = 0 ∧ n = 1) := by simp only [id, o1, o2, eq_comm]
  rw [List.filter_cons, List.filter_cons, List.filter_cons, List.filter_cons, ea, eb, ec, eo, List.filter_nil]
  by_cases h0 : p = 0
  ·subst h0
   by_cases h1 : n = 0
   ·subst h1; rfl
   ·by_cases h2 : n = 1
    ·subst h2; rfl
    ·simp [h1, h2]
  ·by_cases h3 : p = 1
   ·subst h3
    by_cases h1 : n = 0
    ·subst h1; rfl
    ·simp [h1]
   ·simp [h0, h3]
 have f0 : forkD [a, b, c, o] 0 = some 1 := by
  refine forkD_of (by decide) ?_ ?_
  ·rw [d1]; exact Nat.le_refl 2
  ·intro m hm
   obtain rfl : m = 0 := by omega
   rw [d1]; exact Nat.lt_succ_self 1
 have f1 : ∀ p : Int, p ≠ 0 → forkD [a, b, c, o] p = none := fun p hp => by
  cases e : forkD [a, b, c, o] p with
  | none => rfl
  | some n =>
   have := (forkD_some e).2.1
   rw [d1, if_neg (fun h => hp h.1), if_neg (fun h => hp h.1)] at this
   split at this <;> simp at this
 have hleft : leftD ks [a, b, c, o] = [a, b, c, o] := by
  refine left_self _ ?_ ?_
  ·have q : ∀ x y : Deed, x.at_ ≠ y.at_ → sameF x y = false := fun x y h => by
    unfold sameF
    rw [show (x.at_ == y.at_) = false by simpa using h]; simp
   have qb : sameF a b = false := q _ _ (by rw [a3, b3]; decide)
   have qc : sameF a c = false := q _ _ (by rw [a3, c3]; decide)
   have qo : sameF a o = false := q _ _ (by rw [a3, o3]; decide)
   have qbc : sameF b c = false := q _ _ (by rw [b3, c3]; decide)
   have qbo : sameF b o = false := q _ _ (by rw [b3, o3]; decide)
   simp [qb, qc, qo, qbc, qbo, hco]
  ·intro y hy
   simp only [List.mem_cons, List.not_mem_nil, or_false] at hy
   rcases hy with rfl | rfl | rfl | rfl
   ·exact fa
   ·exact fb
   ·exact fc
   ·exact fo
 have htaken : takenD [a, b, c, o] = [a, b] := by
  have k : ∀ y : Deed, keptL id [a, b, c, o] y = if y.person = 0 then decide (y.no < 1) else true := fun y => by
   unfold keptL
   simp only [id]
   by_cases h : y.person = 0
   ·rw [h, show forkL id [a, b, c, o] 0 = some 1 from f0, if_pos rfl]; rfl
   ·rw [show forkL id [a, b, c, o] y.person = none from f1 _ h, if_neg h]
  unfold takenD takenL
  simp only [List.filter_cons, List.filter_nil, k, a1, a2, b1, c1, c2, o1, o2]
  simp
 have hall : ∀ y, y ∈ [b, c, a] ↔ y ∈ pickD [true, true, true] [a, b, c] := fun y => by
  show y ∈ [b, c, a] ↔ y ∈ [a, b, c]
  simp only [List.mem_cons, List.not_mem_nil, or_false]
  constructor
  ·rintro (h | h | h) <;> simp [h]
  ·rintro (h | h | h) <;> simp [h]
 have hsome : ∀ y, y ∈ [b, c] ↔ y ∈ pickD [false, true, true] [a, b, c] := fun y => Iff.rfl
 have sb0 : stepD ks [] b = false := by
  have : b.seen.all (metD [] b.person) = false := by rw [b5]; rfl
  unfold stepD
  rw [this]; simp
 have sc0 : stepD ks [] c = false := by
  have : (c.no == nextD [] c.person) = false := by rw [c2]; rfl
  unfold stepD
  rw [this]; simp
 refine ⟨⟨idG_of na, ?_⟩, ⟨idG_of nb, ?_⟩, hk, ki, kl, ?_, ?_, ?_, ?_, ?_, ?_, la, lb, lc, lo, wa, wb, wc, wo⟩
 ·unfold idE; rw [na]; rfl
 ·unfold idE; rw [nb]; rfl
 ·unfold mergeD
  rw [(truth_sort hlog hall).2]
  exact pass_self _ hlog
 ·unfold mergeD
  rw [(truth_sort hlog hsome).2]
  show passL id ks [b, c] = []
  unfold passL
  simp only [List.foldl_cons, List.foldl_nil, List.map_nil, id, sb0, sc0, Bool.false_eq_true, if_false]
 ·unfold mergeD
  rw [hleft, htaken]
  have h2 : logD ks [a, b] = true := logD_take hlog 2
  rw [← sort_uniq (s := [a, b]) (l := [a, b]) (log_apart _ h2) (List.Perm.refl _) ((log_sorted _ h2).imp fun h => by rw [befD_asymm h]; decide)]
  exact pass_self _ h2
 ·rw [hleft]
  unfold liarsL
  rw [show (64 : Nat) = 63 + 1 from rfl, List.range_succ_eq_map, List.filterMap_cons]
  have l0 : liarAt id [a, b, c, o] 0 = some (c, o) := by
   unfold liarAt
   rw [show forkL id [a, b, c, o] ((0 : Nat) : Int) = some 1 from f0]
   simp only
   rw [show ((1 : Nat) : Int) = 1 from rfl, show ((0 : Nat) : Int) = 0 from rfl, d1]
   rfl
  rw [l0]
  simp only
  congr 1
  rw [List.filterMap_eq_nil_iff]
  intro p hp
  obtain ⟨q, -, rfl⟩ := List.mem_map.1 hp
  unfold liarAt
  rw [show forkL id [a, b, c, o] ((Nat.succ q : Nat) : Int) = none from f1 _ (by omega)]
 ·unfold provesB
  rw [hk, fc, fo, hco, c1, o1, c2, o2]; rfl
 ·unfold provesB
  have : sameF o o = true := sameF_iff.2 ⟨rfl, rfl, rfl, rfl, rfl, rfl⟩
  rw [this]; simp
def ksM : List Int := [powC 4 5, powC 4 6]
theorem key2 (x y : Int) : Dee.keyOf [x, y] 0 = x ∧ Dee.keyOf [x, y] 1 = y := ⟨rfl, rfl⟩
theorem ksM_ok : keysD ksM = true ∧ KsI ksM := by
 have h5 := powC_valid v4 5
 have h6 := powC_valid v4 6
 have b5 := validS_bd h5
 have b6 := validS_bd h6
 unfold ksM
 generalize powC 4 5 = k5 at *
 generalize powC 4 6 = k6 at *
 constructor
 ·unfold keysD
  simp [h5, h6]
 ·intro k hk
  simp only [List.mem_cons, List.not_mem_nil, or_false] at hk
  omega
def aM : Deed := askD 0 0 10 zeroG [] [97]
def bM (g : Dg) : Deed := askD 1 0 11 zeroG [g] [98]
def cM (g h : Dg) : Deed := askD 0 1 12 g [h] [99]
def oM (g : Dg) : Deed := askD 0 1 12 g [] [100]
theorem aM_f : formedD aM = true := by decide
theorem bM_f (g : Dg) : formedD (bM g) = true := rfl
theorem cM_f (g h : Dg) : formedD (cM g h) = true := rfl
theorem oM_f (g : Dg) : formedD (oM g) = true := rfl
theorem exM_ok : ExM ksM (makeD 5 aM) (makeD 6 (bM (idD (makeD 5 aM)))) (makeD 5 (cM (idD (makeD 5 aM)) (idD (makeD 6 (bM (idD (makeD 5 aM))))))) (makeD 5 (oM (idD (makeD 5 aM)))) (idD (makeD 5 aM)) (idD (makeD 6 (bM (idD (makeD 5 aM))))) := by
 obtain ⟨hk, hi⟩ := ksM_ok
 have ea : makeE 5 aM = 0 := makeE_ok (by decide) aM_f
 have eb : ∀ g, makeE 6 (bM g) = 0 := fun g => makeE_ok (by decide) (bM_f g)
 have ec : ∀ g h, makeE 5 (cM g h) = 0 := fun g h => makeE_ok (by decide) (cM_f g h)
 have eo : ∀ g, makeE 5 (oM g) = 0 := fun g => makeE_ok (by decide) (oM_f g)
 have ha := (make_good ea).2.2
 have hb := fun g => (make_good (eb g)).2.2
 have hc := fun g h => (make_good (ec g h)).2.2
 have ho := fun g => (make_good (eo g)).2.2
 have w0 : ∀ (p n t : Int) (g : Dg) (s : List Dg) (d : List UInt8), i64 p → i64 n → i64 t → WfD (askD p n t g s d) := fun p n t g s d h1 h2 h3 => ⟨h1, h2, h3, ⟨by show (_ : Int) ≤ 0; decide, by show (0 : Int) < _; decide⟩, ⟨by show (_ : Int) ≤ 0; decide, by show (0 : Int) < _; decide⟩⟩
 have wa : WfD aM := w0 _ _ _ _ _ _ ⟨by decide, by decide⟩ ⟨by decide, by decide⟩ ⟨by decide, by decide⟩
 have wb : ∀ g, WfD (bM g) := fun g => w0 _ _ _ _ _ _ ⟨by decide, by decide⟩ ⟨by decide, by decide⟩ ⟨by decide, by decide⟩
 have wc : ∀ g h, WfD (cM g h) := fun g h => w0 _ _ _ _ _ _ ⟨by decide, by decide⟩ ⟨by decide, by decide⟩ ⟨by decide, by decide⟩
 have wo : ∀ g, WfD (oM g) := fun g => w0 _ _ _ _ _ _ ⟨by decide, by decide⟩ ⟨by decide, by decide⟩ ⟨by decide, by decide⟩
 have fa : fineD ksM (makeD 5 aM) = true := make_fine ea (by show (0 : Int) < 2; decide) (key2 _ _).1
 have fb : ∀ g, fineD ksM (makeD 6 (bM g)) = true := fun g => make_fine (eb g) (by show (1 : Int) < 2; decide) (key2 _ _).2
 have fc : ∀ g h, fineD ksM (makeD 5 (cM g h)) = true := fun g h => make_fine (ec g h) (by show (0 : Int) < 2; decide) (key2 _ _).1
 have fo : ∀ g, fineD ksM (makeD 5 (oM g)) = true := fun g => make_fine (eo g) (by show (0 : Int) < 2; decide) (key2 _ _).1
 exact exM_gen hk hi rfl _ _ _ _ ha (hb _) (hc _ _) (ho _) fa (fb _) (fc _ _) (fo _) (wf_make wa) (wf_make (wb _)) (wf_make (wc _ _)) (wf_make (wo _))
theorem proves_none : provesB [] zeroD zeroD = false := by
 unfold provesB
 rw [fine_far (by show ¬ ((0 : Int) < 0); decide)]
 simp
end Go.Mer
end
section
/- Merge: for the laws, plain: maps of forks, parts of a log, liars side by side. -/
set_option maxRecDepth 4000
namespace Go.Mer
open Go.Rn Go.RowKit Go.Rec Go.Sha Go.Sg Go.NT Go.Dee
/-! ### A map filled from a list -/
def mapF {α : Type} (key : α → Int) (val : α → Value) (ps : List α) : List (Int × Value) := ps.foldl (fun m x => setM (key x) (val x) m) []
theorem mapF_snoc {α : Type} (key : α → Int) (val : α → Value) (ps : List α) (x : α) : mapF key val (ps ++ [x]) = setM (key x) (val x) (mapF key val ps) := by
 unfold mapF; rw [List.foldl_append]; rfl
theorem mapF_go {α : Type} (key : α → Int) (val : α → Value) (p : Int) : ∀ (ps : List α) (m : List (Int × Value)),
  (∃ x ∈ ps, key x = p ∧ getM p (ps.foldl (fun m x => setM (key x) (val x) m) m) = some (val x)) ∨ ((∀ x ∈ ps, key x ≠ p) ∧ getM p (ps.foldl (fun m x => setM (key x) (val x) m) m) = getM p m)
 | [], m => .inr ⟨by simp, rfl⟩
 | x :: ps, m => by
  rw [List.foldl_cons]
  rcases mapF_go key val p ps (setM (key x) (val x) m) with ⟨y, hy, h1, h2⟩ | ⟨h1, h2⟩
  ·exact .inl ⟨y, List.mem_cons_of_mem _ hy, h1, h2⟩
  ·rw [getM_set] at h2
   by_cases e : p = key x
   ·rw [if_pos e] at h2
    exact .inl ⟨x, List.mem_cons_self, e.symm, h2⟩
   ·rw [if_neg e] at h2
    refine .inr ⟨fun y hy => ?_, h2⟩
    rcases List.mem_cons.1 hy with rfl | hy
    ·exact fun h => e h.symm
    ·exact h1 y hy
theorem mapF_get {α : Type} (key : α → Int) (val : α → Value) (p : Int) (ps : List α) : (∃ x ∈ ps, key x = p ∧ getM p (mapF key val ps) = some (val x)) ∨ ((∀ x ∈ ps, key x ≠ p) ∧ getM p (mapF key val ps) = none) :=
 mapF_go key val p ps []
theorem fork_bd {ks : List Int} {L : List Deed} {p : Int} {n : Nat} (h : forkD (leftD ks L) p = some n) : 0 ≤ p ∧ p < 64 := by
 obtain ⟨a, b, r, hr⟩ := fork_two h
 have h1 := at_mem.1 (show a ∈ atL id (leftD ks L) p (n : Int) by rw [hr]; simp)
 obtain ⟨⟨p0, p1, -⟩, -⟩ := formedD_inv (fineD_inv (left_mem L a h1.1).2).1
 rw [h1.2.1] at p0 p1
 exact ⟨p0, p1⟩
/-- At which number a person has forked. -/
theorem forks_at {ks : List Int} {L : List Deed} {fs : List Fr} (h : fs.map pairD = liarsL id (leftD ks L)) (p : Int) : getM p (mapF (fun x : Fr => x.a.d.person) (fun x => .int .i64 x.a.d.no) fs) = (forkD (leftD ks L) p).map fun n => Value.int .i64 (n : Int) := by
 have hl := left_lft ks L
 rcases mapF_get (fun x : Fr => x.a.d.person) (fun x => .int .i64 x.a.d.no) p fs with ⟨x, hx, h1, h2⟩ | ⟨h1, h2⟩
 ·have hm : (x.a.d, x.b.d) ∈ liarsL id (leftD ks L) := by rw [← h]; exact List.mem_map.2 ⟨x, hx, rfl⟩
  obtain ⟨-, -, -, -, n, hn, e⟩ := liar_is hl hm
  simp only at h1 hn e
  rw [h2, ← h1, hn, e]; rfl
 ·rw [h2]
  cases hf : forkD (leftD ks L) p with
  | none => rfl
  | some n =>
   obtain ⟨p0, p1⟩ := fork_bd hf
   obtain ⟨y, hy, e⟩ := liar_of p0 p1 hf
   rw [← h] at hy
   obtain ⟨x, hx, rfl⟩ := List.mem_map.1 hy
   exact absurd e (h1 x hx)
/-- Who is named. -/
theorem named_at {ks : List Int} {L : List Deed} {fs : List Fr} (h : fs.map pairD = liarsL id (leftD ks L)) {a b : Deed} (ha : a ∈ L) (hb : b ∈ L) (hp : provesB ks a b = true) : getM a.person (mapF (fun x : Fr => x.a.d.person) (fun _ => .bool true) fs) = some (.bool true) := by
 unfold provesB at hp
 simp only [Bool.and_eq_true, Bool.not_eq_true', beq_iff_eq] at hp
 obtain ⟨-, ⟨⟨fa, fb⟩, e1, e2⟩, hs⟩ := hp
 obtain ⟨y, hy, e⟩ := named_of ha hb fa fb ⟨e1, e2⟩ hs
 rw [← h] at hy
 obtain ⟨x, hx, rfl⟩ := List.mem_map.1 hy
 rcases mapF_get (fun x : Fr => x.a.d.person) (fun _ => .bool true) a.person fs with ⟨z, hz, h1, h2⟩ | ⟨h1, h2⟩
 ·exact h2
 ·exact absurd e (h1 x hx)
/-- A liar's deeds are proof. -/
theorem liar_proof {ks : List Int} {L : List Deed} {fs : List Fr} (hk : keysD ks = true) (h : fs.map pairD = liarsL id (leftD ks L)) {x : Fr} (hx : x ∈ fs) : provesB ks x.a.d x.b.d = true := by
 have hm : (x.a.d, x.b.d) ∈ liarsL id (leftD ks L) := by rw [← h]; exact List.mem_map.2 ⟨x, hx, rfl⟩
 obtain ⟨h1, h2, ⟨h3, h4⟩, h5, -⟩ := liar_is (left_lft ks L) hm
 simp only at h1 h2 h3 h4 h5
 unfold provesB
 rw [hk, (left_mem L _ h1).2, (left_mem L _ h2).2, h3, h4, h5]
 simp
theorem liar_less {ks : List Int} {L : List Deed} {fs : List Fr} (h : fs.map pairD = liarsL id (leftD ks L)) {i j : Nat} {x y : Fr} (hij : i < j) (hx : fs[i]? = some x) (hy : fs[j]? = some y) : x.a.d.person < y.a.d.person := by
 have ho := liar_ord (left_lft ks L)
 rw [← h, List.pairwise_map, List.pairwise_iff_getElem] at ho
 obtain ⟨hi, rfl⟩ := List.getElem?_eq_some_iff.1 hx
 obtain ⟨hj, rfl⟩ := List.getElem?_eq_some_iff.1 hy
 exact ho i j hi hj hij
/-! ### Parts of one log -/
def TruI (l : List Dr) (bs : List Bool) (ps : List Dr) : Prop := bs.length = l.length ∧ ∀ y, y ∈ ps ↔ ∃ i : Nat, bs[i]? = some true ∧ l[i]? = some y
theorem TruI.init (l : List Dr) : TruI l (List.replicate l.length false) [] := ⟨by simp, fun y => by
 simp only [List.not_mem_nil, false_iff]
 rintro ⟨i, h, -⟩
 rw [List.getElem?_replicate] at h
 split at h <;> simp at h⟩
theorem TruI.snoc {l : List Dr} {bs : List Bool} {ps : List Dr} {i : Nat} {x : Dr} (h : TruI l bs ps) (hx : l[i]? = some x) : TruI l (bs.set i true) (ps ++ [x]) := by
 obtain ⟨h1, h2⟩ := h
 refine ⟨by rw [List.length_set]; exact h1, fun y => ?_⟩
 have hi := (List.getElem?_eq_some_iff.1 hx).1
 rw [List.mem_append, List.mem_singleton, h2]
 constructor
 ·rintro (⟨j, hj, hy⟩ | rfl)
  ·refine ⟨j, ?_, hy⟩
   rw [List.getElem?_set]
   split
   ·rw [if_pos (by omega)]
   ·exact hj
  ·exact ⟨i, by rw [List.getElem?_set, if_pos rfl, if_pos (by omega)], hx⟩
 ·rintro ⟨j, hj, hy⟩
  by_cases e : i = j
  ·subst e
   rw [hx] at hy
   cases hy
   exact .inr rfl
  ·rw [List.getElem?_set, if_neg e] at hj
   exact .inl ⟨j, hj, hy⟩
def pickR (bs : List Bool) (l : List Dr) : List Dr := ((bs.zip l).filter (·.1)).map (·.2)
theorem pickR_map : ∀ (bs : List Bool) (l : List Dr), (pickR bs l).map Dr.d = pickD bs (l.map Dr.d)
 | [], l => by simp [pickR, pickD]
 | b :: bs, [] => by simp [pickR, pickD]
 | b :: bs, x :: l => by
  have ih := pickR_map bs l
  unfold pickR at ih ⊢
  rw [List.zip_cons_cons, List.filter_cons, List.map_cons, pickD]
  cases b with
  | true => simpa using ih
  | false => simpa using ih
theorem pickR_take {bs : List Bool} {l : List Dr} {i : Nat} {b : Bool} {x : Dr} (hb : bs[i]? = some b) (hx : l[i]? = some x) : pickR (bs.take (i + 1)) (l.take (i + 1)) = if b then pickR (bs.take i) (l.take i) ++ [x] else pickR (bs.take i) (l.take i) := by
 have h1 := (List.getElem?_eq_some_iff.1 hb).1
 have h2 := (List.getElem?_eq_some_iff.1 hx).1
 unfold pickR
 rw [List.take_add_one, List.take_add_one, hb, hx, List.zip_append (by rw [List.length_take, List.length_take]; omega), List.filter_append, List.map_append]
 cases b <;> simp
theorem pickR_sub : ∀ (bs : List Bool) (l : List Dr), (pickR bs l).Sublist l
 | [], l => by simp [pickR]
 | b :: bs, [] => by simp [pickR]
 | b :: bs, x :: l => by
  have ih := pickR_sub bs l
  unfold pickR at ih ⊢
  rw [List.zip_cons_cons, List.filter_cons]
  cases b with
  | true => simpa using ih
  | false => exact List.Sublist.cons x (by simpa using ih)
theorem pickR_all : ∀ (bs : List Bool) (l : List Dr), bs.length = l.length → bs.all id = true → pickR bs l = l
 | [], [], _, _ => rfl
 | [], _ :: _, h, _ => by simp at h
 | _ :: _, [], h, _ => by simp at h
 | b :: bs, x :: l, h, ha => by
  simp only [List.all_cons, Bool.and_eq_true, id] at ha
  have ih := pickR_all bs l (by simpa using h) ha.2
  unfold pickR at ih ⊢
  rw [List.zip_cons_cons, List.filter_cons, ha.1]
  simpa using ih
theorem TruI.pick {l : List Dr} {bs : List Bool} {ps : List Dr} (h : TruI l bs ps) (y : Deed) : y ∈ ps.map Dr.d ↔ y ∈ pickD bs (l.map Dr.d) := by
 rw [pick_mem, List.mem_map]
 constructor
 ·rintro ⟨x, hx, rfl⟩
  obtain ⟨i, h1, h2⟩ := (h.2 x).1 hx
  exact ⟨i, h1, by rw [List.getElem?_map, h2]; rfl⟩
 ·rintro ⟨i, h1, h2⟩
  rw [List.getElem?_map, Option.map_eq_some_iff] at h2
  obtain ⟨x, h2, rfl⟩ := h2
  exact ⟨x, (h.2 x).2 ⟨i, h1, h2⟩, rfl⟩
/-- What rests on what is left of a log. -/
theorem want_rests {ks : List Int} {l P : List Dr} (h : logD ks (l.map Dr.d) = true) {i : Nat} {x : Dr} (hx : l[i]? = some x) (hP : ∀ y ∈ P, y ∈ l.take i) :
  restsD ((passL Dr.d ks P).map Dr.d) x.d = stepD ks ((passL Dr.d ks P).map Dr.d) x.d := by
 have e : l.map Dr.d = (l.take i).map Dr.d ++ x.d :: (l.drop (i + 1)).map Dr.d := by
  obtain ⟨hi, e⟩ := List.getElem?_eq_some_iff.1 hx
  rw [← List.map_cons, ← List.map_append]
  rw [← e, List.getElem_cons_drop, List.take_append_drop]
 have hs := log_sorted _ h
 have ha := log_apart _ h
 have hf := logD_fine h x.d (List.mem_map.2 ⟨x, List.mem_of_getElem? hx, rfl⟩)
 rw [e] at hs ha
 have hm : ∀ y ∈ (passL Dr.d ks P).map Dr.d, y ∈ (l.take i).map Dr.d := fun y hy => by
  obtain ⟨z, hz, rfl⟩ := List.mem_map.1 hy
  exact List.mem_map.2 ⟨z, hP z ((passR_sub ks P).subset hz), rfl⟩
 exact rests_eq (by rw [passL_map]; exact pass_log ks _) hf (fun y hy => (List.pairwise_append.1 hs).2.2 y (hm y hy) x.d List.mem_cons_self) (fun y hy => (List.pairwise_append.1 ha).2.2 y (hm y hy) x.d List.mem_cons_self)
theorem truth_merge {ks : List Int} {l ps : List Dr} {bs : List Bool} (h : logD ks (l.map Dr.d) = true) (ht : TruI l bs ps) : (passL Dr.d ks (pickR bs l)).map Dr.d = mergeD ks (ps.map Dr.d) ∧ liarsL id (leftD ks (ps.map Dr.d)) = [] := by
 obtain ⟨h1, h2⟩ := truth_sort h ht.pick
 refine ⟨?_, ?_⟩
 ·unfold mergeD
  rw [h2, passL_map, pickR_map]
 ·unfold liarsL
  exact liars_none (fun p => h1 _) _
theorem truth_all {ks : List Int} {l : List Dr} {bs : List Bool} (h : logD ks (l.map Dr.d) = true) (hl : bs.length = l.length) (ha : bs.all id = true) : (passL Dr.d ks (pickR bs l)).map Dr.d = l.map Dr.d := by
 rw [pickR_all bs l hl ha, passL_map]
 exact pass_self _ h
/-! ### The order of parts -/
theorem strip_len {a b : List Deed} (h : a.map stripD = b.map stripD) : a.length = b.length := by
 have := congrArg List.length h
 simpa using this
theorem strip_at {a b : List Deed} (h : a.map stripD = b.map stripD) {i : Nat} {x y : Deed} (hx : a[i]? = some x) (hy : b[i]? = some y) : sameF x y = true := by
 have := congrArg (·[i]?) h
 simp only [List.getElem?_map, hx, hy, Option.map_some, Option.some.injEq] at this
 exact strip_iff.1 this
theorem merge_twice {ks : List Int} {l : List Deed} : mergeD ks (mergeD ks l) = mergeD ks l := merge_self (merge_log ks l)
/-! ### One more part -/
theorem fm_len {α β γ : Type} (f : α → Option β) (g : α → Option γ) : ∀ l : List α, (∀ p ∈ l, (f p).isSome = true → (g p).isSome = true) → (l.filterMap f).length ≤ (l.filterMap g).length
 | [], _ => by simp
 | p :: l, h => by
  have ih := fm_len f g l fun q hq => h q (List.mem_cons_of_mem _ hq)
  rw [List.filterMap_cons, List.filterMap_cons]
  cases hf : f p with
  | none =>
   cases hg : g p with
   | none => exact ih
   | some y => simp only [List.length_cons]; omega
  | some x =>
   cases hg : g p with
   | none => have := h p List.mem_cons_self (by rw [hf]; rfl); rw [hg] at this; cases this
   | some y => simp only [List.length_cons]; omega
theorem fm_eq {α β γ δ : Type} (f : α → Option β) (g : α → Option γ) (u : β → δ) (v : γ → δ) : ∀ l : List α, (∀ p ∈ l, (f p).isSome = true → (g p).isSome = true) → (∀ p x y, f p = some x → g p = some y → u x = v y) → (l.filterMap f).length = (l.filterMap g).length → (l.filterMap f).map u = (l.filterMap g).map v
 | [], _, _, _ => by simp
 | p :: l, h, hu, hl => by
  have hm := fm_len f g l fun q hq => h q (List.mem_cons_of_mem _ hq)
  have ih := fm_eq f g u v l (fun q hq => h q (List.mem_cons_of_mem _ hq)) hu
  rw [List.filterMap_cons, List.filterMap_cons] at hl ⊢
  cases hf : f p with
  | none =>
   cases hg : g p with
   | none => rw [hf, hg] at hl; exact ih hl
   | some y => rw [hf, hg] at hl; simp only [List.length_cons] at hl; omega
  | some x =>
   cases hg : g p with
   | none => have := h p List.mem_cons_self (by rw [hf]; rfl); rw [hg] at this; cases this
   | some y =>
    rw [hf, hg] at hl
    simp only [List.length_cons, Nat.add_right_cancel_iff] at hl
    simp only [List.map_cons]
    rw [ih hl, hu p x y hf hg]
theorem liarAt_isSome {l : List Deed} {p : Nat} : (liarAt id l p).isSome = (forkD l (p : Int)).isSome := by
 cases h : forkD l (p : Int) with
 | none =>
  unfold liarAt
  rw [show forkL id l (p : Int) = none from h]; rfl
 | some n =>
  obtain ⟨a, b, r, hr⟩ := fork_two h
  unfold liarAt
  rw [show forkL id l (p : Int) = some n from h]
  simp only [hr]; rfl
theorem liarAt_person {l : List Deed} {p : Nat} {x : Deed × Deed} (h : liarAt id l p = some x) : x.1.person = (p : Int) := by
 obtain ⟨n, r, -, hr⟩ := liarAt_some h
 exact (at_mem.1 (show x.1 ∈ _ by rw [hr]; simp)).2.1
structure MoreI (ks : List Int) (L M : List Deed) (c d : List Fr) : Prop where
 sub : ∀ y ∈ L, y ∈ M
 c : c.map pairD = liarsL id (leftD ks L)
 d : d.map pairD = liarsL id (leftD ks M)
theorem more_some {ks : List Int} {L M : List Deed} (h : ∀ y ∈ L, y ∈ M) {p : Int} {n : Nat} (hn : forkD (leftD ks L) p = some n) : ∃ m, forkD (leftD ks M) p = some m ∧ m ≤ n :=
 fork_mono (left_lft ks L) (left_lft ks M) (left_within h) hn
theorem more_is {ks : List Int} {L M : List Deed} (h : ∀ y ∈ L, y ∈ M) : ∀ p ∈ List.range 64, (liarAt id (leftD ks L) p).isSome = true → (liarAt id (leftD ks M) p).isSome = true := fun p _ => by
 rw [liarAt_isSome, liarAt_isSome, Option.isSome_iff_exists, Option.isSome_iff_exists]
 rintro ⟨n, hn⟩
 obtain ⟨m, hm, -⟩ := more_some h hn
 exact ⟨m, hm⟩
theorem MoreI.len {ks : List Int} {L M : List Deed} {c d : List Fr} (h : MoreI ks L M c d) : c.length ≤ d.length := by
 have := fm_len (liarAt id (leftD ks L)) (liarAt id (leftD ks M)) (List.range 64) (more_is h.sub)
 have e1 := congrArg List.length h.c
 have e2 := congrArg List.length h.d
 rw [List.length_map] at e1 e2
 unfold liarsL at e1 e2
 omega
theorem MoreI.person {ks : List Int} {L M : List Deed} {c d : List Fr} (h : MoreI ks L M c d) (hl : c.length = d.length) {i : Nat} {x y : Fr} (hx : c[i]? = some x) (hy : d[i]? = some y) : x.a.d.person = y.a.d.person ∧ y.a.d.no ≤ x.a.d.no := by
 have e1 := congrArg List.length h.c
 have e2 := congrArg List.length h.d
 rw [List.length_map] at e1 e2
 have hp := fm_eq (liarAt id (leftD ks L)) (liarAt id (leftD ks M)) (fun x => x.1.person) (fun x => x.1.person) (List.range 64) (more_is h.sub) (fun p x y hx hy => by rw [liarAt_person hx, liarAt_person hy]) (by unfold liarsL at e1 e2; omega)
 have hp' : (c.map pairD).map (fun x => x.1.person) = (d.map pairD).map (fun x => x.1.person) := by rw [h.c, h.d]; exact hp
 have e := congrArg (·[i]?) hp'
 simp only [List.getElem?_map, hx, hy, Option.map_some, Option.some.injEq] at e
 have e' : x.a.d.person = y.a.d.person := e
 refine ⟨e', ?_⟩
 have mx : pairD x ∈ liarsL id (leftD ks L) := by rw [← h.c]; exact List.mem_map.2 ⟨x, List.mem_of_getElem? hx, rfl⟩
 have my : pairD y ∈ liarsL id (leftD ks M) := by rw [← h.d]; exact List.mem_map.2 ⟨y, List.mem_of_getElem? hy, rfl⟩
 obtain ⟨-, -, -, -, n, hn, en⟩ := liar_is (left_lft ks L) mx
 obtain ⟨-, -, -, -, m, hm, em⟩ := liar_is (left_lft ks M) my
 obtain ⟨m', hm', hle⟩ := more_some h.sub hn
 have hm2 : forkD (leftD ks M) x.a.d.person = some m := by rw [e']; exact hm
 have hm3 : forkD (leftD ks M) x.a.d.person = some m' := hm'
 rw [hm2] at hm3
 cases hm3
 have en' : x.a.d.no = (n : Int) := en
 have em' : y.a.d.no = (m : Int) := em
 omega
theorem MoreI.fin {ks : List Int} {L M : List Deed} {c d : List Fr} (h : MoreI ks L M c d) (hl : c.length = d.length) (hs : ∀ (i : Nat) (x y : Fr), c[i]? = some x → d[i]? = some y → x.a.d.no = y.a.d.no) : ∀ y ∈ mergeD ks L, ∃ z ∈ mergeD ks M, sameF z y = true := by
 refine merge_within h.sub fun p => ?_
 have get : ∀ {N : List Deed} {fs : List Fr} {q : Nat}, fs.map pairD = liarsL id (leftD ks N) → forkD (leftD ks N) p = some q → ∃ (i : Nat) (x : Fr), fs[i]? = some x ∧ x.a.d.person = p ∧ x.a.d.no = (q : Int) := fun {N fs q} hfs hq => by
  obtain ⟨p0, p1⟩ := fork_bd hq
  obtain ⟨y, hy, e⟩ := liar_of p0 p1 hq
  obtain ⟨-, -, -, -, n, hn, en⟩ := liar_is (left_lft ks N) hy
  rw [← hfs] at hy
  obtain ⟨x, hx, rfl⟩ := List.mem_map.1 hy
  obtain ⟨i, hi⟩ := List.mem_iff_getElem?.1 hx
  rw [e, hq] at hn
  cases hn
  exact ⟨i, x, hi, e, en⟩
 cases h1 : forkD (leftD ks L) p with
 | some n =>
  obtain ⟨i, x, hx, ep, en⟩ := get h.c h1
  obtain ⟨y, hy⟩ : ∃ y, d[i]? = some y := ⟨_, List.getElem?_eq_getElem (by have := (List.getElem?_eq_some_iff.1 hx).1; omega)⟩
  obtain ⟨m, hm, hle⟩ := more_some h.sub h1
  have e1 := (h.person hl hx hy).1
  have e2 := hs i x y hx hy
  have my : pairD y ∈ liarsL id (leftD ks M) := by rw [← h.d]; exact List.mem_map.2 ⟨y, List.mem_of_getElem? hy, rfl⟩
  obtain ⟨-, -, -, -, m', hm', em⟩ := liar_is (left_lft ks M) my
  have hm2 : forkD (leftD ks M) p = some m' := by rw [← ep, e1]; exact hm'
  rw [hm2]
  have em' : y.a.d.no = (m' : Int) := em
  congr 1
  omega
 | none =>
  cases h2 : forkD (leftD ks M) p with
  | none => rfl
  | some m =>
   obtain ⟨i, y, hy, ep, en⟩ := get h.d h2
   obtain ⟨x, hx⟩ : ∃ x, c[i]? = some x := ⟨_, List.getElem?_eq_getElem (by have := (List.getElem?_eq_some_iff.1 hy).1; omega)⟩
   have e1 := (h.person hl hx hy).1
   have mx : pairD x ∈ liarsL id (leftD ks L) := by rw [← h.c]; exact List.mem_map.2 ⟨x, List.mem_of_getElem? hx, rfl⟩
   obtain ⟨-, -, -, -, n, hn, -⟩ := liar_is (left_lft ks L) mx
   have hn' : forkD (leftD ks L) p = some n := by rw [← ep, ← e1]; exact hn
   rw [h1] at hn'
   cases hn'
end Go.Mer
end
section
/- Arguments: how long their lists are at most (the reach of the form). -/
set_option maxRecDepth 4000
namespace Go.Rn
open Go.RowKit Go.ChangeShapes Go.WideShapes
section
variable {H : Type} {enc : TypeId × Value → H} {P : Program} {w : World} {held : Bool}
theorem wts_mem {e : TypeId} : ∀ {l : List (DataW H)} {d : DataW H}, d ∈ l → ∀ n ∈ d.weights P e, n ∈ DataW.weightsAll P e l
 | x :: l, d, hd, n, hn => by
  rw [DataW.weightsAll]
  rcases List.mem_cons.1 hd with rfl | hd
  ·exact List.mem_append_left _ hn
  ·exact List.mem_append_right _ (wts_mem hd n hn)
/-- A list that is read: its rows, each read by itself, and its length in bytes. -/
theorem trod_rows {fuel : Nat} {t e : TypeId} {cs : List Value} {x : DataW H × List MemPlace} {B : Nat} (ht : P.underlying t = some (.slice e)) (hpos : 0 < P.cellsOf e) (h : DataW.trod enc P w 0 (fun _ => true) held fuel t cs = some x) (hB : ∀ n ∈ x.1.weights P t, n ≤ B) :
  ∃ f v n, ∃ rows : List (List Value), cs = [v] ∧ n ≤ maxLen ∧ rows.length = n ∧ (∀ r ∈ rows, r.length = P.cellsOf e ∧ ∃ y, DataW.trod enc P w 0 (fun _ => true) held f e r = some y ∧ ∀ n ∈ y.1.weights P e, n ≤ B) ∧ IsSl w (P.cellsOf e) v n rows.flatten ∧ n * P.bytesOf e ≤ B := by
 rcases DataW.trod_slice ht h with ⟨rfl, -⟩ | ⟨a, len, cap, elems, rest, n, hfu, rfl, rfl, -, hlc, hcm, hlen, hel, hsp, -⟩
 ·exact ⟨0, _, 0, [], rfl, by simp [maxLen], rfl, by simp, by simpa using IsSl.nil, by simp⟩
 ·obtain ⟨hrl, hre⟩ := hsp rfl
  have hwt : (DataW.slice (elems.map (·.1)) (rest.map (·.1))).weights P t = ((elems.map (·.1)).length + (rest.map (·.1)).length) * P.bytesOf e :: (DataW.weightsAll P e (elems.map (·.1)) ++ DataW.weightsAll P e (rest.map (·.1))) := by
   rw [DataW.weights, ht]
  rw [hwt] at hB
  have hB0 := hB _ List.mem_cons_self
  rw [List.length_map, List.length_map, hlen] at hB0
  have hBe : ∀ y ∈ elems, ∀ n ∈ y.1.weights P e, n ≤ B := fun y hy n hn => hB n (List.mem_cons_of_mem _ (List.mem_append_left _ (wts_mem (List.mem_map.2 ⟨y, hy, rfl⟩) n hn)))
  have hBr : ∀ y ∈ rest, ∀ n ∈ y.1.weights P e, n ≤ B := fun y hy n hn => hB n (List.mem_cons_of_mem _ (List.mem_append_right _ (wts_mem (List.mem_map.2 ⟨y, hy, rfl⟩) n hn)))
  clear hB hwt
  have all : ∀ i, i < cap → ∃ cs', w.cells? 0 (a.add (i * P.cellsOf e)) (P.cellsOf e) = some cs' ∧ ∃ y, DataW.trod enc P w 0 (fun _ => true) held n e cs' = some y ∧ ∀ m ∈ y.1.weights P e, m ≤ B := by
   intro i hi
   by_cases hil : i < len
   ·have h1 := hel i hil
    rw [List.getElem?_eq_getElem (by omega)] at h1
    obtain ⟨cs', h1, h2⟩ := Option.bind_eq_some_iff.1 h1
    exact ⟨cs', h1, _, h2, hBe _ (List.getElem_mem _)⟩
   ·have h1 := hre (i - len) (by omega)
    rw [show len + (i - len) = i by omega, List.getElem?_eq_getElem (by omega)] at h1
    obtain ⟨cs', h1, h2⟩ := Option.bind_eq_some_iff.1 h1
    exact ⟨cs', h1, _, h2, hBr _ (List.getElem_mem _)⟩
  obtain ⟨F, hF⟩ := Deep.choose_lt (α := List Value) (p := fun i cs' => w.cells? 0 (a.add (i * P.cellsOf e)) (P.cellsOf e) = some cs' ∧ ∃ y, DataW.trod enc P w 0 (fun _ => true) held n e cs' = some y ∧ ∀ m ∈ y.1.weights P e, m ≤ B) all
  have hlenF : ∀ i, i < cap → (F i).length = P.cellsOf e := fun i hi => (World.cells?_some (hF i hi).1).2.1
  refine ⟨n, _, len, (List.range len).map F, rfl, by omega, by simp, ?_, ?_, Nat.le_trans (Nat.mul_le_mul_right _ (Nat.le_add_right _ _)) hB0⟩
  ·intro r hr
   obtain ⟨i, hi, rfl⟩ := List.mem_map.1 hr
   have hi' : i < cap := by have := List.mem_range.1 hi; omega
   exact ⟨hlenF i hi', (hF i hi').2⟩
  ·by_cases h0 : cap = 0
   ·subst h0
    obtain rfl : len = 0 := by omega
    simpa using IsSl.nil
   ·have hsp : a.spot = none := by
     have h1 := (World.cells?_some (hF 0 (by omega)).1).2.2 0 hpos
     rw [Nat.zero_mul] at h1
     have e0 : (a.add 0).add 0 = a := by simp [Addr.add]
     rw [e0] at h1
     have hl := hlenF 0 (by omega)
     rw [List.getElem?_eq_getElem (by omega)] at h1
     unfold World.cell? at h1
     split at h1
     ·split at h1
      ·simp at h1
      ·rename_i hs; simpa using hs
     ·simp at h1
    obtain ⟨ab, ao, asp⟩ := a
    simp only at hsp; subst hsp
    have hrl : ∀ r ∈ (List.range len).map F, r.length = P.cellsOf e := by
     intro r hr
     obtain ⟨i, hi, rfl⟩ := List.mem_map.1 hr
     exact hlenF i (by have := List.mem_range.1 hi; omega)
    refine .row ?_ (by rw [flatten_length _ hrl]; simp) hlc
    intro q v hv
    have hq : q < len * P.cellsOf e := by
     rcases Nat.lt_or_ge q (len * P.cellsOf e) with h | h
     ·exact h
     ·rw [List.getElem?_eq_none (by rw [flatten_length _ hrl]; simpa using h)] at hv; simp at hv
    have hqi : q / P.cellsOf e < len := Nat.div_lt_of_lt_mul (by rw [Nat.mul_comm]; exact hq)
    have hqj : q % P.cellsOf e < P.cellsOf e := Nat.mod_lt _ hpos
    have hqe : q / P.cellsOf e * P.cellsOf e + q % P.cellsOf e = q := by rw [Nat.mul_comm]; exact Nat.div_add_mod q _
    rw [← hqe, flatten_get _ hrl _ _ hqj] at hv
    simp only [List.getElem?_map, List.getElem?_range hqi, Option.map_some, Option.bind_some] at hv
    have h1 := (World.cells?_some (hF _ (by omega : q / P.cellsOf e < cap)).1).2.2 _ hqj
    rw [hv] at h1
    rw [add_none, add_none] at h1
    rw [← hqe, ← Nat.add_assoc]; exact h1
/-- The reach of one argument. -/
theorem reach_at {ts : List TypeId} {ds gs : List (DataW H)} {vs : List TypeId} {j : Nat} {t : TypeId} {d : DataW H} (h : (DataW.weightsEach P (ts ++ vs) (ds ++ gs)).all (· ≤ reachBytes) = true) (hl : ts.length = ds.length) (ht : ts[j]? = some t) (hd : ds[j]? = some d) : ∀ n ∈ d.weights P t, n ≤ 140737488351232 := fun n hn => by
 have h1 : (ts ++ vs)[j]? = some t := by rw [List.getElem?_append_left (List.getElem?_eq_some_iff.1 ht).1]; exact ht
 have h2 : (ds ++ gs)[j]? = some d := by rw [List.getElem?_append_left (List.getElem?_eq_some_iff.1 hd).1]; exact hd
 have := List.all_eq_true.1 h n (DataW.weights_mem_each h1 h2 n hn)
 exact of_decide_eq_true this
end
end Go.Rn
end
section
/- Merge: for the laws: has, right; parts and forks as arguments. -/
set_option maxRecDepth 4000
namespace Go.Sg
open Go.Rn Go.Proofs Go.Dee Go.Mer Go.Rec Go.RowKit Go.Sha Go.Cod Go.NT
attribute [local irreducible] keysD fineD thereL chkM mergeD liarsL Go.Rn.RetsX Go.Rn.RunLN Go.Rn.AsyN Go.Rn.RunL Go.Rn.RunE Go.Rn.Asy Go.Rn.OpV Go.Rn.OpE Go.Rn.ExecE
set_option maxHeartbeats 2000000 in
theorem lhas_ok (l : List Dr) (v : Value) (d : Dr) (w : World) (hv : LDr w v l) (hl : l.length < 9223372036854775808) (hw : ∀ x ∈ l, WfX w x) (hd : WfX w d) :
  Rets Tryz.prog 23 [v, .agg d.cells.toArray] w fun r w' => r = .bool (thereL Dr.d l d.d) ∧ Ext w w' := by
 unfold thereL
 refine RetsX.of (nt := 17) Tryz.func23 (by kernel_rfl) rfl rfl (by simp) (by simp only [argEnv]; rfl) ?_
 have X := ExtB.refl (fun _ => False) w
 repeat' (first | refine RunE.seq ?_ | refine RunE.region ?_)
 refine RunL.box rfl rfl rfl fun B3 w3_ a_ => ?_
 have Z3 : Blk w3_ B3 (d.cells) 38 := a_.at_
 have gB3 := a_.ge X
 replace X := X.trans a_.ext
 clear a_
 repeat' (first | with_reducible refine RunLN.boolF rfl ?_ | (with_reducible refine RunLN.chk ?_; refine RunLN.int (by (rfl)) ?_) | refine RunLN.any ?_ | refine RunL.ev Tryz.tOk rfl rfl rfl ?_ | refine RunL.evV rfl rfl rfl (OpV.lenSl Tryz.tOk rfl rfl hv) ?_ | refine RunE.seq ?_ | refine RunE.region ?_ | refine RunL.nil ?_ | refine RunE.block ?_)
 refine RunE.loop (ι := Nat) (fun s => [(3, .pointer (some ⟨B3, 0, none⟩)), (7, v), (8, .int .i64 (l.length : Int)), (9, .int .i64 (s : Int))])
  (fun s w' => s ≤ l.length ∧ (l.any fun y => sameF y.d d.d) = ((l.drop s).any fun y => sameF y.d d.d) ∧ Ext w w' ∧ Blk w' B3 d.cells 38) (fun s => l.length - s) 0 (by repeat (first | exact Sub.nil _ | refine Sub.cons rfl ?_)) ⟨Nat.zero_le _, rfl, X, Z3⟩ ?_
 clear X Z3
 rintro i w3 ⟨hi, heq, Xb, Z3⟩ again
 by_cases hlt : i < l.length
 ·obtain ⟨x, hx⟩ : ∃ x, l[i]? = some x := ⟨_, List.getElem?_eq_getElem hlt⟩
  have hdr : l.drop i = x :: l.drop (i + 1) := by
   obtain ⟨hi, e⟩ := List.getElem?_eq_some_iff.1 hx
   rw [List.drop_eq_getElem_cons hi, e]
  rw [hdr, List.any_cons] at heq
  obtain ⟨b1, o1, c1, rfl, hr1, -⟩ := isL_held hv hlt
  have hrx := flat_row encR (hr1.up Xb) hx
  have hwx := (hw x (List.mem_of_getElem? hx)).up Xb
  have hwd := hd.up Xb
  have cS := fun w' (e : Ext w3 w') => rsameF_ok x.d d.d x.u x.v d.u d.v w' (hwx.2.2.2.up e).seen (hwx.2.2.2.up e).data (hwd.2.2.2.up e).seen (hwd.2.2.2.up e).data hwx.2.1 hwd.2.1
  have X := ExtB.refl (fun _ => False) w3
  repeat' (first | (with_reducible refine RunLN.decT ?_ ?_; focus omega) | refine RunLN.any ?_ | refine RunL.ev Tryz.tOk rfl rfl rfl ?_ | refine RunL.evV rfl rfl rfl (OpV.loadN Tryz.tOk rfl rfl rfl rfl (hrx.up X)) ?_ | refine RunL.evV rfl rfl rfl (OpV.indexS Tryz.tOk _ rfl rfl rfl rfl (by omega)) ?_ | refine RunE.condT rfl rfl ?_ | refine RunE.seq ?_ | refine RunE.region ?_ | refine RunL.nil ?_ | refine RunE.block ?_ | refine RunE.skip ?_)
  refine RunL.alloc Tryz.tOk rfl rfl rfl fun B6 wa_ aa_ => ?_
  have gB6 := aa_.ge X
  refine RunL.storeW (vs := x.cells) Tryz.tOk rfl rfl rfl rfl rfl aa_.at_ rfl rfl fun w6_ tb_ => ?_
  have Xa_ : Ext _ w6_ := aa_.ext.write tb_.ext (by intro i_ hi_ hlt_; have := aa_.eq; omega)
  have Z6 : Blk w6_ B6 (x.cells) 38 := tb_.at_
  have n3_6 : B3 ≠ B6 := by have := Z3.lt; have := aa_.eq; omega
  have n6_3 : B6 ≠ B3 := Ne.symm n3_6
  replace Z3 := Z3.up Xa_
  replace X := X.trans Xa_
  clear Xa_ aa_ tb_
  cases hxy : sameF x.d d.d with
  | true =>
   rw [hxy] at cS
   rw [hxy, Bool.true_or] at heq
   repeat' (first | refine RunLN.any ?_ | refine RunL.evV rfl rfl rfl (OpV.loadN Tryz.tOk rfl rfl rfl rfl (Blk.row Z3)) ?_ | refine RunL.evV rfl rfl rfl (OpV.loadN Tryz.tOk rfl rfl rfl rfl (Blk.row Z6)) ?_ | refine RunE.seq ?_ | refine RunE.region ?_ | refine RunL.nil ?_)
   refine RunL.call rfl rfl rfl (cS _ X) ?_
   rintro _ _ ⟨rfl, Xa_⟩
   replace X := X.trans Xa_
   clear Xa_
   repeat' (first | with_reducible refine RunLN.boolT rfl ?_ | refine RunL.ev Tryz.tOk rfl rfl rfl ?_ | refine RunE.condT rfl rfl ?_ | refine RunE.seq ?_ | refine RunE.region ?_ | refine RunL.nil ?_)
   exact RunE.retFn Tryz.func23 (.tmp rfl .nil) ⟨by rw [heq]; rfl, Xb.trans X⟩
  | false =>
   rw [hxy] at cS
   rw [hxy, Bool.false_or] at heq
   repeat' (first | refine RunLN.any ?_ | refine RunL.evV rfl rfl rfl (OpV.loadN Tryz.tOk rfl rfl rfl rfl (Blk.row Z3)) ?_ | refine RunL.evV rfl rfl rfl (OpV.loadN Tryz.tOk rfl rfl rfl rfl (Blk.row Z6)) ?_ | refine RunE.seq ?_ | refine RunE.region ?_ | refine RunL.nil ?_)
   refine RunL.call rfl rfl rfl (cS _ X) ?_
   rintro _ _ ⟨rfl, Xa_⟩
   replace Z3 := Z3.up Xa_
   replace X := X.trans Xa_
   clear Xa_
   repeat' (first | (with_reducible refine RunLN.chk ?_; refine RunLN.int (by (first | (refine wr_i64 ?_ ?_; omega; omega) | rfl)) ?_) | refine RunL.ev Tryz.tOk rfl rfl rfl ?_ | refine RunE.condF rfl rfl ?_ | refine RunE.region ?_ | refine RunL.nil ?_ | refine RunE.inBlock ?_ | refine RunE.skip ?_)
   exact RunE.weaken (by repeat (first | exact Sub.nil _ | refine Sub.cons rfl ?_)) (again (i + 1) _ (by omega) ⟨by omega, heq, Xb.trans X, Z3⟩)
 ·obtain rfl : i = l.length := by omega
  rw [List.drop_length, List.any_nil] at heq
  clear again
  have X := Xb
  repeat' (first | with_reducible refine RunLN.boolF rfl ?_ | (with_reducible refine RunLN.decF ?_ ?_; focus omega) | refine RunL.ev Tryz.tOk rfl rfl rfl ?_ | refine RunE.condF rfl rfl ?_ | refine RunE.seq ?_ | refine RunE.region ?_ | refine RunL.nil ?_ | refine RunE.exit rfl ?_)
  exact RunE.retFn Tryz.func23 (.tmp rfl .nil) ⟨by rw [heq]; rfl, X⟩
set_option maxHeartbeats 4000000 in
theorem lright_ok (ks : List Int) (kv : Value) (ls : List Ll) (lv : Value) (w : World) (hk : LIn w kv ks) (hkl : ks.length < 9223372036854775808) (hv : LLl w lv ls) (hl : ls.length < 9223372036854775808)
  (hp : ∀ x ∈ ls, LDr w x.v x.l) (hd : ∀ x ∈ allD ls, WfX w x) (hn : ls.length ≤ 70 → lenD ls < 9223372036854775808) :
  Rets Tryz.prog 21 [kv, lv] w fun r w' => (∃ b, r = .bool b ∧ (b = true → lenD ls ≤ 40 ∧ ls.length ≤ 70 ∧ chkM ks ls = 0)) ∧ Ext w w' := by
 have cF := fun w' (e : Ext w w') => rFew_ok ks kv ls lv w' (hk.up e) hkl (hv.up e) hl (fun x hx => (hp x hx).up e) (fun x hx => (hd x hx).up e) hn
 by_cases h70 : ls.length ≤ 70
 ·replace hn := hn h70
  have cE := fun w' (e : Ext w w') => rError_ok ks kv ls lv w' (hk.up e) hkl (hv.up e) hl hn
  refine RetsX.of (nt := 32) Tryz.func21 (by kernel_rfl) rfl rfl (by simp) (by simp only [argEnv]; rfl) ?_
  have X := ExtB.refl (fun _ => False) w
  repeat' (first | with_reducible refine RunLN.boolF rfl ?_ | (with_reducible refine RunLN.chk ?_; refine RunLN.int (by (rfl)) ?_) | refine RunLN.any ?_ | refine RunL.ev Tryz.tOk rfl rfl rfl ?_ | refine RunL.evV rfl rfl rfl (OpV.lenSl Tryz.tOk rfl rfl hv) ?_ | refine RunE.seq ?_ | refine RunE.region ?_ | refine RunL.nil ?_ | refine RunE.block ?_)
  refine RunE.loop (ι := Nat) (fun s => [(0, kv), (1, lv), (5, .int .i64 (lenD (ls.take s) : Int)), (8, lv), (9, .int .i64 (ls.length : Int)), (10, .int .i64 (s : Int))])
   (fun s w' => s ≤ ls.length ∧ Ext w w') (fun s => ls.length - s) 0 (by repeat (first | exact Sub.nil _ | refine Sub.cons rfl ?_)) ⟨Nat.zero_le _, X⟩ ?_
  clear X
  rintro i w3 ⟨hi, X⟩ again
  by_cases hlt : i < ls.length
  ·obtain ⟨b1, o1, cc, rfl, hr1, -⟩ := isL_held hv hlt
   obtain ⟨x, hx⟩ : ∃ x, ls[i]? = some x := ⟨_, List.getElem?_eq_getElem hlt⟩
   have hrx := flat_row encLl hr1 hx
   have e2 := lenD_take hx
   have e3 := lenD_le ls (i + 1)
   have next := fun w' a => again (i + 1) w' (by omega) ⟨by omega, a⟩
   rw [e2, Int.natCast_add] at next
   clear again
   generalize lenD (ls.take i) = m at *
   repeat' (first | (with_reducible refine RunLN.decT ?_ ?_; focus omega) | (with_reducible refine RunLN.chk ?_; refine RunLN.int (by (first | (refine wr_i64 ?_ ?_; omega; omega) | rfl)) ?_) | refine RunLN.any ?_ | refine RunL.ev Tryz.tOk rfl rfl rfl ?_ | refine RunL.evV rfl rfl rfl (OpV.load1 Tryz.tOk rfl rfl rfl ((hrx.up X) 0 _ rfl)) ?_ | refine RunL.evV rfl rfl rfl (OpV.indexS Tryz.tOk _ rfl rfl rfl rfl (by omega)) ?_ | refine RunE.condT rfl rfl ?_ | refine RunE.seq ?_ | refine RunE.region ?_ | refine RunL.nil ?_ | refine RunE.block ?_ | refine RunE.inBlock ?_ | refine RunE.skip ?_)
   exact RunE.weaken (by repeat (first | exact Sub.nil _ | refine Sub.cons rfl ?_)) (next _ X)
  obtain rfl : i = ls.length := by omega
  rw [List.take_length]
  clear again
  by_cases h1 : lenD ls ≤ 40
  rotate_left
  ·repeat' (first | with_reducible refine RunLN.boolF rfl ?_ | (with_reducible refine RunLN.decF ?_ ?_; focus omega) | (with_reducible refine RunLN.chk ?_; refine RunLN.int (by (rfl)) ?_) | refine RunL.ev Tryz.tOk rfl rfl rfl ?_ | refine RunL.unwantedD rfl rfl ?_ | refine RunE.condF rfl rfl ?_ | refine RunE.seq ?_ | refine RunE.region ?_ | refine RunL.nil ?_ | refine RunE.exit rfl ?_)
   exact RunE.retFn Tryz.func21 (.tmp rfl .nil) ⟨⟨_, rfl, fun h => by cases h⟩, X⟩
  repeat' (first | with_reducible refine RunLN.boolT rfl ?_ | (with_reducible refine RunLN.decT ?_ ?_; focus omega) | (with_reducible refine RunLN.decF ?_ ?_; focus omega) | (with_reducible refine RunLN.chk ?_; refine RunLN.int (by (rfl)) ?_) | refine RunLN.any ?_ | refine RunL.ev Tryz.tOk rfl rfl rfl ?_ | refine RunE.condF rfl rfl ?_ | refine RunE.seq ?_ | refine RunE.region ?_ | refine RunL.nil ?_ | refine RunE.exit rfl ?_)
  refine RunL.call rfl rfl rfl (cF _ X) ?_
  rintro _ w4 ⟨⟨b, rfl, -⟩, Xa_⟩
  replace X := X.trans Xa_
  clear Xa_
  cases b with
  | false =>
   repeat' (first | with_reducible refine RunLN.boolF rfl ?_ | refine RunL.ev Tryz.tOk rfl rfl rfl ?_ | refine RunL.unwantedD rfl rfl ?_ | refine RunL.nil ?_)
   exact RunE.retFn Tryz.func21 (.tmp rfl .nil) ⟨⟨_, rfl, fun h => by cases h⟩, X⟩
  | true =>
  repeat' (first | with_reducible refine RunLN.boolT rfl ?_ | refine RunLN.any ?_ | refine RunL.ev Tryz.tOk rfl rfl rfl ?_)
  refine RunL.call rfl rfl rfl (cE _ X) ?_
  rintro _ w5 ⟨rfl, Xa_⟩
  replace X := X.trans Xa_
  clear Xa_
  by_cases hc : chkM ks ls = 0
  ·rw [hc]
   repeat' (first | with_reducible refine RunLN.boolT rfl ?_ | refine RunL.ev Tryz.tOk rfl rfl rfl ?_ | refine RunL.nil ?_)
   exact RunE.retFn Tryz.func21 (.tmp rfl .nil) ⟨⟨_, rfl, fun _ => ⟨h1, h70, rfl⟩⟩, X⟩
  ·generalize chkM ks ls = ce at hc
   repeat' (first | with_reducible refine RunLN.boolF rfl ?_ | (with_reducible refine RunLN.eqF ?_ ?_; focus omega) | refine RunL.ev Tryz.tOk rfl rfl rfl ?_ | refine RunL.nil ?_)
   exact RunE.retFn Tryz.func21 (.tmp rfl .nil) ⟨⟨_, rfl, fun h => by cases h⟩, X⟩
 ·refine RetsX.of (nt := 32) Tryz.func21 (by kernel_rfl) rfl rfl (by simp) (by simp only [argEnv]; rfl) ?_
  have X := ExtB.refl (fun _ => False) w
  repeat' (first | with_reducible refine RunLN.boolF rfl ?_ | (with_reducible refine RunLN.chk ?_; refine RunLN.int (by (rfl)) ?_) | refine RunLN.any ?_ | refine RunL.ev Tryz.tOk rfl rfl rfl ?_ | refine RunL.evV rfl rfl rfl (OpV.lenSl Tryz.tOk rfl rfl hv) ?_ | refine RunE.seq ?_ | refine RunE.region ?_ | refine RunL.nil ?_ | refine RunE.block ?_)
  refine RunE.loop (ι := Nat × Int) (fun s => [(0, kv), (1, lv), (5, .int .i64 s.2), (8, lv), (9, .int .i64 (ls.length : Int)), (10, .int .i64 (s.1 : Int))])
   (fun s w' => s.1 ≤ ls.length ∧ Ext w w') (fun s => ls.length - s.1) (0, 0) (by repeat (first | exact Sub.nil _ | refine Sub.cons rfl ?_)) ⟨Nat.zero_le _, X⟩ ?_
  clear X
  rintro ⟨i, n⟩ w3 ⟨hi, X⟩ again
  simp only at hi again ⊢
  by_cases hlt : i < ls.length
  ·obtain ⟨b1, o1, cc, rfl, hr1, -⟩ := isL_held hv hlt
   obtain ⟨x, hx⟩ : ∃ x, ls[i]? = some x := ⟨_, List.getElem?_eq_getElem hlt⟩
   have hrx := flat_row encLl hr1 hx
   repeat' (first | (with_reducible refine RunLN.decT ?_ ?_; focus omega) | (with_reducible refine RunLN.chk ?_; refine RunLN.int (by (first | (refine wr_i64 ?_ ?_; omega; omega) | rfl)) ?_) | refine RunLN.any ?_ | refine RunL.ev Tryz.tOk rfl rfl rfl ?_ | refine RunL.evV rfl rfl rfl (OpV.load1 Tryz.tOk rfl rfl rfl ((hrx.up X) 0 _ rfl)) ?_ | refine RunL.evV rfl rfl rfl (OpV.indexS Tryz.tOk _ rfl rfl rfl rfl (by omega)) ?_ | refine RunE.condT rfl rfl ?_ | refine RunE.seq ?_ | refine RunE.region ?_ | refine RunL.nil ?_ | refine RunE.block ?_ | refine RunE.inBlock ?_ | refine RunE.skip ?_)
   exact RunE.weaken (by repeat (first | exact Sub.nil _ | refine Sub.cons rfl ?_)) (again (i + 1, _) _ (by simp only; omega) ⟨by simp only; omega, X⟩)
  clear again hi
  by_cases h1 : n ≤ 40
  rotate_left
  ·repeat' (first | with_reducible refine RunLN.boolF rfl ?_ | (with_reducible refine RunLN.decF ?_ ?_; focus omega) | (with_reducible refine RunLN.chk ?_; refine RunLN.int (by (rfl)) ?_) | refine RunL.ev Tryz.tOk rfl rfl rfl ?_ | refine RunL.unwantedD rfl rfl ?_ | refine RunE.condF rfl rfl ?_ | refine RunE.seq ?_ | refine RunE.region ?_ | refine RunL.nil ?_ | refine RunE.exit rfl ?_)
   exact RunE.retFn Tryz.func21 (.tmp rfl .nil) ⟨⟨_, rfl, fun h => by cases h⟩, X⟩
  repeat' (first | with_reducible refine RunLN.boolT rfl ?_ | (with_reducible refine RunLN.decT ?_ ?_; focus omega) | (with_reducible refine RunLN.decF ?_ ?_; focus omega) | (with_reducible refine RunLN.chk ?_; refine RunLN.int (by (rfl)) ?_) | refine RunLN.any ?_ | refine RunL.ev Tryz.tOk rfl rfl rfl ?_ | refine RunE.condF rfl rfl ?_ | refine RunE.seq ?_ | refine RunE.region ?_ | refine RunL.nil ?_ | refine RunE.exit rfl ?_)
  refine RunL.call rfl rfl rfl (cF _ X) ?_
  rintro _ w4 ⟨⟨b, rfl, hb⟩, Xa_⟩
  replace X := X.trans Xa_
  clear Xa_
  cases b with
  | true => exact absurd (hb rfl).1 h70
  | false =>
   repeat' (first | with_reducible refine RunLN.boolF rfl ?_ | refine RunL.ev Tryz.tOk rfl rfl rfl ?_ | refine RunL.unwantedD rfl rfl ?_ | refine RunL.nil ?_)
   exact RunE.retFn Tryz.func21 (.tmp rfl .nil) ⟨⟨_, rfl, fun h => by cases h⟩, X⟩
end Go.Sg
namespace Go.Sg
open Go.Rn Go.Proofs Go.Dee Go.Mer Go.Rec Go.RowKit Go.WideShapes Go.ChangeShapes Go.Sha
/-- Parts that come in. -/
structure InL (w : World) (v : Value) (ls : List Ll) : Prop where
 at_ : LLl w v ls
 part : ∀ x ∈ ls, LDr w x.v x.l
 wf : ∀ x ∈ allD ls, WfX w x
 len : ls.length * 24 ≤ 140737488351232
 each : ∀ x ∈ ls, x.l.length * 120 ≤ 140737488351232
theorem small_of {ls : List Ll} (h : ∀ x ∈ ls, x.l.length * 120 ≤ 140737488351232) (h70 : ls.length ≤ 70) : lenD ls < 9223372036854775808 := by
 have key : ∀ l : List Ll, (∀ x ∈ l, x.l.length * 120 ≤ 140737488351232) → lenD l * 120 ≤ l.length * 140737488351232 := by
  intro l
  induction l with
  | nil => intro _; simp [lenD]
  | cons x l ih =>
   intro hx
   have h1 := ih fun y hy => hx y (List.mem_cons_of_mem _ hy)
   have h2 := hx x List.mem_cons_self
   have e : lenD (x :: l) = x.l.length + lenD l := by unfold lenD; simp
   rw [e, List.length_cons, Nat.add_mul, Nat.add_mul]
   omega
 have := key ls h
 omega
theorem InL.small {w : World} {v : Value} {ls : List Ll} (h : InL w v ls) (h70 : ls.length ≤ 70) : lenD ls < 9223372036854775808 := small_of h.each h70
theorem InL.few {w : World} {v : Value} {ls : List Ll} (h : InL w v ls) : ls.length < 9223372036854775808 := by have := h.len; omega
section
variable {H : Type} {enc : TypeId × Value → H} {w : World}
theorem deeds_row {fuel : Nat} {cs : List Value} {held : Bool} {y : DataW H × List MemPlace} (h : DataW.trod enc Tryz.prog w 0 (fun _ => true) held fuel 26 cs = some y) (hB : ∀ n ∈ y.1.weights Tryz.prog 26, n ≤ 140737488351232) :
  ∃ x : Ll, cs = x.cells ∧ LDr w x.v x.l ∧ (∀ d ∈ x.l, WfX w d) ∧ x.l.length * 120 ≤ 140737488351232 := by
 have hc : Tryz.prog.cellsOf 38 = 39 := by kernel_rfl
 have hb : Tryz.prog.bytesOf 38 = 120 := by kernel_rfl
 obtain ⟨f, v, n, rows, rfl, hm, hr, hrs, hsl, hbt⟩ := trod_rows (Tryz.underlying26) (by rw [hc]; decide) h hB
 rw [hc] at hrs hsl
 rw [hb] at hbt
 obtain ⟨l, hl, hw⟩ : ∃ l : List Dr, rows = l.map Dr.cells ∧ ∀ x ∈ l, WfX w x := by
  clear hr hsl h
  induction rows with
  | nil => exact ⟨[], rfl, by simp⟩
  | cons r rs ih =>
   obtain ⟨l, rfl, h2⟩ := ih fun r hr => hrs r (List.mem_cons_of_mem _ hr)
   obtain ⟨y, hy, -⟩ := (hrs r List.mem_cons_self).2
   obtain ⟨x, rfl, hx⟩ := deed_row _ _ (shp_of_trod _ _ _ _ hy)
   exact ⟨x :: l, rfl, fun z hz => by
    rcases List.mem_cons.1 hz with rfl | hz
    ·exact hx
    ·exact h2 z hz⟩
 subst hl
 have hlm : l.length = n := by simpa using hr
 subst hlm
 have hsl' : LDr w v l := hsl
 obtain ⟨d, c, rfl⟩ := isSl_slice hsl'
 exact ⟨⟨l, d, c⟩, rfl, hsl', hw, hbt⟩
theorem part_open {v : Value} {d : DataW H} {ps : List MemPlace} {held : Bool} {r : Reach} {b0 : Nat} (hB : ∀ n ∈ d.weights Tryz.prog 26, n ≤ 140737488351232) (hval : Value.okWide Tryz.prog w r b0 26 v)
  (h : DataW.Trod enc Tryz.prog w 0 (fun _ => true) held 26 v d ps) : ∃ x : Ll, v = x.v ∧ LDr w x.v x.l ∧ (∀ d ∈ x.l, WfX w d) ∧ x.l.length * 120 ≤ 140737488351232 := by
 obtain ⟨a, n, c, rfl⟩ := okWide_sl (Tryz.underlying26) hval
 obtain ⟨fuel, hf⟩ := h
 obtain ⟨x, e, h1⟩ := deeds_row hf hB
 exact ⟨x, by simpa [Value.cells] using e, h1⟩
theorem parts_open {v : Value} {d : DataW H} {ps : List MemPlace} {held : Bool} {r : Reach} {b0 : Nat} (hB : ∀ n ∈ d.weights Tryz.prog 23, n ≤ 140737488351232) (hval : Value.okWide Tryz.prog w r b0 23 v)
  (h : DataW.Trod enc Tryz.prog w 0 (fun _ => true) held 23 v d ps) : ∃ ls : List Ll, InL w v ls := by
 obtain ⟨a, n, c, rfl⟩ := okWide_sl (Tryz.underlying23) hval
 obtain ⟨fuel, hf⟩ := h
 have hc : Tryz.prog.cellsOf 26 = 1 := by kernel_rfl
 have hb : Tryz.prog.bytesOf 26 = 24 := by kernel_rfl
 obtain ⟨f, u, m, rows, hv, hm, hr, hrs, hsl, hbt⟩ := trod_rows (Tryz.underlying23) (by rw [hc]; decide) hf hB
 have hu : u = .slice a n c := by simpa [Value.cells] using hv.symm
 subst hu
 rw [hc] at hrs hsl
 rw [hb] at hbt
 obtain ⟨l, hl, hw⟩ : ∃ l : List Ll, rows = l.map Ll.cells ∧ ∀ x ∈ l, LDr w x.v x.l ∧ (∀ d ∈ x.l, WfX w d) ∧ x.l.length * 120 ≤ 140737488351232 := by
  clear hr hsl hf
  induction rows with
  | nil => exact ⟨[], rfl, by simp⟩
  | cons r rs ih =>
   obtain ⟨l, rfl, h2⟩ := ih fun r hr => hrs r (List.mem_cons_of_mem _ hr)
   obtain ⟨y, hy, hyB⟩ := (hrs r List.mem_cons_self).2
   obtain ⟨x, rfl, hx⟩ := deeds_row hy hyB
   exact ⟨x :: l, rfl, fun z hz => by
    rcases List.mem_cons.1 hz with rfl | hz
    ·exact hx
    ·exact h2 z hz⟩
 subst hl
 have hlm : l.length = m := by simpa using hr
 subst hlm
 exact ⟨l, hsl, fun x hx => (hw x hx).1, fun y hy => by
  obtain ⟨x, hx, hy⟩ := List.mem_flatMap.1 hy
  exact (hw x hx).2.1 y hy, hbt, fun x hx => (hw x hx).2.2⟩
end
end Go.Sg
end
section
/- Merge: what is made keeps its lists. -/
set_option maxRecDepth 4000
namespace Go.Sg
open Go.Rn Go.Proofs Go.Dee Go.Rec Go.RowKit Go.Sha Go.Cod Go.NT
attribute [local irreducible] Go.Rn.RetsX Go.Rn.RunLN Go.Rn.AsyN Go.Rn.RunL Go.Rn.RunE Go.Rn.Asy Go.Rn.OpV Go.Rn.OpE Go.Rn.ExecE
set_option maxRecDepth 8000 in
set_option maxHeartbeats 4000000 in
theorem dMake_go (x person no at_ : Int) (prev : Dg) (seen : List Dg) (data : List UInt8) (du : Option Addr) (cu : Nat) (dv : Option Addr) (cv : Nat) (w : World) (hx : -9223372036854775808 ≤ x ∧ x < 9223372036854775808) (h0 : makeE x (askD person no at_ prev seen data) = 0) (hs : LDg w (.slice du seen.length cu) seen) (hb : LBy w (.slice dv data.length cv) data) (hl : seen.length < 9223372036854775808) (hl' : data.length < 9223372036854775808) (hS : Row w 0 0 (vals init8.l)) (hkT : Row w 1 0 (vals kTab)) :
  Rets Tryz.prog 59 [.int .i64 x, .int .i64 person, .int .i64 no, .int .i64 at_, .agg (digC prev).toArray, .slice du seen.length cu, .slice dv data.length cv] w fun r w' => r = .tuple #[.agg (dCells (makeD x (askD person no at_ prev seen data)) (.slice du seen.length cu) (.slice dv data.length cv)).toArray, .int .i64 0] ∧ Ext w w' := by
 have c1 := fun w h1 h2 => dformed_ok (askD person no at_ prev seen data) (.slice du seen.length cu) (.slice dv data.length cv) w h1 h2 hl hl'
 obtain ⟨hq, hf, -⟩ := make_good h0
 have hq' : 1 ≤ x ∧ x < 1073741789 := of_decide_eq_true hq
 rw [hf] at c1
 have h1 : makeD x (askD person no at_ prev seen data) = ⟨person, no, at_, prev, seen, data, sigE x (textD (askD person no at_ prev seen data)), sigS x (textD (askD person no at_ prev seen data))⟩ := by unfold makeD; rw [h0]; rfl
 have hr : sigR x = 0 := by unfold sigR; rw [hq]; rfl
 rw [h1]
 have c2 := fun w h1 h2 => dtext_ok (askD person no at_ prev seen data) (.slice du seen.length cu) (.slice dv data.length cv) w h1 h2 hf
 have c3 := fun r w h => sign_ok x r (textD (askD person no at_ prev seen data)) w hx h (Nat.le_trans (text_len hf) (by decide))
 rw [hr] at c3
 clear h0 h1 hr
 generalize hE : sigE x (textD (askD person no at_ prev seen data)) = E at c3 ⊢
 generalize hS' : sigS x (textD (askD person no at_ prev seen data)) = S at c3 ⊢
 clear hE hS'
 refine RetsX.of (nt := 48) Tryz.func59 (by kernel_rfl) rfl rfl (by simp) (by simp only [argEnv]; rfl) ?_
 have X := ExtB.refl (fun _ => False) w
 repeat' (first | refine RunE.seq ?_ | refine RunE.region ?_)
 refine RunL.box rfl rfl rfl fun B11 w11_ a_ => ?_
 have Z11 : Blk w11_ B11 (digC prev) 32 := a_.at_
 have gB11 := a_.ge X
 replace X := X.trans a_.ext
 clear a_
 skip
 refine RunL.alloc Tryz.tOk rfl rfl rfl fun B14 w14_ a_ => ?_
 have Z14 : Blk w14_ B14 (dCells zeroD nilV nilV) 38 := a_.at_
 have gB14 := a_.ge X
 have n11_14 : B11 ≠ B14 := by have := Z11.lt; have := a_.eq; omega
 have n14_11 : B14 ≠ B11 := Ne.symm n11_14
 replace Z11 := Z11.up a_.ext
 replace X := X.trans a_.ext
 clear a_
 repeat' (first | with_reducible refine RunLN.boolF rfl ?_ | (with_reducible refine RunLN.decF ?_ ?_; focus omega) | (with_reducible refine RunLN.chk ?_; refine RunLN.int (by (rfl)) ?_) | refine RunLN.any ?_ | refine RunL.ev Tryz.tOk rfl rfl ((build_deed (sn := seen) (dt := data) rfl rfl rfl rfl rfl rfl)) ?_ | refine RunL.ev Tryz.tOk rfl rfl rfl ?_ | refine RunL.evV rfl rfl rfl (OpV.loadN Tryz.tOk rfl rfl rfl rfl (Blk.row Z11)) ?_ | refine RunE.condF rfl rfl ?_ | refine RunE.seq ?_ | refine RunE.region ?_ | refine RunL.nil ?_ | refine RunE.skip ?_)
 refine RunL.alloc Tryz.tOk rfl rfl rfl fun B16 wa_ aa_ => ?_
 have gB16 := aa_.ge X
 refine RunL.storeW (vs := dCells (askD person no at_ prev seen data) (.slice du seen.length cu) (.slice dv data.length cv)) Tryz.tOk rfl rfl rfl rfl rfl aa_.at_ rfl rfl fun w16_ tb_ => ?_
 have Xa_ : Ext _ w16_ := aa_.ext.write tb_.ext (by intro i_ hi_ hlt_; have := aa_.eq; omega)
 have Z16 : Blk w16_ B16 (dCells (askD person no at_ prev seen data) (.slice du seen.length cu) (.slice dv data.length cv)) 38 := tb_.at_
 have n14_16 : B14 ≠ B16 := by have := Z14.lt; have := aa_.eq; omega
 have n16_14 : B16 ≠ B14 := Ne.symm n14_16
 replace Z14 := Z14.up Xa_
 replace X := X.trans Xa_
 clear Xa_ aa_ tb_
 clear Z11
 repeat' (first | refine RunLN.any ?_ | refine RunL.evV rfl rfl rfl (OpV.loadN Tryz.tOk rfl rfl rfl rfl (Blk.row Z16)) ?_ | refine RunE.seq ?_ | refine RunE.region ?_ | refine RunL.nil ?_)
 refine RunL.call rfl rfl rfl (c1 _ (hs.up X) (hb.up X)) ?_
 rintro _ _ ⟨rfl, Xa_⟩
 replace Z14 := Z14.up Xa_
 replace Z16 := Z16.up Xa_
 replace X := X.trans Xa_
 clear Xa_
 repeat' (first | with_reducible refine RunLN.boolF rfl ?_ | (with_reducible refine RunLN.chk ?_; refine RunLN.int (by (rfl)) ?_) | refine RunLN.any ?_ | refine RunL.ev Tryz.tOk rfl rfl rfl ?_ | refine RunL.evV rfl rfl rfl (OpV.loadN Tryz.tOk rfl rfl rfl rfl (Blk.row Z16)) ?_ | refine RunE.condF rfl rfl ?_ | refine RunE.seq ?_ | refine RunE.region ?_ | refine RunL.nil ?_ | refine RunE.skip ?_)
 refine RunL.call rfl rfl rfl (c2 _ (hs.up X) (hb.up X)) ?_
 rintro r w5 ⟨O5, Xa_⟩
 have O6 : LBy w5 r (textD (askD person no at_ prev seen data)) := isSl_own O5
 clear O5
 replace Z14 := Z14.up Xa_
 replace Z16 := Z16.up Xa_
 replace X := X.trans Xa_
 clear Xa_
 skip
 refine RunL.call rfl rfl rfl (c3 r _ O6 (hS.up X) (hkT.up X)) ?_
 rintro _ _ ⟨rfl, Xa_⟩
 replace Z14 := Z14.up Xa_
 replace Z16 := Z16.up Xa_
 replace X := X.trans Xa_
 clear Xa_
 clear O6
 repeat' (first | (with_reducible refine RunLN.chk ?_; refine RunLN.int (by (rfl)) ?_) | refine RunLN.any ?_ | refine RunL.ev Tryz.tOk rfl rfl rfl ?_)
 refine RunL.store Tryz.tOk rfl rfl rfl rfl rfl Z16 rfl rfl fun w_ t_ => ?_
 replace X := X.own t_.ext gB16
 replace Z14 := Z14.other t_.ext n14_16
 replace Z16 : Blk w_ B16 (dCells ⟨person, no, at_, prev, seen, data, E, S⟩ (.slice du seen.length cu) (.slice dv data.length cv)) 38 := t_.at_
 clear t_
 repeat' (first | with_reducible refine RunLN.boolF rfl ?_ | (with_reducible refine RunLN.chk ?_; refine RunLN.int (by (rfl)) ?_) | refine RunLN.any ?_ | refine RunL.ev Tryz.tOk rfl rfl rfl ?_ | refine RunL.evV rfl rfl rfl (OpV.loadN Tryz.tOk rfl rfl rfl rfl (Blk.row Z16)) ?_ | refine RunE.condF rfl rfl ?_ | refine RunE.seq ?_ | refine RunE.region ?_ | refine RunL.nil ?_ | refine RunE.skip ?_)
 refine RunL.storeW (vs := dCells ⟨person, no, at_, prev, seen, data, E, S⟩ (.slice du seen.length cu) (.slice dv data.length cv)) Tryz.tOk rfl rfl rfl rfl rfl Z14 rfl rfl fun w_ t_ => ?_
 replace X := X.own t_.ext gB14
 replace Z14 : Blk w_ B14 (dCells ⟨person, no, at_, prev, seen, data, E, S⟩ (.slice du seen.length cu) (.slice dv data.length cv)) 38 := t_.at_
 clear t_
 repeat' (first | (with_reducible refine RunLN.chk ?_; refine RunLN.int (by (rfl)) ?_) | refine RunL.ev Tryz.tOk rfl rfl rfl ?_ | refine RunL.nil ?_)
 exact RunE.retFn Tryz.func59 (.cell rfl (.agg Tryz.tOk rfl rfl rfl Z14.row) (.tmp rfl .nil)) ⟨rfl, X⟩
end Go.Sg
end
section
/- []byte("..") of a constant. -/
set_option maxRecDepth 4000
namespace Go.Rn
variable {P : Program} {w : World} {env : Env} {dst : Option Tmp} {ty : TypeId} {pos : String} {after : Array Edge} {guard : Option (Nat × Bool)}
theorem row_cells {b : Nat} {cs : List Value} {t : TypeId} {fz : Nat × Nat} (h : w.heap[b]? = some (.cells cs.toArray t fz)) : Row w b 0 cs := fun i v hv => by
 simp [World.cell?, h, hv]
theorem OpE.bytesC {T : Tab} (hT : T.Ok P) {t e : TypeId} {ag : Bool} {s bb s2 bb2 : Nat} {z z2 : List Value} {a u a2 u2 : Bool} {x : Operand} {B n c : Nat} {cs : List Value} {bt : TypeId}
  (ht : T.get t = some ⟨.slc 1 ag e, s, bb, z, a, u⟩) (he : T.get e = some ⟨.int .u8, s2, bb2, z2, a2, u2⟩) (hx : evO env x = some (.slice (some ⟨B, 0, none⟩) n c)) (hb : Blk w B cs bt) :
  OpE P env w ⟨dst, .convert t t x, ty, pos, after, guard⟩ (fun v w' => v = .slice (some ⟨B, 0, none⟩) n c ∧ Turned w w' B (.cells cs.toArray bt (cs.length, cs.length + 1))) fun _ _ => False := by
 obtain ⟨hu, -⟩ := TD.of_slc (TI.tdof (hT.get _ _ ht)).symm
 have hue := TD.of_int (TI.tdof (hT.get _ _ he)).symm
 refine .of_run (w' := World.setObj w B (.cells cs.toArray bt (cs.length, cs.length + 1))) (v := .slice (some ⟨B, 0, none⟩) n c) ⟨rfl, turned_set w hb.lt _⟩ fun ρ hρ => ⟨_, by simp only [execOp, hρ _ _ hx] <;> rfl, ?_⟩
 have hsh : w.shape? B = some (bt, cs.length) := by
  unfold World.shape?
  rw [show w.heap[B]? = some (.cells cs.toArray bt (0, 0)) from hb]; simp
 have hfr : w.freeze ⟨B, cs.length, none⟩ 1 = World.setObj w B (.cells cs.toArray bt (cs.length, cs.length + 1)) := by
  unfold World.freeze World.setObj
  rw [if_neg (by decide)]
  have hm : ∀ (f : Obj → Obj) (y : Obj), f (.cells cs.toArray bt (0, 0)) = y → w.heap.modify B f = w.heap.setIfInBounds B y := by
   intro f y hy
   have hB := hb.lt
   have hg : w.heap[B] = .cells cs.toArray bt (0, 0) := by
    have : w.heap[B]? = some _ := hb
    rw [Array.getElem?_eq_getElem hB] at this; injection this
   apply Array.ext
   ·simp
   ·intro i h1 h2
    simp only [Array.getElem_modify, Array.getElem_setIfInBounds]
    by_cases h : B = i
    ·subst h; simp [hg, hy]
    ·simp only [h, if_false]
     rw [Array.getElem_setIfInBounds_ne _ h]
  rw [hm _ _ (by rfl)]
  rfl
 simp [convert, run_underlying hu, run_underlying hue, markStringish, hsh]
 exact hfr
end Go.Rn
end
section
/- Merge: the examples: small. -/
set_option maxRecDepth 4000
namespace Go.Sg
open Go.Rn Go.Proofs Go.Dee Go.Mer Go.Rec Go.RowKit Go.Sha Go.Cod Go.NT
attribute [local irreducible] Go.Rn.RetsX Go.Rn.RunLN Go.Rn.AsyN Go.Rn.RunL Go.Rn.RunE Go.Rn.Asy Go.Rn.OpV Go.Rn.OpE Go.Rn.ExecE
theorem dMake_as {x p n t : Int} {prev : Dg} {seen : List Dg} {data : List UInt8} {d : Deed} (hd : makeD x (askD p n t prev seen data) = d) (he : makeE x (askD p n t prev seen data) = 0) (hsd : d.seen = seen ∧ d.data = data) (du : Option Addr) (cu : Nat) (dv : Option Addr) (cv : Nat) (w : World) (hx : -9223372036854775808 ≤ x ∧ x < 9223372036854775808) (hs : LDg w (.slice du seen.length cu) seen) (hb : LBy w (.slice dv data.length cv) data) (hl : seen.length < 9223372036854775808) (hl' : data.length < 9223372036854775808) (hS : Row w 0 0 (vals init8.l)) (hkT : Row w 1 0 (vals kTab)) :
  Rets Tryz.prog 59 [.int .i64 x, .int .i64 p, .int .i64 n, .int .i64 t, .agg (digC prev).toArray, .slice du seen.length cu, .slice dv data.length cv] w fun r w' => r = .tuple #[.agg (Dr.cells ⟨d, du, cu, dv, cv⟩).toArray, .int .i64 0] ∧ Ext w w' := by
 have h := dMake_go x p n t prev seen data du cu dv cv w hx he hs hb hl hl' hS hkT
 rw [hd] at h
 have e : Dr.cells ⟨d, du, cu, dv, cv⟩ = dCells d (.slice du seen.length cu) (.slice dv data.length cv) := by
  show dCells d (.slice du d.seen.length cu) (.slice dv d.data.length cv) = _
  rw [hsd.1, hsd.2]
 rw [e]
 exact h
theorem wf_of {w : World} {d : Deed} {seen : List Dg} {data : List UInt8} {du : Option Addr} {cu : Nat} {dv : Option Addr} {cv : Nat} (hw : WfD d) (hsd : d.seen = seen ∧ d.data = data) (hl : seen.length < 9223372036854775808) (hl' : data.length < 9223372036854775808) (hs : LDg w (.slice du seen.length cu) seen) (hb : LBy w (.slice dv data.length cv) data) : WfX w ⟨d, du, cu, dv, cv⟩ := by
 obtain ⟨rfl, rfl⟩ := hsd
 exact ⟨hw, hl, hl', hs, hb⟩
theorem pow4_as {n k : Int} (h : powC 4 n = k) (w : World) : Rets Tryz.prog 58 [.int .i64 4, .int .i64 n] w fun v w' => v = .tuple #[.int .i64 k, .int .i64 0] ∧ Ext w w' := by
 have := pow_ok 4 n w
 rw [h, v4] at this
 exact this
theorem dId_as {D : Dr} {g : Dg} (h : idG D.d = g ∧ idE D.d = 0) (w : World) (hw : WfX w D) (hS : Row w 0 0 (vals init8.l)) (hkT : Row w 1 0 (vals kTab)) : Rets Tryz.prog 39 [.agg D.cells.toArray] w fun r w' => r = .tuple #[.agg (digC g).toArray, .int .i64 0] ∧ Ext w w' := by
 have := dId_ok D.d D.u D.v w hw.2.2.2.seen hw.2.2.2.data hw.2.1 hw.2.2.1 hS hkT
 rw [h.1, h.2] at this
 exact this
attribute [local irreducible] powC makeE makeD idD idG idE fineD stepD chkE
set_option maxRecDepth 8000 in
set_option maxHeartbeats 16000000 in
theorem small_gen (ks : List Int) (a b c o : Deed) (g y : Dg) (k5 k6 : Int) (hks : ks = [k5, k6]) (E : ExM ks a b c o g y) (p5 : powC 4 5 = k5) (p6 : powC 4 6 = k6)
  (ma : makeD 5 (askD 0 0 10 zeroG [] [97]) = a) (ea : makeE 5 (askD 0 0 10 zeroG [] [97]) = 0) (mb : makeD 6 (askD 1 0 11 zeroG [g] [98]) = b) (eb : makeE 6 (askD 1 0 11 zeroG [g] [98]) = 0)
  (mc : makeD 5 (askD 0 1 12 g [y] [99]) = c) (ec : makeE 5 (askD 0 1 12 g [y] [99]) = 0) (mo : makeD 5 (askD 0 1 12 g [] [100]) = o) (eo : makeE 5 (askD 0 1 12 g [] [100]) = 0)
  (w : World) (hS : Row w 0 0 (vals init8.l)) (hkT : Row w 1 0 (vals kTab)) :
  Rets Tryz.prog 27 [] w fun r w' => (∃ (kv lv : Value) (A B C O : Dr), r = .tuple #[kv, lv, .agg O.cells.toArray, .bool true] ∧ LIn w' kv ks ∧ LDr w' lv [A, B, C] ∧ (A.d = a ∧ B.d = b ∧ C.d = c ∧ O.d = o) ∧ WfX w' A ∧ WfX w' B ∧ WfX w' C ∧ WfX w' O) ∧ Ext w w' := by
 subst hks
 have ida := E.ida
 have idb := E.idb
 have sa := E.sa
 have sb := E.sb
 have sc := E.sc
 have so := E.so
 have wa := E.wa
 have wb := E.wb
 have wc := E.wc
 have wo := E.wo
 clear E
 refine RetsX.of (nt := 108) Tryz.func27 (by kernel_rfl) rfl rfl (by simp) (by simp only [argEnv]; rfl) ?_
 have X := ExtB.refl (fun _ => False) w
 repeat' (first | refine RunLN.any ?_ | refine RunL.ev Tryz.tOk rfl rfl rfl ?_ | refine RunE.seq ?_ | refine RunE.region ?_)
 refine RunL.alloc Tryz.tOk rfl rfl rfl fun B2 w2_ a_ => ?_
 have Z2 : Blk w2_ B2 (dCells zeroD nilV nilV) 38 := a_.at_
 have gB2 := a_.ge X
 replace X := X.trans a_.ext
 clear a_
 repeat' (first | with_reducible refine RunLN.boolF rfl ?_ | refine RunL.ev Tryz.tOk rfl rfl rfl ?_ | refine RunE.seq ?_ | refine RunE.region ?_ | refine RunL.nil ?_)
 refine RunL.ex rfl rfl rfl (OpE.buildSl Tryz.tOk [.int .i64 5, .int .i64 6] rfl rfl rfl rfl rfl rfl (by simp [Value.cells])) ?_
 rintro _ w_ ⟨B_, rfl, a_⟩
 have h56 : LIn w_ (.slice (some ⟨B_, 0, none⟩) 2 2) [5, 6] := (isSl_added (n := 2) (sz := 1) a_ rfl)
 replace Z2 := Z2.up a_.ext
 replace X := X.trans a_.ext
 clear a_
 have l2 := Z2.lt
 have X3 := X
 replace X := ExtB.refl (fun _ => False) w_
 have hO0 : w_.ownsRow w_.heap.size 3 1 nilV ([k5, k6].take 0).length (flat intC' ([k5, k6].take 0)) := World.ownsRow_nil _ _ _ _
 repeat' (first | (with_reducible refine RunLN.chk ?_; refine RunLN.int (by (rfl)) ?_) | refine RunL.ev Tryz.tOk rfl rfl rfl ?_ | refine RunL.nil ?_ | refine RunE.block ?_)
 refine RunE.loop (ι := Nat × Value) (fun s => [(0, s.2), (2, .pointer (some ⟨B2, 0, none⟩)), (19, .slice (some ⟨B_, 0, none⟩) 2 2), (20, .int .i64 2), (21, .int .i64 (s.1 : Int))])
  (fun s w' => s.1 ≤ 2 ∧ Ext w_ w' ∧ w'.ownsRow w_.heap.size 3 1 s.2 ([k5, k6].take s.1).length (flat intC' ([k5, k6].take s.1))) (fun s => 2 - s.1) (0, nilV) (by repeat (first | exact Sub.nil _ | refine Sub.cons rfl ?_)) ⟨by decide, X, hO0⟩ ?_
 clear X hO0
 rintro ⟨i, u⟩ w3 ⟨hi, X, hO⟩ again
 simp only at hi hO again ⊢
 by_cases hlt : i < 2
 ·obtain ⟨x, k, hx, hkx, hpx⟩ : ∃ x k, ([5, 6] : List Int)[i]? = some x ∧ [k5, k6][i]? = some k ∧ powC 4 x = k := by
   obtain rfl | rfl : i = 0 ∨ i = 1 := by omega
   ·exact ⟨5, k5, rfl, rfl, p5⟩
   ·exact ⟨6, k6, rfl, rfl, p6⟩
  obtain ⟨b1, o1, c1, e1, hr1, -⟩ := isL_held h56 (show i < ([5, 6] : List Int).length from hlt)
  injection e1 with e1 _ e1'
  cases e1
  have hrx := flat_row encIn (hr1.up X) hx
  have htk : [k5, k6].take (i + 1) = [k5, k6].take i ++ [k] := by rw [List.take_add_one, hkx]; rfl
  have hpl : ([k5, k6].take i).length ≤ 2 := by simp; omega
  have next := fun u' w' a b => again (i + 1, u') w' (by simp only; omega) ⟨by simp only; omega, a, b⟩
  simp only [htk] at next
  clear again
  generalize [k5, k6].take i = pre at hO next hpl
  have X5 := X
  replace X := ExtB.refl (fun _ => False) w3
  repeat' (first | (with_reducible refine RunLN.decT ?_ ?_; focus omega) | (with_reducible refine RunLN.chk ?_; refine RunLN.int (by (rfl)) ?_) | refine RunLN.any ?_ | refine RunL.ev Tryz.tOk rfl rfl rfl ?_ | refine RunL.evV rfl rfl rfl (OpV.load1 Tryz.tOk rfl rfl rfl ((hrx.up X) 0 _ rfl)) ?_ | refine RunL.evV rfl rfl rfl (OpV.indexS Tryz.tOk _ rfl rfl rfl rfl (by omega)) ?_ | refine RunE.condT rfl rfl ?_ | refine RunE.seq ?_ | refine RunE.region ?_ | refine RunL.nil ?_ | refine RunE.block ?_ | refine RunE.skip ?_)
  refine RunL.call rfl rfl rfl (pow4_as hpx _) ?_
  rintro _ _ ⟨rfl, Xa_⟩
  replace X := X.trans Xa_
  clear Xa_
  repeat' (first | with_reducible refine RunLN.boolF rfl ?_ | (with_reducible refine RunLN.chk ?_; refine RunLN.int (by (rfl)) ?_) | refine RunLN.any ?_ | refine RunL.ev Tryz.tOk rfl rfl rfl ?_ | refine RunE.condF rfl rfl ?_ | refine RunE.seq ?_ | refine RunE.region ?_ | refine RunL.nil ?_ | refine RunE.skip ?_)
  refine RunL.ex rfl rfl rfl (OpE.buildSl Tryz.tOk [.int .i64 k] rfl rfl rfl rfl rfl rfl (by simp [Value.cells])) ?_
  rintro _ w15 ⟨B15, rfl, a15⟩
  have hx1 : LIn w15 (.slice (some ⟨B15, 0, none⟩) 1 1) [k] := isSl_added (n := 1) (sz := 1) a15 rfl
  replace X := X.trans a15.ext
  replace hO := World.ownsRow.up hO X
  have hs6 : w_.heap.size ≤ w15.heap.size := (X5.trans X).size
  clear a15
  skip
  refine RunL.ex rfl rfl rfl (OpE.append' Tryz.tOk rfl rfl rfl rfl rfl rfl hO hx1 (flat_plain encIn [k]) (by show _ * 8 ≤ _; simp only [List.length_singleton]; omega) (by simp only [List.length_singleton]; omega) hs6) ?_
  rintro u' w8 ⟨O8, E8, -⟩
  have X8 : Ext w_ w8 := (X5.trans X).write E8 (by intro k hk hlt; have := ownsRow_ge hO hk; omega)
  repeat' (first | (with_reducible refine RunLN.chk ?_; refine RunLN.int (by (first | (refine wr_i64 ?_ ?_; omega; omega) | rfl)) ?_) | refine RunLN.any ?_ | refine RunL.ev Tryz.tOk rfl rfl rfl ?_ | refine RunE.region ?_ | refine RunL.nil ?_ | refine RunE.inBlock ?_)
  exact RunE.weaken (by repeat (first | exact Sub.nil _ | refine Sub.cons rfl ?_)) (next _ _ X8 (by rw [List.length_append, flat_append]; exact O8))
 obtain rfl : i = 2 := by omega
 clear again p5 p6 hlt hi
 replace hO : w3.ownsRow w_.heap.size 3 1 u 2 (flat intC' [k5, k6]) := hO
 replace Z2 := Z2.up X
 replace X := X3.trans X
 clear h56 X3
 repeat' (first | with_reducible refine RunLN.boolF rfl ?_ | refine RunLN.any ?_ | refine RunL.ev Tryz.tOk rfl rfl rfl ?_ | refine RunE.condF rfl rfl ?_ | refine RunE.seq ?_ | refine RunE.region ?_ | refine RunL.nil ?_ | refine RunE.exit rfl ?_)
 have l2 := Z2.lt
 refine RunL.ex rfl rfl rfl (OpE.buildSl Tryz.tOk (bytesV [97]) rfl rfl rfl rfl rfl rfl (by simp [Value.cells, bytesV])) ?_
 rintro _ wa_ ⟨Bh97, rfl, aa_⟩
 have Zc_ : Blk wa_ Bh97 (bytesV [97]) 5 := aa_.at_
 have e_h97 := aa_.eq
 refine RunL.ex rfl rfl rfl (OpE.bytesC Tryz.tOk rfl rfl rfl Zc_) ?_
 rintro _ wb_ ⟨rfl, tb_⟩
 have Xa_ : Ext _ wb_ := aa_.ext.write tb_.ext (by intro i_ hi_ hlt_; subst hi_; omega)
 have h97 : IsSl wb_ 1 (.slice (some ⟨Bh97, 0, none⟩) 1 1) ([97] : List UInt8).length (bytesV [97]) := .row (row_cells tb_.at_) rfl (Nat.le_refl _)
 replace Z2 := Z2.up Xa_
 replace hO := hO.up Xa_
 replace X := X.trans Xa_
 clear Xa_ aa_ tb_ Zc_
 have n97 : Bh97 ≠ B2 := by omega
 clear e_h97 l2
 skip
 refine RunL.call rfl rfl rfl (dMake_as ma ea sa none 0 _ _ _ (by decide) IsSl.nil h97 (by decide) (by decide) (hS.up X) (hkT.up X)) ?_
 rintro _ _ ⟨rfl, Xa_⟩
 replace Z2 := Z2.up Xa_
 replace hO := hO.up Xa_
 replace h97 := h97.up Xa_
 replace X := X.trans Xa_
 clear Xa_
 have wA := wf_of wa sa (by decide) (by decide) (du := none) (cu := 0) IsSl.nil h97
 repeat' (first | (with_reducible refine RunLN.chk ?_; refine RunLN.int (by (rfl)) ?_) | refine RunLN.any ?_ | refine RunL.ev Tryz.tOk rfl rfl rfl ?_)
 refine RunL.alloc Tryz.tOk rfl rfl rfl fun B8 wa_ aa_ => ?_
 have gB8 := aa_.ge X
 refine RunL.storeW (vs := Dr.cells ⟨a, none, 0, some ⟨Bh97, 0, none⟩, 1⟩) Tryz.tOk rfl rfl rfl rfl rfl aa_.at_ rfl rfl fun w8_ tb_ => ?_
 have Xa_ : Ext _ w8_ := aa_.ext.write tb_.ext (by intro i_ hi_ hlt_; have := aa_.eq; omega)
 have Z8 : Blk w8_ B8 (Dr.cells ⟨a, none, 0, some ⟨Bh97, 0, none⟩, 1⟩) 38 := tb_.at_
 have n2_8 : B2 ≠ B8 := by have := Z2.lt; have := aa_.eq; omega
 have n8_2 : B8 ≠ B2 := Ne.symm n2_8
 replace Z2 := Z2.up Xa_
 replace hO := hO.up Xa_
 replace h97 := h97.up Xa_
 replace wA := wA.up Xa_
 replace X := X.trans Xa_
 clear Xa_ aa_ tb_
 repeat' (first | (with_reducible refine RunLN.chk ?_; refine RunLN.int (by (rfl)) ?_) | refine RunLN.any ?_ | refine RunL.ev Tryz.tOk rfl rfl rfl ?_ | refine RunL.evV rfl rfl rfl (OpV.loadN Tryz.tOk rfl rfl rfl rfl (Blk.row Z8)) ?_ | refine RunE.seq ?_ | refine RunE.region ?_ | refine RunL.nil ?_)
 refine RunL.call rfl rfl rfl (dId_as (D := ⟨a, none, 0, some ⟨Bh97, 0, none⟩, 1⟩) ida _ wA (hS.up X) (hkT.up X)) ?_
 rintro _ _ ⟨rfl, Xa_⟩
 replace Z2 := Z2.up Xa_
 replace hO := hO.up Xa_
 replace h97 := h97.up Xa_
 replace Z8 := Z8.up Xa_
 replace X := X.trans Xa_
 clear Xa_
 clear wA
 repeat' (first | (with_reducible refine RunLN.chk ?_; refine RunLN.int (by (rfl)) ?_) | refine RunLN.any ?_ | refine RunL.ev Tryz.tOk rfl rfl rfl ?_)
 refine RunL.alloc Tryz.tOk rfl rfl rfl fun B10 wa_ aa_ => ?_
 have gB10 := aa_.ge X
 refine RunL.storeW (vs := digC g) Tryz.tOk rfl rfl rfl rfl rfl aa_.at_ rfl rfl fun w10_ tb_ => ?_
 have Xa_ : Ext _ w10_ := aa_.ext.write tb_.ext (by intro i_ hi_ hlt_; have := aa_.eq; omega)
 have Z10 : Blk w10_ B10 (digC g) 32 := tb_.at_
 have n2_10 : B2 ≠ B10 := by have := Z2.lt; have := aa_.eq; omega
 have n10_2 : B10 ≠ B2 := Ne.symm n2_10
 have n8_10 : B8 ≠ B10 := by have := Z8.lt; have := aa_.eq; omega
 have n10_8 : B10 ≠ B8 := Ne.symm n8_10
 replace Z2 := Z2.up Xa_
 replace hO := hO.up Xa_
 replace h97 := h97.up Xa_
 replace Z8 := Z8.up Xa_
 replace X := X.trans Xa_
 clear Xa_ aa_ tb_
 repeat' (first | (with_reducible refine RunLN.chk ?_; refine RunLN.int (by (rfl)) ?_) | refine RunLN.any ?_ | refine RunL.ev Tryz.tOk rfl rfl rfl ?_ | refine RunL.evV rfl rfl rfl (OpV.loadN Tryz.tOk rfl rfl rfl rfl (Blk.row Z10)) ?_ | refine RunE.seq ?_ | refine RunE.region ?_ | refine RunL.nil ?_)
 have l2 := Z2.lt
 refine RunL.ex rfl rfl rfl (OpE.buildN encG Tryz.tOk [g] rfl rfl rfl rfl rfl rfl) ?_
 rintro _ w9 ⟨⟨Bg, rfl, lg⟩, hg9, Xa_⟩
 have ng : Bg ≠ B2 := by omega
 replace Z2 := Z2.up Xa_
 replace hO := hO.up Xa_
 replace h97 := h97.up Xa_
 replace Z8 := Z8.up Xa_
 replace Z10 := Z10.up Xa_
 replace X := X.trans Xa_
 clear Xa_ lg l2
 skip
 have l2 := Z2.lt
 refine RunL.ex rfl rfl rfl (OpE.buildSl Tryz.tOk (bytesV [98]) rfl rfl rfl rfl rfl rfl (by simp [Value.cells, bytesV])) ?_
 rintro _ wa_ ⟨Bh98, rfl, aa_⟩
 have Zc_ : Blk wa_ Bh98 (bytesV [98]) 5 := aa_.at_
 have e_h98 := aa_.eq
 refine RunL.ex rfl rfl rfl (OpE.bytesC Tryz.tOk rfl rfl rfl Zc_) ?_
 rintro _ wb_ ⟨rfl, tb_⟩
 have Xa_ : Ext _ wb_ := aa_.ext.write tb_.ext (by intro i_ hi_ hlt_; subst hi_; omega)
 have h98 : IsSl wb_ 1 (.slice (some ⟨Bh98, 0, none⟩) 1 1) ([98] : List UInt8).length (bytesV [98]) := .row (row_cells tb_.at_) rfl (Nat.le_refl _)
 replace Z2 := Z2.up Xa_
 replace hO := hO.up Xa_
 replace h97 := h97.up Xa_
 replace Z8 := Z8.up Xa_
 replace Z10 := Z10.up Xa_
 replace hg9 := hg9.up Xa_
 replace X := X.trans Xa_
 clear Xa_ aa_ tb_ Zc_
 have n98 : Bh98 ≠ B2 := by omega
 clear e_h98 l2
 skip
 refine RunL.call rfl rfl rfl (dMake_as mb eb sb _ _ _ _ _ (by decide) hg9 h98 (by simp) (by simp) (hS.up X) (hkT.up X)) ?_
 rintro _ _ ⟨rfl, Xa_⟩
 replace Z2 := Z2.up Xa_
 replace hO := hO.up Xa_
 replace h97 := h97.up Xa_
 replace Z8 := Z8.up Xa_
 replace Z10 := Z10.up Xa_
 replace hg9 := hg9.up Xa_
 replace h98 := h98.up Xa_
 replace X := X.trans Xa_
 clear Xa_
 have wB := wf_of wb sb (by simp) (by simp) hg9 h98
 repeat' (first | (with_reducible refine RunLN.chk ?_; refine RunLN.int (by (rfl)) ?_) | refine RunLN.any ?_ | refine RunL.ev Tryz.tOk rfl rfl rfl ?_)
 refine RunL.alloc Tryz.tOk rfl rfl rfl fun B12 wa_ aa_ => ?_
 have gB12 := aa_.ge X
 refine RunL.storeW (vs := Dr.cells ⟨b, some ⟨Bg, 0, none⟩, 1, some ⟨Bh98, 0, none⟩, 1⟩) Tryz.tOk rfl rfl rfl rfl rfl aa_.at_ rfl rfl fun w12_ tb_ => ?_
 have Xa_ : Ext _ w12_ := aa_.ext.write tb_.ext (by intro i_ hi_ hlt_; have := aa_.eq; omega)
 have Z12 : Blk w12_ B12 (Dr.cells ⟨b, some ⟨Bg, 0, none⟩, 1, some ⟨Bh98, 0, none⟩, 1⟩) 38 := tb_.at_
 have n2_12 : B2 ≠ B12 := by have := Z2.lt; have := aa_.eq; omega
 have n12_2 : B12 ≠ B2 := Ne.symm n2_12
 have n8_12 : B8 ≠ B12 := by have := Z8.lt; have := aa_.eq; omega
 have n12_8 : B12 ≠ B8 := Ne.symm n8_12
 have n10_12 : B10 ≠ B12 := by have := Z10.lt; have := aa_.eq; omega
 have n12_10 : B12 ≠ B10 := Ne.symm n10_12
 replace Z2 := Z2.up Xa_
 replace hO := hO.up Xa_
 replace h97 := h97.up Xa_
 replace Z8 := Z8.up Xa_
 replace Z10 := Z10.up Xa_
 replace hg9 := hg9.up Xa_
 replace h98 := h98.up Xa_
 replace wB := wB.up Xa_
 replace X := X.trans Xa_
 clear Xa_ aa_ tb_
 repeat' (first | (with_reducible refine RunLN.chk ?_; refine RunLN.int (by (rfl)) ?_) | refine RunLN.any ?_ | refine RunL.ev Tryz.tOk rfl rfl rfl ?_ | refine RunL.evV rfl rfl rfl (OpV.loadN Tryz.tOk rfl rfl rfl rfl (Blk.row Z12)) ?_ | refine RunE.seq ?_ | refine RunE.region ?_ | refine RunL.nil ?_)
 refine RunL.call rfl rfl rfl (dId_as (D := ⟨b, some ⟨Bg, 0, none⟩, 1, some ⟨Bh98, 0, none⟩, 1⟩) idb _ wB (hS.up X) (hkT.up X)) ?_
 rintro _ _ ⟨rfl, Xa_⟩
 replace Z2 := Z2.up Xa_
 replace hO := hO.up Xa_
 replace h97 := h97.up Xa_
 replace Z8 := Z8.up Xa_
 replace Z10 := Z10.up Xa_
 replace hg9 := hg9.up Xa_
 replace h98 := h98.up Xa_
 replace Z12 := Z12.up Xa_
 replace X := X.trans Xa_
 clear Xa_
 clear wB
 repeat' (first | (with_reducible refine RunLN.chk ?_; refine RunLN.int (by (rfl)) ?_) | refine RunLN.any ?_ | refine RunL.ev Tryz.tOk rfl rfl rfl ?_)
 refine RunL.alloc Tryz.tOk rfl rfl rfl fun B14 wa_ aa_ => ?_
 have gB14 := aa_.ge X
 refine RunL.storeW (vs := digC y) Tryz.tOk rfl rfl rfl rfl rfl aa_.at_ rfl rfl fun w14_ tb_ => ?_
 have Xa_ : Ext _ w14_ := aa_.ext.write tb_.ext (by intro i_ hi_ hlt_; have := aa_.eq; omega)
 have Z14 : Blk w14_ B14 (digC y) 32 := tb_.at_
 have n2_14 : B2 ≠ B14 := by have := Z2.lt; have := aa_.eq; omega
 have n14_2 : B14 ≠ B2 := Ne.symm n2_14
 have n8_14 : B8 ≠ B14 := by have := Z8.lt; have := aa_.eq; omega
 have n14_8 : B14 ≠ B8 := Ne.symm n8_14
 have n10_14 : B10 ≠ B14 := by have := Z10.lt; have := aa_.eq; omega
 have n14_10 : B14 ≠ B10 := Ne.symm n10_14
 have n12_14 : B12 ≠ B14 := by have := Z12.lt; have := aa_.eq; omega
 have n14_12 : B14 ≠ B12 := Ne.symm n12_14
 replace Z2 := Z2.up Xa_
 replace hO := hO.up Xa_
 replace h97 := h97.up Xa_
 replace Z8 := Z8.up Xa_
 replace Z10 := Z10.up Xa_
 replace hg9 := hg9.up Xa_
 replace h98 := h98.up Xa_
 replace Z12 := Z12.up Xa_
 replace X := X.trans Xa_
 clear Xa_ aa_ tb_
 repeat' (first | (with_reducible refine RunLN.chk ?_; refine RunLN.int (by (rfl)) ?_) | refine RunLN.any ?_ | refine RunL.ev Tryz.tOk rfl rfl rfl ?_ | refine RunL.evV rfl rfl rfl (OpV.loadN Tryz.tOk rfl rfl rfl rfl (Blk.row Z10)) ?_ | refine RunL.evV rfl rfl rfl (OpV.loadN Tryz.tOk rfl rfl rfl rfl (Blk.row Z14)) ?_ | refine RunE.seq ?_ | refine RunE.region ?_ | refine RunL.nil ?_)
 have l2 := Z2.lt
 refine RunL.ex rfl rfl rfl (OpE.buildN encG Tryz.tOk [y] rfl rfl rfl rfl rfl rfl) ?_
 rintro _ w10 ⟨⟨By, rfl, ly⟩, hy9, Xa_⟩
 have ny : By ≠ B2 := by omega
 replace Z2 := Z2.up Xa_
 replace hO := hO.up Xa_
 replace h97 := h97.up Xa_
 replace Z8 := Z8.up Xa_
 replace Z10 := Z10.up Xa_
 replace hg9 := hg9.up Xa_
 replace h98 := h98.up Xa_
 replace Z12 := Z12.up Xa_
 replace X := X.trans Xa_
 clear Xa_ ly l2 Z14
 skip
 have l2 := Z2.lt
 refine RunL.ex rfl rfl rfl (OpE.buildSl Tryz.tOk (bytesV [99]) rfl rfl rfl rfl rfl rfl (by simp [Value.cells, bytesV])) ?_
 rintro _ wa_ ⟨Bh99, rfl, aa_⟩
 have Zc_ : Blk wa_ Bh99 (bytesV [99]) 5 := aa_.at_
 have e_h99 := aa_.eq
 refine RunL.ex rfl rfl rfl (OpE.bytesC Tryz.tOk rfl rfl rfl Zc_) ?_
 rintro _ wb_ ⟨rfl, tb_⟩
 have Xa_ : Ext _ wb_ := aa_.ext.write tb_.ext (by intro i_ hi_ hlt_; subst hi_; omega)
 have h99 : IsSl wb_ 1 (.slice (some ⟨Bh99, 0, none⟩) 1 1) ([99] : List UInt8).length (bytesV [99]) := .row (row_cells tb_.at_) rfl (Nat.le_refl _)
 replace Z2 := Z2.up Xa_
 replace hO := hO.up Xa_
 replace h97 := h97.up Xa_
 replace Z8 := Z8.up Xa_
 replace Z10 := Z10.up Xa_
 replace hg9 := hg9.up Xa_
 replace h98 := h98.up Xa_
 replace Z12 := Z12.up Xa_
 replace hy9 := hy9.up Xa_
 replace X := X.trans Xa_
 clear Xa_ aa_ tb_ Zc_
 have n99 : Bh99 ≠ B2 := by omega
 clear e_h99 l2
 skip
 refine RunL.call rfl rfl rfl (dMake_as mc ec sc _ _ _ _ _ (by decide) hy9 h99 (by simp) (by simp) (hS.up X) (hkT.up X)) ?_
 rintro _ _ ⟨rfl, Xa_⟩
 replace Z2 := Z2.up Xa_
 replace hO := hO.up Xa_
 replace h97 := h97.up Xa_
 replace Z8 := Z8.up Xa_
 replace Z10 := Z10.up Xa_
 replace hg9 := hg9.up Xa_
 replace h98 := h98.up Xa_
 replace Z12 := Z12.up Xa_
 replace hy9 := hy9.up Xa_
 replace h99 := h99.up Xa_
 replace X := X.trans Xa_
 clear Xa_
 repeat' (first | (with_reducible refine RunLN.chk ?_; refine RunLN.int (by (rfl)) ?_) | refine RunLN.any ?_ | refine RunL.ev Tryz.tOk rfl rfl rfl ?_)
 refine RunL.alloc Tryz.tOk rfl rfl rfl fun B16 wa_ aa_ => ?_
 have gB16 := aa_.ge X
 refine RunL.storeW (vs := Dr.cells ⟨c, some ⟨By, 0, none⟩, 1, some ⟨Bh99, 0, none⟩, 1⟩) Tryz.tOk rfl rfl rfl rfl rfl aa_.at_ rfl rfl fun w16_ tb_ => ?_
 have Xa_ : Ext _ w16_ := aa_.ext.write tb_.ext (by intro i_ hi_ hlt_; have := aa_.eq; omega)
 have Z16 : Blk w16_ B16 (Dr.cells ⟨c, some ⟨By, 0, none⟩, 1, some ⟨Bh99, 0, none⟩, 1⟩) 38 := tb_.at_
 have n2_16 : B2 ≠ B16 := by have := Z2.lt; have := aa_.eq; omega
 have n16_2 : B16 ≠ B2 := Ne.symm n2_16
 have n8_16 : B8 ≠ B16 := by have := Z8.lt; have := aa_.eq; omega
 have n16_8 : B16 ≠ B8 := Ne.symm n8_16
 have n10_16 : B10 ≠ B16 := by have := Z10.lt; have := aa_.eq; omega
 have n16_10 : B16 ≠ B10 := Ne.symm n10_16
 have n12_16 : B12 ≠ B16 := by have := Z12.lt; have := aa_.eq; omega
 have n16_12 : B16 ≠ B12 := Ne.symm n12_16
 replace Z2 := Z2.up Xa_
 replace hO := hO.up Xa_
 replace h97 := h97.up Xa_
 replace Z8 := Z8.up Xa_
 replace Z10 := Z10.up Xa_
 replace hg9 := hg9.up Xa_
 replace h98 := h98.up Xa_
 replace Z12 := Z12.up Xa_
 replace hy9 := hy9.up Xa_
 replace h99 := h99.up Xa_
 replace X := X.trans Xa_
 clear Xa_ aa_ tb_
 repeat' (first | (with_reducible refine RunLN.chk ?_; refine RunLN.int (by (rfl)) ?_) | refine RunLN.any ?_ | refine RunL.ev Tryz.tOk rfl rfl rfl ?_ | refine RunL.evV rfl rfl rfl (OpV.loadN Tryz.tOk rfl rfl rfl rfl (Blk.row Z10)) ?_ | refine RunE.seq ?_ | refine RunE.region ?_ | refine RunL.nil ?_)
 have l2 := Z2.lt
 refine RunL.ex rfl rfl rfl (OpE.buildSl Tryz.tOk (bytesV [100]) rfl rfl rfl rfl rfl rfl (by simp [Value.cells, bytesV])) ?_
 rintro _ wa_ ⟨Bh100, rfl, aa_⟩
 have Zc_ : Blk wa_ Bh100 (bytesV [100]) 5 := aa_.at_
 have e_h100 := aa_.eq
 refine RunL.ex rfl rfl rfl (OpE.bytesC Tryz.tOk rfl rfl rfl Zc_) ?_
 rintro _ wb_ ⟨rfl, tb_⟩
 have Xa_ : Ext _ wb_ := aa_.ext.write tb_.ext (by intro i_ hi_ hlt_; subst hi_; omega)
 have h100 : IsSl wb_ 1 (.slice (some ⟨Bh100, 0, none⟩) 1 1) ([100] : List UInt8).length (bytesV [100]) := .row (row_cells tb_.at_) rfl (Nat.le_refl _)
 replace Z2 := Z2.up Xa_
 replace hO := hO.up Xa_
 replace h97 := h97.up Xa_
 replace Z8 := Z8.up Xa_
 replace hg9 := hg9.up Xa_
 replace h98 := h98.up Xa_
 replace Z12 := Z12.up Xa_
 replace hy9 := hy9.up Xa_
 replace h99 := h99.up Xa_
 replace Z16 := Z16.up Xa_
 replace X := X.trans Xa_
 clear Xa_ aa_ tb_ Zc_
 have n100 : Bh100 ≠ B2 := by omega
 clear e_h100 l2
 skip
 refine RunL.call rfl rfl rfl (dMake_as mo eo so none 0 _ _ _ (by decide) IsSl.nil h100 (by decide) (by decide) (hS.up X) (hkT.up X)) ?_
 rintro _ _ ⟨rfl, Xa_⟩
 replace Z2 := Z2.up Xa_
 replace hO := hO.up Xa_
 replace h97 := h97.up Xa_
 replace Z8 := Z8.up Xa_
 replace hg9 := hg9.up Xa_
 replace h98 := h98.up Xa_
 replace Z12 := Z12.up Xa_
 replace hy9 := hy9.up Xa_
 replace h99 := h99.up Xa_
 replace Z16 := Z16.up Xa_
 replace h100 := h100.up Xa_
 replace X := X.trans Xa_
 clear Xa_
 clear ma ea mb eb mc ec mo eo ida idb Z10
 repeat' (first | (with_reducible refine RunLN.chk ?_; refine RunLN.int (by (rfl)) ?_) | refine RunLN.any ?_ | refine RunL.ev Tryz.tOk rfl rfl rfl ?_)
 have gO : ∀ k, u.ownBlock = some k → k ≠ B2 := fun k hk e => by have := ownsRow_ge hO hk; omega
 refine RunL.storeW (vs := Dr.cells ⟨o, none, 0, some ⟨Bh100, 0, none⟩, 1⟩) Tryz.tOk rfl rfl rfl rfl rfl Z2 rfl rfl fun wf_ t_ => ?_
 replace X := X.own t_.ext gB2
 replace Z8 := Z8.other t_.ext n8_2
 replace Z12 := Z12.other t_.ext n12_2
 replace Z16 := Z16.other t_.ext n16_2
 have hk : LIn wf_ u [k5, k6] := isSl_own (ownsRow_ext hO t_.ext fun k hk e => gO k hk e)
 replace h97 := h97.ext t_.ext (fun k hk e => n97 ((Option.some.inj hk).trans e))
 replace h98 := h98.ext t_.ext (fun k hk e => n98 ((Option.some.inj hk).trans e))
 replace h99 := h99.ext t_.ext (fun k hk e => n99 ((Option.some.inj hk).trans e))
 replace h100 := h100.ext t_.ext (fun k hk e => n100 ((Option.some.inj hk).trans e))
 replace hg9 := hg9.ext t_.ext (fun k hk e => ng ((Option.some.inj hk).trans e))
 replace hy9 := hy9.ext t_.ext (fun k hk e => ny ((Option.some.inj hk).trans e))
 have Z2 : Blk wf_ B2 (Dr.cells ⟨o, none, 0, some ⟨Bh100, 0, none⟩, 1⟩) 38 := t_.at_
 have wA := wf_of wa sa (by decide) (by decide) (du := none) (cu := 0) IsSl.nil h97
 have wB := wf_of wb sb (by simp) (by simp) hg9 h98
 have wC := wf_of wc sc (by simp) (by simp) hy9 h99
 have wO := wf_of wo so (by decide) (by decide) (du := none) (cu := 0) IsSl.nil h100
 clear t_ hO gO h97 h98 h99 h100 hg9 hy9 n97 n98 n99 n100 ng ny sa sb sc so wa wb wc wo
 generalize hDA : (⟨a, none, 0, some ⟨Bh97, 0, none⟩, 1⟩ : Dr) = DA at Z8 wA
 generalize hDB : (⟨b, some ⟨Bg, 0, none⟩, 1, some ⟨Bh98, 0, none⟩, 1⟩ : Dr) = DB at Z12 wB
 generalize hDC : (⟨c, some ⟨By, 0, none⟩, 1, some ⟨Bh99, 0, none⟩, 1⟩ : Dr) = DC at Z16 wC
 generalize hDO : (⟨o, none, 0, some ⟨Bh100, 0, none⟩, 1⟩ : Dr) = DO at Z2 wO
 have eA : DA.d = a := by rw [← hDA]
 have eB : DB.d = b := by rw [← hDB]
 have eC : DC.d = c := by rw [← hDC]
 have eO : DO.d = o := by rw [← hDO]
 clear hDA hDB hDC hDO
 repeat' (first | (with_reducible refine RunLN.chk ?_; refine RunLN.int (by (rfl)) ?_) | refine RunL.ev Tryz.tOk rfl rfl rfl ?_ | refine RunE.seq ?_ | refine RunL.nil ?_)
 refine RunE.draw (fun _ => False) mix ?_
 intro wd_ Xd_
 repeat' (first | refine AsyN.any ?_ | refine Asy.ev Tryz.tOk rfl rfl rfl ?_ | refine Asy.evV rfl rfl rfl rfl (fun _ X_ => OpV.loadN Tryz.tOk rfl rfl rfl rfl (Blk.row (Z8.up (Xd_.trans X_)))) ?_ | refine Asy.evV rfl rfl rfl rfl (fun _ X_ => OpV.loadN Tryz.tOk rfl rfl rfl rfl (Blk.row (Z12.up (Xd_.trans X_)))) ?_ | refine Asy.evV rfl rfl rfl rfl (fun _ X_ => OpV.loadN Tryz.tOk rfl rfl rfl rfl (Blk.row (Z16.up (Xd_.trans X_)))) ?_)
 refine Asy.sat0 (fun q w' => LDr w' q [DA, DB, DC]) rfl rfl rfl rfl (fun q w' w'' _ e h => h.up e) (fun w' e => ?_) ?_
 ·refine OpE.mono (OpE.buildL encR Tryz.tOk [DA, DB, DC] rfl rfl rfl rfl rfl rfl) ?_ fun _ _ h => h
  rintro _ w'' ⟨-, h1, h2⟩
  exact ⟨h2, h1⟩
 repeat' (first | with_reducible refine AsyN.boolT rfl ?_ | (with_reducible refine AsyN.chk ?_; refine AsyN.int (by (rfl)) ?_) | refine AsyN.any ?_ | refine Asy.ev Tryz.tOk rfl rfl rfl ?_ | refine Asy.evV rfl rfl rfl rfl (fun _ X_ => OpV.loadN Tryz.tOk rfl rfl rfl rfl (Blk.row (Z2.up (Xd_.trans X_)))) ?_)
 refine Asy.sat1P Tryz.tOk 0 (fun q w' => LDr w' q [DA, DB, DC]) rfl rfl rfl rfl rfl rfl (fun q w' w'' _ e h => h.up e) (fun w' q e hx => ⟨q, rfl, hx⟩) ?_
 refine Asy.keepN rfl rfl rfl (fun _ X_ => OpE.storeSame Tryz.tOk rfl rfl rfl rfl (Z2.up (Xd_.trans X_)) rfl rfl (setAt_whole rfl)) ?_
 refine Asy.tail (by kernel_rfl) ?_
 intro we_ Xe_
 simp only [satsAll]
 rintro q hq q2 -
 replace Xe_ := Xd_.trans Xe_
 replace Z2 := Z2.up Xe_
 repeat' (first | with_reducible refine RunLN.boolT rfl ?_ | refine RunL.ev Tryz.tOk rfl rfl rfl ?_ | refine RunL.nil ?_)
 exact RunE.retFn Tryz.func27 (.tmp rfl (.tmp rfl (.cell rfl (.agg Tryz.tOk rfl rfl rfl Z2.row) (.tmp rfl .nil)))) ⟨⟨_, _, DA, DB, DC, DO, rfl, hk.up Xe_, hq, ⟨eA, eB, eC, eO⟩, wA.up Xe_, wB.up Xe_, wC.up Xe_, wO.up Xe_⟩, X.trans Xe_⟩
theorem small_ok (w : World) (hS : Row w 0 0 (vals init8.l)) (hkT : Row w 1 0 (vals kTab)) : ∃ (ks : List Int) (a b c o : Deed) (g y : Dg), ExM ks a b c o g y ∧
  Rets Tryz.prog 27 [] w fun r w' => (∃ (kv lv : Value) (A B C O : Dr), r = .tuple #[kv, lv, .agg O.cells.toArray, .bool true] ∧ LIn w' kv ks ∧ LDr w' lv [A, B, C] ∧ (A.d = a ∧ B.d = b ∧ C.d = c ∧ O.d = o) ∧ WfX w' A ∧ WfX w' B ∧ WfX w' C ∧ WfX w' O) ∧ Ext w w' :=
 ⟨_, _, _, _, _, _, _, exM_ok, small_gen _ _ _ _ _ _ _ (powC 4 5) (powC 4 6) rfl exM_ok rfl rfl rfl (makeE_ok (by decide) aM_f) rfl (makeE_ok (by decide) (bM_f _)) rfl (makeE_ok (by decide) (cM_f _ _)) rfl (makeE_ok (by decide) (oM_f _)) w hS hkT⟩
end Go.Sg
end
section
/- Merge: for the laws: calls, by the parts' deeds. -/
set_option maxRecDepth 4000
namespace Go.Mer
open Go.Rn Go.Rec Go.Dee Go.RowKit Go.Sg Go.NT
/-- Parts, by their deeds. -/
def InP (w : World) (v : Value) (L : List (List Dr)) : Prop := ∃ ls : List Ll, LLl w v ls ∧ ls.map Ll.l = L ∧ ∀ x ∈ ls, LDr w x.v x.l
theorem InP.up {w w' : World} {v : Value} {L : List (List Dr)} (h : InP w v L) (e : Ext w w') : InP w' v L := by
 obtain ⟨ls, h1, h2, h3⟩ := h
 exact ⟨ls, h1.up e, h2, fun x hx => (h3 x hx).up e⟩
theorem InP.nil (w : World) : InP w nilV [] := ⟨[], IsSl.nil, rfl, fun x hx => by cases hx⟩
def chkP (ks : List Int) (L : List (List Dr)) : Int := if keysD ks then (if 64 < L.length ∨ 4096 < L.flatten.length then 2 else 0) else 1
theorem allD_flat (ls : List Ll) : allD ls = (ls.map Ll.l).flatten := by unfold allD; rw [List.flatMap_def]
theorem chkP_map (ks : List Int) (ls : List Ll) : chkM ks ls = chkP ks (ls.map Ll.l) := by
 unfold chkM chkP
 rw [List.length_map, ← allD_flat, allD_len]
theorem chkP_of {ks : List Int} {L : List (List Dr)} (hk : keysD ks = true) (h1 : L.length ≤ 64) (h2 : L.flatten.length ≤ 4096) : chkP ks L = 0 := by
 unfold chkP
 rw [hk, if_pos rfl, if_neg (by omega)]
theorem chkP_inv {ks : List Int} {L : List (List Dr)} (h : chkP ks L = 0) : keysD ks = true ∧ L.length ≤ 64 ∧ L.flatten.length ≤ 4096 := by
 unfold chkP at h
 split at h
 ·rename_i hk
  split at h
  ·cases h
  ·exact ⟨hk, by omega, by omega⟩
 ·cases h
theorem merge_len (ks : List Int) (l : List Deed) : (mergeD ks l).length ≤ l.length := by
 have h1 := (pass_sub ks (sortD (takenD (leftD ks l)))).length_le
 have h2 := (sortD_spec (taken_apart (left_lft ks l))).1.length_eq
 have h3 : (takenD (leftD ks l)).length ≤ (leftD ks l).length := List.length_filter_le _ _
 have h4 : (leftD ks l).length ≤ l.length := leftL_len id ks l
 unfold mergeD
 show (passL id ks (sortD (takenD (leftD ks l)))).length ≤ l.length
 omega
theorem liars_len (l : List Deed) : (liarsL id l).length ≤ 64 := by
 unfold liarsL
 refine Nat.le_trans (List.length_filterMap_le _ _) ?_
 simp
end Go.Mer
namespace Go.Sg
open Go.Rn Go.Proofs Go.Dee Go.Mer Go.Rec Go.RowKit Go.Sha Go.Cod Go.NT
theorem InL.inP {w : World} {v : Value} {ls : List Ll} (h : InL w v ls) : InP w v (ls.map Ll.l) := ⟨ls, h.at_, rfl, h.part⟩
theorem pMerge_ok {ks : List Int} {kv : Value} {L : List (List Dr)} {v : Value} {w : World} (h0 : chkP ks L = 0) (hki : KsI ks) (hkl : ks.length < 9223372036854775808) (hk : LIn w kv ks) (hv : InP w v L) (hd : ∀ x ∈ L.flatten, WfX w x) (hS : Row w 0 0 (vals init8.l)) (hkT : Row w 1 0 (vals kTab)) :
  Rets Tryz.prog 12 [kv, v] w fun r w' => (∃ u out, r = .tuple #[u, .int .i64 0] ∧ LDr w' u out ∧ out.map Dr.d = mergeD ks (L.flatten.map Dr.d) ∧ ∀ x ∈ out, x ∈ L.flatten) ∧ Ext w w' := by
 obtain ⟨ls, h1, rfl, h3⟩ := hv
 obtain ⟨-, hl, hn⟩ := chkP_inv h0
 rw [← chkP_map] at h0
 rw [List.length_map] at hl
 rw [← allD_flat] at hd hn ⊢
 rw [allD_len] at hn
 have h := mMerge_ok ks kv ls v w hk hkl hki h1 (by omega) h3 hd (by omega) hS hkT
 rw [h0] at h
 exact h.mono fun _ _ ⟨⟨u, out, a, b, c, d⟩, e⟩ => ⟨⟨u, out, a, b, by rw [c, if_pos rfl], d⟩, e⟩
theorem pLiars_ok {ks : List Int} {kv : Value} {L : List (List Dr)} {v : Value} {w : World} (h0 : chkP ks L = 0) (hki : KsI ks) (hkl : ks.length < 9223372036854775808) (hk : LIn w kv ks) (hv : InP w v L) (hd : ∀ x ∈ L.flatten, WfX w x) (hS : Row w 0 0 (vals init8.l)) (hkT : Row w 1 0 (vals kTab)) :
  Rets Tryz.prog 16 [kv, v] w fun r w' => (∃ u fs, r = .tuple #[u, .int .i64 0] ∧ LFr w' u fs ∧ fs.map pairD = liarsL id (leftD ks (L.flatten.map Dr.d)) ∧ ∀ x ∈ fs, x.a ∈ L.flatten ∧ x.b ∈ L.flatten) ∧ Ext w w' := by
 obtain ⟨ls, h1, rfl, h3⟩ := hv
 obtain ⟨-, hl, hn⟩ := chkP_inv h0
 rw [← chkP_map] at h0
 rw [List.length_map] at hl
 rw [← allD_flat] at hd hn ⊢
 rw [allD_len] at hn
 have h := mLiars_ok ks kv ls v w hk hkl hki h1 (by omega) h3 hd (by omega) hS hkT
 rw [h0] at h
 exact h.mono fun _ _ ⟨⟨u, fs, a, b, c, d⟩, e⟩ => ⟨⟨u, fs, a, b, by rw [c, if_pos rfl], d⟩, e⟩
theorem rSame_true (a b : List Dr) (u v : Value) (w : World) (ha : LDr w u a) (hb : LDr w v b) (he : a.map Dr.d = b.map Dr.d) (hl : a.length < 9223372036854775808) (hda : ∀ x ∈ a, WfX w x) (hdb : ∀ x ∈ b, WfX w x) :
  Rets Tryz.prog 14 [u, v] w fun r w' => r = .bool true ∧ Ext w w' := by
 have hlen : a.length = b.length := by have := congrArg List.length he; simpa using this
 have h := rSame_ok a b u v w ha hb hl (by omega) hda hdb
 rwa [sameL_iff.2 he] at h
theorem lenM {out : List Dr} {l : List Deed} (h : out.map Dr.d = l) : out.length = l.length := by have := congrArg List.length h; simpa using this
theorem lenF {out : List Fr} {l : List (Deed × Deed)} (h : out.map pairD = l) : out.length = l.length := by have := congrArg List.length h; simpa using this
theorem zeroR_wf (w : World) : WfX w zeroR := ⟨⟨⟨by decide, by decide⟩, ⟨by decide, by decide⟩, ⟨by decide, by decide⟩, ⟨by decide, by decide⟩, ⟨by decide, by decide⟩⟩, by decide, by decide, zeroR_held w⟩
theorem chkM_nil : chkP [] [] = 0 := rfl
theorem merge_nil : mergeD [] (([] : List (List Dr)).flatten.map Dr.d) = [] := rfl
theorem liars_nil : liarsL id (leftD [] (([] : List (List Dr)).flatten.map Dr.d)) = [] := by
 unfold liarsL
 exact liars_none (fun p => apart_fork (l := leftD [] []) List.Pairwise.nil _) _
end Go.Sg
end
