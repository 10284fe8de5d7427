/- signatorylaw49.DeedsBeginning returns true for every input; condition: the package variables digest.start and digest.numbers hold what the program lays in them (the card ties this). -/
import Derived.Test.YtpmpefkcmokoiaaDoorDa09
set_option linter.unusedSimpArgs false
set_option linter.unusedVariables false
set_option linter.unusedSectionVars false
namespace Go.Sg
open Go.Rn Go.Proofs Go.Dee Go.Rec Go.RowKit Go.Sha Go.Cod Go.NT
attribute [local irreducible] chkE fewL logD Go.Rn.RetsX Go.Rn.RunLN Go.Rn.AsyN Go.Rn.RunL Go.Rn.RunE Go.Rn.Asy Go.Rn.OpV Go.Rn.OpE Go.Rn.ExecE
set_option maxRecDepth 4000 in
set_option maxHeartbeats 8000000 in
theorem deedsBeginning_walk (kv : Value) (ks : List Int) (lv : Value) (l : List Dr) (at_ : Int) (h8 : 0 ≤ at_ ∧ at_ < 256) (W : World) (hkb : ks.length < 9223372036854775808 ∧ KsI ks) (hk : LIn W kv ks) (hlb : l.length < 9223372036854775808 ∧ ∀ x ∈ l, WfX W x) (hv : LDr W lv l) (hS : Row W 0 0 (vals init8.l)) (hkT : Row W 1 0 (vals kTab)) :
    Rets Tryd.prog 7 [kv, lv, .int .u8 at_] W fun r w' => r = .bool true ∧ Ext W w' := by
  obtain ⟨hkl, hki⟩ := hkb
  obtain ⟨hl, hd⟩ := hlb
  have c1 := fun w h h' hd => rfewL_ok ks kv l lv w h hkl h' hl hd
  have c2 := fun w h h' hd h1 h2 => dcheck_ok ks kv l lv w h hkl hki h' hl hd h1 h2
  refine RetsX.of (nt := 68) Tryd.func7 (by kernel_rfl) rfl rfl (by simp) (by simp only [argEnv]; rfl) ?_
  have X := ExtB.refl (fun _ => False) W
  repeat' (first | with_reducible refine RunLN.boolF rfl ?_ | refine RunL.ev Tryd.tOk rfl rfl rfl ?_ | refine RunE.seq ?_ | refine RunE.region ?_ | refine RunL.nil ?_)
  refine RunL.call rfl rfl rfl (l49_sane_ok _ (hS.up X) (hkT.up X)) ?_
  rintro _ _ ⟨rfl, Xa_⟩
  replace X := X.trans Xa_
  clear Xa_
  repeat' (first | with_reducible refine RunLN.boolF rfl ?_ | refine RunLN.any ?_ | refine RunL.ev Tryd.tOk rfl rfl rfl ?_ | refine RunE.condF rfl rfl ?_ | refine RunE.seq ?_ | refine RunE.region ?_ | refine RunL.nil ?_ | refine RunE.skip ?_)
  refine RunL.call rfl rfl rfl (c1 _ (hk.up X) (hv.up X) (fun x hx => (hd x hx).2.2.2.up X)) ?_
  rintro _ _ ⟨rfl, Xa_⟩
  replace X := X.trans Xa_
  clear Xa_
  cases fewL ks (l.map Dr.d) with
  | false =>
    repeat' (first | with_reducible refine RunLN.boolT rfl ?_ | refine RunL.ev Tryd.tOk rfl rfl rfl ?_ | refine RunL.unwantedD rfl rfl ?_ | refine RunE.condT rfl rfl ?_ | refine RunE.seq ?_ | refine RunE.region ?_ | refine RunL.nil ?_)
    exact RunE.retFn Tryd.func7 (.tmp rfl .nil) ⟨rfl, X⟩
  | true =>
  by_cases h16 : l.length ≤ 16
  rotate_left
  · repeat' (first | with_reducible refine RunLN.boolT rfl ?_ | with_reducible refine RunLN.boolF rfl ?_ | (with_reducible refine RunLN.decT ?_ ?_; focus omega) | (with_reducible refine RunLN.chk ?_; refine RunLN.int (by (first | (refine wr_i64 ?_ ?_; omega; omega) | (refine wm_i64 ?_; omega) | (refine wq_i64 ?_ ?_ ?_; omega; omega; omega) | rfl)) ?_) | refine RunLN.any ?_ | refine RunL.ev Tryd.tOk rfl rfl rfl ?_ | refine RunL.unwantedD rfl rfl ?_ | refine RunL.evV rfl rfl rfl (OpV.lenSl Tryd.tOk rfl rfl hv) ?_ | refine RunE.condT rfl rfl ?_ | refine RunE.seq ?_ | refine RunE.region ?_ | refine RunL.nil ?_)
    exact RunE.retFn Tryd.func7 (.tmp rfl .nil) ⟨rfl, X⟩
  repeat' (first | with_reducible refine RunLN.boolF rfl ?_ | (with_reducible refine RunLN.decF ?_ ?_; focus omega) | (with_reducible refine RunLN.chk ?_; refine RunLN.int (by (first | (refine wr_i64 ?_ ?_; omega; omega) | (refine wm_i64 ?_; omega) | (refine wq_i64 ?_ ?_ ?_; omega; omega; omega) | rfl)) ?_) | refine RunLN.any ?_ | refine RunL.ev Tryd.tOk rfl rfl rfl ?_ | refine RunL.evV rfl rfl rfl (OpV.lenSl Tryd.tOk rfl rfl hv) ?_)
  refine RunL.call rfl rfl rfl (c2 _ (hk.up X) (hv.up X) (fun x hx => (hd x hx).up X) (hS.up X) (hkT.up X)) ?_
  rintro _ _ ⟨rfl, Xa_⟩
  replace X := X.trans Xa_
  clear Xa_
  by_cases hc : chkE ks (l.map Dr.d) = 0
  rotate_left
  · generalize chkE ks (l.map Dr.d) = ce at hc
    repeat' (first | with_reducible refine RunLN.boolT rfl ?_ | (with_reducible refine RunLN.neT ?_ ?_; focus omega) | refine RunL.ev Tryd.tOk rfl rfl rfl ?_ | refine RunE.condT rfl rfl ?_ | refine RunE.seq ?_ | refine RunE.region ?_ | refine RunL.nil ?_)
    exact RunE.retFn Tryd.func7 (.tmp rfl .nil) ⟨rfl, X⟩
  rw [hc]
  obtain ⟨hkd, -, hlog⟩ := chk_zero hc
  clear c1 c2 hc
  repeat' (first | with_reducible refine RunLN.boolF rfl ?_ | (with_reducible refine RunLN.chk ?_; refine RunLN.int (by (first | (refine wr_i64 ?_ ?_; omega; omega) | (refine wm_i64 ?_; omega) | (refine wq_i64 ?_ ?_ ?_; omega; omega; omega) | rfl)) ?_) | refine RunLN.any ?_ | refine RunL.ev Tryd.tOk rfl rfl rfl ?_ | refine RunL.evV rfl rfl rfl (OpV.lenSl Tryd.tOk rfl rfl hv) ?_ | refine RunE.condF rfl rfl ?_ | refine RunE.seq ?_ | refine RunE.region ?_ | refine RunL.nil ?_ | refine RunE.block ?_ | refine RunE.skip ?_)
  refine RunE.loop (ι := Nat) (fun s => [(0, kv), (1, lv), (2, .int .u8 at_), (6, .bool false), (28, lv), (29, .int .i64 (l.length : Int)), (30, .int .i64 (s : Int))])
    (fun s w' => s ≤ l.length ∧ Ext W w') (fun s => l.length - s) 0 (by repeat (first | exact Sub.nil _ | refine Sub.cons rfl ?_)) ⟨Nat.zero_le _, X⟩ ?_
  clear X
  rintro i w3 ⟨hi, X⟩ again
  by_cases hlt : i < l.length
  · obtain ⟨b1, o1, cc, rfl, hr1, hcc⟩ := isL_held hv hlt
    obtain ⟨x, hx⟩ : ∃ x, l[i]? = some x := ⟨_, List.getElem?_eq_getElem hlt⟩
    have hrx := flat_row encR hr1 hx
    have hpx : (l.map Dr.d)[i]? = some x.d := by rw [List.getElem?_map, hx]; rfl
    repeat' (first | (with_reducible refine RunLN.decT ?_ ?_; focus omega) | (with_reducible refine RunLN.chk ?_; refine RunLN.int (by (first | (refine wr_i64 ?_ ?_; omega; omega) | (refine wm_i64 ?_; omega) | (refine wq_i64 ?_ ?_ ?_; omega; omega; omega) | rfl)) ?_) | refine RunLN.any ?_ | refine RunL.ev Tryd.tOk rfl rfl rfl ?_ | refine RunL.evV rfl rfl rfl (OpV.loadN Tryd.tOk rfl rfl rfl rfl (hrx.up X)) ?_ | refine RunL.evV rfl rfl rfl (OpV.indexS Tryd.tOk _ rfl rfl rfl rfl (by omega)) ?_ | refine RunE.condT rfl rfl ?_ | refine RunE.seq ?_ | refine RunE.region ?_ | refine RunL.nil ?_ | refine RunE.block ?_ | refine RunE.skip ?_)
    refine RunL.alloc Tryd.tOk rfl rfl rfl fun B8 wa_ aa_ => ?_
    have gB8 := aa_.ge X
    have e8 := aa_.eq
    repeat' (first | (with_reducible refine RunLN.chk ?_; refine RunLN.int (by (first | (refine wr_i64 ?_ ?_; omega; omega) | (refine wm_i64 ?_; omega) | (refine wq_i64 ?_ ?_ ?_; omega; omega; omega) | rfl)) ?_) | refine RunL.ev Tryd.tOk rfl rfl rfl ?_)
    refine RunL.storeW (vs := dCells x.d x.u x.v) Tryd.tOk rfl rfl rfl rfl rfl aa_.at_ rfl rfl fun w8_ tb_ => ?_
    have Xa_ : Ext w3 w8_ := aa_.ext.write tb_.ext (by intro i_ hi_ hlt_; omega)
    have Z8 : Blk w8_ B8 (dCells x.d x.u x.v) 29 := tb_.at_
    replace X := X.trans Xa_
    clear Xa_ aa_ tb_ hrx e8
    repeat' (first | (with_reducible refine RunLN.chk ?_; refine RunLN.int (by (first | (refine wr_i64 ?_ ?_; omega; omega) | (refine wm_i64 ?_; omega) | (refine wq_i64 ?_ ?_ ?_; omega; omega; omega) | rfl)) ?_) | refine RunLN.any ?_ | refine RunL.ev Tryd.tOk rfl rfl rfl ?_ | refine RunE.seq ?_ | refine RunE.region ?_ | refine RunL.nil ?_)
    refine RunL.evV rfl rfl rfl (OpV.sliceSq (lo := 0) (hi := i) (q := o1) (len := i) (cap := cc) Tryd.tOk rfl rfl .none (.some rfl rfl) (Nat.zero_le _) (by omega) (offOf_zero _ _ _) rfl rfl) ?_
    repeat' (first | (with_reducible refine RunLN.chk ?_; refine RunLN.int (by (first | (refine wr_i64 ?_ ?_; omega; omega) | (refine wm_i64 ?_; omega) | (refine wq_i64 ?_ ?_ ?_; omega; omega; omega) | rfl)) ?_) | refine RunLN.any ?_ | refine RunL.ev Tryd.tOk rfl rfl rfl ?_ | refine RunL.nil ?_ | refine RunE.block ?_)
    refine RunE.loop (ι := Nat) (fun s => [(0, kv), (1, .slice (some ⟨b1, o1, none⟩) l.length cc), (2, .int .u8 at_), (6, .bool false), (8, .pointer (some ⟨B8, 0, none⟩)), (28, .slice (some ⟨b1, o1, none⟩) l.length cc), (29, .int .i64 (l.length : Int)), (30, .int .i64 (i : Int)), (37, .slice (some ⟨b1, o1, none⟩) i cc), (38, .int .i64 (i : Int)), (39, .int .i64 (s : Int))])
      (fun s w' => s ≤ i ∧ Ext W w' ∧ Blk w' B8 (dCells x.d x.u x.v) 29) (fun s => i - s) 0 (by repeat (first | exact Sub.nil _ | refine Sub.cons rfl ?_)) ⟨Nat.zero_le _, X, Z8⟩ ?_
    clear X Z8
    rintro j w4 ⟨hj, X, Z8⟩ again2
    by_cases hji : j < i
    · obtain ⟨y, hy⟩ : ∃ y, l[j]? = some y := ⟨_, List.getElem?_eq_getElem (by omega)⟩
      have hry := flat_row encR hr1 hy
      have hpy : (l.map Dr.d)[j]? = some y.d := by rw [List.getElem?_map, hy]; rfl
      have hless := log_less hlog hpx hpy hji
      repeat' (first | (with_reducible refine RunLN.decT ?_ ?_; focus omega) | refine RunLN.any ?_ | refine RunL.ev Tryd.tOk rfl rfl rfl ?_ | refine RunL.evV rfl rfl rfl (OpV.loadN Tryd.tOk rfl rfl rfl rfl (hry.up X)) ?_ | refine RunL.evV rfl rfl rfl (OpV.indexS Tryd.tOk _ rfl rfl rfl rfl (by omega)) ?_ | refine RunE.condT rfl rfl ?_ | refine RunE.seq ?_ | refine RunE.region ?_ | refine RunL.nil ?_ | refine RunE.block ?_ | refine RunE.skip ?_)
      refine RunL.alloc Tryd.tOk rfl rfl rfl fun B10 wa_ aa_ => ?_
      have gB10 := aa_.ge X
      refine RunL.storeW (vs := dCells y.d y.u y.v) Tryd.tOk rfl rfl rfl rfl rfl aa_.at_ rfl rfl fun w10_ tb_ => ?_
      have Xa_ : Ext _ w10_ := aa_.ext.write tb_.ext (by intro i_ hi_ hlt_; have := aa_.eq; omega)
      have Z10 : Blk w10_ B10 (dCells y.d y.u y.v) 29 := tb_.at_
      have n8_10 : B8 ≠ B10 := by have := Z8.lt; have := aa_.eq; omega
      have n10_8 : B10 ≠ B8 := Ne.symm n8_10
      replace Z8 := Z8.up Xa_
      replace X := X.trans Xa_
      clear Xa_ aa_ tb_
      by_cases hp : y.d.person = x.d.person
      · have hno := hless hp
        repeat' (first | with_reducible refine RunLN.boolT rfl ?_ | with_reducible refine RunLN.boolF rfl ?_ | (with_reducible refine RunLN.decF ?_ ?_; focus omega) | (with_reducible refine RunLN.eqT ?_ ?_; focus omega) | (with_reducible refine RunLN.chk ?_; refine RunLN.int (by (first | (refine wr_i64 ?_ ?_; omega; omega) | (refine wm_i64 ?_; omega) | (refine wq_i64 ?_ ?_ ?_; omega; omega; omega) | rfl)) ?_) | refine RunLN.any ?_ | refine RunL.ev Tryd.tOk rfl rfl rfl ?_ | refine RunL.evV rfl rfl rfl (OpV.load1 Tryd.tOk rfl rfl rfl (Blk.cell Z8 rfl)) ?_ | refine RunL.evV rfl rfl rfl (OpV.load1 Tryd.tOk rfl rfl rfl (Blk.cell Z10 rfl)) ?_ | refine RunE.condF rfl rfl ?_ | refine RunE.seq ?_ | refine RunE.region ?_ | refine RunL.nil ?_ | refine RunE.inBlock ?_ | refine RunE.skip ?_)
        exact RunE.weaken (by repeat (first | exact Sub.nil _ | refine Sub.cons rfl ?_)) (again2 (j + 1) _ (by omega) ⟨by omega, X, Z8⟩)
      · repeat' (first | with_reducible refine RunLN.boolF rfl ?_ | (with_reducible refine RunLN.eqF ?_ ?_; focus omega) | (with_reducible refine RunLN.chk ?_; refine RunLN.int (by (first | (refine wr_i64 ?_ ?_; omega; omega) | (refine wm_i64 ?_; omega) | (refine wq_i64 ?_ ?_ ?_; omega; omega; omega) | rfl)) ?_) | refine RunLN.any ?_ | refine RunL.ev Tryd.tOk rfl rfl rfl ?_ | refine RunL.unwantedD rfl rfl ?_ | refine RunL.evV rfl rfl rfl (OpV.load1 Tryd.tOk rfl rfl rfl (Blk.cell Z8 rfl)) ?_ | refine RunL.evV rfl rfl rfl (OpV.load1 Tryd.tOk rfl rfl rfl (Blk.cell Z10 rfl)) ?_ | refine RunE.condF rfl rfl ?_ | refine RunE.seq ?_ | refine RunE.region ?_ | refine RunL.nil ?_ | refine RunE.inBlock ?_ | refine RunE.skip ?_)
        exact RunE.weaken (by repeat (first | exact Sub.nil _ | refine Sub.cons rfl ?_)) (again2 (j + 1) _ (by omega) ⟨by omega, X, Z8⟩)
    · obtain rfl : j = i := by omega
      clear again2
      repeat' (first | (with_reducible refine RunLN.decF ?_ ?_; focus omega) | (with_reducible refine RunLN.chk ?_; refine RunLN.int (by (first | (refine wr_i64 ?_ ?_; omega; omega) | (refine wm_i64 ?_; omega) | (refine wq_i64 ?_ ?_ ?_; omega; omega; omega) | rfl)) ?_) | refine RunL.ev Tryd.tOk rfl rfl rfl ?_ | refine RunE.condF rfl rfl ?_ | refine RunE.seq ?_ | refine RunE.region ?_ | refine RunL.nil ?_ | refine RunE.inBlock ?_ | refine RunE.exit rfl ?_)
      exact RunE.weaken (by repeat (first | exact Sub.nil _ | refine Sub.cons rfl ?_)) (again (j + 1) _ (by omega) ⟨by omega, X⟩)
  · obtain rfl : i = l.length := by omega
    clear again
    have m0 := Int.emod_nonneg at_ (show ((l.length : Int) + 1) ≠ 0 by omega)
    have m1 := Int.emod_lt_of_pos at_ (show 0 < (l.length : Int) + 1 by omega)
    generalize hm : at_ % ((l.length : Int) + 1) = m at m0 m1
    have hmn : ((m.toNat : Nat) : Int) = m := by omega
    have c2 := fun kv lv w h h' hd h1 h2 => dcheck_ok ks kv (l.take m.toNat) lv w h hkl hki h' (by rw [List.length_take]; omega) hd h1 h2
    have hz : chkE ks ((l.take m.toNat).map Dr.d) = 0 := by
      rw [List.map_take]
      exact chk_good hkd (by rw [List.length_take, List.length_map]; omega) (logD_take hlog _)
    rw [hz] at c2
    clear hz
    repeat' (first | (with_reducible refine RunLN.decF ?_ ?_; focus omega) | (with_reducible refine RunLN.chk ?_; refine RunLN.int (by (first | (refine wr_i64 ?_ ?_; omega; omega) | (refine wm_i64 ?_; omega) | (refine wq_i64 ?_ ?_ ?_; omega; omega; omega) | rfl)) ?_) | refine RunLN.any ?_ | refine RunL.ev Tryd.tOk rfl rfl rfl ?_ | refine RunL.evV rfl rfl rfl (OpV.lenSl Tryd.tOk rfl rfl hv) ?_ | refine RunE.condF rfl rfl ?_ | refine RunE.seq ?_ | refine RunE.region ?_ | refine RunL.nil ?_ | refine RunE.exit rfl ?_)
    refine RunL.ex rfl rfl rfl (OpE.part Tryd.tOk rfl rfl (hv.up X) .none (.some rfl (hm.trans hmn.symm)) (Nat.zero_le _) (by omega)) ?_
    rintro u _ ⟨rfl, -, hu⟩
    have hu' : LDr w3 u (l.take m.toNat) := by
      show IsSl _ _ _ _ _
      have hl2 : (l.take m.toNat).length = m.toNat := by rw [List.length_take]; omega
      rw [hl2, ← flat_take encR]
      simpa using hu
    clear hu
    skip
    refine RunL.call rfl rfl rfl (c2 _ _ _ (hk.up X) hu' (fun x hx => (hd x (List.mem_of_mem_take hx)).up X) (hS.up X) (hkT.up X)) ?_
    rintro _ _ ⟨rfl, Xa_⟩
    replace X := X.trans Xa_
    clear Xa_
    repeat' (first | with_reducible refine RunLN.boolT rfl ?_ | refine RunL.ev Tryd.tOk rfl rfl rfl ?_ | refine RunL.nil ?_)
    exact RunE.retFn Tryd.func7 (.tmp rfl .nil) ⟨rfl, X⟩
end Go.Sg
namespace Go.Proofs.YtpmpefkcmokoiaaDoor
open Go.ChangeShapes Go.WideShapes Go.ChangeAt Go.RowKit Go.Sg
namespace deedsBeginning
theorem own : ownKnob Tryd.prog.godebug = none := by kernel_rfl
theorem laidOut : laidOutB Tryd.prog = true := by kernel_rfl
theorem door_met (os : Os) (args : Array Value) : laidMetH Tryd.prog Rows.deedsBeginningRow.laid ((World.doorLaid Tryd.prog 19 os).forCall (fun _ _ => 0) ⟨#[], args, []⟩).memory :=
  laidMetH_of_parts3 (fuel := 8) (laidMet_of_run' 8 (by kernel_rfl) (by kernel_rfl)) (by kernel_rfl) (by kernel_rfl)
set_option maxRecDepth 100000 in
theorem lifted (os : Os) (started : os.Started) (H : Type) (enc : TypeId × Value → H) :
    ReturnsInHanded {} Tryd.checked os 7 .any (fun w args => (Rows.deedsBeginningSpec.pre enc Tryd.prog Tryd.f7 [] false w args ∧ laidMetH Tryd.prog Rows.deedsBeginningRow.laid w) ∧ sizedMet enc Tryd.prog Tryd.f7 (OpenSpec.ofChange Rows.deedsBeginningSpec) false w args)
      (Rows.deedsBeginningSpec.post enc Tryd.prog Tryd.f7 false true false false) := by
  refine returnsInHanded_of_change_and (C := Tryd.checked) (X := fun w _ => laidMetH Tryd.prog Rows.deedsBeginningRow.laid w) (fun _ _ _ hh h => h.of_heap hh) own started (by kernel_rfl) Tryd.func7
    (ChangeSpec.witness_shaped (enc := enc) (C := Tryd.checked) (os := os) (X := fun w _ => laidMetH Tryd.prog Rows.deedsBeginningRow.laid w) false (World.doorLaid Tryd.prog 19 os) #[.slice none 0 0, .slice none 0 0, .int .u8 0] 8 rfl (World.shaped_of_RefB (by kernel_rfl) (by kernel_rfl)) (by kernel_rfl) (by kernel_rfl) (by kernel_rfl) (door_met os _)) ?_
  intro W base args ds gs before hval0 hW _ _ hL _
  have hval : ∀ (j : Nat) t v, Tryd.f7.params[j]? = some t → args[j]? = some v → Value.okWide Tryd.prog W .any base t v := hval0
  have hW' := hW
  obtain ⟨p, q, hA0, hV, rfl, hfz, hnd⟩ := hW
  have hA : DataW.TrodAll enc Tryd.prog W 0 (fun _ => true) true Tryd.f7.params.toList args.toList ds p := hA0
  rw [Tryd.params7] at hA hval
  obtain ⟨v0, vs0, d0, ds0, p0, q0, hargs, rfl, rfl, h0, r0⟩ := trodAll_cons hA
  obtain ⟨v1, vs1, d1, ds1, p1, q1, rfl, rfl, rfl, h1, r1⟩ := trodAll_cons r0
  obtain ⟨v2, vs2, d2, ds2, p2, q2, rfl, rfl, rfl, h2, r2⟩ := trodAll_cons r1
  obtain ⟨rfl, rfl, rfl⟩ := trodAll_nil r2
  obtain rfl : args = #[v0, v1, v2] := by cases args; simp_all
  obtain ⟨l0, m0, s0⟩ := keys_open (hval 0 43 v0 rfl rfl) h0
  obtain ⟨l1, m1, s1⟩ := deeds_open (hval 1 47 v1 rfl rfl) h1
  obtain ⟨a2, rfl, rfl, rfl, w2⟩ := open_int Tryd.underlying5 (hval 2 5 v2 rfl rfl) h2
  have L0 := start_of_laid (by kernel_rfl) rfl (.head _) hL
  have L1 := numbers_of_laid (by kernel_rfl) rfl (.tail _ (.head _)) hL
  refine (Rets.calls (deedsBeginning_walk v0 l0 v1 l1 a2 (u8_of_wf w2) W m0 s0 m1 s1 L0 L1)).mono fun e W' he => ?_
  obtain ⟨_, rfl, rfl, hx⟩ := he
  exact ⟨_, rfl, law_post (t := 4) laidOut (by kernel_rfl) (by kernel_rfl) (by kernel_rfl) rfl (fun ds h => by
    rcases ds with _ | ⟨_, _ | ⟨_, _ | ⟨_, _ | ⟨_, _⟩⟩⟩⟩ <;> first | rfl | (exact absurd h (by decide)) | (simp at h)) hW' hx⟩

theorem holds : Rows.DeedsBeginningSaid :=
  OpenClaim.holds_of_wide 7 Tryd.f7 rfl rfl rfl rfl rfl rfl rfl ⟨rfl, rfl, rfl, rfl, rfl⟩ rfl rfl rfl rfl rfl (by kernel_rfl) Tryd.func7 (by kernel_rfl)
    (of_decide_eq_true (by kernel_rfl)) (by unfold Func.isWrapper; first | (rw [if_pos (by decide +kernel)]; kernel_rfl) | (rw [if_neg (by decide +kernel)]; exact ⟨rfl, rfl⟩))
    (fun os started H enc _ => lifted os started H enc)
theorem proved : Rows.DeedsBeginningCardSaid :=
  Claim7.holds_tied_plain_at .later [] [.data, .data] true (true, "b4bd5900933cd1c32d7ed6686b9c79531316ce8527525fd23780c777f75ab3e5") true
    holds (fun _ h => by cases h) (by kernel_rfl) (fun _ h => by cases h) deedsBeginning_row_tie rfl ⟨rfl, rfl⟩ (by kernel_rfl) rfl
    (fun f fn hf hfn => by
      obtain rfl : f = 7 := Option.some.inj ((show Tryd.prog.funcNamed Tryd.f7.name = some 7 by kernel_rfl).symm.trans hf) |>.symm
      obtain rfl : fn = Tryd.f7 := (Option.some.inj (Tryd.func7.symm.trans hfn)).symm
      exact ⟨by kernel_rfl, fun j t ht => by
        have hall : Tryd.f7.params.toList.all (fun t => !Tryd.prog.wantsStandIn t) = true := by kernel_rfl
        have hm : t ∈ Tryd.f7.params.toList := by
          obtain ⟨hj, rfl⟩ := Array.getElem?_eq_some_iff.1 ht
          simp
        have := List.all_eq_true.1 hall t hm
        exact (by simpa using this : Tryd.prog.wantsStandIn t = false)⟩)
    (by kernel_rfl)
#print axioms proved
end deedsBeginning
end Go.Proofs.YtpmpefkcmokoiaaDoor
