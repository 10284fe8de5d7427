/- signatorylaw41.NoncesValid returns true for every input; condition: the package variables digest.start and digest.numbers hold what the program lays in them (the card ties this). -/
import Derived.Test.YtamcgoplhnbmcaaDoorN04
import Derived.Test.YtamcgoplhnbmcaaDoorN07
import Derived.Test.YtamcgoplhnbmcaaDoorN09
import Derived.Test.YtamcgoplhnbmcaaDoorNonH
import Derived.Test.YtamcgoplhnbmcaaDoorNonJ
import Derived.Test.YtamcgoplhnbmcaaDoorAsyW
import Derived.Test.YtamcgoplhnbmcaaDoorN06
set_option linter.unusedSimpArgs false
set_option linter.unusedVariables false
set_option linter.unusedSectionVars false
namespace Go.Sg
open Go.Rn Go.Proofs Go.Non Go.Rec Go.RowKit Go.Dev Go.Sha Go.NT
attribute [local irreducible] numN powC Go.RnW.Asy Go.Rn.RetsX Go.Rn.RunLN Go.Rn.AsyN Go.Rn.RunL Go.Rn.RunE Go.Rn.Asy Go.Rn.OpV Go.Rn.OpE Go.Rn.ExecE
set_option maxHeartbeats 4000000 in
theorem noncesValid_walk (b : Book) (v : Value) (doc : Int) (_ : -9223372036854775808 ≤ doc ∧ doc < 9223372036854775808) (W : World) (hl : b.left.length < 9223372036854775808) (hv : LI' W v b.left) (hS : Row W 0 0 (vals init8.l)) (hkT : Row W 1 0 (vals kTab)) :
    Rets Tryd.prog 7 [.agg (bkV b v).toArray, .int .i64 doc] W fun r w' => r = .bool true ∧ Ext W w' := by
  have c1 := fun w h => rright41_ok b v w h hl
  refine RetsX.of (nt := 128) Tryd.func7 (by kernel_rfl) rfl rfl (by simp) (by simp only [argEnv]; rfl) ?_
  have X := ExtB.refl (fun _ => False) W
  repeat' (first | refine RunE.seq ?_ | refine RunE.region ?_)
  refine RunL.box rfl rfl rfl fun B3 w3_ a_ => ?_
  have Z3 : Blk w3_ B3 (bkV b v) 24 := a_.at_
  have gB3 := a_.ge X
  replace X := X.trans a_.ext
  clear a_
  repeat' (first | with_reducible refine RunLN.boolF rfl ?_ | refine RunL.ev Tryd.tOk rfl rfl rfl ?_ | refine RunE.seq ?_ | refine RunE.region ?_ | refine RunL.nil ?_)
  refine RunL.call rfl rfl rfl (l41_sane_ok _ (hS.up X) (hkT.up X)) ?_
  rintro _ _ ⟨rfl, Xa_⟩
  replace Z3 := Z3.up Xa_
  replace X := X.trans Xa_
  clear Xa_
  repeat' (first | with_reducible refine RunLN.boolF rfl ?_ | refine RunLN.any ?_ | refine RunL.ev Tryd.tOk rfl rfl rfl ?_ | refine RunL.evV rfl rfl rfl (OpV.loadN Tryd.tOk rfl rfl rfl rfl (Blk.row Z3)) ?_ | refine RunE.condF rfl rfl ?_ | refine RunE.seq ?_ | refine RunE.region ?_ | refine RunL.nil ?_ | refine RunE.skip ?_)
  refine RunL.call rfl rfl rfl (c1 _ (hv.up X)) ?_
  rintro _ _ ⟨rfl, Xa_⟩
  replace Z3 := Z3.up Xa_
  replace X := X.trans Xa_
  clear Xa_
  cases hr : rtB b with
  | false =>
    repeat' (first | with_reducible refine RunLN.boolT rfl ?_ | refine RunL.ev Tryd.tOk rfl rfl rfl ?_ | refine RunL.unwantedD rfl rfl ?_ | refine RunE.condT rfl rfl ?_ | refine RunE.seq ?_ | refine RunE.region ?_ | refine RunL.nil ?_)
    exact RunE.retFn Tryd.func7 (.tmp rfl .nil) ⟨rfl, X⟩
  | true =>
    by_cases h200 : b.left.length ≤ 200
    · by_cases hnx : b.next = 4096
      · repeat' (first | with_reducible refine RunLN.boolT rfl ?_ | with_reducible refine RunLN.boolF rfl ?_ | (with_reducible refine RunLN.decF ?_ ?_; focus omega) | (with_reducible refine RunLN.eqT ?_ ?_; focus omega) | (with_reducible refine RunLN.chk ?_; refine RunLN.int (by (first | (refine wr_i64 ?_ ?_; omega; omega) | (refine wm_i64 ?_; omega) | (refine wq_i64 ?_ ?_ ?_; omega; omega; omega) | rfl)) ?_) | refine RunLN.any ?_ | refine RunL.ev Tryd.tOk rfl rfl rfl ?_ | refine RunL.unwantedD rfl rfl ?_ | refine RunL.evV rfl rfl rfl (OpV.load1 Tryd.tOk rfl rfl rfl (Blk.cell Z3 rfl)) ?_ | refine RunL.evV rfl rfl rfl (OpV.lenSl Tryd.tOk rfl rfl hv) ?_ | refine RunE.condT rfl rfl ?_ | refine RunE.seq ?_ | refine RunE.region ?_ | refine RunL.nil ?_)
        exact RunE.retFn Tryd.func7 (.tmp rfl .nil) ⟨rfl, X⟩
      · by_cases hd0 : 0 ≤ doc
        · by_cases hd1 : doc < 4096
          · obtain ⟨f1, f2, f3, f4, f5, f6, f7⟩ := valid_facts hr hnx ⟨hd0, hd1⟩
            have hl2 : (bookAt b 1).left.length < 9223372036854775808 := by have := make_left b 1; rwa [f2] at this
            have ct := fun v w hv h1 h2 => take_own (b := bookAt b 1) (no := b.next) (doc := doc) f4 f5 ((take_good f4).2 0) ((take_good f4).2 1) v w hv hl2 h1 h2
            have k0 := numN_bd b.keeper b.seed b.next 0
            have k1 := numN_bd b.keeper b.seed b.next 1
            have hpc := pairN_cells b.keeper b.seed b.next
            have q0 := powC_valid v4 (numN b.keeper b.seed b.next 0)
            have q1 := powC_valid v4 (numN b.keeper b.seed b.next 1)
            have qq : HidN (mulC (powC 4 (numN b.keeper b.seed b.next 0)) (powC 4 (numN b.keeper b.seed b.next 1)) = powC 4 (numN b.keeper b.seed b.next 0 + numN b.keeper b.seed b.next 1)) := powC_add v4 (numN b.keeper b.seed b.next 0) (numN b.keeper b.seed b.next 1)
            have m1 := fun v w h1 h2 h3 h4 => make_at ⟨f1, f2, f3⟩ v w h1 h2 h3 h4
            clear f1 f2 f3 f4 f5 f6
            have ct' : ∀ v w, LI' w v (bookAt b 1).left → Row w 0 0 (vals init8.l) → Row w 1 0 (vals kTab) → _ := ct
            change ∀ v w, LI' w v (bookAt b 1).left → Row w 0 0 (vals init8.l) → Row w 1 0 (vals kTab) → Rets Tryd.prog 21 [.agg (bkV (bookAt b 1) v).toArray, .int .i64 b.next, .int .i64 doc] w fun r w' => (∃ d c, r = .tuple #[.agg (bkV ⟨b.keeper, b.seed, b.next + 1, b.left⟩ (.slice d b.left.length c)).toArray, .int .i64 (numN b.keeper b.seed b.next 0), .int .i64 (numN b.keeper b.seed b.next 1), .int .i64 0] ∧ w'.ownsRow w.heap.size 3 1 (.slice d b.left.length c) b.left.length (flat intC b.left)) ∧ Ext w w' at ct
            clear ct'
            generalize numN b.keeper b.seed b.next 0 = n0 at *
            generalize numN b.keeper b.seed b.next 1 = n1 at *
            generalize pairN b.keeper b.seed b.next = pr at *
            repeat' (first | with_reducible refine RunLN.boolF rfl ?_ | (with_reducible refine RunLN.decF ?_ ?_; focus omega) | (with_reducible refine RunLN.eqF ?_ ?_; focus omega) | (with_reducible refine RunLN.chk ?_; refine RunLN.int (by (first | (refine wr_i64 ?_ ?_; omega; omega) | (refine wm_i64 ?_; omega) | (refine wq_i64 ?_ ?_ ?_; omega; omega; omega) | rfl)) ?_) | refine RunLN.any ?_ | refine RunL.ev Tryd.tOk rfl rfl rfl ?_ | refine RunL.evV rfl rfl rfl (OpV.load1 Tryd.tOk rfl rfl rfl (Blk.cell Z3 rfl)) ?_ | refine RunL.evV rfl rfl rfl (OpV.loadN Tryd.tOk rfl rfl rfl rfl (Blk.row Z3)) ?_ | refine RunL.evV rfl rfl rfl (OpV.lenSl Tryd.tOk rfl rfl hv) ?_ | refine RunE.condF rfl rfl ?_ | refine RunE.seq ?_ | refine RunE.region ?_ | refine RunL.nil ?_ | refine RunE.skip ?_)
            refine RunL.call rfl rfl rfl (m1 v _ (hv.up X) hl (hS.up X) (hkT.up X)) ?_
            rintro _ _ ⟨⟨d5, c5, l5, rfl, h5, p5⟩, Xa_⟩
            replace Z3 := Z3.up Xa_
            replace X := X.trans Xa_
            clear Xa_
            repeat' (first | (with_reducible refine RunLN.chk ?_; refine RunLN.int (by (first | (refine wr_i64 ?_ ?_; omega; omega) | (refine wm_i64 ?_; omega) | (refine wq_i64 ?_ ?_ ?_; omega; omega; omega) | rfl)) ?_) | refine RunLN.any ?_ | refine RunL.ev Tryd.tOk rfl rfl rfl ?_)
            refine RunL.alloc Tryd.tOk rfl rfl rfl fun B5 wa_ aa_ => ?_
            have gB5 := aa_.ge X
            refine RunL.store Tryd.tOk rfl rfl rfl rfl rfl (cs := bk0) aa_.at_ rfl rfl fun w5_ tb_ => ?_
            have Xa_ : Ext _ w5_ := aa_.ext.write tb_.ext (by intro i_ hi_ hlt_; have := aa_.eq; omega)
            have Z5 : Blk w5_ B5 (bkV (bookAt b 1) (.slice d5 (bookAt b 1).left.length c5)) 24 := tb_.at_
            have n3_5 : B3 ≠ B5 := by have := Z3.lt; have := aa_.eq; omega
            have n5_3 : B5 ≠ B3 := Ne.symm n3_5
            replace Z3 := Z3.up Xa_
            replace h5 := h5.up Xa_
            replace p5 := p5.up Xa_
            replace X := X.trans Xa_
            clear Xa_ aa_ tb_
            obtain ⟨bp, op, cp, rfl, rp, -⟩ := isL_held p5 (i := 0) (by simp)
            have rp0 := flat_row encP rp (i := 0) rfl
            rw [hpc] at rp0
            clear rp p5
            have lX := X.size
            have o5 : ∀ j, (Value.slice d5 (bookAt b 1).left.length c5).ownBlock = some j → j < w5_.heap.size := fun j hj => isL_own h5 (by decide) (by simp [bookAt, upB]) hj
            have l3 := Z3.lt
            repeat' (first | with_reducible refine RunLN.boolF rfl ?_ | (with_reducible refine RunLN.chk ?_; refine RunLN.int (by (first | (refine wr_i64 ?_ ?_; omega; omega) | (refine wm_i64 ?_; omega) | (refine wq_i64 ?_ ?_ ?_; omega; omega; omega) | rfl)) ?_) | refine RunLN.any ?_ | refine RunL.ev Tryd.tOk rfl rfl rfl ?_ | refine RunE.condF rfl rfl ?_ | refine RunE.seq ?_ | refine RunE.region ?_ | refine RunL.nil ?_ | refine RunE.skip ?_)
            refine Go.RnW.RunE.draw [] (Go.RnW.onlyT 24 w5_.heap.size) (Go.RnW.onlyT_ok _ _) mix ?_
            intro wd_ Xd_
            replace X := X.trans Xd_
            replace Z3 := Z3.up Xd_
            have l5 := Z5.lt
            replace Z5 := Z5.up Xd_
            have lp := cell_lt (rp0 0 _ rfl)
            replace rp0 := rp0.up Xd_
            replace h5 := h5.up Xd_
            have h01 : 1 < W.heap.size := cell_lt (hkT 0 _ rfl)
            have hS1 := hS.up X
            have hkT1 := hkT.up X
            refine Go.RnW.Asy.vS rfl rfl rfl rfl (fun w' s => OpV.loadN Tryd.tOk rfl rfl rfl rfl (s.blk Z5 l5).row) ?_
            refine Go.RnW.Asy.pure Tryd.tOk rfl rfl rfl ?_
            refine Go.RnW.Asy.vS rfl rfl rfl rfl (fun w' s => OpV.indexSK Tryd.tOk rfl rfl rfl rfl) ?_
            refine Go.RnW.Asy.pure Tryd.tOk rfl rfl rfl ?_
            refine Go.RnW.Asy.vS rfl rfl rfl rfl (fun w' s => OpV.load1 Tryd.tOk rfl rfl rfl ((s.row rp0 lp) 1 _ rfl)) ?_
            refine Go.RnW.Asy.pure Tryd.tOk rfl rfl rfl ?_
            refine Go.RnW.Asy.sat0 (fun r w' => ∃ d c, r = .tuple #[.agg (bkV ⟨b.keeper, b.seed, b.next + 1, b.left⟩ (.slice d b.left.length c)).toArray, .int .i64 n0, .int .i64 n1, .int .i64 0] ∧ w'.ownsRow 0 3 1 (.slice d b.left.length c) b.left.length (flat intC b.left)) rfl rfl rfl rfl (fun r w' w'' _ e h => ?_) (fun w' s => ?_) ?_
            · obtain ⟨d, c, h1, h2⟩ := h
              exact ⟨d, c, h1, e.owns h2 (by decide)⟩
            · refine OpE.mono (OpE.call rfl (ct _ _ (h5.ext s.1 (fun j hj hh => ?_)) (s.row hS1 (by omega)) (s.row hkT1 (by omega)))) ?_ fun _ _ h => h
              · have h1 := hh.1
                have h2 := o5 j hj
                omega
              · rintro r w'' ⟨⟨d, c, h1, h2⟩, e⟩
                exact ⟨e, d, c, h1, ownsRow_base h2 (Nat.zero_le _)⟩
            refine Go.RnW.Asy.sat1P Tryd.tOk 0 (fun r w' => ∃ d c, r = .tuple #[.agg (bkV ⟨b.keeper, b.seed, b.next + 1, b.left⟩ (.slice d b.left.length c)).toArray, .int .i64 n0, .int .i64 n1, .int .i64 0] ∧ w'.ownsRow 0 3 1 (.slice d b.left.length c) b.left.length (flat intC b.left)) rfl rfl rfl rfl rfl rfl (fun r w' w'' _ e h => ?_) (fun w' x s hx => ?_) ?_
            · obtain ⟨d, c, h1, h2⟩ := h
              exact ⟨d, c, h1, e.owns h2 (by decide)⟩
            · obtain ⟨d, c, rfl, h2⟩ := hx
              exact ⟨_, rfl, d, c, rfl, h2⟩
            refine Go.RnW.Asy.sat1P Tryd.tOk 0 (fun r w' => ∃ d c, r = .agg (bkV ⟨b.keeper, b.seed, b.next + 1, b.left⟩ (.slice d b.left.length c)).toArray ∧ w'.ownsRow 0 3 1 (.slice d b.left.length c) b.left.length (flat intC b.left)) rfl rfl rfl rfl rfl rfl (fun r w' w'' _ e h => ?_) (fun w' x s hx => ?_) ?_
            · obtain ⟨d, c, h1, h2⟩ := h
              exact ⟨d, c, h1, e.owns h2 (by decide)⟩
            · obtain ⟨d, c, rfl, h2⟩ := hx
              exact ⟨_, rfl, d, c, rfl, h2⟩
            refine Go.RnW.Asy.val1P Tryd.tOk 1 rfl rfl rfl rfl rfl rfl (v := .int .i64 n0) (fun w' x s hx => by obtain ⟨d, c, rfl, -⟩ := hx; rfl) ?_
            refine Go.RnW.Asy.val1P Tryd.tOk 1 rfl rfl rfl rfl rfl rfl (v := .int .i64 n1) (fun w' x s hx => by obtain ⟨d, c, rfl, -⟩ := hx; rfl) ?_
            refine Go.RnW.Asy.val1P Tryd.tOk 1 rfl rfl rfl rfl rfl rfl (v := .int .i64 0) (fun w' x s hx => by obtain ⟨d, c, rfl, -⟩ := hx; rfl) ?_
            refine Go.RnW.Asy.sat0 (Go.RnW.newT 24 w5_.heap.size 4) rfl rfl rfl rfl (fun r w' w'' _ e h => h.keep e) (fun w' s => ?_) ?_
            · refine OpE.mono (OpE.alloc Tryd.tOk rfl) ?_ fun _ _ h => h
              rintro _ w'' ⟨B, rfl, a⟩
              exact ⟨a.ext, B, _, rfl, by have := a.eq; have := s.1.size; have := Xd_.size; omega, a.at_, rfl⟩
            refine Go.RnW.Asy.wri2 0 1 (fun r w' => ∃ B d c, r = .pointer (some ⟨B, 0, none⟩) ∧ w5_.heap.size ≤ B ∧ Blk w' B (bkV ⟨b.keeper, b.seed, b.next + 1, b.left⟩ (.slice d b.left.length c)) 24 ∧ w'.ownsRow 0 3 1 (.slice d b.left.length c) b.left.length (flat intC b.left)) rfl rfl rfl rfl (fun r w' w'' _ e h => ?_) (fun w' x z e hx hz => ?_) ?_
            · obtain ⟨B, d, c, h1, h2, h3, h4⟩ := h
              exact ⟨B, d, c, h1, h2, h3.up e, ownsRow_ext h4 e (fun _ _ h => h)⟩
            · obtain ⟨B, cs, rfl, hB, hBh, hsz⟩ := hx
              obtain ⟨d, c, rfl, ho⟩ := hz
              have hb : Blk w' B cs.toList 24 := by simpa [Blk] using hBh
              refine OpE.mono (OpE.store Tryd.tOk rfl rfl rfl rfl hb (by show Nat.ble (0 + 4) cs.toList.length = true; rw [Array.length_toList, hsz]; rfl) rfl) ?_ fun _ _ h => h
              rintro _ w'' t
              rw [setAt_all _ _ (by show 4 = cs.toList.length; rw [Array.length_toList, hsz])] at t
              have s := Go.RnW.onlyT.turn hBh hsz hB t rfl
              exact ⟨s, B, d, c, rfl, hB, t.at_, s.owns ho (by decide)⟩
            refine Go.RnW.Asy.pure Tryd.tOk rfl rfl rfl ?_
            refine Go.RnW.Asy.pure Tryd.tOk rfl rfl rfl ?_
            refine Go.RnW.Asy.tail1 0 13 (by kernel_rfl) (by kernel_rfl) rfl rfl rfl fun we_ x Xe_ hV _ => ?_
            obtain ⟨B8, d8, c8, rfl, hB8, Z8, O8⟩ := hV
            simp only [List.eraseIdx_cons_zero, satsAll]
            rintro r61 - r53 - r60 -
            have h8 : LI' we_ (.slice d8 b.left.length c8) b.left := isSl_own O8
            replace X := X.write Xe_.1 (by intro k hk hlt; have := hk.1; omega)
            replace Z3 := Xe_.blk Z3 l3
            replace rp0 := Xe_.row rp0 lp
            clear Xe_ Z5 O8 h5 o5 ct hS1 hkT1 Xd_
            repeat' (first | (with_reducible refine RunLN.chk ?_; refine RunLN.int (by (first | (refine wr_i64 ?_ ?_; omega; omega) | (refine wm_i64 ?_; omega) | (refine wq_i64 ?_ ?_ ?_; omega; omega; omega) | rfl)) ?_) | refine RunL.ev Tryd.tOk rfl rfl rfl ?_ | refine RunE.seq ?_ | refine RunE.region ?_ | refine RunL.nil ?_)
            refine RunL.call rfl rfl rfl (pow_ok 4 (n0 + n1) _) ?_
            rintro _ _ ⟨rfl, Xa_⟩
            replace Z3 := Z3.up Xa_
            replace Z8 := Z8.up Xa_
            replace rp0 := rp0.up Xa_
            replace h8 := h8.up Xa_
            replace X := X.trans Xa_
            clear Xa_
            rw [v4]
            repeat' (first | (with_reducible refine RunLN.chk ?_; refine RunLN.int (by (first | (refine wr_i64 ?_ ?_; omega; omega) | (refine wm_i64 ?_; omega) | (refine wq_i64 ?_ ?_ ?_; omega; omega; omega) | rfl)) ?_) | refine RunLN.any ?_ | refine RunL.ev Tryd.tOk rfl rfl rfl ?_ | refine RunE.seq ?_ | refine RunL.nil ?_)
            refine RunE.draw (fun _ => False) mix ?_
            intro wd_ Xd_
            repeat' (first | (with_reducible refine AsyN.chk ?_; refine AsyN.int (by (first | (refine wr_i64 ?_ ?_; omega; omega) | (refine wm_i64 ?_; omega) | (refine wq_i64 ?_ ?_ ?_; omega; omega; omega) | rfl)) ?_) | refine AsyN.any ?_ | refine Asy.ev Tryd.tOk rfl rfl rfl ?_ | refine Asy.evV rfl rfl rfl rfl (fun _ X_ => OpV.load1 Tryd.tOk rfl rfl rfl ((rp0.up (Xd_.trans X_)) _ _ rfl)) ?_ | refine Asy.evV rfl rfl rfl rfl (fun _ X_ => (OpV.indexSK Tryd.tOk rfl rfl rfl rfl)) ?_ | refine Asy.callN rfl rfl rfl (fun _ _ => (mul_ok _ _ _).mono (fun _ _ h => ⟨h.1, by rw [h.2]; exact ExtB.refl _ _⟩)) ?_)
            refine Asy.end_ (by kernel_rfl) ?_
            intro we_ Xe_
            replace Xe_ := Xd_.trans Xe_
            replace Z3 := Z3.up Xe_
            replace Z8 := Z8.up Xe_
            replace rp0 := rp0.up Xe_
            replace h8 := h8.up Xe_
            replace X := X.trans Xe_
            clear Xd_ Xe_
            rw [q0, q1, show mulC (powC 4 n0) (powC 4 n1) = powC 4 (n0 + n1) from qq]
            clear qq
            repeat' (first | with_reducible refine RunLN.boolT rfl ?_ | refine RunLN.boolT (by assumption) ?_ | with_reducible refine RunLN.eqT rfl ?_ | (with_reducible refine RunLN.chk ?_; refine RunLN.int (by (first | (refine wr_i64 ?_ ?_; omega; omega) | (refine wm_i64 ?_; omega) | (refine wq_i64 ?_ ?_ ?_; omega; omega; omega) | rfl)) ?_) | refine RunLN.any ?_ | refine RunL.ev Tryd.tOk rfl rfl rfl ?_ | refine RunL.evV rfl rfl rfl (OpV.load1 Tryd.tOk rfl rfl rfl (rp0 _ _ rfl)) ?_ | refine RunL.evV rfl rfl rfl ((OpV.indexSK Tryd.tOk rfl rfl rfl rfl)) ?_ | refine RunL.callN rfl rfl rfl (valid_ok _ _) ?_ | refine RunL.evV rfl rfl rfl (OpV.load1 Tryd.tOk rfl rfl rfl (Blk.cell Z3 rfl)) ?_ | refine RunL.evV rfl rfl rfl (OpV.load1 Tryd.tOk rfl rfl rfl (Blk.cell Z8 rfl)) ?_ | refine RunE.seq ?_ | refine RunE.region ?_ | refine RunL.nil ?_)
            refine RunL.call rfl rfl rfl (rsameInts_at b.left _ _ _ h8 (hv.up X) hl) ?_
            rintro _ _ ⟨rfl, Xa_⟩
            replace Z3 := Z3.up Xa_
            replace Z8 := Z8.up Xa_
            replace X := X.trans Xa_
            clear Xa_
            repeat' (first | with_reducible refine RunLN.boolT rfl ?_ | with_reducible refine RunLN.eqT rfl ?_ | (with_reducible refine RunLN.chk ?_; refine RunLN.int (by (first | (refine wr_i64 ?_ ?_; omega; omega) | (refine wm_i64 ?_; omega) | (refine wq_i64 ?_ ?_ ?_; omega; omega; omega) | rfl)) ?_) | refine RunLN.any ?_ | refine RunL.ev Tryd.tOk rfl rfl rfl ?_ | refine RunL.evV rfl rfl rfl (OpV.load1 Tryd.tOk rfl rfl rfl (Blk.cell Z3 rfl)) ?_ | refine RunL.evV rfl rfl rfl (OpV.load1 Tryd.tOk rfl rfl rfl (Blk.cell Z8 rfl)) ?_ | refine RunL.nil ?_)
            exact RunE.retFn Tryd.func7 (.tmp rfl .nil) ⟨rfl, X⟩
          · repeat' (first | with_reducible refine RunLN.boolT rfl ?_ | with_reducible refine RunLN.boolF rfl ?_ | (with_reducible refine RunLN.decT ?_ ?_; focus omega) | (with_reducible refine RunLN.decF ?_ ?_; focus omega) | (with_reducible refine RunLN.eqF ?_ ?_; focus omega) | (with_reducible refine RunLN.chk ?_; refine RunLN.int (by (first | (refine wr_i64 ?_ ?_; omega; omega) | (refine wm_i64 ?_; omega) | (refine wq_i64 ?_ ?_ ?_; omega; omega; omega) | rfl)) ?_) | refine RunLN.any ?_ | refine RunL.ev Tryd.tOk rfl rfl rfl ?_ | refine RunL.evV rfl rfl rfl (OpV.load1 Tryd.tOk rfl rfl rfl (Blk.cell Z3 rfl)) ?_ | refine RunL.evV rfl rfl rfl (OpV.lenSl Tryd.tOk rfl rfl hv) ?_ | refine RunE.condT rfl rfl ?_ | refine RunE.seq ?_ | refine RunE.region ?_ | refine RunL.nil ?_)
            exact RunE.retFn Tryd.func7 (.tmp rfl .nil) ⟨rfl, X⟩
        · repeat' (first | with_reducible refine RunLN.boolT rfl ?_ | with_reducible refine RunLN.boolF rfl ?_ | (with_reducible refine RunLN.decT ?_ ?_; focus omega) | (with_reducible refine RunLN.decF ?_ ?_; focus omega) | (with_reducible refine RunLN.eqF ?_ ?_; focus omega) | (with_reducible refine RunLN.chk ?_; refine RunLN.int (by (first | (refine wr_i64 ?_ ?_; omega; omega) | (refine wm_i64 ?_; omega) | (refine wq_i64 ?_ ?_ ?_; omega; omega; omega) | rfl)) ?_) | refine RunLN.any ?_ | refine RunL.ev Tryd.tOk rfl rfl rfl ?_ | refine RunL.unwantedD rfl rfl ?_ | refine RunL.evV rfl rfl rfl (OpV.load1 Tryd.tOk rfl rfl rfl (Blk.cell Z3 rfl)) ?_ | refine RunL.evV rfl rfl rfl (OpV.lenSl Tryd.tOk rfl rfl hv) ?_ | refine RunE.condT rfl rfl ?_ | refine RunE.seq ?_ | refine RunE.region ?_ | refine RunL.nil ?_)
          exact RunE.retFn Tryd.func7 (.tmp rfl .nil) ⟨rfl, X⟩
    · repeat' (first | with_reducible refine RunLN.boolT rfl ?_ | with_reducible refine RunLN.boolF rfl ?_ | (with_reducible refine RunLN.decT ?_ ?_; focus omega) | (with_reducible refine RunLN.chk ?_; refine RunLN.int (by (first | (refine wr_i64 ?_ ?_; omega; omega) | (refine wm_i64 ?_; omega) | (refine wq_i64 ?_ ?_ ?_; omega; omega; omega) | rfl)) ?_) | refine RunLN.any ?_ | refine RunL.ev Tryd.tOk rfl rfl rfl ?_ | refine RunL.unwantedD rfl rfl ?_ | refine RunL.evV rfl rfl rfl (OpV.load1 Tryd.tOk rfl rfl rfl (Blk.cell Z3 rfl)) ?_ | refine RunL.evV rfl rfl rfl (OpV.lenSl Tryd.tOk rfl rfl hv) ?_ | refine RunE.condT rfl rfl ?_ | refine RunE.seq ?_ | refine RunE.region ?_ | refine RunL.nil ?_)
      exact RunE.retFn Tryd.func7 (.tmp rfl .nil) ⟨rfl, X⟩
end Go.Sg
namespace Go.Proofs.YtamcgoplhnbmcaaDoor
open Go.ChangeShapes Go.WideShapes Go.ChangeAt Go.RowKit Go.Sg
namespace noncesValid
theorem own : ownKnob Tryd.prog.godebug = none := by kernel_rfl
theorem laidOut : laidOutB Tryd.prog = true := by kernel_rfl
theorem door_met (os : Os) (args : Array Value) : laidMetH Tryd.prog Rows.noncesValidRow.laid ((World.doorLaid Tryd.prog 19 os).forCall (fun _ _ => 0) ⟨#[], args, []⟩).memory :=
  laidMetH_of_parts3 (fuel := 8) (laidMet_of_run' 8 (by kernel_rfl) (by kernel_rfl)) (by kernel_rfl) (by kernel_rfl)
set_option maxRecDepth 100000 in
theorem lifted (os : Os) (started : os.Started) (H : Type) (enc : TypeId × Value → H) :
    ReturnsInHanded {} Tryd.checked os 7 .any (fun w args => (Rows.noncesValidSpec.pre enc Tryd.prog Tryd.f7 [] false w args ∧ laidMetH Tryd.prog Rows.noncesValidRow.laid w) ∧ sizedMet enc Tryd.prog Tryd.f7 (OpenSpec.ofChange Rows.noncesValidSpec) false w args)
      (Rows.noncesValidSpec.post enc Tryd.prog Tryd.f7 false true false false) := by
  refine returnsInHanded_of_change_and (C := Tryd.checked) (X := fun w _ => laidMetH Tryd.prog Rows.noncesValidRow.laid w) (fun _ _ _ hh h => h.of_heap hh) own started (by kernel_rfl) Tryd.func7
    (ChangeSpec.witness_shaped (enc := enc) (C := Tryd.checked) (os := os) (X := fun w _ => laidMetH Tryd.prog Rows.noncesValidRow.laid w) false (World.doorLaid Tryd.prog 19 os) #[.agg #[.int .i64 0, .int .i64 0, .int .i64 0, .slice none 0 0], .int .i64 0] 8 rfl (World.shaped_of_RefB (by kernel_rfl) (by kernel_rfl)) (by kernel_rfl) (by kernel_rfl) (by kernel_rfl) (door_met os _)) ?_
  intro W base args ds gs before hval0 hW _ _ hL _
  have hval : ∀ (j : Nat) t v, Tryd.f7.params[j]? = some t → args[j]? = some v → Value.okWide Tryd.prog W .any base t v := hval0
  have hW' := hW
  obtain ⟨p, q, hA0, hV, rfl, hfz, hnd⟩ := hW
  have hA : DataW.TrodAll enc Tryd.prog W 0 (fun _ => true) true Tryd.f7.params.toList args.toList ds p := hA0
  rw [Tryd.params7] at hA hval
  obtain ⟨v0, vs0, d0, ds0, p0, q0, hargs, rfl, rfl, h0, r0⟩ := trodAll_cons hA
  obtain ⟨v1, vs1, d1, ds1, p1, q1, rfl, rfl, rfl, h1, r1⟩ := trodAll_cons r0
  obtain ⟨rfl, rfl, rfl⟩ := trodAll_nil r1
  obtain rfl : args = #[v0, v1] := by cases args; simp_all
  obtain ⟨b0, u0, rfl, m0, s0⟩ := book_open (hval 0 24 v0 rfl rfl) h0
  obtain ⟨a1, rfl, rfl, rfl, w1⟩ := open_int Tryd.underlying3 (hval 1 3 v1 rfl rfl) h1
  have L0 := start_of_laid (by kernel_rfl) rfl (.head _) hL
  have L1 := numbers_of_laid (by kernel_rfl) rfl (.tail _ (.head _)) hL
  refine (Rets.calls (noncesValid_walk b0 u0 a1 (i64_of_wf w1) W m0 s0 L0 L1)).mono fun e W' he => ?_
  obtain ⟨_, rfl, rfl, hx⟩ := he
  exact ⟨_, rfl, law_post (t := 4) laidOut (by kernel_rfl) (by kernel_rfl) (by kernel_rfl) rfl (fun ds h => by
    rcases ds with _ | ⟨_, _ | ⟨_, _ | ⟨_, _⟩⟩⟩ <;> first | rfl | (exact absurd h (by decide)) | (simp at h)) hW' hx⟩

theorem holds : Rows.NoncesValidSaid :=
  OpenClaim.holds_of_wide 7 Tryd.f7 rfl rfl rfl rfl rfl rfl rfl ⟨rfl, rfl, rfl, rfl, rfl⟩ rfl rfl rfl rfl rfl (by kernel_rfl) Tryd.func7 (by kernel_rfl)
    (of_decide_eq_true (by kernel_rfl)) (by unfold Func.isWrapper; first | (rw [if_pos (by decide +kernel)]; kernel_rfl) | (rw [if_neg (by decide +kernel)]; exact ⟨rfl, rfl⟩))
    (fun os started H enc _ => lifted os started H enc)
theorem proved : Rows.NoncesValidCardSaid :=
  Claim7.holds_tied_plain_at .later [] [.data, .data] true (true, "ae6f700ea2bd30feb0747e63825e7d966e37b71281da2088991cb0a2928709ec") true
    holds (fun _ h => by cases h) (by kernel_rfl) (fun _ h => by cases h) noncesValid_row_tie rfl ⟨rfl, rfl⟩ (by kernel_rfl) rfl
    (fun f fn hf hfn => by
      obtain rfl : f = 7 := Option.some.inj ((show Tryd.prog.funcNamed Tryd.f7.name = some 7 by kernel_rfl).symm.trans hf) |>.symm
      obtain rfl : fn = Tryd.f7 := (Option.some.inj (Tryd.func7.symm.trans hfn)).symm
      exact ⟨by kernel_rfl, fun j t ht => by
        have hall : Tryd.f7.params.toList.all (fun t => !Tryd.prog.wantsStandIn t) = true := by kernel_rfl
        have hm : t ∈ Tryd.f7.params.toList := by
          obtain ⟨hj, rfl⟩ := Array.getElem?_eq_some_iff.1 ht
          simp
        have := List.all_eq_true.1 hall t hm
        exact (by simpa using this : Tryd.prog.wantsStandIn t = false)⟩)
    (by kernel_rfl)
#print axioms proved
end noncesValid
end Go.Proofs.YtamcgoplhnbmcaaDoor
