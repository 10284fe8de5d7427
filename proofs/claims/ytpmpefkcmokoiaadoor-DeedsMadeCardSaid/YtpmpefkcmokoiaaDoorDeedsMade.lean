/- signatorylaw49.DeedsMade returns true for every input; condition: the package variables digest.start and digest.numbers hold what the program lays in them (the card ties this). -/
import Derived.Test.YtpmpefkcmokoiaaDoorDa09
set_option linter.unusedSimpArgs false
set_option linter.unusedVariables false
set_option linter.unusedSectionVars false
namespace Go.Dee
open Go.Sg Go.NT
theorem keys_zero (n : Nat) (h : n ≤ 64) : keysD (List.replicate n 0) = true := by
  unfold keysD
  simp [h]
theorem getD_rep (n i : Nat) : (List.replicate n (0 : Int)).getD i 0 = 0 := by
  rw [List.getD_eq_getElem?_getD, List.getElem?_replicate]
  split <;> rfl
theorem keys_set {n p : Nat} {k : Int} (h : n ≤ 64) (hk : validS k = true) : keysD ((List.replicate n 0).set p k) = true := by
  unfold keysD
  rw [List.length_set, List.length_replicate, decide_eq_true h, Bool.and_true, List.all_eq_true]
  intro x hx
  rcases List.mem_or_eq_of_mem_set hx with hx | rfl
  · rw [List.eq_of_mem_replicate hx]; rfl
  · rw [hk]; simp
theorem keyOf_set {n : Nat} {p k : Int} (h0 : 0 ≤ p) (h : p.toNat < n) : Dee.keyOf ((List.replicate n 0).set p.toNat k) p = k := by
  unfold Dee.keyOf
  rw [List.getD_eq_getElem?_getD, List.getElem?_set, if_pos rfl, List.length_replicate, if_pos h]; rfl
theorem take_set {n p : Nat} {k : Int} (h : p ≤ n) : ((List.replicate n (0 : Int)).set p k).take p = List.replicate p 0 := by
  rw [List.take_set_of_le (Nat.le_refl _), List.take_replicate, Nat.min_eq_left h]
end Go.Dee
namespace Go.Sg
open Go.Rn Go.Proofs Go.Dee Go.Rec Go.RowKit Go.Sha Go.Cod Go.NT
attribute [local irreducible] powC makeE makeD idD idG idE textD sameF sameD strOf fineD keysD rightB rightE verS sigE sigS Go.Rn.RetsX Go.Rn.RunLN Go.Rn.AsyN Go.Rn.RunL Go.Rn.RunE Go.Rn.Asy Go.Rn.OpV Go.Rn.OpE Go.Rn.ExecE
set_option maxRecDepth 4000 in
set_option maxHeartbeats 8000000 in
theorem deedsMade_walk (x : Dr) (s : Int) (hs64 : -9223372036854775808 ≤ s ∧ s < 9223372036854775808) (W : World) (h : WfX W x) (hS : Row W 0 0 (vals init8.l)) (hkT : Row W 1 0 (vals kTab)) :
    Rets Tryd.prog 5 [.agg x.cells.toArray, .int .i64 s] W fun r w' => r = .bool true ∧ Ext W w' := by
  obtain ⟨hwf, hl, hl', hs, hb⟩ := h
  have c1 := fun w h h' => rfewD_ok x.d x.u x.v w h h'
  have hmf : formedD (askD x.d.person x.d.no x.d.at_ x.d.prev x.d.seen x.d.data) = formedD x.d := rfl
  have hst : sameF (askD x.d.person x.d.no x.d.at_ x.d.prev x.d.seen x.d.data) x.d = true := sameF_iff.2 ⟨rfl, rfl, rfl, rfl, rfl, rfl⟩
  have hwq : WfD (askD x.d.person x.d.no x.d.at_ x.d.prev x.d.seen x.d.data) := ⟨hwf.person, hwf.no, hwf.at_, ⟨by show (_ : Int) ≤ 0; decide, by show (0 : Int) < _; decide⟩, ⟨by show (_ : Int) ≤ 0; decide, by show (0 : Int) < _; decide⟩⟩
  have hq0 : (askD x.d.person x.d.no x.d.at_ x.d.prev x.d.seen x.d.data).person = x.d.person := rfl
  have c4 := fun (d : Deed) (e : Int) (hd : makeD s (askD x.d.person x.d.no x.d.at_ x.d.prev x.d.seen x.d.data) = d) (he : makeE s (askD x.d.person x.d.no x.d.at_ x.d.prev x.d.seen x.d.data) = e) w h h' h1 h2 => dMake_at hd he x.u x.v w hs64 h h' hl hl' h1 h2
  generalize hask : askD x.d.person x.d.no x.d.at_ x.d.prev x.d.seen x.d.data = q at *
  clear hask
  refine RetsX.of (nt := 138) Tryd.func5 (by kernel_rfl) rfl rfl (by simp) (by simp only [argEnv]; rfl) ?_
  have X := ExtB.refl (fun _ => False) W
  repeat' (first | refine RunE.seq ?_ | refine RunE.region ?_)
  refine RunL.box rfl rfl rfl fun B2 w2_ a_ => ?_
  have Z2 : Blk w2_ B2 (dCells x.d x.u x.v) 29 := a_.at_
  have gB2 := a_.ge X
  replace X := X.trans a_.ext
  clear a_
  repeat' (first | with_reducible refine RunLN.boolF rfl ?_ | refine RunL.ev Tryd.tOk rfl rfl rfl ?_ | refine RunE.seq ?_ | refine RunE.region ?_ | refine RunL.nil ?_)
  refine RunL.call rfl rfl rfl (l49_sane_ok _ (hS.up X) (hkT.up X)) ?_
  rintro _ _ ⟨rfl, Xa_⟩
  replace Z2 := Z2.up Xa_
  replace X := X.trans Xa_
  clear Xa_
  repeat' (first | with_reducible refine RunLN.boolF rfl ?_ | refine RunLN.any ?_ | refine RunL.ev Tryd.tOk rfl rfl rfl ?_ | refine RunL.evV rfl rfl rfl (OpV.loadN Tryd.tOk rfl rfl rfl rfl (Blk.row Z2)) ?_ | refine RunE.condF rfl rfl ?_ | refine RunE.seq ?_ | refine RunE.region ?_ | refine RunL.nil ?_ | refine RunE.skip ?_)
  refine RunL.call rfl rfl rfl (c1 _ (hs.up X) (hb.up X)) ?_
  rintro _ _ ⟨rfl, Xa_⟩
  replace Z2 := Z2.up Xa_
  replace X := X.trans Xa_
  clear Xa_
  cases fewD x.d with
  | false =>
    repeat' (first | with_reducible refine RunLN.boolT rfl ?_ | refine RunL.ev Tryd.tOk rfl rfl rfl ?_ | refine RunE.condT rfl rfl ?_ | refine RunE.seq ?_ | refine RunE.region ?_ | refine RunL.nil ?_)
    exact RunE.retFn Tryd.func5 (.tmp rfl .nil) ⟨rfl, X⟩
  | true =>
  clear c1
  by_cases he0 : makeE s q = 0
  rotate_left
  · have hd := make_bad he0
    have hwhy : s < 1 ∨ (1 ≤ s ∧ 1073741789 ≤ s) ∨ ((1 ≤ s ∧ s < 1073741789) ∧ formedD x.d = false) := by
      by_cases h1 : 1 ≤ s ∧ s < 1073741789
      · right; right
        refine ⟨h1, ?_⟩
        cases hf : formedD x.d with
        | false => rfl
        | true => exact absurd (makeE_ok (decide_eq_true h1) (hmf.trans hf)) he0
      · omega
    have c5 := c4 zeroD _ hd rfl
    generalize makeE s q = me at he0 c5
    clear c4 hd hst hwq
    have csd := fun u v w a b => rsameD_ok zeroD zeroD u v nilV nilV w a b IsSl.nil IsSl.nil (by decide) (by decide)
    rw [sameD_iff.2 rfl] at csd
    have cf := fun w h h' => rformed_dd x.d x.u x.v w h h' hl hl'
    repeat' (first | with_reducible refine RunLN.boolF rfl ?_ | (with_reducible refine RunLN.chk ?_; refine RunLN.int (by (first | (refine wr_i64 ?_ ?_; omega; omega) | (refine wm_i64 ?_; omega) | (refine wq_i64 ?_ ?_ ?_; omega; omega; omega) | rfl)) ?_) | refine RunLN.any ?_ | refine RunL.ev Tryd.tOk rfl rfl rfl ?_ | refine RunL.evV rfl rfl rfl (OpV.load1 Tryd.tOk rfl rfl rfl (Blk.cell Z2 rfl)) ?_ | refine RunL.evV rfl rfl rfl (OpV.loadN Tryd.tOk rfl rfl rfl rfl (row_prev (Blk.row Z2))) ?_ | refine RunE.condF rfl rfl ?_ | refine RunE.seq ?_ | refine RunE.region ?_ | refine RunL.nil ?_ | refine RunE.skip ?_)
    refine RunL.call rfl rfl rfl (c5 _ (hs.up X) (hb.up X) (hS.up X) (hkT.up X)) ?_
    rintro _ _ ⟨⟨ua, uc, va, vc, rfl, h9, k9⟩, Xa_⟩
    replace Z2 := Z2.up Xa_
    replace X := X.trans Xa_
    clear Xa_
    repeat' (first | (with_reducible refine RunLN.chk ?_; refine RunLN.int (by (first | (refine wr_i64 ?_ ?_; omega; omega) | (refine wm_i64 ?_; omega) | (refine wq_i64 ?_ ?_ ?_; omega; omega; omega) | rfl)) ?_) | refine RunLN.any ?_ | refine RunL.ev Tryd.tOk rfl rfl rfl ?_)
    refine RunL.alloc Tryd.tOk rfl rfl rfl fun B5 wa_ aa_ => ?_
    have gB5 := aa_.ge X
    refine RunL.storeW (vs := dCells zeroD (.slice ua 0 uc) (.slice va 0 vc)) Tryd.tOk rfl rfl rfl rfl rfl aa_.at_ rfl rfl fun w5_ tb_ => ?_
    have Xa_ : Ext _ w5_ := aa_.ext.write tb_.ext (by intro i_ hi_ hlt_; have := aa_.eq; omega)
    have Z5 : Blk w5_ B5 (dCells zeroD (.slice ua 0 uc) (.slice va 0 vc)) 29 := tb_.at_
    have n2_5 : B2 ≠ B5 := by have := Z2.lt; have := aa_.eq; omega
    have n5_2 : B5 ≠ B2 := Ne.symm n2_5
    replace Z2 := Z2.up Xa_
    replace h9 := h9.up Xa_
    replace k9 := k9.up Xa_
    replace X := X.trans Xa_
    clear Xa_ aa_ tb_
    repeat' (first | (with_reducible refine RunLN.neT ?_ ?_; focus omega) | (with_reducible refine RunLN.chk ?_; refine RunLN.int (by (first | (refine wr_i64 ?_ ?_; omega; omega) | (refine wm_i64 ?_; omega) | (refine wq_i64 ?_ ?_ ?_; omega; omega; omega) | rfl)) ?_) | refine RunLN.any ?_ | refine RunL.ev Tryd.tOk rfl rfl rfl ?_ | refine RunL.evV rfl rfl rfl (OpV.loadN Tryd.tOk rfl rfl rfl rfl (Blk.row Z5)) ?_ | refine RunE.condT rfl rfl ?_ | refine RunE.seq ?_ | refine RunE.region ?_ | refine RunL.nil ?_)
    refine RunL.call rfl rfl rfl (csd _ _ _ h9 k9) ?_
    rintro _ _ ⟨rfl, Xa_⟩
    replace Z2 := Z2.up Xa_
    replace X := X.trans Xa_
    clear Xa_
    rcases hwhy with h | h | ⟨h, hf⟩
    · repeat' (first | with_reducible refine RunLN.boolT rfl ?_ | (with_reducible refine RunLN.decT ?_ ?_; focus omega) | (with_reducible refine RunLN.chk ?_; refine RunLN.int (by (first | (refine wr_i64 ?_ ?_; omega; omega) | (refine wm_i64 ?_; omega) | (refine wq_i64 ?_ ?_ ?_; omega; omega; omega) | rfl)) ?_) | refine RunL.ev Tryd.tOk rfl rfl rfl ?_ | refine RunL.unwantedD rfl rfl ?_ | refine RunL.nil ?_)
      exact RunE.retFn Tryd.func5 (.tmp rfl .nil) ⟨rfl, X⟩
    · repeat' (first | with_reducible refine RunLN.boolT rfl ?_ | with_reducible refine RunLN.boolF rfl ?_ | (with_reducible refine RunLN.decT ?_ ?_; focus omega) | (with_reducible refine RunLN.decF ?_ ?_; focus omega) | (with_reducible refine RunLN.chk ?_; refine RunLN.int (by (first | (refine wr_i64 ?_ ?_; omega; omega) | (refine wm_i64 ?_; omega) | (refine wq_i64 ?_ ?_ ?_; omega; omega; omega) | rfl)) ?_) | refine RunL.ev Tryd.tOk rfl rfl rfl ?_ | refine RunL.unwantedD rfl rfl ?_ | refine RunL.nil ?_)
      exact RunE.retFn Tryd.func5 (.tmp rfl .nil) ⟨rfl, X⟩
    · rw [hf] at cf
      clear hmf hf
      repeat' (first | with_reducible refine RunLN.boolT rfl ?_ | with_reducible refine RunLN.boolF rfl ?_ | (with_reducible refine RunLN.decF ?_ ?_; focus omega) | (with_reducible refine RunLN.chk ?_; refine RunLN.int (by (first | (refine wr_i64 ?_ ?_; omega; omega) | (refine wm_i64 ?_; omega) | (refine wq_i64 ?_ ?_ ?_; omega; omega; omega) | rfl)) ?_) | refine RunLN.any ?_ | refine RunL.ev Tryd.tOk rfl rfl rfl ?_ | refine RunL.evV rfl rfl rfl (OpV.loadN Tryd.tOk rfl rfl rfl rfl (Blk.row Z2)) ?_)
      refine RunL.call rfl rfl rfl (cf _ (hs.up X) (hb.up X)) ?_
      rintro _ _ ⟨rfl, Xa_⟩
      replace X := X.trans Xa_
      clear Xa_
      repeat' (first | with_reducible refine RunLN.boolT rfl ?_ | refine RunL.ev Tryd.tOk rfl rfl rfl ?_ | refine RunL.nil ?_)
      exact RunE.retFn Tryd.func5 (.tmp rfl .nil) ⟨rfl, X⟩
  obtain ⟨hinq, hqf, hmd⟩ := make_good he0
  obtain ⟨hdf, hdt, hds⟩ := make_form he0
  have hdw := wf_make (x := s) hwq
  have hfine := fun ks (h1 : q.person < ((ks : List Int).length : Int)) h2 => make_fine (ks := ks) he0 h1 h2
  have hver := ver_sign (textD q) hinq
  have hde : (makeD s q).e = sigE s (textD q) ∧ (makeD s q).s = sigS s (textD q) := by rw [hmd]; exact ⟨rfl, rfl⟩
  have hdp : (makeD s q).person = x.d.person := by rw [hmd]; exact hq0
  have hsx : sameF (makeD s q) x.d = true := sameF_trans hds hst
  obtain ⟨⟨p0, p1, -, -, -, -, sl, dl⟩, -⟩ := formedD_inv hdf
  rw [← hde.1, ← hde.2, ← hdt] at hver
  have c5 := c4 _ _ rfl he0
  have hkv := powC_valid v4 s
  have hkb := validS_bd hkv
  have cp := pow4_at (n := s) rfl
  rw [hq0] at hfine
  generalize makeD s q = md at *
  generalize powC 4 s = key at *
  clear c4 hmf hst hwq hq0 hqf hmd hdt hds hde he0 hinq
  rw [hdp] at p0 p1
  have hnp : x.d.person.toNat < x.d.person.toNat + 1 := Nat.lt_succ_self _
  have hpe : ((x.d.person.toNat : Nat) : Int) = x.d.person := by omega
  have cs := fun u v w a b c d => rsameF_ok md x.d u v x.u x.v w a b c d (by omega) hl
  rw [hsx] at cs
  have r1 : rightB (List.replicate (x.d.person.toNat + 1) 0) md = false := by
    unfold rightB
    rw [fine_none (by unfold Dee.keyOf; exact getD_rep _ _), Bool.and_false]
  have e1 : rightE (List.replicate (x.d.person.toNat + 1) 0) = 0 := by unfold rightE; rw [keys_zero _ (by omega)]; rfl
  have r2 : rightB ((List.replicate (x.d.person.toNat + 1) 0).set x.d.person.toNat key) md = true := by
    unfold rightB
    rw [keys_set (by omega) hkv, hfine _ (by rw [List.length_set, List.length_replicate]; omega) (keyOf_set p0 hnp)]; rfl
  have e2 : rightE ((List.replicate (x.d.person.toNat + 1) 0).set x.d.person.toNat key) = 0 := by unfold rightE; rw [keys_set (by omega) hkv]; rfl
  have r3 : rightB (List.replicate x.d.person.toNat 0) md = false := by
    unfold rightB
    rw [fine_far (by rw [hdp, List.length_replicate]; omega), Bool.and_false]
  have e3 : rightE (List.replicate x.d.person.toNat 0) = 0 := by unfold rightE; rw [keys_zero _ (by omega)]; rfl
  have z0 : ∀ n, KsI (List.replicate n 0) := fun n k hk => by rw [List.eq_of_mem_replicate hk]; omega
  have k1 := fun kv u v w a b c d e => dRight_ok (List.replicate (x.d.person.toNat + 1) 0) kv md u v w a (by rw [List.length_replicate]; omega) (z0 _) hdw b c (by omega) (by omega) d e
  have k2 := fun kv u v w a b c d e => dRight_ok ((List.replicate (x.d.person.toNat + 1) 0).set x.d.person.toNat key) kv md u v w a (by rw [List.length_set, List.length_replicate]; omega) (fun k hk => by
    rcases List.mem_or_eq_of_mem_set hk with hk | rfl
    · exact z0 _ k hk
    · omega) hdw b c (by omega) (by omega) d e
  have k3 := fun kv u v w a b c d e => dRight_ok (List.replicate x.d.person.toNat 0) kv md u v w a (by rw [List.length_replicate]; omega) (z0 _) hdw b c (by omega) (by omega) d e
  rw [r1, e1] at k1
  rw [r2, e2] at k2
  rw [r3, e3] at k3
  have ct := fun u v w h h' => rText_ok md u v w h h' hdf
  have cv := fun r w h => verify_ok key md.e md.s r (textD md) w (by omega) hdw.e hdw.s h (Nat.le_trans (text_len hdf) (by decide))
  rw [hver] at cv
  clear r1 e1 r2 e2 r3 e3 z0 hfine hver hsx hdf hkv hdw
  repeat' (first | with_reducible refine RunLN.boolF rfl ?_ | (with_reducible refine RunLN.chk ?_; refine RunLN.int (by (first | (refine wr_i64 ?_ ?_; omega; omega) | (refine wm_i64 ?_; omega) | (refine wq_i64 ?_ ?_ ?_; omega; omega; omega) | rfl)) ?_) | refine RunLN.any ?_ | refine RunL.ev Tryd.tOk rfl rfl rfl ?_ | refine RunL.evV rfl rfl rfl (OpV.load1 Tryd.tOk rfl rfl rfl (Blk.cell Z2 rfl)) ?_ | refine RunL.evV rfl rfl rfl (OpV.loadN Tryd.tOk rfl rfl rfl rfl (row_prev (Blk.row Z2))) ?_ | refine RunE.condF rfl rfl ?_ | refine RunE.seq ?_ | refine RunE.region ?_ | refine RunL.nil ?_ | refine RunE.skip ?_)
  refine RunL.call rfl rfl rfl (c5 _ (hs.up X) (hb.up X) (hS.up X) (hkT.up X)) ?_
  rintro _ _ ⟨⟨ua, uc, va, vc, rfl, h9, k9⟩, Xa_⟩
  replace Z2 := Z2.up Xa_
  replace X := X.trans Xa_
  clear Xa_
  repeat' (first | (with_reducible refine RunLN.chk ?_; refine RunLN.int (by (first | (refine wr_i64 ?_ ?_; omega; omega) | (refine wm_i64 ?_; omega) | (refine wq_i64 ?_ ?_ ?_; omega; omega; omega) | rfl)) ?_) | refine RunLN.any ?_ | refine RunL.ev Tryd.tOk rfl rfl rfl ?_)
  refine RunL.alloc Tryd.tOk rfl rfl rfl fun B5 wa_ aa_ => ?_
  have gB5 := aa_.ge X
  refine RunL.storeW (vs := dCells md (.slice ua md.seen.length uc) (.slice va md.data.length vc)) Tryd.tOk rfl rfl rfl rfl rfl aa_.at_ rfl rfl fun w5_ tb_ => ?_
  have Xa_ : Ext _ w5_ := aa_.ext.write tb_.ext (by intro i_ hi_ hlt_; have := aa_.eq; omega)
  have Z5 : Blk w5_ B5 (dCells md (.slice ua md.seen.length uc) (.slice va md.data.length vc)) 29 := tb_.at_
  have n2_5 : B2 ≠ B5 := by have := Z2.lt; have := aa_.eq; omega
  have n5_2 : B5 ≠ B2 := Ne.symm n2_5
  replace Z2 := Z2.up Xa_
  replace h9 := h9.up Xa_
  replace k9 := k9.up Xa_
  replace X := X.trans Xa_
  clear Xa_ aa_ tb_
  repeat' (first | with_reducible refine RunLN.boolF rfl ?_ | (with_reducible refine RunLN.chk ?_; refine RunLN.int (by (first | (refine wr_i64 ?_ ?_; omega; omega) | (refine wm_i64 ?_; omega) | (refine wq_i64 ?_ ?_ ?_; omega; omega; omega) | rfl)) ?_) | refine RunL.ev Tryd.tOk rfl rfl rfl ?_ | refine RunE.condF rfl rfl ?_ | refine RunE.seq ?_ | refine RunE.region ?_ | refine RunL.nil ?_ | refine RunE.skip ?_)
  refine RunL.call rfl rfl rfl (cp _) ?_
  rintro _ _ ⟨rfl, Xa_⟩
  replace Z2 := Z2.up Xa_
  replace Z5 := Z5.up Xa_
  replace h9 := h9.up Xa_
  replace k9 := k9.up Xa_
  replace X := X.trans Xa_
  clear Xa_
  repeat' (first | with_reducible refine RunLN.boolF rfl ?_ | (with_reducible refine RunLN.chk ?_; refine RunLN.int (by (first | (refine wr_i64 ?_ ?_; omega; omega) | (refine wm_i64 ?_; omega) | (refine wq_i64 ?_ ?_ ?_; omega; omega; omega) | rfl)) ?_) | refine RunLN.any ?_ | refine RunL.ev Tryd.tOk rfl rfl rfl ?_ | refine RunL.evV rfl rfl rfl (OpV.loadN Tryd.tOk rfl rfl rfl rfl (Blk.row Z2)) ?_ | refine RunL.evV rfl rfl rfl (OpV.loadN Tryd.tOk rfl rfl rfl rfl (Blk.row Z5)) ?_ | refine RunE.seq ?_ | refine RunE.region ?_ | refine RunL.nil ?_)
  refine RunL.call rfl rfl rfl (cs _ _ _ h9 k9 (hs.up X) (hb.up X)) ?_
  rintro _ _ ⟨rfl, Xa_⟩
  replace Z2 := Z2.up Xa_
  replace Z5 := Z5.up Xa_
  replace h9 := h9.up Xa_
  replace k9 := k9.up Xa_
  replace X := X.trans Xa_
  clear Xa_
  clear cp cs c5
  repeat' (first | with_reducible refine RunLN.boolF rfl ?_ | (with_reducible refine RunLN.decF ?_ ?_; focus omega) | (with_reducible refine RunLN.chk ?_; refine RunLN.int (by (first | (refine wr_i64 ?_ ?_; omega; omega) | (refine wm_i64 ?_; omega) | (refine wq_i64 ?_ ?_ ?_; omega; omega; omega) | rfl)) ?_) | refine RunLN.any ?_ | refine RunL.ev Tryd.tOk rfl rfl rfl ?_ | refine RunL.evV rfl rfl rfl (OpV.load1 Tryd.tOk rfl rfl rfl (Blk.cell Z2 rfl)) ?_ | refine RunE.condF rfl rfl ?_ | refine RunE.seq ?_ | refine RunE.region ?_ | refine RunL.nil ?_ | refine RunE.skip ?_)
  refine RunL.ex rfl rfl rfl (OpE.makeL encIn Tryd.tOk (x.d.person.toNat + 1) 0 rfl rfl rfl rfl rfl (by omega) (by omega) (by show 8 * _ ≤ _; omega) (by omega)) ?_
  rintro _ w7 ⟨⟨Bk, rfl, gk, Zk⟩, hk7, Xa_⟩
  have n2k : B2 ≠ Bk := by have := Z2.lt; omega
  have n5k : B5 ≠ Bk := by have := Z5.lt; omega
  have gkW : W.heap.size ≤ Bk := Nat.le_trans X.size gk
  replace Z2 := Z2.up Xa_
  replace Z5 := Z5.up Xa_
  have u9 : md.seen.length ≠ 0 → ∀ k, (Value.slice ua md.seen.length uc).ownBlock = some k → k ≠ Bk := fun hne k hk => by have := h9.lt (by omega) (by decide) hk; omega
  have v9 : md.data.length ≠ 0 → ∀ k, (Value.slice va md.data.length vc).ownBlock = some k → k ≠ Bk := fun hne k hk => by have := k9.lt (by omega) (by decide) hk; omega
  replace h9 := h9.up Xa_
  replace k9 := k9.up Xa_
  replace X := X.trans Xa_
  clear Xa_ gk
  repeat' (first | refine RunLN.any ?_ | refine RunL.ev Tryd.tOk rfl rfl rfl ?_ | refine RunL.evV rfl rfl rfl (OpV.loadN Tryd.tOk rfl rfl rfl rfl (Blk.row Z5)) ?_ | refine RunE.seq ?_ | refine RunE.region ?_ | refine RunL.nil ?_)
  refine RunL.call rfl rfl rfl (k1 _ _ _ _ hk7 h9 k9 (hS.up X) (hkT.up X)) ?_
  rintro _ _ ⟨rfl, Xa_⟩
  replace Z2 := Z2.up Xa_
  replace Z5 := Z5.up Xa_
  replace h9 := h9.up Xa_
  replace k9 := k9.up Xa_
  replace Zk := Zk.up Xa_
  replace X := X.trans Xa_
  clear Xa_
  clear k1 hk7
  repeat' (first | with_reducible refine RunLN.boolF rfl ?_ | (with_reducible refine RunLN.chk ?_; refine RunLN.int (by (first | (refine wr_i64 ?_ ?_; omega; omega) | (refine wm_i64 ?_; omega) | (refine wq_i64 ?_ ?_ ?_; omega; omega; omega) | rfl)) ?_) | refine RunLN.any ?_ | refine RunL.ev Tryd.tOk rfl rfl rfl ?_ | refine RunL.evV rfl rfl rfl (OpV.load1 Tryd.tOk rfl rfl rfl (Blk.cell Z2 rfl)) ?_ | refine RunL.evV rfl rfl rfl (OpV.indexS Tryd.tOk (x.d.person.toNat) rfl rfl rfl (by first | rfl | omega) (by omega)) ?_ | refine RunE.seq ?_ | refine RunE.region ?_ | refine RunL.nil ?_)
  refine RunL.storeFlat Tryd.tOk encIn x.d.person.toNat key rfl rfl rfl rfl rfl rfl Zk (by rw [List.length_replicate]; exact hnp) fun w8 t8 => ?_
  replace Z2 := Z2.other t8.ext n2k
  replace Z5 := Z5.other t8.ext n5k
  replace h9 : LDg w8 (.slice ua md.seen.length uc) md.seen := isL_ext h9 t8.ext fun hne k hk => u9 (fun h => hne (List.length_eq_zero_iff.1 h)) k hk
  replace k9 : LBy w8 (.slice va md.data.length vc) md.data := by
    by_cases hne : md.data.length = 0
    · have : md.data = [] := List.length_eq_zero_iff.1 hne
      rw [this] at k9 ⊢
      rcases k9.inv with ⟨d, h, -⟩ | ⟨b, o, c, h, hr, -⟩
      · rw [h]; exact IsSl.nil
      · rw [h]; exact .row (fun i v hv => by simp [bytesV] at hv) rfl (Nat.zero_le _)
    · exact k9.ext t8.ext (v9 hne)
  have hk8 : LIn w8 (.slice (some ⟨Bk, 0, none⟩) (x.d.person.toNat + 1) (x.d.person.toNat + 1)) ((List.replicate (x.d.person.toNat + 1) 0).set x.d.person.toNat key) := by
    have hlen : ((List.replicate (x.d.person.toNat + 1) (0 : Int)).set x.d.person.toNat key).length = x.d.person.toNat + 1 := by rw [List.length_set, List.length_replicate]
    show IsSl _ _ _ _ _
    rw [hlen]
    exact .row (Blk.row (show Blk w8 Bk _ _ from t8.at_)) (by rw [flat_length encIn, hlen]) (Nat.le_refl _)
  replace X := X.own t8.ext gkW
  clear t8 Zk u9 v9
  repeat' (first | refine RunLN.any ?_ | refine RunL.ev Tryd.tOk rfl rfl rfl ?_ | refine RunL.evV rfl rfl rfl (OpV.loadN Tryd.tOk rfl rfl rfl rfl (Blk.row Z5)) ?_ | refine RunE.seq ?_ | refine RunE.region ?_ | refine RunL.nil ?_)
  refine RunL.call rfl rfl rfl (k2 _ _ _ _ hk8 h9 k9 (hS.up X) (hkT.up X)) ?_
  rintro _ _ ⟨rfl, Xa_⟩
  replace Z2 := Z2.up Xa_
  replace Z5 := Z5.up Xa_
  replace h9 := h9.up Xa_
  replace k9 := k9.up Xa_
  replace hk8 := hk8.up Xa_
  replace X := X.trans Xa_
  clear Xa_
  clear k2
  have hk9 : ∀ w', Ext w8 w' → True := fun _ _ => trivial
  clear hk9
  repeat' (first | with_reducible refine RunLN.boolT rfl ?_ | (with_reducible refine RunLN.chk ?_; refine RunLN.int (by (first | (refine wr_i64 ?_ ?_; omega; omega) | (refine wm_i64 ?_; omega) | (refine wq_i64 ?_ ?_ ?_; omega; omega; omega) | rfl)) ?_) | refine RunLN.any ?_ | refine RunL.ev Tryd.tOk rfl rfl rfl ?_ | refine RunE.seq ?_ | refine RunL.nil ?_)
  obtain ⟨b9, o9, cc9, hbe, hr9, hc9⟩ := isL_held hk8 (i := 0) (by rw [List.length_set, List.length_replicate]; omega)
  have hkf : ∀ w', Ext _ w' → LIn w' (.slice (some ⟨Bk, 0, none⟩) x.d.person.toNat (x.d.person.toNat + 1)) (List.replicate x.d.person.toNat 0) := fun w' e => by
    have h8 := hk8.up e
    have hlen : ((List.replicate (x.d.person.toNat + 1) (0 : Int)).set x.d.person.toNat key).length = x.d.person.toNat + 1 := by rw [List.length_set, List.length_replicate]
    rcases h8.inv with ⟨d, h, -⟩ | ⟨b, o, c, h, hr, -⟩
    · simp at h
    · simp only [Value.slice.injEq, Option.some.injEq, Addr.mk.injEq] at h
      obtain ⟨⟨rfl, rfl, -⟩, -, rfl⟩ := h
      show IsSl _ _ _ _ _
      rw [List.length_replicate]
      refine .row ?_ (by rw [flat_length encIn, List.length_replicate]) (by omega)
      rw [← take_set (k := key) (show x.d.person.toNat ≤ x.d.person.toNat + 1 by omega), ← flat_take encIn]
      exact hr.take _
  clear hbe hr9 hc9 b9 o9 cc9 hk8
  refine RunE.draw (fun _ => False) mix ?_
  intro wd_ Xd_
  repeat' (first | (with_reducible refine AsyN.chk ?_; refine AsyN.int (by (first | (refine wr_i64 ?_ ?_; omega; omega) | (refine wm_i64 ?_; omega) | (refine wq_i64 ?_ ?_ ?_; omega; omega; omega) | rfl)) ?_) | refine AsyN.any ?_ | refine Asy.ev Tryd.tOk rfl rfl rfl ?_ | refine Asy.evV rfl rfl rfl rfl (fun _ X_ => OpV.load1 Tryd.tOk rfl rfl rfl (Blk.cell (Z2.up (Xd_.trans X_)) rfl)) ?_)
  refine Asy.evV rfl rfl rfl rfl (fun _ X_ => OpV.sliceSq (lo := 0) (hi := x.d.person.toNat) (q := 0) (len := x.d.person.toNat) (cap := x.d.person.toNat + 1) Tryd.tOk rfl rfl .none (.some rfl hpe.symm) (Nat.zero_le _) (by omega) (by unfold offOf; split <;> rfl) rfl rfl) ?_
  repeat' (first | with_reducible refine AsyN.boolF rfl ?_ | (with_reducible refine AsyN.chk ?_; refine AsyN.int (by (first | (refine wr_i64 ?_ ?_; omega; omega) | (refine wm_i64 ?_; omega) | (refine wq_i64 ?_ ?_ ?_; omega; omega; omega) | rfl)) ?_) | refine AsyN.any ?_ | refine Asy.ev Tryd.tOk rfl rfl rfl ?_ | refine Asy.evV rfl rfl rfl rfl (fun _ X_ => OpV.loadN Tryd.tOk rfl rfl rfl rfl (Blk.row (Z5.up (Xd_.trans X_)))) ?_ | refine Asy.callN rfl rfl rfl (fun _ X_ => (k3 _ _ _ _ (hkf _ (Xd_.trans X_)) (h9.up (Xd_.trans X_)) (k9.up (Xd_.trans X_)) (hS.up (X.trans (Xd_.trans X_))) (hkT.up (X.trans (Xd_.trans X_))))) ?_)
  refine Asy.end_ (by kernel_rfl) ?_
  intro we_ Xe_
  replace Xe_ := Xd_.trans Xe_
  replace Z2 := Z2.up Xe_
  replace Z5 := Z5.up Xe_
  replace h9 := h9.up Xe_
  replace k9 := k9.up Xe_
  replace X := X.trans Xe_
  clear Xd_ Xe_ hkf k3
  repeat' (first | refine RunE.seq ?_ | refine RunL.nil ?_)
  refine RunE.draw (fun _ => False) mix ?_
  intro wd_ Xd_
  repeat' (first | with_reducible refine AsyN.boolT rfl ?_ | with_reducible refine AsyN.boolF rfl ?_ | (with_reducible refine AsyN.chk ?_; refine AsyN.int (by (first | (refine wr_i64 ?_ ?_; omega; omega) | (refine wm_i64 ?_; omega) | (refine wq_i64 ?_ ?_ ?_; omega; omega; omega) | rfl)) ?_) | refine AsyN.any ?_ | refine Asy.ev Tryd.tOk rfl rfl rfl ?_ | refine Asy.evV rfl rfl rfl rfl (fun _ X_ => OpV.loadN Tryd.tOk rfl rfl rfl rfl (Blk.row (Z5.up (Xd_.trans X_)))) ?_)
  refine Asy.sat0 (fun q w' => LBy w' q (textD md)) rfl rfl rfl rfl (fun q w' w'' _ e h => h.up e) (fun w' e => ?_) ?_
  · refine OpE.mono (OpE.call rfl (ct _ _ _ (h9.up (Xd_.trans e)) (k9.up (Xd_.trans e)))) ?_ fun _ _ h => h
    rintro r w'' ⟨h1, h2⟩
    exact ⟨h2, isSl_own h1⟩
  repeat' (first | refine AsyN.any ?_ | refine Asy.ev Tryd.tOk rfl rfl rfl ?_ | refine Asy.evV rfl rfl rfl rfl (fun _ X_ => OpV.loadN Tryd.tOk rfl rfl rfl rfl ((row_sig (Blk.row Z5)).up (Xd_.trans X_))) ?_)
  refine Asy.val1 0 (v := .bool true) rfl rfl rfl rfl rfl rfl (fun w' q e hx => OpE.call rfl (cv q w' hx (hS.up (X.trans (Xd_.trans e))) (hkT.up (X.trans (Xd_.trans e))))) ?_
  repeat' (first | with_reducible refine AsyN.boolT rfl ?_ | refine Asy.ev Tryd.tOk rfl rfl rfl ?_)
  refine Asy.tail (by kernel_rfl) ?_
  intro we_ Xe_
  simp only [satsAll]
  rintro _ -
  replace X := X.trans (Xd_.trans Xe_)
  clear Xd_ Xe_
  repeat' (first | refine RunL.nil ?_)
  exact RunE.retFn Tryd.func5 (.tmp rfl .nil) ⟨rfl, X⟩
end Go.Sg
namespace Go.Proofs.YtpmpefkcmokoiaaDoor
open Go.ChangeShapes Go.WideShapes Go.ChangeAt Go.RowKit Go.Sg
namespace deedsMade
theorem own : ownKnob Tryd.prog.godebug = none := by kernel_rfl
theorem laidOut : laidOutB Tryd.prog = true := by kernel_rfl
theorem door_met (os : Os) (args : Array Value) : laidMetH Tryd.prog Rows.deedsMadeRow.laid ((World.doorLaid Tryd.prog 19 os).forCall (fun _ _ => 0) ⟨#[], args, []⟩).memory :=
  laidMetH_of_parts3 (fuel := 8) (laidMet_of_run' 8 (by kernel_rfl) (by kernel_rfl)) (by kernel_rfl) (by kernel_rfl)
set_option maxRecDepth 100000 in
theorem lifted (os : Os) (started : os.Started) (H : Type) (enc : TypeId × Value → H) :
    ReturnsInHanded {} Tryd.checked os 5 .any (fun w args => (Rows.deedsMadeSpec.pre enc Tryd.prog Tryd.f5 [] false w args ∧ laidMetH Tryd.prog Rows.deedsMadeRow.laid w) ∧ sizedMet enc Tryd.prog Tryd.f5 (OpenSpec.ofChange Rows.deedsMadeSpec) false w args)
      (Rows.deedsMadeSpec.post enc Tryd.prog Tryd.f5 false true false false) := by
  refine returnsInHanded_of_change_and (C := Tryd.checked) (X := fun w _ => laidMetH Tryd.prog Rows.deedsMadeRow.laid w) (fun _ _ _ hh h => h.of_heap hh) own started (by kernel_rfl) Tryd.func5
    (ChangeSpec.witness_shaped (enc := enc) (C := Tryd.checked) (os := os) (X := fun w _ => laidMetH Tryd.prog Rows.deedsMadeRow.laid w) false (World.doorLaid Tryd.prog 19 os) #[.agg (Go.Dee.Dr.cells Go.Dee.zeroR).toArray, .int .i64 0] 8 rfl (World.shaped_of_RefB (by kernel_rfl) (by kernel_rfl)) (by kernel_rfl) (by kernel_rfl) (by kernel_rfl) (door_met os _)) ?_
  intro W base args ds gs before hval0 hW _ _ hL _
  have hval : ∀ (j : Nat) t v, Tryd.f5.params[j]? = some t → args[j]? = some v → Value.okWide Tryd.prog W .any base t v := hval0
  have hW' := hW
  obtain ⟨p, q, hA0, hV, rfl, hfz, hnd⟩ := hW
  have hA : DataW.TrodAll enc Tryd.prog W 0 (fun _ => true) true Tryd.f5.params.toList args.toList ds p := hA0
  rw [Tryd.params5] at hA hval
  obtain ⟨v0, vs0, d0, ds0, p0, q0, hargs, rfl, rfl, h0, r0⟩ := trodAll_cons hA
  obtain ⟨v1, vs1, d1, ds1, p1, q1, rfl, rfl, rfl, h1, r1⟩ := trodAll_cons r0
  obtain ⟨rfl, rfl, rfl⟩ := trodAll_nil r1
  obtain rfl : args = #[v0, v1] := by cases args; simp_all
  obtain ⟨x0, rfl, m0⟩ := deed_open (hval 0 29 v0 rfl rfl) h0
  obtain ⟨a1, rfl, rfl, rfl, w1⟩ := open_int Tryd.underlying3 (hval 1 3 v1 rfl rfl) h1
  have L0 := start_of_laid (by kernel_rfl) rfl (.head _) hL
  have L1 := numbers_of_laid (by kernel_rfl) rfl (.tail _ (.head _)) hL
  refine (Rets.calls (deedsMade_walk x0 a1 (i64_of_wf w1) W m0 L0 L1)).mono fun e W' he => ?_
  obtain ⟨_, rfl, rfl, hx⟩ := he
  exact ⟨_, rfl, law_post (t := 4) laidOut (by kernel_rfl) (by kernel_rfl) (by kernel_rfl) rfl (fun ds h => by
    rcases ds with _ | ⟨_, _ | ⟨_, _ | ⟨_, _⟩⟩⟩ <;> first | rfl | (exact absurd h (by decide)) | (simp at h)) hW' hx⟩

theorem holds : Rows.DeedsMadeSaid :=
  OpenClaim.holds_of_wide 5 Tryd.f5 rfl rfl rfl rfl rfl rfl rfl ⟨rfl, rfl, rfl, rfl, rfl⟩ rfl rfl rfl rfl rfl (by kernel_rfl) Tryd.func5 (by kernel_rfl)
    (of_decide_eq_true (by kernel_rfl)) (by unfold Func.isWrapper; first | (rw [if_pos (by decide +kernel)]; kernel_rfl) | (rw [if_neg (by decide +kernel)]; exact ⟨rfl, rfl⟩))
    (fun os started H enc _ => lifted os started H enc)
theorem proved : Rows.DeedsMadeCardSaid :=
  Claim7.holds_tied_plain_at .later [] [.data, .data] true (true, "b4bd5900933cd1c32d7ed6686b9c79531316ce8527525fd23780c777f75ab3e5") true
    holds (fun _ h => by cases h) (by kernel_rfl) (fun _ h => by cases h) deedsMade_row_tie rfl ⟨rfl, rfl⟩ (by kernel_rfl) rfl
    (fun f fn hf hfn => by
      obtain rfl : f = 5 := Option.some.inj ((show Tryd.prog.funcNamed Tryd.f5.name = some 5 by kernel_rfl).symm.trans hf) |>.symm
      obtain rfl : fn = Tryd.f5 := (Option.some.inj (Tryd.func5.symm.trans hfn)).symm
      exact ⟨by kernel_rfl, fun j t ht => by
        have hall : Tryd.f5.params.toList.all (fun t => !Tryd.prog.wantsStandIn t) = true := by kernel_rfl
        have hm : t ∈ Tryd.f5.params.toList := by
          obtain ⟨hj, rfl⟩ := Array.getElem?_eq_some_iff.1 ht
          simp
        have := List.all_eq_true.1 hall t hm
        exact (by simpa using this : Tryd.prog.wantsStandIn t = false)⟩)
    (by kernel_rfl)
#print axioms proved
end deedsMade
end Go.Proofs.YtpmpefkcmokoiaaDoor
