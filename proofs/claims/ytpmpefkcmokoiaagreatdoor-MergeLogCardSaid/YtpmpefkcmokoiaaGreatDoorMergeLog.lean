/- signatorylaw50.MergeLog returns true for every input; condition: the package variables digest.start and digest.numbers hold what the program lays in them (the card ties this). -/
import Derived.Test.YtpmpefkcmokoiaaGreatDoorMerK
import Derived.Test.YtpmpefkcmokoiaaGreatDoorMg08
set_option linter.unusedSimpArgs false
set_option linter.unusedVariables false
set_option linter.unusedSectionVars false
set_option maxRecDepth 4000
namespace Go.Sg
open Go.Rn Go.Proofs Go.Dee Go.Mer Go.Rec Go.RowKit Go.Sha Go.Cod Go.NT
attribute [local irreducible] restsD fineD provesB chkM mergeD liarsL leftL thereL chkP mapF chkE Go.Rn.RetsX Go.Rn.RunLN Go.Rn.AsyN Go.Rn.RunL Go.Rn.RunE Go.Rn.Asy Go.Rn.OpV Go.Rn.OpE Go.Rn.ExecE
set_option maxHeartbeats 16000000 in
theorem mergeLog_walk (kv : Value) (ks : List Int) (lv : Value) (ls : List Ll) (W : World) (hkb : ks.length < 9223372036854775808 ∧ KsI ks) (hk : LIn W kv ks) (h : InL W lv ls) (hS : Row W 0 0 (vals init8.l)) (hkT : Row W 1 0 (vals kTab)) :
    Rets Tryz.prog 5 [kv, lv] W fun r w' => r = .bool true ∧ Ext W w' := by
  obtain ⟨hkl, hki⟩ := hkb
  have cR := fun w' (e : Ext W w') => lright_ok ks kv ls lv w' (hk.up e) hkl (h.at_.up e) h.few (fun x hx => (h.part x hx).up e) (fun x hx => (h.wf x hx).up e) h.small
  have hat := h.at_
  have hpart := h.part
  have hwf := h.wf
  have heach := h.each
  refine RetsX.of (nt := 163) Tryz.func5 (by kernel_rfl) rfl rfl (by simp) (by simp only [argEnv]; rfl) ?_
  have X := ExtB.refl (fun _ => False) W
  repeat' (first | with_reducible refine RunLN.boolF rfl ?_ | refine RunL.ev Tryz.tOk rfl rfl rfl ?_ | refine RunE.seq ?_ | refine RunE.region ?_ | refine RunL.nil ?_)
  refine RunL.call rfl rfl rfl (lsane_ok _ (hS.up X) (hkT.up X)) ?_
  rintro _ _ ⟨rfl, Xa_⟩
  replace X := X.trans Xa_
  clear Xa_
  repeat' (first | with_reducible refine RunLN.boolF rfl ?_ | refine RunLN.any ?_ | refine RunL.ev Tryz.tOk rfl rfl rfl ?_ | refine RunE.condF rfl rfl ?_ | refine RunE.seq ?_ | refine RunE.region ?_ | refine RunL.nil ?_ | refine RunE.skip ?_)
  refine RunL.call rfl rfl rfl (cR _ X) ?_
  rintro _ w5 ⟨⟨b, rfl, hb⟩, Xa_⟩
  replace X := X.trans Xa_
  clear Xa_ cR
  cases b with
  | false =>
    repeat' (first | with_reducible refine RunLN.boolT rfl ?_ | refine RunL.ev Tryz.tOk rfl rfl rfl ?_ | refine RunE.condT rfl rfl ?_ | refine RunE.seq ?_ | refine RunE.region ?_ | refine RunL.nil ?_)
    exact RunE.retFn Tryz.func5 (.tmp rfl .nil) ⟨rfl, X⟩
  | true =>
  obtain ⟨h40, -, hc⟩ := hb rfl
  obtain ⟨hkd, hl64, -⟩ := chkM_zero hc
  clear hb
  rw [chkP_map] at hc
  have hi1 : InP W lv (ls.map Ll.l) := h.inP
  have hwf' := hwf
  rw [allD_flat] at hwf'
  repeat' (first | with_reducible refine RunLN.boolF rfl ?_ | refine RunLN.any ?_ | refine RunL.ev Tryz.tOk rfl rfl rfl ?_ | refine RunE.condF rfl rfl ?_ | refine RunE.seq ?_ | refine RunE.region ?_ | refine RunL.nil ?_ | refine RunE.skip ?_)
  refine RunL.call rfl rfl rfl (pMerge_ok hc hki hkl (hk.up X) (hi1.up X) (fun z hz => (hwf' z hz).up X) (hS.up X) (hkT.up X)) ?_
  rintro _ w6 ⟨⟨u5, out, rfl, h5, e5, m5⟩, Xa_⟩
  replace X := X.trans Xa_
  clear Xa_
  repeat' (first | (with_reducible refine RunLN.chk ?_; refine RunLN.int (by (first | (refine wr_i64 ?_ ?_; omega; omega) | (refine wm_i64 ?_; omega) | (refine wq_i64 ?_ ?_ ?_; omega; omega; omega) | rfl)) ?_) | refine RunLN.any ?_ | refine RunL.ev Tryz.tOk rfl rfl rfl ?_ | refine RunE.seq ?_ | refine RunE.region ?_ | refine RunL.nil ?_)
  refine RunL.call rfl rfl rfl (pLiars_ok hc hki hkl (hk.up X) (hi1.up X) (fun z hz => (hwf' z hz).up X) (hS.up X) (hkT.up X)) ?_
  rintro _ w7 ⟨⟨u7, fs, rfl, h7, e7, -⟩, Xa_⟩
  replace X := X.trans Xa_
  replace h5 := h5.up Xa_
  clear Xa_ hwf' hi1 hc
  rw [← allD_flat] at e5 m5 e7
  have hfl : fs.length ≤ 64 := by rw [lenF e7]; exact liars_len _
  have hol' : out.length ≤ 40 := by
    have h1 := merge_len ks ((allD ls).map Dr.d)
    have h2 := lenM e5
    rw [List.length_map, allD_len] at h1
    omega
  have hol : out.length < 9223372036854775808 := by omega
  have hlog : logD ks (out.map Dr.d) = true := by rw [e5]; exact merge_log ks _
  have hce : chkE ks (out.map Dr.d) = 0 := chk_good hkd (by rw [List.length_map]; omega) hlog
  have wout : ∀ z ∈ out, WfX w7 z := fun z hz => (hwf z (m5 z hz)).up X
  have hforks := fun p => forks_at e7 p
  have hmem : ∀ z ∈ out, ∀ n, forkD (leftD ks ((allD ls).map Dr.d)) z.d.person = some n → z.d.no < (n : Int) := fun z hz => (merge_mem (by rw [← e5]; exact List.mem_map.2 ⟨z, hz, rfl⟩)).2
  have hmh : ∀ z ∈ allD ls, fineD ks z.d = true → (∀ n, forkD (leftD ks ((allD ls).map Dr.d)) z.d.person = some n → z.d.no < (n : Int)) → restsD (out.map Dr.d) z.d = true → thereL Dr.d out z.d = true := fun z hz hf hn hr => list_has (by
    rw [e5] at hr ⊢
    exact merge_has (List.mem_map.2 ⟨z, hz, rfl⟩) hf hn hr)
  have hfork : ∀ p, getM p (mapF frkK frkV fs) = (forkD (leftD ks ((allD ls).map Dr.d)) p).map fun (n : Nat) => Value.int .i64 (n : Int) := fun p => (hforks p).trans (by cases forkD (leftD ks ((allD ls).map Dr.d)) p <;> rfl)
  clear hforks e5 e7 hlog
  have cC := dcheck_ok ks kv out u5 w7 (hk.up X) hkl hki h5 hol wout (hS.up X) (hkT.up X)
  rw [hce] at cC
  clear hce
  have X7 := X
  replace X := ExtB.refl (fun _ => False) w7
  repeat' (first | with_reducible refine RunLN.boolF rfl ?_ | (with_reducible refine RunLN.chk ?_; refine RunLN.int (by (first | (refine wr_i64 ?_ ?_; omega; omega) | (refine wm_i64 ?_; omega) | (refine wq_i64 ?_ ?_ ?_; omega; omega; omega) | rfl)) ?_) | refine RunLN.any ?_ | refine RunL.ev Tryz.tOk rfl rfl rfl ?_ | refine RunE.seq ?_ | refine RunE.region ?_ | refine RunL.nil ?_)
  refine RunL.call rfl rfl rfl (cC) ?_
  rintro _ _ ⟨rfl, Xa_⟩
  replace X := X.trans Xa_
  clear Xa_
  clear cC
  repeat' (first | with_reducible refine RunLN.boolF rfl ?_ | refine RunL.ev Tryz.tOk rfl rfl rfl ?_ | refine RunE.condF rfl rfl ?_ | refine RunE.seq ?_ | refine RunE.region ?_ | refine RunL.nil ?_ | refine RunE.skip ?_)
  refine RunL.ex rfl rfl rfl (OpE.makeMap (Value.int .i64) (fun _ => True)) ?_
  rintro _ w8 ⟨R, rfl, a, hM⟩
  have gR := a.ge X
  replace X := X.trans a.ext
  clear a
  have hM0 : MapK (Value.int .i64) (fun _ => True) w8 R (mapF frkK frkV (fs.take 0)) := by rw [List.take_zero]; unfold mapF; exact hM
  clear hM
  repeat' (first | (with_reducible refine RunLN.chk ?_; refine RunLN.int (by (first | (refine wr_i64 ?_ ?_; omega; omega) | (refine wm_i64 ?_; omega) | (refine wq_i64 ?_ ?_ ?_; omega; omega; omega) | rfl)) ?_) | refine RunLN.any ?_ | refine RunL.ev Tryz.tOk rfl rfl rfl ?_ | refine RunL.evV rfl rfl rfl (OpV.lenSl Tryz.tOk rfl rfl h7) ?_ | refine RunE.seq ?_ | refine RunE.region ?_ | refine RunL.nil ?_ | refine RunE.block ?_)
  refine RunE.loop (ι := Nat) (fun s => [(0, kv), (1, lv), (5, u5), (9, .map (some R)), (58, u7), (59, .int .i64 (fs.length : Int)), (60, .int .i64 (s : Int))])
    (fun s w' => s ≤ fs.length ∧ Ext w7 w' ∧ MapK (Value.int .i64) (fun _ => True) w' R (mapF frkK frkV (fs.take s))) (fun s => fs.length - s) 0 (by repeat (first | exact Sub.nil _ | refine Sub.cons rfl ?_)) ⟨Nat.zero_le _, X, hM0⟩ ?_
  clear X hM0
  rintro i w8 ⟨hi, X, hM⟩ again
  by_cases hil : i < fs.length
  · obtain ⟨x, hx⟩ : ∃ x, fs[i]? = some x := ⟨_, List.getElem?_eq_getElem hil⟩
    obtain ⟨b1, o1, c1, rfl, hr1, -⟩ := isL_held h7 hil
    have hsn : mapF frkK frkV (fs.take (i + 1)) = setM x.a.d.person (.int .i64 x.a.d.no) (mapF frkK frkV (fs.take i)) := by
      rw [List.take_add_one, hx]; exact mapF_snoc _ _ _ x
    have next := fun w' a b => again (i + 1) w' (by omega) ⟨by omega, a, b⟩
    rw [hsn] at next
    clear again hsn hfork hmem hmh
    generalize mapF frkK frkV (fs.take i) = mm at hM next
    have hrx := flat_row encF (hr1.up X) hx
    have X8 := X
    replace X := ExtB.refl (fun _ => False) w8
    repeat' (first | (with_reducible refine RunLN.decT ?_ ?_; focus omega) | refine RunLN.any ?_ | refine RunL.ev Tryz.tOk rfl rfl rfl ?_ | refine RunL.evV rfl rfl rfl (OpV.loadN Tryz.tOk rfl rfl rfl rfl hrx) ?_ | refine RunL.evV rfl rfl rfl (OpV.indexS Tryz.tOk _ rfl rfl rfl rfl (by omega)) ?_ | refine RunE.condT rfl rfl ?_ | refine RunE.seq ?_ | refine RunE.region ?_ | refine RunL.nil ?_ | refine RunE.block ?_ | refine RunE.skip ?_)
    refine RunL.alloc Tryz.tOk rfl rfl rfl fun B11 wa_ aa_ => ?_
    have gB11 := aa_.ge X
    refine RunL.storeW (vs := x.cells) Tryz.tOk rfl rfl rfl rfl rfl aa_.at_ rfl rfl fun w11_ tb_ => ?_
    have Xa_ : Ext _ w11_ := aa_.ext.write tb_.ext (by intro i_ hi_ hlt_; have := aa_.eq; omega)
    have Z11 : Blk w11_ B11 (x.cells) 40 := tb_.at_
    replace hM := hM.up Xa_
    replace X := X.trans Xa_
    clear Xa_ aa_ tb_
    repeat' (first | (with_reducible refine RunLN.chk ?_; refine RunLN.int (by (first | (refine wr_i64 ?_ ?_; omega; omega) | (refine wm_i64 ?_; omega) | (refine wq_i64 ?_ ?_ ?_; omega; omega; omega) | rfl)) ?_) | refine RunLN.any ?_ | refine RunL.ev Tryz.tOk rfl rfl rfl ?_ | refine RunL.evV rfl rfl rfl (OpV.load1 Tryz.tOk rfl rfl rfl (Blk.cell Z11 rfl)) ?_ | refine RunE.region ?_ | refine RunL.nil ?_)
    refine RunL.exN rfl rfl (OpE.mapSet (kv := Value.int .i64) (good := fun _ => True) (k := x.a.d.person) (v := .int .i64 x.a.d.no) Tryz.underlying50 keyInt rfl rfl rfl trivial hM) ?_
    rintro _ w13 ⟨hM2, e13, s13⟩
    have XX : Ext w7 w13 := (X8.trans X).write e13 (by intro k hk hlt; omega)
    repeat' (first | (with_reducible refine RunLN.chk ?_; refine RunLN.int (by (first | (refine wr_i64 ?_ ?_; omega; omega) | (refine wm_i64 ?_; omega) | (refine wq_i64 ?_ ?_ ?_; omega; omega; omega) | rfl)) ?_) | refine RunL.ev Tryz.tOk rfl rfl rfl ?_ | refine RunE.region ?_ | refine RunL.nil ?_ | refine RunE.inBlock ?_)
    exact RunE.weaken (by repeat (first | exact Sub.nil _ | refine Sub.cons rfl ?_)) (next _ XX hM2)
  obtain rfl : i = fs.length := by omega
  rw [List.take_length] at hM
  clear again hfl h7 gR
  generalize mapF frkK frkV fs = mm at hM hfork
  replace h5 := h5.up X
  replace wout := fun z hz => (wout z hz).up X
  replace X7 := X7.trans X
  clear X
  have X := ExtB.refl (fun _ => False) w8
  repeat' (first | (with_reducible refine RunLN.decF ?_ ?_; focus omega) | (with_reducible refine RunLN.chk ?_; refine RunLN.int (by (first | (refine wr_i64 ?_ ?_; omega; omega) | (refine wm_i64 ?_; omega) | (refine wq_i64 ?_ ?_ ?_; omega; omega; omega) | rfl)) ?_) | refine RunLN.any ?_ | refine RunL.ev Tryz.tOk rfl rfl rfl ?_ | refine RunL.evV rfl rfl rfl (OpV.lenSl Tryz.tOk rfl rfl h5) ?_ | refine RunE.condF rfl rfl ?_ | refine RunE.seq ?_ | refine RunE.region ?_ | refine RunL.nil ?_ | refine RunE.block ?_ | refine RunE.exit rfl ?_)
  refine RunE.loop (ι := Nat) (fun s => [(0, kv), (1, lv), (5, u5), (9, .map (some R)), (72, u5), (73, .int .i64 (out.length : Int)), (74, .int .i64 (s : Int))])
    (fun s w' => s ≤ out.length ∧ Ext w8 w') (fun s => out.length - s) 0 (by repeat (first | exact Sub.nil _ | refine Sub.cons rfl ?_)) ⟨Nat.zero_le _, X⟩ ?_
  clear X
  rintro i w10 ⟨hi, X⟩ again
  by_cases hil : i < out.length
  · obtain ⟨y, hy⟩ : ∃ y, out[i]? = some y := ⟨_, List.getElem?_eq_getElem hil⟩
    have hym := List.mem_of_getElem? hy
    obtain ⟨b1, o1, c1, rfl, hr1, -⟩ := isL_held h5 hil
    have hry := flat_row encR (hr1.up X) hy
    have hthere := part_has (m5 y hym)
    have wy := hwf y (m5 y hym)
    have hfk := hfork y.d.person
    have hmy := hmem y hym
    have X11 := X
    have next := fun w' e => again (i + 1) w' (by omega) ⟨by omega, X11.trans e⟩
    clear again hfork hmem hmh X
    have X := ExtB.refl (fun _ => False) w10
    repeat' (first | (with_reducible refine RunLN.decT ?_ ?_; focus omega) | refine RunLN.any ?_ | refine RunL.ev Tryz.tOk rfl rfl rfl ?_ | refine RunL.evV rfl rfl rfl (OpV.loadN Tryz.tOk rfl rfl rfl rfl hry) ?_ | refine RunL.evV rfl rfl rfl (OpV.indexS Tryz.tOk _ rfl rfl rfl rfl (by omega)) ?_ | refine RunE.condT rfl rfl ?_ | refine RunE.seq ?_ | refine RunE.region ?_ | refine RunL.nil ?_ | refine RunE.block ?_ | refine RunE.skip ?_)
    refine RunL.alloc Tryz.tOk rfl rfl rfl fun B13 wa_ aa_ => ?_
    have gB13 := aa_.ge X
    refine RunL.storeW (vs := y.cells) Tryz.tOk rfl rfl rfl rfl rfl aa_.at_ rfl rfl fun w13_ tb_ => ?_
    have Xa_ : Ext _ w13_ := aa_.ext.write tb_.ext (by intro i_ hi_ hlt_; have := aa_.eq; omega)
    have Z13 : Blk w13_ B13 (y.cells) 38 := tb_.at_
    replace X := X.trans Xa_
    clear Xa_ aa_ tb_
    repeat' (first | with_reducible refine RunLN.boolF rfl ?_ | (with_reducible refine RunLN.chk ?_; refine RunLN.int (by (first | (refine wr_i64 ?_ ?_; omega; omega) | (refine wm_i64 ?_; omega) | (refine wq_i64 ?_ ?_ ?_; omega; omega; omega) | rfl)) ?_) | refine RunLN.any ?_ | refine RunL.ev Tryz.tOk rfl rfl rfl ?_ | refine RunL.evV rfl rfl rfl (OpV.lenSl Tryz.tOk rfl rfl hat) ?_ | refine RunE.seq ?_ | refine RunE.region ?_ | refine RunL.nil ?_ | refine RunE.block ?_)
    refine RunE.loop (ι := Nat × Bool) (fun q => [(0, kv), (1, lv), (5, .slice (some ⟨b1, o1, none⟩) out.length c1), (9, .map (some R)), (13, .pointer (some ⟨B13, 0, none⟩)), (14, .bool q.2), (72, .slice (some ⟨b1, o1, none⟩) out.length c1), (73, .int .i64 (out.length : Int)), (74, .int .i64 (i : Int)), (78, lv), (79, .int .i64 (ls.length : Int)), (80, .int .i64 (q.1 : Int))])
      (fun q w' => q.1 ≤ ls.length ∧ ((ls.take q.1).any fun z => thereL Dr.d z.l y.d) = q.2 ∧ Ext w10 w' ∧ Blk w' B13 y.cells 38) (fun q => ls.length - q.1) (0, false) (by repeat (first | exact Sub.nil _ | refine Sub.cons rfl ?_)) ⟨Nat.zero_le _, rfl, X, Z13⟩ ?_
    clear X Z13
    rintro ⟨t, fd⟩ w12 ⟨ht, hfd, X, Z13⟩ again3
    simp only at ht hfd again3 ⊢
    by_cases htl : t < ls.length
    · obtain ⟨z, hz⟩ : ∃ z, ls[t]? = some z := ⟨_, List.getElem?_eq_getElem htl⟩
      obtain ⟨b2, o2, c2, rfl, hr2, -⟩ := isL_held hat htl
      have hrz := flat_row encLl (hr2.up (X7.trans (X11.trans X))) hz
      have hzm := List.mem_of_getElem? hz
      have hnew := any_snoc (fun z : Ll => thereL Dr.d z.l y.d) hz
      rw [hfd] at hnew
      clear hfd hthere hfk next
      cases fd with
      | true =>
        rw [Bool.true_or] at hnew
        repeat' (first | with_reducible refine RunLN.boolT rfl ?_ | (with_reducible refine RunLN.decT ?_ ?_; focus omega) | (with_reducible refine RunLN.chk ?_; refine RunLN.int (by (first | (refine wr_i64 ?_ ?_; omega; omega) | (refine wm_i64 ?_; omega) | (refine wq_i64 ?_ ?_ ?_; omega; omega; omega) | rfl)) ?_) | refine RunLN.any ?_ | refine RunL.ev Tryz.tOk rfl rfl rfl ?_ | refine RunL.unwantedD rfl rfl ?_ | refine RunL.evV rfl rfl rfl (OpV.load1 Tryz.tOk rfl rfl rfl (hrz 0 _ rfl)) ?_ | refine RunL.evV rfl rfl rfl (OpV.indexS Tryz.tOk _ rfl rfl rfl rfl (by omega)) ?_ | refine RunE.condT rfl rfl ?_ | refine RunE.seq ?_ | refine RunE.region ?_ | refine RunL.nil ?_ | refine RunE.block ?_ | refine RunE.inBlock ?_ | refine RunE.skip ?_)
        exact RunE.weaken (by repeat (first | exact Sub.nil _ | refine Sub.cons rfl ?_)) (again3 (t + 1, true) _ (by simp only; omega) ⟨by simp only; omega, hnew, X, Z13⟩)
      | false =>
        rw [Bool.false_or] at hnew
        have hpz := hpart z hzm
        have hzl : z.l.length < 9223372036854775808 := by have := heach z hzm; omega
        have hzw : ∀ d ∈ z.l, WfX W d := fun d hd => hwf d (List.mem_flatMap.2 ⟨z, hzm, hd⟩)
        have cH := fun w' (e : Ext W w') => lhas_ok z.l z.v y w' (hpz.up e) hzl (fun d hd => (hzw d hd).up e) (wy.up e)
        generalize thereL Dr.d z.l y.d = bz at hnew cH
        repeat' (first | with_reducible refine RunLN.boolF rfl ?_ | (with_reducible refine RunLN.decT ?_ ?_; focus omega) | refine RunLN.any ?_ | refine RunL.ev Tryz.tOk rfl rfl rfl ?_ | refine RunL.evV rfl rfl rfl (OpV.load1 Tryz.tOk rfl rfl rfl (hrz 0 _ rfl)) ?_ | refine RunL.evV rfl rfl rfl (OpV.loadN Tryz.tOk rfl rfl rfl rfl (Blk.row Z13)) ?_ | refine RunL.evV rfl rfl rfl (OpV.indexS Tryz.tOk _ rfl rfl rfl rfl (by omega)) ?_ | refine RunE.condT rfl rfl ?_ | refine RunE.seq ?_ | refine RunE.region ?_ | refine RunL.nil ?_ | refine RunE.block ?_ | refine RunE.skip ?_)
        refine RunL.call rfl rfl rfl (cH _ (X7.trans (X11.trans X))) ?_
        rintro _ _ ⟨rfl, Xa_⟩
        replace Z13 := Z13.up Xa_
        replace X := X.trans Xa_
        clear Xa_
        repeat' (first | (with_reducible refine RunLN.chk ?_; refine RunLN.int (by (first | (refine wr_i64 ?_ ?_; omega; omega) | (refine wm_i64 ?_; omega) | (refine wq_i64 ?_ ?_ ?_; omega; omega; omega) | rfl)) ?_) | refine RunLN.any ?_ | refine RunL.ev Tryz.tOk rfl rfl rfl ?_ | refine RunE.region ?_ | refine RunL.nil ?_ | refine RunE.inBlock ?_)
        exact RunE.weaken (by repeat (first | exact Sub.nil _ | refine Sub.cons rfl ?_)) (again3 (t + 1, bz) _ (by simp only; omega) ⟨by simp only; omega, hnew, X, Z13⟩)
    obtain rfl : t = ls.length := by omega
    rw [List.take_length, hthere] at hfd
    subst hfd
    clear again3 hthere
    repeat' (first | (with_reducible refine RunLN.decF ?_ ?_; focus omega) | (with_reducible refine RunLN.chk ?_; refine RunLN.int (by (first | (refine wr_i64 ?_ ?_; omega; omega) | (refine wm_i64 ?_; omega) | (refine wq_i64 ?_ ?_ ?_; omega; omega; omega) | rfl)) ?_) | refine RunLN.any ?_ | refine RunL.ev Tryz.tOk rfl rfl rfl ?_ | refine RunL.evV rfl rfl rfl (OpV.load1 Tryz.tOk rfl rfl rfl (Blk.cell Z13 rfl)) ?_ | refine RunE.condF rfl rfl ?_ | refine RunE.seq ?_ | refine RunE.region ?_ | refine RunL.nil ?_ | refine RunE.exit rfl ?_)
    refine RunL.evV rfl rfl rfl (OpV.lookup2 (kv := Value.int .i64) (good := fun _ => True) (k := y.d.person) (z := .int .i64 0) Tryz.underlying50 keyInt (by kernel_rfl) rfl rfl trivial (hM.up (X11.trans X))) ?_
    rw [hfk]
    cases hf : forkD (leftD ks ((allD ls).map Dr.d)) y.d.person with
    | none =>
      simp only [Option.map_none, Option.getD_none, Option.isSome_none]
      repeat' (first | with_reducible refine RunLN.boolT rfl ?_ | with_reducible refine RunLN.boolF rfl ?_ | (with_reducible refine RunLN.chk ?_; refine RunLN.int (by (first | (refine wr_i64 ?_ ?_; omega; omega) | (refine wm_i64 ?_; omega) | (refine wq_i64 ?_ ?_ ?_; omega; omega; omega) | rfl)) ?_) | refine RunLN.any ?_ | refine RunL.ev Tryz.tOk rfl rfl rfl ?_ | refine RunL.unwantedD rfl rfl ?_ | refine RunE.condF rfl rfl ?_ | refine RunE.seq ?_ | refine RunE.region ?_ | refine RunL.nil ?_ | refine RunE.inBlock ?_ | refine RunE.skip ?_)
      exact RunE.weaken (by repeat (first | exact Sub.nil _ | refine Sub.cons rfl ?_)) (next _ X)
    | some n =>
      have hlt := hmy n hf
      simp only [Option.map_some, Option.getD_some, Option.isSome_some]
      repeat' (first | with_reducible refine RunLN.boolT rfl ?_ | with_reducible refine RunLN.boolF rfl ?_ | (with_reducible refine RunLN.decF ?_ ?_; focus omega) | (with_reducible refine RunLN.chk ?_; refine RunLN.int (by (first | (refine wr_i64 ?_ ?_; omega; omega) | (refine wm_i64 ?_; omega) | (refine wq_i64 ?_ ?_ ?_; omega; omega; omega) | rfl)) ?_) | refine RunLN.any ?_ | refine RunL.ev Tryz.tOk rfl rfl rfl ?_ | refine RunL.evV rfl rfl rfl (OpV.load1 Tryz.tOk rfl rfl rfl (Blk.cell Z13 rfl)) ?_ | refine RunE.condF rfl rfl ?_ | refine RunE.seq ?_ | refine RunE.region ?_ | refine RunL.nil ?_ | refine RunE.inBlock ?_ | refine RunE.skip ?_)
      exact RunE.weaken (by repeat (first | exact Sub.nil _ | refine Sub.cons rfl ?_)) (next _ X)
  obtain rfl : i = out.length := by omega
  clear again hmem
  have X10 := X
  replace h5 := h5.up X
  replace wout := fun z hz => (wout z hz).up X
  replace hM := hM.up X
  replace X7 := X7.trans X
  clear X10 X
  have X := ExtB.refl (fun _ => False) w10
  repeat' (first | (with_reducible refine RunLN.decF ?_ ?_; focus omega) | (with_reducible refine RunLN.chk ?_; refine RunLN.int (by (first | (refine wr_i64 ?_ ?_; omega; omega) | (refine wm_i64 ?_; omega) | (refine wq_i64 ?_ ?_ ?_; omega; omega; omega) | rfl)) ?_) | refine RunLN.any ?_ | refine RunL.ev Tryz.tOk rfl rfl rfl ?_ | refine RunL.evV rfl rfl rfl (OpV.lenSl Tryz.tOk rfl rfl hat) ?_ | refine RunE.condF rfl rfl ?_ | refine RunE.seq ?_ | refine RunE.region ?_ | refine RunL.nil ?_ | refine RunE.block ?_ | refine RunE.exit rfl ?_)
  refine RunE.loop (ι := Nat) (fun s => [(0, kv), (5, u5), (9, .map (some R)), (110, lv), (111, .int .i64 (ls.length : Int)), (112, .int .i64 (s : Int))])
    (fun s w' => s ≤ ls.length ∧ Ext w10 w') (fun s => ls.length - s) 0 (by repeat (first | exact Sub.nil _ | refine Sub.cons rfl ?_)) ⟨Nat.zero_le _, X⟩ ?_
  clear X hi hil
  rintro t w11 ⟨ht, X⟩ again
  by_cases htl : t < ls.length
  rotate_left
  · obtain rfl : t = ls.length := by omega
    clear again
    repeat' (first | with_reducible refine RunLN.boolT rfl ?_ | (with_reducible refine RunLN.decF ?_ ?_; focus omega) | refine RunL.ev Tryz.tOk rfl rfl rfl ?_ | refine RunE.condF rfl rfl ?_ | refine RunE.seq ?_ | refine RunE.region ?_ | refine RunL.nil ?_ | refine RunE.exit rfl ?_)
    exact RunE.retFn Tryz.func5 (.tmp rfl .nil) ⟨rfl, X7.trans X⟩
  obtain ⟨z, hz⟩ : ∃ z, ls[t]? = some z := ⟨_, List.getElem?_eq_getElem htl⟩
  obtain ⟨b2, o2, c2, rfl, hr2, -⟩ := isL_held hat htl
  have hrz := flat_row encLl (hr2.up (X7.trans X)) hz
  have hzm := List.mem_of_getElem? hz
  have hpz := hpart z hzm
  have hzl : z.l.length < 9223372036854775808 := by have := heach z hzm; omega
  have hza : ∀ d ∈ z.l, d ∈ allD ls := fun d hd => List.mem_flatMap.2 ⟨z, hzm, hd⟩
  have X10 := X
  have next0 := fun w' e => again (t + 1) w' (by omega) ⟨by omega, X10.trans e⟩
  clear again X
  have X := ExtB.refl (fun _ => False) w11
  repeat' (first | (with_reducible refine RunLN.decT ?_ ?_; focus omega) | (with_reducible refine RunLN.chk ?_; refine RunLN.int (by (first | (refine wr_i64 ?_ ?_; omega; omega) | (refine wm_i64 ?_; omega) | (refine wq_i64 ?_ ?_ ?_; omega; omega; omega) | rfl)) ?_) | refine RunLN.any ?_ | refine RunL.ev Tryz.tOk rfl rfl rfl ?_ | refine RunL.evV rfl rfl rfl (OpV.load1 Tryz.tOk rfl rfl rfl (hrz 0 _ rfl)) ?_ | refine RunL.evV rfl rfl rfl (OpV.indexS Tryz.tOk _ rfl rfl rfl rfl (by omega)) ?_ | refine RunE.condT rfl rfl ?_ | refine RunE.seq ?_ | refine RunE.region ?_ | refine RunL.nil ?_ | refine RunE.block ?_ | refine RunE.skip ?_)
  refine RunE.loop (ι := Nat) (fun s => [(0, kv), (5, u5), (9, .map (some R)), (110, .slice (some ⟨b2, o2, none⟩) ls.length c2), (111, .int .i64 (ls.length : Int)), (112, .int .i64 (t : Int)), (116, z.v), (117, .int .i64 (z.l.length : Int)), (118, .int .i64 (s : Int))])
    (fun s w' => s ≤ z.l.length ∧ Ext w11 w') (fun s => z.l.length - s) 0 (by repeat (first | exact Sub.nil _ | refine Sub.cons rfl ?_)) ⟨Nat.zero_le _, X⟩ ?_
  clear X
  rintro k w12 ⟨hk', X⟩ again
  by_cases hkl' : k < z.l.length
  rotate_left
  · obtain rfl : k = z.l.length := by omega
    clear again
    repeat' (first | (with_reducible refine RunLN.decF ?_ ?_; focus omega) | (with_reducible refine RunLN.chk ?_; refine RunLN.int (by (first | (refine wr_i64 ?_ ?_; omega; omega) | (refine wm_i64 ?_; omega) | (refine wq_i64 ?_ ?_ ?_; omega; omega; omega) | rfl)) ?_) | refine RunL.ev Tryz.tOk rfl rfl rfl ?_ | refine RunE.condF rfl rfl ?_ | refine RunE.seq ?_ | refine RunE.region ?_ | refine RunL.nil ?_ | refine RunE.inBlock ?_ | refine RunE.exit rfl ?_)
    exact RunE.weaken (by repeat (first | exact Sub.nil _ | refine Sub.cons rfl ?_)) (next0 _ X)
  clear next0
  obtain ⟨y, hy⟩ : ∃ y, z.l[k]? = some y := ⟨_, List.getElem?_eq_getElem hkl'⟩
  have hya := hza y (List.mem_of_getElem? hy)
  obtain ⟨b3, o3, c3, ez, hr3, -⟩ := isL_held hpz hkl'
  rw [ez] at again ⊢
  have hry := flat_row encR (hr3.up (X7.trans (X10.trans X))) hy
  have wy := hwf y hya
  have hfk := hfork y.d.person
  have hhas := hmh y hya
  have X11 := X10.trans X
  have next := fun w' e => again (k + 1) w' (by omega) ⟨by omega, X.trans e⟩
  clear again hfork hmh X
  have X := ExtB.refl (fun _ => False) w12
  have cD := fun w' (e : Ext W w') => dRight_ok ks kv y.d y.u y.v w' (hk.up e) hkl hki wy.1 (wy.2.2.2.up e).seen (wy.2.2.2.up e).data wy.2.1 wy.2.2.1 (hS.up e) (hkT.up e)
  have hrb : rightB ks y.d = fineD ks y.d := by unfold rightB; rw [hkd, Bool.true_and]
  have hre : rightE ks = 0 := by unfold rightE; rw [hkd]; rfl
  rw [hrb, hre] at cD
  clear hrb hre
  repeat' (first | (with_reducible refine RunLN.decT ?_ ?_; focus omega) | refine RunLN.any ?_ | refine RunL.ev Tryz.tOk rfl rfl rfl ?_ | refine RunL.evV rfl rfl rfl (OpV.loadN Tryz.tOk rfl rfl rfl rfl hry) ?_ | refine RunL.evV rfl rfl rfl (OpV.indexS Tryz.tOk _ rfl rfl rfl rfl (by omega)) ?_ | refine RunE.condT rfl rfl ?_ | refine RunE.seq ?_ | refine RunE.region ?_ | refine RunL.nil ?_ | refine RunE.block ?_ | refine RunE.skip ?_)
  refine RunL.alloc Tryz.tOk rfl rfl rfl fun B22 wa_ aa_ => ?_
  have gB22 := aa_.ge X
  refine RunL.storeW (vs := y.cells) Tryz.tOk rfl rfl rfl rfl rfl aa_.at_ rfl rfl fun w22_ tb_ => ?_
  have Xa_ : Ext _ w22_ := aa_.ext.write tb_.ext (by intro i_ hi_ hlt_; have := aa_.eq; omega)
  have Z22 : Blk w22_ B22 (y.cells) 38 := tb_.at_
  replace X := X.trans Xa_
  clear Xa_ aa_ tb_
  repeat' (first | refine RunLN.any ?_ | refine RunL.ev Tryz.tOk rfl rfl rfl ?_ | refine RunL.evV rfl rfl rfl (OpV.loadN Tryz.tOk rfl rfl rfl rfl (Blk.row Z22)) ?_ | refine RunE.seq ?_ | refine RunE.region ?_ | refine RunL.nil ?_)
  refine RunL.call rfl rfl rfl (cD _ (X7.trans (X11.trans X))) ?_
  rintro _ _ ⟨rfl, Xa_⟩
  replace Z22 := Z22.up Xa_
  replace X := X.trans Xa_
  clear Xa_
  clear cD
  repeat' (first | (with_reducible refine RunLN.chk ?_; refine RunLN.int (by (first | (refine wr_i64 ?_ ?_; omega; omega) | (refine wm_i64 ?_; omega) | (refine wq_i64 ?_ ?_ ?_; omega; omega; omega) | rfl)) ?_) | refine RunLN.any ?_ | refine RunL.ev Tryz.tOk rfl rfl rfl ?_ | refine RunL.evV rfl rfl rfl (OpV.load1 Tryz.tOk rfl rfl rfl (Blk.cell Z22 rfl)) ?_ | refine RunE.seq ?_ | refine RunE.region ?_ | refine RunL.nil ?_)
  refine RunL.evV rfl rfl rfl (OpV.lookup2 (kv := Value.int .i64) (good := fun _ => True) (k := y.d.person) (z := .int .i64 0) Tryz.underlying50 keyInt (by kernel_rfl) rfl rfl trivial (hM.up (X11.trans X))) ?_
  rw [hfk]
  cases hfd : fineD ks y.d with
  | false =>
    cases hf : forkD (leftD ks ((allD ls).map Dr.d)) y.d.person with
    | none =>
      simp only [Option.map_none, Option.getD_none, Option.isSome_none]
      repeat' (first | with_reducible refine RunLN.boolF rfl ?_ | (with_reducible refine RunLN.chk ?_; refine RunLN.int (by (first | (refine wr_i64 ?_ ?_; omega; omega) | (refine wm_i64 ?_; omega) | (refine wq_i64 ?_ ?_ ?_; omega; omega; omega) | rfl)) ?_) | refine RunLN.any ?_ | refine RunL.ev Tryz.tOk rfl rfl rfl ?_ | refine RunL.unwantedD rfl rfl ?_ | refine RunE.condF rfl rfl ?_ | refine RunE.seq ?_ | refine RunE.region ?_ | refine RunL.nil ?_ | refine RunE.inBlock ?_ | refine RunE.skip ?_)
      exact RunE.weaken (by repeat (first | exact Sub.nil _ | refine Sub.cons rfl ?_)) (next _ X)
    | some n =>
      simp only [Option.map_some, Option.getD_some, Option.isSome_some]
      repeat' (first | with_reducible refine RunLN.boolT rfl ?_ | with_reducible refine RunLN.boolF rfl ?_ | (with_reducible refine RunLN.chk ?_; refine RunLN.int (by (first | (refine wr_i64 ?_ ?_; omega; omega) | (refine wm_i64 ?_; omega) | (refine wq_i64 ?_ ?_ ?_; omega; omega; omega) | rfl)) ?_) | refine RunLN.any ?_ | refine RunL.ev Tryz.tOk rfl rfl rfl ?_ | refine RunL.unwantedD rfl rfl ?_ | refine RunE.condF rfl rfl ?_ | refine RunE.seq ?_ | refine RunE.region ?_ | refine RunL.nil ?_ | refine RunE.inBlock ?_ | refine RunE.skip ?_)
      exact RunE.weaken (by repeat (first | exact Sub.nil _ | refine Sub.cons rfl ?_)) (next _ X)
  | true =>
  have hy0 : 0 ≤ y.d.no := by
    obtain ⟨⟨-, -, h0, -⟩, -⟩ := formedD_inv (fineD_inv hfd).1
    exact h0
  replace hhas := hhas hfd
  have cRs := fun w' (e : Ext w10 w') => rRests_ok out u5 y w' (h5.up e) hol (fun z hz => (wout z hz).up e) (wy.up (X7.trans e)) hy0
  cases hf : forkD (leftD ks ((allD ls).map Dr.d)) y.d.person with
  | none =>
    replace hhas := hhas (fun n hn => by rw [hf] at hn; cases hn)
    simp only [Option.map_none, Option.getD_none, Option.isSome_none]
    repeat' (first | with_reducible refine RunLN.boolT rfl ?_ | with_reducible refine RunLN.boolF rfl ?_ | (with_reducible refine RunLN.chk ?_; refine RunLN.int (by (first | (refine wr_i64 ?_ ?_; omega; omega) | (refine wm_i64 ?_; omega) | (refine wq_i64 ?_ ?_ ?_; omega; omega; omega) | rfl)) ?_) | refine RunLN.any ?_ | refine RunL.ev Tryz.tOk rfl rfl rfl ?_ | refine RunL.unwantedD rfl rfl ?_ | refine RunE.seq ?_ | refine RunE.region ?_ | refine RunL.nil ?_)
    cases hrs : restsD (out.map Dr.d) y.d with
    | false =>
      rw [hrs] at cRs
      repeat' (first | refine RunLN.any ?_ | refine RunL.evV rfl rfl rfl (OpV.loadN Tryz.tOk rfl rfl rfl rfl (Blk.row Z22)) ?_)
      refine RunL.call rfl rfl rfl (cRs _ (X11.trans X)) ?_
      rintro _ _ ⟨rfl, Xa_⟩
      replace Z22 := Z22.up Xa_
      replace X := X.trans Xa_
      clear Xa_
      repeat' (first | with_reducible refine RunLN.boolF rfl ?_ | (with_reducible refine RunLN.chk ?_; refine RunLN.int (by (first | (refine wr_i64 ?_ ?_; omega; omega) | (refine wm_i64 ?_; omega) | (refine wq_i64 ?_ ?_ ?_; omega; omega; omega) | rfl)) ?_) | refine RunL.ev Tryz.tOk rfl rfl rfl ?_ | refine RunL.unwantedD rfl rfl ?_ | refine RunE.condF rfl rfl ?_ | refine RunE.region ?_ | refine RunL.nil ?_ | refine RunE.inBlock ?_ | refine RunE.skip ?_)
      exact RunE.weaken (by repeat (first | exact Sub.nil _ | refine Sub.cons rfl ?_)) (next _ X)
    | true =>
      rw [hrs] at cRs
      have cH := fun w' (e : Ext w10 w') => lhas_ok out u5 y w' (h5.up e) hol (fun z hz => (wout z hz).up e) (wy.up (X7.trans e))
      rw [hhas hrs] at cH
      repeat' (first | refine RunLN.any ?_ | refine RunL.evV rfl rfl rfl (OpV.loadN Tryz.tOk rfl rfl rfl rfl (Blk.row Z22)) ?_)
      refine RunL.call rfl rfl rfl (cRs _ (X11.trans X)) ?_
      rintro _ _ ⟨rfl, Xa_⟩
      replace Z22 := Z22.up Xa_
      replace X := X.trans Xa_
      clear Xa_
      repeat' (first | with_reducible refine RunLN.boolT rfl ?_ | refine RunLN.any ?_ | refine RunL.ev Tryz.tOk rfl rfl rfl ?_ | refine RunL.evV rfl rfl rfl (OpV.loadN Tryz.tOk rfl rfl rfl rfl (Blk.row Z22)) ?_)
      refine RunL.call rfl rfl rfl (cH _ (X11.trans X)) ?_
      rintro _ _ ⟨rfl, Xa_⟩
      replace Z22 := Z22.up Xa_
      replace X := X.trans Xa_
      clear Xa_
      repeat' (first | with_reducible refine RunLN.boolF rfl ?_ | (with_reducible refine RunLN.chk ?_; refine RunLN.int (by (first | (refine wr_i64 ?_ ?_; omega; omega) | (refine wm_i64 ?_; omega) | (refine wq_i64 ?_ ?_ ?_; omega; omega; omega) | rfl)) ?_) | refine RunL.ev Tryz.tOk rfl rfl rfl ?_ | refine RunE.condF rfl rfl ?_ | refine RunE.region ?_ | refine RunL.nil ?_ | refine RunE.inBlock ?_ | refine RunE.skip ?_)
      exact RunE.weaken (by repeat (first | exact Sub.nil _ | refine Sub.cons rfl ?_)) (next _ X)
  | some n =>
    by_cases hlt : y.d.no < (n : Int)
    · replace hhas := hhas (fun m hm => by rw [hf] at hm; cases hm; exact hlt)
      simp only [Option.map_some, Option.getD_some, Option.isSome_some]
      repeat' (first | with_reducible refine RunLN.boolT rfl ?_ | with_reducible refine RunLN.boolF rfl ?_ | (with_reducible refine RunLN.decT ?_ ?_; focus omega) | (with_reducible refine RunLN.chk ?_; refine RunLN.int (by (first | (refine wr_i64 ?_ ?_; omega; omega) | (refine wm_i64 ?_; omega) | (refine wq_i64 ?_ ?_ ?_; omega; omega; omega) | rfl)) ?_) | refine RunLN.any ?_ | refine RunL.ev Tryz.tOk rfl rfl rfl ?_ | refine RunL.evV rfl rfl rfl (OpV.load1 Tryz.tOk rfl rfl rfl (Blk.cell Z22 rfl)) ?_ | refine RunE.seq ?_ | refine RunE.region ?_ | refine RunL.nil ?_)
      cases hrs : restsD (out.map Dr.d) y.d with
      | false =>
        rw [hrs] at cRs
        repeat' (first | refine RunLN.any ?_ | refine RunL.evV rfl rfl rfl (OpV.loadN Tryz.tOk rfl rfl rfl rfl (Blk.row Z22)) ?_)
        refine RunL.call rfl rfl rfl (cRs _ (X11.trans X)) ?_
        rintro _ _ ⟨rfl, Xa_⟩
        replace Z22 := Z22.up Xa_
        replace X := X.trans Xa_
        clear Xa_
        repeat' (first | with_reducible refine RunLN.boolF rfl ?_ | (with_reducible refine RunLN.chk ?_; refine RunLN.int (by (first | (refine wr_i64 ?_ ?_; omega; omega) | (refine wm_i64 ?_; omega) | (refine wq_i64 ?_ ?_ ?_; omega; omega; omega) | rfl)) ?_) | refine RunL.ev Tryz.tOk rfl rfl rfl ?_ | refine RunL.unwantedD rfl rfl ?_ | refine RunE.condF rfl rfl ?_ | refine RunE.region ?_ | refine RunL.nil ?_ | refine RunE.inBlock ?_ | refine RunE.skip ?_)
        exact RunE.weaken (by repeat (first | exact Sub.nil _ | refine Sub.cons rfl ?_)) (next _ X)
      | true =>
        rw [hrs] at cRs
        have cH := fun w' (e : Ext w10 w') => lhas_ok out u5 y w' (h5.up e) hol (fun z hz => (wout z hz).up e) (wy.up (X7.trans e))
        rw [hhas hrs] at cH
        repeat' (first | refine RunLN.any ?_ | refine RunL.evV rfl rfl rfl (OpV.loadN Tryz.tOk rfl rfl rfl rfl (Blk.row Z22)) ?_)
        refine RunL.call rfl rfl rfl (cRs _ (X11.trans X)) ?_
        rintro _ _ ⟨rfl, Xa_⟩
        replace Z22 := Z22.up Xa_
        replace X := X.trans Xa_
        clear Xa_
        repeat' (first | with_reducible refine RunLN.boolT rfl ?_ | refine RunLN.any ?_ | refine RunL.ev Tryz.tOk rfl rfl rfl ?_ | refine RunL.evV rfl rfl rfl (OpV.loadN Tryz.tOk rfl rfl rfl rfl (Blk.row Z22)) ?_)
        refine RunL.call rfl rfl rfl (cH _ (X11.trans X)) ?_
        rintro _ _ ⟨rfl, Xa_⟩
        replace Z22 := Z22.up Xa_
        replace X := X.trans Xa_
        clear Xa_
        repeat' (first | with_reducible refine RunLN.boolF rfl ?_ | (with_reducible refine RunLN.chk ?_; refine RunLN.int (by (first | (refine wr_i64 ?_ ?_; omega; omega) | (refine wm_i64 ?_; omega) | (refine wq_i64 ?_ ?_ ?_; omega; omega; omega) | rfl)) ?_) | refine RunL.ev Tryz.tOk rfl rfl rfl ?_ | refine RunE.condF rfl rfl ?_ | refine RunE.region ?_ | refine RunL.nil ?_ | refine RunE.inBlock ?_ | refine RunE.skip ?_)
        exact RunE.weaken (by repeat (first | exact Sub.nil _ | refine Sub.cons rfl ?_)) (next _ X)
    · simp only [Option.map_some, Option.getD_some, Option.isSome_some]
      repeat' (first | with_reducible refine RunLN.boolT rfl ?_ | with_reducible refine RunLN.boolF rfl ?_ | (with_reducible refine RunLN.decF ?_ ?_; focus omega) | (with_reducible refine RunLN.chk ?_; refine RunLN.int (by (first | (refine wr_i64 ?_ ?_; omega; omega) | (refine wm_i64 ?_; omega) | (refine wq_i64 ?_ ?_ ?_; omega; omega; omega) | rfl)) ?_) | refine RunLN.any ?_ | refine RunL.ev Tryz.tOk rfl rfl rfl ?_ | refine RunL.unwantedD rfl rfl ?_ | refine RunL.evV rfl rfl rfl (OpV.load1 Tryz.tOk rfl rfl rfl (Blk.cell Z22 rfl)) ?_ | refine RunE.condF rfl rfl ?_ | refine RunE.seq ?_ | refine RunE.region ?_ | refine RunL.nil ?_ | refine RunE.inBlock ?_ | refine RunE.skip ?_)
      exact RunE.weaken (by repeat (first | exact Sub.nil _ | refine Sub.cons rfl ?_)) (next _ X)
end Go.Sg
namespace Go.Proofs.YtpmpefkcmokoiaaGreatDoor
open Go.ChangeShapes Go.WideShapes Go.ChangeAt Go.RowKit Go.Sg
namespace mergeLog
theorem own : ownKnob Tryz.prog.godebug = none := by kernel_rfl
theorem laidOut : laidOutB Tryz.prog = true := by kernel_rfl
theorem door_met (os : Os) (args : Array Value) : laidMetH Tryz.prog Rows.mergeLogRow.laid ((World.doorLaid Tryz.prog 19 os).forCall (fun _ _ => 0) ⟨#[], args, []⟩).memory :=
  laidMetH_of_parts3 (fuel := 8) (laidMet_of_run' 8 (by kernel_rfl) (by kernel_rfl)) (by kernel_rfl) (by kernel_rfl)
set_option maxRecDepth 100000 in
theorem lifted (os : Os) (started : os.Started) (H : Type) (enc : TypeId × Value → H) :
    ReturnsInHanded {} Tryz.checked os 5 .any (fun w args => (Rows.mergeLogSpec.pre enc Tryz.prog Tryz.f5 [] false w args ∧ laidMetH Tryz.prog Rows.mergeLogRow.laid w) ∧ sizedMet enc Tryz.prog Tryz.f5 (OpenSpec.ofChange Rows.mergeLogSpec) false w args)
      (Rows.mergeLogSpec.post enc Tryz.prog Tryz.f5 false true false false) := by
  refine returnsInHanded_of_change_and (C := Tryz.checked) (X := fun w _ => laidMetH Tryz.prog Rows.mergeLogRow.laid w) (fun _ _ _ hh h => h.of_heap hh) own started (by kernel_rfl) Tryz.func5
    (ChangeSpec.witness_shaped (enc := enc) (C := Tryz.checked) (os := os) (X := fun w _ => laidMetH Tryz.prog Rows.mergeLogRow.laid w) false (World.doorLaid Tryz.prog 19 os) #[.slice none 0 0, .slice none 0 0] 8 rfl (World.shaped_of_RefB (by kernel_rfl) (by kernel_rfl)) (by kernel_rfl) (by kernel_rfl) (by kernel_rfl) (door_met os _)) ?_
  intro W base args ds gs before hval0 hW _ hwt hL _
  have hval : ∀ (j : Nat) t v, Tryz.f5.params[j]? = some t → args[j]? = some v → Value.okWide Tryz.prog W .any base t v := hval0
  have hW' := hW
  obtain ⟨p, q, hA0, hV, rfl, hfz, hnd⟩ := hW
  have hA : DataW.TrodAll enc Tryz.prog W 0 (fun _ => true) true Tryz.f5.params.toList args.toList ds p := hA0
  rw [Tryz.params5] at hA hval
  obtain ⟨v0, vs0, d0, ds0, p0, q0, hargs, rfl, rfl, h0, r0⟩ := trodAll_cons hA
  obtain ⟨v1, vs1, d1, ds1, p1, q1, rfl, rfl, rfl, h1, r1⟩ := trodAll_cons r0
  obtain ⟨rfl, rfl, rfl⟩ := trodAll_nil r1
  obtain rfl : args = #[v0, v1] := by cases args; simp_all
  obtain ⟨l0, b0, m0⟩ := keys_open (hval 0 22 v0 rfl rfl) h0
  obtain ⟨l1, m1⟩ := parts_open (Go.Rn.reach_at hwt (j := 1) rfl rfl rfl) (hval 1 23 v1 rfl rfl) h1
  have L0 := start_of_laid (by kernel_rfl) rfl (.head _) hL
  have L1 := numbers_of_laid (by kernel_rfl) rfl (.tail _ (.head _)) hL
  refine (Rets.calls (mergeLog_walk v0 l0 v1 l1 W b0 m0 m1 L0 L1)).mono fun e W' he => ?_
  obtain ⟨_, rfl, rfl, hx⟩ := he
  exact ⟨_, rfl, law_post (t := 4) laidOut (by kernel_rfl) (by kernel_rfl) (by kernel_rfl) rfl (fun ds h => by
    rcases ds with _ | ⟨_, _ | ⟨_, _ | ⟨_, _⟩⟩⟩ <;> first | rfl | (exact absurd h (by decide)) | (simp at h)) hW' hx⟩

theorem holds : Rows.MergeLogSaid :=
  OpenClaim.holds_of_wide 5 Tryz.f5 rfl rfl rfl rfl rfl rfl rfl ⟨rfl, rfl, rfl, rfl, rfl⟩ rfl rfl rfl rfl rfl (by kernel_rfl) Tryz.func5 (by kernel_rfl)
    (of_decide_eq_true (by kernel_rfl)) (by unfold Func.isWrapper; first | (rw [if_pos (by decide +kernel)]; kernel_rfl) | (rw [if_neg (by decide +kernel)]; exact ⟨rfl, rfl⟩))
    (fun os started H enc _ => lifted os started H enc)
theorem proved : Rows.MergeLogCardSaid :=
  Claim7.holds_tied_plain_at .later [] [.data, .data] true (true, "75ed6596ee30abdd58d082f273dd5afe18c864f07da85c18b484820de691abc6") true
    holds (fun _ h => by cases h) (by kernel_rfl) (fun _ h => by cases h) mergeLog_row_tie rfl ⟨rfl, rfl⟩ (by kernel_rfl) rfl
    (fun f fn hf hfn => by
      obtain rfl : f = 5 := Option.some.inj ((show Tryz.prog.funcNamed Tryz.f5.name = some 5 by kernel_rfl).symm.trans hf) |>.symm
      obtain rfl : fn = Tryz.f5 := (Option.some.inj (Tryz.func5.symm.trans hfn)).symm
      exact ⟨by kernel_rfl, fun j t ht => by
        have hall : Tryz.f5.params.toList.all (fun t => !Tryz.prog.wantsStandIn t) = true := by kernel_rfl
        have hm : t ∈ Tryz.f5.params.toList := by
          obtain ⟨hj, rfl⟩ := Array.getElem?_eq_some_iff.1 ht
          simp
        have := List.all_eq_true.1 hall t hm
        exact (by simpa using this : Tryz.prog.wantsStandIn t = false)⟩)
    (by kernel_rfl)
#print axioms proved
end mergeLog
end Go.Proofs.YtpmpefkcmokoiaaGreatDoor
