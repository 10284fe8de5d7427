/- signatorylaw50.MergeNamed returns true for every input; condition: the package variables digest.start and digest.numbers hold what the program lays in them (the card ties this). -/
import Derived.Test.YtpmpefkcmokoiaaGreatDoorMg11
import Derived.Test.YtpmpefkcmokoiaaGreatDoorMg08
set_option linter.unusedSimpArgs false
set_option linter.unusedVariables false
set_option linter.unusedSectionVars false
set_option maxRecDepth 4000
namespace Go.Mer
open Go.Rn Go.Rec Go.Dee Go.RowKit Go.Sg Go.NT
theorem there_mem {ls : List Ll} {d : Dr} (h : d ∈ allD ls) : (ls.any fun x => thereL Dr.d x.l d.d) = true := by
  obtain ⟨x, hx, hd⟩ := List.mem_flatMap.1 h
  refine List.any_eq_true.2 ⟨x, hx, ?_⟩
  unfold thereL
  exact List.any_eq_true.2 ⟨d, hd, sameF_refl d.d⟩
theorem allD_take {ls : List Ll} {i : Nat} {x : Ll} (h : ls[i]? = some x) : allD (ls.take (i + 1)) = allD (ls.take i) ++ x.l := by
  unfold allD; rw [List.take_add_one, h, List.flatMap_append]; simp
def namK (x : Fr) : Int := x.a.d.person
def namV (_ : Fr) : Value := .bool true
end Go.Mer
namespace Go.Sg
open Go.Rn Go.Proofs Go.Dee Go.Mer Go.Rec Go.RowKit Go.Sha Go.Cod Go.NT
attribute [local irreducible] provesB chkM mergeD liarsL leftL thereL chkP mapF Go.Rn.RetsX Go.Rn.RunLN Go.Rn.AsyN Go.Rn.RunL Go.Rn.RunE Go.Rn.Asy Go.Rn.OpV Go.Rn.OpE Go.Rn.ExecE
set_option maxHeartbeats 16000000 in
theorem mergeNamed_walk (kv : Value) (ks : List Int) (lv : Value) (ls : List Ll) (W : World) (hkb : ks.length < 9223372036854775808 ∧ KsI ks) (hk : LIn W kv ks) (h : InL W lv ls) (hS : Row W 0 0 (vals init8.l)) (hkT : Row W 1 0 (vals kTab)) :
    Rets Tryz.prog 7 [kv, lv] W fun r w' => r = .bool true ∧ Ext W w' := by
  obtain ⟨hkl, hki⟩ := hkb
  have cR := fun w' (e : Ext W w') => lright_ok ks kv ls lv w' (hk.up e) hkl (h.at_.up e) h.few (fun x hx => (h.part x hx).up e) (fun x hx => (h.wf x hx).up e) h.small
  have cP : ∀ (x : Fr) (w' : World), WfX W x.a → WfX W x.b → Ext W w' → Rets Tryz.prog 18 [kv, .agg x.cells.toArray] w' fun r w'' => r = .tuple #[.bool (provesB ks x.a.d x.b.d), .int .i64 (provesE ks)] ∧ Ext w' w'' := fun x w' ha hb e => mProves_ok ks kv x w' (hk.up e) hkl hki (ha.up e) (hb.up e) (hS.up e) (hkT.up e)
  have hat := h.at_
  have hpart := h.part
  have hwf := h.wf
  have hfew := h.few
  refine RetsX.of (nt := 155) Tryz.func7 (by kernel_rfl) rfl rfl (by simp) (by simp only [argEnv]; rfl) ?_
  have X := ExtB.refl (fun _ => False) W
  repeat' (first | with_reducible refine RunLN.boolF rfl ?_ | refine RunL.ev Tryz.tOk rfl rfl rfl ?_ | refine RunE.seq ?_ | refine RunE.region ?_ | refine RunL.nil ?_)
  refine RunL.call rfl rfl rfl (lsane_ok _ (hS.up X) (hkT.up X)) ?_
  rintro _ _ ⟨rfl, Xa_⟩
  replace X := X.trans Xa_
  clear Xa_
  repeat' (first | with_reducible refine RunLN.boolF rfl ?_ | refine RunLN.any ?_ | refine RunL.ev Tryz.tOk rfl rfl rfl ?_ | refine RunE.condF rfl rfl ?_ | refine RunE.seq ?_ | refine RunE.region ?_ | refine RunL.nil ?_ | refine RunE.skip ?_)
  refine RunL.call rfl rfl rfl (cR _ X) ?_
  rintro _ w5 ⟨⟨b, rfl, hb⟩, Xa_⟩
  replace X := X.trans Xa_
  clear Xa_ cR
  cases b with
  | false =>
    repeat' (first | with_reducible refine RunLN.boolT rfl ?_ | refine RunL.ev Tryz.tOk rfl rfl rfl ?_ | refine RunE.condT rfl rfl ?_ | refine RunE.seq ?_ | refine RunE.region ?_ | refine RunL.nil ?_)
    exact RunE.retFn Tryz.func7 (.tmp rfl .nil) ⟨rfl, X⟩
  | true =>
  obtain ⟨h40, -, hc⟩ := hb rfl
  obtain ⟨hkd, hl64, -⟩ := chkM_zero hc
  clear hb
  rw [chkP_map] at hc
  have hi1 : InP W lv (ls.map Ll.l) := h.inP
  have hwf' := hwf
  rw [allD_flat] at hwf'
  repeat' (first | with_reducible refine RunLN.boolF rfl ?_ | refine RunLN.any ?_ | refine RunL.ev Tryz.tOk rfl rfl rfl ?_ | refine RunE.condF rfl rfl ?_ | refine RunE.seq ?_ | refine RunE.region ?_ | refine RunL.nil ?_ | refine RunE.skip ?_)
  refine RunL.call rfl rfl rfl (pLiars_ok hc hki hkl (hk.up X) (hi1.up X) (fun z hz => (hwf' z hz).up X) (hS.up X) (hkT.up X)) ?_
  rintro _ w6 ⟨⟨u5, fs, rfl, h5, e5, m5⟩, Xa_⟩
  replace X := X.trans Xa_
  clear Xa_ hwf' hi1 hc
  rw [← allD_flat] at e5 m5
  have hfl : fs.length ≤ 64 := by rw [lenF e5]; exact liars_len _
  have ep0 : provesE ks = 0 := by unfold provesE; rw [hkd]; rfl
  rw [ep0] at cP
  have hpr : ∀ x ∈ fs, provesB ks x.a.d x.b.d = true := fun x hx => liar_proof hkd e5 hx
  have hord : ∀ (i j : Nat) (x y : Fr), i < j → fs[i]? = some x → fs[j]? = some y → x.a.d.person < y.a.d.person := fun i j x y hij hx hy => liar_less e5 hij hx hy
  have hnam : ∀ a b : Dr, a ∈ allD ls → b ∈ allD ls → provesB ks a.d b.d = true → getM a.d.person (mapF namK namV fs) = some (.bool true) := fun a b ha hb hp => named_at e5 (List.mem_map.2 ⟨a, ha, rfl⟩) (List.mem_map.2 ⟨b, hb, rfl⟩) hp
  clear e5 ep0
  have X6 := X
  replace X := ExtB.refl (fun _ => False) w6
  repeat' (first | with_reducible refine RunLN.boolF rfl ?_ | (with_reducible refine RunLN.chk ?_; refine RunLN.int (by (first | (refine wr_i64 ?_ ?_; omega; omega) | (refine wm_i64 ?_; omega) | (refine wq_i64 ?_ ?_ ?_; omega; omega; omega) | rfl)) ?_) | refine RunLN.any ?_ | refine RunL.ev Tryz.tOk rfl rfl rfl ?_ | refine RunE.condF rfl rfl ?_ | refine RunE.seq ?_ | refine RunE.region ?_ | refine RunL.nil ?_ | refine RunE.skip ?_)
  refine RunL.ex rfl rfl rfl (OpE.makeMap (Value.int .i64) (fun _ => True)) ?_
  rintro _ w7 ⟨R, rfl, a, hM⟩
  have gR := a.ge X
  replace X := X.trans a.ext
  clear a
  have hM0 : MapK (Value.int .i64) (fun _ => True) w7 R (mapF namK namV (fs.take 0)) := by rw [List.take_zero]; unfold mapF; exact hM
  clear hM
  repeat' (first | (with_reducible refine RunLN.chk ?_; refine RunLN.int (by (first | (refine wr_i64 ?_ ?_; omega; omega) | (refine wm_i64 ?_; omega) | (refine wq_i64 ?_ ?_ ?_; omega; omega; omega) | rfl)) ?_) | refine RunLN.any ?_ | refine RunL.ev Tryz.tOk rfl rfl rfl ?_ | refine RunL.evV rfl rfl rfl (OpV.lenSl Tryz.tOk rfl rfl h5) ?_ | refine RunE.seq ?_ | refine RunE.region ?_ | refine RunL.nil ?_ | refine RunE.block ?_)
  refine RunE.loop (ι := Nat) (fun s => [(0, kv), (1, lv), (5, u5), (7, .map (some R)), (41, u5), (42, .int .i64 (fs.length : Int)), (43, .int .i64 (s : Int))])
    (fun s w' => s ≤ fs.length ∧ Ext w6 w' ∧ MapK (Value.int .i64) (fun _ => True) w' R (mapF namK namV (fs.take s))) (fun s => fs.length - s) 0 (by repeat (first | exact Sub.nil _ | refine Sub.cons rfl ?_)) ⟨Nat.zero_le _, X, hM0⟩ ?_
  clear X hM0
  rintro i w8 ⟨hi, X, hM⟩ again
  by_cases hil : i < fs.length
  · obtain ⟨x, hx⟩ : ∃ x, fs[i]? = some x := ⟨_, List.getElem?_eq_getElem hil⟩
    have hxm := List.mem_of_getElem? hx
    obtain ⟨hxa, hxb⟩ := m5 x hxm
    have hprx := hpr x hxm
    obtain ⟨b1, o1, c1, rfl, hr1, -⟩ := isL_held h5 hil
    have hsn : mapF namK namV (fs.take (i + 1)) = setM x.a.d.person (.bool true) (mapF namK namV (fs.take i)) := by
      rw [List.take_add_one, hx]; exact mapF_snoc _ _ _ x
    have next := fun w' a b => again (i + 1) w' (by omega) ⟨by omega, a, b⟩
    rw [hsn] at next
    clear again hsn hnam
    generalize mapF namK namV (fs.take i) = mm at hM next
    have hrx := flat_row encF (hr1.up X) hx
    have X8 := X
    replace X := ExtB.refl (fun _ => False) w8
    have lR := hM.lt
    repeat' (first | (with_reducible refine RunLN.decT ?_ ?_; focus omega) | (with_reducible refine RunLN.chk ?_; refine RunLN.int (by (first | (refine wr_i64 ?_ ?_; omega; omega) | (refine wm_i64 ?_; omega) | (refine wq_i64 ?_ ?_ ?_; omega; omega; omega) | rfl)) ?_) | refine RunLN.any ?_ | refine RunL.ev Tryz.tOk rfl rfl rfl ?_ | refine RunL.evV rfl rfl rfl (OpV.loadN Tryz.tOk rfl rfl rfl rfl hrx) ?_ | refine RunL.evV rfl rfl rfl (OpV.indexS Tryz.tOk _ rfl rfl rfl rfl (by omega)) ?_ | refine RunE.condT rfl rfl ?_ | refine RunE.seq ?_ | refine RunE.region ?_ | refine RunL.nil ?_ | refine RunE.block ?_ | refine RunE.skip ?_)
    refine RunL.alloc Tryz.tOk rfl rfl rfl fun B9 wa_ aa_ => ?_
    repeat' (first | (with_reducible refine RunLN.chk ?_; refine RunLN.int (by (first | (refine wr_i64 ?_ ?_; omega; omega) | (refine wm_i64 ?_; omega) | (refine wq_i64 ?_ ?_ ?_; omega; omega; omega) | rfl)) ?_) | refine RunL.ev Tryz.tOk rfl rfl rfl ?_)
    refine RunL.storeW (vs := x.cells) Tryz.tOk rfl rfl rfl rfl rfl aa_.at_ rfl rfl fun w9_ tb_ => ?_
    have Xa_ : Ext _ w9_ := aa_.ext.write tb_.ext (by intro i_ hi_ hlt_; have := aa_.eq; omega)
    have Z9 : Blk w9_ B9 x.cells 40 := tb_.at_
    replace hM := hM.up Xa_
    replace X := X.trans Xa_
    clear Xa_ aa_ tb_ hrx
    have cPx := cP x
    rw [hprx] at cPx
    repeat' (first | refine RunLN.any ?_ | refine RunL.ev Tryz.tOk rfl rfl rfl ?_ | refine RunL.evV rfl rfl rfl (OpV.loadN Tryz.tOk rfl rfl rfl rfl (Blk.row Z9)) ?_ | refine RunE.seq ?_ | refine RunE.region ?_ | refine RunL.nil ?_)
    refine RunL.call rfl rfl rfl (cPx _ (hwf _ hxa) (hwf _ hxb) (X6.trans (X8.trans X))) ?_
    rintro _ _ ⟨rfl, Xa_⟩
    replace Z9 := Z9.up Xa_
    replace hM := hM.up Xa_
    replace X := X.trans Xa_
    clear Xa_
    clear cPx
    repeat' (first | with_reducible refine RunLN.boolT rfl ?_ | (with_reducible refine RunLN.chk ?_; refine RunLN.int (by (first | (refine wr_i64 ?_ ?_; omega; omega) | (refine wm_i64 ?_; omega) | (refine wq_i64 ?_ ?_ ?_; omega; omega; omega) | rfl)) ?_) | refine RunLN.any ?_ | refine RunL.ev Tryz.tOk rfl rfl rfl ?_ | refine RunL.nil ?_)
    refine RunE.seq ?_
    refine RunE.cut (ι := Unit) (fun _ => [(0, kv), (1, lv), (5, .slice (some ⟨b1, o1, none⟩) fs.length c1), (7, .map (some R)), (9, .pointer (some ⟨B9, 0, none⟩)), (41, .slice (some ⟨b1, o1, none⟩) fs.length c1), (42, .int .i64 (fs.length : Int)), (43, .int .i64 (i : Int))]) (fun _ w' => Ext w8 w' ∧ Blk w' B9 x.cells 40 ∧ MapK (Value.int .i64) (fun _ => True) w' R mm) ?_ ?_
    rotate_left
    · intro join
      refine RunE.seq ?_
      refine RunE.draw (fun _ => False) mix ?_
      intro wd_ Xd_
      by_cases h0 : i = 0
      · subst h0
        repeat' (first | with_reducible refine AsyN.boolT rfl ?_ | with_reducible refine AsyN.boolF rfl ?_ | (with_reducible refine AsyN.chk ?_; refine AsyN.int (by (first | (refine wr_i64 ?_ ?_; omega; omega) | (refine wm_i64 ?_; omega) | (refine wq_i64 ?_ ?_ ?_; omega; omega; omega) | rfl)) ?_) | refine Asy.ev Tryz.tOk rfl rfl rfl ?_ | refine Asy.unwantedD rfl rfl rfl ?_)
        refine Asy.end_ (by kernel_rfl) ?_
        intro we_ Xe_
        replace Xe_ := Xd_.trans Xe_
        repeat' (first | refine RunL.nil ?_)
        refine RunE.condF rfl rfl ?_
        refine RunE.skip ?_
        exact RunE.weaken (by repeat (first | exact Sub.nil _ | refine Sub.cons rfl ?_)) (join () _ ⟨X.trans Xe_, Z9.up Xe_, hM.up Xe_⟩)
      · obtain ⟨y, hy⟩ : ∃ y, fs[i - 1]? = some y := ⟨_, List.getElem?_eq_getElem (by omega)⟩
        have hry := flat_row encF (hr1.up (X8.trans X)) hy
        have hlt := hord (i - 1) i y x (by omega) hy hx
        repeat' (first | with_reducible refine AsyN.boolT rfl ?_ | with_reducible refine AsyN.boolF rfl ?_ | (with_reducible refine AsyN.decT ?_ ?_; focus omega) | (with_reducible refine AsyN.decF ?_ ?_; focus omega) | (with_reducible refine AsyN.chk ?_; refine AsyN.int (by (first | (refine wr_i64 ?_ ?_; omega; omega) | (refine wm_i64 ?_; omega) | (refine wq_i64 ?_ ?_ ?_; omega; omega; omega) | rfl)) ?_) | refine AsyN.any ?_ | refine Asy.ev Tryz.tOk rfl rfl rfl ?_ | refine Asy.evV rfl rfl rfl rfl (fun _ X_ => OpV.load1 Tryz.tOk rfl rfl rfl (Blk.cell (Z9.up (Xd_.trans X_)) rfl)) ?_ | refine Asy.evV rfl rfl rfl rfl (fun _ X_ => OpV.indexS Tryz.tOk (i-1) rfl rfl rfl (by first | rfl | omega) (by omega)) ?_ | refine Asy.evV rfl rfl rfl rfl (fun _ X_ => OpV.load1 Tryz.tOk rfl rfl rfl ((hry.up (Xd_.trans X_)) _ _ rfl)) ?_)
        refine Asy.end_ (by kernel_rfl) ?_
        intro we_ Xe_
        replace Xe_ := Xd_.trans Xe_
        repeat' (first | refine RunL.nil ?_)
        refine RunE.condF rfl rfl ?_
        refine RunE.skip ?_
        exact RunE.weaken (by repeat (first | exact Sub.nil _ | refine Sub.cons rfl ?_)) (join () _ ⟨X.trans Xe_, Z9.up Xe_, hM.up Xe_⟩)
    clear X Z9 hM hord hpr hprx
    rintro _ w9 ⟨X, Z9, hM⟩
    repeat' (first | refine RunLN.any ?_ | refine RunL.ev Tryz.tOk rfl rfl rfl ?_ | refine RunL.evV rfl rfl rfl (OpV.loadN Tryz.tOk rfl rfl rfl rfl (row_fa Z9.row)) ?_ | refine RunL.evV rfl rfl rfl (OpV.loadN Tryz.tOk rfl rfl rfl rfl (row_fb Z9.row)) ?_ | refine RunE.seq ?_ | refine RunE.region ?_)
    refine RunL.ex rfl rfl rfl (OpE.buildL encR Tryz.tOk [x.a, x.b] rfl rfl rfl rfl rfl rfl) ?_
    rintro _ w10 ⟨⟨Bq, rfl⟩, hq, Xa_⟩
    replace hM := hM.up Xa_
    replace Z9 := Z9.up Xa_
    replace X := X.trans Xa_
    clear Xa_
    have X10 := X6.trans (X8.trans X)
    replace X8 := X8.trans X
    replace X := ExtB.refl (fun _ => False) w10
    have hqr := isL_held hq (show 0 < [x.a, x.b].length by simp)
    obtain ⟨bq, oq, cq, eq, hrq, -⟩ := hqr
    injection eq with eq _ eq'
    injection eq with eq
    injection eq with eqb eqo _
    subst eqb
    subst eqo
    clear eq' hq
    repeat' (first | (with_reducible refine RunLN.chk ?_; refine RunLN.int (by (first | (refine wr_i64 ?_ ?_; omega; omega) | (refine wm_i64 ?_; omega) | (refine wq_i64 ?_ ?_ ?_; omega; omega; omega) | rfl)) ?_) | refine RunL.ev Tryz.tOk rfl rfl rfl ?_ | refine RunL.nil ?_ | refine RunE.block ?_)
    refine RunE.loop (ι := Nat) (fun s => [(0, kv), (1, lv), (5, .slice (some ⟨b1, o1, none⟩) fs.length c1), (7, .map (some R)), (9, .pointer (some ⟨B9, 0, none⟩)), (41, .slice (some ⟨b1, o1, none⟩) fs.length c1), (42, .int .i64 (fs.length : Int)), (43, .int .i64 (i : Int)), (81, .slice (some ⟨Bq, 0, none⟩) 2 2), (82, .int .i64 2), (83, .int .i64 (s : Int))])
      (fun s w' => s ≤ 2 ∧ Ext w10 w') (fun s => 2 - s) 0 (by repeat (first | exact Sub.nil _ | refine Sub.cons rfl ?_)) ⟨Nat.zero_le _, X⟩ ?_
    clear X
    rintro s w11 ⟨hs, X⟩ again2
    by_cases hsl : s < 2
    · obtain ⟨y, hy, hya⟩ : ∃ y, [x.a, x.b][s]? = some y ∧ y ∈ allD ls := by
        obtain rfl | rfl : s = 0 ∨ s = 1 := by omega
        · exact ⟨x.a, rfl, hxa⟩
        · exact ⟨x.b, rfl, hxb⟩
      have hry := flat_row encR (hrq.up X) hy
      have hthere := there_mem hya
      have wy := hwf y hya
      have X11 := X10.trans X
      clear next
      replace again2 := fun w' e => again2 (s + 1) w' (by omega) ⟨by omega, X.trans e⟩
      clear X
      have X := ExtB.refl (fun _ => False) w11
      repeat' (first | (with_reducible refine RunLN.decT ?_ ?_; focus omega) | refine RunLN.any ?_ | refine RunL.ev Tryz.tOk rfl rfl rfl ?_ | refine RunL.evV rfl rfl rfl (OpV.loadN Tryz.tOk rfl rfl rfl rfl hry) ?_ | refine RunL.evV rfl rfl rfl (OpV.indexS Tryz.tOk _ rfl rfl rfl rfl (by omega)) ?_ | refine RunE.condT rfl rfl ?_ | refine RunE.seq ?_ | refine RunE.region ?_ | refine RunL.nil ?_ | refine RunE.block ?_ | refine RunE.skip ?_)
      refine RunL.alloc Tryz.tOk rfl rfl rfl fun B13 wa_ aa_ => ?_
      have gB13 := aa_.ge X
      refine RunL.storeW (vs := y.cells) Tryz.tOk rfl rfl rfl rfl rfl aa_.at_ rfl rfl fun w13_ tb_ => ?_
      have Xa_ : Ext _ w13_ := aa_.ext.write tb_.ext (by intro i_ hi_ hlt_; have := aa_.eq; omega)
      have Z13 : Blk w13_ B13 (y.cells) 38 := tb_.at_
      replace X := X.trans Xa_
      clear Xa_ aa_ tb_
      repeat' (first | with_reducible refine RunLN.boolF rfl ?_ | (with_reducible refine RunLN.chk ?_; refine RunLN.int (by (first | (refine wr_i64 ?_ ?_; omega; omega) | (refine wm_i64 ?_; omega) | (refine wq_i64 ?_ ?_ ?_; omega; omega; omega) | rfl)) ?_) | refine RunLN.any ?_ | refine RunL.ev Tryz.tOk rfl rfl rfl ?_ | refine RunL.evV rfl rfl rfl (OpV.lenSl Tryz.tOk rfl rfl hat) ?_ | refine RunE.seq ?_ | refine RunE.region ?_ | refine RunL.nil ?_ | refine RunE.block ?_)
      refine RunE.loop (ι := Nat × Bool) (fun q => [(0, kv), (1, lv), (5, .slice (some ⟨b1, o1, none⟩) fs.length c1), (7, .map (some R)), (9, .pointer (some ⟨B9, 0, none⟩)), (13, .pointer (some ⟨B13, 0, none⟩)), (14, .bool q.2), (41, .slice (some ⟨b1, o1, none⟩) fs.length c1), (42, .int .i64 (fs.length : Int)), (43, .int .i64 (i : Int)), (81, .slice (some ⟨Bq, 0, none⟩) 2 2), (82, .int .i64 2), (83, .int .i64 (s : Int)), (87, lv), (88, .int .i64 (ls.length : Int)), (89, .int .i64 (q.1 : Int))])
        (fun q w' => q.1 ≤ ls.length ∧ ((ls.take q.1).any fun z => thereL Dr.d z.l y.d) = q.2 ∧ Ext w11 w' ∧ Blk w' B13 y.cells 38) (fun q => ls.length - q.1) (0, false) (by repeat (first | exact Sub.nil _ | refine Sub.cons rfl ?_)) ⟨Nat.zero_le _, rfl, X, Z13⟩ ?_
      clear X Z13
      rintro ⟨t, fd⟩ w12 ⟨ht, hfd, X, Z13⟩ again3
      simp only at ht hfd again3 ⊢
      by_cases htl : t < ls.length
      · obtain ⟨z, hz⟩ : ∃ z, ls[t]? = some z := ⟨_, List.getElem?_eq_getElem htl⟩
        obtain ⟨b2, o2, c2, rfl, hr2, -⟩ := isL_held hat htl
        have hrz := flat_row encLl (hr2.up (X11.trans X)) hz
        have hzm := List.mem_of_getElem? hz
        have hnew := any_snoc (fun z : Ll => thereL Dr.d z.l y.d) hz
        rw [hfd] at hnew
        clear hfd hthere
        cases fd with
        | true =>
          rw [Bool.true_or] at hnew
          repeat' (first | with_reducible refine RunLN.boolT rfl ?_ | (with_reducible refine RunLN.decT ?_ ?_; focus omega) | (with_reducible refine RunLN.chk ?_; refine RunLN.int (by (first | (refine wr_i64 ?_ ?_; omega; omega) | (refine wm_i64 ?_; omega) | (refine wq_i64 ?_ ?_ ?_; omega; omega; omega) | rfl)) ?_) | refine RunLN.any ?_ | refine RunL.ev Tryz.tOk rfl rfl rfl ?_ | refine RunL.unwantedD rfl rfl ?_ | refine RunL.evV rfl rfl rfl (OpV.load1 Tryz.tOk rfl rfl rfl (hrz 0 _ rfl)) ?_ | refine RunL.evV rfl rfl rfl (OpV.indexS Tryz.tOk _ rfl rfl rfl rfl (by omega)) ?_ | refine RunE.condT rfl rfl ?_ | refine RunE.seq ?_ | refine RunE.region ?_ | refine RunL.nil ?_ | refine RunE.block ?_ | refine RunE.inBlock ?_ | refine RunE.skip ?_)
          exact RunE.weaken (by repeat (first | exact Sub.nil _ | refine Sub.cons rfl ?_)) (again3 (t + 1, true) _ (by simp only; omega) ⟨by simp only; omega, hnew, X, Z13⟩)
        | false =>
          rw [Bool.false_or] at hnew
          have hpz := hpart z hzm
          have hzl : z.l.length < 9223372036854775808 := by have := h.each z hzm; omega
          have hzw : ∀ d ∈ z.l, WfX W d := fun d hd => hwf d (List.mem_flatMap.2 ⟨z, hzm, hd⟩)
          have cH := fun w' (e : Ext W w') => lhas_ok z.l z.v y w' (hpz.up e) hzl (fun d hd => (hzw d hd).up e) (wy.up e)
          generalize thereL Dr.d z.l y.d = bz at hnew cH
          repeat' (first | with_reducible refine RunLN.boolF rfl ?_ | (with_reducible refine RunLN.decT ?_ ?_; focus omega) | refine RunLN.any ?_ | refine RunL.ev Tryz.tOk rfl rfl rfl ?_ | refine RunL.evV rfl rfl rfl (OpV.load1 Tryz.tOk rfl rfl rfl (hrz 0 _ rfl)) ?_ | refine RunL.evV rfl rfl rfl (OpV.loadN Tryz.tOk rfl rfl rfl rfl (Blk.row Z13)) ?_ | refine RunL.evV rfl rfl rfl (OpV.indexS Tryz.tOk _ rfl rfl rfl rfl (by omega)) ?_ | refine RunE.condT rfl rfl ?_ | refine RunE.seq ?_ | refine RunE.region ?_ | refine RunL.nil ?_ | refine RunE.block ?_ | refine RunE.skip ?_)
          refine RunL.call rfl rfl rfl (cH _ (X11.trans X)) ?_
          rintro _ _ ⟨rfl, Xa_⟩
          replace Z13 := Z13.up Xa_
          replace X := X.trans Xa_
          clear Xa_
          repeat' (first | (with_reducible refine RunLN.chk ?_; refine RunLN.int (by (first | (refine wr_i64 ?_ ?_; omega; omega) | (refine wm_i64 ?_; omega) | (refine wq_i64 ?_ ?_ ?_; omega; omega; omega) | rfl)) ?_) | refine RunLN.any ?_ | refine RunL.ev Tryz.tOk rfl rfl rfl ?_ | refine RunE.region ?_ | refine RunL.nil ?_ | refine RunE.inBlock ?_)
          exact RunE.weaken (by repeat (first | exact Sub.nil _ | refine Sub.cons rfl ?_)) (again3 (t + 1, bz) _ (by simp only; omega) ⟨by simp only; omega, hnew, X, Z13⟩)
      · obtain rfl : t = ls.length := by omega
        rw [List.take_length, hthere] at hfd
        subst hfd
        clear again3
        repeat' (first | with_reducible refine RunLN.boolT rfl ?_ | with_reducible refine RunLN.boolF rfl ?_ | (with_reducible refine RunLN.decF ?_ ?_; focus omega) | (with_reducible refine RunLN.chk ?_; refine RunLN.int (by (first | (refine wr_i64 ?_ ?_; omega; omega) | (refine wm_i64 ?_; omega) | (refine wq_i64 ?_ ?_ ?_; omega; omega; omega) | rfl)) ?_) | refine RunL.ev Tryz.tOk rfl rfl rfl ?_ | refine RunE.condF rfl rfl ?_ | refine RunE.seq ?_ | refine RunE.region ?_ | refine RunL.nil ?_ | refine RunE.inBlock ?_ | refine RunE.skip ?_ | refine RunE.exit rfl ?_)
        exact RunE.weaken (by repeat (first | exact Sub.nil _ | refine Sub.cons rfl ?_)) (again2 _ X)
    · obtain rfl : s = 2 := by omega
      clear again2
      replace hM := hM.up X
      replace Z9 := Z9.up X
      have gR8 : w6.heap.size ≤ R := gR
      repeat' (first | with_reducible refine RunLN.boolF rfl ?_ | (with_reducible refine RunLN.chk ?_; refine RunLN.int (by (first | (refine wr_i64 ?_ ?_; omega; omega) | (refine wm_i64 ?_; omega) | (refine wq_i64 ?_ ?_ ?_; omega; omega; omega) | rfl)) ?_) | refine RunLN.any ?_ | refine RunL.ev Tryz.tOk rfl rfl rfl ?_ | refine RunL.evV rfl rfl rfl (OpV.load1 Tryz.tOk rfl rfl rfl (Blk.cell Z9 rfl)) ?_ | refine RunE.condF rfl rfl ?_ | refine RunE.seq ?_ | refine RunE.region ?_ | refine RunL.nil ?_ | refine RunE.exit rfl ?_)
      refine RunL.exN rfl rfl (OpE.mapSet (kv := Value.int .i64) (good := fun _ => True) (k := x.a.d.person) (v := .bool true) Tryz.underlying58 keyInt rfl rfl rfl trivial hM) ?_
      rintro _ w13 ⟨hM2, e13, s13⟩
      have XX : Ext w6 w13 := (X8.trans X).write e13 (by intro k hk hlt; omega)
      repeat' (first | (with_reducible refine RunLN.chk ?_; refine RunLN.int (by (first | (refine wr_i64 ?_ ?_; omega; omega) | (refine wm_i64 ?_; omega) | (refine wq_i64 ?_ ?_ ?_; omega; omega; omega) | rfl)) ?_) | refine RunL.ev Tryz.tOk rfl rfl rfl ?_ | refine RunE.region ?_ | refine RunL.nil ?_ | refine RunE.inBlock ?_)
      exact RunE.weaken (by repeat (first | exact Sub.nil _ | refine Sub.cons rfl ?_)) (next _ XX hM2)
  · obtain rfl : i = fs.length := by omega
    rw [List.take_length] at hM
    clear again hord hpr m5 hfl h5 gR
    generalize mapF namK namV fs = mm at hM hnam
    have X8 := X6.trans X
    clear X
    have X := ExtB.refl (fun _ => False) w8
    have hO0 : w8.ownsRow w8.heap.size 38 39 nilV (allD (ls.take 0)).length (flat Dr.cells (allD (ls.take 0))) := World.ownsRow_nil _ _ _ _
    repeat' (first | (with_reducible refine RunLN.decF ?_ ?_; focus omega) | (with_reducible refine RunLN.chk ?_; refine RunLN.int (by (first | (refine wr_i64 ?_ ?_; omega; omega) | (refine wm_i64 ?_; omega) | (refine wq_i64 ?_ ?_ ?_; omega; omega; omega) | rfl)) ?_) | refine RunLN.any ?_ | refine RunL.ev Tryz.tOk rfl rfl rfl ?_ | refine RunL.evV rfl rfl rfl (OpV.lenSl Tryz.tOk rfl rfl hat) ?_ | refine RunE.condF rfl rfl ?_ | refine RunE.seq ?_ | refine RunE.region ?_ | refine RunL.nil ?_ | refine RunE.block ?_ | refine RunE.exit rfl ?_)
    refine RunE.loop (ι := Nat × Value) (fun q => [(0, kv), (7, .map (some R)), (17, q.2), (108, lv), (109, .int .i64 (ls.length : Int)), (110, .int .i64 (q.1 : Int))])
      (fun q w' => q.1 ≤ ls.length ∧ Ext w8 w' ∧ w'.ownsRow w8.heap.size 38 39 q.2 (allD (ls.take q.1)).length (flat Dr.cells (allD (ls.take q.1)))) (fun q => ls.length - q.1) (0, nilV) (by repeat (first | exact Sub.nil _ | refine Sub.cons rfl ?_)) ⟨Nat.zero_le _, X, hO0⟩ ?_
    clear X hO0
    rintro ⟨t, u⟩ w9 ⟨ht, X, hO⟩ again
    simp only at ht hO again ⊢
    by_cases htl : t < ls.length
    · obtain ⟨z, hz⟩ : ∃ z, ls[t]? = some z := ⟨_, List.getElem?_eq_getElem htl⟩
      obtain ⟨b2, o2, c2, rfl, hr2, -⟩ := isL_held hat htl
      have hrz := flat_row encLl (hr2.up (X8.trans X)) hz
      have hpz := (hpart z (List.mem_of_getElem? hz)).up (X8.trans X)
      have e2 := allD_take hz
      have e3 := lenD_le ls (t + 1)
      have e4 := lenD_take hz
      have e5 : (allD (ls.take t)).length = lenD (ls.take t) := allD_len _
      have next := fun u' w' a b => again (t + 1, u') w' (by simp only; omega) ⟨by simp only; omega, a, b⟩
      simp only [e2] at next
      clear again e2
      generalize allD (ls.take t) = out at hO next e5
      have hs9 := X.size
      repeat' (first | (with_reducible refine RunLN.decT ?_ ?_; focus omega) | refine RunLN.any ?_ | refine RunL.ev Tryz.tOk rfl rfl rfl ?_ | refine RunL.evV rfl rfl rfl (OpV.load1 Tryz.tOk rfl rfl rfl (hrz 0 _ rfl)) ?_ | refine RunL.evV rfl rfl rfl (OpV.indexS Tryz.tOk _ rfl rfl rfl rfl (by omega)) ?_ | refine RunE.condT rfl rfl ?_ | refine RunE.seq ?_ | refine RunE.region ?_ | refine RunL.nil ?_ | refine RunE.block ?_ | refine RunE.skip ?_)
      refine RunL.ex rfl rfl rfl (OpE.append' Tryz.tOk rfl rfl rfl rfl rfl rfl hO hpz (flat_plain encR z.l) (by show _ * 120 ≤ _; omega) (by omega) hs9) ?_
      rintro u' w10 ⟨O8, E8, -⟩
      have XX : Ext w8 w10 := X.write E8 (by intro k hk hlt; have := ownsRow_ge hO hk; omega)
      repeat' (first | (with_reducible refine RunLN.chk ?_; refine RunLN.int (by (first | (refine wr_i64 ?_ ?_; omega; omega) | (refine wm_i64 ?_; omega) | (refine wq_i64 ?_ ?_ ?_; omega; omega; omega) | rfl)) ?_) | refine RunLN.any ?_ | refine RunL.ev Tryz.tOk rfl rfl rfl ?_ | refine RunE.region ?_ | refine RunL.nil ?_ | refine RunE.inBlock ?_)
      exact RunE.weaken (by repeat (first | exact Sub.nil _ | refine Sub.cons rfl ?_)) (next _ _ XX (by rw [List.length_append, flat_append]; exact O8))
    obtain rfl : t = ls.length := by omega
    rw [List.take_length] at hO
    clear again
    have hall : LDr w9 u (allD ls) := isSl_own hO
    have hal : (allD ls).length ≤ 40 := by rw [allD_len]; exact h40
    replace hM := hM.up X
    replace X8 := X8.trans X
    clear hO X hat hpart hfew h h40 hl64
    generalize allD ls = all at *
    have X := ExtB.refl (fun _ => False) w9
    repeat' (first | (with_reducible refine RunLN.decF ?_ ?_; focus omega) | (with_reducible refine RunLN.chk ?_; refine RunLN.int (by (first | (refine wr_i64 ?_ ?_; omega; omega) | (refine wm_i64 ?_; omega) | (refine wq_i64 ?_ ?_ ?_; omega; omega; omega) | rfl)) ?_) | refine RunLN.any ?_ | refine RunL.ev Tryz.tOk rfl rfl rfl ?_ | refine RunL.evV rfl rfl rfl (OpV.lenSl Tryz.tOk rfl rfl hall) ?_ | refine RunE.condF rfl rfl ?_ | refine RunE.seq ?_ | refine RunE.region ?_ | refine RunL.nil ?_ | refine RunE.block ?_ | refine RunE.exit rfl ?_)
    refine RunE.loop (ι := Nat) (fun s => [(0, kv), (7, .map (some R)), (17, u), (118, u), (119, .int .i64 (all.length : Int)), (120, .int .i64 (s : Int))])
      (fun s w' => s ≤ all.length ∧ Ext w9 w') (fun s => all.length - s) 0 (by repeat (first | exact Sub.nil _ | refine Sub.cons rfl ?_)) ⟨Nat.zero_le _, X⟩ ?_
    clear X
    rintro i w10 ⟨hi, X⟩ again
    by_cases hil : i < all.length
    · obtain ⟨a, ha⟩ : ∃ a, all[i]? = some a := ⟨_, List.getElem?_eq_getElem hil⟩
      have ham := List.mem_of_getElem? ha
      obtain ⟨b1, o1, c1, rfl, hr1, hcap⟩ := isL_held hall hil
      have hra := flat_row encR (hr1.up X) ha
      have X10 := X
      replace X := ExtB.refl (fun _ => False) w10
      repeat' (first | (with_reducible refine RunLN.decT ?_ ?_; focus omega) | (with_reducible refine RunLN.chk ?_; refine RunLN.int (by (first | (refine wr_i64 ?_ ?_; omega; omega) | (refine wm_i64 ?_; omega) | (refine wq_i64 ?_ ?_ ?_; omega; omega; omega) | rfl)) ?_) | refine RunLN.any ?_ | refine RunL.ev Tryz.tOk rfl rfl rfl ?_ | refine RunL.evV rfl rfl rfl (OpV.loadN Tryz.tOk rfl rfl rfl rfl hra) ?_ | refine RunL.evV rfl rfl rfl (OpV.indexS Tryz.tOk _ rfl rfl rfl rfl (by omega)) ?_ | refine RunE.condT rfl rfl ?_ | refine RunE.seq ?_ | refine RunE.region ?_ | refine RunL.nil ?_ | refine RunE.block ?_ | refine RunE.skip ?_)
      refine RunL.alloc Tryz.tOk rfl rfl rfl fun B21 wa_ aa_ => ?_
      repeat' (first | (with_reducible refine RunLN.chk ?_; refine RunLN.int (by (first | (refine wr_i64 ?_ ?_; omega; omega) | (refine wm_i64 ?_; omega) | (refine wq_i64 ?_ ?_ ?_; omega; omega; omega) | rfl)) ?_) | refine RunL.ev Tryz.tOk rfl rfl rfl ?_)
      refine RunL.storeW (vs := a.cells) Tryz.tOk rfl rfl rfl rfl rfl aa_.at_ rfl rfl fun w21_ tb_ => ?_
      have Xa_ : Ext _ w21_ := aa_.ext.write tb_.ext (by intro i_ hi_ hlt_; have := aa_.eq; omega)
      have Z21 : Blk w21_ B21 a.cells 38 := tb_.at_
      replace X := X10.trans (X.trans Xa_)
      clear Xa_ aa_ tb_ hra X10
      repeat' (first | (with_reducible refine RunLN.chk ?_; refine RunLN.int (by (first | (refine wr_i64 ?_ ?_; omega; omega) | (refine wm_i64 ?_; omega) | (refine wq_i64 ?_ ?_ ?_; omega; omega; omega) | rfl)) ?_) | refine RunLN.any ?_ | refine RunL.ev Tryz.tOk rfl rfl rfl ?_ | refine RunL.evV rfl rfl rfl ((OpV.slice0 Tryz.tOk (hi := i) rfl rfl .none (.some rfl rfl) (by omega))) ?_ | refine RunE.seq ?_ | refine RunE.region ?_ | refine RunL.nil ?_ | refine RunE.block ?_)
      refine RunE.loop (ι := Nat) (fun s => [(0, kv), (7, .map (some R)), (17, .slice (some ⟨b1, o1, none⟩) all.length c1), (21, .pointer (some ⟨B21, 0, none⟩)), (118, .slice (some ⟨b1, o1, none⟩) all.length c1), (119, .int .i64 (all.length : Int)), (120, .int .i64 (i : Int)), (127, .slice (some ⟨b1, o1, none⟩) i c1), (128, .int .i64 (i : Int)), (129, .int .i64 (s : Int))])
        (fun s w' => s ≤ i ∧ Ext w9 w' ∧ Blk w' B21 a.cells 38) (fun s => i - s) 0 (by repeat (first | exact Sub.nil _ | refine Sub.cons rfl ?_)) ⟨Nat.zero_le _, X, Z21⟩ ?_
      clear X Z21
      rintro k w11 ⟨hk', X, Z21⟩ again2
      by_cases hki' : k < i
      · obtain ⟨b, hb⟩ : ∃ b, all[k]? = some b := ⟨_, List.getElem?_eq_getElem (by omega)⟩
        have hbm := List.mem_of_getElem? hb
        have hrb := flat_row encR (hr1.up X) hb
        have hget := hnam a b ham hbm
        have cPx := cP ⟨a, b⟩
        simp only at cPx
        have wa := hwf a ham
        have wb := hwf b hbm
        have X11 := X
        have next := fun w' e z => again2 (k + 1) w' (by omega) ⟨by omega, X.trans e, z⟩
        clear again again2 X
        have X := ExtB.refl (fun _ => False) w11
        repeat' (first | (with_reducible refine RunLN.decT ?_ ?_; focus omega) | refine RunLN.any ?_ | refine RunL.ev Tryz.tOk rfl rfl rfl ?_ | refine RunL.evV rfl rfl rfl (OpV.loadN Tryz.tOk rfl rfl rfl rfl hrb) ?_ | refine RunL.evV rfl rfl rfl (OpV.indexS Tryz.tOk _ rfl rfl rfl rfl (by omega)) ?_ | refine RunE.condT rfl rfl ?_ | refine RunE.seq ?_ | refine RunE.region ?_ | refine RunL.nil ?_ | refine RunE.block ?_ | refine RunE.skip ?_)
        refine RunL.alloc Tryz.tOk rfl rfl rfl fun B23 wa_ aa_ => ?_
        have gB23 := aa_.ge X
        refine RunL.storeW (vs := b.cells) Tryz.tOk rfl rfl rfl rfl rfl aa_.at_ rfl rfl fun w23_ tb_ => ?_
        have Xa_ : Ext _ w23_ := aa_.ext.write tb_.ext (by intro i_ hi_ hlt_; have := aa_.eq; omega)
        have Z23 : Blk w23_ B23 (b.cells) 38 := tb_.at_
        have n21_23 : B21 ≠ B23 := by have := Z21.lt; have := aa_.eq; omega
        have n23_21 : B23 ≠ B21 := Ne.symm n21_23
        replace Z21 := Z21.up Xa_
        replace X := X.trans Xa_
        clear Xa_ aa_ tb_
        repeat' (first | refine RunLN.any ?_ | refine RunL.ev Tryz.tOk rfl rfl ((build_fork a b rfl rfl)) ?_ | refine RunL.ev Tryz.tOk rfl rfl rfl ?_ | refine RunL.evV rfl rfl rfl (OpV.loadN Tryz.tOk rfl rfl rfl rfl (Blk.row Z21)) ?_ | refine RunL.evV rfl rfl rfl (OpV.loadN Tryz.tOk rfl rfl rfl rfl (Blk.row Z23)) ?_ | refine RunE.seq ?_ | refine RunE.region ?_ | refine RunL.nil ?_)
        refine RunL.call rfl rfl rfl (cPx _ wa wb (X8.trans (X11.trans X))) ?_
        rintro _ _ ⟨rfl, Xa_⟩
        replace Z21 := Z21.up Xa_
        replace X := X.trans Xa_
        clear Xa_
        cases hpb : provesB ks a.d b.d with
        | false =>
          repeat' (first | with_reducible refine RunLN.boolF rfl ?_ | (with_reducible refine RunLN.chk ?_; refine RunLN.int (by (first | (refine wr_i64 ?_ ?_; omega; omega) | (refine wm_i64 ?_; omega) | (refine wq_i64 ?_ ?_ ?_; omega; omega; omega) | rfl)) ?_) | refine RunLN.any ?_ | refine RunL.ev Tryz.tOk rfl rfl rfl ?_ | refine RunL.unwantedD rfl rfl ?_ | refine RunE.condF rfl rfl ?_ | refine RunE.seq ?_ | refine RunE.region ?_ | refine RunL.nil ?_ | refine RunE.inBlock ?_ | refine RunE.skip ?_)
          exact RunE.weaken (by repeat (first | exact Sub.nil _ | refine Sub.cons rfl ?_)) (next _ X Z21)
        | true =>
          have hgt := hget hpb
          repeat' (first | with_reducible refine RunLN.boolT rfl ?_ | with_reducible refine RunLN.boolF rfl ?_ | (with_reducible refine RunLN.chk ?_; refine RunLN.int (by (first | (refine wr_i64 ?_ ?_; omega; omega) | (refine wm_i64 ?_; omega) | (refine wq_i64 ?_ ?_ ?_; omega; omega; omega) | rfl)) ?_) | refine RunLN.any ?_ | refine RunL.ev Tryz.tOk rfl rfl rfl ?_ | refine RunL.evV rfl rfl rfl (OpV.load1 Tryz.tOk rfl rfl rfl (Blk.cell Z21 rfl)) ?_ | refine RunE.seq ?_ | refine RunE.region ?_ | refine RunL.nil ?_)
          refine RunL.evV rfl rfl rfl (OpV.lookup (kv := Value.int .i64) (good := fun _ => True) (k := a.d.person) (z := .bool false) Tryz.underlying58 keyInt (by kernel_rfl) rfl rfl trivial (hM.up (X11.trans X))) ?_
          rw [hgt]
          repeat' (first | with_reducible refine RunLN.boolF rfl ?_ | refine RunLN.boolT (by exact rfl) ?_ | (with_reducible refine RunLN.chk ?_; refine RunLN.int (by (first | (refine wr_i64 ?_ ?_; omega; omega) | (refine wm_i64 ?_; omega) | (refine wq_i64 ?_ ?_ ?_; omega; omega; omega) | rfl)) ?_) | refine RunL.ev Tryz.tOk rfl rfl rfl ?_ | refine RunE.condF rfl rfl ?_ | refine RunE.region ?_ | refine RunL.nil ?_ | refine RunE.inBlock ?_ | refine RunE.skip ?_)
          exact RunE.weaken (by repeat (first | exact Sub.nil _ | refine Sub.cons rfl ?_)) (next _ X Z21)
      · obtain rfl : k = i := by omega
        clear again2
        repeat' (first | (with_reducible refine RunLN.decF ?_ ?_; focus omega) | (with_reducible refine RunLN.chk ?_; refine RunLN.int (by (first | (refine wr_i64 ?_ ?_; omega; omega) | (refine wm_i64 ?_; omega) | (refine wq_i64 ?_ ?_ ?_; omega; omega; omega) | rfl)) ?_) | refine RunL.ev Tryz.tOk rfl rfl rfl ?_ | refine RunE.condF rfl rfl ?_ | refine RunE.seq ?_ | refine RunE.region ?_ | refine RunL.nil ?_ | refine RunE.inBlock ?_ | refine RunE.exit rfl ?_)
        exact RunE.weaken (by repeat (first | exact Sub.nil _ | refine Sub.cons rfl ?_)) (again (k + 1) _ (by omega) ⟨by omega, X⟩)
    · obtain rfl : i = all.length := by omega
      clear again
      repeat' (first | with_reducible refine RunLN.boolT rfl ?_ | (with_reducible refine RunLN.decF ?_ ?_; focus omega) | refine RunL.ev Tryz.tOk rfl rfl rfl ?_ | refine RunE.condF rfl rfl ?_ | refine RunE.seq ?_ | refine RunE.region ?_ | refine RunL.nil ?_ | refine RunE.exit rfl ?_)
      exact RunE.retFn Tryz.func7 (.tmp rfl .nil) ⟨rfl, X8.trans X⟩
end Go.Sg
namespace Go.Proofs.YtpmpefkcmokoiaaGreatDoor
open Go.ChangeShapes Go.WideShapes Go.ChangeAt Go.RowKit Go.Sg
namespace mergeNamed
theorem own : ownKnob Tryz.prog.godebug = none := by kernel_rfl
theorem laidOut : laidOutB Tryz.prog = true := by kernel_rfl
theorem door_met (os : Os) (args : Array Value) : laidMetH Tryz.prog Rows.mergeNamedRow.laid ((World.doorLaid Tryz.prog 19 os).forCall (fun _ _ => 0) ⟨#[], args, []⟩).memory :=
  laidMetH_of_parts3 (fuel := 8) (laidMet_of_run' 8 (by kernel_rfl) (by kernel_rfl)) (by kernel_rfl) (by kernel_rfl)
set_option maxRecDepth 100000 in
theorem lifted (os : Os) (started : os.Started) (H : Type) (enc : TypeId × Value → H) :
    ReturnsInHanded {} Tryz.checked os 7 .any (fun w args => (Rows.mergeNamedSpec.pre enc Tryz.prog Tryz.f7 [] false w args ∧ laidMetH Tryz.prog Rows.mergeNamedRow.laid w) ∧ sizedMet enc Tryz.prog Tryz.f7 (OpenSpec.ofChange Rows.mergeNamedSpec) false w args)
      (Rows.mergeNamedSpec.post enc Tryz.prog Tryz.f7 false true false false) := by
  refine returnsInHanded_of_change_and (C := Tryz.checked) (X := fun w _ => laidMetH Tryz.prog Rows.mergeNamedRow.laid w) (fun _ _ _ hh h => h.of_heap hh) own started (by kernel_rfl) Tryz.func7
    (ChangeSpec.witness_shaped (enc := enc) (C := Tryz.checked) (os := os) (X := fun w _ => laidMetH Tryz.prog Rows.mergeNamedRow.laid w) false (World.doorLaid Tryz.prog 19 os) #[.slice none 0 0, .slice none 0 0] 8 rfl (World.shaped_of_RefB (by kernel_rfl) (by kernel_rfl)) (by kernel_rfl) (by kernel_rfl) (by kernel_rfl) (door_met os _)) ?_
  intro W base args ds gs before hval0 hW _ hwt hL _
  have hval : ∀ (j : Nat) t v, Tryz.f7.params[j]? = some t → args[j]? = some v → Value.okWide Tryz.prog W .any base t v := hval0
  have hW' := hW
  obtain ⟨p, q, hA0, hV, rfl, hfz, hnd⟩ := hW
  have hA : DataW.TrodAll enc Tryz.prog W 0 (fun _ => true) true Tryz.f7.params.toList args.toList ds p := hA0
  rw [Tryz.params7] at hA hval
  obtain ⟨v0, vs0, d0, ds0, p0, q0, hargs, rfl, rfl, h0, r0⟩ := trodAll_cons hA
  obtain ⟨v1, vs1, d1, ds1, p1, q1, rfl, rfl, rfl, h1, r1⟩ := trodAll_cons r0
  obtain ⟨rfl, rfl, rfl⟩ := trodAll_nil r1
  obtain rfl : args = #[v0, v1] := by cases args; simp_all
  obtain ⟨l0, b0, m0⟩ := keys_open (hval 0 22 v0 rfl rfl) h0
  obtain ⟨l1, m1⟩ := parts_open (Go.Rn.reach_at hwt (j := 1) rfl rfl rfl) (hval 1 23 v1 rfl rfl) h1
  have L0 := start_of_laid (by kernel_rfl) rfl (.head _) hL
  have L1 := numbers_of_laid (by kernel_rfl) rfl (.tail _ (.head _)) hL
  refine (Rets.calls (mergeNamed_walk v0 l0 v1 l1 W b0 m0 m1 L0 L1)).mono fun e W' he => ?_
  obtain ⟨_, rfl, rfl, hx⟩ := he
  exact ⟨_, rfl, law_post (t := 4) laidOut (by kernel_rfl) (by kernel_rfl) (by kernel_rfl) rfl (fun ds h => by
    rcases ds with _ | ⟨_, _ | ⟨_, _ | ⟨_, _⟩⟩⟩ <;> first | rfl | (exact absurd h (by decide)) | (simp at h)) hW' hx⟩

theorem holds : Rows.MergeNamedSaid :=
  OpenClaim.holds_of_wide 7 Tryz.f7 rfl rfl rfl rfl rfl rfl rfl ⟨rfl, rfl, rfl, rfl, rfl⟩ rfl rfl rfl rfl rfl (by kernel_rfl) Tryz.func7 (by kernel_rfl)
    (of_decide_eq_true (by kernel_rfl)) (by unfold Func.isWrapper; first | (rw [if_pos (by decide +kernel)]; kernel_rfl) | (rw [if_neg (by decide +kernel)]; exact ⟨rfl, rfl⟩))
    (fun os started H enc _ => lifted os started H enc)
theorem proved : Rows.MergeNamedCardSaid :=
  Claim7.holds_tied_plain_at .later [] [.data, .data] true (true, "75ed6596ee30abdd58d082f273dd5afe18c864f07da85c18b484820de691abc6") true
    holds (fun _ h => by cases h) (by kernel_rfl) (fun _ h => by cases h) mergeNamed_row_tie rfl ⟨rfl, rfl⟩ (by kernel_rfl) rfl
    (fun f fn hf hfn => by
      obtain rfl : f = 7 := Option.some.inj ((show Tryz.prog.funcNamed Tryz.f7.name = some 7 by kernel_rfl).symm.trans hf) |>.symm
      obtain rfl : fn = Tryz.f7 := (Option.some.inj (Tryz.func7.symm.trans hfn)).symm
      exact ⟨by kernel_rfl, fun j t ht => by
        have hall : Tryz.f7.params.toList.all (fun t => !Tryz.prog.wantsStandIn t) = true := by kernel_rfl
        have hm : t ∈ Tryz.f7.params.toList := by
          obtain ⟨hj, rfl⟩ := Array.getElem?_eq_some_iff.1 ht
          simp
        have := List.all_eq_true.1 hall t hm
        exact (by simpa using this : Tryz.prog.wantsStandIn t = false)⟩)
    (by kernel_rfl)
#print axioms proved
end mergeNamed
end Go.Proofs.YtpmpefkcmokoiaaGreatDoor
