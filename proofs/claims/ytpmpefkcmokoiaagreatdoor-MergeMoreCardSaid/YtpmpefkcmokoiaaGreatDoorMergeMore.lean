/- signatorylaw50.MergeMore returns true for every input; condition: the package variables digest.start and digest.numbers hold what the program lays in them (the card ties this). -/
import Derived.Test.YtpmpefkcmokoiaaGreatDoorMg11
import Derived.Test.YtpmpefkcmokoiaaGreatDoorMg08
set_option linter.unusedSimpArgs false
set_option linter.unusedVariables false
set_option linter.unusedSectionVars false
set_option maxRecDepth 4000
namespace Go.Sg
open Go.Rn Go.Proofs Go.Dee Go.Mer Go.Rec Go.RowKit Go.Sha Go.Cod Go.NT
attribute [local irreducible] provesB chkM mergeD liarsL leftL thereL chkP Go.Rn.RetsX Go.Rn.RunLN Go.Rn.AsyN Go.Rn.RunL Go.Rn.RunE Go.Rn.Asy Go.Rn.OpV Go.Rn.OpE Go.Rn.ExecE
theorem there_of {l : List Dr} {d : Deed} (h : ∃ z ∈ l.map Dr.d, sameF z d = true) : thereL Dr.d l d = true := by
  obtain ⟨z, hz, hs⟩ := h
  obtain ⟨y, hy, rfl⟩ := List.mem_map.1 hz
  unfold thereL
  exact List.any_eq_true.2 ⟨y, hy, hs⟩
set_option maxHeartbeats 16000000 in
theorem mergeMore_walk (kv : Value) (ks : List Int) (lv : Value) (ls : List Ll) (x : Ll) (W : World) (hkb : ks.length < 9223372036854775808 ∧ KsI ks) (hk : LIn W kv ks) (h : InL W lv ls) (hx : LDr W x.v x.l ∧ (∀ d ∈ x.l, WfX W d) ∧ x.l.length * 120 ≤ 140737488351232) (hS : Row W 0 0 (vals init8.l)) (hkT : Row W 1 0 (vals kTab)) :
    Rets Tryz.prog 9 [kv, lv, x.v] W fun r w' => r = .bool true ∧ Ext W w' := by
  obtain ⟨hkl, hki⟩ := hkb
  have hlen := h.len
  have hle : (ls ++ [x]).length = ls.length + 1 := by simp
  have hmore : ∀ y ∈ ls ++ [x], LDr W y.v y.l ∧ y.l.length * 120 ≤ 140737488351232 := fun y hy => by
    rcases List.mem_append.1 hy with hy | hy
    · exact ⟨h.part y hy, h.each y hy⟩
    · rw [List.mem_singleton] at hy; subst hy; exact ⟨hx.1, hx.2.2⟩
  have hmd : ∀ y ∈ allD (ls ++ [x]), WfX W y := fun y hy => by
    obtain ⟨z, hz, hy'⟩ := List.mem_flatMap.1 hy
    rcases List.mem_append.1 hz with hz | hz
    · exact h.wf y (List.mem_flatMap.2 ⟨z, hz, hy'⟩)
    · rw [List.mem_singleton] at hz; rw [hz] at hy'; exact hx.2.1 y hy'
  have cR := fun w' (e : Ext W w') => lright_ok ks kv ls lv w' (hk.up e) hkl (h.at_.up e) h.few (fun x hx => (h.part x hx).up e) (fun x hx => (h.wf x hx).up e) h.small
  have cQ := fun v w' (e : Ext W w') hv => lright_ok ks kv (ls ++ [x]) v w' (hk.up e) hkl hv (by omega) (fun x hx => (hmore x hx).1.up e) (fun x hx => (hmd x hx).up e) (small_of fun y hy => (hmore y hy).2)
  refine RetsX.of (nt := 158) Tryz.func9 (by kernel_rfl) rfl rfl (by simp) (by simp only [argEnv]; rfl) ?_
  have X := ExtB.refl (fun _ => False) W
  repeat' (first | with_reducible refine RunLN.boolF rfl ?_ | refine RunL.ev Tryz.tOk rfl rfl rfl ?_ | refine RunE.seq ?_ | refine RunE.region ?_ | refine RunL.nil ?_)
  refine RunL.call rfl rfl rfl (lsane_ok _ (hS.up X) (hkT.up X)) ?_
  rintro _ _ ⟨rfl, Xa_⟩
  replace X := X.trans Xa_
  clear Xa_
  repeat' (first | with_reducible refine RunLN.boolF rfl ?_ | refine RunL.ev Tryz.tOk rfl rfl rfl ?_ | refine RunE.condF rfl rfl ?_ | refine RunE.seq ?_ | refine RunE.region ?_ | refine RunL.nil ?_ | refine RunE.skip ?_)
  refine RunL.ex rfl rfl rfl (OpE.build00 Tryz.tOk 23 26 rfl rfl rfl) ?_
  rintro _ w1 ⟨⟨B0, rfl⟩, hO, Xa_⟩
  replace hO := ownsRow_base hO (show W.heap.size ≤ _ from X.size)
  replace X := X.trans Xa_
  clear Xa_
  have hs1 := X.size
  repeat' (first | refine RunLN.any ?_ | refine RunL.ev Tryz.tOk rfl rfl rfl ?_)
  refine RunL.ex rfl rfl rfl (OpE.append' Tryz.tOk rfl rfl rfl rfl rfl rfl hO (h.at_.up X) (flat_plain encLl ls) (by show _ * 24 ≤ _; omega) (by omega) hs1) ?_
  rintro u1 w2 ⟨O2, E2, -⟩
  replace X : Ext W w2 := X.write E2 (by intro k hk hlt; have := ownsRow_ge hO hk; omega)
  clear hO E2
  repeat' (first | refine RunLN.any ?_ | refine RunL.ev Tryz.tOk rfl rfl rfl ?_)
  refine RunL.ex rfl rfl rfl (OpE.buildSl Tryz.tOk [x.v] rfl rfl rfl rfl rfl rfl (by simp [Value.cells, Ll.v])) ?_
  rintro _ w3 ⟨B9, rfl, a9⟩
  have hx1 : LLl w3 (.slice (some ⟨B9, 0, none⟩) 1 1) [x] := isSl_added (n := 1) (sz := 1) a9 rfl
  replace O2 := O2.up a9.ext
  replace X := X.trans a9.ext
  clear a9
  have hs3 := X.size
  skip
  refine RunL.ex rfl rfl rfl (OpE.append' Tryz.tOk rfl rfl rfl rfl rfl rfl O2 hx1 (flat_plain encLl [x]) (by show _ * 24 ≤ _; simp only [List.length_singleton]; omega) (by simp only [List.length_singleton]; omega) hs3) ?_
  rintro mv w4 ⟨O4, E4, -⟩
  replace X : Ext W w4 := X.write E4 (by intro k hk hlt; have := ownsRow_ge O2 hk; omega)
  have hm : LLl w4 mv (ls ++ [x]) := by
    have e := isSl_own O4
    rw [List.nil_append, Nat.zero_add, ← flat_append] at e
    show IsSl w4 1 mv (ls ++ [x]).length _
    rw [hle]
    exact e
  clear O2 O4 E4 hx1
  repeat' (first | refine RunLN.any ?_ | refine RunL.ev Tryz.tOk rfl rfl rfl ?_ | refine RunE.seq ?_ | refine RunE.region ?_ | refine RunL.nil ?_)
  refine RunL.call rfl rfl rfl (cQ mv _ X hm) ?_
  rintro _ w5 ⟨⟨b, rfl, hb⟩, Xa_⟩
  replace X := X.trans Xa_
  replace hm := hm.up Xa_
  clear Xa_ cQ
  cases b with
  | false =>
    repeat' (first | with_reducible refine RunLN.boolT rfl ?_ | refine RunL.ev Tryz.tOk rfl rfl rfl ?_ | refine RunL.unwantedD rfl rfl ?_ | refine RunE.condT rfl rfl ?_ | refine RunE.seq ?_ | refine RunE.region ?_ | refine RunL.nil ?_)
    exact RunE.retFn Tryz.func9 (.tmp rfl .nil) ⟨rfl, X⟩
  | true =>
  obtain ⟨-, -, hcm⟩ := hb rfl
  clear hb
  repeat' (first | with_reducible refine RunLN.boolF rfl ?_ | refine RunLN.any ?_ | refine RunL.ev Tryz.tOk rfl rfl rfl ?_)
  refine RunL.call rfl rfl rfl (cR _ X) ?_
  rintro _ w5 ⟨⟨b, rfl, hb⟩, Xa_⟩
  replace X := X.trans Xa_
  replace hm := hm.up Xa_
  clear Xa_ cR
  cases b with
  | false =>
    repeat' (first | with_reducible refine RunLN.boolT rfl ?_ | refine RunL.ev Tryz.tOk rfl rfl rfl ?_ | refine RunE.condT rfl rfl ?_ | refine RunE.seq ?_ | refine RunE.region ?_ | refine RunL.nil ?_)
    exact RunE.retFn Tryz.func9 (.tmp rfl .nil) ⟨rfl, X⟩
  | true =>
  obtain ⟨-, -, hc⟩ := hb rfl
  clear hb
  rw [chkP_map] at hc hcm
  have hi1 : InP W lv (ls.map Ll.l) := h.inP
  have hi2 : InP w5 mv ((ls ++ [x]).map Ll.l) := ⟨_, hm, rfl, fun y hy => (hmore y hy).1.up X⟩
  have hd1 := h.wf
  have hsub : ∀ y ∈ (allD ls).map Dr.d, y ∈ (allD (ls ++ [x])).map Dr.d := fun y hy => by
    obtain ⟨z, hz, rfl⟩ := List.mem_map.1 hy
    refine List.mem_map.2 ⟨z, ?_, rfl⟩
    unfold allD
    rw [List.flatMap_append]
    exact List.mem_append_left _ hz
  rw [allD_flat] at hd1 hmd hsub
  rw [allD_flat] at hsub
  clear hm hmore hle hlen h hx
  generalize ls.map Ll.l = L at *
  generalize (ls ++ [x]).map Ll.l = M at *
  repeat' (first | with_reducible refine RunLN.boolF rfl ?_ | refine RunLN.any ?_ | refine RunL.ev Tryz.tOk rfl rfl rfl ?_ | refine RunE.condF rfl rfl ?_ | refine RunE.seq ?_ | refine RunE.region ?_ | refine RunL.nil ?_ | refine RunE.skip ?_)
  refine RunL.call rfl rfl rfl (pMerge_ok hc hki hkl (hk.up X) (hi1.up X) (fun z hz => (hd1 z hz).up X) (hS.up X) (hkT.up X)) ?_
  rintro _ w6 ⟨⟨u8, out, rfl, h8, e8, m8⟩, Xa_⟩
  replace X := X.trans Xa_
  replace hi2 := hi2.up Xa_
  clear Xa_
  repeat' (first | (with_reducible refine RunLN.chk ?_; refine RunLN.int (by (first | (refine wr_i64 ?_ ?_; omega; omega) | (refine wm_i64 ?_; omega) | (refine wq_i64 ?_ ?_ ?_; omega; omega; omega) | rfl)) ?_) | refine RunLN.any ?_ | refine RunL.ev Tryz.tOk rfl rfl rfl ?_ | refine RunE.seq ?_ | refine RunE.region ?_ | refine RunL.nil ?_)
  refine RunL.call rfl rfl rfl (pMerge_ok hcm hki hkl (hk.up X) hi2 (fun z hz => (hmd z hz).up X) (hS.up X) (hkT.up X)) ?_
  rintro _ w7 ⟨⟨u10, out', rfl, h10, e10, m10⟩, Xa_⟩
  replace X := X.trans Xa_
  replace hi2 := hi2.up Xa_
  replace h8 := h8.up Xa_
  clear Xa_
  repeat' (first | (with_reducible refine RunLN.chk ?_; refine RunLN.int (by (first | (refine wr_i64 ?_ ?_; omega; omega) | (refine wm_i64 ?_; omega) | (refine wq_i64 ?_ ?_ ?_; omega; omega; omega) | rfl)) ?_) | refine RunLN.any ?_ | refine RunL.ev Tryz.tOk rfl rfl rfl ?_ | refine RunE.seq ?_ | refine RunE.region ?_ | refine RunL.nil ?_)
  refine RunL.call rfl rfl rfl (pLiars_ok hc hki hkl (hk.up X) (hi1.up X) (fun z hz => (hd1 z hz).up X) (hS.up X) (hkT.up X)) ?_
  rintro _ w8 ⟨⟨u12, fs, rfl, h12, e12, m12⟩, Xa_⟩
  replace X := X.trans Xa_
  replace hi2 := hi2.up Xa_
  replace h8 := h8.up Xa_
  replace h10 := h10.up Xa_
  clear Xa_
  repeat' (first | (with_reducible refine RunLN.chk ?_; refine RunLN.int (by (first | (refine wr_i64 ?_ ?_; omega; omega) | (refine wm_i64 ?_; omega) | (refine wq_i64 ?_ ?_ ?_; omega; omega; omega) | rfl)) ?_) | refine RunLN.any ?_ | refine RunL.ev Tryz.tOk rfl rfl rfl ?_ | refine RunE.seq ?_ | refine RunE.region ?_ | refine RunL.nil ?_)
  refine RunL.call rfl rfl rfl (pLiars_ok hcm hki hkl (hk.up X) hi2 (fun z hz => (hmd z hz).up X) (hS.up X) (hkT.up X)) ?_
  rintro _ w9 ⟨⟨u14, gs, rfl, h14, e14, m14⟩, Xa_⟩
  replace X := X.trans Xa_
  replace h8 := h8.up Xa_
  replace h10 := h10.up Xa_
  replace h12 := h12.up Xa_
  clear Xa_
  have hI : MoreI ks (L.flatten.map Dr.d) (M.flatten.map Dr.d) fs gs := ⟨hsub, e12, e14⟩
  have hfl : fs.length ≤ 64 := by rw [lenF e12]; exact liars_len _
  have hgl : gs.length ≤ 64 := by rw [lenF e14]; exact liars_len _
  have hol : out.length < 9223372036854775808 := by
    have h1 := merge_len ks (L.flatten.map Dr.d)
    have h2 := lenM e8
    have h3 := (chkP_inv hc).2.2
    rw [List.length_map] at h1
    omega
  have hol' : out'.length < 9223372036854775808 := by
    have h1 := merge_len ks (M.flatten.map Dr.d)
    have h2 := lenM e10
    have h3 := (chkP_inv hcm).2.2
    rw [List.length_map] at h1
    omega
  have w8' : ∀ z ∈ out, WfX w9 z := fun z hz => (hd1 z (m8 z hz)).up X
  have w10' : ∀ z ∈ out', WfX w9 z := fun z hz => (hmd z (m10 z hz)).up X
  have hlt := hI.len
  clear hi2 hi1 hd1 hmd hsub m8 m10 m12 m14 e12 e14 hc hcm
  by_cases hlen : fs.length = gs.length
  rotate_left
  · repeat' (first | with_reducible refine RunLN.boolT rfl ?_ | with_reducible refine RunLN.boolF rfl ?_ | (with_reducible refine RunLN.decT ?_ ?_; focus omega) | (with_reducible refine RunLN.neT ?_ ?_; focus omega) | (with_reducible refine RunLN.chk ?_; refine RunLN.int (by (first | (refine wr_i64 ?_ ?_; omega; omega) | (refine wm_i64 ?_; omega) | (refine wq_i64 ?_ ?_ ?_; omega; omega; omega) | rfl)) ?_) | refine RunLN.any ?_ | refine RunL.ev Tryz.tOk rfl rfl rfl ?_ | refine RunL.evV rfl rfl rfl (OpV.lenSl Tryz.tOk rfl rfl h12) ?_ | refine RunL.evV rfl rfl rfl (OpV.lenSl Tryz.tOk rfl rfl h14) ?_ | refine RunE.condT rfl rfl ?_ | refine RunE.condF rfl rfl ?_ | refine RunE.seq ?_ | refine RunE.region ?_ | refine RunL.nil ?_ | refine RunE.skip ?_)
    exact RunE.retFn Tryz.func9 (.tmp rfl .nil) ⟨rfl, X⟩
  have hX9 := X
  replace X := ExtB.refl (fun _ => False) w9
  repeat' (first | with_reducible refine RunLN.boolF rfl ?_ | (with_reducible refine RunLN.neF ?_ ?_; focus omega) | (with_reducible refine RunLN.chk ?_; refine RunLN.int (by (first | (refine wr_i64 ?_ ?_; omega; omega) | (refine wm_i64 ?_; omega) | (refine wq_i64 ?_ ?_ ?_; omega; omega; omega) | rfl)) ?_) | refine RunLN.any ?_ | refine RunL.ev Tryz.tOk rfl rfl rfl ?_ | refine RunL.evV rfl rfl rfl (OpV.lenSl Tryz.tOk rfl rfl h12) ?_ | refine RunL.evV rfl rfl rfl (OpV.lenSl Tryz.tOk rfl rfl h14) ?_ | refine RunE.condF rfl rfl ?_ | refine RunE.seq ?_ | refine RunE.region ?_ | refine RunL.nil ?_ | refine RunE.block ?_ | refine RunE.skip ?_)
  refine RunE.loop (ι := Nat) (fun s => [(8, u8), (10, u10), (12, u12), (14, u14), (86, .int .i64 (fs.length : Int)), (87, .int .i64 (s : Int))])
    (fun s w' => s ≤ fs.length ∧ (∀ (j : Nat) (p q : Fr), j < s → fs[j]? = some p → gs[j]? = some q → p.a.d.no = q.a.d.no) ∧ Ext w9 w') (fun s => fs.length - s) 0 (by repeat (first | exact Sub.nil _ | refine Sub.cons rfl ?_)) ⟨Nat.zero_le _, fun j p q hj => by omega, X⟩ ?_
  clear X
  rintro i w10 ⟨hi, hno, X⟩ again
  by_cases hil : i < fs.length
  · obtain ⟨p, hp⟩ : ∃ p, fs[i]? = some p := ⟨_, List.getElem?_eq_getElem hil⟩
    obtain ⟨q, hq⟩ : ∃ q, gs[i]? = some q := ⟨_, List.getElem?_eq_getElem (by omega)⟩
    obtain ⟨hpe, hle⟩ := hI.person hlen hp hq
    obtain ⟨b1, o1, c1, rfl, hr1, -⟩ := isL_held h12 hil
    obtain ⟨b2, o2, c2, rfl, hr2, -⟩ := isL_held h14 (show i < gs.length by omega)
    have hrp := flat_row encF (hr1.up X) hp
    have hrq := flat_row encF (hr2.up X) hq
    by_cases hne : p.a.d.no = q.a.d.no
    · repeat' (first | (with_reducible refine RunLN.decT ?_ ?_; focus omega) | (with_reducible refine RunLN.chk ?_; refine RunLN.int (by (first | (refine wr_i64 ?_ ?_; omega; omega) | (refine wm_i64 ?_; omega) | (refine wq_i64 ?_ ?_ ?_; omega; omega; omega) | rfl)) ?_) | refine RunL.ev Tryz.tOk rfl rfl rfl ?_ | refine RunE.condT rfl rfl ?_ | refine RunE.seq ?_ | refine RunE.region ?_ | refine RunL.nil ?_ | refine RunE.block ?_ | refine RunE.skip ?_)
      refine RunE.draw (fun _ => False) mix ?_
      intro wd_ Xd_
      repeat' (first | with_reducible refine AsyN.boolF rfl ?_ | (with_reducible refine AsyN.neF ?_ ?_; focus omega) | (with_reducible refine AsyN.chk ?_; refine AsyN.int (by (first | (refine wr_i64 ?_ ?_; omega; omega) | (refine wm_i64 ?_; omega) | (refine wq_i64 ?_ ?_ ?_; omega; omega; omega) | rfl)) ?_) | refine AsyN.any ?_ | refine Asy.ev Tryz.tOk rfl rfl rfl ?_ | refine Asy.evV rfl rfl rfl rfl (fun _ X_ => OpV.indexS Tryz.tOk i rfl rfl rfl (by first | rfl | omega) (by omega)) ?_ | refine Asy.evV rfl rfl rfl rfl (fun _ X_ => OpV.load1 Tryz.tOk rfl rfl rfl ((hrp.up (Xd_.trans X_)) _ _ rfl)) ?_ | refine Asy.evV rfl rfl rfl rfl (fun _ X_ => OpV.load1 Tryz.tOk rfl rfl rfl ((hrq.up (Xd_.trans X_)) _ _ rfl)) ?_)
      refine Asy.end_ (by kernel_rfl) ?_
      intro we_ Xe_
      replace X := X.trans (Xd_.trans Xe_)
      clear Xd_ Xe_
      repeat' (first | (with_reducible refine RunLN.chk ?_; refine RunLN.int (by (first | (refine wr_i64 ?_ ?_; omega; omega) | (refine wm_i64 ?_; omega) | (refine wq_i64 ?_ ?_ ?_; omega; omega; omega) | rfl)) ?_) | refine RunL.ev Tryz.tOk rfl rfl rfl ?_ | refine RunE.condF rfl rfl ?_ | refine RunE.region ?_ | refine RunL.nil ?_ | refine RunE.inBlock ?_ | refine RunE.skip ?_)
      exact RunE.weaken (by repeat (first | exact Sub.nil _ | refine Sub.cons rfl ?_)) (again (i + 1) _ (by omega) ⟨by omega, fun j p' q' hj hp' hq' => by
        by_cases e : j = i
        · subst e; rw [hp] at hp'; rw [hq] at hq'; cases hp'; cases hq'; exact hne
        · exact hno j p' q' (by omega) hp' hq', X⟩)
    · have hgt : q.a.d.no < p.a.d.no := by omega
      repeat' (first | (with_reducible refine RunLN.decT ?_ ?_; focus omega) | (with_reducible refine RunLN.chk ?_; refine RunLN.int (by (first | (refine wr_i64 ?_ ?_; omega; omega) | (refine wm_i64 ?_; omega) | (refine wq_i64 ?_ ?_ ?_; omega; omega; omega) | rfl)) ?_) | refine RunL.ev Tryz.tOk rfl rfl rfl ?_ | refine RunE.condT rfl rfl ?_ | refine RunE.seq ?_ | refine RunE.region ?_ | refine RunL.nil ?_ | refine RunE.block ?_ | refine RunE.skip ?_)
      refine RunE.draw (fun _ => False) mix ?_
      intro wd_ Xd_
      repeat' (first | with_reducible refine AsyN.boolT rfl ?_ | with_reducible refine AsyN.boolF rfl ?_ | (with_reducible refine AsyN.neT ?_ ?_; focus omega) | (with_reducible refine AsyN.neF ?_ ?_; focus omega) | (with_reducible refine AsyN.chk ?_; refine AsyN.int (by (first | (refine wr_i64 ?_ ?_; omega; omega) | (refine wm_i64 ?_; omega) | (refine wq_i64 ?_ ?_ ?_; omega; omega; omega) | rfl)) ?_) | refine AsyN.any ?_ | refine Asy.ev Tryz.tOk rfl rfl rfl ?_ | refine Asy.evV rfl rfl rfl rfl (fun _ X_ => OpV.indexS Tryz.tOk i rfl rfl rfl (by first | rfl | omega) (by omega)) ?_ | refine Asy.evV rfl rfl rfl rfl (fun _ X_ => OpV.load1 Tryz.tOk rfl rfl rfl ((hrp.up (Xd_.trans X_)) _ _ rfl)) ?_ | refine Asy.evV rfl rfl rfl rfl (fun _ X_ => OpV.load1 Tryz.tOk rfl rfl rfl ((hrq.up (Xd_.trans X_)) _ _ rfl)) ?_)
      refine Asy.end_ (by kernel_rfl) ?_
      intro we_ Xe_
      replace X := X.trans (Xd_.trans Xe_)
      replace hrp := hrp.up (Xd_.trans Xe_)
      replace hrq := hrq.up (Xd_.trans Xe_)
      clear Xd_ Xe_
      repeat' (first | refine RunE.condT rfl rfl ?_ | refine RunE.seq ?_ | refine RunL.nil ?_)
      refine RunE.draw (fun _ => False) mix ?_
      intro wd_ Xd_
      repeat' (first | with_reducible refine AsyN.boolT rfl ?_ | (with_reducible refine AsyN.decT ?_ ?_; focus omega) | (with_reducible refine AsyN.eqT ?_ ?_; focus omega) | (with_reducible refine AsyN.chk ?_; refine AsyN.int (by (first | (refine wr_i64 ?_ ?_; omega; omega) | (refine wm_i64 ?_; omega) | (refine wq_i64 ?_ ?_ ?_; omega; omega; omega) | rfl)) ?_) | refine AsyN.any ?_ | refine Asy.ev Tryz.tOk rfl rfl rfl ?_ | refine Asy.evV rfl rfl rfl rfl (fun _ X_ => OpV.indexS Tryz.tOk i rfl rfl rfl (by first | rfl | omega) (by omega)) ?_ | refine Asy.evV rfl rfl rfl rfl (fun _ X_ => OpV.load1 Tryz.tOk rfl rfl rfl ((hrp.up (Xd_.trans X_)) _ _ rfl)) ?_ | refine Asy.evV rfl rfl rfl rfl (fun _ X_ => OpV.load1 Tryz.tOk rfl rfl rfl ((hrq.up (Xd_.trans X_)) _ _ rfl)) ?_)
      refine Asy.end_ (by kernel_rfl) ?_
      intro we_ Xe_
      replace X := X.trans (Xd_.trans Xe_)
      clear Xd_ Xe_
      repeat' (first | refine RunL.nil ?_)
      exact RunE.retFn Tryz.func9 (.tmp rfl .nil) ⟨rfl, hX9.trans X⟩
  obtain rfl : i = fs.length := by omega
  have hfin := hI.fin hlen (fun j p q hp hq => hno j p q (List.getElem?_eq_some_iff.1 hp).1 hp hq)
  rw [← e8, ← e10] at hfin
  clear again hno hI hlt hlen
  repeat' (first | (with_reducible refine RunLN.decF ?_ ?_; focus omega) | (with_reducible refine RunLN.chk ?_; refine RunLN.int (by (first | (refine wr_i64 ?_ ?_; omega; omega) | (refine wm_i64 ?_; omega) | (refine wq_i64 ?_ ?_ ?_; omega; omega; omega) | rfl)) ?_) | refine RunLN.any ?_ | refine RunL.ev Tryz.tOk rfl rfl rfl ?_ | refine RunL.evV rfl rfl rfl (OpV.lenSl Tryz.tOk rfl rfl h8) ?_ | refine RunE.condF rfl rfl ?_ | refine RunE.seq ?_ | refine RunE.region ?_ | refine RunL.nil ?_ | refine RunE.block ?_ | refine RunE.exit rfl ?_)
  refine RunE.loop (ι := Nat) (fun s => [(10, u10), (147, u8), (148, .int .i64 (out.length : Int)), (149, .int .i64 (s : Int))])
    (fun s w' => s ≤ out.length ∧ Ext w9 w') (fun s => out.length - s) 0 (by repeat (first | exact Sub.nil _ | refine Sub.cons rfl ?_)) ⟨Nat.zero_le _, X⟩ ?_
  clear X
  rintro i w11 ⟨hi', X⟩ again
  by_cases hil : i < out.length
  · obtain ⟨y, hy⟩ : ∃ y, out[i]? = some y := ⟨_, List.getElem?_eq_getElem hil⟩
    have hym := List.mem_of_getElem? hy
    obtain ⟨b1, o1, c1, rfl, hr1, -⟩ := isL_held h8 hil
    have hry := flat_row encR (hr1.up X) hy
    have cH := lhas_ok out' u10 y
    have hth := there_of (hfin y.d (List.mem_map.2 ⟨y, hym, rfl⟩))
    rw [hth] at cH
    have cH' := fun w' (e : Ext w9 w') => cH w' (h10.up e) hol' (fun z hz => (w10' z hz).up e) ((w8' y hym).up e)
    clear hth cH
    have X10 := X
    replace X := ExtB.refl (fun _ => False) w11
    repeat' (first | (with_reducible refine RunLN.decT ?_ ?_; focus omega) | refine RunLN.any ?_ | refine RunL.ev Tryz.tOk rfl rfl rfl ?_ | refine RunL.evV rfl rfl rfl (OpV.loadN Tryz.tOk rfl rfl rfl rfl hry) ?_ | refine RunL.evV rfl rfl rfl (OpV.indexS Tryz.tOk _ rfl rfl rfl rfl (by omega)) ?_ | refine RunE.condT rfl rfl ?_ | refine RunE.seq ?_ | refine RunE.region ?_ | refine RunL.nil ?_ | refine RunE.block ?_ | refine RunE.skip ?_)
    refine RunL.alloc Tryz.tOk rfl rfl rfl fun B18 wa_ aa_ => ?_
    have gB18 := aa_.ge X
    refine RunL.storeW (vs := y.cells) Tryz.tOk rfl rfl rfl rfl rfl aa_.at_ rfl rfl fun w18_ tb_ => ?_
    have Xa_ : Ext _ w18_ := aa_.ext.write tb_.ext (by intro i_ hi_ hlt_; have := aa_.eq; omega)
    have Z18 : Blk w18_ B18 (y.cells) 38 := tb_.at_
    replace X := X.trans Xa_
    clear Xa_ aa_ tb_
    repeat' (first | refine RunLN.any ?_ | refine RunL.ev Tryz.tOk rfl rfl rfl ?_ | refine RunL.evV rfl rfl rfl (OpV.loadN Tryz.tOk rfl rfl rfl rfl (Blk.row Z18)) ?_ | refine RunE.seq ?_ | refine RunE.region ?_ | refine RunL.nil ?_)
    refine RunL.call rfl rfl rfl (cH' _ (X10.trans X)) ?_
    rintro _ _ ⟨rfl, Xa_⟩
    replace X := X.trans Xa_
    clear Xa_
    repeat' (first | with_reducible refine RunLN.boolF rfl ?_ | (with_reducible refine RunLN.chk ?_; refine RunLN.int (by (first | (refine wr_i64 ?_ ?_; omega; omega) | (refine wm_i64 ?_; omega) | (refine wq_i64 ?_ ?_ ?_; omega; omega; omega) | rfl)) ?_) | refine RunL.ev Tryz.tOk rfl rfl rfl ?_ | refine RunE.condF rfl rfl ?_ | refine RunE.region ?_ | refine RunL.nil ?_ | refine RunE.inBlock ?_ | refine RunE.skip ?_)
    exact RunE.weaken (by repeat (first | exact Sub.nil _ | refine Sub.cons rfl ?_)) (again (i + 1) _ (by omega) ⟨by omega, X10.trans X⟩)
  · obtain rfl : i = out.length := by omega
    clear again
    repeat' (first | with_reducible refine RunLN.boolT rfl ?_ | (with_reducible refine RunLN.decF ?_ ?_; focus omega) | refine RunL.ev Tryz.tOk rfl rfl rfl ?_ | refine RunE.condF rfl rfl ?_ | refine RunE.seq ?_ | refine RunE.region ?_ | refine RunL.nil ?_ | refine RunE.exit rfl ?_)
    exact RunE.retFn Tryz.func9 (.tmp rfl .nil) ⟨rfl, hX9.trans X⟩
end Go.Sg
namespace Go.Proofs.YtpmpefkcmokoiaaGreatDoor
open Go.ChangeShapes Go.WideShapes Go.ChangeAt Go.RowKit Go.Sg
namespace mergeMore
theorem own : ownKnob Tryz.prog.godebug = none := by kernel_rfl
theorem laidOut : laidOutB Tryz.prog = true := by kernel_rfl
theorem door_met (os : Os) (args : Array Value) : laidMetH Tryz.prog Rows.mergeMoreRow.laid ((World.doorLaid Tryz.prog 19 os).forCall (fun _ _ => 0) ⟨#[], args, []⟩).memory :=
  laidMetH_of_parts3 (fuel := 8) (laidMet_of_run' 8 (by kernel_rfl) (by kernel_rfl)) (by kernel_rfl) (by kernel_rfl)
set_option maxRecDepth 100000 in
theorem lifted (os : Os) (started : os.Started) (H : Type) (enc : TypeId × Value → H) :
    ReturnsInHanded {} Tryz.checked os 9 .any (fun w args => (Rows.mergeMoreSpec.pre enc Tryz.prog Tryz.f9 [] false w args ∧ laidMetH Tryz.prog Rows.mergeMoreRow.laid w) ∧ sizedMet enc Tryz.prog Tryz.f9 (OpenSpec.ofChange Rows.mergeMoreSpec) false w args)
      (Rows.mergeMoreSpec.post enc Tryz.prog Tryz.f9 false true false false) := by
  refine returnsInHanded_of_change_and (C := Tryz.checked) (X := fun w _ => laidMetH Tryz.prog Rows.mergeMoreRow.laid w) (fun _ _ _ hh h => h.of_heap hh) own started (by kernel_rfl) Tryz.func9
    (ChangeSpec.witness_shaped (enc := enc) (C := Tryz.checked) (os := os) (X := fun w _ => laidMetH Tryz.prog Rows.mergeMoreRow.laid w) false (World.doorLaid Tryz.prog 19 os) #[.slice none 0 0, .slice none 0 0, .slice none 0 0] 8 rfl (World.shaped_of_RefB (by kernel_rfl) (by kernel_rfl)) (by kernel_rfl) (by kernel_rfl) (by kernel_rfl) (door_met os _)) ?_
  intro W base args ds gs before hval0 hW _ hwt hL _
  have hval : ∀ (j : Nat) t v, Tryz.f9.params[j]? = some t → args[j]? = some v → Value.okWide Tryz.prog W .any base t v := hval0
  have hW' := hW
  obtain ⟨p, q, hA0, hV, rfl, hfz, hnd⟩ := hW
  have hA : DataW.TrodAll enc Tryz.prog W 0 (fun _ => true) true Tryz.f9.params.toList args.toList ds p := hA0
  rw [Tryz.params9] at hA hval
  obtain ⟨v0, vs0, d0, ds0, p0, q0, hargs, rfl, rfl, h0, r0⟩ := trodAll_cons hA
  obtain ⟨v1, vs1, d1, ds1, p1, q1, rfl, rfl, rfl, h1, r1⟩ := trodAll_cons r0
  obtain ⟨v2, vs2, d2, ds2, p2, q2, rfl, rfl, rfl, h2, r2⟩ := trodAll_cons r1
  obtain ⟨rfl, rfl, rfl⟩ := trodAll_nil r2
  obtain rfl : args = #[v0, v1, v2] := by cases args; simp_all
  obtain ⟨l0, b0, m0⟩ := keys_open (hval 0 22 v0 rfl rfl) h0
  obtain ⟨l1, m1⟩ := parts_open (Go.Rn.reach_at hwt (j := 1) rfl rfl rfl) (hval 1 23 v1 rfl rfl) h1
  obtain ⟨x2, rfl, m2⟩ := part_open (Go.Rn.reach_at hwt (j := 2) rfl rfl rfl) (hval 2 26 v2 rfl rfl) h2
  have L0 := start_of_laid (by kernel_rfl) rfl (.head _) hL
  have L1 := numbers_of_laid (by kernel_rfl) rfl (.tail _ (.head _)) hL
  refine (Rets.calls (mergeMore_walk v0 l0 v1 l1 x2 W b0 m0 m1 m2 L0 L1)).mono fun e W' he => ?_
  obtain ⟨_, rfl, rfl, hx⟩ := he
  exact ⟨_, rfl, law_post (t := 4) laidOut (by kernel_rfl) (by kernel_rfl) (by kernel_rfl) rfl (fun ds h => by
    rcases ds with _ | ⟨_, _ | ⟨_, _ | ⟨_, _ | ⟨_, _⟩⟩⟩⟩ <;> first | rfl | (exact absurd h (by decide)) | (simp at h)) hW' hx⟩

theorem holds : Rows.MergeMoreSaid :=
  OpenClaim.holds_of_wide 9 Tryz.f9 rfl rfl rfl rfl rfl rfl rfl ⟨rfl, rfl, rfl, rfl, rfl⟩ rfl rfl rfl rfl rfl (by kernel_rfl) Tryz.func9 (by kernel_rfl)
    (of_decide_eq_true (by kernel_rfl)) (by unfold Func.isWrapper; first | (rw [if_pos (by decide +kernel)]; kernel_rfl) | (rw [if_neg (by decide +kernel)]; exact ⟨rfl, rfl⟩))
    (fun os started H enc _ => lifted os started H enc)
theorem proved : Rows.MergeMoreCardSaid :=
  Claim7.holds_tied_plain_at .later [] [.data, .data] true (true, "75ed6596ee30abdd58d082f273dd5afe18c864f07da85c18b484820de691abc6") true
    holds (fun _ h => by cases h) (by kernel_rfl) (fun _ h => by cases h) mergeMore_row_tie rfl ⟨rfl, rfl⟩ (by kernel_rfl) rfl
    (fun f fn hf hfn => by
      obtain rfl : f = 9 := Option.some.inj ((show Tryz.prog.funcNamed Tryz.f9.name = some 9 by kernel_rfl).symm.trans hf) |>.symm
      obtain rfl : fn = Tryz.f9 := (Option.some.inj (Tryz.func9.symm.trans hfn)).symm
      exact ⟨by kernel_rfl, fun j t ht => by
        have hall : Tryz.f9.params.toList.all (fun t => !Tryz.prog.wantsStandIn t) = true := by kernel_rfl
        have hm : t ∈ Tryz.f9.params.toList := by
          obtain ⟨hj, rfl⟩ := Array.getElem?_eq_some_iff.1 ht
          simp
        have := List.all_eq_true.1 hall t hm
        exact (by simpa using this : Tryz.prog.wantsStandIn t = false)⟩)
    (by kernel_rfl)
#print axioms proved
end mergeMore
end Go.Proofs.YtpmpefkcmokoiaaGreatDoor
