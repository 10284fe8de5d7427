/- signatorylaw50.MergeOrder returns true for every input; condition: the package variables digest.start and digest.numbers hold what the program lays in them (the card ties this). -/
import Derived.Test.YtpmpefkcmokoiaaGreatDoorMg11
import Derived.Test.YtpmpefkcmokoiaaGreatDoorMg08
set_option linter.unusedSimpArgs false
set_option linter.unusedVariables false
set_option linter.unusedSectionVars false
set_option maxRecDepth 4000
namespace Go.Mer
open Go.Rn Go.Rec Go.Dee Go.RowKit Go.Sg Go.NT
theorem tmod_lt {a : Int} {n : Nat} (h0 : 0 ≤ a) (hn : 0 < n) : ∃ k : Nat, a % (n : Int) = (k : Int) ∧ k < n := by
  refine ⟨a.toNat % n, ?_, Nat.mod_lt _ hn⟩
  have e : a = ((a.toNat : Nat) : Int) := by omega
  rw [e]
  simp
theorem lenD_app (a b : List Ll) : lenD (a ++ b) = lenD a + lenD b := by
  unfold lenD; rw [List.map_append, List.sum_append]
theorem turned_mem (ls : List Ll) (k : Nat) (y : Ll) : y ∈ ls.drop k ++ ls.take k ↔ y ∈ ls := by
  rw [List.mem_append]
  constructor
  · rintro (h | h)
    · exact List.mem_of_mem_drop h
    · exact List.mem_of_mem_take h
  · intro h
    rw [← List.take_append_drop k ls, List.mem_append] at h
    exact h.symm
theorem turned_len (ls : List Ll) (k : Nat) : lenD (ls.drop k ++ ls.take k) = lenD ls ∧ (ls.drop k ++ ls.take k).length = ls.length := by
  constructor
  · rw [lenD_app]
    conv => rhs; rw [← List.take_append_drop k ls, lenD_app]
    omega
  · rw [List.length_append, List.length_drop, List.length_take]; omega
theorem lenD_mem {ls : List Ll} {x : Ll} (h : x ∈ ls) : x.l.length ≤ lenD ls := by
  obtain ⟨i, hi⟩ := List.mem_iff_getElem?.1 h
  have e1 := lenD_take hi
  have e2 := lenD_le ls (i + 1)
  omega
end Go.Mer
namespace Go.Sg
open Go.Rn Go.Proofs Go.Dee Go.Mer Go.Rec Go.RowKit Go.Sha Go.Cod Go.NT
attribute [local irreducible] provesB chkM mergeD liarsL leftL thereL chkP Go.Rn.RetsX Go.Rn.RunLN Go.Rn.AsyN Go.Rn.RunL Go.Rn.RunE Go.Rn.Asy Go.Rn.OpV Go.Rn.OpE Go.Rn.ExecE
set_option maxHeartbeats 16000000 in
theorem mergeOrder_walk (kv : Value) (ks : List Int) (lv : Value) (ls : List Ll) (ta tb : Int) (hta : 0 ≤ ta ∧ ta < 256) (htb : 0 ≤ tb ∧ tb < 256) (W : World) (hkb : ks.length < 9223372036854775808 ∧ KsI ks) (hk : LIn W kv ks) (h : InL W lv ls) (hS : Row W 0 0 (vals init8.l)) (hkT : Row W 1 0 (vals kTab)) :
    Rets Tryz.prog 8 [kv, lv, .int .u8 ta, .int .u8 tb] W fun r w' => r = .bool true ∧ Ext W w' := by
  obtain ⟨hkl, hki⟩ := hkb
  have hlen := h.len
  have cR := fun w' (e : Ext W w') => lright_ok ks kv ls lv w' (hk.up e) hkl (h.at_.up e) h.few (fun x hx => (h.part x hx).up e) (fun x hx => (h.wf x hx).up e) h.small
  have hat := h.at_
  refine RetsX.of (nt := 125) Tryz.func8 (by kernel_rfl) rfl rfl (by simp) (by simp only [argEnv]; rfl) ?_
  have X := ExtB.refl (fun _ => False) W
  repeat' (first | with_reducible refine RunLN.boolF rfl ?_ | refine RunL.ev Tryz.tOk rfl rfl rfl ?_ | refine RunE.seq ?_ | refine RunE.region ?_ | refine RunL.nil ?_)
  refine RunL.call rfl rfl rfl (lsane_ok _ (hS.up X) (hkT.up X)) ?_
  rintro _ _ ⟨rfl, Xa_⟩
  replace X := X.trans Xa_
  clear Xa_
  by_cases h0 : ls.length = 0
  · repeat' (first | with_reducible refine RunLN.boolT rfl ?_ | with_reducible refine RunLN.boolF rfl ?_ | (with_reducible refine RunLN.eqT ?_ ?_; focus omega) | (with_reducible refine RunLN.chk ?_; refine RunLN.int (by (first | (refine wr_i64 ?_ ?_; omega; omega) | (refine wm_i64 ?_; omega) | (refine wq_i64 ?_ ?_ ?_; omega; omega; omega) | rfl)) ?_) | refine RunLN.any ?_ | refine RunL.ev Tryz.tOk rfl rfl rfl ?_ | refine RunL.unwantedD rfl rfl ?_ | refine RunL.evV rfl rfl rfl (OpV.lenSl Tryz.tOk rfl rfl hat) ?_ | refine RunE.condT rfl rfl ?_ | refine RunE.condF rfl rfl ?_ | refine RunE.seq ?_ | refine RunE.region ?_ | refine RunL.nil ?_ | refine RunE.skip ?_)
    exact RunE.retFn Tryz.func8 (.tmp rfl .nil) ⟨rfl, X⟩
  repeat' (first | with_reducible refine RunLN.boolF rfl ?_ | (with_reducible refine RunLN.eqF ?_ ?_; focus omega) | (with_reducible refine RunLN.chk ?_; refine RunLN.int (by (first | (refine wr_i64 ?_ ?_; omega; omega) | (refine wm_i64 ?_; omega) | (refine wq_i64 ?_ ?_ ?_; omega; omega; omega) | rfl)) ?_) | refine RunLN.any ?_ | refine RunL.ev Tryz.tOk rfl rfl rfl ?_ | refine RunL.evV rfl rfl rfl (OpV.lenSl Tryz.tOk rfl rfl hat) ?_ | refine RunE.condF rfl rfl ?_ | refine RunE.seq ?_ | refine RunE.region ?_ | refine RunL.nil ?_ | refine RunE.skip ?_)
  refine RunL.call rfl rfl rfl (cR _ X) ?_
  rintro _ w5 ⟨⟨b, rfl, hb⟩, Xa_⟩
  replace X := X.trans Xa_
  clear Xa_ cR
  cases b with
  | false =>
    repeat' (first | with_reducible refine RunLN.boolT rfl ?_ | refine RunL.ev Tryz.tOk rfl rfl rfl ?_ | refine RunE.condT rfl rfl ?_ | refine RunE.seq ?_ | refine RunE.region ?_ | refine RunL.nil ?_)
    exact RunE.retFn Tryz.func8 (.tmp rfl .nil) ⟨rfl, X⟩
  | true =>
  obtain ⟨h40, -, hc⟩ := hb rfl
  obtain ⟨hkd, hl64, -⟩ := chkM_zero hc
  clear hb
  obtain ⟨k, ek, hkn⟩ := tmod_lt (n := ls.length) hta.1 (by omega)
  obtain ⟨j, ej, hjn⟩ := tmod_lt (n := ls.length) htb.1 (by omega)
  repeat' (first | with_reducible refine RunLN.boolF rfl ?_ | refine RunL.ev Tryz.tOk rfl rfl rfl ?_ | refine RunE.condF rfl rfl ?_ | refine RunE.seq ?_ | refine RunL.nil ?_ | refine RunE.skip ?_)
  refine RunE.draw (fun _ => False) mix ?_
  intro wd_ Xd_
  repeat' (first | (with_reducible refine AsyN.chk ?_; refine AsyN.int (by (first | (refine wr_i64 ?_ ?_; omega; omega) | (refine wm_i64 ?_; omega) | (refine wq_i64 ?_ ?_ ?_; omega; omega; omega) | rfl)) ?_) | refine AsyN.any ?_ | refine Asy.ev Tryz.tOk rfl rfl ((eval_rem rfl rfl (by omega))) ?_ | refine Asy.ev Tryz.tOk rfl rfl rfl ?_ | refine Asy.evV rfl rfl rfl rfl (fun _ X_ => OpV.lenSl Tryz.tOk rfl rfl hat) ?_)
  refine Asy.end_ (by kernel_rfl) ?_
  intro we_ Xe_
  replace X := X.trans (Xd_.trans Xe_)
  clear Xd_ Xe_
  rw [ek, ej]
  clear ek ej hta htb
  obtain ⟨b1, o1, cc, rfl, hr1, hcap⟩ := isL_held hat hkn
  repeat' (first | refine RunE.seq ?_ | refine RunL.nil ?_)
  have XW := X
  have hatw := hat.up XW
  have hr1w := hr1.up XW
  refine RunE.draw (fun _ => False) mix ?_
  intro wd_ Xd_
  refine Asy.sat0 (fun u w' => ∃ B, u = .slice (some ⟨B, 0, none⟩) 0 0) rfl rfl rfl rfl (fun u w' w'' _ e h => h) (fun w' _ => ?_) ?_
  · refine OpE.mono (OpE.build0 Tryz.tOk 23 26 rfl rfl rfl) ?_ fun _ _ h => h
    rintro _ w'' ⟨h1, h2⟩; exact ⟨h2, h1⟩
  repeat' (first | (with_reducible refine AsyN.chk ?_; refine AsyN.int (by (first | (refine wr_i64 ?_ ?_; omega; omega) | (refine wm_i64 ?_; omega) | (refine wq_i64 ?_ ?_ ?_; omega; omega; omega) | rfl)) ?_) | refine AsyN.any ?_ | refine Asy.ev Tryz.tOk rfl rfl rfl ?_ | refine Asy.evV rfl rfl rfl rfl (fun _ X_ => (OpV.slice1' Tryz.tOk k rfl rfl (.some rfl rfl) (by omega) (by omega) (by omega))) ?_)
  refine Asy.sat1 0 (fun u w' => w'.ownsRow we_.heap.size 26 1 u (ls.length - k) (flat Ll.cells (ls.drop k))) rfl rfl rfl rfl rfl rfl (fun u w' w'' _ e h => h.up e) (fun w' u e hu => ?_) ?_
  · obtain ⟨B, rfl⟩ := hu
    have hX := Xd_.trans e
    refine OpE.mono (OpE.append0 Tryz.tOk (m := ls.length - k) (news := flat Ll.cells (ls.drop k)) rfl rfl rfl rfl rfl (.row (by have := (hr1w.up hX).drop (k * 1); rwa [flat_drop encLl] at this) (by rw [flat_length encLl, List.length_drop]) (by omega)) (by show _ * 24 ≤ _; omega) (by omega)) ?_ fun _ _ h => h
    rintro r w'' ⟨h1, h2⟩
    refine ⟨h2, ?_⟩
    rcases h1 with ⟨h1, -⟩ | h1
    · omega
    · exact ownsRow_base h1 hX.size
  repeat' (first | (with_reducible refine AsyN.chk ?_; refine AsyN.int (by (first | (refine wr_i64 ?_ ?_; omega; omega) | (refine wm_i64 ?_; omega) | (refine wq_i64 ?_ ?_ ?_; omega; omega; omega) | rfl)) ?_) | refine AsyN.any ?_ | refine Asy.ev Tryz.tOk rfl rfl rfl ?_ | refine Asy.evV rfl rfl rfl rfl (fun _ X_ => (OpV.slice0 Tryz.tOk (hi := k) rfl rfl .none (.some rfl rfl) (by omega))) ?_)
  refine Asy.tail (by kernel_rfl) ?_
  intro wf_ Xe_
  simp only [satsAll]
  rintro u4 O4 _ -
  have XE := Xd_.trans Xe_
  replace X := X.trans XE
  clear Xd_ Xe_
  have hst : LLl wf_ (.slice (some ⟨b1, o1, none⟩) k cc) (ls.take k) := by
    have e : (ls.take k).length = k := by rw [List.length_take]; omega
    show IsSl wf_ 1 _ (ls.take k).length _
    rw [e]
    exact .row (by have := (hr1.up X).take (k * 1); rwa [flat_take encLl] at this) (by rw [flat_length encLl, List.length_take]; omega) (by omega)
  have hsz := XE.size
  have e2 : (ls.take k).length = k := by rw [List.length_take]; omega
  refine RunL.ex rfl rfl rfl (OpE.append' Tryz.tOk rfl rfl rfl rfl rfl rfl O4 hst (flat_plain encLl (ls.take k)) (by show _ * 24 ≤ _; rw [e2]; omega) (by rw [e2]; omega) hsz) ?_
  rintro mv w6 ⟨O6, E6, -⟩
  replace X : Ext W w6 := X.write E6 (by intro i hi hlt; have := ownsRow_ge O4 hi; have := XW.size; omega)
  rw [← flat_append, e2] at O6
  obtain ⟨ml1, ml2⟩ := turned_len ls k
  have mmem := turned_mem ls k
  have O6' : w6.ownsRow we_.heap.size 26 1 mv (ls.drop k ++ ls.take k).length (flat Ll.cells (ls.drop k ++ ls.take k)) := by
    have e : ls.length - k + k = (ls.drop k ++ ls.take k).length := by rw [ml2]; omega
    rw [← e]; exact O6
  generalize ls.drop k ++ ls.take k = ms at O6' ml1 ml2 mmem
  have hsz6 : we_.heap.size ≤ w6.heap.size := Nat.le_trans XE.size E6.size
  have hWe := XW.size
  clear O4 O6 E6 hst e2 hsz XE hr1w hatw XW
  obtain ⟨x, hx⟩ : ∃ x, ls[j]? = some x := ⟨_, List.getElem?_eq_getElem hjn⟩
  have hxm := List.mem_of_getElem? hx
  have hrx := flat_row encLl hr1 hx
  have hxl := lenD_mem hxm
  have hmv : LLl w6 mv ms := isSl_own O6'
  have hsame : ∀ y, y ∈ ms ↔ y ∈ ls := mmem
  obtain ⟨xl, xu, xc⟩ := x
  replace hrx : Row W b1 (o1 + j * 1) [.slice xu xl.length xc] := hrx
  replace hxl : xl.length ≤ lenD ls := hxl
  repeat' (first | refine RunLN.any ?_ | refine RunL.ev Tryz.tOk rfl rfl rfl ?_ | refine RunL.nil ?_)
  refine RunE.seq ?_
  refine RunE.cut (ι := Value) (fun mv => [(0, kv), (1, .slice (some ⟨b1, o1, none⟩) ls.length cc), (11, mv)]) (fun mv w' => ∃ mls : List Ll, LLl w' mv mls ∧ (∀ y, y ∈ mls ↔ y ∈ ls) ∧ mls.length ≤ 64 ∧ lenD mls ≤ 60 ∧ Ext W w') ?_ ?_
  rotate_left
  · intro join
    by_cases hlt : ms.length < 64
    rotate_left
    · refine RunE.seq ?_
      repeat' (first | with_reducible refine RunLN.boolF rfl ?_ | (with_reducible refine RunLN.decF ?_ ?_; focus omega) | (with_reducible refine RunLN.chk ?_; refine RunLN.int (by (first | (refine wr_i64 ?_ ?_; omega; omega) | (refine wm_i64 ?_; omega) | (refine wq_i64 ?_ ?_ ?_; omega; omega; omega) | rfl)) ?_) | refine RunLN.any ?_ | refine RunL.ev Tryz.tOk rfl rfl rfl ?_ | refine RunL.unwantedD rfl rfl ?_ | refine RunL.evV rfl rfl rfl (OpV.lenSl Tryz.tOk rfl rfl hmv) ?_ | refine RunE.region ?_ | refine RunL.nil ?_)
      refine RunE.condF rfl rfl ?_
      refine RunE.skip ?_
      exact RunE.weaken (by repeat (first | exact Sub.nil _ | refine Sub.cons rfl ?_)) (join _ _ ⟨ms, hmv, hsame, by omega, by omega, X⟩)
    by_cases hlq : xl.length ≤ 20
    rotate_left
    · refine RunE.seq ?_
      repeat' (first | with_reducible refine RunLN.boolT rfl ?_ | with_reducible refine RunLN.boolF rfl ?_ | (with_reducible refine RunLN.decT ?_ ?_; focus omega) | (with_reducible refine RunLN.decF ?_ ?_; focus omega) | (with_reducible refine RunLN.chk ?_; refine RunLN.int (by (first | (refine wr_i64 ?_ ?_; omega; omega) | (refine wm_i64 ?_; omega) | (refine wq_i64 ?_ ?_ ?_; omega; omega; omega) | rfl)) ?_) | refine RunLN.any ?_ | refine RunL.ev Tryz.tOk rfl rfl rfl ?_ | refine RunL.evV rfl rfl rfl (OpV.lenSl Tryz.tOk rfl rfl hmv) ?_ | refine RunL.evV rfl rfl rfl (OpV.load1 Tryz.tOk rfl rfl rfl ((hrx.up X) 0 _ rfl)) ?_ | refine RunL.evV rfl rfl rfl (OpV.indexS Tryz.tOk _ rfl rfl rfl rfl (by omega)) ?_ | refine RunE.region ?_ | refine RunL.nil ?_)
      refine RunE.condF rfl rfl ?_
      refine RunE.skip ?_
      exact RunE.weaken (by repeat (first | exact Sub.nil _ | refine Sub.cons rfl ?_)) (join _ _ ⟨ms, hmv, hsame, by omega, by omega, X⟩)
    · refine RunE.seq ?_
      repeat' (first | with_reducible refine RunLN.boolT rfl ?_ | (with_reducible refine RunLN.decT ?_ ?_; focus omega) | (with_reducible refine RunLN.chk ?_; refine RunLN.int (by (first | (refine wr_i64 ?_ ?_; omega; omega) | (refine wm_i64 ?_; omega) | (refine wq_i64 ?_ ?_ ?_; omega; omega; omega) | rfl)) ?_) | refine RunLN.any ?_ | refine RunL.ev Tryz.tOk rfl rfl rfl ?_ | refine RunL.evV rfl rfl rfl (OpV.lenSl Tryz.tOk rfl rfl hmv) ?_ | refine RunL.evV rfl rfl rfl (OpV.load1 Tryz.tOk rfl rfl rfl ((hrx.up X) 0 _ rfl)) ?_ | refine RunL.evV rfl rfl rfl (OpV.indexS Tryz.tOk _ rfl rfl rfl rfl (by omega)) ?_ | refine RunE.region ?_ | refine RunL.nil ?_)
      refine RunE.condT rfl rfl ?_
      repeat' (first | (with_reducible refine RunLN.chk ?_; refine RunLN.int (by (first | (refine wr_i64 ?_ ?_; omega; omega) | (refine wm_i64 ?_; omega) | (refine wq_i64 ?_ ?_ ?_; omega; omega; omega) | rfl)) ?_) | refine RunLN.any ?_ | refine RunL.ev Tryz.tOk rfl rfl rfl ?_ | refine RunL.evV rfl rfl rfl (OpV.load1 Tryz.tOk rfl rfl rfl ((hrx.up X) 0 _ rfl)) ?_ | refine RunL.evV rfl rfl rfl (OpV.indexS Tryz.tOk _ rfl rfl rfl rfl (by omega)) ?_ | refine RunE.region ?_)
      refine RunL.ex rfl rfl rfl (OpE.buildSl Tryz.tOk [.slice xu xl.length xc] rfl rfl rfl rfl rfl rfl (by simp [Value.cells])) ?_
      rintro _ w7 ⟨B9, rfl, a9⟩
      have hx1 : LLl w7 (.slice (some ⟨B9, 0, none⟩) 1 1) [⟨xl, xu, xc⟩] := isSl_added (n := 1) (sz := 1) a9 rfl
      replace O6' := O6'.up a9.ext
      replace X := X.trans a9.ext
      have hsz7 : we_.heap.size ≤ w7.heap.size := Nat.le_trans hsz6 a9.ext.size
      clear a9
      skip
      refine RunL.ex rfl rfl rfl (OpE.append' Tryz.tOk rfl rfl rfl rfl rfl rfl O6' hx1 (flat_plain encLl _) (by show _ * 24 ≤ _; simp only [List.length_singleton]; omega) (by simp only [List.length_singleton]; omega) hsz7) ?_
      rintro mv' w8 ⟨O8, E8, -⟩
      replace X : Ext W w8 := X.write E8 (by intro i hi hlt; have := ownsRow_ge O6' hi; omega)
      repeat' (first | refine RunLN.any ?_ | refine RunL.ev Tryz.tOk rfl rfl rfl ?_ | refine RunL.nil ?_)
      have hm8 : LLl w8 mv' (ms ++ [⟨xl, xu, xc⟩]) := by
        have e := isSl_own O8
        rw [← flat_append] at e
        show IsSl w8 1 mv' (ms ++ [_]).length _
        rw [List.length_append]
        exact e
      have hle : lenD (ms ++ [(⟨xl, xu, xc⟩ : Ll)]) ≤ 60 := by
        have e : lenD [(⟨xl, xu, xc⟩ : Ll)] = xl.length := by simp [lenD]
        rw [lenD_app, e]; omega
      have hll : (ms ++ [(⟨xl, xu, xc⟩ : Ll)]).length ≤ 64 := by
        rw [List.length_append, List.length_singleton]; omega
      refine RunE.weaken (by repeat (first | exact Sub.nil _ | refine Sub.cons rfl ?_)) (join _ _ ⟨ms ++ [⟨xl, xu, xc⟩], hm8, fun y => ?_, hll, hle, X⟩)
      rw [List.mem_append, List.mem_singleton, hsame]
      constructor
      · rintro (h | h)
        · exact h
        · rw [h]; exact hxm
      · exact .inl
  clear X hmv O6' hsz6 hWe hrx hxl hx hxm hr1 hcap mmem hsame ml1 ml2 hl64 hkn hjn
  rintro mv w9 ⟨mls, hmv, hsame, m64, m60, X⟩
  have hi1 : InP W (.slice (some ⟨b1, o1, none⟩) ls.length cc) (ls.map Ll.l) := h.inP
  have hi2 : InP w9 mv (mls.map Ll.l) := ⟨_, hmv, rfl, fun y hy => (h.part y ((hsame y).1 hy)).up X⟩
  have hd1 := h.wf
  have hdm : ∀ y, y ∈ allD mls ↔ y ∈ allD ls := fun y => by
    unfold allD
    simp only [List.mem_flatMap, hsame]
  have hcm : chkP ks (mls.map Ll.l) = 0 := chkP_of hkd (by rw [List.length_map]; exact m64) (by rw [← allD_flat, allD_len]; omega)
  rw [chkP_map] at hc
  have hsub : ∀ y, y ∈ (allD ls).map Dr.d ↔ y ∈ (allD mls).map Dr.d := fun y => by
    simp only [List.mem_map, hdm]
  have hd2 : ∀ x ∈ allD mls, WfX W x := fun x hx => hd1 x ((hdm x).1 hx)
  rw [allD_flat] at hd1 hd2 hsub
  rw [allD_flat] at hsub
  have hl40 : (ls.map Ll.l).flatten.length ≤ 40 := by rw [← allD_flat, allD_len]; exact h40
  have hm60 : (mls.map Ll.l).flatten.length ≤ 60 := by rw [← allD_flat, allD_len]; exact m60
  clear hmv hsame m64 m60 hlen h hdm h40 hat
  generalize ls.map Ll.l = L at *
  generalize mls.map Ll.l = M at *
  have hlv : InP W (.slice (some ⟨b1, o1, none⟩) ls.length cc) L := hi1
  generalize Value.slice (some ⟨b1, o1, none⟩) ls.length cc = lv at hi1 hlv ⊢
  repeat' (first | refine RunLN.any ?_ | refine RunL.ev Tryz.tOk rfl rfl rfl ?_ | refine RunE.seq ?_ | refine RunE.region ?_)
  refine RunL.call rfl rfl rfl (pMerge_ok hc hki hkl (hk.up X) (hi1.up X) (fun z hz => (hd1 z hz).up X) (hS.up X) (hkT.up X)) ?_
  rintro _ w10 ⟨⟨u12, out, rfl, h12, e12, m12⟩, Xa_⟩
  replace X := X.trans Xa_
  replace hi2 := hi2.up Xa_
  clear Xa_
  repeat' (first | (with_reducible refine RunLN.chk ?_; refine RunLN.int (by (first | (refine wr_i64 ?_ ?_; omega; omega) | (refine wm_i64 ?_; omega) | (refine wq_i64 ?_ ?_ ?_; omega; omega; omega) | rfl)) ?_) | refine RunLN.any ?_ | refine RunL.ev Tryz.tOk rfl rfl rfl ?_ | refine RunE.seq ?_ | refine RunE.region ?_ | refine RunL.nil ?_)
  refine RunL.call rfl rfl rfl (pMerge_ok hcm hki hkl (hk.up X) hi2 (fun z hz => (hd2 z hz).up X) (hS.up X) (hkT.up X)) ?_
  rintro _ w11 ⟨⟨u14, outm, rfl, h14, e14, m14⟩, Xa_⟩
  replace X := X.trans Xa_
  replace h12 := h12.up Xa_
  clear Xa_ hi2
  have w12 : ∀ z ∈ out, WfX W z := fun z hz => hd1 z (m12 z hz)
  have w14 : ∀ z ∈ outm, WfX W z := fun z hz => hd2 z (m14 z hz)
  have l12 : out.length ≤ 40 := by
    have h1 := merge_len ks (L.flatten.map Dr.d)
    have h2 := lenM e12
    rw [List.length_map] at h1
    omega
  have l14 : outm.length ≤ 60 := by
    have h1 := merge_len ks (M.flatten.map Dr.d)
    have h2 := lenM e14
    rw [List.length_map] at h1
    omega
  have hord := merge_order (ks := ks) hsub
  rw [← e12, ← e14] at hord
  have hlen := strip_len hord
  rw [List.length_map, List.length_map] at hlen
  have hat : ∀ (i : Nat) (x y : Dr), out[i]? = some x → outm[i]? = some y → sameF x.d y.d = true := fun i x y hx hy => strip_at (i := i) hord (by rw [List.getElem?_map, hx]; rfl) (by rw [List.getElem?_map, hy]; rfl)
  clear hord m14 m12 hsub hd1 hd2 hcm e14
  obtain ⟨du, cu, rfl⟩ := isSl_slice h12
  repeat' (first | (with_reducible refine RunLN.chk ?_; refine RunLN.int (by (first | (refine wr_i64 ?_ ?_; omega; omega) | (refine wm_i64 ?_; omega) | (refine wq_i64 ?_ ?_ ?_; omega; omega; omega) | rfl)) ?_) | refine RunLN.any ?_ | refine RunL.ev Tryz.tOk rfl rfl rfl ?_ | refine RunE.seq ?_ | refine RunE.region ?_ | refine RunL.nil ?_)
  refine RunL.ex rfl rfl rfl (OpE.buildSl Tryz.tOk [.slice du out.length cu] rfl rfl rfl rfl rfl rfl (by simp [Value.cells])) ?_
  rintro _ wg ⟨Bg, rfl, ag⟩
  have hp := inP_one (isSl_added (n := 1) (sz := 1) ag rfl) (h12.up ag.ext)
  replace X := X.trans ag.ext
  replace h12 := h12.up ag.ext
  replace h14 := h14.up ag.ext
  clear ag
  have hfo : [out].flatten = out := by simp
  have hco : chkP ks [out] = 0 := chkP_of hkd (by simp) (by rw [hfo]; omega)
  skip
  refine RunL.call rfl rfl rfl (pMerge_ok hco hki hkl (hk.up X) hp (fun z hz => (w12 z (by rw [hfo] at hz; exact hz)).up X) (hS.up X) (hkT.up X)) ?_
  rintro _ w13 ⟨⟨u16, out3, rfl, h16, e16, m16⟩, Xa_⟩
  replace X := X.trans Xa_
  replace h12 := h12.up Xa_
  replace h14 := h14.up Xa_
  clear Xa_ hp
  rw [hfo, e12, merge_twice, ← e12] at e16
  rw [hfo] at m16
  have cS := rSame_true out out3 _ u16 w13 h12 h16 e16.symm (by omega) (fun z hz => (w12 z hz).up X) (fun z hz => (w12 z (m16 z hz)).up X)
  have X13 := X
  replace X := ExtB.refl (fun _ => False) w13
  repeat' (first | with_reducible refine RunLN.boolF rfl ?_ | (with_reducible refine RunLN.neF ?_ ?_; focus omega) | (with_reducible refine RunLN.chk ?_; refine RunLN.int (by (first | (refine wr_i64 ?_ ?_; omega; omega) | (refine wm_i64 ?_; omega) | (refine wq_i64 ?_ ?_ ?_; omega; omega; omega) | rfl)) ?_) | refine RunLN.any ?_ | refine RunL.ev Tryz.tOk rfl rfl rfl ?_ | refine RunL.evV rfl rfl rfl (OpV.lenSl Tryz.tOk rfl rfl h14) ?_ | refine RunE.seq ?_ | refine RunE.region ?_ | refine RunL.nil ?_)
  refine RunL.call rfl rfl rfl (cS) ?_
  rintro _ _ ⟨rfl, Xa_⟩
  replace X := X.trans Xa_
  clear Xa_
  clear cS h16 e16 m16 e12 hc hco hfo
  repeat' (first | with_reducible refine RunLN.boolF rfl ?_ | (with_reducible refine RunLN.chk ?_; refine RunLN.int (by (first | (refine wr_i64 ?_ ?_; omega; omega) | (refine wm_i64 ?_; omega) | (refine wq_i64 ?_ ?_ ?_; omega; omega; omega) | rfl)) ?_) | refine RunLN.any ?_ | refine RunL.ev Tryz.tOk rfl rfl rfl ?_ | refine RunE.condF rfl rfl ?_ | refine RunE.seq ?_ | refine RunE.region ?_ | refine RunL.nil ?_ | refine RunE.block ?_ | refine RunE.skip ?_)
  refine RunE.loop (ι := Nat) (fun s => [(12, .slice du out.length cu), (14, u14), (110, .int .i64 (out.length : Int)), (111, .int .i64 (s : Int))])
    (fun s w' => s ≤ out.length ∧ Ext w13 w') (fun s => out.length - s) 0 (by repeat (first | exact Sub.nil _ | refine Sub.cons rfl ?_)) ⟨Nat.zero_le _, X⟩ ?_
  clear X
  rintro i w14_ ⟨hi, X⟩ again
  by_cases hil : i < out.length
  · obtain ⟨x, hx⟩ : ∃ x, out[i]? = some x := ⟨_, List.getElem?_eq_getElem hil⟩
    obtain ⟨y, hy⟩ : ∃ y, outm[i]? = some y := ⟨_, List.getElem?_eq_getElem (by omega)⟩
    obtain ⟨b2, o2, c2, e2, hr2, -⟩ := isL_held h12 hil
    injection e2 with e2 _ e2'
    subst e2
    subst e2'
    obtain ⟨b3, o3, c3, rfl, hr3, -⟩ := isL_held h14 (show i < outm.length by omega)
    have hrx := flat_row encR (hr2.up X) hx
    have hry := flat_row encR (hr3.up X) hy
    have hwx := (w12 x (List.mem_of_getElem? hx)).up (X13.trans X)
    have hwy := (w14 y (List.mem_of_getElem? hy)).up (X13.trans X)
    have cS := fun w' (e : Ext w14_ w') => rsameF_ok x.d y.d x.u x.v y.u y.v w' (hwx.2.2.2.up e).seen (hwx.2.2.2.up e).data (hwy.2.2.2.up e).seen (hwy.2.2.2.up e).data hwx.2.1 hwy.2.1
    rw [hat i x y hx hy] at cS
    have X10 := X
    replace X := ExtB.refl (fun _ => False) w14_
    repeat' (first | (with_reducible refine RunLN.decT ?_ ?_; focus omega) | (with_reducible refine RunLN.chk ?_; refine RunLN.int (by (first | (refine wr_i64 ?_ ?_; omega; omega) | (refine wm_i64 ?_; omega) | (refine wq_i64 ?_ ?_ ?_; omega; omega; omega) | rfl)) ?_) | refine RunL.ev Tryz.tOk rfl rfl rfl ?_ | refine RunE.condT rfl rfl ?_ | refine RunE.seq ?_ | refine RunE.region ?_ | refine RunL.nil ?_ | refine RunE.block ?_ | refine RunE.skip ?_)
    refine RunE.draw (fun _ => False) mix ?_
    intro wd_ Xd_
    repeat' (first | with_reducible refine AsyN.boolT rfl ?_ | with_reducible refine AsyN.boolF rfl ?_ | (with_reducible refine AsyN.chk ?_; refine AsyN.int (by (first | (refine wr_i64 ?_ ?_; omega; omega) | (refine wm_i64 ?_; omega) | (refine wq_i64 ?_ ?_ ?_; omega; omega; omega) | rfl)) ?_) | refine AsyN.any ?_ | refine Asy.ev Tryz.tOk rfl rfl rfl ?_ | refine Asy.evV rfl rfl rfl rfl (fun _ X_ => OpV.indexS Tryz.tOk i rfl rfl rfl (by first | rfl | omega) (by omega)) ?_ | refine Asy.evV rfl rfl rfl rfl (fun _ X_ => OpV.loadN Tryz.tOk rfl rfl rfl rfl (hrx.up (Xd_.trans X_))) ?_ | refine Asy.evV rfl rfl rfl rfl (fun _ X_ => OpV.loadN Tryz.tOk rfl rfl rfl rfl (hry.up (Xd_.trans X_))) ?_ | refine Asy.callN rfl rfl rfl (fun _ X_ => (cS _ (Xd_.trans X_))) ?_)
    refine Asy.end_ (by kernel_rfl) ?_
    intro we_ Xe_
    replace X := X10.trans (Xd_.trans Xe_)
    clear Xd_ Xe_
    repeat' (first | (with_reducible refine RunLN.chk ?_; refine RunLN.int (by (first | (refine wr_i64 ?_ ?_; omega; omega) | (refine wm_i64 ?_; omega) | (refine wq_i64 ?_ ?_ ?_; omega; omega; omega) | rfl)) ?_) | refine RunL.ev Tryz.tOk rfl rfl rfl ?_ | refine RunE.condF rfl rfl ?_ | refine RunE.region ?_ | refine RunL.nil ?_ | refine RunE.inBlock ?_ | refine RunE.skip ?_)
    exact RunE.weaken (by repeat (first | exact Sub.nil _ | refine Sub.cons rfl ?_)) (again (i + 1) _ (by omega) ⟨by omega, X⟩)
  · obtain rfl : i = out.length := by omega
    clear again
    repeat' (first | with_reducible refine RunLN.boolT rfl ?_ | (with_reducible refine RunLN.decF ?_ ?_; focus omega) | refine RunL.ev Tryz.tOk rfl rfl rfl ?_ | refine RunE.condF rfl rfl ?_ | refine RunE.seq ?_ | refine RunE.region ?_ | refine RunL.nil ?_ | refine RunE.exit rfl ?_)
    exact RunE.retFn Tryz.func8 (.tmp rfl .nil) ⟨rfl, X13.trans X⟩
end Go.Sg
namespace Go.Proofs.YtpmpefkcmokoiaaGreatDoor
open Go.ChangeShapes Go.WideShapes Go.ChangeAt Go.RowKit Go.Sg
namespace mergeOrder
theorem own : ownKnob Tryz.prog.godebug = none := by kernel_rfl
theorem laidOut : laidOutB Tryz.prog = true := by kernel_rfl
theorem door_met (os : Os) (args : Array Value) : laidMetH Tryz.prog Rows.mergeOrderRow.laid ((World.doorLaid Tryz.prog 19 os).forCall (fun _ _ => 0) ⟨#[], args, []⟩).memory :=
  laidMetH_of_parts3 (fuel := 8) (laidMet_of_run' 8 (by kernel_rfl) (by kernel_rfl)) (by kernel_rfl) (by kernel_rfl)
set_option maxRecDepth 100000 in
theorem lifted (os : Os) (started : os.Started) (H : Type) (enc : TypeId × Value → H) :
    ReturnsInHanded {} Tryz.checked os 8 .any (fun w args => (Rows.mergeOrderSpec.pre enc Tryz.prog Tryz.f8 [] false w args ∧ laidMetH Tryz.prog Rows.mergeOrderRow.laid w) ∧ sizedMet enc Tryz.prog Tryz.f8 (OpenSpec.ofChange Rows.mergeOrderSpec) false w args)
      (Rows.mergeOrderSpec.post enc Tryz.prog Tryz.f8 false true false false) := by
  refine returnsInHanded_of_change_and (C := Tryz.checked) (X := fun w _ => laidMetH Tryz.prog Rows.mergeOrderRow.laid w) (fun _ _ _ hh h => h.of_heap hh) own started (by kernel_rfl) Tryz.func8
    (ChangeSpec.witness_shaped (enc := enc) (C := Tryz.checked) (os := os) (X := fun w _ => laidMetH Tryz.prog Rows.mergeOrderRow.laid w) false (World.doorLaid Tryz.prog 19 os) #[.slice none 0 0, .slice none 0 0, .int .u8 0, .int .u8 0] 8 rfl (World.shaped_of_RefB (by kernel_rfl) (by kernel_rfl)) (by kernel_rfl) (by kernel_rfl) (by kernel_rfl) (door_met os _)) ?_
  intro W base args ds gs before hval0 hW _ hwt hL _
  have hval : ∀ (j : Nat) t v, Tryz.f8.params[j]? = some t → args[j]? = some v → Value.okWide Tryz.prog W .any base t v := hval0
  have hW' := hW
  obtain ⟨p, q, hA0, hV, rfl, hfz, hnd⟩ := hW
  have hA : DataW.TrodAll enc Tryz.prog W 0 (fun _ => true) true Tryz.f8.params.toList args.toList ds p := hA0
  rw [Tryz.params8] at hA hval
  obtain ⟨v0, vs0, d0, ds0, p0, q0, hargs, rfl, rfl, h0, r0⟩ := trodAll_cons hA
  obtain ⟨v1, vs1, d1, ds1, p1, q1, rfl, rfl, rfl, h1, r1⟩ := trodAll_cons r0
  obtain ⟨v2, vs2, d2, ds2, p2, q2, rfl, rfl, rfl, h2, r2⟩ := trodAll_cons r1
  obtain ⟨v3, vs3, d3, ds3, p3, q3, rfl, rfl, rfl, h3, r3⟩ := trodAll_cons r2
  obtain ⟨rfl, rfl, rfl⟩ := trodAll_nil r3
  obtain rfl : args = #[v0, v1, v2, v3] := by cases args; simp_all
  obtain ⟨l0, b0, m0⟩ := keys_open (hval 0 22 v0 rfl rfl) h0
  obtain ⟨l1, m1⟩ := parts_open (Go.Rn.reach_at hwt (j := 1) rfl rfl rfl) (hval 1 23 v1 rfl rfl) h1
  obtain ⟨a2, rfl, rfl, rfl, w2⟩ := open_int Tryz.underlying5 (hval 2 5 v2 rfl rfl) h2
  obtain ⟨a3, rfl, rfl, rfl, w3⟩ := open_int Tryz.underlying5 (hval 3 5 v3 rfl rfl) h3
  have L0 := start_of_laid (by kernel_rfl) rfl (.head _) hL
  have L1 := numbers_of_laid (by kernel_rfl) rfl (.tail _ (.head _)) hL
  refine (Rets.calls (mergeOrder_walk v0 l0 v1 l1 a2 a3 (u8_of_wf w2) (u8_of_wf w3) W b0 m0 m1 L0 L1)).mono fun e W' he => ?_
  obtain ⟨_, rfl, rfl, hx⟩ := he
  exact ⟨_, rfl, law_post (t := 4) laidOut (by kernel_rfl) (by kernel_rfl) (by kernel_rfl) rfl (fun ds h => by
    rcases ds with _ | ⟨_, _ | ⟨_, _ | ⟨_, _ | ⟨_, _ | ⟨_, _⟩⟩⟩⟩⟩ <;> first | rfl | (exact absurd h (by decide)) | (simp at h)) hW' hx⟩

theorem holds : Rows.MergeOrderSaid :=
  OpenClaim.holds_of_wide 8 Tryz.f8 rfl rfl rfl rfl rfl rfl rfl ⟨rfl, rfl, rfl, rfl, rfl⟩ rfl rfl rfl rfl rfl (by kernel_rfl) Tryz.func8 (by kernel_rfl)
    (of_decide_eq_true (by kernel_rfl)) (by unfold Func.isWrapper; first | (rw [if_pos (by decide +kernel)]; kernel_rfl) | (rw [if_neg (by decide +kernel)]; exact ⟨rfl, rfl⟩))
    (fun os started H enc _ => lifted os started H enc)
theorem proved : Rows.MergeOrderCardSaid :=
  Claim7.holds_tied_plain_at .later [] [.data, .data] true (true, "75ed6596ee30abdd58d082f273dd5afe18c864f07da85c18b484820de691abc6") true
    holds (fun _ h => by cases h) (by kernel_rfl) (fun _ h => by cases h) mergeOrder_row_tie rfl ⟨rfl, rfl⟩ (by kernel_rfl) rfl
    (fun f fn hf hfn => by
      obtain rfl : f = 8 := Option.some.inj ((show Tryz.prog.funcNamed Tryz.f8.name = some 8 by kernel_rfl).symm.trans hf) |>.symm
      obtain rfl : fn = Tryz.f8 := (Option.some.inj (Tryz.func8.symm.trans hfn)).symm
      exact ⟨by kernel_rfl, fun j t ht => by
        have hall : Tryz.f8.params.toList.all (fun t => !Tryz.prog.wantsStandIn t) = true := by kernel_rfl
        have hm : t ∈ Tryz.f8.params.toList := by
          obtain ⟨hj, rfl⟩ := Array.getElem?_eq_some_iff.1 ht
          simp
        have := List.all_eq_true.1 hall t hm
        exact (by simpa using this : Tryz.prog.wantsStandIn t = false)⟩)
    (by kernel_rfl)
#print axioms proved
end mergeOrder
end Go.Proofs.YtpmpefkcmokoiaaGreatDoor
