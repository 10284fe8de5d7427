/- Parts of this project that the claims share: MerV, MerT, MerW. -/
import Derived.Test.YtpmpefkcmokoiaaGreatDoorMs10
set_option linter.unusedSimpArgs false
set_option linter.unusedVariables false
set_option linter.unusedSectionVars false
section
/- Merge: the examples: small. -/
set_option maxRecDepth 4000
namespace Go.Sg
open Go.Rn Go.Proofs Go.Dee Go.Mer Go.Rec Go.RowKit Go.Sha Go.Cod Go.NT
attribute [local irreducible] Go.Rn.RetsX Go.Rn.RunLN Go.Rn.AsyN Go.Rn.RunL Go.Rn.RunE Go.Rn.Asy Go.Rn.OpV Go.Rn.OpE Go.Rn.ExecE
theorem dMake_as {x p n t : Int} {prev : Dg} {seen : List Dg} {data : List UInt8} {d : Deed} (hd : makeD x (askD p n t prev seen data) = d) (he : makeE x (askD p n t prev seen data) = 0) (hsd : d.seen = seen ∧ d.data = data) (du : Option Addr) (cu : Nat) (dv : Option Addr) (cv : Nat) (w : World) (hx : -9223372036854775808 ≤ x ∧ x < 9223372036854775808) (hs : LDg w (.slice du seen.length cu) seen) (hb : LBy w (.slice dv data.length cv) data) (hl : seen.length < 9223372036854775808) (hl' : data.length < 9223372036854775808) (hS : Row w 0 0 (vals init8.l)) (hkT : Row w 1 0 (vals kTab)) :
  Rets Tryz.prog 59 [.int .i64 x, .int .i64 p, .int .i64 n, .int .i64 t, .agg (digC prev).toArray, .slice du seen.length cu, .slice dv data.length cv] w fun r w' => r = .tuple #[.agg (Dr.cells ⟨d, du, cu, dv, cv⟩).toArray, .int .i64 0] ∧ Ext w w' := by
 have h := dMake_go x p n t prev seen data du cu dv cv w hx he hs hb hl hl' hS hkT
 rw [hd] at h
 have e : Dr.cells ⟨d, du, cu, dv, cv⟩ = dCells d (.slice du seen.length cu) (.slice dv data.length cv) := by
  show dCells d (.slice du d.seen.length cu) (.slice dv d.data.length cv) = _
  rw [hsd.1, hsd.2]
 rw [e]
 exact h
theorem wf_of {w : World} {d : Deed} {seen : List Dg} {data : List UInt8} {du : Option Addr} {cu : Nat} {dv : Option Addr} {cv : Nat} (hw : WfD d) (hsd : d.seen = seen ∧ d.data = data) (hl : seen.length < 9223372036854775808) (hl' : data.length < 9223372036854775808) (hs : LDg w (.slice du seen.length cu) seen) (hb : LBy w (.slice dv data.length cv) data) : WfX w ⟨d, du, cu, dv, cv⟩ := by
 obtain ⟨rfl, rfl⟩ := hsd
 exact ⟨hw, hl, hl', hs, hb⟩
theorem pow4_as {n k : Int} (h : powC 4 n = k) (w : World) : Rets Tryz.prog 58 [.int .i64 4, .int .i64 n] w fun v w' => v = .tuple #[.int .i64 k, .int .i64 0] ∧ Ext w w' := by
 have := pow_ok 4 n w
 rw [h, v4] at this
 exact this
theorem dId_as {D : Dr} {g : Dg} (h : idG D.d = g ∧ idE D.d = 0) (w : World) (hw : WfX w D) (hS : Row w 0 0 (vals init8.l)) (hkT : Row w 1 0 (vals kTab)) : Rets Tryz.prog 39 [.agg D.cells.toArray] w fun r w' => r = .tuple #[.agg (digC g).toArray, .int .i64 0] ∧ Ext w w' := by
 have := dId_ok D.d D.u D.v w hw.2.2.2.seen hw.2.2.2.data hw.2.1 hw.2.2.1 hS hkT
 rw [h.1, h.2] at this
 exact this
attribute [local irreducible] powC makeE makeD idD idG idE fineD stepD chkE
set_option maxRecDepth 8000 in
set_option maxHeartbeats 16000000 in
theorem small_gen (ks : List Int) (a b c o : Deed) (g y : Dg) (k5 k6 : Int) (hks : ks = [k5, k6]) (E : ExM ks a b c o g y) (p5 : powC 4 5 = k5) (p6 : powC 4 6 = k6)
  (ma : makeD 5 (askD 0 0 10 zeroG [] [97]) = a) (ea : makeE 5 (askD 0 0 10 zeroG [] [97]) = 0) (mb : makeD 6 (askD 1 0 11 zeroG [g] [98]) = b) (eb : makeE 6 (askD 1 0 11 zeroG [g] [98]) = 0)
  (mc : makeD 5 (askD 0 1 12 g [y] [99]) = c) (ec : makeE 5 (askD 0 1 12 g [y] [99]) = 0) (mo : makeD 5 (askD 0 1 12 g [] [100]) = o) (eo : makeE 5 (askD 0 1 12 g [] [100]) = 0)
  (w : World) (hS : Row w 0 0 (vals init8.l)) (hkT : Row w 1 0 (vals kTab)) :
  Rets Tryz.prog 27 [] w fun r w' => (∃ (kv lv : Value) (A B C O : Dr), r = .tuple #[kv, lv, .agg O.cells.toArray, .bool true] ∧ LIn w' kv ks ∧ LDr w' lv [A, B, C] ∧ (A.d = a ∧ B.d = b ∧ C.d = c ∧ O.d = o) ∧ WfX w' A ∧ WfX w' B ∧ WfX w' C ∧ WfX w' O) ∧ Ext w w' := by
 subst hks
 have ida := E.ida
 have idb := E.idb
 have sa := E.sa
 have sb := E.sb
 have sc := E.sc
 have so := E.so
 have wa := E.wa
 have wb := E.wb
 have wc := E.wc
 have wo := E.wo
 clear E
 refine RetsX.of (nt := 108) Tryz.func27 (by kernel_rfl) rfl rfl (by simp) (by simp only [argEnv]; rfl) ?_
 have X := ExtB.refl (fun _ => False) w
 repeat' (first | refine ZzA ?_ | refine RunL.ev Tryz.tOk rfl rfl rfl ?_ | refine ZzQ ?_ | refine ZzR ?_)
 refine RunL.alloc Tryz.tOk rfl rfl rfl fun B2 w2_ a_ => ?_
 have Z2 : Blk w2_ B2 (dCells zeroD nilV nilV) 38 := a_.at_
 have gB2 := a_.ge X
 replace X := X.trans a_.ext
 clear a_
 repeat' (first | with_reducible refine ZzG rfl ?_ | refine RunL.ev Tryz.tOk rfl rfl rfl ?_ | refine ZzQ ?_ | refine ZzR ?_ | refine ZzN ?_)
 refine RunL.ex rfl rfl rfl (OpE.buildSl Tryz.tOk [.int .i64 5, .int .i64 6] rfl rfl rfl rfl rfl rfl (by simp [Value.cells])) ?_
 rintro _ w_ ⟨B_, rfl, a_⟩
 have h56 : LIn w_ (.slice (some ⟨B_, 0, none⟩) 2 2) [5, 6] := (isSl_added (n := 2) (sz := 1) a_ rfl)
 replace Z2 := Z2.up a_.ext
 replace X := X.trans a_.ext
 clear a_
 have l2 := Z2.lt
 have X3 := X
 replace X := ExtB.refl (fun _ => False) w_
 have hO0 : w_.ownsRow w_.heap.size 3 1 nilV ([k5, k6].take 0).length (flat intC' ([k5, k6].take 0)) := World.ownsRow_nil _ _ _ _
 repeat' (first | (with_reducible refine RunLN.chk ?_; refine RunLN.int (by (rfl)) ?_) | refine RunL.ev Tryz.tOk rfl rfl rfl ?_ | refine ZzN ?_ | refine ZzB ?_)
 refine RunE.loop (ι := Nat × Value) (fun s => [(0, s.2), (2, .pointer (some ⟨B2, 0, none⟩)), (19, .slice (some ⟨B_, 0, none⟩) 2 2), (20, .int .i64 2), (21, .int .i64 (s.1 : Int))])
  (fun s w' => s.1 ≤ 2 ∧ Ext w_ w' ∧ w'.ownsRow w_.heap.size 3 1 s.2 ([k5, k6].take s.1).length (flat intC' ([k5, k6].take s.1))) (fun s => 2 - s.1) (0, nilV) (by repeat (first | exact Sub.nil _ | refine Sub.cons rfl ?_)) ⟨by decide, X, hO0⟩ ?_
 clear X hO0
 rintro ⟨i, u⟩ w3 ⟨hi, X, hO⟩ again
 simp only at hi hO again ⊢
 by_cases hlt : i < 2
 ·obtain ⟨x, k, hx, hkx, hpx⟩ : ∃ x k, ([5, 6] : List Int)[i]? = some x ∧ [k5, k6][i]? = some k ∧ powC 4 x = k := by
   obtain rfl | rfl : i = 0 ∨ i = 1 := by omega
   ·exact ⟨5, k5, rfl, rfl, p5⟩
   ·exact ⟨6, k6, rfl, rfl, p6⟩
  obtain ⟨b1, o1, c1, e1, hr1, -⟩ := isL_held h56 (show i < ([5, 6] : List Int).length from hlt)
  injection e1 with e1 _ e1'
  cases e1
  have hrx := flat_row encIn (hr1.up X) hx
  have htk : [k5, k6].take (i + 1) = [k5, k6].take i ++ [k] := by rw [List.take_add_one, hkx]; rfl
  have hpl : ([k5, k6].take i).length ≤ 2 := by simp; omega
  have next := fun u' w' a b => again (i + 1, u') w' (by simp only; omega) ⟨by simp only; omega, a, b⟩
  simp only [htk] at next
  clear again
  generalize [k5, k6].take i = pre at hO next hpl
  have X5 := X
  replace X := ExtB.refl (fun _ => False) w3
  repeat' (first | (with_reducible refine RunLN.decT ?_ ?_; focus omega) | (with_reducible refine RunLN.chk ?_; refine RunLN.int (by (rfl)) ?_) | refine ZzA ?_ | refine RunL.ev Tryz.tOk rfl rfl rfl ?_ | refine RunL.evV rfl rfl rfl (OpV.load1 Tryz.tOk rfl rfl rfl ((hrx.up X) 0 _ rfl)) ?_ | refine RunL.evV rfl rfl rfl (OpV.indexS Tryz.tOk _ rfl rfl rfl rfl (by omega)) ?_ | refine ZzT rfl rfl ?_ | refine ZzQ ?_ | refine ZzR ?_ | refine ZzN ?_ | refine ZzB ?_ | refine ZzK ?_)
  refine RunL.call rfl rfl rfl (pow4_as hpx _) ?_
  rintro _ _ ⟨rfl, Xa_⟩
  replace X := X.trans Xa_
  clear Xa_
  repeat' (first | with_reducible refine ZzG rfl ?_ | (with_reducible refine RunLN.chk ?_; refine RunLN.int (by (rfl)) ?_) | refine ZzA ?_ | refine RunL.ev Tryz.tOk rfl rfl rfl ?_ | refine ZzF rfl rfl ?_ | refine ZzQ ?_ | refine ZzR ?_ | refine ZzN ?_ | refine ZzK ?_)
  refine RunL.ex rfl rfl rfl (OpE.buildSl Tryz.tOk [.int .i64 k] rfl rfl rfl rfl rfl rfl (by simp [Value.cells])) ?_
  rintro _ w15 ⟨B15, rfl, a15⟩
  have hx1 : LIn w15 (.slice (some ⟨B15, 0, none⟩) 1 1) [k] := isSl_added (n := 1) (sz := 1) a15 rfl
  replace X := X.trans a15.ext
  replace hO := World.ownsRow.up hO X
  have hs6 : w_.heap.size ≤ w15.heap.size := (X5.trans X).size
  clear a15
  skip
  refine RunL.ex rfl rfl rfl (OpE.append' Tryz.tOk rfl rfl rfl rfl rfl rfl hO hx1 (flat_plain encIn [k]) (by show _ * 8 ≤ _; simp only [List.length_singleton]; omega) (by simp only [List.length_singleton]; omega) hs6) ?_
  rintro u' w8 ⟨O8, E8, -⟩
  have X8 : Ext w_ w8 := (X5.trans X).write E8 (by intro k hk hlt; have := ownsRow_ge hO hk; omega)
  repeat' (first | (with_reducible refine RunLN.chk ?_; refine RunLN.int (by (first | (refine wr_i64 ?_ ?_; omega; omega) | rfl)) ?_) | refine ZzA ?_ | refine RunL.ev Tryz.tOk rfl rfl rfl ?_ | refine ZzR ?_ | refine ZzN ?_ | refine ZzI ?_)
  exact RunE.weaken (by repeat (first | exact Sub.nil _ | refine Sub.cons rfl ?_)) (next _ _ X8 (by rw [List.length_append, flat_append]; exact O8))
 obtain rfl : i = 2 := by omega
 clear again p5 p6 hlt hi
 replace hO : w3.ownsRow w_.heap.size 3 1 u 2 (flat intC' [k5, k6]) := hO
 replace Z2 := Z2.up X
 replace X := X3.trans X
 clear h56 X3
 repeat' (first | with_reducible refine ZzG rfl ?_ | refine ZzA ?_ | refine RunL.ev Tryz.tOk rfl rfl rfl ?_ | refine ZzF rfl rfl ?_ | refine ZzQ ?_ | refine ZzR ?_ | refine ZzN ?_ | refine RunE.exit rfl ?_)
 have l2 := Z2.lt
 refine RunL.ex rfl rfl rfl (OpE.buildSl Tryz.tOk (bytesV [97]) rfl rfl rfl rfl rfl rfl (by simp [Value.cells, bytesV])) ?_
 rintro _ wa_ ⟨Bh97, rfl, aa_⟩
 have Zc_ : Blk wa_ Bh97 (bytesV [97]) 5 := aa_.at_
 have e_h97 := aa_.eq
 refine RunL.ex rfl rfl rfl (OpE.bytesC Tryz.tOk rfl rfl rfl Zc_) ?_
 rintro _ wb_ ⟨rfl, tb_⟩
 have Xa_ : Ext _ wb_ := aa_.ext.write tb_.ext (by intro i_ hi_ hlt_; subst hi_; omega)
 have h97 : IsSl wb_ 1 (.slice (some ⟨Bh97, 0, none⟩) 1 1) ([97] : List UInt8).length (bytesV [97]) := .row (row_cells tb_.at_) rfl (Nat.le_refl _)
 replace Z2 := Z2.up Xa_
 replace hO := hO.up Xa_
 replace X := X.trans Xa_
 clear Xa_ aa_ tb_ Zc_
 have n97 : Bh97 ≠ B2 := by omega
 clear e_h97 l2
 skip
 refine RunL.call rfl rfl rfl (dMake_as ma ea sa none 0 _ _ _ (by decide) IsSl.nil h97 (by decide) (by decide) (hS.up X) (hkT.up X)) ?_
 rintro _ _ ⟨rfl, Xa_⟩
 replace Z2 := Z2.up Xa_
 replace hO := hO.up Xa_
 replace h97 := h97.up Xa_
 replace X := X.trans Xa_
 clear Xa_
 have wA := wf_of wa sa (by decide) (by decide) (du := none) (cu := 0) IsSl.nil h97
 repeat' (first | (with_reducible refine RunLN.chk ?_; refine RunLN.int (by (rfl)) ?_) | refine ZzA ?_ | refine RunL.ev Tryz.tOk rfl rfl rfl ?_)
 refine RunL.alloc Tryz.tOk rfl rfl rfl fun B8 wa_ aa_ => ?_
 have gB8 := aa_.ge X
 refine RunL.storeW (vs := Dr.cells ⟨a, none, 0, some ⟨Bh97, 0, none⟩, 1⟩) Tryz.tOk rfl rfl rfl rfl rfl aa_.at_ rfl rfl fun w8_ tb_ => ?_
 have Xa_ : Ext _ w8_ := aa_.ext.write tb_.ext (by intro i_ hi_ hlt_; have := aa_.eq; omega)
 have Z8 : Blk w8_ B8 (Dr.cells ⟨a, none, 0, some ⟨Bh97, 0, none⟩, 1⟩) 38 := tb_.at_
 have n2_8 : B2 ≠ B8 := by have := Z2.lt; have := aa_.eq; omega
 have n8_2 : B8 ≠ B2 := Ne.symm n2_8
 replace Z2 := Z2.up Xa_
 replace hO := hO.up Xa_
 replace h97 := h97.up Xa_
 replace wA := wA.up Xa_
 replace X := X.trans Xa_
 clear Xa_ aa_ tb_
 repeat' (first | (with_reducible refine RunLN.chk ?_; refine RunLN.int (by (rfl)) ?_) | refine ZzA ?_ | refine RunL.ev Tryz.tOk rfl rfl rfl ?_ | refine RunL.evV rfl rfl rfl (OpV.loadN Tryz.tOk rfl rfl rfl rfl (Blk.row Z8)) ?_ | refine ZzQ ?_ | refine ZzR ?_ | refine ZzN ?_)
 refine RunL.call rfl rfl rfl (dId_as (D := ⟨a, none, 0, some ⟨Bh97, 0, none⟩, 1⟩) ida _ wA (hS.up X) (hkT.up X)) ?_
 rintro _ _ ⟨rfl, Xa_⟩
 replace Z2 := Z2.up Xa_
 replace hO := hO.up Xa_
 replace h97 := h97.up Xa_
 replace Z8 := Z8.up Xa_
 replace X := X.trans Xa_
 clear Xa_
 clear wA
 repeat' (first | (with_reducible refine RunLN.chk ?_; refine RunLN.int (by (rfl)) ?_) | refine ZzA ?_ | refine RunL.ev Tryz.tOk rfl rfl rfl ?_)
 refine RunL.alloc Tryz.tOk rfl rfl rfl fun B10 wa_ aa_ => ?_
 have gB10 := aa_.ge X
 refine RunL.storeW (vs := digC g) Tryz.tOk rfl rfl rfl rfl rfl aa_.at_ rfl rfl fun w10_ tb_ => ?_
 have Xa_ : Ext _ w10_ := aa_.ext.write tb_.ext (by intro i_ hi_ hlt_; have := aa_.eq; omega)
 have Z10 : Blk w10_ B10 (digC g) 32 := tb_.at_
 have n2_10 : B2 ≠ B10 := by have := Z2.lt; have := aa_.eq; omega
 have n10_2 : B10 ≠ B2 := Ne.symm n2_10
 have n8_10 : B8 ≠ B10 := by have := Z8.lt; have := aa_.eq; omega
 have n10_8 : B10 ≠ B8 := Ne.symm n8_10
 replace Z2 := Z2.up Xa_
 replace hO := hO.up Xa_
 replace h97 := h97.up Xa_
 replace Z8 := Z8.up Xa_
 replace X := X.trans Xa_
 clear Xa_ aa_ tb_
 repeat' (first | (with_reducible refine RunLN.chk ?_; refine RunLN.int (by (rfl)) ?_) | refine ZzA ?_ | refine RunL.ev Tryz.tOk rfl rfl rfl ?_ | refine RunL.evV rfl rfl rfl (OpV.loadN Tryz.tOk rfl rfl rfl rfl (Blk.row Z10)) ?_ | refine ZzQ ?_ | refine ZzR ?_ | refine ZzN ?_)
 have l2 := Z2.lt
 refine RunL.ex rfl rfl rfl (OpE.buildN encG Tryz.tOk [g] rfl rfl rfl rfl rfl rfl) ?_
 rintro _ w9 ⟨⟨Bg, rfl, lg⟩, hg9, Xa_⟩
 have ng : Bg ≠ B2 := by omega
 replace Z2 := Z2.up Xa_
 replace hO := hO.up Xa_
 replace h97 := h97.up Xa_
 replace Z8 := Z8.up Xa_
 replace Z10 := Z10.up Xa_
 replace X := X.trans Xa_
 clear Xa_ lg l2
 skip
 have l2 := Z2.lt
 refine RunL.ex rfl rfl rfl (OpE.buildSl Tryz.tOk (bytesV [98]) rfl rfl rfl rfl rfl rfl (by simp [Value.cells, bytesV])) ?_
 rintro _ wa_ ⟨Bh98, rfl, aa_⟩
 have Zc_ : Blk wa_ Bh98 (bytesV [98]) 5 := aa_.at_
 have e_h98 := aa_.eq
 refine RunL.ex rfl rfl rfl (OpE.bytesC Tryz.tOk rfl rfl rfl Zc_) ?_
 rintro _ wb_ ⟨rfl, tb_⟩
 have Xa_ : Ext _ wb_ := aa_.ext.write tb_.ext (by intro i_ hi_ hlt_; subst hi_; omega)
 have h98 : IsSl wb_ 1 (.slice (some ⟨Bh98, 0, none⟩) 1 1) ([98] : List UInt8).length (bytesV [98]) := .row (row_cells tb_.at_) rfl (Nat.le_refl _)
 replace Z2 := Z2.up Xa_
 replace hO := hO.up Xa_
 replace h97 := h97.up Xa_
 replace Z8 := Z8.up Xa_
 replace Z10 := Z10.up Xa_
 replace hg9 := hg9.up Xa_
 replace X := X.trans Xa_
 clear Xa_ aa_ tb_ Zc_
 have n98 : Bh98 ≠ B2 := by omega
 clear e_h98 l2
 skip
 refine RunL.call rfl rfl rfl (dMake_as mb eb sb _ _ _ _ _ (by decide) hg9 h98 (by simp) (by simp) (hS.up X) (hkT.up X)) ?_
 rintro _ _ ⟨rfl, Xa_⟩
 replace Z2 := Z2.up Xa_
 replace hO := hO.up Xa_
 replace h97 := h97.up Xa_
 replace Z8 := Z8.up Xa_
 replace Z10 := Z10.up Xa_
 replace hg9 := hg9.up Xa_
 replace h98 := h98.up Xa_
 replace X := X.trans Xa_
 clear Xa_
 have wB := wf_of wb sb (by simp) (by simp) hg9 h98
 repeat' (first | (with_reducible refine RunLN.chk ?_; refine RunLN.int (by (rfl)) ?_) | refine ZzA ?_ | refine RunL.ev Tryz.tOk rfl rfl rfl ?_)
 refine RunL.alloc Tryz.tOk rfl rfl rfl fun B12 wa_ aa_ => ?_
 have gB12 := aa_.ge X
 refine RunL.storeW (vs := Dr.cells ⟨b, some ⟨Bg, 0, none⟩, 1, some ⟨Bh98, 0, none⟩, 1⟩) Tryz.tOk rfl rfl rfl rfl rfl aa_.at_ rfl rfl fun w12_ tb_ => ?_
 have Xa_ : Ext _ w12_ := aa_.ext.write tb_.ext (by intro i_ hi_ hlt_; have := aa_.eq; omega)
 have Z12 : Blk w12_ B12 (Dr.cells ⟨b, some ⟨Bg, 0, none⟩, 1, some ⟨Bh98, 0, none⟩, 1⟩) 38 := tb_.at_
 have n2_12 : B2 ≠ B12 := by have := Z2.lt; have := aa_.eq; omega
 have n12_2 : B12 ≠ B2 := Ne.symm n2_12
 have n8_12 : B8 ≠ B12 := by have := Z8.lt; have := aa_.eq; omega
 have n12_8 : B12 ≠ B8 := Ne.symm n8_12
 have n10_12 : B10 ≠ B12 := by have := Z10.lt; have := aa_.eq; omega
 have n12_10 : B12 ≠ B10 := Ne.symm n10_12
 replace Z2 := Z2.up Xa_
 replace hO := hO.up Xa_
 replace h97 := h97.up Xa_
 replace Z8 := Z8.up Xa_
 replace Z10 := Z10.up Xa_
 replace hg9 := hg9.up Xa_
 replace h98 := h98.up Xa_
 replace wB := wB.up Xa_
 replace X := X.trans Xa_
 clear Xa_ aa_ tb_
 repeat' (first | (with_reducible refine RunLN.chk ?_; refine RunLN.int (by (rfl)) ?_) | refine ZzA ?_ | refine RunL.ev Tryz.tOk rfl rfl rfl ?_ | refine RunL.evV rfl rfl rfl (OpV.loadN Tryz.tOk rfl rfl rfl rfl (Blk.row Z12)) ?_ | refine ZzQ ?_ | refine ZzR ?_ | refine ZzN ?_)
 refine RunL.call rfl rfl rfl (dId_as (D := ⟨b, some ⟨Bg, 0, none⟩, 1, some ⟨Bh98, 0, none⟩, 1⟩) idb _ wB (hS.up X) (hkT.up X)) ?_
 rintro _ _ ⟨rfl, Xa_⟩
 replace Z2 := Z2.up Xa_
 replace hO := hO.up Xa_
 replace h97 := h97.up Xa_
 replace Z8 := Z8.up Xa_
 replace Z10 := Z10.up Xa_
 replace hg9 := hg9.up Xa_
 replace h98 := h98.up Xa_
 replace Z12 := Z12.up Xa_
 replace X := X.trans Xa_
 clear Xa_
 clear wB
 repeat' (first | (with_reducible refine RunLN.chk ?_; refine RunLN.int (by (rfl)) ?_) | refine ZzA ?_ | refine RunL.ev Tryz.tOk rfl rfl rfl ?_)
 refine RunL.alloc Tryz.tOk rfl rfl rfl fun B14 wa_ aa_ => ?_
 have gB14 := aa_.ge X
 refine RunL.storeW (vs := digC y) Tryz.tOk rfl rfl rfl rfl rfl aa_.at_ rfl rfl fun w14_ tb_ => ?_
 have Xa_ : Ext _ w14_ := aa_.ext.write tb_.ext (by intro i_ hi_ hlt_; have := aa_.eq; omega)
 have Z14 : Blk w14_ B14 (digC y) 32 := tb_.at_
 have n2_14 : B2 ≠ B14 := by have := Z2.lt; have := aa_.eq; omega
 have n14_2 : B14 ≠ B2 := Ne.symm n2_14
 have n8_14 : B8 ≠ B14 := by have := Z8.lt; have := aa_.eq; omega
 have n14_8 : B14 ≠ B8 := Ne.symm n8_14
 have n10_14 : B10 ≠ B14 := by have := Z10.lt; have := aa_.eq; omega
 have n14_10 : B14 ≠ B10 := Ne.symm n10_14
 have n12_14 : B12 ≠ B14 := by have := Z12.lt; have := aa_.eq; omega
 have n14_12 : B14 ≠ B12 := Ne.symm n12_14
 replace Z2 := Z2.up Xa_
 replace hO := hO.up Xa_
 replace h97 := h97.up Xa_
 replace Z8 := Z8.up Xa_
 replace Z10 := Z10.up Xa_
 replace hg9 := hg9.up Xa_
 replace h98 := h98.up Xa_
 replace Z12 := Z12.up Xa_
 replace X := X.trans Xa_
 clear Xa_ aa_ tb_
 repeat' (first | (with_reducible refine RunLN.chk ?_; refine RunLN.int (by (rfl)) ?_) | refine ZzA ?_ | refine RunL.ev Tryz.tOk rfl rfl rfl ?_ | refine RunL.evV rfl rfl rfl (OpV.loadN Tryz.tOk rfl rfl rfl rfl (Blk.row Z10)) ?_ | refine RunL.evV rfl rfl rfl (OpV.loadN Tryz.tOk rfl rfl rfl rfl (Blk.row Z14)) ?_ | refine ZzQ ?_ | refine ZzR ?_ | refine ZzN ?_)
 have l2 := Z2.lt
 refine RunL.ex rfl rfl rfl (OpE.buildN encG Tryz.tOk [y] rfl rfl rfl rfl rfl rfl) ?_
 rintro _ w10 ⟨⟨By, rfl, ly⟩, hy9, Xa_⟩
 have ny : By ≠ B2 := by omega
 replace Z2 := Z2.up Xa_
 replace hO := hO.up Xa_
 replace h97 := h97.up Xa_
 replace Z8 := Z8.up Xa_
 replace Z10 := Z10.up Xa_
 replace hg9 := hg9.up Xa_
 replace h98 := h98.up Xa_
 replace Z12 := Z12.up Xa_
 replace X := X.trans Xa_
 clear Xa_ ly l2 Z14
 skip
 have l2 := Z2.lt
 refine RunL.ex rfl rfl rfl (OpE.buildSl Tryz.tOk (bytesV [99]) rfl rfl rfl rfl rfl rfl (by simp [Value.cells, bytesV])) ?_
 rintro _ wa_ ⟨Bh99, rfl, aa_⟩
 have Zc_ : Blk wa_ Bh99 (bytesV [99]) 5 := aa_.at_
 have e_h99 := aa_.eq
 refine RunL.ex rfl rfl rfl (OpE.bytesC Tryz.tOk rfl rfl rfl Zc_) ?_
 rintro _ wb_ ⟨rfl, tb_⟩
 have Xa_ : Ext _ wb_ := aa_.ext.write tb_.ext (by intro i_ hi_ hlt_; subst hi_; omega)
 have h99 : IsSl wb_ 1 (.slice (some ⟨Bh99, 0, none⟩) 1 1) ([99] : List UInt8).length (bytesV [99]) := .row (row_cells tb_.at_) rfl (Nat.le_refl _)
 replace Z2 := Z2.up Xa_
 replace hO := hO.up Xa_
 replace h97 := h97.up Xa_
 replace Z8 := Z8.up Xa_
 replace Z10 := Z10.up Xa_
 replace hg9 := hg9.up Xa_
 replace h98 := h98.up Xa_
 replace Z12 := Z12.up Xa_
 replace hy9 := hy9.up Xa_
 replace X := X.trans Xa_
 clear Xa_ aa_ tb_ Zc_
 have n99 : Bh99 ≠ B2 := by omega
 clear e_h99 l2
 skip
 refine RunL.call rfl rfl rfl (dMake_as mc ec sc _ _ _ _ _ (by decide) hy9 h99 (by simp) (by simp) (hS.up X) (hkT.up X)) ?_
 rintro _ _ ⟨rfl, Xa_⟩
 replace Z2 := Z2.up Xa_
 replace hO := hO.up Xa_
 replace h97 := h97.up Xa_
 replace Z8 := Z8.up Xa_
 replace Z10 := Z10.up Xa_
 replace hg9 := hg9.up Xa_
 replace h98 := h98.up Xa_
 replace Z12 := Z12.up Xa_
 replace hy9 := hy9.up Xa_
 replace h99 := h99.up Xa_
 replace X := X.trans Xa_
 clear Xa_
 repeat' (first | (with_reducible refine RunLN.chk ?_; refine RunLN.int (by (rfl)) ?_) | refine ZzA ?_ | refine RunL.ev Tryz.tOk rfl rfl rfl ?_)
 refine RunL.alloc Tryz.tOk rfl rfl rfl fun B16 wa_ aa_ => ?_
 have gB16 := aa_.ge X
 refine RunL.storeW (vs := Dr.cells ⟨c, some ⟨By, 0, none⟩, 1, some ⟨Bh99, 0, none⟩, 1⟩) Tryz.tOk rfl rfl rfl rfl rfl aa_.at_ rfl rfl fun w16_ tb_ => ?_
 have Xa_ : Ext _ w16_ := aa_.ext.write tb_.ext (by intro i_ hi_ hlt_; have := aa_.eq; omega)
 have Z16 : Blk w16_ B16 (Dr.cells ⟨c, some ⟨By, 0, none⟩, 1, some ⟨Bh99, 0, none⟩, 1⟩) 38 := tb_.at_
 have n2_16 : B2 ≠ B16 := by have := Z2.lt; have := aa_.eq; omega
 have n16_2 : B16 ≠ B2 := Ne.symm n2_16
 have n8_16 : B8 ≠ B16 := by have := Z8.lt; have := aa_.eq; omega
 have n16_8 : B16 ≠ B8 := Ne.symm n8_16
 have n10_16 : B10 ≠ B16 := by have := Z10.lt; have := aa_.eq; omega
 have n16_10 : B16 ≠ B10 := Ne.symm n10_16
 have n12_16 : B12 ≠ B16 := by have := Z12.lt; have := aa_.eq; omega
 have n16_12 : B16 ≠ B12 := Ne.symm n12_16
 replace Z2 := Z2.up Xa_
 replace hO := hO.up Xa_
 replace h97 := h97.up Xa_
 replace Z8 := Z8.up Xa_
 replace Z10 := Z10.up Xa_
 replace hg9 := hg9.up Xa_
 replace h98 := h98.up Xa_
 replace Z12 := Z12.up Xa_
 replace hy9 := hy9.up Xa_
 replace h99 := h99.up Xa_
 replace X := X.trans Xa_
 clear Xa_ aa_ tb_
 repeat' (first | (with_reducible refine RunLN.chk ?_; refine RunLN.int (by (rfl)) ?_) | refine ZzA ?_ | refine RunL.ev Tryz.tOk rfl rfl rfl ?_ | refine RunL.evV rfl rfl rfl (OpV.loadN Tryz.tOk rfl rfl rfl rfl (Blk.row Z10)) ?_ | refine ZzQ ?_ | refine ZzR ?_ | refine ZzN ?_)
 have l2 := Z2.lt
 refine RunL.ex rfl rfl rfl (OpE.buildSl Tryz.tOk (bytesV [100]) rfl rfl rfl rfl rfl rfl (by simp [Value.cells, bytesV])) ?_
 rintro _ wa_ ⟨Bh100, rfl, aa_⟩
 have Zc_ : Blk wa_ Bh100 (bytesV [100]) 5 := aa_.at_
 have e_h100 := aa_.eq
 refine RunL.ex rfl rfl rfl (OpE.bytesC Tryz.tOk rfl rfl rfl Zc_) ?_
 rintro _ wb_ ⟨rfl, tb_⟩
 have Xa_ : Ext _ wb_ := aa_.ext.write tb_.ext (by intro i_ hi_ hlt_; subst hi_; omega)
 have h100 : IsSl wb_ 1 (.slice (some ⟨Bh100, 0, none⟩) 1 1) ([100] : List UInt8).length (bytesV [100]) := .row (row_cells tb_.at_) rfl (Nat.le_refl _)
 replace Z2 := Z2.up Xa_
 replace hO := hO.up Xa_
 replace h97 := h97.up Xa_
 replace Z8 := Z8.up Xa_
 replace hg9 := hg9.up Xa_
 replace h98 := h98.up Xa_
 replace Z12 := Z12.up Xa_
 replace hy9 := hy9.up Xa_
 replace h99 := h99.up Xa_
 replace Z16 := Z16.up Xa_
 replace X := X.trans Xa_
 clear Xa_ aa_ tb_ Zc_
 have n100 : Bh100 ≠ B2 := by omega
 clear e_h100 l2
 skip
 refine RunL.call rfl rfl rfl (dMake_as mo eo so none 0 _ _ _ (by decide) IsSl.nil h100 (by decide) (by decide) (hS.up X) (hkT.up X)) ?_
 rintro _ _ ⟨rfl, Xa_⟩
 replace Z2 := Z2.up Xa_
 replace hO := hO.up Xa_
 replace h97 := h97.up Xa_
 replace Z8 := Z8.up Xa_
 replace hg9 := hg9.up Xa_
 replace h98 := h98.up Xa_
 replace Z12 := Z12.up Xa_
 replace hy9 := hy9.up Xa_
 replace h99 := h99.up Xa_
 replace Z16 := Z16.up Xa_
 replace h100 := h100.up Xa_
 replace X := X.trans Xa_
 clear Xa_
 clear ma ea mb eb mc ec mo eo ida idb Z10
 repeat' (first | (with_reducible refine RunLN.chk ?_; refine RunLN.int (by (rfl)) ?_) | refine ZzA ?_ | refine RunL.ev Tryz.tOk rfl rfl rfl ?_)
 have gO : ∀ k, u.ownBlock = some k → k ≠ B2 := fun k hk e => by have := ownsRow_ge hO hk; omega
 refine RunL.storeW (vs := Dr.cells ⟨o, none, 0, some ⟨Bh100, 0, none⟩, 1⟩) Tryz.tOk rfl rfl rfl rfl rfl Z2 rfl rfl fun wf_ t_ => ?_
 replace X := X.own t_.ext gB2
 replace Z8 := Z8.other t_.ext n8_2
 replace Z12 := Z12.other t_.ext n12_2
 replace Z16 := Z16.other t_.ext n16_2
 have hk : LIn wf_ u [k5, k6] := isSl_own (ownsRow_ext hO t_.ext fun k hk e => gO k hk e)
 replace h97 := h97.ext t_.ext (fun k hk e => n97 ((Option.some.inj hk).trans e))
 replace h98 := h98.ext t_.ext (fun k hk e => n98 ((Option.some.inj hk).trans e))
 replace h99 := h99.ext t_.ext (fun k hk e => n99 ((Option.some.inj hk).trans e))
 replace h100 := h100.ext t_.ext (fun k hk e => n100 ((Option.some.inj hk).trans e))
 replace hg9 := hg9.ext t_.ext (fun k hk e => ng ((Option.some.inj hk).trans e))
 replace hy9 := hy9.ext t_.ext (fun k hk e => ny ((Option.some.inj hk).trans e))
 have Z2 : Blk wf_ B2 (Dr.cells ⟨o, none, 0, some ⟨Bh100, 0, none⟩, 1⟩) 38 := t_.at_
 have wA := wf_of wa sa (by decide) (by decide) (du := none) (cu := 0) IsSl.nil h97
 have wB := wf_of wb sb (by simp) (by simp) hg9 h98
 have wC := wf_of wc sc (by simp) (by simp) hy9 h99
 have wO := wf_of wo so (by decide) (by decide) (du := none) (cu := 0) IsSl.nil h100
 clear t_ hO gO h97 h98 h99 h100 hg9 hy9 n97 n98 n99 n100 ng ny sa sb sc so wa wb wc wo
 generalize hDA : (⟨a, none, 0, some ⟨Bh97, 0, none⟩, 1⟩ : Dr) = DA at Z8 wA
 generalize hDB : (⟨b, some ⟨Bg, 0, none⟩, 1, some ⟨Bh98, 0, none⟩, 1⟩ : Dr) = DB at Z12 wB
 generalize hDC : (⟨c, some ⟨By, 0, none⟩, 1, some ⟨Bh99, 0, none⟩, 1⟩ : Dr) = DC at Z16 wC
 generalize hDO : (⟨o, none, 0, some ⟨Bh100, 0, none⟩, 1⟩ : Dr) = DO at Z2 wO
 have eA : DA.d = a := by rw [← hDA]
 have eB : DB.d = b := by rw [← hDB]
 have eC : DC.d = c := by rw [← hDC]
 have eO : DO.d = o := by rw [← hDO]
 clear hDA hDB hDC hDO
 repeat' (first | (with_reducible refine RunLN.chk ?_; refine RunLN.int (by (rfl)) ?_) | refine RunL.ev Tryz.tOk rfl rfl rfl ?_ | refine ZzQ ?_ | refine ZzN ?_)
 refine RunE.draw (fun _ => False) mix ?_
 intro wd_ Xd_
 repeat' (first | refine AsyN.any ?_ | refine Asy.ev Tryz.tOk rfl rfl rfl ?_ | refine Asy.evV rfl rfl rfl rfl (fun _ X_ => OpV.loadN Tryz.tOk rfl rfl rfl rfl (Blk.row (Z8.up (Xd_.trans X_)))) ?_ | refine Asy.evV rfl rfl rfl rfl (fun _ X_ => OpV.loadN Tryz.tOk rfl rfl rfl rfl (Blk.row (Z12.up (Xd_.trans X_)))) ?_ | refine Asy.evV rfl rfl rfl rfl (fun _ X_ => OpV.loadN Tryz.tOk rfl rfl rfl rfl (Blk.row (Z16.up (Xd_.trans X_)))) ?_)
 refine Asy.sat0 (fun q w' => LDr w' q [DA, DB, DC]) rfl rfl rfl rfl (fun q w' w'' _ e h => h.up e) (fun w' e => ?_) ?_
 ·refine OpE.mono (OpE.buildL encR Tryz.tOk [DA, DB, DC] rfl rfl rfl rfl rfl rfl) ?_ fun _ _ h => h
  rintro _ w'' ⟨-, h1, h2⟩
  exact ⟨h2, h1⟩
 repeat' (first | with_reducible refine AsyN.boolT rfl ?_ | (with_reducible refine AsyN.chk ?_; refine AsyN.int (by (rfl)) ?_) | refine AsyN.any ?_ | refine Asy.ev Tryz.tOk rfl rfl rfl ?_ | refine Asy.evV rfl rfl rfl rfl (fun _ X_ => OpV.loadN Tryz.tOk rfl rfl rfl rfl (Blk.row (Z2.up (Xd_.trans X_)))) ?_)
 refine Asy.sat1P Tryz.tOk 0 (fun q w' => LDr w' q [DA, DB, DC]) rfl rfl rfl rfl rfl rfl (fun q w' w'' _ e h => h.up e) (fun w' q e hx => ⟨q, rfl, hx⟩) ?_
 refine Asy.keepN rfl rfl rfl (fun _ X_ => OpE.storeSame Tryz.tOk rfl rfl rfl rfl (Z2.up (Xd_.trans X_)) rfl rfl (setAt_whole rfl)) ?_
 refine Asy.tail (by kernel_rfl) ?_
 intro we_ Xe_
 simp only [satsAll]
 rintro q hq q2 -
 replace Xe_ := Xd_.trans Xe_
 replace Z2 := Z2.up Xe_
 repeat' (first | with_reducible refine ZzP rfl ?_ | refine RunL.ev Tryz.tOk rfl rfl rfl ?_ | refine ZzN ?_)
 exact RunE.retFn Tryz.func27 (.tmp rfl (.tmp rfl (.cell rfl (.agg Tryz.tOk rfl rfl rfl Z2.row) (.tmp rfl .nil)))) ⟨⟨_, _, DA, DB, DC, DO, rfl, hk.up Xe_, hq, ⟨eA, eB, eC, eO⟩, wA.up Xe_, wB.up Xe_, wC.up Xe_, wO.up Xe_⟩, X.trans Xe_⟩
theorem small_ok (w : World) (hS : Row w 0 0 (vals init8.l)) (hkT : Row w 1 0 (vals kTab)) : ∃ (ks : List Int) (a b c o : Deed) (g y : Dg), ExM ks a b c o g y ∧
  Rets Tryz.prog 27 [] w fun r w' => (∃ (kv lv : Value) (A B C O : Dr), r = .tuple #[kv, lv, .agg O.cells.toArray, .bool true] ∧ LIn w' kv ks ∧ LDr w' lv [A, B, C] ∧ (A.d = a ∧ B.d = b ∧ C.d = c ∧ O.d = o) ∧ WfX w' A ∧ WfX w' B ∧ WfX w' C ∧ WfX w' O) ∧ Ext w w' :=
 ⟨_, _, _, _, _, _, _, exM_ok, small_gen _ _ _ _ _ _ _ (powC 4 5) (powC 4 6) rfl exM_ok rfl rfl rfl (makeE_ok (by decide) aM_f) rfl (makeE_ok (by decide) (bM_f _)) rfl (makeE_ok (by decide) (cM_f _ _)) rfl (makeE_ok (by decide) (oM_f _)) w hS hkT⟩
end Go.Sg
end
section
/- Merge: for the laws: calls, by the parts' deeds. -/
set_option maxRecDepth 4000
namespace Go.Mer
open Go.Rn Go.Rec Go.Dee Go.RowKit Go.Sg Go.NT
/-- Parts, by their deeds. -/
def InP (w : World) (v : Value) (L : List (List Dr)) : Prop := ∃ ls : List Ll, LLl w v ls ∧ ls.map Ll.l = L ∧ ∀ x ∈ ls, LDr w x.v x.l
theorem InP.up {w w' : World} {v : Value} {L : List (List Dr)} (h : InP w v L) (e : Ext w w') : InP w' v L := by
 obtain ⟨ls, h1, h2, h3⟩ := h
 exact ⟨ls, h1.up e, h2, fun x hx => (h3 x hx).up e⟩
theorem InP.nil (w : World) : InP w nilV [] := ⟨[], IsSl.nil, rfl, fun x hx => by cases hx⟩
def chkP (ks : List Int) (L : List (List Dr)) : Int := if keysD ks then (if 64 < L.length ∨ 4096 < L.flatten.length then 2 else 0) else 1
theorem allD_flat (ls : List Ll) : allD ls = (ls.map Ll.l).flatten := by unfold allD; rw [List.flatMap_def]
theorem chkP_map (ks : List Int) (ls : List Ll) : chkM ks ls = chkP ks (ls.map Ll.l) := by
 unfold chkM chkP
 rw [List.length_map, ← allD_flat, allD_len]
theorem chkP_of {ks : List Int} {L : List (List Dr)} (hk : keysD ks = true) (h1 : L.length ≤ 64) (h2 : L.flatten.length ≤ 4096) : chkP ks L = 0 := by
 unfold chkP
 rw [hk, if_pos rfl, if_neg (by omega)]
theorem chkP_inv {ks : List Int} {L : List (List Dr)} (h : chkP ks L = 0) : keysD ks = true ∧ L.length ≤ 64 ∧ L.flatten.length ≤ 4096 := by
 unfold chkP at h
 split at h
 ·rename_i hk
  split at h
  ·cases h
  ·exact ⟨hk, by omega, by omega⟩
 ·cases h
theorem merge_len (ks : List Int) (l : List Deed) : (mergeD ks l).length ≤ l.length := by
 have h1 := (pass_sub ks (sortD (takenD (leftD ks l)))).length_le
 have h2 := (sortD_spec (taken_apart (left_lft ks l))).1.length_eq
 have h3 : (takenD (leftD ks l)).length ≤ (leftD ks l).length := List.length_filter_le _ _
 have h4 : (leftD ks l).length ≤ l.length := leftL_len id ks l
 unfold mergeD
 show (passL id ks (sortD (takenD (leftD ks l)))).length ≤ l.length
 omega
end Go.Mer
namespace Go.Sg
open Go.Rn Go.Proofs Go.Dee Go.Mer Go.Rec Go.RowKit Go.Sha Go.Cod Go.NT
theorem pMerge_ok {ks : List Int} {kv : Value} {L : List (List Dr)} {v : Value} {w : World} (h0 : chkP ks L = 0) (hki : KsI ks) (hkl : ks.length < 9223372036854775808) (hk : LIn w kv ks) (hv : InP w v L) (hd : ∀ x ∈ L.flatten, WfX w x) (hS : Row w 0 0 (vals init8.l)) (hkT : Row w 1 0 (vals kTab)) :
  Rets Tryz.prog 12 [kv, v] w fun r w' => (∃ u out, r = .tuple #[u, .int .i64 0] ∧ LDr w' u out ∧ out.map Dr.d = mergeD ks (L.flatten.map Dr.d) ∧ ∀ x ∈ out, x ∈ L.flatten) ∧ Ext w w' := by
 obtain ⟨ls, h1, rfl, h3⟩ := hv
 obtain ⟨-, hl, hn⟩ := chkP_inv h0
 rw [← chkP_map] at h0
 rw [List.length_map] at hl
 rw [← allD_flat] at hd hn ⊢
 rw [allD_len] at hn
 have h := mMerge_ok ks kv ls v w hk hkl hki h1 (by omega) h3 hd (by omega) hS hkT
 rw [h0] at h
 exact h.mono fun _ _ ⟨⟨u, out, a, b, c, d⟩, e⟩ => ⟨⟨u, out, a, b, by rw [c, if_pos rfl], d⟩, e⟩
theorem pLiars_ok {ks : List Int} {kv : Value} {L : List (List Dr)} {v : Value} {w : World} (h0 : chkP ks L = 0) (hki : KsI ks) (hkl : ks.length < 9223372036854775808) (hk : LIn w kv ks) (hv : InP w v L) (hd : ∀ x ∈ L.flatten, WfX w x) (hS : Row w 0 0 (vals init8.l)) (hkT : Row w 1 0 (vals kTab)) :
  Rets Tryz.prog 16 [kv, v] w fun r w' => (∃ u fs, r = .tuple #[u, .int .i64 0] ∧ LFr w' u fs ∧ fs.map pairD = liarsL id (leftD ks (L.flatten.map Dr.d)) ∧ ∀ x ∈ fs, x.a ∈ L.flatten ∧ x.b ∈ L.flatten) ∧ Ext w w' := by
 obtain ⟨ls, h1, rfl, h3⟩ := hv
 obtain ⟨-, hl, hn⟩ := chkP_inv h0
 rw [← chkP_map] at h0
 rw [List.length_map] at hl
 rw [← allD_flat] at hd hn ⊢
 rw [allD_len] at hn
 have h := mLiars_ok ks kv ls v w hk hkl hki h1 (by omega) h3 hd (by omega) hS hkT
 rw [h0] at h
 exact h.mono fun _ _ ⟨⟨u, fs, a, b, c, d⟩, e⟩ => ⟨⟨u, fs, a, b, by rw [c, if_pos rfl], d⟩, e⟩
theorem rSame_true (a b : List Dr) (u v : Value) (w : World) (ha : LDr w u a) (hb : LDr w v b) (he : a.map Dr.d = b.map Dr.d) (hl : a.length < 9223372036854775808) (hda : ∀ x ∈ a, WfX w x) (hdb : ∀ x ∈ b, WfX w x) :
  Rets Tryz.prog 14 [u, v] w fun r w' => r = .bool true ∧ Ext w w' := by
 have hlen : a.length = b.length := by have := congrArg List.length he; simpa using this
 have h := rSame_ok a b u v w ha hb hl (by omega) hda hdb
 rwa [sameL_iff.2 he] at h
theorem lenM {out : List Dr} {l : List Deed} (h : out.map Dr.d = l) : out.length = l.length := by have := congrArg List.length h; simpa using this
theorem lenF {out : List Fr} {l : List (Deed × Deed)} (h : out.map pairD = l) : out.length = l.length := by have := congrArg List.length h; simpa using this
theorem zeroR_wf (w : World) : WfX w zeroR := ⟨⟨⟨by decide, by decide⟩, ⟨by decide, by decide⟩, ⟨by decide, by decide⟩, ⟨by decide, by decide⟩, ⟨by decide, by decide⟩⟩, by decide, by decide, zeroR_held w⟩
theorem chkM_nil : chkP [] [] = 0 := rfl
theorem merge_nil : mergeD [] (([] : List (List Dr)).flatten.map Dr.d) = [] := rfl
theorem liars_nil : liarsL id (leftD [] (([] : List (List Dr)).flatten.map Dr.d)) = [] := by
 unfold liarsL
 exact liars_none (fun p => apart_fork (l := leftD [] []) List.Pairwise.nil _) _
end Go.Sg
end
section
/- Merge: sane. -/
set_option maxRecDepth 4000
namespace Go.Sg
open Go.Rn Go.Proofs Go.Dee Go.Mer Go.Rec Go.RowKit Go.Sha Go.Cod Go.NT
attribute [local irreducible] powC makeE makeD idD idG idE fineD stepD chkE mergeD liarsL leftL chkP provesB WfX Go.Rn.RetsX Go.Rn.RunLN Go.Rn.AsyN Go.Rn.RunL Go.Rn.RunE Go.Rn.Asy Go.Rn.OpV Go.Rn.OpE Go.Rn.ExecE
/-- A result of Merge or Liars. -/
def MerOut (w : World) (l : List Deed) (u : Value) : Prop := ∃ out : List Dr, LDr w u out ∧ out.map Dr.d = l ∧ ∀ x ∈ out, WfX w x
theorem MerOut.up {w w' : World} {l : List Deed} {u : Value} (h : MerOut w l u) (e : Ext w w') : MerOut w' l u := by
 obtain ⟨out, h1, h2, h3⟩ := h
 exact ⟨out, h1.up e, h2, fun x hx => (h3 x hx).up e⟩
/-- Lists of parts, made. -/
theorem inP_one {w : World} {l : List Dr} {d : Option Addr} {n c : Nat} {v : Value} (h : IsSl w 1 v 1 [.slice d n c]) (h1 : LDr w (.slice d n c) l) : InP w v [l] := by
 have e : Value.slice d n c = .slice d l.length c := by
  obtain ⟨d', c', h'⟩ := isSl_slice h1
  cases h'; rfl
 rw [e] at h h1
 exact ⟨[⟨l, d, c⟩], h, rfl, fun x hx => by
  rw [List.mem_singleton] at hx; subst hx; exact h1⟩
theorem inP_two {w : World} {l l' : List Dr} {d d' : Option Addr} {n c n' c' : Nat} {v : Value} (h : IsSl w 1 v 2 [.slice d n c, .slice d' n' c']) (h1 : LDr w (.slice d n c) l) (h2 : LDr w (.slice d' n' c') l') : InP w v [l, l'] := by
 have e : Value.slice d n c = .slice d l.length c := by
  obtain ⟨d', c', h'⟩ := isSl_slice h1
  cases h'; rfl
 have e' : Value.slice d' n' c' = .slice d' l'.length c' := by
  obtain ⟨d', c', h'⟩ := isSl_slice h2
  cases h'; rfl
 rw [e] at h h1
 rw [e'] at h h2
 exact ⟨[⟨l, d, c⟩, ⟨l', d', c'⟩], h, rfl, fun x hx => by
  simp only [List.mem_cons, List.not_mem_nil, or_false] at hx
  rcases hx with rfl | rfl
  ·exact h1
  ·exact h2⟩
theorem build_fork0 {env : Env} : evalOp Tryz.T env (.build 40 #[]) = some (.agg (Fr.cells ⟨zeroR, zeroR⟩).toArray) := build_st rfl rfl (by kernel_rfl)
set_option maxRecDepth 8000 in
set_option maxHeartbeats 16000000 in
theorem lsane_ok (w : World) (hS : Row w 0 0 (vals init8.l)) (hkT : Row w 1 0 (vals kTab)) : Rets Tryz.prog 10 [] w fun r w' => r = .bool true ∧ Ext w w' := by
 obtain ⟨ks, a, b, c, o, g, y, E, cS⟩ := small_ok w hS hkT
 have hki := E.ki
 have hkl : ks.length < 9223372036854775808 := by have := E.kl; omega
 have eall := E.all
 have esome := E.some
 have eboth := E.both
 have eliars := E.liars
 have epr := E.pr
 have esm := E.sm
 have hkd := E.keys
 clear E
 refine RetsX.of (nt := 192) Tryz.func10 (by kernel_rfl) rfl rfl (by simp) (by simp only [argEnv]; rfl) ?_
 repeat' (first | with_reducible refine ZzG rfl ?_ | refine RunL.ev Tryz.tOk rfl rfl rfl ?_ | refine ZzQ ?_ | refine ZzR ?_ | refine ZzN ?_)
 refine RunL.call rfl rfl rfl cS ?_
 rintro _ w1 ⟨⟨kv, lv, A, B, C, O, rfl, hk, hl, ⟨eA, eB, eC, eO⟩, wA, wB, wC, wO⟩, X⟩
 clear cS
 subst eA
 subst eB
 subst eC
 subst eO
 repeat' (first | with_reducible refine ZzP rfl ?_ | refine ZzA ?_ | refine RunL.ev Tryz.tOk rfl rfl rfl ?_)
 refine RunL.alloc Tryz.tOk rfl rfl rfl fun B3 wa_ aa_ => ?_
 repeat' (first | refine ZzA ?_ | refine RunL.ev Tryz.tOk rfl rfl rfl ?_)
 refine RunL.storeW (vs := O.cells) Tryz.tOk rfl rfl rfl rfl rfl aa_.at_ rfl rfl fun w3_ tb_ => ?_
 have Xa_ : Ext _ w3_ := aa_.ext.write tb_.ext (by intro i_ hi_ hlt_; have := aa_.eq; omega)
 have Z3 : Blk w3_ B3 O.cells 38 := tb_.at_
 replace hk := hk.up Xa_
 replace hl := hl.up Xa_
 replace wA := wA.up Xa_
 replace wB := wB.up Xa_
 replace wC := wC.up Xa_
 replace wO := wO.up Xa_
 replace X := X.trans Xa_
 clear Xa_ aa_ tb_
 obtain ⟨b1, o1, cc, hlv, hr, hcap⟩ := isL_held hl (show 0 < [A, B, C].length by simp)
 replace hlv : lv = .slice (some ⟨b1, o1, none⟩) 3 cc := hlv
 subst hlv
 replace hcap : 3 ≤ cc := hcap
 repeat' (first | with_reducible refine ZzP rfl ?_ | with_reducible refine ZzG rfl ?_ | refine RunL.ev Tryz.tOk rfl rfl rfl ?_ | refine ZzF rfl rfl ?_ | refine ZzQ ?_ | refine ZzR ?_ | refine ZzN ?_ | refine ZzK ?_)
 refine RunL.call rfl rfl rfl (pMerge_ok chkM_nil (fun k hk => by cases hk) (by decide) IsSl.nil (InP.nil _) (fun x hx => by cases hx) (hS.up X) (hkT.up X)) ?_
 rintro _ w4 ⟨⟨u5, out5, rfl, h5, e5, -⟩, Xa_⟩
 obtain rfl : out5 = [] := List.map_eq_nil_iff.1 (e5.trans merge_nil)
 replace h5 : IsSl w4 39 u5 0 [] := h5
 clear e5
 replace hk := hk.up Xa_
 replace hl := hl.up Xa_
 replace hr := hr.up Xa_
 replace wA := wA.up Xa_
 replace wB := wB.up Xa_
 replace wC := wC.up Xa_
 replace wO := wO.up Xa_
 replace Z3 := Z3.up Xa_
 replace X := X.trans Xa_
 clear Xa_
 repeat' (first | (with_reducible refine RunLN.chk ?_; refine RunLN.int (by (rfl)) ?_) | refine ZzA ?_ | refine RunL.ev Tryz.tOk rfl rfl rfl ?_ | refine ZzQ ?_ | refine ZzR ?_ | refine ZzN ?_)
 refine RunL.ex rfl rfl rfl (OpE.buildSl Tryz.tOk [.int .i64 2] rfl rfl rfl rfl rfl rfl (by simp [Value.cells])) ?_
 rintro _ w_ ⟨B_, rfl, a_⟩
 have h2 : LIn w_ (.slice (some ⟨B_, 0, none⟩) 1 1) [2] := (isSl_added (n := 1) (sz := 1) a_ rfl)
 replace hk := hk.up a_.ext
 replace hl := hl.up a_.ext
 replace hr := hr.up a_.ext
 replace wA := wA.up a_.ext
 replace wB := wB.up a_.ext
 replace wC := wC.up a_.ext
 replace wO := wO.up a_.ext
 replace Z3 := Z3.up a_.ext
 replace X := X.trans a_.ext
 clear a_
 have hk2 : KsI [2] := fun k hk => by simp at hk; omega
 have e2 : chkM [2] [] = 1 := by
  have hkd2 : keysD [2] = false := by unfold keysD; rw [List.all_cons, v2n]; rfl
  unfold chkM; rw [hkd2]; rfl
 have c2 := fun kv w h h1 h2 => mMerge_ok [2] kv [] nilV w h (by simp) hk2 IsSl.nil (by simp) (fun x hx => by cases hx) (fun x hx => by cases hx) (by decide) h1 h2
 rw [e2] at c2
 clear e2 hk2
 skip
 refine RunL.call rfl rfl rfl (c2 _ _ h2 (hS.up X) (hkT.up X)) ?_
 rintro _ w5 ⟨⟨u7, out7, rfl, -, -, -⟩, Xa_⟩
 clear c2 h2
 replace hk := hk.up Xa_
 replace hl := hl.up Xa_
 replace hr := hr.up Xa_
 replace wA := wA.up Xa_
 replace wB := wB.up Xa_
 replace wC := wC.up Xa_
 replace wO := wO.up Xa_
 replace Z3 := Z3.up Xa_
 replace X := X.trans Xa_
 clear Xa_
 repeat' (first | (with_reducible refine RunLN.chk ?_; refine RunLN.int (by (rfl)) ?_) | refine ZzA ?_ | refine RunL.ev Tryz.tOk rfl rfl rfl ?_ | refine ZzQ ?_ | refine ZzR ?_ | refine ZzN ?_)
 refine RunL.call rfl rfl rfl (pLiars_ok chkM_nil (fun k hk => by cases hk) (by decide) IsSl.nil (InP.nil _) (fun x hx => by cases hx) (hS.up X) (hkT.up X)) ?_
 rintro _ w6 ⟨⟨u9, fs9, rfl, h9, e9, -⟩, Xa_⟩
 obtain rfl : fs9 = [] := List.map_eq_nil_iff.1 (e9.trans liars_nil)
 replace h9 : IsSl w6 78 u9 0 [] := h9
 clear e9
 replace hk := hk.up Xa_
 replace hl := hl.up Xa_
 replace hr := hr.up Xa_
 replace wA := wA.up Xa_
 replace wB := wB.up Xa_
 replace wC := wC.up Xa_
 replace wO := wO.up Xa_
 replace Z3 := Z3.up Xa_
 replace X := X.trans Xa_
 clear Xa_
 have c0 := fun w h1 h2 => mProves_ok [] nilV ⟨zeroR, zeroR⟩ w IsSl.nil (by decide) (fun k hk => by cases hk) (zeroR_wf w) (zeroR_wf w) h1 h2
 have e0 : provesB [] zeroR.d zeroR.d = false := proves_none
 have e0' : provesE [] = 0 := rfl
 simp only [e0, e0'] at c0
 clear e0 e0'
 repeat' (first | (with_reducible refine RunLN.chk ?_; refine RunLN.int (by (rfl)) ?_) | refine ZzA ?_ | refine RunL.ev Tryz.tOk rfl rfl (build_fork0) ?_ | refine RunL.ev Tryz.tOk rfl rfl rfl ?_ | refine ZzQ ?_ | refine ZzR ?_ | refine ZzN ?_)
 refine RunL.call rfl rfl rfl (c0 _ (hS.up X) (hkT.up X)) ?_
 rintro _ w7 ⟨rfl, Xa_⟩
 clear c0
 replace hk := hk.up Xa_
 replace hl := hl.up Xa_
 replace hr := hr.up Xa_
 replace wA := wA.up Xa_
 replace wB := wB.up Xa_
 replace wC := wC.up Xa_
 replace wO := wO.up Xa_
 replace Z3 := Z3.up Xa_
 replace X := X.trans Xa_
 clear Xa_
 repeat' (first | with_reducible refine ZzG rfl ?_ | (with_reducible refine RunLN.chk ?_; refine RunLN.int (by (rfl)) ?_) | refine ZzA ?_ | refine RunL.ev Tryz.tOk rfl rfl rfl ?_ | refine ZzQ ?_ | refine ZzN ?_)
 have k1 : chkP ks [[B], [C, A]] = 0 := chkP_of hkd (by simp) (by simp)
 have k2 : chkP ks [[B, C]] = 0 := chkP_of hkd (by simp) (by simp)
 have k3 : chkP ks [[A, B, C], [O]] = 0 := chkP_of hkd (by simp) (by simp)
 have hrA := flat_row encR hr (show [A, B, C][0]? = some A from rfl)
 have hrB := flat_row encR hr (show [A, B, C][1]? = some B from rfl)
 have hrC := flat_row encR hr (show [A, B, C][2]? = some C from rfl)
 refine RunE.draw (fun _ => False) mix ?_
 intro wd_ Xd_
 repeat' (first | refine AsyN.any ?_ | refine Asy.ev Tryz.tOk rfl rfl rfl ?_ | refine Asy.evV rfl rfl rfl rfl (fun _ X_ => OpV.indexS Tryz.tOk 1 rfl rfl rfl (by first | rfl | omega) (by omega)) ?_ | refine Asy.evV rfl rfl rfl rfl (fun _ X_ => OpV.loadN Tryz.tOk rfl rfl rfl rfl (hrB.up (Xd_.trans X_))) ?_)
 refine Asy.sat0 (fun q w' => ∃ B', q = .slice (some ⟨B', 0, none⟩) 1 1 ∧ LDr w' q [B]) rfl rfl rfl rfl (fun q w' w'' _ e h => by obtain ⟨B', h1, h2⟩ := h; exact ⟨B', h1, h2.up e⟩) (fun w' e => ?_) ?_
 ·refine OpE.mono (OpE.buildL encR Tryz.tOk [B] rfl rfl rfl rfl rfl rfl) ?_ fun _ _ h => h
  rintro _ w'' ⟨⟨B', rfl⟩, h1, h2⟩
  exact ⟨h2, B', rfl, h1⟩
 repeat' (first | refine AsyN.any ?_ | refine Asy.ev Tryz.tOk rfl rfl rfl ?_ | refine Asy.evV rfl rfl rfl rfl (fun _ X_ => OpV.indexS Tryz.tOk 0 rfl rfl rfl (by first | rfl | omega) (by omega)) ?_ | refine Asy.evV rfl rfl rfl rfl (fun _ X_ => OpV.indexS Tryz.tOk 2 rfl rfl rfl (by first | rfl | omega) (by omega)) ?_ | refine Asy.evV rfl rfl rfl rfl (fun _ X_ => OpV.loadN Tryz.tOk rfl rfl rfl rfl (hrA.up (Xd_.trans X_))) ?_ | refine Asy.evV rfl rfl rfl rfl (fun _ X_ => OpV.loadN Tryz.tOk rfl rfl rfl rfl (hrC.up (Xd_.trans X_))) ?_)
 refine Asy.sat0 (fun q w' => ∃ B', q = .slice (some ⟨B', 0, none⟩) 2 2 ∧ LDr w' q [C, A]) rfl rfl rfl rfl (fun q w' w'' _ e h => by obtain ⟨B', h1, h2⟩ := h; exact ⟨B', h1, h2.up e⟩) (fun w' e => ?_) ?_
 ·refine OpE.mono (OpE.buildL encR Tryz.tOk [C, A] rfl rfl rfl rfl rfl rfl) ?_ fun _ _ h => h
  rintro _ w'' ⟨⟨B', rfl⟩, h1, h2⟩
  exact ⟨h2, B', rfl, h1⟩
 refine Asy.sat2 1 0 (fun q w' => InP w' q [[B], [C, A]]) rfl rfl rfl rfl rfl rfl rfl rfl (fun q w' w'' _ e h => h.up e) (fun w' x y e hx hy => ?_) ?_
 ·obtain ⟨B1, rfl, h1⟩ := hx
  obtain ⟨B2', rfl, h2⟩ := hy
  refine OpE.mono (OpE.buildSl Tryz.tOk [.slice (some ⟨B1, 0, none⟩) 1 1, .slice (some ⟨B2', 0, none⟩) 2 2] rfl rfl rfl rfl rfl rfl (by simp [Value.cells])) ?_ fun _ _ h => h
  rintro _ w'' ⟨B9, rfl, a9⟩
  exact ⟨a9.ext, inP_two (isSl_added (n := 2) (sz := 1) a9 rfl) (h1.up a9.ext) (h2.up a9.ext)⟩
 refine Asy.sat1 0 (fun r w' => ∃ u, r = .tuple #[u, .int .i64 0] ∧ MerOut w' [A.d, B.d, C.d] u) rfl rfl rfl rfl rfl rfl (fun q w' w'' _ e h => by obtain ⟨u, h1, h2⟩ := h; exact ⟨u, h1, h2.up e⟩) (fun w' x e hx => ?_) ?_
 ·have hX := Xd_.trans e
  refine OpE.mono (OpE.call rfl (pMerge_ok k1 hki hkl (hk.up hX) hx (fun z hz => ?_) (hS.up (X.trans hX)) (hkT.up (X.trans hX)))) ?_ fun _ _ h => h
  ·replace hz : z ∈ [B, C, A] := hz
   simp only [List.mem_cons, List.not_mem_nil, or_false] at hz
   rcases hz with rfl | rfl | rfl
   ·exact wB.up hX
   ·exact wC.up hX
   ·exact wA.up hX
  ·rintro _ w'' ⟨⟨u, out, rfl, h1, h2, h3⟩, h4⟩
   refine ⟨h4, u, rfl, out, h1, h2.trans eall, fun z hz => ?_⟩
   have hz : z ∈ [B, C, A] := h3 z hz
   simp only [List.mem_cons, List.not_mem_nil, or_false] at hz
   rcases hz with rfl | rfl | rfl
   ·exact wB.up (hX.trans h4)
   ·exact wC.up (hX.trans h4)
   ·exact wA.up (hX.trans h4)
 refine Asy.sat1P Tryz.tOk 0 (fun r w' => ∃ u, r = .tuple #[u, .int .i64 0] ∧ MerOut w' [A.d, B.d, C.d] u) rfl rfl rfl rfl rfl rfl (fun q w' w'' _ e h => by obtain ⟨u, h1, h2⟩ := h; exact ⟨u, h1, h2.up e⟩) (fun w' q e hx => ⟨q, rfl, hx⟩) ?_
 refine Asy.sat1P Tryz.tOk 0 (fun u w' => MerOut w' [A.d, B.d, C.d] u) rfl rfl rfl rfl rfl rfl (fun q w' w'' _ e h => h.up e) (fun w' q e hx => by obtain ⟨u, rfl, h⟩ := hx; exact ⟨u, rfl, h⟩) ?_
 refine Asy.val1P Tryz.tOk 1 (v := .int .i64 0) rfl rfl rfl rfl rfl rfl (fun w' q e hx => by obtain ⟨u, rfl, h⟩ := hx; rfl) ?_
 refine Asy.sat1P Tryz.tOk 0 (fun u w' => MerOut w' [A.d, B.d, C.d] u) rfl rfl rfl rfl rfl rfl (fun q w' w'' _ e h => h.up e) (fun w' q e hx => ⟨q, rfl, hx⟩) ?_
 refine Asy.tail (by kernel_rfl) ?_
 intro we_ Xe_
 simp only [satsAll]
 rintro u13 h13 _ - _ - _ - _ - _ - _ -
 have Xa_ := Xd_.trans Xe_
 clear Xd_ Xe_ hrA hrB hrC k1 eall
 replace hk := hk.up Xa_
 replace hl := hl.up Xa_
 replace hr := hr.up Xa_
 replace wA := wA.up Xa_
 replace wB := wB.up Xa_
 replace wC := wC.up Xa_
 replace wO := wO.up Xa_
 replace Z3 := Z3.up Xa_
 replace X := X.trans Xa_
 clear Xa_
 repeat' (first | (with_reducible refine RunLN.chk ?_; refine RunLN.int (by (rfl)) ?_) | refine ZzA ?_ | refine RunL.ev Tryz.tOk rfl rfl rfl ?_ | refine RunL.evV rfl rfl rfl ((OpV.slice1' Tryz.tOk 1 rfl rfl (.some rfl rfl) (by omega) (by omega) (by omega))) ?_ | refine ZzQ ?_ | refine ZzR ?_ | refine ZzN ?_)
 have hs1 : LDr we_ (.slice (some ⟨b1, o1 + 1 * 39, none⟩) (3 - 1) (cc - 1)) [B, C] := .row (by have := hr.drop (1 * 39); rwa [flat_drop encR] at this) (by rw [flat_length encR]; rfl) (by omega)
 refine RunL.ex rfl rfl rfl (OpE.buildSl Tryz.tOk [.slice (some ⟨b1, o1 + 1 * 39, none⟩) (3 - 1) (cc - 1)] rfl rfl rfl rfl rfl rfl (by simp [Value.cells])) ?_
 rintro _ wg ⟨Bg, rfl, ag⟩
 have hp := inP_one (isSl_added (n := 1) (sz := 1) ag rfl) (hs1.up ag.ext)
 have Xa_ := ag.ext
 clear ag hs1
 replace h13 := h13.up Xa_
 replace hk := hk.up Xa_
 replace hl := hl.up Xa_
 replace hr := hr.up Xa_
 replace wA := wA.up Xa_
 replace wB := wB.up Xa_
 replace wC := wC.up Xa_
 replace wO := wO.up Xa_
 replace Z3 := Z3.up Xa_
 replace X := X.trans Xa_
 clear Xa_
 skip
 refine RunL.call rfl rfl rfl (pMerge_ok k2 hki hkl hk hp (fun z hz => ?_) (hS.up X) (hkT.up X)) ?_
 ·replace hz : z ∈ [B, C] := hz
  simp only [List.mem_cons, List.not_mem_nil, or_false] at hz
  rcases hz with rfl | rfl
  ·exact wB
  ·exact wC
 rintro _ w9 ⟨⟨u15, out15, rfl, h15, e15, -⟩, Xa_⟩
 obtain rfl : out15 = [] := List.map_eq_nil_iff.1 (e15.trans esome)
 replace h15 : IsSl w9 39 u15 0 [] := h15
 clear e15 hp k2 esome
 replace h13 := h13.up Xa_
 replace hk := hk.up Xa_
 replace hl := hl.up Xa_
 replace hr := hr.up Xa_
 replace wA := wA.up Xa_
 replace wB := wB.up Xa_
 replace wC := wC.up Xa_
 replace wO := wO.up Xa_
 replace Z3 := Z3.up Xa_
 replace X := X.trans Xa_
 clear Xa_
 repeat' (first | (with_reducible refine RunLN.chk ?_; refine RunLN.int (by (rfl)) ?_) | refine ZzA ?_ | refine RunL.ev Tryz.tOk rfl rfl rfl ?_ | refine RunL.evV rfl rfl rfl (OpV.loadN Tryz.tOk rfl rfl rfl rfl (Blk.row Z3)) ?_ | refine ZzQ ?_ | refine ZzR ?_ | refine ZzN ?_)
 refine RunL.ex rfl rfl rfl (OpE.buildL encR Tryz.tOk [O] rfl rfl rfl rfl rfl rfl) ?_
 rintro _ wh ⟨⟨Bh, rfl⟩, hO1, Xa_⟩
 replace h13 := h13.up Xa_
 replace hk := hk.up Xa_
 replace hl := hl.up Xa_
 replace hr := hr.up Xa_
 replace wA := wA.up Xa_
 replace wB := wB.up Xa_
 replace wC := wC.up Xa_
 replace wO := wO.up Xa_
 replace Z3 := Z3.up Xa_
 replace X := X.trans Xa_
 clear Xa_
 skip
 refine RunL.ex rfl rfl rfl (OpE.buildSl Tryz.tOk [.slice (some ⟨b1, o1, none⟩) 3 cc, .slice (some ⟨Bh, 0, none⟩) 1 1] rfl rfl rfl rfl rfl rfl (by simp [Value.cells])) ?_
 rintro _ wg ⟨Bg, rfl, ag⟩
 have hp := inP_two (isSl_added (n := 2) (sz := 1) ag rfl) (hl.up ag.ext) (hO1.up ag.ext)
 have Xa_ := ag.ext
 clear ag hO1
 replace h13 := h13.up Xa_
 replace hk := hk.up Xa_
 replace hl := hl.up Xa_
 replace hr := hr.up Xa_
 replace wA := wA.up Xa_
 replace wB := wB.up Xa_
 replace wC := wC.up Xa_
 replace wO := wO.up Xa_
 replace Z3 := Z3.up Xa_
 replace X := X.trans Xa_
 clear Xa_
 skip
 refine RunL.call rfl rfl rfl (pMerge_ok k3 hki hkl hk hp (fun z hz => ?_) (hS.up X) (hkT.up X)) ?_
 ·replace hz : z ∈ [A, B, C, O] := hz
  simp only [List.mem_cons, List.not_mem_nil, or_false] at hz
  rcases hz with rfl | rfl | rfl | rfl
  ·exact wA
  ·exact wB
  ·exact wC
  ·exact wO
 rintro _ w10 ⟨⟨u17, out17, rfl, h17', e17, m17⟩, Xa_⟩
 have h17 : MerOut w10 [A.d, B.d] u17 := ⟨out17, h17', e17.trans eboth, fun z hz => by
  have hz : z ∈ [A, B, C, O] := m17 z hz
  simp only [List.mem_cons, List.not_mem_nil, or_false] at hz
  rcases hz with rfl | rfl | rfl | rfl
  ·exact wA.up Xa_
  ·exact wB.up Xa_
  ·exact wC.up Xa_
  ·exact wO.up Xa_⟩
 clear h17' e17 m17 eboth hp
 replace h13 := h13.up Xa_
 replace hk := hk.up Xa_
 replace hl := hl.up Xa_
 replace hr := hr.up Xa_
 replace wA := wA.up Xa_
 replace wB := wB.up Xa_
 replace wC := wC.up Xa_
 replace wO := wO.up Xa_
 replace Z3 := Z3.up Xa_
 replace X := X.trans Xa_
 clear Xa_
 repeat' (first | (with_reducible refine RunLN.chk ?_; refine RunLN.int (by (rfl)) ?_) | refine ZzA ?_ | refine RunL.ev Tryz.tOk rfl rfl rfl ?_ | refine RunL.evV rfl rfl rfl (OpV.loadN Tryz.tOk rfl rfl rfl rfl (Blk.row Z3)) ?_ | refine ZzQ ?_ | refine ZzR ?_ | refine ZzN ?_)
 refine RunL.ex rfl rfl rfl (OpE.buildL encR Tryz.tOk [O] rfl rfl rfl rfl rfl rfl) ?_
 rintro _ wh ⟨⟨Bh, rfl⟩, hO1, Xa_⟩
 replace h13 := h13.up Xa_
 replace h17 := h17.up Xa_
 replace hk := hk.up Xa_
 replace hl := hl.up Xa_
 replace hr := hr.up Xa_
 replace wA := wA.up Xa_
 replace wB := wB.up Xa_
 replace wC := wC.up Xa_
 replace wO := wO.up Xa_
 replace Z3 := Z3.up Xa_
 replace X := X.trans Xa_
 clear Xa_
 skip
 refine RunL.ex rfl rfl rfl (OpE.buildSl Tryz.tOk [.slice (some ⟨b1, o1, none⟩) 3 cc, .slice (some ⟨Bh, 0, none⟩) 1 1] rfl rfl rfl rfl rfl rfl (by simp [Value.cells])) ?_
 rintro _ wg ⟨Bg, rfl, ag⟩
 have hp := inP_two (isSl_added (n := 2) (sz := 1) ag rfl) (hl.up ag.ext) (hO1.up ag.ext)
 have Xa_ := ag.ext
 clear ag hO1
 replace h13 := h13.up Xa_
 replace h17 := h17.up Xa_
 replace hk := hk.up Xa_
 replace hl := hl.up Xa_
 replace hr := hr.up Xa_
 replace wA := wA.up Xa_
 replace wB := wB.up Xa_
 replace wC := wC.up Xa_
 replace wO := wO.up Xa_
 replace Z3 := Z3.up Xa_
 replace X := X.trans Xa_
 clear Xa_
 skip
 refine RunL.call rfl rfl rfl (pLiars_ok k3 hki hkl hk hp (fun z hz => ?_) (hS.up X) (hkT.up X)) ?_
 ·replace hz : z ∈ [A, B, C, O] := hz
  simp only [List.mem_cons, List.not_mem_nil, or_false] at hz
  rcases hz with rfl | rfl | rfl | rfl
  ·exact wA
  ·exact wB
  ·exact wC
  ·exact wO
 rintro _ w11 ⟨⟨u19, fs19, rfl, h19, e19, m19⟩, Xa_⟩
 replace e19 : fs19.map pairD = [(C.d, O.d)] := e19.trans eliars
 have w19 : ∀ x ∈ fs19, WfX w11 x.a ∧ WfX w11 x.b := fun x hx => by
  have hz : ∀ z ∈ [A, B, C, O], WfX w11 z := fun z hz => by
   simp only [List.mem_cons, List.not_mem_nil, or_false] at hz
   rcases hz with rfl | rfl | rfl | rfl
   ·exact wA.up Xa_
   ·exact wB.up Xa_
   ·exact wC.up Xa_
   ·exact wO.up Xa_
  exact ⟨hz _ (m19 x hx).1, hz _ (m19 x hx).2⟩
 clear m19 eliars hp k3
 replace h13 := h13.up Xa_
 replace h17 := h17.up Xa_
 replace hk := hk.up Xa_
 replace hl := hl.up Xa_
 replace hr := hr.up Xa_
 replace wA := wA.up Xa_
 replace wB := wB.up Xa_
 replace wC := wC.up Xa_
 replace wO := wO.up Xa_
 replace Z3 := Z3.up Xa_
 replace X := X.trans Xa_
 clear Xa_
 have ep0 : provesE ks = 0 := by unfold provesE; rw [hkd]; rfl
 have cP := fun w' (e : Ext w11 w') => mProves_ok ks kv ⟨C, O⟩ w' (hk.up e) hkl hki (wC.up e) (wO.up e) (hS.up (X.trans e)) (hkT.up (X.trans e))
 simp only [epr, ep0] at cP
 have X11 := X
 replace X := ExtB.refl (fun _ => False) w11
 have hrC := flat_row encR hr (show [A, B, C][2]? = some C from rfl)
 repeat' (first | (with_reducible refine RunLN.chk ?_; refine RunLN.int (by (rfl)) ?_) | refine ZzA ?_ | refine RunL.ev Tryz.tOk rfl rfl rfl ?_ | refine ZzQ ?_ | refine ZzN ?_)
 refine RunE.draw (fun _ => False) mix ?_
 intro wd_ Xd_
 repeat' (first | with_reducible refine AsyN.boolT rfl ?_ | (with_reducible refine AsyN.chk ?_; refine AsyN.int (by (rfl)) ?_) | refine AsyN.any ?_ | refine Asy.ev Tryz.tOk rfl rfl ((build_fork C O rfl rfl)) ?_ | refine Asy.ev Tryz.tOk rfl rfl rfl ?_ | refine Asy.evV rfl rfl rfl rfl (fun _ X_ => OpV.indexS Tryz.tOk 2 rfl rfl rfl (by first | rfl | omega) (by omega)) ?_ | refine Asy.evV rfl rfl rfl rfl (fun _ X_ => OpV.loadN Tryz.tOk rfl rfl rfl rfl (hrC.up (Xd_.trans X_))) ?_ | refine Asy.evV rfl rfl rfl rfl (fun _ X_ => OpV.loadN Tryz.tOk rfl rfl rfl rfl (Blk.row (Z3.up (Xd_.trans X_)))) ?_ | refine Asy.callN rfl rfl rfl (fun _ X_ => (cP _ (X.trans (Xd_.trans X_)))) ?_)
 refine Asy.end_ (by kernel_rfl) ?_
 intro we_ Xe_
 have Xa_ := Xd_.trans Xe_
 clear Xd_ Xe_ cP epr
 replace h13 := h13.up Xa_
 replace h17 := h17.up Xa_
 replace h19 := h19.up Xa_
 replace w19 := fun x hx => And.intro ((w19 x hx).1.up Xa_) ((w19 x hx).2.up Xa_)
 replace X11 := X11.trans Xa_
 replace hk := hk.up Xa_
 replace hl := hl.up Xa_
 replace hr := hr.up Xa_
 replace wA := wA.up Xa_
 replace wB := wB.up Xa_
 replace wC := wC.up Xa_
 replace wO := wO.up Xa_
 replace Z3 := Z3.up Xa_
 replace X := X.trans Xa_
 clear Xa_
 have cP := mProves_ok ks kv ⟨O, O⟩ we_ hk hkl hki wO wO (hS.up X11) (hkT.up X11)
 simp only [esm, ep0] at cP
 replace X := ExtB.refl (fun _ => False) we_
 clear hrC
 repeat' (first | refine ZzA ?_ | refine RunL.ev Tryz.tOk rfl rfl ((build_fork O O rfl rfl)) ?_ | refine RunL.ev Tryz.tOk rfl rfl rfl ?_ | refine RunL.evV rfl rfl rfl (OpV.loadN Tryz.tOk rfl rfl rfl rfl (Blk.row Z3)) ?_ | refine ZzQ ?_ | refine ZzR ?_ | refine ZzN ?_)
 refine RunL.call rfl rfl rfl cP ?_
 rintro _ w12 ⟨rfl, Xa_⟩
 clear cP esm
 replace h13 := h13.up Xa_
 replace h17 := h17.up Xa_
 replace h19 := h19.up Xa_
 replace w19 := fun x hx => And.intro ((w19 x hx).1.up Xa_) ((w19 x hx).2.up Xa_)
 replace X11 := X11.trans Xa_
 replace hk := hk.up Xa_
 replace hl := hl.up Xa_
 replace hr := hr.up Xa_
 replace wA := wA.up Xa_
 replace wB := wB.up Xa_
 replace wC := wC.up Xa_
 replace wO := wO.up Xa_
 replace Z3 := Z3.up Xa_
 replace X := X.trans Xa_
 clear Xa_
 replace X := X11
 clear X11
 repeat' (first | with_reducible refine ZzP rfl ?_ | with_reducible refine ZzG rfl ?_ | (with_reducible refine RunLN.chk ?_; refine RunLN.int (by (first | (refine wr_i64 ?_ ?_; omega; omega) | rfl)) ?_) | refine ZzA ?_ | refine RunL.ev Tryz.tOk rfl rfl rfl ?_ | refine RunL.evV rfl rfl rfl (OpV.lenSl Tryz.tOk rfl rfl h5) ?_ | refine RunL.evV rfl rfl rfl (OpV.lenSl Tryz.tOk rfl rfl h9) ?_ | refine ZzF rfl rfl ?_ | refine ZzQ ?_ | refine ZzR ?_ | refine ZzN ?_ | refine ZzK ?_)
 obtain ⟨out13, a13, e13, x13⟩ := h13
 obtain ⟨out17, a17, e17, x17⟩ := h17
 have l13 : out13.length = 3 := lenM e13
 have l17 : out17.length = 2 := lenM e17
 have l19 : fs19.length = 1 := lenF e19
 have hs2 : LDr w12 (.slice (some ⟨b1, o1, none⟩) 2 cc) [A, B] := .row (by have := hr.take (2 * 39); rwa [flat_take encR] at this) (by rw [flat_length encR]; rfl) (by omega)
 have wABC : ∀ z ∈ [A, B, C], WfX w12 z := fun z hz => by
  simp only [List.mem_cons, List.not_mem_nil, or_false] at hz
  rcases hz with rfl | rfl | rfl
  ·exact wA
  ·exact wB
  ·exact wC
 have wAB : ∀ z ∈ [A, B], WfX w12 z := fun z hz => wABC z (by
  simp only [List.mem_cons, List.not_mem_nil, or_false] at hz ⊢
  rcases hz with rfl | rfl <;> simp)
 have cS1 := fun w' (e : Ext w12 w') => rSame_true out13 [A, B, C] u13 (.slice (some ⟨b1, o1, none⟩) 3 cc) w' (a13.up e) (hl.up e) e13 (by rw [l13]; decide) (fun x hx => (x13 x hx).up e) (fun x hx => (wABC x hx).up e)
 have cS2 := fun w' (e : Ext w12 w') => rSame_true out17 [A, B] u17 (.slice (some ⟨b1, o1, none⟩) 2 cc) w' (a17.up e) (hs2.up e) e17 (by rw [l17]; decide) (fun x hx => (x17 x hx).up e) (fun x hx => (wAB x hx).up e)
 have cS3 := fun q w' (e : Ext w12 w') (hq : LFr w' q [⟨C, O⟩]) => rSameForks_ok fs19 [⟨C, O⟩] u19 q w' (h19.up e) hq (by rw [l19]; decide) e19 (fun x hx => ⟨(w19 x hx).1.up e, (w19 x hx).2.up e⟩) (fun x hx => by
  rw [List.mem_singleton] at hx; subst hx; exact ⟨wC.up e, wO.up e⟩)
 have X12 := X
 replace X := ExtB.refl (fun _ => False) w12
 have hrC := flat_row encR hr (show [A, B, C][2]? = some C from rfl)
 clear wABC wAB e13 e17 e19 l13 l17 l19 hkd ep0
 skip
 refine RunE.draw (fun _ => False) mix ?_
 intro wd_ Xd_
 repeat' (first | with_reducible refine AsyN.boolT rfl ?_ | (with_reducible refine AsyN.chk ?_; refine AsyN.int (by (rfl)) ?_) | refine AsyN.any ?_ | refine Asy.ev Tryz.tOk rfl rfl ((build_fork C O rfl rfl)) ?_ | refine Asy.ev Tryz.tOk rfl rfl rfl ?_ | refine Asy.callN rfl rfl rfl (fun _ X_ => (cS1 _ (Xd_.trans X_))) ?_ | refine Asy.evV rfl rfl rfl rfl (fun _ X_ => OpV.lenSl Tryz.tOk rfl rfl h15) ?_ | refine Asy.evV rfl rfl rfl rfl (fun _ X_ => (OpV.slice0 Tryz.tOk (hi := 2) rfl rfl .none (.some rfl rfl) (by omega))) ?_ | refine Asy.callN rfl rfl rfl (fun _ X_ => (cS2 _ (Xd_.trans X_))) ?_ | refine Asy.evV rfl rfl rfl rfl (fun _ X_ => OpV.indexS Tryz.tOk 2 rfl rfl rfl (by first | rfl | omega) (by omega)) ?_ | refine Asy.evV rfl rfl rfl rfl (fun _ X_ => OpV.loadN Tryz.tOk rfl rfl rfl rfl (hrC.up (Xd_.trans X_))) ?_ | refine Asy.evV rfl rfl rfl rfl (fun _ X_ => OpV.loadN Tryz.tOk rfl rfl rfl rfl (Blk.row (Z3.up (Xd_.trans X_)))) ?_)
 refine Asy.sat0 (fun q w' => LFr w' q [⟨C, O⟩]) rfl rfl rfl rfl (fun q w' w'' _ e h => h.up e) (fun w' e => ?_) ?_
 ·refine OpE.mono (OpE.buildL encF Tryz.tOk [⟨C, O⟩] rfl rfl rfl rfl rfl rfl) ?_ fun _ _ h => h
  rintro _ w'' ⟨-, h1, h2⟩
  exact ⟨h2, h1⟩
 refine Asy.val1 0 (v := .bool true) rfl rfl rfl rfl rfl rfl (fun w' q e hx => OpE.call rfl (cS3 q w' (Xd_.trans e) hx)) ?_
 repeat' (first | with_reducible refine AsyN.boolT rfl ?_ | refine Asy.ev Tryz.tOk rfl rfl rfl ?_)
 refine Asy.tail (by kernel_rfl) ?_
 intro we_ Xe_
 simp only [satsAll]
 rintro _ -
 repeat' (first | refine ZzN ?_)
 exact RunE.retFn Tryz.func10 (.tmp rfl .nil) ⟨rfl, X12.trans (Xd_.trans Xe_)⟩
end Go.Sg
end
