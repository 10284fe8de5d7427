/- Parts of this project that the claims share: Sha5, Sha6, Num, GroupA, Valid, GroupB, Group, Ref10, GroupC, GroupFacts. -/
import Derived.Test.YtpmpefkcmokoiaaDoorDa04
import Derived.Test.YtpmpefkcmokoiaaDoorDa01
import Derived.Test.YtpmpefkcmokoiaaDoorDa02
set_option linter.unusedSimpArgs false
set_option linter.unusedVariables false
set_option linter.unusedSectionVars false
section
/- The reference's SHA-256. -/
namespace Go.Sg
open Go.Rn Go.Sha Go.Proofs
attribute [local irreducible] Go.Rn.RunL Go.Rn.RunE Go.Rn.Asy Go.Rn.OpV Go.Rn.OpE Go.Rn.ExecE

theorem u32_compl (x : W) : IntKind.u32.wrap ((BitVec.ofInt IntKind.u32.bits (if IntKind.u32.signed then -1 else IntKind.u32.max) ^^^ BitVec.ofInt IntKind.u32.bits (x.toNat : Int)).toNat : Int) = ((~~~x).toNat : Int) := by
  have h2 : (BitVec.ofInt 32 (if IntKind.u32.signed then -1 else IntKind.u32.max) : BitVec 32) = BitVec.allOnes 32 := by decide
  have h1 : BitVec.ofInt 32 (x.toNat : Int) = x := bv_of x
  show IntKind.u32.wrap (((BitVec.ofInt 32 (if IntKind.u32.signed then -1 else IntKind.u32.max) : BitVec 32) ^^^ (BitVec.ofInt 32 (x.toNat : Int) : BitVec 32)).toNat : Int) = _
  rw [h1, h2]
  have h3 : (BitVec.allOnes 32 ^^^ x) = ~~~x := by
    exact BitVec.allOnes_xor
  rw [h3]
  exact u32_wrap_nat _ (BitVec.isLt (~~~x))

set_option maxRecDepth 4000 in
theorem numbers_ok (w : World) : Rets Tryd.prog 95 [] w fun v w' => v = .agg (vals kTab).toArray ∧ Ext w w' := by
  refine RetsX.of (nt := 2) Tryd.func95 (by kernel_rfl) rfl rfl (by simp) (by simp only [argEnv]; rfl) ?_
  repeat (first | refine RunE.seq ?_ | refine RunE.region ?_)
  refine RunL.alloc Tryd.tOk rfl rfl rfl fun B w1 a1 => ?_
  repeat (first | refine RunL.pure Tryd.tOk rfl rfl rfl ?_ | refine RunE.seq ?_ | refine RunE.region ?_ | refine RunL.nil ?_)
  have hB := a1.eq
  refine RunL.store (v := .agg (vals kTab).toArray) Tryd.tOk rfl rfl rfl rfl rfl (cs := List.replicate 64 (.int .u32 0)) a1.at_ rfl rfl fun w2 t2 => ?_
  have X2 : Ext w w2 := a1.ext.write t2.ext (by intro i hi hlt; subst hi; omega)
  have D2 : Blk w2 B (vals kTab) 116 := by
    have := t2.at_
    rw [show (Value.agg (vals kTab).toArray).cells.toList = vals kTab from rfl, setAt_all _ _ (by rw [vals_length]; rfl)] at this
    exact this
  repeat (first | refine RunL.nil ?_)
  exact RunE.retFn Tryd.func95 (.cell rfl (.agg Tryd.tOk rfl rfl rfl D2.row) .nil) ⟨rfl, X2⟩

set_option maxRecDepth 4000 in
set_option maxHeartbeats 4000000 in
set_option maxRecDepth 4000 in
theorem rblock_ok (s : S8) (l : List UInt8) (v : Value) (w : World) (hl : l.length = 64) (hv : IsSl w 1 v 64 (bytesV l)) :
    Rets Tryd.prog 77 [.agg (vals s.l).toArray, v] w fun r w' => r = .agg (vals (block s l).l).toArray ∧ Ext w w' := by
  obtain ⟨b', o', cap, rfl, hr, -, hc⟩ := hv.held (by decide)
  refine RetsX.of (nt := 191) Tryd.func77 (by kernel_rfl) rfl rfl (by simp) (by simp only [argEnv]; rfl) ?_
  repeat (first | refine RunE.seq ?_ | refine RunE.region ?_)
  refine RunL.box rfl rfl rfl fun B2 w1 a1 => ?_
  refine RunL.alloc Tryd.tOk rfl rfl rfl fun B4 w2 a2 => ?_
  repeat (first | refine RunL.pure Tryd.tOk rfl rfl rfl ?_ | refine RunE.seq ?_ | refine RunE.region ?_ | refine RunL.nil ?_)
  refine RunL.alloc Tryd.tOk rfl rfl rfl fun B5 w3 a3 => ?_
  refine RunL.store (v := .agg (vals (List.replicate 64 0)).toArray) Tryd.tOk rfl rfl rfl rfl rfl (cs := List.replicate 64 (.int .u32 0)) a3.at_ rfl rfl fun w4 t4 => ?_
  have hB2 := a1.eq
  have hB4 := a2.eq
  have hB5 := a3.eq
  have z1 := a1.size
  have z2 := a2.size
  have z3 := a3.size
  have X4 : Ext w w4 := ((a1.ext.trans a2.ext).trans a3.ext).write t4.ext (by intro i hi hlt; subst hi; omega)
  have S4 : Blk w4 B2 (vals s.l) 91 := Blk.ext (Blk.ext (w := w1) (cs := vals s.l) a1.at_ (a2.ext.trans a3.ext) id) t4.ext (by omega)
  have R4 : Blk w4 B4 (List.replicate 8 (.int .u32 0)) 91 := Blk.ext (Blk.ext (w := w2) (cs := List.replicate 8 (.int .u32 0)) a2.at_ a3.ext id) t4.ext (by omega)
  have Z4 : Blk w4 B5 (vals (words l 0 ++ List.replicate (64 - 0) 0)) 116 := by
    have := t4.at_
    rw [show (Value.agg (vals (List.replicate 64 0)).toArray).cells.toList = vals (List.replicate 64 0) from rfl, setAt_all _ _ (by rw [vals_length]; rfl)] at this
    exact this
  clear a1 a2 a3 t4
  repeat (first | refine RunL.pureI Tryd.tOk rfl rfl rfl (by (first | exact wr_i64 (by omega) (by omega) | exact wm_i64 (by omega) | exact wq_i64 (by omega) (by omega) (by omega) | rfl)) ?_ | refine RunE.seq ?_ | refine RunE.region ?_ | refine RunL.nil ?_ | refine RunE.block ?_)
  refine RunE.loop (ι := Nat) (fun j => [(1, .slice (some ⟨b', o', none⟩) 64 cap), (2, .pointer (some ⟨B2, 0, none⟩)), (4, .pointer (some ⟨B4, 0, none⟩)), (5, .pointer (some ⟨B5, 0, none⟩)), (6, .int .i64 (j : Int))])
    (fun j w' => j ≤ 16 ∧ Ext w w' ∧ Blk w' B2 (vals s.l) 91 ∧ Blk w' B4 (List.replicate 8 (.int .u32 0)) 91 ∧ Blk w' B5 (vals (words l j ++ List.replicate (64 - j) 0)) 116) (fun j => 16 - j) 0 (by repeat (first | exact Sub.nil _ | refine Sub.cons rfl ?_)) ⟨by omega, X4, S4, R4, Z4⟩ ?_
  clear X4 S4 R4 Z4
  rintro j w5 ⟨hj, X5, S5, R5, Z5⟩ again
  repeat (first | refine RunL.pureI Tryd.tOk rfl rfl rfl (by (first | exact wr_i64 (by omega) (by omega) | exact wm_i64 (by omega) | exact wq_i64 (by omega) (by omega) (by omega) | rfl)) ?_ | refine RunL.pure Tryd.tOk rfl rfl rfl ?_ | refine RunE.seq ?_ | refine RunE.region ?_ | refine RunL.nil ?_)
  refine RunE.cond rfl (fun hlt => ?_) (fun hlt => ?_) <;> (first | replace hlt := of_decide_eq_true hlt | replace hlt := of_decide_eq_false hlt | replace hlt := beq_iff_eq.1 hlt | replace hlt := beq_eq_false_iff_ne.1 hlt | replace hlt := bne_iff_ne.1 hlt | replace hlt := bne_eq_false_iff_eq.1 hlt | skip)
  · repeat (first | refine RunL.pureI Tryd.tOk rfl rfl rfl (by (first | exact wr_i64 (by omega) (by omega) | exact wm_i64 (by omega) | exact wq_i64 (by omega) (by omega) (by omega) | rfl)) ?_ | refine RunL.pure Tryd.tOk rfl rfl rfl ?_ | refine RunE.seq ?_ | refine RunE.region ?_ | refine RunE.block ?_ | refine RunE.skip ?_)
    refine RunL.val rfl rfl rfl (OpV.sliceSq (lo := 4 * j) (hi := 4 * j + 4) (q := o' + 4 * j) (len := 4) (cap := cap - 4 * j) Tryd.tOk rfl rfl (.some rfl (by omega)) (.some rfl (by omega)) (by omega) (by omega) (by rw [offOf_lt (by omega)]; omega) (by omega) rfl) ?_
    have hrow : Row w5 b' (o' + 4 * j) (bytesV [l.getD (4 * j) 0, l.getD (4 * j + 1) 0, l.getD (4 * j + 2) 0, l.getD (4 * j + 3) 0]) := by
      refine (hr.extE X5).window fun i v hv => ?_
      match i, hv with
      | 0, hv => rw [bytesV_get (by omega)]; exact hv
      | 1, hv => rw [bytesV_get (by omega)]; exact hv
      | 2, hv => rw [bytesV_get (by omega)]; exact hv
      | 3, hv => rw [bytesV_get (by omega)]; exact hv
    refine RunL.call rfl rfl rfl (refWord_ok _ _ _ _ _ _ _ _ _ (by omega) hrow) ?_
    rintro _ w6 ⟨rfl, X6⟩
    have Y6 := X5.trans X6
    refine RunL.val rfl rfl rfl (OpV.indexA1 Tryd.tOk j rfl rfl rfl rfl (by omega)) ?_
    refine RunL.store Tryd.tOk rfl rfl rfl rfl rfl (Z5.ext X6 id) (by simp [vals_length, words_length, Value.cells]; omega) rfl fun w7 t7 => ?_
    have X7 : Ext w w7 := Y6.write t7.ext (by intro i hi hlt; subst hi; omega)
    have S7 := (S5.ext X6 id).ext t7.ext (by omega)
    have R7 := (R5.ext X6 id).ext t7.ext (by omega)
    have Z7 : Blk w7 B5 (vals (words l (j + 1) ++ List.replicate (64 - (j + 1)) 0)) 116 := by
      have := t7.at_
      have e := set_next (words l j) (64 - (j + 1)) (word (l.getD (4 * j) 0) (l.getD (4 * j + 1) 0) (l.getD (4 * j + 2) 0) (l.getD (4 * j + 3) 0))
      rw [words_length, show 64 - (j + 1) + 1 = 64 - j by omega] at e
      unfold Blk
      rw [words, ← e, this]
      rw [Nat.zero_add]
      rfl
    repeat (first | refine RunL.pureI Tryd.tOk rfl rfl rfl (by (first | exact wr_i64 (by omega) (by omega) | exact wm_i64 (by omega) | exact wq_i64 (by omega) (by omega) (by omega) | rfl)) ?_ | refine RunE.region ?_ | refine RunL.nil ?_ | refine RunE.inBlock ?_)
    exact RunE.weaken (by repeat (first | exact Sub.nil _ | refine Sub.cons rfl ?_)) (again (j + 1) _ (by omega) ⟨by omega, X7, S7, R7, Z7⟩)
  · have hj16 : j = 16 := by omega
    subst hj16
    clear again
    repeat (first | refine RunL.pureI Tryd.tOk rfl rfl rfl (by (first | exact wr_i64 (by omega) (by omega) | exact wm_i64 (by omega) | exact wq_i64 (by omega) (by omega) (by omega) | rfl)) ?_ | refine RunE.seq ?_ | refine RunE.region ?_ | refine RunL.nil ?_ | refine RunE.block ?_ | refine RunE.exit rfl ?_)
    refine RunE.loop (ι := Nat) (fun k => [(2, .pointer (some ⟨B2, 0, none⟩)), (4, .pointer (some ⟨B4, 0, none⟩)), (5, .pointer (some ⟨B5, 0, none⟩)), (7, .int .i64 ((16 + k : Nat) : Int))])
      (fun k w' => k ≤ 48 ∧ Ext w w' ∧ Blk w' B2 (vals s.l) 91 ∧ Blk w' B4 (List.replicate 8 (.int .u32 0)) 91 ∧ Blk w' B5 (vals (sched (words l 16) k ++ List.replicate (48 - k) 0)) 116) (fun k => 48 - k) 0 (by repeat (first | exact Sub.nil _ | refine Sub.cons rfl ?_)) ⟨by omega, X5, S5, R5, Z5⟩ ?_
    clear X5 S5 R5 Z5
    rintro k w4 ⟨hk48, X4, S4, R4, Z4⟩ again
    have hsl : (sched (words l 16) k).length = 16 + k := by rw [sched_length, words_length]
    repeat (first | refine RunL.pureI Tryd.tOk rfl rfl rfl (by (first | exact wr_i64 (by omega) (by omega) | exact wm_i64 (by omega) | exact wq_i64 (by omega) (by omega) (by omega) | rfl)) ?_ | refine RunL.pure Tryd.tOk rfl rfl rfl ?_ | refine RunE.seq ?_ | refine RunE.region ?_ | refine RunL.nil ?_)
    refine RunE.cond rfl (fun hlt2 => ?_) (fun hlt2 => ?_) <;> (first | replace hlt2 := of_decide_eq_true hlt2 | replace hlt2 := of_decide_eq_false hlt2 | replace hlt2 := beq_iff_eq.1 hlt2 | replace hlt2 := beq_eq_false_iff_ne.1 hlt2 | replace hlt2 := bne_iff_ne.1 hlt2 | replace hlt2 := bne_eq_false_iff_eq.1 hlt2 | skip)
    · repeat (first | refine RunL.pureI Tryd.tOk rfl rfl rfl (by (first | exact wr_i64 (by omega) (by omega) | exact wm_i64 (by omega) | exact wq_i64 (by omega) (by omega) (by omega) | rfl)) ?_ | refine RunE.seq ?_ | refine RunE.region ?_ | refine RunE.block ?_ | refine RunE.skip ?_)
      refine RunL.val rfl rfl rfl (OpV.indexA1 Tryd.tOk (k + 1) rfl rfl rfl (by omega) (by omega)) ?_
      refine RunL.val rfl rfl rfl (OpV.load1 Tryd.tOk rfl rfl rfl (Z4.row (k + 1) _ (vals_get _ (by omega)))) ?_
      repeat (first | refine RunL.pureI Tryd.tOk rfl rfl rfl (by (first | exact wr_i64 (by omega) (by omega) | exact wm_i64 (by omega) | exact wq_i64 (by omega) (by omega) (by omega) | rfl)) ?_ | refine RunE.seq ?_ | refine RunE.region ?_ | refine RunL.nil ?_)
      refine RunL.val rfl rfl rfl (OpV.indexA1 Tryd.tOk (k + 14) rfl rfl rfl (by omega) (by omega)) ?_
      refine RunL.val rfl rfl rfl (OpV.load1 Tryd.tOk rfl rfl rfl (Z4.row (k + 14) _ (vals_get _ (by omega)))) ?_
      repeat (first | refine RunL.pureI Tryd.tOk rfl rfl rfl (by (first | exact wr_i64 (by omega) (by omega) | exact wm_i64 (by omega) | exact wq_i64 (by omega) (by omega) (by omega) | rfl)) ?_ | refine RunL.nil ?_)
      refine RunE.draw (fun _ => False) mix ?_
      intro w8 X8
      have Z8 := Z4.ext X8 id
      repeat (first | refine Asy.pureI Tryd.tOk rfl rfl rfl (by (first | exact wr_i64 (by omega) (by omega) | exact wm_i64 (by omega) | exact wq_i64 (by omega) (by omega) (by omega) | rfl)) ?_)
      refine Asy.v rfl rfl rfl rfl (fun _ _ => OpV.indexA1 Tryd.tOk k rfl rfl rfl (by omega) (by omega)) ?_
      refine Asy.v rfl rfl rfl rfl (fun _ X' => OpV.load1 Tryd.tOk rfl rfl rfl ((Z8.ext X' id).row k _ (vals_get _ (by omega)))) ?_
      repeat (first | refine Asy.pureI Tryd.tOk rfl rfl rfl (by (first | exact wr_i64 (by omega) (by omega) | exact wm_i64 (by omega) | exact wq_i64 (by omega) (by omega) (by omega) | rfl)) ?_)
      refine Asy.val rfl rfl rfl rfl (fun _ _ => OpE.call rfl (ror_ok _ 7 (by decide) _)) ?_
      repeat (first | refine Asy.pureI Tryd.tOk rfl rfl rfl (by (first | exact wr_i64 (by omega) (by omega) | exact wm_i64 (by omega) | exact wq_i64 (by omega) (by omega) (by omega) | rfl)) ?_)
      refine Asy.val rfl rfl rfl rfl (fun _ _ => OpE.call rfl (ror_ok _ 18 (by decide) _)) ?_
      repeat (first | refine Asy.v rfl rfl rfl rfl (fun _ X_ => OpV.xor32 rfl rfl) ?_ | refine Asy.v rfl rfl rfl rfl (fun _ X_ => OpV.add32 rfl rfl) ?_ | refine Asy.v rfl rfl rfl rfl (fun _ X_ => OpV.shr32 rfl rfl rfl) ?_ | refine Asy.pureI Tryd.tOk rfl rfl rfl (by (first | exact wr_i64 (by omega) (by omega) | exact wm_i64 (by omega) | exact wq_i64 (by omega) (by omega) (by omega) | rfl)) ?_)
      refine Asy.v rfl rfl rfl rfl (fun _ _ => OpV.indexA1 Tryd.tOk (k + 9) rfl rfl rfl (by omega) (by omega)) ?_
      refine Asy.v rfl rfl rfl rfl (fun _ X' => OpV.load1 Tryd.tOk rfl rfl rfl ((Z8.ext X' id).row (k + 9) _ (vals_get _ (by omega)))) ?_
      repeat (first | refine Asy.v rfl rfl rfl rfl (fun _ X_ => OpV.add32 rfl rfl) ?_ | refine Asy.pureI Tryd.tOk rfl rfl rfl (by (first | exact wr_i64 (by omega) (by omega) | exact wm_i64 (by omega) | exact wq_i64 (by omega) (by omega) (by omega) | rfl)) ?_)
      refine Asy.val rfl rfl rfl rfl (fun _ _ => OpE.call rfl (ror_ok _ 17 (by decide) _)) ?_
      repeat (first | refine Asy.pureI Tryd.tOk rfl rfl rfl (by (first | exact wr_i64 (by omega) (by omega) | exact wm_i64 (by omega) | exact wq_i64 (by omega) (by omega) (by omega) | rfl)) ?_)
      refine Asy.val rfl rfl rfl rfl (fun _ _ => OpE.call rfl (ror_ok _ 19 (by decide) _)) ?_
      repeat (first | refine Asy.v rfl rfl rfl rfl (fun _ X_ => OpV.xor32 rfl rfl) ?_ | refine Asy.v rfl rfl rfl rfl (fun _ X_ => OpV.add32 rfl rfl) ?_ | refine Asy.v rfl rfl rfl rfl (fun _ X_ => OpV.shr32 rfl rfl rfl) ?_ | refine Asy.pureI Tryd.tOk rfl rfl rfl (by (first | exact wr_i64 (by omega) (by omega) | exact wm_i64 (by omega) | exact wq_i64 (by omega) (by omega) (by omega) | rfl)) ?_)
      refine Asy.tail (by kernel_rfl) ?_
      intro w9 X9
      simp only [satsAll]
      refine RunL.val rfl rfl rfl (OpV.indexA1 Tryd.tOk (16 + k) rfl rfl rfl rfl (by omega)) ?_
      refine RunL.store Tryd.tOk rfl rfl rfl rfl rfl (Z8.ext X9 id) (by simp [vals_length, hsl, Value.cells]; omega) rfl fun w10 t10 => ?_
      have X10 : Ext w w10 := (X4.trans (X8.trans X9)).write t10.ext (by intro i hi hlt; subst hi; omega)
      have S10 := (S4.ext (X8.trans X9) id).ext t10.ext (by omega)
      have R10 := (R4.ext (X8.trans X9) id).ext t10.ext (by omega)
      have Z10 : Blk w10 B5 (vals (sched (words l 16) (k + 1) ++ List.replicate (48 - (k + 1)) 0)) 116 := by
        have := t10.at_
        have e := set_at (n := 48 - (k + 1)) (nextW (sched (words l 16) k) k) hsl
        rw [show 48 - (k + 1) + 1 = 48 - k by omega] at e
        unfold Blk
        rw [sched, ← e, this]
        rw [Nat.zero_add]
        rfl
      repeat (first | refine RunL.pureI Tryd.tOk rfl rfl rfl (by (first | exact wr_i64 (by omega) (by omega) | exact wm_i64 (by omega) | exact wq_i64 (by omega) (by omega) (by omega) | rfl)) ?_ | refine RunE.region ?_ | refine RunL.nil ?_ | refine RunE.inBlock ?_)
      exact RunE.weaken (by repeat (first | exact Sub.nil _ | refine Sub.cons rfl ?_)) (again (k + 1) _ (by omega) ⟨by omega, X10, S10, R10, Z10⟩)
    · have hk : k = 48 := by omega
      subst hk
      clear again
      repeat (first | refine RunE.seq ?_ | refine RunE.region ?_ | refine RunE.exit rfl ?_)
      refine RunL.call rfl rfl rfl (numbers_ok _) ?_
      rintro _ w5 ⟨rfl, X5⟩
      refine RunL.alloc Tryd.tOk rfl rfl rfl fun B10 w6 a6 => ?_
      refine RunL.store (v := .agg (vals kTab).toArray) Tryd.tOk rfl rfl rfl rfl rfl (cs := List.replicate 64 (.int .u32 0)) a6.at_ rfl rfl fun w7 t7 => ?_
      have hB10 := a6.eq
      have y5 := X5.size
      have lt5 := Z4.lt
      have X7 : Ext w w7 := ((X4.trans X5).trans a6.ext).write t7.ext (by intro i hi hlt; subst hi; have := X4.size; omega)
      have S7 := (S4.ext (X5.trans a6.ext) id).ext t7.ext (by have := S4.lt; omega)
      have R7 := (R4.ext (X5.trans a6.ext) id).ext t7.ext (by have := R4.lt; omega)
      have Z7 := (Z4.ext (X5.trans a6.ext) id).ext t7.ext (by omega)
      have K7 : Blk w7 B10 (vals kTab) 116 := by
        have := t7.at_
        rw [show (Value.agg (vals kTab).toArray).cells.toList = vals kTab from rfl, setAt_all _ _ (by rw [vals_length]; rfl)] at this
        exact this
      clear X4 S4 R4 Z4 X5 a6 t7
      generalize hws : sched (words l 16) 48 = ws at Z7 hsl
      repeat (first | refine RunE.seq ?_ | refine RunL.nil ?_)
      refine RunE.draw (fun _ => False) mix ?_
      intro w8 X8
      have S8 := S7.ext X8 id
      repeat (first | refine Asy.pureI Tryd.tOk rfl rfl rfl (by (first | exact wr_i64 (by omega) (by omega) | exact wm_i64 (by omega) | exact wq_i64 (by omega) (by omega) (by omega) | rfl)) ?_ | refine Asy.v rfl rfl rfl rfl (fun _ X_ => OpV.indexAK Tryd.tOk rfl rfl rfl rfl) ?_ | refine Asy.v rfl rfl rfl rfl (fun _ X_ => OpV.load1 Tryd.tOk rfl rfl rfl (Blk.cell (S8.ext X_ id) rfl)) ?_)
      refine Asy.tail (by kernel_rfl) ?_
      intro w9 X9
      simp only [satsAll]
      repeat (first | refine RunL.pureI Tryd.tOk rfl rfl rfl (by (first | exact wr_i64 (by omega) (by omega) | exact wm_i64 (by omega) | exact wq_i64 (by omega) (by omega) (by omega) | rfl)) ?_ | refine RunE.seq ?_ | refine RunE.region ?_ | refine RunL.nil ?_ | refine RunE.block ?_)
      have Y9 := X8.trans X9
      have X10 := X7.trans Y9
      have S10 := S7.ext Y9 id
      have R10 := R7.ext Y9 id
      have Z10 := Z7.ext Y9 id
      have K10 := K7.ext Y9 id
      clear X7 S7 R7 Z7 K7 X8 X9 Y9 S8
      refine RunE.loop (ι := Nat) (fun t => [(2, .pointer (some ⟨B2, 0, none⟩)), (4, .pointer (some ⟨B4, 0, none⟩)), (5, .pointer (some ⟨B5, 0, none⟩)), (10, .pointer (some ⟨B10, 0, none⟩)), (11, .int .u32 ((rnds ws s t).a.toNat : Int)),
          (12, .int .u32 ((rnds ws s t).b.toNat : Int)), (13, .int .u32 ((rnds ws s t).c.toNat : Int)), (14, .int .u32 ((rnds ws s t).d.toNat : Int)), (15, .int .u32 ((rnds ws s t).e.toNat : Int)), (16, .int .u32 ((rnds ws s t).f.toNat : Int)),
          (17, .int .u32 ((rnds ws s t).g.toNat : Int)), (18, .int .u32 ((rnds ws s t).h.toNat : Int)), (19, .int .i64 (t : Int))])
        (fun t w' => t ≤ 64 ∧ Ext w w' ∧ Blk w' B2 (vals s.l) 91 ∧ Blk w' B4 (List.replicate 8 (.int .u32 0)) 91 ∧ Blk w' B5 (vals (ws ++ [])) 116 ∧ Blk w' B10 (vals (kTab ++ [])) 116) (fun t => 64 - t) 0 (by repeat (first | exact Sub.nil _ | refine Sub.cons rfl ?_)) ⟨by omega, X10, S10, R10, Z10, K10⟩ ?_
      clear X10 S10 R10 Z10 K10
      rintro t u0 ⟨ht, X0, S0, R0, Z0, K0⟩ again
      repeat (first | refine RunL.pureI Tryd.tOk rfl rfl rfl (by (first | exact wr_i64 (by omega) (by omega) | exact wm_i64 (by omega) | exact wq_i64 (by omega) (by omega) (by omega) | rfl)) ?_ | refine RunL.pure Tryd.tOk rfl rfl rfl ?_ | refine RunE.seq ?_ | refine RunE.region ?_ | refine RunL.nil ?_)
      refine RunE.cond rfl (fun hlt3 => ?_) (fun hlt3 => ?_) <;> (first | replace hlt3 := of_decide_eq_true hlt3 | replace hlt3 := of_decide_eq_false hlt3 | replace hlt3 := beq_iff_eq.1 hlt3 | replace hlt3 := beq_eq_false_iff_ne.1 hlt3 | replace hlt3 := bne_iff_ne.1 hlt3 | replace hlt3 := bne_eq_false_iff_eq.1 hlt3 | skip)
      · have ht' : t < kTab.length := by simp [kTab]; omega
        repeat (first | refine RunE.seq ?_ | refine RunE.block ?_ | refine RunE.skip ?_)
        refine RunE.draw (fun _ => False) mix ?_
        intro u1 X1
        repeat (first | refine Asy.pureI Tryd.tOk rfl rfl rfl (by (first | exact wr_i64 (by omega) (by omega) | exact wm_i64 (by omega) | exact wq_i64 (by omega) (by omega) (by omega) | rfl)) ?_)
        refine Asy.val rfl rfl rfl rfl (fun _ _ => OpE.call rfl (ror_ok _ 6 (by decide) _)) ?_
        repeat (first | refine Asy.pureI Tryd.tOk rfl rfl rfl (by (first | exact wr_i64 (by omega) (by omega) | exact wm_i64 (by omega) | exact wq_i64 (by omega) (by omega) (by omega) | rfl)) ?_)
        refine Asy.val rfl rfl rfl rfl (fun _ _ => OpE.call rfl (ror_ok _ 11 (by decide) _)) ?_
        repeat (first | refine Asy.v rfl rfl rfl rfl (fun _ X_ => OpV.xor32 rfl rfl) ?_ | refine Asy.pureI Tryd.tOk rfl rfl rfl (by (first | exact wr_i64 (by omega) (by omega) | exact wm_i64 (by omega) | exact wq_i64 (by omega) (by omega) (by omega) | rfl)) ?_)
        refine Asy.val rfl rfl rfl rfl (fun _ _ => OpE.call rfl (ror_ok _ 25 (by decide) _)) ?_
        repeat (first | refine Asy.v rfl rfl rfl rfl (fun _ X_ => OpV.xor32 rfl rfl) ?_ | refine Asy.v rfl rfl rfl rfl (fun _ X_ => OpV.and32 rfl rfl) ?_ | refine Asy.v rfl rfl rfl rfl (fun _ X_ => OpV.add32 rfl rfl) ?_ | refine Asy.pureI Tryd.tOk rfl rfl rfl (by (first | exact wr_i64 (by omega) (by omega) | exact wm_i64 (by omega) | exact wq_i64 (by omega) (by omega) (by omega) | rfl)) ?_)
        refine Asy.v rfl rfl rfl rfl (fun _ _ => OpV.compl rfl (u32_compl _)) ?_
        repeat (first | refine Asy.v rfl rfl rfl rfl (fun _ X_ => OpV.xor32 rfl rfl) ?_ | refine Asy.v rfl rfl rfl rfl (fun _ X_ => OpV.and32 rfl rfl) ?_ | refine Asy.v rfl rfl rfl rfl (fun _ X_ => OpV.add32 rfl rfl) ?_ | refine Asy.pureI Tryd.tOk rfl rfl rfl (by (first | exact wr_i64 (by omega) (by omega) | exact wm_i64 (by omega) | exact wq_i64 (by omega) (by omega) (by omega) | rfl)) ?_)
        refine Asy.v rfl rfl rfl rfl (fun _ _ => OpV.indexA1 Tryd.tOk t rfl rfl rfl rfl (by omega)) ?_
        refine Asy.v rfl rfl rfl rfl (fun _ X' => OpV.load1 Tryd.tOk rfl rfl rfl (((K0.ext X1 id).ext X' id).row t _ (vals_get _ ht'))) ?_
        repeat (first | refine Asy.v rfl rfl rfl rfl (fun _ X_ => OpV.add32 rfl rfl) ?_ | refine Asy.pureI Tryd.tOk rfl rfl rfl (by (first | exact wr_i64 (by omega) (by omega) | exact wm_i64 (by omega) | exact wq_i64 (by omega) (by omega) (by omega) | rfl)) ?_)
        refine Asy.v rfl rfl rfl rfl (fun _ _ => OpV.indexA1 Tryd.tOk t rfl rfl rfl rfl (by omega)) ?_
        refine Asy.v rfl rfl rfl rfl (fun _ X' => OpV.load1 Tryd.tOk rfl rfl rfl (((Z0.ext X1 id).ext X' id).row t _ (vals_get _ (by omega)))) ?_
        repeat (first | refine Asy.v rfl rfl rfl rfl (fun _ X_ => OpV.add32 rfl rfl) ?_ | refine Asy.pureI Tryd.tOk rfl rfl rfl (by (first | exact wr_i64 (by omega) (by omega) | exact wm_i64 (by omega) | exact wq_i64 (by omega) (by omega) (by omega) | rfl)) ?_)
        refine Asy.tail (by kernel_rfl) ?_
        intro u2 X2
        simp only [satsAll]
        have Y2 := X1.trans X2
        clear X1 X2
        repeat (first | refine RunL.pureI Tryd.tOk rfl rfl rfl (by (first | exact wr_i64 (by omega) (by omega) | exact wm_i64 (by omega) | exact wq_i64 (by omega) (by omega) (by omega) | rfl)) ?_ | refine RunE.seq ?_ | refine RunE.region ?_ | refine RunL.nil ?_)
        refine RunL.call rfl rfl rfl (ror_ok _ 2 (by decide) _) ?_
        rintro _ u3 ⟨rfl, X3⟩
        repeat (first | refine RunL.pureI Tryd.tOk rfl rfl rfl (by (first | exact wr_i64 (by omega) (by omega) | exact wm_i64 (by omega) | exact wq_i64 (by omega) (by omega) (by omega) | rfl)) ?_)
        refine RunL.call rfl rfl rfl (ror_ok _ 13 (by decide) _) ?_
        rintro _ u4 ⟨rfl, X4⟩
        repeat (first | refine RunL.val rfl rfl rfl (OpV.xor32 rfl rfl) ?_ | refine RunL.pureI Tryd.tOk rfl rfl rfl (by (first | exact wr_i64 (by omega) (by omega) | exact wm_i64 (by omega) | exact wq_i64 (by omega) (by omega) (by omega) | rfl)) ?_)
        refine RunL.call rfl rfl rfl (ror_ok _ 22 (by decide) _) ?_
        rintro _ u5 ⟨rfl, X5⟩
        have Y5 := ((Y2.trans X3).trans X4).trans X5
        repeat (first | refine RunL.val rfl rfl rfl (OpV.xor32 rfl rfl) ?_ | refine RunL.val rfl rfl rfl (OpV.and32 rfl rfl) ?_ | refine RunL.val rfl rfl rfl (OpV.add32 rfl rfl) ?_ | refine RunL.pureI Tryd.tOk rfl rfl rfl (by (first | exact wr_i64 (by omega) (by omega) | exact wm_i64 (by omega) | exact wq_i64 (by omega) (by omega) (by omega) | rfl)) ?_ | refine RunE.region ?_ | refine RunL.nil ?_ | refine RunE.inBlock ?_)
        refine RunE.weaken (by repeat (first | exact Sub.nil _ | refine Sub.cons rfl ?_)) (again (t + 1) _ (by omega) ⟨by omega, X0.trans Y5, S0.ext Y5 id, R0.ext Y5 id, Z0.ext Y5 id, K0.ext Y5 id⟩)
      · have ht64 : t = 64 := by omega
        subst ht64
        clear again
        have hbl : block s l = s.add (rnds ws s 64) := by rw [block, hws]
        generalize rnds ws s 64 = v at hbl ⊢
        repeat (first | refine RunL.val rfl rfl rfl (OpV.add32 rfl rfl) ?_ | refine RunL.pureI Tryd.tOk rfl rfl rfl (by (first | exact wr_i64 (by omega) (by omega) | exact wm_i64 (by omega) | exact wq_i64 (by omega) (by omega) (by omega) | rfl)) ?_ | refine RunL.pure Tryd.tOk rfl rfl rfl ?_ | refine RunL.val rfl rfl rfl (OpV.indexAK Tryd.tOk rfl rfl rfl rfl) ?_ | refine RunL.val rfl rfl rfl (OpV.load1 Tryd.tOk rfl rfl rfl (Blk.cell S0 rfl)) ?_ | refine RunE.seq ?_ | refine RunE.region ?_ | refine RunE.exit rfl ?_)
        refine RunL.store Tryd.tOk rfl rfl rfl rfl rfl R0 rfl rfl fun u1 t1 => ?_
        have X1 : Ext w u1 := X0.write t1.ext (by intro i hi hlt; subst hi; omega)
        repeat (first | refine RunL.nil ?_)
        refine RunE.retFn Tryd.func77 (.cell rfl (.agg Tryd.tOk rfl rfl rfl (Blk.row (show Blk u1 B4 (vals (s.add v).l) _ from t1.at_))) .nil) ⟨?_, X1⟩
        rw [hbl]; rfl

set_option maxRecDepth 4000 in
theorem padded_ok (v : Value) (l : List UInt8) (w : World) (hv : IsSl w 1 v l.length (bytesV l)) (hl : l.length ≤ 1000000000) :
    Rets Tryd.prog 76 [v] w fun r w' => w'.ownsRow w.heap.size 5 1 r (pad l).length (bytesV (pad l)) ∧ Ext w w' := by
  refine RetsX.of (nt := 35) Tryd.func76 (by kernel_rfl) rfl rfl (by simp) (by simp only [argEnv]; rfl) ?_
  repeat (first | refine RunL.pure Tryd.tOk rfl rfl rfl ?_ | refine RunE.seq ?_ | refine RunE.region ?_ | refine RunL.nil ?_)
  refine RunL.ex rfl rfl rfl (OpE.buildSl Tryd.tOk [] rfl rfl rfl rfl rfl rfl (by simp)) ?_
  rintro _ w1 ⟨B6, rfl, a1⟩
  have O1 := ownsRow_added (n := 0) (sz := 1) a1 (Nat.le_of_eq a1.eq.symm) rfl (by simp [maxLen])
  have X1 := a1.ext
  clear a1
  repeat (first | refine RunL.pure Tryd.tOk rfl rfl rfl ?_)
  refine RunL.ex rfl rfl rfl (OpE.append Tryd.tOk rfl rfl rfl rfl rfl rfl O1 (hv.extE X1) (bytesV_plain _) (by show _ * 1 ≤ _; omega) (by omega) X1.size) ?_
  rintro v2 w2 ⟨O2, E2⟩
  have X2 : Ext w w2 := X1.write E2 (by intro i hi hlt; have := ownsRow_ge O1 hi; omega)
  clear O1 X1 E2
  refine RunL.ex rfl rfl rfl (OpE.buildSl Tryd.tOk [.int .u8 128] rfl rfl rfl rfl rfl rfl (by simp [Value.cells])) ?_
  rintro _ w3 ⟨B9, rfl, a3⟩
  have X3 := X2.trans a3.ext
  have O3 := ownsRow_ext O2 a3.ext (fun _ _ h => h)
  refine RunL.ex rfl rfl rfl (OpE.append Tryd.tOk rfl rfl rfl rfl rfl rfl O3 (isSl_added (n := 1) (sz := 1) a3 rfl) rfl (by show _ * 1 ≤ _; omega) (by omega) X3.size) ?_
  rintro v4 w4 ⟨O4, E4⟩
  have X4 : Ext w w4 := X3.write E4 (by intro i hi hlt; have := ownsRow_ge O3 hi; omega)
  clear X2 X3 O2 O3 a3 E4
  repeat (first | refine RunL.pure Tryd.tOk rfl rfl rfl ?_ | refine RunE.seq ?_ | refine RunL.nil ?_ | refine RunE.block ?_)
  have O4' : w4.ownsRow w.heap.size 5 1 v4 (l.length + 1 + 0) (bytesV (l ++ 128 :: List.replicate 0 0)) := by
    rw [bytesV_append]; simpa [cellsAll, Value.cells, bytesV] using O4
  have hz64 : padz l.length < 64 := by unfold padz; omega
  refine RunE.loop (ι := Nat × Value) (fun x => [(0, v), (3, x.2)])
    (fun x w' => x.1 ≤ padz l.length ∧ Ext w w' ∧ w'.ownsRow w.heap.size 5 1 x.2 (l.length + 1 + x.1) (bytesV (l ++ 128 :: List.replicate x.1 0))) (fun x => padz l.length - x.1) (0, v4) (by repeat (first | exact Sub.nil _ | refine Sub.cons rfl ?_)) ⟨by simp, X4, O4'⟩ ?_
  clear O4 O4' X4
  rintro ⟨j, u⟩ w5 ⟨hj, X5, O5⟩ again
  simp only at hj O5 again ⊢
  repeat (first | refine RunL.pure Tryd.tOk rfl rfl rfl ?_ | refine RunE.seq ?_ | refine RunE.region ?_)
  refine RunL.val rfl rfl rfl (OpV.lenSl Tryd.tOk rfl rfl (isSl_own O5)) ?_
  repeat (first | refine RunL.pureI Tryd.tOk rfl rfl rfl (by (first | exact wr_i64 (by omega) (by omega) | exact wm_i64 (by omega) | exact wq_i64 (by omega) (by omega) (by omega) | rfl)) ?_ | refine RunL.pure Tryd.tOk rfl rfl rfl ?_ | refine RunL.nil ?_)
  refine RunE.cond rfl (fun hne => ?_) (fun hne => ?_) <;> (first | replace hne := of_decide_eq_true hne | replace hne := of_decide_eq_false hne | replace hne := beq_iff_eq.1 hne | replace hne := beq_eq_false_iff_ne.1 hne | replace hne := bne_iff_ne.1 hne | replace hne := bne_eq_false_iff_eq.1 hne | skip)
  · have hj' : j < padz l.length := by
      rcases Nat.lt_or_ge j (padz l.length) with h | h
      · exact h
      · exfalso; apply hne; have : j = padz l.length := by omega
        subst this; unfold padz; omega
    repeat (first | refine RunL.pure Tryd.tOk rfl rfl rfl ?_ | refine RunE.region ?_ | refine RunE.block ?_ | refine RunE.skip ?_)
    refine RunL.ex rfl rfl rfl (OpE.buildSl Tryd.tOk [.int .u8 0] rfl rfl rfl rfl rfl rfl (by simp [Value.cells])) ?_
    rintro _ w6 ⟨B16, rfl, a6⟩
    have X6 := X5.trans a6.ext
    have O6 := ownsRow_ext O5 a6.ext (fun _ _ h => h)
    refine RunL.ex rfl rfl rfl (OpE.append Tryd.tOk rfl rfl rfl rfl rfl rfl O6 (isSl_added (n := 1) (sz := 1) a6 rfl) rfl (by show _ * 1 ≤ _; omega) (by omega) X6.size) ?_
    rintro u7 w7 ⟨O7, E7⟩
    have X7 : Ext w w7 := X6.write E7 (by intro i hi hlt; have := ownsRow_ge O6 hi; omega)
    repeat (first | refine RunL.pure Tryd.tOk rfl rfl rfl ?_ | refine RunL.nil ?_ | refine RunE.inBlock ?_)
    refine RunE.weaken (by repeat (first | exact Sub.nil _ | refine Sub.cons rfl ?_)) (again (j + 1, u7) _ (by simp only; omega) ⟨by simp only; omega, X7, ?_⟩)
    simp only
    have e : l ++ 128 :: List.replicate (j + 1) (0 : UInt8) = (l ++ 128 :: List.replicate j 0) ++ [0] := by rw [List.replicate_succ']; simp
    rw [e, bytesV_append]
    exact O7
  · have hjz : j = padz l.length := by unfold padz at hj ⊢; omega
    subst hjz
    clear again
    repeat (first | refine RunL.pure Tryd.tOk rfl rfl rfl ?_ | refine RunE.seq ?_ | refine RunE.region ?_ | refine RunE.exit rfl ?_)
    refine RunL.val rfl rfl rfl (OpV.lenSl Tryd.tOk rfl rfl hv) ?_
    repeat (first | refine RunL.pureI Tryd.tOk rfl rfl rfl (by (first | exact u64_nat _ (by omega) | exact u64_mul _ 8 (by omega) | exact wr_i64 (by omega) (by omega) | exact wm_i64 (by omega) | exact wq_i64 (by omega) (by omega) (by omega) | rfl)) ?_ | refine RunE.seq ?_ | refine RunE.region ?_ | refine RunL.nil ?_ | refine RunE.block ?_)
    rw [Nat.mul_comm l.length 8]
    refine RunE.loop (ι := Nat × Value) (fun x => [(3, x.2), (4, .int .u64 ((8 * l.length : Nat) : Int)), (5, .int .i64 (7 - (x.1 : Int)))])
      (fun x w' => x.1 ≤ 8 ∧ Ext w w' ∧ w'.ownsRow w.heap.size 5 1 x.2 (l.length + 1 + padz l.length + x.1) (bytesV (l ++ 128 :: (List.replicate (padz l.length) 0 ++ (be 8 (8 * l.length)).take x.1)))) (fun x => 8 - x.1) (0, u) (by repeat (first | exact Sub.nil _ | refine Sub.cons rfl ?_))
      ⟨by simp, X5, by simpa using O5⟩ ?_
    clear O5 X5
    rintro ⟨k, u⟩ w5 ⟨hk, X5, O5⟩ again
    simp only at hk O5 again ⊢
    repeat (first | refine RunL.pureI Tryd.tOk rfl rfl rfl (by (first | exact wr_i64 (by omega) (by omega) | exact wm_i64 (by omega) | exact wq_i64 (by omega) (by omega) (by omega) | rfl)) ?_ | refine RunL.pure Tryd.tOk rfl rfl rfl ?_ | refine RunE.seq ?_ | refine RunE.region ?_ | refine RunL.nil ?_)
    refine RunE.cond rfl (fun hge => ?_) (fun hge => ?_) <;> (first | replace hge := of_decide_eq_true hge | replace hge := of_decide_eq_false hge | replace hge := beq_iff_eq.1 hge | replace hge := beq_eq_false_iff_ne.1 hge | replace hge := bne_iff_ne.1 hge | replace hge := bne_eq_false_iff_eq.1 hge | skip)
    · have hk8 : k < 8 := by omega
      have e7 : (8 : Int) * (7 - (k : Int)) = ((8 * (7 - k) : Nat) : Int) := by omega
      repeat (first | refine RunL.pureI Tryd.tOk rfl rfl rfl (by (first | exact (congrArg IntKind.i64.wrap e7).trans (wr_i64 (by omega) (by omega)) | exact u64_shr _ _ (by omega) | exact u8_of_nat _ | exact wr_i64 (by omega) (by omega) | exact wm_i64 (by omega) | exact wq_i64 (by omega) (by omega) (by omega) | rfl)) ?_ | refine RunL.pure Tryd.tOk rfl rfl rfl ?_ | refine RunE.seq ?_ | refine RunE.region ?_ | refine RunE.block ?_ | refine RunE.skip ?_)
      refine RunL.ex rfl rfl rfl (OpE.buildSl Tryd.tOk [.int .u8 ((UInt8.ofNat (8 * l.length / 2 ^ (8 * (7 - k)))).toNat : Int)] rfl rfl rfl rfl rfl rfl (by simp [Value.cells])) ?_
      rintro _ w6 ⟨B16, rfl, a6⟩
      have X6 := X5.trans a6.ext
      have O6 := ownsRow_ext O5 a6.ext (fun _ _ h => h)
      refine RunL.ex rfl rfl rfl (OpE.append Tryd.tOk rfl rfl rfl rfl rfl rfl O6 (isSl_added (n := 1) (sz := 1) a6 rfl) rfl (by show _ * 1 ≤ _; omega) (by omega) X6.size) ?_
      rintro u7 w7 ⟨O7, E7⟩
      have X7 : Ext w w7 := X6.write E7 (by intro i hi hlt; have := ownsRow_ge O6 hi; omega)
      repeat (first | refine RunL.pureI Tryd.tOk rfl rfl rfl (by (first | exact wr_i64 (by omega) (by omega) | exact wm_i64 (by omega) | exact wq_i64 (by omega) (by omega) (by omega) | rfl)) ?_ | refine RunL.pure Tryd.tOk rfl rfl rfl ?_ | refine RunE.region ?_ | refine RunL.nil ?_ | refine RunE.inBlock ?_)
      refine RunE.weaken (by
        refine Sub.cons rfl (Sub.cons rfl (Sub.cons ?_ (Sub.nil _)))
        rw [show (7 : Int) - ((k + 1 : Nat) : Int) = 7 - (k : Int) - 1 by omega]; rfl) (again (k + 1, u7) _ (by simp only; omega) ⟨by simp only; omega, X7, ?_⟩)
      simp only
      have e : (be 8 (8 * l.length)).take (k + 1) = (be 8 (8 * l.length)).take k ++ [UInt8.ofNat (8 * l.length / 2 ^ (8 * (7 - k)))] := by
        rw [List.take_add_one, be_get _ _ _ hk8]; rfl
      have e2 : l ++ 128 :: (List.replicate (padz l.length) 0 ++ (be 8 (8 * l.length)).take (k + 1)) = (l ++ 128 :: (List.replicate (padz l.length) 0 ++ (be 8 (8 * l.length)).take k)) ++ [UInt8.ofNat (8 * l.length / 2 ^ (8 * (7 - k)))] := by rw [e]; simp
      rw [e2, bytesV_append]
      exact O7
    · have hk8 : k = 8 := by omega
      subst hk8
      repeat (first | refine RunL.pure Tryd.tOk rfl rfl rfl ?_ | refine RunE.seq ?_ | refine RunE.region ?_ | refine RunL.nil ?_ | refine RunE.exit rfl ?_)
      refine RunE.retFn Tryd.func76 (.tmp rfl .nil) ⟨?_, X5⟩
      have e : (be 8 (8 * l.length)).take 8 = be 8 (8 * l.length) := rfl
      rw [e] at O5
      simp only [oneOr]
      rw [pad_length, show l.length + 9 + padz l.length = l.length + 1 + padz l.length + 8 by omega]
      exact O5

/-- The words of a state, byte by byte. -/
theorem dig_get (S : S8) (i : Nat) (h : i < 32) : (dig S)[i]? = some (UInt8.ofNat ((S.l.getD (i / 4) 0).toNat / 2 ^ (24 - 8 * (i % 4)))) := by
  have key : ∀ (L : List W) (q r : Nat), r < 4 → q < L.length → (L.flatMap fun x => be 4 x.toNat)[4 * q + r]? = some (UInt8.ofNat ((L.getD q 0).toNat / 2 ^ (8 * (3 - r)))) := by
    intro L
    induction L with
    | nil => intro q r _ hq; simp at hq
    | cons x L ih =>
      intro q r hr hq
      rw [List.flatMap_cons]
      cases q with
      | zero =>
        rw [List.getElem?_append_left (by rw [be_length]; omega), Nat.mul_zero, Nat.zero_add, be_get _ _ _ hr]
        rfl
      | succ q =>
        rw [List.getElem?_append_right (by rw [be_length]; omega), be_length, show 4 * (q + 1) + r - 4 = 4 * q + r by omega]
        rw [ih q r hr (by simpa using hq)]
        simp
  have h8 : S.l.length = 8 := rfl
  have := key S.l (i / 4) (i % 4) (by omega) (by omega)
  rw [show 4 * (i / 4) + i % 4 = i by omega, show 8 * (3 - i % 4) = 24 - 8 * (i % 4) by omega] at this
  exact this

set_option maxRecDepth 4000 in
set_option maxHeartbeats 4000000 in
set_option maxRecDepth 4000 in
theorem rsum_ok (v : Value) (l : List UInt8) (w : World) (hv : IsSl w 1 v l.length (bytesV l)) (hl : l.length ≤ 1000000000) :
    Rets Tryd.prog 58 [v] w fun r w' => r = .agg (bytesV (sha l)).toArray ∧ Ext w w' := by
  refine RetsX.of (nt := 42) Tryd.func58 (by kernel_rfl) rfl rfl (by simp) (by simp only [argEnv]; rfl) ?_
  repeat (first | refine RunE.seq ?_ | refine RunE.region ?_)
  refine RunL.alloc Tryd.tOk rfl rfl rfl fun B2 w1 a1 => ?_
  repeat (first | refine RunL.pure Tryd.tOk rfl rfl rfl ?_ | refine RunE.seq ?_ | refine RunE.region ?_ | refine RunL.nil ?_)
  refine RunL.alloc Tryd.tOk rfl rfl rfl fun B3 w2 a2 => ?_
  refine RunL.store (v := .agg (vals init8.l).toArray) Tryd.tOk rfl rfl rfl rfl rfl (cs := List.replicate 8 (.int .u32 0)) a2.at_ rfl rfl fun w3 t3 => ?_
  have hB2 := a1.eq
  have hB3 := a2.eq
  have hs1 := a1.size
  have X3 : Ext w w3 := (a1.ext.trans a2.ext).write t3.ext (by intro i hi hlt; subst hi; omega)
  have D3 : Blk w3 B2 (bytesV (List.replicate 32 0)) 23 := Blk.ext (Blk.ext (w := w1) (cs := List.replicate 32 (.int .u8 0)) a1.at_ a2.ext id) t3.ext (by omega)
  have V3 : Blk w3 B3 (vals (run init8 (pad l) 0).l) 91 := t3.at_
  clear a1 a2 t3
  repeat (first | refine RunL.pure Tryd.tOk rfl rfl rfl ?_ | refine RunE.seq ?_ | refine RunE.region ?_ | refine RunL.nil ?_)
  refine RunL.call rfl rfl rfl (padded_ok v l w3 (hv.extE X3) hl) ?_
  rintro p w4 ⟨O4, X4⟩
  have hpl := pad_length64 l
  have hpb := pad_length l
  have hz64 : padz l.length < 64 := by unfold padz; omega
  repeat (first | refine RunL.pureI Tryd.tOk rfl rfl rfl (by (first | exact wr_i64 (by omega) (by omega) | exact wm_i64 (by omega) | exact wq_i64 (by omega) (by omega) (by omega) | rfl)) ?_ | refine RunL.pure Tryd.tOk rfl rfl rfl ?_ | refine RunE.seq ?_ | refine RunE.region ?_ | refine RunL.nil ?_ | refine RunE.block ?_)
  refine RunE.loop (ι := Nat) (fun k => [(2, .pointer (some ⟨B2, 0, none⟩)), (3, .pointer (some ⟨B3, 0, none⟩)), (4, p), (5, .int .i64 ((64 * k : Nat) : Int))])
    (fun k w' => 64 * k ≤ (pad l).length ∧ Ext w w' ∧ Blk w' B2 (bytesV (List.replicate 32 0)) 23 ∧ Blk w' B3 (vals (run init8 (pad l) k).l) 91 ∧ w'.ownsRow w3.heap.size 5 1 p (pad l).length (bytesV (pad l)))
    (fun k => (pad l).length - 64 * k) 0 (by repeat (first | exact Sub.nil _ | refine Sub.cons rfl ?_)) ⟨by omega, X3.trans X4, D3.ext X4 id, V3.ext X4 id, O4⟩ ?_
  have hlt3 := V3.lt
  have hlt2 := D3.lt
  clear V3 D3 O4 X4
  rintro k w5 ⟨hk, X5, D5, V5, O5⟩ again
  repeat (first | refine RunL.pureI Tryd.tOk rfl rfl rfl (by (first | exact wr_i64 (by omega) (by omega) | exact wm_i64 (by omega) | exact wq_i64 (by omega) (by omega) (by omega) | rfl)) ?_ | refine RunL.pure Tryd.tOk rfl rfl rfl ?_ | refine RunE.seq ?_ | refine RunE.region ?_)
  refine RunL.val rfl rfl rfl (OpV.lenSl Tryd.tOk rfl rfl (isSl_own O5)) ?_
  repeat (first | refine RunL.pure Tryd.tOk rfl rfl rfl ?_ | refine RunL.nil ?_)
  refine RunE.cond rfl (fun hlt => ?_) (fun hlt => ?_) <;> (first | replace hlt := of_decide_eq_true hlt | replace hlt := of_decide_eq_false hlt | replace hlt := beq_iff_eq.1 hlt | replace hlt := beq_eq_false_iff_ne.1 hlt | replace hlt := bne_iff_ne.1 hlt | replace hlt := bne_eq_false_iff_eq.1 hlt | skip)
  · have hlt' : 64 * k + 64 ≤ (pad l).length := by omega
    obtain ⟨b', o', cap, rfl, hr, hln, hc⟩ := (isSl_own O5).held (by omega)
    repeat (first | refine RunE.seq ?_ | refine RunE.block ?_ | refine RunE.skip ?_)
    refine RunE.draw (fun _ => False) mix ?_
    intro w6 X6
    refine Asy.v rfl rfl rfl rfl (fun _ X' => OpV.loadN (cs := vals (run init8 (pad l) k).l) Tryd.tOk rfl rfl rfl rfl ((V5.ext X6 id).ext X' id).row) ?_
    repeat (first | refine Asy.pureI Tryd.tOk rfl rfl rfl (by (first | exact wr_i64 (by omega) (by omega) | exact wm_i64 (by omega) | exact wq_i64 (by omega) (by omega) (by omega) | rfl)) ?_ | refine Asy.pure Tryd.tOk rfl rfl rfl ?_)
    refine Asy.v rfl rfl rfl rfl (fun _ _ => OpV.sliceSq (lo := 64 * k) (hi := 64 * k + 64) (q := o' + 64 * k) (len := 64) (cap := cap - 64 * k) Tryd.tOk rfl rfl (.some rfl rfl) (.some rfl (by omega)) (by omega) (by omega) (by rw [offOf_lt (by omega)]; omega) (by omega) rfl) ?_
    have sl : IsSl w6 1 (.slice (some ⟨b', o' + 64 * k, none⟩) 64 (cap - 64 * k)) 64 (bytesV (((pad l).drop (64 * k)).take 64)) := by
      refine .row ?_ (by rw [bytesV_length, List.length_take, List.length_drop]; omega) (by omega)
      rw [← bytesV_take, ← bytesV_drop]
      exact ((hr.extE X6).drop _).take _
    refine Asy.val rfl rfl rfl rfl (fun w' X' => OpE.call rfl (rblock_ok (run init8 (pad l) k) (((pad l).drop (64 * k)).take 64) _ _ (by rw [List.length_take, List.length_drop]; omega) (sl.extE X'))) ?_
    refine Asy.tail (by kernel_rfl) ?_
    intro w7 X7
    simp only [satsAll]
    have Y7 := X6.trans X7
    have e8 : run init8 (pad l) (k + 1) = block (run init8 (pad l) k) (((pad l).drop (64 * k)).take 64) := rfl
    rw [← e8]
    refine RunL.store (v := .agg (vals (run init8 (pad l) (k + 1)).l).toArray) Tryd.tOk rfl rfl rfl rfl rfl (V5.ext Y7 id) rfl rfl fun w8 t8 => ?_
    have X8 : Ext w w8 := (X5.trans Y7).write t8.ext (by intro i hi hlt; subst hi; omega)
    have D8 := (D5.ext Y7 id).ext t8.ext (by omega)
    have V8 : Blk w8 B3 (vals (run init8 (pad l) (k + 1)).l) 91 := t8.at_
    have O8 := ownsRow_ext (ownsRow_ext O5 Y7 fun _ _ h => h) t8.ext (by intro j hj e; have := ownsRow_ge O5 hj; omega)
    repeat (first | refine RunL.pureI Tryd.tOk rfl rfl rfl (by (first | exact wr_i64 (by omega) (by omega) | exact wm_i64 (by omega) | exact wq_i64 (by omega) (by omega) (by omega) | rfl)) ?_ | refine RunE.region ?_ | refine RunL.nil ?_ | refine RunE.inBlock ?_)
    refine RunE.weaken (by
      refine Sub.cons rfl (Sub.cons rfl (Sub.cons rfl (Sub.cons ?_ (Sub.nil _))))
      rw [show ((64 * (k + 1) : Nat) : Int) = ((64 * k : Nat) : Int) + 64 by omega]; rfl) (again (k + 1) _ (by omega) ⟨by omega, X8, D8, V8, O8⟩)
  · have hkn : k = (pad l).length / 64 := by omega
    clear again
    have hsha : sha l = dig (run init8 (pad l) k) := by rw [sha, hkn]
    rw [hsha]
    generalize run init8 (pad l) k = S at V5 ⊢
    repeat (first | refine RunL.pure Tryd.tOk rfl rfl rfl ?_ | refine RunE.seq ?_ | refine RunE.region ?_ | refine RunE.exit rfl ?_)
    refine RunL.alloc Tryd.tOk rfl rfl rfl fun B6 w6 a6 => ?_
    have hB6 := a6.eq
    have y5 := X5.size
    have lt2 := D5.lt
    have lt3 := V5.lt
    refine RunL.store (v := .agg (bytesV (List.replicate 32 0)).toArray) Tryd.tOk rfl rfl rfl rfl rfl (cs := List.replicate 32 (.int .u8 0)) a6.at_ rfl rfl fun w7 t7 => ?_
    have X7 : Ext w w7 := (X5.trans a6.ext).write t7.ext (by intro i hi hlt; subst hi; omega)
    have D7 := (D5.ext a6.ext id).ext t7.ext (by omega)
    have V7 := (V5.ext a6.ext id).ext t7.ext (by omega)
    have G7 : Blk w7 B6 (bytesV ((dig S).take 0 ++ List.replicate (32 - 0) 0)) 23 := t7.at_
    clear a6 t7 X5 D5 V5 O5
    have hdl := dig_length S
    repeat (first | refine RunL.pureI Tryd.tOk rfl rfl rfl (by (first | exact wr_i64 (by omega) (by omega) | exact wm_i64 (by omega) | exact wq_i64 (by omega) (by omega) (by omega) | rfl)) ?_ | refine RunE.seq ?_ | refine RunE.region ?_ | refine RunL.nil ?_ | refine RunE.block ?_)
    refine RunE.loop (ι := Nat) (fun i => [(2, .pointer (some ⟨B2, 0, none⟩)), (3, .pointer (some ⟨B3, 0, none⟩)), (6, .pointer (some ⟨B6, 0, none⟩)), (7, .int .i64 (i : Int))])
      (fun i w' => i ≤ 32 ∧ Ext w w' ∧ Blk w' B2 (bytesV (List.replicate 32 0)) 23 ∧ Blk w' B3 (vals S.l) 91 ∧ Blk w' B6 (bytesV ((dig S).take i ++ List.replicate (32 - i) 0)) 23) (fun i => 32 - i) 0 (by repeat (first | exact Sub.nil _ | refine Sub.cons rfl ?_)) ⟨by omega, X7, D7, V7, G7⟩ ?_
    clear X7 D7 V7 G7
    rintro i u0 ⟨hi, X0, D0, V0, G0⟩ again
    repeat (first | refine RunL.pureI Tryd.tOk rfl rfl rfl (by (first | exact wr_i64 (by omega) (by omega) | exact wm_i64 (by omega) | exact wq_i64 (by omega) (by omega) (by omega) | rfl)) ?_ | refine RunL.pure Tryd.tOk rfl rfl rfl ?_ | refine RunE.seq ?_ | refine RunE.region ?_ | refine RunL.nil ?_)
    refine RunE.cond rfl (fun hlt32 => ?_) (fun hlt32 => ?_) <;> (first | replace hlt32 := of_decide_eq_true hlt32 | replace hlt32 := of_decide_eq_false hlt32 | replace hlt32 := beq_iff_eq.1 hlt32 | replace hlt32 := beq_eq_false_iff_ne.1 hlt32 | replace hlt32 := bne_iff_ne.1 hlt32 | replace hlt32 := bne_eq_false_iff_eq.1 hlt32 | skip)
    · have hi32 : i < 32 := by omega
      have h24 : (24 : Int) - 8 * ((i : Int) % 4) = ((24 - 8 * (i % 4) : Nat) : Int) := by omega
      repeat (first | refine RunL.pureI Tryd.tOk rfl rfl rfl (by (first | exact wr_i64 (by omega) (by omega) | exact wm_i64 (by omega) | exact wq_i64 (by omega) (by omega) (by omega) | rfl)) ?_ | refine RunE.seq ?_ | refine RunE.region ?_ | refine RunE.block ?_ | refine RunE.skip ?_)
      refine RunL.val rfl rfl rfl (OpV.indexA1 Tryd.tOk (i / 4) rfl rfl rfl (by omega) (by omega)) ?_
      refine RunL.val rfl rfl rfl (OpV.load1 (v := .int .u32 ((S.l.getD (i / 4) 0).toNat : Int)) Tryd.tOk rfl rfl rfl (by rw [Nat.zero_add]; exact V0.cell (vals_get' (by show i / 4 < 8; omega)))) ?_
      repeat (first | refine RunL.pureI Tryd.tOk rfl rfl rfl (by (first | exact (congrArg IntKind.i64.wrap h24).trans (wr_i64 (by omega) (by omega)) | exact u32_shr' _ _ (by omega) | exact u8_of_nat _ | exact wr_i64 (by omega) (by omega) | exact wm_i64 (by omega) | exact wq_i64 (by omega) (by omega) (by omega) | rfl)) ?_)
      refine RunL.val rfl rfl rfl (OpV.indexA1 Tryd.tOk i rfl rfl rfl rfl (by omega)) ?_
      have eG : (dig S).take i ++ List.replicate (32 - i) 0 = (dig S).take i ++ 0 :: List.replicate (32 - (i + 1)) 0 := by rw [show 32 - i = (32 - (i + 1)) + 1 by omega, List.replicate_succ]
      rw [eG] at G0
      refine RunL.store Tryd.tOk rfl rfl rfl rfl rfl G0 (by simp [bytesV_length, Value.cells, hdl]; omega) rfl fun u1 t1 => ?_
      have X1 : Ext w u1 := X0.write t1.ext (by intro i hi hlt; subst hi; omega)
      have D1 := D0.ext t1.ext (by omega)
      have V1 := V0.ext t1.ext (by omega)
      have G1 : Blk u1 B6 (bytesV ((dig S).take (i + 1) ++ List.replicate (32 - (i + 1)) 0)) 23 := by
        have := t1.at_
        have e := set_byte ((dig S).take i) (List.replicate (32 - (i + 1)) 0) 0 (UInt8.ofNat ((S.l.getD (i / 4) 0).toNat / 2 ^ (24 - 8 * (i % 4)))) i (by rw [List.length_take, hdl]; omega)
        unfold Blk
        rw [List.take_add_one, dig_get S i hi32, List.append_assoc]
        rw [Nat.zero_add] at this
        rw [this]
        exact congrArg (fun x : List Value => some (Obj.cells x.toArray 23 (0, 0))) e
      repeat (first | refine RunL.pureI Tryd.tOk rfl rfl rfl (by (first | exact wr_i64 (by omega) (by omega) | exact wm_i64 (by omega) | exact wq_i64 (by omega) (by omega) (by omega) | rfl)) ?_ | refine RunE.region ?_ | refine RunL.nil ?_ | refine RunE.inBlock ?_)
      exact RunE.weaken (by repeat (first | exact Sub.nil _ | refine Sub.cons rfl ?_)) (again (i + 1) _ (by omega) ⟨by omega, X1, D1, V1, G1⟩)
    · have hi32 : i = 32 := by omega
      subst hi32
      have Gf : Blk u0 B6 (bytesV (dig S)) 23 := by
        rw [List.take_of_length_le (by omega)] at G0; simpa using G0
      clear G0
      generalize dig S = D at Gf hdl ⊢
      repeat (first | refine RunE.seq ?_ | refine RunE.region ?_ | refine RunE.exit rfl ?_)
      refine RunL.val rfl rfl rfl (OpV.loadN (cs := bytesV D) Tryd.tOk rfl rfl rfl (by rw [bytesV_length]; exact hdl) Gf.row) ?_
      refine RunL.store (v := .agg (bytesV D).toArray) Tryd.tOk rfl rfl rfl rfl (by simp [Value.cells, bytesV_length, hdl]) D0 (by simp [Value.cells, bytesV_length, hdl]) (by simp [Value.cells, bytesV_plain]) fun u2 t2 => ?_
      have X2 : Ext w u2 := X0.write t2.ext (by intro i hi hlt; subst hi; omega)
      have D2 : Blk u2 B2 (bytesV D) 23 := by
        have := t2.at_
        rw [show (Value.agg (bytesV D).toArray).cells.toList = bytesV D from rfl, setAt_all _ _ (by simp [bytesV_length, hdl])] at this
        exact this
      repeat (first | refine RunL.nil ?_)
      exact RunE.retFn Tryd.func58 (.cell rfl (.agg Tryd.tOk rfl rfl (by rw [bytesV_length]; exact hdl) D2.row) .nil) ⟨rfl, X2⟩
end Go.Sg
end
section
/- The reference's tagged digest and hash. -/
namespace Go.Sg
open Go.Rn Go.Sha Go.Proofs
attribute [local irreducible] Go.Rn.RunL Go.Rn.RunE Go.Rn.Asy Go.Rn.OpV Go.Rn.OpE Go.Rn.ExecE

set_option maxRecDepth 4000 in
theorem rtagged_ok (tag : ByteArray) (v : Value) (l : List UInt8) (w : World) (ht : tag.size ≤ 1000000) (hv : IsSl w 1 v l.length (bytesV l)) (hl : l.length ≤ 900000) :
    Rets Tryd.prog 29 [.string tag, v] w fun r w' => r = .agg (bytesV (tagged tag.data.toList l)).toArray ∧ Ext w w' := by
  refine RetsX.of (nt := 15) Tryd.func29 (by kernel_rfl) rfl rfl (by simp) (by simp only [argEnv]; rfl) ?_
  repeat (first | refine RunE.seq ?_ | refine RunE.region ?_)
  refine RunL.alloc Tryd.tOk rfl rfl rfl fun B4 w1 a1 => ?_
  repeat (first | refine RunL.pure Tryd.tOk rfl rfl rfl ?_ | refine RunE.seq ?_ | refine RunE.region ?_ | refine RunL.nil ?_)
  refine RunL.ex rfl rfl rfl (OpE.s2b Tryd.tOk rfl rfl rfl rfl) ?_
  rintro _ w2 ⟨B, cap, rfl, X2, hB, hr, hc⟩
  have hlen : tag.data.toList.length = tag.size := rfl
  have Y2 := a1.ext.trans X2
  refine RunL.call rfl rfl rfl (rsum_ok _ tag.data.toList w2 (by rw [hlen]; exact .row hr (by rw [bytesV_length, hlen, Nat.mul_one]) hc) (by omega)) ?_
  rintro _ w3 ⟨rfl, X3⟩
  have Y3 := Y2.trans X3
  refine RunL.alloc Tryd.tOk rfl rfl rfl fun B5 w4 a4 => ?_
  have hsl := sha_length tag.data.toList
  unfold tagged
  generalize sha tag.data.toList = D at hsl ⊢
  refine RunL.store (v := .agg (bytesV D).toArray) Tryd.tOk rfl rfl rfl rfl (by simp [Value.cells, bytesV_length, hsl]) (cs := List.replicate 32 (.int .u8 0)) a4.at_ (by simp [Value.cells, bytesV_length, hsl]) (by simp [Value.cells, bytesV_plain]) fun w5 t5 => ?_
  have D5 : Blk w5 B5 (bytesV D) 23 := by
    have := t5.at_
    rw [show (Value.agg (bytesV D).toArray).cells.toList = bytesV D from rfl, setAt_all _ _ (by simp [bytesV_length, hsl])] at this
    exact this
  have hB4 := a1.eq
  have hB5 := a4.eq
  have hs1 := a1.size
  have hs4 := a4.size
  have z1 := X2.size
  have z2 := X3.size
  have X5 : Ext w w5 := (Y3.trans a4.ext).write t5.ext (by intro i hi hlt; subst hi; omega)
  have R4 : Blk w5 B4 (bytesV (List.replicate 32 0)) 23 := Blk.ext (Blk.ext (Blk.ext (w := w1) (cs := List.replicate 32 (.int .u8 0)) a1.at_ (X2.trans X3) id) a4.ext id) t5.ext (by omega)
  clear a1 a4 t5 Y3 Y2
  repeat (first | refine RunE.seq ?_ | refine RunE.region ?_ | refine RunL.nil ?_)
  refine RunL.ex rfl rfl rfl (OpE.buildSl Tryd.tOk [] rfl rfl rfl rfl rfl rfl (by simp)) ?_
  rintro _ w6 ⟨B6, rfl, a6⟩
  have O6 := ownsRow_added (n := 0) (sz := 1) a6 (Nat.le_refl _) rfl (by simp [maxLen])
  have X6 := a6.ext
  have D6 := D5.ext X6 id
  refine RunL.val rfl rfl rfl (OpV.sliceA0 (hi := 32) Tryd.tOk rfl rfl .none .none (by decide)) ?_
  have sl5 : IsSl w6 1 (.slice (some ⟨B5, 0, none⟩) 32 32) 32 (bytesV D) := .row D6.row (by rw [bytesV_length, hsl]) (by omega)
  refine RunL.ex rfl rfl rfl (OpE.append Tryd.tOk rfl rfl rfl rfl rfl rfl O6 sl5 (bytesV_plain _) (by decide) (by omega) (by have := a6.eq; have := a6.size; omega)) ?_
  rintro v7 w7 ⟨O7, E7⟩
  have hb6 := a6.eq
  have X7 : Ext w5 w7 := X6.write E7 (by intro i hi hlt; have := ownsRow_ge O6 hi; omega)
  repeat (first | refine RunL.pure Tryd.tOk rfl rfl rfl ?_)
  refine RunL.ex rfl rfl rfl (OpE.append Tryd.tOk rfl rfl rfl rfl rfl rfl O7 (hv.extE (X5.trans X7)) (bytesV_plain _) (by show _ * 1 ≤ _; omega) (by omega) (by have := X7.size; omega)) ?_
  rintro v8 w8 ⟨O8, E8⟩
  have X8 : Ext w5 w8 := X7.write E8 (by intro i hi hlt; have := ownsRow_ge O7 hi; omega)
  have O8' : IsSl w8 1 v8 (D ++ l).length (bytesV (D ++ l)) := by
    have := isSl_own O8
    rw [List.length_append, hsl, bytesV_append]
    simpa [cellsAll] using this
  refine RunL.call rfl rfl rfl (rsum_ok _ (D ++ l) w8 O8' (by simp [hsl]; omega)) ?_
  rintro _ w9 ⟨rfl, X9⟩
  have Y9 := X8.trans X9
  have R9 := R4.ext Y9 id
  have hsl2 := sha_length (D ++ l)
  generalize sha (D ++ l) = G at hsl2 ⊢
  refine RunL.store (v := .agg (bytesV G).toArray) Tryd.tOk rfl rfl rfl rfl (by simp [Value.cells, bytesV_length, hsl2]) R9 (by simp [Value.cells, bytesV_length, hsl2]) (by simp [Value.cells, bytesV_plain]) fun wa ta => ?_
  have Xa : Ext w wa := (X5.trans Y9).write ta.ext (by intro i hi hlt; subst hi; omega)
  have Da : Blk wa B4 (bytesV G) 23 := by
    have := ta.at_
    rw [show (Value.agg (bytesV G).toArray).cells.toList = bytesV G from rfl, setAt_all _ _ (by simp [bytesV_length, hsl2])] at this
    exact this
  repeat (first | refine RunL.nil ?_)
  exact RunE.retFn Tryd.func29 (.cell rfl (.agg Tryd.tOk rfl rfl (by rw [bytesV_length]; exact hsl2) Da.row) .nil) ⟨rfl, Xa⟩

theorem low7_get (d : List UInt8) (j : Nat) (hj : 0 < j) : (low7 d).getD j 0 = d.getD j 0 := by
  cases d with
  | nil => rfl
  | cons b r => cases j with
    | zero => omega
    | succ j => rfl
theorem hashN_bound (L : List UInt8) (hl : 8 ≤ L.length) (hb : hashN L 8 < 9223372036854775808) (i : Nat) (hi : i < 8) : hashN L i < 36028797018963968 := by
  have mono : ∀ k j, j + k ≤ 8 → hashN L j * 256 ^ k ≤ hashN L (j + k) := by
    intro k
    induction k with
    | zero => intro j _; simp
    | succ k ih =>
      intro j hj
      have h1 := ih j (by omega)
      have h2 := hashN_succ (d := L) (j := j + k) (by omega)
      rw [show j + (k + 1) = j + k + 1 by omega, h2, Nat.pow_succ, ← Nat.mul_assoc]
      omega
  have h1 := mono (8 - i) i (by omega)
  rw [show i + (8 - i) = 8 by omega] at h1
  have h2 : 256 ^ 1 ≤ 256 ^ (8 - i) := Nat.pow_le_pow_right (by decide) (by omega)
  have h3 := Nat.mul_le_mul_left (hashN L i) h2
  omega

set_option maxRecDepth 4000 in
theorem rhash_ok (tag : ByteArray) (v : Value) (l : List UInt8) (w : World) (ht : tag.size ≤ 1000000) (hv : IsSl w 1 v l.length (bytesV l)) (hl : l.length ≤ 900000) :
    Rets Tryd.prog 61 [.string tag, v] w fun r w' => r = .int .i64 (hashS tag.data.toList l) ∧ Ext w w' := by
  refine RetsX.of (nt := 28) Tryd.func61 (by kernel_rfl) rfl rfl (by simp) (by simp only [argEnv]; rfl) ?_
  repeat (first | refine RunL.pureI Tryd.tOk rfl rfl rfl (by (first | exact wr_i64 (by omega) (by omega) | exact wm_i64 (by omega) | exact wq_i64 (by omega) (by omega) (by omega) | rfl)) ?_ | refine RunL.pure Tryd.tOk rfl rfl rfl ?_ | refine RunE.seq ?_ | refine RunE.region ?_ | refine RunL.nil ?_)
  refine RunL.call rfl rfl rfl (rtagged_ok _ _ _ _ ht hv hl) ?_
  rintro _ w1 ⟨rfl, X1⟩
  refine RunL.alloc Tryd.tOk rfl rfl rfl fun B w2 a2 => ?_
  unfold hashS
  have hsl := tagged_length tag.data.toList l
  generalize tagged tag.data.toList l = D at hsl ⊢
  refine RunL.store (v := .agg (bytesV D).toArray) Tryd.tOk rfl rfl rfl rfl (by simp [Value.cells, bytesV_length, hsl]) (cs := List.replicate 32 (.int .u8 0)) a2.at_ (by simp [Value.cells, bytesV_length, hsl]) (by simp [Value.cells, bytesV_plain]) fun w3 t3 => ?_
  have D3 : Blk w3 B (bytesV D) 23 := by
    have := t3.at_
    rw [show (Value.agg (bytesV D).toArray).cells.toList = bytesV D from rfl, setAt_all _ _ (by simp [bytesV_length, hsl])] at this
    exact this
  have hB := a2.eq
  have z1 := X1.size
  have X3 : Ext w w3 := (X1.trans a2.ext).write t3.ext (by intro i hi hlt; subst hi; omega)
  clear a2 t3
  have hb64 : hashNum D < 9223372036854775808 := hashNum_lt _ hsl
  have hlen : (low7 D).length = 32 := by rw [low7_length]; exact hsl
  unfold hashNum at hb64 ⊢
  have hbd := hashN_bound (low7 D) (by omega) hb64
  repeat (first | refine RunL.val rfl rfl rfl (OpV.indexAK Tryd.tOk rfl rfl rfl rfl) ?_ | refine RunE.seq ?_ | refine RunE.region ?_ | refine RunL.nil ?_)
  refine RunL.val rfl rfl rfl (OpV.load1 (v := .int .u8 ((D.getD 0 0).toNat : Int)) Tryd.tOk rfl rfl rfl (D3.cell (bytesV_get (by omega)))) ?_
  have h1 : ((D.getD 0 0).toNat : Int) % 128 = (hashN (low7 D) 1 : Nat) := by
    match D, hsl with
    | [], h => simp at h
    | b :: r, _ =>
      have : (UInt8.ofNat (b.toNat % 128)).toNat = b.toNat % 128 := by rw [UInt8.toNat_ofNat']; omega
      simp [hashN, low7]; omega
  repeat (first | refine RunL.pureI Tryd.tOk rfl rfl rfl (by (first | exact i64_u8 _ | exact (wm_i64 (by omega)).trans h1 | exact wr_i64 (by omega) (by omega) | exact wm_i64 (by omega) | exact wq_i64 (by omega) (by omega) (by omega) | rfl)) ?_ | refine RunE.seq ?_ | refine RunE.region ?_ | refine RunL.nil ?_ | refine RunE.block ?_)
  refine RunE.loop (ι := Nat) (fun i => [(5, .pointer (some ⟨B, 0, none⟩)), (6, .int .i64 (hashN (low7 D) (i + 1) : Int)), (7, .int .i64 ((1 + i : Nat) : Int))])
    (fun i w' => w3 = w' ∧ i ≤ 7) (fun i => 7 - i) 0 (by repeat (first | exact Sub.nil _ | refine Sub.cons rfl ?_)) ⟨rfl, by omega⟩ ?_
  rintro i _ ⟨rfl, hi⟩ again
  repeat (first | refine RunL.pureI Tryd.tOk rfl rfl rfl (by (first | exact wr_i64 (by omega) (by omega) | exact wm_i64 (by omega) | exact wq_i64 (by omega) (by omega) (by omega) | rfl)) ?_ | refine RunL.pure Tryd.tOk rfl rfl rfl ?_ | refine RunE.seq ?_ | refine RunE.region ?_ | refine RunL.nil ?_)
  refine RunE.cond rfl (fun hlt => ?_) (fun hlt => ?_) <;> (first | replace hlt := of_decide_eq_true hlt | replace hlt := of_decide_eq_false hlt | replace hlt := beq_iff_eq.1 hlt | replace hlt := beq_eq_false_iff_ne.1 hlt | replace hlt := bne_iff_ne.1 hlt | replace hlt := bne_eq_false_iff_eq.1 hlt | skip)
  · have hi8 : i < 7 := by omega
    have hs := hashN_succ (d := low7 D) (j := i + 1) (by omega)
    have hcl := (D.getD (i + 1) 0).toNat_lt
    have hbi := hbd (i + 1) (by omega)
    rw [low7_get D _ (by omega)] at hs
    repeat (first | refine RunL.pureI Tryd.tOk rfl rfl rfl (by (first | exact i64_mul _ 256 (by omega) | exact wr_i64 (by omega) (by omega) | exact wm_i64 (by omega) | exact wq_i64 (by omega) (by omega) (by omega) | rfl)) ?_ | refine RunE.seq ?_ | refine RunE.region ?_ | refine RunE.block ?_ | refine RunE.skip ?_)
    refine RunL.val rfl rfl rfl (OpV.indexA1 Tryd.tOk (i + 1) rfl rfl rfl (by omega) (by omega)) ?_
    refine RunL.val rfl rfl rfl (OpV.load1 (v := .int .u8 ((D.getD (i + 1) 0).toNat : Int)) Tryd.tOk rfl rfl rfl (by rw [Nat.zero_add]; exact D3.cell (bytesV_get (by omega)))) ?_
    repeat (first | refine RunL.pureI Tryd.tOk rfl rfl rfl (by (first | exact i64_u8 _ | exact i64_add _ _ (by omega) | exact wr_i64 (by omega) (by omega) | exact wm_i64 (by omega) | exact wq_i64 (by omega) (by omega) (by omega) | rfl)) ?_ | refine RunE.region ?_ | refine RunL.nil ?_ | refine RunE.inBlock ?_)
    refine RunE.weaken (by
      refine Sub.cons rfl (Sub.cons ?_ (Sub.cons rfl (Sub.nil _)))
      rw [hs]; rfl) (again (i + 1) _ (by omega) ⟨rfl, by omega⟩)
  · have hi8 : i = 7 := by omega
    subst hi8
    repeat (first | refine RunL.pureI Tryd.tOk rfl rfl rfl (by (first | exact wr_i64 (by omega) (by omega) | exact wm_i64 (by omega) | exact wq_i64 (by omega) (by omega) (by omega) | rfl)) ?_ | refine RunE.seq ?_ | refine RunE.region ?_ | refine RunL.nil ?_ | refine RunE.exit rfl ?_)
    refine RunE.retFn Tryd.func61 (.tmp rfl .nil) ⟨?_, X3⟩
    simp only [oneOr]
    congr 1
end Go.Sg
end
section
/- Numbers: primes, Gauss's count, the law of quadratic reciprocity, Euler's criterion, the group of the squares modulo P. Plain mathematics: no program here. -/
namespace Go.NT

/-! ### Primes -/
def IsPrime (p : Nat) : Prop := 2 ≤ p ∧ ∀ d, d ∣ p → d = 1 ∨ d = p
def noDiv (p : Nat) : Nat → Bool
  | 0 => true
  | k + 1 => p % (k + 2) != 0 && noDiv p k
theorem noDiv_spec {p : Nat} : ∀ {k : Nat}, noDiv p k = true → ∀ d, 2 ≤ d → d < k + 2 → ¬ d ∣ p
  | 0, _, d, h1, h2, _ => by omega
  | k + 1, h, d, h1, h2, hd => by
    simp only [noDiv, Bool.and_eq_true, bne_iff_ne] at h
    rcases Nat.lt_or_ge d (k + 2) with h' | h'
    · exact noDiv_spec h.2 d h1 h' hd
    · have : d = k + 2 := by omega
      subst this
      exact h.1 (Nat.mod_eq_zero_of_dvd hd)
theorem prime_of_noDiv {p k : Nat} (hp : 2 ≤ p) (h : noDiv p k = true) (hk : p < (k + 2) * (k + 2)) : IsPrime p := by
  refine ⟨hp, fun d hd => ?_⟩
  obtain ⟨e, he⟩ := hd
  have hd0 : d ≠ 0 := by rintro rfl; simp at he; omega
  have he0 : e ≠ 0 := by rintro rfl; simp at he; omega
  by_cases h1 : d = 1
  · exact .inl h1
  by_cases h2 : e = 1
  · subst h2; right; omega
  exfalso
  rcases Nat.lt_or_ge d (k + 2) with hlt | hge
  · exact noDiv_spec h d (by omega) hlt ⟨e, he⟩
  · rcases Nat.lt_or_ge e (k + 2) with hlt | hge'
    · exact noDiv_spec h e (by omega) hlt ⟨d, by rw [he, Nat.mul_comm]⟩
    · have := Nat.mul_le_mul hge hge'
      omega

theorem coprime_of_prime {p a : Nat} (hp : IsPrime p) (h : ¬ p ∣ a) : Nat.Coprime a p := by
  have h1 := hp.2 (Nat.gcd a p) (Nat.gcd_dvd_right a p)
  rcases h1 with h1 | h1
  · exact h1
  · exfalso; apply h; rw [← h1]; exact Nat.gcd_dvd_left a p
theorem prime_mul {p a b : Nat} (hp : IsPrime p) (h : p ∣ a * b) : p ∣ a ∨ p ∣ b := by
  by_cases ha : p ∣ a
  · exact .inl ha
  · exact .inr (Nat.Coprime.dvd_of_dvd_mul_left (coprime_of_prime hp ha).symm h)

/-! ### Big sums -/
section
variable {α : Type} (op : α → α → α) (e : α)
def bigTo (f : Nat → α) : Nat → α
  | 0 => e
  | k + 1 => op (bigTo f k) (f (k + 1))
end
def sumTo (f : Nat → Nat) (h : Nat) : Nat := bigTo (· + ·) 0 f h

theorem bigTo_congr {α : Type} {op : α → α → α} {e : α} {f g : Nat → α} : ∀ {h : Nat}, (∀ k, 1 ≤ k → k ≤ h → f k = g k) → bigTo op e f h = bigTo op e g h
  | 0, _ => rfl
  | h + 1, hh => by simp only [bigTo]; rw [bigTo_congr (fun k h1 h2 => hh k h1 (by omega)), hh (h + 1) (by omega) (by omega)]

theorem no_inj : ∀ (h : Nat) (m : Nat → Nat), (∀ k, 1 ≤ k → k ≤ h + 1 → 1 ≤ m k ∧ m k ≤ h) → (∀ j k, 1 ≤ j → j ≤ h + 1 → 1 ≤ k → k ≤ h + 1 → m j = m k → j = k) → False
  | 0, m, hr, _ => by have := hr 1 (by omega) (by omega); omega
  | h + 1, m, hr, hi => by
    refine no_inj h (fun k => if m k = h + 1 then m (h + 2) else m k) (fun k h1 h2 => ?_) (fun j k j1 j2 k1 k2 he => ?_)
    · have a1 := hr k h1 (by omega)
      have a2 := hr (h + 2) (by omega) (by omega)
      split
      · rename_i e
        have : m (h + 2) ≠ h + 1 := fun e2 => by have := hi k (h + 2) h1 (by omega) (by omega) (by omega) (by omega); omega
        omega
      · omega
    · split at he <;> split at he
      · exact hi j k j1 (by omega) k1 (by omega) (by omega)
      · have := hi (h + 2) k (by omega) (by omega) k1 (by omega) he; omega
      · have := hi j (h + 2) j1 (by omega) (by omega) (by omega) he; omega
      · exact hi j k j1 (by omega) k1 (by omega) he

section
variable {α : Type} {op : α → α → α} {e : α} (hc : ∀ a b, op a b = op b a) (ha : ∀ a b c, op (op a b) c = op a (op b c))
include hc ha
theorem bigTo_swap {g g' : Nat → α} {k0 : Nat} : ∀ {h : Nat}, 1 ≤ k0 → k0 ≤ h → (∀ k, 1 ≤ k → k ≤ h → k ≠ k0 → g k = g' k) → op (bigTo op e g h) (g' k0) = op (bigTo op e g' h) (g k0)
  | 0, h1, h2, _ => by omega
  | h + 1, h1, h2, hh => by
    simp only [bigTo]
    by_cases hk : k0 = h + 1
    · subst hk
      rw [bigTo_congr (fun k a b => hh k a (by omega) (by omega)), ha, ha, hc (g (h + 1))]
    · have ih := bigTo_swap (h := h) h1 (by omega) (fun k a b c => hh k a (by omega) c)
      rw [ha, hc (g (h + 1)), ← ha, ih, ha, hc (g k0), ← ha, hh (h + 1) (by omega) (by omega) (fun e => hk e.symm)]

theorem bigTo_perm {f : Nat → α} : ∀ (h : Nat) (m : Nat → Nat), (∀ k, 1 ≤ k → k ≤ h → 1 ≤ m k ∧ m k ≤ h) → (∀ j k, 1 ≤ j → j ≤ h → 1 ≤ k → k ≤ h → m j = m k → j = k) →
    bigTo op e (fun k => f (m k)) h = bigTo op e f h
  | 0, _, _, _ => rfl
  | h + 1, m, hr, hi => by
    by_cases hcc : m (h + 1) = h + 1
    · simp only [bigTo, hcc]
      rw [bigTo_perm h m (fun k h1 h2 => ?_) (fun j k a b c d => hi j k a (by omega) c (by omega))]
      have := hr k h1 (by omega)
      have h3 : m k ≠ h + 1 := fun e => by have := hi k (h + 1) h1 (by omega) (by omega) (by omega) (by omega); omega
      omega
    · have hcr := hr (h + 1) (by omega) (by omega)
      by_cases hex : ∃ k0, 1 ≤ k0 ∧ k0 ≤ h ∧ m k0 = h + 1
      · obtain ⟨k0, hk1, hk2, hk3⟩ := hex
        have uniq : ∀ k, 1 ≤ k → k ≤ h → k ≠ k0 → m k ≠ h + 1 := fun k a b c e => c (hi k k0 a (by omega) hk1 (by omega) (by omega))
        have ih := bigTo_perm (f := f) h (fun k => if m k = h + 1 then m (h + 1) else m k) (fun k h1 h2 => by
          have := hr k h1 (by omega); split <;> omega) (fun j k j1 j2 k1 k2 he => by
          split at he <;> split at he
          · exact hi j k j1 (by omega) k1 (by omega) (by omega)
          · have := hi (h + 1) k (by omega) (by omega) k1 (by omega) he; omega
          · have := hi j (h + 1) j1 (by omega) (by omega) (by omega) he; omega
          · exact hi j k j1 (by omega) k1 (by omega) he)
        simp only [bigTo]
        rw [← ih]
        have sw := bigTo_swap (e := e) hc ha (g := fun k => f (m k)) (g' := fun k => f (if m k = h + 1 then m (h + 1) else m k)) hk1 hk2 (fun k a b c => by simp only [if_neg (uniq k a b c)])
        simp only [hk3, if_true] at sw
        exact sw
      · exfalso
        refine no_inj h m (fun k h1 h2 => ?_) (fun j k a b c d => hi j k a b c d)
        have := hr k h1 h2
        by_cases hk : k = h + 1
        · subst hk; omega
        · have : m k ≠ h + 1 := fun e => hex ⟨k, h1, by omega, e⟩
          omega
end

theorem sumTo_perm {f : Nat → Nat} (h : Nat) (m : Nat → Nat) (hr : ∀ k, 1 ≤ k → k ≤ h → 1 ≤ m k ∧ m k ≤ h) (hi : ∀ j k, 1 ≤ j → j ≤ h → 1 ≤ k → k ≤ h → m j = m k → j = k) :
    sumTo (fun k => f (m k)) h = sumTo f h := bigTo_perm Nat.add_comm Nat.add_assoc h m hr hi
theorem sumTo_succ (f : Nat → Nat) (h : Nat) : sumTo f (h + 1) = sumTo f h + f (h + 1) := rfl
theorem sumTo_congr {f g : Nat → Nat} {h : Nat} (hh : ∀ k, 1 ≤ k → k ≤ h → f k = g k) : sumTo f h = sumTo g h := bigTo_congr hh
theorem sumTo_add (f g : Nat → Nat) : ∀ h, sumTo (fun k => f k + g k) h = sumTo f h + sumTo g h
  | 0 => rfl
  | h + 1 => by simp only [sumTo_succ, sumTo_add f g h]; omega
theorem sumTo_mul (c : Nat) (f : Nat → Nat) : ∀ h, sumTo (fun k => c * f k) h = c * sumTo f h
  | 0 => rfl
  | h + 1 => by simp only [sumTo_succ, sumTo_mul c f h, Nat.mul_add]
theorem sumTo_mod (f g : Nat → Nat) : ∀ h, (∀ k, 1 ≤ k → k ≤ h → f k % 2 = g k % 2) → sumTo f h % 2 = sumTo g h % 2
  | 0, _ => rfl
  | h + 1, hh => by
    have := sumTo_mod f g h (fun k a b => hh k a (by omega))
    have := hh (h + 1) (by omega) (by omega)
    simp only [sumTo_succ]; omega
theorem sumTo_const (c : Nat) : ∀ h, sumTo (fun _ => c) h = c * h
  | 0 => rfl
  | h + 1 => by simp only [sumTo_succ, sumTo_const c h, Nat.mul_add, Nat.mul_one]
theorem sumTo_swap (f : Nat → Nat → Nat) : ∀ (h h' : Nat), sumTo (fun k => sumTo (fun j => f k j) h') h = sumTo (fun j => sumTo (fun k => f k j) h) h'
  | 0, h' => by
    show 0 = sumTo (fun _ => 0) h'
    rw [sumTo_const]; omega
  | h + 1, h' => by
    rw [sumTo_succ, sumTo_swap f h h', ← sumTo_add]
    exact sumTo_congr fun j _ _ => rfl

/-! ### Gauss's count -/
/-- How many of the first (n - 1) / 2 multiples of a leave more than half of n. -/
def G (a n : Nat) : Nat := sumTo (fun k => if a * k % n > n / 2 then 1 else 0) (n / 2)
/-- The least of a remainder and its negative. -/
def lst (a n k : Nat) : Nat := if a * k % n > n / 2 then n - a * k % n else a * k % n

section
variable {a n : Nat} (hn : n % 2 = 1) (hco : Nat.Coprime a n)
include hn hco
theorem rem_pos {k : Nat} (h1 : 1 ≤ k) (h2 : k < n) : 1 ≤ a * k % n := by
  rcases Nat.eq_zero_or_pos (a * k % n) with h | h
  · exfalso
    have hd := Nat.dvd_of_mod_eq_zero h
    have := Nat.Coprime.dvd_of_dvd_mul_left hco.symm hd
    have := Nat.le_of_dvd (by omega) this
    omega
  · exact h
theorem lst_range {k : Nat} (h1 : 1 ≤ k) (h2 : k ≤ n / 2) : 1 ≤ lst a n k ∧ lst a n k ≤ n / 2 := by
  have := rem_pos hn hco h1 (by omega)
  have := Nat.mod_lt (a * k) (by omega : n > 0)
  unfold lst; split <;> omega
theorem lst_inj {j k : Nat} (j1 : 1 ≤ j) (j2 : j ≤ n / 2) (k1 : 1 ≤ k) (k2 : k ≤ n / 2) (he : lst a n j = lst a n k) : j = k := by
  have key : ∀ {j k : Nat}, j ≤ k → k ≤ n / 2 → a * j % n = a * k % n → j = k := by
    intro j k hjk hk hmod
    have hd : n ∣ a * (k - j) := by
      rw [Nat.mul_sub]
      exact Nat.dvd_of_mod_eq_zero (Nat.sub_mod_eq_zero_of_mod_eq hmod.symm)
    have := Nat.Coprime.dvd_of_dvd_mul_left hco.symm hd
    rcases Nat.eq_zero_or_pos (k - j) with h0 | h0
    · omega
    · have := Nat.le_of_dvd h0 this; omega
  have key2 : a * j % n + a * k % n = n → False := by
    intro hs
    have hd : n ∣ a * (j + k) := by
      apply Nat.dvd_of_mod_eq_zero
      rw [Nat.mul_add, Nat.add_mod, hs, Nat.mod_self]
    have := Nat.Coprime.dvd_of_dvd_mul_left hco.symm hd
    have := Nat.le_of_dvd (by omega) this; omega
  have l1 := Nat.mod_lt (a * j) (by omega : n > 0)
  have l2 := Nat.mod_lt (a * k) (by omega : n > 0)
  unfold lst at he
  have fin : a * j % n = a * k % n → j = k := fun h => by
    rcases Nat.le_total j k with h' | h'
    · exact key h' k2 h
    · exact (key h' j2 h.symm).symm
  split at he <;> split at he
  · exact fin (by omega)
  · exact (key2 (by omega)).elim
  · exact (key2 (by omega)).elim
  · exact fin he
end

theorem G_mod (a n : Nat) : G (a % n) n = G a n := by
  unfold G
  refine sumTo_congr fun k _ _ => ?_
  rw [Nat.mod_mul_mod]
theorem G_one {n : Nat} : G 1 n = 0 := by
  unfold G
  rw [sumTo_congr (g := fun _ => 0) (fun k h1 h2 => ?_), sumTo_const]; · omega
  rw [Nat.one_mul, Nat.mod_eq_of_lt (by omega), if_neg (by omega)]

theorem G_mul {a b n : Nat} (hn : n % 2 = 1) (ha : Nat.Coprime a n) (hb : Nat.Coprime b n) : G (a * b) n % 2 = (G a n + G b n) % 2 := by
  have hp : G a n = sumTo (fun k => if a * lst b n k % n > n / 2 then 1 else 0) (n / 2) := by
    unfold G
    exact (sumTo_perm (f := fun k => if a * k % n > n / 2 then 1 else 0) (n / 2) (lst b n) (fun k h1 h2 => lst_range hn hb h1 h2) (fun j k => lst_inj hn hb)).symm
  rw [hp]
  unfold G
  rw [← sumTo_add]
  refine sumTo_mod _ _ _ fun k h1 h2 => ?_
  have hlr := lst_range hn hb h1 h2
  have hra := rem_pos hn ha hlr.1 (by omega)
  have e1 : a * b * k % n = a * (b * k % n) % n := by rw [Nat.mul_assoc, Nat.mul_mod_mod]
  have lb := Nat.mod_lt (b * k) (by omega : n > 0)
  have la := Nat.mod_lt (a * lst b n k) (by omega : n > 0)
  rw [e1]
  by_cases hs : b * k % n > n / 2
  · have hl : lst b n k = n - b * k % n := by unfold lst; rw [if_pos hs]
    rw [hl] at hra la ⊢
    rw [if_pos hs]
    have : a * (b * k % n) % n = n - a * (n - b * k % n) % n := by
      have hsum : (a * (b * k % n) + a * (n - b * k % n)) % n = 0 := by
        rw [← Nat.mul_add, show b * k % n + (n - b * k % n) = n by omega, Nat.mul_mod_left]
      rw [Nat.add_mod] at hsum
      have l3 := Nat.mod_lt (a * (b * k % n)) (by omega : n > 0)
      have hd := Nat.dvd_of_mod_eq_zero hsum
      obtain ⟨q, hq⟩ := hd
      have : q = 1 := by
        rcases q with _ | _ | q
        · simp at hq; omega
        · rfl
        · have : n * (q + 1 + 1) ≥ n * 2 := Nat.mul_le_mul_left n (by omega)
          omega
      subst this; omega
    rw [this]
    split <;> split <;> omega
  · have hl : lst b n k = b * k % n := by unfold lst; rw [if_neg hs]
    rw [hl, if_neg hs]
    simp

def F (a n : Nat) : Nat := sumTo (fun k => a * k / n) (n / 2)
def T (h : Nat) : Nat := sumTo (fun k => k) h
theorem T_eq : ∀ h, 2 * T h = h * (h + 1)
  | 0 => rfl
  | h + 1 => by
    have := T_eq h
    unfold T at this ⊢
    rw [sumTo_succ, Nat.mul_add, this]
    simp only [Nat.mul_add, Nat.add_mul, Nat.mul_one, Nat.one_mul]; omega

theorem gauss_sum {a n : Nat} (hn : n % 2 = 1) (ha : Nat.Coprime a n) : (a * T (n / 2)) % 2 = (F a n + G a n + T (n / 2)) % 2 := by
  have hp : T (n / 2) = sumTo (fun k => lst a n k) (n / 2) := by
    unfold T
    exact (sumTo_perm (f := fun k => k) (n / 2) (lst a n) (fun k h1 h2 => lst_range hn ha h1 h2) (fun j k => lst_inj hn ha)).symm
  conv => rhs; rw [hp]
  unfold F G T
  rw [← sumTo_mul, ← sumTo_add, ← sumTo_add]
  refine sumTo_mod _ _ _ fun k h1 h2 => ?_
  have l := Nat.mod_lt (a * k) (by omega : n > 0)
  have e := Nat.div_add_mod (a * k) n
  have em : n * (a * k / n) % 2 = a * k / n % 2 := by
    rw [Nat.mul_mod, hn, Nat.one_mul, Nat.mod_mod]
  unfold lst
  split <;> omega

theorem G_two {n : Nat} (hn : n % 2 = 1) : G 2 n % 2 = if n % 8 = 3 ∨ n % 8 = 5 then 1 else 0 := by
  have hco : Nat.Coprime 2 n := by
    have := coprime_of_prime (p := 2) (a := n) ⟨by omega, fun d hd => by have := Nat.le_of_dvd (by omega) hd; rcases d with _ | _ | _ | d <;> simp_all⟩ (by omega)
    exact this.symm
  have h := gauss_sum hn hco
  have hF : F 2 n = 0 := by
    unfold F
    rw [sumTo_congr (g := fun _ => 0) (fun k h1 h2 => Nat.div_eq_of_lt (by omega)), sumTo_const]; omega
  rw [hF] at h
  have ht := T_eq (n / 2)
  have hq : ∃ q r, n = 8 * q + r ∧ (r = 1 ∨ r = 3 ∨ r = 5 ∨ r = 7) := ⟨n / 8, n % 8, by omega, by omega⟩
  obtain ⟨q, r, rfl, hr⟩ := hq
  have h4 : (8 * q + r) / 2 = 4 * q + r / 2 := by omega
  rw [h4] at ht h
  generalize T (4 * q + r / 2) = t at ht h
  have hm : ∃ z, (4 * q + r / 2) * (4 * q + r / 2 + 1) = 4 * z + (r / 2) * (r / 2 + 1) := by
    refine ⟨4 * q * q + q * (r / 2) + q * (r / 2 + 1), ?_⟩
    simp only [Nat.add_mul, Nat.mul_add, Nat.mul_assoc, Nat.mul_comm, Nat.mul_left_comm, Nat.mul_one]; omega
  obtain ⟨z, hz⟩ := hm
  rw [hz] at ht
  rcases hr with rfl | rfl | rfl | rfl <;> simp at ht ⊢ <;> omega

theorem G_odd {a n : Nat} (hn : n % 2 = 1) (ha : Nat.Coprime a n) (hodd : a % 2 = 1) : G a n % 2 = F a n % 2 := by
  have h := gauss_sum hn ha
  rw [Nat.mul_mod, hodd, Nat.one_mul, Nat.mod_mod] at h
  omega

theorem floor_count {n x : Nat} (hn : 0 < n) : ∀ H, x / n ≤ H → sumTo (fun j => if n * j ≤ x then 1 else 0) H = x / n := by
  have key : ∀ H, sumTo (fun j => if n * j ≤ x then 1 else 0) H = min H (x / n) := by
    intro H
    induction H with
    | zero => simp [sumTo, bigTo]
    | succ H ih =>
      rw [sumTo_succ, ih]
      by_cases h : n * (H + 1) ≤ x
      · have : H + 1 ≤ x / n := (Nat.le_div_iff_mul_le hn).2 (by rw [Nat.mul_comm]; exact h)
        rw [if_pos h]; omega
      · have : ¬ H + 1 ≤ x / n := fun hh => h (by have := (Nat.le_div_iff_mul_le hn).1 hh; rw [Nat.mul_comm]; exact this)
        rw [if_neg h]; omega
  intro H hH
  rw [key]; omega

theorem F_add {a n : Nat} (hn : n % 2 = 1) (ha : a % 2 = 1) (hco : Nat.Coprime a n) : F a n + F n a = (a / 2) * (n / 2) := by
  have bound : ∀ {a n k : Nat}, n % 2 = 1 → a % 2 = 1 → k ≤ n / 2 → a * k / n ≤ a / 2 := by
    intro a n k hn ha hk
    have h1 : a * k ≤ a * (n / 2) := Nat.mul_le_mul_left a hk
    have h2 : a * k / n < a / 2 + 1 := by
      rw [Nat.div_lt_iff_lt_mul (by omega)]
      have e1 : n = 2 * (n / 2) + 1 := by omega
      have e2 : a = 2 * (a / 2) + 1 := by omega
      generalize n / 2 = p at *
      generalize a / 2 = q at *
      subst e1; subst e2
      have : (q + 1) * (2 * p + 1) = (2 * q + 1) * p + p + q + 1 := by
        simp only [Nat.add_mul, Nat.mul_add, Nat.mul_comm, Nat.mul_left_comm, Nat.mul_one, Nat.one_mul]; omega
      omega
    omega
  have f1 : F a n = sumTo (fun k => sumTo (fun j => if n * j ≤ a * k then 1 else 0) (a / 2)) (n / 2) := by
    unfold F
    exact sumTo_congr fun k h1 h2 => (floor_count (by omega) _ (bound hn ha h2)).symm
  have f2 : F n a = sumTo (fun k => sumTo (fun j => if a * k ≤ n * j then 1 else 0) (a / 2)) (n / 2) := by
    rw [sumTo_swap]
    unfold F
    exact sumTo_congr fun k h1 h2 => (floor_count (by omega) _ (bound ha hn h2)).symm
  rw [f1, f2, ← sumTo_add, sumTo_congr (g := fun _ => a / 2) (fun k h1 h2 => ?_), sumTo_const]
  rw [← sumTo_add, sumTo_congr (g := fun _ => 1) (fun j j1 j2 => ?_), sumTo_const, Nat.one_mul]
  have : n * j ≠ a * k := fun e => by
    have hd : n ∣ a * k := ⟨j, e.symm⟩
    have := Nat.Coprime.dvd_of_dvd_mul_left hco.symm hd
    have := Nat.le_of_dvd (by omega) this
    omega
  split <;> split <;> omega

/-- The law of quadratic reciprocity. -/
theorem G_swap {a n : Nat} (hn : n % 2 = 1) (ha : a % 2 = 1) (hco : Nat.Coprime a n) : G a n % 2 = (G n a + if a % 4 = 3 ∧ n % 4 = 3 then 1 else 0) % 2 := by
  have h1 := G_odd hn hco ha
  have h2 := G_odd ha hco.symm hn
  have h3 := F_add hn ha hco
  have h4 : (a / 2) * (n / 2) % 2 = if a % 4 = 3 ∧ n % 4 = 3 then 1 else 0 := by
    rw [Nat.mul_mod]
    have ea : a / 2 % 2 = if a % 4 = 3 then 1 else 0 := by split <;> omega
    have en : n / 2 % 2 = if n % 4 = 3 then 1 else 0 := by split <;> omega
    rw [ea, en]
    by_cases x1 : a % 4 = 3 <;> by_cases x2 : n % 4 = 3 <;> simp [x1, x2]
  rw [← h4, ← h3]; omega

end Go.NT
namespace Go.NT

set_option maxRecDepth 100000 in
theorem primeP : IsPrime 2147483579 := prime_of_noDiv (k := 46340) (by decide) (by decide +kernel) (by decide)
set_option maxRecDepth 100000 in
theorem primeQ : IsPrime 1073741789 := prime_of_noDiv (k := 32767) (by decide) (by decide +kernel) (by decide)

/-! ### Powers modulo m -/
theorem mul_mod_congr {a a' b b' m : Int} (ha : a % m = a' % m) (hb : b % m = b' % m) : a * b % m = a' * b' % m := by
  rw [Int.mul_emod, ha, hb, ← Int.mul_emod]
theorem pow_mod (a m : Int) : ∀ n : Nat, (a % m) ^ n % m = a ^ n % m
  | 0 => by simp
  | n + 1 => by rw [Int.pow_succ, Int.pow_succ]; exact mul_mod_congr (pow_mod a m n) (by simp)
theorem pow_mod_congr {a b m : Int} (h : a % m = b % m) (n : Nat) : a ^ n % m = b ^ n % m := by rw [← pow_mod a, h, pow_mod]

theorem int_prime_mul {p : Nat} (hp : IsPrime p) {x y : Int} (h : (p : Int) ∣ x * y) : (p : Int) ∣ x ∨ (p : Int) ∣ y := by
  have h' : p ∣ x.natAbs * y.natAbs := by
    have := Int.natAbs_dvd_natAbs.2 h
    rwa [Int.natAbs_mul, Int.natAbs_natCast] at this
  rcases prime_mul hp h' with h | h
  · exact .inl (Int.dvd_natAbs.1 (Int.natCast_dvd_natCast.2 h))
  · exact .inr (Int.dvd_natAbs.1 (Int.natCast_dvd_natCast.2 h))

def prodTo (f : Nat → Int) (h : Nat) : Int := bigTo (· * ·) 1 f h
theorem prodTo_succ (f : Nat → Int) (h : Nat) : prodTo f (h + 1) = prodTo f h * f (h + 1) := rfl
theorem prodTo_mul (f g : Nat → Int) : ∀ h, prodTo (fun k => f k * g k) h = prodTo f h * prodTo g h
  | 0 => rfl
  | h + 1 => by simp only [prodTo_succ, prodTo_mul f g h, Int.mul_assoc, Int.mul_comm, Int.mul_left_comm]
theorem prodTo_const (c : Int) : ∀ h, prodTo (fun _ => c) h = c ^ h
  | 0 => by simp [prodTo, bigTo]
  | h + 1 => by rw [prodTo_succ, prodTo_const c h, Int.pow_succ]
theorem dvd_mul_sub {p a b c d : Int} (h1 : p ∣ a - b) (h2 : p ∣ c - d) : p ∣ a * c - b * d := by
  have : a * c - b * d = (a - b) * c + b * (c - d) := by rw [Int.sub_mul, Int.mul_sub]; omega
  rw [this]
  exact Int.dvd_add (Int.dvd_mul_of_dvd_left h1) (Int.dvd_mul_of_dvd_right h2)
theorem prodTo_dvd {p : Int} {f g : Nat → Int} : ∀ h, (∀ k, 1 ≤ k → k ≤ h → p ∣ f k - g k) → p ∣ prodTo f h - prodTo g h
  | 0, _ => by simp [prodTo, bigTo]
  | h + 1, hh => by
    rw [prodTo_succ, prodTo_succ]
    exact dvd_mul_sub (prodTo_dvd h fun k a b => hh k a (by omega)) (hh (h + 1) (by omega) (by omega))
theorem prodTo_sign (s : Nat → Bool) : ∀ h, prodTo (fun k => if s k then -1 else 1) h = (-1) ^ sumTo (fun k => if s k then 1 else 0) h
  | 0 => rfl
  | h + 1 => by
    rw [prodTo_succ, sumTo_succ, prodTo_sign s h, Int.pow_add]
    cases s (h + 1) <;> simp
theorem fact_coprime {p : Nat} (hp : IsPrime p) : ∀ h, h < p → ¬ (p : Int) ∣ prodTo (fun k => (k : Int)) h
  | 0, _ => by
    intro hd
    have h1 : (p : Int) ∣ 1 := hd
    have := Int.le_of_dvd (by decide) h1
    have := hp.1; omega
  | h + 1, hh => by
    intro hd
    rw [prodTo_succ] at hd
    rcases int_prime_mul hp hd with h1 | h1
    · exact fact_coprime hp h (by omega) h1
    · have := Int.le_of_dvd (by omega) h1; omega

theorem gauss {p a : Nat} (hp : IsPrime p) (hodd : p % 2 = 1) (ha : ¬ p ∣ a) : (p : Int) ∣ (a : Int) ^ (p / 2) - (-1) ^ G a p := by
  have hco := coprime_of_prime hp ha
  let s : Nat → Bool := fun k => decide (a * k % p > p / 2)
  have h1 : (p : Int) ∣ prodTo (fun k => (a : Int) * k) (p / 2) - prodTo (fun k => (if s k then -1 else 1) * (lst a p k : Int)) (p / 2) := by
    refine prodTo_dvd _ fun k k1 k2 => ?_
    have e := Nat.div_add_mod (a * k) p
    have l := Nat.mod_lt (a * k) (by omega : p > 0)
    have e' : (a : Int) * k = p * (a * k / p : Nat) + (a * k % p : Nat) := by rw [← Int.natCast_mul, ← Int.natCast_mul, ← Int.natCast_add, e]
    rw [e']
    by_cases hs : a * k % p > p / 2
    · have hl : lst a p k = p - a * k % p := by unfold lst; rw [if_pos hs]
      simp only [s, hs, decide_true, if_true, hl]
      refine ⟨(a * k / p : Nat) + 1, ?_⟩
      rw [Int.mul_add]; omega
    · have hl : lst a p k = a * k % p := by unfold lst; rw [if_neg hs]
      simp only [s, hs, decide_false, hl]
      refine ⟨(a * k / p : Nat), ?_⟩
      simp
  rw [prodTo_mul, prodTo_mul, prodTo_const, prodTo_sign] at h1
  have h2 : prodTo (fun k => (lst a p k : Int)) (p / 2) = prodTo (fun k => (k : Int)) (p / 2) :=
    bigTo_perm (f := fun k => (k : Int)) Int.mul_comm Int.mul_assoc (p / 2) (lst a p) (fun k h1 h2 => lst_range hodd hco h1 h2) (fun j k => lst_inj hodd hco)
  rw [h2, ← Int.sub_mul] at h1
  have h3 : sumTo (fun k => if s k then 1 else 0) (p / 2) = G a p := by
    unfold G
    exact sumTo_congr fun k _ _ => by simp [s]
  rw [h3] at h1
  rcases int_prime_mul hp h1 with h | h
  · exact h
  · exact (fact_coprime hp _ (by omega) h).elim

theorem neg_one_pow (k : Nat) : (-1 : Int) ^ k = if k % 2 = 0 then 1 else -1 := by
  induction k with
  | zero => rfl
  | succ k ih => rw [Int.pow_succ, ih]; split <;> split <;> omega

/-! ### The group -/
def validS (x : Int) : Bool := decide (1 ≤ x ∧ x < 2147483579 ∧ x ^ 1073741789 % 2147483579 = 1)

theorem euler {x : Nat} (h1 : 1 ≤ x) (h2 : x < 2147483579) : (x : Int) ^ 1073741789 % 2147483579 = if G x 2147483579 % 2 = 0 then 1 else 2147483578 := by
  have h := gauss (p := 2147483579) (a := x) primeP (by decide) (fun hd => by have := Nat.le_of_dvd (by omega) hd; omega)
  rw [neg_one_pow] at h
  obtain ⟨q, hq⟩ := h
  have e : (2147483579 / 2 : Nat) = 1073741789 := by decide
  rw [e] at hq
  generalize (x : Int) ^ 1073741789 = y at *
  split at hq <;> rename_i hg
  · rw [if_pos hg]; omega
  · rw [if_neg hg]; omega

theorem validS_iff {x : Nat} (h1 : 1 ≤ x) (h2 : x < 2147483579) : validS x = decide (G x 2147483579 % 2 = 0) := by
  unfold validS
  rw [euler h1 h2]
  by_cases h : G x 2147483579 % 2 = 0 <;> simp [h] <;> omega

theorem euler_cases {x : Int} (h1 : 1 ≤ x) (h2 : x < 2147483579) : x ^ 1073741789 % 2147483579 = 1 ∨ x ^ 1073741789 % 2147483579 = 2147483578 := by
  obtain ⟨k, rfl⟩ := Int.eq_ofNat_of_zero_le (by omega : 0 ≤ x)
  rw [euler (by omega) (by omega)]
  split <;> simp

theorem validS_inv {x : Int} (h : validS x = true) : 1 ≤ x ∧ x < 2147483579 ∧ x ^ 1073741789 % 2147483579 = 1 := by simpa [validS] using h

/-- A number modulo P whose power to Q is 1. -/
theorem valid_of_pow {y : Int} (h : y ^ 1073741789 % 2147483579 = 1) : validS (y % 2147483579) = true := by
  have h1 : (y % 2147483579) ^ 1073741789 % 2147483579 = 1 := by rw [pow_mod]; exact h
  have h2 := Int.emod_nonneg y (by decide : (2147483579 : Int) ≠ 0)
  have h3 := Int.emod_lt_of_pos y (by decide : (0 : Int) < 2147483579)
  have h4 : y % 2147483579 ≠ 0 := fun e => by
    rw [e, Int.zero_pow (by decide)] at h1
    exact absurd h1 (by decide)
  simp only [validS, decide_eq_true_eq]
  exact ⟨by omega, h3, h1⟩

theorem valid_mul {a b : Int} (ha : validS a = true) (hb : validS b = true) : validS (a * b % 2147483579) = true := by
  refine valid_of_pow ?_
  rw [Int.mul_pow]
  have := mul_mod_congr (a' := 1) (b' := 1) (m := 2147483579) (by rw [(validS_inv ha).2.2]; rfl) (by rw [(validS_inv hb).2.2]; rfl)
  rw [this]; decide

theorem valid_pow {a : Int} (ha : validS a = true) (n : Nat) : validS (a ^ n % 2147483579) = true := by
  refine valid_of_pow ?_
  rw [← Int.pow_mul, Nat.mul_comm, Int.pow_mul, pow_mod_congr (b := 1) (by rw [(validS_inv ha).2.2]; rfl), Int.one_pow]
  decide

theorem valid_one : validS 1 = true := by
  simp only [validS, decide_eq_true_eq]
  exact ⟨by decide, by decide, by rw [Int.one_pow]; decide⟩

theorem pow_period {a : Int} (ha : validS a = true) (n : Nat) : a ^ (n % 1073741789) % 2147483579 = a ^ n % 2147483579 := by
  conv => rhs; rw [← Nat.div_add_mod n 1073741789, Int.pow_add, Int.pow_mul]
  have := mul_mod_congr (a := (a ^ 1073741789) ^ (n / 1073741789)) (a' := 1) (b := a ^ (n % 1073741789)) (b' := a ^ (n % 1073741789)) (m := 2147483579)
    (by rw [pow_mod_congr (b := 1) (by rw [(validS_inv ha).2.2]; rfl), Int.one_pow]) rfl
  rw [this]; simp

theorem valid_sq {x : Int} (h1 : 1 ≤ x) (h2 : x < 2147483579) : validS (x * x % 2147483579) = true := by
  refine valid_of_pow ?_
  rw [Int.mul_pow]
  rcases euler_cases h1 h2 with h | h
  · rw [mul_mod_congr (a' := 1) (b' := 1) (by rw [h]; rfl) (by rw [h]; rfl)]; decide
  · rw [mul_mod_congr (a' := 2147483578) (b' := 2147483578) (by rw [h]; rfl) (by rw [h]; rfl)]; decide

theorem neg_pow_odd (x : Int) (k : Nat) (h : k % 2 = 1) : (-x) ^ k = - (x ^ k) := by
  have : -x = (-1) * x := by omega
  rw [this, Int.mul_pow, neg_one_pow, if_neg (by omega)]; omega

theorem valid_neg {x : Int} (h1 : 1 ≤ x) (h2 : x < 2147483579) : validS (2147483579 - x) = !validS x := by
  have e : (2147483579 - x) ^ 1073741789 % 2147483579 = (- (x ^ 1073741789)) % 2147483579 := by
    rw [← neg_pow_odd _ _ (by decide)]
    exact pow_mod_congr (by omega) _
  have e2 : (- (x ^ 1073741789)) % 2147483579 = if x ^ 1073741789 % 2147483579 = 1 then 2147483578 else 1 := by
    rcases euler_cases h1 h2 with h | h
    · generalize x ^ 1073741789 = y at *; rw [if_pos h]; omega
    · generalize x ^ 1073741789 = y at *; rw [if_neg (by omega)]; omega
  unfold validS
  rw [e, e2]
  rcases euler_cases h1 h2 with h | h <;> rw [h] <;> simp <;> omega

end Go.NT
end
section
/- The walks of package group, first part: least, squares. -/
namespace Go.Sg
open Go.Rn Go.NT Go.Proofs

def ints (l : List Int) : List Value := l.map (Value.int .i64)
theorem ints_get {l : List Int} {i : Nat} (h : i < l.length) : (ints l)[i]? = some (.int .i64 l[i]) := by simp [ints, h]

theorem tmod_cases (n Q : Int) (hQ : 0 < Q) : (n.tmod Q = n % Q ∧ 0 ≤ n % Q ∧ n % Q < Q) ∨ (n.tmod Q = n % Q - Q ∧ 0 < n % Q ∧ n % Q < Q) := by
  have h2 := Int.emod_nonneg n (by omega : Q ≠ 0)
  have h3 := Int.emod_lt_of_pos n hQ
  rw [Int.tmod_eq_emod]
  by_cases h : 0 ≤ n ∨ Q ∣ n
  · rw [if_pos h]; left; omega
  · rw [if_neg h]
    have : n % Q ≠ 0 := fun e => h (.inr (Int.dvd_of_emod_eq_zero e))
    right; omega

/-- group.least: a product of numbers, modulo Q. -/
def leastS (l : List Int) : Int := l.foldl (fun n x => n * (x.tmod 1073741789 + 1073741789) % 1073741789) 1

theorem tmodQ (x : Int) : -1073741789 < x.tmod 1073741789 ∧ x.tmod 1073741789 < 1073741789 := by
  have h1 := Int.emod_nonneg x (by decide : (1073741789 : Int) ≠ 0)
  have h2 := Int.emod_lt_of_pos x (by decide : (0 : Int) < 1073741789)
  rw [Int.tmod_eq_emod]; split <;> simp <;> omega

theorem mulmod_bd {a b : Int} (ha : 0 ≤ a) (ha' : a < 2147483579) (hb : 0 ≤ b) (hb' : b < 2147483579) : 0 ≤ a * b ∧ a * b < 4611686018427387904 := by
  refine ⟨Int.mul_nonneg ha hb, ?_⟩
  have := Int.mul_le_mul (show a ≤ 2147483578 by omega) (show b ≤ 2147483578 by omega) hb (by decide)
  omega

theorem mulQ_bd {a b : Int} (ha : 0 ≤ a) (ha' : a < 1073741789) (hb : 0 ≤ b) (hb' : b < 2147483578) : 0 ≤ a * b ∧ a * b < 4611686018427387904 := by
  refine ⟨Int.mul_nonneg ha hb, ?_⟩
  have := Int.mul_le_mul (show a ≤ 2147483578 by omega) (show b ≤ 2147483578 by omega) hb (by decide)
  omega

theorem leastS_snoc (l : List Int) (x : Int) : leastS (l ++ [x]) = leastS l * (x.tmod 1073741789 + 1073741789) % 1073741789 := by simp [leastS]
theorem leastS_bd (l : List Int) : 0 ≤ leastS l ∧ leastS l < 1073741789 := by
  suffices h : ∀ m : List Int, 0 ≤ leastS m.reverse ∧ leastS m.reverse < 1073741789 by simpa using h l.reverse
  intro m
  induction m with
  | nil => decide
  | cons x m ih =>
    rw [List.reverse_cons, leastS_snoc]
    exact ⟨Int.emod_nonneg _ (by decide), Int.emod_lt_of_pos _ (by decide)⟩

theorem take_snoc {α : Type} (l : List α) (k : Nat) (h : k < l.length) : l.take (k + 1) = l.take k ++ [l[k]] := by
  rw [List.take_succ_eq_append_getElem h]

theorem least_ok (l : List Int) (b o cap : Nat) (w : World) (hr : Row w b o (ints l)) (hl : l.length < 9223372036854775807) :
    Rets Tryd.prog 43 [.slice (some ⟨b, o, none⟩) l.length cap] w fun v w' => v = .int .i64 (leastS l) ∧ w = w' := by
  refine RetsX.of (nt := 20) Tryd.func43 (by kernel_rfl) rfl rfl (by simp) (by simp only [argEnv]; rfl) ?_
  repeat (first | refine RunL.pureI Tryd.tOk rfl rfl rfl (by (first | exact wr_i64 (by omega) (by omega) | exact wm_i64 (by omega) | exact wq_i64 (by omega) (by omega) (by omega) | rfl)) ?_ | refine RunL.pure Tryd.tOk rfl rfl rfl ?_ | refine RunE.seq ?_ | refine RunE.region ?_ | refine RunL.nil ?_ | refine RunE.block ?_)
  refine RunE.loop (ι := Nat) (fun j => [(3, .int .i64 (leastS (l.take j))), (6, .slice (some ⟨b, o, none⟩) l.length cap), (7, .int .i64 l.length), (8, .int .i64 (j : Int))])
    (fun j w' => w' = w ∧ j ≤ l.length) (fun j => l.length - j) 0 (by repeat (first | exact Sub.nil _ | refine Sub.cons rfl ?_)) ⟨rfl, by omega⟩ ?_
  rintro j w' ⟨rfl, hj⟩ IH
  repeat (first | refine RunL.pure Tryd.tOk rfl rfl rfl ?_ | refine RunE.seq ?_ | refine RunE.region ?_ | refine RunL.nil ?_)
  refine RunE.cond rfl (fun h => ?_) (fun h => ?_) <;> (first | replace h := of_decide_eq_true h | replace h := of_decide_eq_false h | replace h := beq_iff_eq.1 h | replace h := beq_eq_false_iff_ne.1 h | replace h := bne_iff_ne.1 h | replace h := bne_eq_false_iff_eq.1 h | skip)
  · have hj' : j < l.length := by omega
    have h1 := leastS_bd (l.take j)
    have h2 := tmodQ l[j]
    have h3 := mulQ_bd h1.1 h1.2 (by omega : 0 ≤ l[j].tmod 1073741789 + 1073741789) (by omega)
    have hsn := leastS_snoc (l.take j) l[j]
    rw [← take_snoc l j hj'] at hsn
    repeat (first | refine RunE.seq ?_ | refine RunE.region ?_ | refine RunE.block ?_ | refine RunE.skip ?_)
    refine RunL.indexAddr1 Tryd.tOk j rfl rfl rfl rfl rfl rfl hj' ?_
    refine RunL.load rfl rfl rfl (Loads.scalar Tryd.tOk rfl rfl (hr j _ (ints_get hj'))) ?_
    repeat (first | refine RunL.pureI Tryd.tOk rfl rfl rfl (by (first | exact wr_i64 (by omega) (by omega) | exact wm_i64 (by omega) | exact wq_i64 (by omega) (by omega) (by omega) | rfl)) ?_ | refine RunE.region ?_ | refine RunL.nil ?_ | refine RunE.inBlock ?_)
    refine RunE.weaken (.cons ?_ (by repeat (first | exact Sub.nil _ | refine Sub.cons rfl ?_))) (IH (j + 1) _ (by omega) ⟨rfl, by omega⟩)
    rw [hsn]; rfl
  · repeat (first | refine RunL.pureI Tryd.tOk rfl rfl rfl (by (first | exact wr_i64 (by omega) (by omega) | exact wm_i64 (by omega) | exact wq_i64 (by omega) (by omega) (by omega) | rfl)) ?_ | refine RunE.seq ?_ | refine RunE.region ?_ | refine RunL.nil ?_ | refine RunE.exit rfl ?_)
    refine RunE.retFn Tryd.func43 (.tmp rfl .nil) ⟨?_, rfl⟩
    simp only [oneOr]
    rw [List.take_of_length_le (by omega)]

theorem and1 {m : Int} (h : 0 ≤ m) (h' : m < 9223372036854775808) : IntKind.i64.wrap ((BitVec.ofInt IntKind.i64.bits m &&& BitVec.ofInt IntKind.i64.bits 1).toNat : Int) = m % 2 := by
  obtain ⟨k, rfl⟩ := Int.eq_ofNat_of_zero_le h
  have e : (BitVec.ofInt IntKind.i64.bits (k : Int) &&& BitVec.ofInt IntKind.i64.bits 1).toNat = k % 2 := by
    rw [BitVec.toNat_and]
    have h1 : (BitVec.ofInt IntKind.i64.bits (k : Int)).toNat = k := by
      simp only [IntKind.bits, BitVec.toNat_ofInt]; omega
    have h2 : (BitVec.ofInt IntKind.i64.bits 1).toNat = 1 := by decide
    rw [h1, h2, Nat.and_one_is_mod]
  rw [e, wr_i64 (by omega) (by omega)]
  omega
theorem shr1 {m : Int} : m.fdiv (2 ^ (min 1 IntKind.i64.bits)) = m / 2 := by
  have : (2 : Int) ^ (min 1 IntKind.i64.bits) = 2 := by decide
  rw [this, Int.fdiv_eq_ediv_of_nonneg _ (by decide)]

/-- The iterator of group.squares: it calls yield on (x, is m odd), while m is positive; then the square, and the half. -/
theorem squares1_ok (ba bn : Nat) (y : Value) (J : Int → Int → World → Prop) (hne : ba ≠ bn)
    (hstab : ∀ x m w w', J x m w → ExtB (fun k => k = ba ∨ k = bn) w w' → J x m w')
    (hy : ∀ x m w, J x m w → 0 ≤ x → x < 2147483579 → 0 < m → m < 9223372036854775808 → Blk w ba [.int .i64 x] 3 → Blk w bn [.int .i64 m] 3 →
      FnV Tryd.prog y [.int .i64 x, .bool (m % 2 == 1)] w (fun v w' => v = .bool true ∧ J (x * x % 2147483579) (m / 2) w' ∧ Blk w' ba [.int .i64 x] 3 ∧ Blk w' bn [.int .i64 m] 3) (fun _ _ => False))
    (a n : Int) (w : World) (ha : 0 ≤ a) (ha' : a < 2147483579) (hn : 0 ≤ n) (hn' : n < 9223372036854775808) (hA : Blk w ba [.int .i64 a] 3) (hN : Blk w bn [.int .i64 n] 3) (hJ : J a n w) :
    Rets Tryd.prog 70 [y, .pointer (some ⟨bn, 0, none⟩), .pointer (some ⟨ba, 0, none⟩)] w fun _ w' => ∃ x, J x 0 w' := by
  refine RetsX.of (nt := 19) Tryd.func70 (by kernel_rfl) rfl rfl (by simp) (by simp only [argEnv]; rfl) ?_
  repeat (first | refine RunE.block ?_)
  refine RunE.loop (ι := Int × Int) (fun _ => [(0, y), (1, .pointer (some ⟨bn, 0, none⟩)), (2, .pointer (some ⟨ba, 0, none⟩))])
    (fun s w => 0 ≤ s.1 ∧ s.1 < 2147483579 ∧ 0 ≤ s.2 ∧ s.2 < 9223372036854775808 ∧ Blk w ba [.int .i64 s.1] 3 ∧ Blk w bn [.int .i64 s.2] 3 ∧ J s.1 s.2 w) (fun s => s.2.toNat) (a, n) (by repeat (first | exact Sub.nil _ | refine Sub.cons rfl ?_)) ⟨ha, ha', hn, hn', hA, hN, hJ⟩ ?_
  rintro ⟨x, m⟩ w ⟨hx, hx', hm, hm', hA, hN, hJ⟩ IH
  simp only at hx hx' hm hm' hA hN hJ
  repeat (first | refine RunE.seq ?_ | refine RunE.region ?_)
  refine RunL.load rfl rfl rfl (Loads.scalar Tryd.tOk rfl rfl (hN.cell rfl)) ?_
  repeat (first | refine RunL.pure Tryd.tOk rfl rfl rfl ?_ | refine RunL.nil ?_)
  refine RunE.cond rfl (fun h => ?_) (fun h => ?_) <;> (first | replace h := of_decide_eq_true h | replace h := of_decide_eq_false h | replace h := beq_iff_eq.1 h | replace h := beq_eq_false_iff_ne.1 h | replace h := bne_iff_ne.1 h | replace h := bne_eq_false_iff_eq.1 h | skip)
  · have hb := mulmod_bd hx hx' hx hx'
    repeat (first | refine RunL.pure Tryd.tOk rfl rfl rfl ?_ | refine RunE.seq ?_ | refine RunE.region ?_ | refine RunE.block ?_ | refine RunE.skip ?_)
    refine RunL.load rfl rfl rfl (Loads.scalar Tryd.tOk rfl rfl (hA.cell rfl)) ?_
    refine RunL.load rfl rfl rfl (Loads.scalar Tryd.tOk rfl rfl (hN.cell rfl)) ?_
    refine RunL.pureI Tryd.tOk rfl rfl rfl (and1 hm hm') ?_
    repeat (first | refine RunL.pure Tryd.tOk rfl rfl rfl ?_)
    refine RunL.callV rfl rfl rfl rfl (hy x m w hJ hx hx' h hm' hA hN) (fun _ _ _ h => h.elim) ?_
    rintro v w1 ⟨rfl, hJ1, hA1, hN1⟩
    repeat (first | refine RunL.pure Tryd.tOk rfl rfl rfl ?_ | refine RunL.nil ?_)
    refine RunE.condF rfl rfl ?_
    repeat (first | refine RunE.region ?_ | refine RunE.skip ?_)
    refine RunL.load rfl rfl rfl (Loads.scalar Tryd.tOk rfl rfl (hA1.cell rfl)) ?_
    refine RunL.load rfl rfl rfl (Loads.scalar Tryd.tOk rfl rfl (hA1.cell rfl)) ?_
    repeat (first | refine RunL.pureI Tryd.tOk rfl rfl rfl (by (first | exact wr_i64 (by omega) (by omega) | exact wm_i64 (by omega) | exact wq_i64 (by omega) (by omega) (by omega) | rfl)) ?_)
    refine RunL.store Tryd.tOk rfl rfl rfl rfl rfl hA1 rfl rfl ?_
    intro w2 hT
    have hA2 : Blk w2 ba [.int .i64 (x * x % 2147483579)] 3 := hT.at_
    have hN2 := hN1.ext hT.ext (fun e => hne e.symm)
    have hJ2 := hstab _ _ _ _ hJ1 (hT.ext.mono fun k _ e => .inl e)
    repeat (first | refine RunE.region ?_ | refine RunL.nil ?_ | refine RunE.inBlock ?_)
    refine RunL.load rfl rfl rfl (Loads.scalar Tryd.tOk rfl rfl (hN2.cell rfl)) ?_
    refine RunL.pureI Tryd.tOk rfl rfl rfl shr1 ?_
    refine RunL.store Tryd.tOk rfl rfl rfl rfl rfl hN2 rfl rfl ?_
    intro w3 hT3
    have hA3 := hA2.ext hT3.ext hne
    have hN3 : Blk w3 bn [.int .i64 (m / 2)] 3 := hT3.at_
    have hJ3 := hstab _ _ _ _ hJ2 (hT3.ext.mono fun k _ e => .inr e)
    repeat (first | refine RunL.nil ?_)
    exact RunE.weaken (by repeat (first | exact Sub.nil _ | refine Sub.cons rfl ?_)) (IH (x * x % 2147483579, m / 2) _ (by simp only; omega) ⟨by simp only; omega, by simp only; omega, by simp only; omega, by simp only; omega, hA3, hN3, hJ3⟩)
  · repeat (first | refine RunE.exit rfl ?_)
    refine RunE.fallFn Tryd.func70 .nil ⟨x, ?_⟩
    obtain rfl : m = 0 := by omega
    exact hJ

theorem squares_ok (a n : Int) (w : World) : Rets Tryd.prog 42 [.int .i64 a, .int .i64 n] w fun v w' =>
    v = .func (.func 70) #[] #[.pointer (some ⟨w.heap.size + 1, 0, none⟩), .pointer (some ⟨w.heap.size, 0, none⟩)] ∧ Blk w' w.heap.size [.int .i64 a] 3 ∧ Blk w' (w.heap.size + 1) [.int .i64 n] 3 ∧ Ext w w' ∧ w'.heap.size = w.heap.size + 2 := by
  refine RetsX.of (nt := 6) Tryd.func42 (by kernel_rfl) rfl rfl (by simp) (by simp only [argEnv]; rfl) ?_
  repeat (first | refine RunE.seq ?_ | refine RunE.region ?_)
  refine RunL.box rfl rfl rfl fun B w1 h1 => ?_
  refine RunL.box rfl rfl rfl fun B2 w2 h2 => ?_
  repeat (first | refine RunL.pure Tryd.tOk rfl rfl rfl ?_ | refine RunE.seq ?_ | refine RunE.region ?_ | refine RunL.nil ?_)
  refine RunE.retFn Tryd.func42 (.tmp rfl .nil) ?_
  have e1 := h1.eq
  have e2 := h2.eq
  have s1 := h1.size
  have s2 := h2.size
  obtain rfl : B = w.heap.size := e1
  obtain rfl : B2 = w.heap.size + 1 := by omega
  refine ⟨rfl, ?_, ?_, h1.ext.trans h2.ext, by omega⟩
  · exact Blk.ext (show Blk w1 _ [.int .i64 a] 3 from h1.at_) h2.ext id
  · exact h2.at_

theorem least1 (n : Int) : leastS [n] = n % 1073741789 := by
  simp only [leastS, List.foldl]
  rcases tmod_cases n 1073741789 (by decide) with ⟨h1, h2, h3⟩ | ⟨h1, h2, h3⟩ <;> omega


end Go.Sg
end
section
/- The walk of group.Valid. -/
namespace Go.Sg
open Go.Rn Go.NT Go.Proofs
theorem coprime_mod {x n : Nat} (h : Nat.Coprime x n) : Nat.Coprime (n % x) x := by
  have : Nat.gcd (n % x) x = 1 := by rw [← Nat.gcd_rec]; exact h
  exact this

/-- What stays the same while group.Valid reduces: the sign of the symbol. -/
def VInv (x0 : Nat) (s : Nat × Nat × Bool) : Prop :=
  1 ≤ s.1 ∧ s.1 < 2147483579 ∧ s.2.1 ≤ 2147483579 ∧ 1 ≤ s.2.1 ∧ s.2.1 % 2 = 1 ∧ Nat.Coprime s.1 s.2.1 ∧ G x0 2147483579 % 2 = (G s.1 s.2.1 + if s.2.2 then 0 else 1) % 2

theorem VInv.half {x0 x n : Nat} {sq : Bool} (h : VInv x0 (x, n, sq)) (hx : x % 2 = 0) : VInv x0 (x / 2, n, if n % 8 = 3 ∨ n % 8 = 5 then !sq else sq) := by
  obtain ⟨h1, h2, h3, h4, h5, h6, h7⟩ := h
  simp only at h1 h2 h3 h4 h5 h6 h7
  have hc : Nat.Coprime (x / 2) n := Nat.Coprime.coprime_dvd_left ⟨2, by omega⟩ h6
  have h2c : Nat.Coprime 2 n := Nat.Coprime.coprime_dvd_left ⟨x / 2, by omega⟩ h6
  refine ⟨by simp only; omega, by simp only; omega, h3, h4, h5, hc, ?_⟩
  have e : x = 2 * (x / 2) := by omega
  rw [h7]
  conv => lhs; rw [e]
  have hm := G_mul h5 h2c hc
  have ht := G_two h5
  simp only
  by_cases h8 : n % 8 = 3 ∨ n % 8 = 5
  · rw [if_pos h8] at ht ⊢
    cases sq <;> simp <;> omega
  · rw [if_neg h8] at ht ⊢
    cases sq <;> simp <;> omega

theorem VInv.swap {x0 x n : Nat} {sq : Bool} (h : VInv x0 (x, n, sq)) (hx : x % 2 = 1) (h1x : x ≠ 1) : VInv x0 (n % x, x, if x % 4 = 3 ∧ n % 4 = 3 then !sq else sq) := by
  obtain ⟨h1, h2, h3, h4, h5, h6, h7⟩ := h
  simp only at h1 h2 h3 h4 h5 h6 h7
  have hc := coprime_mod h6
  have hp : n % x ≠ 0 := fun e => by rw [e] at hc; simp [Nat.Coprime] at hc; omega
  have hl := Nat.mod_lt n (by omega : x > 0)
  refine ⟨by simp only; omega, by simp only; omega, by simp only; omega, h1, hx, hc, ?_⟩
  have hs := G_swap h5 hx h6
  rw [h7]
  simp only
  rw [G_mod]
  by_cases h8 : x % 4 = 3 ∧ n % 4 = 3
  · rw [if_pos h8] at hs ⊢
    cases sq <;> simp <;> omega
  · rw [if_neg h8] at hs ⊢
    cases sq <;> simp <;> omega

theorem VInv.done {x0 n : Nat} {sq : Bool} (h1 : 1 ≤ x0) (h2 : x0 < 2147483579) (h : VInv x0 (1, n, sq)) : validS x0 = sq := by
  have h7 := h.2.2.2.2.2.2
  rw [validS_iff h1 h2, h7]
  simp only [G_one]
  cases sq <;> simp

theorem VInv.start {x0 : Nat} (h1 : 1 ≤ x0) (h2 : x0 < 2147483579) : VInv x0 (x0, 2147483579, true) := by
  unfold VInv
  simp only
  have hg : ∀ g : Nat, g % 2 = (g + if true = true then 0 else 1) % 2 := fun g => by simp
  refine ⟨h1, h2, Nat.le_refl _, by decide, by decide, coprime_of_prime primeP (fun hd => ?_), hg _⟩
  have := Nat.le_of_dvd (by omega) hd; omega

def vEnv (s : Nat × Nat × Bool) : Env := [(0, .int .i64 (s.1 : Int)), (3, .int .i64 (s.2.1 : Int)), (4, .bool s.2.2)]

theorem valid_ok (x : Int) (w : World) : Rets Tryd.prog 41 [.int .i64 x] w fun v w' => v = .bool (validS x) ∧ w = w' := by
  refine RetsX.of (nt := 45) Tryd.func41 (by kernel_rfl) rfl rfl (by simp) (by simp only [argEnv]; rfl) ?_
  repeat (first | refine RunL.pureI Tryd.tOk rfl rfl rfl (by (first | exact wr_i64 (by omega) (by omega) | exact wm_i64 (by omega) | exact wq_i64 (by omega) (by omega) (by omega) | rfl)) ?_ | refine RunL.pure Tryd.tOk rfl rfl rfl ?_ | refine RunE.seq ?_ | refine RunE.region ?_ | refine RunL.nil ?_ | refine RunE.scope ?_)
  cases hx1 : decide (x < 1) with
  | true =>
    have hx : x < 1 := of_decide_eq_true hx1
    repeat (first | refine RunL.pure Tryd.tOk rfl rfl rfl ?_ | refine RunL.unwantedD rfl rfl ?_ | refine RunL.nil ?_)
    refine RunE.condT rfl rfl ?_
    repeat (first | refine RunL.pure Tryd.tOk rfl rfl rfl ?_ | refine RunE.seq ?_ | refine RunE.region ?_ | refine RunL.nil ?_)
    refine RunE.retFn Tryd.func41 (.tmp rfl .nil) ⟨?_, rfl⟩
    simp only [oneOr, validS]
    congr 1
    exact (decide_eq_false (by omega)).symm
  | false =>
    have hx : ¬ x < 1 := of_decide_eq_false hx1
    repeat (first | refine RunL.pureI Tryd.tOk rfl rfl rfl (by (first | exact wr_i64 (by omega) (by omega) | exact wm_i64 (by omega) | exact wq_i64 (by omega) (by omega) (by omega) | rfl)) ?_ | refine RunL.pure Tryd.tOk rfl rfl rfl ?_ | refine RunL.nil ?_)
    refine RunE.cond rfl (fun hx2 => ?_) (fun hx2 => ?_) <;> (first | replace hx2 := of_decide_eq_true hx2 | replace hx2 := of_decide_eq_false hx2 | replace hx2 := beq_iff_eq.1 hx2 | replace hx2 := beq_eq_false_iff_ne.1 hx2 | replace hx2 := bne_iff_ne.1 hx2 | replace hx2 := bne_eq_false_iff_eq.1 hx2 | skip)
    · repeat (first | refine RunL.pure Tryd.tOk rfl rfl rfl ?_ | refine RunE.seq ?_ | refine RunE.region ?_ | refine RunL.nil ?_)
      refine RunE.retFn Tryd.func41 (.tmp rfl .nil) ⟨?_, rfl⟩
      simp only [oneOr, validS]
      congr 1
      exact (decide_eq_false (by omega)).symm
    · obtain ⟨x0, rfl⟩ := Int.eq_ofNat_of_zero_le (by omega : 0 ≤ x)
      have h1 : 1 ≤ x0 := by omega
      have h2 : x0 < 2147483579 := by omega
      repeat (first | refine RunL.pureI Tryd.tOk rfl rfl rfl (by (first | exact wr_i64 (by omega) (by omega) | exact wm_i64 (by omega) | exact wq_i64 (by omega) (by omega) (by omega) | rfl)) ?_ | refine RunL.pure Tryd.tOk rfl rfl rfl ?_ | refine RunE.seq ?_ | refine RunE.region ?_ | refine RunL.nil ?_ | refine RunE.block ?_ | refine RunE.skip ?_ | refine RunE.label ?_)
      have hv0 := VInv.start h1 h2
      refine RunE.loop (ι := Nat × Nat × Bool) vEnv (fun s w' => w = w' ∧ VInv x0 s) (fun s => s.1) (x0, 2147483579, true) (by unfold vEnv; exact (by repeat (first | exact Sub.nil _ | refine Sub.cons rfl ?_))) ⟨rfl, hv0⟩ ?_
      rintro ⟨y, n, sq⟩ _ ⟨rfl, hv⟩ IH
      have hv' := hv
      obtain ⟨b1, b2, b3, b4, b5, b6, _⟩ := hv'
      simp only at b1 b2 b3 b4 b5 b6
      unfold vEnv
      dsimp only
      repeat (first | refine RunL.pureI Tryd.tOk rfl rfl rfl (by (first | exact wr_i64 (by omega) (by omega) | exact wm_i64 (by omega) | exact wq_i64 (by omega) (by omega) (by omega) | rfl)) ?_ | refine RunL.pure Tryd.tOk rfl rfl rfl ?_ | refine RunE.seq ?_ | refine RunE.region ?_ | refine RunL.nil ?_)
      refine RunE.cond rfl (fun hy1 => ?_) (fun hy1 => ?_) <;> (first | replace hy1 := of_decide_eq_true hy1 | replace hy1 := of_decide_eq_false hy1 | replace hy1 := beq_iff_eq.1 hy1 | replace hy1 := beq_eq_false_iff_ne.1 hy1 | replace hy1 := bne_iff_ne.1 hy1 | replace hy1 := bne_eq_false_iff_eq.1 hy1 | skip)
      · repeat (first | refine RunE.seq ?_ | refine RunE.block ?_ | refine RunE.skip ?_)
        have hy : 1 < y := by omega
        refine RunE.loop (ι := Nat × Bool) (fun s => vEnv (s.1, n, s.2)) (fun s w' => w = w' ∧ VInv x0 (s.1, n, s.2) ∧ s.1 ≤ y) (fun s => s.1) (y, sq) (by unfold vEnv; exact (by repeat (first | exact Sub.nil _ | refine Sub.cons rfl ?_))) ⟨rfl, hv, Nat.le_refl _⟩ ?_
        rintro ⟨z, sq2⟩ _ ⟨rfl, hz, hzy⟩ IH2
        have hz' := hz
        obtain ⟨c1, c2, c3, c4, c5, c6, _⟩ := hz'
        simp only at c1 c2 c3 c4 c5 c6 hzy
        unfold vEnv
        dsimp only
        repeat (first | refine RunL.pureI Tryd.tOk rfl rfl rfl (by (first | exact wr_i64 (by omega) (by omega) | exact wm_i64 (by omega) | exact wq_i64 (by omega) (by omega) (by omega) | rfl)) ?_ | refine RunL.pure Tryd.tOk rfl rfl rfl ?_ | refine RunE.seq ?_ | refine RunE.region ?_ | refine RunL.nil ?_)
        refine RunE.cond rfl (fun hev => ?_) (fun hev => ?_) <;> (first | replace hev := of_decide_eq_true hev | replace hev := of_decide_eq_false hev | replace hev := beq_iff_eq.1 hev | replace hev := beq_eq_false_iff_ne.1 hev | replace hev := bne_iff_ne.1 hev | replace hev := bne_eq_false_iff_eq.1 hev | skip)
        · have hz2 := hz.half (by omega)
          repeat (first | refine RunL.pureI Tryd.tOk rfl rfl rfl (by (first | exact wr_i64 (by omega) (by omega) | exact wm_i64 (by omega) | exact wq_i64 (by omega) (by omega) (by omega) | rfl)) ?_ | refine RunL.pure Tryd.tOk rfl rfl rfl ?_ | refine RunE.seq ?_ | refine RunE.region ?_ | refine RunL.nil ?_ | refine RunE.block ?_ | refine RunE.skip ?_)
          have fin : ∀ (b : Bool), b = decide (n % 8 = 3 ∨ n % 8 = 5) → VInv x0 (z / 2, n, if b then !sq2 else sq2) := fun b hb => by
            subst hb; simpa using hz2
          have done : ∀ b : Bool, VInv x0 (z / 2, n, b) → RunE Tryd.prog ⟨41, .normal, none⟩ 45 [] _ _ (vEnv (z / 2, n, b)) w := fun b hb => IH2 (z / 2, b) _ (by simp only; omega) ⟨rfl, hb, by simp only; omega⟩
          cases h3 : ((n : Int) % 8 == 3) with
          | true =>
            have h3' : n % 8 = 3 := by have := beq_iff_eq.1 h3; omega
            repeat (first | refine RunL.pure Tryd.tOk rfl rfl rfl ?_ | refine RunL.unwantedD rfl rfl ?_ | refine RunL.nil ?_)
            refine RunE.condT rfl rfl ?_
            repeat (first | refine RunL.pure Tryd.tOk rfl rfl rfl ?_ | refine RunE.region ?_ | refine RunL.nil ?_ | refine RunE.inBlock ?_)
            refine RunE.weaken ?_ (done _ (fin true (by simp [h3'])))
            unfold vEnv; exact (by repeat (first | exact Sub.nil _ | refine Sub.cons rfl ?_))
          | false =>
            have h3' : n % 8 ≠ 3 := by have := beq_eq_false_iff_ne.1 h3; omega
            repeat (first | refine RunL.pureI Tryd.tOk rfl rfl rfl (by (first | exact wr_i64 (by omega) (by omega) | exact wm_i64 (by omega) | exact wq_i64 (by omega) (by omega) (by omega) | rfl)) ?_ | refine RunL.pure Tryd.tOk rfl rfl rfl ?_ | refine RunL.nil ?_)
            refine RunE.cond rfl (fun h5 => ?_) (fun h5 => ?_) <;> (first | replace h5 := of_decide_eq_true h5 | replace h5 := of_decide_eq_false h5 | replace h5 := beq_iff_eq.1 h5 | replace h5 := beq_eq_false_iff_ne.1 h5 | replace h5 := bne_iff_ne.1 h5 | replace h5 := bne_eq_false_iff_eq.1 h5 | skip)
            · repeat (first | refine RunL.pure Tryd.tOk rfl rfl rfl ?_ | refine RunE.region ?_ | refine RunL.nil ?_ | refine RunE.inBlock ?_)
              refine RunE.weaken ?_ (done _ (fin true (by simp; omega)))
              unfold vEnv; exact (by repeat (first | exact Sub.nil _ | refine Sub.cons rfl ?_))
            · repeat (first | refine RunE.inBlock ?_ | refine RunE.skip ?_)
              refine RunE.weaken ?_ (done _ (fin false (by simp; omega)))
              unfold vEnv; exact (by repeat (first | exact Sub.nil _ | refine Sub.cons rfl ?_))
        · repeat (first | refine RunL.pureI Tryd.tOk rfl rfl rfl (by (first | exact wr_i64 (by omega) (by omega) | exact wm_i64 (by omega) | exact wq_i64 (by omega) (by omega) (by omega) | rfl)) ?_ | refine RunL.pure Tryd.tOk rfl rfl rfl ?_ | refine RunE.seq ?_ | refine RunE.region ?_ | refine RunL.nil ?_ | refine RunE.exit rfl ?_)
          refine RunE.cond rfl (fun hz1 => ?_) (fun hz1 => ?_) <;> (first | replace hz1 := of_decide_eq_true hz1 | replace hz1 := of_decide_eq_false hz1 | replace hz1 := beq_iff_eq.1 hz1 | replace hz1 := beq_eq_false_iff_ne.1 hz1 | replace hz1 := bne_iff_ne.1 hz1 | replace hz1 := bne_eq_false_iff_eq.1 hz1 | skip)
          · repeat (first | refine RunL.pure Tryd.tOk rfl rfl rfl ?_ | refine RunE.seq ?_ | refine RunE.region ?_ | refine RunL.nil ?_ | refine RunE.exit rfl ?_)
            refine RunE.retFn Tryd.func41 (.tmp rfl .nil) ⟨?_, rfl⟩
            have : z = 1 := by omega
            subst this
            simp only [oneOr]
            rw [hz.done h1 h2]
          · have hz3 := hz.swap (by omega) (by omega)
            repeat (first | refine RunL.pureI Tryd.tOk rfl rfl rfl (by (first | exact wr_i64 (by omega) (by omega) | exact wm_i64 (by omega) | exact wq_i64 (by omega) (by omega) (by omega) | rfl)) ?_ | refine RunL.pure Tryd.tOk rfl rfl rfl ?_ | refine RunE.seq ?_ | refine RunE.region ?_ | refine RunE.skip ?_)
            have done : ∀ b : Bool, VInv x0 (n % z, z, b) → RunE Tryd.prog ⟨41, .normal, none⟩ 45 [] _ _ (vEnv (n % z, z, b)) w := fun b hb => IH (n % z, z, b) _ (by simp only; have := Nat.mod_lt n (by omega : z > 0); omega) ⟨rfl, hb⟩
            have hrem : (n : Int).tmod (z : Int) = ((n % z : Nat) : Int) := by rw [Int.tmod_eq_emod_of_nonneg (by omega)]; omega
            cases h3 : ((z : Int) % 4 == 3) with
            | false =>
              have h3' : z % 4 ≠ 3 := by have := beq_eq_false_iff_ne.1 h3; omega
              rw [if_neg (by omega)] at hz3
              repeat (first | refine RunL.pure Tryd.tOk rfl rfl rfl ?_ | refine RunL.unwantedD rfl rfl ?_ | refine RunL.nil ?_)
              refine RunE.condF rfl rfl ?_
              repeat (first | refine RunL.pureI Tryd.tOk rfl rfl rfl (by (first | exact wr_i64 (by omega) (by omega) | exact wm_i64 (by omega) | exact wq_i64 (by omega) (by omega) (by omega) | rfl)) ?_ | refine RunE.region ?_ | refine RunE.skip ?_)
              refine RunL.rem rfl rfl rfl rfl (by omega) hrem ?_
              repeat (first | refine RunL.pureI Tryd.tOk rfl rfl rfl (by (first | exact wr_i64 (by omega) (by omega) | exact wm_i64 (by omega) | exact wq_i64 (by omega) (by omega) (by omega) | rfl)) ?_ | refine RunL.nil ?_ | refine RunE.inBlock ?_)
              refine RunE.weaken ?_ (done _ hz3)
              unfold vEnv; exact (by repeat (first | exact Sub.nil _ | refine Sub.cons rfl ?_))
            | true =>
              have h3' : z % 4 = 3 := by have := beq_iff_eq.1 h3; omega
              repeat (first | refine RunL.pureI Tryd.tOk rfl rfl rfl (by (first | exact wr_i64 (by omega) (by omega) | exact wm_i64 (by omega) | exact wq_i64 (by omega) (by omega) (by omega) | rfl)) ?_ | refine RunL.pure Tryd.tOk rfl rfl rfl ?_ | refine RunL.nil ?_)
              refine RunE.cond rfl (fun h4 => ?_) (fun h4 => ?_) <;> (first | replace h4 := of_decide_eq_true h4 | replace h4 := of_decide_eq_false h4 | replace h4 := beq_iff_eq.1 h4 | replace h4 := beq_eq_false_iff_ne.1 h4 | replace h4 := bne_iff_ne.1 h4 | replace h4 := bne_eq_false_iff_eq.1 h4 | skip)
              · rw [if_pos (by omega)] at hz3
                repeat (first | refine RunL.pureI Tryd.tOk rfl rfl rfl (by (first | exact wr_i64 (by omega) (by omega) | exact wm_i64 (by omega) | exact wq_i64 (by omega) (by omega) (by omega) | rfl)) ?_ | refine RunL.pure Tryd.tOk rfl rfl rfl ?_ | refine RunE.region ?_ | refine RunL.nil ?_)
                refine RunL.rem rfl rfl rfl rfl (by omega) hrem ?_
                repeat (first | refine RunL.pureI Tryd.tOk rfl rfl rfl (by (first | exact wr_i64 (by omega) (by omega) | exact wm_i64 (by omega) | exact wq_i64 (by omega) (by omega) (by omega) | rfl)) ?_ | refine RunL.nil ?_ | refine RunE.inBlock ?_)
                refine RunE.weaken ?_ (done _ hz3)
                unfold vEnv; exact (by repeat (first | exact Sub.nil _ | refine Sub.cons rfl ?_))
              · rw [if_neg (by omega)] at hz3
                repeat (first | refine RunL.pureI Tryd.tOk rfl rfl rfl (by (first | exact wr_i64 (by omega) (by omega) | exact wm_i64 (by omega) | exact wq_i64 (by omega) (by omega) (by omega) | rfl)) ?_ | refine RunE.region ?_ | refine RunE.skip ?_)
                refine RunL.rem rfl rfl rfl rfl (by omega) hrem ?_
                repeat (first | refine RunL.pureI Tryd.tOk rfl rfl rfl (by (first | exact wr_i64 (by omega) (by omega) | exact wm_i64 (by omega) | exact wq_i64 (by omega) (by omega) (by omega) | rfl)) ?_ | refine RunL.nil ?_ | refine RunE.inBlock ?_)
                refine RunE.weaken ?_ (done _ hz3)
                unfold vEnv; exact (by repeat (first | exact Sub.nil _ | refine Sub.cons rfl ?_))
      · repeat (first | refine RunL.pure Tryd.tOk rfl rfl rfl ?_ | refine RunE.seq ?_ | refine RunE.region ?_ | refine RunL.nil ?_ | refine RunE.exit rfl ?_)
        refine RunE.retFn Tryd.func41 (.tmp rfl .nil) ⟨?_, rfl⟩
        have : y = 1 := by omega
        subst this
        simp only [oneOr]
        rw [hv.done h1 h2]

end Go.Sg
end
section
/- The walks of package group: Mul; what Element and Number are. -/
namespace Go.Sg
open Go.Rn Go.NT Go.Proofs

def grpE (b : Bool) : Int := if b then 0 else 100
def mulC (a b : Int) : Int := if validS a && validS b then a * b % 2147483579 else 0

theorem mul_ok (a b : Int) (w : World) : Rets Tryd.prog 46 [.int .i64 a, .int .i64 b] w fun v w' => v = .tuple #[.int .i64 (mulC a b), .int .i64 (grpE (validS a && validS b))] ∧ w = w' := by
  refine RetsX.of (nt := 18) Tryd.func46 (by kernel_rfl) rfl rfl (by simp) (by simp only [argEnv]; rfl) ?_
  repeat (first | refine RunL.pureI Tryd.tOk rfl rfl rfl (by (first | exact wr_i64 (by omega) (by omega) | exact wm_i64 (by omega) | exact wq_i64 (by omega) (by omega) (by omega) | rfl)) ?_ | refine RunE.seq ?_ | refine RunE.region ?_ | refine RunL.nil ?_)
  refine RunL.call rfl rfl rfl (valid_ok _ _) ?_
  rintro _ _ ⟨rfl, rfl⟩
  cases ha : validS a with
  | false =>
    repeat (first | refine RunL.pure Tryd.tOk rfl rfl rfl ?_ | refine RunL.unwantedD rfl rfl ?_ | refine RunL.nil ?_)
    refine RunE.condT rfl rfl ?_
    repeat (first | refine RunL.pureI Tryd.tOk rfl rfl rfl (by (first | exact wr_i64 (by omega) (by omega) | exact wm_i64 (by omega) | exact wq_i64 (by omega) (by omega) (by omega) | rfl)) ?_ | refine RunE.seq ?_ | refine RunE.region ?_ | refine RunL.nil ?_)
    exact RunE.retFn Tryd.func46 (.tmp rfl (.tmp rfl .nil)) ⟨by simp [oneOr, mulC, ha, grpE], rfl⟩
  | true =>
    repeat (first | refine RunL.pureI Tryd.tOk rfl rfl rfl (by (first | exact wr_i64 (by omega) (by omega) | exact wm_i64 (by omega) | exact wq_i64 (by omega) (by omega) (by omega) | rfl)) ?_ | refine RunL.pure Tryd.tOk rfl rfl rfl ?_)
    refine RunL.call rfl rfl rfl (valid_ok _ _) ?_
    rintro _ _ ⟨rfl, rfl⟩
    cases hb : validS b with
    | false =>
      repeat (first | refine RunL.pure Tryd.tOk rfl rfl rfl ?_ | refine RunL.nil ?_)
      refine RunE.condT rfl rfl ?_
      repeat (first | refine RunL.pureI Tryd.tOk rfl rfl rfl (by (first | exact wr_i64 (by omega) (by omega) | exact wm_i64 (by omega) | exact wq_i64 (by omega) (by omega) (by omega) | rfl)) ?_ | refine RunE.seq ?_ | refine RunE.region ?_ | refine RunL.nil ?_)
      exact RunE.retFn Tryd.func46 (.tmp rfl (.tmp rfl .nil)) ⟨by simp [oneOr, mulC, ha, hb, grpE], rfl⟩
    | true =>
      have h1 := validS_inv ha
      have h2 := validS_inv hb
      have hm := mulmod_bd (by omega : 0 ≤ a) h1.2.1 (by omega : 0 ≤ b) h2.2.1
      clear h1 h2
      repeat (first | refine RunL.pure Tryd.tOk rfl rfl rfl ?_ | refine RunL.nil ?_)
      refine RunE.condF rfl rfl ?_
      repeat (first | refine RunL.pureI Tryd.tOk rfl rfl rfl (by (first | exact wr_i64 (by omega) (by omega) | exact wm_i64 (by omega) | exact wq_i64 (by omega) (by omega) (by omega) | rfl)) ?_ | refine RunE.seq ?_ | refine RunE.region ?_ | refine RunL.nil ?_ | refine RunE.skip ?_)
      exact RunE.retFn Tryd.func46 (.tmp rfl (.tmp rfl .nil)) ⟨by simp [oneOr, mulC, ha, hb, grpE], rfl⟩

def elemC (n : Int) : Int := if n < 1 ∨ n > 1073741789 then 0 else if validS n then n else 2147483579 - n
def elemE (n : Int) : Int := if n < 1 ∨ n > 1073741789 then 1 else 0

def numC (x : Int) : Int := if validS x then (if x ≤ 1073741789 then x else 2147483579 - x) else 0

end Go.Sg
end
section
/- The walks of package group, the rest. -/
namespace Go.Sg
open Go.Rn Go.NT Go.Proofs
def powC (a n : Int) : Int := if validS a then a ^ (n % 1073741789).toNat % 2147483579 else 0

theorem sq_pow (x : Int) (m : Nat) : (x * x % 2147483579) ^ m % 2147483579 = (x * x) ^ m % 2147483579 := pow_mod _ _ _
theorem pow_step1 (c x : Int) (m : Nat) (h : m % 2 = 1) : (c * x % 2147483579 * (x * x % 2147483579) ^ (m / 2)) % 2147483579 = c * x ^ m % 2147483579 := by
  have hn : m = 2 * (m / 2) + 1 := by omega
  have e : x ^ m = x * (x * x) ^ (m / 2) := by
    conv => lhs; rw [hn]
    rw [Int.pow_succ, Int.pow_mul, Int.mul_comm, show x ^ 2 = x * x by rw [Int.pow_succ, Int.pow_succ]; simp]
  rw [e, ← Int.mul_assoc]
  exact mul_mod_congr (by simp) (sq_pow x _)
theorem pow_step0 (c x : Int) (m : Nat) (h : m % 2 = 0) : (c * (x * x % 2147483579) ^ (m / 2)) % 2147483579 = c * x ^ m % 2147483579 := by
  have hn : m = 2 * (m / 2) := by omega
  have e : x ^ m = (x * x) ^ (m / 2) := by
    conv => lhs; rw [hn]
    rw [Int.pow_mul, show x ^ 2 = x * x by rw [Int.pow_succ, Int.pow_succ]; simp]
  rw [e]
  exact mul_mod_congr rfl (sq_pow x _)

set_option maxRecDepth 4000 in
theorem pow_ok (a n : Int) (w : World) :
    Rets Tryd.prog 20 [.int .i64 a, .int .i64 n] w fun v w' => v = .tuple #[.int .i64 (powC a n), .int .i64 (grpE (validS a))] ∧ Ext w w' := by
  refine RetsX.of (nt := 24) Tryd.func20 (by kernel_rfl) rfl rfl (by simp) (by simp only [argEnv]; rfl) ?_
  repeat (first | refine RunE.seq ?_ | refine RunE.region ?_)
  refine RunL.alloc Tryd.tOk rfl rfl rfl fun B w1 h1 => ?_
  repeat (first | refine RunL.pureI Tryd.tOk rfl rfl rfl (by (first | exact wr_i64 (by omega) (by omega) | exact wm_i64 (by omega) | exact wq_i64 (by omega) (by omega) (by omega) | rfl)) ?_ | refine RunE.seq ?_ | refine RunE.region ?_ | refine RunL.nil ?_)
  refine RunL.call rfl rfl rfl (valid_ok _ _) ?_
  rintro v _ ⟨rfl, rfl⟩
  repeat (first | refine RunL.pure Tryd.tOk rfl rfl rfl ?_ | refine RunL.nil ?_)
  have hB1 : Blk w1 B [.int .i64 0] 3 := h1.at_
  cases hva : validS a with
  | false =>
    refine RunE.condT rfl rfl ?_
    repeat (first | refine RunE.seq ?_ | refine RunE.region ?_)
    refine RunL.store Tryd.tOk rfl rfl rfl rfl rfl hB1 rfl rfl ?_
    intro w2 h2
    repeat (first | refine RunL.pureI Tryd.tOk rfl rfl rfl (by (first | exact wr_i64 (by omega) (by omega) | exact wm_i64 (by omega) | exact wq_i64 (by omega) (by omega) (by omega) | rfl)) ?_ | refine RunL.nil ?_)
    have hB2 : Blk w2 B [.int .i64 0] 3 := h2.at_
    refine RunE.retFn Tryd.func20 (.cell rfl (Loads.scalar Tryd.tOk rfl rfl (hB2.cell rfl)) (.tmp rfl .nil)) ⟨?_, h1.ext.write h2.ext fun i e hi => by have := h1.eq; omega⟩
    simp [oneOr, powC, hva, grpE]
  | true =>
    have hva' := hva
    simp only [validS, decide_eq_true_eq] at hva'
    obtain ⟨ha0, ha1, _⟩ := hva'
    refine RunE.condF rfl rfl ?_
    repeat (first | refine RunE.seq ?_ | refine RunE.region ?_ | refine RunE.skip ?_)
    refine RunL.store Tryd.tOk rfl rfl rfl rfl rfl hB1 rfl rfl ?_
    intro w2 h2
    have hB2 : Blk w2 B [.int .i64 1] 3 := h2.at_
    have x2 : Ext w w2 := h1.ext.write h2.ext fun i e hi => by have := h1.eq; omega
    repeat (first | refine RunL.pureI Tryd.tOk rfl rfl rfl (by (first | exact wr_i64 (by omega) (by omega) | exact wm_i64 (by omega) | exact wq_i64 (by omega) (by omega) (by omega) | rfl)) ?_ | refine RunE.seq ?_ | refine RunE.region ?_ | refine RunL.nil ?_)
    refine RunL.buildSlice Tryd.tOk rfl rfl rfl rfl rfl rfl rfl rfl fun B3 w3 h3 => ?_
    refine RunL.call rfl rfl rfl (least_ok [n] B3 0 1 w3 (Blk.row (show Blk w3 B3 [.int .i64 n] 3 from h3.at_)) (by simp)) ?_
    rintro v _ ⟨rfl, rfl⟩
    rw [least1]
    refine RunL.call rfl rfl rfl (squares_ok _ _ _) ?_
    rintro v w4 ⟨rfl, hA4, hN4, x4, s4⟩
    have hB4 := (hB2.ext h3.ext id).ext x4 id
    repeat (first | refine RunL.nil ?_ | refine RunE.block ?_)
    have x4' : Ext w w4 := (x2.trans h3.ext).trans x4
    have eB := h1.eq
    have e3 := h3.eq
    have s3 := h3.size
    have s1 := h1.size
    have s2 := h2.size
    refine RunE.rangeFunc rfl rfl fun fa D L w5 w6 lp hst h5 h6 hlp => ?_
    have e5 := h5.eq
    have s5 := h5.size
    have e6 := h6.eq
    have hA6 := (hA4.ext h5.ext id).ext h6.ext id
    have hN6 := (hN4.ext h5.ext id).ext h6.ext id
    have hB6 := (hB4.ext h5.ext id).ext h6.ext id
    have hD6 : w6.heap[D]? = some (.deferred (some [])) := by rw [h6.ext.block D (by omega) id]; exact h5.at_
    have x6 := (x4'.trans h5.ext).trans h6.ext
    have hq := Int.emod_nonneg n (by decide : (1073741789 : Int) ≠ 0)
    have hq' := Int.emod_lt_of_pos n (by decide : (0 : Int) < 1073741789)
    have H := squares1_ok w3.heap.size (w3.heap.size + 1) (yieldV L)
      (fun x m w' => ∃ cv, Blk w' B [.int .i64 cv] 3 ∧ 0 ≤ cv ∧ cv < 2147483579 ∧ cv * x ^ m.toNat % 2147483579 = a ^ (n % 1073741789).toNat % 2147483579 ∧
        w'.heap[L]? = some (.loop lp) ∧ w'.heap[D]? = some (.deferred (some [])) ∧ Ext w w') (by omega)
      (by
        rintro x m u u' ⟨cv, hb, h0, h1', he, hl, hd, hx⟩ hext
        exact ⟨cv, hb.ext hext (by omega), h0, h1', he, by rw [hext.block L (lt_of_get hl) (by omega)]; exact hl, by rw [hext.block D (lt_of_get hd) (by omega)]; exact hd, hx.write hext fun i e hi => by omega⟩)
      (by
        rintro x m u ⟨cv, hb, h0, h1', he, hl, hd, hx⟩ hx0 hx1 hm hm1 hA hN
        refine Yield.run hl ⟨_, Tryd.func20⟩ hst hlp rfl rfl rfl ?_
        repeat (first | refine RunL.pureI Tryd.tOk rfl rfl rfl (by (first | exact wr_i64 (by omega) (by omega) | exact wm_i64 (by omega) | exact wq_i64 (by omega) (by omega) (by omega) | rfl)) ?_ | refine RunL.pure Tryd.tOk rfl rfl rfl ?_ | refine RunE.seq ?_ | refine RunE.region ?_ | refine RunL.nil ?_)
        refine RunE.beginRound hl hlp.state fun u1 t1 => ?_
        have hb1 := hb.ext t1.ext (by omega)
        have hA1 := hA.ext t1.ext (by omega)
        have hN1 := hN.ext t1.ext (by omega)
        have hd1 : u1.heap[D]? = some (.deferred (some [])) := by rw [t1.ext.block D (lt_of_get hd) (by omega)]; exact hd
        have hx1' := hx.write t1.ext fun i e hi => by omega
        repeat (first | refine RunL.pure Tryd.tOk rfl rfl rfl ?_ | refine RunE.seq ?_ | refine RunE.region ?_ | refine RunL.nil ?_ | refine RunE.block ?_)
        refine RunE.cond rfl (fun hodd => ?_) (fun hodd => ?_)
        · have hmb := mulmod_bd h0 h1' hx0 hx1
          repeat (first | refine RunE.region ?_)
          refine RunL.load rfl rfl rfl (Loads.scalar Tryd.tOk rfl rfl (hb1.cell rfl)) ?_
          repeat (first | refine RunL.pureI Tryd.tOk rfl rfl rfl (by (first | exact wr_i64 (by omega) (by omega) | exact wm_i64 (by omega) | exact wq_i64 (by omega) (by omega) (by omega) | rfl)) ?_)
          refine RunL.store Tryd.tOk rfl rfl rfl rfl rfl hb1 rfl rfl ?_
          intro u2 t2
          repeat (first | refine RunL.nil ?_ | refine RunE.inBlock ?_)
          refine RunE.nil fun _ _ => ⟨_, by rw [t2.ext.block L (lt_of_get t1.at_) (by omega)]; exact t1.at_, fun u3 t3 => ?_⟩
          rw [hlp.back] at t3
          have hA3 := (hA1.ext t2.ext (by omega)).ext t3.ext (by omega)
          have hN3 := (hN1.ext t2.ext (by omega)).ext t3.ext (by omega)
          have hb2 : Blk u2 B [.int .i64 (cv * x % 2147483579)] 3 := t2.at_
          refine ⟨rfl, ⟨cv * x % 2147483579, hb2.ext t3.ext (by omega), by omega, by omega, ?_, t3.at_, ?_, ?_⟩, hA3, hN3⟩
          · rw [← he, show (m / 2).toNat = m.toNat / 2 by omega]
            exact pow_step1 _ _ _ (by simp at hodd; omega)
          · rw [t3.ext.block D (by have := lt_of_get hd1; have := t2.size; omega) (by omega), t2.ext.block D (lt_of_get hd1) (by omega)]; exact hd1
          · exact (hx1'.write t2.ext fun i e hi => by omega).write t3.ext fun i e hi => by omega
        · repeat (first | refine RunE.inBlock ?_ | refine RunE.skip ?_)
          refine RunE.nil fun _ _ => ⟨_, t1.at_, fun u3 t3 => ?_⟩
          rw [hlp.back] at t3
          refine ⟨rfl, ⟨cv, hb1.ext t3.ext (by omega), h0, h1', ?_, t3.at_, ?_, ?_⟩, hA1.ext t3.ext (by omega), hN1.ext t3.ext (by omega)⟩
          · rw [← he, show (m / 2).toNat = m.toNat / 2 by omega]
            exact pow_step0 _ _ _ (by simp at hodd; omega)
          · rw [t3.ext.block D (lt_of_get hd1) (by omega)]; exact hd1
          · exact hx1'.write t3.ext fun i e hi => by omega)
      a (n % 1073741789) w6 (by omega) (by omega) hq (by omega) hA6 hN6 ⟨1, hB6, by decide, by decide, by simp, h6.at_, hD6, x6⟩
    refine (RetsX.v (fi := []) (args := [yieldV L]) (ca := [.pointer (some ⟨w3.heap.size + 1, 0, none⟩), .pointer (some ⟨w3.heap.size, 0, none⟩)]) H).mono ?_ (fun _ _ h => h)
    rintro _ w7 ⟨x, cv, hb7, h0, h1', he, hl7, hd7, x7⟩
    refine ⟨lp, hl7, by rw [hlp.state]; rfl, fun w8 t8 => ?_⟩
    rw [hlp.pending]
    refine RunE.at_ hst ?_
    have hb8 := hb7.ext t8.ext (by omega)
    have hd8 : w8.heap[D]? = some (.deferred (some [])) := by rw [t8.ext.block D (lt_of_get hd7) (by omega)]; exact hd7
    have x8 : Ext w w8 := x7.write t8.ext fun i e hi => by omega
    simp only [Option.map_none, Option.toList_none, List.nil_append]
    repeat (first | refine RunE.seq ?_ | refine RunE.region ?_ | refine RunE.inBlock ?_)
    refine RunL.load rfl rfl rfl (Loads.scalar Tryd.tOk rfl rfl (hb8.cell rfl)) ?_
    refine RunL.store Tryd.tOk rfl rfl rfl rfl rfl hb8 rfl rfl ?_
    intro w9 t9
    have hb9 : Blk w9 B [.int .i64 cv] 3 := t9.at_
    have hd9 : w9.heap[D]? = some (.deferred (some [])) := by rw [t9.ext.block D (lt_of_get hd8) (by omega)]; exact hd8
    repeat (first | refine RunL.pureI Tryd.tOk rfl rfl rfl (by (first | exact wr_i64 (by omega) (by omega) | exact wm_i64 (by omega) | exact wq_i64 (by omega) (by omega) (by omega) | rfl)) ?_ | refine RunL.nil ?_)
    refine RunE.retFn1 Tryd.func20 hd9 fun w10 t10 => ⟨_, .cell rfl (Loads.scalar Tryd.tOk rfl rfl ((hb9.ext t10.ext (by omega)).cell rfl)) (.tmp rfl .nil), ?_, ?_⟩
    · simp only [oneOr, powC, hva, grpE, if_true]
      rw [← he]
      simp
      exact (Int.emod_eq_of_lt h0 h1').symm
    · exact (x8.write t9.ext fun i e hi => by omega).write t10.ext fun i e hi => by omega
end Go.Sg
end
section
/- The walks of package signatoryref10. -/
namespace Go.Sg
open Go.Rn Go.NT Go.Proofs

theorem r10_exponent_ok (n : Int) (w : World) : Rets Tryd.prog 78 [.int .i64 n] w fun v w' => v = .int .i64 (n % 1073741789) ∧ w = w' := by
  have h1 := tmod_cases n 1073741789 (by decide)
  refine RetsX.of (nt := 10) Tryd.func78 (by kernel_rfl) rfl rfl (by simp) (by simp only [argEnv]; rfl) ?_
  repeat (first | refine RunL.pureI Tryd.tOk rfl rfl rfl (by (first | exact wr_i64 (by omega) (by omega) | exact wm_i64 (by omega) | exact wq_i64 (by omega) (by omega) (by omega) | rfl)) ?_ | refine RunL.pure Tryd.tOk rfl rfl rfl ?_ | refine RunE.seq ?_ | refine RunE.region ?_ | refine RunL.nil ?_)
  refine RunE.cond rfl (fun h => ?_) (fun h => ?_) <;> (first | replace h := of_decide_eq_true h | replace h := of_decide_eq_false h | replace h := beq_iff_eq.1 h | replace h := beq_eq_false_iff_ne.1 h | replace h := bne_iff_ne.1 h | replace h := bne_eq_false_iff_eq.1 h | skip)
  · repeat (first | refine RunL.pureI Tryd.tOk rfl rfl rfl (by (first | exact wr_i64 (by omega) (by omega) | exact wm_i64 (by omega) | exact wq_i64 (by omega) (by omega) (by omega) | rfl)) ?_ | refine RunE.seq ?_ | refine RunE.region ?_ | refine RunL.nil ?_)
    refine RunE.retFn Tryd.func78 (.tmp rfl .nil) ⟨?_, rfl⟩
    simp only [oneOr]
    congr 1; omega
  · repeat (first | refine RunL.pureI Tryd.tOk rfl rfl rfl (by (first | exact wr_i64 (by omega) (by omega) | exact wm_i64 (by omega) | exact wq_i64 (by omega) (by omega) (by omega) | rfl)) ?_ | refine RunE.seq ?_ | refine RunE.region ?_ | refine RunL.nil ?_ | refine RunE.skip ?_)
    refine RunE.retFn Tryd.func78 (.tmp rfl .nil) ⟨?_, rfl⟩
    simp only [oneOr]
    congr 1; omega

theorem r10_power_ok (a n : Int) (w : World) (ha : 0 ≤ a) (ha' : a < 2147483579) (hn : 0 ≤ n) (hn' : n < 9223372036854775808) :
    Rets Tryd.prog 71 [.int .i64 a, .int .i64 n] w fun v w' => v = .int .i64 (a ^ n.toNat % 2147483579) ∧ w = w' := by
  refine RetsX.of (nt := 22) Tryd.func71 (by kernel_rfl) rfl rfl (by simp) (by simp only [argEnv]; rfl) ?_
  repeat (first | refine RunL.pureI Tryd.tOk rfl rfl rfl (by (first | exact wr_i64 (by omega) (by omega) | exact wm_i64 (by omega) | exact wq_i64 (by omega) (by omega) (by omega) | rfl)) ?_ | refine RunE.seq ?_ | refine RunE.region ?_ | refine RunL.nil ?_ | refine RunE.block ?_)
  refine RunE.loop (ι := Int × Int × Int) (fun x => [(0, .int .i64 x.2.1), (1, .int .i64 x.2.2), (5, .int .i64 x.1)])
    (fun x w' => w = w' ∧ 0 ≤ x.1 ∧ x.1 < 2147483579 ∧ 0 ≤ x.2.1 ∧ x.2.1 < 2147483579 ∧ 0 ≤ x.2.2 ∧ x.2.2 < 9223372036854775808 ∧ x.1 * x.2.1 ^ x.2.2.toNat % 2147483579 = a ^ n.toNat % 2147483579)
    (fun x => x.2.2.toNat) (1, a, n) (by repeat (first | exact Sub.nil _ | refine Sub.cons rfl ?_)) ⟨rfl, (by decide : (0 : Int) ≤ 1), (by decide : (1 : Int) < 2147483579), ha, ha', hn, hn', by simp⟩ ?_
  rintro ⟨c, a1, m⟩ _ ⟨rfl, hc, hc', hA, hA', hm, hm', hp⟩ IH
  dsimp only at hc hc' hA hA' hm hm' hp ⊢
  repeat (first | refine RunL.pureI Tryd.tOk rfl rfl rfl (by (first | exact wr_i64 (by omega) (by omega) | exact wm_i64 (by omega) | exact wq_i64 (by omega) (by omega) (by omega) | rfl)) ?_ | refine RunL.pure Tryd.tOk rfl rfl rfl ?_ | refine RunE.seq ?_ | refine RunE.region ?_ | refine RunL.nil ?_)
  refine RunE.cond rfl (fun h => ?_) (fun h => ?_) <;> (first | replace h := of_decide_eq_true h | replace h := of_decide_eq_false h | replace h := beq_iff_eq.1 h | replace h := beq_eq_false_iff_ne.1 h | replace h := bne_iff_ne.1 h | replace h := bne_eq_false_iff_eq.1 h | skip)
  · have hb := mulmod_bd hc hc' hA hA'
    have hb2 := mulmod_bd hA hA' hA hA'
    repeat (first | refine RunL.pureI Tryd.tOk rfl rfl rfl (by (first | exact wr_i64 (by omega) (by omega) | exact wm_i64 (by omega) | exact wq_i64 (by omega) (by omega) (by omega) | rfl)) ?_ | refine RunL.pure Tryd.tOk rfl rfl rfl ?_ | refine RunE.seq ?_ | refine RunE.region ?_ | refine RunL.nil ?_ | refine RunE.block ?_ | refine RunE.skip ?_)
    refine RunE.cond rfl (fun h2 => ?_) (fun h2 => ?_) <;> (first | replace h2 := of_decide_eq_true h2 | replace h2 := of_decide_eq_false h2 | replace h2 := beq_iff_eq.1 h2 | replace h2 := beq_eq_false_iff_ne.1 h2 | replace h2 := bne_iff_ne.1 h2 | replace h2 := bne_eq_false_iff_eq.1 h2 | skip)
    · repeat (first | refine RunL.pureI Tryd.tOk rfl rfl rfl (by (first | exact wr_i64 (by omega) (by omega) | exact wm_i64 (by omega) | exact wq_i64 (by omega) (by omega) (by omega) | rfl)) ?_ | refine RunE.seq ?_ | refine RunE.region ?_ | refine RunL.nil ?_ | refine RunE.inBlock ?_)
      refine RunE.weaken (by repeat (first | exact Sub.nil _ | refine Sub.cons rfl ?_)) (IH (c * a1 % 2147483579, a1 * a1 % 2147483579, m / 2) _ (by simp only; omega) ⟨rfl, by simp only; omega, by simp only; omega, by simp only; omega, by simp only; omega, by simp only; omega, by simp only; omega, ?_⟩)
      simp only
      rw [← hp, show (m / 2).toNat = m.toNat / 2 by omega]
      exact pow_step1 _ _ _ (by omega)
    · repeat (first | refine RunL.pureI Tryd.tOk rfl rfl rfl (by (first | exact wr_i64 (by omega) (by omega) | exact wm_i64 (by omega) | exact wq_i64 (by omega) (by omega) (by omega) | rfl)) ?_ | refine RunE.seq ?_ | refine RunE.region ?_ | refine RunL.nil ?_ | refine RunE.inBlock ?_ | refine RunE.skip ?_)
      refine RunE.weaken (by repeat (first | exact Sub.nil _ | refine Sub.cons rfl ?_)) (IH (c, a1 * a1 % 2147483579, m / 2) _ (by simp only; omega) ⟨rfl, by simp only; omega, by simp only; omega, by simp only; omega, by simp only; omega, by simp only; omega, by simp only; omega, ?_⟩)
      simp only
      rw [← hp, show (m / 2).toNat = m.toNat / 2 by omega]
      exact pow_step0 _ _ _ (by omega)
  · repeat (first | refine RunL.pureI Tryd.tOk rfl rfl rfl (by (first | exact wr_i64 (by omega) (by omega) | exact wm_i64 (by omega) | exact wq_i64 (by omega) (by omega) (by omega) | rfl)) ?_ | refine RunE.seq ?_ | refine RunE.region ?_ | refine RunL.nil ?_ | refine RunE.exit rfl ?_)
    refine RunE.retFn Tryd.func71 (.tmp rfl .nil) ⟨?_, rfl⟩
    simp only [oneOr]
    congr 1
    obtain rfl : m = 0 := by omega
    rw [← hp]; simp; exact (Int.emod_eq_of_lt hc hc').symm

theorem r10_valid_ok (x : Int) (w : World) : Rets Tryd.prog 50 [.int .i64 x] w fun v w' => v = .bool (validS x) ∧ w = w' := by
  refine RetsX.of (nt := 14) Tryd.func50 (by kernel_rfl) rfl rfl (by simp) (by simp only [argEnv]; rfl) ?_
  repeat (first | refine RunL.pureI Tryd.tOk rfl rfl rfl (by (first | exact wr_i64 (by omega) (by omega) | exact wm_i64 (by omega) | exact wq_i64 (by omega) (by omega) (by omega) | rfl)) ?_ | refine RunL.pure Tryd.tOk rfl rfl rfl ?_ | refine RunE.seq ?_ | refine RunE.region ?_ | refine RunL.nil ?_)
  cases h1 : decide (x ≥ 1) with
  | false =>
    have h1' := of_decide_eq_false h1
    repeat (first | refine RunL.pure Tryd.tOk rfl rfl rfl ?_ | refine RunL.unwantedD rfl rfl ?_ | refine RunL.nil ?_)
    refine RunE.retFn Tryd.func50 (.tmp rfl .nil) ⟨?_, rfl⟩
    simp only [oneOr, validS]
    congr 1; exact (decide_eq_false (by omega)).symm
  | true =>
    have h1' := of_decide_eq_true h1
    repeat (first | refine RunL.pureI Tryd.tOk rfl rfl rfl (by (first | exact wr_i64 (by omega) (by omega) | exact wm_i64 (by omega) | exact wq_i64 (by omega) (by omega) (by omega) | rfl)) ?_ | refine RunL.pure Tryd.tOk rfl rfl rfl ?_)
    cases h2 : decide (x < 2147483579) with
    | false =>
      have h2' := of_decide_eq_false h2
      repeat (first | refine RunL.pure Tryd.tOk rfl rfl rfl ?_ | refine RunL.unwantedD rfl rfl ?_ | refine RunL.nil ?_)
      refine RunE.retFn Tryd.func50 (.tmp rfl .nil) ⟨?_, rfl⟩
      simp only [oneOr, validS]
      congr 1; exact (decide_eq_false (by omega)).symm
    | true =>
      have h2' := of_decide_eq_true h2
      repeat (first | refine RunL.pureI Tryd.tOk rfl rfl rfl (by (first | exact wr_i64 (by omega) (by omega) | exact wm_i64 (by omega) | exact wq_i64 (by omega) (by omega) (by omega) | rfl)) ?_)
      refine RunL.call rfl rfl rfl (r10_power_ok x 1073741789 w (by omega) h2' (by decide) (by decide)) ?_
      rintro _ _ ⟨rfl, rfl⟩
      repeat (first | refine RunL.pure Tryd.tOk rfl rfl rfl ?_ | refine RunL.nil ?_)
      refine RunE.retFn Tryd.func50 (.tmp rfl .nil) ⟨?_, rfl⟩
      simp only [oneOr, validS]
      congr 1
      have e : (1073741789 : Int).toNat = 1073741789 := by decide
      rw [e]
      generalize x ^ 1073741789 % 2147483579 = y
      by_cases hy : y = 1
      · subst hy; simp; omega
      · simp [hy]

theorem r10_pow_ok (a n : Int) (w : World) : Rets Tryd.prog 62 [.int .i64 a, .int .i64 n] w fun v w' => v = .tuple #[.int .i64 (powC a n), .int .i64 (grpE (validS a))] ∧ w = w' := by
  have hq := Int.emod_nonneg n (by decide : (1073741789 : Int) ≠ 0)
  have hq' := Int.emod_lt_of_pos n (by decide : (0 : Int) < 1073741789)
  refine RetsX.of (nt := 13) Tryd.func62 (by kernel_rfl) rfl rfl (by simp) (by simp only [argEnv]; rfl) ?_
  repeat (first | refine RunL.pureI Tryd.tOk rfl rfl rfl (by (first | exact wr_i64 (by omega) (by omega) | exact wm_i64 (by omega) | exact wq_i64 (by omega) (by omega) (by omega) | rfl)) ?_ | refine RunE.seq ?_ | refine RunE.region ?_ | refine RunL.nil ?_)
  refine RunL.call rfl rfl rfl (r10_valid_ok _ _) ?_
  rintro _ _ ⟨rfl, rfl⟩
  repeat (first | refine RunL.pure Tryd.tOk rfl rfl rfl ?_ | refine RunL.nil ?_)
  cases ha : validS a with
  | false =>
    refine RunE.condT rfl rfl ?_
    repeat (first | refine RunL.pureI Tryd.tOk rfl rfl rfl (by (first | exact wr_i64 (by omega) (by omega) | exact wm_i64 (by omega) | exact wq_i64 (by omega) (by omega) (by omega) | rfl)) ?_ | refine RunE.seq ?_ | refine RunE.region ?_ | refine RunL.nil ?_)
    exact RunE.retFn Tryd.func62 (.tmp rfl (.tmp rfl .nil)) ⟨by simp [oneOr, powC, ha, grpE], rfl⟩
  | true =>
    have h1 := validS_inv ha
    refine RunE.condF rfl rfl ?_
    repeat (first | refine RunL.pureI Tryd.tOk rfl rfl rfl (by (first | exact wr_i64 (by omega) (by omega) | exact wm_i64 (by omega) | exact wq_i64 (by omega) (by omega) (by omega) | rfl)) ?_ | refine RunE.seq ?_ | refine RunE.region ?_ | refine RunE.skip ?_)
    refine RunL.call rfl rfl rfl (r10_exponent_ok _ _) ?_
    rintro _ _ ⟨rfl, rfl⟩
    refine RunL.call rfl rfl rfl (r10_power_ok _ _ w (by omega) h1.2.1 hq (by omega)) ?_
    rintro _ _ ⟨rfl, rfl⟩
    repeat (first | refine RunL.pureI Tryd.tOk rfl rfl rfl (by (first | exact wr_i64 (by omega) (by omega) | exact wm_i64 (by omega) | exact wq_i64 (by omega) (by omega) (by omega) | rfl)) ?_ | refine RunL.nil ?_)
    exact RunE.retFn Tryd.func62 (.tmp rfl (.tmp rfl .nil)) ⟨by simp [oneOr, powC, ha, grpE], rfl⟩
end Go.Sg
end
section
/- Facts of single numbers. -/
namespace Go.Sg
open Go.Rn Go.NT Go.Proofs

theorem v4 : validS 4 = true := by
  have h := valid_sq (x := 2) (by decide) (by decide)
  have e : (2 : Int) * 2 % 2147483579 = 4 := by decide
  exact (congrArg validS e).symm.trans h
theorem v1 : validS 1 = true := valid_one
theorem v0 : validS 0 = false := by unfold validS; exact decide_eq_false fun h => absurd h.1 (by decide)
theorem vP : validS 2147483579 = false := by unfold validS; exact decide_eq_false fun h => absurd h.2.1 (by decide)
theorem v2 : validS 2 = false := by
  have h := validS_iff (x := 2) (by decide) (by decide)
  have g := G_two (n := 2147483579) (by decide)
  rw [if_pos (.inl (by decide))] at g
  have e : ((2 : Nat) : Int) = 2 := rfl
  rw [e] at h
  rw [h]
  exact decide_eq_false (by omega)
theorem vP1 : validS 2147483578 = false := by
  have h := valid_neg (x := 1) (by decide) (by decide)
  rw [v1] at h; exact h
theorem vP2 : validS 2147483577 = true := by
  have h := valid_neg (x := 2) (by decide) (by decide)
  rw [v2] at h; exact h
theorem p42 : powC 4 2 = 16 := by
  unfold powC; rw [v4, if_pos rfl]; decide
theorem p4Q : powC 4 1073741789 = 1 := by
  unfold powC; rw [v4, if_pos rfl]; decide
theorem pow_neg1 {a : Int} (ha : validS a = true) : a * powC a (-1) % 2147483579 = 1 := by
  have e : ((-1 : Int) % 1073741789).toNat = 1073741788 := by decide
  unfold powC; rw [ha, if_pos rfl, e]
  have h1 : a * (a ^ 1073741788 % 2147483579) % 2147483579 = a * a ^ 1073741788 % 2147483579 := mul_mod_congr rfl (Int.emod_emod_of_dvd _ (Int.dvd_refl _))
  rw [h1, Int.mul_comm, ← Int.pow_succ]
  exact (validS_inv ha).2.2
theorem powC_bd (a n : Int) : 0 ≤ powC a n ∧ powC a n < 2147483579 := by
  have h : ∀ y : Int, 0 ≤ y % 2147483579 ∧ y % 2147483579 < 2147483579 := fun y => ⟨Int.emod_nonneg y (by decide), Int.emod_lt_of_pos y (by decide)⟩
  unfold powC
  cases validS a with
  | true => rw [if_pos rfl]; exact h _
  | false => rw [if_neg (by decide)]; exact ⟨by decide, by decide⟩
theorem inv4 (y : Int) (h : 4 * y % 2147483579 = 1) (h1 : 0 ≤ y) (h2 : y < 2147483579) : y = 536870895 := by
  have e1 : (4 * y * 536870895) % 2147483579 = 536870895 := by
    rw [Int.mul_emod, h]; decide
  have e2 : 4 * y * 536870895 = y + 2147483579 * y := by omega
  rw [e2, Int.add_mul_emod_self_left, Int.emod_eq_of_lt h1 h2] at e1
  exact e1
theorem p4m : powC 4 (-1) = 536870895 := inv4 _ (pow_neg1 v4) (powC_bd 4 (-1)).1 (powC_bd 4 (-1)).2
theorem p01 : powC 0 1 = 0 := by unfold powC; rw [v0, if_neg (by decide)]
theorem m44 : mulC 4 4 = 16 := by unfold mulC; rw [v4]; rfl
theorem m42 : mulC 4 2 = 0 := by unfold mulC; rw [v4, v2]; rfl
theorem el2 : elemC 2 = 2147483577 := by unfold elemC; rw [v2]; rfl
theorem nm2 : numC 2 = 0 := by unfold numC; rw [v2]; rfl
theorem nmP2 : numC 2147483577 = 2 := by unfold numC; rw [vP2]; rfl
end Go.Sg
end
section
/- What the group's powers and products are. Plain mathematics over the numbers that the walks name. -/
namespace Go.Sg
open Go.Rn Go.NT Go.Proofs

/-- What element returns is an element. -/
theorem elem_valid (x : Int) : validS (elemC (x % 1073741789 + 1)) = true := by
  have h1 := Int.emod_nonneg x (by decide : (1073741789 : Int) ≠ 0)
  have h2 := Int.emod_lt_of_pos x (by decide : (0 : Int) < 1073741789)
  generalize hn : x % 1073741789 + 1 = n
  have h3 : 1 ≤ n := by omega
  have h4 : n ≤ 1073741789 := by omega
  unfold elemC
  rw [if_neg (by omega)]
  cases hv : validS n with
  | true => rw [if_pos rfl]; exact hv
  | false =>
    rw [if_neg (by decide)]
    have h := valid_neg h3 (by omega)
    rw [hv] at h; exact h

theorem mulC_eq {a b : Int} (ha : validS a = true) (hb : validS b = true) : mulC a b = a * b % 2147483579 := by unfold mulC; rw [ha, hb]; rfl
theorem mulC_valid {a b : Int} (ha : validS a = true) (hb : validS b = true) : validS (mulC a b) = true := by rw [mulC_eq ha hb]; exact valid_mul ha hb
theorem powC_eq {a : Int} (ha : validS a = true) (n : Int) : powC a n = a ^ (n % 1073741789).toNat % 2147483579 := by unfold powC; rw [ha, if_pos rfl]
theorem powC_valid {a : Int} (ha : validS a = true) (n : Int) : validS (powC a n) = true := by rw [powC_eq ha]; exact valid_pow ha _
theorem mulC_comm {a b : Int} (ha : validS a = true) (hb : validS b = true) : mulC a b = mulC b a := by rw [mulC_eq ha hb, mulC_eq hb ha, Int.mul_comm]
theorem emod_twice (x : Int) : x % 2147483579 % 2147483579 = x % 2147483579 := Int.emod_emod_of_dvd _ (Int.dvd_refl _)
theorem mulC_assoc {a b c : Int} (ha : validS a = true) (hb : validS b = true) (hc : validS c = true) : mulC (mulC a b) c = mulC a (mulC b c) := by
  rw [mulC_eq (mulC_valid ha hb) hc, mulC_eq ha (mulC_valid hb hc), mulC_eq ha hb, mulC_eq hb hc]
  rw [mul_mod_congr (emod_twice (a * b)) (rfl : c % 2147483579 = c % 2147483579), mul_mod_congr (rfl : a % 2147483579 = a % 2147483579) (emod_twice (b * c)), Int.mul_assoc]
theorem mulC_one {a : Int} (ha : validS a = true) : mulC a 1 = a := by
  rw [mulC_eq ha v1, Int.mul_one]
  exact Int.emod_eq_of_lt (by have := (validS_inv ha).1; omega) (validS_inv ha).2.1
theorem mulC_inv {a : Int} (ha : validS a = true) : mulC a (powC a (-1)) = 1 := by
  rw [mulC_eq ha (powC_valid ha _)]; exact pow_neg1 ha
theorem mulC_cancel {a b : Int} (ha : validS a = true) (hb : validS b = true) : mulC (mulC a b) (powC b (-1)) = a := by
  rw [mulC_assoc ha hb (powC_valid hb _), mulC_inv hb, mulC_one ha]
theorem powC_mulC {a b : Int} (ha : validS a = true) (hb : validS b = true) (n : Int) : powC (mulC a b) n = mulC (powC a n) (powC b n) := by
  rw [mulC_eq (powC_valid ha n) (powC_valid hb n), powC_eq (mulC_valid ha hb), powC_eq ha, powC_eq hb, mulC_eq ha hb, pow_mod, Int.mul_pow]
  exact (mul_mod_congr (emod_twice _) (emod_twice _)).symm


theorem powC_nat {a : Int} (ha : validS a = true) {n : Int} (m : Nat) (h : (m : Int) % 1073741789 = n % 1073741789) : powC a n = a ^ m % 2147483579 := by
  rw [powC_eq ha, ← h, ← pow_period ha m]
  congr 2
theorem expo (n : Int) : (((n % 1073741789).toNat : Nat) : Int) = n % 1073741789 := Int.toNat_of_nonneg (Int.emod_nonneg n (by decide))
theorem powC_zero {a : Int} (ha : validS a = true) : powC a 0 = 1 := by rw [powC_nat (n := 0) ha 0 (by decide)]; simp
theorem powC_one {a : Int} (ha : validS a = true) : powC a 1 = a := by
  rw [powC_nat (n := 1) ha 1 (by decide), Int.pow_one]
  exact Int.emod_eq_of_lt (by have := (validS_inv ha).1; omega) (validS_inv ha).2.1
theorem powC_two {a : Int} (ha : validS a = true) : powC a 2 = mulC a a := by
  rw [powC_nat (n := 2) ha 2 (by decide), mulC_eq ha ha, Int.pow_succ, Int.pow_one]
theorem powC_Q {a : Int} (ha : validS a = true) : powC a 1073741789 = 1 := by
  rw [powC_nat (n := 1073741789) ha 0 (by decide)]; simp
theorem powC_addQ {a : Int} (n : Int) : powC a (n + 1073741789) = powC a n := by
  unfold powC; rw [show (n + 1073741789) % 1073741789 = n % 1073741789 by omega]
theorem powC_subQ {a : Int} (n : Int) : powC a (n - 1073741789) = powC a n := by
  unfold powC; rw [show (n - 1073741789) % 1073741789 = n % 1073741789 by omega]
theorem powC_add {a : Int} (ha : validS a = true) (i k : Int) : mulC (powC a i) (powC a k) = powC a (i + k) := by
  rw [mulC_eq (powC_valid ha i) (powC_valid ha k), powC_eq ha, powC_eq ha, powC_nat ha ((i % 1073741789).toNat + (k % 1073741789).toNat) (by rw [Int.natCast_add, expo, expo]; omega), Int.pow_add]
  exact mul_mod_congr (emod_twice _) (emod_twice _)
theorem powC_mul {a : Int} (ha : validS a = true) (i k : Int) : powC (powC a i) k = powC a (i * k) := by
  rw [powC_eq (powC_valid ha i), powC_eq ha, pow_mod, ← Int.pow_mul, powC_nat ha ((i % 1073741789).toNat * (k % 1073741789).toNat)]
  rw [Int.natCast_mul, expo, expo, ← Int.mul_emod]
theorem mul_bd32 {i k : Int} (hi : -2147483648 ≤ i ∧ i < 2147483648) (hk : -2147483648 ≤ k ∧ k < 2147483648) : -4611686018427387904 ≤ i * k ∧ i * k ≤ 4611686018427387904 := by
  have h1 : (i * k).natAbs ≤ 2147483648 * 2147483648 := by
    rw [Int.natAbs_mul]; exact Nat.mul_le_mul (by omega) (by omega)
  omega
end Go.Sg
end
