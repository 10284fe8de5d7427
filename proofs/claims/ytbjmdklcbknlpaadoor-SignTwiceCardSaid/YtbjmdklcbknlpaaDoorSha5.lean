/- The reference's SHA-256. -/
import Derived.Test.YtbjmdklcbknlpaaDoorSha4
namespace Go.Sg
open Go.Rn Go.Sha Go.Proofs
attribute [local irreducible] Go.Rn.RunL Go.Rn.RunE Go.Rn.Asy Go.Rn.OpV Go.Rn.OpE Go.Rn.ExecE

theorem u32_compl (x : W) : IntKind.u32.wrap ((BitVec.ofInt IntKind.u32.bits (if IntKind.u32.signed then -1 else IntKind.u32.max) ^^^ BitVec.ofInt IntKind.u32.bits (x.toNat : Int)).toNat : Int) = ((~~~x).toNat : Int) := by
  have h2 : (BitVec.ofInt 32 (if IntKind.u32.signed then -1 else IntKind.u32.max) : BitVec 32) = BitVec.allOnes 32 := by decide
  have h1 : BitVec.ofInt 32 (x.toNat : Int) = x := bv_of x
  show IntKind.u32.wrap (((BitVec.ofInt 32 (if IntKind.u32.signed then -1 else IntKind.u32.max) : BitVec 32) ^^^ (BitVec.ofInt 32 (x.toNat : Int) : BitVec 32)).toNat : Int) = _
  rw [h1, h2]
  have h3 : (BitVec.allOnes 32 ^^^ x) = ~~~x := by
    exact BitVec.allOnes_xor
  rw [h3]
  exact u32_wrap_nat _ (BitVec.isLt (~~~x))

theorem numbers_ok (w : World) : Rets Tryd.prog 77 [] w fun v w' => v = .agg (vals kTab).toArray ∧ Ext w w' := by
  refine RetsX.of (nt := 2) Tryd.func77 (by kernel_rfl) rfl rfl (by simp) (by simp only [argEnv]; rfl) ?_
  repeat (first | refine RunL.pureI Tryd.tOk rfl rfl rfl (by (first | exact wr_i64 (by omega) (by omega) | exact wm_i64 (by omega) | exact wq_i64 (by omega) (by omega) (by omega) | rfl)) ?_ | refine RunL.pure Tryd.tOk rfl rfl rfl ?_ | refine RunL.unwantedD rfl rfl ?_ | refine RunE.seq ?_ | refine RunE.region ?_ | refine RunL.nil ?_ | refine RunE.block ?_ | refine RunE.inBlock ?_ | refine RunE.skip ?_ | refine RunE.exit rfl ?_ | refine RunE.scope ?_ | refine RunE.inScope ?_ | refine RunE.label ?_)
  refine RunL.alloc Tryd.tOk rfl rfl rfl fun B w1 a1 => ?_
  repeat (first | refine RunL.pureI Tryd.tOk rfl rfl rfl (by (first | exact wr_i64 (by omega) (by omega) | exact wm_i64 (by omega) | exact wq_i64 (by omega) (by omega) (by omega) | rfl)) ?_ | refine RunL.pure Tryd.tOk rfl rfl rfl ?_ | refine RunL.unwantedD rfl rfl ?_ | refine RunE.seq ?_ | refine RunE.region ?_ | refine RunL.nil ?_ | refine RunE.block ?_ | refine RunE.inBlock ?_ | refine RunE.skip ?_ | refine RunE.exit rfl ?_ | refine RunE.scope ?_ | refine RunE.inScope ?_ | refine RunE.label ?_)
  have hB := a1.eq
  refine RunL.store (v := .agg (vals kTab).toArray) Tryd.tOk rfl rfl rfl rfl rfl (cs := List.replicate 64 (.int .u32 0)) a1.at_ rfl rfl fun w2 t2 => ?_
  have X2 : Ext w w2 := a1.ext.write t2.ext (by intro i hi hlt; subst hi; omega)
  have D2 : Blk w2 B (vals kTab) 93 := by
    have := t2.at_
    rw [show (Value.agg (vals kTab).toArray).cells.toList = vals kTab from rfl, setAt_all _ _ (by rw [vals_length]; rfl)] at this
    exact this
  repeat (first | refine RunL.pureI Tryd.tOk rfl rfl rfl (by (first | exact wr_i64 (by omega) (by omega) | exact wm_i64 (by omega) | exact wq_i64 (by omega) (by omega) (by omega) | rfl)) ?_ | refine RunL.pure Tryd.tOk rfl rfl rfl ?_ | refine RunL.unwantedD rfl rfl ?_ | refine RunE.seq ?_ | refine RunE.region ?_ | refine RunL.nil ?_ | refine RunE.block ?_ | refine RunE.inBlock ?_ | refine RunE.skip ?_ | refine RunE.exit rfl ?_ | refine RunE.scope ?_ | refine RunE.inScope ?_ | refine RunE.label ?_)
  exact RunE.retFn Tryd.func77 (.cell rfl (.agg Tryd.tOk rfl rfl rfl D2.row) .nil) ⟨rfl, X2⟩

set_option maxHeartbeats 4000000 in
theorem rblock_ok (s : S8) (l : List UInt8) (v : Value) (w : World) (hl : l.length = 64) (hv : IsSl w 1 v 64 (bytesV l)) :
    Rets Tryd.prog 67 [.agg (vals s.l).toArray, v] w fun r w' => r = .agg (vals (block s l).l).toArray ∧ Ext w w' := by
  obtain ⟨b', o', cap, rfl, hr, -, hc⟩ := hv.held (by decide)
  refine RetsX.of (nt := 191) Tryd.func67 (by kernel_rfl) rfl rfl (by simp) (by simp only [argEnv]; rfl) ?_
  repeat (first | refine RunL.pureI Tryd.tOk rfl rfl rfl (by (first | exact wr_i64 (by omega) (by omega) | exact wm_i64 (by omega) | exact wq_i64 (by omega) (by omega) (by omega) | rfl)) ?_ | refine RunL.pure Tryd.tOk rfl rfl rfl ?_ | refine RunL.unwantedD rfl rfl ?_ | refine RunE.seq ?_ | refine RunE.region ?_ | refine RunL.nil ?_ | refine RunE.block ?_ | refine RunE.inBlock ?_ | refine RunE.skip ?_ | refine RunE.exit rfl ?_ | refine RunE.scope ?_ | refine RunE.inScope ?_ | refine RunE.label ?_)
  refine RunL.box rfl rfl rfl fun B2 w1 a1 => ?_
  refine RunL.alloc Tryd.tOk rfl rfl rfl fun B4 w2 a2 => ?_
  repeat (first | refine RunL.pureI Tryd.tOk rfl rfl rfl (by (first | exact wr_i64 (by omega) (by omega) | exact wm_i64 (by omega) | exact wq_i64 (by omega) (by omega) (by omega) | rfl)) ?_ | refine RunL.pure Tryd.tOk rfl rfl rfl ?_ | refine RunL.unwantedD rfl rfl ?_ | refine RunE.seq ?_ | refine RunE.region ?_ | refine RunL.nil ?_ | refine RunE.block ?_ | refine RunE.inBlock ?_ | refine RunE.skip ?_ | refine RunE.exit rfl ?_ | refine RunE.scope ?_ | refine RunE.inScope ?_ | refine RunE.label ?_)
  refine RunL.alloc Tryd.tOk rfl rfl rfl fun B5 w3 a3 => ?_
  refine RunL.store (v := .agg (vals (List.replicate 64 0)).toArray) Tryd.tOk rfl rfl rfl rfl rfl (cs := List.replicate 64 (.int .u32 0)) a3.at_ rfl rfl fun w4 t4 => ?_
  have hB2 := a1.eq
  have hB4 := a2.eq
  have hB5 := a3.eq
  have z1 := a1.size
  have z2 := a2.size
  have z3 := a3.size
  have X4 : Ext w w4 := ((a1.ext.trans a2.ext).trans a3.ext).write t4.ext (by intro i hi hlt; subst hi; omega)
  have S4 : Blk w4 B2 (vals s.l) 74 := Blk.ext (Blk.ext (w := w1) (cs := vals s.l) a1.at_ (a2.ext.trans a3.ext) id) t4.ext (by omega)
  have R4 : Blk w4 B4 (List.replicate 8 (.int .u32 0)) 74 := Blk.ext (Blk.ext (w := w2) (cs := List.replicate 8 (.int .u32 0)) a2.at_ a3.ext id) t4.ext (by omega)
  have Z4 : Blk w4 B5 (vals (words l 0 ++ List.replicate (64 - 0) 0)) 93 := by
    have := t4.at_
    rw [show (Value.agg (vals (List.replicate 64 0)).toArray).cells.toList = vals (List.replicate 64 0) from rfl, setAt_all _ _ (by rw [vals_length]; rfl)] at this
    exact this
  clear a1 a2 a3 t4
  repeat (first | refine RunL.pureI Tryd.tOk rfl rfl rfl (by (first | exact wr_i64 (by omega) (by omega) | exact wm_i64 (by omega) | exact wq_i64 (by omega) (by omega) (by omega) | rfl)) ?_ | refine RunL.pure Tryd.tOk rfl rfl rfl ?_ | refine RunL.unwantedD rfl rfl ?_ | refine RunE.seq ?_ | refine RunE.region ?_ | refine RunL.nil ?_ | refine RunE.block ?_ | refine RunE.inBlock ?_ | refine RunE.skip ?_ | refine RunE.exit rfl ?_ | refine RunE.scope ?_ | refine RunE.inScope ?_ | refine RunE.label ?_)
  refine RunE.loop (ι := Nat) (fun j => [(1, .slice (some ⟨b', o', none⟩) 64 cap), (2, .pointer (some ⟨B2, 0, none⟩)), (4, .pointer (some ⟨B4, 0, none⟩)), (5, .pointer (some ⟨B5, 0, none⟩)), (6, .int .i64 (j : Int))])
    (fun j w' => j ≤ 16 ∧ Ext w w' ∧ Blk w' B2 (vals s.l) 74 ∧ Blk w' B4 (List.replicate 8 (.int .u32 0)) 74 ∧ Blk w' B5 (vals (words l j ++ List.replicate (64 - j) 0)) 93) (fun j => 16 - j) 0 (by repeat (first | exact Sub.nil _ | refine Sub.cons rfl ?_)) ⟨by omega, X4, S4, R4, Z4⟩ ?_
  clear X4 S4 R4 Z4
  rintro j w5 ⟨hj, X5, S5, R5, Z5⟩ again
  repeat (first | refine RunL.pureI Tryd.tOk rfl rfl rfl (by (first | exact wr_i64 (by omega) (by omega) | exact wm_i64 (by omega) | exact wq_i64 (by omega) (by omega) (by omega) | rfl)) ?_ | refine RunL.pure Tryd.tOk rfl rfl rfl ?_ | refine RunL.unwantedD rfl rfl ?_ | refine RunE.seq ?_ | refine RunE.region ?_ | refine RunL.nil ?_ | refine RunE.block ?_ | refine RunE.inBlock ?_ | refine RunE.skip ?_ | refine RunE.exit rfl ?_ | refine RunE.scope ?_ | refine RunE.inScope ?_ | refine RunE.label ?_)
  refine RunE.cond rfl (fun hlt => ?_) (fun hlt => ?_) <;> (first | replace hlt := of_decide_eq_true hlt | replace hlt := of_decide_eq_false hlt | replace hlt := beq_iff_eq.1 hlt | replace hlt := beq_eq_false_iff_ne.1 hlt | replace hlt := bne_iff_ne.1 hlt | replace hlt := bne_eq_false_iff_eq.1 hlt | skip)
  · repeat (first | refine RunL.pureI Tryd.tOk rfl rfl rfl (by (first | exact wr_i64 (by omega) (by omega) | exact wm_i64 (by omega) | exact wq_i64 (by omega) (by omega) (by omega) | rfl)) ?_ | refine RunL.pure Tryd.tOk rfl rfl rfl ?_ | refine RunL.unwantedD rfl rfl ?_ | refine RunE.seq ?_ | refine RunE.region ?_ | refine RunL.nil ?_ | refine RunE.block ?_ | refine RunE.inBlock ?_ | refine RunE.skip ?_ | refine RunE.exit rfl ?_ | refine RunE.scope ?_ | refine RunE.inScope ?_ | refine RunE.label ?_)
    refine RunL.val rfl rfl rfl (OpV.sliceSq (lo := 4 * j) (hi := 4 * j + 4) (q := o' + 4 * j) (len := 4) (cap := cap - 4 * j) Tryd.tOk rfl rfl (.some rfl (by omega)) (.some rfl (by omega)) (by omega) (by omega) (by rw [offOf_lt (by omega)]; omega) (by omega) rfl) ?_
    have hrow : Row w5 b' (o' + 4 * j) (bytesV [l.getD (4 * j) 0, l.getD (4 * j + 1) 0, l.getD (4 * j + 2) 0, l.getD (4 * j + 3) 0]) := by
      refine (hr.extE X5).window fun i v hv => ?_
      match i, hv with
      | 0, hv => rw [bytesV_get (by omega)]; exact hv
      | 1, hv => rw [bytesV_get (by omega)]; exact hv
      | 2, hv => rw [bytesV_get (by omega)]; exact hv
      | 3, hv => rw [bytesV_get (by omega)]; exact hv
    refine RunL.call rfl rfl rfl (refWord_ok _ _ _ _ _ _ _ _ _ (by omega) hrow) ?_
    rintro _ w6 ⟨rfl, X6⟩
    have Y6 := X5.trans X6
    refine RunL.val rfl rfl rfl (OpV.indexA1 Tryd.tOk j rfl rfl rfl rfl (by omega)) ?_
    refine RunL.store Tryd.tOk rfl rfl rfl rfl rfl (Z5.ext X6 id) (by simp [vals_length, words_length, Value.cells]; omega) rfl fun w7 t7 => ?_
    have X7 : Ext w w7 := Y6.write t7.ext (by intro i hi hlt; subst hi; omega)
    have S7 := (S5.ext X6 id).ext t7.ext (by omega)
    have R7 := (R5.ext X6 id).ext t7.ext (by omega)
    have Z7 : Blk w7 B5 (vals (words l (j + 1) ++ List.replicate (64 - (j + 1)) 0)) 93 := by
      have := t7.at_
      have e := set_next (words l j) (64 - (j + 1)) (word (l.getD (4 * j) 0) (l.getD (4 * j + 1) 0) (l.getD (4 * j + 2) 0) (l.getD (4 * j + 3) 0))
      rw [words_length, show 64 - (j + 1) + 1 = 64 - j by omega] at e
      unfold Blk
      rw [words, ← e, this]
      rw [Nat.zero_add]
      rfl
    repeat (first | refine RunL.pureI Tryd.tOk rfl rfl rfl (by (first | exact wr_i64 (by omega) (by omega) | exact wm_i64 (by omega) | exact wq_i64 (by omega) (by omega) (by omega) | rfl)) ?_ | refine RunL.pure Tryd.tOk rfl rfl rfl ?_ | refine RunL.unwantedD rfl rfl ?_ | refine RunE.seq ?_ | refine RunE.region ?_ | refine RunL.nil ?_ | refine RunE.block ?_ | refine RunE.inBlock ?_ | refine RunE.skip ?_ | refine RunE.exit rfl ?_ | refine RunE.scope ?_ | refine RunE.inScope ?_ | refine RunE.label ?_)
    exact RunE.weaken (by repeat (first | exact Sub.nil _ | refine Sub.cons rfl ?_)) (again (j + 1) _ (by omega) ⟨by omega, X7, S7, R7, Z7⟩)
  · have hj16 : j = 16 := by omega
    subst hj16
    clear again
    repeat (first | refine RunL.pureI Tryd.tOk rfl rfl rfl (by (first | exact wr_i64 (by omega) (by omega) | exact wm_i64 (by omega) | exact wq_i64 (by omega) (by omega) (by omega) | rfl)) ?_ | refine RunL.pure Tryd.tOk rfl rfl rfl ?_ | refine RunL.unwantedD rfl rfl ?_ | refine RunE.seq ?_ | refine RunE.region ?_ | refine RunL.nil ?_ | refine RunE.block ?_ | refine RunE.inBlock ?_ | refine RunE.skip ?_ | refine RunE.exit rfl ?_ | refine RunE.scope ?_ | refine RunE.inScope ?_ | refine RunE.label ?_)
    refine RunE.loop (ι := Nat) (fun k => [(2, .pointer (some ⟨B2, 0, none⟩)), (4, .pointer (some ⟨B4, 0, none⟩)), (5, .pointer (some ⟨B5, 0, none⟩)), (7, .int .i64 ((16 + k : Nat) : Int))])
      (fun k w' => k ≤ 48 ∧ Ext w w' ∧ Blk w' B2 (vals s.l) 74 ∧ Blk w' B4 (List.replicate 8 (.int .u32 0)) 74 ∧ Blk w' B5 (vals (sched (words l 16) k ++ List.replicate (48 - k) 0)) 93) (fun k => 48 - k) 0 (by repeat (first | exact Sub.nil _ | refine Sub.cons rfl ?_)) ⟨by omega, X5, S5, R5, Z5⟩ ?_
    clear X5 S5 R5 Z5
    rintro k w4 ⟨hk48, X4, S4, R4, Z4⟩ again
    have hsl : (sched (words l 16) k).length = 16 + k := by rw [sched_length, words_length]
    repeat (first | refine RunL.pureI Tryd.tOk rfl rfl rfl (by (first | exact wr_i64 (by omega) (by omega) | exact wm_i64 (by omega) | exact wq_i64 (by omega) (by omega) (by omega) | rfl)) ?_ | refine RunL.pure Tryd.tOk rfl rfl rfl ?_ | refine RunL.unwantedD rfl rfl ?_ | refine RunE.seq ?_ | refine RunE.region ?_ | refine RunL.nil ?_ | refine RunE.block ?_ | refine RunE.inBlock ?_ | refine RunE.skip ?_ | refine RunE.exit rfl ?_ | refine RunE.scope ?_ | refine RunE.inScope ?_ | refine RunE.label ?_)
    refine RunE.cond rfl (fun hlt2 => ?_) (fun hlt2 => ?_) <;> (first | replace hlt2 := of_decide_eq_true hlt2 | replace hlt2 := of_decide_eq_false hlt2 | replace hlt2 := beq_iff_eq.1 hlt2 | replace hlt2 := beq_eq_false_iff_ne.1 hlt2 | replace hlt2 := bne_iff_ne.1 hlt2 | replace hlt2 := bne_eq_false_iff_eq.1 hlt2 | skip)
    · repeat (first | refine RunL.pureI Tryd.tOk rfl rfl rfl (by (first | exact wr_i64 (by omega) (by omega) | exact wm_i64 (by omega) | exact wq_i64 (by omega) (by omega) (by omega) | rfl)) ?_ | refine RunL.pure Tryd.tOk rfl rfl rfl ?_ | refine RunL.unwantedD rfl rfl ?_ | refine RunE.seq ?_ | refine RunE.region ?_ | refine RunL.nil ?_ | refine RunE.block ?_ | refine RunE.inBlock ?_ | refine RunE.skip ?_ | refine RunE.exit rfl ?_ | refine RunE.scope ?_ | refine RunE.inScope ?_ | refine RunE.label ?_)
      refine RunL.val rfl rfl rfl (OpV.indexA1 Tryd.tOk (k + 1) rfl rfl rfl (by omega) (by omega)) ?_
      refine RunL.val rfl rfl rfl (OpV.load1 Tryd.tOk rfl rfl rfl (Z4.row (k + 1) _ (vals_get _ (by omega)))) ?_
      repeat (first | refine RunL.pureI Tryd.tOk rfl rfl rfl (by (first | exact wr_i64 (by omega) (by omega) | exact wm_i64 (by omega) | exact wq_i64 (by omega) (by omega) (by omega) | rfl)) ?_ | refine RunL.pure Tryd.tOk rfl rfl rfl ?_ | refine RunL.unwantedD rfl rfl ?_ | refine RunE.seq ?_ | refine RunE.region ?_ | refine RunL.nil ?_ | refine RunE.block ?_ | refine RunE.inBlock ?_ | refine RunE.skip ?_ | refine RunE.exit rfl ?_ | refine RunE.scope ?_ | refine RunE.inScope ?_ | refine RunE.label ?_)
      refine RunL.val rfl rfl rfl (OpV.indexA1 Tryd.tOk (k + 14) rfl rfl rfl (by omega) (by omega)) ?_
      refine RunL.val rfl rfl rfl (OpV.load1 Tryd.tOk rfl rfl rfl (Z4.row (k + 14) _ (vals_get _ (by omega)))) ?_
      repeat (first | refine RunL.pureI Tryd.tOk rfl rfl rfl (by (first | exact wr_i64 (by omega) (by omega) | exact wm_i64 (by omega) | exact wq_i64 (by omega) (by omega) (by omega) | rfl)) ?_ | refine RunL.pure Tryd.tOk rfl rfl rfl ?_ | refine RunL.unwantedD rfl rfl ?_ | refine RunE.seq ?_ | refine RunE.region ?_ | refine RunL.nil ?_ | refine RunE.block ?_ | refine RunE.inBlock ?_ | refine RunE.skip ?_ | refine RunE.exit rfl ?_ | refine RunE.scope ?_ | refine RunE.inScope ?_ | refine RunE.label ?_)
      refine RunE.draw (fun _ => False) mix ?_
      intro w8 X8
      have Z8 := Z4.ext X8 id
      repeat (first | refine Asy.v rfl rfl rfl rfl (fun _ X_ => OpV.xor32 rfl rfl) ?_ | refine Asy.v rfl rfl rfl rfl (fun _ X_ => OpV.and32 rfl rfl) ?_ | refine Asy.v rfl rfl rfl rfl (fun _ X_ => OpV.or32 rfl rfl) ?_ | refine Asy.v rfl rfl rfl rfl (fun _ X_ => OpV.add32 rfl rfl) ?_ | refine Asy.v rfl rfl rfl rfl (fun _ X_ => OpV.shl32 rfl rfl rfl) ?_ | refine Asy.v rfl rfl rfl rfl (fun _ X_ => OpV.shr32 rfl rfl rfl) ?_ | refine Asy.pureI Tryd.tOk rfl rfl rfl (by (first | exact wr_i64 (by omega) (by omega) | exact wm_i64 (by omega) | exact wq_i64 (by omega) (by omega) (by omega) | rfl)) ?_ | refine Asy.pure Tryd.tOk rfl rfl rfl ?_ | refine Asy.unwantedD rfl rfl rfl ?_ | refine Asy.v rfl rfl rfl rfl (fun _ X_ => OpV.indexAK Tryd.tOk rfl rfl rfl rfl) ?_ | refine Asy.v rfl rfl rfl rfl (fun _ X_ => OpV.indexSK Tryd.tOk rfl rfl rfl rfl) ?_)
      refine Asy.v rfl rfl rfl rfl (fun _ _ => OpV.indexA1 Tryd.tOk k rfl rfl rfl (by omega) (by omega)) ?_
      refine Asy.v rfl rfl rfl rfl (fun _ X' => OpV.load1 Tryd.tOk rfl rfl rfl ((Z8.ext X' id).row k _ (vals_get _ (by omega)))) ?_
      repeat (first | refine Asy.v rfl rfl rfl rfl (fun _ X_ => OpV.xor32 rfl rfl) ?_ | refine Asy.v rfl rfl rfl rfl (fun _ X_ => OpV.and32 rfl rfl) ?_ | refine Asy.v rfl rfl rfl rfl (fun _ X_ => OpV.or32 rfl rfl) ?_ | refine Asy.v rfl rfl rfl rfl (fun _ X_ => OpV.add32 rfl rfl) ?_ | refine Asy.v rfl rfl rfl rfl (fun _ X_ => OpV.shl32 rfl rfl rfl) ?_ | refine Asy.v rfl rfl rfl rfl (fun _ X_ => OpV.shr32 rfl rfl rfl) ?_ | refine Asy.pureI Tryd.tOk rfl rfl rfl (by (first | exact wr_i64 (by omega) (by omega) | exact wm_i64 (by omega) | exact wq_i64 (by omega) (by omega) (by omega) | rfl)) ?_ | refine Asy.pure Tryd.tOk rfl rfl rfl ?_ | refine Asy.unwantedD rfl rfl rfl ?_ | refine Asy.v rfl rfl rfl rfl (fun _ X_ => OpV.indexAK Tryd.tOk rfl rfl rfl rfl) ?_ | refine Asy.v rfl rfl rfl rfl (fun _ X_ => OpV.indexSK Tryd.tOk rfl rfl rfl rfl) ?_)
      refine Asy.val rfl rfl rfl rfl (fun _ _ => OpE.call rfl (ror_ok _ 7 (by decide) _)) ?_
      repeat (first | refine Asy.v rfl rfl rfl rfl (fun _ X_ => OpV.xor32 rfl rfl) ?_ | refine Asy.v rfl rfl rfl rfl (fun _ X_ => OpV.and32 rfl rfl) ?_ | refine Asy.v rfl rfl rfl rfl (fun _ X_ => OpV.or32 rfl rfl) ?_ | refine Asy.v rfl rfl rfl rfl (fun _ X_ => OpV.add32 rfl rfl) ?_ | refine Asy.v rfl rfl rfl rfl (fun _ X_ => OpV.shl32 rfl rfl rfl) ?_ | refine Asy.v rfl rfl rfl rfl (fun _ X_ => OpV.shr32 rfl rfl rfl) ?_ | refine Asy.pureI Tryd.tOk rfl rfl rfl (by (first | exact wr_i64 (by omega) (by omega) | exact wm_i64 (by omega) | exact wq_i64 (by omega) (by omega) (by omega) | rfl)) ?_ | refine Asy.pure Tryd.tOk rfl rfl rfl ?_ | refine Asy.unwantedD rfl rfl rfl ?_ | refine Asy.v rfl rfl rfl rfl (fun _ X_ => OpV.indexAK Tryd.tOk rfl rfl rfl rfl) ?_ | refine Asy.v rfl rfl rfl rfl (fun _ X_ => OpV.indexSK Tryd.tOk rfl rfl rfl rfl) ?_)
      refine Asy.val rfl rfl rfl rfl (fun _ _ => OpE.call rfl (ror_ok _ 18 (by decide) _)) ?_
      repeat (first | refine Asy.v rfl rfl rfl rfl (fun _ X_ => OpV.xor32 rfl rfl) ?_ | refine Asy.v rfl rfl rfl rfl (fun _ X_ => OpV.and32 rfl rfl) ?_ | refine Asy.v rfl rfl rfl rfl (fun _ X_ => OpV.or32 rfl rfl) ?_ | refine Asy.v rfl rfl rfl rfl (fun _ X_ => OpV.add32 rfl rfl) ?_ | refine Asy.v rfl rfl rfl rfl (fun _ X_ => OpV.shl32 rfl rfl rfl) ?_ | refine Asy.v rfl rfl rfl rfl (fun _ X_ => OpV.shr32 rfl rfl rfl) ?_ | refine Asy.pureI Tryd.tOk rfl rfl rfl (by (first | exact wr_i64 (by omega) (by omega) | exact wm_i64 (by omega) | exact wq_i64 (by omega) (by omega) (by omega) | rfl)) ?_ | refine Asy.pure Tryd.tOk rfl rfl rfl ?_ | refine Asy.unwantedD rfl rfl rfl ?_ | refine Asy.v rfl rfl rfl rfl (fun _ X_ => OpV.indexAK Tryd.tOk rfl rfl rfl rfl) ?_ | refine Asy.v rfl rfl rfl rfl (fun _ X_ => OpV.indexSK Tryd.tOk rfl rfl rfl rfl) ?_)
      refine Asy.v rfl rfl rfl rfl (fun _ _ => OpV.indexA1 Tryd.tOk (k + 9) rfl rfl rfl (by omega) (by omega)) ?_
      refine Asy.v rfl rfl rfl rfl (fun _ X' => OpV.load1 Tryd.tOk rfl rfl rfl ((Z8.ext X' id).row (k + 9) _ (vals_get _ (by omega)))) ?_
      repeat (first | refine Asy.v rfl rfl rfl rfl (fun _ X_ => OpV.xor32 rfl rfl) ?_ | refine Asy.v rfl rfl rfl rfl (fun _ X_ => OpV.and32 rfl rfl) ?_ | refine Asy.v rfl rfl rfl rfl (fun _ X_ => OpV.or32 rfl rfl) ?_ | refine Asy.v rfl rfl rfl rfl (fun _ X_ => OpV.add32 rfl rfl) ?_ | refine Asy.v rfl rfl rfl rfl (fun _ X_ => OpV.shl32 rfl rfl rfl) ?_ | refine Asy.v rfl rfl rfl rfl (fun _ X_ => OpV.shr32 rfl rfl rfl) ?_ | refine Asy.pureI Tryd.tOk rfl rfl rfl (by (first | exact wr_i64 (by omega) (by omega) | exact wm_i64 (by omega) | exact wq_i64 (by omega) (by omega) (by omega) | rfl)) ?_ | refine Asy.pure Tryd.tOk rfl rfl rfl ?_ | refine Asy.unwantedD rfl rfl rfl ?_ | refine Asy.v rfl rfl rfl rfl (fun _ X_ => OpV.indexAK Tryd.tOk rfl rfl rfl rfl) ?_ | refine Asy.v rfl rfl rfl rfl (fun _ X_ => OpV.indexSK Tryd.tOk rfl rfl rfl rfl) ?_)
      refine Asy.val rfl rfl rfl rfl (fun _ _ => OpE.call rfl (ror_ok _ 17 (by decide) _)) ?_
      repeat (first | refine Asy.v rfl rfl rfl rfl (fun _ X_ => OpV.xor32 rfl rfl) ?_ | refine Asy.v rfl rfl rfl rfl (fun _ X_ => OpV.and32 rfl rfl) ?_ | refine Asy.v rfl rfl rfl rfl (fun _ X_ => OpV.or32 rfl rfl) ?_ | refine Asy.v rfl rfl rfl rfl (fun _ X_ => OpV.add32 rfl rfl) ?_ | refine Asy.v rfl rfl rfl rfl (fun _ X_ => OpV.shl32 rfl rfl rfl) ?_ | refine Asy.v rfl rfl rfl rfl (fun _ X_ => OpV.shr32 rfl rfl rfl) ?_ | refine Asy.pureI Tryd.tOk rfl rfl rfl (by (first | exact wr_i64 (by omega) (by omega) | exact wm_i64 (by omega) | exact wq_i64 (by omega) (by omega) (by omega) | rfl)) ?_ | refine Asy.pure Tryd.tOk rfl rfl rfl ?_ | refine Asy.unwantedD rfl rfl rfl ?_ | refine Asy.v rfl rfl rfl rfl (fun _ X_ => OpV.indexAK Tryd.tOk rfl rfl rfl rfl) ?_ | refine Asy.v rfl rfl rfl rfl (fun _ X_ => OpV.indexSK Tryd.tOk rfl rfl rfl rfl) ?_)
      refine Asy.val rfl rfl rfl rfl (fun _ _ => OpE.call rfl (ror_ok _ 19 (by decide) _)) ?_
      repeat (first | refine Asy.v rfl rfl rfl rfl (fun _ X_ => OpV.xor32 rfl rfl) ?_ | refine Asy.v rfl rfl rfl rfl (fun _ X_ => OpV.and32 rfl rfl) ?_ | refine Asy.v rfl rfl rfl rfl (fun _ X_ => OpV.or32 rfl rfl) ?_ | refine Asy.v rfl rfl rfl rfl (fun _ X_ => OpV.add32 rfl rfl) ?_ | refine Asy.v rfl rfl rfl rfl (fun _ X_ => OpV.shl32 rfl rfl rfl) ?_ | refine Asy.v rfl rfl rfl rfl (fun _ X_ => OpV.shr32 rfl rfl rfl) ?_ | refine Asy.pureI Tryd.tOk rfl rfl rfl (by (first | exact wr_i64 (by omega) (by omega) | exact wm_i64 (by omega) | exact wq_i64 (by omega) (by omega) (by omega) | rfl)) ?_ | refine Asy.pure Tryd.tOk rfl rfl rfl ?_ | refine Asy.unwantedD rfl rfl rfl ?_ | refine Asy.v rfl rfl rfl rfl (fun _ X_ => OpV.indexAK Tryd.tOk rfl rfl rfl rfl) ?_ | refine Asy.v rfl rfl rfl rfl (fun _ X_ => OpV.indexSK Tryd.tOk rfl rfl rfl rfl) ?_)
      refine Asy.tail (by kernel_rfl) ?_
      intro w9 X9
      simp only [satsAll]
      refine RunL.val rfl rfl rfl (OpV.indexA1 Tryd.tOk (16 + k) rfl rfl rfl rfl (by omega)) ?_
      refine RunL.store Tryd.tOk rfl rfl rfl rfl rfl (Z8.ext X9 id) (by simp [vals_length, hsl, Value.cells]; omega) rfl fun w10 t10 => ?_
      have X10 : Ext w w10 := (X4.trans (X8.trans X9)).write t10.ext (by intro i hi hlt; subst hi; omega)
      have S10 := (S4.ext (X8.trans X9) id).ext t10.ext (by omega)
      have R10 := (R4.ext (X8.trans X9) id).ext t10.ext (by omega)
      have Z10 : Blk w10 B5 (vals (sched (words l 16) (k + 1) ++ List.replicate (48 - (k + 1)) 0)) 93 := by
        have := t10.at_
        have e := set_at (n := 48 - (k + 1)) (nextW (sched (words l 16) k) k) hsl
        rw [show 48 - (k + 1) + 1 = 48 - k by omega] at e
        unfold Blk
        rw [sched, ← e, this]
        rw [Nat.zero_add]
        rfl
      repeat (first | refine RunL.pureI Tryd.tOk rfl rfl rfl (by (first | exact wr_i64 (by omega) (by omega) | exact wm_i64 (by omega) | exact wq_i64 (by omega) (by omega) (by omega) | rfl)) ?_ | refine RunL.pure Tryd.tOk rfl rfl rfl ?_ | refine RunL.unwantedD rfl rfl ?_ | refine RunE.seq ?_ | refine RunE.region ?_ | refine RunL.nil ?_ | refine RunE.block ?_ | refine RunE.inBlock ?_ | refine RunE.skip ?_ | refine RunE.exit rfl ?_ | refine RunE.scope ?_ | refine RunE.inScope ?_ | refine RunE.label ?_)
      exact RunE.weaken (by repeat (first | exact Sub.nil _ | refine Sub.cons rfl ?_)) (again (k + 1) _ (by omega) ⟨by omega, X10, S10, R10, Z10⟩)
    · have hk : k = 48 := by omega
      subst hk
      clear again
      repeat (first | refine RunL.pureI Tryd.tOk rfl rfl rfl (by (first | exact wr_i64 (by omega) (by omega) | exact wm_i64 (by omega) | exact wq_i64 (by omega) (by omega) (by omega) | rfl)) ?_ | refine RunL.pure Tryd.tOk rfl rfl rfl ?_ | refine RunL.unwantedD rfl rfl ?_ | refine RunE.seq ?_ | refine RunE.region ?_ | refine RunL.nil ?_ | refine RunE.block ?_ | refine RunE.inBlock ?_ | refine RunE.skip ?_ | refine RunE.exit rfl ?_ | refine RunE.scope ?_ | refine RunE.inScope ?_ | refine RunE.label ?_)
      refine RunL.call rfl rfl rfl (numbers_ok _) ?_
      rintro _ w5 ⟨rfl, X5⟩
      refine RunL.alloc Tryd.tOk rfl rfl rfl fun B10 w6 a6 => ?_
      refine RunL.store (v := .agg (vals kTab).toArray) Tryd.tOk rfl rfl rfl rfl rfl (cs := List.replicate 64 (.int .u32 0)) a6.at_ rfl rfl fun w7 t7 => ?_
      have hB10 := a6.eq
      have y5 := X5.size
      have lt5 := Z4.lt
      have X7 : Ext w w7 := ((X4.trans X5).trans a6.ext).write t7.ext (by intro i hi hlt; subst hi; have := X4.size; omega)
      have S7 := (S4.ext (X5.trans a6.ext) id).ext t7.ext (by have := S4.lt; omega)
      have R7 := (R4.ext (X5.trans a6.ext) id).ext t7.ext (by have := R4.lt; omega)
      have Z7 := (Z4.ext (X5.trans a6.ext) id).ext t7.ext (by omega)
      have K7 : Blk w7 B10 (vals kTab) 93 := by
        have := t7.at_
        rw [show (Value.agg (vals kTab).toArray).cells.toList = vals kTab from rfl, setAt_all _ _ (by rw [vals_length]; rfl)] at this
        exact this
      clear X4 S4 R4 Z4 X5 a6 t7
      generalize hws : sched (words l 16) 48 = ws at Z7 hsl
      repeat (first | refine RunL.pureI Tryd.tOk rfl rfl rfl (by (first | exact wr_i64 (by omega) (by omega) | exact wm_i64 (by omega) | exact wq_i64 (by omega) (by omega) (by omega) | rfl)) ?_ | refine RunL.pure Tryd.tOk rfl rfl rfl ?_ | refine RunL.unwantedD rfl rfl ?_ | refine RunE.seq ?_ | refine RunE.region ?_ | refine RunL.nil ?_ | refine RunE.block ?_ | refine RunE.inBlock ?_ | refine RunE.skip ?_ | refine RunE.exit rfl ?_ | refine RunE.scope ?_ | refine RunE.inScope ?_ | refine RunE.label ?_)
      refine RunE.draw (fun _ => False) mix ?_
      intro w8 X8
      have S8 := S7.ext X8 id
      repeat (first | refine Asy.v rfl rfl rfl rfl (fun _ X_ => OpV.xor32 rfl rfl) ?_ | refine Asy.v rfl rfl rfl rfl (fun _ X_ => OpV.and32 rfl rfl) ?_ | refine Asy.v rfl rfl rfl rfl (fun _ X_ => OpV.or32 rfl rfl) ?_ | refine Asy.v rfl rfl rfl rfl (fun _ X_ => OpV.add32 rfl rfl) ?_ | refine Asy.v rfl rfl rfl rfl (fun _ X_ => OpV.shl32 rfl rfl rfl) ?_ | refine Asy.v rfl rfl rfl rfl (fun _ X_ => OpV.shr32 rfl rfl rfl) ?_ | refine Asy.pureI Tryd.tOk rfl rfl rfl (by (first | exact wr_i64 (by omega) (by omega) | exact wm_i64 (by omega) | exact wq_i64 (by omega) (by omega) (by omega) | rfl)) ?_ | refine Asy.pure Tryd.tOk rfl rfl rfl ?_ | refine Asy.unwantedD rfl rfl rfl ?_ | refine Asy.v rfl rfl rfl rfl (fun _ X_ => OpV.indexAK Tryd.tOk rfl rfl rfl rfl) ?_ | refine Asy.v rfl rfl rfl rfl (fun _ X_ => OpV.indexSK Tryd.tOk rfl rfl rfl rfl) ?_ | refine Asy.v rfl rfl rfl rfl (fun _ X_ => OpV.load1 Tryd.tOk rfl rfl rfl (Blk.cell (S8.ext X_ id) rfl)) ?_)
      refine Asy.tail (by kernel_rfl) ?_
      intro w9 X9
      simp only [satsAll]
      repeat (first | refine RunL.pureI Tryd.tOk rfl rfl rfl (by (first | exact wr_i64 (by omega) (by omega) | exact wm_i64 (by omega) | exact wq_i64 (by omega) (by omega) (by omega) | rfl)) ?_ | refine RunL.pure Tryd.tOk rfl rfl rfl ?_ | refine RunL.unwantedD rfl rfl ?_ | refine RunE.seq ?_ | refine RunE.region ?_ | refine RunL.nil ?_ | refine RunE.block ?_ | refine RunE.inBlock ?_ | refine RunE.skip ?_ | refine RunE.exit rfl ?_ | refine RunE.scope ?_ | refine RunE.inScope ?_ | refine RunE.label ?_)
      have Y9 := X8.trans X9
      have X10 := X7.trans Y9
      have S10 := S7.ext Y9 id
      have R10 := R7.ext Y9 id
      have Z10 := Z7.ext Y9 id
      have K10 := K7.ext Y9 id
      clear X7 S7 R7 Z7 K7 X8 X9 Y9 S8
      refine RunE.loop (ι := Nat) (fun t => [(2, .pointer (some ⟨B2, 0, none⟩)), (4, .pointer (some ⟨B4, 0, none⟩)), (5, .pointer (some ⟨B5, 0, none⟩)), (10, .pointer (some ⟨B10, 0, none⟩)), (11, .int .u32 ((rnds ws s t).a.toNat : Int)),
          (12, .int .u32 ((rnds ws s t).b.toNat : Int)), (13, .int .u32 ((rnds ws s t).c.toNat : Int)), (14, .int .u32 ((rnds ws s t).d.toNat : Int)), (15, .int .u32 ((rnds ws s t).e.toNat : Int)), (16, .int .u32 ((rnds ws s t).f.toNat : Int)),
          (17, .int .u32 ((rnds ws s t).g.toNat : Int)), (18, .int .u32 ((rnds ws s t).h.toNat : Int)), (19, .int .i64 (t : Int))])
        (fun t w' => t ≤ 64 ∧ Ext w w' ∧ Blk w' B2 (vals s.l) 74 ∧ Blk w' B4 (List.replicate 8 (.int .u32 0)) 74 ∧ Blk w' B5 (vals (ws ++ [])) 93 ∧ Blk w' B10 (vals (kTab ++ [])) 93) (fun t => 64 - t) 0 (by repeat (first | exact Sub.nil _ | refine Sub.cons rfl ?_)) ⟨by omega, X10, S10, R10, Z10, K10⟩ ?_
      clear X10 S10 R10 Z10 K10
      rintro t u0 ⟨ht, X0, S0, R0, Z0, K0⟩ again
      repeat (first | refine RunL.pureI Tryd.tOk rfl rfl rfl (by (first | exact wr_i64 (by omega) (by omega) | exact wm_i64 (by omega) | exact wq_i64 (by omega) (by omega) (by omega) | rfl)) ?_ | refine RunL.pure Tryd.tOk rfl rfl rfl ?_ | refine RunL.unwantedD rfl rfl ?_ | refine RunE.seq ?_ | refine RunE.region ?_ | refine RunL.nil ?_ | refine RunE.block ?_ | refine RunE.inBlock ?_ | refine RunE.skip ?_ | refine RunE.exit rfl ?_ | refine RunE.scope ?_ | refine RunE.inScope ?_ | refine RunE.label ?_)
      refine RunE.cond rfl (fun hlt3 => ?_) (fun hlt3 => ?_) <;> (first | replace hlt3 := of_decide_eq_true hlt3 | replace hlt3 := of_decide_eq_false hlt3 | replace hlt3 := beq_iff_eq.1 hlt3 | replace hlt3 := beq_eq_false_iff_ne.1 hlt3 | replace hlt3 := bne_iff_ne.1 hlt3 | replace hlt3 := bne_eq_false_iff_eq.1 hlt3 | skip)
      · have ht' : t < kTab.length := by simp [kTab]; omega
        repeat (first | refine RunL.pureI Tryd.tOk rfl rfl rfl (by (first | exact wr_i64 (by omega) (by omega) | exact wm_i64 (by omega) | exact wq_i64 (by omega) (by omega) (by omega) | rfl)) ?_ | refine RunL.pure Tryd.tOk rfl rfl rfl ?_ | refine RunL.unwantedD rfl rfl ?_ | refine RunE.seq ?_ | refine RunE.region ?_ | refine RunL.nil ?_ | refine RunE.block ?_ | refine RunE.inBlock ?_ | refine RunE.skip ?_ | refine RunE.exit rfl ?_ | refine RunE.scope ?_ | refine RunE.inScope ?_ | refine RunE.label ?_)
        refine RunE.draw (fun _ => False) mix ?_
        intro u1 X1
        repeat (first | refine Asy.v rfl rfl rfl rfl (fun _ X_ => OpV.xor32 rfl rfl) ?_ | refine Asy.v rfl rfl rfl rfl (fun _ X_ => OpV.and32 rfl rfl) ?_ | refine Asy.v rfl rfl rfl rfl (fun _ X_ => OpV.or32 rfl rfl) ?_ | refine Asy.v rfl rfl rfl rfl (fun _ X_ => OpV.add32 rfl rfl) ?_ | refine Asy.v rfl rfl rfl rfl (fun _ X_ => OpV.shl32 rfl rfl rfl) ?_ | refine Asy.v rfl rfl rfl rfl (fun _ X_ => OpV.shr32 rfl rfl rfl) ?_ | refine Asy.pureI Tryd.tOk rfl rfl rfl (by (first | exact wr_i64 (by omega) (by omega) | exact wm_i64 (by omega) | exact wq_i64 (by omega) (by omega) (by omega) | rfl)) ?_ | refine Asy.pure Tryd.tOk rfl rfl rfl ?_ | refine Asy.unwantedD rfl rfl rfl ?_ | refine Asy.v rfl rfl rfl rfl (fun _ X_ => OpV.indexAK Tryd.tOk rfl rfl rfl rfl) ?_ | refine Asy.v rfl rfl rfl rfl (fun _ X_ => OpV.indexSK Tryd.tOk rfl rfl rfl rfl) ?_)
        refine Asy.val rfl rfl rfl rfl (fun _ _ => OpE.call rfl (ror_ok _ 6 (by decide) _)) ?_
        repeat (first | refine Asy.v rfl rfl rfl rfl (fun _ X_ => OpV.xor32 rfl rfl) ?_ | refine Asy.v rfl rfl rfl rfl (fun _ X_ => OpV.and32 rfl rfl) ?_ | refine Asy.v rfl rfl rfl rfl (fun _ X_ => OpV.or32 rfl rfl) ?_ | refine Asy.v rfl rfl rfl rfl (fun _ X_ => OpV.add32 rfl rfl) ?_ | refine Asy.v rfl rfl rfl rfl (fun _ X_ => OpV.shl32 rfl rfl rfl) ?_ | refine Asy.v rfl rfl rfl rfl (fun _ X_ => OpV.shr32 rfl rfl rfl) ?_ | refine Asy.pureI Tryd.tOk rfl rfl rfl (by (first | exact wr_i64 (by omega) (by omega) | exact wm_i64 (by omega) | exact wq_i64 (by omega) (by omega) (by omega) | rfl)) ?_ | refine Asy.pure Tryd.tOk rfl rfl rfl ?_ | refine Asy.unwantedD rfl rfl rfl ?_ | refine Asy.v rfl rfl rfl rfl (fun _ X_ => OpV.indexAK Tryd.tOk rfl rfl rfl rfl) ?_ | refine Asy.v rfl rfl rfl rfl (fun _ X_ => OpV.indexSK Tryd.tOk rfl rfl rfl rfl) ?_)
        refine Asy.val rfl rfl rfl rfl (fun _ _ => OpE.call rfl (ror_ok _ 11 (by decide) _)) ?_
        repeat (first | refine Asy.v rfl rfl rfl rfl (fun _ X_ => OpV.xor32 rfl rfl) ?_ | refine Asy.v rfl rfl rfl rfl (fun _ X_ => OpV.and32 rfl rfl) ?_ | refine Asy.v rfl rfl rfl rfl (fun _ X_ => OpV.or32 rfl rfl) ?_ | refine Asy.v rfl rfl rfl rfl (fun _ X_ => OpV.add32 rfl rfl) ?_ | refine Asy.v rfl rfl rfl rfl (fun _ X_ => OpV.shl32 rfl rfl rfl) ?_ | refine Asy.v rfl rfl rfl rfl (fun _ X_ => OpV.shr32 rfl rfl rfl) ?_ | refine Asy.pureI Tryd.tOk rfl rfl rfl (by (first | exact wr_i64 (by omega) (by omega) | exact wm_i64 (by omega) | exact wq_i64 (by omega) (by omega) (by omega) | rfl)) ?_ | refine Asy.pure Tryd.tOk rfl rfl rfl ?_ | refine Asy.unwantedD rfl rfl rfl ?_ | refine Asy.v rfl rfl rfl rfl (fun _ X_ => OpV.indexAK Tryd.tOk rfl rfl rfl rfl) ?_ | refine Asy.v rfl rfl rfl rfl (fun _ X_ => OpV.indexSK Tryd.tOk rfl rfl rfl rfl) ?_)
        refine Asy.val rfl rfl rfl rfl (fun _ _ => OpE.call rfl (ror_ok _ 25 (by decide) _)) ?_
        repeat (first | refine Asy.v rfl rfl rfl rfl (fun _ X_ => OpV.xor32 rfl rfl) ?_ | refine Asy.v rfl rfl rfl rfl (fun _ X_ => OpV.and32 rfl rfl) ?_ | refine Asy.v rfl rfl rfl rfl (fun _ X_ => OpV.or32 rfl rfl) ?_ | refine Asy.v rfl rfl rfl rfl (fun _ X_ => OpV.add32 rfl rfl) ?_ | refine Asy.v rfl rfl rfl rfl (fun _ X_ => OpV.shl32 rfl rfl rfl) ?_ | refine Asy.v rfl rfl rfl rfl (fun _ X_ => OpV.shr32 rfl rfl rfl) ?_ | refine Asy.pureI Tryd.tOk rfl rfl rfl (by (first | exact wr_i64 (by omega) (by omega) | exact wm_i64 (by omega) | exact wq_i64 (by omega) (by omega) (by omega) | rfl)) ?_ | refine Asy.pure Tryd.tOk rfl rfl rfl ?_ | refine Asy.unwantedD rfl rfl rfl ?_ | refine Asy.v rfl rfl rfl rfl (fun _ X_ => OpV.indexAK Tryd.tOk rfl rfl rfl rfl) ?_ | refine Asy.v rfl rfl rfl rfl (fun _ X_ => OpV.indexSK Tryd.tOk rfl rfl rfl rfl) ?_)
        refine Asy.v rfl rfl rfl rfl (fun _ _ => OpV.compl rfl (u32_compl _)) ?_
        repeat (first | refine Asy.v rfl rfl rfl rfl (fun _ X_ => OpV.xor32 rfl rfl) ?_ | refine Asy.v rfl rfl rfl rfl (fun _ X_ => OpV.and32 rfl rfl) ?_ | refine Asy.v rfl rfl rfl rfl (fun _ X_ => OpV.or32 rfl rfl) ?_ | refine Asy.v rfl rfl rfl rfl (fun _ X_ => OpV.add32 rfl rfl) ?_ | refine Asy.v rfl rfl rfl rfl (fun _ X_ => OpV.shl32 rfl rfl rfl) ?_ | refine Asy.v rfl rfl rfl rfl (fun _ X_ => OpV.shr32 rfl rfl rfl) ?_ | refine Asy.pureI Tryd.tOk rfl rfl rfl (by (first | exact wr_i64 (by omega) (by omega) | exact wm_i64 (by omega) | exact wq_i64 (by omega) (by omega) (by omega) | rfl)) ?_ | refine Asy.pure Tryd.tOk rfl rfl rfl ?_ | refine Asy.unwantedD rfl rfl rfl ?_ | refine Asy.v rfl rfl rfl rfl (fun _ X_ => OpV.indexAK Tryd.tOk rfl rfl rfl rfl) ?_ | refine Asy.v rfl rfl rfl rfl (fun _ X_ => OpV.indexSK Tryd.tOk rfl rfl rfl rfl) ?_)
        refine Asy.v rfl rfl rfl rfl (fun _ _ => OpV.indexA1 Tryd.tOk t rfl rfl rfl rfl (by omega)) ?_
        refine Asy.v rfl rfl rfl rfl (fun _ X' => OpV.load1 Tryd.tOk rfl rfl rfl (((K0.ext X1 id).ext X' id).row t _ (vals_get _ ht'))) ?_
        repeat (first | refine Asy.v rfl rfl rfl rfl (fun _ X_ => OpV.xor32 rfl rfl) ?_ | refine Asy.v rfl rfl rfl rfl (fun _ X_ => OpV.and32 rfl rfl) ?_ | refine Asy.v rfl rfl rfl rfl (fun _ X_ => OpV.or32 rfl rfl) ?_ | refine Asy.v rfl rfl rfl rfl (fun _ X_ => OpV.add32 rfl rfl) ?_ | refine Asy.v rfl rfl rfl rfl (fun _ X_ => OpV.shl32 rfl rfl rfl) ?_ | refine Asy.v rfl rfl rfl rfl (fun _ X_ => OpV.shr32 rfl rfl rfl) ?_ | refine Asy.pureI Tryd.tOk rfl rfl rfl (by (first | exact wr_i64 (by omega) (by omega) | exact wm_i64 (by omega) | exact wq_i64 (by omega) (by omega) (by omega) | rfl)) ?_ | refine Asy.pure Tryd.tOk rfl rfl rfl ?_ | refine Asy.unwantedD rfl rfl rfl ?_ | refine Asy.v rfl rfl rfl rfl (fun _ X_ => OpV.indexAK Tryd.tOk rfl rfl rfl rfl) ?_ | refine Asy.v rfl rfl rfl rfl (fun _ X_ => OpV.indexSK Tryd.tOk rfl rfl rfl rfl) ?_)
        refine Asy.v rfl rfl rfl rfl (fun _ _ => OpV.indexA1 Tryd.tOk t rfl rfl rfl rfl (by omega)) ?_
        refine Asy.v rfl rfl rfl rfl (fun _ X' => OpV.load1 Tryd.tOk rfl rfl rfl (((Z0.ext X1 id).ext X' id).row t _ (vals_get _ (by omega)))) ?_
        repeat (first | refine Asy.v rfl rfl rfl rfl (fun _ X_ => OpV.xor32 rfl rfl) ?_ | refine Asy.v rfl rfl rfl rfl (fun _ X_ => OpV.and32 rfl rfl) ?_ | refine Asy.v rfl rfl rfl rfl (fun _ X_ => OpV.or32 rfl rfl) ?_ | refine Asy.v rfl rfl rfl rfl (fun _ X_ => OpV.add32 rfl rfl) ?_ | refine Asy.v rfl rfl rfl rfl (fun _ X_ => OpV.shl32 rfl rfl rfl) ?_ | refine Asy.v rfl rfl rfl rfl (fun _ X_ => OpV.shr32 rfl rfl rfl) ?_ | refine Asy.pureI Tryd.tOk rfl rfl rfl (by (first | exact wr_i64 (by omega) (by omega) | exact wm_i64 (by omega) | exact wq_i64 (by omega) (by omega) (by omega) | rfl)) ?_ | refine Asy.pure Tryd.tOk rfl rfl rfl ?_ | refine Asy.unwantedD rfl rfl rfl ?_ | refine Asy.v rfl rfl rfl rfl (fun _ X_ => OpV.indexAK Tryd.tOk rfl rfl rfl rfl) ?_ | refine Asy.v rfl rfl rfl rfl (fun _ X_ => OpV.indexSK Tryd.tOk rfl rfl rfl rfl) ?_)
        refine Asy.tail (by kernel_rfl) ?_
        intro u2 X2
        simp only [satsAll]
        have Y2 := X1.trans X2
        clear X1 X2
        repeat (first | refine RunL.val rfl rfl rfl (OpV.xor32 rfl rfl) ?_ | refine RunL.val rfl rfl rfl (OpV.and32 rfl rfl) ?_ | refine RunL.val rfl rfl rfl (OpV.or32 rfl rfl) ?_ | refine RunL.val rfl rfl rfl (OpV.add32 rfl rfl) ?_ | refine RunL.val rfl rfl rfl (OpV.shl32 rfl rfl rfl) ?_ | refine RunL.val rfl rfl rfl (OpV.shr32 rfl rfl rfl) ?_ | refine RunL.pureI Tryd.tOk rfl rfl rfl (by (first | exact wr_i64 (by omega) (by omega) | exact wm_i64 (by omega) | exact wq_i64 (by omega) (by omega) (by omega) | rfl)) ?_ | refine RunL.pure Tryd.tOk rfl rfl rfl ?_ | refine RunL.unwantedD rfl rfl ?_ | refine RunL.val rfl rfl rfl (OpV.indexAK Tryd.tOk rfl rfl rfl rfl) ?_ | refine RunL.val rfl rfl rfl (OpV.indexSK Tryd.tOk rfl rfl rfl rfl) ?_ | refine RunE.seq ?_ | refine RunE.region ?_ | refine RunL.nil ?_ | refine RunE.block ?_ | refine RunE.inBlock ?_ | refine RunE.skip ?_ | refine RunE.exit rfl ?_ | refine RunE.scope ?_ | refine RunE.inScope ?_ | refine RunE.label ?_)
        refine RunL.call rfl rfl rfl (ror_ok _ 2 (by decide) _) ?_
        rintro _ u3 ⟨rfl, X3⟩
        repeat (first | refine RunL.val rfl rfl rfl (OpV.xor32 rfl rfl) ?_ | refine RunL.val rfl rfl rfl (OpV.and32 rfl rfl) ?_ | refine RunL.val rfl rfl rfl (OpV.or32 rfl rfl) ?_ | refine RunL.val rfl rfl rfl (OpV.add32 rfl rfl) ?_ | refine RunL.val rfl rfl rfl (OpV.shl32 rfl rfl rfl) ?_ | refine RunL.val rfl rfl rfl (OpV.shr32 rfl rfl rfl) ?_ | refine RunL.pureI Tryd.tOk rfl rfl rfl (by (first | exact wr_i64 (by omega) (by omega) | exact wm_i64 (by omega) | exact wq_i64 (by omega) (by omega) (by omega) | rfl)) ?_ | refine RunL.pure Tryd.tOk rfl rfl rfl ?_ | refine RunL.unwantedD rfl rfl ?_ | refine RunL.val rfl rfl rfl (OpV.indexAK Tryd.tOk rfl rfl rfl rfl) ?_ | refine RunL.val rfl rfl rfl (OpV.indexSK Tryd.tOk rfl rfl rfl rfl) ?_ | refine RunE.seq ?_ | refine RunE.region ?_ | refine RunL.nil ?_ | refine RunE.block ?_ | refine RunE.inBlock ?_ | refine RunE.skip ?_ | refine RunE.exit rfl ?_ | refine RunE.scope ?_ | refine RunE.inScope ?_ | refine RunE.label ?_)
        refine RunL.call rfl rfl rfl (ror_ok _ 13 (by decide) _) ?_
        rintro _ u4 ⟨rfl, X4⟩
        repeat (first | refine RunL.val rfl rfl rfl (OpV.xor32 rfl rfl) ?_ | refine RunL.val rfl rfl rfl (OpV.and32 rfl rfl) ?_ | refine RunL.val rfl rfl rfl (OpV.or32 rfl rfl) ?_ | refine RunL.val rfl rfl rfl (OpV.add32 rfl rfl) ?_ | refine RunL.val rfl rfl rfl (OpV.shl32 rfl rfl rfl) ?_ | refine RunL.val rfl rfl rfl (OpV.shr32 rfl rfl rfl) ?_ | refine RunL.pureI Tryd.tOk rfl rfl rfl (by (first | exact wr_i64 (by omega) (by omega) | exact wm_i64 (by omega) | exact wq_i64 (by omega) (by omega) (by omega) | rfl)) ?_ | refine RunL.pure Tryd.tOk rfl rfl rfl ?_ | refine RunL.unwantedD rfl rfl ?_ | refine RunL.val rfl rfl rfl (OpV.indexAK Tryd.tOk rfl rfl rfl rfl) ?_ | refine RunL.val rfl rfl rfl (OpV.indexSK Tryd.tOk rfl rfl rfl rfl) ?_ | refine RunE.seq ?_ | refine RunE.region ?_ | refine RunL.nil ?_ | refine RunE.block ?_ | refine RunE.inBlock ?_ | refine RunE.skip ?_ | refine RunE.exit rfl ?_ | refine RunE.scope ?_ | refine RunE.inScope ?_ | refine RunE.label ?_)
        refine RunL.call rfl rfl rfl (ror_ok _ 22 (by decide) _) ?_
        rintro _ u5 ⟨rfl, X5⟩
        have Y5 := ((Y2.trans X3).trans X4).trans X5
        repeat (first | refine RunL.val rfl rfl rfl (OpV.xor32 rfl rfl) ?_ | refine RunL.val rfl rfl rfl (OpV.and32 rfl rfl) ?_ | refine RunL.val rfl rfl rfl (OpV.or32 rfl rfl) ?_ | refine RunL.val rfl rfl rfl (OpV.add32 rfl rfl) ?_ | refine RunL.val rfl rfl rfl (OpV.shl32 rfl rfl rfl) ?_ | refine RunL.val rfl rfl rfl (OpV.shr32 rfl rfl rfl) ?_ | refine RunL.pureI Tryd.tOk rfl rfl rfl (by (first | exact wr_i64 (by omega) (by omega) | exact wm_i64 (by omega) | exact wq_i64 (by omega) (by omega) (by omega) | rfl)) ?_ | refine RunL.pure Tryd.tOk rfl rfl rfl ?_ | refine RunL.unwantedD rfl rfl ?_ | refine RunL.val rfl rfl rfl (OpV.indexAK Tryd.tOk rfl rfl rfl rfl) ?_ | refine RunL.val rfl rfl rfl (OpV.indexSK Tryd.tOk rfl rfl rfl rfl) ?_ | refine RunE.seq ?_ | refine RunE.region ?_ | refine RunL.nil ?_ | refine RunE.block ?_ | refine RunE.inBlock ?_ | refine RunE.skip ?_ | refine RunE.exit rfl ?_ | refine RunE.scope ?_ | refine RunE.inScope ?_ | refine RunE.label ?_)
        refine RunE.weaken (by repeat (first | exact Sub.nil _ | refine Sub.cons rfl ?_)) (again (t + 1) _ (by omega) ⟨by omega, X0.trans Y5, S0.ext Y5 id, R0.ext Y5 id, Z0.ext Y5 id, K0.ext Y5 id⟩)
      · have ht64 : t = 64 := by omega
        subst ht64
        clear again
        have hbl : block s l = s.add (rnds ws s 64) := by rw [block, hws]
        generalize rnds ws s 64 = v at hbl ⊢
        repeat (first | refine RunL.val rfl rfl rfl (OpV.xor32 rfl rfl) ?_ | refine RunL.val rfl rfl rfl (OpV.and32 rfl rfl) ?_ | refine RunL.val rfl rfl rfl (OpV.or32 rfl rfl) ?_ | refine RunL.val rfl rfl rfl (OpV.add32 rfl rfl) ?_ | refine RunL.val rfl rfl rfl (OpV.shl32 rfl rfl rfl) ?_ | refine RunL.val rfl rfl rfl (OpV.shr32 rfl rfl rfl) ?_ | refine RunL.pureI Tryd.tOk rfl rfl rfl (by (first | exact wr_i64 (by omega) (by omega) | exact wm_i64 (by omega) | exact wq_i64 (by omega) (by omega) (by omega) | rfl)) ?_ | refine RunL.pure Tryd.tOk rfl rfl rfl ?_ | refine RunL.unwantedD rfl rfl ?_ | refine RunL.val rfl rfl rfl (OpV.indexAK Tryd.tOk rfl rfl rfl rfl) ?_ | refine RunL.val rfl rfl rfl (OpV.indexSK Tryd.tOk rfl rfl rfl rfl) ?_ | refine RunL.val rfl rfl rfl (OpV.load1 Tryd.tOk rfl rfl rfl (Blk.cell S0 rfl)) ?_ | refine RunE.seq ?_ | refine RunE.region ?_ | refine RunL.nil ?_ | refine RunE.block ?_ | refine RunE.inBlock ?_ | refine RunE.skip ?_ | refine RunE.exit rfl ?_ | refine RunE.scope ?_ | refine RunE.inScope ?_ | refine RunE.label ?_)
        refine RunL.store Tryd.tOk rfl rfl rfl rfl rfl R0 rfl rfl fun u1 t1 => ?_
        have X1 : Ext w u1 := X0.write t1.ext (by intro i hi hlt; subst hi; omega)
        repeat (first | refine RunL.pureI Tryd.tOk rfl rfl rfl (by (first | exact wr_i64 (by omega) (by omega) | exact wm_i64 (by omega) | exact wq_i64 (by omega) (by omega) (by omega) | rfl)) ?_ | refine RunL.pure Tryd.tOk rfl rfl rfl ?_ | refine RunL.unwantedD rfl rfl ?_ | refine RunE.seq ?_ | refine RunE.region ?_ | refine RunL.nil ?_ | refine RunE.block ?_ | refine RunE.inBlock ?_ | refine RunE.skip ?_ | refine RunE.exit rfl ?_ | refine RunE.scope ?_ | refine RunE.inScope ?_ | refine RunE.label ?_)
        refine RunE.retFn Tryd.func67 (.cell rfl (.agg Tryd.tOk rfl rfl rfl (Blk.row (show Blk u1 B4 (vals (s.add v).l) _ from t1.at_))) .nil) ⟨?_, X1⟩
        rw [hbl]; rfl

theorem padded_ok (v : Value) (l : List UInt8) (w : World) (hv : IsSl w 1 v l.length (bytesV l)) (hl : l.length ≤ 1000000000) :
    Rets Tryd.prog 66 [v] w fun r w' => w'.ownsRow w.heap.size 5 1 r (pad l).length (bytesV (pad l)) ∧ Ext w w' := by
  refine RetsX.of (nt := 35) Tryd.func66 (by kernel_rfl) rfl rfl (by simp) (by simp only [argEnv]; rfl) ?_
  repeat (first | refine RunL.pureI Tryd.tOk rfl rfl rfl (by (first | exact wr_i64 (by omega) (by omega) | exact wm_i64 (by omega) | exact wq_i64 (by omega) (by omega) (by omega) | rfl)) ?_ | refine RunL.pure Tryd.tOk rfl rfl rfl ?_ | refine RunL.unwantedD rfl rfl ?_ | refine RunE.seq ?_ | refine RunE.region ?_ | refine RunL.nil ?_ | refine RunE.block ?_ | refine RunE.inBlock ?_ | refine RunE.skip ?_ | refine RunE.exit rfl ?_ | refine RunE.scope ?_ | refine RunE.inScope ?_ | refine RunE.label ?_)
  refine RunL.ex rfl rfl rfl (OpE.buildSl Tryd.tOk [] rfl rfl rfl rfl rfl rfl (by simp)) ?_
  rintro _ w1 ⟨B6, rfl, a1⟩
  have O1 := ownsRow_added (n := 0) (sz := 1) a1 (Nat.le_of_eq a1.eq.symm) rfl (by simp [maxLen])
  have X1 := a1.ext
  clear a1
  repeat (first | refine RunL.pureI Tryd.tOk rfl rfl rfl (by (first | exact wr_i64 (by omega) (by omega) | exact wm_i64 (by omega) | exact wq_i64 (by omega) (by omega) (by omega) | rfl)) ?_ | refine RunL.pure Tryd.tOk rfl rfl rfl ?_ | refine RunL.unwantedD rfl rfl ?_ | refine RunE.seq ?_ | refine RunE.region ?_ | refine RunL.nil ?_ | refine RunE.block ?_ | refine RunE.inBlock ?_ | refine RunE.skip ?_ | refine RunE.exit rfl ?_ | refine RunE.scope ?_ | refine RunE.inScope ?_ | refine RunE.label ?_)
  refine RunL.ex rfl rfl rfl (OpE.append Tryd.tOk rfl rfl rfl rfl rfl rfl O1 (hv.extE X1) (bytesV_plain _) (by show _ * 1 ≤ _; omega) (by omega) X1.size) ?_
  rintro v2 w2 ⟨O2, E2⟩
  have X2 : Ext w w2 := X1.write E2 (by intro i hi hlt; have := ownsRow_ge O1 hi; omega)
  clear O1 X1 E2
  refine RunL.ex rfl rfl rfl (OpE.buildSl Tryd.tOk [.int .u8 128] rfl rfl rfl rfl rfl rfl (by simp [Value.cells])) ?_
  rintro _ w3 ⟨B9, rfl, a3⟩
  have X3 := X2.trans a3.ext
  have O3 := ownsRow_ext O2 a3.ext (fun _ _ h => h)
  refine RunL.ex rfl rfl rfl (OpE.append Tryd.tOk rfl rfl rfl rfl rfl rfl O3 (isSl_added (n := 1) (sz := 1) a3 rfl) rfl (by show _ * 1 ≤ _; omega) (by omega) X3.size) ?_
  rintro v4 w4 ⟨O4, E4⟩
  have X4 : Ext w w4 := X3.write E4 (by intro i hi hlt; have := ownsRow_ge O3 hi; omega)
  clear X2 X3 O2 O3 a3 E4
  repeat (first | refine RunL.pureI Tryd.tOk rfl rfl rfl (by (first | exact wr_i64 (by omega) (by omega) | exact wm_i64 (by omega) | exact wq_i64 (by omega) (by omega) (by omega) | rfl)) ?_ | refine RunL.pure Tryd.tOk rfl rfl rfl ?_ | refine RunL.unwantedD rfl rfl ?_ | refine RunE.seq ?_ | refine RunE.region ?_ | refine RunL.nil ?_ | refine RunE.block ?_ | refine RunE.inBlock ?_ | refine RunE.skip ?_ | refine RunE.exit rfl ?_ | refine RunE.scope ?_ | refine RunE.inScope ?_ | refine RunE.label ?_)
  have O4' : w4.ownsRow w.heap.size 5 1 v4 (l.length + 1 + 0) (bytesV (l ++ 128 :: List.replicate 0 0)) := by
    rw [bytesV_append]; simpa [cellsAll, Value.cells, bytesV] using O4
  have hz64 : padz l.length < 64 := by unfold padz; omega
  refine RunE.loop (ι := Nat × Value) (fun x => [(0, v), (3, x.2)])
    (fun x w' => x.1 ≤ padz l.length ∧ Ext w w' ∧ w'.ownsRow w.heap.size 5 1 x.2 (l.length + 1 + x.1) (bytesV (l ++ 128 :: List.replicate x.1 0))) (fun x => padz l.length - x.1) (0, v4) (by repeat (first | exact Sub.nil _ | refine Sub.cons rfl ?_)) ⟨by simp, X4, O4'⟩ ?_
  clear O4 O4' X4
  rintro ⟨j, u⟩ w5 ⟨hj, X5, O5⟩ again
  simp only at hj O5 again ⊢
  repeat (first | refine RunL.pureI Tryd.tOk rfl rfl rfl (by (first | exact wr_i64 (by omega) (by omega) | exact wm_i64 (by omega) | exact wq_i64 (by omega) (by omega) (by omega) | rfl)) ?_ | refine RunL.pure Tryd.tOk rfl rfl rfl ?_ | refine RunL.unwantedD rfl rfl ?_ | refine RunE.seq ?_ | refine RunE.region ?_ | refine RunL.nil ?_ | refine RunE.block ?_ | refine RunE.inBlock ?_ | refine RunE.skip ?_ | refine RunE.exit rfl ?_ | refine RunE.scope ?_ | refine RunE.inScope ?_ | refine RunE.label ?_)
  refine RunL.val rfl rfl rfl (OpV.lenSl Tryd.tOk rfl rfl (isSl_own O5)) ?_
  repeat (first | refine RunL.pureI Tryd.tOk rfl rfl rfl (by (first | exact wr_i64 (by omega) (by omega) | exact wm_i64 (by omega) | exact wq_i64 (by omega) (by omega) (by omega) | rfl)) ?_ | refine RunL.pure Tryd.tOk rfl rfl rfl ?_ | refine RunL.unwantedD rfl rfl ?_ | refine RunE.seq ?_ | refine RunE.region ?_ | refine RunL.nil ?_ | refine RunE.block ?_ | refine RunE.inBlock ?_ | refine RunE.skip ?_ | refine RunE.exit rfl ?_ | refine RunE.scope ?_ | refine RunE.inScope ?_ | refine RunE.label ?_)
  refine RunE.cond rfl (fun hne => ?_) (fun hne => ?_) <;> (first | replace hne := of_decide_eq_true hne | replace hne := of_decide_eq_false hne | replace hne := beq_iff_eq.1 hne | replace hne := beq_eq_false_iff_ne.1 hne | replace hne := bne_iff_ne.1 hne | replace hne := bne_eq_false_iff_eq.1 hne | skip)
  · have hj' : j < padz l.length := by
      rcases Nat.lt_or_ge j (padz l.length) with h | h
      · exact h
      · exfalso; apply hne; have : j = padz l.length := by omega
        subst this; unfold padz; omega
    repeat (first | refine RunL.pureI Tryd.tOk rfl rfl rfl (by (first | exact wr_i64 (by omega) (by omega) | exact wm_i64 (by omega) | exact wq_i64 (by omega) (by omega) (by omega) | rfl)) ?_ | refine RunL.pure Tryd.tOk rfl rfl rfl ?_ | refine RunL.unwantedD rfl rfl ?_ | refine RunE.seq ?_ | refine RunE.region ?_ | refine RunL.nil ?_ | refine RunE.block ?_ | refine RunE.inBlock ?_ | refine RunE.skip ?_ | refine RunE.exit rfl ?_ | refine RunE.scope ?_ | refine RunE.inScope ?_ | refine RunE.label ?_)
    refine RunL.ex rfl rfl rfl (OpE.buildSl Tryd.tOk [.int .u8 0] rfl rfl rfl rfl rfl rfl (by simp [Value.cells])) ?_
    rintro _ w6 ⟨B16, rfl, a6⟩
    have X6 := X5.trans a6.ext
    have O6 := ownsRow_ext O5 a6.ext (fun _ _ h => h)
    refine RunL.ex rfl rfl rfl (OpE.append Tryd.tOk rfl rfl rfl rfl rfl rfl O6 (isSl_added (n := 1) (sz := 1) a6 rfl) rfl (by show _ * 1 ≤ _; omega) (by omega) X6.size) ?_
    rintro u7 w7 ⟨O7, E7⟩
    have X7 : Ext w w7 := X6.write E7 (by intro i hi hlt; have := ownsRow_ge O6 hi; omega)
    repeat (first | refine RunL.pureI Tryd.tOk rfl rfl rfl (by (first | exact wr_i64 (by omega) (by omega) | exact wm_i64 (by omega) | exact wq_i64 (by omega) (by omega) (by omega) | rfl)) ?_ | refine RunL.pure Tryd.tOk rfl rfl rfl ?_ | refine RunL.unwantedD rfl rfl ?_ | refine RunE.seq ?_ | refine RunE.region ?_ | refine RunL.nil ?_ | refine RunE.block ?_ | refine RunE.inBlock ?_ | refine RunE.skip ?_ | refine RunE.exit rfl ?_ | refine RunE.scope ?_ | refine RunE.inScope ?_ | refine RunE.label ?_)
    refine RunE.weaken (by repeat (first | exact Sub.nil _ | refine Sub.cons rfl ?_)) (again (j + 1, u7) _ (by simp only; omega) ⟨by simp only; omega, X7, ?_⟩)
    simp only
    have e : l ++ 128 :: List.replicate (j + 1) (0 : UInt8) = (l ++ 128 :: List.replicate j 0) ++ [0] := by rw [List.replicate_succ']; simp
    rw [e, bytesV_append]
    exact O7
  · have hjz : j = padz l.length := by unfold padz at hj ⊢; omega
    subst hjz
    clear again
    repeat (first | refine RunL.pureI Tryd.tOk rfl rfl rfl (by (first | exact wr_i64 (by omega) (by omega) | exact wm_i64 (by omega) | exact wq_i64 (by omega) (by omega) (by omega) | rfl)) ?_ | refine RunL.pure Tryd.tOk rfl rfl rfl ?_ | refine RunL.unwantedD rfl rfl ?_ | refine RunE.seq ?_ | refine RunE.region ?_ | refine RunL.nil ?_ | refine RunE.block ?_ | refine RunE.inBlock ?_ | refine RunE.skip ?_ | refine RunE.exit rfl ?_ | refine RunE.scope ?_ | refine RunE.inScope ?_ | refine RunE.label ?_)
    refine RunL.val rfl rfl rfl (OpV.lenSl Tryd.tOk rfl rfl hv) ?_
    repeat (first | refine RunL.pureI Tryd.tOk rfl rfl rfl (by (first | exact u64_nat _ (by omega) | exact u64_mul _ 8 (by omega) | exact wr_i64 (by omega) (by omega) | exact wm_i64 (by omega) | exact wq_i64 (by omega) (by omega) (by omega) | rfl)) ?_ | refine RunL.pure Tryd.tOk rfl rfl rfl ?_ | refine RunL.unwantedD rfl rfl ?_ | refine RunL.val rfl rfl rfl (OpV.indexAK Tryd.tOk rfl rfl rfl rfl) ?_ | refine RunL.val rfl rfl rfl (OpV.indexSK Tryd.tOk rfl rfl rfl rfl) ?_ | refine RunE.seq ?_ | refine RunE.region ?_ | refine RunL.nil ?_ | refine RunE.block ?_ | refine RunE.inBlock ?_ | refine RunE.skip ?_ | refine RunE.exit rfl ?_ | refine RunE.scope ?_ | refine RunE.inScope ?_ | refine RunE.label ?_)
    rw [Nat.mul_comm l.length 8]
    refine RunE.loop (ι := Nat × Value) (fun x => [(3, x.2), (4, .int .u64 ((8 * l.length : Nat) : Int)), (5, .int .i64 (7 - (x.1 : Int)))])
      (fun x w' => x.1 ≤ 8 ∧ Ext w w' ∧ w'.ownsRow w.heap.size 5 1 x.2 (l.length + 1 + padz l.length + x.1) (bytesV (l ++ 128 :: (List.replicate (padz l.length) 0 ++ (be 8 (8 * l.length)).take x.1)))) (fun x => 8 - x.1) (0, u) (by repeat (first | exact Sub.nil _ | refine Sub.cons rfl ?_))
      ⟨by simp, X5, by simpa using O5⟩ ?_
    clear O5 X5
    rintro ⟨k, u⟩ w5 ⟨hk, X5, O5⟩ again
    simp only at hk O5 again ⊢
    repeat (first | refine RunL.pureI Tryd.tOk rfl rfl rfl (by (first | exact wr_i64 (by omega) (by omega) | exact wm_i64 (by omega) | exact wq_i64 (by omega) (by omega) (by omega) | rfl)) ?_ | refine RunL.pure Tryd.tOk rfl rfl rfl ?_ | refine RunL.unwantedD rfl rfl ?_ | refine RunE.seq ?_ | refine RunE.region ?_ | refine RunL.nil ?_ | refine RunE.block ?_ | refine RunE.inBlock ?_ | refine RunE.skip ?_ | refine RunE.exit rfl ?_ | refine RunE.scope ?_ | refine RunE.inScope ?_ | refine RunE.label ?_)
    refine RunE.cond rfl (fun hge => ?_) (fun hge => ?_) <;> (first | replace hge := of_decide_eq_true hge | replace hge := of_decide_eq_false hge | replace hge := beq_iff_eq.1 hge | replace hge := beq_eq_false_iff_ne.1 hge | replace hge := bne_iff_ne.1 hge | replace hge := bne_eq_false_iff_eq.1 hge | skip)
    · have hk8 : k < 8 := by omega
      have e7 : (8 : Int) * (7 - (k : Int)) = ((8 * (7 - k) : Nat) : Int) := by omega
      repeat (first | refine RunL.pureI Tryd.tOk rfl rfl rfl (by (first | exact (congrArg IntKind.i64.wrap e7).trans (wr_i64 (by omega) (by omega)) | exact u64_shr _ _ (by omega) | exact u8_of_nat _ | exact wr_i64 (by omega) (by omega) | exact wm_i64 (by omega) | exact wq_i64 (by omega) (by omega) (by omega) | rfl)) ?_ | refine RunL.pure Tryd.tOk rfl rfl rfl ?_ | refine RunL.unwantedD rfl rfl ?_ | refine RunL.val rfl rfl rfl (OpV.indexAK Tryd.tOk rfl rfl rfl rfl) ?_ | refine RunL.val rfl rfl rfl (OpV.indexSK Tryd.tOk rfl rfl rfl rfl) ?_ | refine RunE.seq ?_ | refine RunE.region ?_ | refine RunL.nil ?_ | refine RunE.block ?_ | refine RunE.inBlock ?_ | refine RunE.skip ?_ | refine RunE.exit rfl ?_ | refine RunE.scope ?_ | refine RunE.inScope ?_ | refine RunE.label ?_)
      refine RunL.ex rfl rfl rfl (OpE.buildSl Tryd.tOk [.int .u8 ((UInt8.ofNat (8 * l.length / 2 ^ (8 * (7 - k)))).toNat : Int)] rfl rfl rfl rfl rfl rfl (by simp [Value.cells])) ?_
      rintro _ w6 ⟨B16, rfl, a6⟩
      have X6 := X5.trans a6.ext
      have O6 := ownsRow_ext O5 a6.ext (fun _ _ h => h)
      refine RunL.ex rfl rfl rfl (OpE.append Tryd.tOk rfl rfl rfl rfl rfl rfl O6 (isSl_added (n := 1) (sz := 1) a6 rfl) rfl (by show _ * 1 ≤ _; omega) (by omega) X6.size) ?_
      rintro u7 w7 ⟨O7, E7⟩
      have X7 : Ext w w7 := X6.write E7 (by intro i hi hlt; have := ownsRow_ge O6 hi; omega)
      repeat (first | refine RunL.pureI Tryd.tOk rfl rfl rfl (by (first | exact wr_i64 (by omega) (by omega) | exact wm_i64 (by omega) | exact wq_i64 (by omega) (by omega) (by omega) | rfl)) ?_ | refine RunL.pure Tryd.tOk rfl rfl rfl ?_ | refine RunL.unwantedD rfl rfl ?_ | refine RunE.seq ?_ | refine RunE.region ?_ | refine RunL.nil ?_ | refine RunE.block ?_ | refine RunE.inBlock ?_ | refine RunE.skip ?_ | refine RunE.exit rfl ?_ | refine RunE.scope ?_ | refine RunE.inScope ?_ | refine RunE.label ?_)
      refine RunE.weaken (by
        refine Sub.cons rfl (Sub.cons rfl (Sub.cons ?_ (Sub.nil _)))
        rw [show (7 : Int) - ((k + 1 : Nat) : Int) = 7 - (k : Int) - 1 by omega]; rfl) (again (k + 1, u7) _ (by simp only; omega) ⟨by simp only; omega, X7, ?_⟩)
      simp only
      have e : (be 8 (8 * l.length)).take (k + 1) = (be 8 (8 * l.length)).take k ++ [UInt8.ofNat (8 * l.length / 2 ^ (8 * (7 - k)))] := by
        rw [List.take_add_one, be_get _ _ _ hk8]; rfl
      have e2 : l ++ 128 :: (List.replicate (padz l.length) 0 ++ (be 8 (8 * l.length)).take (k + 1)) = (l ++ 128 :: (List.replicate (padz l.length) 0 ++ (be 8 (8 * l.length)).take k)) ++ [UInt8.ofNat (8 * l.length / 2 ^ (8 * (7 - k)))] := by rw [e]; simp
      rw [e2, bytesV_append]
      exact O7
    · have hk8 : k = 8 := by omega
      subst hk8
      repeat (first | refine RunL.pureI Tryd.tOk rfl rfl rfl (by (first | exact wr_i64 (by omega) (by omega) | exact wm_i64 (by omega) | exact wq_i64 (by omega) (by omega) (by omega) | rfl)) ?_ | refine RunL.pure Tryd.tOk rfl rfl rfl ?_ | refine RunL.unwantedD rfl rfl ?_ | refine RunE.seq ?_ | refine RunE.region ?_ | refine RunL.nil ?_ | refine RunE.block ?_ | refine RunE.inBlock ?_ | refine RunE.skip ?_ | refine RunE.exit rfl ?_ | refine RunE.scope ?_ | refine RunE.inScope ?_ | refine RunE.label ?_)
      refine RunE.retFn Tryd.func66 (.tmp rfl .nil) ⟨?_, X5⟩
      have e : (be 8 (8 * l.length)).take 8 = be 8 (8 * l.length) := rfl
      rw [e] at O5
      simp only [oneOr]
      rw [pad_length, show l.length + 9 + padz l.length = l.length + 1 + padz l.length + 8 by omega]
      exact O5

/-- The words of a state, byte by byte. -/
theorem dig_get (S : S8) (i : Nat) (h : i < 32) : (dig S)[i]? = some (UInt8.ofNat ((S.l.getD (i / 4) 0).toNat / 2 ^ (24 - 8 * (i % 4)))) := by
  have key : ∀ (L : List W) (q r : Nat), r < 4 → q < L.length → (L.flatMap fun x => be 4 x.toNat)[4 * q + r]? = some (UInt8.ofNat ((L.getD q 0).toNat / 2 ^ (8 * (3 - r)))) := by
    intro L
    induction L with
    | nil => intro q r _ hq; simp at hq
    | cons x L ih =>
      intro q r hr hq
      rw [List.flatMap_cons]
      cases q with
      | zero =>
        rw [List.getElem?_append_left (by rw [be_length]; omega), Nat.mul_zero, Nat.zero_add, be_get _ _ _ hr]
        rfl
      | succ q =>
        rw [List.getElem?_append_right (by rw [be_length]; omega), be_length, show 4 * (q + 1) + r - 4 = 4 * q + r by omega]
        rw [ih q r hr (by simpa using hq)]
        simp
  have h8 : S.l.length = 8 := rfl
  have := key S.l (i / 4) (i % 4) (by omega) (by omega)
  rw [show 4 * (i / 4) + i % 4 = i by omega, show 8 * (3 - i % 4) = 24 - 8 * (i % 4) by omega] at this
  exact this

set_option maxHeartbeats 4000000 in
theorem rsum_ok (v : Value) (l : List UInt8) (w : World) (hv : IsSl w 1 v l.length (bytesV l)) (hl : l.length ≤ 1000000000) :
    Rets Tryd.prog 51 [v] w fun r w' => r = .agg (bytesV (sha l)).toArray ∧ Ext w w' := by
  refine RetsX.of (nt := 42) Tryd.func51 (by kernel_rfl) rfl rfl (by simp) (by simp only [argEnv]; rfl) ?_
  repeat (first | refine RunL.pureI Tryd.tOk rfl rfl rfl (by (first | exact wr_i64 (by omega) (by omega) | exact wm_i64 (by omega) | exact wq_i64 (by omega) (by omega) (by omega) | rfl)) ?_ | refine RunL.pure Tryd.tOk rfl rfl rfl ?_ | refine RunL.unwantedD rfl rfl ?_ | refine RunE.seq ?_ | refine RunE.region ?_ | refine RunL.nil ?_ | refine RunE.block ?_ | refine RunE.inBlock ?_ | refine RunE.skip ?_ | refine RunE.exit rfl ?_ | refine RunE.scope ?_ | refine RunE.inScope ?_ | refine RunE.label ?_)
  refine RunL.alloc Tryd.tOk rfl rfl rfl fun B2 w1 a1 => ?_
  repeat (first | refine RunL.pureI Tryd.tOk rfl rfl rfl (by (first | exact wr_i64 (by omega) (by omega) | exact wm_i64 (by omega) | exact wq_i64 (by omega) (by omega) (by omega) | rfl)) ?_ | refine RunL.pure Tryd.tOk rfl rfl rfl ?_ | refine RunL.unwantedD rfl rfl ?_ | refine RunE.seq ?_ | refine RunE.region ?_ | refine RunL.nil ?_ | refine RunE.block ?_ | refine RunE.inBlock ?_ | refine RunE.skip ?_ | refine RunE.exit rfl ?_ | refine RunE.scope ?_ | refine RunE.inScope ?_ | refine RunE.label ?_)
  refine RunL.alloc Tryd.tOk rfl rfl rfl fun B3 w2 a2 => ?_
  refine RunL.store (v := .agg (vals init8.l).toArray) Tryd.tOk rfl rfl rfl rfl rfl (cs := List.replicate 8 (.int .u32 0)) a2.at_ rfl rfl fun w3 t3 => ?_
  have hB2 := a1.eq
  have hB3 := a2.eq
  have hs1 := a1.size
  have X3 : Ext w w3 := (a1.ext.trans a2.ext).write t3.ext (by intro i hi hlt; subst hi; omega)
  have D3 : Blk w3 B2 (bytesV (List.replicate 32 0)) 30 := Blk.ext (Blk.ext (w := w1) (cs := List.replicate 32 (.int .u8 0)) a1.at_ a2.ext id) t3.ext (by omega)
  have V3 : Blk w3 B3 (vals (run init8 (pad l) 0).l) 74 := t3.at_
  clear a1 a2 t3
  repeat (first | refine RunL.pureI Tryd.tOk rfl rfl rfl (by (first | exact wr_i64 (by omega) (by omega) | exact wm_i64 (by omega) | exact wq_i64 (by omega) (by omega) (by omega) | rfl)) ?_ | refine RunL.pure Tryd.tOk rfl rfl rfl ?_ | refine RunL.unwantedD rfl rfl ?_ | refine RunE.seq ?_ | refine RunE.region ?_ | refine RunL.nil ?_ | refine RunE.block ?_ | refine RunE.inBlock ?_ | refine RunE.skip ?_ | refine RunE.exit rfl ?_ | refine RunE.scope ?_ | refine RunE.inScope ?_ | refine RunE.label ?_)
  refine RunL.call rfl rfl rfl (padded_ok v l w3 (hv.extE X3) hl) ?_
  rintro p w4 ⟨O4, X4⟩
  have hpl := pad_length64 l
  have hpb := pad_length l
  have hz64 : padz l.length < 64 := by unfold padz; omega
  repeat (first | refine RunL.pureI Tryd.tOk rfl rfl rfl (by (first | exact wr_i64 (by omega) (by omega) | exact wm_i64 (by omega) | exact wq_i64 (by omega) (by omega) (by omega) | rfl)) ?_ | refine RunL.pure Tryd.tOk rfl rfl rfl ?_ | refine RunL.unwantedD rfl rfl ?_ | refine RunE.seq ?_ | refine RunE.region ?_ | refine RunL.nil ?_ | refine RunE.block ?_ | refine RunE.inBlock ?_ | refine RunE.skip ?_ | refine RunE.exit rfl ?_ | refine RunE.scope ?_ | refine RunE.inScope ?_ | refine RunE.label ?_)
  refine RunE.loop (ι := Nat) (fun k => [(2, .pointer (some ⟨B2, 0, none⟩)), (3, .pointer (some ⟨B3, 0, none⟩)), (4, p), (5, .int .i64 ((64 * k : Nat) : Int))])
    (fun k w' => 64 * k ≤ (pad l).length ∧ Ext w w' ∧ Blk w' B2 (bytesV (List.replicate 32 0)) 30 ∧ Blk w' B3 (vals (run init8 (pad l) k).l) 74 ∧ w'.ownsRow w3.heap.size 5 1 p (pad l).length (bytesV (pad l)))
    (fun k => (pad l).length - 64 * k) 0 (by repeat (first | exact Sub.nil _ | refine Sub.cons rfl ?_)) ⟨by omega, X3.trans X4, D3.ext X4 id, V3.ext X4 id, O4⟩ ?_
  have hlt3 := V3.lt
  have hlt2 := D3.lt
  clear V3 D3 O4 X4
  rintro k w5 ⟨hk, X5, D5, V5, O5⟩ again
  repeat (first | refine RunL.pureI Tryd.tOk rfl rfl rfl (by (first | exact wr_i64 (by omega) (by omega) | exact wm_i64 (by omega) | exact wq_i64 (by omega) (by omega) (by omega) | rfl)) ?_ | refine RunL.pure Tryd.tOk rfl rfl rfl ?_ | refine RunL.unwantedD rfl rfl ?_ | refine RunE.seq ?_ | refine RunE.region ?_ | refine RunL.nil ?_ | refine RunE.block ?_ | refine RunE.inBlock ?_ | refine RunE.skip ?_ | refine RunE.exit rfl ?_ | refine RunE.scope ?_ | refine RunE.inScope ?_ | refine RunE.label ?_)
  refine RunL.val rfl rfl rfl (OpV.lenSl Tryd.tOk rfl rfl (isSl_own O5)) ?_
  repeat (first | refine RunL.pureI Tryd.tOk rfl rfl rfl (by (first | exact wr_i64 (by omega) (by omega) | exact wm_i64 (by omega) | exact wq_i64 (by omega) (by omega) (by omega) | rfl)) ?_ | refine RunL.pure Tryd.tOk rfl rfl rfl ?_ | refine RunL.unwantedD rfl rfl ?_ | refine RunE.seq ?_ | refine RunE.region ?_ | refine RunL.nil ?_ | refine RunE.block ?_ | refine RunE.inBlock ?_ | refine RunE.skip ?_ | refine RunE.exit rfl ?_ | refine RunE.scope ?_ | refine RunE.inScope ?_ | refine RunE.label ?_)
  refine RunE.cond rfl (fun hlt => ?_) (fun hlt => ?_) <;> (first | replace hlt := of_decide_eq_true hlt | replace hlt := of_decide_eq_false hlt | replace hlt := beq_iff_eq.1 hlt | replace hlt := beq_eq_false_iff_ne.1 hlt | replace hlt := bne_iff_ne.1 hlt | replace hlt := bne_eq_false_iff_eq.1 hlt | skip)
  · have hlt' : 64 * k + 64 ≤ (pad l).length := by omega
    obtain ⟨b', o', cap, rfl, hr, hln, hc⟩ := (isSl_own O5).held (by omega)
    repeat (first | refine RunL.pureI Tryd.tOk rfl rfl rfl (by (first | exact wr_i64 (by omega) (by omega) | exact wm_i64 (by omega) | exact wq_i64 (by omega) (by omega) (by omega) | rfl)) ?_ | refine RunL.pure Tryd.tOk rfl rfl rfl ?_ | refine RunL.unwantedD rfl rfl ?_ | refine RunE.seq ?_ | refine RunE.region ?_ | refine RunL.nil ?_ | refine RunE.block ?_ | refine RunE.inBlock ?_ | refine RunE.skip ?_ | refine RunE.exit rfl ?_ | refine RunE.scope ?_ | refine RunE.inScope ?_ | refine RunE.label ?_)
    refine RunE.draw (fun _ => False) mix ?_
    intro w6 X6
    refine Asy.v rfl rfl rfl rfl (fun _ X' => OpV.loadN (cs := vals (run init8 (pad l) k).l) Tryd.tOk rfl rfl rfl rfl ((V5.ext X6 id).ext X' id).row) ?_
    repeat (first | refine Asy.pureI Tryd.tOk rfl rfl rfl (by (first | exact wr_i64 (by omega) (by omega) | exact wm_i64 (by omega) | exact wq_i64 (by omega) (by omega) (by omega) | rfl)) ?_ | refine Asy.pure Tryd.tOk rfl rfl rfl ?_ | refine Asy.unwantedD rfl rfl rfl ?_)
    refine Asy.v rfl rfl rfl rfl (fun _ _ => OpV.sliceSq (lo := 64 * k) (hi := 64 * k + 64) (q := o' + 64 * k) (len := 64) (cap := cap - 64 * k) Tryd.tOk rfl rfl (.some rfl rfl) (.some rfl (by omega)) (by omega) (by omega) (by rw [offOf_lt (by omega)]; omega) (by omega) rfl) ?_
    have sl : IsSl w6 1 (.slice (some ⟨b', o' + 64 * k, none⟩) 64 (cap - 64 * k)) 64 (bytesV (((pad l).drop (64 * k)).take 64)) := by
      refine .row ?_ (by rw [bytesV_length, List.length_take, List.length_drop]; omega) (by omega)
      rw [← bytesV_take, ← bytesV_drop]
      exact ((hr.extE X6).drop _).take _
    refine Asy.val rfl rfl rfl rfl (fun w' X' => OpE.call rfl (rblock_ok (run init8 (pad l) k) (((pad l).drop (64 * k)).take 64) _ _ (by rw [List.length_take, List.length_drop]; omega) (sl.extE X'))) ?_
    refine Asy.tail (by kernel_rfl) ?_
    intro w7 X7
    simp only [satsAll]
    have Y7 := X6.trans X7
    have e8 : run init8 (pad l) (k + 1) = block (run init8 (pad l) k) (((pad l).drop (64 * k)).take 64) := rfl
    rw [← e8]
    refine RunL.store (v := .agg (vals (run init8 (pad l) (k + 1)).l).toArray) Tryd.tOk rfl rfl rfl rfl rfl (V5.ext Y7 id) rfl rfl fun w8 t8 => ?_
    have X8 : Ext w w8 := (X5.trans Y7).write t8.ext (by intro i hi hlt; subst hi; omega)
    have D8 := (D5.ext Y7 id).ext t8.ext (by omega)
    have V8 : Blk w8 B3 (vals (run init8 (pad l) (k + 1)).l) 74 := t8.at_
    have O8 := ownsRow_ext (ownsRow_ext O5 Y7 fun _ _ h => h) t8.ext (by intro j hj e; have := ownsRow_ge O5 hj; omega)
    repeat (first | refine RunL.pureI Tryd.tOk rfl rfl rfl (by (first | exact wr_i64 (by omega) (by omega) | exact wm_i64 (by omega) | exact wq_i64 (by omega) (by omega) (by omega) | rfl)) ?_ | refine RunL.pure Tryd.tOk rfl rfl rfl ?_ | refine RunL.unwantedD rfl rfl ?_ | refine RunE.seq ?_ | refine RunE.region ?_ | refine RunL.nil ?_ | refine RunE.block ?_ | refine RunE.inBlock ?_ | refine RunE.skip ?_ | refine RunE.exit rfl ?_ | refine RunE.scope ?_ | refine RunE.inScope ?_ | refine RunE.label ?_)
    refine RunE.weaken (by
      refine Sub.cons rfl (Sub.cons rfl (Sub.cons rfl (Sub.cons ?_ (Sub.nil _))))
      rw [show ((64 * (k + 1) : Nat) : Int) = ((64 * k : Nat) : Int) + 64 by omega]; rfl) (again (k + 1) _ (by omega) ⟨by omega, X8, D8, V8, O8⟩)
  · have hkn : k = (pad l).length / 64 := by omega
    clear again
    have hsha : sha l = dig (run init8 (pad l) k) := by rw [sha, hkn]
    rw [hsha]
    generalize run init8 (pad l) k = S at V5 ⊢
    repeat (first | refine RunL.pureI Tryd.tOk rfl rfl rfl (by (first | exact wr_i64 (by omega) (by omega) | exact wm_i64 (by omega) | exact wq_i64 (by omega) (by omega) (by omega) | rfl)) ?_ | refine RunL.pure Tryd.tOk rfl rfl rfl ?_ | refine RunL.unwantedD rfl rfl ?_ | refine RunE.seq ?_ | refine RunE.region ?_ | refine RunL.nil ?_ | refine RunE.block ?_ | refine RunE.inBlock ?_ | refine RunE.skip ?_ | refine RunE.exit rfl ?_ | refine RunE.scope ?_ | refine RunE.inScope ?_ | refine RunE.label ?_)
    refine RunL.alloc Tryd.tOk rfl rfl rfl fun B6 w6 a6 => ?_
    have hB6 := a6.eq
    have y5 := X5.size
    have lt2 := D5.lt
    have lt3 := V5.lt
    refine RunL.store (v := .agg (bytesV (List.replicate 32 0)).toArray) Tryd.tOk rfl rfl rfl rfl rfl (cs := List.replicate 32 (.int .u8 0)) a6.at_ rfl rfl fun w7 t7 => ?_
    have X7 : Ext w w7 := (X5.trans a6.ext).write t7.ext (by intro i hi hlt; subst hi; omega)
    have D7 := (D5.ext a6.ext id).ext t7.ext (by omega)
    have V7 := (V5.ext a6.ext id).ext t7.ext (by omega)
    have G7 : Blk w7 B6 (bytesV ((dig S).take 0 ++ List.replicate (32 - 0) 0)) 30 := t7.at_
    clear a6 t7 X5 D5 V5 O5
    have hdl := dig_length S
    repeat (first | refine RunL.pureI Tryd.tOk rfl rfl rfl (by (first | exact wr_i64 (by omega) (by omega) | exact wm_i64 (by omega) | exact wq_i64 (by omega) (by omega) (by omega) | rfl)) ?_ | refine RunL.pure Tryd.tOk rfl rfl rfl ?_ | refine RunL.unwantedD rfl rfl ?_ | refine RunE.seq ?_ | refine RunE.region ?_ | refine RunL.nil ?_ | refine RunE.block ?_ | refine RunE.inBlock ?_ | refine RunE.skip ?_ | refine RunE.exit rfl ?_ | refine RunE.scope ?_ | refine RunE.inScope ?_ | refine RunE.label ?_)
    refine RunE.loop (ι := Nat) (fun i => [(2, .pointer (some ⟨B2, 0, none⟩)), (3, .pointer (some ⟨B3, 0, none⟩)), (6, .pointer (some ⟨B6, 0, none⟩)), (7, .int .i64 (i : Int))])
      (fun i w' => i ≤ 32 ∧ Ext w w' ∧ Blk w' B2 (bytesV (List.replicate 32 0)) 30 ∧ Blk w' B3 (vals S.l) 74 ∧ Blk w' B6 (bytesV ((dig S).take i ++ List.replicate (32 - i) 0)) 30) (fun i => 32 - i) 0 (by repeat (first | exact Sub.nil _ | refine Sub.cons rfl ?_)) ⟨by omega, X7, D7, V7, G7⟩ ?_
    clear X7 D7 V7 G7
    rintro i u0 ⟨hi, X0, D0, V0, G0⟩ again
    repeat (first | refine RunL.pureI Tryd.tOk rfl rfl rfl (by (first | exact wr_i64 (by omega) (by omega) | exact wm_i64 (by omega) | exact wq_i64 (by omega) (by omega) (by omega) | rfl)) ?_ | refine RunL.pure Tryd.tOk rfl rfl rfl ?_ | refine RunL.unwantedD rfl rfl ?_ | refine RunE.seq ?_ | refine RunE.region ?_ | refine RunL.nil ?_ | refine RunE.block ?_ | refine RunE.inBlock ?_ | refine RunE.skip ?_ | refine RunE.exit rfl ?_ | refine RunE.scope ?_ | refine RunE.inScope ?_ | refine RunE.label ?_)
    refine RunE.cond rfl (fun hlt32 => ?_) (fun hlt32 => ?_) <;> (first | replace hlt32 := of_decide_eq_true hlt32 | replace hlt32 := of_decide_eq_false hlt32 | replace hlt32 := beq_iff_eq.1 hlt32 | replace hlt32 := beq_eq_false_iff_ne.1 hlt32 | replace hlt32 := bne_iff_ne.1 hlt32 | replace hlt32 := bne_eq_false_iff_eq.1 hlt32 | skip)
    · have hi32 : i < 32 := by omega
      have h24 : (24 : Int) - 8 * ((i : Int) % 4) = ((24 - 8 * (i % 4) : Nat) : Int) := by omega
      repeat (first | refine RunL.pureI Tryd.tOk rfl rfl rfl (by (first | exact wr_i64 (by omega) (by omega) | exact wm_i64 (by omega) | exact wq_i64 (by omega) (by omega) (by omega) | rfl)) ?_ | refine RunL.pure Tryd.tOk rfl rfl rfl ?_ | refine RunL.unwantedD rfl rfl ?_ | refine RunE.seq ?_ | refine RunE.region ?_ | refine RunL.nil ?_ | refine RunE.block ?_ | refine RunE.inBlock ?_ | refine RunE.skip ?_ | refine RunE.exit rfl ?_ | refine RunE.scope ?_ | refine RunE.inScope ?_ | refine RunE.label ?_)
      refine RunL.val rfl rfl rfl (OpV.indexA1 Tryd.tOk (i / 4) rfl rfl rfl (by omega) (by omega)) ?_
      refine RunL.val rfl rfl rfl (OpV.load1 (v := .int .u32 ((S.l.getD (i / 4) 0).toNat : Int)) Tryd.tOk rfl rfl rfl (by rw [Nat.zero_add]; exact V0.cell (vals_get' (by show i / 4 < 8; omega)))) ?_
      repeat (first | refine RunL.pureI Tryd.tOk rfl rfl rfl (by (first | exact (congrArg IntKind.i64.wrap h24).trans (wr_i64 (by omega) (by omega)) | exact u32_shr' _ _ (by omega) | exact u8_of_nat _ | exact wr_i64 (by omega) (by omega) | exact wm_i64 (by omega) | exact wq_i64 (by omega) (by omega) (by omega) | rfl)) ?_ | refine RunL.pure Tryd.tOk rfl rfl rfl ?_ | refine RunL.unwantedD rfl rfl ?_ | refine RunL.val rfl rfl rfl (OpV.indexAK Tryd.tOk rfl rfl rfl rfl) ?_ | refine RunL.val rfl rfl rfl (OpV.indexSK Tryd.tOk rfl rfl rfl rfl) ?_ | refine RunE.seq ?_ | refine RunE.region ?_ | refine RunL.nil ?_ | refine RunE.block ?_ | refine RunE.inBlock ?_ | refine RunE.skip ?_ | refine RunE.exit rfl ?_ | refine RunE.scope ?_ | refine RunE.inScope ?_ | refine RunE.label ?_)
      refine RunL.val rfl rfl rfl (OpV.indexA1 Tryd.tOk i rfl rfl rfl rfl (by omega)) ?_
      have eG : (dig S).take i ++ List.replicate (32 - i) 0 = (dig S).take i ++ 0 :: List.replicate (32 - (i + 1)) 0 := by rw [show 32 - i = (32 - (i + 1)) + 1 by omega, List.replicate_succ]
      rw [eG] at G0
      refine RunL.store Tryd.tOk rfl rfl rfl rfl rfl G0 (by simp [bytesV_length, Value.cells, hdl]; omega) rfl fun u1 t1 => ?_
      have X1 : Ext w u1 := X0.write t1.ext (by intro i hi hlt; subst hi; omega)
      have D1 := D0.ext t1.ext (by omega)
      have V1 := V0.ext t1.ext (by omega)
      have G1 : Blk u1 B6 (bytesV ((dig S).take (i + 1) ++ List.replicate (32 - (i + 1)) 0)) 30 := by
        have := t1.at_
        have e := set_byte ((dig S).take i) (List.replicate (32 - (i + 1)) 0) 0 (UInt8.ofNat ((S.l.getD (i / 4) 0).toNat / 2 ^ (24 - 8 * (i % 4)))) i (by rw [List.length_take, hdl]; omega)
        unfold Blk
        rw [List.take_add_one, dig_get S i hi32, List.append_assoc]
        rw [Nat.zero_add] at this
        rw [this]
        exact congrArg (fun x : List Value => some (Obj.cells x.toArray 30 (0, 0))) e
      repeat (first | refine RunL.pureI Tryd.tOk rfl rfl rfl (by (first | exact wr_i64 (by omega) (by omega) | exact wm_i64 (by omega) | exact wq_i64 (by omega) (by omega) (by omega) | rfl)) ?_ | refine RunL.pure Tryd.tOk rfl rfl rfl ?_ | refine RunL.unwantedD rfl rfl ?_ | refine RunE.seq ?_ | refine RunE.region ?_ | refine RunL.nil ?_ | refine RunE.block ?_ | refine RunE.inBlock ?_ | refine RunE.skip ?_ | refine RunE.exit rfl ?_ | refine RunE.scope ?_ | refine RunE.inScope ?_ | refine RunE.label ?_)
      exact RunE.weaken (by repeat (first | exact Sub.nil _ | refine Sub.cons rfl ?_)) (again (i + 1) _ (by omega) ⟨by omega, X1, D1, V1, G1⟩)
    · have hi32 : i = 32 := by omega
      subst hi32
      have Gf : Blk u0 B6 (bytesV (dig S)) 30 := by
        rw [List.take_of_length_le (by omega)] at G0; simpa using G0
      clear G0
      generalize dig S = D at Gf hdl ⊢
      repeat (first | refine RunL.pureI Tryd.tOk rfl rfl rfl (by (first | exact wr_i64 (by omega) (by omega) | exact wm_i64 (by omega) | exact wq_i64 (by omega) (by omega) (by omega) | rfl)) ?_ | refine RunL.pure Tryd.tOk rfl rfl rfl ?_ | refine RunL.unwantedD rfl rfl ?_ | refine RunE.seq ?_ | refine RunE.region ?_ | refine RunL.nil ?_ | refine RunE.block ?_ | refine RunE.inBlock ?_ | refine RunE.skip ?_ | refine RunE.exit rfl ?_ | refine RunE.scope ?_ | refine RunE.inScope ?_ | refine RunE.label ?_)
      refine RunL.val rfl rfl rfl (OpV.loadN (cs := bytesV D) Tryd.tOk rfl rfl rfl (by rw [bytesV_length]; exact hdl) Gf.row) ?_
      refine RunL.store (v := .agg (bytesV D).toArray) Tryd.tOk rfl rfl rfl rfl (by simp [Value.cells, bytesV_length, hdl]) D0 (by simp [Value.cells, bytesV_length, hdl]) (by simp [Value.cells, bytesV_plain]) fun u2 t2 => ?_
      have X2 : Ext w u2 := X0.write t2.ext (by intro i hi hlt; subst hi; omega)
      have D2 : Blk u2 B2 (bytesV D) 30 := by
        have := t2.at_
        rw [show (Value.agg (bytesV D).toArray).cells.toList = bytesV D from rfl, setAt_all _ _ (by simp [bytesV_length, hdl])] at this
        exact this
      repeat (first | refine RunL.pureI Tryd.tOk rfl rfl rfl (by (first | exact wr_i64 (by omega) (by omega) | exact wm_i64 (by omega) | exact wq_i64 (by omega) (by omega) (by omega) | rfl)) ?_ | refine RunL.pure Tryd.tOk rfl rfl rfl ?_ | refine RunL.unwantedD rfl rfl ?_ | refine RunE.seq ?_ | refine RunE.region ?_ | refine RunL.nil ?_ | refine RunE.block ?_ | refine RunE.inBlock ?_ | refine RunE.skip ?_ | refine RunE.exit rfl ?_ | refine RunE.scope ?_ | refine RunE.inScope ?_ | refine RunE.label ?_)
      exact RunE.retFn Tryd.func51 (.cell rfl (.agg Tryd.tOk rfl rfl (by rw [bytesV_length]; exact hdl) D2.row) .nil) ⟨rfl, X2⟩
end Go.Sg
