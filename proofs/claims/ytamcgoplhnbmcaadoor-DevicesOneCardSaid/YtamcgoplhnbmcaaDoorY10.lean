/- Parts of this project that the claims share: Ref11V, Law11P, Const, DevG. -/
import Derived.Test.YtamcgoplhnbmcaaDoorY09
import Derived.Test.YtamcgoplhnbmcaaDoorY02
import Derived.Lib.SlBytesConst
set_option linter.unusedSimpArgs false
set_option linter.unusedVariables false
set_option linter.unusedSectionVars false
section
/- The walks of package signatoryref11: Verify. -/
namespace Go.Sg
open Go.Rn Go.NT Go.Sha Go.Cod Go.Proofs
attribute [local irreducible] Go.Rn.RunL Go.Rn.RunE Go.Rn.Asy Go.Rn.OpV Go.Rn.OpE Go.Rn.ExecE

set_option maxHeartbeats 2000000 in
theorem r11_verify_ok (key E S : Int) (v : Value) (b : List UInt8) (w : World) (hk : -9223372036854775808 ≤ key ∧ key < 9223372036854775808) (hE : -9223372036854775808 ≤ E ∧ E < 9223372036854775808) (hS : -9223372036854775808 ≤ S ∧ S < 9223372036854775808)
    (hv : IsSl w 1 v b.length (bytesV b)) (hb : b.length ≤ 800000) :
    Rets Tryd.prog 74 [.int .i64 key, v, .agg #[.int .i64 E, .int .i64 S]] w fun r w' => r = .bool (verS key b E S) ∧ Ext w w' := by
  refine RetsX.of (nt := 39) Tryd.func74 (by kernel_rfl) rfl rfl (by simp) (by simp only [argEnv]; rfl) ?_
  repeat (first | refine RunL.pureI Tryd.tOk rfl rfl rfl (by (first | exact wr_i64 (by omega) (by omega) | exact wm_i64 (by omega) | exact wq_i64 (by omega) (by omega) (by omega) | rfl)) ?_ | refine RunL.pure Tryd.tOk rfl rfl rfl ?_ | refine RunL.unwantedD rfl rfl ?_ | refine RunE.seq ?_ | refine RunE.region ?_ | refine RunL.nil ?_ | refine RunE.block ?_ | refine RunE.inBlock ?_ | refine RunE.skip ?_ | refine RunE.exit rfl ?_ | refine RunE.scope ?_ | refine RunE.inScope ?_ | refine RunE.label ?_)
  refine RunL.box rfl rfl rfl fun B5 w1 a1 => ?_
  have Z1 : Blk w1 B5 [.int .i64 E, .int .i64 S] 66 := a1.at_
  have X1 := a1.ext
  clear a1
  repeat (first | refine RunL.pureI Tryd.tOk rfl rfl rfl (by (first | exact wr_i64 (by omega) (by omega) | exact wm_i64 (by omega) | exact wq_i64 (by omega) (by omega) (by omega) | rfl)) ?_ | refine RunL.pure Tryd.tOk rfl rfl rfl ?_ | refine RunL.unwantedD rfl rfl ?_ | refine RunE.seq ?_ | refine RunE.region ?_ | refine RunL.nil ?_ | refine RunE.block ?_ | refine RunE.inBlock ?_ | refine RunE.skip ?_ | refine RunE.exit rfl ?_ | refine RunE.scope ?_ | refine RunE.inScope ?_ | refine RunE.label ?_)
  refine RunL.call rfl rfl rfl (r10_valid_ok key _) ?_
  rintro _ _ ⟨rfl, rfl⟩
  cases hvk : validS key with
  | false =>
    have hno : sigOk key E S = false := by unfold sigOk; rw [hvk, Bool.and_false]
    repeat (first | refine RunL.pureI Tryd.tOk rfl rfl rfl (by (first | exact wr_i64 (by omega) (by omega) | exact wm_i64 (by omega) | exact wq_i64 (by omega) (by omega) (by omega) | rfl)) ?_ | refine RunL.pure Tryd.tOk rfl rfl rfl ?_ | refine RunL.unwantedD rfl rfl ?_ | refine RunL.val rfl rfl rfl (OpV.indexAK Tryd.tOk rfl rfl rfl rfl) ?_ | refine RunL.val rfl rfl rfl (OpV.indexSK Tryd.tOk rfl rfl rfl rfl) ?_ | refine RunL.val rfl rfl rfl (OpV.load1 Tryd.tOk rfl rfl rfl (Blk.cell Z1 rfl)) ?_ | refine RunE.seq ?_ | refine RunE.region ?_ | refine RunL.nil ?_ | refine RunE.block ?_ | refine RunE.inBlock ?_ | refine RunE.skip ?_ | refine RunE.exit rfl ?_ | refine RunE.scope ?_ | refine RunE.inScope ?_ | refine RunE.label ?_)
    refine RunE.condT rfl rfl ?_
    repeat (first | refine RunL.pureI Tryd.tOk rfl rfl rfl (by (first | exact wr_i64 (by omega) (by omega) | exact wm_i64 (by omega) | exact wq_i64 (by omega) (by omega) (by omega) | rfl)) ?_ | refine RunL.pure Tryd.tOk rfl rfl rfl ?_ | refine RunL.unwantedD rfl rfl ?_ | refine RunE.seq ?_ | refine RunE.region ?_ | refine RunL.nil ?_ | refine RunE.block ?_ | refine RunE.inBlock ?_ | refine RunE.skip ?_ | refine RunE.exit rfl ?_ | refine RunE.scope ?_ | refine RunE.inScope ?_ | refine RunE.label ?_)
    refine RunE.retFn Tryd.func74 (.tmp rfl .nil) ⟨?_, X1⟩
    simp [oneOr, verS, hno]
  | true =>
    by_cases h1 : 0 ≤ E ∧ E < 1073741789 ∧ 0 ≤ S ∧ S < 1073741789
    · have hyes : sigOk key E S = true := by
        unfold sigOk; rw [hvk, decide_eq_true h1]; rfl
      have hver : verS key b E S = (E == chal (mulC (powC 4 S) (powC key (-E))) key b) := by unfold verS; rw [hyes]; rfl
      repeat (first | refine RunL.pureB Tryd.tOk _ rfl rfl rfl (by exact decide_eq_false (by omega)) ?_ | refine RunL.pureI Tryd.tOk rfl rfl rfl (by (first | exact wr_i64 (by omega) (by omega) | exact wm_i64 (by omega) | exact wq_i64 (by omega) (by omega) (by omega) | rfl)) ?_ | refine RunL.pure Tryd.tOk rfl rfl rfl ?_ | refine RunL.unwantedD rfl rfl ?_ | refine RunL.val rfl rfl rfl (OpV.indexAK Tryd.tOk rfl rfl rfl rfl) ?_ | refine RunL.val rfl rfl rfl (OpV.indexSK Tryd.tOk rfl rfl rfl rfl) ?_ | refine RunL.val rfl rfl rfl (OpV.load1 Tryd.tOk rfl rfl rfl (Blk.cell Z1 rfl)) ?_ | refine RunE.seq ?_ | refine RunE.region ?_ | refine RunL.nil ?_ | refine RunE.block ?_ | refine RunE.inBlock ?_ | refine RunE.skip ?_ | refine RunE.exit rfl ?_ | refine RunE.scope ?_ | refine RunE.inScope ?_ | refine RunE.label ?_)
      refine RunE.condF rfl rfl ?_
      repeat (first | refine RunL.pureI Tryd.tOk rfl rfl rfl (by (first | exact wr_i64 (by omega) (by omega) | exact wm_i64 (by omega) | exact wq_i64 (by omega) (by omega) (by omega) | rfl)) ?_ | refine RunL.pure Tryd.tOk rfl rfl rfl ?_ | refine RunL.unwantedD rfl rfl ?_ | refine RunE.seq ?_ | refine RunE.region ?_ | refine RunL.nil ?_ | refine RunE.block ?_ | refine RunE.inBlock ?_ | refine RunE.skip ?_ | refine RunE.exit rfl ?_ | refine RunE.scope ?_ | refine RunE.inScope ?_ | refine RunE.label ?_)
      refine RunE.draw (fun _ => False) mix ?_
      intro w2 X2
      have Z2 := Z1.ext X2 id
      repeat (first | refine Asy.pureI Tryd.tOk rfl rfl rfl (by (first | exact wr_i64 (by omega) (by omega) | exact wm_i64 (by omega) | exact wq_i64 (by omega) (by omega) (by omega) | rfl)) ?_ | refine Asy.pure Tryd.tOk rfl rfl rfl ?_ | refine Asy.unwantedD rfl rfl rfl ?_)
      refine Asy.v rfl rfl rfl rfl (fun w' X' => OpV.load1 Tryd.tOk rfl rfl rfl (Blk.cell (Z2.ext X' id) rfl)) ?_
      repeat (first | refine Asy.pureI Tryd.tOk rfl rfl rfl (by (first | exact wr_i64 (by omega) (by omega) | exact wm_i64 (by omega) | exact wq_i64 (by omega) (by omega) (by omega) | rfl)) ?_ | refine Asy.pure Tryd.tOk rfl rfl rfl ?_ | refine Asy.unwantedD rfl rfl rfl ?_)
      refine Asy.v rfl rfl rfl rfl (fun w' X' => OpV.loadN (cs := [.int .i64 E, .int .i64 S]) Tryd.tOk rfl rfl rfl rfl (Z2.ext X' id).row) ?_
      have hmb := mulC_bd (powC 4 S) (powC key (-E))
      have hp := fun w => r11_point_ok key E S w (by omega)
      generalize mulC (powC 4 S) (powC key (-E)) = R at *
      refine Asy.val rfl rfl rfl rfl (fun _ _ => OpE.call rfl (hp _)) ?_
      repeat (first | refine Asy.pureI Tryd.tOk rfl rfl rfl (by (first | exact wr_i64 (by omega) (by omega) | exact wm_i64 (by omega) | exact wq_i64 (by omega) (by omega) (by omega) | rfl)) ?_ | refine Asy.pure Tryd.tOk rfl rfl rfl ?_ | refine Asy.unwantedD rfl rfl rfl ?_)
      refine Asy.val rfl rfl rfl rfl (fun _ X' => OpE.call rfl (r11_hash_ok R key v b _ (by omega) hk (hv.extE ((X1.trans X2).trans X')) hb)) ?_
      repeat (first | refine Asy.pureI Tryd.tOk rfl rfl rfl (by (first | exact wr_i64 (by omega) (by omega) | exact wm_i64 (by omega) | exact wq_i64 (by omega) (by omega) (by omega) | rfl)) ?_ | refine Asy.pure Tryd.tOk rfl rfl rfl ?_ | refine Asy.unwantedD rfl rfl rfl ?_)
      refine Asy.tail (by kernel_rfl) ?_
      intro w3 X3
      simp only [satsAll]
      repeat (first | refine RunL.pureI Tryd.tOk rfl rfl rfl (by (first | exact wr_i64 (by omega) (by omega) | exact wm_i64 (by omega) | exact wq_i64 (by omega) (by omega) (by omega) | rfl)) ?_ | refine RunL.pure Tryd.tOk rfl rfl rfl ?_ | refine RunL.unwantedD rfl rfl ?_ | refine RunE.seq ?_ | refine RunE.region ?_ | refine RunL.nil ?_ | refine RunE.block ?_ | refine RunE.inBlock ?_ | refine RunE.skip ?_ | refine RunE.exit rfl ?_ | refine RunE.scope ?_ | refine RunE.inScope ?_ | refine RunE.label ?_)
      refine RunE.retFn Tryd.func74 (.tmp rfl .nil) ⟨?_, (X1.trans X2).trans X3⟩
      simp only [oneOr, hver]
    · have hno : sigOk key E S = false := by unfold sigOk; rw [decide_eq_false h1]; rfl
      by_cases h2 : E < 0
      · repeat (first | refine RunL.pureB Tryd.tOk _ rfl rfl rfl (by exact decide_eq_true h2) ?_ | refine RunL.pureI Tryd.tOk rfl rfl rfl (by (first | exact wr_i64 (by omega) (by omega) | exact wm_i64 (by omega) | exact wq_i64 (by omega) (by omega) (by omega) | rfl)) ?_ | refine RunL.pure Tryd.tOk rfl rfl rfl ?_ | refine RunL.unwantedD rfl rfl ?_ | refine RunL.val rfl rfl rfl (OpV.indexAK Tryd.tOk rfl rfl rfl rfl) ?_ | refine RunL.val rfl rfl rfl (OpV.indexSK Tryd.tOk rfl rfl rfl rfl) ?_ | refine RunL.val rfl rfl rfl (OpV.load1 Tryd.tOk rfl rfl rfl (Blk.cell Z1 rfl)) ?_ | refine RunE.seq ?_ | refine RunE.region ?_ | refine RunL.nil ?_ | refine RunE.block ?_ | refine RunE.inBlock ?_ | refine RunE.skip ?_ | refine RunE.exit rfl ?_ | refine RunE.scope ?_ | refine RunE.inScope ?_ | refine RunE.label ?_)
        refine RunE.condT rfl rfl ?_
        repeat (first | refine RunL.pureI Tryd.tOk rfl rfl rfl (by (first | exact wr_i64 (by omega) (by omega) | exact wm_i64 (by omega) | exact wq_i64 (by omega) (by omega) (by omega) | rfl)) ?_ | refine RunL.pure Tryd.tOk rfl rfl rfl ?_ | refine RunL.unwantedD rfl rfl ?_ | refine RunE.seq ?_ | refine RunE.region ?_ | refine RunL.nil ?_ | refine RunE.block ?_ | refine RunE.inBlock ?_ | refine RunE.skip ?_ | refine RunE.exit rfl ?_ | refine RunE.scope ?_ | refine RunE.inScope ?_ | refine RunE.label ?_)
        refine RunE.retFn Tryd.func74 (.tmp rfl .nil) ⟨?_, X1⟩
        simp [oneOr, verS, hno]
      by_cases h3 : 1073741789 ≤ E
      · repeat (first | refine RunL.pureB Tryd.tOk _ rfl rfl rfl (by exact decide_eq_false h2) ?_ | refine RunL.pureB Tryd.tOk _ rfl rfl rfl (by exact decide_eq_true h3) ?_ | refine RunL.pureI Tryd.tOk rfl rfl rfl (by (first | exact wr_i64 (by omega) (by omega) | exact wm_i64 (by omega) | exact wq_i64 (by omega) (by omega) (by omega) | rfl)) ?_ | refine RunL.pure Tryd.tOk rfl rfl rfl ?_ | refine RunL.unwantedD rfl rfl ?_ | refine RunL.val rfl rfl rfl (OpV.indexAK Tryd.tOk rfl rfl rfl rfl) ?_ | refine RunL.val rfl rfl rfl (OpV.indexSK Tryd.tOk rfl rfl rfl rfl) ?_ | refine RunL.val rfl rfl rfl (OpV.load1 Tryd.tOk rfl rfl rfl (Blk.cell Z1 rfl)) ?_ | refine RunE.seq ?_ | refine RunE.region ?_ | refine RunL.nil ?_ | refine RunE.block ?_ | refine RunE.inBlock ?_ | refine RunE.skip ?_ | refine RunE.exit rfl ?_ | refine RunE.scope ?_ | refine RunE.inScope ?_ | refine RunE.label ?_)
        refine RunE.condT rfl rfl ?_
        repeat (first | refine RunL.pureI Tryd.tOk rfl rfl rfl (by (first | exact wr_i64 (by omega) (by omega) | exact wm_i64 (by omega) | exact wq_i64 (by omega) (by omega) (by omega) | rfl)) ?_ | refine RunL.pure Tryd.tOk rfl rfl rfl ?_ | refine RunL.unwantedD rfl rfl ?_ | refine RunE.seq ?_ | refine RunE.region ?_ | refine RunL.nil ?_ | refine RunE.block ?_ | refine RunE.inBlock ?_ | refine RunE.skip ?_ | refine RunE.exit rfl ?_ | refine RunE.scope ?_ | refine RunE.inScope ?_ | refine RunE.label ?_)
        refine RunE.retFn Tryd.func74 (.tmp rfl .nil) ⟨?_, X1⟩
        simp [oneOr, verS, hno]
      by_cases h4 : S < 0
      · repeat (first | refine RunL.pureB Tryd.tOk _ rfl rfl rfl (by exact decide_eq_false h2) ?_ | refine RunL.pureB Tryd.tOk _ rfl rfl rfl (by exact decide_eq_false h3) ?_ | refine RunL.pureB Tryd.tOk _ rfl rfl rfl (by exact decide_eq_true h4) ?_ | refine RunL.pureI Tryd.tOk rfl rfl rfl (by (first | exact wr_i64 (by omega) (by omega) | exact wm_i64 (by omega) | exact wq_i64 (by omega) (by omega) (by omega) | rfl)) ?_ | refine RunL.pure Tryd.tOk rfl rfl rfl ?_ | refine RunL.unwantedD rfl rfl ?_ | refine RunL.val rfl rfl rfl (OpV.indexAK Tryd.tOk rfl rfl rfl rfl) ?_ | refine RunL.val rfl rfl rfl (OpV.indexSK Tryd.tOk rfl rfl rfl rfl) ?_ | refine RunL.val rfl rfl rfl (OpV.load1 Tryd.tOk rfl rfl rfl (Blk.cell Z1 rfl)) ?_ | refine RunE.seq ?_ | refine RunE.region ?_ | refine RunL.nil ?_ | refine RunE.block ?_ | refine RunE.inBlock ?_ | refine RunE.skip ?_ | refine RunE.exit rfl ?_ | refine RunE.scope ?_ | refine RunE.inScope ?_ | refine RunE.label ?_)
        refine RunE.condT rfl rfl ?_
        repeat (first | refine RunL.pureI Tryd.tOk rfl rfl rfl (by (first | exact wr_i64 (by omega) (by omega) | exact wm_i64 (by omega) | exact wq_i64 (by omega) (by omega) (by omega) | rfl)) ?_ | refine RunL.pure Tryd.tOk rfl rfl rfl ?_ | refine RunL.unwantedD rfl rfl ?_ | refine RunE.seq ?_ | refine RunE.region ?_ | refine RunL.nil ?_ | refine RunE.block ?_ | refine RunE.inBlock ?_ | refine RunE.skip ?_ | refine RunE.exit rfl ?_ | refine RunE.scope ?_ | refine RunE.inScope ?_ | refine RunE.label ?_)
        refine RunE.retFn Tryd.func74 (.tmp rfl .nil) ⟨?_, X1⟩
        simp [oneOr, verS, hno]
      · repeat (first | refine RunL.pureB Tryd.tOk _ rfl rfl rfl (by exact decide_eq_false h2) ?_ | refine RunL.pureB Tryd.tOk _ rfl rfl rfl (by exact decide_eq_false h3) ?_ | refine RunL.pureB Tryd.tOk _ rfl rfl rfl (by exact decide_eq_false h4) ?_ | refine RunL.pureB Tryd.tOk _ rfl rfl rfl (by exact decide_eq_true (by omega)) ?_ | refine RunL.pureI Tryd.tOk rfl rfl rfl (by (first | exact wr_i64 (by omega) (by omega) | exact wm_i64 (by omega) | exact wq_i64 (by omega) (by omega) (by omega) | rfl)) ?_ | refine RunL.pure Tryd.tOk rfl rfl rfl ?_ | refine RunL.unwantedD rfl rfl ?_ | refine RunL.val rfl rfl rfl (OpV.indexAK Tryd.tOk rfl rfl rfl rfl) ?_ | refine RunL.val rfl rfl rfl (OpV.indexSK Tryd.tOk rfl rfl rfl rfl) ?_ | refine RunL.val rfl rfl rfl (OpV.load1 Tryd.tOk rfl rfl rfl (Blk.cell Z1 rfl)) ?_ | refine RunE.seq ?_ | refine RunE.region ?_ | refine RunL.nil ?_ | refine RunE.block ?_ | refine RunE.inBlock ?_ | refine RunE.skip ?_ | refine RunE.exit rfl ?_ | refine RunE.scope ?_ | refine RunE.inScope ?_ | refine RunE.label ?_)
        refine RunE.condT rfl rfl ?_
        repeat (first | refine RunL.pureI Tryd.tOk rfl rfl rfl (by (first | exact wr_i64 (by omega) (by omega) | exact wm_i64 (by omega) | exact wq_i64 (by omega) (by omega) (by omega) | rfl)) ?_ | refine RunL.pure Tryd.tOk rfl rfl rfl ?_ | refine RunL.unwantedD rfl rfl ?_ | refine RunE.seq ?_ | refine RunE.region ?_ | refine RunL.nil ?_ | refine RunE.block ?_ | refine RunE.inBlock ?_ | refine RunE.skip ?_ | refine RunE.exit rfl ?_ | refine RunE.scope ?_ | refine RunE.inScope ?_ | refine RunE.label ?_)
        refine RunE.retFn Tryd.func74 (.tmp rfl .nil) ⟨?_, X1⟩
        simp [oneOr, verS, hno]
end Go.Sg
end
section
/- Chapter 11: plain. -/
namespace Go.Sg
open Go.Rn Go.NT Go.Sha Go.Cod Go.Proofs

theorem powC_congr (a : Int) {m n : Int} (h : m % 1073741789 = n % 1073741789) : powC a m = powC a n := by unfold powC; rw [h]
theorem sigE_bd (x : Int) (b : List UInt8) : 0 ≤ sigE x b ∧ sigE x b < 1073741789 := by
  unfold sigE; split
  · exact hashS_bd _ _
  · decide
theorem sigS_bd (x : Int) (b : List UInt8) : 0 ≤ sigS x b ∧ sigS x b < 1073741789 := by
  unfold sigS; split
  · exact ⟨Int.emod_nonneg _ (by decide), Int.emod_lt_of_pos _ (by decide)⟩
  · decide
theorem ver_sign {x : Int} (b : List UInt8) (hx : inQ x = true) : verS (powC 4 x) b (sigE x b) (sigS x b) = true := by
  have hv := powC_valid v4 x
  have hE := sigE_bd x b
  have hS := sigS_bd x b
  have hok : sigOk (powC 4 x) (sigE x b) (sigS x b) = true := by unfold sigOk; rw [hv, decide_eq_true ⟨hE.1, hE.2, hS.1, hS.2⟩]; rfl
  have hEe : sigE x b = chal (powC 4 (noncN x b)) (powC 4 x) b := by unfold sigE; rw [hx, if_pos rfl]
  have hSe : sigS x b = (noncN x b + sigE x b * x % 1073741789) % 1073741789 := by unfold sigS; rw [hx, if_pos rfl]
  have hpt : mulC (powC 4 (sigS x b)) (powC (powC 4 x) (-sigE x b)) = powC 4 (noncN x b) := by
    rw [powC_mul v4, powC_add v4]
    refine powC_congr 4 ?_
    rw [hSe, Int.mul_neg, Int.mul_comm x]
    generalize sigE x b * x = y
    omega
  unfold verS
  rw [hok, Bool.true_and, hpt, ← hEe]
  exact beq_self_eq_true _
theorem ver_key {key : Int} (b : List UInt8) (E S : Int) (h : validS key = false) : verS key b E S = false := by
  unfold verS sigOk; rw [h, Bool.and_false]; rfl
theorem ver_big (key : Int) (b : List UInt8) (E S : Int) (h : 1073741789 ≤ S) : verS key b E S = false := by
  unfold verS sigOk; rw [decide_eq_false (by omega)]; rfl

end Go.Sg
end
section
/- []byte("..") of a constant. -/
namespace Go.Rn
variable {P : Program} {w : World} {env : Env} {dst : Option Tmp} {ty : TypeId} {pos : String} {after : Array Edge} {guard : Option (Nat × Bool)}
theorem row_cells {b : Nat} {cs : List Value} {t : TypeId} {fz : Nat × Nat} (h : w.heap[b]? = some (.cells cs.toArray t fz)) : Row w b 0 cs := fun i v hv => by
  simp [World.cell?, h, hv]
theorem OpE.bytesC {T : Tab} (hT : T.Ok P) {t e : TypeId} {ag : Bool} {s bb s2 bb2 : Nat} {z z2 : List Value} {a u a2 u2 : Bool} {x : Operand} {B n c : Nat} {cs : List Value} {bt : TypeId}
    (ht : T.get t = some ⟨.slc 1 ag e, s, bb, z, a, u⟩) (he : T.get e = some ⟨.int .u8, s2, bb2, z2, a2, u2⟩) (hx : evO env x = some (.slice (some ⟨B, 0, none⟩) n c)) (hb : Blk w B cs bt) :
    OpE P env w ⟨dst, .convert t t x, ty, pos, after, guard⟩ (fun v w' => v = .slice (some ⟨B, 0, none⟩) n c ∧ Turned w w' B (.cells cs.toArray bt (cs.length, cs.length + 1))) fun _ _ => False := by
  obtain ⟨hu, -⟩ := TD.of_slc (TI.tdof (hT.get _ _ ht)).symm
  have hue := TD.of_int (TI.tdof (hT.get _ _ he)).symm
  refine .of_run (w' := World.setObj w B (.cells cs.toArray bt (cs.length, cs.length + 1))) (v := .slice (some ⟨B, 0, none⟩) n c) ⟨rfl, turned_set w hb.lt _⟩ fun ρ hρ => ⟨_, by simp only [execOp, hρ _ _ hx] <;> rfl, ?_⟩
  have hsh : w.shape? B = some (bt, cs.length) := by
    unfold World.shape?
    rw [show w.heap[B]? = some (.cells cs.toArray bt (0, 0)) from hb]; simp
  have hfr : w.freeze ⟨B, cs.length, none⟩ 1 = World.setObj w B (.cells cs.toArray bt (cs.length, cs.length + 1)) := by
    unfold World.freeze World.setObj
    rw [if_neg (by decide)]
    have hm : ∀ (f : Obj → Obj) (y : Obj), f (.cells cs.toArray bt (0, 0)) = y → w.heap.modify B f = w.heap.setIfInBounds B y := by
      intro f y hy
      have hB := hb.lt
      have hg : w.heap[B] = .cells cs.toArray bt (0, 0) := by
        have : w.heap[B]? = some _ := hb
        rw [Array.getElem?_eq_getElem hB] at this; injection this
      apply Array.ext
      · simp
      · intro i h1 h2
        simp only [Array.getElem_modify, Array.getElem_setIfInBounds]
        by_cases h : B = i
        · subst h; simp [hg, hy]
        · simp only [h, if_false]
          rw [Array.getElem_setIfInBounds_ne _ h]
    rw [hm _ _ (by rfl)]
    rfl
  simp [convert, run_underlying hu, run_underlying hue, markStringish, hsh]
  exact hfr
end Go.Rn
end
section
/- Devices: sane. -/
namespace Go.Sg
open Go.Rn Go.Proofs Go.Dev Go.Rec Go.Best Go.Sha Go.NT
def textB : List UInt8 := [116, 101, 120, 116]
abbrev LI (w : World) (v : Value) (l : List Int) : Prop := IsL w intC 1 v l
attribute [local irreducible] Go.Rn.RetsX Go.Rn.RunLN Go.Rn.AsyN Go.Rn.RunL Go.Rn.RunE Go.Rn.Asy Go.Rn.OpV Go.Rn.OpE Go.Rn.ExecE
theorem okD_exl : ∀ x ∈ exl, -9223372036854775808 ≤ x.key ∧ x.key < 9223372036854775808 := by decide
theorem sgn48 (v : Value) (w : World) (hv : IsSl w 1 v textB.length (bytesV textB)) (hS : Row w 0 0 (vals init8.l)) (hkT : Row w 1 0 (vals kTab)) :
    Rets Tryd.prog 44 [.int .i64 2, v] w fun r w' => r = .tuple #[.agg #[.int .i64 (sigE 2 textB), .int .i64 (sigS 2 textB)], .int .i64 0] ∧ Ext w w' := by
  have := sign_ok 2 v textB w (by decide) hv (by decide) hS hkT
  rwa [show sigR 2 = 0 by decide] at this
theorem acc48 {l : List Dev} {t : Int} {o : Option Dev} {a : Int × Bool} (h : curE l 0 t 0 = 0 ∧ curD l 0 t 0 = o) (ha : accD o textB (sigE 2 textB) (sigS 2 textB) = a) (v m : Value) (w : World) (hv : LD w v l) (hl : l.length < 9223372036854775808) (hc : chkD l = 0) (hk : ∀ x ∈ l, -9223372036854775808 ≤ x.key ∧ x.key < 9223372036854775808)
    (hm : IsSl w 1 m textB.length (bytesV textB)) (hS : Row w 0 0 (vals init8.l)) (hkT : Row w 1 0 (vals kTab)) :
    Rets Tryd.prog 39 [v, .int .i64 0, m, .agg #[.int .i64 (sigE 2 textB), .int .i64 (sigS 2 textB)], .int .i64 t, .int .i64 0] w fun r w' => r = .tuple #[.int .i64 a.1, .bool a.2, .int .i64 0] ∧ Ext w w' := by
  have b1 := sigE_bd 2 textB
  have b2 := sigS_bd 2 textB
  have := dAccepts_ok l v m textB (sigE 2 textB) (sigS 2 textB) 0 t 0 w hv hl (fun _ => (chkD_srt hc).1) hk (by omega) (by omega) hm (by decide) hS hkT
  rwa [h.1, h.2, ha] at this
theorem accD_some (x : Dev) (b : List UInt8) (E S : Int) (h : verS x.key b E S = true) : accD (some x) b E S = (x.no, true) := by
  unfold accD; simp only; rw [if_pos h]
theorem acc_yes : accD (some exb) textB (sigE 2 textB) (sigS 2 textB) = (4, true) := by
  have := ver_sign textB (x := 2) (by decide)
  rw [p42] at this
  generalize sigE 2 textB = E at *
  generalize sigS 2 textB = S at *
  exact accD_some exb textB E S this
theorem acc_no : accD none textB (sigE 2 textB) (sigS 2 textB) = (0, false) := by
  generalize sigE 2 textB = E
  generalize sigS 2 textB = S
  rfl
set_option maxRecDepth 4000 in
set_option maxHeartbeats 8000000 in
theorem l48_sane_ok (w : World) (hS : Row w 0 0 (vals init8.l)) (hT : Row w 1 0 (vals kTab)) : Rets Tryd.prog 30 [] w fun r w' => r = .bool true ∧ Ext w w' := by
  have cs := sgn48
  have ca := fun v m w hv hm h1 h2 => acc48 xx6 acc_yes v m w hv (by decide) xx12 okD_exl hm h1 h2
  have cb := fun v m w hv hm h1 h2 => acc48 xx7 acc_no v m w hv (by decide) xx12 okD_exl hm h1 h2
  generalize sigE 2 textB = e2 at cs ca cb
  generalize sigS 2 textB = s2 at cs ca cb
  refine RetsX.of (nt := 167) Tryd.func30 (by kernel_rfl) rfl rfl (by simp) (by simp only [argEnv]; rfl) ?_
  have X := ExtB.refl (fun _ => False) w
  repeat' (first | with_reducible refine RunLN.boolF rfl ?_ | refine RunLN.any ?_ | refine RunL.ev Tryd.tOk rfl rfl rfl ?_ | refine RunE.seq ?_ | refine RunE.region ?_ | refine RunL.nil ?_)
  refine RunL.ex rfl rfl rfl (OpE.buildSl Tryd.tOk [.agg exa.cells.toArray, .agg exb.cells.toArray] rfl rfl rfl rfl rfl rfl (by simp [Value.cells])) ?_
  rintro _ w_ ⟨B_, rfl, a_⟩
  have h1 : LD w_ (.slice (some ⟨B_, 0, none⟩) 2 2) exl := (isSl_added (n := 2) (sz := 6) a_ rfl)
  replace X := X.trans a_.ext
  clear a_
  repeat' (first | refine RunLN.any ?_ | refine RunL.ev Tryd.tOk rfl rfl rfl ?_ | refine RunE.seq ?_ | refine RunE.region ?_ | refine RunL.nil ?_)
  refine RunL.call rfl rfl rfl (dadd_at xx1 _ _ h1 (by decide)) ?_
  rintro _ _ ⟨⟨u2, rfl, h2⟩, Xa_⟩
  replace h1 := h1.up Xa_
  replace X := X.trans Xa_
  clear Xa_
  repeat' (first | refine RunLN.int (by (first | exact wr_i64 (by omega) (by omega) | exact wm_i64 (by omega) | exact wq_i64 (by omega) (by omega) (by omega) | rfl)) ?_ | refine RunLN.any ?_ | refine RunL.ev Tryd.tOk rfl rfl rfl ?_ | refine RunE.seq ?_ | refine RunE.region ?_ | refine RunL.nil ?_)
  refine RunL.call rfl rfl rfl (dadd_e xx2 _ _ h1 (by decide)) ?_
  rintro _ _ ⟨⟨u3, rfl⟩, Xa_⟩
  replace h1 := h1.up Xa_
  replace h2 := h2.up Xa_
  replace X := X.trans Xa_
  clear Xa_
  repeat' (first | refine RunLN.int (by (first | exact wr_i64 (by omega) (by omega) | exact wm_i64 (by omega) | exact wq_i64 (by omega) (by omega) (by omega) | rfl)) ?_ | refine RunLN.any ?_ | refine RunL.ev Tryd.tOk rfl rfl rfl ?_ | refine RunE.seq ?_ | refine RunE.region ?_ | refine RunL.nil ?_)
  refine RunL.call rfl rfl rfl (dadd_e xx3 _ _ h1 (by decide)) ?_
  rintro _ _ ⟨⟨u4, rfl⟩, Xa_⟩
  replace h1 := h1.up Xa_
  replace h2 := h2.up Xa_
  replace X := X.trans Xa_
  clear Xa_
  repeat' (first | refine RunLN.int (by (first | exact wr_i64 (by omega) (by omega) | exact wm_i64 (by omega) | exact wq_i64 (by omega) (by omega) (by omega) | rfl)) ?_ | refine RunLN.any ?_ | refine RunL.ev Tryd.tOk rfl rfl rfl ?_ | refine RunE.seq ?_ | refine RunE.region ?_ | refine RunL.nil ?_)
  refine RunL.call rfl rfl rfl (dadd_e xx4 _ _ h1 (by decide)) ?_
  rintro _ _ ⟨⟨u5, rfl⟩, Xa_⟩
  replace h1 := h1.up Xa_
  replace h2 := h2.up Xa_
  replace X := X.trans Xa_
  clear Xa_
  repeat' (first | refine RunLN.int (by (first | exact wr_i64 (by omega) (by omega) | exact wm_i64 (by omega) | exact wq_i64 (by omega) (by omega) (by omega) | rfl)) ?_ | refine RunLN.any ?_ | refine RunL.ev Tryd.tOk rfl rfl rfl ?_ | refine RunE.seq ?_ | refine RunE.region ?_ | refine RunL.nil ?_)
  refine RunL.call rfl rfl rfl (dcur_at xx5 _ _ IsSl.nil (by decide)) ?_
  rintro _ _ ⟨rfl, Xa_⟩
  replace h1 := h1.up Xa_
  replace h2 := h2.up Xa_
  replace X := X.trans Xa_
  clear Xa_
  repeat' (first | with_reducible refine RunLN.boolF rfl ?_ | refine RunLN.int (by (first | exact wr_i64 (by omega) (by omega) | exact wm_i64 (by omega) | exact wq_i64 (by omega) (by omega) (by omega) | rfl)) ?_ | refine RunLN.any ?_ | refine RunL.ev Tryd.tOk rfl rfl rfl ?_ | refine RunE.seq ?_ | refine RunE.region ?_ | refine RunL.nil ?_)
  refine RunL.ex rfl rfl rfl (OpE.buildSl Tryd.tOk (bytesV textB) rfl rfl rfl rfl rfl rfl (by simp [Value.cells, bytesV])) ?_
  rintro _ wa ⟨B, rfl, aa⟩
  have ZB : Blk wa B (bytesV textB) 5 := aa.at_
  have hBe := aa.eq
  refine RunL.ex rfl rfl rfl (OpE.bytesC Tryd.tOk rfl rfl rfl ZB) ?_
  rintro _ wb ⟨rfl, tb⟩
  have Xa_ : Ext _ wb := aa.ext.write tb.ext (by intro i hi hlt; subst hi; omega)
  have g1 : IsSl wb 1 (.slice (some ⟨B, 0, none⟩) 4 4) textB.length (bytesV textB) := .row (row_cells tb.at_) rfl (Nat.le_refl _)
  replace h1 := h1.up Xa_
  replace h2 := h2.up Xa_
  replace X := X.trans Xa_
  clear Xa_ aa tb ZB hBe
  skip
  refine RunL.call rfl rfl rfl (cs _ _ g1 (hS.up X) (hT.up X)) ?_
  rintro _ _ ⟨rfl, Xa_⟩
  replace h1 := h1.up Xa_
  replace h2 := h2.up Xa_
  replace X := X.trans Xa_
  clear Xa_
  repeat' (first | refine RunLN.int (by (first | exact wr_i64 (by omega) (by omega) | exact wm_i64 (by omega) | exact wq_i64 (by omega) (by omega) (by omega) | rfl)) ?_ | refine RunLN.any ?_ | refine RunL.ev Tryd.tOk rfl rfl rfl ?_)
  refine RunL.alloc Tryd.tOk rfl rfl rfl fun B14 w14 a14 => ?_
  have e14 := a14.eq
  have g14 := a14.ge X
  refine RunL.store Tryd.tOk rfl rfl rfl rfl rfl (cs := [.int .i64 0, .int .i64 0]) a14.at_ rfl rfl fun w15 t14 => ?_
  have Xa_ : Ext _ w15 := a14.ext.write t14.ext (by intro i hi hlt; subst hi; omega)
  have Z14 : Blk w15 B14 [.int .i64 e2, .int .i64 s2] 66 := t14.at_
  replace h1 := h1.up Xa_
  replace h2 := h2.up Xa_
  replace X := X.trans Xa_
  clear Xa_ a14 t14 e14 g14
  repeat' (first | refine RunLN.int (by (first | exact wr_i64 (by omega) (by omega) | exact wm_i64 (by omega) | exact wq_i64 (by omega) (by omega) (by omega) | rfl)) ?_ | refine RunLN.any ?_ | refine RunL.ev Tryd.tOk rfl rfl rfl ?_ | refine RunE.seq ?_ | refine RunE.region ?_ | refine RunL.nil ?_)
  refine RunL.ex rfl rfl rfl (OpE.buildSl Tryd.tOk (bytesV textB) rfl rfl rfl rfl rfl rfl (by simp [Value.cells, bytesV])) ?_
  rintro _ wa ⟨B, rfl, aa⟩
  have ZB : Blk wa B (bytesV textB) 5 := aa.at_
  have hBe := aa.eq
  refine RunL.ex rfl rfl rfl (OpE.bytesC Tryd.tOk rfl rfl rfl ZB) ?_
  rintro _ wb ⟨rfl, tb⟩
  have Xa_ : Ext _ wb := aa.ext.write tb.ext (by intro i hi hlt; subst hi; omega)
  have g2 : IsSl wb 1 (.slice (some ⟨B, 0, none⟩) 4 4) textB.length (bytesV textB) := .row (row_cells tb.at_) rfl (Nat.le_refl _)
  replace h1 := h1.up Xa_
  replace h2 := h2.up Xa_
  replace Z14 := Z14.up Xa_
  replace X := X.trans Xa_
  clear Xa_ aa tb ZB hBe
  repeat' (first | refine RunLN.any ?_ | refine RunL.evV rfl rfl rfl (OpV.loadN Tryd.tOk rfl rfl rfl rfl (Blk.row Z14)) ?_)
  refine RunL.call rfl rfl rfl (ca _ _ _ h1 g2 (hS.up X) (hT.up X)) ?_
  rintro _ _ ⟨rfl, Xa_⟩
  replace h1 := h1.up Xa_
  replace h2 := h2.up Xa_
  replace Z14 := Z14.up Xa_
  replace X := X.trans Xa_
  clear Xa_
  repeat' (first | with_reducible refine RunLN.boolT rfl ?_ | refine RunLN.int (by (first | exact wr_i64 (by omega) (by omega) | exact wm_i64 (by omega) | exact wq_i64 (by omega) (by omega) (by omega) | rfl)) ?_ | refine RunLN.any ?_ | refine RunL.ev Tryd.tOk rfl rfl rfl ?_ | refine RunE.seq ?_ | refine RunE.region ?_ | refine RunL.nil ?_)
  refine RunL.ex rfl rfl rfl (OpE.buildSl Tryd.tOk (bytesV textB) rfl rfl rfl rfl rfl rfl (by simp [Value.cells, bytesV])) ?_
  rintro _ wa ⟨B, rfl, aa⟩
  have ZB : Blk wa B (bytesV textB) 5 := aa.at_
  have hBe := aa.eq
  refine RunL.ex rfl rfl rfl (OpE.bytesC Tryd.tOk rfl rfl rfl ZB) ?_
  rintro _ wb ⟨rfl, tb⟩
  have Xa_ : Ext _ wb := aa.ext.write tb.ext (by intro i hi hlt; subst hi; omega)
  have g3 : IsSl wb 1 (.slice (some ⟨B, 0, none⟩) 4 4) textB.length (bytesV textB) := .row (row_cells tb.at_) rfl (Nat.le_refl _)
  replace h1 := h1.up Xa_
  replace h2 := h2.up Xa_
  replace Z14 := Z14.up Xa_
  replace X := X.trans Xa_
  clear Xa_ aa tb ZB hBe
  repeat' (first | refine RunLN.any ?_ | refine RunL.evV rfl rfl rfl (OpV.loadN Tryd.tOk rfl rfl rfl rfl (Blk.row Z14)) ?_)
  refine RunL.call rfl rfl rfl (cb _ _ _ h1 g3 (hS.up X) (hT.up X)) ?_
  rintro _ _ ⟨rfl, Xa_⟩
  replace h1 := h1.up Xa_
  replace h2 := h2.up Xa_
  replace X := X.trans Xa_
  clear Xa_
  repeat' (first | with_reducible refine RunLN.boolT rfl ?_ | with_reducible refine RunLN.boolF rfl ?_ | refine RunLN.int (by (first | exact wr_i64 (by omega) (by omega) | exact wm_i64 (by omega) | exact wq_i64 (by omega) (by omega) (by omega) | rfl)) ?_ | refine RunLN.any ?_ | refine RunL.ev Tryd.tOk rfl rfl rfl ?_ | refine RunL.evV rfl rfl rfl (OpV.lenSl Tryd.tOk rfl rfl h2) ?_ | refine RunE.condF rfl rfl ?_ | refine RunE.seq ?_ | refine RunE.region ?_ | refine RunL.nil ?_ | refine RunE.skip ?_)
  refine RunL.call rfl rfl rfl (is48_no xx11 _ _ IsSl.nil (by decide)) ?_
  rintro _ _ ⟨rfl, Xa_⟩
  replace h1 := h1.up Xa_
  replace h2 := h2.up Xa_
  replace X := X.trans Xa_
  clear Xa_
  repeat' (first | with_reducible refine RunLN.boolT rfl ?_ | refine RunLN.any ?_ | refine RunL.ev Tryd.tOk rfl rfl rfl ?_)
  refine RunL.call rfl rfl rfl (is48_no xx7 _ _ h1 (by decide)) ?_
  rintro _ _ ⟨rfl, Xa_⟩
  replace h1 := h1.up Xa_
  replace h2 := h2.up Xa_
  replace X := X.trans Xa_
  clear Xa_
  repeat' (first | with_reducible refine RunLN.boolT rfl ?_ | refine RunLN.any ?_ | refine RunL.ev Tryd.tOk rfl rfl rfl ?_)
  refine RunL.ex rfl rfl rfl (OpE.buildSl Tryd.tOk [.int .i64 3, .int .i64 4] rfl rfl rfl rfl rfl rfl (by simp [Value.cells])) ?_
  rintro _ w_ ⟨B_, rfl, a_⟩
  have k1 : LI w_ (.slice (some ⟨B_, 0, none⟩) 2 2) [exa.no, exa.key] := (isSl_added (n := 2) (sz := 1) a_ rfl)
  replace h1 := h1.up a_.ext
  replace h2 := h2.up a_.ext
  replace X := X.trans a_.ext
  clear a_
  skip
  refine RunL.call rfl rfl rfl (is48_yes xx8 _ _ _ h1 (by decide) k1) ?_
  rintro _ _ ⟨rfl, Xa_⟩
  replace h1 := h1.up Xa_
  replace h2 := h2.up Xa_
  replace X := X.trans Xa_
  clear Xa_
  repeat' (first | with_reducible refine RunLN.boolT rfl ?_ | refine RunLN.any ?_ | refine RunL.ev Tryd.tOk rfl rfl rfl ?_)
  refine RunL.ex rfl rfl rfl (OpE.buildSl Tryd.tOk [.int .i64 4, .int .i64 16] rfl rfl rfl rfl rfl rfl (by simp [Value.cells])) ?_
  rintro _ w_ ⟨B_, rfl, a_⟩
  have k2 : LI w_ (.slice (some ⟨B_, 0, none⟩) 2 2) [exb.no, exb.key] := (isSl_added (n := 2) (sz := 1) a_ rfl)
  replace h1 := h1.up a_.ext
  replace h2 := h2.up a_.ext
  replace X := X.trans a_.ext
  clear a_
  skip
  refine RunL.call rfl rfl rfl (is48_yes xx6 _ _ _ h1 (by decide) k2) ?_
  rintro _ _ ⟨rfl, Xa_⟩
  replace h1 := h1.up Xa_
  replace h2 := h2.up Xa_
  replace X := X.trans Xa_
  clear Xa_
  repeat' (first | with_reducible refine RunLN.boolT rfl ?_ | refine RunLN.any ?_ | refine RunL.ev Tryd.tOk rfl rfl rfl ?_)
  refine RunL.ex rfl rfl rfl (OpE.buildSl Tryd.tOk [.int .i64 4, .int .i64 16] rfl rfl rfl rfl rfl rfl (by simp [Value.cells])) ?_
  rintro _ w_ ⟨B_, rfl, a_⟩
  have k3 : LI w_ (.slice (some ⟨B_, 0, none⟩) 2 2) [exb.no, exb.key] := (isSl_added (n := 2) (sz := 1) a_ rfl)
  replace h1 := h1.up a_.ext
  replace h2 := h2.up a_.ext
  replace X := X.trans a_.ext
  clear a_
  skip
  refine RunL.call rfl rfl rfl (is48_yes xx9 _ _ _ h2 (by decide) k3) ?_
  rintro _ _ ⟨rfl, Xa_⟩
  replace h1 := h1.up Xa_
  replace h2 := h2.up Xa_
  replace X := X.trans Xa_
  clear Xa_
  repeat' (first | with_reducible refine RunLN.boolT rfl ?_ | refine RunLN.any ?_ | refine RunL.ev Tryd.tOk rfl rfl rfl ?_)
  refine RunL.call rfl rfl rfl (is48_no xx10 _ _ h2 (by decide)) ?_
  rintro _ _ ⟨rfl, Xa_⟩
  replace h1 := h1.up Xa_
  replace X := X.trans Xa_
  clear Xa_
  repeat' (first | with_reducible refine RunLN.boolT rfl ?_ | refine RunLN.any ?_ | refine RunL.ev Tryd.tOk rfl rfl rfl ?_)
  refine RunL.call rfl rfl rfl (dcheck_at xx12 _ _ h1 (by decide)) ?_
  rintro _ _ ⟨rfl, Xa_⟩
  replace X := X.trans Xa_
  clear Xa_
  repeat' (first | with_reducible refine RunLN.boolT rfl ?_ | refine RunLN.any ?_ | refine RunL.ev Tryd.tOk rfl rfl rfl ?_)
  refine RunL.ex rfl rfl rfl (OpE.buildSl Tryd.tOk [.agg (Dev.cells ⟨0, 0, 0, 0, 1, false⟩).toArray] rfl rfl rfl rfl rfl rfl (by simp [Value.cells])) ?_
  rintro _ w_ ⟨B_, rfl, a_⟩
  have h3 : LD w_ (.slice (some ⟨B_, 0, none⟩) 1 1) [⟨0, 0, 0, 0, 1, false⟩] := (isSl_added (n := 1) (sz := 6) a_ rfl)
  replace X := X.trans a_.ext
  clear a_
  skip
  refine RunL.call rfl rfl rfl (dcheck_at xx13 _ _ h3 (by decide)) ?_
  rintro _ _ ⟨rfl, Xa_⟩
  replace X := X.trans Xa_
  clear Xa_
  repeat' (first | with_reducible refine RunLN.boolT rfl ?_ | refine RunLN.any ?_ | refine RunL.ev Tryd.tOk rfl rfl rfl ?_)
  refine RunL.ex rfl rfl rfl (OpE.buildSl Tryd.tOk [.agg (Dev.cells ⟨0, 0, 0, 0, 4, false⟩).toArray, .agg (Dev.cells ⟨1, 0, 0, 1, 4, false⟩).toArray] rfl rfl rfl rfl rfl rfl (by simp [Value.cells])) ?_
  rintro _ w_ ⟨B_, rfl, a_⟩
  have h4 : LD w_ (.slice (some ⟨B_, 0, none⟩) 2 2) [⟨0, 0, 0, 0, 4, false⟩, ⟨1, 0, 0, 1, 4, false⟩] := (isSl_added (n := 2) (sz := 6) a_ rfl)
  replace X := X.trans a_.ext
  clear a_
  skip
  refine RunL.call rfl rfl rfl (dcheck_at xx14 _ _ h4 (by decide)) ?_
  rintro _ _ ⟨rfl, Xa_⟩
  replace X := X.trans Xa_
  clear Xa_
  repeat' (first | with_reducible refine RunLN.boolT rfl ?_ | refine RunL.ev Tryd.tOk rfl rfl rfl ?_ | refine RunL.nil ?_)
  exact RunE.retFn Tryd.func30 (.tmp rfl .nil) ⟨rfl, X⟩
end Go.Sg
end
