/- The walks of package signatoryref11. -/
import Derived.Test.YtbjmdklcbknlpaaDoorSign3
import Derived.Test.YtbjmdklcbknlpaaDoorRef10
namespace Go.Sg
open Go.Rn Go.NT Go.Sha Go.Cod Go.Proofs
attribute [local irreducible] Go.Rn.RunL Go.Rn.RunE Go.Rn.Asy Go.Rn.OpV Go.Rn.OpE Go.Rn.ExecE

theorem r11_mod_ok (n : Int) (w : World) : Rets Tryd.prog 26 [.int .i64 n] w fun v w' => v = .int .i64 (n % 1073741789) ∧ w = w' := by
  have h1 := tmod_cases n 1073741789 (by decide)
  refine RetsX.of (nt := 10) Tryd.func26 (by kernel_rfl) rfl rfl (by simp) (by simp only [argEnv]; rfl) ?_
  repeat (first | refine RunL.pureI Tryd.tOk rfl rfl rfl (by (first | exact wr_i64 (by omega) (by omega) | exact wm_i64 (by omega) | exact wq_i64 (by omega) (by omega) (by omega) | rfl)) ?_ | refine RunL.pure Tryd.tOk rfl rfl rfl ?_ | refine RunL.unwantedD rfl rfl ?_ | refine RunE.seq ?_ | refine RunE.region ?_ | refine RunL.nil ?_ | refine RunE.block ?_ | refine RunE.inBlock ?_ | refine RunE.skip ?_ | refine RunE.exit rfl ?_ | refine RunE.scope ?_ | refine RunE.inScope ?_ | refine RunE.label ?_)
  refine RunE.cond rfl (fun h => ?_) (fun h => ?_) <;> (first | replace h := of_decide_eq_true h | replace h := of_decide_eq_false h | replace h := beq_iff_eq.1 h | replace h := beq_eq_false_iff_ne.1 h | replace h := bne_iff_ne.1 h | replace h := bne_eq_false_iff_eq.1 h | skip)
  · repeat (first | refine RunL.pureI Tryd.tOk rfl rfl rfl (by (first | exact wr_i64 (by omega) (by omega) | exact wm_i64 (by omega) | exact wq_i64 (by omega) (by omega) (by omega) | rfl)) ?_ | refine RunL.pure Tryd.tOk rfl rfl rfl ?_ | refine RunL.unwantedD rfl rfl ?_ | refine RunE.seq ?_ | refine RunE.region ?_ | refine RunL.nil ?_ | refine RunE.block ?_ | refine RunE.inBlock ?_ | refine RunE.skip ?_ | refine RunE.exit rfl ?_ | refine RunE.scope ?_ | refine RunE.inScope ?_ | refine RunE.label ?_)
    refine RunE.retFn Tryd.func26 (.tmp rfl .nil) ⟨?_, rfl⟩
    simp only [oneOr]
    congr 1; omega
  · repeat (first | refine RunL.pureI Tryd.tOk rfl rfl rfl (by (first | exact wr_i64 (by omega) (by omega) | exact wm_i64 (by omega) | exact wq_i64 (by omega) (by omega) (by omega) | rfl)) ?_ | refine RunL.pure Tryd.tOk rfl rfl rfl ?_ | refine RunL.unwantedD rfl rfl ?_ | refine RunE.seq ?_ | refine RunE.region ?_ | refine RunL.nil ?_ | refine RunE.block ?_ | refine RunE.inBlock ?_ | refine RunE.skip ?_ | refine RunE.exit rfl ?_ | refine RunE.scope ?_ | refine RunE.inScope ?_ | refine RunE.label ?_)
    refine RunE.retFn Tryd.func26 (.tmp rfl .nil) ⟨?_, rfl⟩
    simp only [oneOr]
    congr 1; omega
theorem q_bd (n : Int) : 0 ≤ n % 1073741789 ∧ n % 1073741789 < 1073741789 := ⟨Int.emod_nonneg _ (by decide), Int.emod_lt_of_pos _ (by decide)⟩
theorem r11_times_ok (a n : Int) (w : World) : Rets Tryd.prog 43 [.int .i64 a, .int .i64 n] w fun v w' => v = .int .i64 ((a % 1073741789) * (n % 1073741789) % 1073741789) ∧ w = w' := by
  have h1 := q_bd a
  have h2 := q_bd n
  have hm := mul_bd30 (i := a % 1073741789) (k := n % 1073741789) (by omega) (by omega)
  refine RetsX.of (nt := 11) Tryd.func43 (by kernel_rfl) rfl rfl (by simp) (by simp only [argEnv]; rfl) ?_
  repeat (first | refine RunL.pureI Tryd.tOk rfl rfl rfl (by (first | exact wr_i64 (by omega) (by omega) | exact wm_i64 (by omega) | exact wq_i64 (by omega) (by omega) (by omega) | rfl)) ?_ | refine RunL.pure Tryd.tOk rfl rfl rfl ?_ | refine RunL.unwantedD rfl rfl ?_ | refine RunE.seq ?_ | refine RunE.region ?_ | refine RunL.nil ?_ | refine RunE.block ?_ | refine RunE.inBlock ?_ | refine RunE.skip ?_ | refine RunE.exit rfl ?_ | refine RunE.scope ?_ | refine RunE.inScope ?_ | refine RunE.label ?_)
  refine RunL.call rfl rfl rfl (r11_mod_ok a _) ?_
  rintro _ _ ⟨rfl, rfl⟩
  repeat (first | refine RunL.pureI Tryd.tOk rfl rfl rfl (by (first | exact wr_i64 (by omega) (by omega) | exact wm_i64 (by omega) | exact wq_i64 (by omega) (by omega) (by omega) | rfl)) ?_ | refine RunL.pure Tryd.tOk rfl rfl rfl ?_ | refine RunL.unwantedD rfl rfl ?_ | refine RunE.seq ?_ | refine RunE.region ?_ | refine RunL.nil ?_ | refine RunE.block ?_ | refine RunE.inBlock ?_ | refine RunE.skip ?_ | refine RunE.exit rfl ?_ | refine RunE.scope ?_ | refine RunE.inScope ?_ | refine RunE.label ?_)
  refine RunL.call rfl rfl rfl (r11_mod_ok n _) ?_
  rintro _ _ ⟨rfl, rfl⟩
  repeat (first | refine RunL.pureI Tryd.tOk rfl rfl rfl (by (first | exact wr_i64 (by omega) (by omega) | exact wm_i64 (by omega) | exact wq_i64 (by omega) (by omega) (by omega) | rfl)) ?_ | refine RunL.pure Tryd.tOk rfl rfl rfl ?_ | refine RunL.unwantedD rfl rfl ?_ | refine RunE.seq ?_ | refine RunE.region ?_ | refine RunL.nil ?_ | refine RunE.block ?_ | refine RunE.inBlock ?_ | refine RunE.skip ?_ | refine RunE.exit rfl ?_ | refine RunE.scope ?_ | refine RunE.inScope ?_ | refine RunE.label ?_)
  exact RunE.retFn Tryd.func43 (.tmp rfl .nil) ⟨rfl, rfl⟩

theorem qpow_step1 (c x : Int) (m : Nat) (h : m % 2 = 1) : (c * x % 1073741789 * (x * x % 1073741789) ^ (m / 2)) % 1073741789 = c * x ^ m % 1073741789 := by
  have hn : m = 2 * (m / 2) + 1 := by omega
  have e : x ^ m = x * (x * x) ^ (m / 2) := by
    conv => lhs; rw [hn]
    rw [Int.pow_succ, Int.pow_mul, Int.mul_comm, show x ^ 2 = x * x by rw [Int.pow_succ, Int.pow_succ]; simp]
  rw [e, ← Int.mul_assoc]
  exact mul_mod_congr (by simp) (pow_mod _ _ _)
theorem qpow_step0 (c x : Int) (m : Nat) (h : m % 2 = 0) : (c * (x * x % 1073741789) ^ (m / 2)) % 1073741789 = c * x ^ m % 1073741789 := by
  have hn : m = 2 * (m / 2) := by omega
  have e : x ^ m = (x * x) ^ (m / 2) := by
    conv => lhs; rw [hn]
    rw [Int.pow_mul, show x ^ 2 = x * x by rw [Int.pow_succ, Int.pow_succ]; simp]
  rw [e]
  exact mul_mod_congr rfl (pow_mod _ _ _)
theorem r11_power_ok (a n : Int) (w : World) (hn : 0 ≤ n) (hn' : n < 9223372036854775808) :
    Rets Tryd.prog 49 [.int .i64 a, .int .i64 n] w fun v w' => v = .int .i64 (a ^ n.toNat % 1073741789) ∧ w = w' := by
  refine RetsX.of (nt := 24) Tryd.func49 (by kernel_rfl) rfl rfl (by simp) (by simp only [argEnv]; rfl) ?_
  repeat (first | refine RunL.pureI Tryd.tOk rfl rfl rfl (by (first | exact wr_i64 (by omega) (by omega) | exact wm_i64 (by omega) | exact wq_i64 (by omega) (by omega) (by omega) | rfl)) ?_ | refine RunL.pure Tryd.tOk rfl rfl rfl ?_ | refine RunL.unwantedD rfl rfl ?_ | refine RunE.seq ?_ | refine RunE.region ?_ | refine RunL.nil ?_ | refine RunE.block ?_ | refine RunE.inBlock ?_ | refine RunE.skip ?_ | refine RunE.exit rfl ?_ | refine RunE.scope ?_ | refine RunE.inScope ?_ | refine RunE.label ?_)
  refine RunL.call rfl rfl rfl (r11_mod_ok a _) ?_
  rintro _ _ ⟨rfl, rfl⟩
  repeat (first | refine RunL.pureI Tryd.tOk rfl rfl rfl (by (first | exact wr_i64 (by omega) (by omega) | exact wm_i64 (by omega) | exact wq_i64 (by omega) (by omega) (by omega) | rfl)) ?_ | refine RunL.pure Tryd.tOk rfl rfl rfl ?_ | refine RunL.unwantedD rfl rfl ?_ | refine RunE.seq ?_ | refine RunE.region ?_ | refine RunL.nil ?_ | refine RunE.block ?_ | refine RunE.inBlock ?_ | refine RunE.skip ?_ | refine RunE.exit rfl ?_ | refine RunE.scope ?_ | refine RunE.inScope ?_ | refine RunE.label ?_)
  refine RunE.loop (ι := Int × Int × Int) (fun x => [(0, .int .i64 x.2.1), (1, .int .i64 x.2.2), (5, .int .i64 x.1)])
    (fun x w' => w = w' ∧ 0 ≤ x.1 ∧ x.1 < 1073741789 ∧ 0 ≤ x.2.1 ∧ x.2.1 < 1073741789 ∧ 0 ≤ x.2.2 ∧ x.2.2 < 9223372036854775808 ∧ x.1 * x.2.1 ^ x.2.2.toNat % 1073741789 = a ^ n.toNat % 1073741789)
    (fun x => x.2.2.toNat) (1, a % 1073741789, n) (by repeat (first | exact Sub.nil _ | refine Sub.cons rfl ?_)) ⟨rfl, (by decide : (0 : Int) ≤ 1), (by decide : (1 : Int) < 1073741789), (q_bd a).1, (q_bd a).2, hn, hn', by rw [Int.one_mul]; exact pow_mod _ _ _⟩ ?_
  rintro ⟨c, a1, m⟩ _ ⟨rfl, hc, hc', hA, hA', hm, hm', hp⟩ IH
  dsimp only at hc hc' hA hA' hm hm' hp ⊢
  repeat (first | refine RunL.pureI Tryd.tOk rfl rfl rfl (by (first | exact wr_i64 (by omega) (by omega) | exact wm_i64 (by omega) | exact wq_i64 (by omega) (by omega) (by omega) | rfl)) ?_ | refine RunL.pure Tryd.tOk rfl rfl rfl ?_ | refine RunL.unwantedD rfl rfl ?_ | refine RunE.seq ?_ | refine RunE.region ?_ | refine RunL.nil ?_ | refine RunE.block ?_ | refine RunE.inBlock ?_ | refine RunE.skip ?_ | refine RunE.exit rfl ?_ | refine RunE.scope ?_ | refine RunE.inScope ?_ | refine RunE.label ?_)
  refine RunE.cond rfl (fun h => ?_) (fun h => ?_) <;> (first | replace h := of_decide_eq_true h | replace h := of_decide_eq_false h | replace h := beq_iff_eq.1 h | replace h := beq_eq_false_iff_ne.1 h | replace h := bne_iff_ne.1 h | replace h := bne_eq_false_iff_eq.1 h | skip)
  · have hb := mul_bd30 (i := c) (k := a1) (by omega) (by omega)
    have hb2 := mul_bd30 (i := a1) (k := a1) (by omega) (by omega)
    repeat (first | refine RunL.pureI Tryd.tOk rfl rfl rfl (by (first | exact wr_i64 (by omega) (by omega) | exact wm_i64 (by omega) | exact wq_i64 (by omega) (by omega) (by omega) | rfl)) ?_ | refine RunL.pure Tryd.tOk rfl rfl rfl ?_ | refine RunL.unwantedD rfl rfl ?_ | refine RunE.seq ?_ | refine RunE.region ?_ | refine RunL.nil ?_ | refine RunE.block ?_ | refine RunE.inBlock ?_ | refine RunE.skip ?_ | refine RunE.exit rfl ?_ | refine RunE.scope ?_ | refine RunE.inScope ?_ | refine RunE.label ?_)
    refine RunE.cond rfl (fun h2 => ?_) (fun h2 => ?_) <;> (first | replace h2 := of_decide_eq_true h2 | replace h2 := of_decide_eq_false h2 | replace h2 := beq_iff_eq.1 h2 | replace h2 := beq_eq_false_iff_ne.1 h2 | replace h2 := bne_iff_ne.1 h2 | replace h2 := bne_eq_false_iff_eq.1 h2 | skip)
    · repeat (first | refine RunL.pureI Tryd.tOk rfl rfl rfl (by (first | exact wr_i64 (by omega) (by omega) | exact wm_i64 (by omega) | exact wq_i64 (by omega) (by omega) (by omega) | rfl)) ?_ | refine RunL.pure Tryd.tOk rfl rfl rfl ?_ | refine RunL.unwantedD rfl rfl ?_ | refine RunE.seq ?_ | refine RunE.region ?_ | refine RunL.nil ?_ | refine RunE.block ?_ | refine RunE.inBlock ?_ | refine RunE.skip ?_ | refine RunE.exit rfl ?_ | refine RunE.scope ?_ | refine RunE.inScope ?_ | refine RunE.label ?_)
      refine RunE.weaken (by repeat (first | exact Sub.nil _ | refine Sub.cons rfl ?_)) (IH (c * a1 % 1073741789, a1 * a1 % 1073741789, m / 2) _ (by simp only; omega) ⟨rfl, by simp only; omega, by simp only; omega, by simp only; omega, by simp only; omega, by simp only; omega, by simp only; omega, ?_⟩)
      simp only
      rw [← hp, show (m / 2).toNat = m.toNat / 2 by omega]
      exact qpow_step1 _ _ _ (by omega)
    · repeat (first | refine RunL.pureI Tryd.tOk rfl rfl rfl (by (first | exact wr_i64 (by omega) (by omega) | exact wm_i64 (by omega) | exact wq_i64 (by omega) (by omega) (by omega) | rfl)) ?_ | refine RunL.pure Tryd.tOk rfl rfl rfl ?_ | refine RunL.unwantedD rfl rfl ?_ | refine RunE.seq ?_ | refine RunE.region ?_ | refine RunL.nil ?_ | refine RunE.block ?_ | refine RunE.inBlock ?_ | refine RunE.skip ?_ | refine RunE.exit rfl ?_ | refine RunE.scope ?_ | refine RunE.inScope ?_ | refine RunE.label ?_)
      refine RunE.weaken (by repeat (first | exact Sub.nil _ | refine Sub.cons rfl ?_)) (IH (c, a1 * a1 % 1073741789, m / 2) _ (by simp only; omega) ⟨rfl, by simp only; omega, by simp only; omega, by simp only; omega, by simp only; omega, by simp only; omega, by simp only; omega, ?_⟩)
      simp only
      rw [← hp, show (m / 2).toNat = m.toNat / 2 by omega]
      exact qpow_step0 _ _ _ (by omega)
  · repeat (first | refine RunL.pureI Tryd.tOk rfl rfl rfl (by (first | exact wr_i64 (by omega) (by omega) | exact wm_i64 (by omega) | exact wq_i64 (by omega) (by omega) (by omega) | rfl)) ?_ | refine RunL.pure Tryd.tOk rfl rfl rfl ?_ | refine RunL.unwantedD rfl rfl ?_ | refine RunE.seq ?_ | refine RunE.region ?_ | refine RunL.nil ?_ | refine RunE.block ?_ | refine RunE.inBlock ?_ | refine RunE.skip ?_ | refine RunE.exit rfl ?_ | refine RunE.scope ?_ | refine RunE.inScope ?_ | refine RunE.label ?_)
    refine RunE.retFn Tryd.func49 (.tmp rfl .nil) ⟨?_, rfl⟩
    simp only [oneOr]
    congr 1
    obtain rfl : m = 0 := by omega
    rw [← hp]; simp; exact (Int.emod_eq_of_lt hc hc').symm
def quo (a b : Int) : Int := a % 1073741789 * (b ^ 1073741787 % 1073741789) % 1073741789
theorem r11_quotient_ok (a b : Int) (w : World) : Rets Tryd.prog 27 [.int .i64 a, .int .i64 b] w fun v w' => v = .int .i64 (quo a b) ∧ w = w' := by
  refine RetsX.of (nt := 9) Tryd.func27 (by kernel_rfl) rfl rfl (by simp) (by simp only [argEnv]; rfl) ?_
  repeat (first | refine RunL.pureI Tryd.tOk rfl rfl rfl (by (first | exact wr_i64 (by omega) (by omega) | exact wm_i64 (by omega) | exact wq_i64 (by omega) (by omega) (by omega) | rfl)) ?_ | refine RunL.pure Tryd.tOk rfl rfl rfl ?_ | refine RunL.unwantedD rfl rfl ?_ | refine RunE.seq ?_ | refine RunE.region ?_ | refine RunL.nil ?_ | refine RunE.block ?_ | refine RunE.inBlock ?_ | refine RunE.skip ?_ | refine RunE.exit rfl ?_ | refine RunE.scope ?_ | refine RunE.inScope ?_ | refine RunE.label ?_)
  refine RunL.call rfl rfl rfl (r11_power_ok b 1073741787 _ (by decide) (by decide)) ?_
  rintro _ _ ⟨rfl, rfl⟩
  generalize hP : b ^ Int.toNat 1073741787 % 1073741789 = pp
  refine RunL.call rfl rfl rfl (r11_times_ok a pp _) ?_
  rintro _ _ ⟨rfl, rfl⟩
  repeat (first | refine RunL.pureI Tryd.tOk rfl rfl rfl (by (first | exact wr_i64 (by omega) (by omega) | exact wm_i64 (by omega) | exact wq_i64 (by omega) (by omega) (by omega) | rfl)) ?_ | refine RunL.pure Tryd.tOk rfl rfl rfl ?_ | refine RunL.unwantedD rfl rfl ?_ | refine RunE.seq ?_ | refine RunE.region ?_ | refine RunL.nil ?_ | refine RunE.block ?_ | refine RunE.inBlock ?_ | refine RunE.skip ?_ | refine RunE.exit rfl ?_ | refine RunE.scope ?_ | refine RunE.inScope ?_ | refine RunE.label ?_)
  refine RunE.retFn Tryd.func27 (.tmp rfl .nil) ⟨?_, rfl⟩
  simp only [oneOr, quo]
  rw [← hP]
  congr 2
  rw [Int.emod_emod_of_dvd _ (Int.dvd_refl _)]
  rfl
theorem r11_point_ok (key E S : Int) (w : World) (hE : -9223372036854775807 ≤ E ∧ E < 9223372036854775808) : Rets Tryd.prog 44 [.int .i64 key, .agg #[.int .i64 E, .int .i64 S]] w fun v w' => v = .int .i64 (mulC (powC 4 S) (powC key (-E))) ∧ Ext w w' := by
  refine RetsX.of (nt := 32) Tryd.func44 (by kernel_rfl) rfl rfl (by simp) (by simp only [argEnv]; rfl) ?_
  repeat (first | refine RunL.pureI Tryd.tOk rfl rfl rfl (by (first | exact wr_i64 (by omega) (by omega) | exact wm_i64 (by omega) | exact wq_i64 (by omega) (by omega) (by omega) | rfl)) ?_ | refine RunL.pure Tryd.tOk rfl rfl rfl ?_ | refine RunL.unwantedD rfl rfl ?_ | refine RunE.seq ?_ | refine RunE.region ?_ | refine RunL.nil ?_ | refine RunE.block ?_ | refine RunE.inBlock ?_ | refine RunE.skip ?_ | refine RunE.exit rfl ?_ | refine RunE.scope ?_ | refine RunE.inScope ?_ | refine RunE.label ?_)
  refine RunL.box rfl rfl rfl fun B5 w1 a1 => ?_
  have Z1 : Blk w1 B5 [.int .i64 E, .int .i64 S] 34 := a1.at_
  have X1 := a1.ext
  clear a1
  have hp1 := fun w => r10_pow_ok 4 S w
  have hp2 := fun w => r10_pow_ok key (-E) w
  have hp3 := fun w => r10_mul_ok (powC 4 S) (powC key (-E)) w
  generalize mulC (powC 4 S) (powC key (-E)) = R at *
  generalize grpE (validS (powC 4 S) && validS (powC key (-E))) = ee at *
  generalize grpE (validS 4) = ea at *
  generalize grpE (validS key) = eb at *
  generalize powC 4 S = p1 at *
  generalize powC key (-E) = p2 at *
  repeat (first | refine RunL.pureI Tryd.tOk rfl rfl rfl (by (first | exact wr_i64 (by omega) (by omega) | exact wm_i64 (by omega) | exact wq_i64 (by omega) (by omega) (by omega) | rfl)) ?_ | refine RunL.pure Tryd.tOk rfl rfl rfl ?_ | refine RunL.unwantedD rfl rfl ?_ | refine RunL.val rfl rfl rfl (OpV.indexAK Tryd.tOk rfl rfl rfl rfl) ?_ | refine RunL.val rfl rfl rfl (OpV.indexSK Tryd.tOk rfl rfl rfl rfl) ?_ | refine RunL.val rfl rfl rfl (OpV.load1 Tryd.tOk rfl rfl rfl (Blk.cell Z1 rfl)) ?_ | refine RunE.seq ?_ | refine RunE.region ?_ | refine RunL.nil ?_ | refine RunE.block ?_ | refine RunE.inBlock ?_ | refine RunE.skip ?_ | refine RunE.exit rfl ?_ | refine RunE.scope ?_ | refine RunE.inScope ?_ | refine RunE.label ?_)
  refine RunL.call rfl rfl rfl (hp1 _) ?_
  rintro _ _ ⟨rfl, rfl⟩
  repeat (first | refine RunL.pureI Tryd.tOk rfl rfl rfl (by (first | exact wr_i64 (by omega) (by omega) | exact wm_i64 (by omega) | exact wq_i64 (by omega) (by omega) (by omega) | rfl)) ?_ | refine RunL.pure Tryd.tOk rfl rfl rfl ?_ | refine RunL.unwantedD rfl rfl ?_ | refine RunL.val rfl rfl rfl (OpV.indexAK Tryd.tOk rfl rfl rfl rfl) ?_ | refine RunL.val rfl rfl rfl (OpV.indexSK Tryd.tOk rfl rfl rfl rfl) ?_ | refine RunL.val rfl rfl rfl (OpV.load1 Tryd.tOk rfl rfl rfl (Blk.cell Z1 rfl)) ?_ | refine RunE.seq ?_ | refine RunE.region ?_ | refine RunL.nil ?_ | refine RunE.block ?_ | refine RunE.inBlock ?_ | refine RunE.skip ?_ | refine RunE.exit rfl ?_ | refine RunE.scope ?_ | refine RunE.inScope ?_ | refine RunE.label ?_)
  refine RunL.call rfl rfl rfl (hp2 _) ?_
  rintro _ _ ⟨rfl, rfl⟩
  repeat (first | refine RunL.pureI Tryd.tOk rfl rfl rfl (by (first | exact wr_i64 (by omega) (by omega) | exact wm_i64 (by omega) | exact wq_i64 (by omega) (by omega) (by omega) | rfl)) ?_ | refine RunL.pure Tryd.tOk rfl rfl rfl ?_ | refine RunL.unwantedD rfl rfl ?_ | refine RunL.val rfl rfl rfl (OpV.indexAK Tryd.tOk rfl rfl rfl rfl) ?_ | refine RunL.val rfl rfl rfl (OpV.indexSK Tryd.tOk rfl rfl rfl rfl) ?_ | refine RunL.val rfl rfl rfl (OpV.load1 Tryd.tOk rfl rfl rfl (Blk.cell Z1 rfl)) ?_ | refine RunE.seq ?_ | refine RunE.region ?_ | refine RunL.nil ?_ | refine RunE.block ?_ | refine RunE.inBlock ?_ | refine RunE.skip ?_ | refine RunE.exit rfl ?_ | refine RunE.scope ?_ | refine RunE.inScope ?_ | refine RunE.label ?_)
  refine RunL.call rfl rfl rfl (hp3 _) ?_
  rintro _ _ ⟨rfl, rfl⟩
  repeat (first | refine RunL.pureI Tryd.tOk rfl rfl rfl (by (first | exact wr_i64 (by omega) (by omega) | exact wm_i64 (by omega) | exact wq_i64 (by omega) (by omega) (by omega) | rfl)) ?_ | refine RunL.pure Tryd.tOk rfl rfl rfl ?_ | refine RunL.unwantedD rfl rfl ?_ | refine RunE.seq ?_ | refine RunE.region ?_ | refine RunL.nil ?_ | refine RunE.block ?_ | refine RunE.inBlock ?_ | refine RunE.skip ?_ | refine RunE.exit rfl ?_ | refine RunE.scope ?_ | refine RunE.inScope ?_ | refine RunE.label ?_)
  exact RunE.retFn Tryd.func44 (.tmp rfl .nil) ⟨rfl, X1⟩

set_option maxHeartbeats 2000000 in
theorem r11_hash_ok (R key : Int) (v : Value) (b : List UInt8) (w : World) (hR : -9223372036854775808 ≤ R ∧ R < 9223372036854775808) (hk : -9223372036854775808 ≤ key ∧ key < 9223372036854775808) (hv : IsSl w 1 v b.length (bytesV b)) (hb : b.length ≤ 800000) :
    Rets Tryd.prog 42 [.int .i64 R, .int .i64 key, v] w fun r w' => r = .int .i64 (chal R key b) ∧ Ext w w' := by
  have he := enc3_le R key b hR hk hb
  refine RetsX.of (nt := 24) Tryd.func42 (by kernel_rfl) rfl rfl (by simp) (by simp only [argEnv]; rfl) ?_
  repeat (first | refine RunL.pureI Tryd.tOk rfl rfl rfl (by (first | exact wr_i64 (by omega) (by omega) | exact wm_i64 (by omega) | exact wq_i64 (by omega) (by omega) (by omega) | rfl)) ?_ | refine RunL.pure Tryd.tOk rfl rfl rfl ?_ | refine RunL.unwantedD rfl rfl ?_ | refine RunE.seq ?_ | refine RunE.region ?_ | refine RunL.nil ?_ | refine RunE.block ?_ | refine RunE.inBlock ?_ | refine RunE.skip ?_ | refine RunE.exit rfl ?_ | refine RunE.scope ?_ | refine RunE.inScope ?_ | refine RunE.label ?_)
  refine RunE.draw (fun _ => False) mix ?_
  intro w1 X1
  repeat (first | refine Asy.pureI Tryd.tOk rfl rfl rfl (by (first | exact wr_i64 (by omega) (by omega) | exact wm_i64 (by omega) | exact wq_i64 (by omega) (by omega) (by omega) | rfl)) ?_ | refine Asy.pure Tryd.tOk rfl rfl rfl ?_ | refine Asy.unwantedD rfl rfl rfl ?_)
  refine Asy.val rfl rfl rfl rfl (fun _ _ => OpE.call rfl (rint_ok R _)) ?_
  repeat (first | refine Asy.pureI Tryd.tOk rfl rfl rfl (by (first | exact wr_i64 (by omega) (by omega) | exact wm_i64 (by omega) | exact wq_i64 (by omega) (by omega) (by omega) | rfl)) ?_ | refine Asy.pure Tryd.tOk rfl rfl rfl ?_ | refine Asy.unwantedD rfl rfl rfl ?_)
  refine Asy.val rfl rfl rfl rfl (fun _ _ => OpE.call rfl (rint_ok key _)) ?_
  repeat (first | refine Asy.pureI Tryd.tOk rfl rfl rfl (by (first | exact wr_i64 (by omega) (by omega) | exact wm_i64 (by omega) | exact wq_i64 (by omega) (by omega) (by omega) | rfl)) ?_ | refine Asy.pure Tryd.tOk rfl rfl rfl ?_ | refine Asy.unwantedD rfl rfl rfl ?_)
  refine Asy.v rfl rfl rfl rfl (fun w' X' => OpV.b2sSl (l := b) Tryd.tOk rfl rfl rfl rfl (hv.extE (X1.trans X'))) ?_
  refine Asy.val rfl rfl rfl rfl (fun _ _ => OpE.call rfl (rtext_ok (strOf b) _)) ?_
  refine Asy.sat0 (fun u w' => ∃ B, u = .slice (some ⟨B, 0, none⟩) 3 3 ∧ IsSl w' 4 u 3 ([CV.int R, CV.int key, CV.text b].map rowOf).flatten) rfl rfl rfl rfl (fun u w' w'' _ e h => ?_) (fun w' _ => ?_) ?_
  · obtain ⟨B, h1, h2⟩ := h; exact ⟨B, h1, h2.extE e⟩
  · refine OpE.mono (OpE.buildSl Tryd.tOk [.agg (rowOf (.int R)).toArray, .agg (rowOf (.int key)).toArray, .agg (rowOf (.text b)).toArray] rfl rfl rfl rfl rfl rfl (by simp [Value.cells, rowOf])) ?_ fun _ _ h => h
    rintro _ w'' ⟨B, rfl, a⟩; exact ⟨a.ext, B, rfl, isSl_added (n := 3) (sz := 4) a rfl⟩
  refine Asy.sat1 0 (fun u w' => ∃ B, u = .agg #[.int .i64 3, .int .i64 0, .string ⟨#[]⟩, .slice (some ⟨B, 0, none⟩) 3 3] ∧ IsSl w' 4 (.slice (some ⟨B, 0, none⟩) 3 3) 3 ([CV.int R, CV.int key, CV.text b].map rowOf).flatten) rfl rfl rfl rfl rfl rfl (fun u w' w'' _ e h => ?_) (fun w' x e hx => ?_) ?_
  · obtain ⟨B, h1, h2⟩ := h; exact ⟨B, h1, h2.extE e⟩
  · obtain ⟨B, rfl, h2⟩ := hx
    refine OpE.mono (OpE.call rfl (rlist_ok (some ⟨B, 0, none⟩) 3 3 w')) ?_ fun _ _ h => h
    rintro _ w'' ⟨rfl, X⟩; exact ⟨X, B, rfl, h2.extE X⟩
  refine Asy.sat1 0 (fun u w' => ∃ r, u = .tuple #[r, .int .i64 0] ∧ IsSl w' 1 r (CV.list [.int R, .int key, .text b]).enc.length (bytesV (CV.list [.int R, .int key, .text b]).enc)) rfl rfl rfl rfl rfl rfl (fun u w' w'' _ e h => ?_) (fun w' x e hx => ?_) ?_
  · obtain ⟨B, h1, h2⟩ := h; exact ⟨B, h1, h2.extE e⟩
  · obtain ⟨B, rfl, h2⟩ := hx
    refine OpE.mono (OpE.call rfl (rEncode_ok (CV.list [.int R, .int key, .text b]) _ w' ⟨by simp, _, _, rfl, h2, ins_rows _ fun c hc => ?_⟩ (by simp [CV.depth, depths]) (by omega))) ?_ fun _ _ h => h
    · simp only [List.mem_cons, List.not_mem_nil, or_false] at hc
      rcases hc with rfl | rfl | rfl
      · exact ⟨hR, _, rfl⟩
      · exact ⟨hk, _, rfl⟩
      · exact ⟨by omega, _, rfl⟩
    · rintro _ w'' ⟨r, rfl, h1, h2⟩; exact ⟨h2, r, rfl, isSl_own h1⟩
  refine Asy.sat1 0 (fun u w' => ∃ r, u = .tuple #[r, .int .i64 0] ∧ IsSl w' 1 r (CV.list [.int R, .int key, .text b]).enc.length (bytesV (CV.list [.int R, .int key, .text b]).enc)) rfl rfl rfl rfl rfl rfl (fun u w' w'' _ e h => ?_) (fun w' x e hx => ?_) ?_
  · obtain ⟨B, h1, h2⟩ := h; exact ⟨B, h1, h2.extE e⟩
  · obtain ⟨r, rfl, h2⟩ := hx
    refine OpE.mono (OpV.e (evalOp_v Tryd.tOk rfl)) ?_ fun _ _ h => h
    rintro u w'' ⟨rfl, rfl⟩; exact ⟨.refl _ _, r, rfl, h2⟩
  refine Asy.sat1 0 (fun u w' => IsSl w' 1 u (CV.list [.int R, .int key, .text b]).enc.length (bytesV (CV.list [.int R, .int key, .text b]).enc)) rfl rfl rfl rfl rfl rfl (fun u w' w'' _ e h => h.extE e) (fun w' x e hx => ?_) ?_
  · obtain ⟨r, rfl, h2⟩ := hx
    refine OpE.mono (OpV.e (evalOp_v Tryd.tOk rfl)) ?_ fun _ _ h => h
    rintro u w'' ⟨rfl, rfl⟩; exact ⟨.refl _ _, h2⟩
  refine Asy.val1 1 (v := .int .i64 0) rfl rfl rfl rfl rfl rfl (fun w' x e hx => ?_) ?_
  · obtain ⟨r, rfl, h2⟩ := hx
    refine OpE.mono (OpV.e (evalOp_v Tryd.tOk rfl)) ?_ fun _ _ h => h
    rintro u w'' ⟨rfl, rfl⟩; exact ⟨rfl, .refl _ _⟩
  refine Asy.sat1 0 (fun u w' => IsSl w' 1 u (CV.list [.int R, .int key, .text b]).enc.length (bytesV (CV.list [.int R, .int key, .text b]).enc)) rfl rfl rfl rfl rfl rfl (fun u w' w'' _ e h => h.extE e) (fun w' x e hx => ?_) ?_
  · refine OpE.mono (OpV.e (evalOp_v Tryd.tOk rfl)) ?_ fun _ _ h => h
    rintro u w'' ⟨rfl, rfl⟩; exact ⟨.refl _ _, hx⟩
  repeat (first | refine Asy.pureI Tryd.tOk rfl rfl rfl (by (first | exact wr_i64 (by omega) (by omega) | exact wm_i64 (by omega) | exact wq_i64 (by omega) (by omega) (by omega) | rfl)) ?_ | refine Asy.pure Tryd.tOk rfl rfl rfl ?_ | refine Asy.unwantedD rfl rfl rfl ?_)
  refine Asy.tail (by kernel_rfl) ?_
  intro w2 X2
  simp only [satsAll]
  intro x hx _ _ _ _ _ _ _ _ _ _
  repeat (first | refine RunL.pureI Tryd.tOk rfl rfl rfl (by (first | exact wr_i64 (by omega) (by omega) | exact wm_i64 (by omega) | exact wq_i64 (by omega) (by omega) (by omega) | rfl)) ?_ | refine RunL.pure Tryd.tOk rfl rfl rfl ?_ | refine RunL.unwantedD rfl rfl ?_ | refine RunE.seq ?_ | refine RunE.region ?_ | refine RunL.nil ?_ | refine RunE.block ?_ | refine RunE.inBlock ?_ | refine RunE.skip ?_ | refine RunE.exit rfl ?_ | refine RunE.scope ?_ | refine RunE.inScope ?_ | refine RunE.label ?_)
  refine RunL.call rfl rfl rfl (rhash_ok ⟨#[115, 105, 103, 110]⟩ x _ w2 (by decide) hx he) ?_
  rintro _ w3 ⟨rfl, X3⟩
  repeat (first | refine RunL.pureI Tryd.tOk rfl rfl rfl (by (first | exact wr_i64 (by omega) (by omega) | exact wm_i64 (by omega) | exact wq_i64 (by omega) (by omega) (by omega) | rfl)) ?_ | refine RunL.pure Tryd.tOk rfl rfl rfl ?_ | refine RunL.unwantedD rfl rfl ?_ | refine RunE.seq ?_ | refine RunE.region ?_ | refine RunL.nil ?_ | refine RunE.block ?_ | refine RunE.inBlock ?_ | refine RunE.skip ?_ | refine RunE.exit rfl ?_ | refine RunE.scope ?_ | refine RunE.inScope ?_ | refine RunE.label ?_)
  exact RunE.retFn Tryd.func42 (.tmp rfl .nil) ⟨rfl, (X1.trans X2).trans X3⟩
end Go.Sg
