/- Facts of single numbers. -/
import Derived.Test.YtbjmdklcbknlpaaDoorRef10
namespace Go.Sg
open Go.Rn Go.NT Go.Proofs

theorem v4 : validS 4 = true := by
  have h := valid_sq (x := 2) (by decide) (by decide)
  have e : (2 : Int) * 2 % 2147483579 = 4 := by decide
  exact (congrArg validS e).symm.trans h
theorem v1 : validS 1 = true := valid_one
theorem v0 : validS 0 = false := by unfold validS; exact decide_eq_false fun h => absurd h.1 (by decide)
theorem vP : validS 2147483579 = false := by unfold validS; exact decide_eq_false fun h => absurd h.2.1 (by decide)
theorem v2 : validS 2 = false := by
  have h := validS_iff (x := 2) (by decide) (by decide)
  have g := G_two (n := 2147483579) (by decide)
  rw [if_pos (.inl (by decide))] at g
  have e : ((2 : Nat) : Int) = 2 := rfl
  rw [e] at h
  rw [h]
  exact decide_eq_false (by omega)
theorem vP1 : validS 2147483578 = false := by
  have h := valid_neg (x := 1) (by decide) (by decide)
  rw [v1] at h; exact h
theorem vP2 : validS 2147483577 = true := by
  have h := valid_neg (x := 2) (by decide) (by decide)
  rw [v2] at h; exact h
theorem p42 : powC 4 2 = 16 := by
  unfold powC; rw [v4, if_pos rfl]; decide
theorem p4Q : powC 4 1073741789 = 1 := by
  unfold powC; rw [v4, if_pos rfl]; decide
theorem pow_neg1 {a : Int} (ha : validS a = true) : a * powC a (-1) % 2147483579 = 1 := by
  have e : ((-1 : Int) % 1073741789).toNat = 1073741788 := by decide
  unfold powC; rw [ha, if_pos rfl, e]
  have h1 : a * (a ^ 1073741788 % 2147483579) % 2147483579 = a * a ^ 1073741788 % 2147483579 := mul_mod_congr rfl (Int.emod_emod_of_dvd _ (Int.dvd_refl _))
  rw [h1, Int.mul_comm, ← Int.pow_succ]
  exact (validS_inv ha).2.2
theorem powC_bd (a n : Int) : 0 ≤ powC a n ∧ powC a n < 2147483579 := by
  have h : ∀ y : Int, 0 ≤ y % 2147483579 ∧ y % 2147483579 < 2147483579 := fun y => ⟨Int.emod_nonneg y (by decide), Int.emod_lt_of_pos y (by decide)⟩
  unfold powC
  cases validS a with
  | true => rw [if_pos rfl]; exact h _
  | false => rw [if_neg (by decide)]; exact ⟨by decide, by decide⟩
theorem inv4 (y : Int) (h : 4 * y % 2147483579 = 1) (h1 : 0 ≤ y) (h2 : y < 2147483579) : y = 536870895 := by
  have e1 : (4 * y * 536870895) % 2147483579 = 536870895 := by
    rw [Int.mul_emod, h]; decide
  have e2 : 4 * y * 536870895 = y + 2147483579 * y := by omega
  rw [e2, Int.add_mul_emod_self_left, Int.emod_eq_of_lt h1 h2] at e1
  exact e1
theorem p4m : powC 4 (-1) = 536870895 := inv4 _ (pow_neg1 v4) (powC_bd 4 (-1)).1 (powC_bd 4 (-1)).2
theorem p01 : powC 0 1 = 0 := by unfold powC; rw [v0, if_neg (by decide)]
theorem m44 : mulC 4 4 = 16 := by unfold mulC; rw [v4]; rfl
theorem m42 : mulC 4 2 = 0 := by unfold mulC; rw [v4, v2]; rfl
theorem el2 : elemC 2 = 2147483577 := by unfold elemC; rw [v2]; rfl
theorem nm2 : numC 2 = 0 := by unfold numC; rw [v2]; rfl
theorem nmP2 : numC 2147483577 = 2 := by unfold numC; rw [vP2]; rfl
end Go.Sg
