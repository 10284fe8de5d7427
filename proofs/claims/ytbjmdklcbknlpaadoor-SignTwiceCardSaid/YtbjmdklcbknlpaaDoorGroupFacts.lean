/- What the group's powers and products are. Plain mathematics over the numbers that the walks name. -/
import Derived.Test.YtbjmdklcbknlpaaDoorGroupC
namespace Go.Sg
open Go.Rn Go.NT Go.Proofs

/-- What element returns is an element. -/
theorem elem_valid (x : Int) : validS (elemC (x % 1073741789 + 1)) = true := by
  have h1 := Int.emod_nonneg x (by decide : (1073741789 : Int) ≠ 0)
  have h2 := Int.emod_lt_of_pos x (by decide : (0 : Int) < 1073741789)
  generalize hn : x % 1073741789 + 1 = n
  have h3 : 1 ≤ n := by omega
  have h4 : n ≤ 1073741789 := by omega
  unfold elemC
  rw [if_neg (by omega)]
  cases hv : validS n with
  | true => rw [if_pos rfl]; exact hv
  | false =>
    rw [if_neg (by decide)]
    have h := valid_neg h3 (by omega)
    rw [hv] at h; exact h

theorem mulC_eq {a b : Int} (ha : validS a = true) (hb : validS b = true) : mulC a b = a * b % 2147483579 := by unfold mulC; rw [ha, hb]; rfl
theorem mulC_valid {a b : Int} (ha : validS a = true) (hb : validS b = true) : validS (mulC a b) = true := by rw [mulC_eq ha hb]; exact valid_mul ha hb
theorem powC_eq {a : Int} (ha : validS a = true) (n : Int) : powC a n = a ^ (n % 1073741789).toNat % 2147483579 := by unfold powC; rw [ha, if_pos rfl]
theorem powC_valid {a : Int} (ha : validS a = true) (n : Int) : validS (powC a n) = true := by rw [powC_eq ha]; exact valid_pow ha _
theorem mulC_comm {a b : Int} (ha : validS a = true) (hb : validS b = true) : mulC a b = mulC b a := by rw [mulC_eq ha hb, mulC_eq hb ha, Int.mul_comm]
theorem emod_twice (x : Int) : x % 2147483579 % 2147483579 = x % 2147483579 := Int.emod_emod_of_dvd _ (Int.dvd_refl _)
theorem mulC_assoc {a b c : Int} (ha : validS a = true) (hb : validS b = true) (hc : validS c = true) : mulC (mulC a b) c = mulC a (mulC b c) := by
  rw [mulC_eq (mulC_valid ha hb) hc, mulC_eq ha (mulC_valid hb hc), mulC_eq ha hb, mulC_eq hb hc]
  rw [mul_mod_congr (emod_twice (a * b)) (rfl : c % 2147483579 = c % 2147483579), mul_mod_congr (rfl : a % 2147483579 = a % 2147483579) (emod_twice (b * c)), Int.mul_assoc]
theorem mulC_one {a : Int} (ha : validS a = true) : mulC a 1 = a := by
  rw [mulC_eq ha v1, Int.mul_one]
  exact Int.emod_eq_of_lt (by have := (validS_inv ha).1; omega) (validS_inv ha).2.1
theorem mulC_inv {a : Int} (ha : validS a = true) : mulC a (powC a (-1)) = 1 := by
  rw [mulC_eq ha (powC_valid ha _)]; exact pow_neg1 ha
theorem mulC_cancel {a b : Int} (ha : validS a = true) (hb : validS b = true) : mulC (mulC a b) (powC b (-1)) = a := by
  rw [mulC_assoc ha hb (powC_valid hb _), mulC_inv hb, mulC_one ha]
theorem powC_mulC {a b : Int} (ha : validS a = true) (hb : validS b = true) (n : Int) : powC (mulC a b) n = mulC (powC a n) (powC b n) := by
  rw [mulC_eq (powC_valid ha n) (powC_valid hb n), powC_eq (mulC_valid ha hb), powC_eq ha, powC_eq hb, mulC_eq ha hb, pow_mod, Int.mul_pow]
  exact (mul_mod_congr (emod_twice _) (emod_twice _)).symm


theorem powC_nat {a : Int} (ha : validS a = true) {n : Int} (m : Nat) (h : (m : Int) % 1073741789 = n % 1073741789) : powC a n = a ^ m % 2147483579 := by
  rw [powC_eq ha, ← h, ← pow_period ha m]
  congr 2
theorem expo (n : Int) : (((n % 1073741789).toNat : Nat) : Int) = n % 1073741789 := Int.toNat_of_nonneg (Int.emod_nonneg n (by decide))
theorem powC_zero {a : Int} (ha : validS a = true) : powC a 0 = 1 := by rw [powC_nat (n := 0) ha 0 (by decide)]; simp
theorem powC_one {a : Int} (ha : validS a = true) : powC a 1 = a := by
  rw [powC_nat (n := 1) ha 1 (by decide), Int.pow_one]
  exact Int.emod_eq_of_lt (by have := (validS_inv ha).1; omega) (validS_inv ha).2.1
theorem powC_two {a : Int} (ha : validS a = true) : powC a 2 = mulC a a := by
  rw [powC_nat (n := 2) ha 2 (by decide), mulC_eq ha ha, Int.pow_succ, Int.pow_one]
theorem powC_Q {a : Int} (ha : validS a = true) : powC a 1073741789 = 1 := by
  rw [powC_nat (n := 1073741789) ha 0 (by decide)]; simp
theorem powC_addQ {a : Int} (n : Int) : powC a (n + 1073741789) = powC a n := by
  unfold powC; rw [show (n + 1073741789) % 1073741789 = n % 1073741789 by omega]
theorem powC_subQ {a : Int} (n : Int) : powC a (n - 1073741789) = powC a n := by
  unfold powC; rw [show (n - 1073741789) % 1073741789 = n % 1073741789 by omega]
theorem powC_add {a : Int} (ha : validS a = true) (i k : Int) : mulC (powC a i) (powC a k) = powC a (i + k) := by
  rw [mulC_eq (powC_valid ha i) (powC_valid ha k), powC_eq ha, powC_eq ha, powC_nat ha ((i % 1073741789).toNat + (k % 1073741789).toNat) (by rw [Int.natCast_add, expo, expo]; omega), Int.pow_add]
  exact mul_mod_congr (emod_twice _) (emod_twice _)
theorem powC_mul {a : Int} (ha : validS a = true) (i k : Int) : powC (powC a i) k = powC a (i * k) := by
  rw [powC_eq (powC_valid ha i), powC_eq ha, pow_mod, ← Int.pow_mul, powC_nat ha ((i % 1073741789).toNat * (k % 1073741789).toNat)]
  rw [Int.natCast_mul, expo, expo, ← Int.mul_emod]
theorem mul_bd32 {i k : Int} (hi : -2147483648 ≤ i ∧ i < 2147483648) (hk : -2147483648 ≤ k ∧ k < 2147483648) : -4611686018427387904 ≤ i * k ∧ i * k ≤ 4611686018427387904 := by
  have h1 : (i * k).natAbs ≤ 2147483648 * 2147483648 := by
    rw [Int.natAbs_mul]; exact Nat.mul_le_mul (by omega) (by omega)
  omega
end Go.Sg
