/- Two signatures with one point: plain mathematics. -/
import Derived.Test.YtbjmdklcbknlpaaDoorLaw11A
namespace Go.Sg
open Go.Rn Go.NT Go.Sha Go.Cod Go.Proofs

theorem fermatQ {d : Int} (h : d % 1073741789 ≠ 0) : d ^ 1073741788 % 1073741789 = 1 := by
  rw [← pow_mod]
  have b := q_bd d
  obtain ⟨n, hn⟩ := Int.eq_ofNat_of_zero_le b.1
  rw [hn] at b h ⊢
  have hnl : n < 1073741789 := by omega
  have hn0 : n ≠ 0 := by intro e; subst e; exact h rfl
  have g := gauss (p := 1073741789) (a := n) primeQ (by decide) (fun hd => by have := Nat.le_of_dvd (by omega) hd; omega)
  rw [neg_one_pow] at g
  obtain ⟨q, hq⟩ := g
  have e : (1073741789 / 2 : Nat) = 536870894 := by decide
  rw [e] at hq
  have e2 : ((n : Int)) ^ 1073741788 = (n : Int) ^ 536870894 * (n : Int) ^ 536870894 := by rw [← Int.pow_add]
  rw [e2]
  have hy : ((n : Int) ^ 536870894) % 1073741789 = 1 ∨ ((n : Int) ^ 536870894) % 1073741789 = 1073741788 := by
    generalize (n : Int) ^ 536870894 = y at *
    split at hq <;> omega
  rw [Int.mul_emod]
  rcases hy with h | h <;> rw [h] <;> decide

theorem mulC_one' {a : Int} (ha : validS a = true) : mulC 1 a = a := by rw [mulC_comm v1 ha, mulC_one ha]

theorem twice {key E1 S1 E2 S2 : Int} (hk : validS key = true) (hpt : mulC (powC 4 S1) (powC key (-E1)) = mulC (powC 4 S2) (powC key (-E2))) (hd : (E1 - E2) % 1073741789 ≠ 0) : powC 4 (quo (S1 - S2) (E1 - E2)) = key := by
  have A := powC_valid v4
  have K := powC_valid hk
  have h1 : powC 4 S1 = mulC (powC 4 S2) (powC key (E1 - E2)) := by
    have := congrArg (fun x => mulC x (powC key E1)) hpt
    rw [mulC_assoc (A _) (K _) (K _), mulC_assoc (A _) (K _) (K _), powC_add hk, powC_add hk, show -E1 + E1 = 0 by omega, powC_zero hk, mulC_one (A _), show -E2 + E1 = E1 - E2 by omega] at this
    exact this
  have h2 : powC 4 (S1 - S2) = powC key (E1 - E2) := by
    have := congrArg (fun x => mulC (powC 4 (-S2)) x) h1
    rw [← mulC_assoc (A _) (A _) (K _), powC_add v4, powC_add v4, show -S2 + S2 = 0 by omega, powC_zero v4, mulC_one' (K _), show -S2 + S1 = S1 - S2 by omega] at this
    exact this
  generalize E1 - E2 = d at *
  generalize S1 - S2 = a at *
  have h3 : powC 4 (quo a d) = powC 4 (a * d ^ 1073741787) := by
    refine powC_congr 4 ?_
    unfold quo
    rw [Int.emod_emod_of_dvd _ (Int.dvd_refl _), ← Int.mul_emod]
  rw [h3, ← powC_mul v4, h2, powC_mul hk]
  have h4 : d * d ^ 1073741787 = d ^ 1073741788 := by rw [Int.mul_comm, ← Int.pow_succ]
  rw [h4]
  have h5 : powC key (d ^ 1073741788) = powC key 1 := powC_congr key (by rw [fermatQ hd]; rfl)
  rw [h5, powC_one hk]
theorem quo_bd (a b : Int) : 0 ≤ quo a b ∧ quo a b < 1073741789 := by unfold quo; exact q_bd _
theorem ver_ok {key : Int} {b : List UInt8} {E S : Int} (h : verS key b E S = true) : validS key = true ∧ 0 ≤ E ∧ E < 1073741789 ∧ 0 ≤ S ∧ S < 1073741789 := by
  unfold verS sigOk at h
  simp only [Bool.and_eq_true, decide_eq_true_eq] at h
  exact ⟨h.1.2, h.1.1⟩
theorem ver_no {key : Int} {b : List UInt8} {E S : Int} (h : ¬ (validS key = true ∧ 0 ≤ E ∧ E < 1073741789 ∧ 0 ≤ S ∧ S < 1073741789)) : verS key b E S = false := by
  cases hv : verS key b E S with
  | false => rfl
  | true => exact absurd (ver_ok hv) h
theorem ver_eq {key : Int} {b : List UInt8} {E S : Int} (h : validS key = true ∧ 0 ≤ E ∧ E < 1073741789 ∧ 0 ≤ S ∧ S < 1073741789) : verS key b E S = (E == chal (mulC (powC 4 S) (powC key (-E))) key b) := by
  unfold verS sigOk
  rw [h.1, decide_eq_true h.2]; rfl
end Go.Sg
