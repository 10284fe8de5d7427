/- Numbers: primes, Gauss's count, the law of quadratic reciprocity, Euler's criterion, the group of the squares modulo P. Plain mathematics: no program here. -/
import Derived.Test.YtbjmdklcbknlpaaDoorRun
namespace Go.NT

/-! ### Primes -/
def IsPrime (p : Nat) : Prop := 2 ≤ p ∧ ∀ d, d ∣ p → d = 1 ∨ d = p
def noDiv (p : Nat) : Nat → Bool
  | 0 => true
  | k + 1 => p % (k + 2) != 0 && noDiv p k
theorem noDiv_spec {p : Nat} : ∀ {k : Nat}, noDiv p k = true → ∀ d, 2 ≤ d → d < k + 2 → ¬ d ∣ p
  | 0, _, d, h1, h2, _ => by omega
  | k + 1, h, d, h1, h2, hd => by
    simp only [noDiv, Bool.and_eq_true, bne_iff_ne] at h
    rcases Nat.lt_or_ge d (k + 2) with h' | h'
    · exact noDiv_spec h.2 d h1 h' hd
    · have : d = k + 2 := by omega
      subst this
      exact h.1 (Nat.mod_eq_zero_of_dvd hd)
theorem prime_of_noDiv {p k : Nat} (hp : 2 ≤ p) (h : noDiv p k = true) (hk : p < (k + 2) * (k + 2)) : IsPrime p := by
  refine ⟨hp, fun d hd => ?_⟩
  obtain ⟨e, he⟩ := hd
  have hd0 : d ≠ 0 := by rintro rfl; simp at he; omega
  have he0 : e ≠ 0 := by rintro rfl; simp at he; omega
  by_cases h1 : d = 1
  · exact .inl h1
  by_cases h2 : e = 1
  · subst h2; right; omega
  exfalso
  rcases Nat.lt_or_ge d (k + 2) with hlt | hge
  · exact noDiv_spec h d (by omega) hlt ⟨e, he⟩
  · rcases Nat.lt_or_ge e (k + 2) with hlt | hge'
    · exact noDiv_spec h e (by omega) hlt ⟨d, by rw [he, Nat.mul_comm]⟩
    · have := Nat.mul_le_mul hge hge'
      omega

theorem coprime_of_prime {p a : Nat} (hp : IsPrime p) (h : ¬ p ∣ a) : Nat.Coprime a p := by
  have h1 := hp.2 (Nat.gcd a p) (Nat.gcd_dvd_right a p)
  rcases h1 with h1 | h1
  · exact h1
  · exfalso; apply h; rw [← h1]; exact Nat.gcd_dvd_left a p
theorem prime_mul {p a b : Nat} (hp : IsPrime p) (h : p ∣ a * b) : p ∣ a ∨ p ∣ b := by
  by_cases ha : p ∣ a
  · exact .inl ha
  · exact .inr (Nat.Coprime.dvd_of_dvd_mul_left (coprime_of_prime hp ha).symm h)

/-! ### Big sums -/
section
variable {α : Type} (op : α → α → α) (e : α)
def bigTo (f : Nat → α) : Nat → α
  | 0 => e
  | k + 1 => op (bigTo f k) (f (k + 1))
end
def sumTo (f : Nat → Nat) (h : Nat) : Nat := bigTo (· + ·) 0 f h

theorem bigTo_congr {α : Type} {op : α → α → α} {e : α} {f g : Nat → α} : ∀ {h : Nat}, (∀ k, 1 ≤ k → k ≤ h → f k = g k) → bigTo op e f h = bigTo op e g h
  | 0, _ => rfl
  | h + 1, hh => by simp only [bigTo]; rw [bigTo_congr (fun k h1 h2 => hh k h1 (by omega)), hh (h + 1) (by omega) (by omega)]

theorem no_inj : ∀ (h : Nat) (m : Nat → Nat), (∀ k, 1 ≤ k → k ≤ h + 1 → 1 ≤ m k ∧ m k ≤ h) → (∀ j k, 1 ≤ j → j ≤ h + 1 → 1 ≤ k → k ≤ h + 1 → m j = m k → j = k) → False
  | 0, m, hr, _ => by have := hr 1 (by omega) (by omega); omega
  | h + 1, m, hr, hi => by
    refine no_inj h (fun k => if m k = h + 1 then m (h + 2) else m k) (fun k h1 h2 => ?_) (fun j k j1 j2 k1 k2 he => ?_)
    · have a1 := hr k h1 (by omega)
      have a2 := hr (h + 2) (by omega) (by omega)
      split
      · rename_i e
        have : m (h + 2) ≠ h + 1 := fun e2 => by have := hi k (h + 2) h1 (by omega) (by omega) (by omega) (by omega); omega
        omega
      · omega
    · split at he <;> split at he
      · exact hi j k j1 (by omega) k1 (by omega) (by omega)
      · have := hi (h + 2) k (by omega) (by omega) k1 (by omega) he; omega
      · have := hi j (h + 2) j1 (by omega) (by omega) (by omega) he; omega
      · exact hi j k j1 (by omega) k1 (by omega) he

section
variable {α : Type} {op : α → α → α} {e : α} (hc : ∀ a b, op a b = op b a) (ha : ∀ a b c, op (op a b) c = op a (op b c))
include hc ha
theorem bigTo_swap {g g' : Nat → α} {k0 : Nat} : ∀ {h : Nat}, 1 ≤ k0 → k0 ≤ h → (∀ k, 1 ≤ k → k ≤ h → k ≠ k0 → g k = g' k) → op (bigTo op e g h) (g' k0) = op (bigTo op e g' h) (g k0)
  | 0, h1, h2, _ => by omega
  | h + 1, h1, h2, hh => by
    simp only [bigTo]
    by_cases hk : k0 = h + 1
    · subst hk
      rw [bigTo_congr (fun k a b => hh k a (by omega) (by omega)), ha, ha, hc (g (h + 1))]
    · have ih := bigTo_swap (h := h) h1 (by omega) (fun k a b c => hh k a (by omega) c)
      rw [ha, hc (g (h + 1)), ← ha, ih, ha, hc (g k0), ← ha, hh (h + 1) (by omega) (by omega) (fun e => hk e.symm)]

theorem bigTo_perm {f : Nat → α} : ∀ (h : Nat) (m : Nat → Nat), (∀ k, 1 ≤ k → k ≤ h → 1 ≤ m k ∧ m k ≤ h) → (∀ j k, 1 ≤ j → j ≤ h → 1 ≤ k → k ≤ h → m j = m k → j = k) →
    bigTo op e (fun k => f (m k)) h = bigTo op e f h
  | 0, _, _, _ => rfl
  | h + 1, m, hr, hi => by
    by_cases hcc : m (h + 1) = h + 1
    · simp only [bigTo, hcc]
      rw [bigTo_perm h m (fun k h1 h2 => ?_) (fun j k a b c d => hi j k a (by omega) c (by omega))]
      have := hr k h1 (by omega)
      have h3 : m k ≠ h + 1 := fun e => by have := hi k (h + 1) h1 (by omega) (by omega) (by omega) (by omega); omega
      omega
    · have hcr := hr (h + 1) (by omega) (by omega)
      by_cases hex : ∃ k0, 1 ≤ k0 ∧ k0 ≤ h ∧ m k0 = h + 1
      · obtain ⟨k0, hk1, hk2, hk3⟩ := hex
        have uniq : ∀ k, 1 ≤ k → k ≤ h → k ≠ k0 → m k ≠ h + 1 := fun k a b c e => c (hi k k0 a (by omega) hk1 (by omega) (by omega))
        have ih := bigTo_perm (f := f) h (fun k => if m k = h + 1 then m (h + 1) else m k) (fun k h1 h2 => by
          have := hr k h1 (by omega); split <;> omega) (fun j k j1 j2 k1 k2 he => by
          split at he <;> split at he
          · exact hi j k j1 (by omega) k1 (by omega) (by omega)
          · have := hi (h + 1) k (by omega) (by omega) k1 (by omega) he; omega
          · have := hi j (h + 1) j1 (by omega) (by omega) (by omega) he; omega
          · exact hi j k j1 (by omega) k1 (by omega) he)
        simp only [bigTo]
        rw [← ih]
        have sw := bigTo_swap (e := e) hc ha (g := fun k => f (m k)) (g' := fun k => f (if m k = h + 1 then m (h + 1) else m k)) hk1 hk2 (fun k a b c => by simp only [if_neg (uniq k a b c)])
        simp only [hk3, if_true] at sw
        exact sw
      · exfalso
        refine no_inj h m (fun k h1 h2 => ?_) (fun j k a b c d => hi j k a b c d)
        have := hr k h1 h2
        by_cases hk : k = h + 1
        · subst hk; omega
        · have : m k ≠ h + 1 := fun e => hex ⟨k, h1, by omega, e⟩
          omega
end

theorem sumTo_perm {f : Nat → Nat} (h : Nat) (m : Nat → Nat) (hr : ∀ k, 1 ≤ k → k ≤ h → 1 ≤ m k ∧ m k ≤ h) (hi : ∀ j k, 1 ≤ j → j ≤ h → 1 ≤ k → k ≤ h → m j = m k → j = k) :
    sumTo (fun k => f (m k)) h = sumTo f h := bigTo_perm Nat.add_comm Nat.add_assoc h m hr hi
theorem sumTo_succ (f : Nat → Nat) (h : Nat) : sumTo f (h + 1) = sumTo f h + f (h + 1) := rfl
theorem sumTo_congr {f g : Nat → Nat} {h : Nat} (hh : ∀ k, 1 ≤ k → k ≤ h → f k = g k) : sumTo f h = sumTo g h := bigTo_congr hh
theorem sumTo_add (f g : Nat → Nat) : ∀ h, sumTo (fun k => f k + g k) h = sumTo f h + sumTo g h
  | 0 => rfl
  | h + 1 => by simp only [sumTo_succ, sumTo_add f g h]; omega
theorem sumTo_mul (c : Nat) (f : Nat → Nat) : ∀ h, sumTo (fun k => c * f k) h = c * sumTo f h
  | 0 => rfl
  | h + 1 => by simp only [sumTo_succ, sumTo_mul c f h, Nat.mul_add]
theorem sumTo_mod (f g : Nat → Nat) : ∀ h, (∀ k, 1 ≤ k → k ≤ h → f k % 2 = g k % 2) → sumTo f h % 2 = sumTo g h % 2
  | 0, _ => rfl
  | h + 1, hh => by
    have := sumTo_mod f g h (fun k a b => hh k a (by omega))
    have := hh (h + 1) (by omega) (by omega)
    simp only [sumTo_succ]; omega
theorem sumTo_const (c : Nat) : ∀ h, sumTo (fun _ => c) h = c * h
  | 0 => rfl
  | h + 1 => by simp only [sumTo_succ, sumTo_const c h, Nat.mul_add, Nat.mul_one]
theorem sumTo_swap (f : Nat → Nat → Nat) : ∀ (h h' : Nat), sumTo (fun k => sumTo (fun j => f k j) h') h = sumTo (fun j => sumTo (fun k => f k j) h) h'
  | 0, h' => by
    show 0 = sumTo (fun _ => 0) h'
    rw [sumTo_const]; omega
  | h + 1, h' => by
    rw [sumTo_succ, sumTo_swap f h h', ← sumTo_add]
    exact sumTo_congr fun j _ _ => rfl

/-! ### Gauss's count -/
/-- How many of the first (n - 1) / 2 multiples of a leave more than half of n. -/
def G (a n : Nat) : Nat := sumTo (fun k => if a * k % n > n / 2 then 1 else 0) (n / 2)
/-- The least of a remainder and its negative. -/
def lst (a n k : Nat) : Nat := if a * k % n > n / 2 then n - a * k % n else a * k % n

section
variable {a n : Nat} (hn : n % 2 = 1) (hco : Nat.Coprime a n)
include hn hco
theorem rem_pos {k : Nat} (h1 : 1 ≤ k) (h2 : k < n) : 1 ≤ a * k % n := by
  rcases Nat.eq_zero_or_pos (a * k % n) with h | h
  · exfalso
    have hd := Nat.dvd_of_mod_eq_zero h
    have := Nat.Coprime.dvd_of_dvd_mul_left hco.symm hd
    have := Nat.le_of_dvd (by omega) this
    omega
  · exact h
theorem lst_range {k : Nat} (h1 : 1 ≤ k) (h2 : k ≤ n / 2) : 1 ≤ lst a n k ∧ lst a n k ≤ n / 2 := by
  have := rem_pos hn hco h1 (by omega)
  have := Nat.mod_lt (a * k) (by omega : n > 0)
  unfold lst; split <;> omega
theorem lst_inj {j k : Nat} (j1 : 1 ≤ j) (j2 : j ≤ n / 2) (k1 : 1 ≤ k) (k2 : k ≤ n / 2) (he : lst a n j = lst a n k) : j = k := by
  have key : ∀ {j k : Nat}, j ≤ k → k ≤ n / 2 → a * j % n = a * k % n → j = k := by
    intro j k hjk hk hmod
    have hd : n ∣ a * (k - j) := by
      rw [Nat.mul_sub]
      exact Nat.dvd_of_mod_eq_zero (Nat.sub_mod_eq_zero_of_mod_eq hmod.symm)
    have := Nat.Coprime.dvd_of_dvd_mul_left hco.symm hd
    rcases Nat.eq_zero_or_pos (k - j) with h0 | h0
    · omega
    · have := Nat.le_of_dvd h0 this; omega
  have key2 : a * j % n + a * k % n = n → False := by
    intro hs
    have hd : n ∣ a * (j + k) := by
      apply Nat.dvd_of_mod_eq_zero
      rw [Nat.mul_add, Nat.add_mod, hs, Nat.mod_self]
    have := Nat.Coprime.dvd_of_dvd_mul_left hco.symm hd
    have := Nat.le_of_dvd (by omega) this; omega
  have l1 := Nat.mod_lt (a * j) (by omega : n > 0)
  have l2 := Nat.mod_lt (a * k) (by omega : n > 0)
  unfold lst at he
  have fin : a * j % n = a * k % n → j = k := fun h => by
    rcases Nat.le_total j k with h' | h'
    · exact key h' k2 h
    · exact (key h' j2 h.symm).symm
  split at he <;> split at he
  · exact fin (by omega)
  · exact (key2 (by omega)).elim
  · exact (key2 (by omega)).elim
  · exact fin he
end

theorem G_mod (a n : Nat) : G (a % n) n = G a n := by
  unfold G
  refine sumTo_congr fun k _ _ => ?_
  rw [Nat.mod_mul_mod]
theorem G_one {n : Nat} : G 1 n = 0 := by
  unfold G
  rw [sumTo_congr (g := fun _ => 0) (fun k h1 h2 => ?_), sumTo_const]; · omega
  rw [Nat.one_mul, Nat.mod_eq_of_lt (by omega), if_neg (by omega)]

theorem G_mul {a b n : Nat} (hn : n % 2 = 1) (ha : Nat.Coprime a n) (hb : Nat.Coprime b n) : G (a * b) n % 2 = (G a n + G b n) % 2 := by
  have hp : G a n = sumTo (fun k => if a * lst b n k % n > n / 2 then 1 else 0) (n / 2) := by
    unfold G
    exact (sumTo_perm (f := fun k => if a * k % n > n / 2 then 1 else 0) (n / 2) (lst b n) (fun k h1 h2 => lst_range hn hb h1 h2) (fun j k => lst_inj hn hb)).symm
  rw [hp]
  unfold G
  rw [← sumTo_add]
  refine sumTo_mod _ _ _ fun k h1 h2 => ?_
  have hlr := lst_range hn hb h1 h2
  have hra := rem_pos hn ha hlr.1 (by omega)
  have e1 : a * b * k % n = a * (b * k % n) % n := by rw [Nat.mul_assoc, Nat.mul_mod_mod]
  have lb := Nat.mod_lt (b * k) (by omega : n > 0)
  have la := Nat.mod_lt (a * lst b n k) (by omega : n > 0)
  rw [e1]
  by_cases hs : b * k % n > n / 2
  · have hl : lst b n k = n - b * k % n := by unfold lst; rw [if_pos hs]
    rw [hl] at hra la ⊢
    rw [if_pos hs]
    have : a * (b * k % n) % n = n - a * (n - b * k % n) % n := by
      have hsum : (a * (b * k % n) + a * (n - b * k % n)) % n = 0 := by
        rw [← Nat.mul_add, show b * k % n + (n - b * k % n) = n by omega, Nat.mul_mod_left]
      rw [Nat.add_mod] at hsum
      have l3 := Nat.mod_lt (a * (b * k % n)) (by omega : n > 0)
      have hd := Nat.dvd_of_mod_eq_zero hsum
      obtain ⟨q, hq⟩ := hd
      have : q = 1 := by
        rcases q with _ | _ | q
        · simp at hq; omega
        · rfl
        · have : n * (q + 1 + 1) ≥ n * 2 := Nat.mul_le_mul_left n (by omega)
          omega
      subst this; omega
    rw [this]
    split <;> split <;> omega
  · have hl : lst b n k = b * k % n := by unfold lst; rw [if_neg hs]
    rw [hl, if_neg hs]
    simp

def F (a n : Nat) : Nat := sumTo (fun k => a * k / n) (n / 2)
def T (h : Nat) : Nat := sumTo (fun k => k) h
theorem T_eq : ∀ h, 2 * T h = h * (h + 1)
  | 0 => rfl
  | h + 1 => by
    have := T_eq h
    unfold T at this ⊢
    rw [sumTo_succ, Nat.mul_add, this]
    simp only [Nat.mul_add, Nat.add_mul, Nat.mul_one, Nat.one_mul]; omega

theorem gauss_sum {a n : Nat} (hn : n % 2 = 1) (ha : Nat.Coprime a n) : (a * T (n / 2)) % 2 = (F a n + G a n + T (n / 2)) % 2 := by
  have hp : T (n / 2) = sumTo (fun k => lst a n k) (n / 2) := by
    unfold T
    exact (sumTo_perm (f := fun k => k) (n / 2) (lst a n) (fun k h1 h2 => lst_range hn ha h1 h2) (fun j k => lst_inj hn ha)).symm
  conv => rhs; rw [hp]
  unfold F G T
  rw [← sumTo_mul, ← sumTo_add, ← sumTo_add]
  refine sumTo_mod _ _ _ fun k h1 h2 => ?_
  have l := Nat.mod_lt (a * k) (by omega : n > 0)
  have e := Nat.div_add_mod (a * k) n
  have em : n * (a * k / n) % 2 = a * k / n % 2 := by
    rw [Nat.mul_mod, hn, Nat.one_mul, Nat.mod_mod]
  unfold lst
  split <;> omega

theorem G_two {n : Nat} (hn : n % 2 = 1) : G 2 n % 2 = if n % 8 = 3 ∨ n % 8 = 5 then 1 else 0 := by
  have hco : Nat.Coprime 2 n := by
    have := coprime_of_prime (p := 2) (a := n) ⟨by omega, fun d hd => by have := Nat.le_of_dvd (by omega) hd; rcases d with _ | _ | _ | d <;> simp_all⟩ (by omega)
    exact this.symm
  have h := gauss_sum hn hco
  have hF : F 2 n = 0 := by
    unfold F
    rw [sumTo_congr (g := fun _ => 0) (fun k h1 h2 => Nat.div_eq_of_lt (by omega)), sumTo_const]; omega
  rw [hF] at h
  have ht := T_eq (n / 2)
  have hq : ∃ q r, n = 8 * q + r ∧ (r = 1 ∨ r = 3 ∨ r = 5 ∨ r = 7) := ⟨n / 8, n % 8, by omega, by omega⟩
  obtain ⟨q, r, rfl, hr⟩ := hq
  have h4 : (8 * q + r) / 2 = 4 * q + r / 2 := by omega
  rw [h4] at ht h
  generalize T (4 * q + r / 2) = t at ht h
  have hm : ∃ z, (4 * q + r / 2) * (4 * q + r / 2 + 1) = 4 * z + (r / 2) * (r / 2 + 1) := by
    refine ⟨4 * q * q + q * (r / 2) + q * (r / 2 + 1), ?_⟩
    simp only [Nat.add_mul, Nat.mul_add, Nat.mul_assoc, Nat.mul_comm, Nat.mul_left_comm, Nat.mul_one]; omega
  obtain ⟨z, hz⟩ := hm
  rw [hz] at ht
  rcases hr with rfl | rfl | rfl | rfl <;> simp at ht ⊢ <;> omega

theorem G_odd {a n : Nat} (hn : n % 2 = 1) (ha : Nat.Coprime a n) (hodd : a % 2 = 1) : G a n % 2 = F a n % 2 := by
  have h := gauss_sum hn ha
  rw [Nat.mul_mod, hodd, Nat.one_mul, Nat.mod_mod] at h
  omega

theorem floor_count {n x : Nat} (hn : 0 < n) : ∀ H, x / n ≤ H → sumTo (fun j => if n * j ≤ x then 1 else 0) H = x / n := by
  have key : ∀ H, sumTo (fun j => if n * j ≤ x then 1 else 0) H = min H (x / n) := by
    intro H
    induction H with
    | zero => simp [sumTo, bigTo]
    | succ H ih =>
      rw [sumTo_succ, ih]
      by_cases h : n * (H + 1) ≤ x
      · have : H + 1 ≤ x / n := (Nat.le_div_iff_mul_le hn).2 (by rw [Nat.mul_comm]; exact h)
        rw [if_pos h]; omega
      · have : ¬ H + 1 ≤ x / n := fun hh => h (by have := (Nat.le_div_iff_mul_le hn).1 hh; rw [Nat.mul_comm]; exact this)
        rw [if_neg h]; omega
  intro H hH
  rw [key]; omega

theorem F_add {a n : Nat} (hn : n % 2 = 1) (ha : a % 2 = 1) (hco : Nat.Coprime a n) : F a n + F n a = (a / 2) * (n / 2) := by
  have bound : ∀ {a n k : Nat}, n % 2 = 1 → a % 2 = 1 → k ≤ n / 2 → a * k / n ≤ a / 2 := by
    intro a n k hn ha hk
    have h1 : a * k ≤ a * (n / 2) := Nat.mul_le_mul_left a hk
    have h2 : a * k / n < a / 2 + 1 := by
      rw [Nat.div_lt_iff_lt_mul (by omega)]
      have e1 : n = 2 * (n / 2) + 1 := by omega
      have e2 : a = 2 * (a / 2) + 1 := by omega
      generalize n / 2 = p at *
      generalize a / 2 = q at *
      subst e1; subst e2
      have : (q + 1) * (2 * p + 1) = (2 * q + 1) * p + p + q + 1 := by
        simp only [Nat.add_mul, Nat.mul_add, Nat.mul_comm, Nat.mul_left_comm, Nat.mul_one, Nat.one_mul]; omega
      omega
    omega
  have f1 : F a n = sumTo (fun k => sumTo (fun j => if n * j ≤ a * k then 1 else 0) (a / 2)) (n / 2) := by
    unfold F
    exact sumTo_congr fun k h1 h2 => (floor_count (by omega) _ (bound hn ha h2)).symm
  have f2 : F n a = sumTo (fun k => sumTo (fun j => if a * k ≤ n * j then 1 else 0) (a / 2)) (n / 2) := by
    rw [sumTo_swap]
    unfold F
    exact sumTo_congr fun k h1 h2 => (floor_count (by omega) _ (bound ha hn h2)).symm
  rw [f1, f2, ← sumTo_add, sumTo_congr (g := fun _ => a / 2) (fun k h1 h2 => ?_), sumTo_const]
  rw [← sumTo_add, sumTo_congr (g := fun _ => 1) (fun j j1 j2 => ?_), sumTo_const, Nat.one_mul]
  have : n * j ≠ a * k := fun e => by
    have hd : n ∣ a * k := ⟨j, e.symm⟩
    have := Nat.Coprime.dvd_of_dvd_mul_left hco.symm hd
    have := Nat.le_of_dvd (by omega) this
    omega
  split <;> split <;> omega

/-- The law of quadratic reciprocity. -/
theorem G_swap {a n : Nat} (hn : n % 2 = 1) (ha : a % 2 = 1) (hco : Nat.Coprime a n) : G a n % 2 = (G n a + if a % 4 = 3 ∧ n % 4 = 3 then 1 else 0) % 2 := by
  have h1 := G_odd hn hco ha
  have h2 := G_odd ha hco.symm hn
  have h3 := F_add hn ha hco
  have h4 : (a / 2) * (n / 2) % 2 = if a % 4 = 3 ∧ n % 4 = 3 then 1 else 0 := by
    rw [Nat.mul_mod]
    have ea : a / 2 % 2 = if a % 4 = 3 then 1 else 0 := by split <;> omega
    have en : n / 2 % 2 = if n % 4 = 3 then 1 else 0 := by split <;> omega
    rw [ea, en]
    by_cases x1 : a % 4 = 3 <;> by_cases x2 : n % 4 = 3 <;> simp [x1, x2]
  rw [← h4, ← h3]; omega

end Go.NT
namespace Go.NT

set_option maxRecDepth 100000 in
theorem primeP : IsPrime 2147483579 := prime_of_noDiv (k := 46340) (by decide) (by decide +kernel) (by decide)
set_option maxRecDepth 100000 in
theorem primeQ : IsPrime 1073741789 := prime_of_noDiv (k := 32767) (by decide) (by decide +kernel) (by decide)

/-! ### Powers modulo m -/
theorem mul_mod_congr {a a' b b' m : Int} (ha : a % m = a' % m) (hb : b % m = b' % m) : a * b % m = a' * b' % m := by
  rw [Int.mul_emod, ha, hb, ← Int.mul_emod]
theorem pow_mod (a m : Int) : ∀ n : Nat, (a % m) ^ n % m = a ^ n % m
  | 0 => by simp
  | n + 1 => by rw [Int.pow_succ, Int.pow_succ]; exact mul_mod_congr (pow_mod a m n) (by simp)
theorem pow_mod_congr {a b m : Int} (h : a % m = b % m) (n : Nat) : a ^ n % m = b ^ n % m := by rw [← pow_mod a, h, pow_mod]

theorem int_prime_mul {p : Nat} (hp : IsPrime p) {x y : Int} (h : (p : Int) ∣ x * y) : (p : Int) ∣ x ∨ (p : Int) ∣ y := by
  have h' : p ∣ x.natAbs * y.natAbs := by
    have := Int.natAbs_dvd_natAbs.2 h
    rwa [Int.natAbs_mul, Int.natAbs_natCast] at this
  rcases prime_mul hp h' with h | h
  · exact .inl (Int.dvd_natAbs.1 (Int.natCast_dvd_natCast.2 h))
  · exact .inr (Int.dvd_natAbs.1 (Int.natCast_dvd_natCast.2 h))

def prodTo (f : Nat → Int) (h : Nat) : Int := bigTo (· * ·) 1 f h
theorem prodTo_succ (f : Nat → Int) (h : Nat) : prodTo f (h + 1) = prodTo f h * f (h + 1) := rfl
theorem prodTo_mul (f g : Nat → Int) : ∀ h, prodTo (fun k => f k * g k) h = prodTo f h * prodTo g h
  | 0 => rfl
  | h + 1 => by simp only [prodTo_succ, prodTo_mul f g h, Int.mul_assoc, Int.mul_comm, Int.mul_left_comm]
theorem prodTo_const (c : Int) : ∀ h, prodTo (fun _ => c) h = c ^ h
  | 0 => by simp [prodTo, bigTo]
  | h + 1 => by rw [prodTo_succ, prodTo_const c h, Int.pow_succ]
theorem dvd_mul_sub {p a b c d : Int} (h1 : p ∣ a - b) (h2 : p ∣ c - d) : p ∣ a * c - b * d := by
  have : a * c - b * d = (a - b) * c + b * (c - d) := by rw [Int.sub_mul, Int.mul_sub]; omega
  rw [this]
  exact Int.dvd_add (Int.dvd_mul_of_dvd_left h1) (Int.dvd_mul_of_dvd_right h2)
theorem prodTo_dvd {p : Int} {f g : Nat → Int} : ∀ h, (∀ k, 1 ≤ k → k ≤ h → p ∣ f k - g k) → p ∣ prodTo f h - prodTo g h
  | 0, _ => by simp [prodTo, bigTo]
  | h + 1, hh => by
    rw [prodTo_succ, prodTo_succ]
    exact dvd_mul_sub (prodTo_dvd h fun k a b => hh k a (by omega)) (hh (h + 1) (by omega) (by omega))
theorem prodTo_sign (s : Nat → Bool) : ∀ h, prodTo (fun k => if s k then -1 else 1) h = (-1) ^ sumTo (fun k => if s k then 1 else 0) h
  | 0 => rfl
  | h + 1 => by
    rw [prodTo_succ, sumTo_succ, prodTo_sign s h, Int.pow_add]
    cases s (h + 1) <;> simp
theorem fact_coprime {p : Nat} (hp : IsPrime p) : ∀ h, h < p → ¬ (p : Int) ∣ prodTo (fun k => (k : Int)) h
  | 0, _ => by
    intro hd
    have h1 : (p : Int) ∣ 1 := hd
    have := Int.le_of_dvd (by decide) h1
    have := hp.1; omega
  | h + 1, hh => by
    intro hd
    rw [prodTo_succ] at hd
    rcases int_prime_mul hp hd with h1 | h1
    · exact fact_coprime hp h (by omega) h1
    · have := Int.le_of_dvd (by omega) h1; omega

theorem gauss {p a : Nat} (hp : IsPrime p) (hodd : p % 2 = 1) (ha : ¬ p ∣ a) : (p : Int) ∣ (a : Int) ^ (p / 2) - (-1) ^ G a p := by
  have hco := coprime_of_prime hp ha
  let s : Nat → Bool := fun k => decide (a * k % p > p / 2)
  have h1 : (p : Int) ∣ prodTo (fun k => (a : Int) * k) (p / 2) - prodTo (fun k => (if s k then -1 else 1) * (lst a p k : Int)) (p / 2) := by
    refine prodTo_dvd _ fun k k1 k2 => ?_
    have e := Nat.div_add_mod (a * k) p
    have l := Nat.mod_lt (a * k) (by omega : p > 0)
    have e' : (a : Int) * k = p * (a * k / p : Nat) + (a * k % p : Nat) := by rw [← Int.natCast_mul, ← Int.natCast_mul, ← Int.natCast_add, e]
    rw [e']
    by_cases hs : a * k % p > p / 2
    · have hl : lst a p k = p - a * k % p := by unfold lst; rw [if_pos hs]
      simp only [s, hs, decide_true, if_true, hl]
      refine ⟨(a * k / p : Nat) + 1, ?_⟩
      rw [Int.mul_add]; omega
    · have hl : lst a p k = a * k % p := by unfold lst; rw [if_neg hs]
      simp only [s, hs, decide_false, hl]
      refine ⟨(a * k / p : Nat), ?_⟩
      simp
  rw [prodTo_mul, prodTo_mul, prodTo_const, prodTo_sign] at h1
  have h2 : prodTo (fun k => (lst a p k : Int)) (p / 2) = prodTo (fun k => (k : Int)) (p / 2) :=
    bigTo_perm (f := fun k => (k : Int)) Int.mul_comm Int.mul_assoc (p / 2) (lst a p) (fun k h1 h2 => lst_range hodd hco h1 h2) (fun j k => lst_inj hodd hco)
  rw [h2, ← Int.sub_mul] at h1
  have h3 : sumTo (fun k => if s k then 1 else 0) (p / 2) = G a p := by
    unfold G
    exact sumTo_congr fun k _ _ => by simp [s]
  rw [h3] at h1
  rcases int_prime_mul hp h1 with h | h
  · exact h
  · exact (fact_coprime hp _ (by omega) h).elim

theorem neg_one_pow (k : Nat) : (-1 : Int) ^ k = if k % 2 = 0 then 1 else -1 := by
  induction k with
  | zero => rfl
  | succ k ih => rw [Int.pow_succ, ih]; split <;> split <;> omega

/-! ### The group -/
def validS (x : Int) : Bool := decide (1 ≤ x ∧ x < 2147483579 ∧ x ^ 1073741789 % 2147483579 = 1)

theorem euler {x : Nat} (h1 : 1 ≤ x) (h2 : x < 2147483579) : (x : Int) ^ 1073741789 % 2147483579 = if G x 2147483579 % 2 = 0 then 1 else 2147483578 := by
  have h := gauss (p := 2147483579) (a := x) primeP (by decide) (fun hd => by have := Nat.le_of_dvd (by omega) hd; omega)
  rw [neg_one_pow] at h
  obtain ⟨q, hq⟩ := h
  have e : (2147483579 / 2 : Nat) = 1073741789 := by decide
  rw [e] at hq
  generalize (x : Int) ^ 1073741789 = y at *
  split at hq <;> rename_i hg
  · rw [if_pos hg]; omega
  · rw [if_neg hg]; omega

theorem validS_iff {x : Nat} (h1 : 1 ≤ x) (h2 : x < 2147483579) : validS x = decide (G x 2147483579 % 2 = 0) := by
  unfold validS
  rw [euler h1 h2]
  by_cases h : G x 2147483579 % 2 = 0 <;> simp [h] <;> omega

theorem euler_cases {x : Int} (h1 : 1 ≤ x) (h2 : x < 2147483579) : x ^ 1073741789 % 2147483579 = 1 ∨ x ^ 1073741789 % 2147483579 = 2147483578 := by
  obtain ⟨k, rfl⟩ := Int.eq_ofNat_of_zero_le (by omega : 0 ≤ x)
  rw [euler (by omega) (by omega)]
  split <;> simp

theorem validS_inv {x : Int} (h : validS x = true) : 1 ≤ x ∧ x < 2147483579 ∧ x ^ 1073741789 % 2147483579 = 1 := by simpa [validS] using h

/-- A number modulo P whose power to Q is 1. -/
theorem valid_of_pow {y : Int} (h : y ^ 1073741789 % 2147483579 = 1) : validS (y % 2147483579) = true := by
  have h1 : (y % 2147483579) ^ 1073741789 % 2147483579 = 1 := by rw [pow_mod]; exact h
  have h2 := Int.emod_nonneg y (by decide : (2147483579 : Int) ≠ 0)
  have h3 := Int.emod_lt_of_pos y (by decide : (0 : Int) < 2147483579)
  have h4 : y % 2147483579 ≠ 0 := fun e => by
    rw [e, Int.zero_pow (by decide)] at h1
    exact absurd h1 (by decide)
  simp only [validS, decide_eq_true_eq]
  exact ⟨by omega, h3, h1⟩

theorem valid_mul {a b : Int} (ha : validS a = true) (hb : validS b = true) : validS (a * b % 2147483579) = true := by
  refine valid_of_pow ?_
  rw [Int.mul_pow]
  have := mul_mod_congr (a' := 1) (b' := 1) (m := 2147483579) (by rw [(validS_inv ha).2.2]; rfl) (by rw [(validS_inv hb).2.2]; rfl)
  rw [this]; decide

theorem valid_pow {a : Int} (ha : validS a = true) (n : Nat) : validS (a ^ n % 2147483579) = true := by
  refine valid_of_pow ?_
  rw [← Int.pow_mul, Nat.mul_comm, Int.pow_mul, pow_mod_congr (b := 1) (by rw [(validS_inv ha).2.2]; rfl), Int.one_pow]
  decide

theorem valid_one : validS 1 = true := by
  simp only [validS, decide_eq_true_eq]
  exact ⟨by decide, by decide, by rw [Int.one_pow]; decide⟩

theorem pow_period {a : Int} (ha : validS a = true) (n : Nat) : a ^ (n % 1073741789) % 2147483579 = a ^ n % 2147483579 := by
  conv => rhs; rw [← Nat.div_add_mod n 1073741789, Int.pow_add, Int.pow_mul]
  have := mul_mod_congr (a := (a ^ 1073741789) ^ (n / 1073741789)) (a' := 1) (b := a ^ (n % 1073741789)) (b' := a ^ (n % 1073741789)) (m := 2147483579)
    (by rw [pow_mod_congr (b := 1) (by rw [(validS_inv ha).2.2]; rfl), Int.one_pow]) rfl
  rw [this]; simp

theorem valid_sq {x : Int} (h1 : 1 ≤ x) (h2 : x < 2147483579) : validS (x * x % 2147483579) = true := by
  refine valid_of_pow ?_
  rw [Int.mul_pow]
  rcases euler_cases h1 h2 with h | h
  · rw [mul_mod_congr (a' := 1) (b' := 1) (by rw [h]; rfl) (by rw [h]; rfl)]; decide
  · rw [mul_mod_congr (a' := 2147483578) (b' := 2147483578) (by rw [h]; rfl) (by rw [h]; rfl)]; decide

theorem neg_pow_odd (x : Int) (k : Nat) (h : k % 2 = 1) : (-x) ^ k = - (x ^ k) := by
  have : -x = (-1) * x := by omega
  rw [this, Int.mul_pow, neg_one_pow, if_neg (by omega)]; omega

theorem valid_neg {x : Int} (h1 : 1 ≤ x) (h2 : x < 2147483579) : validS (2147483579 - x) = !validS x := by
  have e : (2147483579 - x) ^ 1073741789 % 2147483579 = (- (x ^ 1073741789)) % 2147483579 := by
    rw [← neg_pow_odd _ _ (by decide)]
    exact pow_mod_congr (by omega) _
  have e2 : (- (x ^ 1073741789)) % 2147483579 = if x ^ 1073741789 % 2147483579 = 1 then 2147483578 else 1 := by
    rcases euler_cases h1 h2 with h | h
    · generalize x ^ 1073741789 = y at *; rw [if_pos h]; omega
    · generalize x ^ 1073741789 = y at *; rw [if_neg (by omega)]; omega
  unfold validS
  rw [e, e2]
  rcases euler_cases h1 h2 with h | h <;> rw [h] <;> simp <;> omega

end Go.NT
