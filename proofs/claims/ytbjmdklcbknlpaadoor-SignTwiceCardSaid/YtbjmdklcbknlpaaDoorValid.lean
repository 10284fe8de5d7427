/- The walk of group.Valid. -/
import Derived.Test.YtbjmdklcbknlpaaDoorGroupA
namespace Go.Sg
open Go.Rn Go.NT Go.Proofs
theorem coprime_mod {x n : Nat} (h : Nat.Coprime x n) : Nat.Coprime (n % x) x := by
  have : Nat.gcd (n % x) x = 1 := by rw [← Nat.gcd_rec]; exact h
  exact this

/-- What stays the same while group.Valid reduces: the sign of the symbol. -/
def VInv (x0 : Nat) (s : Nat × Nat × Bool) : Prop :=
  1 ≤ s.1 ∧ s.1 < 2147483579 ∧ s.2.1 ≤ 2147483579 ∧ 1 ≤ s.2.1 ∧ s.2.1 % 2 = 1 ∧ Nat.Coprime s.1 s.2.1 ∧ G x0 2147483579 % 2 = (G s.1 s.2.1 + if s.2.2 then 0 else 1) % 2

theorem VInv.half {x0 x n : Nat} {sq : Bool} (h : VInv x0 (x, n, sq)) (hx : x % 2 = 0) : VInv x0 (x / 2, n, if n % 8 = 3 ∨ n % 8 = 5 then !sq else sq) := by
  obtain ⟨h1, h2, h3, h4, h5, h6, h7⟩ := h
  simp only at h1 h2 h3 h4 h5 h6 h7
  have hc : Nat.Coprime (x / 2) n := Nat.Coprime.coprime_dvd_left ⟨2, by omega⟩ h6
  have h2c : Nat.Coprime 2 n := Nat.Coprime.coprime_dvd_left ⟨x / 2, by omega⟩ h6
  refine ⟨by simp only; omega, by simp only; omega, h3, h4, h5, hc, ?_⟩
  have e : x = 2 * (x / 2) := by omega
  rw [h7]
  conv => lhs; rw [e]
  have hm := G_mul h5 h2c hc
  have ht := G_two h5
  simp only
  by_cases h8 : n % 8 = 3 ∨ n % 8 = 5
  · rw [if_pos h8] at ht ⊢
    cases sq <;> simp <;> omega
  · rw [if_neg h8] at ht ⊢
    cases sq <;> simp <;> omega

theorem VInv.swap {x0 x n : Nat} {sq : Bool} (h : VInv x0 (x, n, sq)) (hx : x % 2 = 1) (h1x : x ≠ 1) : VInv x0 (n % x, x, if x % 4 = 3 ∧ n % 4 = 3 then !sq else sq) := by
  obtain ⟨h1, h2, h3, h4, h5, h6, h7⟩ := h
  simp only at h1 h2 h3 h4 h5 h6 h7
  have hc := coprime_mod h6
  have hp : n % x ≠ 0 := fun e => by rw [e] at hc; simp [Nat.Coprime] at hc; omega
  have hl := Nat.mod_lt n (by omega : x > 0)
  refine ⟨by simp only; omega, by simp only; omega, by simp only; omega, h1, hx, hc, ?_⟩
  have hs := G_swap h5 hx h6
  rw [h7]
  simp only
  rw [G_mod]
  by_cases h8 : x % 4 = 3 ∧ n % 4 = 3
  · rw [if_pos h8] at hs ⊢
    cases sq <;> simp <;> omega
  · rw [if_neg h8] at hs ⊢
    cases sq <;> simp <;> omega

theorem VInv.done {x0 n : Nat} {sq : Bool} (h1 : 1 ≤ x0) (h2 : x0 < 2147483579) (h : VInv x0 (1, n, sq)) : validS x0 = sq := by
  have h7 := h.2.2.2.2.2.2
  rw [validS_iff h1 h2, h7]
  simp only [G_one]
  cases sq <;> simp

theorem VInv.start {x0 : Nat} (h1 : 1 ≤ x0) (h2 : x0 < 2147483579) : VInv x0 (x0, 2147483579, true) := by
  unfold VInv
  simp only
  have hg : ∀ g : Nat, g % 2 = (g + if true = true then 0 else 1) % 2 := fun g => by simp
  refine ⟨h1, h2, Nat.le_refl _, by decide, by decide, coprime_of_prime primeP (fun hd => ?_), hg _⟩
  have := Nat.le_of_dvd (by omega) hd; omega

def vEnv (s : Nat × Nat × Bool) : Env := [(0, .int .i64 (s.1 : Int)), (3, .int .i64 (s.2.1 : Int)), (4, .bool s.2.2)]

theorem valid_ok (x : Int) (w : World) : Rets Tryd.prog 23 [.int .i64 x] w fun v w' => v = .bool (validS x) ∧ w = w' := by
  refine RetsX.of (nt := 45) Tryd.func23 (by kernel_rfl) rfl rfl (by simp) (by simp only [argEnv]; rfl) ?_
  repeat (first | refine RunL.pureI Tryd.tOk rfl rfl rfl (by (first | exact wr_i64 (by omega) (by omega) | exact wm_i64 (by omega) | exact wq_i64 (by omega) (by omega) (by omega) | rfl)) ?_ | refine RunL.pure Tryd.tOk rfl rfl rfl ?_ | refine RunL.unwantedD rfl rfl ?_ | refine RunE.seq ?_ | refine RunE.region ?_ | refine RunL.nil ?_ | refine RunE.block ?_ | refine RunE.inBlock ?_ | refine RunE.skip ?_ | refine RunE.exit rfl ?_ | refine RunE.scope ?_ | refine RunE.inScope ?_ | refine RunE.label ?_)
  cases hx1 : decide (x < 1) with
  | true =>
    have hx : x < 1 := of_decide_eq_true hx1
    repeat (first | refine RunL.pureI Tryd.tOk rfl rfl rfl (by (first | exact wr_i64 (by omega) (by omega) | exact wm_i64 (by omega) | exact wq_i64 (by omega) (by omega) (by omega) | rfl)) ?_ | refine RunL.pure Tryd.tOk rfl rfl rfl ?_ | refine RunL.unwantedD rfl rfl ?_ | refine RunE.seq ?_ | refine RunE.region ?_ | refine RunL.nil ?_ | refine RunE.block ?_ | refine RunE.inBlock ?_ | refine RunE.skip ?_ | refine RunE.exit rfl ?_ | refine RunE.scope ?_ | refine RunE.inScope ?_ | refine RunE.label ?_)
    refine RunE.condT rfl rfl ?_
    repeat (first | refine RunL.pureI Tryd.tOk rfl rfl rfl (by (first | exact wr_i64 (by omega) (by omega) | exact wm_i64 (by omega) | exact wq_i64 (by omega) (by omega) (by omega) | rfl)) ?_ | refine RunL.pure Tryd.tOk rfl rfl rfl ?_ | refine RunL.unwantedD rfl rfl ?_ | refine RunE.seq ?_ | refine RunE.region ?_ | refine RunL.nil ?_ | refine RunE.block ?_ | refine RunE.inBlock ?_ | refine RunE.skip ?_ | refine RunE.exit rfl ?_ | refine RunE.scope ?_ | refine RunE.inScope ?_ | refine RunE.label ?_)
    refine RunE.retFn Tryd.func23 (.tmp rfl .nil) ⟨?_, rfl⟩
    simp only [oneOr, validS]
    congr 1
    exact (decide_eq_false (by omega)).symm
  | false =>
    have hx : ¬ x < 1 := of_decide_eq_false hx1
    repeat (first | refine RunL.pureI Tryd.tOk rfl rfl rfl (by (first | exact wr_i64 (by omega) (by omega) | exact wm_i64 (by omega) | exact wq_i64 (by omega) (by omega) (by omega) | rfl)) ?_ | refine RunL.pure Tryd.tOk rfl rfl rfl ?_ | refine RunL.unwantedD rfl rfl ?_ | refine RunE.seq ?_ | refine RunE.region ?_ | refine RunL.nil ?_ | refine RunE.block ?_ | refine RunE.inBlock ?_ | refine RunE.skip ?_ | refine RunE.exit rfl ?_ | refine RunE.scope ?_ | refine RunE.inScope ?_ | refine RunE.label ?_)
    refine RunE.cond rfl (fun hx2 => ?_) (fun hx2 => ?_) <;> (first | replace hx2 := of_decide_eq_true hx2 | replace hx2 := of_decide_eq_false hx2 | replace hx2 := beq_iff_eq.1 hx2 | replace hx2 := beq_eq_false_iff_ne.1 hx2 | replace hx2 := bne_iff_ne.1 hx2 | replace hx2 := bne_eq_false_iff_eq.1 hx2 | skip)
    · repeat (first | refine RunL.pureI Tryd.tOk rfl rfl rfl (by (first | exact wr_i64 (by omega) (by omega) | exact wm_i64 (by omega) | exact wq_i64 (by omega) (by omega) (by omega) | rfl)) ?_ | refine RunL.pure Tryd.tOk rfl rfl rfl ?_ | refine RunL.unwantedD rfl rfl ?_ | refine RunE.seq ?_ | refine RunE.region ?_ | refine RunL.nil ?_ | refine RunE.block ?_ | refine RunE.inBlock ?_ | refine RunE.skip ?_ | refine RunE.exit rfl ?_ | refine RunE.scope ?_ | refine RunE.inScope ?_ | refine RunE.label ?_)
      refine RunE.retFn Tryd.func23 (.tmp rfl .nil) ⟨?_, rfl⟩
      simp only [oneOr, validS]
      congr 1
      exact (decide_eq_false (by omega)).symm
    · obtain ⟨x0, rfl⟩ := Int.eq_ofNat_of_zero_le (by omega : 0 ≤ x)
      have h1 : 1 ≤ x0 := by omega
      have h2 : x0 < 2147483579 := by omega
      repeat (first | refine RunL.pureI Tryd.tOk rfl rfl rfl (by (first | exact wr_i64 (by omega) (by omega) | exact wm_i64 (by omega) | exact wq_i64 (by omega) (by omega) (by omega) | rfl)) ?_ | refine RunL.pure Tryd.tOk rfl rfl rfl ?_ | refine RunL.unwantedD rfl rfl ?_ | refine RunE.seq ?_ | refine RunE.region ?_ | refine RunL.nil ?_ | refine RunE.block ?_ | refine RunE.inBlock ?_ | refine RunE.skip ?_ | refine RunE.exit rfl ?_ | refine RunE.scope ?_ | refine RunE.inScope ?_ | refine RunE.label ?_)
      have hv0 := VInv.start h1 h2
      refine RunE.loop (ι := Nat × Nat × Bool) vEnv (fun s w' => w = w' ∧ VInv x0 s) (fun s => s.1) (x0, 2147483579, true) (by unfold vEnv; exact (by repeat (first | exact Sub.nil _ | refine Sub.cons rfl ?_))) ⟨rfl, hv0⟩ ?_
      rintro ⟨y, n, sq⟩ _ ⟨rfl, hv⟩ IH
      have hv' := hv
      obtain ⟨b1, b2, b3, b4, b5, b6, _⟩ := hv'
      simp only at b1 b2 b3 b4 b5 b6
      unfold vEnv
      dsimp only
      repeat (first | refine RunL.pureI Tryd.tOk rfl rfl rfl (by (first | exact wr_i64 (by omega) (by omega) | exact wm_i64 (by omega) | exact wq_i64 (by omega) (by omega) (by omega) | rfl)) ?_ | refine RunL.pure Tryd.tOk rfl rfl rfl ?_ | refine RunL.unwantedD rfl rfl ?_ | refine RunE.seq ?_ | refine RunE.region ?_ | refine RunL.nil ?_ | refine RunE.block ?_ | refine RunE.inBlock ?_ | refine RunE.skip ?_ | refine RunE.exit rfl ?_ | refine RunE.scope ?_ | refine RunE.inScope ?_ | refine RunE.label ?_)
      refine RunE.cond rfl (fun hy1 => ?_) (fun hy1 => ?_) <;> (first | replace hy1 := of_decide_eq_true hy1 | replace hy1 := of_decide_eq_false hy1 | replace hy1 := beq_iff_eq.1 hy1 | replace hy1 := beq_eq_false_iff_ne.1 hy1 | replace hy1 := bne_iff_ne.1 hy1 | replace hy1 := bne_eq_false_iff_eq.1 hy1 | skip)
      · repeat (first | refine RunL.pureI Tryd.tOk rfl rfl rfl (by (first | exact wr_i64 (by omega) (by omega) | exact wm_i64 (by omega) | exact wq_i64 (by omega) (by omega) (by omega) | rfl)) ?_ | refine RunL.pure Tryd.tOk rfl rfl rfl ?_ | refine RunL.unwantedD rfl rfl ?_ | refine RunE.seq ?_ | refine RunE.region ?_ | refine RunL.nil ?_ | refine RunE.block ?_ | refine RunE.inBlock ?_ | refine RunE.skip ?_ | refine RunE.exit rfl ?_ | refine RunE.scope ?_ | refine RunE.inScope ?_ | refine RunE.label ?_)
        have hy : 1 < y := by omega
        refine RunE.loop (ι := Nat × Bool) (fun s => vEnv (s.1, n, s.2)) (fun s w' => w = w' ∧ VInv x0 (s.1, n, s.2) ∧ s.1 ≤ y) (fun s => s.1) (y, sq) (by unfold vEnv; exact (by repeat (first | exact Sub.nil _ | refine Sub.cons rfl ?_))) ⟨rfl, hv, Nat.le_refl _⟩ ?_
        rintro ⟨z, sq2⟩ _ ⟨rfl, hz, hzy⟩ IH2
        have hz' := hz
        obtain ⟨c1, c2, c3, c4, c5, c6, _⟩ := hz'
        simp only at c1 c2 c3 c4 c5 c6 hzy
        unfold vEnv
        dsimp only
        repeat (first | refine RunL.pureI Tryd.tOk rfl rfl rfl (by (first | exact wr_i64 (by omega) (by omega) | exact wm_i64 (by omega) | exact wq_i64 (by omega) (by omega) (by omega) | rfl)) ?_ | refine RunL.pure Tryd.tOk rfl rfl rfl ?_ | refine RunL.unwantedD rfl rfl ?_ | refine RunE.seq ?_ | refine RunE.region ?_ | refine RunL.nil ?_ | refine RunE.block ?_ | refine RunE.inBlock ?_ | refine RunE.skip ?_ | refine RunE.exit rfl ?_ | refine RunE.scope ?_ | refine RunE.inScope ?_ | refine RunE.label ?_)
        refine RunE.cond rfl (fun hev => ?_) (fun hev => ?_) <;> (first | replace hev := of_decide_eq_true hev | replace hev := of_decide_eq_false hev | replace hev := beq_iff_eq.1 hev | replace hev := beq_eq_false_iff_ne.1 hev | replace hev := bne_iff_ne.1 hev | replace hev := bne_eq_false_iff_eq.1 hev | skip)
        · have hz2 := hz.half (by omega)
          repeat (first | refine RunL.pureI Tryd.tOk rfl rfl rfl (by (first | exact wr_i64 (by omega) (by omega) | exact wm_i64 (by omega) | exact wq_i64 (by omega) (by omega) (by omega) | rfl)) ?_ | refine RunL.pure Tryd.tOk rfl rfl rfl ?_ | refine RunL.unwantedD rfl rfl ?_ | refine RunE.seq ?_ | refine RunE.region ?_ | refine RunL.nil ?_ | refine RunE.block ?_ | refine RunE.inBlock ?_ | refine RunE.skip ?_ | refine RunE.exit rfl ?_ | refine RunE.scope ?_ | refine RunE.inScope ?_ | refine RunE.label ?_)
          have fin : ∀ (b : Bool), b = decide (n % 8 = 3 ∨ n % 8 = 5) → VInv x0 (z / 2, n, if b then !sq2 else sq2) := fun b hb => by
            subst hb; simpa using hz2
          have done : ∀ b : Bool, VInv x0 (z / 2, n, b) → RunE Tryd.prog ⟨23, .normal, none⟩ 45 [] _ _ (vEnv (z / 2, n, b)) w := fun b hb => IH2 (z / 2, b) _ (by simp only; omega) ⟨rfl, hb, by simp only; omega⟩
          cases h3 : ((n : Int) % 8 == 3) with
          | true =>
            have h3' : n % 8 = 3 := by have := beq_iff_eq.1 h3; omega
            repeat (first | refine RunL.pureI Tryd.tOk rfl rfl rfl (by (first | exact wr_i64 (by omega) (by omega) | exact wm_i64 (by omega) | exact wq_i64 (by omega) (by omega) (by omega) | rfl)) ?_ | refine RunL.pure Tryd.tOk rfl rfl rfl ?_ | refine RunL.unwantedD rfl rfl ?_ | refine RunE.seq ?_ | refine RunE.region ?_ | refine RunL.nil ?_ | refine RunE.block ?_ | refine RunE.inBlock ?_ | refine RunE.skip ?_ | refine RunE.exit rfl ?_ | refine RunE.scope ?_ | refine RunE.inScope ?_ | refine RunE.label ?_)
            refine RunE.condT rfl rfl ?_
            repeat (first | refine RunL.pureI Tryd.tOk rfl rfl rfl (by (first | exact wr_i64 (by omega) (by omega) | exact wm_i64 (by omega) | exact wq_i64 (by omega) (by omega) (by omega) | rfl)) ?_ | refine RunL.pure Tryd.tOk rfl rfl rfl ?_ | refine RunL.unwantedD rfl rfl ?_ | refine RunE.seq ?_ | refine RunE.region ?_ | refine RunL.nil ?_ | refine RunE.block ?_ | refine RunE.inBlock ?_ | refine RunE.skip ?_ | refine RunE.exit rfl ?_ | refine RunE.scope ?_ | refine RunE.inScope ?_ | refine RunE.label ?_)
            refine RunE.weaken ?_ (done _ (fin true (by simp [h3'])))
            unfold vEnv; exact (by repeat (first | exact Sub.nil _ | refine Sub.cons rfl ?_))
          | false =>
            have h3' : n % 8 ≠ 3 := by have := beq_eq_false_iff_ne.1 h3; omega
            repeat (first | refine RunL.pureI Tryd.tOk rfl rfl rfl (by (first | exact wr_i64 (by omega) (by omega) | exact wm_i64 (by omega) | exact wq_i64 (by omega) (by omega) (by omega) | rfl)) ?_ | refine RunL.pure Tryd.tOk rfl rfl rfl ?_ | refine RunL.unwantedD rfl rfl ?_ | refine RunE.seq ?_ | refine RunE.region ?_ | refine RunL.nil ?_ | refine RunE.block ?_ | refine RunE.inBlock ?_ | refine RunE.skip ?_ | refine RunE.exit rfl ?_ | refine RunE.scope ?_ | refine RunE.inScope ?_ | refine RunE.label ?_)
            refine RunE.cond rfl (fun h5 => ?_) (fun h5 => ?_) <;> (first | replace h5 := of_decide_eq_true h5 | replace h5 := of_decide_eq_false h5 | replace h5 := beq_iff_eq.1 h5 | replace h5 := beq_eq_false_iff_ne.1 h5 | replace h5 := bne_iff_ne.1 h5 | replace h5 := bne_eq_false_iff_eq.1 h5 | skip)
            · repeat (first | refine RunL.pureI Tryd.tOk rfl rfl rfl (by (first | exact wr_i64 (by omega) (by omega) | exact wm_i64 (by omega) | exact wq_i64 (by omega) (by omega) (by omega) | rfl)) ?_ | refine RunL.pure Tryd.tOk rfl rfl rfl ?_ | refine RunL.unwantedD rfl rfl ?_ | refine RunE.seq ?_ | refine RunE.region ?_ | refine RunL.nil ?_ | refine RunE.block ?_ | refine RunE.inBlock ?_ | refine RunE.skip ?_ | refine RunE.exit rfl ?_ | refine RunE.scope ?_ | refine RunE.inScope ?_ | refine RunE.label ?_)
              refine RunE.weaken ?_ (done _ (fin true (by simp; omega)))
              unfold vEnv; exact (by repeat (first | exact Sub.nil _ | refine Sub.cons rfl ?_))
            · repeat (first | refine RunL.pureI Tryd.tOk rfl rfl rfl (by (first | exact wr_i64 (by omega) (by omega) | exact wm_i64 (by omega) | exact wq_i64 (by omega) (by omega) (by omega) | rfl)) ?_ | refine RunL.pure Tryd.tOk rfl rfl rfl ?_ | refine RunL.unwantedD rfl rfl ?_ | refine RunE.seq ?_ | refine RunE.region ?_ | refine RunL.nil ?_ | refine RunE.block ?_ | refine RunE.inBlock ?_ | refine RunE.skip ?_ | refine RunE.exit rfl ?_ | refine RunE.scope ?_ | refine RunE.inScope ?_ | refine RunE.label ?_)
              refine RunE.weaken ?_ (done _ (fin false (by simp; omega)))
              unfold vEnv; exact (by repeat (first | exact Sub.nil _ | refine Sub.cons rfl ?_))
        · repeat (first | refine RunL.pureI Tryd.tOk rfl rfl rfl (by (first | exact wr_i64 (by omega) (by omega) | exact wm_i64 (by omega) | exact wq_i64 (by omega) (by omega) (by omega) | rfl)) ?_ | refine RunL.pure Tryd.tOk rfl rfl rfl ?_ | refine RunL.unwantedD rfl rfl ?_ | refine RunE.seq ?_ | refine RunE.region ?_ | refine RunL.nil ?_ | refine RunE.block ?_ | refine RunE.inBlock ?_ | refine RunE.skip ?_ | refine RunE.exit rfl ?_ | refine RunE.scope ?_ | refine RunE.inScope ?_ | refine RunE.label ?_)
          refine RunE.cond rfl (fun hz1 => ?_) (fun hz1 => ?_) <;> (first | replace hz1 := of_decide_eq_true hz1 | replace hz1 := of_decide_eq_false hz1 | replace hz1 := beq_iff_eq.1 hz1 | replace hz1 := beq_eq_false_iff_ne.1 hz1 | replace hz1 := bne_iff_ne.1 hz1 | replace hz1 := bne_eq_false_iff_eq.1 hz1 | skip)
          · repeat (first | refine RunL.pureI Tryd.tOk rfl rfl rfl (by (first | exact wr_i64 (by omega) (by omega) | exact wm_i64 (by omega) | exact wq_i64 (by omega) (by omega) (by omega) | rfl)) ?_ | refine RunL.pure Tryd.tOk rfl rfl rfl ?_ | refine RunL.unwantedD rfl rfl ?_ | refine RunE.seq ?_ | refine RunE.region ?_ | refine RunL.nil ?_ | refine RunE.block ?_ | refine RunE.inBlock ?_ | refine RunE.skip ?_ | refine RunE.exit rfl ?_ | refine RunE.scope ?_ | refine RunE.inScope ?_ | refine RunE.label ?_)
            refine RunE.retFn Tryd.func23 (.tmp rfl .nil) ⟨?_, rfl⟩
            have : z = 1 := by omega
            subst this
            simp only [oneOr]
            rw [hz.done h1 h2]
          · have hz3 := hz.swap (by omega) (by omega)
            repeat (first | refine RunL.pureI Tryd.tOk rfl rfl rfl (by (first | exact wr_i64 (by omega) (by omega) | exact wm_i64 (by omega) | exact wq_i64 (by omega) (by omega) (by omega) | rfl)) ?_ | refine RunL.pure Tryd.tOk rfl rfl rfl ?_ | refine RunL.unwantedD rfl rfl ?_ | refine RunE.seq ?_ | refine RunE.region ?_ | refine RunL.nil ?_ | refine RunE.block ?_ | refine RunE.inBlock ?_ | refine RunE.skip ?_ | refine RunE.exit rfl ?_ | refine RunE.scope ?_ | refine RunE.inScope ?_ | refine RunE.label ?_)
            have done : ∀ b : Bool, VInv x0 (n % z, z, b) → RunE Tryd.prog ⟨23, .normal, none⟩ 45 [] _ _ (vEnv (n % z, z, b)) w := fun b hb => IH (n % z, z, b) _ (by simp only; have := Nat.mod_lt n (by omega : z > 0); omega) ⟨rfl, hb⟩
            have hrem : (n : Int).tmod (z : Int) = ((n % z : Nat) : Int) := by rw [Int.tmod_eq_emod_of_nonneg (by omega)]; omega
            cases h3 : ((z : Int) % 4 == 3) with
            | false =>
              have h3' : z % 4 ≠ 3 := by have := beq_eq_false_iff_ne.1 h3; omega
              rw [if_neg (by omega)] at hz3
              repeat (first | refine RunL.pureI Tryd.tOk rfl rfl rfl (by (first | exact wr_i64 (by omega) (by omega) | exact wm_i64 (by omega) | exact wq_i64 (by omega) (by omega) (by omega) | rfl)) ?_ | refine RunL.pure Tryd.tOk rfl rfl rfl ?_ | refine RunL.unwantedD rfl rfl ?_ | refine RunE.seq ?_ | refine RunE.region ?_ | refine RunL.nil ?_ | refine RunE.block ?_ | refine RunE.inBlock ?_ | refine RunE.skip ?_ | refine RunE.exit rfl ?_ | refine RunE.scope ?_ | refine RunE.inScope ?_ | refine RunE.label ?_)
              refine RunE.condF rfl rfl ?_
              repeat (first | refine RunL.pureI Tryd.tOk rfl rfl rfl (by (first | exact wr_i64 (by omega) (by omega) | exact wm_i64 (by omega) | exact wq_i64 (by omega) (by omega) (by omega) | rfl)) ?_ | refine RunL.pure Tryd.tOk rfl rfl rfl ?_ | refine RunL.unwantedD rfl rfl ?_ | refine RunE.seq ?_ | refine RunE.region ?_ | refine RunL.nil ?_ | refine RunE.block ?_ | refine RunE.inBlock ?_ | refine RunE.skip ?_ | refine RunE.exit rfl ?_ | refine RunE.scope ?_ | refine RunE.inScope ?_ | refine RunE.label ?_)
              refine RunL.rem rfl rfl rfl rfl (by omega) hrem ?_
              repeat (first | refine RunL.pureI Tryd.tOk rfl rfl rfl (by (first | exact wr_i64 (by omega) (by omega) | exact wm_i64 (by omega) | exact wq_i64 (by omega) (by omega) (by omega) | rfl)) ?_ | refine RunL.pure Tryd.tOk rfl rfl rfl ?_ | refine RunL.unwantedD rfl rfl ?_ | refine RunE.seq ?_ | refine RunE.region ?_ | refine RunL.nil ?_ | refine RunE.block ?_ | refine RunE.inBlock ?_ | refine RunE.skip ?_ | refine RunE.exit rfl ?_ | refine RunE.scope ?_ | refine RunE.inScope ?_ | refine RunE.label ?_)
              refine RunE.weaken ?_ (done _ hz3)
              unfold vEnv; exact (by repeat (first | exact Sub.nil _ | refine Sub.cons rfl ?_))
            | true =>
              have h3' : z % 4 = 3 := by have := beq_iff_eq.1 h3; omega
              repeat (first | refine RunL.pureI Tryd.tOk rfl rfl rfl (by (first | exact wr_i64 (by omega) (by omega) | exact wm_i64 (by omega) | exact wq_i64 (by omega) (by omega) (by omega) | rfl)) ?_ | refine RunL.pure Tryd.tOk rfl rfl rfl ?_ | refine RunL.unwantedD rfl rfl ?_ | refine RunE.seq ?_ | refine RunE.region ?_ | refine RunL.nil ?_ | refine RunE.block ?_ | refine RunE.inBlock ?_ | refine RunE.skip ?_ | refine RunE.exit rfl ?_ | refine RunE.scope ?_ | refine RunE.inScope ?_ | refine RunE.label ?_)
              refine RunE.cond rfl (fun h4 => ?_) (fun h4 => ?_) <;> (first | replace h4 := of_decide_eq_true h4 | replace h4 := of_decide_eq_false h4 | replace h4 := beq_iff_eq.1 h4 | replace h4 := beq_eq_false_iff_ne.1 h4 | replace h4 := bne_iff_ne.1 h4 | replace h4 := bne_eq_false_iff_eq.1 h4 | skip)
              · rw [if_pos (by omega)] at hz3
                repeat (first | refine RunL.pureI Tryd.tOk rfl rfl rfl (by (first | exact wr_i64 (by omega) (by omega) | exact wm_i64 (by omega) | exact wq_i64 (by omega) (by omega) (by omega) | rfl)) ?_ | refine RunL.pure Tryd.tOk rfl rfl rfl ?_ | refine RunL.unwantedD rfl rfl ?_ | refine RunE.seq ?_ | refine RunE.region ?_ | refine RunL.nil ?_ | refine RunE.block ?_ | refine RunE.inBlock ?_ | refine RunE.skip ?_ | refine RunE.exit rfl ?_ | refine RunE.scope ?_ | refine RunE.inScope ?_ | refine RunE.label ?_)
                refine RunL.rem rfl rfl rfl rfl (by omega) hrem ?_
                repeat (first | refine RunL.pureI Tryd.tOk rfl rfl rfl (by (first | exact wr_i64 (by omega) (by omega) | exact wm_i64 (by omega) | exact wq_i64 (by omega) (by omega) (by omega) | rfl)) ?_ | refine RunL.pure Tryd.tOk rfl rfl rfl ?_ | refine RunL.unwantedD rfl rfl ?_ | refine RunE.seq ?_ | refine RunE.region ?_ | refine RunL.nil ?_ | refine RunE.block ?_ | refine RunE.inBlock ?_ | refine RunE.skip ?_ | refine RunE.exit rfl ?_ | refine RunE.scope ?_ | refine RunE.inScope ?_ | refine RunE.label ?_)
                refine RunE.weaken ?_ (done _ hz3)
                unfold vEnv; exact (by repeat (first | exact Sub.nil _ | refine Sub.cons rfl ?_))
              · rw [if_neg (by omega)] at hz3
                repeat (first | refine RunL.pureI Tryd.tOk rfl rfl rfl (by (first | exact wr_i64 (by omega) (by omega) | exact wm_i64 (by omega) | exact wq_i64 (by omega) (by omega) (by omega) | rfl)) ?_ | refine RunL.pure Tryd.tOk rfl rfl rfl ?_ | refine RunL.unwantedD rfl rfl ?_ | refine RunE.seq ?_ | refine RunE.region ?_ | refine RunL.nil ?_ | refine RunE.block ?_ | refine RunE.inBlock ?_ | refine RunE.skip ?_ | refine RunE.exit rfl ?_ | refine RunE.scope ?_ | refine RunE.inScope ?_ | refine RunE.label ?_)
                refine RunL.rem rfl rfl rfl rfl (by omega) hrem ?_
                repeat (first | refine RunL.pureI Tryd.tOk rfl rfl rfl (by (first | exact wr_i64 (by omega) (by omega) | exact wm_i64 (by omega) | exact wq_i64 (by omega) (by omega) (by omega) | rfl)) ?_ | refine RunL.pure Tryd.tOk rfl rfl rfl ?_ | refine RunL.unwantedD rfl rfl ?_ | refine RunE.seq ?_ | refine RunE.region ?_ | refine RunL.nil ?_ | refine RunE.block ?_ | refine RunE.inBlock ?_ | refine RunE.skip ?_ | refine RunE.exit rfl ?_ | refine RunE.scope ?_ | refine RunE.inScope ?_ | refine RunE.label ?_)
                refine RunE.weaken ?_ (done _ hz3)
                unfold vEnv; exact (by repeat (first | exact Sub.nil _ | refine Sub.cons rfl ?_))
      · repeat (first | refine RunL.pureI Tryd.tOk rfl rfl rfl (by (first | exact wr_i64 (by omega) (by omega) | exact wm_i64 (by omega) | exact wq_i64 (by omega) (by omega) (by omega) | rfl)) ?_ | refine RunL.pure Tryd.tOk rfl rfl rfl ?_ | refine RunL.unwantedD rfl rfl ?_ | refine RunE.seq ?_ | refine RunE.region ?_ | refine RunL.nil ?_ | refine RunE.block ?_ | refine RunE.inBlock ?_ | refine RunE.skip ?_ | refine RunE.exit rfl ?_ | refine RunE.scope ?_ | refine RunE.inScope ?_ | refine RunE.label ?_)
        refine RunE.retFn Tryd.func23 (.tmp rfl .nil) ⟨?_, rfl⟩
        have : y = 1 := by omega
        subst this
        simp only [oneOr]
        rw [hv.done h1 h2]

end Go.Sg
