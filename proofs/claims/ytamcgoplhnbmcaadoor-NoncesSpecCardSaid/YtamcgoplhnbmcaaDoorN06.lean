/- Parts of this project that the claims share: Valid, GroupB, Group, Ref10, GroupC, GroupFacts, Sign1, Sign2, BestS, NonS, DevS, MapR, Dev1, RecOps, Dev5. -/
import Derived.Test.YtamcgoplhnbmcaaDoorN05
import Derived.Test.YtamcgoplhnbmcaaDoorN04
import Derived.Test.YtamcgoplhnbmcaaDoorN03
import Derived.Maps.RangeRun
import Derived.Lib.AppendZerosOnto
import Derived.Lib.Overlaps
set_option linter.unusedSimpArgs false
set_option linter.unusedVariables false
set_option linter.unusedSectionVars false
section
/- The walk of group.Valid. -/
namespace Go.Sg
open Go.Rn Go.NT Go.Proofs
theorem coprime_mod {x n : Nat} (h : Nat.Coprime x n) : Nat.Coprime (n % x) x := by
  have : Nat.gcd (n % x) x = 1 := by rw [← Nat.gcd_rec]; exact h
  exact this

/-- What stays the same while group.Valid reduces: the sign of the symbol. -/
def VInv (x0 : Nat) (s : Nat × Nat × Bool) : Prop :=
  1 ≤ s.1 ∧ s.1 < 2147483579 ∧ s.2.1 ≤ 2147483579 ∧ 1 ≤ s.2.1 ∧ s.2.1 % 2 = 1 ∧ Nat.Coprime s.1 s.2.1 ∧ G x0 2147483579 % 2 = (G s.1 s.2.1 + if s.2.2 then 0 else 1) % 2

theorem VInv.half {x0 x n : Nat} {sq : Bool} (h : VInv x0 (x, n, sq)) (hx : x % 2 = 0) : VInv x0 (x / 2, n, if n % 8 = 3 ∨ n % 8 = 5 then !sq else sq) := by
  obtain ⟨h1, h2, h3, h4, h5, h6, h7⟩ := h
  simp only at h1 h2 h3 h4 h5 h6 h7
  have hc : Nat.Coprime (x / 2) n := Nat.Coprime.coprime_dvd_left ⟨2, by omega⟩ h6
  have h2c : Nat.Coprime 2 n := Nat.Coprime.coprime_dvd_left ⟨x / 2, by omega⟩ h6
  refine ⟨by simp only; omega, by simp only; omega, h3, h4, h5, hc, ?_⟩
  have e : x = 2 * (x / 2) := by omega
  rw [h7]
  conv => lhs; rw [e]
  have hm := G_mul h5 h2c hc
  have ht := G_two h5
  simp only
  by_cases h8 : n % 8 = 3 ∨ n % 8 = 5
  · rw [if_pos h8] at ht ⊢
    cases sq <;> simp <;> omega
  · rw [if_neg h8] at ht ⊢
    cases sq <;> simp <;> omega

theorem VInv.swap {x0 x n : Nat} {sq : Bool} (h : VInv x0 (x, n, sq)) (hx : x % 2 = 1) (h1x : x ≠ 1) : VInv x0 (n % x, x, if x % 4 = 3 ∧ n % 4 = 3 then !sq else sq) := by
  obtain ⟨h1, h2, h3, h4, h5, h6, h7⟩ := h
  simp only at h1 h2 h3 h4 h5 h6 h7
  have hc := coprime_mod h6
  have hp : n % x ≠ 0 := fun e => by rw [e] at hc; simp [Nat.Coprime] at hc; omega
  have hl := Nat.mod_lt n (by omega : x > 0)
  refine ⟨by simp only; omega, by simp only; omega, by simp only; omega, h1, hx, hc, ?_⟩
  have hs := G_swap h5 hx h6
  rw [h7]
  simp only
  rw [G_mod]
  by_cases h8 : x % 4 = 3 ∧ n % 4 = 3
  · rw [if_pos h8] at hs ⊢
    cases sq <;> simp <;> omega
  · rw [if_neg h8] at hs ⊢
    cases sq <;> simp <;> omega

theorem VInv.done {x0 n : Nat} {sq : Bool} (h1 : 1 ≤ x0) (h2 : x0 < 2147483579) (h : VInv x0 (1, n, sq)) : validS x0 = sq := by
  have h7 := h.2.2.2.2.2.2
  rw [validS_iff h1 h2, h7]
  simp only [G_one]
  cases sq <;> simp

theorem VInv.start {x0 : Nat} (h1 : 1 ≤ x0) (h2 : x0 < 2147483579) : VInv x0 (x0, 2147483579, true) := by
  unfold VInv
  simp only
  have hg : ∀ g : Nat, g % 2 = (g + if true = true then 0 else 1) % 2 := fun g => by simp
  refine ⟨h1, h2, Nat.le_refl _, by decide, by decide, coprime_of_prime primeP (fun hd => ?_), hg _⟩
  have := Nat.le_of_dvd (by omega) hd; omega

def vEnv (s : Nat × Nat × Bool) : Env := [(0, .int .i64 (s.1 : Int)), (3, .int .i64 (s.2.1 : Int)), (4, .bool s.2.2)]

theorem valid_ok (x : Int) (w : World) : Rets Tryd.prog 28 [.int .i64 x] w fun v w' => v = .bool (validS x) ∧ w = w' := by
  refine RetsX.of (nt := 45) Tryd.func28 (by kernel_rfl) rfl rfl (by simp) (by simp only [argEnv]; rfl) ?_
  repeat (first | refine RunL.pureI Tryd.tOk rfl rfl rfl (by (first | exact wr_i64 (by omega) (by omega) | exact wm_i64 (by omega) | exact wq_i64 (by omega) (by omega) (by omega) | rfl)) ?_ | refine RunL.pure Tryd.tOk rfl rfl rfl ?_ | refine RunE.seq ?_ | refine RunE.region ?_ | refine RunL.nil ?_ | refine RunE.scope ?_)
  cases hx1 : decide (x < 1) with
  | true =>
    have hx : x < 1 := of_decide_eq_true hx1
    repeat (first | refine RunL.pure Tryd.tOk rfl rfl rfl ?_ | refine RunL.unwantedD rfl rfl ?_ | refine RunL.nil ?_)
    refine RunE.condT rfl rfl ?_
    repeat (first | refine RunL.pure Tryd.tOk rfl rfl rfl ?_ | refine RunE.seq ?_ | refine RunE.region ?_ | refine RunL.nil ?_)
    refine RunE.retFn Tryd.func28 (.tmp rfl .nil) ⟨?_, rfl⟩
    simp only [oneOr, validS]
    congr 1
    exact (decide_eq_false (by omega)).symm
  | false =>
    have hx : ¬ x < 1 := of_decide_eq_false hx1
    repeat (first | refine RunL.pureI Tryd.tOk rfl rfl rfl (by (first | exact wr_i64 (by omega) (by omega) | exact wm_i64 (by omega) | exact wq_i64 (by omega) (by omega) (by omega) | rfl)) ?_ | refine RunL.pure Tryd.tOk rfl rfl rfl ?_ | refine RunL.nil ?_)
    refine RunE.cond rfl (fun hx2 => ?_) (fun hx2 => ?_) <;> (first | replace hx2 := of_decide_eq_true hx2 | replace hx2 := of_decide_eq_false hx2 | replace hx2 := beq_iff_eq.1 hx2 | replace hx2 := beq_eq_false_iff_ne.1 hx2 | replace hx2 := bne_iff_ne.1 hx2 | replace hx2 := bne_eq_false_iff_eq.1 hx2 | skip)
    · repeat (first | refine RunL.pure Tryd.tOk rfl rfl rfl ?_ | refine RunE.seq ?_ | refine RunE.region ?_ | refine RunL.nil ?_)
      refine RunE.retFn Tryd.func28 (.tmp rfl .nil) ⟨?_, rfl⟩
      simp only [oneOr, validS]
      congr 1
      exact (decide_eq_false (by omega)).symm
    · obtain ⟨x0, rfl⟩ := Int.eq_ofNat_of_zero_le (by omega : 0 ≤ x)
      have h1 : 1 ≤ x0 := by omega
      have h2 : x0 < 2147483579 := by omega
      repeat (first | refine RunL.pureI Tryd.tOk rfl rfl rfl (by (first | exact wr_i64 (by omega) (by omega) | exact wm_i64 (by omega) | exact wq_i64 (by omega) (by omega) (by omega) | rfl)) ?_ | refine RunL.pure Tryd.tOk rfl rfl rfl ?_ | refine RunE.seq ?_ | refine RunE.region ?_ | refine RunL.nil ?_ | refine RunE.block ?_ | refine RunE.skip ?_ | refine RunE.label ?_)
      have hv0 := VInv.start h1 h2
      refine RunE.loop (ι := Nat × Nat × Bool) vEnv (fun s w' => w = w' ∧ VInv x0 s) (fun s => s.1) (x0, 2147483579, true) (by unfold vEnv; exact (by repeat (first | exact Sub.nil _ | refine Sub.cons rfl ?_))) ⟨rfl, hv0⟩ ?_
      rintro ⟨y, n, sq⟩ _ ⟨rfl, hv⟩ IH
      have hv' := hv
      obtain ⟨b1, b2, b3, b4, b5, b6, _⟩ := hv'
      simp only at b1 b2 b3 b4 b5 b6
      unfold vEnv
      dsimp only
      repeat (first | refine RunL.pureI Tryd.tOk rfl rfl rfl (by (first | exact wr_i64 (by omega) (by omega) | exact wm_i64 (by omega) | exact wq_i64 (by omega) (by omega) (by omega) | rfl)) ?_ | refine RunL.pure Tryd.tOk rfl rfl rfl ?_ | refine RunE.seq ?_ | refine RunE.region ?_ | refine RunL.nil ?_)
      refine RunE.cond rfl (fun hy1 => ?_) (fun hy1 => ?_) <;> (first | replace hy1 := of_decide_eq_true hy1 | replace hy1 := of_decide_eq_false hy1 | replace hy1 := beq_iff_eq.1 hy1 | replace hy1 := beq_eq_false_iff_ne.1 hy1 | replace hy1 := bne_iff_ne.1 hy1 | replace hy1 := bne_eq_false_iff_eq.1 hy1 | skip)
      · repeat (first | refine RunE.seq ?_ | refine RunE.block ?_ | refine RunE.skip ?_)
        have hy : 1 < y := by omega
        refine RunE.loop (ι := Nat × Bool) (fun s => vEnv (s.1, n, s.2)) (fun s w' => w = w' ∧ VInv x0 (s.1, n, s.2) ∧ s.1 ≤ y) (fun s => s.1) (y, sq) (by unfold vEnv; exact (by repeat (first | exact Sub.nil _ | refine Sub.cons rfl ?_))) ⟨rfl, hv, Nat.le_refl _⟩ ?_
        rintro ⟨z, sq2⟩ _ ⟨rfl, hz, hzy⟩ IH2
        have hz' := hz
        obtain ⟨c1, c2, c3, c4, c5, c6, _⟩ := hz'
        simp only at c1 c2 c3 c4 c5 c6 hzy
        unfold vEnv
        dsimp only
        repeat (first | refine RunL.pureI Tryd.tOk rfl rfl rfl (by (first | exact wr_i64 (by omega) (by omega) | exact wm_i64 (by omega) | exact wq_i64 (by omega) (by omega) (by omega) | rfl)) ?_ | refine RunL.pure Tryd.tOk rfl rfl rfl ?_ | refine RunE.seq ?_ | refine RunE.region ?_ | refine RunL.nil ?_)
        refine RunE.cond rfl (fun hev => ?_) (fun hev => ?_) <;> (first | replace hev := of_decide_eq_true hev | replace hev := of_decide_eq_false hev | replace hev := beq_iff_eq.1 hev | replace hev := beq_eq_false_iff_ne.1 hev | replace hev := bne_iff_ne.1 hev | replace hev := bne_eq_false_iff_eq.1 hev | skip)
        · have hz2 := hz.half (by omega)
          repeat (first | refine RunL.pureI Tryd.tOk rfl rfl rfl (by (first | exact wr_i64 (by omega) (by omega) | exact wm_i64 (by omega) | exact wq_i64 (by omega) (by omega) (by omega) | rfl)) ?_ | refine RunL.pure Tryd.tOk rfl rfl rfl ?_ | refine RunE.seq ?_ | refine RunE.region ?_ | refine RunL.nil ?_ | refine RunE.block ?_ | refine RunE.skip ?_)
          have fin : ∀ (b : Bool), b = decide (n % 8 = 3 ∨ n % 8 = 5) → VInv x0 (z / 2, n, if b then !sq2 else sq2) := fun b hb => by
            subst hb; simpa using hz2
          have done : ∀ b : Bool, VInv x0 (z / 2, n, b) → RunE Tryd.prog ⟨28, .normal, none⟩ 45 [] _ _ (vEnv (z / 2, n, b)) w := fun b hb => IH2 (z / 2, b) _ (by simp only; omega) ⟨rfl, hb, by simp only; omega⟩
          cases h3 : ((n : Int) % 8 == 3) with
          | true =>
            have h3' : n % 8 = 3 := by have := beq_iff_eq.1 h3; omega
            repeat (first | refine RunL.pure Tryd.tOk rfl rfl rfl ?_ | refine RunL.unwantedD rfl rfl ?_ | refine RunL.nil ?_)
            refine RunE.condT rfl rfl ?_
            repeat (first | refine RunL.pure Tryd.tOk rfl rfl rfl ?_ | refine RunE.region ?_ | refine RunL.nil ?_ | refine RunE.inBlock ?_)
            refine RunE.weaken ?_ (done _ (fin true (by simp [h3'])))
            unfold vEnv; exact (by repeat (first | exact Sub.nil _ | refine Sub.cons rfl ?_))
          | false =>
            have h3' : n % 8 ≠ 3 := by have := beq_eq_false_iff_ne.1 h3; omega
            repeat (first | refine RunL.pureI Tryd.tOk rfl rfl rfl (by (first | exact wr_i64 (by omega) (by omega) | exact wm_i64 (by omega) | exact wq_i64 (by omega) (by omega) (by omega) | rfl)) ?_ | refine RunL.pure Tryd.tOk rfl rfl rfl ?_ | refine RunL.nil ?_)
            refine RunE.cond rfl (fun h5 => ?_) (fun h5 => ?_) <;> (first | replace h5 := of_decide_eq_true h5 | replace h5 := of_decide_eq_false h5 | replace h5 := beq_iff_eq.1 h5 | replace h5 := beq_eq_false_iff_ne.1 h5 | replace h5 := bne_iff_ne.1 h5 | replace h5 := bne_eq_false_iff_eq.1 h5 | skip)
            · repeat (first | refine RunL.pure Tryd.tOk rfl rfl rfl ?_ | refine RunE.region ?_ | refine RunL.nil ?_ | refine RunE.inBlock ?_)
              refine RunE.weaken ?_ (done _ (fin true (by simp; omega)))
              unfold vEnv; exact (by repeat (first | exact Sub.nil _ | refine Sub.cons rfl ?_))
            · repeat (first | refine RunE.inBlock ?_ | refine RunE.skip ?_)
              refine RunE.weaken ?_ (done _ (fin false (by simp; omega)))
              unfold vEnv; exact (by repeat (first | exact Sub.nil _ | refine Sub.cons rfl ?_))
        · repeat (first | refine RunL.pureI Tryd.tOk rfl rfl rfl (by (first | exact wr_i64 (by omega) (by omega) | exact wm_i64 (by omega) | exact wq_i64 (by omega) (by omega) (by omega) | rfl)) ?_ | refine RunL.pure Tryd.tOk rfl rfl rfl ?_ | refine RunE.seq ?_ | refine RunE.region ?_ | refine RunL.nil ?_ | refine RunE.exit rfl ?_)
          refine RunE.cond rfl (fun hz1 => ?_) (fun hz1 => ?_) <;> (first | replace hz1 := of_decide_eq_true hz1 | replace hz1 := of_decide_eq_false hz1 | replace hz1 := beq_iff_eq.1 hz1 | replace hz1 := beq_eq_false_iff_ne.1 hz1 | replace hz1 := bne_iff_ne.1 hz1 | replace hz1 := bne_eq_false_iff_eq.1 hz1 | skip)
          · repeat (first | refine RunL.pure Tryd.tOk rfl rfl rfl ?_ | refine RunE.seq ?_ | refine RunE.region ?_ | refine RunL.nil ?_ | refine RunE.exit rfl ?_)
            refine RunE.retFn Tryd.func28 (.tmp rfl .nil) ⟨?_, rfl⟩
            have : z = 1 := by omega
            subst this
            simp only [oneOr]
            rw [hz.done h1 h2]
          · have hz3 := hz.swap (by omega) (by omega)
            repeat (first | refine RunL.pureI Tryd.tOk rfl rfl rfl (by (first | exact wr_i64 (by omega) (by omega) | exact wm_i64 (by omega) | exact wq_i64 (by omega) (by omega) (by omega) | rfl)) ?_ | refine RunL.pure Tryd.tOk rfl rfl rfl ?_ | refine RunE.seq ?_ | refine RunE.region ?_ | refine RunE.skip ?_)
            have done : ∀ b : Bool, VInv x0 (n % z, z, b) → RunE Tryd.prog ⟨28, .normal, none⟩ 45 [] _ _ (vEnv (n % z, z, b)) w := fun b hb => IH (n % z, z, b) _ (by simp only; have := Nat.mod_lt n (by omega : z > 0); omega) ⟨rfl, hb⟩
            have hrem : (n : Int).tmod (z : Int) = ((n % z : Nat) : Int) := by rw [Int.tmod_eq_emod_of_nonneg (by omega)]; omega
            cases h3 : ((z : Int) % 4 == 3) with
            | false =>
              have h3' : z % 4 ≠ 3 := by have := beq_eq_false_iff_ne.1 h3; omega
              rw [if_neg (by omega)] at hz3
              repeat (first | refine RunL.pure Tryd.tOk rfl rfl rfl ?_ | refine RunL.unwantedD rfl rfl ?_ | refine RunL.nil ?_)
              refine RunE.condF rfl rfl ?_
              repeat (first | refine RunL.pureI Tryd.tOk rfl rfl rfl (by (first | exact wr_i64 (by omega) (by omega) | exact wm_i64 (by omega) | exact wq_i64 (by omega) (by omega) (by omega) | rfl)) ?_ | refine RunE.region ?_ | refine RunE.skip ?_)
              refine RunL.rem rfl rfl rfl rfl (by omega) hrem ?_
              repeat (first | refine RunL.pureI Tryd.tOk rfl rfl rfl (by (first | exact wr_i64 (by omega) (by omega) | exact wm_i64 (by omega) | exact wq_i64 (by omega) (by omega) (by omega) | rfl)) ?_ | refine RunL.nil ?_ | refine RunE.inBlock ?_)
              refine RunE.weaken ?_ (done _ hz3)
              unfold vEnv; exact (by repeat (first | exact Sub.nil _ | refine Sub.cons rfl ?_))
            | true =>
              have h3' : z % 4 = 3 := by have := beq_iff_eq.1 h3; omega
              repeat (first | refine RunL.pureI Tryd.tOk rfl rfl rfl (by (first | exact wr_i64 (by omega) (by omega) | exact wm_i64 (by omega) | exact wq_i64 (by omega) (by omega) (by omega) | rfl)) ?_ | refine RunL.pure Tryd.tOk rfl rfl rfl ?_ | refine RunL.nil ?_)
              refine RunE.cond rfl (fun h4 => ?_) (fun h4 => ?_) <;> (first | replace h4 := of_decide_eq_true h4 | replace h4 := of_decide_eq_false h4 | replace h4 := beq_iff_eq.1 h4 | replace h4 := beq_eq_false_iff_ne.1 h4 | replace h4 := bne_iff_ne.1 h4 | replace h4 := bne_eq_false_iff_eq.1 h4 | skip)
              · rw [if_pos (by omega)] at hz3
                repeat (first | refine RunL.pureI Tryd.tOk rfl rfl rfl (by (first | exact wr_i64 (by omega) (by omega) | exact wm_i64 (by omega) | exact wq_i64 (by omega) (by omega) (by omega) | rfl)) ?_ | refine RunL.pure Tryd.tOk rfl rfl rfl ?_ | refine RunE.region ?_ | refine RunL.nil ?_)
                refine RunL.rem rfl rfl rfl rfl (by omega) hrem ?_
                repeat (first | refine RunL.pureI Tryd.tOk rfl rfl rfl (by (first | exact wr_i64 (by omega) (by omega) | exact wm_i64 (by omega) | exact wq_i64 (by omega) (by omega) (by omega) | rfl)) ?_ | refine RunL.nil ?_ | refine RunE.inBlock ?_)
                refine RunE.weaken ?_ (done _ hz3)
                unfold vEnv; exact (by repeat (first | exact Sub.nil _ | refine Sub.cons rfl ?_))
              · rw [if_neg (by omega)] at hz3
                repeat (first | refine RunL.pureI Tryd.tOk rfl rfl rfl (by (first | exact wr_i64 (by omega) (by omega) | exact wm_i64 (by omega) | exact wq_i64 (by omega) (by omega) (by omega) | rfl)) ?_ | refine RunE.region ?_ | refine RunE.skip ?_)
                refine RunL.rem rfl rfl rfl rfl (by omega) hrem ?_
                repeat (first | refine RunL.pureI Tryd.tOk rfl rfl rfl (by (first | exact wr_i64 (by omega) (by omega) | exact wm_i64 (by omega) | exact wq_i64 (by omega) (by omega) (by omega) | rfl)) ?_ | refine RunL.nil ?_ | refine RunE.inBlock ?_)
                refine RunE.weaken ?_ (done _ hz3)
                unfold vEnv; exact (by repeat (first | exact Sub.nil _ | refine Sub.cons rfl ?_))
      · repeat (first | refine RunL.pure Tryd.tOk rfl rfl rfl ?_ | refine RunE.seq ?_ | refine RunE.region ?_ | refine RunL.nil ?_ | refine RunE.exit rfl ?_)
        refine RunE.retFn Tryd.func28 (.tmp rfl .nil) ⟨?_, rfl⟩
        have : y = 1 := by omega
        subst this
        simp only [oneOr]
        rw [hv.done h1 h2]

end Go.Sg
end
section
/- The walks of package group: Mul; what Element and Number are. -/
namespace Go.Sg
open Go.Rn Go.NT Go.Proofs

def grpE (b : Bool) : Int := if b then 0 else 100
def mulC (a b : Int) : Int := if validS a && validS b then a * b % 2147483579 else 0

theorem mul_ok (a b : Int) (w : World) : Rets Tryd.prog 27 [.int .i64 a, .int .i64 b] w fun v w' => v = .tuple #[.int .i64 (mulC a b), .int .i64 (grpE (validS a && validS b))] ∧ w = w' := by
  refine RetsX.of (nt := 18) Tryd.func27 (by kernel_rfl) rfl rfl (by simp) (by simp only [argEnv]; rfl) ?_
  repeat (first | refine RunL.pureI Tryd.tOk rfl rfl rfl (by (first | exact wr_i64 (by omega) (by omega) | exact wm_i64 (by omega) | exact wq_i64 (by omega) (by omega) (by omega) | rfl)) ?_ | refine RunE.seq ?_ | refine RunE.region ?_ | refine RunL.nil ?_)
  refine RunL.call rfl rfl rfl (valid_ok _ _) ?_
  rintro _ _ ⟨rfl, rfl⟩
  cases ha : validS a with
  | false =>
    repeat (first | refine RunL.pure Tryd.tOk rfl rfl rfl ?_ | refine RunL.unwantedD rfl rfl ?_ | refine RunL.nil ?_)
    refine RunE.condT rfl rfl ?_
    repeat (first | refine RunL.pureI Tryd.tOk rfl rfl rfl (by (first | exact wr_i64 (by omega) (by omega) | exact wm_i64 (by omega) | exact wq_i64 (by omega) (by omega) (by omega) | rfl)) ?_ | refine RunE.seq ?_ | refine RunE.region ?_ | refine RunL.nil ?_)
    exact RunE.retFn Tryd.func27 (.tmp rfl (.tmp rfl .nil)) ⟨by simp [oneOr, mulC, ha, grpE], rfl⟩
  | true =>
    repeat (first | refine RunL.pureI Tryd.tOk rfl rfl rfl (by (first | exact wr_i64 (by omega) (by omega) | exact wm_i64 (by omega) | exact wq_i64 (by omega) (by omega) (by omega) | rfl)) ?_ | refine RunL.pure Tryd.tOk rfl rfl rfl ?_)
    refine RunL.call rfl rfl rfl (valid_ok _ _) ?_
    rintro _ _ ⟨rfl, rfl⟩
    cases hb : validS b with
    | false =>
      repeat (first | refine RunL.pure Tryd.tOk rfl rfl rfl ?_ | refine RunL.nil ?_)
      refine RunE.condT rfl rfl ?_
      repeat (first | refine RunL.pureI Tryd.tOk rfl rfl rfl (by (first | exact wr_i64 (by omega) (by omega) | exact wm_i64 (by omega) | exact wq_i64 (by omega) (by omega) (by omega) | rfl)) ?_ | refine RunE.seq ?_ | refine RunE.region ?_ | refine RunL.nil ?_)
      exact RunE.retFn Tryd.func27 (.tmp rfl (.tmp rfl .nil)) ⟨by simp [oneOr, mulC, ha, hb, grpE], rfl⟩
    | true =>
      have h1 := validS_inv ha
      have h2 := validS_inv hb
      have hm := mulmod_bd (by omega : 0 ≤ a) h1.2.1 (by omega : 0 ≤ b) h2.2.1
      clear h1 h2
      repeat (first | refine RunL.pure Tryd.tOk rfl rfl rfl ?_ | refine RunL.nil ?_)
      refine RunE.condF rfl rfl ?_
      repeat (first | refine RunL.pureI Tryd.tOk rfl rfl rfl (by (first | exact wr_i64 (by omega) (by omega) | exact wm_i64 (by omega) | exact wq_i64 (by omega) (by omega) (by omega) | rfl)) ?_ | refine RunE.seq ?_ | refine RunE.region ?_ | refine RunL.nil ?_ | refine RunE.skip ?_)
      exact RunE.retFn Tryd.func27 (.tmp rfl (.tmp rfl .nil)) ⟨by simp [oneOr, mulC, ha, hb, grpE], rfl⟩

def elemC (n : Int) : Int := if n < 1 ∨ n > 1073741789 then 0 else if validS n then n else 2147483579 - n
def elemE (n : Int) : Int := if n < 1 ∨ n > 1073741789 then 1 else 0

def numC (x : Int) : Int := if validS x then (if x ≤ 1073741789 then x else 2147483579 - x) else 0

end Go.Sg
end
section
/- The walks of package group, the rest. -/
namespace Go.Sg
open Go.Rn Go.NT Go.Proofs
def powC (a n : Int) : Int := if validS a then a ^ (n % 1073741789).toNat % 2147483579 else 0

theorem sq_pow (x : Int) (m : Nat) : (x * x % 2147483579) ^ m % 2147483579 = (x * x) ^ m % 2147483579 := pow_mod _ _ _
theorem pow_step1 (c x : Int) (m : Nat) (h : m % 2 = 1) : (c * x % 2147483579 * (x * x % 2147483579) ^ (m / 2)) % 2147483579 = c * x ^ m % 2147483579 := by
  have hn : m = 2 * (m / 2) + 1 := by omega
  have e : x ^ m = x * (x * x) ^ (m / 2) := by
    conv => lhs; rw [hn]
    rw [Int.pow_succ, Int.pow_mul, Int.mul_comm, show x ^ 2 = x * x by rw [Int.pow_succ, Int.pow_succ]; simp]
  rw [e, ← Int.mul_assoc]
  exact mul_mod_congr (by simp) (sq_pow x _)
theorem pow_step0 (c x : Int) (m : Nat) (h : m % 2 = 0) : (c * (x * x % 2147483579) ^ (m / 2)) % 2147483579 = c * x ^ m % 2147483579 := by
  have hn : m = 2 * (m / 2) := by omega
  have e : x ^ m = (x * x) ^ (m / 2) := by
    conv => lhs; rw [hn]
    rw [Int.pow_mul, show x ^ 2 = x * x by rw [Int.pow_succ, Int.pow_succ]; simp]
  rw [e]
  exact mul_mod_congr rfl (sq_pow x _)

set_option maxRecDepth 4000 in
theorem pow_ok (a n : Int) (w : World) :
    Rets Tryd.prog 25 [.int .i64 a, .int .i64 n] w fun v w' => v = .tuple #[.int .i64 (powC a n), .int .i64 (grpE (validS a))] ∧ Ext w w' := by
  refine RetsX.of (nt := 24) Tryd.func25 (by kernel_rfl) rfl rfl (by simp) (by simp only [argEnv]; rfl) ?_
  repeat (first | refine RunE.seq ?_ | refine RunE.region ?_)
  refine RunL.alloc Tryd.tOk rfl rfl rfl fun B w1 h1 => ?_
  repeat (first | refine RunL.pureI Tryd.tOk rfl rfl rfl (by (first | exact wr_i64 (by omega) (by omega) | exact wm_i64 (by omega) | exact wq_i64 (by omega) (by omega) (by omega) | rfl)) ?_ | refine RunE.seq ?_ | refine RunE.region ?_ | refine RunL.nil ?_)
  refine RunL.call rfl rfl rfl (valid_ok _ _) ?_
  rintro v _ ⟨rfl, rfl⟩
  repeat (first | refine RunL.pure Tryd.tOk rfl rfl rfl ?_ | refine RunL.nil ?_)
  have hB1 : Blk w1 B [.int .i64 0] 3 := h1.at_
  cases hva : validS a with
  | false =>
    refine RunE.condT rfl rfl ?_
    repeat (first | refine RunE.seq ?_ | refine RunE.region ?_)
    refine RunL.store Tryd.tOk rfl rfl rfl rfl rfl hB1 rfl rfl ?_
    intro w2 h2
    repeat (first | refine RunL.pureI Tryd.tOk rfl rfl rfl (by (first | exact wr_i64 (by omega) (by omega) | exact wm_i64 (by omega) | exact wq_i64 (by omega) (by omega) (by omega) | rfl)) ?_ | refine RunL.nil ?_)
    have hB2 : Blk w2 B [.int .i64 0] 3 := h2.at_
    refine RunE.retFn Tryd.func25 (.cell rfl (Loads.scalar Tryd.tOk rfl rfl (hB2.cell rfl)) (.tmp rfl .nil)) ⟨?_, h1.ext.write h2.ext fun i e hi => by have := h1.eq; omega⟩
    simp [oneOr, powC, hva, grpE]
  | true =>
    have hva' := hva
    simp only [validS, decide_eq_true_eq] at hva'
    obtain ⟨ha0, ha1, _⟩ := hva'
    refine RunE.condF rfl rfl ?_
    repeat (first | refine RunE.seq ?_ | refine RunE.region ?_ | refine RunE.skip ?_)
    refine RunL.store Tryd.tOk rfl rfl rfl rfl rfl hB1 rfl rfl ?_
    intro w2 h2
    have hB2 : Blk w2 B [.int .i64 1] 3 := h2.at_
    have x2 : Ext w w2 := h1.ext.write h2.ext fun i e hi => by have := h1.eq; omega
    repeat (first | refine RunL.pureI Tryd.tOk rfl rfl rfl (by (first | exact wr_i64 (by omega) (by omega) | exact wm_i64 (by omega) | exact wq_i64 (by omega) (by omega) (by omega) | rfl)) ?_ | refine RunE.seq ?_ | refine RunE.region ?_ | refine RunL.nil ?_)
    refine RunL.buildSlice Tryd.tOk rfl rfl rfl rfl rfl rfl rfl rfl fun B3 w3 h3 => ?_
    refine RunL.call rfl rfl rfl (least_ok [n] B3 0 1 w3 (Blk.row (show Blk w3 B3 [.int .i64 n] 3 from h3.at_)) (by simp)) ?_
    rintro v _ ⟨rfl, rfl⟩
    rw [least1]
    refine RunL.call rfl rfl rfl (squares_ok _ _ _) ?_
    rintro v w4 ⟨rfl, hA4, hN4, x4, s4⟩
    have hB4 := (hB2.ext h3.ext id).ext x4 id
    repeat (first | refine RunL.nil ?_ | refine RunE.block ?_)
    have x4' : Ext w w4 := (x2.trans h3.ext).trans x4
    have eB := h1.eq
    have e3 := h3.eq
    have s3 := h3.size
    have s1 := h1.size
    have s2 := h2.size
    refine RunE.rangeFunc rfl rfl fun fa D L w5 w6 lp hst h5 h6 hlp => ?_
    have e5 := h5.eq
    have s5 := h5.size
    have e6 := h6.eq
    have hA6 := (hA4.ext h5.ext id).ext h6.ext id
    have hN6 := (hN4.ext h5.ext id).ext h6.ext id
    have hB6 := (hB4.ext h5.ext id).ext h6.ext id
    have hD6 : w6.heap[D]? = some (.deferred (some [])) := by rw [h6.ext.block D (by omega) id]; exact h5.at_
    have x6 := (x4'.trans h5.ext).trans h6.ext
    have hq := Int.emod_nonneg n (by decide : (1073741789 : Int) ≠ 0)
    have hq' := Int.emod_lt_of_pos n (by decide : (0 : Int) < 1073741789)
    have H := squares1_ok w3.heap.size (w3.heap.size + 1) (yieldV L)
      (fun x m w' => ∃ cv, Blk w' B [.int .i64 cv] 3 ∧ 0 ≤ cv ∧ cv < 2147483579 ∧ cv * x ^ m.toNat % 2147483579 = a ^ (n % 1073741789).toNat % 2147483579 ∧
        w'.heap[L]? = some (.loop lp) ∧ w'.heap[D]? = some (.deferred (some [])) ∧ Ext w w') (by omega)
      (by
        rintro x m u u' ⟨cv, hb, h0, h1', he, hl, hd, hx⟩ hext
        exact ⟨cv, hb.ext hext (by omega), h0, h1', he, by rw [hext.block L (lt_of_get hl) (by omega)]; exact hl, by rw [hext.block D (lt_of_get hd) (by omega)]; exact hd, hx.write hext fun i e hi => by omega⟩)
      (by
        rintro x m u ⟨cv, hb, h0, h1', he, hl, hd, hx⟩ hx0 hx1 hm hm1 hA hN
        refine Yield.run hl ⟨_, Tryd.func25⟩ hst hlp rfl rfl rfl ?_
        repeat (first | refine RunL.pureI Tryd.tOk rfl rfl rfl (by (first | exact wr_i64 (by omega) (by omega) | exact wm_i64 (by omega) | exact wq_i64 (by omega) (by omega) (by omega) | rfl)) ?_ | refine RunL.pure Tryd.tOk rfl rfl rfl ?_ | refine RunE.seq ?_ | refine RunE.region ?_ | refine RunL.nil ?_)
        refine RunE.beginRound hl hlp.state fun u1 t1 => ?_
        have hb1 := hb.ext t1.ext (by omega)
        have hA1 := hA.ext t1.ext (by omega)
        have hN1 := hN.ext t1.ext (by omega)
        have hd1 : u1.heap[D]? = some (.deferred (some [])) := by rw [t1.ext.block D (lt_of_get hd) (by omega)]; exact hd
        have hx1' := hx.write t1.ext fun i e hi => by omega
        repeat (first | refine RunL.pure Tryd.tOk rfl rfl rfl ?_ | refine RunE.seq ?_ | refine RunE.region ?_ | refine RunL.nil ?_ | refine RunE.block ?_)
        refine RunE.cond rfl (fun hodd => ?_) (fun hodd => ?_)
        · have hmb := mulmod_bd h0 h1' hx0 hx1
          repeat (first | refine RunE.region ?_)
          refine RunL.load rfl rfl rfl (Loads.scalar Tryd.tOk rfl rfl (hb1.cell rfl)) ?_
          repeat (first | refine RunL.pureI Tryd.tOk rfl rfl rfl (by (first | exact wr_i64 (by omega) (by omega) | exact wm_i64 (by omega) | exact wq_i64 (by omega) (by omega) (by omega) | rfl)) ?_)
          refine RunL.store Tryd.tOk rfl rfl rfl rfl rfl hb1 rfl rfl ?_
          intro u2 t2
          repeat (first | refine RunL.nil ?_ | refine RunE.inBlock ?_)
          refine RunE.nil fun _ _ => ⟨_, by rw [t2.ext.block L (lt_of_get t1.at_) (by omega)]; exact t1.at_, fun u3 t3 => ?_⟩
          rw [hlp.back] at t3
          have hA3 := (hA1.ext t2.ext (by omega)).ext t3.ext (by omega)
          have hN3 := (hN1.ext t2.ext (by omega)).ext t3.ext (by omega)
          have hb2 : Blk u2 B [.int .i64 (cv * x % 2147483579)] 3 := t2.at_
          refine ⟨rfl, ⟨cv * x % 2147483579, hb2.ext t3.ext (by omega), by omega, by omega, ?_, t3.at_, ?_, ?_⟩, hA3, hN3⟩
          · rw [← he, show (m / 2).toNat = m.toNat / 2 by omega]
            exact pow_step1 _ _ _ (by simp at hodd; omega)
          · rw [t3.ext.block D (by have := lt_of_get hd1; have := t2.size; omega) (by omega), t2.ext.block D (lt_of_get hd1) (by omega)]; exact hd1
          · exact (hx1'.write t2.ext fun i e hi => by omega).write t3.ext fun i e hi => by omega
        · repeat (first | refine RunE.inBlock ?_ | refine RunE.skip ?_)
          refine RunE.nil fun _ _ => ⟨_, t1.at_, fun u3 t3 => ?_⟩
          rw [hlp.back] at t3
          refine ⟨rfl, ⟨cv, hb1.ext t3.ext (by omega), h0, h1', ?_, t3.at_, ?_, ?_⟩, hA1.ext t3.ext (by omega), hN1.ext t3.ext (by omega)⟩
          · rw [← he, show (m / 2).toNat = m.toNat / 2 by omega]
            exact pow_step0 _ _ _ (by simp at hodd; omega)
          · rw [t3.ext.block D (lt_of_get hd1) (by omega)]; exact hd1
          · exact hx1'.write t3.ext fun i e hi => by omega)
      a (n % 1073741789) w6 (by omega) (by omega) hq (by omega) hA6 hN6 ⟨1, hB6, by decide, by decide, by simp, h6.at_, hD6, x6⟩
    refine (RetsX.v (fi := []) (args := [yieldV L]) (ca := [.pointer (some ⟨w3.heap.size + 1, 0, none⟩), .pointer (some ⟨w3.heap.size, 0, none⟩)]) H).mono ?_ (fun _ _ h => h)
    rintro _ w7 ⟨x, cv, hb7, h0, h1', he, hl7, hd7, x7⟩
    refine ⟨lp, hl7, by rw [hlp.state]; rfl, fun w8 t8 => ?_⟩
    rw [hlp.pending]
    refine RunE.at_ hst ?_
    have hb8 := hb7.ext t8.ext (by omega)
    have hd8 : w8.heap[D]? = some (.deferred (some [])) := by rw [t8.ext.block D (lt_of_get hd7) (by omega)]; exact hd7
    have x8 : Ext w w8 := x7.write t8.ext fun i e hi => by omega
    simp only [Option.map_none, Option.toList_none, List.nil_append]
    repeat (first | refine RunE.seq ?_ | refine RunE.region ?_ | refine RunE.inBlock ?_)
    refine RunL.load rfl rfl rfl (Loads.scalar Tryd.tOk rfl rfl (hb8.cell rfl)) ?_
    refine RunL.store Tryd.tOk rfl rfl rfl rfl rfl hb8 rfl rfl ?_
    intro w9 t9
    have hb9 : Blk w9 B [.int .i64 cv] 3 := t9.at_
    have hd9 : w9.heap[D]? = some (.deferred (some [])) := by rw [t9.ext.block D (lt_of_get hd8) (by omega)]; exact hd8
    repeat (first | refine RunL.pureI Tryd.tOk rfl rfl rfl (by (first | exact wr_i64 (by omega) (by omega) | exact wm_i64 (by omega) | exact wq_i64 (by omega) (by omega) (by omega) | rfl)) ?_ | refine RunL.nil ?_)
    refine RunE.retFn1 Tryd.func25 hd9 fun w10 t10 => ⟨_, .cell rfl (Loads.scalar Tryd.tOk rfl rfl ((hb9.ext t10.ext (by omega)).cell rfl)) (.tmp rfl .nil), ?_, ?_⟩
    · simp only [oneOr, powC, hva, grpE, if_true]
      rw [← he]
      simp
      exact (Int.emod_eq_of_lt h0 h1').symm
    · exact (x8.write t9.ext fun i e hi => by omega).write t10.ext fun i e hi => by omega
end Go.Sg
end
section
/- The walks of package signatoryref10. -/
namespace Go.Sg
open Go.Rn Go.NT Go.Proofs

theorem r10_exponent_ok (n : Int) (w : World) : Rets Tryd.prog 113 [.int .i64 n] w fun v w' => v = .int .i64 (n % 1073741789) ∧ w = w' := by
  have h1 := tmod_cases n 1073741789 (by decide)
  refine RetsX.of (nt := 10) Tryd.func113 (by kernel_rfl) rfl rfl (by simp) (by simp only [argEnv]; rfl) ?_
  repeat (first | refine RunL.pureI Tryd.tOk rfl rfl rfl (by (first | exact wr_i64 (by omega) (by omega) | exact wm_i64 (by omega) | exact wq_i64 (by omega) (by omega) (by omega) | rfl)) ?_ | refine RunL.pure Tryd.tOk rfl rfl rfl ?_ | refine RunE.seq ?_ | refine RunE.region ?_ | refine RunL.nil ?_)
  refine RunE.cond rfl (fun h => ?_) (fun h => ?_) <;> (first | replace h := of_decide_eq_true h | replace h := of_decide_eq_false h | replace h := beq_iff_eq.1 h | replace h := beq_eq_false_iff_ne.1 h | replace h := bne_iff_ne.1 h | replace h := bne_eq_false_iff_eq.1 h | skip)
  · repeat (first | refine RunL.pureI Tryd.tOk rfl rfl rfl (by (first | exact wr_i64 (by omega) (by omega) | exact wm_i64 (by omega) | exact wq_i64 (by omega) (by omega) (by omega) | rfl)) ?_ | refine RunE.seq ?_ | refine RunE.region ?_ | refine RunL.nil ?_)
    refine RunE.retFn Tryd.func113 (.tmp rfl .nil) ⟨?_, rfl⟩
    simp only [oneOr]
    congr 1; omega
  · repeat (first | refine RunL.pureI Tryd.tOk rfl rfl rfl (by (first | exact wr_i64 (by omega) (by omega) | exact wm_i64 (by omega) | exact wq_i64 (by omega) (by omega) (by omega) | rfl)) ?_ | refine RunE.seq ?_ | refine RunE.region ?_ | refine RunL.nil ?_ | refine RunE.skip ?_)
    refine RunE.retFn Tryd.func113 (.tmp rfl .nil) ⟨?_, rfl⟩
    simp only [oneOr]
    congr 1; omega

theorem r10_power_ok (a n : Int) (w : World) (ha : 0 ≤ a) (ha' : a < 2147483579) (hn : 0 ≤ n) (hn' : n < 9223372036854775808) :
    Rets Tryd.prog 112 [.int .i64 a, .int .i64 n] w fun v w' => v = .int .i64 (a ^ n.toNat % 2147483579) ∧ w = w' := by
  refine RetsX.of (nt := 22) Tryd.func112 (by kernel_rfl) rfl rfl (by simp) (by simp only [argEnv]; rfl) ?_
  repeat (first | refine RunL.pureI Tryd.tOk rfl rfl rfl (by (first | exact wr_i64 (by omega) (by omega) | exact wm_i64 (by omega) | exact wq_i64 (by omega) (by omega) (by omega) | rfl)) ?_ | refine RunE.seq ?_ | refine RunE.region ?_ | refine RunL.nil ?_ | refine RunE.block ?_)
  refine RunE.loop (ι := Int × Int × Int) (fun x => [(0, .int .i64 x.2.1), (1, .int .i64 x.2.2), (5, .int .i64 x.1)])
    (fun x w' => w = w' ∧ 0 ≤ x.1 ∧ x.1 < 2147483579 ∧ 0 ≤ x.2.1 ∧ x.2.1 < 2147483579 ∧ 0 ≤ x.2.2 ∧ x.2.2 < 9223372036854775808 ∧ x.1 * x.2.1 ^ x.2.2.toNat % 2147483579 = a ^ n.toNat % 2147483579)
    (fun x => x.2.2.toNat) (1, a, n) (by repeat (first | exact Sub.nil _ | refine Sub.cons rfl ?_)) ⟨rfl, (by decide : (0 : Int) ≤ 1), (by decide : (1 : Int) < 2147483579), ha, ha', hn, hn', by simp⟩ ?_
  rintro ⟨c, a1, m⟩ _ ⟨rfl, hc, hc', hA, hA', hm, hm', hp⟩ IH
  dsimp only at hc hc' hA hA' hm hm' hp ⊢
  repeat (first | refine RunL.pureI Tryd.tOk rfl rfl rfl (by (first | exact wr_i64 (by omega) (by omega) | exact wm_i64 (by omega) | exact wq_i64 (by omega) (by omega) (by omega) | rfl)) ?_ | refine RunL.pure Tryd.tOk rfl rfl rfl ?_ | refine RunE.seq ?_ | refine RunE.region ?_ | refine RunL.nil ?_)
  refine RunE.cond rfl (fun h => ?_) (fun h => ?_) <;> (first | replace h := of_decide_eq_true h | replace h := of_decide_eq_false h | replace h := beq_iff_eq.1 h | replace h := beq_eq_false_iff_ne.1 h | replace h := bne_iff_ne.1 h | replace h := bne_eq_false_iff_eq.1 h | skip)
  · have hb := mulmod_bd hc hc' hA hA'
    have hb2 := mulmod_bd hA hA' hA hA'
    repeat (first | refine RunL.pureI Tryd.tOk rfl rfl rfl (by (first | exact wr_i64 (by omega) (by omega) | exact wm_i64 (by omega) | exact wq_i64 (by omega) (by omega) (by omega) | rfl)) ?_ | refine RunL.pure Tryd.tOk rfl rfl rfl ?_ | refine RunE.seq ?_ | refine RunE.region ?_ | refine RunL.nil ?_ | refine RunE.block ?_ | refine RunE.skip ?_)
    refine RunE.cond rfl (fun h2 => ?_) (fun h2 => ?_) <;> (first | replace h2 := of_decide_eq_true h2 | replace h2 := of_decide_eq_false h2 | replace h2 := beq_iff_eq.1 h2 | replace h2 := beq_eq_false_iff_ne.1 h2 | replace h2 := bne_iff_ne.1 h2 | replace h2 := bne_eq_false_iff_eq.1 h2 | skip)
    · repeat (first | refine RunL.pureI Tryd.tOk rfl rfl rfl (by (first | exact wr_i64 (by omega) (by omega) | exact wm_i64 (by omega) | exact wq_i64 (by omega) (by omega) (by omega) | rfl)) ?_ | refine RunE.seq ?_ | refine RunE.region ?_ | refine RunL.nil ?_ | refine RunE.inBlock ?_)
      refine RunE.weaken (by repeat (first | exact Sub.nil _ | refine Sub.cons rfl ?_)) (IH (c * a1 % 2147483579, a1 * a1 % 2147483579, m / 2) _ (by simp only; omega) ⟨rfl, by simp only; omega, by simp only; omega, by simp only; omega, by simp only; omega, by simp only; omega, by simp only; omega, ?_⟩)
      simp only
      rw [← hp, show (m / 2).toNat = m.toNat / 2 by omega]
      exact pow_step1 _ _ _ (by omega)
    · repeat (first | refine RunL.pureI Tryd.tOk rfl rfl rfl (by (first | exact wr_i64 (by omega) (by omega) | exact wm_i64 (by omega) | exact wq_i64 (by omega) (by omega) (by omega) | rfl)) ?_ | refine RunE.seq ?_ | refine RunE.region ?_ | refine RunL.nil ?_ | refine RunE.inBlock ?_ | refine RunE.skip ?_)
      refine RunE.weaken (by repeat (first | exact Sub.nil _ | refine Sub.cons rfl ?_)) (IH (c, a1 * a1 % 2147483579, m / 2) _ (by simp only; omega) ⟨rfl, by simp only; omega, by simp only; omega, by simp only; omega, by simp only; omega, by simp only; omega, by simp only; omega, ?_⟩)
      simp only
      rw [← hp, show (m / 2).toNat = m.toNat / 2 by omega]
      exact pow_step0 _ _ _ (by omega)
  · repeat (first | refine RunL.pureI Tryd.tOk rfl rfl rfl (by (first | exact wr_i64 (by omega) (by omega) | exact wm_i64 (by omega) | exact wq_i64 (by omega) (by omega) (by omega) | rfl)) ?_ | refine RunE.seq ?_ | refine RunE.region ?_ | refine RunL.nil ?_ | refine RunE.exit rfl ?_)
    refine RunE.retFn Tryd.func112 (.tmp rfl .nil) ⟨?_, rfl⟩
    simp only [oneOr]
    congr 1
    obtain rfl : m = 0 := by omega
    rw [← hp]; simp; exact (Int.emod_eq_of_lt hc hc').symm

theorem r10_valid_ok (x : Int) (w : World) : Rets Tryd.prog 98 [.int .i64 x] w fun v w' => v = .bool (validS x) ∧ w = w' := by
  refine RetsX.of (nt := 14) Tryd.func98 (by kernel_rfl) rfl rfl (by simp) (by simp only [argEnv]; rfl) ?_
  repeat (first | refine RunL.pureI Tryd.tOk rfl rfl rfl (by (first | exact wr_i64 (by omega) (by omega) | exact wm_i64 (by omega) | exact wq_i64 (by omega) (by omega) (by omega) | rfl)) ?_ | refine RunL.pure Tryd.tOk rfl rfl rfl ?_ | refine RunE.seq ?_ | refine RunE.region ?_ | refine RunL.nil ?_)
  cases h1 : decide (x ≥ 1) with
  | false =>
    have h1' := of_decide_eq_false h1
    repeat (first | refine RunL.pure Tryd.tOk rfl rfl rfl ?_ | refine RunL.unwantedD rfl rfl ?_ | refine RunL.nil ?_)
    refine RunE.retFn Tryd.func98 (.tmp rfl .nil) ⟨?_, rfl⟩
    simp only [oneOr, validS]
    congr 1; exact (decide_eq_false (by omega)).symm
  | true =>
    have h1' := of_decide_eq_true h1
    repeat (first | refine RunL.pureI Tryd.tOk rfl rfl rfl (by (first | exact wr_i64 (by omega) (by omega) | exact wm_i64 (by omega) | exact wq_i64 (by omega) (by omega) (by omega) | rfl)) ?_ | refine RunL.pure Tryd.tOk rfl rfl rfl ?_)
    cases h2 : decide (x < 2147483579) with
    | false =>
      have h2' := of_decide_eq_false h2
      repeat (first | refine RunL.pure Tryd.tOk rfl rfl rfl ?_ | refine RunL.unwantedD rfl rfl ?_ | refine RunL.nil ?_)
      refine RunE.retFn Tryd.func98 (.tmp rfl .nil) ⟨?_, rfl⟩
      simp only [oneOr, validS]
      congr 1; exact (decide_eq_false (by omega)).symm
    | true =>
      have h2' := of_decide_eq_true h2
      repeat (first | refine RunL.pureI Tryd.tOk rfl rfl rfl (by (first | exact wr_i64 (by omega) (by omega) | exact wm_i64 (by omega) | exact wq_i64 (by omega) (by omega) (by omega) | rfl)) ?_)
      refine RunL.call rfl rfl rfl (r10_power_ok x 1073741789 w (by omega) h2' (by decide) (by decide)) ?_
      rintro _ _ ⟨rfl, rfl⟩
      repeat (first | refine RunL.pure Tryd.tOk rfl rfl rfl ?_ | refine RunL.nil ?_)
      refine RunE.retFn Tryd.func98 (.tmp rfl .nil) ⟨?_, rfl⟩
      simp only [oneOr, validS]
      congr 1
      have e : (1073741789 : Int).toNat = 1073741789 := by decide
      rw [e]
      generalize x ^ 1073741789 % 2147483579 = y
      by_cases hy : y = 1
      · subst hy; simp; omega
      · simp [hy]

theorem r10_mul_ok (a b : Int) (w : World) : Rets Tryd.prog 122 [.int .i64 a, .int .i64 b] w fun v w' => v = .tuple #[.int .i64 (mulC a b), .int .i64 (grpE (validS a && validS b))] ∧ w = w' := by
  refine RetsX.of (nt := 18) Tryd.func122 (by kernel_rfl) rfl rfl (by simp) (by simp only [argEnv]; rfl) ?_
  repeat (first | refine RunL.pureI Tryd.tOk rfl rfl rfl (by (first | exact wr_i64 (by omega) (by omega) | exact wm_i64 (by omega) | exact wq_i64 (by omega) (by omega) (by omega) | rfl)) ?_ | refine RunE.seq ?_ | refine RunE.region ?_ | refine RunL.nil ?_)
  refine RunL.call rfl rfl rfl (r10_valid_ok _ _) ?_
  rintro _ _ ⟨rfl, rfl⟩
  cases ha : validS a with
  | false =>
    repeat (first | refine RunL.pure Tryd.tOk rfl rfl rfl ?_ | refine RunL.unwantedD rfl rfl ?_ | refine RunL.nil ?_)
    refine RunE.condT rfl rfl ?_
    repeat (first | refine RunL.pureI Tryd.tOk rfl rfl rfl (by (first | exact wr_i64 (by omega) (by omega) | exact wm_i64 (by omega) | exact wq_i64 (by omega) (by omega) (by omega) | rfl)) ?_ | refine RunE.seq ?_ | refine RunE.region ?_ | refine RunL.nil ?_)
    exact RunE.retFn Tryd.func122 (.tmp rfl (.tmp rfl .nil)) ⟨by simp [oneOr, mulC, ha, grpE], rfl⟩
  | true =>
    repeat (first | refine RunL.pureI Tryd.tOk rfl rfl rfl (by (first | exact wr_i64 (by omega) (by omega) | exact wm_i64 (by omega) | exact wq_i64 (by omega) (by omega) (by omega) | rfl)) ?_ | refine RunL.pure Tryd.tOk rfl rfl rfl ?_)
    refine RunL.call rfl rfl rfl (r10_valid_ok _ _) ?_
    rintro _ _ ⟨rfl, rfl⟩
    cases hb : validS b with
    | false =>
      repeat (first | refine RunL.pure Tryd.tOk rfl rfl rfl ?_ | refine RunL.nil ?_)
      refine RunE.condT rfl rfl ?_
      repeat (first | refine RunL.pureI Tryd.tOk rfl rfl rfl (by (first | exact wr_i64 (by omega) (by omega) | exact wm_i64 (by omega) | exact wq_i64 (by omega) (by omega) (by omega) | rfl)) ?_ | refine RunE.seq ?_ | refine RunE.region ?_ | refine RunL.nil ?_)
      exact RunE.retFn Tryd.func122 (.tmp rfl (.tmp rfl .nil)) ⟨by simp [oneOr, mulC, ha, hb, grpE], rfl⟩
    | true =>
      have h1 := validS_inv ha
      have h2 := validS_inv hb
      have hm := mulmod_bd (by omega : 0 ≤ a) h1.2.1 (by omega : 0 ≤ b) h2.2.1
      clear h1 h2
      repeat (first | refine RunL.pure Tryd.tOk rfl rfl rfl ?_ | refine RunL.nil ?_)
      refine RunE.condF rfl rfl ?_
      repeat (first | refine RunL.pureI Tryd.tOk rfl rfl rfl (by (first | exact wr_i64 (by omega) (by omega) | exact wm_i64 (by omega) | exact wq_i64 (by omega) (by omega) (by omega) | rfl)) ?_ | refine RunE.seq ?_ | refine RunE.region ?_ | refine RunL.nil ?_ | refine RunE.skip ?_)
      exact RunE.retFn Tryd.func122 (.tmp rfl (.tmp rfl .nil)) ⟨by simp [oneOr, mulC, ha, hb, grpE], rfl⟩

theorem r10_pow_ok (a n : Int) (w : World) : Rets Tryd.prog 87 [.int .i64 a, .int .i64 n] w fun v w' => v = .tuple #[.int .i64 (powC a n), .int .i64 (grpE (validS a))] ∧ w = w' := by
  have hq := Int.emod_nonneg n (by decide : (1073741789 : Int) ≠ 0)
  have hq' := Int.emod_lt_of_pos n (by decide : (0 : Int) < 1073741789)
  refine RetsX.of (nt := 13) Tryd.func87 (by kernel_rfl) rfl rfl (by simp) (by simp only [argEnv]; rfl) ?_
  repeat (first | refine RunL.pureI Tryd.tOk rfl rfl rfl (by (first | exact wr_i64 (by omega) (by omega) | exact wm_i64 (by omega) | exact wq_i64 (by omega) (by omega) (by omega) | rfl)) ?_ | refine RunE.seq ?_ | refine RunE.region ?_ | refine RunL.nil ?_)
  refine RunL.call rfl rfl rfl (r10_valid_ok _ _) ?_
  rintro _ _ ⟨rfl, rfl⟩
  repeat (first | refine RunL.pure Tryd.tOk rfl rfl rfl ?_ | refine RunL.nil ?_)
  cases ha : validS a with
  | false =>
    refine RunE.condT rfl rfl ?_
    repeat (first | refine RunL.pureI Tryd.tOk rfl rfl rfl (by (first | exact wr_i64 (by omega) (by omega) | exact wm_i64 (by omega) | exact wq_i64 (by omega) (by omega) (by omega) | rfl)) ?_ | refine RunE.seq ?_ | refine RunE.region ?_ | refine RunL.nil ?_)
    exact RunE.retFn Tryd.func87 (.tmp rfl (.tmp rfl .nil)) ⟨by simp [oneOr, powC, ha, grpE], rfl⟩
  | true =>
    have h1 := validS_inv ha
    refine RunE.condF rfl rfl ?_
    repeat (first | refine RunL.pureI Tryd.tOk rfl rfl rfl (by (first | exact wr_i64 (by omega) (by omega) | exact wm_i64 (by omega) | exact wq_i64 (by omega) (by omega) (by omega) | rfl)) ?_ | refine RunE.seq ?_ | refine RunE.region ?_ | refine RunE.skip ?_)
    refine RunL.call rfl rfl rfl (r10_exponent_ok _ _) ?_
    rintro _ _ ⟨rfl, rfl⟩
    refine RunL.call rfl rfl rfl (r10_power_ok _ _ w (by omega) h1.2.1 hq (by omega)) ?_
    rintro _ _ ⟨rfl, rfl⟩
    repeat (first | refine RunL.pureI Tryd.tOk rfl rfl rfl (by (first | exact wr_i64 (by omega) (by omega) | exact wm_i64 (by omega) | exact wq_i64 (by omega) (by omega) (by omega) | rfl)) ?_ | refine RunL.nil ?_)
    exact RunE.retFn Tryd.func87 (.tmp rfl (.tmp rfl .nil)) ⟨by simp [oneOr, powC, ha, grpE], rfl⟩
end Go.Sg
end
section
/- Facts of single numbers. -/
namespace Go.Sg
open Go.Rn Go.NT Go.Proofs

theorem v4 : validS 4 = true := by
  have h := valid_sq (x := 2) (by decide) (by decide)
  have e : (2 : Int) * 2 % 2147483579 = 4 := by decide
  exact (congrArg validS e).symm.trans h
theorem v1 : validS 1 = true := valid_one
theorem v0 : validS 0 = false := by unfold validS; exact decide_eq_false fun h => absurd h.1 (by decide)
theorem vP : validS 2147483579 = false := by unfold validS; exact decide_eq_false fun h => absurd h.2.1 (by decide)
theorem v2 : validS 2 = false := by
  have h := validS_iff (x := 2) (by decide) (by decide)
  have g := G_two (n := 2147483579) (by decide)
  rw [if_pos (.inl (by decide))] at g
  have e : ((2 : Nat) : Int) = 2 := rfl
  rw [e] at h
  rw [h]
  exact decide_eq_false (by omega)
theorem vP1 : validS 2147483578 = false := by
  have h := valid_neg (x := 1) (by decide) (by decide)
  rw [v1] at h; exact h
theorem vP2 : validS 2147483577 = true := by
  have h := valid_neg (x := 2) (by decide) (by decide)
  rw [v2] at h; exact h
theorem p42 : powC 4 2 = 16 := by
  unfold powC; rw [v4, if_pos rfl]; decide
theorem p4Q : powC 4 1073741789 = 1 := by
  unfold powC; rw [v4, if_pos rfl]; decide
theorem pow_neg1 {a : Int} (ha : validS a = true) : a * powC a (-1) % 2147483579 = 1 := by
  have e : ((-1 : Int) % 1073741789).toNat = 1073741788 := by decide
  unfold powC; rw [ha, if_pos rfl, e]
  have h1 : a * (a ^ 1073741788 % 2147483579) % 2147483579 = a * a ^ 1073741788 % 2147483579 := mul_mod_congr rfl (Int.emod_emod_of_dvd _ (Int.dvd_refl _))
  rw [h1, Int.mul_comm, ← Int.pow_succ]
  exact (validS_inv ha).2.2
theorem powC_bd (a n : Int) : 0 ≤ powC a n ∧ powC a n < 2147483579 := by
  have h : ∀ y : Int, 0 ≤ y % 2147483579 ∧ y % 2147483579 < 2147483579 := fun y => ⟨Int.emod_nonneg y (by decide), Int.emod_lt_of_pos y (by decide)⟩
  unfold powC
  cases validS a with
  | true => rw [if_pos rfl]; exact h _
  | false => rw [if_neg (by decide)]; exact ⟨by decide, by decide⟩
theorem inv4 (y : Int) (h : 4 * y % 2147483579 = 1) (h1 : 0 ≤ y) (h2 : y < 2147483579) : y = 536870895 := by
  have e1 : (4 * y * 536870895) % 2147483579 = 536870895 := by
    rw [Int.mul_emod, h]; decide
  have e2 : 4 * y * 536870895 = y + 2147483579 * y := by omega
  rw [e2, Int.add_mul_emod_self_left, Int.emod_eq_of_lt h1 h2] at e1
  exact e1
theorem p4m : powC 4 (-1) = 536870895 := inv4 _ (pow_neg1 v4) (powC_bd 4 (-1)).1 (powC_bd 4 (-1)).2
theorem p01 : powC 0 1 = 0 := by unfold powC; rw [v0, if_neg (by decide)]
theorem m44 : mulC 4 4 = 16 := by unfold mulC; rw [v4]; rfl
theorem m42 : mulC 4 2 = 0 := by unfold mulC; rw [v4, v2]; rfl
theorem el2 : elemC 2 = 2147483577 := by unfold elemC; rw [v2]; rfl
theorem nm2 : numC 2 = 0 := by unfold numC; rw [v2]; rfl
theorem nmP2 : numC 2147483577 = 2 := by unfold numC; rw [vP2]; rfl
end Go.Sg
end
section
/- What the group's powers and products are. Plain mathematics over the numbers that the walks name. -/
namespace Go.Sg
open Go.Rn Go.NT Go.Proofs

/-- What element returns is an element. -/
theorem elem_valid (x : Int) : validS (elemC (x % 1073741789 + 1)) = true := by
  have h1 := Int.emod_nonneg x (by decide : (1073741789 : Int) ≠ 0)
  have h2 := Int.emod_lt_of_pos x (by decide : (0 : Int) < 1073741789)
  generalize hn : x % 1073741789 + 1 = n
  have h3 : 1 ≤ n := by omega
  have h4 : n ≤ 1073741789 := by omega
  unfold elemC
  rw [if_neg (by omega)]
  cases hv : validS n with
  | true => rw [if_pos rfl]; exact hv
  | false =>
    rw [if_neg (by decide)]
    have h := valid_neg h3 (by omega)
    rw [hv] at h; exact h

theorem mulC_eq {a b : Int} (ha : validS a = true) (hb : validS b = true) : mulC a b = a * b % 2147483579 := by unfold mulC; rw [ha, hb]; rfl
theorem mulC_valid {a b : Int} (ha : validS a = true) (hb : validS b = true) : validS (mulC a b) = true := by rw [mulC_eq ha hb]; exact valid_mul ha hb
theorem powC_eq {a : Int} (ha : validS a = true) (n : Int) : powC a n = a ^ (n % 1073741789).toNat % 2147483579 := by unfold powC; rw [ha, if_pos rfl]
theorem powC_valid {a : Int} (ha : validS a = true) (n : Int) : validS (powC a n) = true := by rw [powC_eq ha]; exact valid_pow ha _
theorem mulC_comm {a b : Int} (ha : validS a = true) (hb : validS b = true) : mulC a b = mulC b a := by rw [mulC_eq ha hb, mulC_eq hb ha, Int.mul_comm]
theorem emod_twice (x : Int) : x % 2147483579 % 2147483579 = x % 2147483579 := Int.emod_emod_of_dvd _ (Int.dvd_refl _)
theorem mulC_assoc {a b c : Int} (ha : validS a = true) (hb : validS b = true) (hc : validS c = true) : mulC (mulC a b) c = mulC a (mulC b c) := by
  rw [mulC_eq (mulC_valid ha hb) hc, mulC_eq ha (mulC_valid hb hc), mulC_eq ha hb, mulC_eq hb hc]
  rw [mul_mod_congr (emod_twice (a * b)) (rfl : c % 2147483579 = c % 2147483579), mul_mod_congr (rfl : a % 2147483579 = a % 2147483579) (emod_twice (b * c)), Int.mul_assoc]
theorem mulC_one {a : Int} (ha : validS a = true) : mulC a 1 = a := by
  rw [mulC_eq ha v1, Int.mul_one]
  exact Int.emod_eq_of_lt (by have := (validS_inv ha).1; omega) (validS_inv ha).2.1
theorem mulC_inv {a : Int} (ha : validS a = true) : mulC a (powC a (-1)) = 1 := by
  rw [mulC_eq ha (powC_valid ha _)]; exact pow_neg1 ha
theorem mulC_cancel {a b : Int} (ha : validS a = true) (hb : validS b = true) : mulC (mulC a b) (powC b (-1)) = a := by
  rw [mulC_assoc ha hb (powC_valid hb _), mulC_inv hb, mulC_one ha]
theorem powC_mulC {a b : Int} (ha : validS a = true) (hb : validS b = true) (n : Int) : powC (mulC a b) n = mulC (powC a n) (powC b n) := by
  rw [mulC_eq (powC_valid ha n) (powC_valid hb n), powC_eq (mulC_valid ha hb), powC_eq ha, powC_eq hb, mulC_eq ha hb, pow_mod, Int.mul_pow]
  exact (mul_mod_congr (emod_twice _) (emod_twice _)).symm


theorem powC_nat {a : Int} (ha : validS a = true) {n : Int} (m : Nat) (h : (m : Int) % 1073741789 = n % 1073741789) : powC a n = a ^ m % 2147483579 := by
  rw [powC_eq ha, ← h, ← pow_period ha m]
  congr 2
theorem expo (n : Int) : (((n % 1073741789).toNat : Nat) : Int) = n % 1073741789 := Int.toNat_of_nonneg (Int.emod_nonneg n (by decide))
theorem powC_zero {a : Int} (ha : validS a = true) : powC a 0 = 1 := by rw [powC_nat (n := 0) ha 0 (by decide)]; simp
theorem powC_one {a : Int} (ha : validS a = true) : powC a 1 = a := by
  rw [powC_nat (n := 1) ha 1 (by decide), Int.pow_one]
  exact Int.emod_eq_of_lt (by have := (validS_inv ha).1; omega) (validS_inv ha).2.1
theorem powC_two {a : Int} (ha : validS a = true) : powC a 2 = mulC a a := by
  rw [powC_nat (n := 2) ha 2 (by decide), mulC_eq ha ha, Int.pow_succ, Int.pow_one]
theorem powC_Q {a : Int} (ha : validS a = true) : powC a 1073741789 = 1 := by
  rw [powC_nat (n := 1073741789) ha 0 (by decide)]; simp
theorem powC_addQ {a : Int} (n : Int) : powC a (n + 1073741789) = powC a n := by
  unfold powC; rw [show (n + 1073741789) % 1073741789 = n % 1073741789 by omega]
theorem powC_subQ {a : Int} (n : Int) : powC a (n - 1073741789) = powC a n := by
  unfold powC; rw [show (n - 1073741789) % 1073741789 = n % 1073741789 by omega]
theorem powC_add {a : Int} (ha : validS a = true) (i k : Int) : mulC (powC a i) (powC a k) = powC a (i + k) := by
  rw [mulC_eq (powC_valid ha i) (powC_valid ha k), powC_eq ha, powC_eq ha, powC_nat ha ((i % 1073741789).toNat + (k % 1073741789).toNat) (by rw [Int.natCast_add, expo, expo]; omega), Int.pow_add]
  exact mul_mod_congr (emod_twice _) (emod_twice _)
theorem powC_mul {a : Int} (ha : validS a = true) (i k : Int) : powC (powC a i) k = powC a (i * k) := by
  rw [powC_eq (powC_valid ha i), powC_eq ha, pow_mod, ← Int.pow_mul, powC_nat ha ((i % 1073741789).toNat * (k % 1073741789).toNat)]
  rw [Int.natCast_mul, expo, expo, ← Int.mul_emod]
theorem mul_bd32 {i k : Int} (hi : -2147483648 ≤ i ∧ i < 2147483648) (hk : -2147483648 ≤ k ∧ k < 2147483648) : -4611686018427387904 ≤ i * k ∧ i * k ≤ 4611686018427387904 := by
  have h1 : (i * k).natAbs ≤ 2147483648 * 2147483648 := by
    rw [Int.natAbs_mul]; exact Nat.mul_le_mul (by omega) (by omega)
  omega
end Go.Sg
end
section
/- sign: the list that is hashed. -/
namespace Go.Rn
open Go.RowKit Go.Lib
variable {P : Program} {w : World} {env : Env} {dst : Option Tmp} {ty : TypeId} {pos : String} {after : Array Edge} {guard : Option (Nat × Bool)}
theorem OpV.b2sSl {T : Tab} (hT : T.Ok P) {t t' e : TypeId} {ag : Bool} {s bb s' bb' s2 bb2 : Nat} {z z' z2 : List Value} {a u a' u' a2 u2 : Bool} {x : Operand} {v : Value} {l : List UInt8} {n : Nat}
    (ht : T.get t = some ⟨.slc 1 ag e, s, bb, z, a, u⟩) (ht' : T.get t' = some ⟨.str, s', bb', z', a', u'⟩) (he : T.get e = some ⟨.int .u8, s2, bb2, z2, a2, u2⟩)
    (hx : evO env x = some v) (hv : IsSl w 1 v n (bytesV l)) :
    OpV P env w ⟨dst, .convert t t' x, ty, pos, after, guard⟩ (.string (strOf l)) := by
  rcases hv.inv with ⟨d, rfl, rfl, he0⟩ | ⟨b, o, cap, rfl, hr, hl, -⟩
  · have hl0 : l = [] := by cases l with | nil => rfl | cons => simp [bytesV] at he0
    subst hl0
    refine .of_run fun ρ hρ => ⟨_, by simp only [execOp, hρ _ _ hx]; rfl, ?_⟩
    obtain ⟨hu, -⟩ := TD.of_slc (TI.tdof (hT.get _ _ ht)).symm
    have hu' := TD.of_str (TI.tdof (hT.get _ _ ht')).symm
    have hue := TD.of_int (TI.tdof (hT.get _ _ he)).symm
    rw [run_convert_bytes_string w t t' e d 0 0 hu hue hu']
    cases d <;> rfl
  · exact OpV.b2s hT ht ht' he hx hr (by rw [bytesV_length] at hl; omega)
end Go.Rn
namespace Go.Cod
open Go.Rn Go.Sha
inductive ArgIn (w : World) : CV → Value → Prop where
  | int {n : Int} (h : -9223372036854775808 ≤ n ∧ n < 9223372036854775808) : ArgIn w (.int n) (.iface 3 (.int .i64 n))
  | text {s : List UInt8} {v : Value} (h : IsSl w 1 v s.length (bytesV s)) (hl : s.length ≤ 1000000000) : ArgIn w (.text s) (.iface 64 v)
theorem ArgIn.ext {w w' : World} {c : CV} {a : Value} (h : ArgIn w c a) (e : Ext w w') : ArgIn w' c a := by
  cases h with
  | int h => exact .int h
  | text h hl => exact .text (h.extE e) hl
def rowOf : CV → List Value
  | .int n => [.int .i64 1, .int .i64 n, .string ⟨#[]⟩, .slice none 0 0]
  | .text s => [.int .i64 2, .int .i64 0, .string (strOf s), .slice none 0 0]
  | .list _ => []
theorem ArgIn.in_ {w w' : World} {c : CV} {a : Value} (h : ArgIn w c a) : c.In w' (rowOf c) := by
  cases h with
  | int h => exact ⟨h, _, rfl⟩
  | text h hl => exact ⟨hl, _, rfl⟩
theorem ArgIn.depth {w : World} {c : CV} {a : Value} (h : ArgIn w c a) : c.depth = 0 := by cases h <;> rfl
theorem ins_rows {w : World} : ∀ (l : List CV), (∀ c ∈ l, c.In w (rowOf c)) → Ins w l (l.map rowOf)
  | [], _ => by simp [Ins]
  | c :: l, h => by
    simp only [Ins, List.map_cons]
    exact ⟨_, _, rfl, h c List.mem_cons_self, ins_rows l fun c hc => h c (List.mem_cons_of_mem _ hc)⟩
theorem depths_zero : ∀ (l : List CV), (∀ c ∈ l, c.depth = 0) → depths l = 0
  | [], _ => rfl
  | c :: l, h => by simp only [depths]; rw [h c List.mem_cons_self, depths_zero l fun c hc => h c (List.mem_cons_of_mem _ hc)]; rfl
theorem rows_take {l : List CV} {i : Nat} {c : CV} (h : l[i]? = some c) : ((l.take (i + 1)).map rowOf).flatten = ((l.take i).map rowOf).flatten ++ rowOf c := by
  rw [List.take_add_one, h]; simp
end Go.Cod
namespace Go.Sg
open Go.Rn Go.Sha Go.Cod Go.Proofs
attribute [local irreducible] Go.Rn.RunL Go.Rn.RunE Go.Rn.Asy Go.Rn.OpV Go.Rn.OpE Go.Rn.ExecE

set_option maxRecDepth 4000 in
set_option maxHeartbeats 2000000 in
set_option maxRecDepth 4000 in
theorem list_ok (l : List CV) (v : Value) (vs : List Value) (w : World) (hv : IsSl w 1 v l.length vs) (ha : ∀ (i : Nat) (c : CV), l[i]? = some c → ∃ a, vs[i]? = some a ∧ ArgIn w c a) (hl : l.length ≤ 1000)
    (he : (CV.list l).enc.length ≤ 900000) :
    Rets Tryd.prog 77 [v] w fun r w' => w'.ownsRow w.heap.size 5 1 r (CV.list l).enc.length (bytesV (CV.list l).enc) ∧ Ext w w' := by
  refine RetsX.of (nt := 46) Tryd.func77 (by kernel_rfl) rfl rfl (by simp) (by simp only [argEnv]; rfl) ?_
  repeat (first | refine RunL.pure Tryd.tOk rfl rfl rfl ?_ | refine RunE.seq ?_ | refine RunE.region ?_ | refine RunL.nil ?_)
  refine RunL.alloc Tryd.tOk rfl rfl rfl fun B3 w1 a1 => ?_
  have hB3 := a1.eq
  have z1 := a1.size
  skip
  refine RunL.store Tryd.tOk rfl rfl rfl rfl rfl (cs := [.int .i64 0, .int .i64 0, .string ⟨#[]⟩, .slice none 0 0]) a1.at_ rfl rfl fun w2 t2 => ?_
  have Z2 : Blk w2 B3 [.int .i64 3, .int .i64 0, .string ⟨#[]⟩, .slice none 0 0] 83 := t2.at_
  have X2 : Ext w w2 := a1.ext.write t2.ext (by intro i hi hlt; subst hi; omega)
  have z2 := t2.size
  clear a1 t2
  repeat (first | refine RunL.pure Tryd.tOk rfl rfl rfl ?_ | refine RunE.seq ?_ | refine RunE.region ?_ | refine RunL.nil ?_)
  refine RunL.val rfl rfl rfl (OpV.lenSl Tryd.tOk rfl rfl hv) ?_
  repeat (first | refine RunL.pureI Tryd.tOk rfl rfl rfl (by (first | exact wr_i64 (by omega) (by omega) | exact wm_i64 (by omega) | exact wq_i64 (by omega) (by omega) (by omega) | rfl)) ?_ | refine RunL.nil ?_ | refine RunE.block ?_)
  refine RunE.loop (ι := Nat × Value) (fun x => [(3, .pointer (some ⟨B3, 0, none⟩)), (11, v), (12, .int .i64 (l.length : Int)), (13, .int .i64 (x.1 : Int))])
    (fun x w' => x.1 ≤ l.length ∧ Ext w w' ∧ Blk w' B3 [.int .i64 3, .int .i64 0, .string ⟨#[]⟩, x.2] 83 ∧ w'.ownsRow (B3 + 1) 83 4 x.2 x.1 ((l.take x.1).map rowOf).flatten) (fun x => l.length - x.1) (0, .slice none 0 0) (by repeat (first | exact Sub.nil _ | refine Sub.cons rfl ?_)) ⟨by simp, X2, Z2, World.ownsRow_nil _ _ _ _⟩ ?_
  clear X2 Z2
  rintro ⟨i, u⟩ w3 ⟨hi, X3, Z3, O3⟩ again
  simp only at hi Z3 O3 again ⊢
  have hz3 := X3.size
  have hB := Z3.lt
  repeat (first | refine RunL.pure Tryd.tOk rfl rfl rfl ?_ | refine RunE.seq ?_ | refine RunE.region ?_ | refine RunL.nil ?_)
  refine RunE.cond rfl (fun hlt => ?_) (fun hlt => ?_) <;> (first | replace hlt := of_decide_eq_true hlt | replace hlt := of_decide_eq_false hlt | replace hlt := beq_iff_eq.1 hlt | replace hlt := beq_eq_false_iff_ne.1 hlt | replace hlt := bne_iff_ne.1 hlt | replace hlt := bne_eq_false_iff_eq.1 hlt | skip)
  · have hi' : i < l.length := by omega
    obtain ⟨c, hc⟩ : ∃ c, l[i]? = some c := ⟨_, List.getElem?_eq_getElem hi'⟩
    obtain ⟨a, haa, hac⟩ := ha i c hc
    obtain ⟨b, o, cap, rfl, hrow, -, -⟩ := hv.held (by omega)
    repeat (first | refine RunE.seq ?_ | refine RunE.region ?_ | refine RunE.block ?_ | refine RunE.skip ?_)
    refine RunL.val rfl rfl rfl (OpV.indexS Tryd.tOk i rfl rfl rfl rfl hi') ?_
    refine RunL.val rfl rfl rfl (OpV.load1 (v := a) Tryd.tOk rfl rfl rfl ((hrow.extE X3) _ _ (by simpa using haa))) ?_
    cases hac with
    | @int n hn =>
      repeat (first | refine RunL.pure Tryd.tOk rfl rfl rfl ?_ | refine RunE.seq ?_ | refine RunE.region ?_ | refine RunL.nil ?_ | refine RunE.block ?_)
      refine RunL.val rfl rfl rfl (OpV.assertT (v := .int .i64 n) rfl (TD.of_int (TI.tdof (Tryd.tOk.get 3 _ rfl)).symm) rfl) ?_
      repeat (first | refine RunL.pureI Tryd.tOk rfl rfl rfl (by (first | exact wr_i64 (by omega) (by omega) | exact wm_i64 (by omega) | exact wq_i64 (by omega) (by omega) (by omega) | rfl)) ?_ | refine RunL.pure Tryd.tOk rfl rfl rfl ?_ | refine RunL.nil ?_)
      refine RunE.condT rfl rfl ?_
      repeat (first | refine RunL.pureI Tryd.tOk rfl rfl rfl (by (first | exact wr_i64 (by omega) (by omega) | exact wm_i64 (by omega) | exact wq_i64 (by omega) (by omega) (by omega) | rfl)) ?_ | refine RunL.pure Tryd.tOk rfl rfl rfl ?_ | refine RunL.val rfl rfl rfl (OpV.load1 Tryd.tOk rfl rfl rfl (Blk.cell Z3 rfl)) ?_ | refine RunE.seq ?_ | refine RunE.region ?_ | refine RunL.nil ?_)
      refine RunL.ex rfl rfl rfl (OpE.buildSl Tryd.tOk [.agg (rowOf (.int n)).toArray] rfl rfl rfl rfl rfl rfl (by simp [Value.cells, rowOf])) ?_
      rintro _ w4 ⟨B, rfl, a4⟩
      have hB4 := a4.eq
      have X4 := X3.trans a4.ext
      have Z4 := Z3.ext a4.ext id
      have O4 := ownsRow_ext O3 a4.ext (fun _ _ h => h)
      have hz4 := a4.size
      refine RunL.ex rfl rfl rfl (OpE.append' Tryd.tOk rfl rfl rfl rfl rfl rfl O4 (isSl_added (n := 1) (sz := 4) a4 rfl) rfl (by show _ * 56 ≤ _; omega) (by omega) (by omega)) ?_
      rintro v5 w5 ⟨O5, E5, -⟩
      clear a4
      have X5 : Ext w w5 := X4.write E5 (by intro k hk hlt; have := ownsRow_ge O4 hk; omega)
      have Z5 := Z4.ext E5 (by intro hk; have := ownsRow_ge O4 hk; omega)
      obtain ⟨b5, o5, cap5, rfl, -, -, -⟩ := (isSl_own O5).held (by omega)
      repeat (first | refine RunL.pure Tryd.tOk rfl rfl rfl ?_)
      refine RunL.store Tryd.tOk rfl rfl rfl rfl rfl Z5 rfl rfl fun w6 t6 => ?_
      have X6 : Ext w w6 := X5.write t6.ext (by intro k hk hlt; subst hk; omega)
      have Z6 : Blk w6 B3 [.int .i64 3, .int .i64 0, .string ⟨#[]⟩, .slice (some ⟨b5, o5, none⟩) (i + 1) cap5] 83 := t6.at_
      have O6 := ownsRow_ext O5 t6.ext (fun k hk e => by have := ownsRow_ge O5 hk; omega)
      clear t6
      repeat (first | refine RunL.pureI Tryd.tOk rfl rfl rfl (by (first | exact wr_i64 (by omega) (by omega) | exact wm_i64 (by omega) | exact wq_i64 (by omega) (by omega) (by omega) | rfl)) ?_ | refine RunE.region ?_ | refine RunL.nil ?_ | refine RunE.inBlock ?_)
      refine RunE.weaken (by repeat (first | exact Sub.nil _ | refine Sub.cons rfl ?_)) (again (i + 1, _) _ (by simp only; omega) ⟨by simp only; omega, X6, Z6, ?_⟩)
      simp only
      rw [rows_take hc]; exact O6
    | @text s sv hs hsl =>
      repeat (first | refine RunL.pure Tryd.tOk rfl rfl rfl ?_ | refine RunE.seq ?_ | refine RunE.region ?_ | refine RunL.nil ?_ | refine RunE.block ?_)
      refine RunL.val rfl rfl rfl (OpV.assertF rfl rfl (TD.of_int (TI.tdof (Tryd.tOk.get 3 _ rfl)).symm) rfl (zv := .int .i64 0) (by kernel_rfl)) ?_
      repeat (first | refine RunL.pureI Tryd.tOk rfl rfl rfl (by (first | exact wr_i64 (by omega) (by omega) | exact wm_i64 (by omega) | exact wq_i64 (by omega) (by omega) (by omega) | rfl)) ?_ | refine RunL.pure Tryd.tOk rfl rfl rfl ?_ | refine RunL.nil ?_)
      refine RunE.condF rfl rfl ?_
      repeat (first | refine RunE.seq ?_ | refine RunE.region ?_)
      refine RunL.val rfl rfl rfl (OpV.assertT (v := sv) rfl (TD.of_slc (TI.tdof (Tryd.tOk.get 64 _ rfl)).symm).1 rfl) ?_
      repeat (first | refine RunL.pure Tryd.tOk rfl rfl rfl ?_ | refine RunL.nil ?_)
      refine RunE.condT rfl rfl ?_
      repeat (first | refine RunL.pure Tryd.tOk rfl rfl rfl ?_ | refine RunL.val rfl rfl rfl (OpV.load1 Tryd.tOk rfl rfl rfl (Blk.cell Z3 rfl)) ?_ | refine RunE.seq ?_ | refine RunE.region ?_ | refine RunL.nil ?_)
      refine RunL.val rfl rfl rfl (OpV.b2sSl (l := s) Tryd.tOk rfl rfl rfl rfl (hs.extE X3)) ?_
      repeat (first | refine RunL.pure Tryd.tOk rfl rfl rfl ?_)
      refine RunL.ex rfl rfl rfl (OpE.buildSl Tryd.tOk [.agg (rowOf (.text s)).toArray] rfl rfl rfl rfl rfl rfl (by simp [Value.cells, rowOf])) ?_
      rintro _ w4 ⟨B, rfl, a4⟩
      have hB4 := a4.eq
      have X4 := X3.trans a4.ext
      have Z4 := Z3.ext a4.ext id
      have O4 := ownsRow_ext O3 a4.ext (fun _ _ h => h)
      have hz4 := a4.size
      refine RunL.ex rfl rfl rfl (OpE.append' Tryd.tOk rfl rfl rfl rfl rfl rfl O4 (isSl_added (n := 1) (sz := 4) a4 rfl) rfl (by show _ * 56 ≤ _; omega) (by omega) (by omega)) ?_
      rintro v5 w5 ⟨O5, E5, -⟩
      clear a4
      have X5 : Ext w w5 := X4.write E5 (by intro k hk hlt; have := ownsRow_ge O4 hk; omega)
      have Z5 := Z4.ext E5 (by intro hk; have := ownsRow_ge O4 hk; omega)
      obtain ⟨b5, o5, cap5, rfl, -, -, -⟩ := (isSl_own O5).held (by omega)
      repeat (first | refine RunL.pure Tryd.tOk rfl rfl rfl ?_)
      refine RunL.store Tryd.tOk rfl rfl rfl rfl rfl Z5 rfl rfl fun w6 t6 => ?_
      have X6 : Ext w w6 := X5.write t6.ext (by intro k hk hlt; subst hk; omega)
      have Z6 : Blk w6 B3 [.int .i64 3, .int .i64 0, .string ⟨#[]⟩, .slice (some ⟨b5, o5, none⟩) (i + 1) cap5] 83 := t6.at_
      have O6 := ownsRow_ext O5 t6.ext (fun k hk e => by have := ownsRow_ge O5 hk; omega)
      clear t6
      repeat (first | refine RunL.pureI Tryd.tOk rfl rfl rfl (by (first | exact wr_i64 (by omega) (by omega) | exact wm_i64 (by omega) | exact wq_i64 (by omega) (by omega) (by omega) | rfl)) ?_ | refine RunE.region ?_ | refine RunL.nil ?_ | refine RunE.inBlock ?_)
      refine RunE.weaken (by repeat (first | exact Sub.nil _ | refine Sub.cons rfl ?_)) (again (i + 1, _) _ (by simp only; omega) ⟨by simp only; omega, X6, Z6, ?_⟩)
      simp only
      rw [rows_take hc]; exact O6
  · have hil : i = l.length := by omega
    subst hil
    rw [List.take_length] at O3
    repeat (first | refine RunE.seq ?_ | refine RunE.region ?_ | refine RunE.exit rfl ?_)
    have hd : (CV.list l).depth ≤ 16 := by
      simp only [CV.depth]
      rw [depths_zero l fun c hc => ?_]
      · omega
      · obtain ⟨i, hi⟩ := List.getElem?_of_mem hc
        obtain ⟨a, -, h⟩ := ha i c hi
        exact h.depth
    have hin : (CV.list l).In w3 [.int .i64 3, .int .i64 0, .string ⟨#[]⟩, u] := by
      simp only [CV.In]
      refine ⟨by omega, u, _, rfl, isSl_own O3, ins_rows l fun c hc => ?_⟩
      obtain ⟨i, hi⟩ := List.getElem?_of_mem hc
      obtain ⟨a, -, h⟩ := ha i c hi
      exact h.in_
    refine RunL.val rfl rfl rfl (OpV.loadN (cs := [.int .i64 3, .int .i64 0, .string ⟨#[]⟩, u]) Tryd.tOk rfl rfl rfl rfl Z3.row) ?_
    refine RunL.call rfl rfl rfl (encode_ok (.list l) _ w3 hin hd (by omega)) ?_
    rintro _ w4 ⟨r, rfl, O4, X4⟩
    repeat (first | refine RunL.pureI Tryd.tOk rfl rfl rfl (by (first | exact wr_i64 (by omega) (by omega) | exact wm_i64 (by omega) | exact wq_i64 (by omega) (by omega) (by omega) | rfl)) ?_ | refine RunL.pure Tryd.tOk rfl rfl rfl ?_ | refine RunE.seq ?_ | refine RunE.region ?_ | refine RunL.nil ?_)
    exact RunE.retFn Tryd.func77 (.tmp rfl .nil) ⟨ownsRow_base O4 hz3, X3.trans X4⟩
end Go.Sg
end
section
/- sign: Sign and Verify. -/
namespace Go.Cod
open Go.Rn Go.Sha
theorem args2 {w : World} {c0 c1 : CV} {a0 a1 : Value} (h0 : ArgIn w c0 a0) (h1 : ArgIn w c1 a1) : ∀ (i : Nat) (c : CV), [c0, c1][i]? = some c → ∃ a, [a0, a1][i]? = some a ∧ ArgIn w c a
  | 0, c, h => by simp at h; subst h; exact ⟨_, rfl, h0⟩
  | 1, c, h => by simp at h; subst h; exact ⟨_, rfl, h1⟩
  | i + 2, c, h => by simp at h
theorem args3 {w : World} {c0 c1 c2 : CV} {a0 a1 a2 : Value} (h0 : ArgIn w c0 a0) (h1 : ArgIn w c1 a1) (h2 : ArgIn w c2 a2) : ∀ (i : Nat) (c : CV), [c0, c1, c2][i]? = some c → ∃ a, [a0, a1, a2][i]? = some a ∧ ArgIn w c a
  | 0, c, h => by simp at h; subst h; exact ⟨_, rfl, h0⟩
  | 1, c, h => by simp at h; subst h; exact ⟨_, rfl, h1⟩
  | 2, c, h => by simp at h; subst h; exact ⟨_, rfl, h2⟩
  | i + 3, c, h => by simp at h
theorem enc2_le (x : Int) (b : List UInt8) (hx : -9223372036854775808 ≤ x ∧ x < 9223372036854775808) (hb : b.length ≤ 800000) : (CV.list [.int x, .text b]).enc.length ≤ 900000 := by
  have h1 := num_le _ (zig_lt x hx)
  have h2 := num_le b.length (by omega)
  have h3 := num_le [CV.int x, CV.text b].length (by simp)
  simp only [CV.enc, encs, List.length_cons, List.length_append, List.length_nil] at h3 ⊢
  omega
theorem enc3_le (x y : Int) (b : List UInt8) (hx : -9223372036854775808 ≤ x ∧ x < 9223372036854775808) (hy : -9223372036854775808 ≤ y ∧ y < 9223372036854775808) (hb : b.length ≤ 800000) : (CV.list [.int x, .int y, .text b]).enc.length ≤ 900000 := by
  have h1 := num_le _ (zig_lt x hx)
  have h1' := num_le _ (zig_lt y hy)
  have h2 := num_le b.length (by omega)
  have h3 := num_le [CV.int x, CV.int y, CV.text b].length (by simp)
  simp only [CV.enc, encs, List.length_cons, List.length_append, List.length_nil] at h3 ⊢
  omega
end Go.Cod
namespace Go.Sg
open Go.Rn Go.NT Go.Sha Go.Cod Go.Proofs
attribute [local irreducible] Go.Rn.RunL Go.Rn.RunE Go.Rn.Asy Go.Rn.OpV Go.Rn.OpE Go.Rn.ExecE

theorem hashS_bd (t l : List UInt8) : 0 ≤ hashS t l ∧ hashS t l < 1073741789 := by
  unfold hashS; exact ⟨Int.natCast_nonneg _, by omega⟩
theorem mulC_bd (a b : Int) : 0 ≤ mulC a b ∧ mulC a b < 2147483579 := by
  unfold mulC; split
  · exact ⟨Int.emod_nonneg _ (by decide), Int.emod_lt_of_pos _ (by decide)⟩
  · decide
theorem validS_bd {x : Int} (h : validS x = true) : 1 ≤ x ∧ x < 2147483579 := by
  have := of_decide_eq_true h; exact ⟨this.1, this.2.1⟩

def nonceB : List UInt8 := [110, 111, 110, 99, 101]
def signB : List UInt8 := [115, 105, 103, 110]
def noncH (x : Int) (b : List UInt8) : Int := hashS nonceB (CV.list [.int x, .text b]).enc
def noncN (x : Int) (b : List UInt8) : Int := if (1 : Int) > noncH x b then 1 else noncH x b
def chal (R key : Int) (b : List UInt8) : Int := hashS signB (CV.list [.int R, .int key, .text b]).enc
def inQ (x : Int) : Bool := decide (1 ≤ x ∧ x < 1073741789)
def sigE (x : Int) (b : List UInt8) : Int := if inQ x then chal (powC 4 (noncN x b)) (powC 4 x) b else 0
def sigS (x : Int) (b : List UInt8) : Int := if inQ x then (noncN x b + sigE x b * x % 1073741789) % 1073741789 else 0
def sigR (x : Int) : Int := if inQ x then 0 else 110
def sigOk (key E S : Int) : Bool := decide (0 ≤ E ∧ E < 1073741789 ∧ 0 ≤ S ∧ S < 1073741789) && validS key
def verS (key : Int) (b : List UInt8) (E S : Int) : Bool := sigOk key E S && (E == chal (mulC (powC 4 S) (powC key (-E))) key b)
theorem noncN_bd (x : Int) (b : List UInt8) : 1 ≤ noncN x b ∧ noncN x b < 1073741789 := by
  have := hashS_bd nonceB (CV.list [.int x, .text b]).enc
  unfold noncN noncH; split <;> omega

set_option maxRecDepth 4000 in
theorem power_ok (a n : Int) (w : World) : Rets Tryd.prog 76 [.int .i64 a, .int .i64 n] w fun v w' => v = .int .i64 (powC a n) ∧ Ext w w' := by
  refine RetsX.of (nt := 14) Tryd.func76 (by kernel_rfl) rfl rfl (by simp) (by simp only [argEnv]; rfl) ?_
  repeat (first | refine RunL.pureI Tryd.tOk rfl rfl rfl (by (first | exact wr_i64 (by omega) (by omega) | exact wm_i64 (by omega) | exact wq_i64 (by omega) (by omega) (by omega) | rfl)) ?_ | refine RunE.seq ?_ | refine RunE.region ?_ | refine RunL.nil ?_)
  refine RunL.call rfl rfl rfl (pow_ok a n _) ?_
  rintro _ w1 ⟨rfl, X1⟩
  repeat (first | refine RunL.pureI Tryd.tOk rfl rfl rfl (by (first | exact wr_i64 (by omega) (by omega) | exact wm_i64 (by omega) | exact wq_i64 (by omega) (by omega) (by omega) | rfl)) ?_ | refine RunL.pure Tryd.tOk rfl rfl rfl ?_ | refine RunE.seq ?_ | refine RunE.region ?_ | refine RunL.nil ?_)
  exact RunE.retFn Tryd.func76 (.tmp rfl .nil) ⟨rfl, X1⟩
set_option maxRecDepth 4000 in
theorem plus_ok (a n : Int) (w : World) (h : 0 ≤ a ∧ a < 1073741789) (h' : 0 ≤ n ∧ n < 1073741789) : Rets Tryd.prog 78 [.int .i64 a, .int .i64 n] w fun v w' => v = .int .i64 ((a + n) % 1073741789) ∧ w' = w := by
  refine RetsX.of (nt := 9) Tryd.func78 (by kernel_rfl) rfl rfl (by simp) (by simp only [argEnv]; rfl) ?_
  repeat (first | refine RunL.pureI Tryd.tOk rfl rfl rfl (by (first | exact wr_i64 (by omega) (by omega) | exact wm_i64 (by omega) | exact wq_i64 (by omega) (by omega) (by omega) | rfl)) ?_ | refine RunE.seq ?_ | refine RunE.region ?_ | refine RunL.nil ?_)
  exact RunE.retFn Tryd.func78 (.tmp rfl .nil) ⟨rfl, rfl⟩
theorem mul_bd30 {i k : Int} (hi : 0 ≤ i ∧ i < 1073741824) (hk : 0 ≤ k ∧ k < 1073741824) : 0 ≤ i * k ∧ i * k ≤ 1152921504606846976 := by
  refine ⟨Int.mul_nonneg hi.1 hk.1, ?_⟩
  have := Int.mul_le_mul (show i ≤ 1073741824 by omega) (show k ≤ 1073741824 by omega) hk.1 (by decide)
  omega
set_option maxRecDepth 4000 in
theorem times_ok (a n : Int) (w : World) (h : 0 ≤ a ∧ a < 1073741789) (h' : 0 ≤ n ∧ n < 1073741789) : Rets Tryd.prog 79 [.int .i64 a, .int .i64 n] w fun v w' => v = .int .i64 (a * n % 1073741789) ∧ w' = w := by
  have hm := mul_bd30 (i := a) (k := n) (by omega) (by omega)
  refine RetsX.of (nt := 9) Tryd.func79 (by kernel_rfl) rfl rfl (by simp) (by simp only [argEnv]; rfl) ?_
  repeat (first | refine RunL.pureI Tryd.tOk rfl rfl rfl (by (first | exact wr_i64 (by omega) (by omega) | exact wm_i64 (by omega) | exact wq_i64 (by omega) (by omega) (by omega) | rfl)) ?_ | refine RunE.seq ?_ | refine RunE.region ?_ | refine RunL.nil ?_)
  exact RunE.retFn Tryd.func79 (.tmp rfl .nil) ⟨rfl, rfl⟩

theorem vals_ext {S : Nat → Prop} {w w' : World} {g : Nat} {cs : List Value} (h : Row w g 0 cs) (e : ExtB S w w') (hn : ¬ S g) : Row w' g 0 cs := h.ext e hn

set_option maxRecDepth 4000 in
set_option maxHeartbeats 2000000 in
set_option maxRecDepth 4000 in
theorem sign_ok (x : Int) (v : Value) (b : List UInt8) (w : World) (hx : -9223372036854775808 ≤ x ∧ x < 9223372036854775808) (hv : IsSl w 1 v b.length (bytesV b)) (hb : b.length ≤ 800000) (hS : Row w 0 0 (vals init8.l)) (hkT : Row w 1 0 (vals kTab)) :
    Rets Tryd.prog 44 [.int .i64 x, v] w fun r w' => r = .tuple #[.agg #[.int .i64 (sigE x b), .int .i64 (sigS x b)], .int .i64 (sigR x)] ∧ Ext w w' := by
  refine RetsX.of (nt := 45) Tryd.func44 (by kernel_rfl) rfl rfl (by simp) (by simp only [argEnv]; rfl) ?_
  repeat (first | refine RunE.seq ?_ | refine RunE.region ?_)
  refine RunL.alloc Tryd.tOk rfl rfl rfl fun B4 w1 a1 => ?_
  have Z1 : Blk w1 B4 [.int .i64 0, .int .i64 0] 66 := a1.at_
  have hB4 := a1.eq
  have X1 := a1.ext
  have z1 := a1.size
  clear a1
  cases hq : inQ x with
  | false =>
    have hq' : ¬ (1 ≤ x ∧ x < 1073741789) := of_decide_eq_false hq
    by_cases h1 : x < 1
    · repeat (first | refine RunL.pureB Tryd.tOk _ rfl rfl rfl (by exact decide_eq_true h1) ?_ | refine RunL.pureI Tryd.tOk rfl rfl rfl (by (first | exact wr_i64 (by omega) (by omega) | exact wm_i64 (by omega) | exact wq_i64 (by omega) (by omega) (by omega) | rfl)) ?_ | refine RunL.pure Tryd.tOk rfl rfl rfl ?_ | refine RunL.unwantedD rfl rfl ?_ | refine RunE.seq ?_ | refine RunE.region ?_ | refine RunL.nil ?_)
      refine RunE.condT rfl rfl ?_
      repeat (first | refine RunE.seq ?_ | refine RunE.region ?_)
      refine RunL.val rfl rfl rfl (OpV.loadN (cs := [.int .i64 0, .int .i64 0]) Tryd.tOk rfl rfl rfl rfl Z1.row) ?_
      refine RunL.store Tryd.tOk rfl rfl rfl rfl rfl Z1 rfl rfl fun w3 t3 => ?_
      repeat (first | refine RunL.pureI Tryd.tOk rfl rfl rfl (by (first | exact wr_i64 (by omega) (by omega) | exact wm_i64 (by omega) | exact wq_i64 (by omega) (by omega) (by omega) | rfl)) ?_ | refine RunL.nil ?_)
      refine RunE.retFn Tryd.func44 (.cell rfl (.agg Tryd.tOk rfl rfl rfl (Blk.row (show Blk w3 B4 [.int .i64 0, .int .i64 0] 66 from t3.at_))) (.tmp rfl .nil)) ⟨?_, X1.write t3.ext (by intro i hi hlt; subst hi; omega)⟩
      simp [oneOr, sigE, sigS, sigR, hq]
    · repeat (first | refine RunL.pureB Tryd.tOk _ rfl rfl rfl (by exact decide_eq_false h1) ?_ | refine RunL.pureB Tryd.tOk _ rfl rfl rfl (by exact decide_eq_true (by omega)) ?_ | refine RunL.pureI Tryd.tOk rfl rfl rfl (by (first | exact wr_i64 (by omega) (by omega) | exact wm_i64 (by omega) | exact wq_i64 (by omega) (by omega) (by omega) | rfl)) ?_ | refine RunL.pure Tryd.tOk rfl rfl rfl ?_ | refine RunE.seq ?_ | refine RunE.region ?_ | refine RunL.nil ?_)
      refine RunE.condT rfl rfl ?_
      repeat (first | refine RunE.seq ?_ | refine RunE.region ?_)
      refine RunL.val rfl rfl rfl (OpV.loadN (cs := [.int .i64 0, .int .i64 0]) Tryd.tOk rfl rfl rfl rfl Z1.row) ?_
      refine RunL.store Tryd.tOk rfl rfl rfl rfl rfl Z1 rfl rfl fun w3 t3 => ?_
      repeat (first | refine RunL.pureI Tryd.tOk rfl rfl rfl (by (first | exact wr_i64 (by omega) (by omega) | exact wm_i64 (by omega) | exact wq_i64 (by omega) (by omega) (by omega) | rfl)) ?_ | refine RunL.nil ?_)
      refine RunE.retFn Tryd.func44 (.cell rfl (.agg Tryd.tOk rfl rfl rfl (Blk.row (show Blk w3 B4 [.int .i64 0, .int .i64 0] 66 from t3.at_))) (.tmp rfl .nil)) ⟨?_, X1.write t3.ext (by intro i hi hlt; subst hi; omega)⟩
      simp [oneOr, sigE, sigS, sigR, hq]
  | true =>
    have hq' : 1 ≤ x ∧ x < 1073741789 := of_decide_eq_true hq
    repeat (first | refine RunL.pureB Tryd.tOk _ rfl rfl rfl (by exact decide_eq_false (by omega)) ?_ | refine RunL.pureI Tryd.tOk rfl rfl rfl (by (first | exact wr_i64 (by omega) (by omega) | exact wm_i64 (by omega) | exact wq_i64 (by omega) (by omega) (by omega) | rfl)) ?_ | refine RunL.pure Tryd.tOk rfl rfl rfl ?_ | refine RunE.seq ?_ | refine RunE.region ?_ | refine RunL.nil ?_)
    refine RunE.condF rfl rfl ?_
    repeat (first | refine RunL.pureI Tryd.tOk rfl rfl rfl (by (first | exact wr_i64 (by omega) (by omega) | exact wm_i64 (by omega) | exact wq_i64 (by omega) (by omega) (by omega) | rfl)) ?_ | refine RunL.pure Tryd.tOk rfl rfl rfl ?_ | refine RunE.seq ?_ | refine RunE.region ?_ | refine RunE.skip ?_)
    refine RunL.ex rfl rfl rfl (OpE.buildSl Tryd.tOk [.iface 3 (.int .i64 x), .iface 64 v] rfl rfl rfl rfl rfl rfl (by simp [Value.cells])) ?_
    rintro _ w2 ⟨B, rfl, a2⟩
    have X2 := X1.trans a2.ext
    refine RunL.call rfl rfl rfl (list_ok [.int x, .text b] _ _ w2 (isSl_added (n := 2) (sz := 1) a2 rfl) (args2 (.int hx) (.text (hv.extE X2) (by omega))) (by simp) (enc2_le x b hx hb)) ?_
    rintro r3 w3 ⟨O3, X3⟩
    have Y3 := X2.trans X3
    refine RunL.call rfl rfl rfl (hash_ok ⟨#[110, 111, 110, 99, 101]⟩ r3 _ w3 (by decide) (isSl_own O3) (enc2_le x b hx hb) (hS.extE Y3) (hkT.extE Y3)) ?_
    rintro _ w4 ⟨rfl, X4⟩
    have Y4 := Y3.trans X4
    have Z4 := ((Z1.ext a2.ext id).ext X3 id).ext X4 id
    clear a2 O3
    have hkb := noncN_bd x b
    have hc := hashS_bd signB (CV.list [.int (powC 4 (noncN x b)), .int (powC 4 x), .text b]).enc
    have hp1 := powC_bd 4 (noncN x b)
    have hp2 := powC_bd 4 x
    refine RunL.pureI (m' := noncN x b) Tryd.tOk rfl rfl rfl (by rfl) ?_
    generalize hk : noncN x b = kx at *
    repeat (first | refine RunL.pureI Tryd.tOk rfl rfl rfl (by (first | exact wr_i64 (by omega) (by omega) | exact wm_i64 (by omega) | exact wq_i64 (by omega) (by omega) (by omega) | rfl)) ?_ | refine RunE.seq ?_ | refine RunE.region ?_ | refine RunL.nil ?_)
    refine RunL.call rfl rfl rfl (power_ok 4 kx _) ?_
    rintro _ w5 ⟨rfl, X5⟩
    repeat (first | refine RunL.pureI Tryd.tOk rfl rfl rfl (by (first | exact wr_i64 (by omega) (by omega) | exact wm_i64 (by omega) | exact wq_i64 (by omega) (by omega) (by omega) | rfl)) ?_ | refine RunL.pure Tryd.tOk rfl rfl rfl ?_)
    refine RunL.call rfl rfl rfl (power_ok 4 x _) ?_
    rintro _ w6 ⟨rfl, X6⟩
    have Y6 := (Y4.trans X5).trans X6
    repeat (first | refine RunL.pure Tryd.tOk rfl rfl rfl ?_)
    refine RunL.ex rfl rfl rfl (OpE.buildSl Tryd.tOk [.iface 3 (.int .i64 (powC 4 kx)), .iface 3 (.int .i64 (powC 4 x)), .iface 64 v] rfl rfl rfl rfl rfl rfl (by simp [Value.cells])) ?_
    rintro _ w7 ⟨B', rfl, a7⟩
    have Y7 := Y6.trans a7.ext
    refine RunL.call rfl rfl rfl (list_ok [.int (powC 4 kx), .int (powC 4 x), .text b] _ _ w7 (isSl_added (n := 3) (sz := 1) a7 rfl) (args3 (.int (by omega)) (.int (by omega)) (.text (hv.extE Y7) (by omega))) (by simp) (enc3_le _ _ b (by omega) (by omega) hb)) ?_
    rintro r8 w8 ⟨O8, X8⟩
    have Y8 := Y7.trans X8
    refine RunL.call rfl rfl rfl (hash_ok ⟨#[115, 105, 103, 110]⟩ r8 _ w8 (by decide) (isSl_own O8) (enc3_le _ _ b (by omega) (by omega) hb) (hS.extE Y8) (hkT.extE Y8)) ?_
    rintro _ w9 ⟨rfl, X9⟩
    have Y9 := Y8.trans X9
    have Z9 := ((((Z4.ext X5 id).ext X6 id).ext a7.ext id).ext X8 id).ext X9 id
    clear a7 O8
    have hE : sigE x b = hashS signB (CV.list [.int (powC 4 kx), .int (powC 4 x), .text b]).enc := by
      unfold sigE chal; rw [hq, if_pos rfl, hk]
    change 0 ≤ hashS [115, 105, 103, 110] (CV.list [.int (powC 4 kx), .int (powC 4 x), .text b]).enc ∧ hashS [115, 105, 103, 110] (CV.list [.int (powC 4 kx), .int (powC 4 x), .text b]).enc < 1073741789 at hc
    have hE' : hashS [115, 105, 103, 110] (CV.list [.int (powC 4 kx), .int (powC 4 x), .text b]).enc = sigE x b := hE.symm
    rw [hE'] at hc
    show RunL _ _ _ _ _ _ _ _ ((33, .int .i64 (hashS [115, 105, 103, 110] (CV.list [.int (powC 4 kx), .int (powC 4 x), .text b]).enc)) :: _) _
    rw [hE']
    generalize hEg : sigE x b = E at *
    have hm := mul_bd30 (i := E) (k := x) (by omega) (by omega)
    have hm2 : 0 ≤ E * x % 1073741789 ∧ E * x % 1073741789 < 1073741789 := ⟨Int.emod_nonneg _ (by decide), Int.emod_lt_of_pos _ (by decide)⟩
    repeat (first | refine RunL.pure Tryd.tOk rfl rfl rfl ?_)
    refine RunL.store Tryd.tOk rfl rfl rfl rfl rfl Z9 rfl rfl fun wa ta => ?_
    have Za : Blk wa B4 [.int .i64 E, .int .i64 0] 66 := ta.at_
    have Ya := Y9.write ta.ext (S := fun _ => False) (by intro i hi hlt; subst hi; omega)
    clear ta
    repeat (first | refine RunL.pureI Tryd.tOk rfl rfl rfl (by (first | exact wr_i64 (by omega) (by omega) | exact wm_i64 (by omega) | exact wq_i64 (by omega) (by omega) (by omega) | rfl)) ?_ | refine RunL.pure Tryd.tOk rfl rfl rfl ?_ | refine RunL.val rfl rfl rfl (OpV.load1 Tryd.tOk rfl rfl rfl (Blk.cell Za rfl)) ?_ | refine RunE.seq ?_ | refine RunE.region ?_ | refine RunL.nil ?_)
    refine RunL.call rfl rfl rfl (times_ok E x _ hc (by omega)) ?_
    rintro _ _ ⟨rfl, rfl⟩
    refine RunL.callV (fv := .func (.func 78) #[.int .i64 kx] #[]) rfl rfl rfl rfl (Rets.v (fi := [.int .i64 kx]) (all := [.int .i64 kx, .int .i64 (E * x % 1073741789)]) (plus_ok kx _ _ (by omega) hm2) rfl) (fun _ _ _ h => h.elim) ?_
    rintro _ _ ⟨rfl, rfl⟩
    repeat (first | refine RunL.pure Tryd.tOk rfl rfl rfl ?_)
    refine RunL.store Tryd.tOk rfl rfl rfl rfl rfl Za rfl rfl fun wb tb => ?_
    have Zb : Blk wb B4 [.int .i64 E, .int .i64 ((kx + E * x % 1073741789) % 1073741789)] 66 := tb.at_
    have Yb := Ya.write tb.ext (S := fun _ => False) (by intro i hi hlt; subst hi; omega)
    clear tb
    repeat (first | refine RunE.seq ?_ | refine RunE.region ?_ | refine RunL.nil ?_)
    refine RunL.val rfl rfl rfl (OpV.loadN (cs := [.int .i64 E, .int .i64 ((kx + E * x % 1073741789) % 1073741789)]) Tryd.tOk rfl rfl rfl rfl Zb.row) ?_
    refine RunL.store Tryd.tOk rfl rfl rfl rfl rfl Zb rfl rfl fun wc tc => ?_
    repeat (first | refine RunL.pureI Tryd.tOk rfl rfl rfl (by (first | exact wr_i64 (by omega) (by omega) | exact wm_i64 (by omega) | exact wq_i64 (by omega) (by omega) (by omega) | rfl)) ?_ | refine RunL.nil ?_)
    refine RunE.retFn Tryd.func44 (.cell rfl (.agg Tryd.tOk rfl rfl rfl (Blk.row (show Blk wc B4 [.int .i64 E, .int .i64 ((kx + E * x % 1073741789) % 1073741789)] 66 from tc.at_))) (.tmp rfl .nil)) ⟨?_, Yb.write tc.ext (by intro i hi hlt; subst hi; omega)⟩
    have hSg : sigS x b = (kx + E * x % 1073741789) % 1073741789 := by unfold sigS; rw [hq, if_pos rfl, hk, hEg]
    simp [oneOr, hSg, sigR, hq]
end Go.Sg
end
section
/- Lists sorted by number; the last of the greatest: plain. -/
namespace Go.Best
section
variable {α : Type} (no at_ : α → Int)
def Srt (l : List α) : Prop := l.Pairwise fun a b => no a < no b
def good (rt : α → Bool) : Int → List α → Bool
  | _, [] => true
  | last, x :: r => rt x && decide (last < no x) && good rt (no x) r
def chk (rt : α → Bool) (lim : Nat) (code : Int) (l : List α) : Int := if lim < l.length then 2 else if good no rt (-1) l then 0 else code
def insS (x : α) (l : List α) : List α := l.takeWhile (fun y => decide (no y < no x)) ++ x :: l.dropWhile (fun y => decide (no y < no x))
def addE (rt : α → Bool) (lim : Nat) (code : Int) (l : List α) (x : α) : Int :=
  if chk no rt lim code l = 0 then (if rt x then (if l.any (fun y => decide (no y = no x)) then 151 else if l.length = lim then 2 else 0) else code) else chk no rt lim code l
def addL (rt : α → Bool) (lim : Nat) (code : Int) (l : List α) (x : α) : List α := if addE no rt lim code l x = 0 then insS no x l else []
variable {no at_}
theorem good_srt {rt : α → Bool} : ∀ {l : List α} {last : Int}, good no rt last l = true → Srt no l ∧ ∀ x ∈ l, last < no x ∧ rt x = true
  | [], last, _ => ⟨List.Pairwise.nil, by simp⟩
  | x :: r, last, h => by
    simp only [good, Bool.and_eq_true, decide_eq_true_eq] at h
    obtain ⟨⟨h1, h2⟩, h3⟩ := h
    obtain ⟨h4, h5⟩ := good_srt h3
    refine ⟨List.pairwise_cons.2 ⟨fun y hy => (h5 y hy).1, h4⟩, fun y hy => ?_⟩
    rcases List.mem_cons.1 hy with rfl | hy
    · exact ⟨h2, h1⟩
    · exact ⟨by have := (h5 y hy).1; omega, (h5 y hy).2⟩
theorem good_of {rt : α → Bool} : ∀ {l : List α} {last : Int}, Srt no l → (∀ x ∈ l, last < no x ∧ rt x = true) → good no rt last l = true
  | [], _, _, _ => rfl
  | x :: r, last, h, h' => by
    obtain ⟨h1, h2⟩ := List.pairwise_cons.1 h
    have := h' x List.mem_cons_self
    simp only [good, Bool.and_eq_true, decide_eq_true_eq]
    exact ⟨⟨this.2, this.1⟩, good_of h2 fun y hy => ⟨h1 y hy, (h' y (List.mem_cons_of_mem _ hy)).2⟩⟩
theorem chk_ok {rt : α → Bool} {lim : Nat} {code : Int} {l : List α} (hc : code ≠ 0) : chk no rt lim code l = 0 ↔ l.length ≤ lim ∧ good no rt (-1) l = true := by
  unfold chk; split
  · simp; omega
  · split
    · rename_i h; simp [h]; omega
    · rename_i h; simp [h, hc]
theorem mem_insS {x y : α} {l : List α} : y ∈ insS no x l ↔ y = x ∨ y ∈ l := by
  unfold insS
  have := List.takeWhile_append_dropWhile (p := fun y => decide (no y < no x)) (l := l)
  conv => rhs; rw [← this]
  simp only [List.mem_append, List.mem_cons]
  constructor <;> intro h
  · rcases h with h | h | h
    · exact .inr (.inl h)
    · exact .inl h
    · exact .inr (.inr h)
  · rcases h with h | h | h
    · exact .inr (.inl h)
    · exact .inl h
    · exact .inr (.inr h)
theorem length_insS (x : α) (l : List α) : (insS no x l).length = l.length + 1 := by
  unfold insS
  have := congrArg List.length (List.takeWhile_append_dropWhile (p := fun y => decide (no y < no x)) (l := l))
  simp only [List.length_append, List.length_cons] at this ⊢
  omega
theorem srt_cons {x : α} {l : List α} : Srt no (x :: l) ↔ (∀ y ∈ l, no x < no y) ∧ Srt no l := List.pairwise_cons
theorem insS_cons (x y : α) (l : List α) : insS no x (y :: l) = if no y < no x then y :: insS no x l else x :: y :: l := by
  unfold insS
  simp only [List.takeWhile_cons, List.dropWhile_cons]
  by_cases h : no y < no x <;> simp [h]
theorem srt_insS {x : α} : ∀ {l : List α}, Srt no l → (∀ y ∈ l, no y ≠ no x) → Srt no (insS no x l)
  | [], _, _ => by simp [insS, Srt]
  | y :: l, h, h' => by
    obtain ⟨h1, h2⟩ := srt_cons.1 h
    rw [insS_cons]
    split
    · rename_i hlt
      refine srt_cons.2 ⟨fun z hz => ?_, srt_insS h2 fun z hz => h' z (List.mem_cons_of_mem _ hz)⟩
      rcases mem_insS.1 hz with rfl | hz
      · exact hlt
      · exact h1 z hz
    · rename_i hge
      have := h' y List.mem_cons_self
      refine srt_cons.2 ⟨fun z hz => ?_, h⟩
      rcases List.mem_cons.1 hz with rfl | hz
      · omega
      · have := h1 z hz; omega
theorem filter_insS {p : α → Bool} {x : α} (hx : p x = false) (l : List α) : (insS no x l).filter p = l.filter p := by
  unfold insS
  conv => rhs; rw [← List.takeWhile_append_dropWhile (p := fun y => decide (no y < no x)) (l := l)]
  rw [List.filter_append, List.filter_append, List.filter_cons, hx]; simp
theorem srt_ext : ∀ {a b : List α}, Srt no a → Srt no b → (∀ x, x ∈ a ↔ x ∈ b) → a = b
  | [], [], _, _, _ => rfl
  | [], y :: b, _, _, h => by have := (h y).2 List.mem_cons_self; simp at this
  | x :: a, [], _, _, h => by have := (h x).1 List.mem_cons_self; simp at this
  | x :: a, y :: b, ha, hb, h => by
    obtain ⟨a1, a2⟩ := srt_cons.1 ha
    obtain ⟨b1, b2⟩ := srt_cons.1 hb
    have hxy : x = y := by
      rcases List.mem_cons.1 ((h x).1 List.mem_cons_self) with e | e
      · exact e
      · rcases List.mem_cons.1 ((h y).2 List.mem_cons_self) with e' | e'
        · exact e'.symm
        · have := b1 x e; have := a1 y e'; omega
    subst hxy
    rw [srt_ext a2 b2 fun z => ?_]
    constructor
    · intro hz
      rcases List.mem_cons.1 ((h z).1 (List.mem_cons_of_mem _ hz)) with e | e
      · subst e; have := a1 z hz; omega
      · exact e
    · intro hz
      rcases List.mem_cons.1 ((h z).2 (List.mem_cons_of_mem _ hz)) with e | e
      · subst e; have := b1 z hz; omega
      · exact e
theorem Srt.filter {l : List α} (h : Srt no l) (p : α → Bool) : Srt no (l.filter p) := h.sublist List.filter_sublist
theorem Srt.inj {l : List α} : Srt no l → ∀ x ∈ l, ∀ y ∈ l, no x = no y → x = y := by
  induction l with
  | nil => intro _ x hx; simp at hx
  | cons a l ih =>
    intro h x hx y hy e
    obtain ⟨h1, h2⟩ := srt_cons.1 h
    rcases List.mem_cons.1 hx with e1 | hx1
    · rcases List.mem_cons.1 hy with e2 | hy1
      · rw [e1, e2]
      · have := h1 y hy1; subst e1; omega
    · rcases List.mem_cons.1 hy with e2 | hy1
      · have := h1 x hx1; subst e2; omega
      · exact ih h2 x hx1 y hy1 e
theorem split_at {m : Int} : ∀ {l : List α}, Srt no l → (l.takeWhile fun y => decide (no y < m)).length ≤ l.length ∧ (∀ i x, l[i]? = some x → i < (l.takeWhile fun y => decide (no y < m)).length → no x < m) ∧
    (∀ i x, l[i]? = some x → (l.takeWhile fun y => decide (no y < m)).length ≤ i → m ≤ no x) ∧
    (l.any fun y => decide (no y = m)) = (match l[(l.takeWhile fun y => decide (no y < m)).length]? with | some x => decide (no x = m) | none => false)
  | [], _ => by simp
  | y :: l, h => by
    obtain ⟨h1, h2⟩ := srt_cons.1 h
    obtain ⟨i1, i2, i3, i4⟩ := split_at (m := m) h2
    by_cases hy : no y < m
    · simp only [List.takeWhile_cons, hy, decide_true, if_true, List.length_cons, List.any_cons, List.getElem?_cons_succ]
      refine ⟨by omega, fun i x hx hi => ?_, fun i x hx hi => ?_, ?_⟩
      · cases i with
        | zero => simp at hx; subst hx; exact hy
        | succ i => exact i2 i x (by simpa using hx) (by omega)
      · cases i with
        | zero => omega
        | succ i => exact i3 i x (by simpa using hx) (by omega)
      · rw [← i4, decide_eq_false (by omega), Bool.false_or]
    · simp only [List.takeWhile_cons, hy, decide_false, List.length_nil, List.any_cons]
      refine ⟨Nat.zero_le _, fun i x _ hi => by simp at hi, fun i x hx _ => ?_, ?_⟩
      · cases i with
        | zero => simp at hx; subst hx; omega
        | succ i => have := h1 x (List.mem_of_getElem? (by simpa using hx)); omega
      · have : (l.any fun y => decide (no y = m)) = false := by
          rw [List.any_eq_false]; intro x hx; have := h1 x hx; simp; omega
        rw [this]; simp
theorem take_while {p : α → Bool} : ∀ (l : List α), l.take (l.takeWhile p).length = l.takeWhile p ∧ l.drop (l.takeWhile p).length = l.dropWhile p
  | [] => by simp
  | x :: l => by
    obtain ⟨h1, h2⟩ := take_while (p := p) l
    simp only [List.takeWhile_cons, List.dropWhile_cons]
    cases p x <;> simp [h1, h2]
def cmpI (a b : Int) : Int := if a < b then -1 else if b < a then 1 else 0
theorem cmpI_neg {a b : Int} : cmpI a b < 0 ↔ a < b := by unfold cmpI; split <;> (try split) <;> omega
theorem cmpI_zero {a b : Int} : cmpI a b = 0 ↔ a = b := by unfold cmpI; split <;> (try split) <;> omega
theorem cmpI_bd (a b : Int) : -1 ≤ cmpI a b ∧ cmpI a b ≤ 1 := by unfold cmpI; split <;> (try split) <;> omega
variable (no at_)
/-- o is the last of the greatest at time t. -/
def isB (f : List α) (t : Int) : Option α → Prop
  | none => ∀ y ∈ f, t < at_ y
  | some z => z ∈ f ∧ at_ z ≤ t ∧ ∀ y ∈ f, at_ y ≤ t → at_ y < at_ z ∨ (at_ y = at_ z ∧ no y ≤ no z)
def pickS (t : Int) (best : Option α) (x : α) : Option α :=
  if at_ x ≤ t then (match best with
    | none => some x
    | some y => if at_ y ≤ at_ x then some x else some y) else best
def bst (f : List α) (t : Int) : Option α := f.foldl (pickS at_ t) none
variable {no at_}
theorem isB_uniq {f : List α} {t : Int} (hi : ∀ x ∈ f, ∀ y ∈ f, no x = no y → x = y) : ∀ {o o' : Option α}, isB no at_ f t o → isB no at_ f t o' → o = o'
  | none, none, _, _ => rfl
  | none, some z, h, h' => by have := h z h'.1; have := h'.2.1; omega
  | some z, none, h, h' => by have := h' z h.1; have := h.2.1; omega
  | some z, some z', h, h' => by
    have h1 := h.2.2 z' h'.1 h'.2.1
    have h2 := h'.2.2 z h.1 h.2.1
    rw [hi z h.1 z' h'.1 (by omega)]
theorem isB_mem {f g : List α} {t : Int} {o : Option α} (h : ∀ x, x ∈ f ↔ x ∈ g) : isB no at_ f t o → isB no at_ g t o := by
  cases o with
  | none => exact fun hb y hy => hb y ((h y).2 hy)
  | some z => exact fun hb => ⟨(h z).1 hb.1, hb.2.1, fun y hy => hb.2.2 y ((h y).2 hy)⟩
theorem pick_isB {pre : List α} {t : Int} {b : Option α} {x : α} (hb : isB no at_ pre t b) (hx : ∀ y ∈ pre, no y < no x) : isB no at_ (pre ++ [x]) t (pickS at_ t b x) := by
  unfold pickS
  split
  · rename_i hle
    cases b with
    | none =>
      refine ⟨by simp, hle, fun y hy hyt => ?_⟩
      rcases List.mem_append.1 hy with hy | hy
      · have := hb y hy; omega
      · simp at hy; subst hy; exact .inr ⟨rfl, Int.le_refl _⟩
    | some z =>
      simp only
      split
      · rename_i hz
        refine ⟨by simp, hle, fun y hy hyt => ?_⟩
        rcases List.mem_append.1 hy with hy | hy
        · have := hb.2.2 y hy hyt
          have := hx y hy
          rcases Int.lt_or_eq_of_le (show at_ y ≤ at_ x by omega) with h | h
          · exact .inl h
          · exact .inr ⟨h, by omega⟩
        · simp at hy; subst hy; exact .inr ⟨rfl, Int.le_refl _⟩
      · rename_i hz
        refine ⟨by simp [hb.1], hb.2.1, fun y hy hyt => ?_⟩
        rcases List.mem_append.1 hy with hy | hy
        · exact hb.2.2 y hy hyt
        · simp at hy; subst hy; exact .inl (by omega)
  · rename_i hgt
    cases b with
    | none =>
      intro y hy
      rcases List.mem_append.1 hy with hy | hy
      · exact hb y hy
      · simp at hy; subst hy; omega
    | some z =>
      refine ⟨by simp [hb.1], hb.2.1, fun y hy hyt => ?_⟩
      rcases List.mem_append.1 hy with hy | hy
      · exact hb.2.2 y hy hyt
      · simp at hy; subst hy; omega
theorem fold_isB {t : Int} : ∀ (post pre : List α) (b : Option α), isB no at_ pre t b → Srt no (pre ++ post) → isB no at_ (pre ++ post) t (post.foldl (pickS at_ t) b)
  | [], pre, b, hb, _ => by simpa using hb
  | x :: post, pre, b, hb, hs => by
    have h1 : Srt no ((pre ++ [x]) ++ post) := by simpa using hs
    have := fold_isB post (pre ++ [x]) _ (pick_isB hb fun y hy => (List.pairwise_append.1 hs).2.2 y hy x List.mem_cons_self) h1
    simpa using this
theorem bst_isB {f : List α} (hs : Srt no f) (t : Int) : isB no at_ f t (bst at_ f t) := by
  have := fold_isB (no := no) (at_ := at_) (t := t) f [] none (by intro y hy; simp at hy) (by simpa using hs)
  exact this
theorem bst_eq {f : List α} (hs : Srt no f) {t : Int} {o : Option α} (h : isB no at_ f t o) : bst at_ f t = o := isB_uniq hs.inj (bst_isB hs t) h
theorem bst_mem {f : List α} {t : Int} {z : α} (hs : Srt no f) (h : bst at_ f t = some z) : z ∈ f ∧ at_ z ≤ t := by
  have := bst_isB (at_ := at_) hs t
  rw [h] at this; exact ⟨this.1, this.2.1⟩
theorem bst_snoc (f : List α) (x : α) (t : Int) : bst at_ (f ++ [x]) t = pickS at_ t (bst at_ f t) x := by simp [bst]
end
end Go.Best
end
section
/- Nonces (chapter 41): plain. -/
namespace Go.Non
open Go.NT Go.Sg Go.Sha Go.Cod
structure Book where
  keeper : Int
  seed : Int
  next : Int
  left : List Int
deriving Inhabited
structure Pr where
  keeper : Int
  no : Int
  d : Int
  e : Int
deriving DecidableEq, Inhabited
def incB (next : Int) : Int → List Int → Bool
  | _, [] => true
  | last, n :: r => decide (last < n ∧ n < next) && incB next n r
def numsB (b : Book) : Bool := decide (0 ≤ b.keeper ∧ b.keeper < 64 ∧ 0 ≤ b.seed ∧ b.seed ≤ 1099511627776 ∧ 0 ≤ b.next ∧ b.next ≤ 4096)
def rtB (b : Book) : Bool := incB b.next (-1) b.left && numsB b
def hshN (k s no which : Int) : Int := hashS nonceB (CV.list [.int k, .int s, .int no, .int which]).enc
def numN (k s no which : Int) : Int := if hshN k s no which > (1 : Int) then hshN k s no which else 1
def pairN (k s no : Int) : Pr := ⟨k, no, powC 4 (numN k s no 0), powC 4 (numN k s no 1)⟩
def zeroB : Book := ⟨0, 0, 0, []⟩
def newE (k s : Int) : Int := if 0 ≤ k ∧ k < 64 ∧ 0 ≤ s ∧ s ≤ 1099511627776 then 0 else 1
def newB (k s : Int) : Book := if newE k s = 0 then ⟨k, s, 0, []⟩ else zeroB
def makeE (b : Book) (n : Int) : Int := if rtB b then (if n < 0 then 1 else if n > 4096 - b.next then 2 else 0) else 410
def upB (b : Book) (n : Nat) : List Int := (List.range n).map fun (i : Nat) => b.next + (i : Int)
def makeB (b : Book) (n : Int) : Book := if makeE b n = 0 then { b with left := b.left ++ upB b n.toNat, next := b.next + n } else zeroB
def makeL (b : Book) (n : Int) : List Pr := if makeE b n = 0 then (upB b n.toNat).map (pairN b.keeper b.seed) else []
def takeE (b : Book) (no doc : Int) : Int := if rtB b then (if 0 ≤ doc ∧ doc < 4096 then (if b.left.any fun x => decide (x = no) then 0 else 411) else 1) else 410
def takeB (b : Book) (no doc : Int) : Book := if takeE b no doc = 0 then { b with left := b.left.filter fun x => decide (x ≠ no) } else zeroB
def takeD (b : Book) (no doc which : Int) : Int := if takeE b no doc = 0 then numN b.keeper b.seed no which else 0
def burnE (b : Book) : Int := if rtB b then 0 else 410
def burnB (b : Book) : Book := if rtB b then { b with left := [] } else zeroB
theorem incB_inv {next : Int} : ∀ {l : List Int} {last : Int}, incB next last l = true → l.Pairwise (· < ·) ∧ ∀ x ∈ l, last < x ∧ x < next
  | [], _, _ => ⟨List.Pairwise.nil, by simp⟩
  | n :: r, last, h => by
    simp only [incB, Bool.and_eq_true, decide_eq_true_eq] at h
    obtain ⟨⟨h1, h2⟩, h3⟩ := h
    obtain ⟨i1, i2⟩ := incB_inv h3
    refine ⟨List.pairwise_cons.2 ⟨fun y hy => (i2 y hy).1, i1⟩, fun y hy => ?_⟩
    rcases List.mem_cons.1 hy with rfl | hy
    · exact ⟨h1, h2⟩
    · have := i2 y hy; omega
theorem incB_of {next : Int} : ∀ {l : List Int} {last : Int}, l.Pairwise (· < ·) → (∀ x ∈ l, last < x ∧ x < next) → incB next last l = true
  | [], _, _, _ => rfl
  | n :: r, last, h, h' => by
    obtain ⟨h1, h2⟩ := List.pairwise_cons.1 h
    have := h' n List.mem_cons_self
    simp only [incB, Bool.and_eq_true, decide_eq_true_eq]
    exact ⟨this, incB_of h2 fun y hy => ⟨h1 y hy, (h' y (List.mem_cons_of_mem _ hy)).2⟩⟩
theorem numN_bd (k s no which : Int) : 1 ≤ numN k s no which ∧ numN k s no which < 1073741789 := by
  have : 0 ≤ hshN k s no which ∧ hshN k s no which < 1073741789 := hashS_bd nonceB (CV.list [.int k, .int s, .int no, .int which]).enc
  unfold numN
  split <;> omega
end Go.Non
end
section
/- Devices (chapter 48): plain. -/
namespace Go.Dev
open Go.Best Go.NT Go.Sg
structure Dev where
  no : Int
  at_ : Int
  known : Int
  person : Int
  key : Int
  gone : Bool
deriving DecidableEq, Inhabited
def i64 (n : Int) : Prop := -9223372036854775808 ≤ n ∧ n < 9223372036854775808
def rightD (x : Dev) : Bool := decide (0 ≤ x.no ∧ x.no ≤ 1048576 ∧ 0 ≤ x.at_ ∧ x.at_ < 1099511627776 ∧ 0 ≤ x.known ∧ x.known < 1099511627776 ∧ 0 ≤ x.person ∧ x.person < 64) && (if x.gone then decide (x.key = 0) else validS x.key && decide (x.key ≠ 1))
theorem right_key {x : Dev} (h : rightD x = true) : x.gone = decide (x.key = 0) := by
  unfold rightD at h
  simp only [Bool.and_eq_true] at h
  cases hg : x.gone with
  | true => rw [hg] at h; simp at h; simp [h.2]
  | false =>
    rw [hg] at h
    simp at h
    have := validS_inv h.2.1
    symm; exact decide_eq_false (by omega)
theorem right_no {x : Dev} (h : rightD x = true) : 0 ≤ x.no ∧ 0 ≤ x.at_ ∧ x.at_ < 1099511627776 := by
  unfold rightD at h
  rw [Bool.and_eq_true] at h
  have := of_decide_eq_true h.1; omega
abbrev SrtD := Srt Dev.no
def usedD (l : List Dev) (key : Int) : Bool := l.any fun y => decide (key ≠ 0 ∧ y.key = key)
theorem usedD_snoc (l : List Dev) (x : Dev) (key : Int) : usedD (l ++ [x]) key = (usedD l key || decide (key ≠ 0 ∧ x.key = key)) := by simp [usedD, List.any_append]
/-- One after the other: right, in order, with new keys. -/
def goodL (pre : List Dev) (last : Int) : List Dev → Bool
  | [] => true
  | x :: r => rightD x && decide (last < x.no) && !usedD pre x.key && goodL (pre ++ [x]) x.no r
def chkD (l : List Dev) : Int := if 1024 < l.length then 2 else if goodL [] (-1) l then 0 else 480
def KeysD (l : List Dev) : Prop := l.Pairwise fun a b => b.key ≠ 0 → a.key ≠ b.key
theorem goodL_inv : ∀ {l pre : List Dev} {last : Int}, goodL pre last l = true → SrtD l ∧ (∀ x ∈ l, last < x.no ∧ rightD x = true) ∧ KeysD l ∧ (∀ x ∈ l, usedD pre x.key = false)
  | [], _, _, _ => ⟨List.Pairwise.nil, by simp, List.Pairwise.nil, by simp⟩
  | x :: r, pre, last, h => by
    simp only [goodL, Bool.and_eq_true, decide_eq_true_eq, Bool.not_eq_true'] at h
    obtain ⟨⟨⟨h1, h2⟩, h3⟩, h4⟩ := h
    obtain ⟨i1, i2, i3, i4⟩ := goodL_inv h4
    refine ⟨List.pairwise_cons.2 ⟨fun y hy => (i2 y hy).1, i1⟩, fun y hy => ?_, List.pairwise_cons.2 ⟨fun y hy hk e => ?_, i3⟩, fun y hy => ?_⟩
    · rcases List.mem_cons.1 hy with rfl | hy
      · exact ⟨h2, h1⟩
      · exact ⟨by have := (i2 y hy).1; omega, (i2 y hy).2⟩
    · have := i4 y hy
      rw [usedD_snoc, Bool.or_eq_false_iff] at this
      exact absurd (decide_eq_true (p := y.key ≠ 0 ∧ x.key = y.key) ⟨hk, e⟩) (by rw [this.2]; simp)
    · rcases List.mem_cons.1 hy with rfl | hy
      · exact h3
      · have := i4 y hy
        rw [usedD_snoc, Bool.or_eq_false_iff] at this
        exact this.1
theorem goodL_of : ∀ {l pre : List Dev} {last : Int}, SrtD l → (∀ x ∈ l, last < x.no ∧ rightD x = true) → KeysD l → (∀ x ∈ l, usedD pre x.key = false) → goodL pre last l = true
  | [], _, _, _, _, _, _ => rfl
  | x :: r, pre, last, h1, h2, h3, h4 => by
    obtain ⟨a1, a2⟩ := List.pairwise_cons.1 h1
    obtain ⟨k1, k2⟩ := List.pairwise_cons.1 h3
    have hx := h2 x List.mem_cons_self
    simp only [goodL, Bool.and_eq_true, decide_eq_true_eq, Bool.not_eq_true']
    refine ⟨⟨⟨hx.2, hx.1⟩, h4 x List.mem_cons_self⟩, goodL_of a2 (fun y hy => ⟨a1 y hy, (h2 y (List.mem_cons_of_mem _ hy)).2⟩) k2 fun y hy => ?_⟩
    rw [usedD_snoc, Bool.or_eq_false_iff]
    exact ⟨h4 y (List.mem_cons_of_mem _ hy), decide_eq_false fun h => k1 y hy h.1 h.2⟩
theorem chkD_ok {l : List Dev} : chkD l = 0 ↔ l.length ≤ 1024 ∧ SrtD l ∧ (∀ x ∈ l, rightD x = true) ∧ KeysD l := by
  unfold chkD
  split
  · rename_i h
    exact ⟨fun e => absurd e (by decide), fun e => absurd e.1 (by omega)⟩
  · rename_i h0
    split
    · rename_i h
      obtain ⟨a, b, c, -⟩ := goodL_inv h
      exact ⟨fun _ => ⟨by omega, a, fun x hx => (b x hx).2, c⟩, fun _ => rfl⟩
    · rename_i h
      exact ⟨fun e => absurd e (by decide), fun ⟨_, a, b, c⟩ => absurd (goodL_of a (fun x hx => ⟨by have := (right_no (b x hx)).1; omega, b x hx⟩) c fun x _ => rfl) h⟩
def addED (l : List Dev) (x : Dev) : Int :=
  if chkD l = 0 then (if rightD x then (if (l.any fun y => decide (y.no = x.no)) || usedD l x.key then 151 else if l.length = 1024 then 2 else 0) else 480) else chkD l
def addLD (l : List Dev) (x : Dev) : List Dev := if addED l x = 0 then insS Dev.no x l else []
/-- Of a person, known at a time. -/
def kd (p time : Int) (x : Dev) : Bool := decide (x.person = p ∧ x.known ≤ time)
def bestD (l : List Dev) (p t time : Int) : Option Dev := bst Dev.at_ (l.filter (kd p time)) t
def argD (p t time : Int) : Bool := decide (0 ≤ p ∧ p < 64 ∧ 0 ≤ t ∧ t < 1099511627776 ∧ 0 ≤ time ∧ time < 1099511627776)
def curE (l : List Dev) (p t time : Int) : Int := if chkD l = 0 then (if argD p t time then 0 else 1) else chkD l
def heldD : Option Dev → Option Dev
  | none => none
  | some x => if x.gone then none else some x
def curD (l : List Dev) (p t time : Int) : Option Dev := if curE l p t time = 0 then heldD (bestD l p t time) else none
def ansD : Option Dev → Int × Int × Bool
  | none => (0, 0, false)
  | some x => (x.no, x.key, true)
end Go.Dev
end
section
/- Ranging over a map that the loop does not write. -/
namespace Go.Rn
open Go.RowKit
theorem range_filterMap {β : Type} (m : List β) : (List.range m.length).filterMap (fun j => m[j]?) = m := by
  induction m with
  | nil => rfl
  | cons a m ih =>
    rw [List.length_cons, List.range_succ_eq_map, List.filterMap_cons]
    simp only [List.getElem?_cons_zero, List.filterMap_map]
    congr 1
section
variable {α : Type} [DecidableEq α] {kv : α → Value} {good : α → Prop}
/-- Which entries have been handed out, by their places. -/
structure SeenOk (es : Array MapEntry) (seen : Array Nat) (js : List Nat) : Prop where
  nodup : js.Nodup
  lt : ∀ j ∈ js, j < es.size
  mem : ∀ i e, es[i]? = some e → (e.born ∈ seen ↔ i ∈ js)
  back : seen.back? = js.getLast?.bind fun j => es[j]?.map (·.born)
/-- An iterator over a map: what it has handed out. -/
def IterAt (kv : α → Value) (good : α → Prop) (w : World) (it r : Nat) (m ys : List (α × Value)) : Prop :=
  ∃ (es : Array MapEntry) (clock since : Nat) (seen : Array Nat) (js : List Nat), w.heap[it]? = some (.mapIter (some r) since seen clock) ∧ w.heap[r]? = some (.map es clock) ∧
    entsOk kv good es.toList m ∧ bornOk es.toList clock ∧ (∀ e ∈ es.toList, e.born < since) ∧ since ≤ clock ∧ SeenOk es seen js ∧ ys = js.filterMap fun j => m[j]?
theorem entsOk_length {es : List MapEntry} {m : List (α × Value)} (h : entsOk kv good es m) : es.length = m.length := by
  have := congrArg List.length h.1; simpa using this
theorem entsOk_get {es : List MapEntry} {m : List (α × Value)} (h : entsOk kv good es m) {i : Nat} {e : MapEntry} (he : es[i]? = some e) : ∃ x, m[i]? = some x ∧ e.key = kv x.1 ∧ e.val = x.2 ∧ good x.1 := by
  have h1 := congrArg (·[i]?) h.1
  simp only [List.getElem?_map, he, Option.map_some] at h1
  cases hx : m[i]? with
  | none => rw [hx] at h1; simp at h1
  | some x =>
    rw [hx] at h1
    simp only [Option.map_some, Option.some.injEq, Prod.mk.injEq] at h1
    exact ⟨x, rfl, h1.1, h1.2, h.2 x (List.mem_of_getElem? hx)⟩
theorem IterAt.ext {S : Nat → Prop} {w w' : World} {it r : Nat} {m ys : List (α × Value)} (h : IterAt kv good w it r m ys) (e : ExtB S w w') (h1 : ¬ S it) (h2 : ¬ S r) : IterAt kv good w' it r m ys := by
  obtain ⟨es, clock, since, seen, js, a, b, rest⟩ := h
  exact ⟨es, clock, since, seen, js, by rw [e.block it (lt_of_get a) h1]; exact a, by rw [e.block r (lt_of_get b) h2]; exact b, rest⟩
theorem IterAt.up {w w' : World} {it r : Nat} {m ys : List (α × Value)} (h : IterAt kv good w it r m ys) (e : Ext w w') : IterAt kv good w' it r m ys := h.ext e id id
theorem IterAt.map {w : World} {it r : Nat} {m ys : List (α × Value)} (h : IterAt kv good w it r m ys) : MapK kv good w r m := by
  obtain ⟨es, clock, since, seen, js, a, b, c, d, rest⟩ := h
  exact ⟨es, clock, b, c, d⟩
theorem IterAt.lt {w : World} {it r : Nat} {m ys : List (α × Value)} (h : IterAt kv good w it r m ys) : it < w.heap.size := by
  obtain ⟨es, clock, since, seen, js, a, rest⟩ := h; exact lt_of_get a
theorem MapK.up {w w' : World} {r : Nat} {m : List (α × Value)} (h : MapK kv good w r m) (e : Ext w w') : MapK kv good w' r m := h.ext e id
theorem MapK.other {w w' : World} {r B : Nat} {m : List (α × Value)} (h : MapK kv good w r m) (e : ExtB (· = B) w w') (hn : r ≠ B) : MapK kv good w' r m := h.ext e hn
theorem IterAt.other {w w' : World} {it r B : Nat} {m ys : List (α × Value)} (h : IterAt kv good w it r m ys) (e : ExtB (· = B) w w') (h1 : it ≠ B) (h2 : r ≠ B) : IterAt kv good w' it r m ys := h.ext e h1 h2
theorem perm_rest (js : List Nat) (n : Nat) (h1 : js.Nodup) (h2 : ∀ j ∈ js, j < n) : (js ++ (List.range n).filter fun j => decide (j ∉ js)).Perm (List.range n) := by
  rw [List.perm_iff_count]
  intro a
  rw [List.count_append]
  have hr : (List.range n).count a = if a < n then 1 else 0 := by
    by_cases h : a < n
    · rw [if_pos h]; exact by rw [List.Nodup.count List.nodup_range, if_pos (List.mem_range.2 h)]
    · rw [if_neg h]; exact List.count_eq_zero.2 (by simpa using h)
  by_cases hj : a ∈ js
  · have e1 : js.count a = 1 := by rw [h1.count, if_pos hj]
    have e2 : ((List.range n).filter fun j => decide (j ∉ js)).count a = 0 := List.count_eq_zero.2 (by simp [hj])
    rw [e1, e2, hr, if_pos (h2 a hj)]
  · have e1 : js.count a = 0 := List.count_eq_zero.2 hj
    have e2 : ((List.range n).filter fun j => decide (j ∉ js)).count a = (List.range n).count a := List.count_filter (by simpa using hj)
    rw [e1, e2, Nat.zero_add]
theorem IterAt.sub {w : World} {it r : Nat} {m ys : List (α × Value)} (h : IterAt kv good w it r m ys) : ∃ zs, (ys ++ zs).Perm m := by
  obtain ⟨es, clock, since, seen, js, -, -, hok, -, -, -, hs, rfl⟩ := h
  have hn : es.size = m.length := by have := entsOk_length hok; simpa using this
  refine ⟨((List.range m.length).filter fun j => decide (j ∉ js)).filterMap fun j => m[j]?, ?_⟩
  rw [← List.filterMap_append]
  have := (perm_rest js m.length hs.nodup (by rw [← hn]; exact hs.lt)).filterMap fun j => m[j]?
  rwa [range_filterMap] at this
variable {P : Program} {w : World} {env : Env} {dst : Option Tmp} {ty : TypeId} {pos : String} {after : Array Edge} {guard : Option (Nat × Bool)}
theorem OpE.rangeMap {t kt et : TypeId} {x : Operand} {r : Nat} {m : List (α × Value)} (ht : P.underlying t = some (.map kt et)) (hx : evO env x = some (.map (some r))) (hm : MapK kv good w r m) :
    OpE P env w ⟨dst, .range t x, ty, pos, after, guard⟩ (fun v w' => ∃ it, v = .pointer (some ⟨it, 0, none⟩) ∧ it = w.heap.size ∧ w'.heap.size = w.heap.size + 1 ∧ Ext w w' ∧ IterAt kv good w' it r m []) fun _ _ => False := by
  obtain ⟨es, clock, h1, h2, h3⟩ := hm
  have ha := added_push w (.mapIter (some r) clock #[] clock)
  refine .of_run (w' := { w with heap := w.heap.push (.mapIter (some r) clock #[] clock) }) (v := .pointer (some ⟨w.heap.size, 0, none⟩)) ⟨w.heap.size, rfl, rfl, ha.size, ha.ext, ?_⟩ fun ρ hρ => ⟨_, by simp only [execOp, hρ _ _ hx] <;> rfl, ?_⟩
  · refine ⟨es, clock, clock, #[], [], ha.at_, ?_, h2, h3, h3.2, Nat.le_refl _, ⟨List.nodup_nil, by simp, by simp, by simp⟩, rfl⟩
    rw [ha.ext.block r (lt_of_get h1) id]; exact h1
  · exact run_range_map w t kt et r es clock ht h1
theorem ext_setBlock {w : World} {b : Nat} {o : Obj} (hb : b < w.heap.size) : Turned w (Go.ChangeMaps.setBlock w b o) b o := turned_set w hb o
theorem OpE.nextMap {x : Operand} {it r : Nat} {m ys : List (α × Value)} (hx : evO env x = some (.pointer (some ⟨it, 0, none⟩))) (hi : IterAt kv good w it r m ys) :
    OpE P env w ⟨dst, .next x false, ty, pos, after, guard⟩ (fun v w' => (v = .tuple #[.bool false] ∧ w' = w ∧ ys.Perm m) ∨
      ∃ y, v = .tuple #[.bool true, kv y.1, y.2] ∧ good y.1 ∧ IterAt kv good w' it r m (ys ++ [y]) ∧ ExtB (· = it) w w' ∧ w'.heap.size = w.heap.size) fun _ _ => False := by
  obtain ⟨es, clock, since, seen, js, a, b, c, d, ho, hcl, hs, rfl⟩ := hi
  have hn : es.size = m.length := by have := entsOk_length c; simpa using this
  have hir : it ≠ r := by intro e; subst e; rw [a] at b; simp at b
  rcases run_next_at (P := P) w ty it r since clock seen es clock a b ho hcl with ⟨h0, hrun⟩ | ⟨e, he, w1, hw1, hrun⟩
  · refine .of_run (w' := w) (v := .tuple #[.bool false]) (.inl ⟨rfl, rfl, ?_⟩) fun ρ hρ => ⟨_, by simp only [execOp, hρ _ _ hx] <;> rfl, hrun⟩
    have hall : ∀ i, i < es.size → i ∈ js := by
      intro i hi
      refine (hs.mem i es[i] (Array.getElem?_eq_getElem hi)).1 ?_
      have hl : leftOf es seen = #[] := Array.eq_empty_of_size_eq_zero h0
      unfold leftOf at hl
      rw [Array.filter_eq_empty_iff] at hl
      have := hl es[i] (Array.getElem_mem hi)
      simpa using this
    have hp := perm_rest js m.length hs.nodup (by rw [← hn]; exact hs.lt)
    have hz : ((List.range m.length).filter fun j => decide (j ∉ js)) = [] := by
      rw [List.filter_eq_nil_iff]
      intro j hj
      have := hall j (by rw [hn]; exact List.mem_range.1 hj)
      simpa using this
    rw [hz, List.append_nil] at hp
    have := hp.filterMap fun j => m[j]?
    rwa [range_filterMap] at this
  · unfold leftOf at he
    rw [Array.mem_toList_iff, Array.mem_filter] at he
    obtain ⟨he1, he2⟩ := he
    have he2 : e.born ∉ seen := by simpa using he2
    obtain ⟨i, hi, hie⟩ := Array.getElem_of_mem he1
    have hge : es[i]? = some e := by rw [Array.getElem?_eq_getElem hi, hie]
    have hij : i ∉ js := fun h => he2 ((hs.mem i e hge).2 h)
    obtain ⟨y, hy, hk, hv, hgd⟩ := entsOk_get c (i := i) (e := e) (by rw [Array.getElem?_toList]; exact hge)
    have hw1s : w1.heap = w.heap := by rcases hw1 with rfl | rfl <;> rfl
    have X1 : Ext w w1 := by
      rcases hw1 with rfl | rfl
      · exact ExtB.refl _ _
      · exact ⟨Nat.le_succ _, rfl, rfl, rfl, Nat.le_refl _, fun _ _ _ => rfl⟩
    have hT := ext_setBlock (w := w1) (b := it) (o := .mapIter (some r) since (seen.push e.born) clock) (by rw [hw1s]; exact lt_of_get a)
    rw [hk, hv] at hrun
    refine .of_run (w' := _) (v := _) (.inr ⟨y, rfl, hgd, ⟨es, clock, since, seen.push e.born, js ++ [i], hT.at_, ?_, c, d, ho, hcl, ⟨?_, ?_, ?_, ?_⟩, ?_⟩, ?_, ?_⟩) fun ρ hρ => ⟨_, by simp only [execOp, hρ _ _ hx] <;> rfl, hrun⟩
    · rw [hT.ext.block r (by rw [hw1s]; exact lt_of_get b) (fun h => hir h.symm), hw1s]; exact b
    · rw [List.nodup_append]
      refine ⟨hs.nodup, by simp, fun u hu v hv e => ?_⟩
      simp only [List.mem_singleton] at hv
      subst hv; subst e; exact hij hu
    · intro j hj
      rcases List.mem_append.1 hj with hj | hj
      · exact hs.lt j hj
      · simp only [List.mem_singleton] at hj; subst hj; exact hi
    · intro j f hf
      rw [Array.mem_push, List.mem_append, List.mem_singleton, hs.mem j f hf]
      refine or_congr Iff.rfl ⟨fun hb => ?_, fun hb => ?_⟩
      · have hnd := List.pairwise_iff_getElem.1 d.1
        have hjl : j < es.size := (Array.getElem?_eq_some_iff.1 hf).1
        have ej : es[j] = f := (Array.getElem?_eq_some_iff.1 hf).2
        rcases Nat.lt_trichotomy j i with h | h | h
        · have := hnd j i (by simpa using hjl) (by simpa using hi) h
          simp only [List.getElem_map, Array.getElem_toList, ej, hie] at this
          exact absurd hb this
        · exact h
        · have := hnd i j (by simpa using hi) (by simpa using hjl) h
          simp only [List.getElem_map, Array.getElem_toList, ej, hie] at this
          exact absurd hb.symm this
      · subst hb; rw [hge] at hf; cases hf; rfl
    · rw [Array.back?_push]; simp [hge]
    · rw [List.filterMap_append]; simp [hy]
    · exact (ExtB.of_ext X1).trans hT.ext
    · rw [hT.size, hw1s]
theorem OpV.entryMap {x : Operand} {it r : Nat} {m ys : List (α × Value)} {y : α × Value} (hx : evO env x = some (.pointer (some ⟨it, 0, none⟩))) (hi : IterAt kv good w it r m (ys ++ [y])) :
    OpV P env w ⟨dst, .entry x, ty, pos, after, guard⟩ (.tuple #[kv y.1, y.2]) := .of_run fun ρ hρ => by
  refine ⟨_, by simp only [execOp, hρ _ _ hx] <;> rfl, ?_⟩
  obtain ⟨es, clock, since, seen, js, a, b, c, d, ho, hcl, hs, hys⟩ := hi
  have hn : es.size = m.length := by have := entsOk_length c; simpa using this
  -- the last place
  rcases List.eq_nil_or_concat js with rfl | ⟨js', i, rfl⟩
  · simp at hys
  have hil : i < es.size := hs.lt i (by simp)
  have hmi : i < m.length := by omega
  rw [List.concat_eq_append, List.filterMap_append] at hys
  have e1 : [i].filterMap (fun j => m[j]?) = [m[i]] := by simp [hmi]
  rw [e1] at hys
  have hy : y = m[i] := by
    have := List.append_inj_right' hys (by rfl)
    simpa using this
  obtain ⟨z, hz, hk, hv, -⟩ := entsOk_get c (i := i) (e := es[i]) (by rw [Array.getElem?_toList]; exact Array.getElem?_eq_getElem hil)
  have hzy : z = y := by rw [hy]; rw [List.getElem?_eq_getElem hmi] at hz; exact (Option.some.inj hz).symm
  subst hzy
  have hb2 : seen.back? = some es[i].born := by
    rw [hs.back, List.concat_eq_append]; simp [hil]
  obtain ⟨seen', hpush⟩ : ∃ s' : Array Nat, seen = s'.push es[i].born := by
    rw [Array.back?_eq_some_iff] at hb2
    obtain ⟨ys', hys'⟩ := hb2
    exact ⟨ys', hys'⟩
  rw [hpush] at a
  have hs0 := run_entry_at (P := P) w it r since seen' es clock es[i] a b (by simp) d.1
  rw [hk, hv] at hs0
  exact hs0
end
end Go.Rn
end
section
/- Devices: bounds, right, Check. -/
namespace Go.Dev
open Go.Rn Go.Rec
@[reducible] def Dev.cells (x : Dev) : List Value := [.int .i64 x.no, .int .i64 x.at_, .int .i64 x.known, .int .i64 x.person, .int .i64 x.key, .bool x.gone]
theorem encD : EncOk Dev.cells 6 := ⟨fun _ => rfl, fun _ => rfl, by decide⟩
abbrev LD (w : World) (v : Value) (l : List Dev) : Prop := IsL w Dev.cells 6 v l
def zeroD : Dev := ⟨0, 0, 0, 0, 0, false⟩
/-- What Check remembers: the keys that stand. -/
def UsedM (m : List (Int × Value)) (pre : List Dev) : Prop := ∀ k, ∃ b : Bool, (getM k m).getD (.bool false) = .bool b ∧ b = usedD pre k
theorem usedM_nil : UsedM [] [] := fun _ => ⟨false, rfl, rfl⟩
theorem usedM_set {m : List (Int × Value)} {pre : List Dev} {x : Dev} (h : UsedM m pre) (hr : rightD x = true) (hu : usedD pre x.key = false) : UsedM (setM x.key (.bool (!x.gone)) m) (pre ++ [x]) := by
  intro k
  rw [getM_set, usedD_snoc]
  by_cases hk : k = x.key
  · subst hk
    rw [if_pos rfl]
    refine ⟨!x.gone, rfl, ?_⟩
    rw [hu, Bool.false_or, right_key hr, Bool.eq_iff_iff]
    simp
  · rw [if_neg hk]
    obtain ⟨b, h1, h2⟩ := h k
    refine ⟨b, h1, ?_⟩
    rw [h2, show decide (k ≠ 0 ∧ x.key = k) = false from decide_eq_false (fun h => hk h.2.symm), Bool.or_false]
end Go.Dev
namespace Go.Sg
open Go.Rn Go.Proofs Go.Dev Go.Rec Go.Best Go.NT
attribute [local irreducible] Go.Rn.RetsX Go.Rn.RunLN Go.Rn.AsyN Go.Rn.RunL Go.Rn.RunE Go.Rn.Asy Go.Rn.OpV Go.Rn.OpE Go.Rn.ExecE
theorem dwithin_ok (n m : Int) (w : World) : Rets Tryd.prog 95 [.int .i64 n, .int .i64 m] w fun v w' => v = .bool (decide (0 ≤ n ∧ n ≤ m)) ∧ w = w' := by
  refine RetsX.of (nt := 12) Tryd.func95 (by kernel_rfl) rfl rfl (by simp) (by simp only [argEnv]; rfl) ?_
  repeat' (first | with_reducible refine RunLN.boolT rfl ?_ | with_reducible refine RunLN.boolF rfl ?_ | refine RunLN.int (by (first | exact wr_i64 (by omega) (by omega) | exact wm_i64 (by omega) | exact wq_i64 (by omega) (by omega) (by omega) | rfl)) ?_ | (refine RunLN.boolC (fun h_ => ?_) (fun h_ => ?_) <;> (try simp only [decide_eq_true_eq, decide_eq_false_iff_not, beq_iff_eq, bne_iff_ne, ne_eq, Bool.not_eq_true, Bool.not_eq_false, beq_eq_false_iff_ne, bne_eq_false_iff_eq, Bool.not_eq_eq_eq_not, Bool.not_true, Bool.not_false, Bool.not_not, Int.not_lt, Int.not_le, gt_iff_lt, ge_iff_le, Decidable.not_not] at h_)) | refine RunL.ev Tryd.tOk rfl rfl rfl ?_ | refine RunL.unwantedD rfl rfl ?_ | refine RunE.seq ?_ | refine RunE.region ?_ | refine RunL.nil ?_)
  all_goals
    refine RunE.retFn Tryd.func95 (.tmp rfl .nil) ⟨?_, rfl⟩
    simp only [oneOr]
    congr 1
    first | exact (decide_eq_true (by omega)).symm | exact (decide_eq_false (by omega)).symm
set_option maxHeartbeats 2000000 in
set_option maxRecDepth 4000 in
theorem dright_ok (x : Dev) (w : World) : Rets Tryd.prog 66 [.agg x.cells.toArray] w fun v w' => v = .bool (rightD x) ∧ Ext w w' := by
  obtain ⟨no, at_, known, person, key, gone⟩ := x
  refine RetsX.of (nt := 38) Tryd.func66 (by kernel_rfl) rfl rfl (by simp) (by simp only [argEnv]; rfl) ?_
  have X := ExtB.refl (fun _ => False) w
  repeat' (first | refine RunE.seq ?_ | refine RunE.region ?_)
  refine RunL.box rfl rfl rfl fun B1 w1_ a_ => ?_
  have Z1 : Blk w1_ B1 (Dev.cells ⟨no, at_, known, person, key, gone⟩) 57 := a_.at_
  have gB1 := a_.ge X
  replace X := X.trans a_.ext
  clear a_
  by_cases hb : 0 ≤ no ∧ no ≤ 1048576 ∧ 0 ≤ at_ ∧ at_ < 1099511627776 ∧ 0 ≤ known ∧ known < 1099511627776 ∧ 0 ≤ person ∧ person < 64
  · have hR : rightD ⟨no, at_, known, person, key, gone⟩ = if gone then decide (key = 0) else validS key && decide (key ≠ 1) := by
      unfold rightD; simp only; rw [decide_eq_true hb, Bool.true_and]
    obtain ⟨b1, b2, b3, b4, b5, b6, b7, b8⟩ := hb
    rw [hR]
    cases gone with
    | true =>
      simp only [if_true]
      repeat' (first | with_reducible refine RunLN.boolT rfl ?_ | with_reducible refine RunLN.boolF rfl ?_ | refine RunLN.int (by (first | exact wr_i64 (by omega) (by omega) | exact wm_i64 (by omega) | exact wq_i64 (by omega) (by omega) (by omega) | rfl)) ?_ | (refine RunLN.boolC (fun h_ => ?_) (fun h_ => ?_) <;> (try simp only [decide_eq_true_eq, decide_eq_false_iff_not, beq_iff_eq, bne_iff_ne, ne_eq, Bool.not_eq_true, Bool.not_eq_false, beq_eq_false_iff_ne, bne_eq_false_iff_eq, Bool.not_eq_eq_eq_not, Bool.not_true, Bool.not_false, Bool.not_not, Int.not_lt, Int.not_le, gt_iff_lt, ge_iff_le, Decidable.not_not] at h_)) | refine RunLN.any ?_ | refine RunL.ev Tryd.tOk rfl rfl rfl ?_ | refine RunL.unwantedD rfl rfl ?_ | refine RunL.evV rfl rfl rfl (OpV.load1 Tryd.tOk rfl rfl rfl (Blk.cell Z1 rfl)) ?_ | refine RunL.callN rfl rfl rfl (dwithin_ok _ _ _) ?_ | refine RunE.condT rfl rfl ?_ | refine RunE.condF rfl rfl ?_ | refine RunE.seq ?_ | refine RunE.region ?_ | refine RunL.nil ?_ | refine RunE.skip ?_)
      all_goals (first | (exfalso; omega) | skip)
      all_goals
        refine RunE.retFn Tryd.func66 (.tmp rfl .nil) ⟨?_, X⟩
        simp only [oneOr]
        congr 1
        first | exact (decide_eq_true (by omega)).symm | exact (decide_eq_false (by omega)).symm
    | false =>
      simp only [Bool.false_eq_true, if_false]
      have hval := fun w => valid_ok key w
      cases hv : validS key with
      | true =>
        rw [hv] at hval
        repeat' (first | with_reducible refine RunLN.boolT rfl ?_ | with_reducible refine RunLN.boolF rfl ?_ | refine RunLN.int (by (first | exact wr_i64 (by omega) (by omega) | exact wm_i64 (by omega) | exact wq_i64 (by omega) (by omega) (by omega) | rfl)) ?_ | (refine RunLN.boolC (fun h_ => ?_) (fun h_ => ?_) <;> (try simp only [decide_eq_true_eq, decide_eq_false_iff_not, beq_iff_eq, bne_iff_ne, ne_eq, Bool.not_eq_true, Bool.not_eq_false, beq_eq_false_iff_ne, bne_eq_false_iff_eq, Bool.not_eq_eq_eq_not, Bool.not_true, Bool.not_false, Bool.not_not, Int.not_lt, Int.not_le, gt_iff_lt, ge_iff_le, Decidable.not_not] at h_)) | refine RunLN.any ?_ | refine RunL.ev Tryd.tOk rfl rfl rfl ?_ | refine RunL.unwantedD rfl rfl ?_ | refine RunL.evV rfl rfl rfl (OpV.load1 Tryd.tOk rfl rfl rfl (Blk.cell Z1 rfl)) ?_ | refine RunL.callN rfl rfl rfl (dwithin_ok _ _ _) ?_ | refine RunL.callN rfl rfl rfl (hval _) ?_ | refine RunE.condT rfl rfl ?_ | refine RunE.condF rfl rfl ?_ | refine RunE.seq ?_ | refine RunE.region ?_ | refine RunL.nil ?_ | refine RunE.skip ?_)
        all_goals (first | (exfalso; omega) | skip)
        all_goals
          refine RunE.retFn Tryd.func66 (.tmp rfl .nil) ⟨?_, X⟩
          simp only [oneOr, Bool.true_and]
          congr 1
          first | exact (decide_eq_true (by omega)).symm | exact (decide_eq_false (by omega)).symm
      | false =>
        rw [hv] at hval
        repeat' (first | with_reducible refine RunLN.boolT rfl ?_ | with_reducible refine RunLN.boolF rfl ?_ | refine RunLN.int (by (first | exact wr_i64 (by omega) (by omega) | exact wm_i64 (by omega) | exact wq_i64 (by omega) (by omega) (by omega) | rfl)) ?_ | (refine RunLN.boolC (fun h_ => ?_) (fun h_ => ?_) <;> (try simp only [decide_eq_true_eq, decide_eq_false_iff_not, beq_iff_eq, bne_iff_ne, ne_eq, Bool.not_eq_true, Bool.not_eq_false, beq_eq_false_iff_ne, bne_eq_false_iff_eq, Bool.not_eq_eq_eq_not, Bool.not_true, Bool.not_false, Bool.not_not, Int.not_lt, Int.not_le, gt_iff_lt, ge_iff_le, Decidable.not_not] at h_)) | refine RunLN.any ?_ | refine RunL.ev Tryd.tOk rfl rfl rfl ?_ | refine RunL.unwantedD rfl rfl ?_ | refine RunL.evV rfl rfl rfl (OpV.load1 Tryd.tOk rfl rfl rfl (Blk.cell Z1 rfl)) ?_ | refine RunL.callN rfl rfl rfl (dwithin_ok _ _ _) ?_ | refine RunL.callN rfl rfl rfl (hval _) ?_ | refine RunE.condT rfl rfl ?_ | refine RunE.condF rfl rfl ?_ | refine RunE.seq ?_ | refine RunE.region ?_ | refine RunL.nil ?_ | refine RunE.skip ?_)
        all_goals first
          | (exfalso; omega)
          | exact RunE.retFn Tryd.func66 (.tmp rfl .nil) ⟨rfl, X⟩
  · have hR : rightD ⟨no, at_, known, person, key, gone⟩ = false := by
      unfold rightD; simp only; rw [decide_eq_false hb, Bool.false_and]
    rw [hR]
    repeat' (first | with_reducible refine RunLN.boolT rfl ?_ | with_reducible refine RunLN.boolF rfl ?_ | refine RunLN.int (by (first | exact wr_i64 (by omega) (by omega) | exact wm_i64 (by omega) | exact wq_i64 (by omega) (by omega) (by omega) | rfl)) ?_ | (refine RunLN.boolC (fun h_ => ?_) (fun h_ => ?_) <;> (try simp only [decide_eq_true_eq, decide_eq_false_iff_not, beq_iff_eq, bne_iff_ne, ne_eq, Bool.not_eq_true, Bool.not_eq_false, beq_eq_false_iff_ne, bne_eq_false_iff_eq, Bool.not_eq_eq_eq_not, Bool.not_true, Bool.not_false, Bool.not_not, Int.not_lt, Int.not_le, gt_iff_lt, ge_iff_le, Decidable.not_not] at h_)) | refine RunLN.any ?_ | refine RunL.ev Tryd.tOk rfl rfl rfl ?_ | refine RunL.unwantedD rfl rfl ?_ | refine RunL.evV rfl rfl rfl (OpV.load1 Tryd.tOk rfl rfl rfl (Blk.cell Z1 rfl)) ?_ | refine RunL.callN rfl rfl rfl (dwithin_ok _ _ _) ?_ | refine RunE.condT rfl rfl ?_ | refine RunE.condF rfl rfl ?_ | refine RunE.seq ?_ | refine RunE.region ?_ | refine RunL.nil ?_ | refine RunE.skip ?_)
    all_goals first
      | exact RunE.retFn Tryd.func66 (.tmp rfl .nil) ⟨rfl, X⟩
      | (exfalso; omega)
end Go.Sg
end
section
/- Operations of the library's slice functions. -/
namespace Go.Rn
open Go.RowKit Go.Lib Go.Rec
section
variable {P : Program} {w : World} {env : Env} {dst : Option Tmp} {ty : TypeId} {pos : String} {after : Array Edge} {guard : Option (Nat × Bool)}
/-- s == nil -/
theorem OpV.eqNilSl {t e u : TypeId} {x y : Operand} {d : Option Addr} {n c : Nat} (ht : P.underlying t = some (.slice e)) (hx : evO env x = some (.slice d n c)) (hy : evO env y = some (.slice none 0 0)) :
    OpV P env w ⟨dst, .binOp .eql t x y u, ty, pos, after, guard⟩ (.bool d.isNone) := by
  refine .of_run fun ρ hρ => ⟨_, by simp only [execOp, hρ _ _ hx, hρ _ _ hy]; rfl, ?_⟩
  rw [run_bind _ _ (run_eqGuard_plain .eql t x y (by intro c; simp) (by simp))]
  simp only [binOp]
  have : (Op.equal t (.slice d n c) (.slice none 0 0)).run P w = .ok d.isNone w := by
    unfold Op.equal; rw [show Op.maxDepth = 9999 + 1 from rfl, Op.equalIn, run_bind _ _ (run_underlying ht)]
    cases d <;> rfl
  rw [run_bind _ _ this]; rfl
/-- A call that the model answers itself. -/
theorem OpV.callX {g : FuncId} {args : Array Operand} {ts : Array TypeId} {vs : List Value} {v : Value} (ha : evL env args.toList = some vs) (hc : (callFunc g vs.toArray).run P w = .ok (.value v) w) :
    OpV P env w ⟨dst, .call ⟨.value (.func g), args, ts⟩, ty, pos, after, guard⟩ v := fun ρ hρ => by
  have e : args.map ρ = vs.toArray := evL_mapA hρ ha
  unfold execOp
  simp only
  rw [run_bind (v := { target := .fn (.func g) #[], args := vs.toArray }) (w' := w) _ _ ?_]
  · simp only [invoke]
    simpa using hc
  · simp only [resolve, Act.eval, e] <;> simp [Deferred.ofValue, hρ (.func g) _ rfl, Pure.pure]
theorem OpE.growOnto {T : Tab} (hT : T.Ok P) {t e ti : TypeId} {kt : IntKind} {sz : Nat} {ag : Bool} {s bb s' bb' : Nat} {z z' : List Value} {a u a' u' : Bool} {ie : TI} {x y : Operand} {kd : IntKind} {i : Int} {m g n cap : Nat} {olds : List Value}
    (ht : T.get t = some ⟨.slc sz ag e, s, bb, z, a, u⟩) (hti : T.get ti = some ⟨.int kt, s', bb', z', a', u'⟩) (he : T.get e = some ie) (hz : ie.zero.length = sz) (hsz : Nat.blt 0 sz = true)
    (hx : evO env x = some (.slice (some ⟨g, 0, none⟩) n cap)) (hy : evO env y = some (.int kd i)) (hi : i = (m : Int)) (hm : 0 < m) (hr : Row w g 0 olds) (hol : olds.length = n * sz) (hg : cap < n + m)
    (hb : (n + m) * ie.bytes ≤ 1000000000) (h63 : n + m ≤ 1000000000) :
    OpE P env w ⟨dst, .call ⟨.builtin .append, #[x, y], #[t, ti]⟩, ty, pos, after, guard⟩
      (fun v w' => ∃ B cap' rest, v = .slice (some ⟨B, 0, none⟩) (n + m) cap' ∧ n + m ≤ cap' ∧ B = w.heap.size ∧ Ext w w' ∧ Blk w' B (olds ++ rest) e ∧ rest.length = (cap' - n) * sz) fun _ _ => False := by
  obtain ⟨hu, hc'⟩ := TD.of_slc (TI.tdof (hT.get _ _ ht)).symm
  have hui := TD.of_int (TI.tdof (hT.get _ _ hti)).symm
  obtain ⟨j, dd, zv, hj, hd, hzv, h1, h2, h3, h4, h5, _⟩ := TI.inv (hT.get _ _ he)
  obtain ⟨ii, d', hii, hs', _, _⟩ := cellsAgg_inv hc'
  rw [hii] at hj; cases hj
  have hzs : zv.cells.size = sz := by rw [← hz, h3]; simp
  subst hi
  have hsz' : 0 < sz := by simpa [Nat.blt_eq] using hsz
  have hold : (Builtin.firstCells j.size n (.slice (some ⟨g, 0, none⟩) n cap)).run P w.drew = .ok olds.toArray w.drew := by
    rw [hs']
    exact run_firstCells (P := P) (w := w.drew) (fun i v hv => hr i v hv) hol
  have hfit : Builtin.nextslicecap (n + m) cap * j.bytes ≤ 281474976710656 := by
    rw [← h2]
    have := Nat.mul_le_mul_right ie.bytes (nextslicecap_le (need := n + m) (old := cap) (by omega))
    have e2 : 2 * (n + m) * ie.bytes = 2 * ((n + m) * ie.bytes) := Nat.mul_assoc _ _ _
    omega
  have hmb : m * j.bytes ≤ 281474976710656 := by
    rw [← h2]
    have := Nat.mul_le_mul_right ie.bytes (show m ≤ n + m by omega)
    omega
  have hrun := run_append_grow_zeros (P := P) w t ti ty e j zv kd kt hu hui hii hzv (some ⟨g, 0, none⟩) n cap olds hold m hm (by omega) hg (by omega) hmb hfit
  have hcap := grownCap_ge w (n + m) cap e
  refine .of_run (w' := _) (v := _) ?_ fun ρ hρ => ⟨_, by simp only [execOp, resolve, List.map_toArray, List.map_cons, List.map_nil, hρ _ _ hx, hρ _ _ hy] <;> rfl, hrun⟩
  refine ⟨_, _, (Builtin.zeroCells zv.cells m ++ Builtin.zeroCells zv.cells (grownCap w (n + m) cap e - (n + m))).toList, rfl, hcap, rfl, ⟨Nat.le_succ _, rfl, rfl, rfl, by simp, fun k hk _ => (by apply heap_alloc_old; exact hk)⟩, ?_, ?_⟩
  · unfold Blk
    refine (heap_alloc_new w.drew _).trans ?_
    congr 2
    apply Array.ext'
    simp
  · simp only [Array.length_toList, Array.size_append, size_zeroCells, hzs, ← Nat.add_mul]
    congr 1
    omega
/-- append to an empty slice without room: nothing that was there is written. -/
theorem OpE.append0 {T : Tab} (hT : T.Ok P) {t e : TypeId} {sz : Nat} {ag : Bool} {s bb : Nat} {z : List Value} {a u : Bool} {ie : TI} {x y : Operand} {vx : Value} {g m : Nat} {news : List Value}
    (ht : T.get t = some ⟨.slc sz ag e, s, bb, z, a, u⟩) (he : T.get e = some ie) (hz : ie.zero.length = sz)
    (hx : evO env x = some (.slice (some ⟨g, 0, none⟩) 0 0)) (hy : evO env y = some vx) (hn : IsSl w sz vx m news) (hbytes : m * ie.bytes ≤ 140737488355328) (h63 : m ≤ 9223372036854775807) :
    OpE P env w ⟨dst, .call ⟨.builtin .append, #[x, y], #[t, t]⟩, ty, pos, after, guard⟩
      (fun v' w' => ((m = 0 ∧ v' = .slice (some ⟨g, 0, none⟩) 0 0) ∨ w'.ownsRow w.heap.size e sz v' m news) ∧ Ext w w') fun _ _ => False := by
  obtain ⟨hu, hc⟩ := TD.of_slc (TI.tdof (hT.get _ _ ht)).symm
  obtain ⟨j, dd, zv, hj, hd, hzv, h1, h2, h3, h4, h5, _⟩ := TI.inv (hT.get _ _ he)
  obtain ⟨i, d', hi, hs', _, _⟩ := cellsAgg_inv hc
  rw [hi] at hj; cases hj
  have hzs : zv.cells.size = sz := by rw [← hz, h3]; simp
  have call : ∀ {v' : Value} {w' : World}, (Builtin.append_ #[t, t] ty #[.slice (some ⟨g, 0, none⟩) 0 0, vx]).run P w = .ok v' w' → ∀ ρ : Operand → Value, (∀ x v, evO env x = some v → ρ x = v) →
      ∃ s : Sem Value, execOp ρ ⟨dst, .call ⟨.builtin .append, #[x, y], #[t, t]⟩, ty, pos, after, guard⟩ = (do pure (.value (← s)) : Sem Next) ∧ s.run P w = .ok v' w' := fun hr ρ hρ =>
    ⟨_, by simp only [execOp, resolve, List.map_toArray, List.map_cons, List.map_nil, hρ _ _ hx, hρ _ _ hy]; rfl, hr⟩
  rcases hn.inv with ⟨d0, rfl, rfl, rfl⟩ | ⟨b, o, c, rfl, hr, hl, hcap⟩
  · have hf : ∀ w, (Builtin.firstCells j.size 0 (.slice d0 0 0)).run P w = .ok #[] w := fun w => by cases d0 <;> simp [Builtin.firstCells, loadCells, loadCellsFrom, Pure.pure]
    have hr : (Builtin.append_ #[t, t] ty #[.slice (some ⟨g, 0, none⟩) 0 0, .slice d0 0 0]).run P w = .ok (.slice (some ⟨g, 0, none⟩) 0 0) w := by
      simp [Builtin.append_, run_underlying hu, sizeOf, typeInfo, hi, Builtin.lenOf, hf, storeCells]
    exact .of_run ⟨.inl ⟨rfl, rfl⟩, ExtB.refl _ _⟩ (call hr)
  · by_cases hm : m = 0
    · subst hm
      have hrun2 : (Builtin.append_ #[t, t] ty #[.slice (some ⟨g, 0, none⟩) 0 0, .slice (some ⟨b, o, none⟩) 0 c]).run P w = .ok (.slice (some ⟨g, 0, none⟩) 0 0) w := by
        simp [Builtin.append_, run_underlying hu, sizeOf, typeInfo, hi, Builtin.lenOf, Builtin.firstCells, loadCells, loadCellsFrom, storeCells]
      exact .of_run ⟨.inl ⟨rfl, rfl⟩, ExtB.refl _ _⟩ (call hrun2)
    · have hrun := run_append_grow (P := P) (w := w) t ty e j zv hu hi hzv ⟨g, 0, none⟩ 0 0 [] (by simp) (fun j v h => by simp at h) ⟨b, o, none⟩ m c news (by rw [hl, hs']) (fun q v hv => by rw [add_none]; exact hr q v hv) (by omega) (by omega)
        (growslice_fits (by omega) (by rw [Nat.zero_add, ← h2]; exact hbytes))
      rw [Nat.zero_add] at hrun
      have hcap2 := grownCap_ge w m 0 e
      have hcm : grownCap w m 0 e ≤ maxLen := grownCap_le_maxLen w m 0 e (by simp only [maxLen]; omega)
      refine .of_run ⟨.inr ⟨hl, .inr ⟨w.heap.size, grownCap w m 0 e, _, rfl, Nat.le_refl _, heap_alloc_new w.drew _, hcap2, hcm, ?_, ?_⟩⟩, ⟨Nat.le_succ _, rfl, rfl, rfl, by simp, fun k hk _ => (by apply heap_alloc_old; exact hk)⟩⟩ (call hrun)
      · simp only [Array.size_append, List.size_toArray, List.length_nil, size_zeroCells, hzs, hl, Nat.zero_add, ← Nat.add_mul]
        congr 1; omega
      · simp only [Array.toList_append, List.append_assoc, List.nil_append]
        rw [List.take_append_of_le_length (by rw [hl]; exact Nat.le_refl _), ← hl, List.take_length]
theorem OpV.slice1' {T : Tab} (hT : T.Ok P) {t e : TypeId} {sz : Nat} {ag : Bool} {s bb : Nat} {z : List Value} {a u : Bool} {x : Operand} {low : Option Operand} {b o len cap : Nat} (lo : Nat)
    (ht : T.get t = some ⟨.slc sz ag e, s, bb, z, a, u⟩) (hx : evO env x = some (.slice (some ⟨b, o, none⟩) len cap)) (hl : Bnd env low 0 lo) (h1 : lo ≤ len) (h2 : len ≤ cap) (h3 : lo < cap) :
    OpV P env w ⟨dst, .slice t x low none none, ty, pos, after, guard⟩ (.slice (some ⟨b, o + lo * sz, none⟩) (len - lo) (cap - lo)) :=
  OpV.sliceSq hT ht hx hl .none h1 h2 (offOf_lt h3) rfl rfl
theorem OpE.build0 {T : Tab} (hT : T.Ok P) (t e : TypeId) {sz : Nat} {ag : Bool} {s b : Nat} {z : List Value} {a u : Bool} {ie : TI} (ht : T.get t = some ⟨.slc sz ag e, s, b, z, a, u⟩) (he : T.get e = some ie) (hz : ie.zero.length = sz) :
    OpE P env w ⟨dst, .buildSlice t 0 #[], ty, pos, after, guard⟩ (fun v w' => (∃ B, v = .slice (some ⟨B, 0, none⟩) 0 0) ∧ Ext w w') fun _ _ => False := by
  refine OpE.mono (OpE.buildSl (w := w) (env := env) hT [] ht he hz (by simp [Nat.ble]) rfl rfl (by simp)) ?_ fun _ _ h => h
  rintro v w' ⟨B, h, a⟩; exact ⟨⟨B, h⟩, a.ext⟩
end
end Go.Rn
end
section
/- Devices: the reference's Right, used, Check. -/
namespace Go.Sg
open Go.Rn Go.Proofs Go.Dev Go.Rec Go.Best Go.NT
attribute [local irreducible] Go.Rn.RetsX Go.Rn.RunLN Go.Rn.AsyN Go.Rn.RunL Go.Rn.RunE Go.Rn.Asy Go.Rn.OpV Go.Rn.OpE Go.Rn.ExecE
theorem r48Time_ok (n : Int) (w : World) : Rets Tryd.prog 75 [.int .i64 n] w fun v w' => v = .bool (decide (0 ≤ n ∧ n < 1099511627776)) ∧ w = w' := by
  refine RetsX.of (nt := 9) Tryd.func75 (by kernel_rfl) rfl rfl (by simp) (by simp only [argEnv]; rfl) ?_
  repeat' (first | with_reducible refine RunLN.boolT rfl ?_ | with_reducible refine RunLN.boolF rfl ?_ | refine RunLN.int (by (first | exact wr_i64 (by omega) (by omega) | exact wm_i64 (by omega) | exact wq_i64 (by omega) (by omega) (by omega) | rfl)) ?_ | (refine RunLN.boolC (fun h_ => ?_) (fun h_ => ?_) <;> (try simp only [decide_eq_true_eq, decide_eq_false_iff_not, beq_iff_eq, bne_iff_ne, ne_eq, Bool.not_eq_true, Bool.not_eq_false, beq_eq_false_iff_ne, bne_eq_false_iff_eq, Bool.not_eq_eq_eq_not, Bool.not_true, Bool.not_false, Bool.not_not, Int.not_lt, Int.not_le, gt_iff_lt, ge_iff_le, Decidable.not_not] at h_)) | refine RunL.ev Tryd.tOk rfl rfl rfl ?_ | refine RunL.unwantedD rfl rfl ?_ | refine RunE.seq ?_ | refine RunE.region ?_ | refine RunL.nil ?_)
  all_goals
    refine RunE.retFn Tryd.func75 (.tmp rfl .nil) ⟨?_, rfl⟩
    simp only [oneOr]
    congr 1
    first | exact (decide_eq_true (by omega)).symm | exact (decide_eq_false (by omega)).symm
theorem r48Person_ok (n : Int) (w : World) : Rets Tryd.prog 42 [.int .i64 n] w fun v w' => v = .bool (decide (0 ≤ n ∧ n < 64)) ∧ w = w' := by
  refine RetsX.of (nt := 9) Tryd.func42 (by kernel_rfl) rfl rfl (by simp) (by simp only [argEnv]; rfl) ?_
  repeat' (first | with_reducible refine RunLN.boolT rfl ?_ | with_reducible refine RunLN.boolF rfl ?_ | refine RunLN.int (by (first | exact wr_i64 (by omega) (by omega) | exact wm_i64 (by omega) | exact wq_i64 (by omega) (by omega) (by omega) | rfl)) ?_ | (refine RunLN.boolC (fun h_ => ?_) (fun h_ => ?_) <;> (try simp only [decide_eq_true_eq, decide_eq_false_iff_not, beq_iff_eq, bne_iff_ne, ne_eq, Bool.not_eq_true, Bool.not_eq_false, beq_eq_false_iff_ne, bne_eq_false_iff_eq, Bool.not_eq_eq_eq_not, Bool.not_true, Bool.not_false, Bool.not_not, Int.not_lt, Int.not_le, gt_iff_lt, ge_iff_le, Decidable.not_not] at h_)) | refine RunL.ev Tryd.tOk rfl rfl rfl ?_ | refine RunL.unwantedD rfl rfl ?_ | refine RunE.seq ?_ | refine RunE.region ?_ | refine RunL.nil ?_)
  all_goals
    refine RunE.retFn Tryd.func42 (.tmp rfl .nil) ⟨?_, rfl⟩
    simp only [oneOr]
    congr 1
    first | exact (decide_eq_true (by omega)).symm | exact (decide_eq_false (by omega)).symm
set_option maxHeartbeats 2000000 in
set_option maxRecDepth 4000 in
theorem rright48_ok (x : Dev) (w : World) : Rets Tryd.prog 69 [.agg x.cells.toArray] w fun v w' => v = .bool (rightD x) ∧ Ext w w' := by
  obtain ⟨no, at_, known, person, key, gone⟩ := x
  refine RetsX.of (nt := 42) Tryd.func69 (by kernel_rfl) rfl rfl (by simp) (by simp only [argEnv]; rfl) ?_
  have X := ExtB.refl (fun _ => False) w
  repeat' (first | refine RunE.seq ?_ | refine RunE.region ?_)
  refine RunL.box rfl rfl rfl fun B1 w1_ a_ => ?_
  have Z1 : Blk w1_ B1 (Dev.cells ⟨no, at_, known, person, key, gone⟩) 57 := a_.at_
  have gB1 := a_.ge X
  replace X := X.trans a_.ext
  clear a_
  by_cases hb : 0 ≤ no ∧ no ≤ 1048576 ∧ 0 ≤ at_ ∧ at_ < 1099511627776 ∧ 0 ≤ known ∧ known < 1099511627776 ∧ 0 ≤ person ∧ person < 64
  · have hR : rightD ⟨no, at_, known, person, key, gone⟩ = if gone then decide (key = 0) else validS key && decide (key ≠ 1) := by
      unfold rightD; simp only; rw [decide_eq_true hb, Bool.true_and]
    obtain ⟨b1, b2, b3, b4, b5, b6, b7, b8⟩ := hb
    have t1 := fun w => r48Time_ok at_ w
    have t2 := fun w => r48Time_ok known w
    have t3 := fun w => r48Person_ok person w
    rw [decide_eq_true ⟨b3, b4⟩] at t1
    rw [decide_eq_true ⟨b5, b6⟩] at t2
    rw [decide_eq_true ⟨b7, b8⟩] at t3
    rw [hR]
    cases gone with
    | true =>
      simp only [if_true]
      repeat' (first | with_reducible refine RunLN.boolT rfl ?_ | with_reducible refine RunLN.boolF rfl ?_ | refine RunLN.int (by (first | exact wr_i64 (by omega) (by omega) | exact wm_i64 (by omega) | exact wq_i64 (by omega) (by omega) (by omega) | rfl)) ?_ | (refine RunLN.boolC (fun h_ => ?_) (fun h_ => ?_) <;> (try simp only [decide_eq_true_eq, decide_eq_false_iff_not, beq_iff_eq, bne_iff_ne, ne_eq, Bool.not_eq_true, Bool.not_eq_false, beq_eq_false_iff_ne, bne_eq_false_iff_eq, Bool.not_eq_eq_eq_not, Bool.not_true, Bool.not_false, Bool.not_not, Int.not_lt, Int.not_le, gt_iff_lt, ge_iff_le, Decidable.not_not] at h_)) | refine RunLN.any ?_ | refine RunL.ev Tryd.tOk rfl rfl rfl ?_ | refine RunL.unwantedD rfl rfl ?_ | refine RunL.evV rfl rfl rfl (OpV.load1 Tryd.tOk rfl rfl rfl (Blk.cell Z1 rfl)) ?_ | refine RunL.callN rfl rfl rfl (t1 _) ?_ | refine RunL.callN rfl rfl rfl (t2 _) ?_ | refine RunL.callN rfl rfl rfl (t3 _) ?_ | refine RunE.condT rfl rfl ?_ | refine RunE.condF rfl rfl ?_ | refine RunE.seq ?_ | refine RunE.region ?_ | refine RunL.nil ?_ | refine RunE.skip ?_)
      all_goals
        refine RunE.retFn Tryd.func69 (.tmp rfl .nil) ⟨?_, X⟩
        simp only [oneOr]
        congr 1
        first | exact (decide_eq_true (by omega)).symm | exact (decide_eq_false (by omega)).symm
    | false =>
      simp only [Bool.false_eq_true, if_false]
      have hval := fun w => r10_valid_ok key w
      cases hv : validS key with
      | true =>
        rw [hv] at hval
        repeat' (first | with_reducible refine RunLN.boolT rfl ?_ | with_reducible refine RunLN.boolF rfl ?_ | refine RunLN.int (by (first | exact wr_i64 (by omega) (by omega) | exact wm_i64 (by omega) | exact wq_i64 (by omega) (by omega) (by omega) | rfl)) ?_ | (refine RunLN.boolC (fun h_ => ?_) (fun h_ => ?_) <;> (try simp only [decide_eq_true_eq, decide_eq_false_iff_not, beq_iff_eq, bne_iff_ne, ne_eq, Bool.not_eq_true, Bool.not_eq_false, beq_eq_false_iff_ne, bne_eq_false_iff_eq, Bool.not_eq_eq_eq_not, Bool.not_true, Bool.not_false, Bool.not_not, Int.not_lt, Int.not_le, gt_iff_lt, ge_iff_le, Decidable.not_not] at h_)) | refine RunLN.any ?_ | refine RunL.ev Tryd.tOk rfl rfl rfl ?_ | refine RunL.unwantedD rfl rfl ?_ | refine RunL.evV rfl rfl rfl (OpV.load1 Tryd.tOk rfl rfl rfl (Blk.cell Z1 rfl)) ?_ | refine RunL.callN rfl rfl rfl (t1 _) ?_ | refine RunL.callN rfl rfl rfl (t2 _) ?_ | refine RunL.callN rfl rfl rfl (t3 _) ?_ | refine RunL.callN rfl rfl rfl (hval _) ?_ | refine RunE.condT rfl rfl ?_ | refine RunE.condF rfl rfl ?_ | refine RunE.seq ?_ | refine RunE.region ?_ | refine RunL.nil ?_ | refine RunE.skip ?_)
        all_goals
          refine RunE.retFn Tryd.func69 (.tmp rfl .nil) ⟨?_, X⟩
          simp only [oneOr, Bool.true_and]
          congr 1
          first | exact (decide_eq_true (by omega)).symm | exact (decide_eq_false (by omega)).symm
      | false =>
        rw [hv] at hval
        repeat' (first | with_reducible refine RunLN.boolT rfl ?_ | with_reducible refine RunLN.boolF rfl ?_ | refine RunLN.int (by (first | exact wr_i64 (by omega) (by omega) | exact wm_i64 (by omega) | exact wq_i64 (by omega) (by omega) (by omega) | rfl)) ?_ | (refine RunLN.boolC (fun h_ => ?_) (fun h_ => ?_) <;> (try simp only [decide_eq_true_eq, decide_eq_false_iff_not, beq_iff_eq, bne_iff_ne, ne_eq, Bool.not_eq_true, Bool.not_eq_false, beq_eq_false_iff_ne, bne_eq_false_iff_eq, Bool.not_eq_eq_eq_not, Bool.not_true, Bool.not_false, Bool.not_not, Int.not_lt, Int.not_le, gt_iff_lt, ge_iff_le, Decidable.not_not] at h_)) | refine RunLN.any ?_ | refine RunL.ev Tryd.tOk rfl rfl rfl ?_ | refine RunL.unwantedD rfl rfl ?_ | refine RunL.evV rfl rfl rfl (OpV.load1 Tryd.tOk rfl rfl rfl (Blk.cell Z1 rfl)) ?_ | refine RunL.callN rfl rfl rfl (t1 _) ?_ | refine RunL.callN rfl rfl rfl (t2 _) ?_ | refine RunL.callN rfl rfl rfl (t3 _) ?_ | refine RunL.callN rfl rfl rfl (hval _) ?_ | refine RunE.condT rfl rfl ?_ | refine RunE.condF rfl rfl ?_ | refine RunE.seq ?_ | refine RunE.region ?_ | refine RunL.nil ?_ | refine RunE.skip ?_)
        all_goals exact RunE.retFn Tryd.func69 (.tmp rfl .nil) ⟨rfl, X⟩
  · have hR : rightD ⟨no, at_, known, person, key, gone⟩ = false := by
      unfold rightD; simp only; rw [decide_eq_false hb, Bool.false_and]
    rw [hR]
    repeat' (first | with_reducible refine RunLN.boolT rfl ?_ | with_reducible refine RunLN.boolF rfl ?_ | refine RunLN.int (by (first | exact wr_i64 (by omega) (by omega) | exact wm_i64 (by omega) | exact wq_i64 (by omega) (by omega) (by omega) | rfl)) ?_ | (refine RunLN.boolC (fun h_ => ?_) (fun h_ => ?_) <;> (try simp only [decide_eq_true_eq, decide_eq_false_iff_not, beq_iff_eq, bne_iff_ne, ne_eq, Bool.not_eq_true, Bool.not_eq_false, beq_eq_false_iff_ne, bne_eq_false_iff_eq, Bool.not_eq_eq_eq_not, Bool.not_true, Bool.not_false, Bool.not_not, Int.not_lt, Int.not_le, gt_iff_lt, ge_iff_le, Decidable.not_not] at h_)) | refine RunLN.any ?_ | refine RunL.ev Tryd.tOk rfl rfl rfl ?_ | refine RunL.unwantedD rfl rfl ?_ | refine RunL.evV rfl rfl rfl (OpV.load1 Tryd.tOk rfl rfl rfl (Blk.cell Z1 rfl)) ?_ | refine RunL.callN rfl rfl rfl (r48Time_ok _ _) ?_ | refine RunL.callN rfl rfl rfl (r48Person_ok _ _) ?_ | refine RunE.condT rfl rfl ?_ | refine RunE.condF rfl rfl ?_ | refine RunE.seq ?_ | refine RunE.region ?_ | refine RunL.nil ?_ | refine RunE.skip ?_)
    all_goals first
      | exact RunE.retFn Tryd.func69 (.tmp rfl .nil) ⟨rfl, X⟩
      | (exfalso; omega)
theorem rused48_ok (l : List Dev) (v : Value) (key : Int) (w : World) (hv : LD w v l) (hl : l.length < 9223372036854775808) : Rets Tryd.prog 70 [v, .int .i64 key] w fun r w' => r = .bool (usedD l key) ∧ w = w' := by
  refine RetsX.of (nt := 23) Tryd.func70 (by kernel_rfl) rfl rfl (by simp) (by simp only [argEnv]; rfl) ?_
  have X := ExtB.refl (fun _ => False) w
  repeat' (first | with_reducible refine RunLN.boolF rfl ?_ | refine RunLN.int (by (first | exact wr_i64 (by omega) (by omega) | exact wm_i64 (by omega) | exact wq_i64 (by omega) (by omega) (by omega) | rfl)) ?_ | refine RunL.ev Tryd.tOk rfl rfl rfl ?_ | refine RunE.seq ?_ | refine RunE.region ?_ | refine RunL.nil ?_ | refine RunE.block ?_)
  refine RunE.loop (ι := Nat) (fun i => [(0, v), (1, .int .i64 key), (5, .int .i64 (i : Int))])
    (fun i w' => i ≤ l.length ∧ usedD (l.take i) key = false ∧ w = w') (fun i => l.length - i) 0 (by repeat (first | exact Sub.nil _ | refine Sub.cons rfl ?_)) ⟨Nat.zero_le _, rfl, rfl⟩ ?_
  rintro i _ ⟨hi, hu, rfl⟩ again
  by_cases hlt : i < l.length
  · obtain ⟨b, o, cap, rfl, hr, hc⟩ := isL_held hv hlt
    obtain ⟨x, hx⟩ : ∃ x, l[i]? = some x := ⟨_, List.getElem?_eq_getElem hlt⟩
    have hrx := flat_row encD hr hx
    have ht : usedD (l.take (i + 1)) key = decide (key ≠ 0 ∧ x.key = key) := by
      rw [List.take_add_one, hx]
      show usedD (l.take i ++ [x]) key = _
      rw [usedD_snoc, hu, Bool.false_or]
    by_cases hk : key = 0
    · rw [decide_eq_false (fun h => h.1 hk)] at ht
      repeat' (first | with_reducible refine RunLN.boolF rfl ?_ | (with_reducible refine RunLN.decT ?_ ?_; focus omega) | (with_reducible refine RunLN.neF ?_ ?_; focus omega) | refine RunLN.int (by (first | exact wr_i64 (by omega) (by omega) | exact wm_i64 (by omega) | exact wq_i64 (by omega) (by omega) (by omega) | rfl)) ?_ | refine RunLN.any ?_ | refine RunL.ev Tryd.tOk rfl rfl rfl ?_ | refine RunL.unwantedD rfl rfl ?_ | refine RunE.condT rfl rfl ?_ | refine RunE.condF rfl rfl ?_ | refine RunE.seq ?_ | refine RunE.region ?_ | refine RunL.nil ?_ | refine RunE.block ?_ | refine RunE.inBlock ?_ | refine RunE.skip ?_)
      exact RunE.weaken (by repeat (first | exact Sub.nil _ | refine Sub.cons rfl ?_)) (again (i + 1) _ (by omega) ⟨by omega, ht, rfl⟩)
    · by_cases hxk : x.key = key
      · have hany : usedD l key = true := List.any_eq_true.2 ⟨x, List.mem_of_getElem? hx, decide_eq_true ⟨hk, hxk⟩⟩
        repeat' (first | with_reducible refine RunLN.boolT rfl ?_ | (with_reducible refine RunLN.decT ?_ ?_; focus omega) | (with_reducible refine RunLN.eqT ?_ ?_; focus omega) | (with_reducible refine RunLN.neT ?_ ?_; focus omega) | refine RunLN.int (by (first | exact wr_i64 (by omega) (by omega) | exact wm_i64 (by omega) | exact wq_i64 (by omega) (by omega) (by omega) | rfl)) ?_ | refine RunLN.any ?_ | refine RunL.ev Tryd.tOk rfl rfl rfl ?_ | refine RunL.evV rfl rfl rfl (OpV.load1 Tryd.tOk rfl rfl rfl ((hrx.up X) _ _ rfl)) ?_ | refine RunL.evV rfl rfl rfl (OpV.indexS Tryd.tOk _ rfl rfl rfl rfl (by omega)) ?_ | refine RunE.condT rfl rfl ?_ | refine RunE.seq ?_ | refine RunE.region ?_ | refine RunL.nil ?_ | refine RunE.block ?_ | refine RunE.skip ?_)
        exact RunE.retFn Tryd.func70 (.tmp rfl .nil) ⟨by rw [hany]; rfl, rfl⟩
      · rw [decide_eq_false (fun h => hxk h.2)] at ht
        repeat' (first | with_reducible refine RunLN.boolT rfl ?_ | with_reducible refine RunLN.boolF rfl ?_ | (with_reducible refine RunLN.decT ?_ ?_; focus omega) | (with_reducible refine RunLN.eqF ?_ ?_; focus omega) | (with_reducible refine RunLN.neT ?_ ?_; focus omega) | refine RunLN.int (by (first | exact wr_i64 (by omega) (by omega) | exact wm_i64 (by omega) | exact wq_i64 (by omega) (by omega) (by omega) | rfl)) ?_ | refine RunLN.any ?_ | refine RunL.ev Tryd.tOk rfl rfl rfl ?_ | refine RunL.evV rfl rfl rfl (OpV.load1 Tryd.tOk rfl rfl rfl ((hrx.up X) _ _ rfl)) ?_ | refine RunL.evV rfl rfl rfl (OpV.indexS Tryd.tOk _ rfl rfl rfl rfl (by omega)) ?_ | refine RunE.condT rfl rfl ?_ | refine RunE.condF rfl rfl ?_ | refine RunE.seq ?_ | refine RunE.region ?_ | refine RunL.nil ?_ | refine RunE.block ?_ | refine RunE.inBlock ?_ | refine RunE.skip ?_)
        exact RunE.weaken (by repeat (first | exact Sub.nil _ | refine Sub.cons rfl ?_)) (again (i + 1) _ (by omega) ⟨by omega, ht, rfl⟩)
  · obtain rfl : i = l.length := by omega
    rw [List.take_length] at hu
    repeat' (first | with_reducible refine RunLN.boolF rfl ?_ | (with_reducible refine RunLN.decF ?_ ?_; focus omega) | refine RunLN.int (by (first | exact wr_i64 (by omega) (by omega) | exact wm_i64 (by omega) | exact wq_i64 (by omega) (by omega) (by omega) | rfl)) ?_ | refine RunLN.any ?_ | refine RunL.ev Tryd.tOk rfl rfl rfl ?_ | refine RunL.evV rfl rfl rfl (OpV.lenSl Tryd.tOk rfl rfl hv) ?_ | refine RunE.condF rfl rfl ?_ | refine RunE.seq ?_ | refine RunE.region ?_ | refine RunL.nil ?_ | refine RunE.exit rfl ?_)
    exact RunE.retFn Tryd.func70 (.tmp rfl .nil) ⟨by rw [hu]; rfl, rfl⟩
end Go.Sg
end
