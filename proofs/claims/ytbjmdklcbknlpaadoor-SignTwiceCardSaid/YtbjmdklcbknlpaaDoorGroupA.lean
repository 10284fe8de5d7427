/- The walks of package group, first part: least, squares. -/
import Derived.Test.YtbjmdklcbknlpaaDoorNum
import Derived.Test.YtbjmdklcbknlpaaDoorTab
namespace Go.Sg
open Go.Rn Go.NT Go.Proofs

def ints (l : List Int) : List Value := l.map (Value.int .i64)
theorem ints_get {l : List Int} {i : Nat} (h : i < l.length) : (ints l)[i]? = some (.int .i64 l[i]) := by simp [ints, h]

theorem tmod_cases (n Q : Int) (hQ : 0 < Q) : (n.tmod Q = n % Q ∧ 0 ≤ n % Q ∧ n % Q < Q) ∨ (n.tmod Q = n % Q - Q ∧ 0 < n % Q ∧ n % Q < Q) := by
  have h2 := Int.emod_nonneg n (by omega : Q ≠ 0)
  have h3 := Int.emod_lt_of_pos n hQ
  rw [Int.tmod_eq_emod]
  by_cases h : 0 ≤ n ∨ Q ∣ n
  · rw [if_pos h]; left; omega
  · rw [if_neg h]
    have : n % Q ≠ 0 := fun e => h (.inr (Int.dvd_of_emod_eq_zero e))
    right; omega

/-- group.least: a product of numbers, modulo Q. -/
def leastS (l : List Int) : Int := l.foldl (fun n x => n * (x.tmod 1073741789 + 1073741789) % 1073741789) 1

theorem tmodQ (x : Int) : -1073741789 < x.tmod 1073741789 ∧ x.tmod 1073741789 < 1073741789 := by
  have h1 := Int.emod_nonneg x (by decide : (1073741789 : Int) ≠ 0)
  have h2 := Int.emod_lt_of_pos x (by decide : (0 : Int) < 1073741789)
  rw [Int.tmod_eq_emod]; split <;> simp <;> omega

theorem mulmod_bd {a b : Int} (ha : 0 ≤ a) (ha' : a < 2147483579) (hb : 0 ≤ b) (hb' : b < 2147483579) : 0 ≤ a * b ∧ a * b < 4611686018427387904 := by
  refine ⟨Int.mul_nonneg ha hb, ?_⟩
  have := Int.mul_le_mul (show a ≤ 2147483578 by omega) (show b ≤ 2147483578 by omega) hb (by decide)
  omega

theorem mulQ_bd {a b : Int} (ha : 0 ≤ a) (ha' : a < 1073741789) (hb : 0 ≤ b) (hb' : b < 2147483578) : 0 ≤ a * b ∧ a * b < 4611686018427387904 := by
  refine ⟨Int.mul_nonneg ha hb, ?_⟩
  have := Int.mul_le_mul (show a ≤ 2147483578 by omega) (show b ≤ 2147483578 by omega) hb (by decide)
  omega

theorem leastS_snoc (l : List Int) (x : Int) : leastS (l ++ [x]) = leastS l * (x.tmod 1073741789 + 1073741789) % 1073741789 := by simp [leastS]
theorem leastS_bd (l : List Int) : 0 ≤ leastS l ∧ leastS l < 1073741789 := by
  suffices h : ∀ m : List Int, 0 ≤ leastS m.reverse ∧ leastS m.reverse < 1073741789 by simpa using h l.reverse
  intro m
  induction m with
  | nil => decide
  | cons x m ih =>
    rw [List.reverse_cons, leastS_snoc]
    exact ⟨Int.emod_nonneg _ (by decide), Int.emod_lt_of_pos _ (by decide)⟩

theorem take_snoc {α : Type} (l : List α) (k : Nat) (h : k < l.length) : l.take (k + 1) = l.take k ++ [l[k]] := by
  rw [List.take_succ_eq_append_getElem h]

theorem least_ok (l : List Int) (b o cap : Nat) (w : World) (hr : Row w b o (ints l)) (hl : l.length < 9223372036854775807) :
    Rets Tryd.prog 46 [.slice (some ⟨b, o, none⟩) l.length cap] w fun v w' => v = .int .i64 (leastS l) ∧ w = w' := by
  refine RetsX.of (nt := 20) Tryd.func46 (by kernel_rfl) rfl rfl (by simp) (by simp only [argEnv]; rfl) ?_
  repeat (first | refine RunL.pureI Tryd.tOk rfl rfl rfl (by (first | exact wr_i64 (by omega) (by omega) | exact wm_i64 (by omega) | exact wq_i64 (by omega) (by omega) (by omega) | rfl)) ?_ | refine RunL.pure Tryd.tOk rfl rfl rfl ?_ | refine RunL.unwantedD rfl rfl ?_ | refine RunE.seq ?_ | refine RunE.region ?_ | refine RunL.nil ?_ | refine RunE.block ?_ | refine RunE.inBlock ?_ | refine RunE.skip ?_ | refine RunE.exit rfl ?_ | refine RunE.scope ?_ | refine RunE.inScope ?_ | refine RunE.label ?_)
  refine RunE.loop (ι := Nat) (fun j => [(3, .int .i64 (leastS (l.take j))), (6, .slice (some ⟨b, o, none⟩) l.length cap), (7, .int .i64 l.length), (8, .int .i64 (j : Int))])
    (fun j w' => w' = w ∧ j ≤ l.length) (fun j => l.length - j) 0 (by repeat (first | exact Sub.nil _ | refine Sub.cons rfl ?_)) ⟨rfl, by omega⟩ ?_
  rintro j w' ⟨rfl, hj⟩ IH
  repeat (first | refine RunL.pureI Tryd.tOk rfl rfl rfl (by (first | exact wr_i64 (by omega) (by omega) | exact wm_i64 (by omega) | exact wq_i64 (by omega) (by omega) (by omega) | rfl)) ?_ | refine RunL.pure Tryd.tOk rfl rfl rfl ?_ | refine RunL.unwantedD rfl rfl ?_ | refine RunE.seq ?_ | refine RunE.region ?_ | refine RunL.nil ?_ | refine RunE.block ?_ | refine RunE.inBlock ?_ | refine RunE.skip ?_ | refine RunE.exit rfl ?_ | refine RunE.scope ?_ | refine RunE.inScope ?_ | refine RunE.label ?_)
  refine RunE.cond rfl (fun h => ?_) (fun h => ?_) <;> (first | replace h := of_decide_eq_true h | replace h := of_decide_eq_false h | replace h := beq_iff_eq.1 h | replace h := beq_eq_false_iff_ne.1 h | replace h := bne_iff_ne.1 h | replace h := bne_eq_false_iff_eq.1 h | skip)
  · have hj' : j < l.length := by omega
    have h1 := leastS_bd (l.take j)
    have h2 := tmodQ l[j]
    have h3 := mulQ_bd h1.1 h1.2 (by omega : 0 ≤ l[j].tmod 1073741789 + 1073741789) (by omega)
    have hsn := leastS_snoc (l.take j) l[j]
    rw [← take_snoc l j hj'] at hsn
    repeat (first | refine RunL.pureI Tryd.tOk rfl rfl rfl (by (first | exact wr_i64 (by omega) (by omega) | exact wm_i64 (by omega) | exact wq_i64 (by omega) (by omega) (by omega) | rfl)) ?_ | refine RunL.pure Tryd.tOk rfl rfl rfl ?_ | refine RunL.unwantedD rfl rfl ?_ | refine RunE.seq ?_ | refine RunE.region ?_ | refine RunL.nil ?_ | refine RunE.block ?_ | refine RunE.inBlock ?_ | refine RunE.skip ?_ | refine RunE.exit rfl ?_ | refine RunE.scope ?_ | refine RunE.inScope ?_ | refine RunE.label ?_)
    refine RunL.indexAddr1 Tryd.tOk j rfl rfl rfl rfl rfl rfl hj' ?_
    refine RunL.load rfl rfl rfl (Loads.scalar Tryd.tOk rfl rfl (hr j _ (ints_get hj'))) ?_
    repeat (first | refine RunL.pureI Tryd.tOk rfl rfl rfl (by (first | exact wr_i64 (by omega) (by omega) | exact wm_i64 (by omega) | exact wq_i64 (by omega) (by omega) (by omega) | rfl)) ?_ | refine RunL.pure Tryd.tOk rfl rfl rfl ?_ | refine RunL.unwantedD rfl rfl ?_ | refine RunE.seq ?_ | refine RunE.region ?_ | refine RunL.nil ?_ | refine RunE.block ?_ | refine RunE.inBlock ?_ | refine RunE.skip ?_ | refine RunE.exit rfl ?_ | refine RunE.scope ?_ | refine RunE.inScope ?_ | refine RunE.label ?_)
    refine RunE.weaken (.cons ?_ (by repeat (first | exact Sub.nil _ | refine Sub.cons rfl ?_))) (IH (j + 1) _ (by omega) ⟨rfl, by omega⟩)
    rw [hsn]; rfl
  · repeat (first | refine RunL.pureI Tryd.tOk rfl rfl rfl (by (first | exact wr_i64 (by omega) (by omega) | exact wm_i64 (by omega) | exact wq_i64 (by omega) (by omega) (by omega) | rfl)) ?_ | refine RunL.pure Tryd.tOk rfl rfl rfl ?_ | refine RunL.unwantedD rfl rfl ?_ | refine RunE.seq ?_ | refine RunE.region ?_ | refine RunL.nil ?_ | refine RunE.block ?_ | refine RunE.inBlock ?_ | refine RunE.skip ?_ | refine RunE.exit rfl ?_ | refine RunE.scope ?_ | refine RunE.inScope ?_ | refine RunE.label ?_)
    refine RunE.retFn Tryd.func46 (.tmp rfl .nil) ⟨?_, rfl⟩
    simp only [oneOr]
    rw [List.take_of_length_le (by omega)]

theorem and1 {m : Int} (h : 0 ≤ m) (h' : m < 9223372036854775808) : IntKind.i64.wrap ((BitVec.ofInt IntKind.i64.bits m &&& BitVec.ofInt IntKind.i64.bits 1).toNat : Int) = m % 2 := by
  obtain ⟨k, rfl⟩ := Int.eq_ofNat_of_zero_le h
  have e : (BitVec.ofInt IntKind.i64.bits (k : Int) &&& BitVec.ofInt IntKind.i64.bits 1).toNat = k % 2 := by
    rw [BitVec.toNat_and]
    have h1 : (BitVec.ofInt IntKind.i64.bits (k : Int)).toNat = k := by
      simp only [IntKind.bits, BitVec.toNat_ofInt]; omega
    have h2 : (BitVec.ofInt IntKind.i64.bits 1).toNat = 1 := by decide
    rw [h1, h2, Nat.and_one_is_mod]
  rw [e, wr_i64 (by omega) (by omega)]
  omega
theorem shr1 {m : Int} : m.fdiv (2 ^ (min 1 IntKind.i64.bits)) = m / 2 := by
  have : (2 : Int) ^ (min 1 IntKind.i64.bits) = 2 := by decide
  rw [this, Int.fdiv_eq_ediv_of_nonneg _ (by decide)]

/-- The iterator of group.squares: it calls yield on (x, is m odd), while m is positive; then the square, and the half. -/
theorem squares1_ok (ba bn : Nat) (y : Value) (J : Int → Int → World → Prop) (hne : ba ≠ bn)
    (hstab : ∀ x m w w', J x m w → ExtB (fun k => k = ba ∨ k = bn) w w' → J x m w')
    (hy : ∀ x m w, J x m w → 0 ≤ x → x < 2147483579 → 0 < m → m < 9223372036854775808 → Blk w ba [.int .i64 x] 3 → Blk w bn [.int .i64 m] 3 →
      FnV Tryd.prog y [.int .i64 x, .bool (m % 2 == 1)] w (fun v w' => v = .bool true ∧ J (x * x % 2147483579) (m / 2) w' ∧ Blk w' ba [.int .i64 x] 3 ∧ Blk w' bn [.int .i64 m] 3) (fun _ _ => False))
    (a n : Int) (w : World) (ha : 0 ≤ a) (ha' : a < 2147483579) (hn : 0 ≤ n) (hn' : n < 9223372036854775808) (hA : Blk w ba [.int .i64 a] 3) (hN : Blk w bn [.int .i64 n] 3) (hJ : J a n w) :
    Rets Tryd.prog 59 [y, .pointer (some ⟨bn, 0, none⟩), .pointer (some ⟨ba, 0, none⟩)] w fun _ w' => ∃ x, J x 0 w' := by
  refine RetsX.of (nt := 19) Tryd.func59 (by kernel_rfl) rfl rfl (by simp) (by simp only [argEnv]; rfl) ?_
  repeat (first | refine RunL.pureI Tryd.tOk rfl rfl rfl (by (first | exact wr_i64 (by omega) (by omega) | exact wm_i64 (by omega) | exact wq_i64 (by omega) (by omega) (by omega) | rfl)) ?_ | refine RunL.pure Tryd.tOk rfl rfl rfl ?_ | refine RunL.unwantedD rfl rfl ?_ | refine RunE.seq ?_ | refine RunE.region ?_ | refine RunL.nil ?_ | refine RunE.block ?_ | refine RunE.inBlock ?_ | refine RunE.skip ?_ | refine RunE.exit rfl ?_ | refine RunE.scope ?_ | refine RunE.inScope ?_ | refine RunE.label ?_)
  refine RunE.loop (ι := Int × Int) (fun _ => [(0, y), (1, .pointer (some ⟨bn, 0, none⟩)), (2, .pointer (some ⟨ba, 0, none⟩))])
    (fun s w => 0 ≤ s.1 ∧ s.1 < 2147483579 ∧ 0 ≤ s.2 ∧ s.2 < 9223372036854775808 ∧ Blk w ba [.int .i64 s.1] 3 ∧ Blk w bn [.int .i64 s.2] 3 ∧ J s.1 s.2 w) (fun s => s.2.toNat) (a, n) (by repeat (first | exact Sub.nil _ | refine Sub.cons rfl ?_)) ⟨ha, ha', hn, hn', hA, hN, hJ⟩ ?_
  rintro ⟨x, m⟩ w ⟨hx, hx', hm, hm', hA, hN, hJ⟩ IH
  simp only at hx hx' hm hm' hA hN hJ
  repeat (first | refine RunL.pureI Tryd.tOk rfl rfl rfl (by (first | exact wr_i64 (by omega) (by omega) | exact wm_i64 (by omega) | exact wq_i64 (by omega) (by omega) (by omega) | rfl)) ?_ | refine RunL.pure Tryd.tOk rfl rfl rfl ?_ | refine RunL.unwantedD rfl rfl ?_ | refine RunE.seq ?_ | refine RunE.region ?_ | refine RunL.nil ?_ | refine RunE.block ?_ | refine RunE.inBlock ?_ | refine RunE.skip ?_ | refine RunE.exit rfl ?_ | refine RunE.scope ?_ | refine RunE.inScope ?_ | refine RunE.label ?_)
  refine RunL.load rfl rfl rfl (Loads.scalar Tryd.tOk rfl rfl (hN.cell rfl)) ?_
  repeat (first | refine RunL.pureI Tryd.tOk rfl rfl rfl (by (first | exact wr_i64 (by omega) (by omega) | exact wm_i64 (by omega) | exact wq_i64 (by omega) (by omega) (by omega) | rfl)) ?_ | refine RunL.pure Tryd.tOk rfl rfl rfl ?_ | refine RunL.unwantedD rfl rfl ?_ | refine RunE.seq ?_ | refine RunE.region ?_ | refine RunL.nil ?_ | refine RunE.block ?_ | refine RunE.inBlock ?_ | refine RunE.skip ?_ | refine RunE.exit rfl ?_ | refine RunE.scope ?_ | refine RunE.inScope ?_ | refine RunE.label ?_)
  refine RunE.cond rfl (fun h => ?_) (fun h => ?_) <;> (first | replace h := of_decide_eq_true h | replace h := of_decide_eq_false h | replace h := beq_iff_eq.1 h | replace h := beq_eq_false_iff_ne.1 h | replace h := bne_iff_ne.1 h | replace h := bne_eq_false_iff_eq.1 h | skip)
  · have hb := mulmod_bd hx hx' hx hx'
    repeat (first | refine RunL.pureI Tryd.tOk rfl rfl rfl (by (first | exact wr_i64 (by omega) (by omega) | exact wm_i64 (by omega) | exact wq_i64 (by omega) (by omega) (by omega) | rfl)) ?_ | refine RunL.pure Tryd.tOk rfl rfl rfl ?_ | refine RunL.unwantedD rfl rfl ?_ | refine RunE.seq ?_ | refine RunE.region ?_ | refine RunL.nil ?_ | refine RunE.block ?_ | refine RunE.inBlock ?_ | refine RunE.skip ?_ | refine RunE.exit rfl ?_ | refine RunE.scope ?_ | refine RunE.inScope ?_ | refine RunE.label ?_)
    refine RunL.load rfl rfl rfl (Loads.scalar Tryd.tOk rfl rfl (hA.cell rfl)) ?_
    refine RunL.load rfl rfl rfl (Loads.scalar Tryd.tOk rfl rfl (hN.cell rfl)) ?_
    refine RunL.pureI Tryd.tOk rfl rfl rfl (and1 hm hm') ?_
    repeat (first | refine RunL.pureI Tryd.tOk rfl rfl rfl (by (first | exact wr_i64 (by omega) (by omega) | exact wm_i64 (by omega) | exact wq_i64 (by omega) (by omega) (by omega) | rfl)) ?_ | refine RunL.pure Tryd.tOk rfl rfl rfl ?_ | refine RunL.unwantedD rfl rfl ?_ | refine RunE.seq ?_ | refine RunE.region ?_ | refine RunL.nil ?_ | refine RunE.block ?_ | refine RunE.inBlock ?_ | refine RunE.skip ?_ | refine RunE.exit rfl ?_ | refine RunE.scope ?_ | refine RunE.inScope ?_ | refine RunE.label ?_)
    refine RunL.callV rfl rfl rfl rfl (hy x m w hJ hx hx' h hm' hA hN) (fun _ _ _ h => h.elim) ?_
    rintro v w1 ⟨rfl, hJ1, hA1, hN1⟩
    repeat (first | refine RunL.pureI Tryd.tOk rfl rfl rfl (by (first | exact wr_i64 (by omega) (by omega) | exact wm_i64 (by omega) | exact wq_i64 (by omega) (by omega) (by omega) | rfl)) ?_ | refine RunL.pure Tryd.tOk rfl rfl rfl ?_ | refine RunL.unwantedD rfl rfl ?_ | refine RunE.seq ?_ | refine RunE.region ?_ | refine RunL.nil ?_ | refine RunE.block ?_ | refine RunE.inBlock ?_ | refine RunE.skip ?_ | refine RunE.exit rfl ?_ | refine RunE.scope ?_ | refine RunE.inScope ?_ | refine RunE.label ?_)
    refine RunE.condF rfl rfl ?_
    repeat (first | refine RunL.pureI Tryd.tOk rfl rfl rfl (by (first | exact wr_i64 (by omega) (by omega) | exact wm_i64 (by omega) | exact wq_i64 (by omega) (by omega) (by omega) | rfl)) ?_ | refine RunL.pure Tryd.tOk rfl rfl rfl ?_ | refine RunL.unwantedD rfl rfl ?_ | refine RunE.seq ?_ | refine RunE.region ?_ | refine RunL.nil ?_ | refine RunE.block ?_ | refine RunE.inBlock ?_ | refine RunE.skip ?_ | refine RunE.exit rfl ?_ | refine RunE.scope ?_ | refine RunE.inScope ?_ | refine RunE.label ?_)
    refine RunL.load rfl rfl rfl (Loads.scalar Tryd.tOk rfl rfl (hA1.cell rfl)) ?_
    refine RunL.load rfl rfl rfl (Loads.scalar Tryd.tOk rfl rfl (hA1.cell rfl)) ?_
    repeat (first | refine RunL.pureI Tryd.tOk rfl rfl rfl (by (first | exact wr_i64 (by omega) (by omega) | exact wm_i64 (by omega) | exact wq_i64 (by omega) (by omega) (by omega) | rfl)) ?_ | refine RunL.pure Tryd.tOk rfl rfl rfl ?_ | refine RunL.unwantedD rfl rfl ?_ | refine RunE.seq ?_ | refine RunE.region ?_ | refine RunL.nil ?_ | refine RunE.block ?_ | refine RunE.inBlock ?_ | refine RunE.skip ?_ | refine RunE.exit rfl ?_ | refine RunE.scope ?_ | refine RunE.inScope ?_ | refine RunE.label ?_)
    refine RunL.store Tryd.tOk rfl rfl rfl rfl rfl hA1 rfl rfl ?_
    intro w2 hT
    have hA2 : Blk w2 ba [.int .i64 (x * x % 2147483579)] 3 := hT.at_
    have hN2 := hN1.ext hT.ext (fun e => hne e.symm)
    have hJ2 := hstab _ _ _ _ hJ1 (hT.ext.mono fun k _ e => .inl e)
    repeat (first | refine RunL.pureI Tryd.tOk rfl rfl rfl (by (first | exact wr_i64 (by omega) (by omega) | exact wm_i64 (by omega) | exact wq_i64 (by omega) (by omega) (by omega) | rfl)) ?_ | refine RunL.pure Tryd.tOk rfl rfl rfl ?_ | refine RunL.unwantedD rfl rfl ?_ | refine RunE.seq ?_ | refine RunE.region ?_ | refine RunL.nil ?_ | refine RunE.block ?_ | refine RunE.inBlock ?_ | refine RunE.skip ?_ | refine RunE.exit rfl ?_ | refine RunE.scope ?_ | refine RunE.inScope ?_ | refine RunE.label ?_)
    refine RunL.load rfl rfl rfl (Loads.scalar Tryd.tOk rfl rfl (hN2.cell rfl)) ?_
    refine RunL.pureI Tryd.tOk rfl rfl rfl shr1 ?_
    refine RunL.store Tryd.tOk rfl rfl rfl rfl rfl hN2 rfl rfl ?_
    intro w3 hT3
    have hA3 := hA2.ext hT3.ext hne
    have hN3 : Blk w3 bn [.int .i64 (m / 2)] 3 := hT3.at_
    have hJ3 := hstab _ _ _ _ hJ2 (hT3.ext.mono fun k _ e => .inr e)
    repeat (first | refine RunL.pureI Tryd.tOk rfl rfl rfl (by (first | exact wr_i64 (by omega) (by omega) | exact wm_i64 (by omega) | exact wq_i64 (by omega) (by omega) (by omega) | rfl)) ?_ | refine RunL.pure Tryd.tOk rfl rfl rfl ?_ | refine RunL.unwantedD rfl rfl ?_ | refine RunE.seq ?_ | refine RunE.region ?_ | refine RunL.nil ?_ | refine RunE.block ?_ | refine RunE.inBlock ?_ | refine RunE.skip ?_ | refine RunE.exit rfl ?_ | refine RunE.scope ?_ | refine RunE.inScope ?_ | refine RunE.label ?_)
    exact RunE.weaken (by repeat (first | exact Sub.nil _ | refine Sub.cons rfl ?_)) (IH (x * x % 2147483579, m / 2) _ (by simp only; omega) ⟨by simp only; omega, by simp only; omega, by simp only; omega, by simp only; omega, hA3, hN3, hJ3⟩)
  · repeat (first | refine RunL.pureI Tryd.tOk rfl rfl rfl (by (first | exact wr_i64 (by omega) (by omega) | exact wm_i64 (by omega) | exact wq_i64 (by omega) (by omega) (by omega) | rfl)) ?_ | refine RunL.pure Tryd.tOk rfl rfl rfl ?_ | refine RunL.unwantedD rfl rfl ?_ | refine RunE.seq ?_ | refine RunE.region ?_ | refine RunL.nil ?_ | refine RunE.block ?_ | refine RunE.inBlock ?_ | refine RunE.skip ?_ | refine RunE.exit rfl ?_ | refine RunE.scope ?_ | refine RunE.inScope ?_ | refine RunE.label ?_)
    refine RunE.fallFn Tryd.func59 .nil ⟨x, ?_⟩
    obtain rfl : m = 0 := by omega
    exact hJ

theorem squares_ok (a n : Int) (w : World) : Rets Tryd.prog 45 [.int .i64 a, .int .i64 n] w fun v w' =>
    v = .func (.func 59) #[] #[.pointer (some ⟨w.heap.size + 1, 0, none⟩), .pointer (some ⟨w.heap.size, 0, none⟩)] ∧ Blk w' w.heap.size [.int .i64 a] 3 ∧ Blk w' (w.heap.size + 1) [.int .i64 n] 3 ∧ Ext w w' ∧ w'.heap.size = w.heap.size + 2 := by
  refine RetsX.of (nt := 6) Tryd.func45 (by kernel_rfl) rfl rfl (by simp) (by simp only [argEnv]; rfl) ?_
  repeat (first | refine RunL.pureI Tryd.tOk rfl rfl rfl (by (first | exact wr_i64 (by omega) (by omega) | exact wm_i64 (by omega) | exact wq_i64 (by omega) (by omega) (by omega) | rfl)) ?_ | refine RunL.pure Tryd.tOk rfl rfl rfl ?_ | refine RunL.unwantedD rfl rfl ?_ | refine RunE.seq ?_ | refine RunE.region ?_ | refine RunL.nil ?_ | refine RunE.block ?_ | refine RunE.inBlock ?_ | refine RunE.skip ?_ | refine RunE.exit rfl ?_ | refine RunE.scope ?_ | refine RunE.inScope ?_ | refine RunE.label ?_)
  refine RunL.box rfl rfl rfl fun B w1 h1 => ?_
  refine RunL.box rfl rfl rfl fun B2 w2 h2 => ?_
  repeat (first | refine RunL.pureI Tryd.tOk rfl rfl rfl (by (first | exact wr_i64 (by omega) (by omega) | exact wm_i64 (by omega) | exact wq_i64 (by omega) (by omega) (by omega) | rfl)) ?_ | refine RunL.pure Tryd.tOk rfl rfl rfl ?_ | refine RunL.unwantedD rfl rfl ?_ | refine RunE.seq ?_ | refine RunE.region ?_ | refine RunL.nil ?_ | refine RunE.block ?_ | refine RunE.inBlock ?_ | refine RunE.skip ?_ | refine RunE.exit rfl ?_ | refine RunE.scope ?_ | refine RunE.inScope ?_ | refine RunE.label ?_)
  refine RunE.retFn Tryd.func45 (.tmp rfl .nil) ?_
  have e1 := h1.eq
  have e2 := h2.eq
  have s1 := h1.size
  have s2 := h2.size
  obtain rfl : B = w.heap.size := e1
  obtain rfl : B2 = w.heap.size + 1 := by omega
  refine ⟨rfl, ?_, ?_, h1.ext.trans h2.ext, by omega⟩
  · exact Blk.ext (show Blk w1 _ [.int .i64 a] 3 from h1.at_) h2.ext id
  · exact h2.at_

theorem least1 (n : Int) : leastS [n] = n % 1073741789 := by
  simp only [leastS, List.foldl]
  rcases tmod_cases n 1073741789 (by decide) with ⟨h1, h2, h3⟩ | ⟨h1, h2, h3⟩ <;> omega


end Go.Sg
