/- Parts of this project that the claims share: GroupA, Valid, GroupB, Group, Ref10, GroupC, GroupFacts, Sign1, Sign2, DeeS, DeeR, Step, Map, MapB, DeeM, MerM, Chk, CmpB, RecOps. -/
import Derived.Test.YtpmpefkcmokoiaaGreatDoorMs04
import Derived.Test.YtpmpefkcmokoiaaGreatDoorMs02
import Derived.Test.YtpmpefkcmokoiaaGreatDoorMs03
import Derived.ChangeKeysEq
import Derived.Laws.StructEq
import Derived.Lib.Bytealg
import Derived.Laws.Externs
import Derived.Lib.AppendZerosOnto
import Derived.Lib.Overlaps
set_option linter.unusedSimpArgs false
set_option linter.unusedVariables false
set_option linter.unusedSectionVars false
section
/- The walks of package group, first part: least, squares. -/
set_option maxRecDepth 4000
namespace Go.Sg
open Go.Rn Go.NT Go.Proofs

def ints (l : List Int) : List Value := l.map (Value.int .i64)
theorem ints_get {l : List Int} {i : Nat} (h : i < l.length) : (ints l)[i]? = some (.int .i64 l[i]) := by simp [ints, h]

theorem tmod_cases (n Q : Int) (hQ : 0 < Q) : (n.tmod Q = n % Q ∧ 0 ≤ n % Q ∧ n % Q < Q) ∨ (n.tmod Q = n % Q - Q ∧ 0 < n % Q ∧ n % Q < Q) := by
 have h2 := Int.emod_nonneg n (by omega : Q ≠ 0)
 have h3 := Int.emod_lt_of_pos n hQ
 rw [Int.tmod_eq_emod]
 by_cases h : 0 ≤ n ∨ Q ∣ n
 ·rw [if_pos h]; left; omega
 ·rw [if_neg h]
  have : n % Q ≠ 0 := fun e => h (.inr (Int.dvd_of_emod_eq_zero e))
  right; omega

/-- group.least: a product of numbers, modulo Q. -/
def leastS (l : List Int) : Int := l.foldl (fun n x => n * (x.tmod 1073741789 + 1073741789) % 1073741789) 1

theorem tmodQ (x : Int) : -1073741789 < x.tmod 1073741789 ∧ x.tmod 1073741789 < 1073741789 := by
 have h1 := Int.emod_nonneg x (by decide : (1073741789 : Int) ≠ 0)
 have h2 := Int.emod_lt_of_pos x (by decide : (0 : Int) < 1073741789)
 rw [Int.tmod_eq_emod]; split <;> simp <;> omega

theorem mulmod_bd {a b : Int} (ha : 0 ≤ a) (ha' : a < 2147483579) (hb : 0 ≤ b) (hb' : b < 2147483579) : 0 ≤ a * b ∧ a * b < 4611686018427387904 := by
 refine ⟨Int.mul_nonneg ha hb, ?_⟩
 have := Int.mul_le_mul (show a ≤ 2147483578 by omega) (show b ≤ 2147483578 by omega) hb (by decide)
 omega

theorem mulQ_bd {a b : Int} (ha : 0 ≤ a) (ha' : a < 1073741789) (hb : 0 ≤ b) (hb' : b < 2147483578) : 0 ≤ a * b ∧ a * b < 4611686018427387904 := by
 refine ⟨Int.mul_nonneg ha hb, ?_⟩
 have := Int.mul_le_mul (show a ≤ 2147483578 by omega) (show b ≤ 2147483578 by omega) hb (by decide)
 omega

theorem leastS_snoc (l : List Int) (x : Int) : leastS (l ++ [x]) = leastS l * (x.tmod 1073741789 + 1073741789) % 1073741789 := by simp [leastS]
theorem leastS_bd (l : List Int) : 0 ≤ leastS l ∧ leastS l < 1073741789 := by
 suffices h : ∀ m : List Int, 0 ≤ leastS m.reverse ∧ leastS m.reverse < 1073741789 by simpa using h l.reverse
 intro m
 induction m with
 | nil => decide
 | cons x m ih =>
  rw [List.reverse_cons, leastS_snoc]
  exact ⟨Int.emod_nonneg _ (by decide), Int.emod_lt_of_pos _ (by decide)⟩

theorem take_snoc {α : Type} (l : List α) (k : Nat) (h : k < l.length) : l.take (k + 1) = l.take k ++ [l[k]] := by
 rw [List.take_succ_eq_append_getElem h]

theorem least_ok (l : List Int) (b o cap : Nat) (w : World) (hr : Row w b o (ints l)) (hl : l.length < 9223372036854775807) :
  Rets Tryz.prog 87 [.slice (some ⟨b, o, none⟩) l.length cap] w fun v w' => v = .int .i64 (leastS l) ∧ w = w' := by
 refine RetsX.of (nt := 20) Tryz.func87 (by kernel_rfl) rfl rfl (by simp) (by simp only [argEnv]; rfl) ?_
 repeat (first | refine RunL.pureI Tryz.tOk rfl rfl rfl (by (rfl)) ?_ | refine RunL.pure Tryz.tOk rfl rfl rfl ?_ | refine ZzQ ?_ | refine ZzR ?_ | refine ZzN ?_ | refine ZzB ?_)
 refine RunE.loop (ι := Nat) (fun j => [(3, .int .i64 (leastS (l.take j))), (6, .slice (some ⟨b, o, none⟩) l.length cap), (7, .int .i64 l.length), (8, .int .i64 (j : Int))])
  (fun j w' => w' = w ∧ j ≤ l.length) (fun j => l.length - j) 0 (by repeat (first | exact Sub.nil _ | refine Sub.cons rfl ?_)) ⟨rfl, by omega⟩ ?_
 rintro j w' ⟨rfl, hj⟩ IH
 repeat (first | refine RunL.pure Tryz.tOk rfl rfl rfl ?_ | refine ZzQ ?_ | refine ZzR ?_ | refine ZzN ?_)
 refine RunE.cond rfl (fun h => ?_) (fun h => ?_) <;> (first | replace h := of_decide_eq_true h | replace h := of_decide_eq_false h)
 ·have hj' : j < l.length := by omega
  have h1 := leastS_bd (l.take j)
  have h2 := tmodQ l[j]
  have h3 := mulQ_bd h1.1 h1.2 (by omega : 0 ≤ l[j].tmod 1073741789 + 1073741789) (by omega)
  have hsn := leastS_snoc (l.take j) l[j]
  rw [← take_snoc l j hj'] at hsn
  repeat (first | refine ZzQ ?_ | refine ZzR ?_ | refine ZzB ?_ | refine ZzK ?_)
  refine RunL.indexAddr1 Tryz.tOk j rfl rfl rfl rfl rfl rfl hj' ?_
  refine RunL.load rfl rfl rfl (Loads.scalar Tryz.tOk rfl rfl (hr j _ (ints_get hj'))) ?_
  repeat (first | refine RunL.pureI Tryz.tOk rfl rfl rfl (by (first | exact wr_i64 (by omega) (by omega) | exact wm_i64 (by omega) | rfl)) ?_ | refine ZzR ?_ | refine ZzN ?_ | refine ZzI ?_)
  refine RunE.weaken (.cons ?_ (by repeat (first | exact Sub.nil _ | refine Sub.cons rfl ?_))) (IH (j + 1) _ (by omega) ⟨rfl, by omega⟩)
  rw [hsn]; rfl
 ·repeat (first | refine RunL.pureI Tryz.tOk rfl rfl rfl (by (rfl)) ?_ | refine ZzQ ?_ | refine ZzR ?_ | refine ZzN ?_ | refine RunE.exit rfl ?_)
  refine RunE.retFn Tryz.func87 (.tmp rfl .nil) ⟨?_, rfl⟩
  simp only [oneOr]
  rw [List.take_of_length_le (by omega)]

theorem and1 {m : Int} (h : 0 ≤ m) (h' : m < 9223372036854775808) : IntKind.i64.wrap ((BitVec.ofInt IntKind.i64.bits m &&& BitVec.ofInt IntKind.i64.bits 1).toNat : Int) = m % 2 := by
 obtain ⟨k, rfl⟩ := Int.eq_ofNat_of_zero_le h
 have e : (BitVec.ofInt IntKind.i64.bits (k : Int) &&& BitVec.ofInt IntKind.i64.bits 1).toNat = k % 2 := by
  rw [BitVec.toNat_and]
  have h1 : (BitVec.ofInt IntKind.i64.bits (k : Int)).toNat = k := by
   simp only [IntKind.bits, BitVec.toNat_ofInt]; omega
  have h2 : (BitVec.ofInt IntKind.i64.bits 1).toNat = 1 := by decide
  rw [h1, h2, Nat.and_one_is_mod]
 rw [e, wr_i64 (by omega) (by omega)]
 omega
theorem shr1 {m : Int} : m.fdiv (2 ^ (min 1 IntKind.i64.bits)) = m / 2 := by
 have : (2 : Int) ^ (min 1 IntKind.i64.bits) = 2 := by decide
 rw [this, Int.fdiv_eq_ediv_of_nonneg _ (by decide)]

/-- The iterator of group.squares: it calls yield on (x, is m odd), while m is positive; then the square, and the half. -/
theorem squares1_ok (ba bn : Nat) (y : Value) (J : Int → Int → World → Prop) (hne : ba ≠ bn)
  (hstab : ∀ x m w w', J x m w → ExtB (fun k => k = ba ∨ k = bn) w w' → J x m w')
  (hy : ∀ x m w, J x m w → 0 ≤ x → x < 2147483579 → 0 < m → m < 9223372036854775808 → Blk w ba [.int .i64 x] 3 → Blk w bn [.int .i64 m] 3 →
   FnV Tryz.prog y [.int .i64 x, .bool (m % 2 == 1)] w (fun v w' => v = .bool true ∧ J (x * x % 2147483579) (m / 2) w' ∧ Blk w' ba [.int .i64 x] 3 ∧ Blk w' bn [.int .i64 m] 3) (fun _ _ => False))
  (a n : Int) (w : World) (ha : 0 ≤ a) (ha' : a < 2147483579) (hn : 0 ≤ n) (hn' : n < 9223372036854775808) (hA : Blk w ba [.int .i64 a] 3) (hN : Blk w bn [.int .i64 n] 3) (hJ : J a n w) :
  Rets Tryz.prog 114 [y, .pointer (some ⟨bn, 0, none⟩), .pointer (some ⟨ba, 0, none⟩)] w fun _ w' => ∃ x, J x 0 w' := by
 refine RetsX.of (nt := 19) Tryz.func114 (by kernel_rfl) rfl rfl (by simp) (by simp only [argEnv]; rfl) ?_
 repeat (first | refine ZzB ?_)
 refine RunE.loop (ι := Int × Int) (fun _ => [(0, y), (1, .pointer (some ⟨bn, 0, none⟩)), (2, .pointer (some ⟨ba, 0, none⟩))])
  (fun s w => 0 ≤ s.1 ∧ s.1 < 2147483579 ∧ 0 ≤ s.2 ∧ s.2 < 9223372036854775808 ∧ Blk w ba [.int .i64 s.1] 3 ∧ Blk w bn [.int .i64 s.2] 3 ∧ J s.1 s.2 w) (fun s => s.2.toNat) (a, n) (by repeat (first | exact Sub.nil _ | refine Sub.cons rfl ?_)) ⟨ha, ha', hn, hn', hA, hN, hJ⟩ ?_
 rintro ⟨x, m⟩ w ⟨hx, hx', hm, hm', hA, hN, hJ⟩ IH
 simp only at hx hx' hm hm' hA hN hJ
 repeat (first | refine ZzQ ?_ | refine ZzR ?_)
 refine RunL.load rfl rfl rfl (Loads.scalar Tryz.tOk rfl rfl (hN.cell rfl)) ?_
 repeat (first | refine RunL.pure Tryz.tOk rfl rfl rfl ?_ | refine ZzN ?_)
 refine RunE.cond rfl (fun h => ?_) (fun h => ?_) <;> (first | replace h := of_decide_eq_true h | replace h := of_decide_eq_false h)
 ·have hb := mulmod_bd hx hx' hx hx'
  repeat (first | refine RunL.pure Tryz.tOk rfl rfl rfl ?_ | refine ZzQ ?_ | refine ZzR ?_ | refine ZzB ?_ | refine ZzK ?_)
  refine RunL.load rfl rfl rfl (Loads.scalar Tryz.tOk rfl rfl (hA.cell rfl)) ?_
  refine RunL.load rfl rfl rfl (Loads.scalar Tryz.tOk rfl rfl (hN.cell rfl)) ?_
  refine RunL.pureI Tryz.tOk rfl rfl rfl (and1 hm hm') ?_
  repeat (first | refine RunL.pure Tryz.tOk rfl rfl rfl ?_)
  refine RunL.callV rfl rfl rfl rfl (hy x m w hJ hx hx' h hm' hA hN) (fun _ _ _ h => h.elim) ?_
  rintro v w1 ⟨rfl, hJ1, hA1, hN1⟩
  repeat (first | refine RunL.pure Tryz.tOk rfl rfl rfl ?_ | refine ZzN ?_)
  refine ZzF rfl rfl ?_
  repeat (first | refine ZzR ?_ | refine ZzK ?_)
  refine RunL.load rfl rfl rfl (Loads.scalar Tryz.tOk rfl rfl (hA1.cell rfl)) ?_
  refine RunL.load rfl rfl rfl (Loads.scalar Tryz.tOk rfl rfl (hA1.cell rfl)) ?_
  repeat (first | refine RunL.pureI Tryz.tOk rfl rfl rfl (by (first | exact wr_i64 (by omega) (by omega) | exact wm_i64 (by omega) | rfl)) ?_)
  refine RunL.store Tryz.tOk rfl rfl rfl rfl rfl hA1 rfl rfl ?_
  intro w2 hT
  have hA2 : Blk w2 ba [.int .i64 (x * x % 2147483579)] 3 := hT.at_
  have hN2 := hN1.ext hT.ext (fun e => hne e.symm)
  have hJ2 := hstab _ _ _ _ hJ1 (hT.ext.mono fun k _ e => .inl e)
  repeat (first | refine ZzR ?_ | refine ZzN ?_ | refine ZzI ?_)
  refine RunL.load rfl rfl rfl (Loads.scalar Tryz.tOk rfl rfl (hN2.cell rfl)) ?_
  refine RunL.pureI Tryz.tOk rfl rfl rfl shr1 ?_
  refine RunL.store Tryz.tOk rfl rfl rfl rfl rfl hN2 rfl rfl ?_
  intro w3 hT3
  have hA3 := hA2.ext hT3.ext hne
  have hN3 : Blk w3 bn [.int .i64 (m / 2)] 3 := hT3.at_
  have hJ3 := hstab _ _ _ _ hJ2 (hT3.ext.mono fun k _ e => .inr e)
  repeat (first | refine ZzN ?_)
  exact RunE.weaken (by repeat (first | exact Sub.nil _ | refine Sub.cons rfl ?_)) (IH (x * x % 2147483579, m / 2) _ (by simp only; omega) ⟨by simp only; omega, by simp only; omega, by simp only; omega, by simp only; omega, hA3, hN3, hJ3⟩)
 ·repeat (first | refine RunE.exit rfl ?_)
  refine RunE.fallFn Tryz.func114 .nil ⟨x, ?_⟩
  obtain rfl : m = 0 := by omega
  exact hJ

theorem squares_ok (a n : Int) (w : World) : Rets Tryz.prog 86 [.int .i64 a, .int .i64 n] w fun v w' =>
  v = .func (.func 114) #[] #[.pointer (some ⟨w.heap.size + 1, 0, none⟩), .pointer (some ⟨w.heap.size, 0, none⟩)] ∧ Blk w' w.heap.size [.int .i64 a] 3 ∧ Blk w' (w.heap.size + 1) [.int .i64 n] 3 ∧ Ext w w' ∧ w'.heap.size = w.heap.size + 2 := by
 refine RetsX.of (nt := 6) Tryz.func86 (by kernel_rfl) rfl rfl (by simp) (by simp only [argEnv]; rfl) ?_
 repeat (first | refine ZzQ ?_ | refine ZzR ?_)
 refine RunL.box rfl rfl rfl fun B w1 h1 => ?_
 refine RunL.box rfl rfl rfl fun B2 w2 h2 => ?_
 repeat (first | refine RunL.pure Tryz.tOk rfl rfl rfl ?_ | refine ZzQ ?_ | refine ZzR ?_ | refine ZzN ?_)
 refine RunE.retFn Tryz.func86 (.tmp rfl .nil) ?_
 have e1 := h1.eq
 have e2 := h2.eq
 have s1 := h1.size
 have s2 := h2.size
 obtain rfl : B = w.heap.size := e1
 obtain rfl : B2 = w.heap.size + 1 := by omega
 refine ⟨rfl, ?_, ?_, h1.ext.trans h2.ext, by omega⟩
 ·exact Blk.ext (show Blk w1 _ [.int .i64 a] 3 from h1.at_) h2.ext id
 ·exact h2.at_

theorem least1 (n : Int) : leastS [n] = n % 1073741789 := by
 simp only [leastS, List.foldl]
 rcases tmod_cases n 1073741789 (by decide) with ⟨h1, h2, h3⟩ | ⟨h1, h2, h3⟩ <;> omega


end Go.Sg
end
section
/- The walk of group.Valid. -/
set_option maxRecDepth 4000
namespace Go.Sg
open Go.Rn Go.NT Go.Proofs
theorem coprime_mod {x n : Nat} (h : Nat.Coprime x n) : Nat.Coprime (n % x) x := by
 have : Nat.gcd (n % x) x = 1 := by rw [← Nat.gcd_rec]; exact h
 exact this

/-- What stays the same while group.Valid reduces: the sign of the symbol. -/
def VInv (x0 : Nat) (s : Nat × Nat × Bool) : Prop :=
 1 ≤ s.1 ∧ s.1 < 2147483579 ∧ s.2.1 ≤ 2147483579 ∧ 1 ≤ s.2.1 ∧ s.2.1 % 2 = 1 ∧ Nat.Coprime s.1 s.2.1 ∧ G x0 2147483579 % 2 = (G s.1 s.2.1 + if s.2.2 then 0 else 1) % 2

theorem VInv.half {x0 x n : Nat} {sq : Bool} (h : VInv x0 (x, n, sq)) (hx : x % 2 = 0) : VInv x0 (x / 2, n, if n % 8 = 3 ∨ n % 8 = 5 then !sq else sq) := by
 obtain ⟨h1, h2, h3, h4, h5, h6, h7⟩ := h
 simp only at h1 h2 h3 h4 h5 h6 h7
 have hc : Nat.Coprime (x / 2) n := Nat.Coprime.coprime_dvd_left ⟨2, by omega⟩ h6
 have h2c : Nat.Coprime 2 n := Nat.Coprime.coprime_dvd_left ⟨x / 2, by omega⟩ h6
 refine ⟨by simp only; omega, by simp only; omega, h3, h4, h5, hc, ?_⟩
 have e : x = 2 * (x / 2) := by omega
 rw [h7]
 conv => lhs; rw [e]
 have hm := G_mul h5 h2c hc
 have ht := G_two h5
 simp only
 by_cases h8 : n % 8 = 3 ∨ n % 8 = 5
 ·rw [if_pos h8] at ht ⊢
  cases sq <;> simp <;> omega
 ·rw [if_neg h8] at ht ⊢
  cases sq <;> simp <;> omega

theorem VInv.swap {x0 x n : Nat} {sq : Bool} (h : VInv x0 (x, n, sq)) (hx : x % 2 = 1) (h1x : x ≠ 1) : VInv x0 (n % x, x, if x % 4 = 3 ∧ n % 4 = 3 then !sq else sq) := by
 obtain ⟨h1, h2, h3, h4, h5, h6, h7⟩ := h
 simp only at h1 h2 h3 h4 h5 h6 h7
 have hc := coprime_mod h6
 have hp : n % x ≠ 0 := fun e => by rw [e] at hc; simp [Nat.Coprime] at hc; omega
 have hl := Nat.mod_lt n (by omega : x > 0)
 refine ⟨by simp only; omega, by simp only; omega, by simp only; omega, h1, hx, hc, ?_⟩
 have hs := G_swap h5 hx h6
 rw [h7]
 simp only
 rw [G_mod]
 by_cases h8 : x % 4 = 3 ∧ n % 4 = 3
 ·rw [if_pos h8] at hs ⊢
  cases sq <;> simp <;> omega
 ·rw [if_neg h8] at hs ⊢
  cases sq <;> simp <;> omega

theorem VInv.done {x0 n : Nat} {sq : Bool} (h1 : 1 ≤ x0) (h2 : x0 < 2147483579) (h : VInv x0 (1, n, sq)) : validS x0 = sq := by
 have h7 := h.2.2.2.2.2.2
 rw [validS_iff h1 h2, h7]
 simp only [G_one]
 cases sq <;> simp

theorem VInv.start {x0 : Nat} (h1 : 1 ≤ x0) (h2 : x0 < 2147483579) : VInv x0 (x0, 2147483579, true) := by
 unfold VInv
 simp only
 have hg : ∀ g : Nat, g % 2 = (g + if true = true then 0 else 1) % 2 := fun g => by simp
 refine ⟨h1, h2, Nat.le_refl _, by decide, by decide, coprime_of_prime primeP (fun hd => ?_), hg _⟩
 have := Nat.le_of_dvd (by omega) hd; omega

def vEnv (s : Nat × Nat × Bool) : Env := [(0, .int .i64 (s.1 : Int)), (3, .int .i64 (s.2.1 : Int)), (4, .bool s.2.2)]

theorem valid_ok (x : Int) (w : World) : Rets Tryz.prog 76 [.int .i64 x] w fun v w' => v = .bool (validS x) ∧ w = w' := by
 refine RetsX.of (nt := 45) Tryz.func76 (by kernel_rfl) rfl rfl (by simp) (by simp only [argEnv]; rfl) ?_
 repeat (first | refine RunL.pureI Tryz.tOk rfl rfl rfl (by (rfl)) ?_ | refine RunL.pure Tryz.tOk rfl rfl rfl ?_ | refine ZzQ ?_ | refine ZzR ?_ | refine ZzN ?_ | refine RunE.scope ?_)
 cases hx1 : decide (x < 1) with
 | true =>
  have hx : x < 1 := of_decide_eq_true hx1
  repeat (first | refine RunL.pure Tryz.tOk rfl rfl rfl ?_ | refine RunL.unwantedD rfl rfl ?_ | refine ZzN ?_)
  refine ZzT rfl rfl ?_
  repeat (first | refine RunL.pure Tryz.tOk rfl rfl rfl ?_ | refine ZzQ ?_ | refine ZzR ?_ | refine ZzN ?_)
  refine RunE.retFn Tryz.func76 (.tmp rfl .nil) ⟨?_, rfl⟩
  simp only [oneOr, validS]
  congr 1
  exact (decide_eq_false (by omega)).symm
 | false =>
  have hx : ¬ x < 1 := of_decide_eq_false hx1
  repeat (first | refine RunL.pureI Tryz.tOk rfl rfl rfl (by (rfl)) ?_ | refine RunL.pure Tryz.tOk rfl rfl rfl ?_ | refine ZzN ?_)
  refine RunE.cond rfl (fun hx2 => ?_) (fun hx2 => ?_) <;> (first | replace hx2 := of_decide_eq_true hx2 | replace hx2 := of_decide_eq_false hx2)
  ·repeat (first | refine RunL.pure Tryz.tOk rfl rfl rfl ?_ | refine ZzQ ?_ | refine ZzR ?_ | refine ZzN ?_)
   refine RunE.retFn Tryz.func76 (.tmp rfl .nil) ⟨?_, rfl⟩
   simp only [oneOr, validS]
   congr 1
   exact (decide_eq_false (by omega)).symm
  ·obtain ⟨x0, rfl⟩ := Int.eq_ofNat_of_zero_le (by omega : 0 ≤ x)
   have h1 : 1 ≤ x0 := by omega
   have h2 : x0 < 2147483579 := by omega
   repeat (first | refine RunL.pureI Tryz.tOk rfl rfl rfl (by (rfl)) ?_ | refine RunL.pure Tryz.tOk rfl rfl rfl ?_ | refine ZzQ ?_ | refine ZzR ?_ | refine ZzN ?_ | refine ZzB ?_ | refine ZzK ?_ | refine RunE.label ?_)
   have hv0 := VInv.start h1 h2
   refine RunE.loop (ι := Nat × Nat × Bool) vEnv (fun s w' => w = w' ∧ VInv x0 s) (fun s => s.1) (x0, 2147483579, true) (by unfold vEnv; exact (by repeat (first | exact Sub.nil _ | refine Sub.cons rfl ?_))) ⟨rfl, hv0⟩ ?_
   rintro ⟨y, n, sq⟩ _ ⟨rfl, hv⟩ IH
   have hv' := hv
   obtain ⟨b1, b2, b3, b4, b5, b6, _⟩ := hv'
   simp only at b1 b2 b3 b4 b5 b6
   unfold vEnv
   dsimp only
   repeat (first | refine RunL.pureI Tryz.tOk rfl rfl rfl (by (rfl)) ?_ | refine RunL.pure Tryz.tOk rfl rfl rfl ?_ | refine ZzQ ?_ | refine ZzR ?_ | refine ZzN ?_)
   refine RunE.cond rfl (fun hy1 => ?_) (fun hy1 => ?_) <;> (first | replace hy1 := of_decide_eq_true hy1 | replace hy1 := of_decide_eq_false hy1)
   ·repeat (first | refine ZzQ ?_ | refine ZzB ?_ | refine ZzK ?_)
    have hy : 1 < y := by omega
    refine RunE.loop (ι := Nat × Bool) (fun s => vEnv (s.1, n, s.2)) (fun s w' => w = w' ∧ VInv x0 (s.1, n, s.2) ∧ s.1 ≤ y) (fun s => s.1) (y, sq) (by unfold vEnv; exact (by repeat (first | exact Sub.nil _ | refine Sub.cons rfl ?_))) ⟨rfl, hv, Nat.le_refl _⟩ ?_
    rintro ⟨z, sq2⟩ _ ⟨rfl, hz, hzy⟩ IH2
    have hz' := hz
    obtain ⟨c1, c2, c3, c4, c5, c6, _⟩ := hz'
    simp only at c1 c2 c3 c4 c5 c6 hzy
    unfold vEnv
    dsimp only
    repeat (first | refine RunL.pureI Tryz.tOk rfl rfl rfl (by (first | exact wm_i64 (by omega) | rfl)) ?_ | refine RunL.pure Tryz.tOk rfl rfl rfl ?_ | refine ZzQ ?_ | refine ZzR ?_ | refine ZzN ?_)
    refine RunE.cond rfl (fun hev => ?_) (fun hev => ?_) <;> (first | replace hev := of_decide_eq_true hev | replace hev := of_decide_eq_false hev)
    ·have hz2 := hz.half (by omega)
     repeat (first | refine RunL.pureI Tryz.tOk rfl rfl rfl (by (first | exact wm_i64 (by omega) | exact wq_i64 (by omega) (by omega) (by omega) | rfl)) ?_ | refine RunL.pure Tryz.tOk rfl rfl rfl ?_ | refine ZzQ ?_ | refine ZzR ?_ | refine ZzN ?_ | refine ZzB ?_ | refine ZzK ?_)
     have fin : ∀ (b : Bool), b = decide (n % 8 = 3 ∨ n % 8 = 5) → VInv x0 (z / 2, n, if b then !sq2 else sq2) := fun b hb => by
      subst hb; simpa using hz2
     have done : ∀ b : Bool, VInv x0 (z / 2, n, b) → RunE Tryz.prog ⟨76, .normal, none⟩ 45 [] _ _ (vEnv (z / 2, n, b)) w := fun b hb => IH2 (z / 2, b) _ (by simp only; omega) ⟨rfl, hb, by simp only; omega⟩
     cases h3 : ((n : Int) % 8 == 3) with
     | true =>
      have h3' : n % 8 = 3 := by have := beq_iff_eq.1 h3; omega
      repeat (first | refine RunL.pure Tryz.tOk rfl rfl rfl ?_ | refine RunL.unwantedD rfl rfl ?_ | refine ZzN ?_)
      refine ZzT rfl rfl ?_
      repeat (first | refine RunL.pure Tryz.tOk rfl rfl rfl ?_ | refine ZzR ?_ | refine ZzN ?_ | refine ZzI ?_)
      refine RunE.weaken ?_ (done _ (fin true (by simp [h3'])))
      unfold vEnv; exact (by repeat (first | exact Sub.nil _ | refine Sub.cons rfl ?_))
     | false =>
      have h3' : n % 8 ≠ 3 := by have := beq_eq_false_iff_ne.1 h3; omega
      repeat (first | refine RunL.pureI Tryz.tOk rfl rfl rfl (by (first | exact wm_i64 (by omega) | rfl)) ?_ | refine RunL.pure Tryz.tOk rfl rfl rfl ?_ | refine ZzN ?_)
      refine RunE.cond rfl (fun h5 => ?_) (fun h5 => ?_) <;> (first | replace h5 := of_decide_eq_true h5 | replace h5 := of_decide_eq_false h5)
      ·repeat (first | refine RunL.pure Tryz.tOk rfl rfl rfl ?_ | refine ZzR ?_ | refine ZzN ?_ | refine ZzI ?_)
       refine RunE.weaken ?_ (done _ (fin true (by simp; omega)))
       unfold vEnv; exact (by repeat (first | exact Sub.nil _ | refine Sub.cons rfl ?_))
      ·repeat (first | refine ZzI ?_ | refine ZzK ?_)
       refine RunE.weaken ?_ (done _ (fin false (by simp; omega)))
       unfold vEnv; exact (by repeat (first | exact Sub.nil _ | refine Sub.cons rfl ?_))
    ·repeat (first | refine RunL.pureI Tryz.tOk rfl rfl rfl (by (rfl)) ?_ | refine RunL.pure Tryz.tOk rfl rfl rfl ?_ | refine ZzQ ?_ | refine ZzR ?_ | refine ZzN ?_ | refine RunE.exit rfl ?_)
     refine RunE.cond rfl (fun hz1 => ?_) (fun hz1 => ?_) <;> (first | replace hz1 := of_decide_eq_true hz1 | replace hz1 := of_decide_eq_false hz1)
     ·repeat (first | refine RunL.pure Tryz.tOk rfl rfl rfl ?_ | refine ZzQ ?_ | refine ZzR ?_ | refine ZzN ?_ | refine RunE.exit rfl ?_)
      refine RunE.retFn Tryz.func76 (.tmp rfl .nil) ⟨?_, rfl⟩
      have : z = 1 := by omega
      subst this
      simp only [oneOr]
      rw [hz.done h1 h2]
     ·have hz3 := hz.swap (by omega) (by omega)
      repeat (first | refine RunL.pureI Tryz.tOk rfl rfl rfl (by (first | exact wm_i64 (by omega) | rfl)) ?_ | refine RunL.pure Tryz.tOk rfl rfl rfl ?_ | refine ZzQ ?_ | refine ZzR ?_ | refine ZzK ?_)
      have done : ∀ b : Bool, VInv x0 (n % z, z, b) → RunE Tryz.prog ⟨76, .normal, none⟩ 45 [] _ _ (vEnv (n % z, z, b)) w := fun b hb => IH (n % z, z, b) _ (by simp only; have := Nat.mod_lt n (by omega : z > 0); omega) ⟨rfl, hb⟩
      have hrem : (n : Int).tmod (z : Int) = ((n % z : Nat) : Int) := by rw [Int.tmod_eq_emod_of_nonneg (by omega)]; omega
      cases h3 : ((z : Int) % 4 == 3) with
      | false =>
       have h3' : z % 4 ≠ 3 := by have := beq_eq_false_iff_ne.1 h3; omega
       rw [if_neg (by omega)] at hz3
       repeat (first | refine RunL.pure Tryz.tOk rfl rfl rfl ?_ | refine RunL.unwantedD rfl rfl ?_ | refine ZzN ?_)
       refine ZzF rfl rfl ?_
       repeat (first | refine RunL.pureI Tryz.tOk rfl rfl rfl (by (rfl)) ?_ | refine ZzR ?_ | refine ZzK ?_)
       refine RunL.rem rfl rfl rfl rfl (by omega) hrem ?_
       repeat (first | refine RunL.pureI Tryz.tOk rfl rfl rfl (by (rfl)) ?_ | refine ZzN ?_ | refine ZzI ?_)
       refine RunE.weaken ?_ (done _ hz3)
       unfold vEnv; exact (by repeat (first | exact Sub.nil _ | refine Sub.cons rfl ?_))
      | true =>
       have h3' : z % 4 = 3 := by have := beq_iff_eq.1 h3; omega
       repeat (first | refine RunL.pureI Tryz.tOk rfl rfl rfl (by (first | exact wm_i64 (by omega) | rfl)) ?_ | refine RunL.pure Tryz.tOk rfl rfl rfl ?_ | refine ZzN ?_)
       refine RunE.cond rfl (fun h4 => ?_) (fun h4 => ?_) <;> (first | replace h4 := of_decide_eq_true h4 | replace h4 := of_decide_eq_false h4)
       ·rw [if_pos (by omega)] at hz3
        repeat (first | refine RunL.pureI Tryz.tOk rfl rfl rfl (by (rfl)) ?_ | refine RunL.pure Tryz.tOk rfl rfl rfl ?_ | refine ZzR ?_ | refine ZzN ?_)
        refine RunL.rem rfl rfl rfl rfl (by omega) hrem ?_
        repeat (first | refine RunL.pureI Tryz.tOk rfl rfl rfl (by (rfl)) ?_ | refine ZzN ?_ | refine ZzI ?_)
        refine RunE.weaken ?_ (done _ hz3)
        unfold vEnv; exact (by repeat (first | exact Sub.nil _ | refine Sub.cons rfl ?_))
       ·rw [if_neg (by omega)] at hz3
        repeat (first | refine RunL.pureI Tryz.tOk rfl rfl rfl (by (rfl)) ?_ | refine ZzR ?_ | refine ZzK ?_)
        refine RunL.rem rfl rfl rfl rfl (by omega) hrem ?_
        repeat (first | refine RunL.pureI Tryz.tOk rfl rfl rfl (by (rfl)) ?_ | refine ZzN ?_ | refine ZzI ?_)
        refine RunE.weaken ?_ (done _ hz3)
        unfold vEnv; exact (by repeat (first | exact Sub.nil _ | refine Sub.cons rfl ?_))
   ·repeat (first | refine RunL.pure Tryz.tOk rfl rfl rfl ?_ | refine ZzQ ?_ | refine ZzR ?_ | refine ZzN ?_ | refine RunE.exit rfl ?_)
    refine RunE.retFn Tryz.func76 (.tmp rfl .nil) ⟨?_, rfl⟩
    have : y = 1 := by omega
    subst this
    simp only [oneOr]
    rw [hv.done h1 h2]

end Go.Sg
end
section
/- The walks of package group: Mul; what Element and Number are. -/
set_option maxRecDepth 4000
namespace Go.Sg
open Go.Rn Go.NT Go.Proofs

def grpE (b : Bool) : Int := if b then 0 else 100
def mulC (a b : Int) : Int := if validS a && validS b then a * b % 2147483579 else 0

theorem mul_ok (a b : Int) (w : World) : Rets Tryz.prog 104 [.int .i64 a, .int .i64 b] w fun v w' => v = .tuple #[.int .i64 (mulC a b), .int .i64 (grpE (validS a && validS b))] ∧ w = w' := by
 refine RetsX.of (nt := 18) Tryz.func104 (by kernel_rfl) rfl rfl (by simp) (by simp only [argEnv]; rfl) ?_
 repeat (first | refine RunL.pureI Tryz.tOk rfl rfl rfl (by (rfl)) ?_ | refine ZzQ ?_ | refine ZzR ?_ | refine ZzN ?_)
 refine RunL.call rfl rfl rfl (valid_ok _ _) ?_
 rintro _ _ ⟨rfl, rfl⟩
 cases ha : validS a with
 | false =>
  repeat (first | refine RunL.pure Tryz.tOk rfl rfl rfl ?_ | refine RunL.unwantedD rfl rfl ?_ | refine ZzN ?_)
  refine ZzT rfl rfl ?_
  repeat (first | refine RunL.pureI Tryz.tOk rfl rfl rfl (by (rfl)) ?_ | refine ZzQ ?_ | refine ZzR ?_ | refine ZzN ?_)
  exact RunE.retFn Tryz.func104 (.tmp rfl (.tmp rfl .nil)) ⟨by simp [oneOr, mulC, ha, grpE], rfl⟩
 | true =>
  repeat (first | refine RunL.pureI Tryz.tOk rfl rfl rfl (by (rfl)) ?_ | refine RunL.pure Tryz.tOk rfl rfl rfl ?_)
  refine RunL.call rfl rfl rfl (valid_ok _ _) ?_
  rintro _ _ ⟨rfl, rfl⟩
  cases hb : validS b with
  | false =>
   repeat (first | refine RunL.pure Tryz.tOk rfl rfl rfl ?_ | refine ZzN ?_)
   refine ZzT rfl rfl ?_
   repeat (first | refine RunL.pureI Tryz.tOk rfl rfl rfl (by (rfl)) ?_ | refine ZzQ ?_ | refine ZzR ?_ | refine ZzN ?_)
   exact RunE.retFn Tryz.func104 (.tmp rfl (.tmp rfl .nil)) ⟨by simp [oneOr, mulC, ha, hb, grpE], rfl⟩
  | true =>
   have h1 := validS_inv ha
   have h2 := validS_inv hb
   have hm := mulmod_bd (by omega : 0 ≤ a) h1.2.1 (by omega : 0 ≤ b) h2.2.1
   clear h1 h2
   repeat (first | refine RunL.pure Tryz.tOk rfl rfl rfl ?_ | refine ZzN ?_)
   refine ZzF rfl rfl ?_
   repeat (first | refine RunL.pureI Tryz.tOk rfl rfl rfl (by (first | exact wr_i64 (by omega) (by omega) | exact wm_i64 (by omega) | rfl)) ?_ | refine ZzQ ?_ | refine ZzR ?_ | refine ZzN ?_ | refine ZzK ?_)
   exact RunE.retFn Tryz.func104 (.tmp rfl (.tmp rfl .nil)) ⟨by simp [oneOr, mulC, ha, hb, grpE], rfl⟩

end Go.Sg
end
section
/- The walks of package group, the rest. -/
set_option maxRecDepth 4000
namespace Go.Sg
open Go.Rn Go.NT Go.Proofs
def powC (a n : Int) : Int := if validS a then a ^ (n % 1073741789).toNat % 2147483579 else 0

theorem sq_pow (x : Int) (m : Nat) : (x * x % 2147483579) ^ m % 2147483579 = (x * x) ^ m % 2147483579 := pow_mod _ _ _
theorem pow_step1 (c x : Int) (m : Nat) (h : m % 2 = 1) : (c * x % 2147483579 * (x * x % 2147483579) ^ (m / 2)) % 2147483579 = c * x ^ m % 2147483579 := by
 have hn : m = 2 * (m / 2) + 1 := by omega
 have e : x ^ m = x * (x * x) ^ (m / 2) := by
  conv => lhs; rw [hn]
  rw [Int.pow_succ, Int.pow_mul, Int.mul_comm, show x ^ 2 = x * x by rw [Int.pow_succ, Int.pow_succ]; simp]
 rw [e, ← Int.mul_assoc]
 exact mul_mod_congr (by simp) (sq_pow x _)
theorem pow_step0 (c x : Int) (m : Nat) (h : m % 2 = 0) : (c * (x * x % 2147483579) ^ (m / 2)) % 2147483579 = c * x ^ m % 2147483579 := by
 have hn : m = 2 * (m / 2) := by omega
 have e : x ^ m = (x * x) ^ (m / 2) := by
  conv => lhs; rw [hn]
  rw [Int.pow_mul, show x ^ 2 = x * x by rw [Int.pow_succ, Int.pow_succ]; simp]
 rw [e]
 exact mul_mod_congr rfl (sq_pow x _)

set_option maxRecDepth 4000 in
theorem pow_ok (a n : Int) (w : World) :
  Rets Tryz.prog 58 [.int .i64 a, .int .i64 n] w fun v w' => v = .tuple #[.int .i64 (powC a n), .int .i64 (grpE (validS a))] ∧ Ext w w' := by
 refine RetsX.of (nt := 24) Tryz.func58 (by kernel_rfl) rfl rfl (by simp) (by simp only [argEnv]; rfl) ?_
 repeat (first | refine ZzQ ?_ | refine ZzR ?_)
 refine RunL.alloc Tryz.tOk rfl rfl rfl fun B w1 h1 => ?_
 repeat (first | refine RunL.pureI Tryz.tOk rfl rfl rfl (by (rfl)) ?_ | refine ZzQ ?_ | refine ZzR ?_ | refine ZzN ?_)
 refine RunL.call rfl rfl rfl (valid_ok _ _) ?_
 rintro v _ ⟨rfl, rfl⟩
 repeat (first | refine RunL.pure Tryz.tOk rfl rfl rfl ?_ | refine ZzN ?_)
 have hB1 : Blk w1 B [.int .i64 0] 3 := h1.at_
 cases hva : validS a with
 | false =>
  refine ZzT rfl rfl ?_
  repeat (first | refine ZzQ ?_ | refine ZzR ?_)
  refine RunL.store Tryz.tOk rfl rfl rfl rfl rfl hB1 rfl rfl ?_
  intro w2 h2
  repeat (first | refine RunL.pureI Tryz.tOk rfl rfl rfl (by (rfl)) ?_ | refine ZzN ?_)
  have hB2 : Blk w2 B [.int .i64 0] 3 := h2.at_
  refine RunE.retFn Tryz.func58 (.cell rfl (Loads.scalar Tryz.tOk rfl rfl (hB2.cell rfl)) (.tmp rfl .nil)) ⟨?_, h1.ext.write h2.ext fun i e hi => by have := h1.eq; omega⟩
  simp [oneOr, powC, hva, grpE]
 | true =>
  have hva' := hva
  simp only [validS, decide_eq_true_eq] at hva'
  obtain ⟨ha0, ha1, _⟩ := hva'
  refine ZzF rfl rfl ?_
  repeat (first | refine ZzQ ?_ | refine ZzR ?_ | refine ZzK ?_)
  refine RunL.store Tryz.tOk rfl rfl rfl rfl rfl hB1 rfl rfl ?_
  intro w2 h2
  have hB2 : Blk w2 B [.int .i64 1] 3 := h2.at_
  have x2 : Ext w w2 := h1.ext.write h2.ext fun i e hi => by have := h1.eq; omega
  repeat (first | refine RunL.pureI Tryz.tOk rfl rfl rfl (by (rfl)) ?_ | refine ZzQ ?_ | refine ZzR ?_ | refine ZzN ?_)
  refine RunL.buildSlice Tryz.tOk rfl rfl rfl rfl rfl rfl rfl rfl fun B3 w3 h3 => ?_
  refine RunL.call rfl rfl rfl (least_ok [n] B3 0 1 w3 (Blk.row (show Blk w3 B3 [.int .i64 n] 3 from h3.at_)) (by simp)) ?_
  rintro v _ ⟨rfl, rfl⟩
  rw [least1]
  refine RunL.call rfl rfl rfl (squares_ok _ _ _) ?_
  rintro v w4 ⟨rfl, hA4, hN4, x4, s4⟩
  have hB4 := (hB2.ext h3.ext id).ext x4 id
  repeat (first | refine ZzN ?_ | refine ZzB ?_)
  have x4' : Ext w w4 := (x2.trans h3.ext).trans x4
  have eB := h1.eq
  have e3 := h3.eq
  have s3 := h3.size
  have s1 := h1.size
  have s2 := h2.size
  refine RunE.rangeFunc rfl rfl fun fa D L w5 w6 lp hst h5 h6 hlp => ?_
  have e5 := h5.eq
  have s5 := h5.size
  have e6 := h6.eq
  have hA6 := (hA4.ext h5.ext id).ext h6.ext id
  have hN6 := (hN4.ext h5.ext id).ext h6.ext id
  have hB6 := (hB4.ext h5.ext id).ext h6.ext id
  have hD6 : w6.heap[D]? = some (.deferred (some [])) := by rw [h6.ext.block D (by omega) id]; exact h5.at_
  have x6 := (x4'.trans h5.ext).trans h6.ext
  have hq := Int.emod_nonneg n (by decide : (1073741789 : Int) ≠ 0)
  have hq' := Int.emod_lt_of_pos n (by decide : (0 : Int) < 1073741789)
  have H := squares1_ok w3.heap.size (w3.heap.size + 1) (yieldV L)
   (fun x m w' => ∃ cv, Blk w' B [.int .i64 cv] 3 ∧ 0 ≤ cv ∧ cv < 2147483579 ∧ cv * x ^ m.toNat % 2147483579 = a ^ (n % 1073741789).toNat % 2147483579 ∧
    w'.heap[L]? = some (.loop lp) ∧ w'.heap[D]? = some (.deferred (some [])) ∧ Ext w w') (by omega)
   (by
    rintro x m u u' ⟨cv, hb, h0, h1', he, hl, hd, hx⟩ hext
    exact ⟨cv, hb.ext hext (by omega), h0, h1', he, by rw [hext.block L (lt_of_get hl) (by omega)]; exact hl, by rw [hext.block D (lt_of_get hd) (by omega)]; exact hd, hx.write hext fun i e hi => by omega⟩)
   (by
    rintro x m u ⟨cv, hb, h0, h1', he, hl, hd, hx⟩ hx0 hx1 hm hm1 hA hN
    refine Yield.run hl ⟨_, Tryz.func58⟩ hst hlp rfl rfl rfl ?_
    repeat (first | refine RunL.pureI Tryz.tOk rfl rfl rfl (by (first | exact wq_i64 (by omega) (by omega) (by omega) | rfl)) ?_ | refine RunL.pure Tryz.tOk rfl rfl rfl ?_ | refine ZzQ ?_ | refine ZzR ?_ | refine ZzN ?_)
    refine RunE.beginRound hl hlp.state fun u1 t1 => ?_
    have hb1 := hb.ext t1.ext (by omega)
    have hA1 := hA.ext t1.ext (by omega)
    have hN1 := hN.ext t1.ext (by omega)
    have hd1 : u1.heap[D]? = some (.deferred (some [])) := by rw [t1.ext.block D (lt_of_get hd) (by omega)]; exact hd
    have hx1' := hx.write t1.ext fun i e hi => by omega
    repeat (first | refine RunL.pure Tryz.tOk rfl rfl rfl ?_ | refine ZzQ ?_ | refine ZzR ?_ | refine ZzN ?_ | refine ZzB ?_)
    refine RunE.cond rfl (fun hodd => ?_) (fun hodd => ?_)
    ·have hmb := mulmod_bd h0 h1' hx0 hx1
     repeat (first | refine ZzR ?_)
     refine RunL.load rfl rfl rfl (Loads.scalar Tryz.tOk rfl rfl (hb1.cell rfl)) ?_
     repeat (first | refine RunL.pureI Tryz.tOk rfl rfl rfl (by (first | exact wr_i64 (by omega) (by omega) | exact wm_i64 (by omega) | exact wq_i64 (by omega) (by omega) (by omega) | rfl)) ?_)
     refine RunL.store Tryz.tOk rfl rfl rfl rfl rfl hb1 rfl rfl ?_
     intro u2 t2
     repeat (first | refine ZzN ?_ | refine ZzI ?_)
     refine RunE.nil fun _ _ => ⟨_, by rw [t2.ext.block L (lt_of_get t1.at_) (by omega)]; exact t1.at_, fun u3 t3 => ?_⟩
     rw [hlp.back] at t3
     have hA3 := (hA1.ext t2.ext (by omega)).ext t3.ext (by omega)
     have hN3 := (hN1.ext t2.ext (by omega)).ext t3.ext (by omega)
     have hb2 : Blk u2 B [.int .i64 (cv * x % 2147483579)] 3 := t2.at_
     refine ⟨rfl, ⟨cv * x % 2147483579, hb2.ext t3.ext (by omega), by omega, by omega, ?_, t3.at_, ?_, ?_⟩, hA3, hN3⟩
     ·rw [← he, show (m / 2).toNat = m.toNat / 2 by omega]
      exact pow_step1 _ _ _ (by simp at hodd; omega)
     ·rw [t3.ext.block D (by have := lt_of_get hd1; have := t2.size; omega) (by omega), t2.ext.block D (lt_of_get hd1) (by omega)]; exact hd1
     ·exact (hx1'.write t2.ext fun i e hi => by omega).write t3.ext fun i e hi => by omega
    ·repeat (first | refine ZzI ?_ | refine ZzK ?_)
     refine RunE.nil fun _ _ => ⟨_, t1.at_, fun u3 t3 => ?_⟩
     rw [hlp.back] at t3
     refine ⟨rfl, ⟨cv, hb1.ext t3.ext (by omega), h0, h1', ?_, t3.at_, ?_, ?_⟩, hA1.ext t3.ext (by omega), hN1.ext t3.ext (by omega)⟩
     ·rw [← he, show (m / 2).toNat = m.toNat / 2 by omega]
      exact pow_step0 _ _ _ (by simp at hodd; omega)
     ·rw [t3.ext.block D (lt_of_get hd1) (by omega)]; exact hd1
     ·exact hx1'.write t3.ext fun i e hi => by omega)
   a (n % 1073741789) w6 (by omega) (by omega) hq (by omega) hA6 hN6 ⟨1, hB6, by decide, by decide, by simp, h6.at_, hD6, x6⟩
  refine (RetsX.v (fi := []) (args := [yieldV L]) (ca := [.pointer (some ⟨w3.heap.size + 1, 0, none⟩), .pointer (some ⟨w3.heap.size, 0, none⟩)]) H).mono ?_ (fun _ _ h => h)
  rintro _ w7 ⟨x, cv, hb7, h0, h1', he, hl7, hd7, x7⟩
  refine ⟨lp, hl7, by rw [hlp.state]; rfl, fun w8 t8 => ?_⟩
  rw [hlp.pending]
  refine RunE.at_ hst ?_
  have hb8 := hb7.ext t8.ext (by omega)
  have hd8 : w8.heap[D]? = some (.deferred (some [])) := by rw [t8.ext.block D (lt_of_get hd7) (by omega)]; exact hd7
  have x8 : Ext w w8 := x7.write t8.ext fun i e hi => by omega
  simp only [Option.map_none, Option.toList_none, List.nil_append]
  repeat (first | refine ZzQ ?_ | refine ZzR ?_ | refine ZzI ?_)
  refine RunL.load rfl rfl rfl (Loads.scalar Tryz.tOk rfl rfl (hb8.cell rfl)) ?_
  refine RunL.store Tryz.tOk rfl rfl rfl rfl rfl hb8 rfl rfl ?_
  intro w9 t9
  have hb9 : Blk w9 B [.int .i64 cv] 3 := t9.at_
  have hd9 : w9.heap[D]? = some (.deferred (some [])) := by rw [t9.ext.block D (lt_of_get hd8) (by omega)]; exact hd8
  repeat (first | refine RunL.pureI Tryz.tOk rfl rfl rfl (by (first | exact wq_i64 (by omega) (by omega) (by omega) | rfl)) ?_ | refine ZzN ?_)
  refine RunE.retFn1 Tryz.func58 hd9 fun w10 t10 => ⟨_, .cell rfl (Loads.scalar Tryz.tOk rfl rfl ((hb9.ext t10.ext (by omega)).cell rfl)) (.tmp rfl .nil), ?_, ?_⟩
  ·simp only [oneOr, powC, hva, grpE, if_true]
   rw [← he]
   simp
   exact (Int.emod_eq_of_lt h0 h1').symm
  ·exact (x8.write t9.ext fun i e hi => by omega).write t10.ext fun i e hi => by omega
end Go.Sg
end
section
/- The walks of package signatoryref10. -/
set_option maxRecDepth 4000
namespace Go.Sg
open Go.Rn Go.NT Go.Proofs

theorem r10_exponent_ok (n : Int) (w : World) : Rets Tryz.prog 148 [.int .i64 n] w fun v w' => v = .int .i64 (n % 1073741789) ∧ w = w' := by
 have h1 := tmod_cases n 1073741789 (by decide)
 refine RetsX.of (nt := 10) Tryz.func148 (by kernel_rfl) rfl rfl (by simp) (by simp only [argEnv]; rfl) ?_
 repeat (first | refine RunL.pureI Tryz.tOk rfl rfl rfl (by (rfl)) ?_ | refine RunL.pure Tryz.tOk rfl rfl rfl ?_ | refine ZzQ ?_ | refine ZzR ?_ | refine ZzN ?_)
 refine RunE.cond rfl (fun h => ?_) (fun h => ?_) <;> (first | replace h := of_decide_eq_true h | replace h := of_decide_eq_false h)
 ·repeat (first | refine RunL.pureI Tryz.tOk rfl rfl rfl (by (first | exact wr_i64 (by omega) (by omega) | rfl)) ?_ | refine ZzQ ?_ | refine ZzR ?_ | refine ZzN ?_)
  refine RunE.retFn Tryz.func148 (.tmp rfl .nil) ⟨?_, rfl⟩
  simp only [oneOr]
  congr 1; omega
 ·repeat (first | refine RunL.pureI Tryz.tOk rfl rfl rfl (by (rfl)) ?_ | refine ZzQ ?_ | refine ZzR ?_ | refine ZzN ?_ | refine ZzK ?_)
  refine RunE.retFn Tryz.func148 (.tmp rfl .nil) ⟨?_, rfl⟩
  simp only [oneOr]
  congr 1; omega

theorem r10_power_ok (a n : Int) (w : World) (ha : 0 ≤ a) (ha' : a < 2147483579) (hn : 0 ≤ n) (hn' : n < 9223372036854775808) :
  Rets Tryz.prog 95 [.int .i64 a, .int .i64 n] w fun v w' => v = .int .i64 (a ^ n.toNat % 2147483579) ∧ w = w' := by
 refine RetsX.of (nt := 22) Tryz.func95 (by kernel_rfl) rfl rfl (by simp) (by simp only [argEnv]; rfl) ?_
 repeat (first | refine RunL.pureI Tryz.tOk rfl rfl rfl (by (rfl)) ?_ | refine ZzQ ?_ | refine ZzR ?_ | refine ZzN ?_ | refine ZzB ?_)
 refine RunE.loop (ι := Int × Int × Int) (fun x => [(0, .int .i64 x.2.1), (1, .int .i64 x.2.2), (5, .int .i64 x.1)])
  (fun x w' => w = w' ∧ 0 ≤ x.1 ∧ x.1 < 2147483579 ∧ 0 ≤ x.2.1 ∧ x.2.1 < 2147483579 ∧ 0 ≤ x.2.2 ∧ x.2.2 < 9223372036854775808 ∧ x.1 * x.2.1 ^ x.2.2.toNat % 2147483579 = a ^ n.toNat % 2147483579)
  (fun x => x.2.2.toNat) (1, a, n) (by repeat (first | exact Sub.nil _ | refine Sub.cons rfl ?_)) ⟨rfl, (by decide : (0 : Int) ≤ 1), (by decide : (1 : Int) < 2147483579), ha, ha', hn, hn', by simp⟩ ?_
 rintro ⟨c, a1, m⟩ _ ⟨rfl, hc, hc', hA, hA', hm, hm', hp⟩ IH
 dsimp only at hc hc' hA hA' hm hm' hp ⊢
 repeat (first | refine RunL.pureI Tryz.tOk rfl rfl rfl (by (rfl)) ?_ | refine RunL.pure Tryz.tOk rfl rfl rfl ?_ | refine ZzQ ?_ | refine ZzR ?_ | refine ZzN ?_)
 refine RunE.cond rfl (fun h => ?_) (fun h => ?_) <;> (first | replace h := of_decide_eq_true h | replace h := of_decide_eq_false h)
 ·have hb := mulmod_bd hc hc' hA hA'
  have hb2 := mulmod_bd hA hA' hA hA'
  repeat (first | refine RunL.pureI Tryz.tOk rfl rfl rfl (by (first | exact wm_i64 (by omega) | rfl)) ?_ | refine RunL.pure Tryz.tOk rfl rfl rfl ?_ | refine ZzQ ?_ | refine ZzR ?_ | refine ZzN ?_ | refine ZzB ?_ | refine ZzK ?_)
  refine RunE.cond rfl (fun h2 => ?_) (fun h2 => ?_) <;> (first | replace h2 := of_decide_eq_true h2 | replace h2 := of_decide_eq_false h2)
  ·repeat (first | refine RunL.pureI Tryz.tOk rfl rfl rfl (by (first | exact wr_i64 (by omega) (by omega) | exact wm_i64 (by omega) | exact wq_i64 (by omega) (by omega) (by omega) | rfl)) ?_ | refine ZzQ ?_ | refine ZzR ?_ | refine ZzN ?_ | refine ZzI ?_)
   refine RunE.weaken (by repeat (first | exact Sub.nil _ | refine Sub.cons rfl ?_)) (IH (c * a1 % 2147483579, a1 * a1 % 2147483579, m / 2) _ (by simp only; omega) ⟨rfl, by simp only; omega, by simp only; omega, by simp only; omega, by simp only; omega, by simp only; omega, by simp only; omega, ?_⟩)
   simp only
   rw [← hp, show (m / 2).toNat = m.toNat / 2 by omega]
   exact pow_step1 _ _ _ (by omega)
  ·repeat (first | refine RunL.pureI Tryz.tOk rfl rfl rfl (by (first | exact wr_i64 (by omega) (by omega) | exact wm_i64 (by omega) | exact wq_i64 (by omega) (by omega) (by omega) | rfl)) ?_ | refine ZzQ ?_ | refine ZzR ?_ | refine ZzN ?_ | refine ZzI ?_ | refine ZzK ?_)
   refine RunE.weaken (by repeat (first | exact Sub.nil _ | refine Sub.cons rfl ?_)) (IH (c, a1 * a1 % 2147483579, m / 2) _ (by simp only; omega) ⟨rfl, by simp only; omega, by simp only; omega, by simp only; omega, by simp only; omega, by simp only; omega, by simp only; omega, ?_⟩)
   simp only
   rw [← hp, show (m / 2).toNat = m.toNat / 2 by omega]
   exact pow_step0 _ _ _ (by omega)
 ·repeat (first | refine RunL.pureI Tryz.tOk rfl rfl rfl (by (rfl)) ?_ | refine ZzQ ?_ | refine ZzR ?_ | refine ZzN ?_ | refine RunE.exit rfl ?_)
  refine RunE.retFn Tryz.func95 (.tmp rfl .nil) ⟨?_, rfl⟩
  simp only [oneOr]
  congr 1
  obtain rfl : m = 0 := by omega
  rw [← hp]; simp; exact (Int.emod_eq_of_lt hc hc').symm

theorem r10_valid_ok (x : Int) (w : World) : Rets Tryz.prog 72 [.int .i64 x] w fun v w' => v = .bool (validS x) ∧ w = w' := by
 refine RetsX.of (nt := 14) Tryz.func72 (by kernel_rfl) rfl rfl (by simp) (by simp only [argEnv]; rfl) ?_
 repeat (first | refine RunL.pureI Tryz.tOk rfl rfl rfl (by (rfl)) ?_ | refine RunL.pure Tryz.tOk rfl rfl rfl ?_ | refine ZzQ ?_ | refine ZzR ?_ | refine ZzN ?_)
 cases h1 : decide (x ≥ 1) with
 | false =>
  have h1' := of_decide_eq_false h1
  repeat (first | refine RunL.pure Tryz.tOk rfl rfl rfl ?_ | refine RunL.unwantedD rfl rfl ?_ | refine ZzN ?_)
  refine RunE.retFn Tryz.func72 (.tmp rfl .nil) ⟨?_, rfl⟩
  simp only [oneOr, validS]
  congr 1; exact (decide_eq_false (by omega)).symm
 | true =>
  have h1' := of_decide_eq_true h1
  repeat (first | refine RunL.pureI Tryz.tOk rfl rfl rfl (by (rfl)) ?_ | refine RunL.pure Tryz.tOk rfl rfl rfl ?_)
  cases h2 : decide (x < 2147483579) with
  | false =>
   have h2' := of_decide_eq_false h2
   repeat (first | refine RunL.pure Tryz.tOk rfl rfl rfl ?_ | refine RunL.unwantedD rfl rfl ?_ | refine ZzN ?_)
   refine RunE.retFn Tryz.func72 (.tmp rfl .nil) ⟨?_, rfl⟩
   simp only [oneOr, validS]
   congr 1; exact (decide_eq_false (by omega)).symm
  | true =>
   have h2' := of_decide_eq_true h2
   repeat (first | refine RunL.pureI Tryz.tOk rfl rfl rfl (by (rfl)) ?_)
   refine RunL.call rfl rfl rfl (r10_power_ok x 1073741789 w (by omega) h2' (by decide) (by decide)) ?_
   rintro _ _ ⟨rfl, rfl⟩
   repeat (first | refine RunL.pure Tryz.tOk rfl rfl rfl ?_ | refine ZzN ?_)
   refine RunE.retFn Tryz.func72 (.tmp rfl .nil) ⟨?_, rfl⟩
   simp only [oneOr, validS]
   congr 1
   have e : (1073741789 : Int).toNat = 1073741789 := by decide
   rw [e]
   generalize x ^ 1073741789 % 2147483579 = y
   by_cases hy : y = 1
   ·subst hy; simp; omega
   ·simp [hy]

theorem r10_mul_ok (a b : Int) (w : World) : Rets Tryz.prog 130 [.int .i64 a, .int .i64 b] w fun v w' => v = .tuple #[.int .i64 (mulC a b), .int .i64 (grpE (validS a && validS b))] ∧ w = w' := by
 refine RetsX.of (nt := 18) Tryz.func130 (by kernel_rfl) rfl rfl (by simp) (by simp only [argEnv]; rfl) ?_
 repeat (first | refine RunL.pureI Tryz.tOk rfl rfl rfl (by (rfl)) ?_ | refine ZzQ ?_ | refine ZzR ?_ | refine ZzN ?_)
 refine RunL.call rfl rfl rfl (r10_valid_ok _ _) ?_
 rintro _ _ ⟨rfl, rfl⟩
 cases ha : validS a with
 | false =>
  repeat (first | refine RunL.pure Tryz.tOk rfl rfl rfl ?_ | refine RunL.unwantedD rfl rfl ?_ | refine ZzN ?_)
  refine ZzT rfl rfl ?_
  repeat (first | refine RunL.pureI Tryz.tOk rfl rfl rfl (by (rfl)) ?_ | refine ZzQ ?_ | refine ZzR ?_ | refine ZzN ?_)
  exact RunE.retFn Tryz.func130 (.tmp rfl (.tmp rfl .nil)) ⟨by simp [oneOr, mulC, ha, grpE], rfl⟩
 | true =>
  repeat (first | refine RunL.pureI Tryz.tOk rfl rfl rfl (by (rfl)) ?_ | refine RunL.pure Tryz.tOk rfl rfl rfl ?_)
  refine RunL.call rfl rfl rfl (r10_valid_ok _ _) ?_
  rintro _ _ ⟨rfl, rfl⟩
  cases hb : validS b with
  | false =>
   repeat (first | refine RunL.pure Tryz.tOk rfl rfl rfl ?_ | refine ZzN ?_)
   refine ZzT rfl rfl ?_
   repeat (first | refine RunL.pureI Tryz.tOk rfl rfl rfl (by (rfl)) ?_ | refine ZzQ ?_ | refine ZzR ?_ | refine ZzN ?_)
   exact RunE.retFn Tryz.func130 (.tmp rfl (.tmp rfl .nil)) ⟨by simp [oneOr, mulC, ha, hb, grpE], rfl⟩
  | true =>
   have h1 := validS_inv ha
   have h2 := validS_inv hb
   have hm := mulmod_bd (by omega : 0 ≤ a) h1.2.1 (by omega : 0 ≤ b) h2.2.1
   clear h1 h2
   repeat (first | refine RunL.pure Tryz.tOk rfl rfl rfl ?_ | refine ZzN ?_)
   refine ZzF rfl rfl ?_
   repeat (first | refine RunL.pureI Tryz.tOk rfl rfl rfl (by (first | exact wr_i64 (by omega) (by omega) | exact wm_i64 (by omega) | rfl)) ?_ | refine ZzQ ?_ | refine ZzR ?_ | refine ZzN ?_ | refine ZzK ?_)
   exact RunE.retFn Tryz.func130 (.tmp rfl (.tmp rfl .nil)) ⟨by simp [oneOr, mulC, ha, hb, grpE], rfl⟩

theorem r10_pow_ok (a n : Int) (w : World) : Rets Tryz.prog 129 [.int .i64 a, .int .i64 n] w fun v w' => v = .tuple #[.int .i64 (powC a n), .int .i64 (grpE (validS a))] ∧ w = w' := by
 have hq := Int.emod_nonneg n (by decide : (1073741789 : Int) ≠ 0)
 have hq' := Int.emod_lt_of_pos n (by decide : (0 : Int) < 1073741789)
 refine RetsX.of (nt := 13) Tryz.func129 (by kernel_rfl) rfl rfl (by simp) (by simp only [argEnv]; rfl) ?_
 repeat (first | refine RunL.pureI Tryz.tOk rfl rfl rfl (by (rfl)) ?_ | refine ZzQ ?_ | refine ZzR ?_ | refine ZzN ?_)
 refine RunL.call rfl rfl rfl (r10_valid_ok _ _) ?_
 rintro _ _ ⟨rfl, rfl⟩
 repeat (first | refine RunL.pure Tryz.tOk rfl rfl rfl ?_ | refine ZzN ?_)
 cases ha : validS a with
 | false =>
  refine ZzT rfl rfl ?_
  repeat (first | refine RunL.pureI Tryz.tOk rfl rfl rfl (by (rfl)) ?_ | refine ZzQ ?_ | refine ZzR ?_ | refine ZzN ?_)
  exact RunE.retFn Tryz.func129 (.tmp rfl (.tmp rfl .nil)) ⟨by simp [oneOr, powC, ha, grpE], rfl⟩
 | true =>
  have h1 := validS_inv ha
  refine ZzF rfl rfl ?_
  repeat (first | refine RunL.pureI Tryz.tOk rfl rfl rfl (by (rfl)) ?_ | refine ZzQ ?_ | refine ZzR ?_ | refine ZzK ?_)
  refine RunL.call rfl rfl rfl (r10_exponent_ok _ _) ?_
  rintro _ _ ⟨rfl, rfl⟩
  refine RunL.call rfl rfl rfl (r10_power_ok _ _ w (by omega) h1.2.1 hq (by omega)) ?_
  rintro _ _ ⟨rfl, rfl⟩
  repeat (first | refine RunL.pureI Tryz.tOk rfl rfl rfl (by (rfl)) ?_ | refine ZzN ?_)
  exact RunE.retFn Tryz.func129 (.tmp rfl (.tmp rfl .nil)) ⟨by simp [oneOr, powC, ha, grpE], rfl⟩
end Go.Sg
end
section
/- Facts of single numbers. -/
set_option maxRecDepth 4000
namespace Go.Sg
open Go.Rn Go.NT Go.Proofs

theorem v4 : validS 4 = true := by
 have h := valid_sq (x := 2) (by decide) (by decide)
 have e : (2 : Int) * 2 % 2147483579 = 4 := by decide
 exact (congrArg validS e).symm.trans h
theorem powC_bd (a n : Int) : 0 ≤ powC a n ∧ powC a n < 2147483579 := by
 have h : ∀ y : Int, 0 ≤ y % 2147483579 ∧ y % 2147483579 < 2147483579 := fun y => ⟨Int.emod_nonneg y (by decide), Int.emod_lt_of_pos y (by decide)⟩
 unfold powC
 cases validS a with
 | true => rw [if_pos rfl]; exact h _
 | false => rw [if_neg (by decide)]; exact ⟨by decide, by decide⟩
end Go.Sg
end
section
/- What the group's powers and products are. Plain mathematics over the numbers that the walks name. -/
set_option maxRecDepth 4000
namespace Go.Sg
open Go.Rn Go.NT Go.Proofs

theorem mulC_eq {a b : Int} (ha : validS a = true) (hb : validS b = true) : mulC a b = a * b % 2147483579 := by unfold mulC; rw [ha, hb]; rfl
theorem powC_eq {a : Int} (ha : validS a = true) (n : Int) : powC a n = a ^ (n % 1073741789).toNat % 2147483579 := by unfold powC; rw [ha, if_pos rfl]
theorem powC_valid {a : Int} (ha : validS a = true) (n : Int) : validS (powC a n) = true := by rw [powC_eq ha]; exact valid_pow ha _
theorem emod_twice (x : Int) : x % 2147483579 % 2147483579 = x % 2147483579 := Int.emod_emod_of_dvd _ (Int.dvd_refl _)
theorem powC_nat {a : Int} (ha : validS a = true) {n : Int} (m : Nat) (h : (m : Int) % 1073741789 = n % 1073741789) : powC a n = a ^ m % 2147483579 := by
 rw [powC_eq ha, ← h, ← pow_period ha m]
 congr 2
theorem expo (n : Int) : (((n % 1073741789).toNat : Nat) : Int) = n % 1073741789 := Int.toNat_of_nonneg (Int.emod_nonneg n (by decide))
theorem powC_add {a : Int} (ha : validS a = true) (i k : Int) : mulC (powC a i) (powC a k) = powC a (i + k) := by
 rw [mulC_eq (powC_valid ha i) (powC_valid ha k), powC_eq ha, powC_eq ha, powC_nat ha ((i % 1073741789).toNat + (k % 1073741789).toNat) (by rw [Int.natCast_add, expo, expo]; omega), Int.pow_add]
 exact mul_mod_congr (emod_twice _) (emod_twice _)
theorem powC_mul {a : Int} (ha : validS a = true) (i k : Int) : powC (powC a i) k = powC a (i * k) := by
 rw [powC_eq (powC_valid ha i), powC_eq ha, pow_mod, ← Int.pow_mul, powC_nat ha ((i % 1073741789).toNat * (k % 1073741789).toNat)]
 rw [Int.natCast_mul, expo, expo, ← Int.mul_emod]
end Go.Sg
end
section
/- sign: the list that is hashed. -/
set_option maxRecDepth 4000
namespace Go.Rn
open Go.RowKit Go.Lib
variable {P : Program} {w : World} {env : Env} {dst : Option Tmp} {ty : TypeId} {pos : String} {after : Array Edge} {guard : Option (Nat × Bool)}
theorem OpV.b2sSl {T : Tab} (hT : T.Ok P) {t t' e : TypeId} {ag : Bool} {s bb s' bb' s2 bb2 : Nat} {z z' z2 : List Value} {a u a' u' a2 u2 : Bool} {x : Operand} {v : Value} {l : List UInt8} {n : Nat}
  (ht : T.get t = some ⟨.slc 1 ag e, s, bb, z, a, u⟩) (ht' : T.get t' = some ⟨.str, s', bb', z', a', u'⟩) (he : T.get e = some ⟨.int .u8, s2, bb2, z2, a2, u2⟩)
  (hx : evO env x = some v) (hv : IsSl w 1 v n (bytesV l)) :
  OpV P env w ⟨dst, .convert t t' x, ty, pos, after, guard⟩ (.string (strOf l)) := by
 rcases hv.inv with ⟨d, rfl, rfl, he0⟩ | ⟨b, o, cap, rfl, hr, hl, -⟩
 ·have hl0 : l = [] := by cases l with | nil => rfl | cons => simp [bytesV] at he0
  subst hl0
  refine .of_run fun ρ hρ => ⟨_, by simp only [execOp, hρ _ _ hx]; rfl, ?_⟩
  obtain ⟨hu, -⟩ := TD.of_slc (TI.tdof (hT.get _ _ ht)).symm
  have hu' := TD.of_str (TI.tdof (hT.get _ _ ht')).symm
  have hue := TD.of_int (TI.tdof (hT.get _ _ he)).symm
  rw [run_convert_bytes_string w t t' e d 0 0 hu hue hu']
  cases d <;> rfl
 ·exact OpV.b2s hT ht ht' he hx hr (by rw [bytesV_length] at hl; omega)
end Go.Rn
namespace Go.Cod
open Go.Rn Go.Sha
inductive ArgIn (w : World) : CV → Value → Prop where
 | int {n : Int} (h : -9223372036854775808 ≤ n ∧ n < 9223372036854775808) : ArgIn w (.int n) (.iface 3 (.int .i64 n))
 | text {s : List UInt8} {v : Value} (h : IsSl w 1 v s.length (bytesV s)) (hl : s.length ≤ 1000000000) : ArgIn w (.text s) (.iface 34 v)
def rowOf : CV → List Value
 | .int n => [.int .i64 1, .int .i64 n, .string ⟨#[]⟩, .slice none 0 0]
 | .text s => [.int .i64 2, .int .i64 0, .string (strOf s), .slice none 0 0]
 | .list _ => []
theorem ArgIn.in_ {w w' : World} {c : CV} {a : Value} (h : ArgIn w c a) : c.In w' (rowOf c) := by
 cases h with
 | int h => exact ⟨h, _, rfl⟩
 | text h hl => exact ⟨hl, _, rfl⟩
theorem ArgIn.depth {w : World} {c : CV} {a : Value} (h : ArgIn w c a) : c.depth = 0 := by cases h <;> rfl
theorem ins_rows {w : World} : ∀ (l : List CV), (∀ c ∈ l, c.In w (rowOf c)) → Ins w l (l.map rowOf)
 | [], _ => by simp [Ins]
 | c :: l, h => by
  simp only [Ins, List.map_cons]
  exact ⟨_, _, rfl, h c List.mem_cons_self, ins_rows l fun c hc => h c (List.mem_cons_of_mem _ hc)⟩
theorem depths_zero : ∀ (l : List CV), (∀ c ∈ l, c.depth = 0) → depths l = 0
 | [], _ => rfl
 | c :: l, h => by simp only [depths]; rw [h c List.mem_cons_self, depths_zero l fun c hc => h c (List.mem_cons_of_mem _ hc)]; rfl
theorem rows_take {l : List CV} {i : Nat} {c : CV} (h : l[i]? = some c) : ((l.take (i + 1)).map rowOf).flatten = ((l.take i).map rowOf).flatten ++ rowOf c := by
 rw [List.take_add_one, h]; simp
end Go.Cod
namespace Go.Sg
open Go.Rn Go.Sha Go.Cod Go.Proofs
attribute [local irreducible] Go.Rn.RunL Go.Rn.RunE Go.Rn.Asy Go.Rn.OpV Go.Rn.OpE Go.Rn.ExecE

set_option maxRecDepth 4000 in
set_option maxHeartbeats 2000000 in
set_option maxRecDepth 4000 in
theorem list_ok (l : List CV) (v : Value) (vs : List Value) (w : World) (hv : IsSl w 1 v l.length vs) (ha : ∀ (i : Nat) (c : CV), l[i]? = some c → ∃ a, vs[i]? = some a ∧ ArgIn w c a) (hl : l.length ≤ 1000)
  (he : (CV.list l).enc.length ≤ 900000) :
  Rets Tryz.prog 107 [v] w fun r w' => w'.ownsRow w.heap.size 5 1 r (CV.list l).enc.length (bytesV (CV.list l).enc) ∧ Ext w w' := by
 refine RetsX.of (nt := 46) Tryz.func107 (by kernel_rfl) rfl rfl (by simp) (by simp only [argEnv]; rfl) ?_
 repeat (first | refine RunL.pure Tryz.tOk rfl rfl rfl ?_ | refine ZzQ ?_ | refine ZzR ?_ | refine ZzN ?_)
 refine RunL.alloc Tryz.tOk rfl rfl rfl fun B3 w1 a1 => ?_
 have hB3 := a1.eq
 have z1 := a1.size
 skip
 refine RunL.store Tryz.tOk rfl rfl rfl rfl rfl (cs := [.int .i64 0, .int .i64 0, .string ⟨#[]⟩, .slice none 0 0]) a1.at_ rfl rfl fun w2 t2 => ?_
 have Z2 : Blk w2 B3 [.int .i64 3, .int .i64 0, .string ⟨#[]⟩, .slice none 0 0] 116 := t2.at_
 have X2 : Ext w w2 := a1.ext.write t2.ext (by intro i hi hlt; subst hi; omega)
 have z2 := t2.size
 clear a1 t2
 repeat (first | refine RunL.pure Tryz.tOk rfl rfl rfl ?_ | refine ZzQ ?_ | refine ZzR ?_ | refine ZzN ?_)
 refine RunL.val rfl rfl rfl (OpV.lenSl Tryz.tOk rfl rfl hv) ?_
 repeat (first | refine RunL.pureI Tryz.tOk rfl rfl rfl (by (rfl)) ?_ | refine ZzN ?_ | refine ZzB ?_)
 refine RunE.loop (ι := Nat × Value) (fun x => [(3, .pointer (some ⟨B3, 0, none⟩)), (11, v), (12, .int .i64 (l.length : Int)), (13, .int .i64 (x.1 : Int))])
  (fun x w' => x.1 ≤ l.length ∧ Ext w w' ∧ Blk w' B3 [.int .i64 3, .int .i64 0, .string ⟨#[]⟩, x.2] 116 ∧ w'.ownsRow (B3 + 1) 116 4 x.2 x.1 ((l.take x.1).map rowOf).flatten) (fun x => l.length - x.1) (0, .slice none 0 0) (by repeat (first | exact Sub.nil _ | refine Sub.cons rfl ?_)) ⟨by simp, X2, Z2, World.ownsRow_nil _ _ _ _⟩ ?_
 clear X2 Z2
 rintro ⟨i, u⟩ w3 ⟨hi, X3, Z3, O3⟩ again
 simp only at hi Z3 O3 again ⊢
 have hz3 := X3.size
 have hB := Z3.lt
 repeat (first | refine RunL.pure Tryz.tOk rfl rfl rfl ?_ | refine ZzQ ?_ | refine ZzR ?_ | refine ZzN ?_)
 refine RunE.cond rfl (fun hlt => ?_) (fun hlt => ?_) <;> (first | replace hlt := of_decide_eq_true hlt | replace hlt := of_decide_eq_false hlt)
 ·have hi' : i < l.length := by omega
  obtain ⟨c, hc⟩ : ∃ c, l[i]? = some c := ⟨_, List.getElem?_eq_getElem hi'⟩
  obtain ⟨a, haa, hac⟩ := ha i c hc
  obtain ⟨b, o, cap, rfl, hrow, -, -⟩ := hv.held (by omega)
  repeat (first | refine ZzQ ?_ | refine ZzR ?_ | refine ZzB ?_ | refine ZzK ?_)
  refine RunL.val rfl rfl rfl (OpV.indexS Tryz.tOk i rfl rfl rfl rfl hi') ?_
  refine RunL.val rfl rfl rfl (OpV.load1 (v := a) Tryz.tOk rfl rfl rfl ((hrow.extE X3) _ _ (by simpa using haa))) ?_
  cases hac with
  | @int n hn =>
   repeat (first | refine RunL.pure Tryz.tOk rfl rfl rfl ?_ | refine ZzQ ?_ | refine ZzR ?_ | refine ZzN ?_ | refine ZzB ?_)
   refine RunL.val rfl rfl rfl (OpV.assertT (v := .int .i64 n) rfl (TD.of_int (TI.tdof (Tryz.tOk.get 3 _ rfl)).symm) rfl) ?_
   repeat (first | refine RunL.pureI Tryz.tOk rfl rfl rfl (by (rfl)) ?_ | refine RunL.pure Tryz.tOk rfl rfl rfl ?_ | refine ZzN ?_)
   refine ZzT rfl rfl ?_
   repeat (first | refine RunL.pureI Tryz.tOk rfl rfl rfl (by (rfl)) ?_ | refine RunL.pure Tryz.tOk rfl rfl rfl ?_ | refine RunL.val rfl rfl rfl (OpV.load1 Tryz.tOk rfl rfl rfl (Blk.cell Z3 rfl)) ?_ | refine ZzQ ?_ | refine ZzR ?_ | refine ZzN ?_)
   refine RunL.ex rfl rfl rfl (OpE.buildSl Tryz.tOk [.agg (rowOf (.int n)).toArray] rfl rfl rfl rfl rfl rfl (by simp [Value.cells, rowOf])) ?_
   rintro _ w4 ⟨B, rfl, a4⟩
   have hB4 := a4.eq
   have X4 := X3.trans a4.ext
   have Z4 := Z3.ext a4.ext id
   have O4 := ownsRow_ext O3 a4.ext (fun _ _ h => h)
   have hz4 := a4.size
   refine RunL.ex rfl rfl rfl (OpE.append' Tryz.tOk rfl rfl rfl rfl rfl rfl O4 (isSl_added (n := 1) (sz := 4) a4 rfl) rfl (by show _ * 56 ≤ _; omega) (by omega) (by omega)) ?_
   rintro v5 w5 ⟨O5, E5, -⟩
   clear a4
   have X5 : Ext w w5 := X4.write E5 (by intro k hk hlt; have := ownsRow_ge O4 hk; omega)
   have Z5 := Z4.ext E5 (by intro hk; have := ownsRow_ge O4 hk; omega)
   obtain ⟨b5, o5, cap5, rfl, -, -, -⟩ := (isSl_own O5).held (by omega)
   repeat (first | refine RunL.pure Tryz.tOk rfl rfl rfl ?_)
   refine RunL.store Tryz.tOk rfl rfl rfl rfl rfl Z5 rfl rfl fun w6 t6 => ?_
   have X6 : Ext w w6 := X5.write t6.ext (by intro k hk hlt; subst hk; omega)
   have Z6 : Blk w6 B3 [.int .i64 3, .int .i64 0, .string ⟨#[]⟩, .slice (some ⟨b5, o5, none⟩) (i + 1) cap5] 116 := t6.at_
   have O6 := ownsRow_ext O5 t6.ext (fun k hk e => by have := ownsRow_ge O5 hk; omega)
   clear t6
   repeat (first | refine RunL.pureI Tryz.tOk rfl rfl rfl (by (first | exact wr_i64 (by omega) (by omega) | rfl)) ?_ | refine ZzR ?_ | refine ZzN ?_ | refine ZzI ?_)
   refine RunE.weaken (by repeat (first | exact Sub.nil _ | refine Sub.cons rfl ?_)) (again (i + 1, _) _ (by simp only; omega) ⟨by simp only; omega, X6, Z6, ?_⟩)
   simp only
   rw [rows_take hc]; exact O6
  | @text s sv hs hsl =>
   repeat (first | refine RunL.pure Tryz.tOk rfl rfl rfl ?_ | refine ZzQ ?_ | refine ZzR ?_ | refine ZzN ?_ | refine ZzB ?_)
   refine RunL.val rfl rfl rfl (OpV.assertF rfl rfl (TD.of_int (TI.tdof (Tryz.tOk.get 3 _ rfl)).symm) rfl (zv := .int .i64 0) (by kernel_rfl)) ?_
   repeat (first | refine RunL.pureI Tryz.tOk rfl rfl rfl (by (rfl)) ?_ | refine RunL.pure Tryz.tOk rfl rfl rfl ?_ | refine ZzN ?_)
   refine ZzF rfl rfl ?_
   repeat (first | refine ZzQ ?_ | refine ZzR ?_)
   refine RunL.val rfl rfl rfl (OpV.assertT (v := sv) rfl (TD.of_slc (TI.tdof (Tryz.tOk.get 34 _ rfl)).symm).1 rfl) ?_
   repeat (first | refine RunL.pure Tryz.tOk rfl rfl rfl ?_ | refine ZzN ?_)
   refine ZzT rfl rfl ?_
   repeat (first | refine RunL.pure Tryz.tOk rfl rfl rfl ?_ | refine RunL.val rfl rfl rfl (OpV.load1 Tryz.tOk rfl rfl rfl (Blk.cell Z3 rfl)) ?_ | refine ZzQ ?_ | refine ZzR ?_ | refine ZzN ?_)
   refine RunL.val rfl rfl rfl (OpV.b2sSl (l := s) Tryz.tOk rfl rfl rfl rfl (hs.extE X3)) ?_
   repeat (first | refine RunL.pure Tryz.tOk rfl rfl rfl ?_)
   refine RunL.ex rfl rfl rfl (OpE.buildSl Tryz.tOk [.agg (rowOf (.text s)).toArray] rfl rfl rfl rfl rfl rfl (by simp [Value.cells, rowOf])) ?_
   rintro _ w4 ⟨B, rfl, a4⟩
   have hB4 := a4.eq
   have X4 := X3.trans a4.ext
   have Z4 := Z3.ext a4.ext id
   have O4 := ownsRow_ext O3 a4.ext (fun _ _ h => h)
   have hz4 := a4.size
   refine RunL.ex rfl rfl rfl (OpE.append' Tryz.tOk rfl rfl rfl rfl rfl rfl O4 (isSl_added (n := 1) (sz := 4) a4 rfl) rfl (by show _ * 56 ≤ _; omega) (by omega) (by omega)) ?_
   rintro v5 w5 ⟨O5, E5, -⟩
   clear a4
   have X5 : Ext w w5 := X4.write E5 (by intro k hk hlt; have := ownsRow_ge O4 hk; omega)
   have Z5 := Z4.ext E5 (by intro hk; have := ownsRow_ge O4 hk; omega)
   obtain ⟨b5, o5, cap5, rfl, -, -, -⟩ := (isSl_own O5).held (by omega)
   repeat (first | refine RunL.pure Tryz.tOk rfl rfl rfl ?_)
   refine RunL.store Tryz.tOk rfl rfl rfl rfl rfl Z5 rfl rfl fun w6 t6 => ?_
   have X6 : Ext w w6 := X5.write t6.ext (by intro k hk hlt; subst hk; omega)
   have Z6 : Blk w6 B3 [.int .i64 3, .int .i64 0, .string ⟨#[]⟩, .slice (some ⟨b5, o5, none⟩) (i + 1) cap5] 116 := t6.at_
   have O6 := ownsRow_ext O5 t6.ext (fun k hk e => by have := ownsRow_ge O5 hk; omega)
   clear t6
   repeat (first | refine RunL.pureI Tryz.tOk rfl rfl rfl (by (first | exact wr_i64 (by omega) (by omega) | rfl)) ?_ | refine ZzR ?_ | refine ZzN ?_ | refine ZzI ?_)
   refine RunE.weaken (by repeat (first | exact Sub.nil _ | refine Sub.cons rfl ?_)) (again (i + 1, _) _ (by simp only; omega) ⟨by simp only; omega, X6, Z6, ?_⟩)
   simp only
   rw [rows_take hc]; exact O6
 ·have hil : i = l.length := by omega
  subst hil
  rw [List.take_length] at O3
  repeat (first | refine ZzQ ?_ | refine ZzR ?_ | refine RunE.exit rfl ?_)
  have hd : (CV.list l).depth ≤ 16 := by
   simp only [CV.depth]
   rw [depths_zero l fun c hc => ?_]
   ·omega
   ·obtain ⟨i, hi⟩ := List.getElem?_of_mem hc
    obtain ⟨a, -, h⟩ := ha i c hi
    exact h.depth
  have hin : (CV.list l).In w3 [.int .i64 3, .int .i64 0, .string ⟨#[]⟩, u] := by
   simp only [CV.In]
   refine ⟨by omega, u, _, rfl, isSl_own O3, ins_rows l fun c hc => ?_⟩
   obtain ⟨i, hi⟩ := List.getElem?_of_mem hc
   obtain ⟨a, -, h⟩ := ha i c hi
   exact h.in_
  refine RunL.val rfl rfl rfl (OpV.loadN (cs := [.int .i64 3, .int .i64 0, .string ⟨#[]⟩, u]) Tryz.tOk rfl rfl rfl rfl Z3.row) ?_
  refine RunL.call rfl rfl rfl (encode_ok (.list l) _ w3 hin hd (by omega)) ?_
  rintro _ w4 ⟨r, rfl, O4, X4⟩
  repeat (first | refine RunL.pureI Tryz.tOk rfl rfl rfl (by (rfl)) ?_ | refine RunL.pure Tryz.tOk rfl rfl rfl ?_ | refine ZzQ ?_ | refine ZzR ?_ | refine ZzN ?_)
  exact RunE.retFn Tryz.func107 (.tmp rfl .nil) ⟨ownsRow_base O4 hz3, X3.trans X4⟩
end Go.Sg
end
section
/- sign: Sign and Verify. -/
set_option maxRecDepth 4000
namespace Go.Cod
open Go.Rn Go.Sha
theorem args2 {w : World} {c0 c1 : CV} {a0 a1 : Value} (h0 : ArgIn w c0 a0) (h1 : ArgIn w c1 a1) : ∀ (i : Nat) (c : CV), [c0, c1][i]? = some c → ∃ a, [a0, a1][i]? = some a ∧ ArgIn w c a
 | 0, c, h => by simp at h; subst h; exact ⟨_, rfl, h0⟩
 | 1, c, h => by simp at h; subst h; exact ⟨_, rfl, h1⟩
 | i + 2, c, h => by simp at h
theorem args3 {w : World} {c0 c1 c2 : CV} {a0 a1 a2 : Value} (h0 : ArgIn w c0 a0) (h1 : ArgIn w c1 a1) (h2 : ArgIn w c2 a2) : ∀ (i : Nat) (c : CV), [c0, c1, c2][i]? = some c → ∃ a, [a0, a1, a2][i]? = some a ∧ ArgIn w c a
 | 0, c, h => by simp at h; subst h; exact ⟨_, rfl, h0⟩
 | 1, c, h => by simp at h; subst h; exact ⟨_, rfl, h1⟩
 | 2, c, h => by simp at h; subst h; exact ⟨_, rfl, h2⟩
 | i + 3, c, h => by simp at h
theorem enc2_le (x : Int) (b : List UInt8) (hx : -9223372036854775808 ≤ x ∧ x < 9223372036854775808) (hb : b.length ≤ 800000) : (CV.list [.int x, .text b]).enc.length ≤ 900000 := by
 have h1 := num_le _ (zig_lt x hx)
 have h2 := num_le b.length (by omega)
 have h3 := num_le [CV.int x, CV.text b].length (by simp)
 simp only [CV.enc, encs, List.length_cons, List.length_append, List.length_nil] at h3 ⊢
 omega
theorem enc3_le (x y : Int) (b : List UInt8) (hx : -9223372036854775808 ≤ x ∧ x < 9223372036854775808) (hy : -9223372036854775808 ≤ y ∧ y < 9223372036854775808) (hb : b.length ≤ 800000) : (CV.list [.int x, .int y, .text b]).enc.length ≤ 900000 := by
 have h1 := num_le _ (zig_lt x hx)
 have h1' := num_le _ (zig_lt y hy)
 have h2 := num_le b.length (by omega)
 have h3 := num_le [CV.int x, CV.int y, CV.text b].length (by simp)
 simp only [CV.enc, encs, List.length_cons, List.length_append, List.length_nil] at h3 ⊢
 omega
end Go.Cod
namespace Go.Sg
open Go.Rn Go.NT Go.Sha Go.Cod Go.Proofs
attribute [local irreducible] Go.Rn.RunL Go.Rn.RunE Go.Rn.Asy Go.Rn.OpV Go.Rn.OpE Go.Rn.ExecE

theorem hashS_bd (t l : List UInt8) : 0 ≤ hashS t l ∧ hashS t l < 1073741789 := by
 unfold hashS; exact ⟨Int.natCast_nonneg _, by omega⟩
theorem mulC_bd (a b : Int) : 0 ≤ mulC a b ∧ mulC a b < 2147483579 := by
 unfold mulC; split
 ·exact ⟨Int.emod_nonneg _ (by decide), Int.emod_lt_of_pos _ (by decide)⟩
 ·decide
theorem validS_bd {x : Int} (h : validS x = true) : 1 ≤ x ∧ x < 2147483579 := by
 have := of_decide_eq_true h; exact ⟨this.1, this.2.1⟩

def nonceB : List UInt8 := [110, 111, 110, 99, 101]
def signB : List UInt8 := [115, 105, 103, 110]
def noncH (x : Int) (b : List UInt8) : Int := hashS nonceB (CV.list [.int x, .text b]).enc
def noncN (x : Int) (b : List UInt8) : Int := if (1 : Int) > noncH x b then 1 else noncH x b
def chal (R key : Int) (b : List UInt8) : Int := hashS signB (CV.list [.int R, .int key, .text b]).enc
def inQ (x : Int) : Bool := decide (1 ≤ x ∧ x < 1073741789)
def sigE (x : Int) (b : List UInt8) : Int := if inQ x then chal (powC 4 (noncN x b)) (powC 4 x) b else 0
def sigS (x : Int) (b : List UInt8) : Int := if inQ x then (noncN x b + sigE x b * x % 1073741789) % 1073741789 else 0
def sigR (x : Int) : Int := if inQ x then 0 else 110
def sigOk (key E S : Int) : Bool := decide (0 ≤ E ∧ E < 1073741789 ∧ 0 ≤ S ∧ S < 1073741789) && validS key
def verS (key : Int) (b : List UInt8) (E S : Int) : Bool := sigOk key E S && (E == chal (mulC (powC 4 S) (powC key (-E))) key b)
theorem noncN_bd (x : Int) (b : List UInt8) : 1 ≤ noncN x b ∧ noncN x b < 1073741789 := by
 have := hashS_bd nonceB (CV.list [.int x, .text b]).enc
 unfold noncN noncH; split <;> omega

set_option maxRecDepth 4000 in
theorem power_ok (a n : Int) (w : World) : Rets Tryz.prog 105 [.int .i64 a, .int .i64 n] w fun v w' => v = .int .i64 (powC a n) ∧ Ext w w' := by
 refine RetsX.of (nt := 14) Tryz.func105 (by kernel_rfl) rfl rfl (by simp) (by simp only [argEnv]; rfl) ?_
 repeat (first | refine RunL.pureI Tryz.tOk rfl rfl rfl (by (rfl)) ?_ | refine ZzQ ?_ | refine ZzR ?_ | refine ZzN ?_)
 refine RunL.call rfl rfl rfl (pow_ok a n _) ?_
 rintro _ w1 ⟨rfl, X1⟩
 repeat (first | refine RunL.pureI Tryz.tOk rfl rfl rfl (by (rfl)) ?_ | refine RunL.pure Tryz.tOk rfl rfl rfl ?_ | refine ZzQ ?_ | refine ZzR ?_ | refine ZzN ?_)
 exact RunE.retFn Tryz.func105 (.tmp rfl .nil) ⟨rfl, X1⟩
set_option maxRecDepth 4000 in
theorem plus_ok (a n : Int) (w : World) (h : 0 ≤ a ∧ a < 1073741789) (h' : 0 ≤ n ∧ n < 1073741789) : Rets Tryz.prog 115 [.int .i64 a, .int .i64 n] w fun v w' => v = .int .i64 ((a + n) % 1073741789) ∧ w' = w := by
 refine RetsX.of (nt := 9) Tryz.func115 (by kernel_rfl) rfl rfl (by simp) (by simp only [argEnv]; rfl) ?_
 repeat (first | refine RunL.pureI Tryz.tOk rfl rfl rfl (by (first | exact wr_i64 (by omega) (by omega) | exact wm_i64 (by omega) | rfl)) ?_ | refine ZzQ ?_ | refine ZzR ?_ | refine ZzN ?_)
 exact RunE.retFn Tryz.func115 (.tmp rfl .nil) ⟨rfl, rfl⟩
theorem mul_bd30 {i k : Int} (hi : 0 ≤ i ∧ i < 1073741824) (hk : 0 ≤ k ∧ k < 1073741824) : 0 ≤ i * k ∧ i * k ≤ 1152921504606846976 := by
 refine ⟨Int.mul_nonneg hi.1 hk.1, ?_⟩
 have := Int.mul_le_mul (show i ≤ 1073741824 by omega) (show k ≤ 1073741824 by omega) hk.1 (by decide)
 omega
set_option maxRecDepth 4000 in
theorem times_ok (a n : Int) (w : World) (h : 0 ≤ a ∧ a < 1073741789) (h' : 0 ≤ n ∧ n < 1073741789) : Rets Tryz.prog 116 [.int .i64 a, .int .i64 n] w fun v w' => v = .int .i64 (a * n % 1073741789) ∧ w' = w := by
 have hm := mul_bd30 (i := a) (k := n) (by omega) (by omega)
 refine RetsX.of (nt := 9) Tryz.func116 (by kernel_rfl) rfl rfl (by simp) (by simp only [argEnv]; rfl) ?_
 repeat (first | refine RunL.pureI Tryz.tOk rfl rfl rfl (by (first | exact wr_i64 (by omega) (by omega) | exact wm_i64 (by omega) | rfl)) ?_ | refine ZzQ ?_ | refine ZzR ?_ | refine ZzN ?_)
 exact RunE.retFn Tryz.func116 (.tmp rfl .nil) ⟨rfl, rfl⟩

set_option maxRecDepth 4000 in
set_option maxHeartbeats 2000000 in
set_option maxRecDepth 4000 in
theorem sign_ok (x : Int) (v : Value) (b : List UInt8) (w : World) (hx : -9223372036854775808 ≤ x ∧ x < 9223372036854775808) (hv : IsSl w 1 v b.length (bytesV b)) (hb : b.length ≤ 800000) (hS : Row w 0 0 (vals init8.l)) (hkT : Row w 1 0 (vals kTab)) :
  Rets Tryz.prog 88 [.int .i64 x, v] w fun r w' => r = .tuple #[.agg #[.int .i64 (sigE x b), .int .i64 (sigS x b)], .int .i64 (sigR x)] ∧ Ext w w' := by
 refine RetsX.of (nt := 45) Tryz.func88 (by kernel_rfl) rfl rfl (by simp) (by simp only [argEnv]; rfl) ?_
 repeat (first | refine ZzQ ?_ | refine ZzR ?_)
 refine RunL.alloc Tryz.tOk rfl rfl rfl fun B4 w1 a1 => ?_
 have Z1 : Blk w1 B4 [.int .i64 0, .int .i64 0] 36 := a1.at_
 have hB4 := a1.eq
 have X1 := a1.ext
 have z1 := a1.size
 clear a1
 cases hq : inQ x with
 | false =>
  have hq' : ¬ (1 ≤ x ∧ x < 1073741789) := of_decide_eq_false hq
  by_cases h1 : x < 1
  ·repeat (first | refine RunL.pureB Tryz.tOk _ rfl rfl rfl (by exact decide_eq_true h1) ?_ | refine RunL.pureI Tryz.tOk rfl rfl rfl (by (rfl)) ?_ | refine RunL.pure Tryz.tOk rfl rfl rfl ?_ | refine RunL.unwantedD rfl rfl ?_ | refine ZzQ ?_ | refine ZzR ?_ | refine ZzN ?_)
   refine ZzT rfl rfl ?_
   repeat (first | refine ZzQ ?_ | refine ZzR ?_)
   refine RunL.val rfl rfl rfl (OpV.loadN (cs := [.int .i64 0, .int .i64 0]) Tryz.tOk rfl rfl rfl rfl Z1.row) ?_
   refine RunL.store Tryz.tOk rfl rfl rfl rfl rfl Z1 rfl rfl fun w3 t3 => ?_
   repeat (first | refine RunL.pureI Tryz.tOk rfl rfl rfl (by (rfl)) ?_ | refine ZzN ?_)
   refine RunE.retFn Tryz.func88 (.cell rfl (.agg Tryz.tOk rfl rfl rfl (Blk.row (show Blk w3 B4 [.int .i64 0, .int .i64 0] 36 from t3.at_))) (.tmp rfl .nil)) ⟨?_, X1.write t3.ext (by intro i hi hlt; subst hi; omega)⟩
   simp [oneOr, sigE, sigS, sigR, hq]
  ·repeat (first | refine RunL.pureB Tryz.tOk _ rfl rfl rfl (by exact decide_eq_false h1) ?_ | refine RunL.pureB Tryz.tOk _ rfl rfl rfl (by exact decide_eq_true (by omega)) ?_ | refine RunL.pureI Tryz.tOk rfl rfl rfl (by (rfl)) ?_ | refine RunL.pure Tryz.tOk rfl rfl rfl ?_ | refine ZzQ ?_ | refine ZzR ?_ | refine ZzN ?_)
   refine ZzT rfl rfl ?_
   repeat (first | refine ZzQ ?_ | refine ZzR ?_)
   refine RunL.val rfl rfl rfl (OpV.loadN (cs := [.int .i64 0, .int .i64 0]) Tryz.tOk rfl rfl rfl rfl Z1.row) ?_
   refine RunL.store Tryz.tOk rfl rfl rfl rfl rfl Z1 rfl rfl fun w3 t3 => ?_
   repeat (first | refine RunL.pureI Tryz.tOk rfl rfl rfl (by (rfl)) ?_ | refine ZzN ?_)
   refine RunE.retFn Tryz.func88 (.cell rfl (.agg Tryz.tOk rfl rfl rfl (Blk.row (show Blk w3 B4 [.int .i64 0, .int .i64 0] 36 from t3.at_))) (.tmp rfl .nil)) ⟨?_, X1.write t3.ext (by intro i hi hlt; subst hi; omega)⟩
   simp [oneOr, sigE, sigS, sigR, hq]
 | true =>
  have hq' : 1 ≤ x ∧ x < 1073741789 := of_decide_eq_true hq
  repeat (first | refine RunL.pureB Tryz.tOk _ rfl rfl rfl (by exact decide_eq_false (by omega)) ?_ | refine RunL.pureI Tryz.tOk rfl rfl rfl (by (rfl)) ?_ | refine RunL.pure Tryz.tOk rfl rfl rfl ?_ | refine ZzQ ?_ | refine ZzR ?_ | refine ZzN ?_)
  refine ZzF rfl rfl ?_
  repeat (first | refine RunL.pureI Tryz.tOk rfl rfl rfl (by (rfl)) ?_ | refine RunL.pure Tryz.tOk rfl rfl rfl ?_ | refine ZzQ ?_ | refine ZzR ?_ | refine ZzK ?_)
  refine RunL.ex rfl rfl rfl (OpE.buildSl Tryz.tOk [.iface 3 (.int .i64 x), .iface 34 v] rfl rfl rfl rfl rfl rfl (by simp [Value.cells])) ?_
  rintro _ w2 ⟨B, rfl, a2⟩
  have X2 := X1.trans a2.ext
  refine RunL.call rfl rfl rfl (list_ok [.int x, .text b] _ _ w2 (isSl_added (n := 2) (sz := 1) a2 rfl) (args2 (.int hx) (.text (hv.extE X2) (by omega))) (by simp) (enc2_le x b hx hb)) ?_
  rintro r3 w3 ⟨O3, X3⟩
  have Y3 := X2.trans X3
  refine RunL.call rfl rfl rfl (hash_ok ⟨#[110, 111, 110, 99, 101]⟩ r3 _ w3 (by decide) (isSl_own O3) (enc2_le x b hx hb) (hS.extE Y3) (hkT.extE Y3)) ?_
  rintro _ w4 ⟨rfl, X4⟩
  have Y4 := Y3.trans X4
  have Z4 := ((Z1.ext a2.ext id).ext X3 id).ext X4 id
  clear a2 O3
  have hkb := noncN_bd x b
  have hc := hashS_bd signB (CV.list [.int (powC 4 (noncN x b)), .int (powC 4 x), .text b]).enc
  have hp1 := powC_bd 4 (noncN x b)
  have hp2 := powC_bd 4 x
  refine RunL.pureI (m' := noncN x b) Tryz.tOk rfl rfl rfl (by rfl) ?_
  generalize hk : noncN x b = kx at *
  repeat (first | refine RunL.pureI Tryz.tOk rfl rfl rfl (by (rfl)) ?_ | refine ZzQ ?_ | refine ZzR ?_ | refine ZzN ?_)
  refine RunL.call rfl rfl rfl (power_ok 4 kx _) ?_
  rintro _ w5 ⟨rfl, X5⟩
  repeat (first | refine RunL.pureI Tryz.tOk rfl rfl rfl (by (rfl)) ?_ | refine RunL.pure Tryz.tOk rfl rfl rfl ?_)
  refine RunL.call rfl rfl rfl (power_ok 4 x _) ?_
  rintro _ w6 ⟨rfl, X6⟩
  have Y6 := (Y4.trans X5).trans X6
  repeat (first | refine RunL.pure Tryz.tOk rfl rfl rfl ?_)
  refine RunL.ex rfl rfl rfl (OpE.buildSl Tryz.tOk [.iface 3 (.int .i64 (powC 4 kx)), .iface 3 (.int .i64 (powC 4 x)), .iface 34 v] rfl rfl rfl rfl rfl rfl (by simp [Value.cells])) ?_
  rintro _ w7 ⟨B', rfl, a7⟩
  have Y7 := Y6.trans a7.ext
  refine RunL.call rfl rfl rfl (list_ok [.int (powC 4 kx), .int (powC 4 x), .text b] _ _ w7 (isSl_added (n := 3) (sz := 1) a7 rfl) (args3 (.int (by omega)) (.int (by omega)) (.text (hv.extE Y7) (by omega))) (by simp) (enc3_le _ _ b (by omega) (by omega) hb)) ?_
  rintro r8 w8 ⟨O8, X8⟩
  have Y8 := Y7.trans X8
  refine RunL.call rfl rfl rfl (hash_ok ⟨#[115, 105, 103, 110]⟩ r8 _ w8 (by decide) (isSl_own O8) (enc3_le _ _ b (by omega) (by omega) hb) (hS.extE Y8) (hkT.extE Y8)) ?_
  rintro _ w9 ⟨rfl, X9⟩
  have Y9 := Y8.trans X9
  have Z9 := ((((Z4.ext X5 id).ext X6 id).ext a7.ext id).ext X8 id).ext X9 id
  clear a7 O8
  have hE : sigE x b = hashS signB (CV.list [.int (powC 4 kx), .int (powC 4 x), .text b]).enc := by
   unfold sigE chal; rw [hq, if_pos rfl, hk]
  change 0 ≤ hashS [115, 105, 103, 110] (CV.list [.int (powC 4 kx), .int (powC 4 x), .text b]).enc ∧ hashS [115, 105, 103, 110] (CV.list [.int (powC 4 kx), .int (powC 4 x), .text b]).enc < 1073741789 at hc
  have hE' : hashS [115, 105, 103, 110] (CV.list [.int (powC 4 kx), .int (powC 4 x), .text b]).enc = sigE x b := hE.symm
  rw [hE'] at hc
  show RunL _ _ _ _ _ _ _ _ ((33, .int .i64 (hashS [115, 105, 103, 110] (CV.list [.int (powC 4 kx), .int (powC 4 x), .text b]).enc)) :: _) _
  rw [hE']
  generalize hEg : sigE x b = E at *
  have hm := mul_bd30 (i := E) (k := x) (by omega) (by omega)
  have hm2 : 0 ≤ E * x % 1073741789 ∧ E * x % 1073741789 < 1073741789 := ⟨Int.emod_nonneg _ (by decide), Int.emod_lt_of_pos _ (by decide)⟩
  repeat (first | refine RunL.pure Tryz.tOk rfl rfl rfl ?_)
  refine RunL.store Tryz.tOk rfl rfl rfl rfl rfl Z9 rfl rfl fun wa ta => ?_
  have Za : Blk wa B4 [.int .i64 E, .int .i64 0] 36 := ta.at_
  have Ya := Y9.write ta.ext (S := fun _ => False) (by intro i hi hlt; subst hi; omega)
  clear ta
  repeat (first | refine RunL.pureI Tryz.tOk rfl rfl rfl (by (rfl)) ?_ | refine RunL.pure Tryz.tOk rfl rfl rfl ?_ | refine RunL.val rfl rfl rfl (OpV.load1 Tryz.tOk rfl rfl rfl (Blk.cell Za rfl)) ?_ | refine ZzQ ?_ | refine ZzR ?_ | refine ZzN ?_)
  refine RunL.call rfl rfl rfl (times_ok E x _ hc (by omega)) ?_
  rintro _ _ ⟨rfl, rfl⟩
  refine RunL.callV (fv := .func (.func 115) #[.int .i64 kx] #[]) rfl rfl rfl rfl (Rets.v (fi := [.int .i64 kx]) (all := [.int .i64 kx, .int .i64 (E * x % 1073741789)]) (plus_ok kx _ _ (by omega) hm2) rfl) (fun _ _ _ h => h.elim) ?_
  rintro _ _ ⟨rfl, rfl⟩
  repeat (first | refine RunL.pure Tryz.tOk rfl rfl rfl ?_)
  refine RunL.store Tryz.tOk rfl rfl rfl rfl rfl Za rfl rfl fun wb tb => ?_
  have Zb : Blk wb B4 [.int .i64 E, .int .i64 ((kx + E * x % 1073741789) % 1073741789)] 36 := tb.at_
  have Yb := Ya.write tb.ext (S := fun _ => False) (by intro i hi hlt; subst hi; omega)
  clear tb
  repeat (first | refine ZzQ ?_ | refine ZzR ?_ | refine ZzN ?_)
  refine RunL.val rfl rfl rfl (OpV.loadN (cs := [.int .i64 E, .int .i64 ((kx + E * x % 1073741789) % 1073741789)]) Tryz.tOk rfl rfl rfl rfl Zb.row) ?_
  refine RunL.store Tryz.tOk rfl rfl rfl rfl rfl Zb rfl rfl fun wc tc => ?_
  repeat (first | refine RunL.pureI Tryz.tOk rfl rfl rfl (by (rfl)) ?_ | refine ZzN ?_)
  refine RunE.retFn Tryz.func88 (.cell rfl (.agg Tryz.tOk rfl rfl rfl (Blk.row (show Blk wc B4 [.int .i64 E, .int .i64 ((kx + E * x % 1073741789) % 1073741789)] 36 from tc.at_))) (.tmp rfl .nil)) ⟨?_, Yb.write tc.ext (by intro i hi hlt; subst hi; omega)⟩
  have hSg : sigS x b = (kx + E * x % 1073741789) % 1073741789 := by unfold sigS; rw [hq, if_pos rfl, hk, hEg]
  simp [oneOr, hSg, sigR, hq]
end Go.Sg
end
section
/- Deeds (chapter 49): plain. -/
set_option maxRecDepth 4000
namespace Go.Cod
open Go.Sha
theorem num_pre : ∀ (u u' : Nat) (r r' : List UInt8), num u ++ r = num u' ++ r' → u = u' ∧ r = r' := by
 intro u
 induction u using Nat.strongRecOn with
 | ind u ih =>
  intro u' r r' h
  by_cases h1 : u < 128
  ·by_cases h2 : u' < 128
   ·rw [num_small h1, num_small h2] at h
    simp only [List.cons_append, List.nil_append, List.cons.injEq] at h
    have := congrArg UInt8.toNat h.1
    simp at this
    exact ⟨by omega, h.2⟩
   ·rw [num_small h1, num_big h2] at h
    simp only [List.cons_append, List.nil_append, List.cons.injEq] at h
    have := congrArg UInt8.toNat h.1
    simp at this
    omega
  ·by_cases h2 : u' < 128
   ·rw [num_big h1, num_small h2] at h
    simp only [List.cons_append, List.nil_append, List.cons.injEq] at h
    have := congrArg UInt8.toNat h.1
    simp at this
    omega
   ·rw [num_big h1, num_big h2] at h
    simp only [List.cons_append, List.cons.injEq] at h
    have h3 := congrArg UInt8.toNat h.1
    simp at h3
    obtain ⟨h4, h5⟩ := ih (u / 128) (by omega) _ _ _ h.2
    exact ⟨by omega, h5⟩
theorem zig_inj {a b : Int} (h : zig a = zig b) : a = b := by
 unfold zig at h
 split at h <;> split at h <;> omega
theorem append_pre {α : Type} {a b r r' : List α} (hl : a.length = b.length) (h : a ++ r = b ++ r') : a = b ∧ r = r' := List.append_inj h hl
mutual
theorem enc_pre : ∀ (c c' : CV) (r r' : List UInt8), c.enc ++ r = c'.enc ++ r' → c = c' ∧ r = r'
 | .int n, c', r, r', h => by
  cases c' with
  | int m =>
   simp only [CV.enc, List.cons_append, List.cons.injEq, true_and] at h
   obtain ⟨h1, h2⟩ := num_pre _ _ _ _ h
   exact ⟨by rw [zig_inj h1], h2⟩
  | text t => simp [CV.enc] at h
  | list l => simp [CV.enc] at h
 | .text s, c', r, r', h => by
  cases c' with
  | int m => simp [CV.enc] at h
  | text t =>
   simp only [CV.enc, List.cons_append, List.cons.injEq, true_and, List.append_assoc] at h
   obtain ⟨h1, h2⟩ := num_pre _ _ _ _ h
   obtain ⟨h3, h4⟩ := append_pre h1 h2
   exact ⟨by rw [h3], h4⟩
  | list l => simp [CV.enc] at h
 | .list l, c', r, r', h => by
  cases c' with
  | int m => simp [CV.enc] at h
  | text t => simp [CV.enc] at h
  | list l' =>
   simp only [CV.enc, List.cons_append, List.cons.injEq, true_and, List.append_assoc] at h
   obtain ⟨h1, h2⟩ := num_pre _ _ _ _ h
   obtain ⟨h3, h4⟩ := encs_pre l l' _ _ h1 h2
   exact ⟨by rw [h3], h4⟩
theorem encs_pre : ∀ (l l' : List CV) (r r' : List UInt8), l.length = l'.length → encs l ++ r = encs l' ++ r' → l = l' ∧ r = r'
 | [], l', r, r', hl, h => by
  cases l' with
  | nil => exact ⟨rfl, by simpa [encs] using h⟩
  | cons c l => simp at hl
 | c :: l, l', r, r', hl, h => by
  cases l' with
  | nil => simp at hl
  | cons c' l' =>
   simp only [encs, List.append_assoc] at h
   obtain ⟨h1, h2⟩ := enc_pre c c' _ _ h
   obtain ⟨h3, h4⟩ := encs_pre l l' _ _ (by simpa using hl) h2
   exact ⟨by rw [h1, h3], h4⟩
end
theorem enc_inj {c c' : CV} (h : c.enc = c'.enc) : c = c' := (enc_pre c c' [] [] (by rw [h])).1
end Go.Cod
namespace Go.Dee
open Go.NT Go.Sg Go.Sha Go.Cod
abbrev Dg := {l : List UInt8 // l.length = 32}
def zeroG : Dg := ⟨List.replicate 32 0, rfl⟩
instance : Inhabited Dg := ⟨zeroG⟩
structure Deed where
 person : Int
 no : Int
 at_ : Int
 prev : Dg
 seen : List Dg
 data : List UInt8
 e : Int
 s : Int
deriving DecidableEq, Inhabited
def zeroD : Deed := ⟨0, 0, 0, zeroG, [], [], 0, 0⟩
def lessL : List UInt8 → List UInt8 → Bool
 | a :: r, b :: t => if a = b then lessL r t else decide (a.toNat < b.toNat)
 | _, _ => false
def lessG (a b : Dg) : Bool := lessL a.1 b.1
def incG : List Dg → Bool
 | a :: b :: r => lessG a b && incG (b :: r)
 | _ => true
def i64 (x : Int) : Prop := -9223372036854775808 ≤ x ∧ x < 9223372036854775808
structure WfD (d : Deed) : Prop where
 person : i64 d.person
 no : i64 d.no
 at_ : i64 d.at_
 e : i64 d.e
 s : i64 d.s
def cvD (d : Deed) : CV := .list [.int d.person, .int d.no, .int d.at_, .text d.prev.1, .list (d.seen.map fun x => .text x.1), .text d.data]
def textD (d : Deed) : List UInt8 := (cvD d).enc
def deedB : List UInt8 := [100, 101, 101, 100]
def idD (d : Deed) : Dg := ⟨tagged deedB (textD d), tagged_length _ _⟩
def numsD (d : Deed) : Bool := decide (0 ≤ d.person ∧ d.person < 64 ∧ 0 ≤ d.no ∧ d.no < 4096 ∧ 0 ≤ d.at_ ∧ d.at_ < 1099511627776 ∧ d.seen.length ≤ 64 ∧ d.data.length ≤ 65536)
def firstD (d : Deed) : Bool := decide (0 < d.no) || (d.prev == zeroG)
def formedD (d : Deed) : Bool := numsD d && incG d.seen && firstD d
def idE (d : Deed) : Int := if formedD d then 0 else 490
def idG (d : Deed) : Dg := if formedD d then idD d else zeroG
def makeE (x : Int) (d : Deed) : Int := if inQ x then (if formedD d then 0 else 490) else 110
def makeD (x : Int) (d : Deed) : Deed := if makeE x d = 0 then { d with e := sigE x (textD d), s := sigS x (textD d) } else zeroD
def keysD (ks : List Int) : Bool := ks.all (fun k => k == 0 || validS k) && decide (ks.length ≤ 64)
def keyOf (ks : List Int) (p : Int) : Int := ks.getD p.toNat 0
def fineD (ks : List Int) (d : Deed) : Bool := formedD d && decide (d.person < (ks.length : Int)) && (keyOf ks d.person != 0) && verS (keyOf ks d.person) (textD d) d.e d.s
def rightE (ks : List Int) : Int := if keysD ks then 0 else 1
def rightB (ks : List Int) (d : Deed) : Bool := keysD ks && fineD ks d
def befD (a b : Deed) : Bool := if a.at_ = b.at_ then (if a.person = b.person then decide (a.no < b.no) else decide (a.person < b.person)) else decide (a.at_ < b.at_)
def ofD (pre : List Deed) (p : Int) : List Deed := pre.filter fun y => decide (y.person = p)
def nextD (pre : List Deed) (p : Int) : Int := ((ofD pre p).length : Int)
def lastD (pre : List Deed) (p : Int) : Dg := match (ofD pre p).getLast? with | some x => idD x | none => zeroG
def metD (pre : List Deed) (p : Int) (x : Dg) : Bool := pre.any fun y => decide (y.person ≠ p) && (idD y == x)
def afterD (pre : List Deed) (d : Deed) : Bool := match pre.getLast? with | some x => befD x d | none => true
def stepD (ks : List Int) (pre : List Deed) (d : Deed) : Bool := fineD ks d && (d.no == nextD pre d.person) && (d.prev == lastD pre d.person) && afterD pre d && d.seen.all (metD pre d.person)
def logD (ks : List Int) (l : List Deed) : Bool := (List.range l.length).all fun i => stepD ks (l.take i) (l.getD i zeroD)
def chkE (ks : List Int) (l : List Deed) : Int := if keysD ks then (if l.length > 4096 then 2 else if logD ks l then 0 else 490) else 1
theorem logD_iff {ks : List Int} {l : List Deed} : logD ks l = true ↔ ∀ (i : Nat) (d : Deed), l[i]? = some d → stepD ks (l.take i) d = true := by
 unfold logD
 rw [List.all_eq_true]
 constructor
 ·intro h i d hd
  have hi := (List.getElem?_eq_some_iff.1 hd).1
  have := h i (List.mem_range.2 hi)
  rwa [List.getD_eq_getElem?_getD, hd] at this
 ·intro h i hi
  rw [List.mem_range] at hi
  have hd := List.getElem?_eq_getElem hi
  have := h i _ hd
  rwa [List.getD_eq_getElem?_getD, hd]
theorem logD_no {ks : List Int} {l : List Deed} {i : Nat} {d : Deed} (hd : l[i]? = some d) (h : stepD ks (l.take i) d = false) : logD ks l = false := by
 cases e : logD ks l with
 | false => rfl
 | true => have := logD_iff.1 e i d hd; rw [h] at this; cases this
theorem logD_take {ks : List Int} {l : List Deed} (h : logD ks l = true) (n : Nat) : logD ks (l.take n) = true := by
 refine logD_iff.2 fun i d hd => ?_
 have hi : i < n := by
  have := (List.getElem?_eq_some_iff.1 hd).1
  rw [List.length_take] at this; omega
 rw [List.getElem?_take_of_lt hi] at hd
 rw [List.take_take, Nat.min_eq_left (by omega)]
 exact logD_iff.1 h i d hd
theorem logD_snoc {ks : List Int} {l : List Deed} {d : Deed} (h : logD ks l = true) (hd : stepD ks l d = true) : logD ks (l ++ [d]) = true := by
 refine logD_iff.2 fun i x hx => ?_
 by_cases hi : i < l.length
 ·rw [List.getElem?_append_left hi] at hx
  rw [List.take_append_of_le_length (by omega)]
  exact logD_iff.1 h i x hx
 ·have hl := (List.getElem?_eq_some_iff.1 hx).1
  simp only [List.length_append, List.length_singleton] at hl
  obtain rfl : i = l.length := by omega
  simp at hx
  subst hx
  simpa using hd
theorem textD_inj {a b : Deed} : textD a = textD b ↔ a.person = b.person ∧ a.no = b.no ∧ a.at_ = b.at_ ∧ a.prev = b.prev ∧ a.seen = b.seen ∧ a.data = b.data := by
 constructor
 ·intro h
  have := enc_inj h
  simp only [cvD, CV.list.injEq, List.cons.injEq, CV.int.injEq, CV.text.injEq, and_true] at this
  obtain ⟨h1, h2, h3, h4, h5, h6⟩ := this
  refine ⟨h1, h2, h3, Subtype.ext h4, ?_, h6⟩
  have inj : ∀ (x y : List Dg), (x.map fun x => CV.text x.1) = (y.map fun x => CV.text x.1) → x = y := by
   intro x
   induction x with
   | nil => intro y h; cases y with
    | nil => rfl
    | cons a y => simp at h
   | cons a x ih => intro y h; cases y with
    | nil => simp at h
    | cons b y =>
     simp only [List.map_cons, List.cons.injEq, CV.text.injEq] at h
     rw [Subtype.ext h.1, ih _ h.2]
  exact inj _ _ h5
 ·rintro ⟨h1, h2, h3, h4, h5, h6⟩
  unfold textD cvD
  rw [h1, h2, h3, h4, h5, h6]
end Go.Dee
end
section
/- Deeds: what the reference says of logs, plain. -/
set_option maxRecDepth 4000
namespace Go.Dee
open Go.NT Go.Sg Go.Sha Go.Cod
theorem fineD_inv {ks : List Int} {d : Deed} (h : fineD ks d = true) : formedD d = true ∧ d.person < (ks.length : Int) ∧ keyOf ks d.person ≠ 0 ∧ verS (keyOf ks d.person) (textD d) d.e d.s = true := by
 unfold fineD at h
 simp only [Bool.and_eq_true, decide_eq_true_eq, bne_iff_ne, ne_eq] at h
 exact ⟨h.1.1.1, h.1.1.2, h.1.2, h.2⟩
theorem formedD_inv {d : Deed} (h : formedD d = true) : (0 ≤ d.person ∧ d.person < 64 ∧ 0 ≤ d.no ∧ d.no < 4096 ∧ 0 ≤ d.at_ ∧ d.at_ < 1099511627776 ∧ d.seen.length ≤ 64 ∧ d.data.length ≤ 65536) ∧ incG d.seen = true ∧ (0 < d.no ∨ d.prev = zeroG) := by
 unfold formedD numsD firstD at h
 simp only [Bool.and_eq_true, Bool.or_eq_true, decide_eq_true_eq, beq_iff_eq] at h
 exact ⟨h.1.1, h.1.2, h.2⟩
theorem stepD_inv {ks : List Int} {pre : List Deed} {d : Deed} (h : stepD ks pre d = true) : fineD ks d = true ∧ d.no = nextD pre d.person ∧ d.prev = lastD pre d.person ∧ afterD pre d = true ∧ ∀ x ∈ d.seen, metD pre d.person x = true := by
 unfold stepD at h
 simp only [Bool.and_eq_true, beq_iff_eq, List.all_eq_true] at h
 exact ⟨h.1.1.1.1, h.1.1.1.2, h.1.1.2, h.1.2, h.2⟩
def lastR (l : List Deed) (p : Int) : Option Deed := (ofD l p).getLast?
theorem ofD_snoc (l : List Deed) (y : Deed) (p : Int) : ofD (l ++ [y]) p = ofD l p ++ (if y.person = p then [y] else []) := by
 unfold ofD
 rw [List.filter_append]
 congr 1
 by_cases h : y.person = p <;> simp [h]
theorem logD_unsnoc {ks : List Int} {l : List Deed} {y : Deed} (h : logD ks (l ++ [y]) = true) : logD ks l = true ∧ stepD ks l y = true := by
 constructor
 ·have := logD_take h l.length
  rwa [List.take_left'] at this
  rfl
 ·have := logD_iff.1 h l.length y (by simp)
  rwa [List.take_left'] at this
  rfl
theorem logD_fine {ks : List Int} {l : List Deed} (h : logD ks l = true) : ∀ y ∈ l, fineD ks y = true := by
 intro y hy
 obtain ⟨i, hi, e⟩ := List.getElem_of_mem hy
 exact (stepD_inv (logD_iff.1 h i y (by rw [List.getElem?_eq_getElem hi, e]))).1
theorem idG_of {d : Deed} (h : formedD d = true) : idG d = idD d := if_pos h
theorem last_no {ks : List Int} {p : Int} : ∀ {l : List Deed}, logD ks l = true → ∀ x, lastR l p = some x → x.no + 1 = nextD l p ∧ lastD l p = idG x := by
 intro l
 induction hl : l.length generalizing l with
 | zero =>
  intro _ x hx
  have : l = [] := List.length_eq_zero_iff.1 hl
  subst this
  simp [lastR, ofD] at hx
 | succ n ih =>
  intro h x hx
  rcases List.eq_nil_or_concat l with rfl | ⟨m, y, rfl⟩
  ·simp at hl
  rw [List.concat_eq_append] at *
  obtain ⟨h1, h2⟩ := logD_unsnoc h
  obtain ⟨f1, f2, -, -, -⟩ := stepD_inv h2
  unfold lastR nextD lastD at *
  rw [ofD_snoc] at *
  by_cases hp : y.person = p
  ·rw [if_pos hp] at *
   simp only [List.getLast?_append, List.getLast?_singleton, Option.some_or, Option.some.injEq] at hx ⊢
   subst hx
   rw [hp] at f2
   refine ⟨?_, (idG_of (fineD_inv f1).1).symm⟩
   rw [f2, List.length_append]; rfl
  ·rw [if_neg hp, List.append_nil] at *
   exact ih (by simpa using hl) h1 x hx
end Go.Dee
end
section
/- Steps that part on a test; facts that go on to a later world. -/
set_option maxRecDepth 4000
namespace Go.Rn
open Go.RowKit
section
variable {P : Program} {c : Ctx} {k : List Item} {Q : Out → Act → World → Prop} {w : World} {n : Nat} {ds : List Deferred} {env : Env}
variable {ops : Array Oper} {d : Tmp} {op : Op} {ty : TypeId} {pos : String} {after : Array Edge} {guard : Option (Nat × Bool)} {rest : List Oper}
/-- A value has just come: it is written in its normal form first. -/
def RunLN (P : Program) (c : Ctx) (n : Nat) (ds : List Deferred) (ops : Array Oper) (rest : List Oper) (k : List Item) (Q : Out → Act → World → Prop) (env : Env) (w : World) (d : Tmp) (v : Value) : Prop :=
 RunL P c n ds ops rest k Q ((d, v) :: env) w
theorem RunL.ev {T : Tab} (hT : T.Ok P) {v : Value} (hw : wantE ops.toList env ⟨some d, op, ty, pos, after, guard⟩ = some true) (hdst : Nat.blt d n = true) (hv : evalOp T env op = some v)
  (h : RunLN P c n ds ops rest k Q env w d v) : RunL P c n ds ops (⟨some d, op, ty, pos, after, guard⟩ :: rest) k Q env w := .pure hT hw hdst hv h
theorem RunL.evV {v : Value} (hw : wantE ops.toList env ⟨some d, op, ty, pos, after, guard⟩ = some true) (hdst : Nat.blt d n = true) (hd : isDefer op = false) (hv : OpV P env w ⟨some d, op, ty, pos, after, guard⟩ v)
  (h : RunLN P c n ds ops rest k Q env w d v) : RunL P c n ds ops (⟨some d, op, ty, pos, after, guard⟩ :: rest) k Q env w := .val hw hdst hd hv h
theorem RunLN.boolT {m : Bool} (hm : m = true) (h : RunL P c n ds ops rest k Q ((d, .bool true) :: env) w) : RunLN P c n ds ops rest k Q env w d (.bool m) := by subst hm; exact h
theorem RunLN.boolF {m : Bool} (hm : m = false) (h : RunL P c n ds ops rest k Q ((d, .bool false) :: env) w) : RunLN P c n ds ops rest k Q env w d (.bool m) := by subst hm; exact h
theorem RunLN.boolC {m : Bool} (ht : m = true → RunL P c n ds ops rest k Q ((d, .bool true) :: env) w) (hf : m = false → RunL P c n ds ops rest k Q ((d, .bool false) :: env) w) : RunLN P c n ds ops rest k Q env w d (.bool m) := by
 cases m with
 | true => exact ht rfl
 | false => exact hf rfl
theorem RunLN.decT {p : Prop} [Decidable p] (hp : p) (h : RunL P c n ds ops rest k Q ((d, .bool true) :: env) w) : RunLN P c n ds ops rest k Q env w d (.bool (decide p)) := .boolT (decide_eq_true hp) h
theorem RunLN.decF {p : Prop} [Decidable p] (hp : ¬ p) (h : RunL P c n ds ops rest k Q ((d, .bool false) :: env) w) : RunLN P c n ds ops rest k Q env w d (.bool (decide p)) := .boolF (decide_eq_false hp) h
theorem RunLN.eqT {a b : Int} (hp : a = b) (h : RunL P c n ds ops rest k Q ((d, .bool true) :: env) w) : RunLN P c n ds ops rest k Q env w d (.bool (a == b)) := .boolT (beq_iff_eq.2 hp) h
theorem RunLN.eqF {a b : Int} (hp : a ≠ b) (h : RunL P c n ds ops rest k Q ((d, .bool false) :: env) w) : RunLN P c n ds ops rest k Q env w d (.bool (a == b)) := .boolF (beq_eq_false_iff_ne.2 hp) h
theorem RunLN.neT {a b : Int} (hp : a ≠ b) (h : RunL P c n ds ops rest k Q ((d, .bool true) :: env) w) : RunLN P c n ds ops rest k Q env w d (.bool (a != b)) := .boolT (bne_iff_ne.2 hp) h
theorem RunLN.neF {a b : Int} (hp : a = b) (h : RunL P c n ds ops rest k Q ((d, .bool false) :: env) w) : RunLN P c n ds ops rest k Q env w d (.bool (a != b)) := .boolF (bne_eq_false_iff_eq.2 hp) h
theorem RunLN.int {kd : IntKind} {m m' : Int} (hm : m = m') (h : RunL P c n ds ops rest k Q ((d, .int kd m') :: env) w) : RunLN P c n ds ops rest k Q env w d (.int kd m) := by subst hm; exact h
theorem RunLN.any {v : Value} (h : RunL P c n ds ops rest k Q ((d, v) :: env) w) : RunLN P c n ds ops rest k Q env w d v := h
/-- A call that gives a value and changes nothing. -/
theorem RunL.callN {g : FuncId} {args : Array Operand} {ts : Array TypeId} {vs : List Value} {v : Value}
  (hw : wantE ops.toList env ⟨some d, .call ⟨.value (.func g), args, ts⟩, ty, pos, after, guard⟩ = some true) (hdst : Nat.blt d n = true) (ha : evL env args.toList = some vs)
  (hc : Rets P g vs w fun u w' => u = v ∧ w = w') (h : RunLN P c n ds ops rest k Q env w d v) :
  RunL P c n ds ops (⟨some d, .call ⟨.value (.func g), args, ts⟩, ty, pos, after, guard⟩ :: rest) k Q env w :=
 .call hw hdst ha hc fun _ _ hr => by obtain ⟨rfl, rfl⟩ := hr; exact h
end
section
variable {P : Program} {c : Ctx} {k : List Item} {Q : Out → Act → World → Prop} {w0 : World} {n : Nat} {ds : List Deferred} {env : Env} {S : Nat → Prop} {sats pres : List (Nat × Pred)} {ph : Option (Option Nat × Pred)} {mu : List Bool}
variable {l : List Oper} {d : Tmp} {op : Op} {ty : TypeId} {pos : String} {after : Array Edge} {guard : Option (Nat × Bool)} {rest : List Oper}
def AsyN (P : Program) (c : Ctx) (n : Nat) (ds : List Deferred) (S : Nat → Prop) (w0 : World) (l : List Oper) (k : List Item) (Q : Out → Act → World → Prop) (rest : List Oper) (env : Env) (sats : List (Nat × Pred)) (ph : Option (Option Nat × Pred)) (mu : List Bool) (pres : List (Nat × Pred)) (d : Tmp) (v : Value) : Prop :=
 Asy P c n ds S w0 l k Q rest ⟨(d, v) :: env, sats, ph, false :: mu, pres⟩
theorem Asy.ev {T : Tab} (hT : T.Ok P) {v : Value} (hw : wantE l env ⟨some d, op, ty, pos, after, guard⟩ = some true) (hdst : Nat.blt d n = true) (hv : evalOp T env op = some v)
  (h : AsyN P c n ds S w0 l k Q rest env sats ph mu pres d v) : Asy P c n ds S w0 l k Q (⟨some d, op, ty, pos, after, guard⟩ :: rest) ⟨env, sats, ph, mu, pres⟩ := .pure hT hw hdst hv h
theorem Asy.evV {v : Value} (hw : wantE l env ⟨some d, op, ty, pos, after, guard⟩ = some true) (hdst : Nat.blt d n = true) (hd : isDefer op = false) (hs : isSel op = false)
  (hv : ∀ w', ExtB S w0 w' → OpV P env w' ⟨some d, op, ty, pos, after, guard⟩ v)
  (h : AsyN P c n ds S w0 l k Q rest env sats ph mu pres d v) : Asy P c n ds S w0 l k Q (⟨some d, op, ty, pos, after, guard⟩ :: rest) ⟨env, sats, ph, mu, pres⟩ := .v hw hdst hd hs hv h
theorem AsyN.boolT {m : Bool} (hm : m = true) (h : Asy P c n ds S w0 l k Q rest ⟨(d, .bool true) :: env, sats, ph, false :: mu, pres⟩) : AsyN P c n ds S w0 l k Q rest env sats ph mu pres d (.bool m) := by subst hm; exact h
theorem AsyN.boolF {m : Bool} (hm : m = false) (h : Asy P c n ds S w0 l k Q rest ⟨(d, .bool false) :: env, sats, ph, false :: mu, pres⟩) : AsyN P c n ds S w0 l k Q rest env sats ph mu pres d (.bool m) := by subst hm; exact h
theorem AsyN.decT {p : Prop} [Decidable p] (hp : p) (h : Asy P c n ds S w0 l k Q rest ⟨(d, .bool true) :: env, sats, ph, false :: mu, pres⟩) : AsyN P c n ds S w0 l k Q rest env sats ph mu pres d (.bool (decide p)) := .boolT (decide_eq_true hp) h
theorem AsyN.decF {p : Prop} [Decidable p] (hp : ¬ p) (h : Asy P c n ds S w0 l k Q rest ⟨(d, .bool false) :: env, sats, ph, false :: mu, pres⟩) : AsyN P c n ds S w0 l k Q rest env sats ph mu pres d (.bool (decide p)) := .boolF (decide_eq_false hp) h
theorem AsyN.eqT {a b : Int} (hp : a = b) (h : Asy P c n ds S w0 l k Q rest ⟨(d, .bool true) :: env, sats, ph, false :: mu, pres⟩) : AsyN P c n ds S w0 l k Q rest env sats ph mu pres d (.bool (a == b)) := .boolT (beq_iff_eq.2 hp) h
theorem AsyN.eqF {a b : Int} (hp : a ≠ b) (h : Asy P c n ds S w0 l k Q rest ⟨(d, .bool false) :: env, sats, ph, false :: mu, pres⟩) : AsyN P c n ds S w0 l k Q rest env sats ph mu pres d (.bool (a == b)) := .boolF (beq_eq_false_iff_ne.2 hp) h
theorem AsyN.neT {a b : Int} (hp : a ≠ b) (h : Asy P c n ds S w0 l k Q rest ⟨(d, .bool true) :: env, sats, ph, false :: mu, pres⟩) : AsyN P c n ds S w0 l k Q rest env sats ph mu pres d (.bool (a != b)) := .boolT (bne_iff_ne.2 hp) h
theorem AsyN.neF {a b : Int} (hp : a = b) (h : Asy P c n ds S w0 l k Q rest ⟨(d, .bool false) :: env, sats, ph, false :: mu, pres⟩) : AsyN P c n ds S w0 l k Q rest env sats ph mu pres d (.bool (a != b)) := .boolF (bne_eq_false_iff_eq.2 hp) h
theorem AsyN.int {kd : IntKind} {m m' : Int} (hm : m = m') (h : Asy P c n ds S w0 l k Q rest ⟨(d, .int kd m') :: env, sats, ph, false :: mu, pres⟩) : AsyN P c n ds S w0 l k Q rest env sats ph mu pres d (.int kd m) := by subst hm; exact h
theorem AsyN.any {v : Value} (h : Asy P c n ds S w0 l k Q rest ⟨(d, v) :: env, sats, ph, false :: mu, pres⟩) : AsyN P c n ds S w0 l k Q rest env sats ph mu pres d v := h
theorem Asy.callN {g : FuncId} {args : Array Operand} {ts : Array TypeId} {vs : List Value} {v : Value}
  (hw : wantE l env ⟨some d, .call ⟨.value (.func g), args, ts⟩, ty, pos, after, guard⟩ = some true) (hdst : Nat.blt d n = true) (ha : evL env args.toList = some vs)
  (hc : ∀ w', ExtB S w0 w' → Rets P g vs w' fun u w'' => u = v ∧ Ext w' w'') (h : AsyN P c n ds S w0 l k Q rest env sats ph mu pres d v) :
  Asy P c n ds S w0 l k Q (⟨some d, .call ⟨.value (.func g), args, ts⟩, ty, pos, after, guard⟩ :: rest) ⟨env, sats, ph, mu, pres⟩ :=
 .val hw hdst rfl rfl (fun w' e => OpE.call ha (hc w' e)) h
/-- As pre0, sat1, wriP: it reads one that is known by a lasting law; two known by laws that last till now. -/
theorem Asy.pre1 (i : Nat) {t : Nat} {U : Pred} (V : Pred) (hi : sats[i]? = some (t, U)) (hl : (Oper.looksAt l.toArray ⟨some d, op, ty, pos, after, guard⟩).contains t = true)
  (hw : wantE l env ⟨some d, op, ty, pos, after, guard⟩ = some true) (hdst : Nat.blt d n = true) (hd : isDefer op = false) (hs : isSel op = false)
  (hV : ∀ v w' w'', ExtB S w0 w' → Ext w' w'' → V v w' → V v w'')
  (h : ∀ w' x, ExtB S w0 w' → U x w' → OpE P ((t, x) :: env) w' ⟨some d, op, ty, pos, after, guard⟩ (fun u w'' => Ext w' w'' ∧ V u w'') fun _ _ => False)
  (h' : Asy P c n ds S w0 l k Q rest ⟨env.del (some d), sats, ph, false :: mu, (d, V) :: pres⟩) : Asy P c n ds S w0 l k Q (⟨some d, op, ty, pos, after, guard⟩ :: rest) ⟨env, sats, ph, mu, pres⟩ :=
 .step (e := .pre V) ⟨hdst, hs, hw, hd, hV, fun w' ρ hx hg => h w' _ hx (hg.sat t U (List.mem_of_getElem? hi) (by simpa using hl)) ρ (ev_cons hg.ev rfl)⟩ h'
theorem Asy.wriP2 (i j : Nat) {t s : Nat} {U U' : Pred} (V : Pred) (hi : pres[i]? = some (t, U)) (hl : (Oper.looksAt l.toArray ⟨some d, op, ty, pos, after, guard⟩).contains t = true)
  (hj : pres[j]? = some (s, U')) (hl' : (Oper.looksAt l.toArray ⟨some d, op, ty, pos, after, guard⟩).contains s = true)
  (hw : wantE l env ⟨some d, op, ty, pos, after, guard⟩ = some true) (hdst : Nat.blt d n = true) (hd : isDefer op = false) (hs : isSel op = false)
  (hV : ∀ v w' w'', ExtB S w0 w' → Ext w' w'' → V v w' → V v w'')
  (h : ∀ w' x y, Ext w0 w' → U x w' → U' y w' → OpE P ((t, x) :: (s, y) :: env) w' ⟨some d, op, ty, pos, after, guard⟩ (fun u w'' => ExtB S w' w'' ∧ V u w'') fun _ _ => False)
  (h' : Asy P c n ds S w0 l k Q rest ⟨env.del (some d), sats, some (some d, V), true :: mu, pres⟩) : Asy P c n ds S w0 l k Q (⟨some d, op, ty, pos, after, guard⟩ :: rest) ⟨env, sats, none, mu, pres⟩ :=
 .step (e := .wri V) ⟨hdst, hs, hw, hd, hV, fun w' ρ hx hg hp => h w' _ _ hx (hp rfl t U (List.mem_of_getElem? hi) (by simpa using hl)) (hp rfl s U' (List.mem_of_getElem? hj) (by simpa using hl')) ρ (ev_cons (ev_cons hg.ev rfl) rfl)⟩ h'
/-- It writes what was there. -/
theorem Asy.keepN (hw : wantE l env ⟨none, op, ty, pos, after, guard⟩ = some true) (hd : isDefer op = false) (hs : isSel op = false)
  (h : ∀ w', ExtB S w0 w' → OpE P env w' ⟨none, op, ty, pos, after, guard⟩ (fun u w'' => u = undef ∧ w'' = w') fun _ _ => False)
  (h' : Asy P c n ds S w0 l k Q rest ⟨env, sats, ph, false :: mu, pres⟩) : Asy P c n ds S w0 l k Q (⟨none, op, ty, pos, after, guard⟩ :: rest) ⟨env, sats, ph, mu, pres⟩ :=
 .step (e := .val undef) ⟨rfl, hs, .inr ⟨hw, hd, fun w' ρ hx hg => (h w' hx ρ hg.ev).mono (by rintro _ _ ⟨rfl, rfl⟩; exact ⟨rfl, ExtB.refl _ _⟩) (fun _ _ h => h)⟩⟩ h'
theorem Asy.end_ (hc : chk l mu.reverse l [] = true) (h : ∀ w', Ext w0 w' → RunL P c n ds l.toArray rest k Q env w') : Asy P c n ds (fun _ => False) w0 l k Q rest ⟨env, [], none, mu, pres⟩ :=
 .tail hc fun w' e => by simpa [satsAll] using h w' e
end
theorem setObj_same {w : World} {b : Nat} {o : Obj} (h : w.heap[b]? = some o) : World.setObj w b o = w := by
 unfold World.setObj
 have : w.heap.setIfInBounds b o = w.heap := by
  apply Array.ext_getElem?
  intro k
  rw [Array.getElem?_setIfInBounds]
  by_cases e : b = k
  ·subst e; rw [if_pos rfl, if_pos (lt_of_get h)]; exact h.symm
  ·rw [if_neg e]
 rw [this]
theorem OpE.storeSame {P : Program} {w : World} {env : Env} {ty : TypeId} {pos : String} {after : Array Edge} {guard : Option (Nat × Bool)} {T : Tab} (hT : T.Ok P) {t bt : TypeId} {i : TI} {x y : Operand} {b o : Nat} {v : Value} {cs : List Value}
  (hx : evO env x = some (.pointer (some ⟨b, o, none⟩))) (hy : evO env y = some v)
  (ht : T.get t = some i) (hsz : v.cells.toList.length = i.size) (hb : Blk w b cs bt) (hlen : Nat.ble (o + v.cells.toList.length) cs.length = true) (hp : v.cells.toList.all plainV = true) (he : setAt cs o v.cells.toList = cs) :
  OpE P env w ⟨none, .store t x y, ty, pos, after, guard⟩ (fun u w' => u = undef ∧ w' = w) fun _ _ => False := fun ρ hρ => by
 refine ExecE.of_skip (w' := w) ?_ ⟨rfl, rfl⟩
 simp only [execOp, Instr.storeAt, hρ _ _ hx, hρ _ _ hy]
 refine Eq.trans (run_bind (v := ()) (w' := w) _ _ ?_) rfl
 rw [run_bind _ _ (show (Instr.sureAddr (.pointer (some ⟨b, o, none⟩))).run P w = .ok ⟨b, o, none⟩ w from rfl)]
 obtain ⟨j, hj, hs, _⟩ := TI.info (hT.get _ _ ht)
 unfold storeVar
 rw [run_bind _ _ (run_sizeOf hj)]
 rw [if_neg (by rw [hs, ← hsz]; simp)]
 have := run_storeCells (P := P) v.cells.toList 0 cs hb (by have := Nat.le_of_ble_eq_true hlen; omega) (List.all_eq_true.1 hp)
 rw [Nat.add_zero, he] at this
 rw [show World.setObj w b (.cells cs.toArray bt (0, 0)) = w from setObj_same hb] at this
 simpa using this
theorem Blk.up {w w' : World} {b : Nat} {cs : List Value} {t : TypeId} (h : Blk w b cs t) (e : Ext w w') : Blk w' b cs t := h.ext e id
theorem Row.up {w w' : World} {b o : Nat} {cs : List Value} (h : Row w b o cs) (e : Ext w w') : Row w' b o cs := h.extE e
theorem IsSl.up {w w' : World} {sz n : Nat} {v : Value} {cs : List Value} (h : IsSl w sz v n cs) (e : Ext w w') : IsSl w' sz v n cs := h.extE e
/-- A new block stands behind what was there. -/
theorem Added.ge {w w1 w' : World} {B : Nat} {o : Obj} (h : Added w1 w' B o) (x : Ext w w1) : w.heap.size ≤ B := by rw [h.eq]; exact x.size
/-- An own block is written. -/
theorem ExtB.own {w w1 w2 : World} {B : Nat} (x : Ext w w1) (e : ExtB (· = B) w1 w2) (h : w.heap.size ≤ B) : Ext w w2 := x.write e fun i hi hlt => by subst hi; omega
theorem Blk.other {w w' : World} {b B : Nat} {cs : List Value} {t : TypeId} (h : Blk w b cs t) (e : ExtB (· = B) w w') (hn : b ≠ B) : Blk w' b cs t := h.ext e hn
abbrev ZzA := @RunLN.any
abbrev ZzP := @RunLN.boolT
abbrev ZzG := @RunLN.boolF
end Go.Rn
namespace Go.Rec
open Go.Rn
/-- Elements of k cells each. -/
structure EncOk {α : Type} (enc : α → List Value) (k : Nat) : Prop where
 len : ∀ x, (enc x).length = k
 plain : ∀ x, (enc x).all plainV = true
 pos : 0 < k
section
variable {α : Type} {enc : α → List Value} {k : Nat}
def flat (enc : α → List Value) (l : List α) : List Value := (l.map enc).flatten
theorem flat_cons (x : α) (l : List α) : flat enc (x :: l) = enc x ++ flat enc l := by simp [flat]
theorem flat_append (a b : List α) : flat enc (a ++ b) = flat enc a ++ flat enc b := by simp [flat]
theorem flat_one (x : α) : flat enc [x] = enc x := by simp [flat]
theorem flat_length (h : EncOk enc k) : ∀ (l : List α), (flat enc l).length = l.length * k
 | [] => by simp [flat]
 | x :: l => by rw [flat_cons, List.length_append, h.len, flat_length h l, List.length_cons, Nat.add_mul]; omega
theorem flat_drop (h : EncOk enc k) : ∀ (l : List α) (i : Nat), (flat enc l).drop (i * k) = flat enc (l.drop i)
 | l, 0 => by simp
 | [], i + 1 => by simp [flat]
 | x :: l, i + 1 => by
  rw [flat_cons, List.drop_succ_cons, ← flat_drop h l i, List.drop_append, h.len, Nat.add_mul, Nat.one_mul, Nat.add_sub_cancel]
  rw [List.drop_eq_nil_of_le (by rw [h.len]; omega)]; rfl
theorem flat_take (h : EncOk enc k) : ∀ (l : List α) (i : Nat), (flat enc l).take (i * k) = flat enc (l.take i)
 | l, 0 => by simp [flat]
 | [], i + 1 => by simp [flat]
 | x :: l, i + 1 => by
  rw [flat_cons, List.take_succ_cons, flat_cons, ← flat_take h l i, List.take_append, h.len, Nat.add_mul, Nat.one_mul, Nat.add_sub_cancel]
  rw [List.take_of_length_le (by rw [h.len]; omega)]
theorem flat_plain (h : EncOk enc k) (l : List α) : (flat enc l).all plainV = true := by
 simp only [flat, List.all_flatten, List.all_map, List.all_eq_true]
 intro x _; exact h.plain x
theorem flat_row (h : EncOk enc k) {w : World} {b o : Nat} {l : List α} (hr : Row w b o (flat enc l)) {i : Nat} {x : α} (hx : l[i]? = some x) : Row w b (o + i * k) (enc x) := by
 refine hr.window (k := i * k) fun j v hv => ?_
 have e := flat_drop h l i
 have hd : l.drop i = x :: l.drop (i + 1) := by
  obtain ⟨hi, e⟩ := List.getElem?_eq_some_iff.1 hx
  rw [List.drop_eq_getElem_cons hi, e]
 rw [hd, flat_cons] at e
 have := congrArg (·[j]?) e
 simp only [List.getElem?_drop] at this
 rw [this, List.getElem?_append_left]
 ·exact hv
 ·rcases Nat.lt_or_ge j (enc x).length with h' | h'
  ·exact h'
  ·rw [List.getElem?_eq_none h'] at hv; simp at hv
abbrev IsL (w : World) (enc : α → List Value) (k : Nat) (v : Value) (l : List α) : Prop := IsSl w k v l.length (flat enc l)
/-- Opened: nothing, or a row. -/
theorem isL_inv {w : World} {v : Value} {l : List α} (h : IsL w enc k v l) : (∃ d, v = .slice d 0 0 ∧ l = []) ∨ ∃ b o cap, v = .slice (some ⟨b, o, none⟩) l.length cap ∧ Row w b o (flat enc l) ∧ l.length ≤ cap := by
 rcases h.inv with ⟨d, rfl, h, -⟩ | ⟨b, o, cap, rfl, hr, -, hc⟩
 ·exact .inl ⟨d, rfl, List.length_eq_zero_iff.1 h⟩
 ·exact .inr ⟨b, o, cap, rfl, hr, hc⟩
theorem isSl_slice {w : World} {sz n : Nat} {v : Value} {cs : List Value} (h : IsSl w sz v n cs) : ∃ d c, v = .slice d n c := by
 rcases h.inv with ⟨d, rfl, h, -⟩ | ⟨b, o, c, rfl, -⟩
 ·exact ⟨d, 0, by rw [h]⟩
 ·exact ⟨_, c, rfl⟩
theorem isL_ext {S : Nat → Prop} {w w' : World} {v : Value} {l : List α} (h : IsL w enc k v l) (e : ExtB S w w') (hs : l ≠ [] → ∀ j, v.ownBlock = some j → ¬ S j) : IsL w' enc k v l := by
 cases l with
 | cons a l => exact h.ext e (hs (by simp))
 | nil =>
  rcases h.inv with ⟨d, rfl, -, -⟩ | ⟨b, o, c, rfl, hr, hl, hc⟩
  ·exact .nil
  ·exact .row (fun i v hv => by simp [flat] at hv) hl hc
theorem isL_own {w : World} {v : Value} {l : List α} (h : IsL w enc k v l) (hk : 0 < k) (hl : l ≠ []) {j : Nat} (hj : v.ownBlock = some j) : j < w.heap.size := by
 cases l with
 | nil => exact absurd rfl hl
 | cons a l => exact h.lt (by simp) hk hj
theorem isL_held {w : World} {v : Value} {l : List α} (h : IsL w enc k v l) {i : Nat} (hi : i < l.length) : ∃ b o cap, v = .slice (some ⟨b, o, none⟩) l.length cap ∧ Row w b o (flat enc l) ∧ l.length ≤ cap := by
 obtain ⟨b, o, cap, h1, h2, -, h3⟩ := h.held (by omega)
 exact ⟨b, o, cap, h1, h2, h3⟩
end
end Go.Rec
end
section
/- Maps. -/
set_option maxRecDepth 4000
namespace Go.Rn
open Go.RowKit
/-- What a map holds, in the order in which its entries came. -/
def setM {α β : Type} [DecidableEq α] (k : α) (v : β) : List (α × β) → List (α × β)
 | [] => [(k, v)]
 | (j, u) :: r => if k = j then (k, v) :: r else (j, u) :: setM k v r
def getM {α β : Type} [DecidableEq α] (k : α) : List (α × β) → Option β
 | [] => none
 | (j, u) :: r => if k = j then some u else getM k r
section
variable {α β : Type} [DecidableEq α]
theorem getM_set (k j : α) (v : β) : ∀ m, getM k (setM j v m) = if k = j then some v else getM k m
 | [] => by simp [setM, getM]
 | (i, u) :: r => by
  simp only [setM]
  by_cases h : j = i
  ·subst h
   simp only [if_true, getM]
   by_cases h2 : k = j <;> simp [h2]
  ·simp only [if_neg h, getM, getM_set k j v r]
   by_cases h2 : k = i
   ·subst h2; simp [Ne.symm h]
   ·simp [h2]
theorem getM_isSome {k : α} : ∀ {m : List (α × β)}, (getM k m).isSome = true ↔ k ∈ m.map (·.1)
 | [] => by simp [getM]
 | (j, u) :: r => by
  simp only [getM, List.map_cons, List.mem_cons]
  by_cases h : k = j
  ·simp [h]
  ·simp [h, getM_isSome (m := r)]
theorem setM_keys (k : α) (v : β) : ∀ (m : List (α × β)), (setM k v m).map (·.1) = if k ∈ m.map (·.1) then m.map (·.1) else m.map (·.1) ++ [k]
 | [] => by simp [setM]
 | (j, u) :: r => by
  simp only [setM]
  by_cases h : k = j
  ·subst h; simp
  ·rw [if_neg h, List.map_cons, setM_keys k v r]
   by_cases hm : k ∈ r.map (·.1)
   ·rw [if_pos hm, if_pos (show k ∈ ((j, u) :: r).map (·.1) from List.mem_cons_of_mem _ hm)]; rfl
   ·rw [if_neg hm, if_neg (show ¬ k ∈ ((j, u) :: r).map (·.1) by simp only [List.map_cons, List.mem_cons, not_or]; exact ⟨h, hm⟩)]; rfl
theorem setM_nodup {k : α} {v : β} {m : List (α × β)} (h : (m.map (·.1)).Nodup) : ((setM k v m).map (·.1)).Nodup := by
 rw [setM_keys]
 split
 ·exact h
 ·rename_i hk
  rw [List.nodup_append]
  refine ⟨h, by simp, fun a ha b hb e => ?_⟩
  simp only [List.mem_singleton] at hb
  subst hb; subst e; exact hk ha
theorem getM_of_mem {k : α} {v : β} : ∀ {m : List (α × β)}, (m.map (·.1)).Nodup → (k, v) ∈ m → getM k m = some v
 | (j, u) :: r, hn, h => by
  simp only [List.map_cons, List.nodup_cons] at hn
  simp only [getM]
  rcases List.mem_cons.1 h with e | h
  ·cases e; simp
  ·rw [if_neg (fun e => hn.1 (by rw [← e]; exact List.mem_map.2 ⟨(k, v), h, rfl⟩))]
   exact getM_of_mem hn.2 h
def entsOk (kv : α → Value) (good : α → Prop) (es : List MapEntry) (m : List (α × Value)) : Prop := es.map (fun e => (e.key, e.val)) = m.map (fun x => (kv x.1, x.2)) ∧ ∀ x ∈ m, good x.1
def bornOk (es : List MapEntry) (c : Nat) : Prop := (es.map (·.born)).Nodup ∧ ∀ e ∈ es, e.born < c
def MapK (kv : α → Value) (good : α → Prop) (w : World) (r : Nat) (m : List (α × Value)) : Prop := ∃ (es : Array MapEntry) (clock : Nat), w.heap[r]? = some (.map es clock) ∧ entsOk kv good es.toList m ∧ bornOk es.toList clock
theorem MapK.lt {kv : α → Value} {good : α → Prop} {w : World} {r : Nat} {m : List (α × Value)} (h : MapK kv good w r m) : r < w.heap.size := by
 obtain ⟨es, c, h, -⟩ := h; exact lt_of_get h
theorem MapK.ext {kv : α → Value} {good : α → Prop} {S : Nat → Prop} {w w' : World} {r : Nat} {m : List (α × Value)} (h : MapK kv good w r m) (e : ExtB S w w') (hn : ¬ S r) : MapK kv good w' r m := by
 obtain ⟨es, c, h1, h2⟩ := h
 exact ⟨es, c, by rw [e.block r (lt_of_get h1) hn]; exact h1, h2⟩
/-- How a key is found. -/
def Found (kv : α → Value) (good : α → Prop) (k : α) (es : List MapEntry) (m : List (α × Value)) (i : Nat) : Option (Nat × Value) → Prop
 | none => getM k m = none ∧ ∀ v, setM k v m = m ++ [(k, v)]
 | some (j, u) => getM k m = some u ∧ i ≤ j ∧ (∃ e, es[j - i]? = some e ∧ e.key = kv k) ∧ ∀ v, entsOk kv good (es.modify (j - i) fun e => { e with key := kv k, val := v }) (setM k v m)
structure KeyOk (P : Program) (kt : TypeId) (kv : α → Value) (good : α → Prop) : Prop where
 find : ∀ (w : World) (k : α) (es : List MapEntry) (m : List (α × Value)), good k → entsOk kv good es m → ∃ r, (Instr.findKey kt (kv k) es).run P w = .ok r w ∧ Found kv good k es m 0 r
 check : ∀ (w : World) (k : α) (b : Bool), good k → (Instr.checkKey b 10000 kt (kv k)).run P w = .ok () w
 same : ∀ k : α, good k → Instr.sameBits 10000 (kv k) (kv k) = true
theorem found_nil {kv : α → Value} {good : α → Prop} (k : α) {m : List (α × Value)} (i : Nat) (h : entsOk kv good [] m) : Found kv good k [] m i none := by
 have : m = [] := by cases m with | nil => rfl | cons => simp [entsOk] at h
 subst this
 exact ⟨rfl, fun v => rfl⟩
theorem found_cons {kv : α → Value} {good : α → Prop} {k : α} {e : MapEntry} {es : List MapEntry} {m : List (α × Value)} {i : Nat} (hg : good k) (h : entsOk kv good (e :: es) m) :
  ∃ j u m', m = (j, u) :: m' ∧ e.key = kv j ∧ good j ∧ entsOk kv good es m' ∧ (k = j → Found kv good k (e :: es) m i (some (i, e.val))) ∧ (k ≠ j → ∀ r, Found kv good k es m' (i + 1) r → Found kv good k (e :: es) m i r) := by
 obtain ⟨⟨j, u⟩, m', rfl⟩ : ∃ x m', m = x :: m' := by cases m with | nil => simp [entsOk] at h | cons x m' => exact ⟨x, m', rfl⟩
 obtain ⟨h, hgs⟩ := h
 simp only [List.map_cons, List.cons.injEq, Prod.mk.injEq] at h
 obtain ⟨⟨hk, hv⟩, hr⟩ := h
 have hgm : ∀ x ∈ m', good x.1 := fun x hx => hgs x (List.mem_cons_of_mem _ hx)
 refine ⟨j, u, m', rfl, hk, hgs _ List.mem_cons_self, ⟨hr, hgm⟩, fun hkj => ?_, fun hkj r h2 => ?_⟩
 ·subst hkj
  simp only [Found]
  refine ⟨by simp [getM, hv], Nat.le_refl i, ⟨e, by simp, hk⟩, fun v => ?_⟩
  refine ⟨by simp [setM, hr], fun x hx => ?_⟩
  simp only [setM, if_true] at hx
  rcases List.mem_cons.1 hx with rfl | hx
  ·exact hg
  ·exact hgm x hx
 ·match r, h2 with
  | none, h2 => exact ⟨by simp [getM, hkj, h2.1], fun v => by simp [setM, hkj, h2.2]⟩
  | some (q, u'), h2 =>
   simp only [Found] at h2 ⊢
   obtain ⟨h3, h4, ⟨e', h5, h6⟩, h7⟩ := h2
   have hq : q - i = (q - (i + 1)) + 1 := by omega
   refine ⟨by simp [getM, hkj, h3], by omega, ⟨e', by rw [hq]; simpa using h5, h6⟩, fun v => ?_⟩
   rw [hq]
   obtain ⟨h8, h9⟩ := h7 v
   refine ⟨by simp [setM, hkj, h8, hk, hv], fun x hx => ?_⟩
   simp only [setM, if_neg hkj] at hx
   rcases List.mem_cons.1 hx with rfl | hx
   ·exact hgs _ List.mem_cons_self
   ·exact h9 x hx
end
/-! ### Integer keys -/
theorem findNow_ok {kd : IntKind} (k : Int) : ∀ (es : List MapEntry) (m : List (Int × Value)) (i : Nat), entsOk (Value.int kd) (fun _ => True) es m →
  ∃ r, Instr.findNow (.int kd) (.int kd k) es i = some r ∧ Found (Value.int kd) (fun _ => True) k es m i r
 | [], m, i, h => ⟨none, rfl, found_nil k i h⟩
 | e :: es, m, i, h => by
  obtain ⟨j, u, m', -, hk, -, hr, h1, h2⟩ := found_cons (k := k) (i := i) trivial h
  simp only [Instr.findNow, hk, Instr.sameNow, if_true]
  by_cases hkj : k = j
  ·exact ⟨some (i, e.val), by simp [hkj], h1 hkj⟩
  ·have hb : (k == j) = false := by simpa using hkj
   rw [hb]
   obtain ⟨r, h3, h4⟩ := findNow_ok k es m' (i + 1) hr
   exact ⟨r, h3, h2 hkj r h4⟩
theorem keyOk_int {P : Program} {kt : TypeId} {kd : IntKind} (hk : P.underlying kt = some (.int kd)) : KeyOk P kt (Value.int kd) fun _ => True where
 find w k es m _ h := by
  obtain ⟨r, h1, h2⟩ := findNow_ok k es m 0 h
  refine ⟨r, ?_, h2⟩
  unfold Instr.findKey
  rw [run_bind _ _ (run_underlying hk), h1]; rfl
 check w k b _ := by
  show (Instr.checkKey b (9999 + 1) kt _).run P w = _
  unfold Instr.checkKey
  rw [run_bind _ _ (run_underlying hk)]
  rfl
 same k _ := by simp [Instr.sameBits]
/-! ### Arrays of bytes -/
/-- An array type of n bytes. -/
structure BytesArr (P : Program) (t e : TypeId) (n : Nat) : Prop where
 und : P.underlying t = some (.array n e)
 elem : P.underlying e = some (.int .u8)
 cells : cellsAgg P e = some (1, false)
 one : P.cellsOf e = 1
 guard : P.eqGuardType P.depth t = false
def digV (l : List UInt8) : Value := .agg (bytesV l).toArray
section
variable {P : Program} {w : World}
theorem run_eqItems_bytes {t e : TypeId} {n : Nat} (h : BytesArr P t e n) (d : Nat) (a b : List UInt8) (ha : a.length = n) (hb : b.length = n) : ∀ (m i : Nat), i + m = n →
  (Op.eqItems (d + 1) e 1 (bytesV a).toArray (bytesV b).toArray (List.range' i m)).run P w = .ok (a.drop i == b.drop i) w
 | 0, i, hi => by
  have e1 : a.drop i = [] := List.drop_eq_nil_of_le (by omega)
  have e2 : b.drop i = [] := List.drop_eq_nil_of_le (by omega)
  rw [e1, e2]; rfl
 | m + 1, i, hi => by
  have hia : i < a.length := by omega
  have hib : i < b.length := by omega
  have pa : (part e (bytesV a).toArray (i * 1)).run P w = .ok (.int .u8 (a[i].toNat : Int)) w := run_part h.cells _ _ (by simp [bytesV, hia])
  have pb : (part e (bytesV b).toArray (i * 1)).run P w = .ok (.int .u8 (b[i].toNat : Int)) w := run_part h.cells _ _ (by simp [bytesV, hib])
  have pe := run_equalIn_int (P := P) w d e .u8 .u8 (a[i].toNat : Int) (b[i].toNat : Int) h.elem
  rw [List.range'_succ]
  simp only [Op.eqItems]
  rw [run_bind _ _ pa, run_bind _ _ pb, run_bind _ _ pe]
  have e1 : a.drop i = a[i] :: a.drop (i + 1) := List.drop_eq_getElem_cons hia
  have e2 : b.drop i = b[i] :: b.drop (i + 1) := List.drop_eq_getElem_cons hib
  have eq : ((a[i].toNat : Int) == (b[i].toNat : Int)) = (a[i] == b[i]) := by
   rw [Bool.eq_iff_iff]; simp only [beq_iff_eq]
   constructor
   ·intro h; exact UInt8.toNat_inj.1 (by omega)
   ·intro h; rw [h]
  rw [eq, e1, e2]
  cases hab : (a[i] == b[i]) with
  | false =>
   have : (a[i] :: a.drop (i + 1) == b[i] :: b.drop (i + 1)) = false := by rw [List.cons_beq_cons, hab, Bool.false_and]
   rw [this]; rfl
  | true =>
   have : (a[i] :: a.drop (i + 1) == b[i] :: b.drop (i + 1)) = (a.drop (i + 1) == b.drop (i + 1)) := by rw [List.cons_beq_cons, hab, Bool.true_and]
   rw [this]
   exact run_eqItems_bytes h d a b ha hb m (i + 1) (by omega)
theorem run_equal_bytes {t e : TypeId} {n : Nat} (h : BytesArr P t e n) (a b : List UInt8) (ha : a.length = n) (hb : b.length = n) : (Op.equal t (digV a) (digV b)).run P w = .ok (a == b) w := by
 obtain ⟨i, _, hi, _, _, _⟩ := cellsAgg_inv h.cells
 show (Op.equalIn (9999 + 1) t _ _).run P w = _
 unfold digV
 rw [run_equalIn_array w 9999 _ _ h.und hi, h.one, List.range_eq_range']
 have := run_eqItems_bytes (w := w) h 9998 a b ha hb n 0 (by omega)
 simpa using this
variable {env : Env} {dst : Option Tmp} {ty : TypeId} {pos : String} {after : Array Edge} {guard : Option (Nat × Bool)}
theorem OpV.eqBytes {t e u : TypeId} {n : Nat} (h : BytesArr P t e n) {x y : Operand} {a b : List UInt8} (hx : evO env x = some (digV a)) (hy : evO env y = some (digV b)) (ha : a.length = n) (hb : b.length = n) :
  OpV P env w ⟨dst, .binOp .eql t x y u, ty, pos, after, guard⟩ (.bool (a == b)) := .of_run fun ρ hρ => by
 refine ⟨_, by simp only [execOp, hρ _ _ hx, hρ _ _ hy]; rfl, ?_⟩
 have h1 := run_eqGuard_agg (P := P) w .eql t x y (bytesV a).toArray (bytesV b).toArray h.guard
 have h2 := run_eql_struct (P := P) w t (bytesV a).toArray (bytesV b).toArray
 have h3 := run_equal_bytes (w := w) h a b ha hb
 unfold digV at h3 ⊢
 rw [run_bind _ _ h1, h2]
 have h4 : (Op.equalIn 10000 t (.agg (bytesV a).toArray) (.agg (bytesV b).toArray)).run P w = .ok (a == b) w := h3
 rw [h4]; rfl
theorem OpV.neBytes {t e u : TypeId} {n : Nat} (h : BytesArr P t e n) {x y : Operand} {a b : List UInt8} (hx : evO env x = some (digV a)) (hy : evO env y = some (digV b)) (ha : a.length = n) (hb : b.length = n) :
  OpV P env w ⟨dst, .binOp .neq t x y u, ty, pos, after, guard⟩ (.bool (!(a == b))) := .of_run fun ρ hρ => by
 refine ⟨_, by simp only [execOp, hρ _ _ hx, hρ _ _ hy]; rfl, ?_⟩
 have h1 := run_eqGuard_agg (P := P) w .neq t x y (bytesV a).toArray (bytesV b).toArray h.guard
 have h2 := run_neq_struct (P := P) w t (bytesV a).toArray (bytesV b).toArray
 have h3 := run_equal_bytes (w := w) h a b ha hb
 unfold digV at h3 ⊢
 rw [run_bind _ _ h1, h2]
 have h4 : (Op.equalIn 10000 t (.agg (bytesV a).toArray) (.agg (bytesV b).toArray)).run P w = .ok (a == b) w := h3
 rw [h4]; rfl
end
/-! ### Operations -/
section
variable {α : Type} [DecidableEq α] {kv : α → Value} {good : α → Prop}
variable {P : Program} {w : World} {env : Env} {dst : Option Tmp} {ty : TypeId} {pos : String} {after : Array Edge} {guard : Option (Nat × Bool)}
theorem OpE.makeMap (kv : α → Value) (good : α → Prop) {t : TypeId} : OpE P env w ⟨dst, .makeMap t none, ty, pos, after, guard⟩ (fun v w' => ∃ r, v = .map (some r) ∧ Added w w' r (.map #[] 0) ∧ MapK kv good w' r []) fun _ _ => False :=
 .of_run (w' := _) (v := _) ⟨w.heap.size, rfl, added_push w _, ⟨#[], 0, (added_push w _).at_, ⟨rfl, fun _ h => by simp at h⟩, ⟨by simp, fun _ h => by simp at h⟩⟩⟩ fun ρ hρ => ⟨_, rfl, rfl⟩
theorem run_lookup_ok {t kt et : TypeId} {r : Nat} {k : α} {m : List (α × Value)} {z : Value} (ht : P.underlying t = some (.map kt et)) (hk : KeyOk P kt kv good) (hz : (P.info? et).bind (·.zero) = some z)
  (hg : good k) (hm : MapK kv good w r m) (ok : Bool) : (Instr.lookup t (.map (some r)) (kv k) ok).run P w = .ok (if ok then .tuple #[(getM k m).getD z, .bool (getM k m).isSome] else (getM k m).getD z) w := by
 obtain ⟨es, c, h1, h2, -⟩ := hm
 obtain ⟨i, hi, hiz⟩ := Option.bind_eq_some_iff.1 hz
 have hzr : (zeroValue et).run P w = .ok z w := by unfold zeroValue; rw [run_bind _ _ (run_typeInfo hi), hiz]; rfl
 obtain ⟨q, hf, h4⟩ := hk.find w k es.toList m hg h2
 unfold Instr.lookup
 rw [run_bind _ _ (run_underlying ht)]
 simp only
 rw [run_bind _ _ (run_getObj h1 (by intros; simp))]
 simp only
 rw [run_bind (v := es) (w' := w) _ _ rfl, run_bind _ _ (hk.check w k _ hg)]
 match q, h4, hf with
 | none, h4, hf =>
  rw [run_bind _ _ hf]
  simp only
  rw [run_bind _ _ hzr, h4.1]; rfl
 | some (j, u), h4, hf =>
  rw [run_bind _ _ hf, h4.1]; rfl
theorem OpV.lookup {t kt et : TypeId} {x y : Operand} {r : Nat} {k : α} {m : List (α × Value)} {z : Value} (ht : P.underlying t = some (.map kt et)) (hk : KeyOk P kt kv good) (hz : (P.info? et).bind (·.zero) = some z)
  (hx : evO env x = some (.map (some r))) (hy : evO env y = some (kv k)) (hg : good k) (hm : MapK kv good w r m) :
  OpV P env w ⟨dst, .lookup t x y false, ty, pos, after, guard⟩ ((getM k m).getD z) := .of_run fun ρ hρ =>
 ⟨_, by simp only [execOp, hρ _ _ hx, hρ _ _ hy] <;> rfl, run_lookup_ok ht hk hz hg hm false⟩
theorem OpV.lookup2 {t kt et : TypeId} {x y : Operand} {r : Nat} {k : α} {m : List (α × Value)} {z : Value} (ht : P.underlying t = some (.map kt et)) (hk : KeyOk P kt kv good) (hz : (P.info? et).bind (·.zero) = some z)
  (hx : evO env x = some (.map (some r))) (hy : evO env y = some (kv k)) (hg : good k) (hm : MapK kv good w r m) :
  OpV P env w ⟨dst, .lookup t x y true, ty, pos, after, guard⟩ (.tuple #[(getM k m).getD z, .bool (getM k m).isSome]) := .of_run fun ρ hρ =>
 ⟨_, by simp only [execOp, hρ _ _ hx, hρ _ _ hy] <;> rfl, run_lookup_ok ht hk hz hg hm true⟩
theorem OpE.mapSet {t kt et : TypeId} {x y zz : Operand} {r : Nat} {k : α} {v : Value} {m : List (α × Value)} (ht : P.underlying t = some (.map kt et)) (hk : KeyOk P kt kv good)
  (hx : evO env x = some (.map (some r))) (hy : evO env y = some (kv k)) (hv : evO env zz = some v) (hg : good k) (hm : MapK kv good w r m) :
  OpE P env w ⟨dst, .mapUpdate t x y zz, ty, pos, after, guard⟩ (fun _ w' => MapK kv good w' r (setM k v m) ∧ ExtB (· = r) w w' ∧ w'.heap.size = w.heap.size) fun _ _ => False := by
 obtain ⟨es, c, h1, h2, hbo⟩ := hm
 obtain ⟨q, hf, h4⟩ := hk.find w k es.toList m hg h2
 have hlt := lt_of_get h1
 obtain ⟨es', c', hes, hbo', hrun⟩ : ∃ es' c', entsOk kv good es'.toList (setM k v m) ∧ bornOk es'.toList c' ∧ (Instr.mapUpdate t (.map (some r)) (kv k) v).run P w = .ok () (World.setObj w r (.map es' c')) := by
  unfold Instr.mapUpdate
  match q, h4, hf with
  | none, h4, hf =>
   refine ⟨es.push { key := kv k, val := v, born := c }, c + 1, ?_, ?_, ?_⟩
   rotate_left
   ·obtain ⟨b1, b2⟩ := hbo
    refine ⟨?_, fun e he => ?_⟩
    ·rw [Array.toList_push, List.map_append, List.map_singleton, List.nodup_append]
     refine ⟨b1, by simp, fun a ha b hb => ?_⟩
     simp only [List.mem_singleton] at hb; subst hb
     obtain ⟨e, he, rfl⟩ := List.mem_map.1 ha
     have := b2 e he
     exact Nat.ne_of_lt this
    ·rw [Array.toList_push] at he
     rcases List.mem_append.1 he with he | he
     ·have := b2 e he; omega
     ·simp only [List.mem_singleton] at he; subst he; exact Nat.lt_succ_self c
   rotate_left
   ·rw [h4.2]
    refine ⟨by have := h2.1; simp [this], fun x hx => ?_⟩
    rcases List.mem_append.1 hx with hx | hx
    ·exact h2.2 x hx
    ·simp at hx; subst hx; exact hg
   ·rw [run_bind _ _ (run_underlying ht)]
    simp only
    rw [run_bind _ _ (run_getObj h1 (by intros; simp))]
    simp only
    rw [run_bind _ _ (hk.check w k _ hg), run_bind _ _ hf]
    exact run_setObj h1 (by intros; simp)
  | some (j, u), h4, hf =>
   simp only [Found, Nat.sub_zero] at h4
   obtain ⟨-, -, ⟨e, he, hek⟩, h7⟩ := h4
   refine ⟨es.modify j fun e => { e with key := kv k, val := v }, c, ?_, ?_, ?_⟩
   ·rw [Array.toList_modify]; exact h7 v
   ·obtain ⟨b1, b2⟩ := hbo
    have hmp : (es.toList.modify j fun e => { e with key := kv k, val := v }).map (·.born) = es.toList.map (·.born) := by
     apply List.ext_getElem?
     intro i
     simp only [List.getElem?_map, List.getElem?_modify]
     cases es.toList[i]? with
     | none => rfl
     | some e => by_cases h : j = i <;> simp [h]
    rw [Array.toList_modify]
    refine ⟨by rw [hmp]; exact b1, fun e he => ?_⟩
    have : e.born ∈ (es.toList.modify j fun e => { e with key := kv k, val := v }).map (·.born) := List.mem_map.2 ⟨e, he, rfl⟩
    rw [hmp] at this
    obtain ⟨e', he', hb⟩ := List.mem_map.1 this
    rw [← hb]; exact b2 e' he'
   ·rw [run_bind _ _ (run_underlying ht)]
    simp only
    rw [run_bind _ _ (run_getObj h1 (by intros; simp))]
    simp only
    rw [run_bind _ _ (hk.check w k _ hg), run_bind _ _ hf]
    simp only
    have hgk : ((es[j]?).map (·.key)).getD (kv k) = kv k := by
     rw [Array.getElem?_toList] at he
     rw [he]; simp [hek]
    rw [hgk]
    have hks : (Instr.keyThatStays (kv k) (kv k)).run P w = .ok (kv k) w := by
     unfold Instr.keyThatStays
     rw [hk.same k hg]; rfl
    rw [run_bind _ _ hks]
    exact run_setObj h1 (by intros; simp)
 have ht' := turned_set w hlt (.map es' c')
 intro ρ hρ
 have he : execOp ρ ⟨dst, .mapUpdate t x y zz, ty, pos, after, guard⟩ = (do Instr.mapUpdate t (.map (some r)) (kv k) v; pure .skip : Sem Next) := by
  simp only [execOp, hρ _ _ hx, hρ _ _ hy, hρ _ _ hv]
 exact ExecE.of_skip (w' := World.setObj w r (.map es' c')) (by rw [he, run_bind _ _ hrun]; rfl) ⟨⟨es', c', ht'.at_, hes, hbo'⟩, ht'.ext, ht'.size⟩
end
end Go.Rn
end
section
/- Maps whose keys are arrays of bytes. -/
set_option maxRecDepth 4000
namespace Go.Rn
open Go.RowKit
variable {P : Program} {w : World}
theorem findAsking_ok {kt e : TypeId} {n : Nat} (h : BytesArr P kt e n) (k : List UInt8) (hk : k.length = n) : ∀ (es : List MapEntry) (m : List (List UInt8 × Value)) (i : Nat), entsOk digV (fun l => l.length = n) es m →
  ∃ r, (Instr.findAsking kt (digV k) es i).run P w = .ok r w ∧ Found digV (fun l => l.length = n) k es m i r
 | [], m, i, hm => ⟨none, rfl, found_nil k i hm⟩
 | x :: es, m, i, hm => by
  obtain ⟨j, u, m', -, hkj, hg, hr, h1, h2⟩ := found_cons (k := k) (i := i) hk hm
  have he := run_equal_bytes (w := w) h k j hk hg
  simp only [Instr.findAsking]
  rw [hkj, run_bind _ _ he]
  by_cases hh : k = j
  ·have hb : (k == j) = true := by simpa using hh
   rw [hb]
   exact ⟨some (i, x.val), rfl, h1 hh⟩
  ·have hb : (k == j) = false := by simpa using hh
   rw [hb]
   obtain ⟨r, h3, h4⟩ := findAsking_ok h k hk es m' (i + 1) hr
   exact ⟨r, h3, h2 hh r h4⟩
theorem run_checkKey_bytes {kt e : TypeId} {n : Nat} (h : BytesArr P kt e n) (k : List UInt8) (hk : k.length = n) (b : Bool) : (Instr.checkKey b 10000 kt (digV k)).run P w = .ok () w := by
 obtain ⟨ti, _, hi, _, _, _⟩ := cellsAgg_inv h.cells
 show (Instr.checkKey b (9999 + 1) kt (.agg (bytesV k).toArray)).run P w = _
 unfold Instr.checkKey
 rw [run_bind _ _ (run_underlying h.und)]
 simp only [Std.Legacy.Range.forIn_eq_forIn_range', Std.Legacy.Range.size, Nat.sub_zero, Nat.add_one_sub_one, Nat.div_one]
 have hchk : ∀ v : Value, (Instr.checkKey b (9998 + 1) e v).run P w = .ok () w := fun v => by
  unfold Instr.checkKey
  rw [run_bind _ _ (run_underlying h.elem)]
  rfl
 have hsz : ti.size = 1 := by
  have := h.one; unfold Program.cellsOf at this; rw [hi] at this; simpa using this
 have key : ∀ (m i : Nat), i + m = n → (forIn (m := Sem) (List.range' i m) PUnit.unit fun i _ => do
    let d ← sizeOf e
    let p ← part e (bytesV k).toArray (i * d)
    Instr.checkKey b 9999 e p
    pure (ForInStep.yield PUnit.unit)).run P w = .ok PUnit.unit w := by
  intro m
  induction m with
  | zero => intro i _; rfl
  | succ m ih =>
   intro i hi'
   have hik : i < k.length := by omega
   have pa : (part e (bytesV k).toArray (i * ti.size)).run P w = .ok (.int .u8 (k[i].toNat : Int)) w := by rw [hsz]; exact run_part h.cells _ _ (by simp [bytesV, hik])
   rw [List.range'_succ, List.forIn_cons]
   refine Eq.trans (run_bind (v := ForInStep.yield PUnit.unit) (w' := w) _ _ ?_) (ih (i + 1) (by omega))
   rw [run_bind _ _ (run_sizeOf hi), run_bind _ _ pa, run_bind _ _ (hchk _)]
   rfl
 exact run_bind _ _ (key n 0 (by omega)) |>.trans rfl
theorem keyOk_bytes {kt e : TypeId} {n : Nat} (h : BytesArr P kt e n) : KeyOk P kt digV fun l => l.length = n where
 find w k es m hk hm := by
  unfold Instr.findKey
  cases es with
  | nil =>
   refine ⟨none, ?_, found_nil k 0 hm⟩
   rw [run_bind _ _ (run_underlying h.und)]; rfl
  | cons x es =>
   obtain ⟨r, h1, h2⟩ := findAsking_ok (w := w) h k hk (x :: es) m 0 hm
   refine ⟨r, ?_, h2⟩
   rw [run_bind _ _ (run_underlying h.und)]
   exact h1
 check w k b hk := run_checkKey_bytes h k hk b
 same k _ := by
  show Instr.sameBits (9999 + 1) (.agg (bytesV k).toArray) (.agg (bytesV k).toArray) = true
  simp only [Instr.sameBits, beq_self_eq_true, Bool.true_and]
  rw [List.all_eq_true]
  rintro ⟨a, b⟩ hx
  have hab : a = b ∧ a ∈ bytesV k := by
   obtain ⟨i, hi⟩ := List.getElem?_of_mem hx
   rw [List.getElem?_zip_eq_some] at hi
   exact ⟨Option.some.inj (hi.1.symm.trans hi.2), List.mem_of_getElem? hi.1⟩
  obtain ⟨rfl, ha⟩ := hab
  simp only [bytesV, List.mem_map] at ha
  obtain ⟨c, -, rfl⟩ := ha
  simp [Instr.sameBits]
end Go.Rn
end
section
/- Deeds: in memory. -/
set_option maxRecDepth 4000
namespace Go.Dee
open Go.Rn Go.RowKit Go.Rec Go.Sha Go.Sg
def cB (x : Dg) (i : Nat) : Value := .int .u8 ((x.1.getD i 0).toNat : Int)
def digC (x : Dg) : List Value := [cB x 0, cB x 1, cB x 2, cB x 3, cB x 4, cB x 5, cB x 6, cB x 7, cB x 8, cB x 9, cB x 10, cB x 11, cB x 12, cB x 13, cB x 14, cB x 15, cB x 16, cB x 17, cB x 18, cB x 19, cB x 20, cB x 21, cB x 22, cB x 23, cB x 24, cB x 25, cB x 26, cB x 27, cB x 28, cB x 29, cB x 30, cB x 31]
theorem digC_eq (x : Dg) : digC x = bytesV x.1 := by
 obtain ⟨l, hl⟩ := x
 apply List.ext_getElem?
 intro i
 rcases Nat.lt_or_ge i 32 with h | h
 ·rw [bytesV_get (show i < l.length by omega)]
  have : digC ⟨l, hl⟩ = (List.range 32).map (cB ⟨l, hl⟩) := rfl
  rw [this, List.getElem?_map, List.getElem?_range h]; rfl
 ·rw [List.getElem?_eq_none (by exact h), List.getElem?_eq_none (by rw [bytesV_length]; show l.length ≤ i; omega)]
theorem encG : EncOk digC 32 := ⟨fun _ => rfl, fun _ => rfl, by decide⟩
theorem digV_eq (x : Dg) : Value.agg (digC x).toArray = digV x.1 := by unfold digV; rw [digC_eq]
/-- A deed, with the places of its lists. -/
structure Dr where
 d : Deed
 ua : Option Addr
 uc : Nat
 va : Option Addr
 vc : Nat
def Dr.u (x : Dr) : Value := .slice x.ua x.d.seen.length x.uc
def Dr.v (x : Dr) : Value := .slice x.va x.d.data.length x.vc
def dCells (d : Deed) (u v : Value) : List Value := [.int .i64 d.person, .int .i64 d.no, .int .i64 d.at_, cB d.prev 0, cB d.prev 1, cB d.prev 2, cB d.prev 3, cB d.prev 4, cB d.prev 5, cB d.prev 6, cB d.prev 7, cB d.prev 8, cB d.prev 9, cB d.prev 10, cB d.prev 11, cB d.prev 12, cB d.prev 13, cB d.prev 14, cB d.prev 15, cB d.prev 16, cB d.prev 17, cB d.prev 18, cB d.prev 19, cB d.prev 20, cB d.prev 21, cB d.prev 22, cB d.prev 23, cB d.prev 24, cB d.prev 25, cB d.prev 26, cB d.prev 27, cB d.prev 28, cB d.prev 29, cB d.prev 30, cB d.prev 31, u, v, .int .i64 d.e, .int .i64 d.s]
abbrev Dr.cells (x : Dr) : List Value := dCells x.d x.u x.v
theorem encR : EncOk Dr.cells 39 := ⟨fun _ => rfl, fun _ => rfl, by decide⟩
structure HoldR (w : World) (x : Dr) : Prop where
 seen : IsL w digC 32 x.u x.d.seen
 data : IsSl w 1 x.v x.d.data.length (bytesV x.d.data)
theorem HoldR.up {w w' : World} {x : Dr} (h : HoldR w x) (e : Ext w w') : HoldR w' x := ⟨h.seen.up e, h.data.extE e⟩
abbrev LDr (w : World) (v : Value) (l : List Dr) : Prop := IsL w Dr.cells 39 v l
def zeroR : Dr := ⟨zeroD, none, 0, none, 0⟩
theorem zeroR_held (w : World) : HoldR w zeroR := ⟨IsSl.nil, IsSl.nil⟩
theorem row_prev {w : World} {b o : Nat} {d : Deed} {u v : Value} (h : Row w b o (dCells d u v)) : Row w b (o + 3) (digC d.prev) := h.window fun i c hc => by
 have e : dCells d u v = [.int .i64 d.person, .int .i64 d.no, .int .i64 d.at_] ++ (digC d.prev ++ [u, v, .int .i64 d.e, .int .i64 d.s]) := rfl
 rw [e, List.getElem?_append_right (by simp), List.getElem?_append_left (by
  have := (List.getElem?_eq_some_iff.1 hc).1
  simp only [List.length_cons, List.length_nil]; omega)]
 simpa using hc
theorem row_sig {w : World} {b o : Nat} {d : Deed} {u v : Value} (h : Row w b o (dCells d u v)) : Row w b (o + 37) [.int .i64 d.e, .int .i64 d.s] := h.window fun i c hc => by
 rcases i with _ | _ | i
 ·exact hc
 ·exact hc
 ·simp at hc
/-- A deed's two lists. -/
abbrev LDg (w : World) (u : Value) (l : List Dg) : Prop := IsL w digC 32 u l
abbrev LBy (w : World) (v : Value) (l : List UInt8) : Prop := IsSl w 1 v l.length (bytesV l)
end Go.Dee
end
section
/- Merge: lists of lists of deeds in memory. -/
set_option maxRecDepth 4000
namespace Go.Mer
open Go.Rn Go.Rec Go.Dee Go.RowKit
/-- A part: its deeds and where they lie. -/
structure Ll where
 l : List Dr
 u : Option Addr
 c : Nat
def Ll.v (x : Ll) : Value := .slice x.u x.l.length x.c
abbrev Ll.cells (x : Ll) : List Value := [x.v]
theorem encLl : EncOk Ll.cells 1 := ⟨fun _ => rfl, fun _ => rfl, by decide⟩
abbrev LLl (w : World) (v : Value) (ls : List Ll) : Prop := IsL w Ll.cells 1 v ls
/-- The lengths of all parts together. -/
def lenD (ls : List Ll) : Nat := (ls.map fun x => x.l.length).sum
theorem lenD_snoc (ls : List Ll) (x : Ll) : lenD (ls ++ [x]) = lenD ls + x.l.length := by
 unfold lenD; simp
theorem lenD_take {ls : List Ll} {i : Nat} {x : Ll} (h : ls[i]? = some x) : lenD (ls.take (i + 1)) = lenD (ls.take i) + x.l.length := by
 rw [List.take_add_one, h]; exact lenD_snoc _ _
theorem lenD_le : ∀ (ls : List Ll) (i : Nat), lenD (ls.take i) ≤ lenD ls := fun ls i => by
 have : lenD ls = lenD (ls.take i) + lenD (ls.drop i) := by
  conv => lhs; rw [← List.take_append_drop i ls]
  unfold lenD; rw [List.map_append, List.sum_append]
 omega
/-- All deeds, one part after the other. -/
def allD (ls : List Ll) : List Dr := ls.flatMap Ll.l
theorem allD_len (ls : List Ll) : (allD ls).length = lenD ls := by
 unfold allD lenD; rw [List.length_flatMap]
end Go.Mer
end
section
/- Is it a number? (a step that fails at once where the value is none) -/
set_option maxRecDepth 4000
namespace Go.Rn
open Go.RowKit
section
variable {P : Program} {c : Ctx} {k : List Item} {Q : Out → Act → World → Prop} {w : World} {n : Nat} {ds : List Deferred} {env : Env}
variable {ops : Array Oper} {d : Tmp} {rest : List Oper}
theorem RunLN.chk {kd : IntKind} {m : Int} (h : RunLN P c n ds ops rest k Q env w d (.int kd m)) : RunLN P c n ds ops rest k Q env w d (.int kd m) := h
end
section
variable {P : Program} {c : Ctx} {k : List Item} {Q : Out → Act → World → Prop} {w0 : World} {n : Nat} {ds : List Deferred} {env : Env} {S : Nat → Prop} {sats pres : List (Nat × Pred)} {ph : Option (Option Nat × Pred)} {mu : List Bool} {l rest : List Oper} {d : Tmp}
theorem AsyN.chk {kd : IntKind} {m : Int} (h : AsyN P c n ds S w0 l k Q rest env sats ph mu pres d (.int kd m)) : AsyN P c n ds S w0 l k Q rest env sats ph mu pres d (.int kd m) := h
end
end Go.Rn
end
section
/- Comparing bytes: what the model answers itself. -/
set_option maxRecDepth 4000
namespace Go.Rn
open Go.RowKit Go.Sha
variable {P : Program} {w : World}
theorem run_loadB : ∀ (l : List UInt8) (b o : Nat) (acc : ByteArray), Row w b o (bytesV l) → (Extern.Bytes.loadBytes ⟨b, o, none⟩ l.length acc).run P w = .ok ⟨acc.data ++ l.toArray⟩ w
 | [], b, o, acc, _ => by simp [Extern.Bytes.loadBytes]
 | x :: l, b, o, acc, h => by
  have h0 : w.cell? ⟨b, o, none⟩ = some (.int .u8 (x.toNat : Int)) := h 0 _ rfl
  have h1 : Row w b (o + 1) (bytesV l) := h.window fun i v hv => by
   have e : i + 1 = 1 + i := Nat.add_comm _ _
   rw [← e]; exact hv
  have ih := run_loadB l b (o + 1) (acc.push x) h1
  have e : (⟨b, o, none⟩ : Addr).add 1 = ⟨b, o + 1, none⟩ := by simp [Addr.add]
  simp only [List.length_cons, Extern.Bytes.loadBytes, Sem.run_bind, run_load h0, Result.andThen]
  rw [e]
  have hx : ((x.toNat : Int).toNat.toUInt8) = x := by simp
  rw [hx, ih]
  congr 1
  apply ByteArray.ext
  simp [ByteArray.push]
theorem run_bytesOf {v : Value} {l : List UInt8} (h : IsSl w 1 v l.length (bytesV l)) : (Extern.Bytes.bytesOf v).run P w = .ok ⟨l.toArray⟩ w := by
 rcases h.inv with ⟨d, rfl, h1, -⟩ | ⟨b, o, c, rfl, hr, -⟩
 ·obtain rfl : l = [] := List.length_eq_zero_iff.1 h1
  cases d with
  | none => rfl
  | some d => rfl
 ·have := run_loadB (P := P) l b o .empty hr
  simpa [Extern.Bytes.bytesOf] using this
theorem run_cmpBytes {u v : Value} {a b : List UInt8} (h : IsSl w 1 u a.length (bytesV a)) (h' : IsSl w 1 v b.length (bytesV b)) : (Extern.BytealgCompare.compare #[u, v]).run P w = .ok (.int .i64 (Lib.compareBytes a b)) w := by
 change Sem.run P (do pure (goInt (Extern.BytealgCompare.cmp (← Extern.Bytes.bytesOf u) (← Extern.Bytes.bytesOf v)))) w = _
 simp only [Sem.run_bind, run_bytesOf h, run_bytesOf h', Sem.run_pure, Result.andThen]
 rw [Lib.cmp_eq]
 rfl
theorem cmpB_lt : ∀ {a b : List UInt8}, a.length = b.length → (Lib.compareBytes a b < 0 ↔ Dee.lessL a b = true)
 | [], [], _ => by simp [Lib.compareBytes, Dee.lessL]
 | x :: a, y :: b, h => by
  have ih := cmpB_lt (a := a) (b := b) (by simpa using h)
  unfold Lib.compareBytes Dee.lessL
  by_cases hxy : x = y
  ·subst hxy
   have hlt : ¬ x < x := UInt8.lt_irrefl x
   rw [if_neg hlt, if_neg hlt, if_pos rfl]; exact ih
  ·rw [if_neg hxy]
   by_cases hlt : x < y
   ·rw [if_pos hlt]
    have : x.toNat < y.toNat := hlt
    simp [this]
   ·rw [if_neg hlt]
    have h2 : y < x := UInt8.lt_of_le_of_ne (UInt8.not_lt.1 hlt) (Ne.symm hxy)
    rw [if_pos h2]
    have : ¬ x.toNat < y.toNat := fun h => hlt h
    simp [this]
end Go.Rn
end
section
/- Operations of the library's slice functions. -/
set_option maxRecDepth 4000
namespace Go.Rn
open Go.RowKit Go.Lib Go.Rec
section
variable {P : Program} {w : World} {env : Env} {dst : Option Tmp} {ty : TypeId} {pos : String} {after : Array Edge} {guard : Option (Nat × Bool)}
/-- A call that the model answers itself. -/
theorem OpV.callX {g : FuncId} {args : Array Operand} {ts : Array TypeId} {vs : List Value} {v : Value} (ha : evL env args.toList = some vs) (hc : (callFunc g vs.toArray).run P w = .ok (.value v) w) :
  OpV P env w ⟨dst, .call ⟨.value (.func g), args, ts⟩, ty, pos, after, guard⟩ v := fun ρ hρ => by
 have e : args.map ρ = vs.toArray := evL_mapA hρ ha
 unfold execOp
 simp only
 rw [run_bind (v := { target := .fn (.func g) #[], args := vs.toArray }) (w' := w) _ _ ?_]
 ·simp only [invoke]
  simpa using hc
 ·simp only [resolve, Act.eval, e] <;> simp [Deferred.ofValue, hρ (.func g) _ rfl, Pure.pure]
theorem OpE.growOnto {T : Tab} (hT : T.Ok P) {t e ti : TypeId} {kt : IntKind} {sz : Nat} {ag : Bool} {s bb s' bb' : Nat} {z z' : List Value} {a u a' u' : Bool} {ie : TI} {x y : Operand} {kd : IntKind} {i : Int} {m g n cap : Nat} {olds : List Value}
  (ht : T.get t = some ⟨.slc sz ag e, s, bb, z, a, u⟩) (hti : T.get ti = some ⟨.int kt, s', bb', z', a', u'⟩) (he : T.get e = some ie) (hz : ie.zero.length = sz) (hsz : Nat.blt 0 sz = true)
  (hx : evO env x = some (.slice (some ⟨g, 0, none⟩) n cap)) (hy : evO env y = some (.int kd i)) (hi : i = (m : Int)) (hm : 0 < m) (hr : Row w g 0 olds) (hol : olds.length = n * sz) (hg : cap < n + m)
  (hb : (n + m) * ie.bytes ≤ 1000000000) (h63 : n + m ≤ 1000000000) :
  OpE P env w ⟨dst, .call ⟨.builtin .append, #[x, y], #[t, ti]⟩, ty, pos, after, guard⟩
   (fun v w' => ∃ B cap' rest, v = .slice (some ⟨B, 0, none⟩) (n + m) cap' ∧ n + m ≤ cap' ∧ B = w.heap.size ∧ Ext w w' ∧ Blk w' B (olds ++ rest) e ∧ rest.length = (cap' - n) * sz) fun _ _ => False := by
 obtain ⟨hu, hc'⟩ := TD.of_slc (TI.tdof (hT.get _ _ ht)).symm
 have hui := TD.of_int (TI.tdof (hT.get _ _ hti)).symm
 obtain ⟨j, dd, zv, hj, hd, hzv, h1, h2, h3, h4, h5, _⟩ := TI.inv (hT.get _ _ he)
 obtain ⟨ii, d', hii, hs', _, _⟩ := cellsAgg_inv hc'
 rw [hii] at hj; cases hj
 have hzs : zv.cells.size = sz := by rw [← hz, h3]; simp
 subst hi
 have hsz' : 0 < sz := by simpa [Nat.blt_eq] using hsz
 have hold : (Builtin.firstCells j.size n (.slice (some ⟨g, 0, none⟩) n cap)).run P w.drew = .ok olds.toArray w.drew := by
  rw [hs']
  exact run_firstCells (P := P) (w := w.drew) (fun i v hv => hr i v hv) hol
 have hfit : Builtin.nextslicecap (n + m) cap * j.bytes ≤ 281474976710656 := by
  rw [← h2]
  have := Nat.mul_le_mul_right ie.bytes (nextslicecap_le (need := n + m) (old := cap) (by omega))
  have e2 : 2 * (n + m) * ie.bytes = 2 * ((n + m) * ie.bytes) := Nat.mul_assoc _ _ _
  omega
 have hmb : m * j.bytes ≤ 281474976710656 := by
  rw [← h2]
  have := Nat.mul_le_mul_right ie.bytes (show m ≤ n + m by omega)
  omega
 have hrun := run_append_grow_zeros (P := P) w t ti ty e j zv kd kt hu hui hii hzv (some ⟨g, 0, none⟩) n cap olds hold m hm (by omega) hg (by omega) hmb hfit
 have hcap := grownCap_ge w (n + m) cap e
 refine .of_run (w' := _) (v := _) ?_ fun ρ hρ => ⟨_, by simp only [execOp, resolve, List.map_toArray, List.map_cons, List.map_nil, hρ _ _ hx, hρ _ _ hy] <;> rfl, hrun⟩
 refine ⟨_, _, (Builtin.zeroCells zv.cells m ++ Builtin.zeroCells zv.cells (grownCap w (n + m) cap e - (n + m))).toList, rfl, hcap, rfl, ⟨Nat.le_succ _, rfl, rfl, rfl, by simp, fun k hk _ => (by apply heap_alloc_old; exact hk)⟩, ?_, ?_⟩
 ·unfold Blk
  refine (heap_alloc_new w.drew _).trans ?_
  congr 2
  apply Array.ext'
  simp
 ·simp only [Array.length_toList, Array.size_append, size_zeroCells, hzs, ← Nat.add_mul]
  congr 1
  omega
/-- append to an empty slice without room: nothing that was there is written. -/
theorem OpE.append0 {T : Tab} (hT : T.Ok P) {t e : TypeId} {sz : Nat} {ag : Bool} {s bb : Nat} {z : List Value} {a u : Bool} {ie : TI} {x y : Operand} {vx : Value} {g m : Nat} {news : List Value}
  (ht : T.get t = some ⟨.slc sz ag e, s, bb, z, a, u⟩) (he : T.get e = some ie) (hz : ie.zero.length = sz)
  (hx : evO env x = some (.slice (some ⟨g, 0, none⟩) 0 0)) (hy : evO env y = some vx) (hn : IsSl w sz vx m news) (hbytes : m * ie.bytes ≤ 140737488355328) (h63 : m ≤ 9223372036854775807) :
  OpE P env w ⟨dst, .call ⟨.builtin .append, #[x, y], #[t, t]⟩, ty, pos, after, guard⟩
   (fun v' w' => ((m = 0 ∧ v' = .slice (some ⟨g, 0, none⟩) 0 0) ∨ w'.ownsRow w.heap.size e sz v' m news) ∧ Ext w w') fun _ _ => False := by
 obtain ⟨hu, hc⟩ := TD.of_slc (TI.tdof (hT.get _ _ ht)).symm
 obtain ⟨j, dd, zv, hj, hd, hzv, h1, h2, h3, h4, h5, _⟩ := TI.inv (hT.get _ _ he)
 obtain ⟨i, d', hi, hs', _, _⟩ := cellsAgg_inv hc
 rw [hi] at hj; cases hj
 have hzs : zv.cells.size = sz := by rw [← hz, h3]; simp
 have call : ∀ {v' : Value} {w' : World}, (Builtin.append_ #[t, t] ty #[.slice (some ⟨g, 0, none⟩) 0 0, vx]).run P w = .ok v' w' → ∀ ρ : Operand → Value, (∀ x v, evO env x = some v → ρ x = v) →
   ∃ s : Sem Value, execOp ρ ⟨dst, .call ⟨.builtin .append, #[x, y], #[t, t]⟩, ty, pos, after, guard⟩ = (do pure (.value (← s)) : Sem Next) ∧ s.run P w = .ok v' w' := fun hr ρ hρ =>
  ⟨_, by simp only [execOp, resolve, List.map_toArray, List.map_cons, List.map_nil, hρ _ _ hx, hρ _ _ hy]; rfl, hr⟩
 rcases hn.inv with ⟨d0, rfl, rfl, rfl⟩ | ⟨b, o, c, rfl, hr, hl, hcap⟩
 ·have hf : ∀ w, (Builtin.firstCells j.size 0 (.slice d0 0 0)).run P w = .ok #[] w := fun w => by cases d0 <;> simp [Builtin.firstCells, loadCells, loadCellsFrom, Pure.pure]
  have hr : (Builtin.append_ #[t, t] ty #[.slice (some ⟨g, 0, none⟩) 0 0, .slice d0 0 0]).run P w = .ok (.slice (some ⟨g, 0, none⟩) 0 0) w := by
   simp [Builtin.append_, run_underlying hu, sizeOf, typeInfo, hi, Builtin.lenOf, hf, storeCells]
  exact .of_run ⟨.inl ⟨rfl, rfl⟩, ExtB.refl _ _⟩ (call hr)
 ·by_cases hm : m = 0
  ·subst hm
   have hrun2 : (Builtin.append_ #[t, t] ty #[.slice (some ⟨g, 0, none⟩) 0 0, .slice (some ⟨b, o, none⟩) 0 c]).run P w = .ok (.slice (some ⟨g, 0, none⟩) 0 0) w := by
    simp [Builtin.append_, run_underlying hu, sizeOf, typeInfo, hi, Builtin.lenOf, Builtin.firstCells, loadCells, loadCellsFrom, storeCells]
   exact .of_run ⟨.inl ⟨rfl, rfl⟩, ExtB.refl _ _⟩ (call hrun2)
  ·have hrun := run_append_grow (P := P) (w := w) t ty e j zv hu hi hzv ⟨g, 0, none⟩ 0 0 [] (by simp) (fun j v h => by simp at h) ⟨b, o, none⟩ m c news (by rw [hl, hs']) (fun q v hv => by rw [add_none]; exact hr q v hv) (by omega) (by omega)
    (growslice_fits (by omega) (by rw [Nat.zero_add, ← h2]; exact hbytes))
   rw [Nat.zero_add] at hrun
   have hcap2 := grownCap_ge w m 0 e
   have hcm : grownCap w m 0 e ≤ maxLen := grownCap_le_maxLen w m 0 e (by simp only [maxLen]; omega)
   refine .of_run ⟨.inr ⟨hl, .inr ⟨w.heap.size, grownCap w m 0 e, _, rfl, Nat.le_refl _, heap_alloc_new w.drew _, hcap2, hcm, ?_, ?_⟩⟩, ⟨Nat.le_succ _, rfl, rfl, rfl, by simp, fun k hk _ => (by apply heap_alloc_old; exact hk)⟩⟩ (call hrun)
   ·simp only [Array.size_append, List.size_toArray, List.length_nil, size_zeroCells, hzs, hl, Nat.zero_add, ← Nat.add_mul]
    congr 1; omega
   ·simp only [Array.toList_append, List.append_assoc, List.nil_append]
    rw [List.take_append_of_le_length (by rw [hl]; exact Nat.le_refl _), ← hl, List.take_length]
theorem OpV.slice1' {T : Tab} (hT : T.Ok P) {t e : TypeId} {sz : Nat} {ag : Bool} {s bb : Nat} {z : List Value} {a u : Bool} {x : Operand} {low : Option Operand} {b o len cap : Nat} (lo : Nat)
  (ht : T.get t = some ⟨.slc sz ag e, s, bb, z, a, u⟩) (hx : evO env x = some (.slice (some ⟨b, o, none⟩) len cap)) (hl : Bnd env low 0 lo) (h1 : lo ≤ len) (h2 : len ≤ cap) (h3 : lo < cap) :
  OpV P env w ⟨dst, .slice t x low none none, ty, pos, after, guard⟩ (.slice (some ⟨b, o + lo * sz, none⟩) (len - lo) (cap - lo)) :=
 OpV.sliceSq hT ht hx hl .none h1 h2 (offOf_lt h3) rfl rfl
theorem OpE.build0 {T : Tab} (hT : T.Ok P) (t e : TypeId) {sz : Nat} {ag : Bool} {s b : Nat} {z : List Value} {a u : Bool} {ie : TI} (ht : T.get t = some ⟨.slc sz ag e, s, b, z, a, u⟩) (he : T.get e = some ie) (hz : ie.zero.length = sz) :
  OpE P env w ⟨dst, .buildSlice t 0 #[], ty, pos, after, guard⟩ (fun v w' => (∃ B, v = .slice (some ⟨B, 0, none⟩) 0 0) ∧ Ext w w') fun _ _ => False := by
 refine OpE.mono (OpE.buildSl (w := w) (env := env) hT [] ht he hz (by simp [Nat.ble]) rfl rfl (by simp)) ?_ fun _ _ h => h
 rintro v w' ⟨B, h, a⟩; exact ⟨⟨B, h⟩, a.ext⟩
end
end Go.Rn
end
