/- sign: Sign and Verify. -/
import Derived.Test.YtbjmdklcbknlpaaDoorSign1
namespace Go.Cod
open Go.Rn Go.Sha
theorem args2 {w : World} {c0 c1 : CV} {a0 a1 : Value} (h0 : ArgIn w c0 a0) (h1 : ArgIn w c1 a1) : ∀ (i : Nat) (c : CV), [c0, c1][i]? = some c → ∃ a, [a0, a1][i]? = some a ∧ ArgIn w c a
  | 0, c, h => by simp at h; subst h; exact ⟨_, rfl, h0⟩
  | 1, c, h => by simp at h; subst h; exact ⟨_, rfl, h1⟩
  | i + 2, c, h => by simp at h
theorem args3 {w : World} {c0 c1 c2 : CV} {a0 a1 a2 : Value} (h0 : ArgIn w c0 a0) (h1 : ArgIn w c1 a1) (h2 : ArgIn w c2 a2) : ∀ (i : Nat) (c : CV), [c0, c1, c2][i]? = some c → ∃ a, [a0, a1, a2][i]? = some a ∧ ArgIn w c a
  | 0, c, h => by simp at h; subst h; exact ⟨_, rfl, h0⟩
  | 1, c, h => by simp at h; subst h; exact ⟨_, rfl, h1⟩
  | 2, c, h => by simp at h; subst h; exact ⟨_, rfl, h2⟩
  | i + 3, c, h => by simp at h
theorem enc2_le (x : Int) (b : List UInt8) (hx : -9223372036854775808 ≤ x ∧ x < 9223372036854775808) (hb : b.length ≤ 800000) : (CV.list [.int x, .text b]).enc.length ≤ 900000 := by
  have h1 := num_le _ (zig_lt x hx)
  have h2 := num_le b.length (by omega)
  have h3 := num_le [CV.int x, CV.text b].length (by simp)
  simp only [CV.enc, encs, List.length_cons, List.length_append, List.length_nil] at h3 ⊢
  omega
theorem enc3_le (x y : Int) (b : List UInt8) (hx : -9223372036854775808 ≤ x ∧ x < 9223372036854775808) (hy : -9223372036854775808 ≤ y ∧ y < 9223372036854775808) (hb : b.length ≤ 800000) : (CV.list [.int x, .int y, .text b]).enc.length ≤ 900000 := by
  have h1 := num_le _ (zig_lt x hx)
  have h1' := num_le _ (zig_lt y hy)
  have h2 := num_le b.length (by omega)
  have h3 := num_le [CV.int x, CV.int y, CV.text b].length (by simp)
  simp only [CV.enc, encs, List.length_cons, List.length_append, List.length_nil] at h3 ⊢
  omega
end Go.Cod
namespace Go.Sg
open Go.Rn Go.NT Go.Sha Go.Cod Go.Proofs
attribute [local irreducible] Go.Rn.RunL Go.Rn.RunE Go.Rn.Asy Go.Rn.OpV Go.Rn.OpE Go.Rn.ExecE

theorem hashS_bd (t l : List UInt8) : 0 ≤ hashS t l ∧ hashS t l < 1073741789 := by
  unfold hashS; exact ⟨Int.natCast_nonneg _, by omega⟩
theorem mulC_bd (a b : Int) : 0 ≤ mulC a b ∧ mulC a b < 2147483579 := by
  unfold mulC; split
  · exact ⟨Int.emod_nonneg _ (by decide), Int.emod_lt_of_pos _ (by decide)⟩
  · decide
theorem validS_bd {x : Int} (h : validS x = true) : 1 ≤ x ∧ x < 2147483579 := by
  have := of_decide_eq_true h; exact ⟨this.1, this.2.1⟩

def nonceB : List UInt8 := [110, 111, 110, 99, 101]
def signB : List UInt8 := [115, 105, 103, 110]
def noncH (x : Int) (b : List UInt8) : Int := hashS nonceB (CV.list [.int x, .text b]).enc
def noncN (x : Int) (b : List UInt8) : Int := if (1 : Int) > noncH x b then 1 else noncH x b
def chal (R key : Int) (b : List UInt8) : Int := hashS signB (CV.list [.int R, .int key, .text b]).enc
def inQ (x : Int) : Bool := decide (1 ≤ x ∧ x < 1073741789)
def sigE (x : Int) (b : List UInt8) : Int := if inQ x then chal (powC 4 (noncN x b)) (powC 4 x) b else 0
def sigS (x : Int) (b : List UInt8) : Int := if inQ x then (noncN x b + sigE x b * x % 1073741789) % 1073741789 else 0
def sigR (x : Int) : Int := if inQ x then 0 else 110
def sigOk (key E S : Int) : Bool := decide (0 ≤ E ∧ E < 1073741789 ∧ 0 ≤ S ∧ S < 1073741789) && validS key
def verS (key : Int) (b : List UInt8) (E S : Int) : Bool := sigOk key E S && (E == chal (mulC (powC 4 S) (powC key (-E))) key b)
theorem noncN_bd (x : Int) (b : List UInt8) : 1 ≤ noncN x b ∧ noncN x b < 1073741789 := by
  have := hashS_bd nonceB (CV.list [.int x, .text b]).enc
  unfold noncN noncH; split <;> omega

theorem power_ok (a n : Int) (w : World) : Rets Tryd.prog 34 [.int .i64 a, .int .i64 n] w fun v w' => v = .int .i64 (powC a n) ∧ Ext w w' := by
  refine RetsX.of (nt := 14) Tryd.func34 (by kernel_rfl) rfl rfl (by simp) (by simp only [argEnv]; rfl) ?_
  repeat (first | refine RunL.pureI Tryd.tOk rfl rfl rfl (by (first | exact wr_i64 (by omega) (by omega) | exact wm_i64 (by omega) | exact wq_i64 (by omega) (by omega) (by omega) | rfl)) ?_ | refine RunL.pure Tryd.tOk rfl rfl rfl ?_ | refine RunL.unwantedD rfl rfl ?_ | refine RunE.seq ?_ | refine RunE.region ?_ | refine RunL.nil ?_ | refine RunE.block ?_ | refine RunE.inBlock ?_ | refine RunE.skip ?_ | refine RunE.exit rfl ?_ | refine RunE.scope ?_ | refine RunE.inScope ?_ | refine RunE.label ?_)
  refine RunL.call rfl rfl rfl (pow_ok a n _) ?_
  rintro _ w1 ⟨rfl, X1⟩
  repeat (first | refine RunL.pureI Tryd.tOk rfl rfl rfl (by (first | exact wr_i64 (by omega) (by omega) | exact wm_i64 (by omega) | exact wq_i64 (by omega) (by omega) (by omega) | rfl)) ?_ | refine RunL.pure Tryd.tOk rfl rfl rfl ?_ | refine RunL.unwantedD rfl rfl ?_ | refine RunE.seq ?_ | refine RunE.region ?_ | refine RunL.nil ?_ | refine RunE.block ?_ | refine RunE.inBlock ?_ | refine RunE.skip ?_ | refine RunE.exit rfl ?_ | refine RunE.scope ?_ | refine RunE.inScope ?_ | refine RunE.label ?_)
  exact RunE.retFn Tryd.func34 (.tmp rfl .nil) ⟨rfl, X1⟩
theorem plus_ok (a n : Int) (w : World) (h : 0 ≤ a ∧ a < 1073741789) (h' : 0 ≤ n ∧ n < 1073741789) : Rets Tryd.prog 35 [.int .i64 a, .int .i64 n] w fun v w' => v = .int .i64 ((a + n) % 1073741789) ∧ w' = w := by
  refine RetsX.of (nt := 9) Tryd.func35 (by kernel_rfl) rfl rfl (by simp) (by simp only [argEnv]; rfl) ?_
  repeat (first | refine RunL.pureI Tryd.tOk rfl rfl rfl (by (first | exact wr_i64 (by omega) (by omega) | exact wm_i64 (by omega) | exact wq_i64 (by omega) (by omega) (by omega) | rfl)) ?_ | refine RunL.pure Tryd.tOk rfl rfl rfl ?_ | refine RunL.unwantedD rfl rfl ?_ | refine RunE.seq ?_ | refine RunE.region ?_ | refine RunL.nil ?_ | refine RunE.block ?_ | refine RunE.inBlock ?_ | refine RunE.skip ?_ | refine RunE.exit rfl ?_ | refine RunE.scope ?_ | refine RunE.inScope ?_ | refine RunE.label ?_)
  exact RunE.retFn Tryd.func35 (.tmp rfl .nil) ⟨rfl, rfl⟩
theorem mul_bd30 {i k : Int} (hi : 0 ≤ i ∧ i < 1073741824) (hk : 0 ≤ k ∧ k < 1073741824) : 0 ≤ i * k ∧ i * k ≤ 1152921504606846976 := by
  refine ⟨Int.mul_nonneg hi.1 hk.1, ?_⟩
  have := Int.mul_le_mul (show i ≤ 1073741824 by omega) (show k ≤ 1073741824 by omega) hk.1 (by decide)
  omega
theorem times_ok (a n : Int) (w : World) (h : 0 ≤ a ∧ a < 1073741789) (h' : 0 ≤ n ∧ n < 1073741789) : Rets Tryd.prog 36 [.int .i64 a, .int .i64 n] w fun v w' => v = .int .i64 (a * n % 1073741789) ∧ w' = w := by
  have hm := mul_bd30 (i := a) (k := n) (by omega) (by omega)
  refine RetsX.of (nt := 9) Tryd.func36 (by kernel_rfl) rfl rfl (by simp) (by simp only [argEnv]; rfl) ?_
  repeat (first | refine RunL.pureI Tryd.tOk rfl rfl rfl (by (first | exact wr_i64 (by omega) (by omega) | exact wm_i64 (by omega) | exact wq_i64 (by omega) (by omega) (by omega) | rfl)) ?_ | refine RunL.pure Tryd.tOk rfl rfl rfl ?_ | refine RunL.unwantedD rfl rfl ?_ | refine RunE.seq ?_ | refine RunE.region ?_ | refine RunL.nil ?_ | refine RunE.block ?_ | refine RunE.inBlock ?_ | refine RunE.skip ?_ | refine RunE.exit rfl ?_ | refine RunE.scope ?_ | refine RunE.inScope ?_ | refine RunE.label ?_)
  exact RunE.retFn Tryd.func36 (.tmp rfl .nil) ⟨rfl, rfl⟩

theorem vals_ext {S : Nat → Prop} {w w' : World} {g : Nat} {cs : List Value} (h : Row w g 0 cs) (e : ExtB S w w') (hn : ¬ S g) : Row w' g 0 cs := h.ext e hn

set_option maxHeartbeats 2000000 in
theorem sign_ok (x : Int) (v : Value) (b : List UInt8) (w : World) (hx : -9223372036854775808 ≤ x ∧ x < 9223372036854775808) (hv : IsSl w 1 v b.length (bytesV b)) (hb : b.length ≤ 800000) (hS : Row w 0 0 (vals init8.l)) (hkT : Row w 1 0 (vals kTab)) :
    Rets Tryd.prog 18 [.int .i64 x, v] w fun r w' => r = .tuple #[.agg #[.int .i64 (sigE x b), .int .i64 (sigS x b)], .int .i64 (sigR x)] ∧ Ext w w' := by
  refine RetsX.of (nt := 45) Tryd.func18 (by kernel_rfl) rfl rfl (by simp) (by simp only [argEnv]; rfl) ?_
  repeat (first | refine RunL.pureI Tryd.tOk rfl rfl rfl (by (first | exact wr_i64 (by omega) (by omega) | exact wm_i64 (by omega) | exact wq_i64 (by omega) (by omega) (by omega) | rfl)) ?_ | refine RunL.pure Tryd.tOk rfl rfl rfl ?_ | refine RunL.unwantedD rfl rfl ?_ | refine RunE.seq ?_ | refine RunE.region ?_ | refine RunL.nil ?_ | refine RunE.block ?_ | refine RunE.inBlock ?_ | refine RunE.skip ?_ | refine RunE.exit rfl ?_ | refine RunE.scope ?_ | refine RunE.inScope ?_ | refine RunE.label ?_)
  refine RunL.alloc Tryd.tOk rfl rfl rfl fun B4 w1 a1 => ?_
  have Z1 : Blk w1 B4 [.int .i64 0, .int .i64 0] 34 := a1.at_
  have hB4 := a1.eq
  have X1 := a1.ext
  have z1 := a1.size
  clear a1
  cases hq : inQ x with
  | false =>
    have hq' : ¬ (1 ≤ x ∧ x < 1073741789) := of_decide_eq_false hq
    by_cases h1 : x < 1
    · repeat (first | refine RunL.pureB Tryd.tOk _ rfl rfl rfl (by exact decide_eq_true h1) ?_ | refine RunL.pureI Tryd.tOk rfl rfl rfl (by (first | exact wr_i64 (by omega) (by omega) | exact wm_i64 (by omega) | exact wq_i64 (by omega) (by omega) (by omega) | rfl)) ?_ | refine RunL.pure Tryd.tOk rfl rfl rfl ?_ | refine RunL.unwantedD rfl rfl ?_ | refine RunL.val rfl rfl rfl (OpV.indexAK Tryd.tOk rfl rfl rfl rfl) ?_ | refine RunL.val rfl rfl rfl (OpV.indexSK Tryd.tOk rfl rfl rfl rfl) ?_ | refine RunL.val rfl rfl rfl (OpV.load1 Tryd.tOk rfl rfl rfl (Blk.cell Z1 rfl)) ?_ | refine RunE.seq ?_ | refine RunE.region ?_ | refine RunL.nil ?_ | refine RunE.block ?_ | refine RunE.inBlock ?_ | refine RunE.skip ?_ | refine RunE.exit rfl ?_ | refine RunE.scope ?_ | refine RunE.inScope ?_ | refine RunE.label ?_)
      refine RunE.condT rfl rfl ?_
      repeat (first | refine RunL.pureI Tryd.tOk rfl rfl rfl (by (first | exact wr_i64 (by omega) (by omega) | exact wm_i64 (by omega) | exact wq_i64 (by omega) (by omega) (by omega) | rfl)) ?_ | refine RunL.pure Tryd.tOk rfl rfl rfl ?_ | refine RunL.unwantedD rfl rfl ?_ | refine RunE.seq ?_ | refine RunE.region ?_ | refine RunL.nil ?_ | refine RunE.block ?_ | refine RunE.inBlock ?_ | refine RunE.skip ?_ | refine RunE.exit rfl ?_ | refine RunE.scope ?_ | refine RunE.inScope ?_ | refine RunE.label ?_)
      refine RunL.val rfl rfl rfl (OpV.loadN (cs := [.int .i64 0, .int .i64 0]) Tryd.tOk rfl rfl rfl rfl Z1.row) ?_
      refine RunL.store Tryd.tOk rfl rfl rfl rfl rfl Z1 rfl rfl fun w3 t3 => ?_
      repeat (first | refine RunL.pureI Tryd.tOk rfl rfl rfl (by (first | exact wr_i64 (by omega) (by omega) | exact wm_i64 (by omega) | exact wq_i64 (by omega) (by omega) (by omega) | rfl)) ?_ | refine RunL.pure Tryd.tOk rfl rfl rfl ?_ | refine RunL.unwantedD rfl rfl ?_ | refine RunE.seq ?_ | refine RunE.region ?_ | refine RunL.nil ?_ | refine RunE.block ?_ | refine RunE.inBlock ?_ | refine RunE.skip ?_ | refine RunE.exit rfl ?_ | refine RunE.scope ?_ | refine RunE.inScope ?_ | refine RunE.label ?_)
      refine RunE.retFn Tryd.func18 (.cell rfl (.agg Tryd.tOk rfl rfl rfl (Blk.row (show Blk w3 B4 [.int .i64 0, .int .i64 0] 34 from t3.at_))) (.tmp rfl .nil)) ⟨?_, X1.write t3.ext (by intro i hi hlt; subst hi; omega)⟩
      simp [oneOr, sigE, sigS, sigR, hq]
    · repeat (first | refine RunL.pureB Tryd.tOk _ rfl rfl rfl (by exact decide_eq_false h1) ?_ | refine RunL.pureB Tryd.tOk _ rfl rfl rfl (by exact decide_eq_true (by omega)) ?_ | refine RunL.pureI Tryd.tOk rfl rfl rfl (by (first | exact wr_i64 (by omega) (by omega) | exact wm_i64 (by omega) | exact wq_i64 (by omega) (by omega) (by omega) | rfl)) ?_ | refine RunL.pure Tryd.tOk rfl rfl rfl ?_ | refine RunL.unwantedD rfl rfl ?_ | refine RunL.val rfl rfl rfl (OpV.indexAK Tryd.tOk rfl rfl rfl rfl) ?_ | refine RunL.val rfl rfl rfl (OpV.indexSK Tryd.tOk rfl rfl rfl rfl) ?_ | refine RunL.val rfl rfl rfl (OpV.load1 Tryd.tOk rfl rfl rfl (Blk.cell Z1 rfl)) ?_ | refine RunE.seq ?_ | refine RunE.region ?_ | refine RunL.nil ?_ | refine RunE.block ?_ | refine RunE.inBlock ?_ | refine RunE.skip ?_ | refine RunE.exit rfl ?_ | refine RunE.scope ?_ | refine RunE.inScope ?_ | refine RunE.label ?_)
      refine RunE.condT rfl rfl ?_
      repeat (first | refine RunL.pureI Tryd.tOk rfl rfl rfl (by (first | exact wr_i64 (by omega) (by omega) | exact wm_i64 (by omega) | exact wq_i64 (by omega) (by omega) (by omega) | rfl)) ?_ | refine RunL.pure Tryd.tOk rfl rfl rfl ?_ | refine RunL.unwantedD rfl rfl ?_ | refine RunE.seq ?_ | refine RunE.region ?_ | refine RunL.nil ?_ | refine RunE.block ?_ | refine RunE.inBlock ?_ | refine RunE.skip ?_ | refine RunE.exit rfl ?_ | refine RunE.scope ?_ | refine RunE.inScope ?_ | refine RunE.label ?_)
      refine RunL.val rfl rfl rfl (OpV.loadN (cs := [.int .i64 0, .int .i64 0]) Tryd.tOk rfl rfl rfl rfl Z1.row) ?_
      refine RunL.store Tryd.tOk rfl rfl rfl rfl rfl Z1 rfl rfl fun w3 t3 => ?_
      repeat (first | refine RunL.pureI Tryd.tOk rfl rfl rfl (by (first | exact wr_i64 (by omega) (by omega) | exact wm_i64 (by omega) | exact wq_i64 (by omega) (by omega) (by omega) | rfl)) ?_ | refine RunL.pure Tryd.tOk rfl rfl rfl ?_ | refine RunL.unwantedD rfl rfl ?_ | refine RunE.seq ?_ | refine RunE.region ?_ | refine RunL.nil ?_ | refine RunE.block ?_ | refine RunE.inBlock ?_ | refine RunE.skip ?_ | refine RunE.exit rfl ?_ | refine RunE.scope ?_ | refine RunE.inScope ?_ | refine RunE.label ?_)
      refine RunE.retFn Tryd.func18 (.cell rfl (.agg Tryd.tOk rfl rfl rfl (Blk.row (show Blk w3 B4 [.int .i64 0, .int .i64 0] 34 from t3.at_))) (.tmp rfl .nil)) ⟨?_, X1.write t3.ext (by intro i hi hlt; subst hi; omega)⟩
      simp [oneOr, sigE, sigS, sigR, hq]
  | true =>
    have hq' : 1 ≤ x ∧ x < 1073741789 := of_decide_eq_true hq
    repeat (first | refine RunL.pureB Tryd.tOk _ rfl rfl rfl (by exact decide_eq_false (by omega)) ?_ | refine RunL.pureI Tryd.tOk rfl rfl rfl (by (first | exact wr_i64 (by omega) (by omega) | exact wm_i64 (by omega) | exact wq_i64 (by omega) (by omega) (by omega) | rfl)) ?_ | refine RunL.pure Tryd.tOk rfl rfl rfl ?_ | refine RunL.unwantedD rfl rfl ?_ | refine RunL.val rfl rfl rfl (OpV.indexAK Tryd.tOk rfl rfl rfl rfl) ?_ | refine RunL.val rfl rfl rfl (OpV.indexSK Tryd.tOk rfl rfl rfl rfl) ?_ | refine RunL.val rfl rfl rfl (OpV.load1 Tryd.tOk rfl rfl rfl (Blk.cell Z1 rfl)) ?_ | refine RunE.seq ?_ | refine RunE.region ?_ | refine RunL.nil ?_ | refine RunE.block ?_ | refine RunE.inBlock ?_ | refine RunE.skip ?_ | refine RunE.exit rfl ?_ | refine RunE.scope ?_ | refine RunE.inScope ?_ | refine RunE.label ?_)
    refine RunE.condF rfl rfl ?_
    repeat (first | refine RunL.pureI Tryd.tOk rfl rfl rfl (by (first | exact wr_i64 (by omega) (by omega) | exact wm_i64 (by omega) | exact wq_i64 (by omega) (by omega) (by omega) | rfl)) ?_ | refine RunL.pure Tryd.tOk rfl rfl rfl ?_ | refine RunL.unwantedD rfl rfl ?_ | refine RunE.seq ?_ | refine RunE.region ?_ | refine RunL.nil ?_ | refine RunE.block ?_ | refine RunE.inBlock ?_ | refine RunE.skip ?_ | refine RunE.exit rfl ?_ | refine RunE.scope ?_ | refine RunE.inScope ?_ | refine RunE.label ?_)
    refine RunL.ex rfl rfl rfl (OpE.buildSl Tryd.tOk [.iface 3 (.int .i64 x), .iface 22 v] rfl rfl rfl rfl rfl rfl (by simp [Value.cells])) ?_
    rintro _ w2 ⟨B, rfl, a2⟩
    have X2 := X1.trans a2.ext
    refine RunL.call rfl rfl rfl (list_ok [.int x, .text b] _ _ w2 (isSl_added (n := 2) (sz := 1) a2 rfl) (args2 (.int hx) (.text (hv.extE X2) (by omega))) (by simp) (enc2_le x b hx hb)) ?_
    rintro r3 w3 ⟨O3, X3⟩
    have Y3 := X2.trans X3
    refine RunL.call rfl rfl rfl (hash_ok ⟨#[110, 111, 110, 99, 101]⟩ r3 _ w3 (by decide) (isSl_own O3) (enc2_le x b hx hb) (hS.extE Y3) (hkT.extE Y3)) ?_
    rintro _ w4 ⟨rfl, X4⟩
    have Y4 := Y3.trans X4
    have Z4 := ((Z1.ext a2.ext id).ext X3 id).ext X4 id
    clear a2 O3
    have hkb := noncN_bd x b
    have hc := hashS_bd signB (CV.list [.int (powC 4 (noncN x b)), .int (powC 4 x), .text b]).enc
    have hp1 := powC_bd 4 (noncN x b)
    have hp2 := powC_bd 4 x
    refine RunL.pureI (m' := noncN x b) Tryd.tOk rfl rfl rfl (by rfl) ?_
    generalize hk : noncN x b = kx at *
    repeat (first | refine RunL.pureI Tryd.tOk rfl rfl rfl (by (first | exact wr_i64 (by omega) (by omega) | exact wm_i64 (by omega) | exact wq_i64 (by omega) (by omega) (by omega) | rfl)) ?_ | refine RunL.pure Tryd.tOk rfl rfl rfl ?_ | refine RunL.unwantedD rfl rfl ?_ | refine RunE.seq ?_ | refine RunE.region ?_ | refine RunL.nil ?_ | refine RunE.block ?_ | refine RunE.inBlock ?_ | refine RunE.skip ?_ | refine RunE.exit rfl ?_ | refine RunE.scope ?_ | refine RunE.inScope ?_ | refine RunE.label ?_)
    refine RunL.call rfl rfl rfl (power_ok 4 kx _) ?_
    rintro _ w5 ⟨rfl, X5⟩
    repeat (first | refine RunL.pureI Tryd.tOk rfl rfl rfl (by (first | exact wr_i64 (by omega) (by omega) | exact wm_i64 (by omega) | exact wq_i64 (by omega) (by omega) (by omega) | rfl)) ?_ | refine RunL.pure Tryd.tOk rfl rfl rfl ?_ | refine RunL.unwantedD rfl rfl ?_ | refine RunE.seq ?_ | refine RunE.region ?_ | refine RunL.nil ?_ | refine RunE.block ?_ | refine RunE.inBlock ?_ | refine RunE.skip ?_ | refine RunE.exit rfl ?_ | refine RunE.scope ?_ | refine RunE.inScope ?_ | refine RunE.label ?_)
    refine RunL.call rfl rfl rfl (power_ok 4 x _) ?_
    rintro _ w6 ⟨rfl, X6⟩
    have Y6 := (Y4.trans X5).trans X6
    repeat (first | refine RunL.pureI Tryd.tOk rfl rfl rfl (by (first | exact wr_i64 (by omega) (by omega) | exact wm_i64 (by omega) | exact wq_i64 (by omega) (by omega) (by omega) | rfl)) ?_ | refine RunL.pure Tryd.tOk rfl rfl rfl ?_ | refine RunL.unwantedD rfl rfl ?_ | refine RunE.seq ?_ | refine RunE.region ?_ | refine RunL.nil ?_ | refine RunE.block ?_ | refine RunE.inBlock ?_ | refine RunE.skip ?_ | refine RunE.exit rfl ?_ | refine RunE.scope ?_ | refine RunE.inScope ?_ | refine RunE.label ?_)
    refine RunL.ex rfl rfl rfl (OpE.buildSl Tryd.tOk [.iface 3 (.int .i64 (powC 4 kx)), .iface 3 (.int .i64 (powC 4 x)), .iface 22 v] rfl rfl rfl rfl rfl rfl (by simp [Value.cells])) ?_
    rintro _ w7 ⟨B', rfl, a7⟩
    have Y7 := Y6.trans a7.ext
    refine RunL.call rfl rfl rfl (list_ok [.int (powC 4 kx), .int (powC 4 x), .text b] _ _ w7 (isSl_added (n := 3) (sz := 1) a7 rfl) (args3 (.int (by omega)) (.int (by omega)) (.text (hv.extE Y7) (by omega))) (by simp) (enc3_le _ _ b (by omega) (by omega) hb)) ?_
    rintro r8 w8 ⟨O8, X8⟩
    have Y8 := Y7.trans X8
    refine RunL.call rfl rfl rfl (hash_ok ⟨#[115, 105, 103, 110]⟩ r8 _ w8 (by decide) (isSl_own O8) (enc3_le _ _ b (by omega) (by omega) hb) (hS.extE Y8) (hkT.extE Y8)) ?_
    rintro _ w9 ⟨rfl, X9⟩
    have Y9 := Y8.trans X9
    have Z9 := ((((Z4.ext X5 id).ext X6 id).ext a7.ext id).ext X8 id).ext X9 id
    clear a7 O8
    have hE : sigE x b = hashS signB (CV.list [.int (powC 4 kx), .int (powC 4 x), .text b]).enc := by
      unfold sigE chal; rw [hq, if_pos rfl, hk]
    change 0 ≤ hashS [115, 105, 103, 110] (CV.list [.int (powC 4 kx), .int (powC 4 x), .text b]).enc ∧ hashS [115, 105, 103, 110] (CV.list [.int (powC 4 kx), .int (powC 4 x), .text b]).enc < 1073741789 at hc
    have hE' : hashS [115, 105, 103, 110] (CV.list [.int (powC 4 kx), .int (powC 4 x), .text b]).enc = sigE x b := hE.symm
    rw [hE'] at hc
    show RunL _ _ _ _ _ _ _ _ ((33, .int .i64 (hashS [115, 105, 103, 110] (CV.list [.int (powC 4 kx), .int (powC 4 x), .text b]).enc)) :: _) _
    rw [hE']
    generalize hEg : sigE x b = E at *
    have hm := mul_bd30 (i := E) (k := x) (by omega) (by omega)
    have hm2 : 0 ≤ E * x % 1073741789 ∧ E * x % 1073741789 < 1073741789 := ⟨Int.emod_nonneg _ (by decide), Int.emod_lt_of_pos _ (by decide)⟩
    repeat (first | refine RunL.pureI Tryd.tOk rfl rfl rfl (by (first | exact wr_i64 (by omega) (by omega) | exact wm_i64 (by omega) | exact wq_i64 (by omega) (by omega) (by omega) | rfl)) ?_ | refine RunL.pure Tryd.tOk rfl rfl rfl ?_ | refine RunL.unwantedD rfl rfl ?_ | refine RunE.seq ?_ | refine RunE.region ?_ | refine RunL.nil ?_ | refine RunE.block ?_ | refine RunE.inBlock ?_ | refine RunE.skip ?_ | refine RunE.exit rfl ?_ | refine RunE.scope ?_ | refine RunE.inScope ?_ | refine RunE.label ?_)
    refine RunL.store Tryd.tOk rfl rfl rfl rfl rfl Z9 rfl rfl fun wa ta => ?_
    have Za : Blk wa B4 [.int .i64 E, .int .i64 0] 34 := ta.at_
    have Ya := Y9.write ta.ext (S := fun _ => False) (by intro i hi hlt; subst hi; omega)
    clear ta
    repeat (first | refine RunL.pureI Tryd.tOk rfl rfl rfl (by (first | exact wr_i64 (by omega) (by omega) | exact wm_i64 (by omega) | exact wq_i64 (by omega) (by omega) (by omega) | rfl)) ?_ | refine RunL.pure Tryd.tOk rfl rfl rfl ?_ | refine RunL.unwantedD rfl rfl ?_ | refine RunL.val rfl rfl rfl (OpV.indexAK Tryd.tOk rfl rfl rfl rfl) ?_ | refine RunL.val rfl rfl rfl (OpV.indexSK Tryd.tOk rfl rfl rfl rfl) ?_ | refine RunL.val rfl rfl rfl (OpV.load1 Tryd.tOk rfl rfl rfl (Blk.cell Za rfl)) ?_ | refine RunE.seq ?_ | refine RunE.region ?_ | refine RunL.nil ?_ | refine RunE.block ?_ | refine RunE.inBlock ?_ | refine RunE.skip ?_ | refine RunE.exit rfl ?_ | refine RunE.scope ?_ | refine RunE.inScope ?_ | refine RunE.label ?_)
    refine RunL.call rfl rfl rfl (times_ok E x _ hc (by omega)) ?_
    rintro _ _ ⟨rfl, rfl⟩
    refine RunL.callV (fv := .func (.func 35) #[.int .i64 kx] #[]) rfl rfl rfl rfl (Rets.v (fi := [.int .i64 kx]) (all := [.int .i64 kx, .int .i64 (E * x % 1073741789)]) (plus_ok kx _ _ (by omega) hm2) rfl) (fun _ _ _ h => h.elim) ?_
    rintro _ _ ⟨rfl, rfl⟩
    repeat (first | refine RunL.pureI Tryd.tOk rfl rfl rfl (by (first | exact wr_i64 (by omega) (by omega) | exact wm_i64 (by omega) | exact wq_i64 (by omega) (by omega) (by omega) | rfl)) ?_ | refine RunL.pure Tryd.tOk rfl rfl rfl ?_ | refine RunL.unwantedD rfl rfl ?_ | refine RunE.seq ?_ | refine RunE.region ?_ | refine RunL.nil ?_ | refine RunE.block ?_ | refine RunE.inBlock ?_ | refine RunE.skip ?_ | refine RunE.exit rfl ?_ | refine RunE.scope ?_ | refine RunE.inScope ?_ | refine RunE.label ?_)
    refine RunL.store Tryd.tOk rfl rfl rfl rfl rfl Za rfl rfl fun wb tb => ?_
    have Zb : Blk wb B4 [.int .i64 E, .int .i64 ((kx + E * x % 1073741789) % 1073741789)] 34 := tb.at_
    have Yb := Ya.write tb.ext (S := fun _ => False) (by intro i hi hlt; subst hi; omega)
    clear tb
    repeat (first | refine RunL.pureI Tryd.tOk rfl rfl rfl (by (first | exact wr_i64 (by omega) (by omega) | exact wm_i64 (by omega) | exact wq_i64 (by omega) (by omega) (by omega) | rfl)) ?_ | refine RunL.pure Tryd.tOk rfl rfl rfl ?_ | refine RunL.unwantedD rfl rfl ?_ | refine RunE.seq ?_ | refine RunE.region ?_ | refine RunL.nil ?_ | refine RunE.block ?_ | refine RunE.inBlock ?_ | refine RunE.skip ?_ | refine RunE.exit rfl ?_ | refine RunE.scope ?_ | refine RunE.inScope ?_ | refine RunE.label ?_)
    refine RunL.val rfl rfl rfl (OpV.loadN (cs := [.int .i64 E, .int .i64 ((kx + E * x % 1073741789) % 1073741789)]) Tryd.tOk rfl rfl rfl rfl Zb.row) ?_
    refine RunL.store Tryd.tOk rfl rfl rfl rfl rfl Zb rfl rfl fun wc tc => ?_
    repeat (first | refine RunL.pureI Tryd.tOk rfl rfl rfl (by (first | exact wr_i64 (by omega) (by omega) | exact wm_i64 (by omega) | exact wq_i64 (by omega) (by omega) (by omega) | rfl)) ?_ | refine RunL.pure Tryd.tOk rfl rfl rfl ?_ | refine RunL.unwantedD rfl rfl ?_ | refine RunE.seq ?_ | refine RunE.region ?_ | refine RunL.nil ?_ | refine RunE.block ?_ | refine RunE.inBlock ?_ | refine RunE.skip ?_ | refine RunE.exit rfl ?_ | refine RunE.scope ?_ | refine RunE.inScope ?_ | refine RunE.label ?_)
    refine RunE.retFn Tryd.func18 (.cell rfl (.agg Tryd.tOk rfl rfl rfl (Blk.row (show Blk wc B4 [.int .i64 E, .int .i64 ((kx + E * x % 1073741789) % 1073741789)] 34 from tc.at_))) (.tmp rfl .nil)) ⟨?_, Yb.write tc.ext (by intro i hi hlt; subst hi; omega)⟩
    have hSg : sigS x b = (kx + E * x % 1073741789) % 1073741789 := by unfold sigS; rw [hq, if_pos rfl, hk, hEg]
    simp [oneOr, hSg, sigR, hq]
end Go.Sg
