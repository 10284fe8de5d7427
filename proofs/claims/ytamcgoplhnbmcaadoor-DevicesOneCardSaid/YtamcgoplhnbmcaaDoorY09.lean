/- Parts of this project that the claims share: Sign2, Sign3, DevA, Dev3, Dev4, DevF, Close, OpenL, CloseT, Laid, SigEq, OpenS, DevO, Ref11P. -/
import Derived.Test.YtamcgoplhnbmcaaDoorY08
import Derived.Test.YtamcgoplhnbmcaaDoorY05
import Derived.Test.YtamcgoplhnbmcaaDoorY04
import Derived.Test.YtamcgoplhnbmcaaDoorY02
import Derived.Test.YtamcgoplhnbmcaaDoorRows
import Derived.WalkKit
import Derived.ProofKit
import Derived.OpenShut
import Derived.Carry
import Derived.ChangeSame
import Derived.Test.YtamcgoplhnbmcaaDoorY03
import Derived.Test.YtamcgoplhnbmcaaDoorTie
import Derived.Test.YtamcgoplhnbmcaaDoorCards
import Derived.LaidMore
import Derived.Stop.Joined
import Derived.MakeChecks
import Derived.ChangeMaps5
import Derived.Laws.StructEq
set_option linter.unusedSimpArgs false
set_option linter.unusedVariables false
set_option linter.unusedSectionVars false
section
/- sign: Sign and Verify. -/
namespace Go.Cod
open Go.Rn Go.Sha
theorem args2 {w : World} {c0 c1 : CV} {a0 a1 : Value} (h0 : ArgIn w c0 a0) (h1 : ArgIn w c1 a1) : ∀ (i : Nat) (c : CV), [c0, c1][i]? = some c → ∃ a, [a0, a1][i]? = some a ∧ ArgIn w c a
  | 0, c, h => by simp at h; subst h; exact ⟨_, rfl, h0⟩
  | 1, c, h => by simp at h; subst h; exact ⟨_, rfl, h1⟩
  | i + 2, c, h => by simp at h
theorem args3 {w : World} {c0 c1 c2 : CV} {a0 a1 a2 : Value} (h0 : ArgIn w c0 a0) (h1 : ArgIn w c1 a1) (h2 : ArgIn w c2 a2) : ∀ (i : Nat) (c : CV), [c0, c1, c2][i]? = some c → ∃ a, [a0, a1, a2][i]? = some a ∧ ArgIn w c a
  | 0, c, h => by simp at h; subst h; exact ⟨_, rfl, h0⟩
  | 1, c, h => by simp at h; subst h; exact ⟨_, rfl, h1⟩
  | 2, c, h => by simp at h; subst h; exact ⟨_, rfl, h2⟩
  | i + 3, c, h => by simp at h
theorem enc2_le (x : Int) (b : List UInt8) (hx : -9223372036854775808 ≤ x ∧ x < 9223372036854775808) (hb : b.length ≤ 800000) : (CV.list [.int x, .text b]).enc.length ≤ 900000 := by
  have h1 := num_le _ (zig_lt x hx)
  have h2 := num_le b.length (by omega)
  have h3 := num_le [CV.int x, CV.text b].length (by simp)
  simp only [CV.enc, encs, List.length_cons, List.length_append, List.length_nil] at h3 ⊢
  omega
theorem enc3_le (x y : Int) (b : List UInt8) (hx : -9223372036854775808 ≤ x ∧ x < 9223372036854775808) (hy : -9223372036854775808 ≤ y ∧ y < 9223372036854775808) (hb : b.length ≤ 800000) : (CV.list [.int x, .int y, .text b]).enc.length ≤ 900000 := by
  have h1 := num_le _ (zig_lt x hx)
  have h1' := num_le _ (zig_lt y hy)
  have h2 := num_le b.length (by omega)
  have h3 := num_le [CV.int x, CV.int y, CV.text b].length (by simp)
  simp only [CV.enc, encs, List.length_cons, List.length_append, List.length_nil] at h3 ⊢
  omega
end Go.Cod
namespace Go.Sg
open Go.Rn Go.NT Go.Sha Go.Cod Go.Proofs
attribute [local irreducible] Go.Rn.RunL Go.Rn.RunE Go.Rn.Asy Go.Rn.OpV Go.Rn.OpE Go.Rn.ExecE

theorem hashS_bd (t l : List UInt8) : 0 ≤ hashS t l ∧ hashS t l < 1073741789 := by
  unfold hashS; exact ⟨Int.natCast_nonneg _, by omega⟩
theorem mulC_bd (a b : Int) : 0 ≤ mulC a b ∧ mulC a b < 2147483579 := by
  unfold mulC; split
  · exact ⟨Int.emod_nonneg _ (by decide), Int.emod_lt_of_pos _ (by decide)⟩
  · decide
theorem validS_bd {x : Int} (h : validS x = true) : 1 ≤ x ∧ x < 2147483579 := by
  have := of_decide_eq_true h; exact ⟨this.1, this.2.1⟩

def nonceB : List UInt8 := [110, 111, 110, 99, 101]
def signB : List UInt8 := [115, 105, 103, 110]
def noncH (x : Int) (b : List UInt8) : Int := hashS nonceB (CV.list [.int x, .text b]).enc
def noncN (x : Int) (b : List UInt8) : Int := if (1 : Int) > noncH x b then 1 else noncH x b
def chal (R key : Int) (b : List UInt8) : Int := hashS signB (CV.list [.int R, .int key, .text b]).enc
def inQ (x : Int) : Bool := decide (1 ≤ x ∧ x < 1073741789)
def sigE (x : Int) (b : List UInt8) : Int := if inQ x then chal (powC 4 (noncN x b)) (powC 4 x) b else 0
def sigS (x : Int) (b : List UInt8) : Int := if inQ x then (noncN x b + sigE x b * x % 1073741789) % 1073741789 else 0
def sigR (x : Int) : Int := if inQ x then 0 else 110
def sigOk (key E S : Int) : Bool := decide (0 ≤ E ∧ E < 1073741789 ∧ 0 ≤ S ∧ S < 1073741789) && validS key
def verS (key : Int) (b : List UInt8) (E S : Int) : Bool := sigOk key E S && (E == chal (mulC (powC 4 S) (powC key (-E))) key b)
theorem noncN_bd (x : Int) (b : List UInt8) : 1 ≤ noncN x b ∧ noncN x b < 1073741789 := by
  have := hashS_bd nonceB (CV.list [.int x, .text b]).enc
  unfold noncN noncH; split <;> omega

set_option maxRecDepth 4000 in
theorem power_ok (a n : Int) (w : World) : Rets Tryd.prog 76 [.int .i64 a, .int .i64 n] w fun v w' => v = .int .i64 (powC a n) ∧ Ext w w' := by
  refine RetsX.of (nt := 14) Tryd.func76 (by kernel_rfl) rfl rfl (by simp) (by simp only [argEnv]; rfl) ?_
  repeat (first | refine RunL.pureI Tryd.tOk rfl rfl rfl (by (first | exact wr_i64 (by omega) (by omega) | exact wm_i64 (by omega) | exact wq_i64 (by omega) (by omega) (by omega) | rfl)) ?_ | refine RunL.pure Tryd.tOk rfl rfl rfl ?_ | refine RunL.unwantedD rfl rfl ?_ | refine RunE.seq ?_ | refine RunE.region ?_ | refine RunL.nil ?_ | refine RunE.block ?_ | refine RunE.inBlock ?_ | refine RunE.skip ?_ | refine RunE.exit rfl ?_ | refine RunE.scope ?_ | refine RunE.inScope ?_ | refine RunE.label ?_)
  refine RunL.call rfl rfl rfl (pow_ok a n _) ?_
  rintro _ w1 ⟨rfl, X1⟩
  repeat (first | refine RunL.pureI Tryd.tOk rfl rfl rfl (by (first | exact wr_i64 (by omega) (by omega) | exact wm_i64 (by omega) | exact wq_i64 (by omega) (by omega) (by omega) | rfl)) ?_ | refine RunL.pure Tryd.tOk rfl rfl rfl ?_ | refine RunL.unwantedD rfl rfl ?_ | refine RunE.seq ?_ | refine RunE.region ?_ | refine RunL.nil ?_ | refine RunE.block ?_ | refine RunE.inBlock ?_ | refine RunE.skip ?_ | refine RunE.exit rfl ?_ | refine RunE.scope ?_ | refine RunE.inScope ?_ | refine RunE.label ?_)
  exact RunE.retFn Tryd.func76 (.tmp rfl .nil) ⟨rfl, X1⟩
set_option maxRecDepth 4000 in
theorem plus_ok (a n : Int) (w : World) (h : 0 ≤ a ∧ a < 1073741789) (h' : 0 ≤ n ∧ n < 1073741789) : Rets Tryd.prog 78 [.int .i64 a, .int .i64 n] w fun v w' => v = .int .i64 ((a + n) % 1073741789) ∧ w' = w := by
  refine RetsX.of (nt := 9) Tryd.func78 (by kernel_rfl) rfl rfl (by simp) (by simp only [argEnv]; rfl) ?_
  repeat (first | refine RunL.pureI Tryd.tOk rfl rfl rfl (by (first | exact wr_i64 (by omega) (by omega) | exact wm_i64 (by omega) | exact wq_i64 (by omega) (by omega) (by omega) | rfl)) ?_ | refine RunL.pure Tryd.tOk rfl rfl rfl ?_ | refine RunL.unwantedD rfl rfl ?_ | refine RunE.seq ?_ | refine RunE.region ?_ | refine RunL.nil ?_ | refine RunE.block ?_ | refine RunE.inBlock ?_ | refine RunE.skip ?_ | refine RunE.exit rfl ?_ | refine RunE.scope ?_ | refine RunE.inScope ?_ | refine RunE.label ?_)
  exact RunE.retFn Tryd.func78 (.tmp rfl .nil) ⟨rfl, rfl⟩
theorem mul_bd30 {i k : Int} (hi : 0 ≤ i ∧ i < 1073741824) (hk : 0 ≤ k ∧ k < 1073741824) : 0 ≤ i * k ∧ i * k ≤ 1152921504606846976 := by
  refine ⟨Int.mul_nonneg hi.1 hk.1, ?_⟩
  have := Int.mul_le_mul (show i ≤ 1073741824 by omega) (show k ≤ 1073741824 by omega) hk.1 (by decide)
  omega
set_option maxRecDepth 4000 in
theorem times_ok (a n : Int) (w : World) (h : 0 ≤ a ∧ a < 1073741789) (h' : 0 ≤ n ∧ n < 1073741789) : Rets Tryd.prog 79 [.int .i64 a, .int .i64 n] w fun v w' => v = .int .i64 (a * n % 1073741789) ∧ w' = w := by
  have hm := mul_bd30 (i := a) (k := n) (by omega) (by omega)
  refine RetsX.of (nt := 9) Tryd.func79 (by kernel_rfl) rfl rfl (by simp) (by simp only [argEnv]; rfl) ?_
  repeat (first | refine RunL.pureI Tryd.tOk rfl rfl rfl (by (first | exact wr_i64 (by omega) (by omega) | exact wm_i64 (by omega) | exact wq_i64 (by omega) (by omega) (by omega) | rfl)) ?_ | refine RunL.pure Tryd.tOk rfl rfl rfl ?_ | refine RunL.unwantedD rfl rfl ?_ | refine RunE.seq ?_ | refine RunE.region ?_ | refine RunL.nil ?_ | refine RunE.block ?_ | refine RunE.inBlock ?_ | refine RunE.skip ?_ | refine RunE.exit rfl ?_ | refine RunE.scope ?_ | refine RunE.inScope ?_ | refine RunE.label ?_)
  exact RunE.retFn Tryd.func79 (.tmp rfl .nil) ⟨rfl, rfl⟩

theorem vals_ext {S : Nat → Prop} {w w' : World} {g : Nat} {cs : List Value} (h : Row w g 0 cs) (e : ExtB S w w') (hn : ¬ S g) : Row w' g 0 cs := h.ext e hn

set_option maxRecDepth 4000 in
set_option maxHeartbeats 2000000 in
set_option maxRecDepth 4000 in
theorem sign_ok (x : Int) (v : Value) (b : List UInt8) (w : World) (hx : -9223372036854775808 ≤ x ∧ x < 9223372036854775808) (hv : IsSl w 1 v b.length (bytesV b)) (hb : b.length ≤ 800000) (hS : Row w 0 0 (vals init8.l)) (hkT : Row w 1 0 (vals kTab)) :
    Rets Tryd.prog 44 [.int .i64 x, v] w fun r w' => r = .tuple #[.agg #[.int .i64 (sigE x b), .int .i64 (sigS x b)], .int .i64 (sigR x)] ∧ Ext w w' := by
  refine RetsX.of (nt := 45) Tryd.func44 (by kernel_rfl) rfl rfl (by simp) (by simp only [argEnv]; rfl) ?_
  repeat (first | refine RunL.pureI Tryd.tOk rfl rfl rfl (by (first | exact wr_i64 (by omega) (by omega) | exact wm_i64 (by omega) | exact wq_i64 (by omega) (by omega) (by omega) | rfl)) ?_ | refine RunL.pure Tryd.tOk rfl rfl rfl ?_ | refine RunL.unwantedD rfl rfl ?_ | refine RunE.seq ?_ | refine RunE.region ?_ | refine RunL.nil ?_ | refine RunE.block ?_ | refine RunE.inBlock ?_ | refine RunE.skip ?_ | refine RunE.exit rfl ?_ | refine RunE.scope ?_ | refine RunE.inScope ?_ | refine RunE.label ?_)
  refine RunL.alloc Tryd.tOk rfl rfl rfl fun B4 w1 a1 => ?_
  have Z1 : Blk w1 B4 [.int .i64 0, .int .i64 0] 66 := a1.at_
  have hB4 := a1.eq
  have X1 := a1.ext
  have z1 := a1.size
  clear a1
  cases hq : inQ x with
  | false =>
    have hq' : ¬ (1 ≤ x ∧ x < 1073741789) := of_decide_eq_false hq
    by_cases h1 : x < 1
    · repeat (first | refine RunL.pureB Tryd.tOk _ rfl rfl rfl (by exact decide_eq_true h1) ?_ | refine RunL.pureI Tryd.tOk rfl rfl rfl (by (first | exact wr_i64 (by omega) (by omega) | exact wm_i64 (by omega) | exact wq_i64 (by omega) (by omega) (by omega) | rfl)) ?_ | refine RunL.pure Tryd.tOk rfl rfl rfl ?_ | refine RunL.unwantedD rfl rfl ?_ | refine RunL.val rfl rfl rfl (OpV.indexAK Tryd.tOk rfl rfl rfl rfl) ?_ | refine RunL.val rfl rfl rfl (OpV.indexSK Tryd.tOk rfl rfl rfl rfl) ?_ | refine RunL.val rfl rfl rfl (OpV.load1 Tryd.tOk rfl rfl rfl (Blk.cell Z1 rfl)) ?_ | refine RunE.seq ?_ | refine RunE.region ?_ | refine RunL.nil ?_ | refine RunE.block ?_ | refine RunE.inBlock ?_ | refine RunE.skip ?_ | refine RunE.exit rfl ?_ | refine RunE.scope ?_ | refine RunE.inScope ?_ | refine RunE.label ?_)
      refine RunE.condT rfl rfl ?_
      repeat (first | refine RunL.pureI Tryd.tOk rfl rfl rfl (by (first | exact wr_i64 (by omega) (by omega) | exact wm_i64 (by omega) | exact wq_i64 (by omega) (by omega) (by omega) | rfl)) ?_ | refine RunL.pure Tryd.tOk rfl rfl rfl ?_ | refine RunL.unwantedD rfl rfl ?_ | refine RunE.seq ?_ | refine RunE.region ?_ | refine RunL.nil ?_ | refine RunE.block ?_ | refine RunE.inBlock ?_ | refine RunE.skip ?_ | refine RunE.exit rfl ?_ | refine RunE.scope ?_ | refine RunE.inScope ?_ | refine RunE.label ?_)
      refine RunL.val rfl rfl rfl (OpV.loadN (cs := [.int .i64 0, .int .i64 0]) Tryd.tOk rfl rfl rfl rfl Z1.row) ?_
      refine RunL.store Tryd.tOk rfl rfl rfl rfl rfl Z1 rfl rfl fun w3 t3 => ?_
      repeat (first | refine RunL.pureI Tryd.tOk rfl rfl rfl (by (first | exact wr_i64 (by omega) (by omega) | exact wm_i64 (by omega) | exact wq_i64 (by omega) (by omega) (by omega) | rfl)) ?_ | refine RunL.pure Tryd.tOk rfl rfl rfl ?_ | refine RunL.unwantedD rfl rfl ?_ | refine RunE.seq ?_ | refine RunE.region ?_ | refine RunL.nil ?_ | refine RunE.block ?_ | refine RunE.inBlock ?_ | refine RunE.skip ?_ | refine RunE.exit rfl ?_ | refine RunE.scope ?_ | refine RunE.inScope ?_ | refine RunE.label ?_)
      refine RunE.retFn Tryd.func44 (.cell rfl (.agg Tryd.tOk rfl rfl rfl (Blk.row (show Blk w3 B4 [.int .i64 0, .int .i64 0] 66 from t3.at_))) (.tmp rfl .nil)) ⟨?_, X1.write t3.ext (by intro i hi hlt; subst hi; omega)⟩
      simp [oneOr, sigE, sigS, sigR, hq]
    · repeat (first | refine RunL.pureB Tryd.tOk _ rfl rfl rfl (by exact decide_eq_false h1) ?_ | refine RunL.pureB Tryd.tOk _ rfl rfl rfl (by exact decide_eq_true (by omega)) ?_ | refine RunL.pureI Tryd.tOk rfl rfl rfl (by (first | exact wr_i64 (by omega) (by omega) | exact wm_i64 (by omega) | exact wq_i64 (by omega) (by omega) (by omega) | rfl)) ?_ | refine RunL.pure Tryd.tOk rfl rfl rfl ?_ | refine RunL.unwantedD rfl rfl ?_ | refine RunL.val rfl rfl rfl (OpV.indexAK Tryd.tOk rfl rfl rfl rfl) ?_ | refine RunL.val rfl rfl rfl (OpV.indexSK Tryd.tOk rfl rfl rfl rfl) ?_ | refine RunL.val rfl rfl rfl (OpV.load1 Tryd.tOk rfl rfl rfl (Blk.cell Z1 rfl)) ?_ | refine RunE.seq ?_ | refine RunE.region ?_ | refine RunL.nil ?_ | refine RunE.block ?_ | refine RunE.inBlock ?_ | refine RunE.skip ?_ | refine RunE.exit rfl ?_ | refine RunE.scope ?_ | refine RunE.inScope ?_ | refine RunE.label ?_)
      refine RunE.condT rfl rfl ?_
      repeat (first | refine RunL.pureI Tryd.tOk rfl rfl rfl (by (first | exact wr_i64 (by omega) (by omega) | exact wm_i64 (by omega) | exact wq_i64 (by omega) (by omega) (by omega) | rfl)) ?_ | refine RunL.pure Tryd.tOk rfl rfl rfl ?_ | refine RunL.unwantedD rfl rfl ?_ | refine RunE.seq ?_ | refine RunE.region ?_ | refine RunL.nil ?_ | refine RunE.block ?_ | refine RunE.inBlock ?_ | refine RunE.skip ?_ | refine RunE.exit rfl ?_ | refine RunE.scope ?_ | refine RunE.inScope ?_ | refine RunE.label ?_)
      refine RunL.val rfl rfl rfl (OpV.loadN (cs := [.int .i64 0, .int .i64 0]) Tryd.tOk rfl rfl rfl rfl Z1.row) ?_
      refine RunL.store Tryd.tOk rfl rfl rfl rfl rfl Z1 rfl rfl fun w3 t3 => ?_
      repeat (first | refine RunL.pureI Tryd.tOk rfl rfl rfl (by (first | exact wr_i64 (by omega) (by omega) | exact wm_i64 (by omega) | exact wq_i64 (by omega) (by omega) (by omega) | rfl)) ?_ | refine RunL.pure Tryd.tOk rfl rfl rfl ?_ | refine RunL.unwantedD rfl rfl ?_ | refine RunE.seq ?_ | refine RunE.region ?_ | refine RunL.nil ?_ | refine RunE.block ?_ | refine RunE.inBlock ?_ | refine RunE.skip ?_ | refine RunE.exit rfl ?_ | refine RunE.scope ?_ | refine RunE.inScope ?_ | refine RunE.label ?_)
      refine RunE.retFn Tryd.func44 (.cell rfl (.agg Tryd.tOk rfl rfl rfl (Blk.row (show Blk w3 B4 [.int .i64 0, .int .i64 0] 66 from t3.at_))) (.tmp rfl .nil)) ⟨?_, X1.write t3.ext (by intro i hi hlt; subst hi; omega)⟩
      simp [oneOr, sigE, sigS, sigR, hq]
  | true =>
    have hq' : 1 ≤ x ∧ x < 1073741789 := of_decide_eq_true hq
    repeat (first | refine RunL.pureB Tryd.tOk _ rfl rfl rfl (by exact decide_eq_false (by omega)) ?_ | refine RunL.pureI Tryd.tOk rfl rfl rfl (by (first | exact wr_i64 (by omega) (by omega) | exact wm_i64 (by omega) | exact wq_i64 (by omega) (by omega) (by omega) | rfl)) ?_ | refine RunL.pure Tryd.tOk rfl rfl rfl ?_ | refine RunL.unwantedD rfl rfl ?_ | refine RunL.val rfl rfl rfl (OpV.indexAK Tryd.tOk rfl rfl rfl rfl) ?_ | refine RunL.val rfl rfl rfl (OpV.indexSK Tryd.tOk rfl rfl rfl rfl) ?_ | refine RunL.val rfl rfl rfl (OpV.load1 Tryd.tOk rfl rfl rfl (Blk.cell Z1 rfl)) ?_ | refine RunE.seq ?_ | refine RunE.region ?_ | refine RunL.nil ?_ | refine RunE.block ?_ | refine RunE.inBlock ?_ | refine RunE.skip ?_ | refine RunE.exit rfl ?_ | refine RunE.scope ?_ | refine RunE.inScope ?_ | refine RunE.label ?_)
    refine RunE.condF rfl rfl ?_
    repeat (first | refine RunL.pureI Tryd.tOk rfl rfl rfl (by (first | exact wr_i64 (by omega) (by omega) | exact wm_i64 (by omega) | exact wq_i64 (by omega) (by omega) (by omega) | rfl)) ?_ | refine RunL.pure Tryd.tOk rfl rfl rfl ?_ | refine RunL.unwantedD rfl rfl ?_ | refine RunE.seq ?_ | refine RunE.region ?_ | refine RunL.nil ?_ | refine RunE.block ?_ | refine RunE.inBlock ?_ | refine RunE.skip ?_ | refine RunE.exit rfl ?_ | refine RunE.scope ?_ | refine RunE.inScope ?_ | refine RunE.label ?_)
    refine RunL.ex rfl rfl rfl (OpE.buildSl Tryd.tOk [.iface 3 (.int .i64 x), .iface 64 v] rfl rfl rfl rfl rfl rfl (by simp [Value.cells])) ?_
    rintro _ w2 ⟨B, rfl, a2⟩
    have X2 := X1.trans a2.ext
    refine RunL.call rfl rfl rfl (list_ok [.int x, .text b] _ _ w2 (isSl_added (n := 2) (sz := 1) a2 rfl) (args2 (.int hx) (.text (hv.extE X2) (by omega))) (by simp) (enc2_le x b hx hb)) ?_
    rintro r3 w3 ⟨O3, X3⟩
    have Y3 := X2.trans X3
    refine RunL.call rfl rfl rfl (hash_ok ⟨#[110, 111, 110, 99, 101]⟩ r3 _ w3 (by decide) (isSl_own O3) (enc2_le x b hx hb) (hS.extE Y3) (hkT.extE Y3)) ?_
    rintro _ w4 ⟨rfl, X4⟩
    have Y4 := Y3.trans X4
    have Z4 := ((Z1.ext a2.ext id).ext X3 id).ext X4 id
    clear a2 O3
    have hkb := noncN_bd x b
    have hc := hashS_bd signB (CV.list [.int (powC 4 (noncN x b)), .int (powC 4 x), .text b]).enc
    have hp1 := powC_bd 4 (noncN x b)
    have hp2 := powC_bd 4 x
    refine RunL.pureI (m' := noncN x b) Tryd.tOk rfl rfl rfl (by rfl) ?_
    generalize hk : noncN x b = kx at *
    repeat (first | refine RunL.pureI Tryd.tOk rfl rfl rfl (by (first | exact wr_i64 (by omega) (by omega) | exact wm_i64 (by omega) | exact wq_i64 (by omega) (by omega) (by omega) | rfl)) ?_ | refine RunL.pure Tryd.tOk rfl rfl rfl ?_ | refine RunL.unwantedD rfl rfl ?_ | refine RunE.seq ?_ | refine RunE.region ?_ | refine RunL.nil ?_ | refine RunE.block ?_ | refine RunE.inBlock ?_ | refine RunE.skip ?_ | refine RunE.exit rfl ?_ | refine RunE.scope ?_ | refine RunE.inScope ?_ | refine RunE.label ?_)
    refine RunL.call rfl rfl rfl (power_ok 4 kx _) ?_
    rintro _ w5 ⟨rfl, X5⟩
    repeat (first | refine RunL.pureI Tryd.tOk rfl rfl rfl (by (first | exact wr_i64 (by omega) (by omega) | exact wm_i64 (by omega) | exact wq_i64 (by omega) (by omega) (by omega) | rfl)) ?_ | refine RunL.pure Tryd.tOk rfl rfl rfl ?_ | refine RunL.unwantedD rfl rfl ?_ | refine RunE.seq ?_ | refine RunE.region ?_ | refine RunL.nil ?_ | refine RunE.block ?_ | refine RunE.inBlock ?_ | refine RunE.skip ?_ | refine RunE.exit rfl ?_ | refine RunE.scope ?_ | refine RunE.inScope ?_ | refine RunE.label ?_)
    refine RunL.call rfl rfl rfl (power_ok 4 x _) ?_
    rintro _ w6 ⟨rfl, X6⟩
    have Y6 := (Y4.trans X5).trans X6
    repeat (first | refine RunL.pureI Tryd.tOk rfl rfl rfl (by (first | exact wr_i64 (by omega) (by omega) | exact wm_i64 (by omega) | exact wq_i64 (by omega) (by omega) (by omega) | rfl)) ?_ | refine RunL.pure Tryd.tOk rfl rfl rfl ?_ | refine RunL.unwantedD rfl rfl ?_ | refine RunE.seq ?_ | refine RunE.region ?_ | refine RunL.nil ?_ | refine RunE.block ?_ | refine RunE.inBlock ?_ | refine RunE.skip ?_ | refine RunE.exit rfl ?_ | refine RunE.scope ?_ | refine RunE.inScope ?_ | refine RunE.label ?_)
    refine RunL.ex rfl rfl rfl (OpE.buildSl Tryd.tOk [.iface 3 (.int .i64 (powC 4 kx)), .iface 3 (.int .i64 (powC 4 x)), .iface 64 v] rfl rfl rfl rfl rfl rfl (by simp [Value.cells])) ?_
    rintro _ w7 ⟨B', rfl, a7⟩
    have Y7 := Y6.trans a7.ext
    refine RunL.call rfl rfl rfl (list_ok [.int (powC 4 kx), .int (powC 4 x), .text b] _ _ w7 (isSl_added (n := 3) (sz := 1) a7 rfl) (args3 (.int (by omega)) (.int (by omega)) (.text (hv.extE Y7) (by omega))) (by simp) (enc3_le _ _ b (by omega) (by omega) hb)) ?_
    rintro r8 w8 ⟨O8, X8⟩
    have Y8 := Y7.trans X8
    refine RunL.call rfl rfl rfl (hash_ok ⟨#[115, 105, 103, 110]⟩ r8 _ w8 (by decide) (isSl_own O8) (enc3_le _ _ b (by omega) (by omega) hb) (hS.extE Y8) (hkT.extE Y8)) ?_
    rintro _ w9 ⟨rfl, X9⟩
    have Y9 := Y8.trans X9
    have Z9 := ((((Z4.ext X5 id).ext X6 id).ext a7.ext id).ext X8 id).ext X9 id
    clear a7 O8
    have hE : sigE x b = hashS signB (CV.list [.int (powC 4 kx), .int (powC 4 x), .text b]).enc := by
      unfold sigE chal; rw [hq, if_pos rfl, hk]
    change 0 ≤ hashS [115, 105, 103, 110] (CV.list [.int (powC 4 kx), .int (powC 4 x), .text b]).enc ∧ hashS [115, 105, 103, 110] (CV.list [.int (powC 4 kx), .int (powC 4 x), .text b]).enc < 1073741789 at hc
    have hE' : hashS [115, 105, 103, 110] (CV.list [.int (powC 4 kx), .int (powC 4 x), .text b]).enc = sigE x b := hE.symm
    rw [hE'] at hc
    show RunL _ _ _ _ _ _ _ _ ((33, .int .i64 (hashS [115, 105, 103, 110] (CV.list [.int (powC 4 kx), .int (powC 4 x), .text b]).enc)) :: _) _
    rw [hE']
    generalize hEg : sigE x b = E at *
    have hm := mul_bd30 (i := E) (k := x) (by omega) (by omega)
    have hm2 : 0 ≤ E * x % 1073741789 ∧ E * x % 1073741789 < 1073741789 := ⟨Int.emod_nonneg _ (by decide), Int.emod_lt_of_pos _ (by decide)⟩
    repeat (first | refine RunL.pureI Tryd.tOk rfl rfl rfl (by (first | exact wr_i64 (by omega) (by omega) | exact wm_i64 (by omega) | exact wq_i64 (by omega) (by omega) (by omega) | rfl)) ?_ | refine RunL.pure Tryd.tOk rfl rfl rfl ?_ | refine RunL.unwantedD rfl rfl ?_ | refine RunE.seq ?_ | refine RunE.region ?_ | refine RunL.nil ?_ | refine RunE.block ?_ | refine RunE.inBlock ?_ | refine RunE.skip ?_ | refine RunE.exit rfl ?_ | refine RunE.scope ?_ | refine RunE.inScope ?_ | refine RunE.label ?_)
    refine RunL.store Tryd.tOk rfl rfl rfl rfl rfl Z9 rfl rfl fun wa ta => ?_
    have Za : Blk wa B4 [.int .i64 E, .int .i64 0] 66 := ta.at_
    have Ya := Y9.write ta.ext (S := fun _ => False) (by intro i hi hlt; subst hi; omega)
    clear ta
    repeat (first | refine RunL.pureI Tryd.tOk rfl rfl rfl (by (first | exact wr_i64 (by omega) (by omega) | exact wm_i64 (by omega) | exact wq_i64 (by omega) (by omega) (by omega) | rfl)) ?_ | refine RunL.pure Tryd.tOk rfl rfl rfl ?_ | refine RunL.unwantedD rfl rfl ?_ | refine RunL.val rfl rfl rfl (OpV.indexAK Tryd.tOk rfl rfl rfl rfl) ?_ | refine RunL.val rfl rfl rfl (OpV.indexSK Tryd.tOk rfl rfl rfl rfl) ?_ | refine RunL.val rfl rfl rfl (OpV.load1 Tryd.tOk rfl rfl rfl (Blk.cell Za rfl)) ?_ | refine RunE.seq ?_ | refine RunE.region ?_ | refine RunL.nil ?_ | refine RunE.block ?_ | refine RunE.inBlock ?_ | refine RunE.skip ?_ | refine RunE.exit rfl ?_ | refine RunE.scope ?_ | refine RunE.inScope ?_ | refine RunE.label ?_)
    refine RunL.call rfl rfl rfl (times_ok E x _ hc (by omega)) ?_
    rintro _ _ ⟨rfl, rfl⟩
    refine RunL.callV (fv := .func (.func 78) #[.int .i64 kx] #[]) rfl rfl rfl rfl (Rets.v (fi := [.int .i64 kx]) (all := [.int .i64 kx, .int .i64 (E * x % 1073741789)]) (plus_ok kx _ _ (by omega) hm2) rfl) (fun _ _ _ h => h.elim) ?_
    rintro _ _ ⟨rfl, rfl⟩
    repeat (first | refine RunL.pureI Tryd.tOk rfl rfl rfl (by (first | exact wr_i64 (by omega) (by omega) | exact wm_i64 (by omega) | exact wq_i64 (by omega) (by omega) (by omega) | rfl)) ?_ | refine RunL.pure Tryd.tOk rfl rfl rfl ?_ | refine RunL.unwantedD rfl rfl ?_ | refine RunE.seq ?_ | refine RunE.region ?_ | refine RunL.nil ?_ | refine RunE.block ?_ | refine RunE.inBlock ?_ | refine RunE.skip ?_ | refine RunE.exit rfl ?_ | refine RunE.scope ?_ | refine RunE.inScope ?_ | refine RunE.label ?_)
    refine RunL.store Tryd.tOk rfl rfl rfl rfl rfl Za rfl rfl fun wb tb => ?_
    have Zb : Blk wb B4 [.int .i64 E, .int .i64 ((kx + E * x % 1073741789) % 1073741789)] 66 := tb.at_
    have Yb := Ya.write tb.ext (S := fun _ => False) (by intro i hi hlt; subst hi; omega)
    clear tb
    repeat (first | refine RunL.pureI Tryd.tOk rfl rfl rfl (by (first | exact wr_i64 (by omega) (by omega) | exact wm_i64 (by omega) | exact wq_i64 (by omega) (by omega) (by omega) | rfl)) ?_ | refine RunL.pure Tryd.tOk rfl rfl rfl ?_ | refine RunL.unwantedD rfl rfl ?_ | refine RunE.seq ?_ | refine RunE.region ?_ | refine RunL.nil ?_ | refine RunE.block ?_ | refine RunE.inBlock ?_ | refine RunE.skip ?_ | refine RunE.exit rfl ?_ | refine RunE.scope ?_ | refine RunE.inScope ?_ | refine RunE.label ?_)
    refine RunL.val rfl rfl rfl (OpV.loadN (cs := [.int .i64 E, .int .i64 ((kx + E * x % 1073741789) % 1073741789)]) Tryd.tOk rfl rfl rfl rfl Zb.row) ?_
    refine RunL.store Tryd.tOk rfl rfl rfl rfl rfl Zb rfl rfl fun wc tc => ?_
    repeat (first | refine RunL.pureI Tryd.tOk rfl rfl rfl (by (first | exact wr_i64 (by omega) (by omega) | exact wm_i64 (by omega) | exact wq_i64 (by omega) (by omega) (by omega) | rfl)) ?_ | refine RunL.pure Tryd.tOk rfl rfl rfl ?_ | refine RunL.unwantedD rfl rfl ?_ | refine RunE.seq ?_ | refine RunE.region ?_ | refine RunL.nil ?_ | refine RunE.block ?_ | refine RunE.inBlock ?_ | refine RunE.skip ?_ | refine RunE.exit rfl ?_ | refine RunE.scope ?_ | refine RunE.inScope ?_ | refine RunE.label ?_)
    refine RunE.retFn Tryd.func44 (.cell rfl (.agg Tryd.tOk rfl rfl rfl (Blk.row (show Blk wc B4 [.int .i64 E, .int .i64 ((kx + E * x % 1073741789) % 1073741789)] 66 from tc.at_))) (.tmp rfl .nil)) ⟨?_, Yb.write tc.ext (by intro i hi hlt; subst hi; omega)⟩
    have hSg : sigS x b = (kx + E * x % 1073741789) % 1073741789 := by unfold sigS; rw [hq, if_pos rfl, hk, hEg]
    simp [oneOr, hSg, sigR, hq]
end Go.Sg
end
section
/- sign: Verify. -/
namespace Go.Sg
open Go.Rn Go.NT Go.Sha Go.Cod Go.Proofs
attribute [local irreducible] Go.Rn.RunL Go.Rn.RunE Go.Rn.Asy Go.Rn.OpV Go.Rn.OpE Go.Rn.ExecE

set_option maxRecDepth 4000 in
set_option maxHeartbeats 2000000 in
set_option maxRecDepth 4000 in
theorem verify_ok (key E S : Int) (v : Value) (b : List UInt8) (w : World) (hk : -9223372036854775808 ≤ key ∧ key < 9223372036854775808) (hE : -9223372036854775808 ≤ E ∧ E < 9223372036854775808) (hS : -9223372036854775808 ≤ S ∧ S < 9223372036854775808)
    (hv : IsSl w 1 v b.length (bytesV b)) (hb : b.length ≤ 800000) (hS0 : Row w 0 0 (vals init8.l)) (hkT : Row w 1 0 (vals kTab)) :
    Rets Tryd.prog 43 [.int .i64 key, v, .agg #[.int .i64 E, .int .i64 S]] w fun r w' => r = .bool (verS key b E S) ∧ Ext w w' := by
  refine RetsX.of (nt := 52) Tryd.func43 (by kernel_rfl) rfl rfl (by simp) (by simp only [argEnv]; rfl) ?_
  repeat (first | refine RunL.pureI Tryd.tOk rfl rfl rfl (by (first | exact wr_i64 (by omega) (by omega) | exact wm_i64 (by omega) | exact wq_i64 (by omega) (by omega) (by omega) | rfl)) ?_ | refine RunL.pure Tryd.tOk rfl rfl rfl ?_ | refine RunL.unwantedD rfl rfl ?_ | refine RunE.seq ?_ | refine RunE.region ?_ | refine RunL.nil ?_ | refine RunE.block ?_ | refine RunE.inBlock ?_ | refine RunE.skip ?_ | refine RunE.exit rfl ?_ | refine RunE.scope ?_ | refine RunE.inScope ?_ | refine RunE.label ?_)
  refine RunL.box rfl rfl rfl fun B5 w1 a1 => ?_
  have Z1 : Blk w1 B5 [.int .i64 E, .int .i64 S] 66 := a1.at_
  have X1 := a1.ext
  clear a1
  by_cases h1 : E < 0 ∨ S < 0
  · have hno : sigOk key E S = false := by
      unfold sigOk; rw [decide_eq_false (by omega)]; rfl
    repeat (first | refine RunL.pureB Tryd.tOk _ rfl rfl rfl (by exact decide_eq_true (by split; omega; omega)) ?_ | refine RunL.pureI Tryd.tOk rfl rfl rfl (by (first | exact wr_i64 (by omega) (by omega) | exact wm_i64 (by omega) | exact wq_i64 (by omega) (by omega) (by omega) | rfl)) ?_ | refine RunL.pure Tryd.tOk rfl rfl rfl ?_ | refine RunL.unwantedD rfl rfl ?_ | refine RunL.val rfl rfl rfl (OpV.indexAK Tryd.tOk rfl rfl rfl rfl) ?_ | refine RunL.val rfl rfl rfl (OpV.indexSK Tryd.tOk rfl rfl rfl rfl) ?_ | refine RunL.val rfl rfl rfl (OpV.load1 Tryd.tOk rfl rfl rfl (Blk.cell Z1 rfl)) ?_ | refine RunE.seq ?_ | refine RunE.region ?_ | refine RunL.nil ?_ | refine RunE.block ?_ | refine RunE.inBlock ?_ | refine RunE.skip ?_ | refine RunE.exit rfl ?_ | refine RunE.scope ?_ | refine RunE.inScope ?_ | refine RunE.label ?_)
    refine RunE.condT rfl rfl ?_
    repeat (first | refine RunL.pureI Tryd.tOk rfl rfl rfl (by (first | exact wr_i64 (by omega) (by omega) | exact wm_i64 (by omega) | exact wq_i64 (by omega) (by omega) (by omega) | rfl)) ?_ | refine RunL.pure Tryd.tOk rfl rfl rfl ?_ | refine RunL.unwantedD rfl rfl ?_ | refine RunE.seq ?_ | refine RunE.region ?_ | refine RunL.nil ?_ | refine RunE.block ?_ | refine RunE.inBlock ?_ | refine RunE.skip ?_ | refine RunE.exit rfl ?_ | refine RunE.scope ?_ | refine RunE.inScope ?_ | refine RunE.label ?_)
    refine RunE.retFn Tryd.func43 (.tmp rfl .nil) ⟨?_, X1⟩
    simp [oneOr, verS, hno]
  by_cases h2 : 1073741789 ≤ E ∨ 1073741789 ≤ S
  · have hno : sigOk key E S = false := by
      unfold sigOk; rw [decide_eq_false (by omega)]; rfl
    repeat (first | refine RunL.pureB Tryd.tOk _ rfl rfl rfl (by exact decide_eq_false (by split; omega; omega)) ?_ | refine RunL.pureB Tryd.tOk _ rfl rfl rfl (by exact decide_eq_true (by split; omega; omega)) ?_ | refine RunL.pureI Tryd.tOk rfl rfl rfl (by (first | exact wr_i64 (by omega) (by omega) | exact wm_i64 (by omega) | exact wq_i64 (by omega) (by omega) (by omega) | rfl)) ?_ | refine RunL.pure Tryd.tOk rfl rfl rfl ?_ | refine RunL.unwantedD rfl rfl ?_ | refine RunL.val rfl rfl rfl (OpV.indexAK Tryd.tOk rfl rfl rfl rfl) ?_ | refine RunL.val rfl rfl rfl (OpV.indexSK Tryd.tOk rfl rfl rfl rfl) ?_ | refine RunL.val rfl rfl rfl (OpV.load1 Tryd.tOk rfl rfl rfl (Blk.cell Z1 rfl)) ?_ | refine RunE.seq ?_ | refine RunE.region ?_ | refine RunL.nil ?_ | refine RunE.block ?_ | refine RunE.inBlock ?_ | refine RunE.skip ?_ | refine RunE.exit rfl ?_ | refine RunE.scope ?_ | refine RunE.inScope ?_ | refine RunE.label ?_)
    refine RunE.condT rfl rfl ?_
    repeat (first | refine RunL.pureI Tryd.tOk rfl rfl rfl (by (first | exact wr_i64 (by omega) (by omega) | exact wm_i64 (by omega) | exact wq_i64 (by omega) (by omega) (by omega) | rfl)) ?_ | refine RunL.pure Tryd.tOk rfl rfl rfl ?_ | refine RunL.unwantedD rfl rfl ?_ | refine RunE.seq ?_ | refine RunE.region ?_ | refine RunL.nil ?_ | refine RunE.block ?_ | refine RunE.inBlock ?_ | refine RunE.skip ?_ | refine RunE.exit rfl ?_ | refine RunE.scope ?_ | refine RunE.inScope ?_ | refine RunE.label ?_)
    refine RunE.retFn Tryd.func43 (.tmp rfl .nil) ⟨?_, X1⟩
    simp [oneOr, verS, hno]
  repeat (first | refine RunL.pureB Tryd.tOk _ rfl rfl rfl (by exact decide_eq_false (by split; omega; omega)) ?_ | refine RunL.pureI Tryd.tOk rfl rfl rfl (by (first | exact wr_i64 (by omega) (by omega) | exact wm_i64 (by omega) | exact wq_i64 (by omega) (by omega) (by omega) | rfl)) ?_ | refine RunL.pure Tryd.tOk rfl rfl rfl ?_ | refine RunL.unwantedD rfl rfl ?_ | refine RunL.val rfl rfl rfl (OpV.indexAK Tryd.tOk rfl rfl rfl rfl) ?_ | refine RunL.val rfl rfl rfl (OpV.indexSK Tryd.tOk rfl rfl rfl rfl) ?_ | refine RunL.val rfl rfl rfl (OpV.load1 Tryd.tOk rfl rfl rfl (Blk.cell Z1 rfl)) ?_ | refine RunE.seq ?_ | refine RunE.region ?_ | refine RunL.nil ?_ | refine RunE.block ?_ | refine RunE.inBlock ?_ | refine RunE.skip ?_ | refine RunE.exit rfl ?_ | refine RunE.scope ?_ | refine RunE.inScope ?_ | refine RunE.label ?_)
  refine RunL.call rfl rfl rfl (valid_ok key _) ?_
  rintro _ _ ⟨rfl, rfl⟩
  cases hvk : validS key with
  | false =>
    have hno : sigOk key E S = false := by
      unfold sigOk; rw [hvk, Bool.and_false]
    repeat (first | refine RunL.pureI Tryd.tOk rfl rfl rfl (by (first | exact wr_i64 (by omega) (by omega) | exact wm_i64 (by omega) | exact wq_i64 (by omega) (by omega) (by omega) | rfl)) ?_ | refine RunL.pure Tryd.tOk rfl rfl rfl ?_ | refine RunL.unwantedD rfl rfl ?_ | refine RunE.seq ?_ | refine RunE.region ?_ | refine RunL.nil ?_ | refine RunE.block ?_ | refine RunE.inBlock ?_ | refine RunE.skip ?_ | refine RunE.exit rfl ?_ | refine RunE.scope ?_ | refine RunE.inScope ?_ | refine RunE.label ?_)
    refine RunE.condT rfl rfl ?_
    repeat (first | refine RunL.pureI Tryd.tOk rfl rfl rfl (by (first | exact wr_i64 (by omega) (by omega) | exact wm_i64 (by omega) | exact wq_i64 (by omega) (by omega) (by omega) | rfl)) ?_ | refine RunL.pure Tryd.tOk rfl rfl rfl ?_ | refine RunL.unwantedD rfl rfl ?_ | refine RunE.seq ?_ | refine RunE.region ?_ | refine RunL.nil ?_ | refine RunE.block ?_ | refine RunE.inBlock ?_ | refine RunE.skip ?_ | refine RunE.exit rfl ?_ | refine RunE.scope ?_ | refine RunE.inScope ?_ | refine RunE.label ?_)
    refine RunE.retFn Tryd.func43 (.tmp rfl .nil) ⟨?_, X1⟩
    simp [oneOr, verS, hno]
  | true =>
    have hyes : sigOk key E S = true := by
      unfold sigOk; rw [hvk, decide_eq_true (by omega)]; rfl
    have hkb := validS_bd hvk
    repeat (first | refine RunL.pureI Tryd.tOk rfl rfl rfl (by (first | exact wr_i64 (by omega) (by omega) | exact wm_i64 (by omega) | exact wq_i64 (by omega) (by omega) (by omega) | rfl)) ?_ | refine RunL.pure Tryd.tOk rfl rfl rfl ?_ | refine RunL.unwantedD rfl rfl ?_ | refine RunE.seq ?_ | refine RunE.region ?_ | refine RunL.nil ?_ | refine RunE.block ?_ | refine RunE.inBlock ?_ | refine RunE.skip ?_ | refine RunE.exit rfl ?_ | refine RunE.scope ?_ | refine RunE.inScope ?_ | refine RunE.label ?_)
    refine RunE.condF rfl rfl ?_
    repeat (first | refine RunL.pureI Tryd.tOk rfl rfl rfl (by (first | exact wr_i64 (by omega) (by omega) | exact wm_i64 (by omega) | exact wq_i64 (by omega) (by omega) (by omega) | rfl)) ?_ | refine RunL.pure Tryd.tOk rfl rfl rfl ?_ | refine RunL.unwantedD rfl rfl ?_ | refine RunE.seq ?_ | refine RunE.region ?_ | refine RunL.nil ?_ | refine RunE.block ?_ | refine RunE.inBlock ?_ | refine RunE.skip ?_ | refine RunE.exit rfl ?_ | refine RunE.scope ?_ | refine RunE.inScope ?_ | refine RunE.label ?_)
    have hmb := mulC_bd (powC 4 S) (powC key (-E))
    have hp1 := fun w => power_ok 4 S w
    have hp2 := fun w => power_ok key (-E) w
    have hp3 := fun w => mul_ok (powC 4 S) (powC key (-E)) w
    have hver : verS key b E S = (E == chal (mulC (powC 4 S) (powC key (-E))) key b) := by unfold verS; rw [hyes]; rfl
    generalize hR : mulC (powC 4 S) (powC key (-E)) = R at *
    generalize grpE (validS (powC 4 S) && validS (powC key (-E))) = ee at hp3
    generalize powC 4 S = p1 at *
    generalize powC key (-E) = p2 at *
    refine RunE.draw (fun _ => False) mix ?_
    intro w2 X2
    have Z2 := Z1.ext X2 id
    repeat (first | refine Asy.pureI Tryd.tOk rfl rfl rfl (by (first | exact wr_i64 (by omega) (by omega) | exact wm_i64 (by omega) | exact wq_i64 (by omega) (by omega) (by omega) | rfl)) ?_ | refine Asy.pure Tryd.tOk rfl rfl rfl ?_ | refine Asy.unwantedD rfl rfl rfl ?_)
    refine Asy.v rfl rfl rfl rfl (fun w' X' => OpV.load1 Tryd.tOk rfl rfl rfl (Blk.cell (Z2.ext X' id) rfl)) ?_
    refine Asy.val rfl rfl rfl rfl (fun _ _ => OpE.call rfl (hp1 _)) ?_
    repeat (first | refine Asy.pureI Tryd.tOk rfl rfl rfl (by (first | exact wr_i64 (by omega) (by omega) | exact wm_i64 (by omega) | exact wq_i64 (by omega) (by omega) (by omega) | rfl)) ?_ | refine Asy.pure Tryd.tOk rfl rfl rfl ?_ | refine Asy.unwantedD rfl rfl rfl ?_)
    refine Asy.v rfl rfl rfl rfl (fun w' X' => OpV.load1 Tryd.tOk rfl rfl rfl (Blk.cell (Z2.ext X' id) rfl)) ?_
    repeat (first | refine Asy.pureI Tryd.tOk rfl rfl rfl (by (first | exact wr_i64 (by omega) (by omega) | exact wm_i64 (by omega) | exact wq_i64 (by omega) (by omega) (by omega) | rfl)) ?_ | refine Asy.pure Tryd.tOk rfl rfl rfl ?_ | refine Asy.unwantedD rfl rfl rfl ?_)
    refine Asy.val rfl rfl rfl rfl (fun _ _ => OpE.call rfl (hp2 _)) ?_
    refine Asy.val rfl rfl rfl rfl (fun _ _ => OpE.keep (OpE.call rfl (hp3 _))) ?_
    repeat (first | refine Asy.pureI Tryd.tOk rfl rfl rfl (by (first | exact wr_i64 (by omega) (by omega) | exact wm_i64 (by omega) | exact wq_i64 (by omega) (by omega) (by omega) | rfl)) ?_ | refine Asy.pure Tryd.tOk rfl rfl rfl ?_ | refine Asy.unwantedD rfl rfl rfl ?_)
    refine Asy.tail (by kernel_rfl) ?_
    intro w3 X3
    simp only [satsAll]
    have Y3 := (X1.trans X2).trans X3
    have Z3 := Z2.ext X3 id
    repeat (first | refine RunL.pureI Tryd.tOk rfl rfl rfl (by (first | exact wr_i64 (by omega) (by omega) | exact wm_i64 (by omega) | exact wq_i64 (by omega) (by omega) (by omega) | rfl)) ?_ | refine RunL.pure Tryd.tOk rfl rfl rfl ?_ | refine RunL.unwantedD rfl rfl ?_ | refine RunE.seq ?_ | refine RunE.region ?_ | refine RunL.nil ?_ | refine RunE.block ?_ | refine RunE.inBlock ?_ | refine RunE.skip ?_ | refine RunE.exit rfl ?_ | refine RunE.scope ?_ | refine RunE.inScope ?_ | refine RunE.label ?_)
    refine RunE.draw (fun _ => False) mix ?_
    intro w4 X4
    have Z4 := Z3.ext X4 id
    have Y4 := Y3.trans X4
    repeat (first | refine Asy.pureI Tryd.tOk rfl rfl rfl (by (first | exact wr_i64 (by omega) (by omega) | exact wm_i64 (by omega) | exact wq_i64 (by omega) (by omega) (by omega) | rfl)) ?_ | refine Asy.pure Tryd.tOk rfl rfl rfl ?_ | refine Asy.unwantedD rfl rfl rfl ?_)
    refine Asy.v rfl rfl rfl rfl (fun w' X' => OpV.load1 Tryd.tOk rfl rfl rfl (Blk.cell (Z4.ext X' id) rfl)) ?_
    repeat (first | refine Asy.pureI Tryd.tOk rfl rfl rfl (by (first | exact wr_i64 (by omega) (by omega) | exact wm_i64 (by omega) | exact wq_i64 (by omega) (by omega) (by omega) | rfl)) ?_ | refine Asy.pure Tryd.tOk rfl rfl rfl ?_ | refine Asy.unwantedD rfl rfl rfl ?_)
    refine Asy.sat0 (fun u w' => IsSl w' 1 u 3 [.iface 3 (.int .i64 R), .iface 3 (.int .i64 key), .iface 64 v]) rfl rfl rfl rfl (fun u w' w'' _ e h => h.extE e) (fun w' _ => ?_) ?_
    · refine OpE.mono (OpE.buildSl Tryd.tOk [.iface 3 (.int .i64 R), .iface 3 (.int .i64 key), .iface 64 v] rfl rfl rfl rfl rfl rfl (by simp [Value.cells])) ?_ fun _ _ h => h
      rintro _ w'' ⟨B, rfl, a⟩; exact ⟨a.ext, isSl_added (n := 3) (sz := 1) a rfl⟩
    refine Asy.sat1 0 (fun u w' => IsSl w' 1 u (CV.list [.int R, .int key, .text b]).enc.length (bytesV (CV.list [.int R, .int key, .text b]).enc)) rfl rfl rfl rfl rfl rfl (fun u w' w'' _ e h => h.extE e) (fun w' x e hx => ?_) ?_
    · refine OpE.mono (OpE.call rfl (list_ok [.int R, .int key, .text b] _ _ w' hx (args3 (.int (by omega)) (.int (by omega)) (.text (hv.extE (Y4.trans e)) (by omega))) (by simp) (enc3_le _ _ b (by omega) (by omega) hb))) ?_ fun _ _ h => h
      rintro u w'' ⟨h1, h2⟩; exact ⟨h2, isSl_own h1⟩
    refine Asy.val1 0 (v := .int .i64 (hashS [115, 105, 103, 110] (CV.list [.int R, .int key, .text b]).enc)) rfl rfl rfl rfl rfl rfl (fun w' x e hx => ?_) ?_
    · exact OpE.call rfl (hash_ok ⟨#[115, 105, 103, 110]⟩ x _ w' (by decide) hx (enc3_le _ _ b (by omega) (by omega) hb) (hS0.extE (Y4.trans e)) (hkT.extE (Y4.trans e)))
    repeat (first | refine Asy.pureI Tryd.tOk rfl rfl rfl (by (first | exact wr_i64 (by omega) (by omega) | exact wm_i64 (by omega) | exact wq_i64 (by omega) (by omega) (by omega) | rfl)) ?_ | refine Asy.pure Tryd.tOk rfl rfl rfl ?_ | refine Asy.unwantedD rfl rfl rfl ?_)
    refine Asy.tail (by kernel_rfl) ?_
    intro w5 X5
    simp only [satsAll]
    rintro _ _ _ _
    repeat (first | refine RunL.pureI Tryd.tOk rfl rfl rfl (by (first | exact wr_i64 (by omega) (by omega) | exact wm_i64 (by omega) | exact wq_i64 (by omega) (by omega) (by omega) | rfl)) ?_ | refine RunL.pure Tryd.tOk rfl rfl rfl ?_ | refine RunL.unwantedD rfl rfl ?_ | refine RunE.seq ?_ | refine RunE.region ?_ | refine RunL.nil ?_ | refine RunE.block ?_ | refine RunE.inBlock ?_ | refine RunE.skip ?_ | refine RunE.exit rfl ?_ | refine RunE.scope ?_ | refine RunE.inScope ?_ | refine RunE.label ?_)
    refine RunE.retFn Tryd.func43 (.tmp rfl .nil) ⟨?_, Y4.trans X5⟩
    simp only [oneOr, hver]
    rfl
end Go.Sg
end
section
/- Devices: Current, Accepts. -/
namespace Go.Dev
theorem curD_key {l : List Dev} {p t time : Int} {x : Dev} (h : curD l p t time = some x) (hs : chkD l = 0 → SrtD l) : x ∈ l := by
  unfold curD at h
  split at h
  · rename_i he
    have hc : chkD l = 0 := by
      unfold curE at he
      split at he
      · assumption
      · exact he
    exact (bestD_mem (hs hc) (heldD_some.1 h).1).1
  · simp at h
/-- What Accepts answers. -/
def accD (o : Option Dev) (b : List UInt8) (E S : Int) : Int × Bool := match o with
  | none => (0, false)
  | some x => if Go.Sg.verS x.key b E S then (x.no, true) else (0, false)
end Go.Dev
namespace Go.Sg
open Go.Rn Go.Proofs Go.Dev Go.Rec Go.Best Go.Sha
attribute [local irreducible] Go.Rn.RetsX Go.Rn.RunLN Go.Rn.AsyN Go.Rn.RunL Go.Rn.RunE Go.Rn.Asy Go.Rn.OpV Go.Rn.OpE Go.Rn.ExecE
set_option maxHeartbeats 2000000 in
theorem dCurrent_ok (l : List Dev) (v : Value) (p t time : Int) (w : World) (hv : LD w v l) (hl : l.length < 9223372036854775808) :
    Rets Tryd.prog 37 [v, .int .i64 p, .int .i64 t, .int .i64 time] w fun r w' => r = .tuple #[.int .i64 (ansD (curD l p t time)).1, .int .i64 (ansD (curD l p t time)).2.1, .bool (ansD (curD l p t time)).2.2, .int .i64 (curE l p t time)] ∧ Ext w w' := by
  refine RetsX.of (nt := 33) Tryd.func37 (by kernel_rfl) rfl rfl (by simp) (by simp only [argEnv]; rfl) ?_
  have X := ExtB.refl (fun _ => False) w
  repeat' (first | with_reducible refine RunLN.boolF rfl ?_ | refine RunLN.int (by (first | exact wr_i64 (by omega) (by omega) | exact wm_i64 (by omega) | exact wq_i64 (by omega) (by omega) (by omega) | rfl)) ?_ | refine RunLN.any ?_ | refine RunL.ev Tryd.tOk rfl rfl rfl ?_ | refine RunE.seq ?_ | refine RunE.region ?_ | refine RunL.nil ?_)
  refine RunL.call rfl rfl rfl (dcurrent_ok l v p t time _ (hv.up X) hl) ?_
  rintro _ _ ⟨rfl, Xa_⟩
  replace X := X.trans Xa_
  clear Xa_
  cases hD : curD l p t time with
  | none =>
    simp only [Option.isSome_none]
    generalize curX l p t time = x
    repeat' (first | with_reducible refine RunLN.boolF rfl ?_ | refine RunLN.int (by (first | exact wr_i64 (by omega) (by omega) | exact wm_i64 (by omega) | exact wq_i64 (by omega) (by omega) (by omega) | rfl)) ?_ | refine RunLN.any ?_ | refine RunL.ev Tryd.tOk rfl rfl rfl ?_)
    refine RunL.alloc Tryd.tOk rfl rfl rfl fun B12 w12_ a_ => ?_
    have Z12 : Blk w12_ B12 (zeroD.cells) 57 := a_.at_
    have gB12 := a_.ge X
    replace X := X.trans a_.ext
    clear a_
    skip
    refine RunL.store Tryd.tOk rfl rfl rfl rfl rfl Z12 rfl rfl fun w_ t_ => ?_
    replace X := X.own t_.ext gB12
    replace Z12 : Blk w_ B12 (x.cells) 57 := t_.at_
    clear t_
    repeat' (first | with_reducible refine RunLN.boolT rfl ?_ | with_reducible refine RunLN.boolF rfl ?_ | refine RunLN.int (by (first | exact wr_i64 (by omega) (by omega) | exact wm_i64 (by omega) | exact wq_i64 (by omega) (by omega) (by omega) | rfl)) ?_ | (refine RunLN.boolC (fun h_ => ?_) (fun h_ => ?_) <;> (try simp only [decide_eq_true_eq, decide_eq_false_iff_not, beq_iff_eq, bne_iff_ne, ne_eq, Bool.not_eq_true, Bool.not_eq_false, beq_eq_false_iff_ne, bne_eq_false_iff_eq, Bool.not_eq_eq_eq_not, Bool.not_true, Bool.not_false, Bool.not_not, Int.not_lt, Int.not_le, gt_iff_lt, ge_iff_le, Decidable.not_not] at h_)) | refine RunL.ev Tryd.tOk rfl rfl rfl ?_ | refine RunL.unwantedD rfl rfl ?_ | refine RunE.condT rfl rfl ?_ | refine RunE.seq ?_ | refine RunE.region ?_ | refine RunL.nil ?_)
    all_goals
      refine RunE.retFn Tryd.func37 (.tmp rfl (.tmp rfl (.tmp rfl (.tmp rfl .nil)))) ⟨?_, X⟩
      rfl
  | some x =>
    rw [curX_of hD]
    have hE : curE l p t time = 0 := by
      unfold curD at hD
      split at hD
      · assumption
      · simp at hD
    rw [hE]
    simp only [Option.isSome_some]
    repeat' (first | with_reducible refine RunLN.boolT rfl ?_ | refine RunLN.int (by (first | exact wr_i64 (by omega) (by omega) | exact wm_i64 (by omega) | exact wq_i64 (by omega) (by omega) (by omega) | rfl)) ?_ | refine RunLN.any ?_ | refine RunL.ev Tryd.tOk rfl rfl rfl ?_)
    refine RunL.alloc Tryd.tOk rfl rfl rfl fun B12 w12_ a_ => ?_
    have Z12 : Blk w12_ B12 (zeroD.cells) 57 := a_.at_
    have gB12 := a_.ge X
    replace X := X.trans a_.ext
    clear a_
    skip
    refine RunL.store Tryd.tOk rfl rfl rfl rfl rfl Z12 rfl rfl fun w_ t_ => ?_
    replace X := X.own t_.ext gB12
    replace Z12 : Blk w_ B12 (x.cells) 57 := t_.at_
    clear t_
    repeat' (first | with_reducible refine RunLN.boolT rfl ?_ | with_reducible refine RunLN.boolF rfl ?_ | refine RunLN.int (by (first | exact wr_i64 (by omega) (by omega) | exact wm_i64 (by omega) | exact wq_i64 (by omega) (by omega) (by omega) | rfl)) ?_ | refine RunL.ev Tryd.tOk rfl rfl rfl ?_ | refine RunE.condF rfl rfl ?_ | refine RunE.seq ?_ | refine RunE.region ?_ | refine RunL.nil ?_ | refine RunE.skip ?_)
    obtain ⟨no, at_, known, person, key, gone⟩ := x
    refine RunE.draw (fun _ => False) mix ?_
    intro wd_ Xd_
    repeat' (first | with_reducible refine AsyN.boolT rfl ?_ | refine AsyN.int (by (first | exact wr_i64 (by omega) (by omega) | exact wm_i64 (by omega) | exact wq_i64 (by omega) (by omega) (by omega) | rfl)) ?_ | refine AsyN.any ?_ | refine Asy.ev Tryd.tOk rfl rfl rfl ?_ | refine Asy.evV rfl rfl rfl rfl (fun _ X_ => OpV.load1 Tryd.tOk rfl rfl rfl (Blk.cell (Z12.up (Xd_.trans X_)) rfl)) ?_)
    refine Asy.end_ (by kernel_rfl) ?_
    intro we_ Xe_
    replace X := (X.trans Xd_).trans Xe_
    clear Xd_ Xe_
    repeat' (first | refine RunL.nil ?_)
    refine RunE.retFn Tryd.func37 (.tmp rfl (.tmp rfl (.tmp rfl (.tmp rfl .nil)))) ⟨?_, X⟩
    rfl
set_option maxHeartbeats 2000000 in
theorem dAccepts_ok (l : List Dev) (v m : Value) (b : List UInt8) (E S p t time : Int) (w : World) (hv : LD w v l) (hl : l.length < 9223372036854775808) (hs : chkD l = 0 → SrtD l) (hk : ∀ x ∈ l, -9223372036854775808 ≤ x.key ∧ x.key < 9223372036854775808)
    (hE : -9223372036854775808 ≤ E ∧ E < 9223372036854775808) (hS : -9223372036854775808 ≤ S ∧ S < 9223372036854775808) (hm : IsSl w 1 m b.length (bytesV b)) (hb : b.length ≤ 800000) (hS0 : Row w 0 0 (vals init8.l)) (hkT : Row w 1 0 (vals kTab)) :
    Rets Tryd.prog 39 [v, .int .i64 p, m, .agg #[.int .i64 E, .int .i64 S], .int .i64 t, .int .i64 time] w fun r w' => r = .tuple #[.int .i64 (accD (curD l p t time) b E S).1, .bool (accD (curD l p t time) b E S).2, .int .i64 (curE l p t time)] ∧ Ext w w' := by
  refine RetsX.of (nt := 42) Tryd.func39 (by kernel_rfl) rfl rfl (by simp) (by simp only [argEnv]; rfl) ?_
  have X := ExtB.refl (fun _ => False) w
  repeat' (first | refine RunE.seq ?_ | refine RunE.region ?_)
  refine RunL.box rfl rfl rfl fun B9 w9_ a_ => ?_
  have Z9 : Blk w9_ B9 ([.int .i64 E, .int .i64 S]) 66 := a_.at_
  have gB9 := a_.ge X
  replace X := X.trans a_.ext
  clear a_
  repeat' (first | with_reducible refine RunLN.boolF rfl ?_ | refine RunLN.int (by (first | exact wr_i64 (by omega) (by omega) | exact wm_i64 (by omega) | exact wq_i64 (by omega) (by omega) (by omega) | rfl)) ?_ | refine RunLN.any ?_ | refine RunL.ev Tryd.tOk rfl rfl rfl ?_ | refine RunE.seq ?_ | refine RunE.region ?_ | refine RunL.nil ?_)
  refine RunL.call rfl rfl rfl (dcurrent_ok l v p t time _ (hv.up X) hl) ?_
  rintro _ _ ⟨rfl, Xa_⟩
  replace Z9 := Z9.up Xa_
  replace X := X.trans Xa_
  clear Xa_
  cases hD : curD l p t time with
  | none =>
    simp only [Option.isSome_none]
    generalize curX l p t time = x
    repeat' (first | with_reducible refine RunLN.boolF rfl ?_ | refine RunLN.int (by (first | exact wr_i64 (by omega) (by omega) | exact wm_i64 (by omega) | exact wq_i64 (by omega) (by omega) (by omega) | rfl)) ?_ | refine RunLN.any ?_ | refine RunL.ev Tryd.tOk rfl rfl rfl ?_)
    refine RunL.alloc Tryd.tOk rfl rfl rfl fun B15 w15_ a_ => ?_
    have Z15 : Blk w15_ B15 (zeroD.cells) 57 := a_.at_
    have gB15 := a_.ge X
    have n9_15 : B9 ≠ B15 := by have := Z9.lt; have := a_.eq; omega
    have n15_9 : B15 ≠ B9 := Ne.symm n9_15
    replace Z9 := Z9.up a_.ext
    replace X := X.trans a_.ext
    clear a_
    skip
    refine RunL.store Tryd.tOk rfl rfl rfl rfl rfl Z15 rfl rfl fun w_ t_ => ?_
    replace X := X.own t_.ext gB15
    replace Z9 := Z9.other t_.ext n9_15
    replace Z15 : Blk w_ B15 (x.cells) 57 := t_.at_
    clear t_
    repeat' (first | with_reducible refine RunLN.boolT rfl ?_ | with_reducible refine RunLN.boolF rfl ?_ | refine RunLN.int (by (first | exact wr_i64 (by omega) (by omega) | exact wm_i64 (by omega) | exact wq_i64 (by omega) (by omega) (by omega) | rfl)) ?_ | (refine RunLN.boolC (fun h_ => ?_) (fun h_ => ?_) <;> (try simp only [decide_eq_true_eq, decide_eq_false_iff_not, beq_iff_eq, bne_iff_ne, ne_eq, Bool.not_eq_true, Bool.not_eq_false, beq_eq_false_iff_ne, bne_eq_false_iff_eq, Bool.not_eq_eq_eq_not, Bool.not_true, Bool.not_false, Bool.not_not, Int.not_lt, Int.not_le, gt_iff_lt, ge_iff_le, Decidable.not_not] at h_)) | refine RunL.ev Tryd.tOk rfl rfl rfl ?_ | refine RunL.unwantedD rfl rfl ?_ | refine RunE.condT rfl rfl ?_ | refine RunE.seq ?_ | refine RunE.region ?_ | refine RunL.nil ?_)
    all_goals
      refine RunE.retFn Tryd.func39 (.tmp rfl (.tmp rfl (.tmp rfl .nil))) ⟨?_, X⟩
    all_goals rfl
  | some x =>
    have hkx := hk x (curD_key hD hs)
    rw [curX_of hD]
    have hE0 : curE l p t time = 0 := by
      unfold curD at hD
      split at hD
      · assumption
      · simp at hD
    rw [hE0]
    simp only [Option.isSome_some]
    repeat' (first | with_reducible refine RunLN.boolT rfl ?_ | refine RunLN.int (by (first | exact wr_i64 (by omega) (by omega) | exact wm_i64 (by omega) | exact wq_i64 (by omega) (by omega) (by omega) | rfl)) ?_ | refine RunLN.any ?_ | refine RunL.ev Tryd.tOk rfl rfl rfl ?_)
    refine RunL.alloc Tryd.tOk rfl rfl rfl fun B15 w15_ a_ => ?_
    have Z15 : Blk w15_ B15 (zeroD.cells) 57 := a_.at_
    have gB15 := a_.ge X
    have n9_15 : B9 ≠ B15 := by have := Z9.lt; have := a_.eq; omega
    have n15_9 : B15 ≠ B9 := Ne.symm n9_15
    replace Z9 := Z9.up a_.ext
    replace X := X.trans a_.ext
    clear a_
    skip
    refine RunL.store Tryd.tOk rfl rfl rfl rfl rfl Z15 rfl rfl fun w_ t_ => ?_
    replace X := X.own t_.ext gB15
    replace Z9 := Z9.other t_.ext n9_15
    replace Z15 : Blk w_ B15 (x.cells) 57 := t_.at_
    clear t_
    obtain ⟨no, at_, known, person, key, gone⟩ := x
    repeat' (first | with_reducible refine RunLN.boolT rfl ?_ | with_reducible refine RunLN.boolF rfl ?_ | refine RunLN.int (by (first | exact wr_i64 (by omega) (by omega) | exact wm_i64 (by omega) | exact wq_i64 (by omega) (by omega) (by omega) | rfl)) ?_ | refine RunLN.any ?_ | refine RunL.ev Tryd.tOk rfl rfl rfl ?_ | refine RunL.evV rfl rfl rfl (OpV.load1 Tryd.tOk rfl rfl rfl (Blk.cell Z15 rfl)) ?_ | refine RunL.evV rfl rfl rfl (OpV.loadN Tryd.tOk rfl rfl rfl rfl (Blk.row Z9)) ?_ | refine RunE.seq ?_ | refine RunE.region ?_ | refine RunL.nil ?_)
    refine RunL.call rfl rfl rfl (verify_ok key E S m b _ hkx hE hS (hm.up X) hb (hS0.up X) (hkT.up X)) ?_
    rintro _ _ ⟨rfl, Xa_⟩
    replace Z9 := Z9.up Xa_
    replace Z15 := Z15.up Xa_
    replace X := X.trans Xa_
    clear Xa_
    cases hver : verS key b E S with
    | false =>
      repeat' (first | with_reducible refine RunLN.boolT rfl ?_ | with_reducible refine RunLN.boolF rfl ?_ | refine RunLN.int (by (first | exact wr_i64 (by omega) (by omega) | exact wm_i64 (by omega) | exact wq_i64 (by omega) (by omega) (by omega) | rfl)) ?_ | refine RunL.ev Tryd.tOk rfl rfl rfl ?_ | refine RunE.condT rfl rfl ?_ | refine RunE.seq ?_ | refine RunE.region ?_ | refine RunL.nil ?_)
      refine RunE.retFn Tryd.func39 (.tmp rfl (.tmp rfl (.tmp rfl .nil))) ⟨?_, X⟩
      show _ = Value.tuple #[.int .i64 (if verS key b E S = true then (no, true) else (0, false)).1, .bool (if verS key b E S = true then (no, true) else (0, false)).2, .int .i64 0]
      rw [hver]; rfl
    | true =>
      repeat' (first | with_reducible refine RunLN.boolT rfl ?_ | with_reducible refine RunLN.boolF rfl ?_ | refine RunLN.int (by (first | exact wr_i64 (by omega) (by omega) | exact wm_i64 (by omega) | exact wq_i64 (by omega) (by omega) (by omega) | rfl)) ?_ | refine RunLN.any ?_ | refine RunL.ev Tryd.tOk rfl rfl rfl ?_ | refine RunL.evV rfl rfl rfl (OpV.load1 Tryd.tOk rfl rfl rfl (Blk.cell Z15 rfl)) ?_ | refine RunE.condF rfl rfl ?_ | refine RunE.seq ?_ | refine RunE.region ?_ | refine RunL.nil ?_ | refine RunE.skip ?_)
      refine RunE.retFn Tryd.func39 (.tmp rfl (.tmp rfl (.tmp rfl .nil))) ⟨?_, X⟩
      show _ = Value.tuple #[.int .i64 (if verS key b E S = true then (no, true) else (0, false)).1, .bool (if verS key b E S = true then (no, true) else (0, false)).2, .int .i64 0]
      rw [hver]; rfl
end Go.Sg
end
section
/- Devices: the library's slice functions. -/
namespace Go.Sg
open Go.Rn Go.Proofs Go.Dev Go.Rec Go.Best Go.RowKit Go.Lib
attribute [local irreducible] Go.Rn.RunLN Go.Rn.AsyN Go.Rn.RunL Go.Rn.RunE Go.Rn.Asy Go.Rn.OpV Go.Rn.OpE Go.Rn.ExecE
theorem dclone_ok (l : List Dev) (v : Value) (w : World) (hv : IsL w Dev.cells 6 v l) (hl : l.length ≤ 5000) :
    Rets Tryd.prog 68 [v] w fun r w' => w'.ownsRow w.heap.size 57 6 r l.length (flat Dev.cells l) ∧ Ext w w' := by
  obtain ⟨d, c, rfl⟩ : ∃ d c, v = .slice d l.length c := by
    rcases hv.inv with ⟨d, rfl, h, -⟩ | ⟨b, o, c, rfl, -⟩
    · exact ⟨d, 0, by rw [h]⟩
    · exact ⟨_, c, rfl⟩
  refine RetsX.of (nt := 8) Tryd.func68 (by kernel_rfl) rfl rfl (by simp) (by simp only [argEnv]; rfl) ?_
  repeat' (first | refine RunLN.any ?_ | refine RunL.ev Tryd.tOk rfl rfl rfl ?_ | refine RunE.seq ?_ | refine RunE.region ?_ | refine RunL.nil ?_)
  refine RunL.evV rfl rfl rfl (OpV.eqNilSl (TD.of_slc (TI.tdof (Tryd.tOk.get 55 _ rfl)).symm).1 rfl rfl) ?_
  cases d with
  | none =>
    obtain rfl : l = [] := by
      rcases hv.inv with ⟨d, h, h', -⟩ | ⟨b, o, c, h, -⟩
      · exact List.length_eq_zero_iff.1 h'
      · simp at h
    repeat' (first | with_reducible refine RunLN.boolT rfl ?_ | refine RunLN.any ?_ | refine RunL.ev Tryd.tOk rfl rfl rfl ?_ | refine RunE.condT rfl rfl ?_ | refine RunE.seq ?_ | refine RunE.region ?_ | refine RunL.nil ?_)
    exact RunE.retFn Tryd.func68 (.tmp rfl .nil) ⟨World.ownsRow_nil _ _ _ _, ExtB.refl _ _⟩
  | some d =>
    repeat' (first | with_reducible refine RunLN.boolF rfl ?_ | refine RunE.condF rfl rfl ?_ | refine RunE.seq ?_ | refine RunE.region ?_ | refine RunL.nil ?_ | refine RunE.skip ?_)
    refine RunL.ex rfl rfl rfl (OpE.buildSl Tryd.tOk [] rfl rfl rfl rfl rfl rfl (by simp)) ?_
    rintro _ w1 ⟨B, rfl, a1⟩
    have O1 : w1.ownsRow w.heap.size 57 6 (.slice (some ⟨B, 0, none⟩) 0 0) 0 [] := ownsRow_added (cs := []) a1 (by rw [a1.eq]; exact Nat.le_refl _) rfl (by decide)
    repeat' (first | refine RunLN.any ?_ | refine RunL.ev Tryd.tOk rfl rfl rfl ?_)
    refine RunL.ex rfl rfl rfl (OpE.append' Tryd.tOk rfl rfl rfl rfl rfl rfl O1 (hv.extE a1.ext) (flat_plain encD l) (by show _ * 48 ≤ _; omega) (by omega) a1.ext.size) ?_
    rintro r w2 ⟨O2, E2, -⟩
    rw [Nat.zero_add, List.nil_append] at O2
    repeat' (first | refine RunLN.any ?_ | refine RunL.ev Tryd.tOk rfl rfl rfl ?_ | refine RunL.nil ?_)
    exact RunE.retFn Tryd.func68 (.tmp rfl .nil) ⟨O2, a1.ext.write E2 (by intro k hk hlt; simp [Value.ownBlock] at hk; subst hk; have := a1.eq; omega)⟩
set_option maxHeartbeats 4000000 in
theorem dinsert_ok (l : List Dev) (x : Dev) (v : Value) (i vb base : Nat) (w : World) (hi : i ≤ l.length) (hO : w.ownsRow base 57 6 v l.length (flat Dev.cells l)) (hl : l.length ≤ 5000) (hb : base ≤ w.heap.size)
    (hV : Blk w vb (Dev.cells x) 57) (hvb : i < l.length → ∀ k, v.ownBlock = some k → k ≠ vb) :
    Rets Tryd.prog 67 [v, .int .i64 (i : Int), .slice (some ⟨vb, 0, none⟩) 1 1] w fun r w' => IsL w' Dev.cells 6 r (l.take i ++ x :: l.drop i) ∧ ExtB (fun k => v.ownBlock = some k) w w' := by
  have hlen := flat_length encD l
  have hx1 : IsL w Dev.cells 6 (.slice (some ⟨vb, 0, none⟩) 1 1) [x] := by
    have := isSl_blk (n := 1) (cap := 1) (sz := 6) hV (fun i v h => by rw [Nat.zero_add]; exact h) rfl (Nat.le_refl 1)
    simpa [IsL, flat] using this
  refine RetsX.of (nt := 95) Tryd.func67 (by kernel_rfl) rfl rfl (by simp) (by simp only [argEnv]; rfl) ?_
  repeat' (first | refine RunLN.int (by (first | exact wr_i64 (by omega) (by omega) | exact wm_i64 (by omega) | exact wq_i64 (by omega) (by omega) (by omega) | rfl)) ?_ | refine RunLN.any ?_ | refine RunL.ev Tryd.tOk rfl rfl rfl ?_ | refine RunE.seq ?_ | refine RunE.region ?_ | refine RunL.nil ?_)
  have hsl : ∃ u, ∀ (dst : Option Tmp) (ty : TypeId) (pos : String) (after : Array Edge) (guard : Option (Nat × Bool)) (env : Env), evO env (.tmp 10) = some v → evO env (.tmp 11) = some (.int .i64 (i : Int)) →
      OpV Tryd.prog env w ⟨dst, .slice 55 (.tmp 10) (some (.tmp 11)) none none, ty, pos, after, guard⟩ u := by
    rcases hO.2 with ⟨rfl, h0⟩ | ⟨g, cap, cur, rfl, -, -, hnc, -⟩
    · exact ⟨_, fun _ _ _ _ _ _ h1 h2 => OpV.sliceNil Tryd.tOk rfl h1 (.some h2 (by omega)) (.none)⟩
    · exact ⟨_, fun _ _ _ _ _ _ h1 h2 => OpV.sliceS Tryd.tOk rfl h1 (.some h2 rfl) .none .none (.inl rfl) (by omega) hnc (Nat.le_refl _)⟩
  obtain ⟨u, hu⟩ := hsl
  refine RunL.evV rfl rfl rfl (hu _ _ _ _ _ _ rfl rfl) ?_
  clear hu
  repeat' (first | with_reducible refine RunLN.boolF rfl ?_ | refine RunLN.int (by (first | exact wr_i64 (by omega) (by omega) | exact wm_i64 (by omega) | exact wq_i64 (by omega) (by omega) (by omega) | rfl)) ?_ | refine RunLN.any ?_ | refine RunL.ev Tryd.tOk rfl rfl rfl ?_ | refine RunE.condF rfl rfl ?_ | refine RunE.seq ?_ | refine RunE.region ?_ | refine RunL.nil ?_ | refine RunE.skip ?_)
  refine RunL.val rfl rfl rfl (OpV.lenSl Tryd.tOk rfl rfl (isSl_own hO)) ?_
  by_cases hin : i = l.length
  · subst hin
    repeat' (first | (with_reducible refine RunLN.eqT ?_ ?_; focus omega) | refine RunLN.int (by (first | exact wr_i64 (by omega) (by omega) | exact wm_i64 (by omega) | exact wq_i64 (by omega) (by omega) (by omega) | rfl)) ?_ | refine RunLN.any ?_ | refine RunL.ev Tryd.tOk rfl rfl rfl ?_ | refine RunE.condT rfl rfl ?_ | refine RunE.seq ?_ | refine RunE.region ?_ | refine RunL.nil ?_)
    refine RunL.ex rfl rfl rfl (OpE.append' Tryd.tOk rfl rfl rfl rfl rfl rfl hO hx1 (flat_plain encD [x]) (by show _ * 48 ≤ _; simp only [List.length_singleton]; omega) (by simp only [List.length_singleton]; omega) hb) ?_
    rintro r w2 ⟨O2, E2, -⟩
    repeat' (first | refine RunLN.any ?_ | refine RunL.ev Tryd.tOk rfl rfl rfl ?_ | refine RunL.nil ?_)
    refine RunE.retFn Tryd.func67 (.tmp rfl .nil) ⟨?_, E2⟩
    have := isSl_own O2
    rw [List.take_length, List.drop_length]
    simpa [IsL, flat_append, oneOr] using this
  have hlt : i < l.length := by omega
  obtain ⟨g, cap, cur, rfl, hbg, hg, hnc, hcm, hcs, htake⟩ : ∃ g cap cur, v = .slice (some ⟨g, 0, none⟩) l.length cap ∧ base ≤ g ∧ w.heap[g]? = some (.cells cur 57 (0, 0)) ∧ l.length ≤ cap ∧ cap ≤ maxLen ∧ cur.size = cap * 6 ∧ cur.toList.take (l.length * 6) = flat Dev.cells l := by
    rcases hO.2 with ⟨-, h0⟩ | h
    · omega
    · exact h
  have hgv : g ≠ vb := hvb hlt g rfl
  have hmx : cap ≤ 9223372036854775807 := by simpa [maxLen] using hcm
  have hcur : cur.toList = flat Dev.cells l ++ cur.toList.drop (l.length * 6) := by rw [← htake, List.take_append_drop]
  have hrl : (cur.toList.drop (l.length * 6)).length = (cap - l.length) * 6 := by rw [List.length_drop, Array.length_toList, hcs, Nat.sub_mul]
  generalize cur.toList.drop (l.length * 6) = rest at hcur hrl
  have Zg : Blk w g (flat Dev.cells l ++ rest) 57 := by unfold Blk; rw [hg, ← hcur]
  have hRl : Row w g 0 (flat Dev.cells l) := (isSl_own hO).inv.elim (fun ⟨d, h, h', _⟩ => by omega) fun ⟨b, o, c, h, hr, _⟩ => by cases h; exact hr
  have hld : (flat Dev.cells (l.drop i)).length = (l.length - i) * 6 := by rw [flat_length encD, List.length_drop]
  have hlt2 : (flat Dev.cells (l.take i)).length = i * 6 := by rw [flat_length encD, List.length_take, Nat.min_eq_left hi]
  have hspl : flat Dev.cells l = flat Dev.cells (l.take i) ++ flat Dev.cells (l.drop i) := by rw [← flat_append, List.take_append_drop]
  have hRd : Row w g (i * 6) (flat Dev.cells (l.drop i)) := by have := hRl.drop (i * 6); rw [flat_drop encD, Nat.zero_add] at this; exact this
  clear hcs htake hg hO hb hbg hvb
  repeat' (first | (with_reducible refine RunLN.eqF ?_ ?_; focus omega) | refine RunLN.int (by (first | exact wr_i64 (by omega) (by omega) | exact wm_i64 (by omega) | exact wq_i64 (by omega) (by omega) (by omega) | rfl)) ?_ | refine RunLN.any ?_ | refine RunL.ev Tryd.tOk rfl rfl rfl ?_ | refine RunE.condF rfl rfl ?_ | refine RunE.seq ?_ | refine RunE.region ?_ | refine RunL.nil ?_ | refine RunE.skip ?_)
  refine RunL.val rfl rfl rfl (OpV.cap Tryd.tOk rfl rfl) ?_
  by_cases hroom : l.length + 1 > cap
  · repeat' (first | (with_reducible refine RunLN.decT ?_ ?_; focus omega) | refine RunLN.int (by (first | exact wr_i64 (by omega) (by omega) | exact wm_i64 (by omega) | exact wq_i64 (by omega) (by omega) (by omega) | rfl)) ?_ | refine RunLN.any ?_ | refine RunL.ev Tryd.tOk rfl rfl rfl ?_ | refine RunE.condT rfl rfl ?_ | refine RunE.seq ?_ | refine RunE.region ?_ | refine RunL.nil ?_)
    refine RunL.val rfl rfl rfl (OpV.slice0 Tryd.tOk (hi := i) rfl rfl .none (.some rfl rfl) (by omega)) ?_
    repeat' (first | refine RunLN.int (by (first | exact wr_i64 (by omega) (by omega) | exact wm_i64 (by omega) | exact wq_i64 (by omega) (by omega) (by omega) | rfl)) ?_ | refine RunL.ev Tryd.tOk rfl rfl rfl ?_)
    refine RunL.ex rfl rfl rfl (OpE.growOnto Tryd.tOk (m := l.length + 1 - i) (olds := flat Dev.cells (l.take i)) rfl rfl rfl rfl rfl rfl rfl (by omega) (by omega) (by have := hRl.take (i * 6); rwa [flat_take encD] at this) hlt2 (by omega) (by show _ * 48 ≤ _; omega) (by omega)) ?_
    rintro _ w1 ⟨B, cap', rest', rfl, hc', hB, X1, Z1, hr'⟩
    have hBv : vb ≠ B := by have := hV.lt; omega
    have hBg : g ≠ B := by have := Zg.lt; omega
    have hil : i + (l.length + 1 - i) = l.length + 1 := by omega
    rw [hil] at hc' ⊢
    repeat' (first | refine RunLN.int (by (first | exact wr_i64 (by omega) (by omega) | exact wm_i64 (by omega) | exact wq_i64 (by omega) (by omega) (by omega) | rfl)) ?_ | refine RunLN.any ?_ | refine RunL.ev Tryd.tOk rfl rfl rfl ?_ | refine RunE.seq ?_ | refine RunE.region ?_ | refine RunL.nil ?_)
    refine RunL.val rfl rfl rfl (OpV.sliceSq Tryd.tOk (lo := i) (hi := l.length + 1) rfl rfl (.some rfl rfl) .none (by omega) (by omega) (q := i * 6) (by unfold offOf; rw [if_neg (by omega)]; omega) rfl rfl) ?_
    repeat' (first | refine RunLN.any ?_ | refine RunL.ev Tryd.tOk rfl rfl rfl ?_)
    obtain ⟨r1, r2, rfl, hr1⟩ : ∃ r1 r2, rest' = r1 ++ r2 ∧ r1.length = 6 := ⟨rest'.take 6, rest'.drop 6, (List.take_append_drop _ _).symm, by rw [List.length_take, hr']; have : 1 * 6 ≤ (cap' - i) * 6 := Nat.mul_le_mul_right _ (by omega); omega⟩
    have hr2 : r2.length = (cap' - i - 1) * 6 := by rw [List.length_append, hr1] at hr'; rw [Nat.sub_mul (cap' - i)]; omega
    refine RunL.ex rfl rfl rfl (OpE.copySl Tryd.tOk rfl rfl rfl Z1 (hx1.extE X1) (by simp only [List.length_singleton]; omega) (by simp only [List.length_append, hlt2, flat_one, hr1]; have : (Dev.cells x).length = 6 := rfl; omega) (flat_plain encD [x])) ?_
    rintro _ w2 ⟨rfl, Z2, E2⟩
    have X2 : Ext w w2 := X1.write E2 (by intro k hk hlt; subst hk; omega)
    have e1 : setAt (flat Dev.cells (l.take i) ++ (r1 ++ r2)) (i * 6) (flat Dev.cells [x]) = flat Dev.cells (l.take i) ++ Dev.cells x ++ r2 := by
      rw [← List.append_assoc, ← hlt2, setAt_mid _ _ _ _ (by rw [flat_one, hr1]; rfl), flat_one]
    rw [e1] at Z2
    clear e1 Z1
    repeat' (first | refine RunE.seq ?_ | refine RunL.nil ?_)
    refine RunE.draw (fun _ => False) mix ?_
    intro w3 X3
    repeat' (first | refine AsyN.int (by (first | exact wr_i64 (by omega) (by omega) | exact wm_i64 (by omega) | exact wq_i64 (by omega) (by omega) (by omega) | rfl)) ?_ | refine AsyN.any ?_ | refine Asy.ev Tryd.tOk rfl rfl rfl ?_ | refine Asy.evV rfl rfl rfl rfl (fun _ X_ => (OpV.sliceSq Tryd.tOk (lo := i + 1) (hi := l.length + 1) rfl rfl (.some rfl rfl) .none (by omega) (by omega) (q := (i + 1) * 6) (by unfold offOf; split <;> omega) rfl rfl)) ?_ | refine Asy.evV rfl rfl rfl rfl (fun _ X_ => (OpV.sliceSq Tryd.tOk (lo := i) (hi := l.length) rfl rfl (.some rfl rfl) .none (by omega) (by omega) (q := i * 6) (by unfold offOf; split <;> omega) rfl rfl)) ?_)
    refine Asy.end_ (by kernel_rfl) ?_
    intro w4 X4
    have X34 := X3.trans X4
    have hRd4 : IsL w4 Dev.cells 6 (.slice (some ⟨g, i * 6, none⟩) (l.length - i) (cap - i)) (l.drop i) := by
      have := IsSl.row (n := l.length - i) (cap := cap - i) (hRd.extE (X2.trans X34)) hld (by omega)
      simpa [IsL, List.length_drop] using this
    obtain ⟨s1, s2, rfl, hs1⟩ : ∃ s1 s2, r2 = s1 ++ s2 ∧ s1.length = (l.length - i) * 6 := ⟨r2.take ((l.length - i) * 6), r2.drop ((l.length - i) * 6), (List.take_append_drop _ _).symm, by rw [List.length_take, hr2]; exact Nat.min_eq_left (Nat.mul_le_mul_right _ (by omega))⟩
    refine RunL.ex rfl rfl rfl (OpE.copySl Tryd.tOk rfl rfl rfl (Z2.up X34) hRd4 (by rw [List.length_drop]; omega) (by simp only [List.length_append, hlt2, hld, hs1]; have : (Dev.cells x).length = 6 := rfl; omega) (flat_plain encD _)) ?_
    rintro _ w5 ⟨rfl, Z5, E5⟩
    have X5 : Ext w w5 := (X2.trans X34).write E5 (by intro k hk hlt; subst hk; omega)
    have e2 : setAt (flat Dev.cells (l.take i) ++ Dev.cells x ++ (s1 ++ s2)) ((i + 1) * 6) (flat Dev.cells (l.drop i)) = flat Dev.cells (l.take i ++ x :: l.drop i) ++ s2 := by
      rw [← List.append_assoc, show (i + 1) * 6 = (flat Dev.cells (l.take i) ++ Dev.cells x).length by rw [List.length_append, hlt2, Nat.add_mul]; rfl, setAt_mid _ _ _ _ (by rw [hld, hs1]), flat_append, flat_cons]; simp
    rw [e2] at Z5
    repeat' (first | refine RunLN.any ?_ | refine RunL.ev Tryd.tOk rfl rfl rfl ?_ | refine RunE.seq ?_ | refine RunE.region ?_ | refine RunL.nil ?_)
    refine RunE.retFn Tryd.func67 (.tmp rfl .nil) ⟨?_, X5.mono (fun _ _ h => h.elim)⟩
    have hN : (l.take i ++ x :: l.drop i).length = l.length + 1 := by simp; omega
    refine (congrArg (fun n => IsSl _ _ _ n _) hN).mpr ?_
    exact isSl_blk Z5 (fun j u hj => by rw [Nat.zero_add, List.getElem?_append_left (by rcases Nat.lt_or_ge j (flat Dev.cells (l.take i ++ x :: l.drop i)).length with h | h; exact h; rw [List.getElem?_eq_none h] at hj; simp at hj)]; exact hj) (by rw [flat_length encD, hN]) (by omega)
  · have hroom' : l.length + 1 ≤ cap := by omega
    repeat' (first | (with_reducible refine RunLN.decF ?_ ?_; focus omega) | refine RunLN.int (by (first | exact wr_i64 (by omega) (by omega) | exact wm_i64 (by omega) | exact wq_i64 (by omega) (by omega) (by omega) | rfl)) ?_ | refine RunLN.any ?_ | refine RunL.ev Tryd.tOk rfl rfl rfl ?_ | refine RunE.condF rfl rfl ?_ | refine RunE.seq ?_ | refine RunE.region ?_ | refine RunL.nil ?_ | refine RunE.skip ?_)
    refine RunL.val rfl rfl rfl (OpV.slice0 Tryd.tOk (hi := l.length + 1) rfl rfl .none (.some rfl rfl) (by omega)) ?_
    repeat' (first | refine RunLN.int (by (first | exact wr_i64 (by omega) (by omega) | exact wm_i64 (by omega) | exact wq_i64 (by omega) (by omega) (by omega) | rfl)) ?_ | refine RunLN.any ?_ | refine RunL.ev Tryd.tOk rfl rfl rfl ?_ | refine RunE.seq ?_ | refine RunE.region ?_ | refine RunL.nil ?_)
    refine RunL.val rfl rfl rfl (OpV.sliceSq Tryd.tOk (lo := i + 1) (hi := l.length + 1) rfl rfl (.some rfl rfl) .none (by omega) (by omega) (q := (i + 1) * 6) (by unfold offOf; split <;> omega) rfl rfl) ?_
    have hov : ∀ lb cb, (callFunc 96 #[.slice (some ⟨vb, 0, none⟩) 1 1, .slice (some ⟨g, (i + 1) * 6, none⟩) lb cb]).run Tryd.prog w = .ok (.value (.bool false)) w := fun lb cb => by
      rw [run_callFunc_extern Tryd.func96 (by kernel_rfl) (by kernel_rfl) (by kernel_rfl) (e := Extern.SlicesOverlaps.overlaps #[55, 55] #[4]) (by kernel_rfl),
        Lib.run_overlaps_apart w 55 4 57 (TD.of_slc (TI.tdof (Tryd.tOk.get 55 _ rfl)).symm).1 6 (fun w => by
          obtain ⟨j, hj, hsz, -⟩ := TI.info (Tryd.tOk.get 57 _ rfl)
          exact (Go.Rn.run_sizeOf hj).trans (by rw [hsz])) ⟨vb, 0, none⟩ ⟨g, (i + 1) * 6, none⟩ 1 1 lb cb (Ne.symm hgv) 57 57 6 (flat Dev.cells l ++ rest).length
          (by unfold World.shape?; rw [show w.heap[vb]? = _ from hV]; rfl) (by unfold World.shape?; rw [show w.heap[g]? = _ from Zg]; simp) (by rw [List.length_append, hlen]; have : 0 < l.length * 6 := Nat.mul_pos (by omega) (by decide); omega)
          (by unfold World.frozen?; rw [show w.heap[vb]? = _ from hV]; rfl) (by unfold World.frozen?; rw [show w.heap[vb]? = _ from hV]; rfl)]
      rfl
    skip
    refine RunL.evV rfl rfl rfl (OpV.callX rfl (hov _ _)) ?_
    repeat' (first | with_reducible refine RunLN.boolT rfl ?_ | with_reducible refine RunLN.boolF rfl ?_ | refine RunL.ev Tryd.tOk rfl rfl rfl ?_ | refine RunE.condT rfl rfl ?_ | refine RunE.seq ?_ | refine RunL.nil ?_)
    refine RunE.draw (fun _ => False) mix ?_
    intro w3 X3
    repeat' (first | refine AsyN.int (by (first | exact wr_i64 (by omega) (by omega) | exact wm_i64 (by omega) | exact wq_i64 (by omega) (by omega) (by omega) | rfl)) ?_ | refine AsyN.any ?_ | refine Asy.ev Tryd.tOk rfl rfl rfl ?_ | refine Asy.evV rfl rfl rfl rfl (fun _ X_ => (OpV.sliceSq Tryd.tOk (lo := i + 1) (hi := l.length + 1) rfl rfl (.some rfl rfl) .none (by omega) (by omega) (q := (i + 1) * 6) (by unfold offOf; split <;> omega) rfl rfl)) ?_ | refine Asy.evV rfl rfl rfl rfl (fun _ X_ => (OpV.sliceSq Tryd.tOk (lo := i) (hi := l.length + 1) rfl rfl (.some rfl rfl) .none (by omega) (by omega) (q := i * 6) (by unfold offOf; split <;> omega) rfl rfl)) ?_)
    refine Asy.end_ (by kernel_rfl) ?_
    intro w4 X4
    have X34 := X3.trans X4
    obtain ⟨r1, r2, rfl, hr1⟩ : ∃ r1 r2, rest = r1 ++ r2 ∧ r1.length = 6 := ⟨rest.take 6, rest.drop 6, (List.take_append_drop _ _).symm, by rw [List.length_take, hrl]; have : 1 * 6 ≤ (cap - l.length) * 6 := Nat.mul_le_mul_right _ (by omega); omega⟩
    obtain ⟨y1, y2, hy, hy1, hy2⟩ : ∃ y1 y2, flat Dev.cells (l.drop i) ++ r1 = y1 ++ y2 ∧ y1.length = 6 ∧ y2.length = (l.length - i) * 6 :=
      ⟨(flat Dev.cells (l.drop i) ++ r1).take 6, (flat Dev.cells (l.drop i) ++ r1).drop 6, (List.take_append_drop _ _).symm, by rw [List.length_take, List.length_append, hr1]; omega, by rw [List.length_drop, List.length_append, hr1, hld]; omega⟩
    have Zg4 : Blk w4 g (flat Dev.cells (l.take i) ++ y1 ++ y2 ++ r2) 57 := by
      have := Zg.up X34
      rwa [hspl, List.append_assoc, ← List.append_assoc (flat Dev.cells (l.drop i)), hy, ← List.append_assoc, ← List.append_assoc] at this
    refine RunL.ex rfl rfl rfl (OpE.copy Tryd.tOk rfl rfl rfl Zg4 (hRd.extE X34) (by rw [hld, show min (l.length + 1 - i) (l.length + 1 - (i + 1)) = l.length - i by omega]) (by simp only [List.length_append, hlt2, hy1, hy2, hld]; omega) (flat_plain encD _)) ?_
    rintro _ w5 ⟨rfl, t5⟩
    have e1 : setAt (flat Dev.cells (l.take i) ++ y1 ++ y2 ++ r2) ((i + 1) * 6) (flat Dev.cells (l.drop i)) = flat Dev.cells (l.take i) ++ y1 ++ (flat Dev.cells (l.drop i) ++ r2) := by
      rw [show (i + 1) * 6 = (flat Dev.cells (l.take i) ++ y1).length by rw [List.length_append, hlt2, hy1, Nat.add_mul], setAt_mid _ _ _ _ (by rw [hld, hy2])]; simp
    have Z5 : Blk w5 g (flat Dev.cells (l.take i) ++ y1 ++ (flat Dev.cells (l.drop i) ++ r2)) 57 := by rw [← e1]; exact t5.at_
    have hV5 : IsL w5 Dev.cells 6 (.slice (some ⟨vb, 0, none⟩) 1 1) [x] := (hx1.extE X34).ext t5.ext (by intro k hk; simp [Value.ownBlock] at hk; subst hk; exact Ne.symm hgv)
    have E5 : ExtB (fun k => some g = some k) w w5 := (ExtB.of_ext X34).trans (t5.ext.mono (by intro k _ h; subst h; rfl))
    clear t5 e1
    repeat' (first | refine RunLN.int (by (first | exact wr_i64 (by omega) (by omega) | exact wm_i64 (by omega) | exact wq_i64 (by omega) (by omega) (by omega) | rfl)) ?_ | refine RunLN.any ?_ | refine RunL.ev Tryd.tOk rfl rfl rfl ?_ | refine RunE.seq ?_ | refine RunE.region ?_ | refine RunL.nil ?_)
    refine RunL.val rfl rfl rfl (OpV.sliceSq Tryd.tOk (lo := i) (hi := l.length + 1) rfl rfl (.some rfl rfl) .none (by omega) (by omega) (q := i * 6) (by unfold offOf; split <;> omega) rfl rfl) ?_
    repeat' (first | refine RunLN.any ?_ | refine RunL.ev Tryd.tOk rfl rfl rfl ?_)
    refine RunL.ex rfl rfl rfl (OpE.copySl Tryd.tOk rfl rfl rfl Z5 hV5 (by simp only [List.length_singleton]; omega) (by simp only [List.length_append, hlt2, hy1, flat_one, hld]; have : (Dev.cells x).length = 6 := rfl; omega) (flat_plain encD [x])) ?_
    rintro _ w6 ⟨rfl, Z6, E6⟩
    have e2 : setAt (flat Dev.cells (l.take i) ++ y1 ++ (flat Dev.cells (l.drop i) ++ r2)) (i * 6) (flat Dev.cells [x]) = flat Dev.cells (l.take i ++ x :: l.drop i) ++ r2 := by
      rw [← hlt2, setAt_mid _ _ _ _ (by rw [flat_one, hy1]; rfl), flat_append, flat_one, flat_cons]; simp
    rw [e2] at Z6
    repeat' (first | refine RunLN.any ?_ | refine RunL.ev Tryd.tOk rfl rfl rfl ?_ | refine RunE.seq ?_ | refine RunE.region ?_ | refine RunL.nil ?_)
    refine RunE.retFn Tryd.func67 (.tmp rfl .nil) ⟨?_, E5.trans (E6.mono (by intro k _ h; subst h; rfl))⟩
    have hN : (l.take i ++ x :: l.drop i).length = l.length + 1 := by simp; omega
    refine (congrArg (fun n => IsSl _ _ _ n _) hN).mpr ?_
    exact isSl_blk Z6 (fun j u hj => by rw [Nat.zero_add, List.getElem?_append_left (by rcases Nat.lt_or_ge j (flat Dev.cells (l.take i ++ x :: l.drop i)).length with h | h; exact h; rw [List.getElem?_eq_none h] at hj; simp at hj)]; exact hj) (by rw [flat_length encD, hN]) (by omega)
set_option maxHeartbeats 4000000 in
/-- The place of a number in a list sorted by number; the comparison is known. -/
theorem dbsearch_ok (l : List Dev) (v f : Value) (no : Dev → Int) (m : Int) (w : World) (hv : IsL w Dev.cells 6 v l) (hs : Srt no l) (hl : l.length ≤ 5000)
    (hf : ∀ (w' : World) (x : Dev), Ext w w' → FnV Tryd.prog f [.agg (Dev.cells x).toArray, .int .i64 m] w' (fun r w'' => r = .int .i64 (cmpI (no x) m) ∧ Ext w' w'') fun _ _ => False) :
    Rets Tryd.prog 61 [v, .int .i64 m, f] w fun r w' => r = .tuple #[.int .i64 ((l.takeWhile fun y => decide (no y < m)).length : Int), .bool (l.any fun y => decide (no y = m))] ∧ Ext w w' := by
  obtain ⟨hpl, hlow, hhigh, hany⟩ := split_at (no := no) (m := m) hs
  rw [hany]
  generalize (l.takeWhile fun y => decide (no y < m)).length = p at hpl hlow hhigh ⊢
  clear hany
  have hb31 : ∀ n : Nat, n ≤ 10000 → IntKind.u64.wrap (n : Int) = (n : Int) := fun n h => u64_nat n (by omega)
  refine RetsX.of (nt := 49) Tryd.func61 (by kernel_rfl) rfl rfl (by simp) (by simp only [argEnv]; rfl) ?_
  have X := ExtB.refl (fun _ => False) w
  repeat' (first | with_reducible refine RunLN.boolF rfl ?_ | refine RunLN.int (by (first | exact wr_i64 (by omega) (by omega) | exact wm_i64 (by omega) | exact wq_i64 (by omega) (by omega) (by omega) | rfl)) ?_ | refine RunLN.any ?_ | refine RunL.ev Tryd.tOk rfl rfl rfl ?_ | refine RunL.evV rfl rfl rfl (OpV.lenSl Tryd.tOk rfl rfl hv) ?_ | refine RunE.seq ?_ | refine RunE.region ?_ | refine RunL.nil ?_ | refine RunE.block ?_)
  refine RunE.loop (ι := Nat × Nat) (fun x => [(0, v), (2, f), (1, .int .i64 m), (8, .int .i64 (l.length : Int)), (9, .int .i64 (x.1 : Int)), (10, .int .i64 (x.2 : Int))])
    (fun x w' => x.1 ≤ p ∧ p ≤ x.2 ∧ x.2 ≤ l.length ∧ Ext w w') (fun x => x.2 - x.1) (0, l.length) (by repeat (first | exact Sub.nil _ | refine Sub.cons rfl ?_)) ⟨Nat.zero_le _, hpl, Nat.le_refl _, X⟩ ?_
  clear X
  rintro ⟨i, j⟩ w3 ⟨h1, h2, h3, X⟩ again
  simp only at h1 h2 h3 again ⊢
  by_cases hij : i < j
  · obtain ⟨b, o, cap, rfl, hr, hc⟩ := isL_held hv (i := (i + j) / 2 ^ 1) (by omega)
    obtain ⟨x, hx⟩ : ∃ x, l[(i + j) / 2 ^ 1]? = some x := ⟨_, List.getElem?_eq_getElem (by omega)⟩
    have hrx := flat_row encD hr hx
    repeat' (first | (with_reducible refine RunLN.decT ?_ ?_; focus omega) | refine RunLN.int (by (first | exact hb31 (i + j) (by omega) | exact u64_shr (i + j) 1 (by decide) | exact wr_i64 (by omega) (by omega) | exact wm_i64 (by omega) | exact wq_i64 (by omega) (by omega) (by omega) | rfl)) ?_ | refine RunLN.any ?_ | refine RunL.ev Tryd.tOk rfl rfl rfl ?_ | refine RunL.evV rfl rfl rfl (OpV.indexS Tryd.tOk _ rfl rfl rfl rfl (by omega)) ?_ | refine RunE.condT rfl rfl ?_ | refine RunE.seq ?_ | refine RunE.region ?_ | refine RunL.nil ?_ | refine RunE.block ?_ | refine RunE.skip ?_)
    refine RunL.evV rfl rfl rfl (OpV.loadN Tryd.tOk rfl rfl rfl rfl (hrx.up X)) ?_
    repeat' (first | refine RunLN.int (by (first | exact wr_i64 (by omega) (by omega) | exact wm_i64 (by omega) | exact wq_i64 (by omega) (by omega) (by omega) | rfl)) ?_ | refine RunLN.any ?_ | refine RunL.ev Tryd.tOk rfl rfl rfl ?_)
    refine RunL.ex rfl rfl rfl (OpE.callV rfl rfl (hf _ x X)) ?_
    rintro _ we_ ⟨rfl, Xe_⟩
    replace X := X.trans Xe_
    repeat' (first | refine RunLN.any ?_ | refine RunL.ev Tryd.tOk rfl rfl rfl ?_ | refine RunL.nil ?_)
    by_cases hlt : no x < m
    · rw [decide_eq_true (cmpI_neg.2 hlt)]
      repeat' (first | refine RunLN.int (by (first | exact wr_i64 (by omega) (by omega) | exact wm_i64 (by omega) | exact wq_i64 (by omega) (by omega) (by omega) | rfl)) ?_ | refine RunL.ev Tryd.tOk rfl rfl rfl ?_ | refine RunE.condT rfl rfl ?_ | refine RunE.region ?_ | refine RunL.nil ?_ | refine RunE.inBlock ?_)
      refine RunE.weaken (by repeat (first | exact Sub.nil _ | refine Sub.cons rfl ?_)) (again ((i + j) / 2 ^ 1 + 1, j) _ (by simp only; omega) ⟨?_, h2, h3, X⟩)
      simp only
      rcases Nat.lt_or_ge ((i + j) / 2 ^ 1) p with h | h
      · exact h
      · have := hhigh _ x hx h; omega
    · rw [decide_eq_false (fun h => hlt (cmpI_neg.1 h))]
      repeat' (first | refine RunLN.int (by (first | exact wr_i64 (by omega) (by omega) | exact wm_i64 (by omega) | exact wq_i64 (by omega) (by omega) (by omega) | rfl)) ?_ | refine RunL.ev Tryd.tOk rfl rfl rfl ?_ | refine RunE.condF rfl rfl ?_ | refine RunE.region ?_ | refine RunL.nil ?_ | refine RunE.inBlock ?_)
      refine RunE.weaken (by repeat (first | exact Sub.nil _ | refine Sub.cons rfl ?_)) (again (i, (i + j) / 2 ^ 1) _ (by simp only; omega) ⟨h1, ?_, by simp only; omega, X⟩)
      simp only
      rcases Nat.lt_or_ge ((i + j) / 2 ^ 1) p with h | h
      · have := hlow _ x hx h; omega
      · exact h
  · obtain rfl : i = p := by omega
    by_cases hin : i < l.length
    · obtain ⟨b, o, cap, rfl, hr, hc⟩ := isL_held hv hin
      obtain ⟨x, hx⟩ : ∃ x, l[i]? = some x := ⟨_, List.getElem?_eq_getElem hin⟩
      have hrx := flat_row encD hr hx
      rw [hx]
      repeat' (first | with_reducible refine RunLN.boolT rfl ?_ | (with_reducible refine RunLN.decT ?_ ?_; focus omega) | (with_reducible refine RunLN.decF ?_ ?_; focus omega) | refine RunLN.int (by (first | exact wr_i64 (by omega) (by omega) | exact wm_i64 (by omega) | exact wq_i64 (by omega) (by omega) (by omega) | rfl)) ?_ | refine RunLN.any ?_ | refine RunL.ev Tryd.tOk rfl rfl rfl ?_ | refine RunL.evV rfl rfl rfl (OpV.loadN Tryd.tOk rfl rfl rfl rfl (hrx.up X)) ?_ | refine RunL.evV rfl rfl rfl (OpV.indexS Tryd.tOk _ rfl rfl rfl rfl (by omega)) ?_ | refine RunE.condF rfl rfl ?_ | refine RunE.seq ?_ | refine RunE.region ?_ | refine RunL.nil ?_ | refine RunE.exit rfl ?_)
      refine RunL.ex rfl rfl rfl (OpE.callV rfl rfl (hf _ x X)) ?_
      rintro _ we_ ⟨rfl, Xe_⟩
      replace X := X.trans Xe_
      repeat' (first | refine RunLN.int (by (first | exact wr_i64 (by omega) (by omega) | exact wm_i64 (by omega) | exact wq_i64 (by omega) (by omega) (by omega) | rfl)) ?_ | refine RunLN.any ?_ | refine RunL.ev Tryd.tOk rfl rfl rfl ?_ | refine RunL.nil ?_)
      refine RunE.retFn Tryd.func61 (.tmp rfl (.tmp rfl .nil)) ⟨?_, X⟩
      simp only [oneOr]
      congr 4
      refine congrArg Value.bool ?_
      rw [Bool.eq_iff_iff, beq_iff_eq, decide_eq_true_eq]
      exact cmpI_zero
    · rw [List.getElem?_eq_none (by omega)]
      repeat' (first | with_reducible refine RunLN.boolF rfl ?_ | (with_reducible refine RunLN.decF ?_ ?_; focus omega) | refine RunLN.int (by (first | exact wr_i64 (by omega) (by omega) | exact wm_i64 (by omega) | exact wq_i64 (by omega) (by omega) (by omega) | rfl)) ?_ | refine RunL.ev Tryd.tOk rfl rfl rfl ?_ | refine RunL.unwantedD rfl rfl ?_ | refine RunE.condF rfl rfl ?_ | refine RunE.seq ?_ | refine RunE.region ?_ | refine RunL.nil ?_ | refine RunE.exit rfl ?_)
      exact RunE.retFn Tryd.func61 (.tmp rfl (.tmp rfl .nil)) ⟨rfl, X⟩
theorem dadd1_ok (x : Dev) (n : Int) (w : World) : Rets Tryd.prog 62 [.agg x.cells.toArray, .int .i64 n] w fun v w' => v = .int .i64 (cmpI x.no n) ∧ Ext w w' := by
  refine RetsX.of (nt := 9) Tryd.func62 (by kernel_rfl) rfl rfl (by simp) (by simp only [argEnv]; rfl) ?_
  have X := ExtB.refl (fun _ => False) w
  repeat' (first | refine RunE.seq ?_ | refine RunE.region ?_)
  refine RunL.box rfl rfl rfl fun B2 w2_ a_ => ?_
  have Z2 : Blk w2_ B2 (x.cells) 57 := a_.at_
  have gB2 := a_.ge X
  replace X := X.trans a_.ext
  clear a_
  repeat' (first | refine RunLN.int (by (first | exact wr_i64 (by omega) (by omega) | exact wm_i64 (by omega) | exact wq_i64 (by omega) (by omega) (by omega) | rfl)) ?_ | refine RunLN.any ?_ | refine RunL.ev Tryd.tOk rfl rfl rfl ?_ | refine RunL.evV rfl rfl rfl (OpV.load1 Tryd.tOk rfl rfl rfl (Blk.cell Z2 rfl)) ?_ | refine RunL.callN rfl rfl rfl (compare_ok _ _ _) ?_ | refine RunE.seq ?_ | refine RunE.region ?_ | refine RunL.nil ?_)
  exact RunE.retFn Tryd.func62 (.tmp rfl .nil) ⟨rfl, X⟩
end Go.Sg
end
section
/- Devices: Add. -/
namespace Go.Sg
open Go.Rn Go.Proofs Go.Dev Go.Rec Go.Best Go.NT
attribute [local irreducible] Go.Rn.RetsX Go.Rn.RunLN Go.Rn.AsyN Go.Rn.RunL Go.Rn.RunE Go.Rn.Asy Go.Rn.OpV Go.Rn.OpE Go.Rn.ExecE
set_option maxHeartbeats 1000000 in
/-- Is there an element for which a function says true? -/
theorem dindexFunc_ok (l : List Dev) (v f : Value) (p : Dev → Bool) (w : World) (hv : IsL w Dev.cells 6 v l) (hl : l.length < 9223372036854775808)
    (hf : ∀ (w' : World) (x : Dev), Ext w w' → x ∈ l → FnV Tryd.prog f [.agg (Dev.cells x).toArray] w' (fun r w'' => r = .bool (p x) ∧ Ext w' w'') fun _ _ => False) :
    Rets Tryd.prog 94 [v, f] w fun r w' => ((l.any p = true ∧ ∃ i : Nat, r = .int .i64 (i : Int)) ∨ (l.any p = false ∧ r = .int .i64 (-1))) ∧ Ext w w' := by
  refine RetsX.of (nt := 19) Tryd.func94 (by kernel_rfl) rfl rfl (by simp) (by simp only [argEnv]; rfl) ?_
  have X := ExtB.refl (fun _ => False) w
  repeat' (first | refine RunLN.int (by (first | exact wr_i64 (by omega) (by omega) | exact wm_i64 (by omega) | exact wq_i64 (by omega) (by omega) (by omega) | rfl)) ?_ | refine RunLN.any ?_ | refine RunL.ev Tryd.tOk rfl rfl rfl ?_ | refine RunL.evV rfl rfl rfl (OpV.lenSl Tryd.tOk rfl rfl hv) ?_ | refine RunE.seq ?_ | refine RunE.region ?_ | refine RunL.nil ?_ | refine RunE.block ?_)
  refine RunE.loop (ι := Nat) (fun i => [(0, v), (1, f), (6, v), (7, .int .i64 (l.length : Int)), (8, .int .i64 (i : Int))])
    (fun i w' => i ≤ l.length ∧ (l.take i).any p = false ∧ Ext w w') (fun i => l.length - i) 0 (by repeat (first | exact Sub.nil _ | refine Sub.cons rfl ?_)) ⟨Nat.zero_le _, rfl, X⟩ ?_
  clear X
  rintro i w3 ⟨hi, ha, X⟩ again
  by_cases hlt : i < l.length
  · obtain ⟨b, o, cap, rfl, hr, hc⟩ := isL_held hv hlt
    obtain ⟨x, hx⟩ : ∃ x, l[i]? = some x := ⟨_, List.getElem?_eq_getElem hlt⟩
    have hrx := flat_row encD hr hx
    have ht : (l.take (i + 1)).any p = p x := by rw [List.take_add_one, hx, List.any_append, ha]; simp
    repeat' (first | (with_reducible refine RunLN.decT ?_ ?_; focus omega) | refine RunLN.int (by (first | exact wr_i64 (by omega) (by omega) | exact wm_i64 (by omega) | exact wq_i64 (by omega) (by omega) (by omega) | rfl)) ?_ | refine RunLN.any ?_ | refine RunL.ev Tryd.tOk rfl rfl rfl ?_ | refine RunL.evV rfl rfl rfl (OpV.loadN Tryd.tOk rfl rfl rfl rfl (hrx.up X)) ?_ | refine RunL.evV rfl rfl rfl (OpV.indexS Tryd.tOk _ rfl rfl rfl rfl (by omega)) ?_ | refine RunE.condT rfl rfl ?_ | refine RunE.seq ?_ | refine RunE.region ?_ | refine RunL.nil ?_ | refine RunE.block ?_ | refine RunE.skip ?_)
    refine RunL.ex rfl rfl rfl (OpE.callV rfl rfl (hf _ x X (List.mem_of_getElem? hx))) ?_
    rintro _ we_ ⟨rfl, Xe_⟩
    replace X := X.trans Xe_
    cases hp : p x with
    | true =>
      repeat' (first | refine RunLN.int (by (first | exact wr_i64 (by omega) (by omega) | exact wm_i64 (by omega) | exact wq_i64 (by omega) (by omega) (by omega) | rfl)) ?_ | refine RunL.ev Tryd.tOk rfl rfl rfl ?_ | refine RunE.condT rfl rfl ?_ | refine RunE.seq ?_ | refine RunE.region ?_ | refine RunL.nil ?_)
      exact RunE.retFn Tryd.func94 (.tmp rfl .nil) ⟨.inl ⟨List.any_eq_true.2 ⟨x, List.mem_of_getElem? hx, hp⟩, i, rfl⟩, X⟩
    | false =>
      rw [hp] at ht
      repeat' (first | refine RunLN.int (by (first | exact wr_i64 (by omega) (by omega) | exact wm_i64 (by omega) | exact wq_i64 (by omega) (by omega) (by omega) | rfl)) ?_ | refine RunL.ev Tryd.tOk rfl rfl rfl ?_ | refine RunE.condF rfl rfl ?_ | refine RunE.region ?_ | refine RunL.nil ?_ | refine RunE.inBlock ?_ | refine RunE.skip ?_)
      exact RunE.weaken (by repeat (first | exact Sub.nil _ | refine Sub.cons rfl ?_)) (again (i + 1) _ (by omega) ⟨by omega, ht, X⟩)
  · obtain rfl : i = l.length := by omega
    rw [List.take_length] at ha
    repeat' (first | (with_reducible refine RunLN.decF ?_ ?_; focus omega) | refine RunLN.int (by (first | exact wr_i64 (by omega) (by omega) | exact wm_i64 (by omega) | exact wq_i64 (by omega) (by omega) (by omega) | rfl)) ?_ | refine RunL.ev Tryd.tOk rfl rfl rfl ?_ | refine RunE.condF rfl rfl ?_ | refine RunE.seq ?_ | refine RunE.region ?_ | refine RunL.nil ?_ | refine RunE.exit rfl ?_)
    exact RunE.retFn Tryd.func94 (.tmp rfl .nil) ⟨.inr ⟨ha, rfl⟩, X⟩
theorem dcontainsFunc_ok (l : List Dev) (v f : Value) (p : Dev → Bool) (w : World) (hv : IsL w Dev.cells 6 v l) (hl : l.length < 9223372036854775808)
    (hf : ∀ (w' : World) (x : Dev), Ext w w' → x ∈ l → FnV Tryd.prog f [.agg (Dev.cells x).toArray] w' (fun r w'' => r = .bool (p x) ∧ Ext w' w'') fun _ _ => False) :
    Rets Tryd.prog 64 [v, f] w fun r w' => r = .bool (l.any p) ∧ Ext w w' := by
  refine RetsX.of (nt := 9) Tryd.func64 (by kernel_rfl) rfl rfl (by simp) (by simp only [argEnv]; rfl) ?_
  repeat' (first | with_reducible refine RunLN.boolF rfl ?_ | refine RunLN.any ?_ | refine RunL.ev Tryd.tOk rfl rfl rfl ?_ | refine RunE.seq ?_ | refine RunE.region ?_ | refine RunL.nil ?_)
  refine RunL.call rfl rfl rfl (dindexFunc_ok l v f p w hv hl hf) ?_
  rintro _ w1 ⟨⟨ha, i, rfl⟩ | ⟨ha, rfl⟩, X⟩
  · rw [ha]
    repeat' (first | with_reducible refine RunLN.boolT rfl ?_ | refine RunL.ev Tryd.tOk rfl rfl rfl ?_ | refine RunL.nil ?_)
    exact RunE.retFn Tryd.func64 (.tmp rfl .nil) ⟨rfl, X⟩
  · rw [ha]
    repeat' (first | with_reducible refine RunLN.boolF rfl ?_ | refine RunL.ev Tryd.tOk rfl rfl rfl ?_ | refine RunL.nil ?_)
    exact RunE.retFn Tryd.func64 (.tmp rfl .nil) ⟨rfl, X⟩
theorem dadd2_ok (x y : Dev) (b : Nat) (w : World) (U : Blk w b x.cells 57) : Rets Tryd.prog 65 [.agg y.cells.toArray, .pointer (some ⟨b, 0, none⟩)] w fun r w' => r = .bool (!x.gone && decide (y.key = x.key)) ∧ Ext w w' := by
  obtain ⟨no, at_, known, person, key, gone⟩ := x
  refine RetsX.of (nt := 14) Tryd.func65 (by kernel_rfl) rfl rfl (by simp) (by simp only [argEnv]; rfl) ?_
  have X := ExtB.refl (fun _ => False) w
  repeat' (first | refine RunE.seq ?_ | refine RunE.region ?_)
  refine RunL.box rfl rfl rfl fun B2 w2_ a_ => ?_
  have Z2 : Blk w2_ B2 (y.cells) 57 := a_.at_
  have gB2 := a_.ge X
  replace X := X.trans a_.ext
  clear a_
  replace U := U.up X
  cases gone with
  | true =>
    repeat' (first | with_reducible refine RunLN.boolT rfl ?_ | with_reducible refine RunLN.boolF rfl ?_ | refine RunLN.any ?_ | refine RunL.ev Tryd.tOk rfl rfl rfl ?_ | refine RunL.unwantedD rfl rfl ?_ | refine RunL.evV rfl rfl rfl (OpV.load1 Tryd.tOk rfl rfl rfl (Blk.cell U rfl)) ?_ | refine RunE.seq ?_ | refine RunE.region ?_ | refine RunL.nil ?_)
    exact RunE.retFn Tryd.func65 (.tmp rfl .nil) ⟨rfl, X⟩
  | false =>
    repeat' (first | with_reducible refine RunLN.boolT rfl ?_ | with_reducible refine RunLN.boolF rfl ?_ | refine RunLN.int (by (first | exact wr_i64 (by omega) (by omega) | exact wm_i64 (by omega) | exact wq_i64 (by omega) (by omega) (by omega) | rfl)) ?_ | (refine RunLN.boolC (fun h_ => ?_) (fun h_ => ?_) <;> (try simp only [decide_eq_true_eq, decide_eq_false_iff_not, beq_iff_eq, bne_iff_ne, ne_eq, Bool.not_eq_true, Bool.not_eq_false, beq_eq_false_iff_ne, bne_eq_false_iff_eq, Bool.not_eq_eq_eq_not, Bool.not_true, Bool.not_false, Bool.not_not, Int.not_lt, Int.not_le, gt_iff_lt, ge_iff_le, Decidable.not_not] at h_)) | refine RunLN.any ?_ | refine RunL.ev Tryd.tOk rfl rfl rfl ?_ | refine RunL.evV rfl rfl rfl (OpV.load1 Tryd.tOk rfl rfl rfl (Blk.cell Z2 rfl)) ?_ | refine RunL.evV rfl rfl rfl (OpV.load1 Tryd.tOk rfl rfl rfl (Blk.cell U rfl)) ?_ | refine RunE.seq ?_ | refine RunE.region ?_ | refine RunL.nil ?_)
    all_goals
      refine RunE.retFn Tryd.func65 (.tmp rfl .nil) ⟨?_, X⟩
      simp only [oneOr, Bool.not_false, Bool.true_and]
      congr 1
      first | exact (decide_eq_true (by omega)).symm | exact (decide_eq_false (by omega)).symm
theorem again_used {l : List Dev} {x : Dev} (h : rightD x = true) : (l.any fun y => !x.gone && decide (y.key = x.key)) = usedD l x.key := by
  unfold usedD
  congr 1
  funext y
  rw [right_key h, Bool.eq_iff_iff]
  simp
set_option maxHeartbeats 2000000 in
theorem dadd_ok (l : List Dev) (x : Dev) (v : Value) (w : World) (hv : LD w v l) (hl : l.length < 9223372036854775808) :
    Rets Tryd.prog 32 [v, .agg x.cells.toArray] w fun r w' => (∃ u, r = .tuple #[u, .int .i64 (addED l x)] ∧ LD w' u (addLD l x)) ∧ Ext w w' := by
  refine RetsX.of (nt := 43) Tryd.func32 (by kernel_rfl) rfl rfl (by simp) (by simp only [argEnv]; rfl) ?_
  have X := ExtB.refl (fun _ => False) w
  repeat' (first | refine RunE.seq ?_ | refine RunE.region ?_)
  refine RunL.box rfl rfl rfl fun B3 w3_ a_ => ?_
  have Z3 : Blk w3_ B3 (x.cells) 57 := a_.at_
  have gB3 := a_.ge X
  replace X := X.trans a_.ext
  clear a_
  repeat' (first | refine RunLN.int (by (first | exact wr_i64 (by omega) (by omega) | exact wm_i64 (by omega) | exact wq_i64 (by omega) (by omega) (by omega) | rfl)) ?_ | refine RunLN.any ?_ | refine RunL.ev Tryd.tOk rfl rfl rfl ?_ | refine RunE.seq ?_ | refine RunE.region ?_ | refine RunL.nil ?_)
  refine RunL.call rfl rfl rfl (dcheck_ok l v _ (hv.up X) hl) ?_
  rintro _ _ ⟨rfl, Xa_⟩
  replace Z3 := Z3.up Xa_
  replace X := X.trans Xa_
  clear Xa_
  by_cases hc : chkD l = 0
  · obtain ⟨hle, hsrt, -, -⟩ := chkD_ok.1 hc
    have hE : addED l x = (if rightD x then (if (l.any fun y => decide (y.no = x.no)) || usedD l x.key then 151 else if l.length = 1024 then 2 else 0) else 480) := if_pos hc
    rw [hc]
    repeat' (first | with_reducible refine RunLN.boolF rfl ?_ | refine RunLN.int (by (first | exact wr_i64 (by omega) (by omega) | exact wm_i64 (by omega) | exact wq_i64 (by omega) (by omega) (by omega) | rfl)) ?_ | refine RunLN.any ?_ | refine RunL.ev Tryd.tOk rfl rfl rfl ?_ | refine RunL.evV rfl rfl rfl (OpV.load1 Tryd.tOk rfl rfl rfl (Blk.cell Z3 rfl)) ?_ | refine RunE.condF rfl rfl ?_ | refine RunE.seq ?_ | refine RunE.region ?_ | refine RunL.nil ?_ | refine RunE.skip ?_)
    refine RunL.call rfl rfl rfl (dbsearch_ok l v _ Dev.no x.no _ (hv.up X) hsrt (by omega) (fun w' y e => Rets.v (fi := []) (dadd1_ok y x.no w') rfl)) ?_
    rintro _ _ ⟨rfl, Xa_⟩
    replace Z3 := Z3.up Xa_
    replace X := X.trans Xa_
    clear Xa_
    repeat' (first | refine RunLN.int (by (first | exact wr_i64 (by omega) (by omega) | exact wm_i64 (by omega) | exact wq_i64 (by omega) (by omega) (by omega) | rfl)) ?_ | refine RunLN.any ?_ | refine RunL.ev Tryd.tOk rfl rfl rfl ?_ | refine RunE.seq ?_ | refine RunE.region ?_ | refine RunL.nil ?_)
    have hcf := fun w' y (e : Ext _ w') (_ : y ∈ l) => RetsX.v (fi := []) (args := [.agg y.cells.toArray]) (ca := [.pointer (some ⟨B3, 0, none⟩)]) (dadd2_ok x y B3 w' (Z3.up e))
    refine RunL.call rfl rfl rfl (dcontainsFunc_ok l v _ (fun y => !x.gone && decide (y.key = x.key)) _ (hv.up X) hl hcf) ?_
    rintro _ _ ⟨rfl, Xa_⟩
    replace Z3 := Z3.up Xa_
    replace X := X.trans Xa_
    clear Xa_
    repeat' (first | refine RunLN.any ?_ | refine RunL.ev Tryd.tOk rfl rfl rfl ?_ | refine RunL.evV rfl rfl rfl (OpV.loadN Tryd.tOk rfl rfl rfl rfl (Blk.row Z3)) ?_ | refine RunE.seq ?_ | refine RunE.region ?_ | refine RunL.nil ?_ | refine RunE.block ?_)
    refine RunL.call rfl rfl rfl (dright_ok x _) ?_
    rintro _ _ ⟨rfl, Xa_⟩
    replace Z3 := Z3.up Xa_
    replace X := X.trans Xa_
    clear Xa_
    cases hr : rightD x with
    | false =>
      have he : addED l x = 480 := by rw [hE, hr]; rfl
      repeat' (first | with_reducible refine RunLN.boolT rfl ?_ | refine RunLN.int (by (first | exact wr_i64 (by omega) (by omega) | exact wm_i64 (by omega) | exact wq_i64 (by omega) (by omega) (by omega) | rfl)) ?_ | refine RunLN.any ?_ | refine RunL.ev Tryd.tOk rfl rfl rfl ?_ | refine RunE.condT rfl rfl ?_ | refine RunE.seq ?_ | refine RunE.region ?_ | refine RunL.nil ?_)
      refine RunE.retFn Tryd.func32 (.tmp rfl (.tmp rfl .nil)) ⟨⟨.slice none 0 0, ?_, ?_⟩, X⟩
      · rw [he]; rfl
      · unfold addLD; rw [he, if_neg (by first | decide | exact hc)]; exact IsSl.nil
    | true =>
      rw [again_used hr]
      cases ha : l.any (fun y => decide (y.no = x.no)) with
      | true =>
        have he : addED l x = 151 := by rw [hE, hr, ha]; rfl
        repeat' (first | with_reducible refine RunLN.boolT rfl ?_ | with_reducible refine RunLN.boolF rfl ?_ | refine RunLN.int (by (first | exact wr_i64 (by omega) (by omega) | exact wm_i64 (by omega) | exact wq_i64 (by omega) (by omega) (by omega) | rfl)) ?_ | refine RunLN.any ?_ | refine RunL.ev Tryd.tOk rfl rfl rfl ?_ | refine RunL.unwantedD rfl rfl ?_ | refine RunE.condT rfl rfl ?_ | refine RunE.condF rfl rfl ?_ | refine RunE.seq ?_ | refine RunE.region ?_ | refine RunL.nil ?_)
        refine RunE.retFn Tryd.func32 (.tmp rfl (.tmp rfl .nil)) ⟨⟨.slice none 0 0, ?_, ?_⟩, X⟩
        · rw [he]; rfl
        · unfold addLD; rw [he, if_neg (by first | decide | exact hc)]; exact IsSl.nil
      | false =>
        cases hud : usedD l x.key with
        | true =>
          have he : addED l x = 151 := by rw [hE, hr, ha, hud]; rfl
          repeat' (first | with_reducible refine RunLN.boolT rfl ?_ | with_reducible refine RunLN.boolF rfl ?_ | refine RunLN.int (by (first | exact wr_i64 (by omega) (by omega) | exact wm_i64 (by omega) | exact wq_i64 (by omega) (by omega) (by omega) | rfl)) ?_ | refine RunLN.any ?_ | refine RunL.ev Tryd.tOk rfl rfl rfl ?_ | refine RunE.condT rfl rfl ?_ | refine RunE.condF rfl rfl ?_ | refine RunE.seq ?_ | refine RunE.region ?_ | refine RunL.nil ?_)
          refine RunE.retFn Tryd.func32 (.tmp rfl (.tmp rfl .nil)) ⟨⟨.slice none 0 0, ?_, ?_⟩, X⟩
          · rw [he]; rfl
          · unfold addLD; rw [he, if_neg (by first | decide | exact hc)]; exact IsSl.nil
        | false =>
        by_cases h4 : l.length = 1024
        · have he : addED l x = 2 := by rw [hE, hr, ha, hud, h4]; rfl
          repeat' (first | with_reducible refine RunLN.boolT rfl ?_ | with_reducible refine RunLN.boolF rfl ?_ | (with_reducible refine RunLN.eqT ?_ ?_; focus omega) | refine RunLN.int (by (first | exact wr_i64 (by omega) (by omega) | exact wm_i64 (by omega) | exact wq_i64 (by omega) (by omega) (by omega) | rfl)) ?_ | refine RunLN.any ?_ | refine RunL.ev Tryd.tOk rfl rfl rfl ?_ | refine RunL.evV rfl rfl rfl (OpV.lenSl Tryd.tOk rfl rfl hv) ?_ | refine RunE.condT rfl rfl ?_ | refine RunE.condF rfl rfl ?_ | refine RunE.seq ?_ | refine RunE.region ?_ | refine RunL.nil ?_)
          refine RunE.retFn Tryd.func32 (.tmp rfl (.tmp rfl .nil)) ⟨⟨.slice none 0 0, ?_, ?_⟩, X⟩
          · rw [he]; rfl
          · unfold addLD; rw [he, if_neg (by first | decide | exact hc)]; exact IsSl.nil
        · have he : addED l x = 0 := by rw [hE, hr, ha, hud, if_neg h4]; rfl
          have hno : ∀ y ∈ l, y.no ≠ x.no := by
            intro y hy e
            have := List.any_eq_false.1 ha y hy
            simp [e] at this
          repeat' (first | with_reducible refine RunLN.boolF rfl ?_ | (with_reducible refine RunLN.eqF ?_ ?_; focus omega) | refine RunLN.int (by (first | exact wr_i64 (by omega) (by omega) | exact wm_i64 (by omega) | exact wq_i64 (by omega) (by omega) (by omega) | rfl)) ?_ | refine RunLN.any ?_ | refine RunL.ev Tryd.tOk rfl rfl rfl ?_ | refine RunL.evV rfl rfl rfl (OpV.lenSl Tryd.tOk rfl rfl hv) ?_ | refine RunE.condF rfl rfl ?_ | refine RunE.seq ?_ | refine RunE.region ?_ | refine RunL.nil ?_ | refine RunE.inBlock ?_ | refine RunE.skip ?_)
          refine RunE.draw (fun _ => False) mix ?_
          intro wd_ Xd_
          repeat' (first | refine AsyN.any ?_ | refine Asy.ev Tryd.tOk rfl rfl rfl ?_)
          refine Asy.sat0 (fun u w' => w'.ownsRow wd_.heap.size 57 6 u l.length (flat Dev.cells l)) rfl rfl rfl rfl (fun u w' w'' _ e h => ownsRow_ext h e (fun _ _ h => h)) (fun w' e => ?_) ?_
          · refine OpE.mono (OpE.call rfl (dclone_ok l v w' (hv.up (X.trans (Xd_.trans e))) (by omega))) ?_ fun _ _ h => h
            rintro r w'' ⟨h1, h2⟩; exact ⟨h2, ownsRow_base h1 e.size⟩
          repeat' (first | refine AsyN.int (by (first | exact wr_i64 (by omega) (by omega) | exact wm_i64 (by omega) | exact wq_i64 (by omega) (by omega) (by omega) | rfl)) ?_ | refine AsyN.any ?_ | refine Asy.ev Tryd.tOk rfl rfl rfl ?_ | refine Asy.evV rfl rfl rfl rfl (fun _ X_ => OpV.loadN Tryd.tOk rfl rfl rfl rfl (Blk.row (Z3.up (Xd_.trans X_)))) ?_)
          refine Asy.sat0 (fun u w' => ∃ B, u = .slice (some ⟨B, 0, none⟩) 1 1 ∧ Blk w' B x.cells 57) rfl rfl rfl rfl (fun u w' w'' _ e h => ?_) (fun w' _ => ?_) ?_
          · obtain ⟨B, h1, h2⟩ := h; exact ⟨B, h1, h2.up e⟩
          · refine OpE.mono (OpE.buildSl Tryd.tOk [.agg x.cells.toArray] rfl rfl rfl rfl rfl rfl (by simp [Value.cells])) ?_ fun _ _ h => h
            rintro _ w'' ⟨B, rfl, a⟩; exact ⟨a.ext, B, rfl, a.at_⟩
          refine Asy.tail (by kernel_rfl) ?_
          intro we_ Xe_
          simp only [satsAll]
          rintro _ ⟨B, rfl, hB⟩ r hr
          have hbase := Xe_.size
          replace Xe_ := Xd_.trans Xe_
          have X' := X.trans Xe_
          refine RunL.call rfl rfl rfl ((dinsert_ok l x r _ B wd_.heap.size we_ (split_at (no := Dev.no) (m := x.no) hsrt).1 hr (by omega) hbase hB ?_).mono fun _ _ h => h) ?_
          · intro hlt k hk e
            subst e
            cases l with
            | nil => simp at hlt
            | cons a l =>
              rcases (isSl_own hr).inv with ⟨d, rfl, h0, -⟩ | ⟨b, o, cap, rfl, hrow, -, -⟩
              · simp at h0
              · simp [Value.ownBlock] at hk
                subst hk
                have hO := hr.2
                rcases hO with ⟨h, -⟩ | ⟨g, cap', cur, h, -⟩
                · simp at h
                · simp at h
                  obtain ⟨⟨-, rfl⟩, -⟩ := h
                  have h1 := hrow 0 (.int .i64 a.no) rfl
                  have h2 := hB.cell (i := 0) (v := .int .i64 x.no) rfl
                  rw [Nat.add_zero, h2] at h1
                  simp at h1
                  exact hno a List.mem_cons_self h1.symm
          rintro u w5 ⟨h5, E5⟩
          have X5 : Ext w w5 := X'.write E5 (by intro k hk hlt; have := ownsRow_ge hr hk; have := X.size; have := Xd_.size; omega)
          repeat' (first | refine RunLN.int (by (first | exact wr_i64 (by omega) (by omega) | exact wm_i64 (by omega) | exact wq_i64 (by omega) (by omega) (by omega) | rfl)) ?_ | refine RunLN.any ?_ | refine RunL.ev Tryd.tOk rfl rfl rfl ?_ | refine RunL.nil ?_)
          refine RunE.retFn Tryd.func32 (.tmp rfl (.tmp rfl .nil)) ⟨⟨u, ?_, ?_⟩, X5⟩
          · rw [he]; rfl
          · have : addLD l x = insS Dev.no x l := if_pos he
            rw [this]
            unfold insS
            rwa [(take_while l).1, (take_while l).2] at h5
  · have he : addED l x = chkD l := if_neg hc
    repeat' (first | (with_reducible refine RunLN.neT ?_ ?_; focus omega) | refine RunLN.int (by (first | exact wr_i64 (by omega) (by omega) | exact wm_i64 (by omega) | exact wq_i64 (by omega) (by omega) (by omega) | rfl)) ?_ | refine RunLN.any ?_ | refine RunL.ev Tryd.tOk rfl rfl rfl ?_ | refine RunE.condT rfl rfl ?_ | refine RunE.seq ?_ | refine RunE.region ?_ | refine RunL.nil ?_)
    refine RunE.retFn Tryd.func32 (.tmp rfl (.tmp rfl .nil)) ⟨⟨.slice none 0 0, ?_, ?_⟩, X⟩
    · rw [he]; rfl
    · unfold addLD; rw [he, if_neg (by first | decide | exact hc)]; exact IsSl.nil
end Go.Sg
end
section
/- Devices: is; the examples of the chapter, plain. -/
namespace Go.Dev
open Go.Best Go.NT Go.Sg
def exa : Dev := ⟨3, 10, 0, 0, 4, false⟩
def exb : Dev := ⟨4, 20, 0, 0, 16, false⟩
def exg : Dev := ⟨9, 30, 0, 0, 0, true⟩
def exl : List Dev := [exa, exb]
def exm : List Dev := [exa, exb, exg]
theorem v16 : validS 16 = true := by
  have h := valid_mul v4 v4
  rwa [show (4 * 4 : Int) % 2147483579 = 16 by decide] at h
theorem v64 : validS 64 = true := by
  have h := valid_mul v4 v16
  rwa [show (4 * 16 : Int) % 2147483579 = 64 by decide] at h
theorem right_of {x : Dev} (h : 0 ≤ x.no ∧ x.no ≤ 1048576 ∧ 0 ≤ x.at_ ∧ x.at_ < 1099511627776 ∧ 0 ≤ x.known ∧ x.known < 1099511627776 ∧ 0 ≤ x.person ∧ x.person < 64) (hg : x.gone = false) (hv : validS x.key = true) (h1 : x.key ≠ 1) : rightD x = true := by
  unfold rightD
  rw [decide_eq_true h, hg, hv, decide_eq_true h1]; rfl
theorem ra : rightD exa = true := right_of (by decide) rfl v4 (by decide)
theorem rb : rightD exb = true := right_of (by decide) rfl v16 (by decide)
theorem rg : rightD exg = true := by decide
theorem rc : rightD ⟨5, 0, 0, 0, 4, false⟩ = true := right_of (by decide) rfl v4 (by decide)
theorem rd : rightD ⟨3, 0, 0, 0, 64, false⟩ = true := right_of (by decide) rfl v64 (by decide)
theorem re (n : Int) : rightD ⟨n, 0, 0, 0, 1, false⟩ = false := by
  unfold rightD
  simp
theorem xx12 : chkD exl = 0 := by
  have h : goodL [] (-1) exl = true := by
    simp only [exl, goodL, ra, rb]; decide
  unfold chkD; rw [if_neg (by decide), if_pos h]
theorem xx12m : chkD exm = 0 := by
  have h : goodL [] (-1) exm = true := by
    simp only [exm, goodL, ra, rb, rg]; decide
  unfold chkD; rw [if_neg (by decide), if_pos h]
theorem xx1 : addED exl exg = 0 ∧ addLD exl exg = exm := by
  have h : addED exl exg = 0 := by
    unfold addED; rw [if_pos xx12, if_pos rg]; decide
  exact ⟨h, by unfold addLD; rw [if_pos h]; decide⟩
theorem xx2 : addED exl ⟨5, 0, 0, 0, 4, false⟩ = 151 := by
  unfold addED; rw [if_pos xx12, if_pos rc]; decide
theorem xx3 : addED exl ⟨3, 0, 0, 0, 64, false⟩ = 151 := by
  unfold addED; rw [if_pos xx12, if_pos rd]; decide
theorem xx4 : addED exl ⟨5, 0, 0, 0, 1, false⟩ = 480 := by
  unfold addED; rw [if_pos xx12, if_neg (by rw [re]; decide)]
theorem xx5 : curE [] 64 0 0 = 1 ∧ curD [] 64 0 0 = none := by decide
theorem cur_of {l : List Dev} {t : Int} {o : Option Dev} (h : chkD l = 0) (ha : argD 0 t 0 = true) (ho : heldD (bestD l 0 t 0) = o) : curE l 0 t 0 = 0 ∧ curD l 0 t 0 = o := by
  have e : curE l 0 t 0 = 0 := by unfold curE; rw [if_pos h, ha]; rfl
  exact ⟨e, by unfold curD; rw [if_pos e, ho]⟩
theorem xx6 : curE exl 0 20 0 = 0 ∧ curD exl 0 20 0 = some exb := cur_of xx12 (by decide) (by decide)
theorem xx7 : curE exl 0 9 0 = 0 ∧ curD exl 0 9 0 = none := cur_of xx12 (by decide) (by decide)
theorem xx8 : curE exl 0 19 0 = 0 ∧ curD exl 0 19 0 = some exa := cur_of xx12 (by decide) (by decide)
theorem xx9 : curE exm 0 29 0 = 0 ∧ curD exm 0 29 0 = some exb := cur_of xx12m (by decide) (by decide)
theorem xx10 : curE exm 0 30 0 = 0 ∧ curD exm 0 30 0 = none := cur_of xx12m (by decide) (by decide)
theorem xx11 : curE [] 0 0 0 = 0 ∧ curD [] 0 0 0 = none := cur_of (by decide) (by decide) (by decide)
theorem xx13 : chkD [⟨0, 0, 0, 0, 1, false⟩] = 480 := by
  unfold chkD; rw [if_neg (by decide), if_neg]
  intro h
  have := ((goodL_inv h).2.1 _ List.mem_cons_self).2
  rw [re] at this; simp at this
theorem xx14 : chkD [⟨0, 0, 0, 0, 4, false⟩, ⟨1, 0, 0, 1, 4, false⟩] = 480 := by
  unfold chkD; rw [if_neg (by decide), if_neg]
  intro h
  exact List.rel_of_pairwise_cons (goodL_inv h).2.2.1 (List.mem_cons_self ..) (by decide) rfl
/-- What is wanted of is. -/
def wantD : Option Dev → List Int
  | none => []
  | some x => [x.no, x.key]
end Go.Dev
namespace Go.Sg
open Go.Rn Go.Proofs Go.Dev Go.Rec Go.Best
attribute [local irreducible] Go.Rn.RetsX Go.Rn.RunLN Go.Rn.AsyN Go.Rn.RunL Go.Rn.RunE Go.Rn.Asy Go.Rn.OpV Go.Rn.OpE Go.Rn.ExecE
set_option maxHeartbeats 2000000 in
theorem is48_at {l : List Dev} {t : Int} {o : Option Dev} (h : curE l 0 t 0 = 0 ∧ curD l 0 t 0 = o) (v u : Value) (w : World) (hv : LD w v l) (hl : l.length < 9223372036854775808) (hu : IsL w intC 1 u (wantD o)) :
    Rets Tryd.prog 60 [v, .int .i64 t, u] w fun r w' => r = .bool true ∧ Ext w w' := by
  obtain ⟨hE, hD⟩ := h
  have hcur := fun w hv => dCurrent_ok l v 0 t 0 w hv hl
  rw [hE, hD] at hcur
  clear hE hD
  refine RetsX.of (nt := 57) Tryd.func60 (by kernel_rfl) rfl rfl (by simp) (by simp only [argEnv]; rfl) ?_
  have X := ExtB.refl (fun _ => False) w
  repeat' (first | with_reducible refine RunLN.boolF rfl ?_ | refine RunLN.int (by (first | exact wr_i64 (by omega) (by omega) | exact wm_i64 (by omega) | exact wq_i64 (by omega) (by omega) (by omega) | rfl)) ?_ | refine RunLN.any ?_ | refine RunL.ev Tryd.tOk rfl rfl rfl ?_ | refine RunE.seq ?_ | refine RunE.region ?_ | refine RunL.nil ?_)
  refine RunL.call rfl rfl rfl (hcur _ (hv.up X)) ?_
  rintro _ _ ⟨rfl, Xa_⟩
  replace X := X.trans Xa_
  clear Xa_
  cases o with
  | none =>
    have hul : IsL w intC 1 u [] := hu
    simp only [ansD]
    repeat' (first | with_reducible refine RunLN.boolT rfl ?_ | with_reducible refine RunLN.boolF rfl ?_ | refine RunLN.int (by (first | exact wr_i64 (by omega) (by omega) | exact wm_i64 (by omega) | exact wq_i64 (by omega) (by omega) (by omega) | rfl)) ?_ | refine RunLN.any ?_ | refine RunL.ev Tryd.tOk rfl rfl rfl ?_ | refine RunL.unwantedD rfl rfl ?_ | refine RunL.evV rfl rfl rfl (OpV.lenSl Tryd.tOk rfl rfl hul) ?_ | refine RunE.seq ?_ | refine RunE.region ?_ | refine RunL.nil ?_)
    exact RunE.retFn Tryd.func60 (.tmp rfl .nil) ⟨rfl, X⟩
  | some x =>
    have hul : IsSl w 1 u 2 (flat intC [x.no, x.key]) := hu
    obtain ⟨b1, o1, c1, rfl, hr1, -, hc1⟩ := hul.held (by omega)
    simp only [ansD]
    repeat' (first | with_reducible refine RunLN.boolT rfl ?_ | with_reducible refine RunLN.boolF rfl ?_ | (with_reducible refine RunLN.eqT ?_ ?_; focus omega) | refine RunLN.int (by (first | exact wr_i64 (by omega) (by omega) | exact wm_i64 (by omega) | exact wq_i64 (by omega) (by omega) (by omega) | rfl)) ?_ | refine RunLN.any ?_ | refine RunL.ev Tryd.tOk rfl rfl rfl ?_ | refine RunL.unwantedD rfl rfl ?_ | refine RunL.evV rfl rfl rfl (OpV.load1 Tryd.tOk rfl rfl rfl ((hr1.up X) _ _ rfl)) ?_ | refine RunL.evV rfl rfl rfl (OpV.indexS Tryd.tOk (0) rfl rfl rfl (by first | rfl | omega) (by omega)) ?_ | refine RunL.evV rfl rfl rfl (OpV.indexS Tryd.tOk (1) rfl rfl rfl (by first | rfl | omega) (by omega)) ?_ | refine RunE.seq ?_ | refine RunE.region ?_ | refine RunL.nil ?_)
    exact RunE.retFn Tryd.func60 (.tmp rfl .nil) ⟨rfl, X⟩
theorem dadd_at {l : List Dev} {x : Dev} {e : Int} {r : List Dev} (h : addED l x = e ∧ addLD l x = r) (v : Value) (w : World) (hv : LD w v l) (hl : l.length < 9223372036854775808) :
    Rets Tryd.prog 32 [v, .agg x.cells.toArray] w fun u w' => (∃ y, u = .tuple #[y, .int .i64 e] ∧ LD w' y r) ∧ Ext w w' := by
  have := dadd_ok l x v w hv hl
  rwa [h.1, h.2] at this
theorem dadd_e {l : List Dev} {x : Dev} {e : Int} (h : addED l x = e) (v : Value) (w : World) (hv : LD w v l) (hl : l.length < 9223372036854775808) :
    Rets Tryd.prog 32 [v, .agg x.cells.toArray] w fun u w' => (∃ y, u = .tuple #[y, .int .i64 e]) ∧ Ext w w' := by
  have := dadd_ok l x v w hv hl
  rw [h] at this
  exact this.mono fun _ _ ⟨⟨y, h1, _⟩, h2⟩ => ⟨⟨y, h1⟩, h2⟩
theorem dcheck_at {l : List Dev} {e : Int} (h1 : chkD l = e) (v : Value) (w : World) (hv : LD w v l) (hl : l.length < 9223372036854775808) : Rets Tryd.prog 34 [v] w fun r w' => r = .int .i64 e ∧ Ext w w' := by
  have h := dcheck_ok l v w hv hl
  rwa [h1] at h
theorem dcur_at {l : List Dev} {p t time e : Int} {o : Option Dev} (h : curE l p t time = e ∧ curD l p t time = o) (v : Value) (w : World) (hv : LD w v l) (hl : l.length < 9223372036854775808) :
    Rets Tryd.prog 37 [v, .int .i64 p, .int .i64 t, .int .i64 time] w fun r w' => r = .tuple #[.int .i64 (ansD o).1, .int .i64 (ansD o).2.1, .bool (ansD o).2.2, .int .i64 e] ∧ Ext w w' := by
  have := dCurrent_ok l v p t time w hv hl
  rwa [h.1, h.2] at this
theorem is48_no {l : List Dev} {t : Int} (h : curE l 0 t 0 = 0 ∧ curD l 0 t 0 = none) (v : Value) (w : World) (hv : LD w v l) (hl : l.length < 9223372036854775808) :
    Rets Tryd.prog 60 [v, .int .i64 t, .slice none 0 0] w fun r w' => r = .bool true ∧ Ext w w' := is48_at h v _ w hv hl IsSl.nil
theorem is48_yes {l : List Dev} {t : Int} {x : Dev} (h : curE l 0 t 0 = 0 ∧ curD l 0 t 0 = some x) (v u : Value) (w : World) (hv : LD w v l) (hl : l.length < 9223372036854775808) (hu : IsL w intC 1 u [x.no, x.key]) :
    Rets Tryd.prog 60 [v, .int .i64 t, u] w fun r w' => r = .bool true ∧ Ext w w' := is48_at h v _ w hv hl hu
end Go.Sg
end
section
/- A law's last step, whatever the law: it has returned true, and of what lay in memory nothing has turned. -/
namespace Go.Sg
open Go.Rn Go.RowKit Go.WideShapes Go.ChangeShapes

section
variable {H : Type} {enc : TypeId × Value → H} {P : Program}

theorem trodAll_stays (hl : laidOutB P = true) {W W' : World} (hb : Below W.heap.size W W') : ∀ (ts : List TypeId) (vs : List Value) (ds : List (DataW H)) (ps : List MemPlace),
    (∀ t ∈ ts, P.readableRec t = true ∧ t < P.types.size) → (∀ x ∈ ps, x.block < W.heap.size) → DataW.TrodAll enc P W 0 (fun _ => true) true ts vs ds ps →
    DataW.TrodAll enc P W' 0 (fun b => decide (b < W.heap.size)) true ts vs ds ps
  | [], vs, ds, ps, _, _, h => by
    obtain ⟨rfl, rfl, rfl⟩ := trodAll_nil h
    exact trodAll_mk0
  | t :: ts, vs, ds, ps, ht, hp, h => by
    obtain ⟨v, vs', d, ds', p, q, rfl, rfl, rfl, hd, hr⟩ := trodAll_cons h
    have h1 := ht t (by simp)
    exact trodAll_cons_mk (Below.trod hl h1.1 h1.2 hd hb (fun x hx => hp x (by simp [hx])))
      (trodAll_stays hl hb ts vs' ds' q (fun u hu => ht u (by simp [hu])) (fun x hx => hp x (by simp [hx])) hr)

theorem law_post {f : Func} {s : ChangeSpec} {apart fresh : Bool} {W W' : World} {args : Array Value} {ds gs : List (DataW H)} {before : List MemPlace} {t : TypeId}
    (hl : laidOutB P = true) (hpar : f.params.toList.all (fun t => P.readableRec t && decide (t < P.types.size)) = true) (hrt : f.resultTypes = #[t]) (hbool : P.underlying t = some .bool) (hvars : s.vars = [])
    (hfn : ∀ ds : List (DataW H), ds.length = f.params.size → s.fn H ds = { results := [.lit (.bool true)], args := ds })
    (hW : DataW.Whole enc P f.params.toList s.vars apart W args.toList ds gs before) (hb : Ext W W') :
    s.post enc P f apart fresh false false W args (.bool true) W' := by
  have hW' := hW
  obtain ⟨p, q, hA, hV, rfl, hfz, hnd⟩ := hW
  rw [hvars] at hV
  obtain ⟨rfl, rfl⟩ := trodVars_none hV
  have hlen : ds.length = f.params.size := by
    have : ∀ (ts : List TypeId) (vs : List Value) (ds : List (DataW H)) (ps : List MemPlace), DataW.TrodAll enc P W 0 (fun _ => true) true ts vs ds ps → ds.length = ts.length := by
      intro ts
      induction ts with
      | nil => intro vs ds ps h; obtain ⟨rfl, rfl, rfl⟩ := trodAll_nil h; rfl
      | cons t ts ih =>
        intro vs ds ps h
        obtain ⟨v, vs', d, ds', p, q, rfl, rfl, rfl, hd, hr⟩ := trodAll_cons h
        simp [ih _ _ _ hr]
    simpa using this _ _ _ _ hA
  have hfn' := hfn ds hlen
  have hlt : ∀ x ∈ p, x.block < W.heap.size := fun x hx => by simpa using hW'.lt x (by simpa using hx)
  have hpar' : ∀ t ∈ f.params.toList, P.readableRec t = true ∧ t < P.types.size := fun t ht => by
    have := List.all_eq_true.1 hpar t ht
    simpa using this
  have hA' := trodAll_stays hl hb.below _ _ _ _ hpar' hlt hA
  refine ⟨ds, [], p ++ [], [], p, [], hW', ?_, ?_, ?_, World.keptBut_mono (fun x hx => ⟨hx, .inr (.inl (by simpa using hx))⟩) (hb.below.frame (· ∈ p ++ [])), fun h => by simp at h⟩
  · rw [List.append_nil, hfn', hrt]
    exact trodAll_mk1 (shut_bool hbool _)
  · rw [List.append_nil, hfn']; exact hA'
  · rw [List.append_nil, hfn', hvars]; exact hV
end

theorem i64_of_wf {n : Int} (h : (Lit.int .i64 n).wf = true) : -9223372036854775808 ≤ n ∧ n < 9223372036854775808 := by
  have e1 : IntKind.i64.min = -9223372036854775808 := rfl
  have e2 : IntKind.i64.max = 9223372036854775807 := rfl
  simp only [Lit.wf, decide_eq_true_eq, Bool.and_eq_true, e1, e2] at h
  omega

theorem i32_of_wf {n : Int} (h : (Lit.int .i32 n).wf = true) : -2147483648 ≤ n ∧ n < 2147483648 := by
  have e1 : IntKind.i32.min = -2147483648 := rfl
  have e2 : IntKind.i32.max = 2147483647 := rfl
  simp only [Lit.wf, decide_eq_true_eq, Bool.and_eq_true, e1, e2] at h
  omega
theorem u8_of_wf {n : Int} (h : (Lit.int .u8 n).wf = true) : 0 ≤ n ∧ n < 256 := by
  have e1 : IntKind.u8.min = 0 := rfl
  have e2 : IntKind.u8.max = 255 := rfl
  simp only [Lit.wf, decide_eq_true_eq, Bool.and_eq_true, e1, e2] at h
  omega

/-- What a law's walk owes. -/
theorem Rets.calls {P : Program} {g : FuncId} {args : List Value} {w : World} {R : Value → World → Prop} (h : Rets P g args w R) : Calls P g args.toArray w (fun e w' => ∃ v, e = .returned v ∧ R v w') :=
  h.2.mono fun e w' he => by
    cases e with
    | returned v => exact ⟨v, rfl, he⟩
    | panicked ch => exact he.elim
    | outgrown => exact he.elim
end Go.Sg
end
section
/- Arguments that are structs, lists of structs. -/
namespace Go.Sg
open Go.Rn Go.RowKit Go.WideShapes Go.ChangeShapes Go.Rec
section
variable {H : Type} {enc : TypeId × Value → H} {P : Program} {w : World}
theorem okWide_sl {t e : TypeId} {r : Reach} {b0 : Nat} {v : Value} (ht : P.underlying t = some (.slice e)) (h : Value.okWide P w r b0 t v) : ∃ d n c, v = .slice d n c := by
  unfold Value.okWide at h
  rw [ht] at h
  simp only [Cell.okWide, ht, Cell.ok] at h
  cases v <;> simp_all

theorem open_flat {t : TypeId} {v : Value} {d : DataW H} {ps : List MemPlace} {held : Bool} {r : Reach} {b0 : Nat} {ts : List (TypeId × FK)} (hF : Flat P t ts) (hval : Value.okWide P w r b0 t v)
    (h : DataW.Trod enc P w 0 (fun _ => true) held t v d ps) : ∃ cs : List Value, v = .agg cs.toArray ∧ cs.length = ts.length ∧ ∀ (i : Nat) (x : TypeId × FK), ts[i]? = some x → ∃ u, cs[i]? = some u ∧ x.2.wf u := by
  unfold Value.okWide at hval
  rw [hF.und] at hval
  obtain ⟨cs, rfl, -, -⟩ := hval
  obtain ⟨fuel, hf⟩ := shp_of_Trod h
  exact ⟨cs.toList, by simp, shp_flat hF hf⟩
theorem open_rows {α : Type} {en : α → List Value} {k : Nat} (hk : EncOk en k) {wfx : α → Prop} {t e : TypeId} {v : Value} {d : DataW H} {ps : List MemPlace} {held : Bool} {r : Reach} {b0 : Nat} (ht : P.underlying t = some (.slice e)) (hs : P.cellsOf e = k)
    (hrow : ∀ fuel cs, Shp P w fuel e cs → ∃ x, cs = en x ∧ wfx x) (hval : Value.okWide P w r b0 t v)
    (h : DataW.Trod enc P w 0 (fun _ => true) held t v d ps) : ∃ l : List α, l.length < 9223372036854775808 ∧ IsL w en k v l ∧ ∀ x ∈ l, wfx x := by
  obtain ⟨a, n, c, rfl⟩ := okWide_sl ht hval
  obtain ⟨fuel, hf⟩ := shp_of_Trod h
  obtain ⟨f, u, m, rows, hv, hm, hr, hrs, hsl⟩ := hf.slice ht hs hk.pos
  have hu : u = .slice a n c := by simpa [Value.cells] using hv.symm
  subst hu
  obtain ⟨l, hl, hw⟩ : ∃ l : List α, rows = l.map en ∧ ∀ x ∈ l, wfx x := by
    clear hr hsl
    induction rows with
    | nil => exact ⟨[], rfl, by simp⟩
    | cons r rs ih =>
      obtain ⟨l, rfl, h2⟩ := ih fun r hr => hrs r (List.mem_cons_of_mem _ hr)
      obtain ⟨x, rfl, hx⟩ := hrow f r (hrs r List.mem_cons_self).2
      exact ⟨x :: l, rfl, fun y hy => by
        rcases List.mem_cons.1 hy with rfl | hy
        · exact hx
        · exact h2 y hy⟩
  subst hl
  have hlm : l.length = m := by simpa using hr
  refine ⟨l, by simp only [maxLen] at hm; omega, ?_, hw⟩
  rw [← hlm] at hsl
  exact hsl
end
end Go.Sg
end
section
/- A tied law's last step: what the listed variables hold; arguments that are texts and bytes. -/
namespace Go.Sg
open Go.Rn Go.RowKit Go.WideShapes Go.ChangeShapes

section
variable {H : Type} {enc : TypeId × Value → H} {P : Program} {w : World}

theorem trod_array {t e : TypeId} {n fuel : Nat} {cs : List Value} {x : DataW H × List MemPlace} {base : Nat} {sp : Nat → Bool} {held : Bool} (ht : P.underlying t = some (.array n e)) (h : DataW.trod enc P w base sp held fuel t cs = some x) :
    ∃ xs f, fuel = f + 1 ∧ x = (.agg (xs.map (·.1)), xs.flatMap (·.2)) ∧ cs.length = P.cellsOf t ∧
      (List.range n).mapM (fun i => DataW.trod enc P w base sp held f e ((cs.drop (i * P.cellsOf e)).take (P.cellsOf e))) = some xs := by
  cases fuel with
  | zero => simp [DataW.trod] at h
  | succ f =>
    unfold DataW.trod at h
    rw [ht] at h
    split at h <;> simp_all
    obtain ⟨hl, xs, hxs, hd⟩ := h
    exact ⟨xs, hd.symm, hxs⟩

theorem ints_of_trod {k : IntKind} {t e : TypeId} {n : Nat} {fuel : Nat} {cs : List Value} {zs : List Int} {p : List MemPlace} {held : Bool} (ht : P.underlying t = some (.array n e)) (he : P.underlying e = some (.int k)) (hc : P.cellsOf e = 1) (hn : zs.length = n) (hct : P.cellsOf t = n)
    (h : DataW.trod enc P w 0 (fun _ => true) held fuel t cs = some (.agg (zs.map fun z => .lit (.int k z)), p)) : cs = zs.map fun z => Value.int k z := by
  obtain ⟨xs, f, rfl, hx0, hl, hxs⟩ := trod_array ht h
  have hd : zs.map (fun z => DataW.lit (.int k z)) = xs.map (·.1) := by
    have := congrArg Prod.fst hx0
    simpa using this
  clear h hx0
  rw [hct] at hl
  · have hlen := mapM_some_length hxs
    apply List.ext_getElem
    · simp [hl, hn]
    · intro i h1 h2
      have hi : i < n := by omega
      have hx := mapM_some_get hxs i i (by simp [hi])
      have hxi : i < xs.length := by rw [hlen]; simpa using hi
      rw [List.getElem?_eq_getElem hxi] at hx
      have e1 : ((cs.drop (i * P.cellsOf e)).take (P.cellsOf e)) = [cs[i]] := by
        rw [hc, Nat.mul_one, List.drop_eq_getElem_cons h1]; rfl
      rw [e1] at hx
      obtain ⟨m, hm, hm2, -⟩ := DataW.trod_int he hx
      have hm' : cs[i] = .int k m := by simpa using hm
      have hd' := congrArg (fun l => l[i]?) hd
      simp only [List.getElem?_map, List.getElem?_eq_getElem hxi, Option.map_some] at hd'
      have hz : i < zs.length := by omega
      rw [List.getElem?_eq_getElem hz] at hd'
      simp only [Option.map_some, Option.some.injEq] at hd'
      rw [hm2] at hd'
      simp only [DataW.lit.injEq, Lit.int.injEq, true_and] at hd'
      rw [hm']; simp [hd']

theorem row_of_laid {k : IntKind} {n : String} {g : Nat} {t e : TypeId} {m : Nat} {zs : List Int} {l : List (String × DataW Unit)} (hL : laidMetH P l w) (hp : (l.all fun x => x.2.handleName?.isNone) = true) (hm : (n, DataW.agg (zs.map fun z => .lit (.int k z))) ∈ l)
    (hg : P.globalNamed n = some g) (hgt : (P.globals[g]?).map (·.type) = some t) (ht : P.underlying t = some (.array m e)) (he : P.underlying e = some (.int k)) (hc : P.cellsOf e = 1) (hn : zs.length = m) (hct : P.cellsOf t = m) :
    Row w g 0 (zs.map fun z => .int k z) := by
  rw [Go.MakeChecks.laidMetH_plain _ _ _ hp] at hL
  obtain ⟨ps, hv, -⟩ := hL
  have key : ∀ (l : List (String × DataW Unit)) (ps : List MemPlace), DataW.LaidVars P w l ps → (n, DataW.agg (zs.map fun z => .lit (.int k z))) ∈ l → ∃ cs, w.var? P n = some cs ∧ cs.toList = zs.map fun z => .int k z := by
    intro l
    induction l with
    | nil => intro ps _ h; simp at h
    | cons x r ih =>
      intro ps hv h
      obtain ⟨n', d'⟩ := x
      obtain ⟨g', t', cs, fuel, p, q, h1, h2, h3, h4, h5, -⟩ := hv
      rcases List.mem_cons.1 h with h | h
      · injection h with ha hb
        subst ha; subst hb
        rw [hg] at h1; injection h1 with h1; subst h1
        rw [hgt] at h2; injection h2 with h2; subst h2
        exact ⟨cs, h3, ints_of_trod ht he hc hn hct h4⟩
      · exact ih q h5 h
  obtain ⟨cs, h1, h2⟩ := key l ps hv hm
  intro i v hi
  rw [Nat.zero_add, World.var?_cell hg h1 i, ← h2] at *
  simpa using hi

theorem okWide_slice {t e : TypeId} {r : Reach} {b0 : Nat} {v : Value} (ht : P.underlying t = some (.slice e)) (h : Value.okWide P w r b0 t v) : ∃ d n c, v = .slice d n c := by
  unfold Value.okWide at h
  rw [ht] at h
  simp only [Cell.okWide, ht, Cell.ok] at h
  cases v <;> simp_all

theorem open_bytes {t e : TypeId} {v : Value} {d : DataW H} {ps : List MemPlace} {held : Bool} {r : Reach} {b0 : Nat} (ht : P.underlying t = some (.slice e)) (he : P.underlying e = some (.int .u8)) (hs : P.cellsOf e = 1) (hval : Value.okWide P w r b0 t v)
    (h : DataW.Trod enc P w 0 (fun _ => true) held t v d ps) : ∃ l : List UInt8, l.length ≤ maxLen ∧ IsSl w 1 v l.length (bytesV l) := by
  obtain ⟨a, n, c, rfl⟩ := okWide_slice ht hval
  obtain ⟨fuel, hf⟩ := shp_of_Trod h
  obtain ⟨v, l, hv, hl, hsl⟩ := hf.bytes ht he hs
  have : v = .slice a n c := by simpa [Value.cells] using hv.symm
  subst this
  exact ⟨l, hl, hsl⟩
end
end Go.Sg
end
section
/- What the listed variables hold. -/
namespace Go.Sg
open Go.Rn Go.Sha Go.Proofs
theorem start_of_laid {n : String} {W : World} {l : List (String × DataW Unit)} (hg : Tryd.prog.globalNamed n = some 0) (hp : (l.all fun x => x.2.handleName?.isNone) = true) (hm : (n, DataW.agg ((init8.l.map fun x => (x.toNat : Int)).map fun z => .lit (.int .u32 z))) ∈ l) (h : laidMetH Tryd.prog l W) : Row W 0 0 (vals init8.l) := by
  have := row_of_laid h hp hm hg (by kernel_rfl) Tryd.underlying170 Tryd.underlying169 (by kernel_rfl) rfl (by kernel_rfl)
  rw [List.map_map] at this
  exact this
theorem numbers_of_laid {n : String} {W : World} {l : List (String × DataW Unit)} (hg : Tryd.prog.globalNamed n = some 1) (hp : (l.all fun x => x.2.handleName?.isNone) = true) (hm : (n, DataW.agg ((kTab.map fun x => (x.toNat : Int)).map fun z => .lit (.int .u32 z))) ∈ l) (h : laidMetH Tryd.prog l W) : Row W 1 0 (vals kTab) := by
  have := row_of_laid h hp hm hg (by kernel_rfl) Tryd.underlying179 Tryd.underlying169 (by kernel_rfl) rfl (by kernel_rfl)
  rw [List.map_map] at this
  exact this
end Go.Sg
end
section
/- Two signatures are compared. -/
namespace Go.Rn
variable {P : Program} {w : World} {env : Env} {dst : Option Tmp} {ty : TypeId} {pos : String} {after : Array Edge} {guard : Option (Nat × Bool)}
/-- A struct of two integers. -/
structure TwoInts (P : Program) (t ti : TypeId) : Prop where
  und : P.underlying t = some (.struct (P.fieldsOf t))
  fields : (P.fieldsOf t).toList.map (fun f => ((f.name == "_"), f.type, f.offset)) = [(false, ti, 0), (false, ti, 1)]
  held : P.stoodInHeld t = false
  guard : P.eqGuardType P.depth t = false
  int : P.underlying ti = some (.int .i64)
  cells : cellsAgg P ti = some (1, false)
theorem TwoInts.run {t ti : TypeId} (h : TwoInts P t ti) (a b c d : Int) :
    (Op.equalIn 10000 t (.agg #[.int .i64 a, .int .i64 b]) (.agg #[.int .i64 c, .int .i64 d])).run P w = .ok (a == c && b == d) w := by
  rw [show (10000 : Nat) = 9999 + 1 from rfl, run_equalIn_struct w 9999 _ _ _ h.und h.held]
  have hf := h.fields
  generalize (P.fieldsOf t).toList = fs at hf
  obtain ⟨f0, f1, rfl⟩ : ∃ f0 f1, fs = [f0, f1] := by
    rcases fs with _ | ⟨f0, _ | ⟨f1, _ | ⟨f2, r⟩⟩⟩
    · simp at hf
    · simp at hf
    · exact ⟨f0, f1, rfl⟩
    · simp at hf
  simp only [List.map_cons, List.map_nil, List.cons.injEq, Prod.mk.injEq, and_true] at hf
  obtain ⟨⟨n0, t0, o0⟩, n1, t1, o1⟩ := hf
  have n0' : f0.name ≠ "_" := by simpa using n0
  have n1' : f1.name ≠ "_" := by simpa using n1
  have p : ∀ (off : Nat) (cs : Array Value) (v : Value), cs.toList[off]? = some v → (part ti cs off).run P w = .ok v w := fun off cs v hv => run_part h.cells cs off (by simpa using hv)
  have e : ∀ a b : Int, (Op.equalIn 9999 ti (.int .i64 a) (.int .i64 b)).run P w = .ok (a == b) w := fun a b => run_equalIn_int w 9998 ti .i64 .i64 a b h.int
  simp only [Op.eqFields, n0', n1', ne_eq, not_false_eq_true, if_true, t0, o0, t1, o1]
  rw [run_bind _ _ (p 0 _ (.int .i64 a) rfl), run_bind _ _ (p 0 _ (.int .i64 c) rfl), run_bind _ _ (e a c)]
  cases hac : (a == c) with
  | false => rfl
  | true =>
    simp only [Bool.not_true, Bool.false_eq_true, if_false]
    rw [run_bind _ _ (p 1 _ (.int .i64 b) rfl), run_bind _ _ (p 1 _ (.int .i64 d) rfl), run_bind _ _ (e b d)]
    cases hbd : (b == d) <;> rfl
theorem OpV.eqTwo {t ti u : TypeId} (h : TwoInts P t ti) {x y : Operand} {a b c d : Int} (hx : evO env x = some (.agg #[.int .i64 a, .int .i64 b])) (hy : evO env y = some (.agg #[.int .i64 c, .int .i64 d])) :
    OpV P env w ⟨dst, .binOp .eql t x y u, ty, pos, after, guard⟩ (.bool (a == c && b == d)) := .of_run fun ρ hρ => by
  refine ⟨_, by simp only [execOp, hρ _ _ hx, hρ _ _ hy]; rfl, ?_⟩
  rw [run_bind _ _ (run_eqGuard_agg w .eql t x y _ _ h.guard), run_eql_struct, h.run]; rfl
theorem OpV.neTwo {t ti u : TypeId} (h : TwoInts P t ti) {x y : Operand} {a b c d : Int} (hx : evO env x = some (.agg #[.int .i64 a, .int .i64 b])) (hy : evO env y = some (.agg #[.int .i64 c, .int .i64 d])) :
    OpV P env w ⟨dst, .binOp .neq t x y u, ty, pos, after, guard⟩ (.bool (!(a == c && b == d))) := .of_run fun ρ hρ => by
  refine ⟨_, by simp only [execOp, hρ _ _ hx, hρ _ _ hy]; rfl, ?_⟩
  rw [run_bind _ _ (run_eqGuard_agg w .neq t x y _ _ h.guard), run_neq_struct, h.run]; rfl
end Go.Rn
namespace Go.Sg
open Go.Rn Go.Proofs
theorem sigTwo : TwoInts Tryd.prog 66 3 := ⟨by kernel_rfl, by kernel_rfl, by kernel_rfl, by kernel_rfl, by kernel_rfl, by kernel_rfl⟩
end Go.Sg
end
section
/- Arguments that are structs. -/
namespace Go.Sg
open Go.Rn Go.RowKit Go.WideShapes Go.ChangeShapes
section
variable {H : Type} {enc : TypeId × Value → H} {P : Program} {w : World}
theorem open_struct {t : TypeId} {v : Value} {d : DataW H} {ps : List MemPlace} {held : Bool} {r : Reach} {b0 : Nat} (ht : P.underlying t = some (.struct (P.fieldsOf t))) (hval : Value.okWide P w r b0 t v)
    (h : DataW.Trod enc P w 0 (fun _ => true) held t v d ps) : ∃ fuel cs, v = .agg cs.toArray ∧ Shp P w fuel t cs := by
  unfold Value.okWide at hval
  rw [ht] at hval
  obtain ⟨cs, rfl, -, -⟩ := hval
  obtain ⟨fuel, hf⟩ := shp_of_Trod h
  exact ⟨fuel, cs.toList, by simp, hf⟩
theorem shp_two {t ti : TypeId} (h : TwoInts P t ti) (hc : P.cellsOf t = 2) (hi : P.cellsOf ti = 1) {fuel : Nat} {cs : List Value} (hs : Shp P w fuel t cs) :
    ∃ a b, cs = [.int .i64 a, .int .i64 b] ∧ (Lit.int .i64 a).wf = true ∧ (Lit.int .i64 b).wf = true := by
  obtain ⟨hl, f, hs⟩ := hs.struct h.und
  have hf := h.fields
  generalize (P.fieldsOf t).toList = fs at hf hs
  obtain ⟨f0, f1, rfl⟩ : ∃ f0 f1, fs = [f0, f1] := by
    rcases fs with _ | ⟨f0, _ | ⟨f1, _ | ⟨f2, r⟩⟩⟩
    · simp at hf
    · simp at hf
    · exact ⟨f0, f1, rfl⟩
    · simp at hf
  simp only [List.map_cons, List.map_nil, List.cons.injEq, Prod.mk.injEq, and_true] at hf
  obtain ⟨⟨-, t0, o0⟩, -, t1, o1⟩ := hf
  have h0 := hs f0 (by simp)
  have h1 := hs f1 (by simp)
  rw [t0, o0, hi] at h0
  rw [t1, o1, hi] at h1
  obtain ⟨a, e0, w0⟩ := h0.int h.int
  obtain ⟨b, e1, w1⟩ := h1.int h.int
  rw [hc] at hl
  match cs, hl with
  | [x, y], _ =>
    simp at e0 e1
    exact ⟨a, b, by rw [e0, e1], w0, w1⟩
theorem open_two {t ti : TypeId} (h : TwoInts P t ti) (hc : P.cellsOf t = 2) (hi : P.cellsOf ti = 1) {v : Value} {d : DataW H} {ps : List MemPlace} {held : Bool} {r : Reach} {b0 : Nat} (hval : Value.okWide P w r b0 t v)
    (h' : DataW.Trod enc P w 0 (fun _ => true) held t v d ps) : ∃ a b, v = .agg #[.int .i64 a, .int .i64 b] ∧ (Lit.int .i64 a).wf = true ∧ (Lit.int .i64 b).wf = true := by
  obtain ⟨fuel, cs, rfl, hs⟩ := open_struct h.und hval h'
  obtain ⟨a, b, rfl, h1, h2⟩ := shp_two h hc hi hs
  exact ⟨a, b, rfl, h1, h2⟩
end
end Go.Sg
end
section
/- Devices: arguments. -/
namespace Go.Dev
/-- The numbers of a device are of the machine. -/
def okD (x : Dev) : Prop := -9223372036854775808 ≤ x.key ∧ x.key < 9223372036854775808
end Go.Dev
namespace Go.Sg
open Go.Rn Go.Proofs Go.Dev Go.Rec Go.RowKit Go.WideShapes Go.ChangeShapes
theorem dev_cells {cs : List Value} (hl : cs.length = 6) (h : ∀ (i : Nat) (x : TypeId × FK), [(3, FK.int .i64), (3, FK.int .i64), (3, FK.int .i64), (3, FK.int .i64), (3, FK.int .i64), (4, FK.bool)][i]? = some x → ∃ u, cs[i]? = some u ∧ x.2.wf u) : ∃ x : Dev, cs = x.cells ∧ okD x := by
  obtain ⟨_, h0, a, rfl, -⟩ := h 0 _ rfl
  obtain ⟨_, h1, b, rfl, -⟩ := h 1 _ rfl
  obtain ⟨_, h2, c, rfl, -⟩ := h 2 _ rfl
  obtain ⟨_, h3, d, rfl, -⟩ := h 3 _ rfl
  obtain ⟨_, h4, e, rfl, we⟩ := h 4 _ rfl
  obtain ⟨_, h5, g, rfl⟩ := h 5 _ rfl
  refine ⟨⟨a, b, c, d, e, g⟩, ?_, i64_of_wf we⟩
  apply List.ext_getElem?
  intro i
  rcases i with _ | _ | _ | _ | _ | _ | i
  · exact h0
  · exact h1
  · exact h2
  · exact h3
  · exact h4
  · exact h5
  · rw [List.getElem?_eq_none (by omega), List.getElem?_eq_none (by simp)]
section
variable {H : Type} {enc : TypeId × Value → H} {w : World}
set_option maxRecDepth 4000 in
theorem dev_row (fuel : Nat) (cs : List Value) (h : Shp Tryd.prog w fuel 57 cs) : ∃ x : Dev, cs = x.cells ∧ okD x := by
  have hh := shp_flat devFlat h
  obtain ⟨h1, h2⟩ := hh
  exact dev_cells h1 h2
set_option maxRecDepth 4000 in
theorem dev_open {v : Value} {d : DataW H} {ps : List MemPlace} {held : Bool} {r : Reach} {b0 : Nat} (hval : Value.okWide Tryd.prog w r b0 57 v)
    (h : DataW.Trod enc Tryd.prog w 0 (fun _ => true) held 57 v d ps) : ∃ x : Dev, v = .agg x.cells.toArray := by
  obtain ⟨cs, rfl, h1, h2⟩ := open_flat devFlat hval h
  obtain ⟨x, rfl, -⟩ := dev_cells h1 h2
  exact ⟨x, rfl⟩
set_option maxRecDepth 4000 in
theorem devs_open {v : Value} {d : DataW H} {ps : List MemPlace} {held : Bool} {r : Reach} {b0 : Nat} (hval : Value.okWide Tryd.prog w r b0 55 v)
    (h : DataW.Trod enc Tryd.prog w 0 (fun _ => true) held 55 v d ps) : ∃ l : List Dev, (l.length < 9223372036854775808 ∧ ∀ x ∈ l, okD x) ∧ LD w v l := by
  obtain ⟨l, h1, h2, h3⟩ := open_rows encD Tryd.underlying55 (by kernel_rfl) dev_row hval h
  exact ⟨l, ⟨h1, h3⟩, h2⟩
end
end Go.Sg
end
section
/- The walks of package signatoryref11: Point, hash. -/
namespace Go.Sg
open Go.Rn Go.NT Go.Sha Go.Cod Go.Proofs
attribute [local irreducible] Go.Rn.RunL Go.Rn.RunE Go.Rn.Asy Go.Rn.OpV Go.Rn.OpE Go.Rn.ExecE

theorem q_bd (n : Int) : 0 ≤ n % 1073741789 ∧ n % 1073741789 < 1073741789 := ⟨Int.emod_nonneg _ (by decide), Int.emod_lt_of_pos _ (by decide)⟩
theorem r11_point_ok (key E S : Int) (w : World) (hE : -9223372036854775807 ≤ E ∧ E < 9223372036854775808) : Rets Tryd.prog 103 [.int .i64 key, .agg #[.int .i64 E, .int .i64 S]] w fun v w' => v = .int .i64 (mulC (powC 4 S) (powC key (-E))) ∧ Ext w w' := by
  refine RetsX.of (nt := 32) Tryd.func103 (by kernel_rfl) rfl rfl (by simp) (by simp only [argEnv]; rfl) ?_
  repeat (first | refine RunL.pureI Tryd.tOk rfl rfl rfl (by (first | exact wr_i64 (by omega) (by omega) | exact wm_i64 (by omega) | exact wq_i64 (by omega) (by omega) (by omega) | rfl)) ?_ | refine RunL.pure Tryd.tOk rfl rfl rfl ?_ | refine RunL.unwantedD rfl rfl ?_ | refine RunE.seq ?_ | refine RunE.region ?_ | refine RunL.nil ?_ | refine RunE.block ?_ | refine RunE.inBlock ?_ | refine RunE.skip ?_ | refine RunE.exit rfl ?_ | refine RunE.scope ?_ | refine RunE.inScope ?_ | refine RunE.label ?_)
  refine RunL.box rfl rfl rfl fun B5 w1 a1 => ?_
  have Z1 : Blk w1 B5 [.int .i64 E, .int .i64 S] 66 := a1.at_
  have X1 := a1.ext
  clear a1
  have hp1 := fun w => r10_pow_ok 4 S w
  have hp2 := fun w => r10_pow_ok key (-E) w
  have hp3 := fun w => r10_mul_ok (powC 4 S) (powC key (-E)) w
  generalize mulC (powC 4 S) (powC key (-E)) = R at *
  generalize grpE (validS (powC 4 S) && validS (powC key (-E))) = ee at *
  generalize grpE (validS 4) = ea at *
  generalize grpE (validS key) = eb at *
  generalize powC 4 S = p1 at *
  generalize powC key (-E) = p2 at *
  repeat (first | refine RunL.pureI Tryd.tOk rfl rfl rfl (by (first | exact wr_i64 (by omega) (by omega) | exact wm_i64 (by omega) | exact wq_i64 (by omega) (by omega) (by omega) | rfl)) ?_ | refine RunL.pure Tryd.tOk rfl rfl rfl ?_ | refine RunL.unwantedD rfl rfl ?_ | refine RunL.val rfl rfl rfl (OpV.indexAK Tryd.tOk rfl rfl rfl rfl) ?_ | refine RunL.val rfl rfl rfl (OpV.indexSK Tryd.tOk rfl rfl rfl rfl) ?_ | refine RunL.val rfl rfl rfl (OpV.load1 Tryd.tOk rfl rfl rfl (Blk.cell Z1 rfl)) ?_ | refine RunE.seq ?_ | refine RunE.region ?_ | refine RunL.nil ?_ | refine RunE.block ?_ | refine RunE.inBlock ?_ | refine RunE.skip ?_ | refine RunE.exit rfl ?_ | refine RunE.scope ?_ | refine RunE.inScope ?_ | refine RunE.label ?_)
  refine RunL.call rfl rfl rfl (hp1 _) ?_
  rintro _ _ ⟨rfl, rfl⟩
  repeat (first | refine RunL.pureI Tryd.tOk rfl rfl rfl (by (first | exact wr_i64 (by omega) (by omega) | exact wm_i64 (by omega) | exact wq_i64 (by omega) (by omega) (by omega) | rfl)) ?_ | refine RunL.pure Tryd.tOk rfl rfl rfl ?_ | refine RunL.unwantedD rfl rfl ?_ | refine RunL.val rfl rfl rfl (OpV.indexAK Tryd.tOk rfl rfl rfl rfl) ?_ | refine RunL.val rfl rfl rfl (OpV.indexSK Tryd.tOk rfl rfl rfl rfl) ?_ | refine RunL.val rfl rfl rfl (OpV.load1 Tryd.tOk rfl rfl rfl (Blk.cell Z1 rfl)) ?_ | refine RunE.seq ?_ | refine RunE.region ?_ | refine RunL.nil ?_ | refine RunE.block ?_ | refine RunE.inBlock ?_ | refine RunE.skip ?_ | refine RunE.exit rfl ?_ | refine RunE.scope ?_ | refine RunE.inScope ?_ | refine RunE.label ?_)
  refine RunL.call rfl rfl rfl (hp2 _) ?_
  rintro _ _ ⟨rfl, rfl⟩
  repeat (first | refine RunL.pureI Tryd.tOk rfl rfl rfl (by (first | exact wr_i64 (by omega) (by omega) | exact wm_i64 (by omega) | exact wq_i64 (by omega) (by omega) (by omega) | rfl)) ?_ | refine RunL.pure Tryd.tOk rfl rfl rfl ?_ | refine RunL.unwantedD rfl rfl ?_ | refine RunL.val rfl rfl rfl (OpV.indexAK Tryd.tOk rfl rfl rfl rfl) ?_ | refine RunL.val rfl rfl rfl (OpV.indexSK Tryd.tOk rfl rfl rfl rfl) ?_ | refine RunL.val rfl rfl rfl (OpV.load1 Tryd.tOk rfl rfl rfl (Blk.cell Z1 rfl)) ?_ | refine RunE.seq ?_ | refine RunE.region ?_ | refine RunL.nil ?_ | refine RunE.block ?_ | refine RunE.inBlock ?_ | refine RunE.skip ?_ | refine RunE.exit rfl ?_ | refine RunE.scope ?_ | refine RunE.inScope ?_ | refine RunE.label ?_)
  refine RunL.call rfl rfl rfl (hp3 _) ?_
  rintro _ _ ⟨rfl, rfl⟩
  repeat (first | refine RunL.pureI Tryd.tOk rfl rfl rfl (by (first | exact wr_i64 (by omega) (by omega) | exact wm_i64 (by omega) | exact wq_i64 (by omega) (by omega) (by omega) | rfl)) ?_ | refine RunL.pure Tryd.tOk rfl rfl rfl ?_ | refine RunL.unwantedD rfl rfl ?_ | refine RunE.seq ?_ | refine RunE.region ?_ | refine RunL.nil ?_ | refine RunE.block ?_ | refine RunE.inBlock ?_ | refine RunE.skip ?_ | refine RunE.exit rfl ?_ | refine RunE.scope ?_ | refine RunE.inScope ?_ | refine RunE.label ?_)
  exact RunE.retFn Tryd.func103 (.tmp rfl .nil) ⟨rfl, X1⟩

set_option maxHeartbeats 2000000 in
theorem r11_hash_ok (R key : Int) (v : Value) (b : List UInt8) (w : World) (hR : -9223372036854775808 ≤ R ∧ R < 9223372036854775808) (hk : -9223372036854775808 ≤ key ∧ key < 9223372036854775808) (hv : IsSl w 1 v b.length (bytesV b)) (hb : b.length ≤ 800000) :
    Rets Tryd.prog 102 [.int .i64 R, .int .i64 key, v] w fun r w' => r = .int .i64 (chal R key b) ∧ Ext w w' := by
  have he := enc3_le R key b hR hk hb
  refine RetsX.of (nt := 24) Tryd.func102 (by kernel_rfl) rfl rfl (by simp) (by simp only [argEnv]; rfl) ?_
  repeat (first | refine RunL.pureI Tryd.tOk rfl rfl rfl (by (first | exact wr_i64 (by omega) (by omega) | exact wm_i64 (by omega) | exact wq_i64 (by omega) (by omega) (by omega) | rfl)) ?_ | refine RunL.pure Tryd.tOk rfl rfl rfl ?_ | refine RunL.unwantedD rfl rfl ?_ | refine RunE.seq ?_ | refine RunE.region ?_ | refine RunL.nil ?_ | refine RunE.block ?_ | refine RunE.inBlock ?_ | refine RunE.skip ?_ | refine RunE.exit rfl ?_ | refine RunE.scope ?_ | refine RunE.inScope ?_ | refine RunE.label ?_)
  refine RunE.draw (fun _ => False) mix ?_
  intro w1 X1
  repeat (first | refine Asy.pureI Tryd.tOk rfl rfl rfl (by (first | exact wr_i64 (by omega) (by omega) | exact wm_i64 (by omega) | exact wq_i64 (by omega) (by omega) (by omega) | rfl)) ?_ | refine Asy.pure Tryd.tOk rfl rfl rfl ?_ | refine Asy.unwantedD rfl rfl rfl ?_)
  refine Asy.val rfl rfl rfl rfl (fun _ _ => OpE.call rfl (rint_ok R _)) ?_
  repeat (first | refine Asy.pureI Tryd.tOk rfl rfl rfl (by (first | exact wr_i64 (by omega) (by omega) | exact wm_i64 (by omega) | exact wq_i64 (by omega) (by omega) (by omega) | rfl)) ?_ | refine Asy.pure Tryd.tOk rfl rfl rfl ?_ | refine Asy.unwantedD rfl rfl rfl ?_)
  refine Asy.val rfl rfl rfl rfl (fun _ _ => OpE.call rfl (rint_ok key _)) ?_
  repeat (first | refine Asy.pureI Tryd.tOk rfl rfl rfl (by (first | exact wr_i64 (by omega) (by omega) | exact wm_i64 (by omega) | exact wq_i64 (by omega) (by omega) (by omega) | rfl)) ?_ | refine Asy.pure Tryd.tOk rfl rfl rfl ?_ | refine Asy.unwantedD rfl rfl rfl ?_)
  refine Asy.v rfl rfl rfl rfl (fun w' X' => OpV.b2sSl (l := b) Tryd.tOk rfl rfl rfl rfl (hv.extE (X1.trans X'))) ?_
  refine Asy.val rfl rfl rfl rfl (fun _ _ => OpE.call rfl (rtext_ok (strOf b) _)) ?_
  refine Asy.sat0 (fun u w' => ∃ B, u = .slice (some ⟨B, 0, none⟩) 3 3 ∧ IsSl w' 4 u 3 ([CV.int R, CV.int key, CV.text b].map rowOf).flatten) rfl rfl rfl rfl (fun u w' w'' _ e h => ?_) (fun w' _ => ?_) ?_
  · obtain ⟨B, h1, h2⟩ := h; exact ⟨B, h1, h2.extE e⟩
  · refine OpE.mono (OpE.buildSl Tryd.tOk [.agg (rowOf (.int R)).toArray, .agg (rowOf (.int key)).toArray, .agg (rowOf (.text b)).toArray] rfl rfl rfl rfl rfl rfl (by simp [Value.cells, rowOf])) ?_ fun _ _ h => h
    rintro _ w'' ⟨B, rfl, a⟩; exact ⟨a.ext, B, rfl, isSl_added (n := 3) (sz := 4) a rfl⟩
  refine Asy.sat1 0 (fun u w' => ∃ B, u = .agg #[.int .i64 3, .int .i64 0, .string ⟨#[]⟩, .slice (some ⟨B, 0, none⟩) 3 3] ∧ IsSl w' 4 (.slice (some ⟨B, 0, none⟩) 3 3) 3 ([CV.int R, CV.int key, CV.text b].map rowOf).flatten) rfl rfl rfl rfl rfl rfl (fun u w' w'' _ e h => ?_) (fun w' x e hx => ?_) ?_
  · obtain ⟨B, h1, h2⟩ := h; exact ⟨B, h1, h2.extE e⟩
  · obtain ⟨B, rfl, h2⟩ := hx
    refine OpE.mono (OpE.call rfl (rlist_ok (some ⟨B, 0, none⟩) 3 3 w')) ?_ fun _ _ h => h
    rintro _ w'' ⟨rfl, X⟩; exact ⟨X, B, rfl, h2.extE X⟩
  refine Asy.sat1 0 (fun u w' => ∃ r, u = .tuple #[r, .int .i64 0] ∧ IsSl w' 1 r (CV.list [.int R, .int key, .text b]).enc.length (bytesV (CV.list [.int R, .int key, .text b]).enc)) rfl rfl rfl rfl rfl rfl (fun u w' w'' _ e h => ?_) (fun w' x e hx => ?_) ?_
  · obtain ⟨B, h1, h2⟩ := h; exact ⟨B, h1, h2.extE e⟩
  · obtain ⟨B, rfl, h2⟩ := hx
    refine OpE.mono (OpE.call rfl (rEncode_ok (CV.list [.int R, .int key, .text b]) _ w' ⟨by simp, _, _, rfl, h2, ins_rows _ fun c hc => ?_⟩ (by simp [CV.depth, depths]) (by omega))) ?_ fun _ _ h => h
    · simp only [List.mem_cons, List.not_mem_nil, or_false] at hc
      rcases hc with rfl | rfl | rfl
      · exact ⟨hR, _, rfl⟩
      · exact ⟨hk, _, rfl⟩
      · exact ⟨by omega, _, rfl⟩
    · rintro _ w'' ⟨r, rfl, h1, h2⟩; exact ⟨h2, r, rfl, isSl_own h1⟩
  refine Asy.sat1 0 (fun u w' => ∃ r, u = .tuple #[r, .int .i64 0] ∧ IsSl w' 1 r (CV.list [.int R, .int key, .text b]).enc.length (bytesV (CV.list [.int R, .int key, .text b]).enc)) rfl rfl rfl rfl rfl rfl (fun u w' w'' _ e h => ?_) (fun w' x e hx => ?_) ?_
  · obtain ⟨B, h1, h2⟩ := h; exact ⟨B, h1, h2.extE e⟩
  · obtain ⟨r, rfl, h2⟩ := hx
    refine OpE.mono (OpV.e (evalOp_v Tryd.tOk rfl)) ?_ fun _ _ h => h
    rintro u w'' ⟨rfl, rfl⟩; exact ⟨.refl _ _, r, rfl, h2⟩
  refine Asy.sat1 0 (fun u w' => IsSl w' 1 u (CV.list [.int R, .int key, .text b]).enc.length (bytesV (CV.list [.int R, .int key, .text b]).enc)) rfl rfl rfl rfl rfl rfl (fun u w' w'' _ e h => h.extE e) (fun w' x e hx => ?_) ?_
  · obtain ⟨r, rfl, h2⟩ := hx
    refine OpE.mono (OpV.e (evalOp_v Tryd.tOk rfl)) ?_ fun _ _ h => h
    rintro u w'' ⟨rfl, rfl⟩; exact ⟨.refl _ _, h2⟩
  refine Asy.val1 1 (v := .int .i64 0) rfl rfl rfl rfl rfl rfl (fun w' x e hx => ?_) ?_
  · obtain ⟨r, rfl, h2⟩ := hx
    refine OpE.mono (OpV.e (evalOp_v Tryd.tOk rfl)) ?_ fun _ _ h => h
    rintro u w'' ⟨rfl, rfl⟩; exact ⟨rfl, .refl _ _⟩
  refine Asy.sat1 0 (fun u w' => IsSl w' 1 u (CV.list [.int R, .int key, .text b]).enc.length (bytesV (CV.list [.int R, .int key, .text b]).enc)) rfl rfl rfl rfl rfl rfl (fun u w' w'' _ e h => h.extE e) (fun w' x e hx => ?_) ?_
  · refine OpE.mono (OpV.e (evalOp_v Tryd.tOk rfl)) ?_ fun _ _ h => h
    rintro u w'' ⟨rfl, rfl⟩; exact ⟨.refl _ _, hx⟩
  repeat (first | refine Asy.pureI Tryd.tOk rfl rfl rfl (by (first | exact wr_i64 (by omega) (by omega) | exact wm_i64 (by omega) | exact wq_i64 (by omega) (by omega) (by omega) | rfl)) ?_ | refine Asy.pure Tryd.tOk rfl rfl rfl ?_ | refine Asy.unwantedD rfl rfl rfl ?_)
  refine Asy.tail (by kernel_rfl) ?_
  intro w2 X2
  simp only [satsAll]
  intro x hx _ _ _ _ _ _ _ _ _ _
  repeat (first | refine RunL.pureI Tryd.tOk rfl rfl rfl (by (first | exact wr_i64 (by omega) (by omega) | exact wm_i64 (by omega) | exact wq_i64 (by omega) (by omega) (by omega) | rfl)) ?_ | refine RunL.pure Tryd.tOk rfl rfl rfl ?_ | refine RunL.unwantedD rfl rfl ?_ | refine RunE.seq ?_ | refine RunE.region ?_ | refine RunL.nil ?_ | refine RunE.block ?_ | refine RunE.inBlock ?_ | refine RunE.skip ?_ | refine RunE.exit rfl ?_ | refine RunE.scope ?_ | refine RunE.inScope ?_ | refine RunE.label ?_)
  refine RunL.call rfl rfl rfl (rhash_ok ⟨#[115, 105, 103, 110]⟩ x _ w2 (by decide) hx he) ?_
  rintro _ w3 ⟨rfl, X3⟩
  repeat (first | refine RunL.pureI Tryd.tOk rfl rfl rfl (by (first | exact wr_i64 (by omega) (by omega) | exact wm_i64 (by omega) | exact wq_i64 (by omega) (by omega) (by omega) | rfl)) ?_ | refine RunL.pure Tryd.tOk rfl rfl rfl ?_ | refine RunL.unwantedD rfl rfl ?_ | refine RunE.seq ?_ | refine RunE.region ?_ | refine RunL.nil ?_ | refine RunE.block ?_ | refine RunE.inBlock ?_ | refine RunE.skip ?_ | refine RunE.exit rfl ?_ | refine RunE.scope ?_ | refine RunE.inScope ?_ | refine RunE.label ?_)
  exact RunE.retFn Tryd.func102 (.tmp rfl .nil) ⟨rfl, (X1.trans X2).trans X3⟩
end Go.Sg
end
