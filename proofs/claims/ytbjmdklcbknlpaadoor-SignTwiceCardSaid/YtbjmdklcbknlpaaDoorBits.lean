/- Numbers of 32 bits as bit vectors. -/
import Derived.Test.YtbjmdklcbknlpaaDoorMix
namespace Go.Rn

theorem u32_bits : IntKind.u32.bits = 32 := rfl
theorem u32_wrap_nat (n : Nat) (h : n < 4294967296) : IntKind.u32.wrap (n : Int) = (n : Int) := wr_u32 (by omega) (by omega)
theorem bv_of (x : BitVec 32) : BitVec.ofInt IntKind.u32.bits (x.toNat : Int) = x := by
  show BitVec.ofInt 32 ((x.toNat : Nat) : Int) = x
  rw [BitVec.ofInt_natCast, BitVec.ofNat_toNat, BitVec.setWidth_eq]
theorem u32_xor (x y : BitVec 32) : IntKind.u32.wrap ((BitVec.ofInt IntKind.u32.bits (x.toNat : Int) ^^^ BitVec.ofInt IntKind.u32.bits (y.toNat : Int)).toNat : Int) = ((x ^^^ y).toNat : Int) := by
  rw [bv_of, bv_of]; exact u32_wrap_nat _ (BitVec.isLt (x ^^^ y))
theorem u32_and (x y : BitVec 32) : IntKind.u32.wrap ((BitVec.ofInt IntKind.u32.bits (x.toNat : Int) &&& BitVec.ofInt IntKind.u32.bits (y.toNat : Int)).toNat : Int) = ((x &&& y).toNat : Int) := by
  rw [bv_of, bv_of]; exact u32_wrap_nat _ (BitVec.isLt (x &&& y))
theorem u32_or (x y : BitVec 32) : IntKind.u32.wrap ((BitVec.ofInt IntKind.u32.bits (x.toNat : Int) ||| BitVec.ofInt IntKind.u32.bits (y.toNat : Int)).toNat : Int) = ((x ||| y).toNat : Int) := by
  rw [bv_of, bv_of]; exact u32_wrap_nat _ (BitVec.isLt (x ||| y))
theorem u32_add (x y : BitVec 32) : IntKind.u32.wrap ((x.toNat : Int) + (y.toNat : Int)) = ((x + y).toNat : Int) := by
  rw [wrap_u32, BitVec.toNat_add]; omega
theorem u32_shl (x : BitVec 32) (n : Nat) (h : n ≤ 32) : IntKind.u32.wrap ((x.toNat : Int) * 2 ^ (min n IntKind.u32.bits)) = ((x <<< n).toNat : Int) := by
  rw [wrap_u32, BitVec.toNat_shiftLeft, Nat.shiftLeft_eq, u32_bits, Nat.min_eq_left h]
  have : (x.toNat : Int) * 2 ^ n = ((x.toNat * 2 ^ n : Nat) : Int) := by simp
  rw [this]; omega
theorem u32_shr (x : BitVec 32) (n : Nat) (h : n ≤ 32) : ((x.toNat : Int).fdiv (2 ^ (min n IntKind.u32.bits))) = ((x >>> n).toNat : Int) := by
  rw [BitVec.toNat_ushiftRight, Nat.shiftRight_eq_div_pow, u32_bits, Nat.min_eq_left h]
  rw [Int.fdiv_eq_ediv_of_nonneg _ (by exact Int.pow_nonneg (by omega))]
  simp
theorem u32_of_u8 (b : UInt8) : IntKind.u32.wrap ((b.toNat : Nat) : Int) = ((BitVec.ofNat 32 b.toNat).toNat : Int) := by
  have := b.toNat_lt
  rw [u32_wrap_nat _ (by omega), BitVec.toNat_ofNat]
  congr 1
  rw [Nat.mod_eq_of_lt (by omega)]

/-- A rotation to the right. -/
def rotr (x : BitVec 32) (n : Nat) : BitVec 32 := (x <<< (32 - n)) ||| (x >>> n)
section
variable {P : Program} {w : World} {env : Env} {dst : Option Tmp} {ty t yt : TypeId} {pos : String} {after : Array Edge} {guard : Option (Nat × Bool)} {x y : Operand} {a b : BitVec 32}
theorem OpV.bin32 {op : BinOp} {m : Int} (hs : op ≠ .shl) (hs' : op ≠ .shr) (hx : evO env x = some (.int .u32 (a.toNat : Int))) (hy : evO env y = some (.int .u32 (b.toNat : Int)))
    (h : evInt op .u32 (a.toNat : Int) (b.toNat : Int) = some (.int .u32 m)) : OpV P env w ⟨dst, .binOp op t x y yt, ty, pos, after, guard⟩ (.int .u32 m) := .of_run fun ρ hρ => by
  refine ⟨_, by simp only [execOp, hρ _ _ hx, hρ _ _ hy]; rfl, ?_⟩
  rw [run_bind _ _ (run_eqGuard_plain (P := P) (w := w) op t x y (by intro c; simp) (by simp))]
  exact run_intOp hs hs' h t
theorem OpV.xor32 (hx : evO env x = some (.int .u32 (a.toNat : Int))) (hy : evO env y = some (.int .u32 (b.toNat : Int))) :
    OpV P env w ⟨dst, .binOp .xor t x y yt, ty, pos, after, guard⟩ (.int .u32 ((a ^^^ b).toNat : Int)) := .bin32 (by decide) (by decide) hx hy (by rw [← u32_xor]; rfl)
theorem OpV.and32 (hx : evO env x = some (.int .u32 (a.toNat : Int))) (hy : evO env y = some (.int .u32 (b.toNat : Int))) :
    OpV P env w ⟨dst, .binOp .and t x y yt, ty, pos, after, guard⟩ (.int .u32 ((a &&& b).toNat : Int)) := .bin32 (by decide) (by decide) hx hy (by rw [← u32_and]; rfl)
theorem OpV.or32 (hx : evO env x = some (.int .u32 (a.toNat : Int))) (hy : evO env y = some (.int .u32 (b.toNat : Int))) :
    OpV P env w ⟨dst, .binOp .or t x y yt, ty, pos, after, guard⟩ (.int .u32 ((a ||| b).toNat : Int)) := .bin32 (by decide) (by decide) hx hy (by rw [← u32_or]; rfl)
theorem OpV.add32 (hx : evO env x = some (.int .u32 (a.toNat : Int))) (hy : evO env y = some (.int .u32 (b.toNat : Int))) :
    OpV P env w ⟨dst, .binOp .add t x y yt, ty, pos, after, guard⟩ (.int .u32 ((a + b).toNat : Int)) := .bin32 (by decide) (by decide) hx hy (by rw [← u32_add]; rfl)
theorem OpV.shl32 {k : IntKind} {n : Nat} (hx : evO env x = some (.int .u32 (a.toNat : Int))) (hy : evO env y = some (.int k (.ofNat n))) (hn : Nat.ble n 32 = true) :
    OpV P env w ⟨dst, .binOp .shl t x y yt, ty, pos, after, guard⟩ (.int .u32 ((a <<< n).toNat : Int)) := .of_run fun ρ hρ => by
  refine ⟨_, by simp only [execOp, hρ _ _ hx, hρ _ _ hy]; rfl, ?_⟩
  rw [run_bind _ _ (run_eqGuard_plain (P := P) (w := w) .shl t x y (by intro c; simp) (by simp))]
  rw [← u32_shl a n (Nat.le_of_ble_eq_true hn)]
  simp only [binOp, Op.shift]
  rw [if_neg (by simp)]
  simp [pure]
theorem OpV.shr32 {k : IntKind} {n : Nat} (hx : evO env x = some (.int .u32 (a.toNat : Int))) (hy : evO env y = some (.int k (.ofNat n))) (hn : Nat.ble n 32 = true) :
    OpV P env w ⟨dst, .binOp .shr t x y yt, ty, pos, after, guard⟩ (.int .u32 ((a >>> n).toNat : Int)) := .of_run fun ρ hρ => by
  refine ⟨_, by simp only [execOp, hρ _ _ hx, hρ _ _ hy]; rfl, ?_⟩
  rw [run_bind _ _ (run_eqGuard_plain (P := P) (w := w) .shr t x y (by intro c; simp) (by simp))]
  rw [← u32_shr a n (Nat.le_of_ble_eq_true hn)]
  simp only [binOp, Op.shift]
  rw [if_neg (by simp)]
  simp [pure]
end
end Go.Rn
namespace Go.Sg
open Go.Rn Go.Proofs

theorem rot_count : ∀ n : Fin 32, 0 < n.val → IntKind.u64.wrap ((BitVec.ofInt IntKind.u64.bits (IntKind.u64.wrap (-(n.val : Int))) &&& BitVec.ofInt IntKind.u64.bits 31).toNat : Int) = ((32 - n.val : Nat) : Int) := by decide +kernel

theorem rotl_ok (x : BitVec 32) (n : Nat) (h0 : 0 < n) (h1 : n < 32) (w : World) : Rets Tryd.prog 69 [.int .u32 (x.toNat : Int), .int .i64 (-(n : Int))] w fun v w' => v = .int .u32 ((rotr x n).toNat : Int) ∧ w = w' := by
  have hc := rot_count ⟨n, h1⟩ h0
  simp only at hc
  refine RetsX.of (nt := 17) Tryd.func69 (by kernel_rfl) rfl rfl (by simp) (by simp only [argEnv]; rfl) ?_
  (repeat (first | refine RunE.seq ?_ | refine RunE.skip ?_)); refine RunE.region ?_; (repeat (first | refine RunL.pureI Tryd.tOk rfl rfl rfl (by (first | exact wr_i64 (by omega) (by omega) | exact wm_i64 (by omega) | exact wq_i64 (by omega) (by omega) (by omega) | rfl)) ?_ | refine RunL.pure Tryd.tOk rfl rfl rfl ?_ | refine RunL.unwantedD rfl rfl ?_)); refine RunL.nil ?_
  repeat (first | refine RunE.seq ?_ | refine RunE.region ?_ | refine RunL.nil ?_ | refine RunE.block ?_ | refine RunE.inBlock ?_ | refine RunE.skip ?_ | refine RunE.exit rfl ?_ | refine RunE.scope ?_ | refine RunE.inScope ?_ | refine RunE.label ?_)
  refine RunL.pure Tryd.tOk rfl rfl rfl ?_
  refine RunL.pure Tryd.tOk rfl rfl rfl ?_
  refine RunL.pureI Tryd.tOk rfl rfl rfl hc ?_
  refine RunL.pure Tryd.tOk rfl rfl rfl ?_
  repeat (first | refine RunE.seq ?_ | refine RunE.region ?_ | refine RunL.nil ?_ | refine RunE.block ?_ | refine RunE.inBlock ?_ | refine RunE.skip ?_ | refine RunE.exit rfl ?_ | refine RunE.scope ?_ | refine RunE.inScope ?_ | refine RunE.label ?_)
  refine RunL.pure Tryd.tOk rfl rfl rfl ?_
  refine RunL.pure Tryd.tOk rfl rfl rfl ?_
  refine RunL.pureI Tryd.tOk rfl rfl rfl (u32_shl _ _ (by omega)) ?_
  refine RunL.pure Tryd.tOk rfl rfl rfl ?_
  refine RunL.pure Tryd.tOk rfl rfl rfl ?_
  refine RunL.pureI (m' := (n : Int)) Tryd.tOk rfl rfl rfl (by rw [wrap_u64]; omega) ?_
  refine RunL.pureI Tryd.tOk rfl rfl rfl (u32_shr _ _ (by omega)) ?_
  refine RunL.pureI Tryd.tOk rfl rfl rfl (u32_or _ _) ?_
  repeat (first | refine RunL.pureI Tryd.tOk rfl rfl rfl (by (first | exact wr_i64 (by omega) (by omega) | exact wm_i64 (by omega) | exact wq_i64 (by omega) (by omega) (by omega) | rfl)) ?_ | refine RunL.pure Tryd.tOk rfl rfl rfl ?_ | refine RunL.unwantedD rfl rfl ?_ | refine RunE.seq ?_ | refine RunE.region ?_ | refine RunL.nil ?_ | refine RunE.block ?_ | refine RunE.inBlock ?_ | refine RunE.skip ?_ | refine RunE.exit rfl ?_ | refine RunE.scope ?_ | refine RunE.inScope ?_ | refine RunE.label ?_)
  exact RunE.retFn Tryd.func69 (.tmp rfl .nil) ⟨rfl, rfl⟩

theorem ror_ok (x : BitVec 32) (n : Nat) (h1 : n < 32) (w : World) : Rets Tryd.prog 76 [.int .u32 (x.toNat : Int), .int .i64 (n : Int)] w fun v w' => v = .int .u32 ((rotr x n).toNat : Int) ∧ Ext w w' := by
  refine RetsX.of (nt := 13) Tryd.func76 (by kernel_rfl) rfl rfl (by simp) (by simp only [argEnv]; rfl) ?_
  repeat (first | refine RunL.pureI Tryd.tOk rfl rfl rfl (by (first | exact wr_i64 (by omega) (by omega) | exact wm_i64 (by omega) | exact wq_i64 (by omega) (by omega) (by omega) | rfl)) ?_ | refine RunL.pure Tryd.tOk rfl rfl rfl ?_ | refine RunL.unwantedD rfl rfl ?_ | refine RunE.seq ?_ | refine RunE.region ?_ | refine RunL.nil ?_ | refine RunE.block ?_ | refine RunE.inBlock ?_ | refine RunE.skip ?_ | refine RunE.exit rfl ?_ | refine RunE.scope ?_ | refine RunE.inScope ?_ | refine RunE.label ?_)
  refine RunE.draw (fun _ => False) mix ?_
  intro w0 X
  refine Asy.pure Tryd.tOk rfl rfl rfl ?_
  refine Asy.pure Tryd.tOk rfl rfl rfl ?_
  refine Asy.pureI Tryd.tOk rfl rfl rfl (u32_shr _ _ (by omega)) ?_
  refine Asy.pure Tryd.tOk rfl rfl rfl ?_
  refine Asy.pure Tryd.tOk rfl rfl rfl ?_
  refine Asy.pureI (m' := ((32 - n : Nat) : Int)) Tryd.tOk rfl rfl rfl (by rw [wr_i64 (by omega) (by omega)]; omega) ?_
  refine Asy.pureI Tryd.tOk rfl rfl rfl (u32_shl _ _ (by omega)) ?_
  refine Asy.pureI Tryd.tOk rfl rfl rfl (u32_or _ _) ?_
  refine Asy.pure Tryd.tOk rfl rfl rfl ?_
  refine Asy.tail (by kernel_rfl) ?_
  intro w1 X1
  simp only [satsAll]
  repeat (first | refine RunL.pureI Tryd.tOk rfl rfl rfl (by (first | exact wr_i64 (by omega) (by omega) | exact wm_i64 (by omega) | exact wq_i64 (by omega) (by omega) (by omega) | rfl)) ?_ | refine RunL.pure Tryd.tOk rfl rfl rfl ?_ | refine RunL.unwantedD rfl rfl ?_ | refine RunE.seq ?_ | refine RunE.region ?_ | refine RunL.nil ?_ | refine RunE.block ?_ | refine RunE.inBlock ?_ | refine RunE.skip ?_ | refine RunE.exit rfl ?_ | refine RunE.scope ?_ | refine RunE.inScope ?_ | refine RunE.label ?_)
  exact RunE.retFn Tryd.func76 (.tmp rfl .nil) ⟨by unfold rotr; rw [BitVec.or_comm]; rfl, X.trans X1⟩
end Go.Sg
