/- The program's codec: numbers, forms. -/
import Derived.Test.YtbjmdklcbknlpaaDoorCod1
import Derived.Test.YtbjmdklcbknlpaaDoorCodS
import Derived.Test.YtbjmdklcbknlpaaDoorMix
namespace Go.Sg
open Go.Rn Go.Sha Go.Cod Go.Proofs
attribute [local irreducible] Go.Rn.RunL Go.Rn.RunE Go.Rn.Asy Go.Rn.OpV Go.Rn.OpE Go.Rn.ExecE

theorem u8_or128 (u : Nat) : IntKind.u8.wrap ((BitVec.ofInt IntKind.u8.bits ((UInt8.ofNat u).toNat : Int) ||| BitVec.ofInt IntKind.u8.bits 128).toNat : Int) = ((UInt8.ofNat (u % 128 + 128)).toNat : Int) := by
  have h : ∀ n : Fin 256, IntKind.u8.wrap ((BitVec.ofInt IntKind.u8.bits (n.val : Int) ||| BitVec.ofInt IntKind.u8.bits 128).toNat : Int) = ((n.val % 128 + 128 : Nat) : Int) := by decide +kernel
  have := h ⟨(UInt8.ofNat u).toNat, (UInt8.ofNat u).toNat_lt⟩
  simp only at this
  rw [this]
  congr 1
  rw [UInt8.toNat_ofNat', UInt8.toNat_ofNat']; omega

theorem numeral_ok (v : Value) (pre : List UInt8) (u base : Nat) (w : World) (hv : w.ownsRow base 5 1 v pre.length (bytesV pre)) (hu : u < 18446744073709551616) (hp : pre.length ≤ 1000000000000) (hb : base ≤ w.heap.size) :
    Rets Tryd.prog 62 [v, .int .u64 (u : Int)] w fun r w' => w'.ownsRow base 5 1 r (pre ++ num u).length (bytesV (pre ++ num u)) ∧ ExtB (fun k => v.ownBlock = some k) w w' := by
  have hnl := num_le u hu
  refine RetsX.of (nt := 20) Tryd.func62 (by kernel_rfl) rfl rfl (by simp) (by simp only [argEnv]; rfl) ?_
  repeat (first | refine RunL.pureI Tryd.tOk rfl rfl rfl (by (first | exact wr_i64 (by omega) (by omega) | exact wm_i64 (by omega) | exact wq_i64 (by omega) (by omega) (by omega) | rfl)) ?_ | refine RunL.pure Tryd.tOk rfl rfl rfl ?_ | refine RunL.unwantedD rfl rfl ?_ | refine RunE.seq ?_ | refine RunE.region ?_ | refine RunL.nil ?_ | refine RunE.block ?_ | refine RunE.inBlock ?_ | refine RunE.skip ?_ | refine RunE.exit rfl ?_ | refine RunE.scope ?_ | refine RunE.inScope ?_ | refine RunE.label ?_)
  refine RunE.loop (ι := Value × Nat × List UInt8) (fun x => [(0, x.1), (1, .int .u64 (x.2.1 : Int))])
    (fun x w' => x.2.1 < 18446744073709551616 ∧ x.2.2 ++ num x.2.1 = pre ++ num u ∧ ExtB (fun k => v.ownBlock = some k) w w' ∧ (∀ k, x.1.ownBlock = some k → k < w.heap.size → v.ownBlock = some k) ∧ w'.ownsRow base 5 1 x.1 x.2.2.length (bytesV x.2.2)) (fun x => x.2.1) (v, u, pre) (by repeat (first | exact Sub.nil _ | refine Sub.cons rfl ?_)) ⟨hu, rfl, .refl _ _, fun _ h _ => h, hv⟩ ?_
  rintro ⟨v1, m, acc⟩ w1 ⟨hm, hacc, X1, N1, O1⟩ again
  simp only at hm hacc N1 O1 again ⊢
  have hal : acc.length ≤ pre.length + 10 := by
    have := congrArg List.length hacc
    rw [List.length_append, List.length_append] at this; omega
  have hb1 : base ≤ w1.heap.size := Nat.le_trans hb X1.size
  repeat (first | refine RunL.pureI Tryd.tOk rfl rfl rfl (by (first | exact wr_i64 (by omega) (by omega) | exact wm_i64 (by omega) | exact wq_i64 (by omega) (by omega) (by omega) | rfl)) ?_ | refine RunL.pure Tryd.tOk rfl rfl rfl ?_ | refine RunL.unwantedD rfl rfl ?_ | refine RunE.seq ?_ | refine RunE.region ?_ | refine RunL.nil ?_ | refine RunE.block ?_ | refine RunE.inBlock ?_ | refine RunE.skip ?_ | refine RunE.exit rfl ?_ | refine RunE.scope ?_ | refine RunE.inScope ?_ | refine RunE.label ?_)
  refine RunE.cond rfl (fun hge => ?_) (fun hge => ?_) <;> (first | replace hge := of_decide_eq_true hge | replace hge := of_decide_eq_false hge | replace hge := beq_iff_eq.1 hge | replace hge := beq_eq_false_iff_ne.1 hge | replace hge := bne_iff_ne.1 hge | replace hge := bne_eq_false_iff_eq.1 hge | skip)
  · have hm128 : ¬ m < 128 := by omega
    repeat (first | refine RunL.pureI Tryd.tOk rfl rfl rfl (by (first | exact u8_or128 _ | exact u8_of_nat _ | exact wr_i64 (by omega) (by omega) | exact wm_i64 (by omega) | exact wq_i64 (by omega) (by omega) (by omega) | rfl)) ?_ | refine RunL.pure Tryd.tOk rfl rfl rfl ?_ | refine RunL.unwantedD rfl rfl ?_ | refine RunL.val rfl rfl rfl (OpV.indexAK Tryd.tOk rfl rfl rfl rfl) ?_ | refine RunL.val rfl rfl rfl (OpV.indexSK Tryd.tOk rfl rfl rfl rfl) ?_ | refine RunE.seq ?_ | refine RunE.region ?_ | refine RunL.nil ?_ | refine RunE.block ?_ | refine RunE.inBlock ?_ | refine RunE.skip ?_ | refine RunE.exit rfl ?_ | refine RunE.scope ?_ | refine RunE.inScope ?_ | refine RunE.label ?_)
    refine RunL.ex rfl rfl rfl (OpE.buildSl Tryd.tOk [.int .u8 ((UInt8.ofNat (m % 128 + 128)).toNat : Int)] rfl rfl rfl rfl rfl rfl (by simp [Value.cells])) ?_
    rintro _ w2 ⟨B, rfl, a2⟩
    have O2 := ownsRow_ext O1 a2.ext (fun _ _ h => h)
    have hB := a2.eq
    have z2 := a2.size
    refine RunL.ex rfl rfl rfl (OpE.append' Tryd.tOk rfl rfl rfl rfl rfl rfl O2 (isSl_added (n := 1) (sz := 1) a2 rfl) rfl (by show _ * 1 ≤ _; omega) (by omega) (by omega)) ?_
    rintro v3 w3 ⟨O3, E3, hnew⟩
    have X3 : ExtB (fun k => v.ownBlock = some k) w w3 := (X1.trans (.of_ext a2.ext)).write E3 (by intro i hi hlt; exact N1 i hi hlt)
    have N3 : ∀ k, v3.ownBlock = some k → k < w.heap.size → v.ownBlock = some k := fun k hk hlt => N1 k (hnew k hk (by have := X1.size; omega)) hlt
    repeat (first | refine RunL.pureI Tryd.tOk rfl rfl rfl (by (first | exact u64_shr _ 7 (by decide) | exact wr_i64 (by omega) (by omega) | exact wm_i64 (by omega) | exact wq_i64 (by omega) (by omega) (by omega) | rfl)) ?_ | refine RunL.pure Tryd.tOk rfl rfl rfl ?_ | refine RunL.unwantedD rfl rfl ?_ | refine RunL.val rfl rfl rfl (OpV.indexAK Tryd.tOk rfl rfl rfl rfl) ?_ | refine RunL.val rfl rfl rfl (OpV.indexSK Tryd.tOk rfl rfl rfl rfl) ?_ | refine RunE.seq ?_ | refine RunE.region ?_ | refine RunL.nil ?_ | refine RunE.block ?_ | refine RunE.inBlock ?_ | refine RunE.skip ?_ | refine RunE.exit rfl ?_ | refine RunE.scope ?_ | refine RunE.inScope ?_ | refine RunE.label ?_)
    refine RunE.weaken (by repeat (first | exact Sub.nil _ | refine Sub.cons rfl ?_)) (again (v3, m / 128, acc ++ [UInt8.ofNat (m % 128 + 128)]) _ (by simp only; omega) ⟨by simp only; omega, ?_, X3, N3, ?_⟩)
    · simp only
      rw [← hacc, num_big hm128]; simp
    · simp only
      rw [List.length_append, bytesV_append]; exact O3
  · have hm128 : m < 128 := by omega
    clear again
    repeat (first | refine RunL.pureI Tryd.tOk rfl rfl rfl (by (first | exact u8_of_nat _ | exact wr_i64 (by omega) (by omega) | exact wm_i64 (by omega) | exact wq_i64 (by omega) (by omega) (by omega) | rfl)) ?_ | refine RunL.pure Tryd.tOk rfl rfl rfl ?_ | refine RunL.unwantedD rfl rfl ?_ | refine RunL.val rfl rfl rfl (OpV.indexAK Tryd.tOk rfl rfl rfl rfl) ?_ | refine RunL.val rfl rfl rfl (OpV.indexSK Tryd.tOk rfl rfl rfl rfl) ?_ | refine RunE.seq ?_ | refine RunE.region ?_ | refine RunL.nil ?_ | refine RunE.block ?_ | refine RunE.inBlock ?_ | refine RunE.skip ?_ | refine RunE.exit rfl ?_ | refine RunE.scope ?_ | refine RunE.inScope ?_ | refine RunE.label ?_)
    refine RunL.ex rfl rfl rfl (OpE.buildSl Tryd.tOk [.int .u8 ((UInt8.ofNat m).toNat : Int)] rfl rfl rfl rfl rfl rfl (by simp [Value.cells])) ?_
    rintro _ w2 ⟨B, rfl, a2⟩
    have O2 := ownsRow_ext O1 a2.ext (fun _ _ h => h)
    have z2 := a2.size
    have hB := a2.eq
    refine RunL.ex rfl rfl rfl (OpE.append' Tryd.tOk rfl rfl rfl rfl rfl rfl O2 (isSl_added (n := 1) (sz := 1) a2 rfl) rfl (by show _ * 1 ≤ _; omega) (by omega) (by omega)) ?_
    rintro v3 w3 ⟨O3, E3, hnew⟩
    have X3 : ExtB (fun k => v.ownBlock = some k) w w3 := (X1.trans (.of_ext a2.ext)).write E3 (by intro i hi hlt; exact N1 i hi hlt)
    have N3 : ∀ k, v3.ownBlock = some k → k < w.heap.size → v.ownBlock = some k := fun k hk hlt => N1 k (hnew k hk (by have := X1.size; omega)) hlt
    repeat (first | refine RunL.pureI Tryd.tOk rfl rfl rfl (by (first | exact wr_i64 (by omega) (by omega) | exact wm_i64 (by omega) | exact wq_i64 (by omega) (by omega) (by omega) | rfl)) ?_ | refine RunL.pure Tryd.tOk rfl rfl rfl ?_ | refine RunL.unwantedD rfl rfl ?_ | refine RunE.seq ?_ | refine RunE.region ?_ | refine RunL.nil ?_ | refine RunE.block ?_ | refine RunE.inBlock ?_ | refine RunE.skip ?_ | refine RunE.exit rfl ?_ | refine RunE.scope ?_ | refine RunE.inScope ?_ | refine RunE.label ?_)
    refine RunE.retFn Tryd.func62 (.tmp rfl .nil) ⟨?_, X3⟩
    simp only [oneOr]
    rw [← hacc, num_small hm128, List.length_append, bytesV_append]
    exact O3

theorem zig_ok (n : Int) (h : -9223372036854775808 ≤ n ∧ n < 9223372036854775808) :
    IntKind.u64.wrap ((BitVec.ofInt IntKind.u64.bits (IntKind.u64.wrap (IntKind.u64.wrap n * 2 ^ (min 1 IntKind.u64.bits))) ^^^ BitVec.ofInt IntKind.u64.bits (IntKind.u64.wrap (n.fdiv (2 ^ (min 63 IntKind.i64.bits))))).toNat : Int) = (zig n : Int) := by
  have e1 : (2 : Int) ^ (min 1 IntKind.u64.bits) = 2 := by decide
  have e2 : (2 : Int) ^ (min 63 IntKind.i64.bits) = 9223372036854775808 := by decide
  have e3 : IntKind.u64.bits = 64 := rfl
  rw [e1, e2, e3]
  simp only [wrap_u64]
  rw [Int.fdiv_eq_ediv_of_nonneg _ (by decide)]
  unfold zig
  by_cases hn : 0 ≤ n
  · rw [if_pos hn]
    have h1 : n / 9223372036854775808 = 0 := by omega
    have h2 : n % 18446744073709551616 * 2 % 18446744073709551616 = ((2 * n).toNat : Int) := by omega
    rw [h1, h2]
    have h3 : (BitVec.ofInt 64 (0 % 18446744073709551616) : BitVec 64) = 0#64 := by decide
    rw [h3, BitVec.xor_zero, BitVec.ofInt_natCast, BitVec.toNat_ofNat]; omega
  · rw [if_neg hn]
    have h1 : n / 9223372036854775808 = -1 := by omega
    have h2 : n % 18446744073709551616 * 2 % 18446744073709551616 = ((2 * n + 18446744073709551616).toNat : Int) := by omega
    rw [h1, h2]
    have h3 : (BitVec.ofInt 64 (-1 % 18446744073709551616) : BitVec 64) = BitVec.allOnes 64 := by decide
    rw [h3, BitVec.xor_allOnes, BitVec.ofInt_natCast, BitVec.toNat_not, BitVec.toNat_ofNat]; omega

theorem unsigned_ok (n : Int) (h : -9223372036854775808 ≤ n ∧ n < 9223372036854775808) (w : World) : Rets Tryd.prog 63 [.int .i64 n] w fun v w' => v = .int .u64 (zig n : Int) ∧ w = w' := by
  refine RetsX.of (nt := 10) Tryd.func63 (by kernel_rfl) rfl rfl (by simp) (by simp only [argEnv]; rfl) ?_
  repeat (first | refine RunL.pureI Tryd.tOk rfl rfl rfl (by (first | exact zig_ok n h | exact wr_i64 (by omega) (by omega) | exact wm_i64 (by omega) | exact wq_i64 (by omega) (by omega) (by omega) | rfl)) ?_ | refine RunL.pure Tryd.tOk rfl rfl rfl ?_ | refine RunL.unwantedD rfl rfl ?_ | refine RunL.val rfl rfl rfl (OpV.indexAK Tryd.tOk rfl rfl rfl rfl) ?_ | refine RunL.val rfl rfl rfl (OpV.indexSK Tryd.tOk rfl rfl rfl rfl) ?_ | refine RunE.seq ?_ | refine RunE.region ?_ | refine RunL.nil ?_ | refine RunE.block ?_ | refine RunE.inBlock ?_ | refine RunE.skip ?_ | refine RunE.exit rfl ?_ | refine RunE.scope ?_ | refine RunE.inScope ?_ | refine RunE.label ?_)
  exact RunE.retFn Tryd.func63 (.tmp rfl .nil) ⟨rfl, rfl⟩
end Go.Sg
