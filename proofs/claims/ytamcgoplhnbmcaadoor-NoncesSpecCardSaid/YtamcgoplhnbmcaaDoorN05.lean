/- Parts of this project that the claims share: Cod2, Cod3, Cod4, Cod5, RCod1, RCod2, RCod3, Num, GroupA. -/
import Derived.Test.YtamcgoplhnbmcaaDoorN04
import Derived.Test.YtamcgoplhnbmcaaDoorN02
import Derived.Test.YtamcgoplhnbmcaaDoorN01
set_option linter.unusedSimpArgs false
set_option linter.unusedVariables false
set_option linter.unusedSectionVars false
section
/- The program's codec: numbers, forms. -/
namespace Go.Sg
open Go.Rn Go.Sha Go.Cod Go.Proofs
attribute [local irreducible] Go.Rn.RunL Go.Rn.RunE Go.Rn.Asy Go.Rn.OpV Go.Rn.OpE Go.Rn.ExecE

theorem u8_or128 (u : Nat) : IntKind.u8.wrap ((BitVec.ofInt IntKind.u8.bits ((UInt8.ofNat u).toNat : Int) ||| BitVec.ofInt IntKind.u8.bits 128).toNat : Int) = ((UInt8.ofNat (u % 128 + 128)).toNat : Int) := by
  have h : ∀ n : Fin 256, IntKind.u8.wrap ((BitVec.ofInt IntKind.u8.bits (n.val : Int) ||| BitVec.ofInt IntKind.u8.bits 128).toNat : Int) = ((n.val % 128 + 128 : Nat) : Int) := by decide +kernel
  have := h ⟨(UInt8.ofNat u).toNat, (UInt8.ofNat u).toNat_lt⟩
  simp only at this
  rw [this]
  congr 1
  rw [UInt8.toNat_ofNat', UInt8.toNat_ofNat']; omega

theorem numeral_ok (v : Value) (pre : List UInt8) (u base : Nat) (w : World) (hv : w.ownsRow base 5 1 v pre.length (bytesV pre)) (hu : u < 18446744073709551616) (hp : pre.length ≤ 1000000000000) (hb : base ≤ w.heap.size) :
    Rets Tryd.prog 106 [v, .int .u64 (u : Int)] w fun r w' => w'.ownsRow base 5 1 r (pre ++ num u).length (bytesV (pre ++ num u)) ∧ ExtB (fun k => v.ownBlock = some k) w w' := by
  have hnl := num_le u hu
  refine RetsX.of (nt := 20) Tryd.func106 (by kernel_rfl) rfl rfl (by simp) (by simp only [argEnv]; rfl) ?_
  repeat (first | refine RunL.pure Tryd.tOk rfl rfl rfl ?_ | refine RunE.seq ?_ | refine RunE.region ?_ | refine RunL.nil ?_ | refine RunE.block ?_)
  refine RunE.loop (ι := Value × Nat × List UInt8) (fun x => [(0, x.1), (1, .int .u64 (x.2.1 : Int))])
    (fun x w' => x.2.1 < 18446744073709551616 ∧ x.2.2 ++ num x.2.1 = pre ++ num u ∧ ExtB (fun k => v.ownBlock = some k) w w' ∧ (∀ k, x.1.ownBlock = some k → k < w.heap.size → v.ownBlock = some k) ∧ w'.ownsRow base 5 1 x.1 x.2.2.length (bytesV x.2.2)) (fun x => x.2.1) (v, u, pre) (by repeat (first | exact Sub.nil _ | refine Sub.cons rfl ?_)) ⟨hu, rfl, .refl _ _, fun _ h _ => h, hv⟩ ?_
  rintro ⟨v1, m, acc⟩ w1 ⟨hm, hacc, X1, N1, O1⟩ again
  simp only at hm hacc N1 O1 again ⊢
  have hal : acc.length ≤ pre.length + 10 := by
    have := congrArg List.length hacc
    rw [List.length_append, List.length_append] at this; omega
  have hb1 : base ≤ w1.heap.size := Nat.le_trans hb X1.size
  repeat (first | refine RunL.pureI Tryd.tOk rfl rfl rfl (by (first | exact wr_i64 (by omega) (by omega) | exact wm_i64 (by omega) | exact wq_i64 (by omega) (by omega) (by omega) | rfl)) ?_ | refine RunL.pure Tryd.tOk rfl rfl rfl ?_ | refine RunE.seq ?_ | refine RunE.region ?_ | refine RunL.nil ?_)
  refine RunE.cond rfl (fun hge => ?_) (fun hge => ?_) <;> (first | replace hge := of_decide_eq_true hge | replace hge := of_decide_eq_false hge | replace hge := beq_iff_eq.1 hge | replace hge := beq_eq_false_iff_ne.1 hge | replace hge := bne_iff_ne.1 hge | replace hge := bne_eq_false_iff_eq.1 hge | skip)
  · have hm128 : ¬ m < 128 := by omega
    repeat (first | refine RunL.pureI Tryd.tOk rfl rfl rfl (by (first | exact u8_or128 _ | exact u8_of_nat _ | exact wr_i64 (by omega) (by omega) | exact wm_i64 (by omega) | exact wq_i64 (by omega) (by omega) (by omega) | rfl)) ?_ | refine RunL.pure Tryd.tOk rfl rfl rfl ?_ | refine RunE.seq ?_ | refine RunE.region ?_ | refine RunE.block ?_ | refine RunE.skip ?_)
    refine RunL.ex rfl rfl rfl (OpE.buildSl Tryd.tOk [.int .u8 ((UInt8.ofNat (m % 128 + 128)).toNat : Int)] rfl rfl rfl rfl rfl rfl (by simp [Value.cells])) ?_
    rintro _ w2 ⟨B, rfl, a2⟩
    have O2 := ownsRow_ext O1 a2.ext (fun _ _ h => h)
    have hB := a2.eq
    have z2 := a2.size
    refine RunL.ex rfl rfl rfl (OpE.append' Tryd.tOk rfl rfl rfl rfl rfl rfl O2 (isSl_added (n := 1) (sz := 1) a2 rfl) rfl (by show _ * 1 ≤ _; omega) (by omega) (by omega)) ?_
    rintro v3 w3 ⟨O3, E3, hnew⟩
    have X3 : ExtB (fun k => v.ownBlock = some k) w w3 := (X1.trans (.of_ext a2.ext)).write E3 (by intro i hi hlt; exact N1 i hi hlt)
    have N3 : ∀ k, v3.ownBlock = some k → k < w.heap.size → v.ownBlock = some k := fun k hk hlt => N1 k (hnew k hk (by have := X1.size; omega)) hlt
    repeat (first | refine RunL.pureI Tryd.tOk rfl rfl rfl (by (first | exact u64_shr _ 7 (by decide) | exact wr_i64 (by omega) (by omega) | exact wm_i64 (by omega) | exact wq_i64 (by omega) (by omega) (by omega) | rfl)) ?_ | refine RunL.pure Tryd.tOk rfl rfl rfl ?_ | refine RunE.region ?_ | refine RunL.nil ?_ | refine RunE.inBlock ?_)
    refine RunE.weaken (by repeat (first | exact Sub.nil _ | refine Sub.cons rfl ?_)) (again (v3, m / 128, acc ++ [UInt8.ofNat (m % 128 + 128)]) _ (by simp only; omega) ⟨by simp only; omega, ?_, X3, N3, ?_⟩)
    · simp only
      rw [← hacc, num_big hm128]; simp
    · simp only
      rw [List.length_append, bytesV_append]; exact O3
  · have hm128 : m < 128 := by omega
    clear again
    repeat (first | refine RunL.pureI Tryd.tOk rfl rfl rfl (by (first | exact u8_of_nat _ | exact wr_i64 (by omega) (by omega) | exact wm_i64 (by omega) | exact wq_i64 (by omega) (by omega) (by omega) | rfl)) ?_ | refine RunL.pure Tryd.tOk rfl rfl rfl ?_ | refine RunE.seq ?_ | refine RunE.region ?_ | refine RunE.exit rfl ?_)
    refine RunL.ex rfl rfl rfl (OpE.buildSl Tryd.tOk [.int .u8 ((UInt8.ofNat m).toNat : Int)] rfl rfl rfl rfl rfl rfl (by simp [Value.cells])) ?_
    rintro _ w2 ⟨B, rfl, a2⟩
    have O2 := ownsRow_ext O1 a2.ext (fun _ _ h => h)
    have z2 := a2.size
    have hB := a2.eq
    refine RunL.ex rfl rfl rfl (OpE.append' Tryd.tOk rfl rfl rfl rfl rfl rfl O2 (isSl_added (n := 1) (sz := 1) a2 rfl) rfl (by show _ * 1 ≤ _; omega) (by omega) (by omega)) ?_
    rintro v3 w3 ⟨O3, E3, hnew⟩
    have X3 : ExtB (fun k => v.ownBlock = some k) w w3 := (X1.trans (.of_ext a2.ext)).write E3 (by intro i hi hlt; exact N1 i hi hlt)
    have N3 : ∀ k, v3.ownBlock = some k → k < w.heap.size → v.ownBlock = some k := fun k hk hlt => N1 k (hnew k hk (by have := X1.size; omega)) hlt
    repeat (first | refine RunL.pure Tryd.tOk rfl rfl rfl ?_ | refine RunL.nil ?_)
    refine RunE.retFn Tryd.func106 (.tmp rfl .nil) ⟨?_, X3⟩
    simp only [oneOr]
    rw [← hacc, num_small hm128, List.length_append, bytesV_append]
    exact O3

theorem zig_ok (n : Int) (h : -9223372036854775808 ≤ n ∧ n < 9223372036854775808) :
    IntKind.u64.wrap ((BitVec.ofInt IntKind.u64.bits (IntKind.u64.wrap (IntKind.u64.wrap n * 2 ^ (min 1 IntKind.u64.bits))) ^^^ BitVec.ofInt IntKind.u64.bits (IntKind.u64.wrap (n.fdiv (2 ^ (min 63 IntKind.i64.bits))))).toNat : Int) = (zig n : Int) := by
  have e1 : (2 : Int) ^ (min 1 IntKind.u64.bits) = 2 := by decide
  have e2 : (2 : Int) ^ (min 63 IntKind.i64.bits) = 9223372036854775808 := by decide
  have e3 : IntKind.u64.bits = 64 := rfl
  rw [e1, e2, e3]
  simp only [wrap_u64]
  rw [Int.fdiv_eq_ediv_of_nonneg _ (by decide)]
  unfold zig
  by_cases hn : 0 ≤ n
  · rw [if_pos hn]
    have h1 : n / 9223372036854775808 = 0 := by omega
    have h2 : n % 18446744073709551616 * 2 % 18446744073709551616 = ((2 * n).toNat : Int) := by omega
    rw [h1, h2]
    have h3 : (BitVec.ofInt 64 (0 % 18446744073709551616) : BitVec 64) = 0#64 := by decide
    rw [h3, BitVec.xor_zero, BitVec.ofInt_natCast, BitVec.toNat_ofNat]; omega
  · rw [if_neg hn]
    have h1 : n / 9223372036854775808 = -1 := by omega
    have h2 : n % 18446744073709551616 * 2 % 18446744073709551616 = ((2 * n + 18446744073709551616).toNat : Int) := by omega
    rw [h1, h2]
    have h3 : (BitVec.ofInt 64 (-1 % 18446744073709551616) : BitVec 64) = BitVec.allOnes 64 := by decide
    rw [h3, BitVec.xor_allOnes, BitVec.ofInt_natCast, BitVec.toNat_not, BitVec.toNat_ofNat]; omega

theorem unsigned_ok (n : Int) (h : -9223372036854775808 ≤ n ∧ n < 9223372036854775808) (w : World) : Rets Tryd.prog 107 [.int .i64 n] w fun v w' => v = .int .u64 (zig n : Int) ∧ w = w' := by
  refine RetsX.of (nt := 10) Tryd.func107 (by kernel_rfl) rfl rfl (by simp) (by simp only [argEnv]; rfl) ?_
  repeat (first | refine RunL.pureI Tryd.tOk rfl rfl rfl (by (first | exact zig_ok n h | exact wr_i64 (by omega) (by omega) | exact wm_i64 (by omega) | exact wq_i64 (by omega) (by omega) (by omega) | rfl)) ?_ | refine RunE.seq ?_ | refine RunE.region ?_ | refine RunL.nil ?_)
  exact RunE.retFn Tryd.func107 (.tmp rfl .nil) ⟨rfl, rfl⟩
end Go.Sg
end
section
/- The program's codec: what is well-formed. -/
namespace Go.Sg
open Go.Rn Go.Sha Go.Cod Go.Proofs
attribute [local irreducible] Go.Rn.RunL Go.Rn.RunE Go.Rn.Asy Go.Rn.OpV Go.Rn.OpE Go.Rn.ExecE

theorem cells_plain {w : World} {c : CV} {r : List Value} (h : c.In w r) : (Value.agg r.toArray).cells.toList.all plainV = true := by
  show r.all plainV = true
  cases c <;> simp only [CV.In] at h
  · obtain ⟨_, _, rfl⟩ := h; rfl
  · obtain ⟨_, _, rfl⟩ := h; rfl
  · obtain ⟨_, v, rows, rfl, hsl, _⟩ := h
    rcases hsl.inv with ⟨_, rfl, -⟩ | ⟨_, _, _, rfl, -⟩ <;> rfl
theorem max_nat (a b : Nat) : (if (b : Int) > (a : Int) then (b : Int) else (a : Int)) = ((max a b : Nat) : Int) := by split <;> omega
theorem beq_refl_str (s : ByteArray) : (s.toList == s.toList) = true := beq_self_eq_true _

set_option maxHeartbeats 1000000 in
theorem formed_int (n : Int) (d : Option Addr) (w : World) : Rets Tryd.prog 104 [.agg #[.int .i64 1, .int .i64 n, .string ⟨#[]⟩, .slice d 0 0]] w fun v w' => v = .tuple #[.int .i64 ((CV.int n).depth : Int), .bool true] ∧ Ext w w' := by
  refine RetsX.of (nt := 74) Tryd.func104 (by kernel_rfl) rfl rfl (by simp) (by simp only [argEnv]; rfl) ?_
  repeat (first | refine RunE.seq ?_ | refine RunE.region ?_)
  refine RunL.box rfl rfl rfl fun B1 w1 a1 => ?_
  have Z1 : Blk w1 B1 [.int .i64 1, .int .i64 n, .string ⟨#[]⟩, .slice d 0 0] 83 := a1.at_
  repeat (first | refine RunL.pureB Tryd.tOk _ rfl rfl rfl (by with_reducible exact beq_refl_str _) ?_ | refine RunL.pureI Tryd.tOk rfl rfl rfl (by (first | exact wr_i64 (by omega) (by omega) | exact wm_i64 (by omega) | exact wq_i64 (by omega) (by omega) (by omega) | rfl)) ?_ | refine RunL.pure Tryd.tOk rfl rfl rfl ?_ | refine RunL.val rfl rfl rfl (OpV.load1 Tryd.tOk rfl rfl rfl (Blk.cell Z1 rfl)) ?_ | refine RunE.seq ?_ | refine RunE.region ?_ | refine RunL.nil ?_)
  cases hb : (n == (0 : Int)) with
  | true =>
    repeat (first | refine RunL.pureB Tryd.tOk _ rfl rfl rfl (by with_reducible exact beq_refl_str _) ?_ | refine RunL.pureB Tryd.tOk _ rfl rfl rfl (by exact hb) ?_ | refine RunL.pureI Tryd.tOk rfl rfl rfl (by (first | exact wr_i64 (by omega) (by omega) | exact wm_i64 (by omega) | exact wq_i64 (by omega) (by omega) (by omega) | rfl)) ?_ | refine RunL.pure Tryd.tOk rfl rfl rfl ?_ | refine RunL.val rfl rfl rfl (OpV.load1 Tryd.tOk rfl rfl rfl (Blk.cell Z1 rfl)) ?_)
    refine RunL.alloc Tryd.tOk rfl rfl rfl fun B4 w2 a2 => ?_
    have hB1 := a1.eq
    have hB4 := a2.eq
    have z1 := a1.size
    refine RunL.store Tryd.tOk rfl rfl rfl rfl rfl (cs := List.replicate 4 (.bool false)) a2.at_ rfl rfl fun w3 t3 => ?_
    have X3 : Ext w w3 := (a1.ext.trans a2.ext).write t3.ext (by intro i hi hlt; subst hi; omega)
    have U3 := t3.at_
    have Z3 := (Blk.ext Z1 a2.ext id).ext t3.ext (by omega)
    clear a1 a2 t3
    repeat (first | refine RunL.pure Tryd.tOk rfl rfl rfl ?_ | refine RunL.val rfl rfl rfl (OpV.indexAK Tryd.tOk rfl rfl rfl rfl) ?_ | refine RunL.val rfl rfl rfl (OpV.load1 Tryd.tOk rfl rfl rfl (Blk.cell Z3 rfl)) ?_ | refine RunL.val rfl rfl rfl (OpV.load1 Tryd.tOk rfl rfl rfl (Blk.cell U3 rfl)) ?_ | refine RunE.seq ?_ | refine RunE.region ?_ | refine RunL.nil ?_)
    refine RunE.condF rfl rfl ?_
    repeat (first | refine RunL.pure Tryd.tOk rfl rfl rfl ?_ | refine RunL.val rfl rfl rfl (OpV.load1 Tryd.tOk rfl rfl rfl (Blk.cell Z3 rfl)) ?_ | refine RunE.seq ?_ | refine RunE.region ?_ | refine RunL.nil ?_ | refine RunE.skip ?_)
    refine RunE.condT rfl rfl ?_
    repeat (first | refine RunL.pureI Tryd.tOk rfl rfl rfl (by (first | exact wr_i64 (by omega) (by omega) | exact wm_i64 (by omega) | exact wq_i64 (by omega) (by omega) (by omega) | rfl)) ?_ | refine RunL.pure Tryd.tOk rfl rfl rfl ?_ | refine RunE.seq ?_ | refine RunE.region ?_ | refine RunL.nil ?_)
    exact RunE.retFn Tryd.func104 (.tmp rfl (.tmp rfl .nil)) ⟨by simp [oneOr, CV.depth], X3⟩
  | false =>
    repeat (first | refine RunL.pureB Tryd.tOk _ rfl rfl rfl (by exact hb) ?_ | refine RunL.pure Tryd.tOk rfl rfl rfl ?_ | refine RunL.unwantedD rfl rfl ?_ | refine RunL.val rfl rfl rfl (OpV.load1 Tryd.tOk rfl rfl rfl (Blk.cell Z1 rfl)) ?_)
    refine RunL.alloc Tryd.tOk rfl rfl rfl fun B4 w2 a2 => ?_
    have hB1 := a1.eq
    have hB4 := a2.eq
    have z1 := a1.size
    refine RunL.store Tryd.tOk rfl rfl rfl rfl rfl (cs := List.replicate 4 (.bool false)) a2.at_ rfl rfl fun w3 t3 => ?_
    have X3 : Ext w w3 := (a1.ext.trans a2.ext).write t3.ext (by intro i hi hlt; subst hi; omega)
    have U3 := t3.at_
    have Z3 := (Blk.ext Z1 a2.ext id).ext t3.ext (by omega)
    clear a1 a2 t3
    repeat (first | refine RunL.pure Tryd.tOk rfl rfl rfl ?_ | refine RunL.val rfl rfl rfl (OpV.indexAK Tryd.tOk rfl rfl rfl rfl) ?_ | refine RunL.val rfl rfl rfl (OpV.load1 Tryd.tOk rfl rfl rfl (Blk.cell Z3 rfl)) ?_ | refine RunL.val rfl rfl rfl (OpV.load1 Tryd.tOk rfl rfl rfl (Blk.cell U3 rfl)) ?_ | refine RunE.seq ?_ | refine RunE.region ?_ | refine RunL.nil ?_)
    refine RunE.condF rfl rfl ?_
    repeat (first | refine RunL.pure Tryd.tOk rfl rfl rfl ?_ | refine RunL.val rfl rfl rfl (OpV.load1 Tryd.tOk rfl rfl rfl (Blk.cell Z3 rfl)) ?_ | refine RunE.seq ?_ | refine RunE.region ?_ | refine RunL.nil ?_ | refine RunE.skip ?_)
    refine RunE.condT rfl rfl ?_
    repeat (first | refine RunL.pureI Tryd.tOk rfl rfl rfl (by (first | exact wr_i64 (by omega) (by omega) | exact wm_i64 (by omega) | exact wq_i64 (by omega) (by omega) (by omega) | rfl)) ?_ | refine RunL.pure Tryd.tOk rfl rfl rfl ?_ | refine RunE.seq ?_ | refine RunE.region ?_ | refine RunL.nil ?_)
    exact RunE.retFn Tryd.func104 (.tmp rfl (.tmp rfl .nil)) ⟨by simp [oneOr, CV.depth], X3⟩

set_option maxHeartbeats 1000000 in
theorem formed_text (s : ByteArray) (d : Option Addr) (w : World) : Rets Tryd.prog 104 [.agg #[.int .i64 2, .int .i64 0, .string s, .slice d 0 0]] w fun v w' => v = .tuple #[.int .i64 0, .bool true] ∧ Ext w w' := by
  refine RetsX.of (nt := 74) Tryd.func104 (by kernel_rfl) rfl rfl (by simp) (by simp only [argEnv]; rfl) ?_
  repeat (first | refine RunE.seq ?_ | refine RunE.region ?_)
  refine RunL.box rfl rfl rfl fun B1 w1 a1 => ?_
  have Z1 : Blk w1 B1 [.int .i64 2, .int .i64 0, .string s, .slice d 0 0] 83 := a1.at_
  repeat (first | refine RunL.pureI Tryd.tOk rfl rfl rfl (by (first | exact wr_i64 (by omega) (by omega) | exact wm_i64 (by omega) | exact wq_i64 (by omega) (by omega) (by omega) | rfl)) ?_ | refine RunL.pure Tryd.tOk rfl rfl rfl ?_ | refine RunL.val rfl rfl rfl (OpV.load1 Tryd.tOk rfl rfl rfl (Blk.cell Z1 rfl)) ?_ | refine RunE.seq ?_ | refine RunE.region ?_ | refine RunL.nil ?_)
  cases hb : (s.toList == ByteArray.toList ⟨#[]⟩) with
  | true =>
    repeat (first | refine RunL.pureB Tryd.tOk _ rfl rfl rfl (by exact hb) ?_ | refine RunL.pureI Tryd.tOk rfl rfl rfl (by (first | exact wr_i64 (by omega) (by omega) | exact wm_i64 (by omega) | exact wq_i64 (by omega) (by omega) (by omega) | rfl)) ?_ | refine RunL.pure Tryd.tOk rfl rfl rfl ?_ | refine RunL.val rfl rfl rfl (OpV.load1 Tryd.tOk rfl rfl rfl (Blk.cell Z1 rfl)) ?_)
    refine RunL.alloc Tryd.tOk rfl rfl rfl fun B4 w2 a2 => ?_
    have hB1 := a1.eq
    have hB4 := a2.eq
    have z1 := a1.size
    refine RunL.store Tryd.tOk rfl rfl rfl rfl rfl (cs := List.replicate 4 (.bool false)) a2.at_ rfl rfl fun w3 t3 => ?_
    have X3 : Ext w w3 := (a1.ext.trans a2.ext).write t3.ext (by intro i hi hlt; subst hi; omega)
    have U3 := t3.at_
    have Z3 := (Blk.ext Z1 a2.ext id).ext t3.ext (by omega)
    clear a1 a2 t3
    repeat (first | refine RunL.pure Tryd.tOk rfl rfl rfl ?_ | refine RunL.val rfl rfl rfl (OpV.indexAK Tryd.tOk rfl rfl rfl rfl) ?_ | refine RunL.val rfl rfl rfl (OpV.load1 Tryd.tOk rfl rfl rfl (Blk.cell Z3 rfl)) ?_ | refine RunL.val rfl rfl rfl (OpV.load1 Tryd.tOk rfl rfl rfl (Blk.cell U3 rfl)) ?_ | refine RunE.seq ?_ | refine RunE.region ?_ | refine RunL.nil ?_)
    refine RunE.condF rfl rfl ?_
    repeat (first | refine RunL.pure Tryd.tOk rfl rfl rfl ?_ | refine RunL.val rfl rfl rfl (OpV.load1 Tryd.tOk rfl rfl rfl (Blk.cell Z3 rfl)) ?_ | refine RunE.seq ?_ | refine RunE.region ?_ | refine RunL.nil ?_ | refine RunE.skip ?_)
    refine RunE.condT rfl rfl ?_
    repeat (first | refine RunL.pureI Tryd.tOk rfl rfl rfl (by (first | exact wr_i64 (by omega) (by omega) | exact wm_i64 (by omega) | exact wq_i64 (by omega) (by omega) (by omega) | rfl)) ?_ | refine RunL.pure Tryd.tOk rfl rfl rfl ?_ | refine RunE.seq ?_ | refine RunE.region ?_ | refine RunL.nil ?_)
    exact RunE.retFn Tryd.func104 (.tmp rfl (.tmp rfl .nil)) ⟨by simp [oneOr, CV.depth], X3⟩
  | false =>
    repeat (first | refine RunL.pureB Tryd.tOk _ rfl rfl rfl (by exact hb) ?_ | refine RunL.pureI Tryd.tOk rfl rfl rfl (by (first | exact wr_i64 (by omega) (by omega) | exact wm_i64 (by omega) | exact wq_i64 (by omega) (by omega) (by omega) | rfl)) ?_ | refine RunL.pure Tryd.tOk rfl rfl rfl ?_ | refine RunL.unwantedD rfl rfl ?_ | refine RunL.val rfl rfl rfl (OpV.load1 Tryd.tOk rfl rfl rfl (Blk.cell Z1 rfl)) ?_)
    refine RunL.alloc Tryd.tOk rfl rfl rfl fun B4 w2 a2 => ?_
    have hB1 := a1.eq
    have hB4 := a2.eq
    have z1 := a1.size
    refine RunL.store Tryd.tOk rfl rfl rfl rfl rfl (cs := List.replicate 4 (.bool false)) a2.at_ rfl rfl fun w3 t3 => ?_
    have X3 : Ext w w3 := (a1.ext.trans a2.ext).write t3.ext (by intro i hi hlt; subst hi; omega)
    have U3 := t3.at_
    have Z3 := (Blk.ext Z1 a2.ext id).ext t3.ext (by omega)
    clear a1 a2 t3
    repeat (first | refine RunL.pure Tryd.tOk rfl rfl rfl ?_ | refine RunL.val rfl rfl rfl (OpV.indexAK Tryd.tOk rfl rfl rfl rfl) ?_ | refine RunL.val rfl rfl rfl (OpV.load1 Tryd.tOk rfl rfl rfl (Blk.cell Z3 rfl)) ?_ | refine RunL.val rfl rfl rfl (OpV.load1 Tryd.tOk rfl rfl rfl (Blk.cell U3 rfl)) ?_ | refine RunE.seq ?_ | refine RunE.region ?_ | refine RunL.nil ?_)
    refine RunE.condF rfl rfl ?_
    repeat (first | refine RunL.pure Tryd.tOk rfl rfl rfl ?_ | refine RunL.val rfl rfl rfl (OpV.load1 Tryd.tOk rfl rfl rfl (Blk.cell Z3 rfl)) ?_ | refine RunE.seq ?_ | refine RunE.region ?_ | refine RunL.nil ?_ | refine RunE.skip ?_)
    refine RunE.condT rfl rfl ?_
    repeat (first | refine RunL.pureI Tryd.tOk rfl rfl rfl (by (first | exact wr_i64 (by omega) (by omega) | exact wm_i64 (by omega) | exact wq_i64 (by omega) (by omega) (by omega) | rfl)) ?_ | refine RunL.pure Tryd.tOk rfl rfl rfl ?_ | refine RunE.seq ?_ | refine RunE.region ?_ | refine RunL.nil ?_)
    exact RunE.retFn Tryd.func104 (.tmp rfl (.tmp rfl .nil)) ⟨by simp [oneOr, CV.depth], X3⟩

set_option maxHeartbeats 2000000 in
theorem formed_ok : ∀ (c : CV) (cs : List Value) (w : World), c.In w cs → c.depth ≤ 1000 → Rets Tryd.prog 104 [.agg cs.toArray] w fun v w' => v = .tuple #[.int .i64 (c.depth : Int), .bool true] ∧ Ext w w'
  | .int n, cs, w, h, _ => by
    simp only [CV.In] at h
    obtain ⟨hn, d, rfl⟩ := h
    exact formed_int n d w
  | .text s, cs, w, h, _ => by
    simp only [CV.In] at h
    obtain ⟨hn, d, rfl⟩ := h
    exact formed_text _ d w
  | .list l, cs, w, h, hdep => by
    simp only [CV.depth] at hdep
    simp only [CV.In] at h
    obtain ⟨hl, v, rows, rfl, hsl, hin⟩ := h
    obtain ⟨hrl, hget⟩ := hin.get
    refine RetsX.of (nt := 74) Tryd.func104 (by kernel_rfl) rfl rfl (by simp) (by simp only [argEnv]; rfl) ?_
    repeat (first | refine RunE.seq ?_ | refine RunE.region ?_)
    refine RunL.box rfl rfl rfl fun B1 w1 a1 => ?_
    have Z1 : Blk w1 B1 [.int .i64 3, .int .i64 0, .string ⟨#[]⟩, v] 83 := a1.at_
    repeat (first | refine RunL.pureB Tryd.tOk _ rfl rfl rfl (by with_reducible exact beq_refl_str _) ?_ | refine RunL.pureI Tryd.tOk rfl rfl rfl (by (first | exact wr_i64 (by omega) (by omega) | exact wm_i64 (by omega) | exact wq_i64 (by omega) (by omega) (by omega) | rfl)) ?_ | refine RunL.pure Tryd.tOk rfl rfl rfl ?_ | refine RunL.val rfl rfl rfl (OpV.load1 Tryd.tOk rfl rfl rfl (Blk.cell Z1 rfl)) ?_ | refine RunE.seq ?_ | refine RunE.region ?_ | refine RunL.nil ?_)
    refine RunL.val rfl rfl rfl (OpV.lenSl Tryd.tOk rfl rfl hsl) ?_
    repeat (first | refine RunL.pure Tryd.tOk rfl rfl rfl ?_ | refine RunL.val rfl rfl rfl (OpV.load1 Tryd.tOk rfl rfl rfl (Blk.cell Z1 rfl)) ?_)
    refine RunL.val rfl rfl rfl (OpV.lenSl Tryd.tOk rfl rfl hsl) ?_
    repeat (first | refine RunL.pureB Tryd.tOk _ rfl rfl rfl (by with_reducible exact beq_refl_str _) ?_ | refine RunL.pure Tryd.tOk rfl rfl rfl ?_ | refine RunL.val rfl rfl rfl (OpV.load1 Tryd.tOk rfl rfl rfl (Blk.cell Z1 rfl)) ?_)
    refine RunL.alloc Tryd.tOk rfl rfl rfl fun B4 w2 a2 => ?_
    have hB1 := a1.eq
    have hB4 := a2.eq
    have z1 := a1.size
    refine RunL.store Tryd.tOk rfl rfl rfl rfl rfl (cs := List.replicate 4 (.bool false)) a2.at_ rfl rfl fun w3 t3 => ?_
    have X3 : Ext w w3 := (a1.ext.trans a2.ext).write t3.ext (by intro i hi hlt; subst hi; omega)
    have U3 := t3.at_
    have Z3 := (Blk.ext Z1 a2.ext id).ext t3.ext (by omega)
    clear a1 a2 t3
    repeat (first | refine RunL.pure Tryd.tOk rfl rfl rfl ?_ | refine RunL.val rfl rfl rfl (OpV.indexAK Tryd.tOk rfl rfl rfl rfl) ?_ | refine RunL.val rfl rfl rfl (OpV.load1 Tryd.tOk rfl rfl rfl (Blk.cell Z3 rfl)) ?_ | refine RunL.val rfl rfl rfl (OpV.load1 Tryd.tOk rfl rfl rfl (Blk.cell U3 rfl)) ?_ | refine RunE.seq ?_ | refine RunE.region ?_ | refine RunL.nil ?_)
    refine RunE.condF rfl rfl ?_
    repeat (first | refine RunL.pure Tryd.tOk rfl rfl rfl ?_ | refine RunL.val rfl rfl rfl (OpV.load1 Tryd.tOk rfl rfl rfl (Blk.cell Z3 rfl)) ?_ | refine RunE.seq ?_ | refine RunE.region ?_ | refine RunL.nil ?_ | refine RunE.skip ?_)
    refine RunE.condF rfl rfl ?_
    repeat (first | refine RunL.pure Tryd.tOk rfl rfl rfl ?_ | refine RunL.val rfl rfl rfl (OpV.load1 Tryd.tOk rfl rfl rfl (Blk.cell Z3 rfl)) ?_ | refine RunE.seq ?_ | refine RunE.region ?_ | refine RunE.skip ?_)
    refine RunL.val rfl rfl rfl (OpV.lenSl Tryd.tOk rfl rfl hsl) ?_
    repeat (first | refine RunL.pureI Tryd.tOk rfl rfl rfl (by (first | exact wr_i64 (by omega) (by omega) | exact wm_i64 (by omega) | exact wq_i64 (by omega) (by omega) (by omega) | rfl)) ?_ | refine RunL.nil ?_ | refine RunE.block ?_)
    refine RunE.loop (ι := Nat) (fun i => [(2, .int .i64 (depths (l.take i) : Int)), (55, v), (56, .int .i64 (l.length : Int)), (57, .int .i64 (i : Int))])
      (fun i w' => i ≤ l.length ∧ Ext w w') (fun i => l.length - i) 0 (by repeat (first | exact Sub.nil _ | refine Sub.cons rfl ?_)) ⟨by omega, X3⟩ ?_
    clear X3 Z3 U3 Z1
    rintro i w4 ⟨hi, X4⟩ again
    repeat (first | refine RunL.pure Tryd.tOk rfl rfl rfl ?_ | refine RunE.seq ?_ | refine RunE.region ?_ | refine RunL.nil ?_)
    refine RunE.cond rfl (fun hlt => ?_) (fun hlt => ?_) <;> (first | replace hlt := of_decide_eq_true hlt | replace hlt := of_decide_eq_false hlt | replace hlt := beq_iff_eq.1 hlt | replace hlt := beq_eq_false_iff_ne.1 hlt | replace hlt := bne_iff_ne.1 hlt | replace hlt := bne_eq_false_iff_eq.1 hlt | skip)
    · have hi' : i < l.length := by omega
      obtain ⟨c, hc⟩ : ∃ c, l[i]? = some c := ⟨_, List.getElem?_eq_getElem hi'⟩
      obtain ⟨r, hr, hcr⟩ := hget i c hc
      obtain ⟨b, o, cap, rfl, hrow, -, -⟩ := hsl.held (by omega)
      have hr4 := In.length hcr
      repeat (first | refine RunE.seq ?_ | refine RunE.region ?_ | refine RunE.block ?_ | refine RunE.skip ?_)
      refine RunL.val rfl rfl rfl (OpV.indexS Tryd.tOk i rfl rfl rfl rfl hi') ?_
      refine RunL.val rfl rfl rfl (OpV.loadN (cs := r) Tryd.tOk rfl rfl rfl hr4 ((hin.row hr hrow).extE X4)) ?_
      refine RunL.alloc Tryd.tOk rfl rfl rfl fun B6 w5 a5 => ?_
      refine RunL.store (v := .agg r.toArray) Tryd.tOk rfl rfl rfl rfl (by simpa [Value.cells] using hr4) (cs := [.int .i64 0, .int .i64 0, .string ⟨#[]⟩, .slice none 0 0]) a5.at_ (by simp [Value.cells, hr4]) (cells_plain hcr) fun w6 t6 => ?_
      have hB6 := a5.eq
      have X6 : Ext w w6 := (X4.trans a5.ext).write t6.ext (by intro i hi hlt; subst hi; have := X4.size; omega)
      have Z6 : Blk w6 B6 r 83 := by
        have := t6.at_
        rw [show (Value.agg r.toArray).cells.toList = r from rfl, setAt_all _ _ (by simpa using hr4)] at this
        exact this
      clear a5 t6
      repeat (first | refine RunE.seq ?_ | refine RunE.region ?_ | refine RunL.nil ?_)
      refine RunL.val rfl rfl rfl (OpV.loadN (cs := r) Tryd.tOk rfl rfl rfl hr4 Z6.row) ?_
      refine RunL.call rfl rfl rfl (formed_ok c r w6 (In.ext X6 c r hcr) (by have := depth_le (List.mem_of_getElem? hc); omega)) ?_
      rintro _ w7 ⟨rfl, X7⟩
      repeat (first | refine RunL.pureI Tryd.tOk rfl rfl rfl (by (first | exact wr_i64 (by omega) (by omega) | exact wm_i64 (by omega) | exact wq_i64 (by omega) (by omega) (by omega) | rfl)) ?_ | refine RunL.pure Tryd.tOk rfl rfl rfl ?_ | refine RunE.seq ?_ | refine RunE.region ?_ | refine RunL.nil ?_)
      refine RunE.condF rfl rfl ?_
      repeat (first | refine RunL.pureI Tryd.tOk rfl rfl rfl (by (first | exact max_nat _ _ | exact wr_i64 (by omega) (by omega) | exact wm_i64 (by omega) | exact wq_i64 (by omega) (by omega) (by omega) | rfl)) ?_ | refine RunE.region ?_ | refine RunL.nil ?_ | refine RunE.inBlock ?_ | refine RunE.skip ?_)
      refine RunE.weaken (by
        refine Sub.cons ?_ (Sub.cons rfl (Sub.cons rfl (Sub.cons rfl (Sub.nil _))))
        rw [depths_take hc]; rfl) (again (i + 1) _ (by omega) ⟨by omega, X6.trans X7⟩)
    · have hil : i = l.length := by omega
      subst hil
      rw [List.take_length]
      repeat (first | refine RunL.pureI Tryd.tOk rfl rfl rfl (by (first | exact wr_i64 (by omega) (by omega) | exact wm_i64 (by omega) | exact wq_i64 (by omega) (by omega) (by omega) | rfl)) ?_ | refine RunL.pure Tryd.tOk rfl rfl rfl ?_ | refine RunE.seq ?_ | refine RunE.region ?_ | refine RunL.nil ?_ | refine RunE.exit rfl ?_)
      refine RunE.retFn Tryd.func104 (.tmp rfl (.tmp rfl .nil)) ⟨?_, X4⟩
      simp only [oneOr, CV.depth]
      congr 3
termination_by c => SizeOf.sizeOf c
decreasing_by
  have := List.sizeOf_lt_of_mem (List.mem_of_getElem? hc)
  simp only [CV.list.sizeOf_spec]
  omega
end Go.Sg
end
section
/- The program's codec: writing. -/
namespace Go.Sg
open Go.Rn Go.Sha Go.Cod Go.Proofs
attribute [local irreducible] Go.Rn.RunL Go.Rn.RunE Go.Rn.Asy Go.Rn.OpV Go.Rn.OpE Go.Rn.ExecE

def fnV (f : FuncId) : Value := .func (.func f) [].toArray [].toArray
def fnC (f : FuncId) (ca : List Value) : Value := .func (.func f) [].toArray ca.toArray
structure WriterAt (w : World) (Bw Bp : Nat) : Prop where
  tab : Blk w Bw [.nilFunc, fnV 105, fnV 108, fnC 109 [.pointer (some ⟨Bp, 0, none⟩)]] 158
  ptr : Blk w Bp [.pointer (some ⟨Bw, 0, none⟩)] 127
theorem WriterAt.ext {S : Nat → Prop} {w w' : World} {Bw Bp : Nat} (h : WriterAt w Bw Bp) (e : ExtB S w w') (h1 : ¬ S Bw) (h2 : ¬ S Bp) : WriterAt w' Bw Bp := ⟨h.tab.ext e h1, h.ptr.ext e h2⟩

theorem newWriter_ok (w : World) : Rets Tryd.prog 81 [] w fun v w' => ∃ Bw Bp, v = .pointer (some ⟨Bw, 0, none⟩) ∧ WriterAt w' Bw Bp ∧ Ext w w' := by
  refine RetsX.of (nt := 18) Tryd.func81 (by kernel_rfl) rfl rfl (by simp) (by simp only [argEnv]; rfl) ?_
  repeat (first | refine RunL.pure Tryd.tOk rfl rfl rfl ?_ | refine RunE.seq ?_ | refine RunE.region ?_ | refine RunL.nil ?_)
  refine RunL.box rfl rfl rfl fun Bw w1 a1 => ?_
  refine RunL.alloc Tryd.tOk rfl rfl rfl fun Bp w2 a2 => ?_
  refine RunL.store Tryd.tOk rfl rfl rfl rfl rfl (cs := [.pointer none]) a2.at_ rfl rfl fun w3 t3 => ?_
  have hBw := a1.eq
  have hBp := a2.eq
  have z1 := a1.size
  have X3 : Ext w w3 := (a1.ext.trans a2.ext).write t3.ext (by intro i hi hlt; subst hi; omega)
  have P3 : Blk w3 Bp [.pointer (some ⟨Bw, 0, none⟩)] 127 := t3.at_
  have T3 : Blk w3 Bw [.nilFunc, .nilFunc, .nilFunc, .nilFunc] 158 := Blk.ext (Blk.ext (w := w1) (cs := [.nilFunc, .nilFunc, .nilFunc, .nilFunc]) a1.at_ a2.ext id) t3.ext (by omega)
  clear a1 a2 t3
  repeat (first | refine RunL.pure Tryd.tOk rfl rfl rfl ?_ | refine RunL.val rfl rfl rfl (OpV.indexAK Tryd.tOk rfl rfl rfl rfl) ?_ | refine RunL.val rfl rfl rfl (OpV.load1 Tryd.tOk rfl rfl rfl (Blk.cell P3 rfl)) ?_ | refine RunE.seq ?_ | refine RunE.region ?_ | refine RunL.nil ?_)
  refine RunL.store Tryd.tOk rfl rfl rfl rfl rfl T3 rfl rfl fun w4 t4 => ?_
  have X4 : Ext w w4 := X3.write t4.ext (by intro i hi hlt; subst hi; omega)
  have P4 := P3.ext t4.ext (by omega)
  have T4 := t4.at_
  clear T3 P3 X3 t4
  repeat (first | refine RunL.pure Tryd.tOk rfl rfl rfl ?_ | refine RunL.val rfl rfl rfl (OpV.indexAK Tryd.tOk rfl rfl rfl rfl) ?_ | refine RunL.val rfl rfl rfl (OpV.load1 Tryd.tOk rfl rfl rfl (Blk.cell P4 rfl)) ?_ | refine RunE.seq ?_ | refine RunE.region ?_ | refine RunL.nil ?_)
  refine RunL.store Tryd.tOk rfl rfl rfl rfl rfl T4 rfl rfl fun w5 t5 => ?_
  have X5 : Ext w w5 := X4.write t5.ext (by intro i hi hlt; subst hi; omega)
  have P5 := P4.ext t5.ext (by omega)
  have T5 := t5.at_
  clear T4 P4 X4 t5
  repeat (first | refine RunL.pure Tryd.tOk rfl rfl rfl ?_ | refine RunL.val rfl rfl rfl (OpV.indexAK Tryd.tOk rfl rfl rfl rfl) ?_ | refine RunL.val rfl rfl rfl (OpV.load1 Tryd.tOk rfl rfl rfl (Blk.cell P5 rfl)) ?_ | refine RunE.seq ?_ | refine RunE.region ?_ | refine RunL.nil ?_)
  refine RunL.store Tryd.tOk rfl rfl rfl rfl rfl T5 rfl rfl fun w6 t6 => ?_
  have X6 : Ext w w6 := X5.write t6.ext (by intro i hi hlt; subst hi; omega)
  have P6 := P5.ext t6.ext (by omega)
  have T6 := t6.at_
  clear T5 P5 X5 t6
  repeat (first | refine RunL.pure Tryd.tOk rfl rfl rfl ?_ | refine RunL.val rfl rfl rfl (OpV.load1 Tryd.tOk rfl rfl rfl (Blk.cell P6 rfl)) ?_ | refine RunE.seq ?_ | refine RunE.region ?_ | refine RunL.nil ?_)
  exact RunE.retFn Tryd.func81 (.tmp rfl .nil) ⟨Bw, Bp, rfl, ⟨T6, P6⟩, X6⟩

/-- What a writer of a value promises. -/
def Writes (c : CV) (Bw Bp : Nat) (f : Value) : Prop := ∀ (cs : List Value) (w0 w : World) (v : Value) (pre : List UInt8), c.In w0 cs → WriterAt w0 Bw Bp → Ext w0 w → w.ownsRow w0.heap.size 5 1 v pre.length (bytesV pre) →
  pre.length + c.enc.length ≤ 1000000000 → FnV Tryd.prog f [v, .agg cs.toArray] w (fun r w' => w'.ownsRow w0.heap.size 5 1 r (pre ++ c.enc).length (bytesV (pre ++ c.enc)) ∧ Ext w0 w') fun _ _ => False

theorem write_int (n : Int) (Bw Bp : Nat) : Writes (.int n) Bw Bp (fnV 105) := by
  intro cs w0 w v pre h _ X O hlen
  simp only [CV.In] at h
  obtain ⟨hn, d, rfl⟩ := h
  simp only [CV.enc] at hlen
  refine Rets.v (fi := []) (all := [v, .agg #[.int .i64 1, .int .i64 n, .string ⟨#[]⟩, .slice d 0 0]]) ?_ rfl
  refine RetsX.of (nt := 12) Tryd.func105 (by kernel_rfl) rfl rfl (by simp) (by simp only [argEnv]; rfl) ?_
  repeat (first | refine RunE.seq ?_ | refine RunE.region ?_)
  refine RunL.box rfl rfl rfl fun B3 w1 a1 => ?_
  have Z1 : Blk w1 B3 [.int .i64 1, .int .i64 n, .string ⟨#[]⟩, .slice d 0 0] 83 := a1.at_
  have hB3 := a1.eq
  have z0 := X.size
  have z1 := a1.size
  have X1 := X.trans a1.ext
  have O1 := ownsRow_ext O a1.ext (fun _ _ h => h)
  have hob : ∀ k, v.ownBlock = some k → k < w.heap.size := fun k hk => (O.lt k hk).2
  clear a1
  repeat (first | refine RunL.pure Tryd.tOk rfl rfl rfl ?_ | refine RunE.seq ?_ | refine RunL.nil ?_)
  refine RunE.draw (fun k => v.ownBlock = some k) mix ?_
  intro w2 X2
  have O2 := ownsRow_ext O1 X2 (fun _ _ h => h)
  have Z2 := Z1.ext X2 id
  repeat (first | refine Asy.pure Tryd.tOk rfl rfl rfl ?_)
  refine Asy.pre0 (fun u w' => ∃ B, u = .slice (some ⟨B, 0, none⟩) 1 1 ∧ Blk w' B (bytesV [1]) 5) rfl rfl rfl rfl (fun u w' w'' _ e h => ?_) (fun w' _ => ?_) ?_
  · obtain ⟨B, h1, h2⟩ := h; exact ⟨B, h1, h2.ext e id⟩
  · refine OpE.mono (OpE.buildSl Tryd.tOk [.int .u8 1] rfl rfl rfl rfl rfl rfl (by simp [Value.cells])) ?_ fun _ _ h => h
    rintro _ w'' ⟨B, rfl, a⟩; exact ⟨a.ext, B, rfl, a.at_⟩
  refine Asy.wriP 0 (fun u w' => w'.ownsRow w0.heap.size 5 1 u (pre.length + 1) (bytesV pre ++ bytesV [1]) ∧ ∀ k, u.ownBlock = some k → k < w2.heap.size → v.ownBlock = some k) rfl rfl rfl rfl rfl rfl (fun u w' w'' _ e h => ⟨ownsRow_ext h.1 e (fun _ _ h => h), h.2⟩) (fun w' x e hx => ?_) ?_
  · obtain ⟨B, rfl, hB⟩ := hx
    have hz := X1.size
    have hz2 := X2.size
    have hz3 := e.size
    refine OpE.mono (OpE.append' Tryd.tOk rfl rfl rfl rfl rfl rfl (ownsRow_ext O2 e (fun _ _ h => h)) (.row hB.row rfl (Nat.le_refl 1)) rfl (by show _ * 1 ≤ _; omega) (by omega) (by omega)) ?_ fun _ _ h => h
    rintro u w'' ⟨h1, h2, h3⟩
    exact ⟨h2, h1, fun k hk hlt => h3 k hk (by omega)⟩
  repeat (first | refine Asy.pure Tryd.tOk rfl rfl rfl ?_)
  refine Asy.v rfl rfl rfl rfl (fun w' X' => OpV.load1 Tryd.tOk rfl rfl rfl (Blk.cell (Z2.ext X' (by intro hh; have := hob _ hh; omega)) rfl)) ?_
  refine Asy.val rfl rfl rfl rfl (fun _ _ => OpE.keep (OpE.call rfl (unsigned_ok n hn _))) ?_
  refine Asy.tailW (by kernel_rfl) ?_
  rintro w3 x E3 ⟨O3, N3⟩
  simp only [satsAll]
  have hl1 : (bytesV pre ++ bytesV [1]) = bytesV (pre ++ [1]) := by rw [bytesV_append]
  rw [hl1] at O3
  have hz := X1.size
  have hz2 := X2.size
  have hz3 := E3.size
  have Y3 : Ext w0 w3 := (X1.trans X2).write E3 (by intro i hi hlt; have := ownsRow_ge O hi; omega)
  refine RunL.call rfl rfl rfl (numeral_ok x (pre ++ [1]) (zig n) w0.heap.size w3 (by simpa using O3) (zig_lt n hn) (by simp; omega) (by omega)) ?_
  rintro r w4 ⟨O4, E4⟩
  have Y4 : Ext w0 w4 := Y3.write E4 (by intro i hi hlt; have := ownsRow_ge O3 hi; omega)
  repeat (first | refine RunL.pure Tryd.tOk rfl rfl rfl ?_ | refine RunL.nil ?_)
  refine RunE.retFn Tryd.func105 (.tmp rfl .nil) ⟨?_, Y4⟩
  simp only [CV.enc, oneOr]
  simpa using O4

theorem write_text (t : List UInt8) (Bw Bp : Nat) : Writes (.text t) Bw Bp (fnV 108) := by
  intro cs w0 w v pre h _ X O hlen
  simp only [CV.In] at h
  obtain ⟨hn, d, rfl⟩ := h
  simp only [CV.enc] at hlen
  have hst : (strOf t).data.toList = t := by simp [strOf]
  have hsz : (strOf t).size = t.length := rfl
  refine Rets.v (fi := []) (all := [v, .agg #[.int .i64 2, .int .i64 0, .string (strOf t), .slice d 0 0]]) ?_ rfl
  refine RetsX.of (nt := 16) Tryd.func108 (by kernel_rfl) rfl rfl (by simp) (by simp only [argEnv]; rfl) ?_
  repeat (first | refine RunE.seq ?_ | refine RunE.region ?_)
  refine RunL.box rfl rfl rfl fun B3 w1 a1 => ?_
  have Z1 : Blk w1 B3 [.int .i64 2, .int .i64 0, .string (strOf t), .slice d 0 0] 83 := a1.at_
  have hB3 := a1.eq
  have z0 := X.size
  have z1 := a1.size
  have X1 := X.trans a1.ext
  have O1 := ownsRow_ext O a1.ext (fun _ _ h => h)
  have hob : ∀ k, v.ownBlock = some k → k < w.heap.size := fun k hk => (O.lt k hk).2
  clear a1
  repeat (first | refine RunL.pure Tryd.tOk rfl rfl rfl ?_ | refine RunE.seq ?_ | refine RunL.nil ?_)
  refine RunE.draw (fun k => v.ownBlock = some k ∨ w1.heap.size ≤ k) mix ?_
  intro w2 X2
  have hz2 := X2.size
  have O2 := ownsRow_ext O1 X2 (fun _ _ h => h)
  have Z2 := Z1.ext X2 id
  have hS3 : ¬ (v.ownBlock = some B3 ∨ w1.heap.size ≤ B3) := by
    rintro (h | h)
    · have := hob _ h; omega
    · omega
  repeat (first | refine Asy.pure Tryd.tOk rfl rfl rfl ?_)
  refine Asy.pre0 (fun u w' => ∃ B, u = .slice (some ⟨B, 0, none⟩) 1 1 ∧ Blk w' B (bytesV [2]) 5) rfl rfl rfl rfl (fun u w' w'' _ e h => ?_) (fun w' _ => ?_) ?_
  · obtain ⟨B, h1, h2⟩ := h; exact ⟨B, h1, h2.ext e id⟩
  · refine OpE.mono (OpE.buildSl Tryd.tOk [.int .u8 2] rfl rfl rfl rfl rfl rfl (by simp [Value.cells])) ?_ fun _ _ h => h
    rintro _ w'' ⟨B, rfl, a⟩; exact ⟨a.ext, B, rfl, a.at_⟩
  refine Asy.wriP 0 (fun u w' => w'.ownsRow w0.heap.size 5 1 u (pre ++ [2]).length (bytesV (pre ++ [2])) ∧ ∀ k, u.ownBlock = some k → v.ownBlock = some k ∨ w1.heap.size ≤ k) rfl rfl rfl rfl rfl rfl (fun u w' w'' _ e h => ⟨ownsRow_ext h.1 e (fun _ _ h => h), h.2⟩) (fun w' x e hx => ?_) ?_
  · obtain ⟨B, rfl, hB⟩ := hx
    have hz := X1.size
    have hz3 := e.size
    refine OpE.mono (OpE.append' Tryd.tOk rfl rfl rfl rfl rfl rfl (ownsRow_ext O2 e (fun _ _ h => h)) (.row hB.row rfl (Nat.le_refl 1)) rfl (by show _ * 1 ≤ _; omega) (by omega) (by omega)) ?_ fun _ _ h => h
    rintro u w'' ⟨h1, h2, h3⟩
    refine ⟨h2.mono fun k _ hk => .inl hk, ?_, fun k hk => ?_⟩
    · rw [List.length_append, bytesV_append]; exact h1
    · by_cases hlt : k < w'.heap.size
      · exact .inl (h3 k hk hlt)
      · exact .inr (by omega)
  repeat (first | refine Asy.pure Tryd.tOk rfl rfl rfl ?_)
  refine Asy.v rfl rfl rfl rfl (fun w' X' => OpV.load1 Tryd.tOk rfl rfl rfl (Blk.cell (Z2.ext X' hS3) rfl)) ?_
  repeat (first | refine Asy.pureI Tryd.tOk rfl rfl rfl (by (first | exact u64_nat _ (by omega) | exact wr_i64 (by omega) (by omega) | exact wm_i64 (by omega) | exact wq_i64 (by omega) (by omega) (by omega) | rfl)) ?_)
  refine Asy.wri1 (fun u w' => w'.ownsRow w0.heap.size 5 1 u ((pre ++ [2]) ++ num (strOf t).size).length (bytesV ((pre ++ [2]) ++ num (strOf t).size))) rfl rfl rfl rfl rfl (fun u w' w'' _ e h => ownsRow_ext h e (fun _ _ h => h)) (fun w' x e hx => ?_) ?_
  · obtain ⟨O3, N3⟩ := hx
    have hz := X1.size
    have hz3 := e.size
    refine OpE.mono (OpE.call rfl (numeral_ok x (pre ++ [2]) (strOf t).size w0.heap.size w' O3 (by omega) (by simp; omega) (by omega))) ?_ fun _ _ h => h
    rintro u w'' ⟨h1, h2⟩
    exact ⟨h2.mono fun k _ hk => N3 k hk, h1⟩
  repeat (first | refine Asy.pure Tryd.tOk rfl rfl rfl ?_)
  refine Asy.v rfl rfl rfl rfl (fun w' X' => OpV.load1 Tryd.tOk rfl rfl rfl (Blk.cell (Z2.ext X' hS3) rfl)) ?_
  refine Asy.tailW (by kernel_rfl) ?_
  rintro w3 x E3 O3
  simp only [satsAll]
  have hz := X1.size
  have hz3 := E3.size
  have Y3 : Ext w0 w3 := (X1.trans X2).write E3 (by
    rintro i (hi | hi) hlt
    · have := ownsRow_ge O hi; omega
    · omega)
  have hnl := num_le (strOf t).size (by omega)
  refine RunL.ex rfl rfl rfl (OpE.appendStr Tryd.tOk (by kernel_rfl) rfl rfl rfl rfl rfl O3 (by simp; omega) (by omega)) ?_
  rintro r w4 ⟨O4, E4⟩
  have Y4 : Ext w0 w4 := Y3.write E4 (by intro i hi hlt; have := ownsRow_ge O3 hi; omega)
  repeat (first | refine RunL.pure Tryd.tOk rfl rfl rfl ?_ | refine RunL.nil ?_)
  refine RunE.retFn Tryd.func108 (.tmp rfl .nil) ⟨?_, Y4⟩
  simp only [CV.enc, oneOr]
  rw [← bytesV_append, hst, hsz] at O4
  have e : pre ++ [2] ++ num t.length ++ t = pre ++ 2 :: (num t.length ++ t) := by simp
  have e2 : (pre ++ [2] ++ num t.length).length + t.length = (pre ++ [2] ++ num t.length ++ t).length := by simp only [List.length_append]
  rw [e2, e] at O4
  exact O4

def kind : CV → Nat
  | .int _ => 1
  | .text _ => 2
  | .list _ => 3
def writerFn (Bp : Nat) : CV → Value
  | .int _ => fnV 105
  | .text _ => fnV 108
  | .list _ => fnC 109 [.pointer (some ⟨Bp, 0, none⟩)]
theorem kind_lt (c : CV) : kind c < 4 := by cases c <;> simp [kind]
theorem kind_cell {w : World} {c : CV} {r : List Value} (h : c.In w r) : r[0]? = some (.int .i64 (kind c : Int)) := by
  cases c <;> simp only [CV.In] at h
  · obtain ⟨_, _, rfl⟩ := h; rfl
  · obtain ⟨_, _, rfl⟩ := h; rfl
  · obtain ⟨_, _, _, rfl, _⟩ := h; rfl
theorem kind_fn (c : CV) (Bp : Nat) : [.nilFunc, fnV 105, fnV 108, fnC 109 [.pointer (some ⟨Bp, 0, none⟩)]][kind c]? = some (writerFn Bp c) := by cases c <;> rfl

set_option maxHeartbeats 1000000 in
theorem write_list (l : List CV) (Bw Bp : Nat) (ih : ∀ c ∈ l, Writes c Bw Bp (writerFn Bp c)) : Writes (.list l) Bw Bp (fnC 109 [.pointer (some ⟨Bp, 0, none⟩)]) := by
  intro cs w0 w v pre h W0 X O hlen
  simp only [CV.In] at h
  obtain ⟨hn, sv, rows, rfl, hsl, hin⟩ := h
  obtain ⟨hrl, hget⟩ := hin.get
  simp only [CV.enc, List.length_cons, List.length_append] at hlen
  refine RetsX.v (fi := []) (args := [v, .agg #[.int .i64 3, .int .i64 0, .string ⟨#[]⟩, sv]]) (ca := [.pointer (some ⟨Bp, 0, none⟩)]) ?_
  show RetsX Tryd.prog 109 [v, .agg #[.int .i64 3, .int .i64 0, .string ⟨#[]⟩, sv], .pointer (some ⟨Bp, 0, none⟩)] w _ _
  refine RetsX.of (nt := 35) Tryd.func109 (by kernel_rfl) rfl rfl (by simp) (by simp only [argEnv]; rfl) ?_
  repeat (first | refine RunE.seq ?_ | refine RunE.region ?_)
  refine RunL.box rfl rfl rfl fun B4 w1 a1 => ?_
  have Z1 : Blk w1 B4 [.int .i64 3, .int .i64 0, .string ⟨#[]⟩, sv] 83 := a1.at_
  have hB4 := a1.eq
  have z0 := X.size
  have z1 := a1.size
  have X1 := X.trans a1.ext
  have O1 := ownsRow_ext O a1.ext (fun _ _ h => h)
  have hob : ∀ k, v.ownBlock = some k → k < w.heap.size := fun k hk => (O.lt k hk).2
  clear a1
  repeat (first | refine RunL.pure Tryd.tOk rfl rfl rfl ?_ | refine RunE.seq ?_ | refine RunL.nil ?_)
  refine RunE.draw (fun k => v.ownBlock = some k) mix ?_
  intro w2 X2
  have O2 := ownsRow_ext O1 X2 (fun _ _ h => h)
  have Z2 := Z1.ext X2 id
  have hz2 := X2.size
  repeat (first | refine Asy.pure Tryd.tOk rfl rfl rfl ?_)
  refine Asy.pre0 (fun u w' => ∃ B, u = .slice (some ⟨B, 0, none⟩) 1 1 ∧ Blk w' B (bytesV [3]) 5) rfl rfl rfl rfl (fun u w' w'' _ e h => ?_) (fun w' _ => ?_) ?_
  · obtain ⟨B, h1, h2⟩ := h; exact ⟨B, h1, h2.ext e id⟩
  · refine OpE.mono (OpE.buildSl Tryd.tOk [.int .u8 3] rfl rfl rfl rfl rfl rfl (by simp [Value.cells])) ?_ fun _ _ h => h
    rintro _ w'' ⟨B, rfl, a⟩; exact ⟨a.ext, B, rfl, a.at_⟩
  refine Asy.wriP 0 (fun u w' => w'.ownsRow w0.heap.size 5 1 u (pre ++ [3]).length (bytesV (pre ++ [3])) ∧ ∀ k, u.ownBlock = some k → v.ownBlock = some k ∨ w1.heap.size ≤ k) rfl rfl rfl rfl rfl rfl (fun u w' w'' _ e h => ⟨ownsRow_ext h.1 e (fun _ _ h => h), h.2⟩) (fun w' x e hx => ?_) ?_
  · obtain ⟨B, rfl, hB⟩ := hx
    have hz := X1.size
    have hz3 := e.size
    refine OpE.mono (OpE.append' Tryd.tOk rfl rfl rfl rfl rfl rfl (ownsRow_ext O2 e (fun _ _ h => h)) (.row hB.row rfl (Nat.le_refl 1)) rfl (by show _ * 1 ≤ _; omega) (by omega) (by omega)) ?_ fun _ _ h => h
    rintro u w'' ⟨h1, h2, h3⟩
    refine ⟨h2, ?_, fun k hk => ?_⟩
    · rw [List.length_append, bytesV_append]; exact h1
    · by_cases hlt : k < w'.heap.size
      · exact .inl (h3 k hk hlt)
      · exact .inr (by omega)
  repeat (first | refine Asy.pure Tryd.tOk rfl rfl rfl ?_)
  refine Asy.v rfl rfl rfl rfl (fun w' X' => OpV.load1 Tryd.tOk rfl rfl rfl (Blk.cell (Z2.ext X' (by intro hh; have := hob _ hh; omega)) rfl)) ?_
  refine Asy.v rfl rfl rfl rfl (fun w' X' => OpV.lenSl Tryd.tOk rfl rfl hsl) ?_
  repeat (first | refine Asy.pureI Tryd.tOk rfl rfl rfl (by (first | exact u64_nat _ (by omega) | exact wr_i64 (by omega) (by omega) | exact wm_i64 (by omega) | exact wq_i64 (by omega) (by omega) (by omega) | rfl)) ?_)
  refine Asy.tailW (by kernel_rfl) ?_
  rintro w3 x E3 ⟨O3, N3⟩
  simp only [satsAll]
  have hz := X1.size
  have hz3 := E3.size
  have Y3 : Ext w0 w3 := (X1.trans X2).write E3 (by intro i hi hlt; have := ownsRow_ge O hi; omega)
  have Z3 := Z2.ext E3 (by intro hh; have := hob _ hh; omega)
  refine RunL.call rfl rfl rfl (numeral_ok x (pre ++ [3]) l.length w0.heap.size w3 O3 (by omega) (by simp; omega) (by omega)) ?_
  rintro r w4 ⟨O4, E4⟩
  have Y4 : Ext w0 w4 := Y3.write E4 (by intro i hi hlt; have := ownsRow_ge O3 hi; omega)
  have Z4 := Z3.ext E4 (by
    intro hh
    rcases N3 _ hh with h | h
    · have := hob _ h; omega
    · omega)
  repeat (first | refine RunL.pure Tryd.tOk rfl rfl rfl ?_ | refine RunL.val rfl rfl rfl (OpV.load1 Tryd.tOk rfl rfl rfl (Blk.cell Z4 rfl)) ?_ | refine RunE.seq ?_ | refine RunE.region ?_ | refine RunL.nil ?_)
  refine RunL.val rfl rfl rfl (OpV.lenSl Tryd.tOk rfl rfl hsl) ?_
  repeat (first | refine RunL.pureI Tryd.tOk rfl rfl rfl (by (first | exact wr_i64 (by omega) (by omega) | exact wm_i64 (by omega) | exact wq_i64 (by omega) (by omega) (by omega) | rfl)) ?_ | refine RunL.nil ?_ | refine RunE.block ?_)
  have O4' : w4.ownsRow w0.heap.size 5 1 r (pre ++ 3 :: (num l.length ++ encs (l.take 0))).length (bytesV (pre ++ 3 :: (num l.length ++ encs (l.take 0)))) := by simpa [encs] using O4
  refine RunE.loop (ι := Nat × Value) (fun x => [(0, x.2), (2, .pointer (some ⟨Bp, 0, none⟩)), (17, sv), (18, .int .i64 (l.length : Int)), (19, .int .i64 (x.1 : Int))])
    (fun x w' => x.1 ≤ l.length ∧ Ext w0 w' ∧ w'.ownsRow w0.heap.size 5 1 x.2 (pre ++ 3 :: (num l.length ++ encs (l.take x.1))).length (bytesV (pre ++ 3 :: (num l.length ++ encs (l.take x.1))))) (fun x => l.length - x.1) (0, r) (by repeat (first | exact Sub.nil _ | refine Sub.cons rfl ?_)) ⟨by simp, Y4, O4'⟩ ?_
  clear O4 O4' Y4 Z4 E4 Y3 Z3 O3 E3 N3
  rintro ⟨i, u⟩ w5 ⟨hi, X5, O5⟩ again
  simp only at hi O5 again ⊢
  repeat (first | refine RunL.pure Tryd.tOk rfl rfl rfl ?_ | refine RunE.seq ?_ | refine RunE.region ?_ | refine RunL.nil ?_)
  refine RunE.cond rfl (fun hlt => ?_) (fun hlt => ?_) <;> (first | replace hlt := of_decide_eq_true hlt | replace hlt := of_decide_eq_false hlt | replace hlt := beq_iff_eq.1 hlt | replace hlt := beq_eq_false_iff_ne.1 hlt | replace hlt := bne_iff_ne.1 hlt | replace hlt := bne_eq_false_iff_eq.1 hlt | skip)
  · have hi' : i < l.length := by omega
    obtain ⟨c, hc⟩ : ∃ c, l[i]? = some c := ⟨_, List.getElem?_eq_getElem hi'⟩
    obtain ⟨q, hq, hcq⟩ := hget i c hc
    obtain ⟨b, o, cap, rfl, hrow, -, -⟩ := hsl.held (by omega)
    have hq4 := In.length hcq
    have hle := encs_le hc
    repeat (first | refine RunE.seq ?_ | refine RunE.region ?_ | refine RunE.block ?_ | refine RunE.skip ?_)
    refine RunL.val rfl rfl rfl (OpV.indexS Tryd.tOk i rfl rfl rfl rfl hi') ?_
    refine RunL.val rfl rfl rfl (OpV.loadN (cs := q) Tryd.tOk rfl rfl rfl hq4 ((hin.row hq hrow).extE X5)) ?_
    refine RunL.alloc Tryd.tOk rfl rfl rfl fun B7 w6 a6 => ?_
    refine RunL.store (v := .agg q.toArray) Tryd.tOk rfl rfl rfl rfl (by simpa [Value.cells] using hq4) (cs := [.int .i64 0, .int .i64 0, .string ⟨#[]⟩, .slice none 0 0]) a6.at_ (by simp [Value.cells, hq4]) (cells_plain hcq) fun w7 t7 => ?_
    have hB7 := a6.eq
    have X7 : Ext w0 w7 := (X5.trans a6.ext).write t7.ext (by intro i hi hlt; subst hi; have := X5.size; omega)
    have O7 := ownsRow_ext (ownsRow_ext O5 a6.ext (fun _ _ h => h)) t7.ext (by intro k hk e; have := (O5.lt k hk).2; omega)
    have Z7 : Blk w7 B7 q 83 := by
      have := t7.at_
      rw [show (Value.agg q.toArray).cells.toList = q from rfl, setAt_all _ _ (by simpa using hq4)] at this
      exact this
    clear a6 t7
    repeat (first | refine RunL.nil ?_)
    refine RunE.draw (fun _ => False) mix ?_
    intro w8 X8
    have X9 := X7.trans X8
    have W8 := W0.ext X9 id id
    have Z8 := Z7.ext X8 id
    refine Asy.v rfl rfl rfl rfl (fun _ X' => OpV.load1 Tryd.tOk rfl rfl rfl (Blk.cell (W8.ptr.ext X' id) rfl)) ?_
    repeat (first | refine Asy.pure Tryd.tOk rfl rfl rfl ?_)
    refine Asy.v rfl rfl rfl rfl (fun _ X' => OpV.load1 (v := .int .i64 (kind c : Int)) Tryd.tOk rfl rfl rfl (Blk.cell (Z8.ext X' id) (kind_cell hcq))) ?_
    repeat (first | refine Asy.pure Tryd.tOk rfl rfl rfl ?_)
    refine Asy.v rfl rfl rfl rfl (fun _ _ => OpV.indexA1 Tryd.tOk (kind c) rfl rfl rfl rfl (kind_lt c)) ?_
    repeat (first | refine Asy.pure Tryd.tOk rfl rfl rfl ?_)
    refine Asy.v rfl rfl rfl rfl (fun _ X' => OpV.load1 (v := writerFn Bp c) Tryd.tOk rfl rfl rfl (Blk.cell (W8.tab.ext X' id) (by rw [Nat.zero_add]; exact kind_fn c Bp))) ?_
    repeat (first | refine Asy.pure Tryd.tOk rfl rfl rfl ?_)
    refine Asy.v rfl rfl rfl rfl (fun _ X' => OpV.loadN (cs := q) Tryd.tOk rfl rfl rfl hq4 (Z8.ext X' id).row) ?_
    refine Asy.tail (by kernel_rfl) ?_
    intro w9 X10
    simp only [satsAll]
    refine RunL.callV (fv := writerFn Bp c) rfl rfl rfl rfl (ih c (List.mem_of_getElem? hc) q w0 w9 u _ hcq W0 (X9.trans X10) (ownsRow_ext O7 (X8.trans X10) (fun _ _ h => h)) (by simp; omega)) (fun _ _ _ h => h.elim) ?_
    rintro u2 w10 ⟨O10, X11⟩
    repeat (first | refine RunL.pureI Tryd.tOk rfl rfl rfl (by (first | exact wr_i64 (by omega) (by omega) | exact wm_i64 (by omega) | exact wq_i64 (by omega) (by omega) (by omega) | rfl)) ?_ | refine RunL.pure Tryd.tOk rfl rfl rfl ?_ | refine RunE.region ?_ | refine RunL.nil ?_ | refine RunE.inBlock ?_)
    refine RunE.weaken (by repeat (first | exact Sub.nil _ | refine Sub.cons rfl ?_)) (again (i + 1, u2) _ (by simp only; omega) ⟨by simp only; omega, X11, ?_⟩)
    simp only
    have e : pre ++ 3 :: (num l.length ++ encs (l.take (i + 1))) = (pre ++ 3 :: (num l.length ++ encs (l.take i))) ++ c.enc := by rw [encs_take hc]; simp
    rw [e]; exact O10
  · have hil : i = l.length := by omega
    subst hil
    repeat (first | refine RunL.pure Tryd.tOk rfl rfl rfl ?_ | refine RunE.seq ?_ | refine RunE.region ?_ | refine RunL.nil ?_ | refine RunE.exit rfl ?_)
    refine RunE.retFn Tryd.func109 (.tmp rfl .nil) ⟨?_, X5⟩
    simp only [oneOr, CV.enc]
    rw [List.take_length] at O5
    exact O5

theorem write_ok (Bw Bp : Nat) : ∀ c : CV, Writes c Bw Bp (writerFn Bp c)
  | .int n => write_int n Bw Bp
  | .text t => write_text t Bw Bp
  | .list l => write_list l Bw Bp fun c _ => write_ok Bw Bp c
end Go.Sg
end
section
/- The program's codec: Check, Encode. -/
namespace Go.Sg
open Go.Rn Go.Sha Go.Cod Go.Proofs
attribute [local irreducible] Go.Rn.RunL Go.Rn.RunE Go.Rn.Asy Go.Rn.OpV Go.Rn.OpE Go.Rn.ExecE

theorem check_ok (c : CV) (cs : List Value) (w : World) (h : c.In w cs) (hd : c.depth ≤ 16) : Rets Tryd.prog 80 [.agg cs.toArray] w fun v w' => v = .int .i64 0 ∧ Ext w w' := by
  have h4 := In.length h
  refine RetsX.of (nt := 16) Tryd.func80 (by kernel_rfl) rfl rfl (by simp) (by simp only [argEnv]; rfl) ?_
  repeat (first | refine RunE.seq ?_ | refine RunE.region ?_)
  refine RunL.box rfl rfl rfl fun B1 w1 a1 => ?_
  have Z1 : Blk w1 B1 cs 83 := a1.at_
  repeat (first | refine RunL.pureI Tryd.tOk rfl rfl rfl (by (first | exact wr_i64 (by omega) (by omega) | exact wm_i64 (by omega) | exact wq_i64 (by omega) (by omega) (by omega) | rfl)) ?_ | refine RunE.seq ?_ | refine RunE.region ?_ | refine RunL.nil ?_)
  refine RunL.val rfl rfl rfl (OpV.loadN (cs := cs) Tryd.tOk rfl rfl rfl h4 Z1.row) ?_
  refine RunL.call rfl rfl rfl (formed_ok c cs w1 (In.ext a1.ext c cs h) (by omega)) ?_
  rintro _ w2 ⟨rfl, X2⟩
  repeat (first | refine RunL.pureI Tryd.tOk rfl rfl rfl (by (first | exact wr_i64 (by omega) (by omega) | exact wm_i64 (by omega) | exact wq_i64 (by omega) (by omega) (by omega) | rfl)) ?_ | refine RunL.pure Tryd.tOk rfl rfl rfl ?_ | refine RunE.seq ?_ | refine RunE.region ?_ | refine RunL.nil ?_ | refine RunE.block ?_)
  refine RunE.condF rfl rfl ?_
  repeat (first | refine RunL.pureI Tryd.tOk rfl rfl rfl (by (first | exact wr_i64 (by omega) (by omega) | exact wm_i64 (by omega) | exact wq_i64 (by omega) (by omega) (by omega) | rfl)) ?_ | refine RunL.pure Tryd.tOk rfl rfl rfl ?_ | refine RunE.seq ?_ | refine RunE.region ?_ | refine RunL.nil ?_)
  refine RunE.condF rfl (decide_eq_false (by omega)) ?_
  repeat (first | refine RunL.pureI Tryd.tOk rfl rfl rfl (by (first | exact wr_i64 (by omega) (by omega) | exact wm_i64 (by omega) | exact wq_i64 (by omega) (by omega) (by omega) | rfl)) ?_ | refine RunE.seq ?_ | refine RunE.region ?_ | refine RunL.nil ?_ | refine RunE.inBlock ?_ | refine RunE.skip ?_)
  exact RunE.retFn Tryd.func80 (.tmp rfl .nil) ⟨rfl, a1.ext.trans X2⟩

theorem encode_ok (c : CV) (cs : List Value) (w : World) (h : c.In w cs) (hd : c.depth ≤ 16) (hl : c.enc.length ≤ 1000000000) :
    Rets Tryd.prog 45 [.agg cs.toArray] w fun v w' => ∃ r, v = .tuple #[r, .int .i64 0] ∧ w'.ownsRow w.heap.size 5 1 r c.enc.length (bytesV c.enc) ∧ Ext w w' := by
  have h4 := In.length h
  refine RetsX.of (nt := 19) Tryd.func45 (by kernel_rfl) rfl rfl (by simp) (by simp only [argEnv]; rfl) ?_
  repeat (first | refine RunE.seq ?_ | refine RunE.region ?_)
  refine RunL.box rfl rfl rfl fun B1 w1 a1 => ?_
  have Z1 : Blk w1 B1 cs 83 := a1.at_
  have h1 := In.ext a1.ext c cs h
  repeat (first | refine RunL.pureI Tryd.tOk rfl rfl rfl (by (first | exact wr_i64 (by omega) (by omega) | exact wm_i64 (by omega) | exact wq_i64 (by omega) (by omega) (by omega) | rfl)) ?_ | refine RunL.pure Tryd.tOk rfl rfl rfl ?_ | refine RunE.seq ?_ | refine RunE.region ?_ | refine RunL.nil ?_)
  refine RunL.val rfl rfl rfl (OpV.loadN (cs := cs) Tryd.tOk rfl rfl rfl h4 Z1.row) ?_
  refine RunL.call rfl rfl rfl (check_ok c cs w1 h1 hd) ?_
  rintro _ w2 ⟨rfl, X2⟩
  repeat (first | refine RunL.pureI Tryd.tOk rfl rfl rfl (by (first | exact wr_i64 (by omega) (by omega) | exact wm_i64 (by omega) | exact wq_i64 (by omega) (by omega) (by omega) | rfl)) ?_ | refine RunL.pure Tryd.tOk rfl rfl rfl ?_ | refine RunE.seq ?_ | refine RunE.region ?_ | refine RunL.nil ?_)
  refine RunE.condF rfl rfl ?_
  repeat (first | refine RunE.seq ?_ | refine RunE.skip ?_)
  refine RunE.draw (fun _ => False) mix ?_
  intro w3 X3
  have Y3 := X2.trans X3
  have Z3 := Z1.ext Y3 id
  refine Asy.sat0 (fun u w' => ∃ Bw Bp, u = .pointer (some ⟨Bw, 0, none⟩) ∧ WriterAt w' Bw Bp) rfl rfl rfl rfl (fun u w' w'' _ e h => ?_) (fun w' _ => ?_) ?_
  · obtain ⟨Bw, Bp, h1, h2⟩ := h; exact ⟨Bw, Bp, h1, h2.ext e id id⟩
  · refine OpE.mono (OpE.call rfl (newWriter_ok w')) ?_ fun _ _ h => h
    rintro u w'' ⟨Bw, Bp, h1, h2, h3⟩; exact ⟨h3, Bw, Bp, h1, h2⟩
  repeat (first | refine Asy.pure Tryd.tOk rfl rfl rfl ?_)
  refine Asy.v rfl rfl rfl rfl (fun _ X' => OpV.load1 (v := .int .i64 (kind c : Int)) Tryd.tOk rfl rfl rfl (Blk.cell (Z3.ext X' id) (kind_cell h))) ?_
  refine Asy.sat1 0 (fun u w' => ∃ Bw Bp, u = .pointer (some ⟨Bw, 0, none⟩) ∧ WriterAt w' Bw Bp) rfl rfl rfl rfl rfl rfl (fun u w' w'' _ e h => ?_) (fun w' x _ hx => ?_) ?_
  · obtain ⟨Bw, Bp, h1, h2⟩ := h; exact ⟨Bw, Bp, h1, h2.ext e id id⟩
  · obtain ⟨Bw, Bp, rfl, h2⟩ := hx
    refine OpE.mono (OpV.e (evalOp_v Tryd.tOk rfl)) ?_ fun _ _ h => h
    rintro u w'' ⟨rfl, rfl⟩; exact ⟨.refl _ _, Bw, Bp, rfl, h2⟩
  refine Asy.sat1 0 (fun u w' => ∃ Bw Bp, u = .pointer (some ⟨Bw, kind c, none⟩) ∧ WriterAt w' Bw Bp) rfl rfl rfl rfl rfl rfl (fun u w' w'' _ e h => ?_) (fun w' x _ hx => ?_) ?_
  · obtain ⟨Bw, Bp, h1, h2⟩ := h; exact ⟨Bw, Bp, h1, h2.ext e id id⟩
  · obtain ⟨Bw, Bp, rfl, h2⟩ := hx
    refine OpE.mono (OpV.e (OpV.indexA1 Tryd.tOk (kind c) rfl rfl rfl rfl (kind_lt c))) ?_ fun _ _ h => h
    rintro u w'' ⟨rfl, rfl⟩; exact ⟨.refl _ _, Bw, Bp, by rw [Nat.zero_add], h2⟩
  refine Asy.sat1 0 (fun u w' => ∃ Bw Bp, u = .pointer (some ⟨Bw, kind c, none⟩) ∧ WriterAt w' Bw Bp) rfl rfl rfl rfl rfl rfl (fun u w' w'' _ e h => ?_) (fun w' x _ hx => ?_) ?_
  · obtain ⟨Bw, Bp, h1, h2⟩ := h; exact ⟨Bw, Bp, h1, h2.ext e id id⟩
  · obtain ⟨Bw, Bp, rfl, h2⟩ := hx
    refine OpE.mono (OpV.e (evalOp_v Tryd.tOk rfl)) ?_ fun _ _ h => h
    rintro u w'' ⟨rfl, rfl⟩; exact ⟨.refl _ _, Bw, Bp, rfl, h2⟩
  refine Asy.sat1 0 (fun u w' => ∃ Bw Bp, u = writerFn Bp c ∧ WriterAt w' Bw Bp) rfl rfl rfl rfl rfl rfl (fun u w' w'' _ e h => ?_) (fun w' x _ hx => ?_) ?_
  · obtain ⟨Bw, Bp, h1, h2⟩ := h; exact ⟨Bw, Bp, h1, h2.ext e id id⟩
  · obtain ⟨Bw, Bp, rfl, h2⟩ := hx
    refine OpE.mono (OpV.e (OpV.load1 (v := writerFn Bp c) Tryd.tOk rfl rfl rfl (Blk.cell h2.tab (kind_fn c Bp)))) ?_ fun _ _ h => h
    rintro u w'' ⟨rfl, rfl⟩; exact ⟨.refl _ _, Bw, Bp, rfl, h2⟩
  refine Asy.v rfl rfl rfl rfl (fun _ X' => OpV.loadN (cs := cs) Tryd.tOk rfl rfl rfl h4 (Z3.ext X' id).row) ?_
  refine Asy.tail (by kernel_rfl) ?_
  intro w4 X4
  simp only [satsAll]
  rintro x ⟨Bw, Bp, rfl, W4⟩ _ _ _ _ _ _ _ _
  have Y4 := (a1.ext.trans Y3).trans X4
  refine RunL.callV (fv := writerFn Bp c) rfl rfl rfl rfl (write_ok Bw Bp c cs w4 w4 (.slice none 0 0) [] (In.ext Y4 c cs h) W4 (.refl _ _) (World.ownsRow_nil _ _ _ _) (by simpa using hl)) (fun _ _ _ h => h.elim) ?_
  rintro r w5 ⟨O5, X5⟩
  repeat (first | refine RunL.pureI Tryd.tOk rfl rfl rfl (by (first | exact wr_i64 (by omega) (by omega) | exact wm_i64 (by omega) | exact wq_i64 (by omega) (by omega) (by omega) | rfl)) ?_ | refine RunL.pure Tryd.tOk rfl rfl rfl ?_ | refine RunL.nil ?_)
  refine RunE.retFn Tryd.func45 (.tmp rfl (.tmp rfl .nil)) ⟨r, rfl, ?_, Y4.trans X5⟩
  rw [List.nil_append] at O5
  exact ownsRow_base O5 Y4.size
end Go.Sg
end
section
/- The document's codec: numbers. -/
namespace Go.Rn
section
variable {P : Program} {c : Ctx} {k : List Item} {Q : Out → Act → World → Prop} {w0 : World} {n : Nat} {ds : List Deferred} {env : Env} {S : Nat → Prop} {sats pres : List (Nat × Pred)} {ph : Option (Option Nat × Pred)} {mu : List Bool}
variable {l : List Oper} {d : Tmp} {op : Op} {ty : TypeId} {pos : String} {after : Array Edge} {guard : Option (Nat × Bool)} {rest : List Oper}
/-- The first that writes; it reads two values whose laws end with it. -/
theorem Asy.wriPP (i j : Nat) {t s : Nat} {U U' : Pred} (V : Pred) (hi : pres[i]? = some (t, U)) (hl : (Oper.looksAt l.toArray ⟨some d, op, ty, pos, after, guard⟩).contains t = true)
    (hj : pres[j]? = some (s, U')) (hl' : (Oper.looksAt l.toArray ⟨some d, op, ty, pos, after, guard⟩).contains s = true)
    (hw : wantE l env ⟨some d, op, ty, pos, after, guard⟩ = some true) (hdst : Nat.blt d n = true) (hd : isDefer op = false) (hs : isSel op = false)
    (hV : ∀ v w' w'', ExtB S w0 w' → Ext w' w'' → V v w' → V v w'')
    (h : ∀ w' x y, Ext w0 w' → U x w' → U' y w' → OpE P ((t, x) :: (s, y) :: env) w' ⟨some d, op, ty, pos, after, guard⟩ (fun u w'' => ExtB S w' w'' ∧ V u w'') fun _ _ => False)
    (h' : Asy P c n ds S w0 l k Q rest ⟨env.del (some d), sats, some (some d, V), true :: mu, pres⟩) : Asy P c n ds S w0 l k Q (⟨some d, op, ty, pos, after, guard⟩ :: rest) ⟨env, sats, none, mu, pres⟩ :=
  .step (e := .wri V) ⟨hdst, hs, hw, hd, hV, fun w' ρ hx hg hp => h w' _ _ hx (hp rfl t U (List.mem_of_getElem? hi) (by simpa using hl)) (hp rfl s U' (List.mem_of_getElem? hj) (by simpa using hl')) ρ (ev_cons (ev_cons hg.ev rfl) rfl)⟩ h'
end
end Go.Rn
namespace Go.Sg
open Go.Rn Go.Sha Go.Cod Go.Proofs
attribute [local irreducible] Go.Rn.RunL Go.Rn.RunE Go.Rn.Asy Go.Rn.OpV Go.Rn.OpE Go.Rn.ExecE

theorem nat_mod128 (n : Nat) : ((n : Int)).tmod 128 = ((n % 128 : Nat) : Int) := by rw [Int.tmod_eq_emod_of_nonneg (by omega)]; omega
theorem nat_div128 (n : Nat) (h : n < 18446744073709551616) : IntKind.u64.wrap (((n : Int)).tdiv 128) = ((n / 128 : Nat) : Int) := by
  rw [Int.tdiv_eq_ediv_of_nonneg (by omega), wr_u64 (by omega) (by omega)]; omega
theorem nat_add128 (n : Nat) (h : n < 128) : IntKind.u64.wrap ((n : Int) + 128) = ((n + 128 : Nat) : Int) := by
  rw [wr_u64 (by omega) (by omega)]; omega

theorem rnumeral_ok (u : Nat) (w : World) (hu : u < 18446744073709551616) :
    Rets Tryd.prog 135 [.int .u64 (u : Int)] w fun r w' => w'.ownsRow w.heap.size 5 1 r (num u).length (bytesV (num u)) ∧ Ext w w' := by
  refine RetsX.of (nt := 17) Tryd.func135 (by kernel_rfl) rfl rfl (by simp) (by simp only [argEnv]; rfl) ?_
  repeat (first | refine RunL.pureI Tryd.tOk rfl rfl rfl (by (first | exact wr_i64 (by omega) (by omega) | exact wm_i64 (by omega) | exact wq_i64 (by omega) (by omega) (by omega) | rfl)) ?_ | refine RunL.pure Tryd.tOk rfl rfl rfl ?_ | refine RunE.seq ?_ | refine RunE.region ?_ | refine RunL.nil ?_)
  refine RunE.cond rfl (fun hs => ?_) (fun hs => ?_) <;> (first | replace hs := of_decide_eq_true hs | replace hs := of_decide_eq_false hs | replace hs := beq_iff_eq.1 hs | replace hs := beq_eq_false_iff_ne.1 hs | replace hs := bne_iff_ne.1 hs | replace hs := bne_eq_false_iff_eq.1 hs | skip)
  · have hu' : u < 128 := by omega
    repeat (first | refine RunL.pureI Tryd.tOk rfl rfl rfl (by (first | exact u8_of_nat _ | exact wr_i64 (by omega) (by omega) | exact wm_i64 (by omega) | exact wq_i64 (by omega) (by omega) (by omega) | rfl)) ?_ | refine RunE.seq ?_ | refine RunE.region ?_)
    refine RunL.ex rfl rfl rfl (OpE.buildSl Tryd.tOk [.int .u8 ((UInt8.ofNat u).toNat : Int)] rfl rfl rfl rfl rfl rfl (by simp [Value.cells])) ?_
    rintro _ w2 ⟨B, rfl, a2⟩
    repeat (first | refine RunL.pure Tryd.tOk rfl rfl rfl ?_ | refine RunL.nil ?_)
    refine RunE.retFn Tryd.func135 (.tmp rfl .nil) ⟨?_, a2.ext⟩
    simp only [oneOr]
    rw [num_small hu']
    exact ownsRow_added a2 (by have := a2.eq; omega) rfl (by decide)
  · have hu' : ¬ u < 128 := by omega
    have hd : u / 128 < 18446744073709551616 := by omega
    repeat (first | refine RunL.pureI Tryd.tOk rfl rfl rfl (by (first | exact nat_mod128 _ | exact nat_add128 _ (by omega) | exact u8_of_nat _ | exact wr_i64 (by omega) (by omega) | exact wm_i64 (by omega) | exact wq_i64 (by omega) (by omega) (by omega) | rfl)) ?_ | refine RunE.seq ?_ | refine RunE.region ?_ | refine RunE.skip ?_)
    refine RunL.ex rfl rfl rfl (OpE.buildSl Tryd.tOk [.int .u8 ((UInt8.ofNat (u % 128 + 128)).toNat : Int)] rfl rfl rfl rfl rfl rfl (by simp [Value.cells])) ?_
    rintro _ w2 ⟨B, rfl, a2⟩
    have O2 : w2.ownsRow w.heap.size 5 1 (.slice (some ⟨B, 0, none⟩) 1 1) 1 [.int .u8 ((UInt8.ofNat (u % 128 + 128)).toNat : Int)] := ownsRow_added a2 (by have := a2.eq; omega) rfl (by decide)
    have hB := a2.eq
    have z2 := a2.size
    have X2 := a2.ext
    clear a2
    repeat (first | refine RunL.pureI Tryd.tOk rfl rfl rfl (by (first | exact nat_div128 _ hu | exact wr_i64 (by omega) (by omega) | exact wm_i64 (by omega) | exact wq_i64 (by omega) (by omega) (by omega) | rfl)) ?_)
    refine RunL.call rfl rfl rfl (rnumeral_ok (u / 128) w2 hd) ?_
    rintro r w3 ⟨O3, X3⟩
    have z3 := X3.size
    have hl := num_le (u / 128) hd
    refine RunL.ex rfl rfl rfl (OpE.append' Tryd.tOk rfl rfl rfl rfl rfl rfl (ownsRow_ext O2 X3 (fun _ _ h => h)) (isSl_own O3) (bytesV_plain _) (by show _ * 1 ≤ _; omega) (by omega) (by omega)) ?_
    rintro v4 w4 ⟨O4, E4, -⟩
    repeat (first | refine RunL.pure Tryd.tOk rfl rfl rfl ?_ | refine RunL.nil ?_)
    refine RunE.retFn Tryd.func135 (.tmp rfl .nil) ⟨?_, (X2.trans X3).write E4 (by intro i hi hlt; have := ownsRow_ge O2 hi; omega)⟩
    simp only [oneOr]
    rw [num_big hu', List.length_cons, Nat.add_comm]
    exact O4
termination_by u
decreasing_by omega

theorem runsigned_ok (n : Int) (w : World) (h : -9223372036854775808 ≤ n ∧ n < 9223372036854775808) : Rets Tryd.prog 136 [.int .i64 n] w fun r w' => r = .int .u64 (zig n : Int) ∧ w' = w := by
  refine RetsX.of (nt := 14) Tryd.func136 (by kernel_rfl) rfl rfl (by simp) (by simp only [argEnv]; rfl) ?_
  repeat (first | refine RunL.pureI Tryd.tOk rfl rfl rfl (by (first | exact wr_i64 (by omega) (by omega) | exact wm_i64 (by omega) | exact wq_i64 (by omega) (by omega) (by omega) | rfl)) ?_ | refine RunL.pure Tryd.tOk rfl rfl rfl ?_ | refine RunE.seq ?_ | refine RunE.region ?_ | refine RunL.nil ?_)
  refine RunE.cond rfl (fun hn => ?_) (fun hn => ?_) <;> (first | replace hn := of_decide_eq_true hn | replace hn := of_decide_eq_false hn | replace hn := beq_iff_eq.1 hn | replace hn := beq_eq_false_iff_ne.1 hn | replace hn := bne_iff_ne.1 hn | replace hn := bne_eq_false_iff_eq.1 hn | skip)
  · have hz : (zig n : Int) = 2 * n := by unfold zig; split <;> omega
    repeat (first | refine RunL.pureI Tryd.tOk rfl rfl rfl (by (first | exact wr_u64 (by omega) (by omega) | exact wr_i64 (by omega) (by omega) | exact wm_i64 (by omega) | exact wq_i64 (by omega) (by omega) (by omega) | rfl)) ?_ | refine RunE.seq ?_ | refine RunE.region ?_ | refine RunL.nil ?_)
    exact RunE.retFn Tryd.func136 (.tmp rfl .nil) ⟨by simp only [oneOr]; rw [hz], rfl⟩
  · have hz : (zig n : Int) = 2 * -(n + 1) + 1 := by unfold zig; split <;> omega
    repeat (first | refine RunL.pureI Tryd.tOk rfl rfl rfl (by (first | exact wr_u64 (by omega) (by omega) | exact wr_i64 (by omega) (by omega) | exact wm_i64 (by omega) | exact wq_i64 (by omega) (by omega) (by omega) | rfl)) ?_ | refine RunE.seq ?_ | refine RunE.region ?_ | refine RunL.nil ?_ | refine RunE.skip ?_)
    exact RunE.retFn Tryd.func136 (.tmp rfl .nil) ⟨by simp only [oneOr]; rw [hz], rfl⟩
end Go.Sg
end
section
/- The document's codec: forms. -/
namespace Go.Sg
open Go.Rn Go.Sha Go.Cod Go.Proofs
attribute [local irreducible] Go.Rn.RunL Go.Rn.RunE Go.Rn.Asy Go.Rn.OpV Go.Rn.OpE Go.Rn.ExecE

set_option maxHeartbeats 2000000 in
theorem rformed_ok : ∀ (c : CV) (cs : List Value) (w : World), c.In w cs → Rets Tryd.prog 133 [.agg cs.toArray] w fun v w' => v = .bool true ∧ Ext w w'
  | .int n, cs, w, h => by
    simp only [CV.In] at h
    obtain ⟨hn, d, rfl⟩ := h
    refine RetsX.of (nt := 52) Tryd.func133 (by kernel_rfl) rfl rfl (by simp) (by simp only [argEnv]; rfl) ?_
    repeat (first | refine RunE.seq ?_ | refine RunE.region ?_)
    refine RunL.box rfl rfl rfl fun B1 w1 a1 => ?_
    have Z1 : Blk w1 B1 [.int .i64 1, .int .i64 n, .string ⟨#[]⟩, .slice d 0 0] 83 := a1.at_
    repeat (first | refine RunL.pure Tryd.tOk rfl rfl rfl ?_ | refine RunL.val rfl rfl rfl (OpV.load1 Tryd.tOk rfl rfl rfl (Blk.cell Z1 rfl)) ?_ | refine RunE.seq ?_ | refine RunE.region ?_ | refine RunL.nil ?_ | refine RunE.block ?_)
    refine RunE.condT rfl rfl ?_
    repeat (first | refine RunL.pureB Tryd.tOk _ rfl rfl rfl (by with_reducible exact beq_refl_str _) ?_ | refine RunL.pureI Tryd.tOk rfl rfl rfl (by (first | exact wr_i64 (by omega) (by omega) | exact wm_i64 (by omega) | exact wq_i64 (by omega) (by omega) (by omega) | rfl)) ?_ | refine RunL.pure Tryd.tOk rfl rfl rfl ?_ | refine RunL.val rfl rfl rfl (OpV.load1 Tryd.tOk rfl rfl rfl (Blk.cell Z1 rfl)) ?_ | refine RunE.seq ?_ | refine RunE.region ?_ | refine RunL.nil ?_)
    exact RunE.retFn Tryd.func133 (.tmp rfl .nil) ⟨rfl, a1.ext⟩
  | .text s, cs, w, h => by
    simp only [CV.In] at h
    obtain ⟨hn, d, rfl⟩ := h
    refine RetsX.of (nt := 52) Tryd.func133 (by kernel_rfl) rfl rfl (by simp) (by simp only [argEnv]; rfl) ?_
    repeat (first | refine RunE.seq ?_ | refine RunE.region ?_)
    refine RunL.box rfl rfl rfl fun B1 w1 a1 => ?_
    have Z1 : Blk w1 B1 [.int .i64 2, .int .i64 0, .string (strOf s), .slice d 0 0] 83 := a1.at_
    repeat (first | refine RunL.pure Tryd.tOk rfl rfl rfl ?_ | refine RunL.val rfl rfl rfl (OpV.load1 Tryd.tOk rfl rfl rfl (Blk.cell Z1 rfl)) ?_ | refine RunE.seq ?_ | refine RunE.region ?_ | refine RunL.nil ?_ | refine RunE.block ?_)
    refine RunE.condF rfl rfl ?_
    repeat (first | refine RunL.pure Tryd.tOk rfl rfl rfl ?_ | refine RunE.seq ?_ | refine RunE.region ?_ | refine RunL.nil ?_)
    refine RunE.condT rfl rfl ?_
    repeat (first | refine RunL.pureI Tryd.tOk rfl rfl rfl (by (first | exact wr_i64 (by omega) (by omega) | exact wm_i64 (by omega) | exact wq_i64 (by omega) (by omega) (by omega) | rfl)) ?_ | refine RunL.pure Tryd.tOk rfl rfl rfl ?_ | refine RunL.val rfl rfl rfl (OpV.load1 Tryd.tOk rfl rfl rfl (Blk.cell Z1 rfl)) ?_ | refine RunE.seq ?_ | refine RunE.region ?_ | refine RunL.nil ?_)
    exact RunE.retFn Tryd.func133 (.tmp rfl .nil) ⟨rfl, a1.ext⟩
  | .list l, cs, w, h => by
    simp only [CV.In] at h
    obtain ⟨hl, v, rows, rfl, hsl, hin⟩ := h
    obtain ⟨hrl, hget⟩ := hin.get
    refine RetsX.of (nt := 52) Tryd.func133 (by kernel_rfl) rfl rfl (by simp) (by simp only [argEnv]; rfl) ?_
    repeat (first | refine RunE.seq ?_ | refine RunE.region ?_)
    refine RunL.box rfl rfl rfl fun B1 w1 a1 => ?_
    have Z1 : Blk w1 B1 [.int .i64 3, .int .i64 0, .string ⟨#[]⟩, v] 83 := a1.at_
    have hB1 := a1.eq
    have X1 := a1.ext
    clear a1
    repeat (first | refine RunL.pure Tryd.tOk rfl rfl rfl ?_ | refine RunL.val rfl rfl rfl (OpV.load1 Tryd.tOk rfl rfl rfl (Blk.cell Z1 rfl)) ?_ | refine RunE.seq ?_ | refine RunE.region ?_ | refine RunL.nil ?_ | refine RunE.block ?_)
    refine RunE.condF rfl rfl ?_
    repeat (first | refine RunL.pure Tryd.tOk rfl rfl rfl ?_ | refine RunE.seq ?_ | refine RunE.region ?_ | refine RunL.nil ?_)
    refine RunE.condF rfl rfl ?_
    repeat (first | refine RunL.pure Tryd.tOk rfl rfl rfl ?_ | refine RunE.seq ?_ | refine RunE.region ?_ | refine RunL.nil ?_)
    refine RunE.condT rfl rfl ?_
    repeat (first | refine RunL.pureI Tryd.tOk rfl rfl rfl (by (first | exact wr_i64 (by omega) (by omega) | exact wm_i64 (by omega) | exact wq_i64 (by omega) (by omega) (by omega) | rfl)) ?_ | refine RunE.seq ?_ | refine RunE.region ?_ | refine RunL.nil ?_ | refine RunE.block ?_)
    refine RunE.loop (ι := Nat) (fun i => [(1, .pointer (some ⟨B1, 0, none⟩)), (3, .int .i64 (i : Int))])
      (fun i w' => i ≤ l.length ∧ Ext w1 w') (fun i => l.length - i) 0 (by repeat (first | exact Sub.nil _ | refine Sub.cons rfl ?_)) ⟨by omega, .refl _ _⟩ ?_
    rintro i w4 ⟨hi, X4⟩ again
    have Z4 := Z1.ext X4 id
    repeat (first | refine RunL.pureI Tryd.tOk rfl rfl rfl (by (first | exact wr_i64 (by omega) (by omega) | exact wm_i64 (by omega) | exact wq_i64 (by omega) (by omega) (by omega) | rfl)) ?_ | refine RunL.pure Tryd.tOk rfl rfl rfl ?_ | refine RunL.val rfl rfl rfl (OpV.load1 Tryd.tOk rfl rfl rfl (Blk.cell Z4 rfl)) ?_ | refine RunE.seq ?_ | refine RunE.region ?_)
    refine RunL.val rfl rfl rfl (OpV.lenSl Tryd.tOk rfl rfl hsl) ?_
    repeat (first | refine RunL.pure Tryd.tOk rfl rfl rfl ?_ | refine RunL.nil ?_)
    refine RunE.cond rfl (fun hlt => ?_) (fun hlt => ?_) <;> (first | replace hlt := of_decide_eq_true hlt | replace hlt := of_decide_eq_false hlt | replace hlt := beq_iff_eq.1 hlt | replace hlt := beq_eq_false_iff_ne.1 hlt | replace hlt := bne_iff_ne.1 hlt | replace hlt := bne_eq_false_iff_eq.1 hlt | skip)
    · have hi' : i < l.length := by omega
      obtain ⟨c, hc⟩ : ∃ c, l[i]? = some c := ⟨_, List.getElem?_eq_getElem hi'⟩
      obtain ⟨r, hr, hcr⟩ := hget i c hc
      obtain ⟨b, o, cap, rfl, hrow, -, -⟩ := hsl.held (by omega)
      have hr4 := In.length hcr
      repeat (first | refine RunL.pureI Tryd.tOk rfl rfl rfl (by (first | exact wr_i64 (by omega) (by omega) | exact wm_i64 (by omega) | exact wq_i64 (by omega) (by omega) (by omega) | rfl)) ?_ | refine RunL.pure Tryd.tOk rfl rfl rfl ?_ | refine RunL.val rfl rfl rfl (OpV.load1 Tryd.tOk rfl rfl rfl (Blk.cell Z4 rfl)) ?_ | refine RunE.seq ?_ | refine RunE.region ?_ | refine RunE.block ?_ | refine RunE.skip ?_)
      refine RunL.val rfl rfl rfl (OpV.indexS Tryd.tOk i rfl rfl rfl rfl hi') ?_
      refine RunL.val rfl rfl rfl (OpV.loadN (cs := r) Tryd.tOk rfl rfl rfl hr4 ((hin.row hr hrow).extE (X1.trans X4))) ?_
      refine RunL.call rfl rfl rfl (rformed_ok c r w4 (In.ext (X1.trans X4) c r hcr)) ?_
      rintro _ w7 ⟨rfl, X7⟩
      repeat (first | refine RunL.pure Tryd.tOk rfl rfl rfl ?_ | refine RunL.nil ?_)
      refine RunE.condF rfl rfl ?_
      repeat (first | refine RunL.pureI Tryd.tOk rfl rfl rfl (by (first | exact wr_i64 (by omega) (by omega) | exact wm_i64 (by omega) | exact wq_i64 (by omega) (by omega) (by omega) | rfl)) ?_ | refine RunE.region ?_ | refine RunL.nil ?_ | refine RunE.inBlock ?_ | refine RunE.skip ?_)
      refine RunE.weaken (by repeat (first | exact Sub.nil _ | refine Sub.cons rfl ?_)) (again (i + 1) _ (by omega) ⟨by omega, X4.trans X7⟩)
    · repeat (first | refine RunL.pureB Tryd.tOk _ rfl rfl rfl (by with_reducible exact beq_refl_str _) ?_ | refine RunL.pure Tryd.tOk rfl rfl rfl ?_ | refine RunL.val rfl rfl rfl (OpV.load1 Tryd.tOk rfl rfl rfl (Blk.cell Z4 rfl)) ?_ | refine RunE.seq ?_ | refine RunE.region ?_ | refine RunL.nil ?_ | refine RunE.exit rfl ?_)
      exact RunE.retFn Tryd.func133 (.tmp rfl .nil) ⟨rfl, X1.trans X4⟩
termination_by c => SizeOf.sizeOf c
decreasing_by
  have := List.sizeOf_lt_of_mem (List.mem_of_getElem? hc)
  simp only [CV.list.sizeOf_spec]
  omega

set_option maxHeartbeats 2000000 in
theorem rdepth_ok : ∀ (c : CV) (cs : List Value) (w : World), c.In w cs → c.depth ≤ 1000 → Rets Tryd.prog 134 [.agg cs.toArray] w fun v w' => v = .int .i64 (c.depth : Int) ∧ Ext w w'
  | .int n, cs, w, h, _ => by
    simp only [CV.In] at h
    obtain ⟨hn, d, rfl⟩ := h
    refine RetsX.of (nt := 25) Tryd.func134 (by kernel_rfl) rfl rfl (by simp) (by simp only [argEnv]; rfl) ?_
    repeat (first | refine RunE.seq ?_ | refine RunE.region ?_)
    refine RunL.box rfl rfl rfl fun B1 w1 a1 => ?_
    have Z1 : Blk w1 B1 [.int .i64 1, .int .i64 n, .string ⟨#[]⟩, .slice d 0 0] 83 := a1.at_
    repeat (first | refine RunL.pureI Tryd.tOk rfl rfl rfl (by (first | exact wr_i64 (by omega) (by omega) | exact wm_i64 (by omega) | exact wq_i64 (by omega) (by omega) (by omega) | rfl)) ?_ | refine RunL.pure Tryd.tOk rfl rfl rfl ?_ | refine RunL.val rfl rfl rfl (OpV.load1 Tryd.tOk rfl rfl rfl (Blk.cell Z1 rfl)) ?_ | refine RunE.seq ?_ | refine RunE.region ?_ | refine RunL.nil ?_)
    refine RunE.condT rfl rfl ?_
    repeat (first | refine RunL.pureI Tryd.tOk rfl rfl rfl (by (first | exact wr_i64 (by omega) (by omega) | exact wm_i64 (by omega) | exact wq_i64 (by omega) (by omega) (by omega) | rfl)) ?_ | refine RunE.seq ?_ | refine RunE.region ?_ | refine RunL.nil ?_)
    exact RunE.retFn Tryd.func134 (.tmp rfl .nil) ⟨by simp [oneOr, CV.depth], a1.ext⟩
  | .text s, cs, w, h, _ => by
    simp only [CV.In] at h
    obtain ⟨hn, d, rfl⟩ := h
    refine RetsX.of (nt := 25) Tryd.func134 (by kernel_rfl) rfl rfl (by simp) (by simp only [argEnv]; rfl) ?_
    repeat (first | refine RunE.seq ?_ | refine RunE.region ?_)
    refine RunL.box rfl rfl rfl fun B1 w1 a1 => ?_
    have Z1 : Blk w1 B1 [.int .i64 2, .int .i64 0, .string (strOf s), .slice d 0 0] 83 := a1.at_
    repeat (first | refine RunL.pureI Tryd.tOk rfl rfl rfl (by (first | exact wr_i64 (by omega) (by omega) | exact wm_i64 (by omega) | exact wq_i64 (by omega) (by omega) (by omega) | rfl)) ?_ | refine RunL.pure Tryd.tOk rfl rfl rfl ?_ | refine RunL.val rfl rfl rfl (OpV.load1 Tryd.tOk rfl rfl rfl (Blk.cell Z1 rfl)) ?_ | refine RunE.seq ?_ | refine RunE.region ?_ | refine RunL.nil ?_)
    refine RunE.condT rfl rfl ?_
    repeat (first | refine RunL.pureI Tryd.tOk rfl rfl rfl (by (first | exact wr_i64 (by omega) (by omega) | exact wm_i64 (by omega) | exact wq_i64 (by omega) (by omega) (by omega) | rfl)) ?_ | refine RunE.seq ?_ | refine RunE.region ?_ | refine RunL.nil ?_)
    exact RunE.retFn Tryd.func134 (.tmp rfl .nil) ⟨by simp [oneOr, CV.depth], a1.ext⟩
  | .list l, cs, w, h, hdep => by
    simp only [CV.depth] at hdep
    simp only [CV.In] at h
    obtain ⟨hl, v, rows, rfl, hsl, hin⟩ := h
    obtain ⟨hrl, hget⟩ := hin.get
    refine RetsX.of (nt := 25) Tryd.func134 (by kernel_rfl) rfl rfl (by simp) (by simp only [argEnv]; rfl) ?_
    repeat (first | refine RunE.seq ?_ | refine RunE.region ?_)
    refine RunL.box rfl rfl rfl fun B1 w1 a1 => ?_
    have Z1 : Blk w1 B1 [.int .i64 3, .int .i64 0, .string ⟨#[]⟩, v] 83 := a1.at_
    have hB1 := a1.eq
    have X1 := a1.ext
    clear a1
    repeat (first | refine RunL.pureI Tryd.tOk rfl rfl rfl (by (first | exact wr_i64 (by omega) (by omega) | exact wm_i64 (by omega) | exact wq_i64 (by omega) (by omega) (by omega) | rfl)) ?_ | refine RunL.pure Tryd.tOk rfl rfl rfl ?_ | refine RunL.val rfl rfl rfl (OpV.load1 Tryd.tOk rfl rfl rfl (Blk.cell Z1 rfl)) ?_ | refine RunE.seq ?_ | refine RunE.region ?_ | refine RunL.nil ?_)
    refine RunE.condF rfl rfl ?_
    repeat (first | refine RunL.pureI Tryd.tOk rfl rfl rfl (by (first | exact wr_i64 (by omega) (by omega) | exact wm_i64 (by omega) | exact wq_i64 (by omega) (by omega) (by omega) | rfl)) ?_ | refine RunE.seq ?_ | refine RunE.region ?_ | refine RunL.nil ?_ | refine RunE.block ?_ | refine RunE.skip ?_)
    refine RunE.loop (ι := Nat) (fun i => [(1, .pointer (some ⟨B1, 0, none⟩)), (3, .int .i64 (depths (l.take i) : Int)), (4, .int .i64 (i : Int))])
      (fun i w' => i ≤ l.length ∧ Ext w1 w') (fun i => l.length - i) 0 (by repeat (first | exact Sub.nil _ | refine Sub.cons rfl ?_)) ⟨by omega, .refl _ _⟩ ?_
    rintro i w4 ⟨hi, X4⟩ again
    have Z4 := Z1.ext X4 id
    repeat (first | refine RunL.pureI Tryd.tOk rfl rfl rfl (by (first | exact wr_i64 (by omega) (by omega) | exact wm_i64 (by omega) | exact wq_i64 (by omega) (by omega) (by omega) | rfl)) ?_ | refine RunL.pure Tryd.tOk rfl rfl rfl ?_ | refine RunL.val rfl rfl rfl (OpV.load1 Tryd.tOk rfl rfl rfl (Blk.cell Z4 rfl)) ?_ | refine RunE.seq ?_ | refine RunE.region ?_)
    refine RunL.val rfl rfl rfl (OpV.lenSl Tryd.tOk rfl rfl hsl) ?_
    repeat (first | refine RunL.pure Tryd.tOk rfl rfl rfl ?_ | refine RunL.nil ?_)
    refine RunE.cond rfl (fun hlt => ?_) (fun hlt => ?_) <;> (first | replace hlt := of_decide_eq_true hlt | replace hlt := of_decide_eq_false hlt | replace hlt := beq_iff_eq.1 hlt | replace hlt := beq_eq_false_iff_ne.1 hlt | replace hlt := bne_iff_ne.1 hlt | replace hlt := bne_eq_false_iff_eq.1 hlt | skip)
    · have hi' : i < l.length := by omega
      obtain ⟨c, hc⟩ : ∃ c, l[i]? = some c := ⟨_, List.getElem?_eq_getElem hi'⟩
      obtain ⟨r, hr, hcr⟩ := hget i c hc
      obtain ⟨b, o, cap, rfl, hrow, -, -⟩ := hsl.held (by omega)
      have hr4 := In.length hcr
      repeat (first | refine RunL.pureI Tryd.tOk rfl rfl rfl (by (first | exact wr_i64 (by omega) (by omega) | exact wm_i64 (by omega) | exact wq_i64 (by omega) (by omega) (by omega) | rfl)) ?_ | refine RunL.pure Tryd.tOk rfl rfl rfl ?_ | refine RunL.val rfl rfl rfl (OpV.load1 Tryd.tOk rfl rfl rfl (Blk.cell Z4 rfl)) ?_ | refine RunE.seq ?_ | refine RunE.region ?_ | refine RunE.block ?_ | refine RunE.skip ?_)
      refine RunL.val rfl rfl rfl (OpV.indexS Tryd.tOk i rfl rfl rfl rfl hi') ?_
      refine RunL.val rfl rfl rfl (OpV.loadN (cs := r) Tryd.tOk rfl rfl rfl hr4 ((hin.row hr hrow).extE (X1.trans X4))) ?_
      refine RunL.call rfl rfl rfl (rdepth_ok c r w4 (In.ext (X1.trans X4) c r hcr) (by have := depth_le (List.mem_of_getElem? hc); omega)) ?_
      rintro _ w7 ⟨rfl, X7⟩
      repeat (first | refine RunL.pureI Tryd.tOk rfl rfl rfl (by (first | exact max_nat _ _ | exact wr_i64 (by omega) (by omega) | exact wm_i64 (by omega) | exact wq_i64 (by omega) (by omega) (by omega) | rfl)) ?_ | refine RunE.region ?_ | refine RunL.nil ?_ | refine RunE.inBlock ?_)
      refine RunE.weaken (by
        refine Sub.cons rfl (Sub.cons ?_ (Sub.cons rfl (Sub.nil _)))
        rw [depths_take hc]; rfl) (again (i + 1) _ (by omega) ⟨by omega, X4.trans X7⟩)
    · have hil : i = l.length := by omega
      subst hil
      rw [List.take_length]
      repeat (first | refine RunL.pureI Tryd.tOk rfl rfl rfl (by (first | exact wr_i64 (by omega) (by omega) | exact wm_i64 (by omega) | exact wq_i64 (by omega) (by omega) (by omega) | rfl)) ?_ | refine RunE.seq ?_ | refine RunE.region ?_ | refine RunL.nil ?_ | refine RunE.exit rfl ?_)
      exact RunE.retFn Tryd.func134 (.tmp rfl .nil) ⟨by simp only [oneOr, CV.depth]; congr 1, X1.trans X4⟩
termination_by c => SizeOf.sizeOf c
decreasing_by
  have := List.sizeOf_lt_of_mem (List.mem_of_getElem? hc)
  simp only [CV.list.sizeOf_spec]
  omega
end Go.Sg
end
section
/- The document's codec: what is written. -/
namespace Go.Sg
open Go.Rn Go.Sha Go.Cod Go.Proofs
attribute [local irreducible] Go.Rn.RunL Go.Rn.RunE Go.Rn.Asy Go.Rn.OpV Go.Rn.OpE Go.Rn.ExecE

theorem rencode_int (n : Int) (cs : List Value) (w : World) (h : (CV.int n).In w cs) : Rets Tryd.prog 127 [.agg cs.toArray] w fun r w' => w'.ownsRow w.heap.size 5 1 r (CV.int n).enc.length (bytesV (CV.int n).enc) ∧ Ext w w' := by
  simp only [CV.In] at h
  obtain ⟨hn, d, rfl⟩ := h
  refine RetsX.of (nt := 50) Tryd.func127 (by kernel_rfl) rfl rfl (by simp) (by simp only [argEnv]; rfl) ?_
  repeat (first | refine RunE.seq ?_ | refine RunE.region ?_)
  refine RunL.box rfl rfl rfl fun B1 w1 a1 => ?_
  have Z1 : Blk w1 B1 [.int .i64 1, .int .i64 n, .string ⟨#[]⟩, .slice d 0 0] 83 := a1.at_
  have z1 := a1.size
  have X1 := a1.ext
  have z0 := X1.size
  clear a1
  repeat (first | refine RunL.pure Tryd.tOk rfl rfl rfl ?_ | refine RunL.val rfl rfl rfl (OpV.load1 Tryd.tOk rfl rfl rfl (Blk.cell Z1 rfl)) ?_ | refine RunE.seq ?_ | refine RunE.region ?_ | refine RunL.nil ?_ | refine RunE.block ?_)
  refine RunE.condT rfl rfl ?_
  repeat (first | refine RunE.seq ?_ | refine RunE.region ?_)
  refine RunL.ex rfl rfl rfl (OpE.buildSl Tryd.tOk [.int .u8 1] rfl rfl rfl rfl rfl rfl (by simp [Value.cells])) ?_
  rintro _ w2 ⟨B, rfl, a2⟩
  have O2 : w2.ownsRow w.heap.size 5 1 (.slice (some ⟨B, 0, none⟩) 1 1) 1 (bytesV [1]) := ownsRow_added a2 (by have := a2.eq; omega) rfl (by decide)
  have z2 := a2.size
  have X2 := X1.trans a2.ext
  have Z2 := Z1.ext a2.ext id
  clear a2
  repeat (first | refine RunL.pure Tryd.tOk rfl rfl rfl ?_ | refine RunL.val rfl rfl rfl (OpV.load1 Tryd.tOk rfl rfl rfl (Blk.cell Z2 rfl)) ?_)
  refine RunL.call rfl rfl rfl (runsigned_ok n _ hn) ?_
  rintro _ _ ⟨rfl, rfl⟩
  refine RunL.call rfl rfl rfl (rnumeral_ok (zig n) _ (zig_lt n hn)) ?_
  rintro r w3 ⟨O3, X3⟩
  have z3 := X3.size
  have z2x := X2.size
  have hl := num_le (zig n) (zig_lt n hn)
  refine RunL.ex rfl rfl rfl (OpE.append' Tryd.tOk rfl rfl rfl rfl rfl rfl (ownsRow_ext O2 X3 (fun _ _ h => h)) (isSl_own O3) (bytesV_plain _) (by show _ * 1 ≤ _; omega) (by omega) (by omega)) ?_
  rintro v4 w4 ⟨O4, E4, -⟩
  repeat (first | refine RunL.pure Tryd.tOk rfl rfl rfl ?_ | refine RunL.nil ?_)
  refine RunE.retFn Tryd.func127 (.tmp rfl .nil) ⟨?_, (X2.trans X3).write E4 (by intro i hi hlt; have := ownsRow_ge O2 hi; omega)⟩
  simp only [oneOr, CV.enc]
  rw [List.length_cons, Nat.add_comm]
  exact O4

theorem rencode_text (t : List UInt8) (cs : List Value) (w : World) (h : (CV.text t).In w cs) : Rets Tryd.prog 127 [.agg cs.toArray] w fun r w' => w'.ownsRow w.heap.size 5 1 r (CV.text t).enc.length (bytesV (CV.text t).enc) ∧ Ext w w' := by
  simp only [CV.In] at h
  obtain ⟨hn, d, rfl⟩ := h
  have hst : (strOf t).data.toList = t := by simp [strOf]
  have hsz : (strOf t).size = t.length := rfl
  refine RetsX.of (nt := 50) Tryd.func127 (by kernel_rfl) rfl rfl (by simp) (by simp only [argEnv]; rfl) ?_
  repeat (first | refine RunE.seq ?_ | refine RunE.region ?_)
  refine RunL.box rfl rfl rfl fun B1 w1 a1 => ?_
  have Z1 : Blk w1 B1 [.int .i64 2, .int .i64 0, .string (strOf t), .slice d 0 0] 83 := a1.at_
  have hB1 := a1.eq
  have z1 := a1.size
  have X1 := a1.ext
  have z0 := X1.size
  clear a1
  repeat (first | refine RunL.pure Tryd.tOk rfl rfl rfl ?_ | refine RunL.val rfl rfl rfl (OpV.load1 Tryd.tOk rfl rfl rfl (Blk.cell Z1 rfl)) ?_ | refine RunE.seq ?_ | refine RunE.region ?_ | refine RunL.nil ?_ | refine RunE.block ?_)
  refine RunE.condF rfl rfl ?_
  repeat (first | refine RunL.pure Tryd.tOk rfl rfl rfl ?_ | refine RunE.seq ?_ | refine RunE.region ?_ | refine RunL.nil ?_)
  refine RunE.condT rfl rfl ?_
  repeat (first | refine RunE.seq ?_)
  refine RunE.draw (fun k => w1.heap.size ≤ k) mix ?_
  intro w2 X2
  have z2 := X2.size
  have Z2 := Z1.ext X2 id
  have hS : ¬ (w1.heap.size ≤ B1) := by omega
  have hnl := num_le (strOf t).size (by omega)
  skip
  refine Asy.pre0 (fun u w' => w'.ownsRow w1.heap.size 5 1 u 1 (bytesV [2])) rfl rfl rfl rfl (fun u w' w'' _ e h => ownsRow_ext h e (fun _ _ h => h)) (fun w' e => ?_) ?_
  · refine OpE.mono (OpE.buildSl Tryd.tOk [.int .u8 2] rfl rfl rfl rfl rfl rfl (by simp [Value.cells])) ?_ fun _ _ h => h
    rintro _ w'' ⟨B, rfl, a⟩
    have := e.size
    exact ⟨a.ext, ownsRow_added a (by have := a.eq; omega) rfl (by decide)⟩
  repeat (first | refine Asy.pure Tryd.tOk rfl rfl rfl ?_)
  refine Asy.v rfl rfl rfl rfl (fun w' X' => OpV.load1 Tryd.tOk rfl rfl rfl (Blk.cell (Z2.ext X' hS) rfl)) ?_
  repeat (first | refine Asy.pureI Tryd.tOk rfl rfl rfl (by (first | exact u64_nat _ (by omega) | exact wr_i64 (by omega) (by omega) | exact wm_i64 (by omega) | exact wq_i64 (by omega) (by omega) (by omega) | rfl)) ?_)
  refine Asy.pre0 (fun u w' => w'.ownsRow w1.heap.size 5 1 u (num (strOf t).size).length (bytesV (num (strOf t).size))) rfl rfl rfl rfl (fun u w' w'' _ e h => ownsRow_ext h e (fun _ _ h => h)) (fun w' e => ?_) ?_
  · refine OpE.mono (OpE.call rfl (rnumeral_ok (strOf t).size w' (by omega))) ?_ fun _ _ h => h
    rintro u w'' ⟨h1, h2⟩
    have := e.size
    exact ⟨h2, ownsRow_base h1 (by omega)⟩
  refine Asy.wriPP 1 0 (fun u w' => w'.ownsRow w1.heap.size 5 1 u (1 + (num (strOf t).size).length) (bytesV [2] ++ bytesV (num (strOf t).size))) rfl rfl rfl rfl rfl rfl rfl rfl (fun u w' w'' _ e h => ownsRow_ext h e (fun _ _ h => h)) (fun w' x y e hx hy => ?_) ?_
  · have := e.size
    refine OpE.mono (OpE.append' Tryd.tOk rfl rfl rfl rfl rfl rfl hx (isSl_own hy) (bytesV_plain _) (by show _ * 1 ≤ _; omega) (by omega) (by omega)) ?_ fun _ _ h => h
    rintro u w'' ⟨h1, h2, h3⟩
    exact ⟨h2.mono fun k _ hk => ownsRow_ge hx hk, h1⟩
  repeat (first | refine Asy.pure Tryd.tOk rfl rfl rfl ?_)
  refine Asy.v rfl rfl rfl rfl (fun w' X' => OpV.load1 Tryd.tOk rfl rfl rfl (Blk.cell (Z2.ext X' hS) rfl)) ?_
  refine Asy.tailW (by kernel_rfl) ?_
  rintro w3 x E3 O3
  simp only [satsAll]
  have z3 := E3.size
  have Y3 : Ext w w3 := (X1.trans X2).write E3 (by intro i hi hlt; omega)
  refine RunL.ex rfl rfl rfl (OpE.appendStr Tryd.tOk (by kernel_rfl) rfl rfl rfl rfl rfl O3 (by omega) (by omega)) ?_
  rintro r w4 ⟨O4, E4⟩
  have Y4 : Ext w w4 := Y3.write E4 (by intro i hi hlt; have := ownsRow_ge O3 hi; omega)
  repeat (first | refine RunL.pure Tryd.tOk rfl rfl rfl ?_ | refine RunL.nil ?_)
  refine RunE.retFn Tryd.func127 (.tmp rfl .nil) ⟨?_, Y4⟩
  simp only [CV.enc, oneOr]
  rw [← bytesV_append, hst, hsz, ← bytesV_append] at O4
  have e : [2] ++ num t.length ++ t = 2 :: (num t.length ++ t) := by simp
  have e2 : 1 + (num t.length).length + t.length = (2 :: (num t.length ++ t)).length := by simp; omega
  rw [e2, e] at O4
  exact ownsRow_base O4 (by omega)

set_option maxHeartbeats 2000000 in
theorem rencode_ok : ∀ (c : CV) (cs : List Value) (w : World), c.In w cs → c.enc.length ≤ 1000000000 → Rets Tryd.prog 127 [.agg cs.toArray] w fun r w' => w'.ownsRow w.heap.size 5 1 r c.enc.length (bytesV c.enc) ∧ Ext w w'
  | .int n, cs, w, h, _ => rencode_int n cs w h
  | .text t, cs, w, h, _ => rencode_text t cs w h
  | .list l, cs, w, h, hlen => by
    simp only [CV.In] at h
    obtain ⟨hn, sv, rows, rfl, hsl, hin⟩ := h
    obtain ⟨hrl, hget⟩ := hin.get
    simp only [CV.enc, List.length_cons, List.length_append] at hlen
    refine RetsX.of (nt := 50) Tryd.func127 (by kernel_rfl) rfl rfl (by simp) (by simp only [argEnv]; rfl) ?_
    repeat (first | refine RunE.seq ?_ | refine RunE.region ?_)
    refine RunL.box rfl rfl rfl fun B1 w1 a1 => ?_
    have Z1 : Blk w1 B1 [.int .i64 3, .int .i64 0, .string ⟨#[]⟩, sv] 83 := a1.at_
    have hB1 := a1.eq
    have z1 := a1.size
    have X1 := a1.ext
    have z0 := X1.size
    clear a1
    repeat (first | refine RunL.pure Tryd.tOk rfl rfl rfl ?_ | refine RunL.val rfl rfl rfl (OpV.load1 Tryd.tOk rfl rfl rfl (Blk.cell Z1 rfl)) ?_ | refine RunE.seq ?_ | refine RunE.region ?_ | refine RunL.nil ?_ | refine RunE.block ?_)
    refine RunE.condF rfl rfl ?_
    repeat (first | refine RunL.pure Tryd.tOk rfl rfl rfl ?_ | refine RunE.seq ?_ | refine RunE.region ?_ | refine RunL.nil ?_)
    refine RunE.condF rfl rfl ?_
    repeat (first | refine RunE.seq ?_ | refine RunE.region ?_ | refine RunE.inBlock ?_ | refine RunE.skip ?_)
    refine RunL.ex rfl rfl rfl (OpE.buildSl Tryd.tOk [.int .u8 3] rfl rfl rfl rfl rfl rfl (by simp [Value.cells])) ?_
    rintro _ w2 ⟨B, rfl, a2⟩
    have O2 : w2.ownsRow w1.heap.size 5 1 (.slice (some ⟨B, 0, none⟩) 1 1) 1 (bytesV [3]) := ownsRow_added a2 (by have := a2.eq; omega) rfl (by decide)
    have z2 := a2.size
    have X2 := a2.ext
    have Z2 := Z1.ext a2.ext id
    clear a2
    repeat (first | refine RunL.pure Tryd.tOk rfl rfl rfl ?_ | refine RunL.val rfl rfl rfl (OpV.load1 Tryd.tOk rfl rfl rfl (Blk.cell Z2 rfl)) ?_)
    refine RunL.val rfl rfl rfl (OpV.lenSl Tryd.tOk rfl rfl hsl) ?_
    repeat (first | refine RunL.pureI Tryd.tOk rfl rfl rfl (by (first | exact u64_nat _ (by omega) | exact wr_i64 (by omega) (by omega) | exact wm_i64 (by omega) | exact wq_i64 (by omega) (by omega) (by omega) | rfl)) ?_)
    refine RunL.call rfl rfl rfl (rnumeral_ok l.length _ (by omega)) ?_
    rintro r w3 ⟨O3, X3⟩
    have z3 := X3.size
    have z2x := X2.size
    have hl := num_le l.length (by omega)
    refine RunL.ex rfl rfl rfl (OpE.append' Tryd.tOk rfl rfl rfl rfl rfl rfl (ownsRow_ext O2 X3 (fun _ _ h => h)) (isSl_own O3) (bytesV_plain _) (by show _ * 1 ≤ _; omega) (by omega) (by omega)) ?_
    rintro v4 w4 ⟨O4, E4, -⟩
    have Y4 : Ext w1 w4 := (X2.trans X3).write E4 (by intro i hi hlt; have := ownsRow_ge O2 hi; omega)
    have O4' : w4.ownsRow w1.heap.size 5 1 v4 (3 :: (num l.length ++ encs (l.take 0))).length (bytesV (3 :: (num l.length ++ encs (l.take 0)))) := by
      have e : 3 :: (num l.length ++ encs (l.take 0)) = [3] ++ num l.length := by simp [encs]
      rw [e, List.length_append, bytesV_append]; exact O4
    repeat (first | refine RunL.pureI Tryd.tOk rfl rfl rfl (by (first | exact wr_i64 (by omega) (by omega) | exact wm_i64 (by omega) | exact wq_i64 (by omega) (by omega) (by omega) | rfl)) ?_ | refine RunL.pure Tryd.tOk rfl rfl rfl ?_ | refine RunE.seq ?_ | refine RunE.region ?_ | refine RunL.nil ?_ | refine RunE.block ?_)
    refine RunE.loop (ι := Nat × Value) (fun x => [(1, .pointer (some ⟨B1, 0, none⟩)), (3, x.2), (4, .int .i64 (x.1 : Int))])
      (fun x w' => x.1 ≤ l.length ∧ Ext w1 w' ∧ w'.ownsRow w1.heap.size 5 1 x.2 (3 :: (num l.length ++ encs (l.take x.1))).length (bytesV (3 :: (num l.length ++ encs (l.take x.1))))) (fun x => l.length - x.1) (0, v4) (by repeat (first | exact Sub.nil _ | refine Sub.cons rfl ?_)) ⟨by simp, Y4, O4'⟩ ?_
    clear O4 O4' Y4 E4 X3 O3 X2 O2 Z2
    rintro ⟨i, u⟩ w5 ⟨hi, X5, O5⟩ again
    simp only at hi O5 again ⊢
    have Z5 := Z1.ext X5 id
    repeat (first | refine RunL.pureI Tryd.tOk rfl rfl rfl (by (first | exact wr_i64 (by omega) (by omega) | exact wm_i64 (by omega) | exact wq_i64 (by omega) (by omega) (by omega) | rfl)) ?_ | refine RunL.pure Tryd.tOk rfl rfl rfl ?_ | refine RunL.val rfl rfl rfl (OpV.load1 Tryd.tOk rfl rfl rfl (Blk.cell Z5 rfl)) ?_ | refine RunE.seq ?_ | refine RunE.region ?_)
    refine RunL.val rfl rfl rfl (OpV.lenSl Tryd.tOk rfl rfl hsl) ?_
    repeat (first | refine RunL.pure Tryd.tOk rfl rfl rfl ?_ | refine RunL.nil ?_)
    refine RunE.cond rfl (fun hlt => ?_) (fun hlt => ?_) <;> (first | replace hlt := of_decide_eq_true hlt | replace hlt := of_decide_eq_false hlt | replace hlt := beq_iff_eq.1 hlt | replace hlt := beq_eq_false_iff_ne.1 hlt | replace hlt := bne_iff_ne.1 hlt | replace hlt := bne_eq_false_iff_eq.1 hlt | skip)
    · have hi' : i < l.length := by omega
      obtain ⟨c, hc⟩ : ∃ c, l[i]? = some c := ⟨_, List.getElem?_eq_getElem hi'⟩
      obtain ⟨q, hq, hcq⟩ := hget i c hc
      obtain ⟨b, o, cap, rfl, hrow, -, -⟩ := hsl.held (by omega)
      have hq4 := In.length hcq
      have hle := encs_le hc
      have hz5 := X5.size
      repeat (first | refine RunL.pureI Tryd.tOk rfl rfl rfl (by (first | exact wr_i64 (by omega) (by omega) | exact wm_i64 (by omega) | exact wq_i64 (by omega) (by omega) (by omega) | rfl)) ?_ | refine RunL.pure Tryd.tOk rfl rfl rfl ?_ | refine RunL.val rfl rfl rfl (OpV.load1 Tryd.tOk rfl rfl rfl (Blk.cell Z5 rfl)) ?_ | refine RunE.seq ?_ | refine RunE.region ?_ | refine RunE.block ?_ | refine RunE.skip ?_)
      refine RunL.val rfl rfl rfl (OpV.indexS Tryd.tOk i rfl rfl rfl rfl hi') ?_
      refine RunL.val rfl rfl rfl (OpV.loadN (cs := q) Tryd.tOk rfl rfl rfl hq4 ((hin.row hq hrow).extE (X1.trans X5))) ?_
      refine RunL.call rfl rfl rfl (rencode_ok c q w5 (In.ext (X1.trans X5) c q hcq) (by omega)) ?_
      rintro r6 w6 ⟨O6, X6⟩
      have hz6 := X6.size
      refine RunL.ex rfl rfl rfl (OpE.append' Tryd.tOk rfl rfl rfl rfl rfl rfl (ownsRow_ext O5 X6 (fun _ _ h => h)) (isSl_own O6) (bytesV_plain _) (by show _ * 1 ≤ _; simp; omega) (by simp; omega) (by omega)) ?_
      rintro v7 w7 ⟨O7, E7, -⟩
      repeat (first | refine RunL.pureI Tryd.tOk rfl rfl rfl (by (first | exact wr_i64 (by omega) (by omega) | exact wm_i64 (by omega) | exact wq_i64 (by omega) (by omega) (by omega) | rfl)) ?_ | refine RunL.pure Tryd.tOk rfl rfl rfl ?_ | refine RunE.region ?_ | refine RunL.nil ?_ | refine RunE.inBlock ?_)
      refine RunE.weaken (by repeat (first | exact Sub.nil _ | refine Sub.cons rfl ?_)) (again (i + 1, v7) _ (by simp only; omega) ⟨by simp only; omega, (X5.trans X6).write E7 (by intro i hi hlt; have := ownsRow_ge O5 hi; omega), ?_⟩)
      simp only
      have e : 3 :: (num l.length ++ encs (l.take (i + 1))) = (3 :: (num l.length ++ encs (l.take i))) ++ c.enc := by rw [encs_take hc]; simp
      rw [e, List.length_append, bytesV_append]; exact O7
    · have hil : i = l.length := by omega
      subst hil
      repeat (first | refine RunL.pure Tryd.tOk rfl rfl rfl ?_ | refine RunE.seq ?_ | refine RunE.region ?_ | refine RunL.nil ?_ | refine RunE.exit rfl ?_)
      refine RunE.retFn Tryd.func127 (.tmp rfl .nil) ⟨?_, X1.trans X5⟩
      simp only [oneOr, CV.enc]
      rw [List.take_length] at O5
      exact ownsRow_base O5 (by omega)
termination_by c => SizeOf.sizeOf c
decreasing_by
  have := List.sizeOf_lt_of_mem (List.mem_of_getElem? hc)
  simp only [CV.list.sizeOf_spec]
  omega

theorem rcheck_ok (c : CV) (cs : List Value) (w : World) (h : c.In w cs) (hd : c.depth ≤ 16) : Rets Tryd.prog 126 [.agg cs.toArray] w fun v w' => v = .int .i64 0 ∧ Ext w w' := by
  have h4 := In.length h
  refine RetsX.of (nt := 9) Tryd.func126 (by kernel_rfl) rfl rfl (by simp) (by simp only [argEnv]; rfl) ?_
  repeat (first | refine RunE.seq ?_ | refine RunE.region ?_)
  refine RunL.box rfl rfl rfl fun B1 w1 a1 => ?_
  have Z1 : Blk w1 B1 cs 83 := a1.at_
  repeat (first | refine RunL.pureI Tryd.tOk rfl rfl rfl (by (first | exact wr_i64 (by omega) (by omega) | exact wm_i64 (by omega) | exact wq_i64 (by omega) (by omega) (by omega) | rfl)) ?_ | refine RunE.seq ?_ | refine RunE.region ?_ | refine RunL.nil ?_)
  refine RunL.val rfl rfl rfl (OpV.loadN (cs := cs) Tryd.tOk rfl rfl rfl h4 Z1.row) ?_
  refine RunL.call rfl rfl rfl (rformed_ok c cs w1 (In.ext a1.ext c cs h)) ?_
  rintro _ w2 ⟨rfl, X2⟩
  repeat (first | refine RunL.pure Tryd.tOk rfl rfl rfl ?_ | refine RunL.nil ?_)
  refine RunE.condF rfl rfl ?_
  repeat (first | refine RunE.seq ?_ | refine RunE.region ?_ | refine RunE.skip ?_)
  refine RunL.val rfl rfl rfl (OpV.loadN (cs := cs) Tryd.tOk rfl rfl rfl h4 (Z1.ext X2 id).row) ?_
  refine RunL.call rfl rfl rfl (rdepth_ok c cs w2 (In.ext (a1.ext.trans X2) c cs h) (by omega)) ?_
  rintro _ w3 ⟨rfl, X3⟩
  repeat (first | refine RunL.pure Tryd.tOk rfl rfl rfl ?_ | refine RunL.nil ?_)
  refine RunE.condF rfl (decide_eq_false (by omega)) ?_
  repeat (first | refine RunL.pureI Tryd.tOk rfl rfl rfl (by (first | exact wr_i64 (by omega) (by omega) | exact wm_i64 (by omega) | exact wq_i64 (by omega) (by omega) (by omega) | rfl)) ?_ | refine RunE.seq ?_ | refine RunE.region ?_ | refine RunL.nil ?_ | refine RunE.skip ?_)
  exact RunE.retFn Tryd.func126 (.tmp rfl .nil) ⟨rfl, (a1.ext.trans X2).trans X3⟩

theorem rEncode_ok (c : CV) (cs : List Value) (w : World) (h : c.In w cs) (hd : c.depth ≤ 16) (hl : c.enc.length ≤ 1000000000) :
    Rets Tryd.prog 114 [.agg cs.toArray] w fun v w' => ∃ r, v = .tuple #[r, .int .i64 0] ∧ w'.ownsRow w.heap.size 5 1 r c.enc.length (bytesV c.enc) ∧ Ext w w' := by
  have h4 := In.length h
  refine RetsX.of (nt := 12) Tryd.func114 (by kernel_rfl) rfl rfl (by simp) (by simp only [argEnv]; rfl) ?_
  repeat (first | refine RunE.seq ?_ | refine RunE.region ?_)
  refine RunL.box rfl rfl rfl fun B1 w1 a1 => ?_
  have Z1 : Blk w1 B1 cs 83 := a1.at_
  have h1 := In.ext a1.ext c cs h
  have z0 := a1.ext.size
  repeat (first | refine RunL.pureI Tryd.tOk rfl rfl rfl (by (first | exact wr_i64 (by omega) (by omega) | exact wm_i64 (by omega) | exact wq_i64 (by omega) (by omega) (by omega) | rfl)) ?_ | refine RunL.pure Tryd.tOk rfl rfl rfl ?_ | refine RunE.seq ?_ | refine RunE.region ?_ | refine RunL.nil ?_)
  refine RunL.val rfl rfl rfl (OpV.loadN (cs := cs) Tryd.tOk rfl rfl rfl h4 Z1.row) ?_
  refine RunL.call rfl rfl rfl (rcheck_ok c cs w1 h1 hd) ?_
  rintro _ w2 ⟨rfl, X2⟩
  repeat (first | refine RunL.pureI Tryd.tOk rfl rfl rfl (by (first | exact wr_i64 (by omega) (by omega) | exact wm_i64 (by omega) | exact wq_i64 (by omega) (by omega) (by omega) | rfl)) ?_ | refine RunL.pure Tryd.tOk rfl rfl rfl ?_ | refine RunE.seq ?_ | refine RunE.region ?_ | refine RunL.nil ?_)
  refine RunE.condF rfl rfl ?_
  repeat (first | refine RunE.seq ?_ | refine RunE.region ?_ | refine RunE.skip ?_)
  refine RunL.val rfl rfl rfl (OpV.loadN (cs := cs) Tryd.tOk rfl rfl rfl h4 (Z1.ext X2 id).row) ?_
  refine RunL.call rfl rfl rfl (rencode_ok c cs w2 (In.ext X2 c cs h1) hl) ?_
  rintro r w3 ⟨O3, X3⟩
  have z2 := X2.size
  repeat (first | refine RunL.pureI Tryd.tOk rfl rfl rfl (by (first | exact wr_i64 (by omega) (by omega) | exact wm_i64 (by omega) | exact wq_i64 (by omega) (by omega) (by omega) | rfl)) ?_ | refine RunL.pure Tryd.tOk rfl rfl rfl ?_ | refine RunL.nil ?_)
  exact RunE.retFn Tryd.func114 (.tmp rfl (.tmp rfl .nil)) ⟨r, rfl, ownsRow_base O3 (by omega), (a1.ext.trans X2).trans X3⟩

theorem rint_ok (n : Int) (w : World) : Rets Tryd.prog 120 [.int .i64 n] w fun v w' => v = .agg #[.int .i64 1, .int .i64 n, .string ⟨#[]⟩, .slice none 0 0] ∧ Ext w w' := by
  refine RetsX.of (nt := 5) Tryd.func120 (by kernel_rfl) rfl rfl (by simp) (by simp only [argEnv]; rfl) ?_
  repeat (first | refine RunE.seq ?_ | refine RunE.region ?_)
  refine RunL.alloc Tryd.tOk rfl rfl rfl fun B2 w2 a2 => ?_
  have hB := a2.eq
  repeat (first | refine RunL.pureI Tryd.tOk rfl rfl rfl (by (first | exact wr_i64 (by omega) (by omega) | exact wm_i64 (by omega) | exact wq_i64 (by omega) (by omega) (by omega) | rfl)) ?_ | refine RunL.pure Tryd.tOk rfl rfl rfl ?_ | refine RunE.seq ?_ | refine RunE.region ?_ | refine RunL.nil ?_)
  refine RunL.store Tryd.tOk rfl rfl rfl rfl rfl (cs := [.int .i64 0, .int .i64 0, .string ⟨#[]⟩, .slice none 0 0]) a2.at_ rfl rfl fun w3 t3 => ?_
  repeat (first | refine RunL.nil ?_)
  exact RunE.retFn Tryd.func120 (.cell rfl (.agg Tryd.tOk rfl rfl rfl (Blk.row (show Blk w3 B2 [.int .i64 1, .int .i64 n, .string ⟨#[]⟩, .slice none 0 0] 83 from t3.at_))) .nil) ⟨rfl, a2.ext.write t3.ext (by intro i hi hlt; subst hi; omega)⟩
theorem rtext_ok (s : ByteArray) (w : World) : Rets Tryd.prog 121 [.string s] w fun v w' => v = .agg #[.int .i64 2, .int .i64 0, .string s, .slice none 0 0] ∧ Ext w w' := by
  refine RetsX.of (nt := 5) Tryd.func121 (by kernel_rfl) rfl rfl (by simp) (by simp only [argEnv]; rfl) ?_
  repeat (first | refine RunE.seq ?_ | refine RunE.region ?_)
  refine RunL.alloc Tryd.tOk rfl rfl rfl fun B2 w2 a2 => ?_
  have hB := a2.eq
  repeat (first | refine RunL.pure Tryd.tOk rfl rfl rfl ?_ | refine RunE.seq ?_ | refine RunE.region ?_ | refine RunL.nil ?_)
  refine RunL.store Tryd.tOk rfl rfl rfl rfl rfl (cs := [.int .i64 0, .int .i64 0, .string ⟨#[]⟩, .slice none 0 0]) a2.at_ rfl rfl fun w3 t3 => ?_
  repeat (first | refine RunL.nil ?_)
  exact RunE.retFn Tryd.func121 (.cell rfl (.agg Tryd.tOk rfl rfl rfl (Blk.row (show Blk w3 B2 [.int .i64 2, .int .i64 0, .string s, .slice none 0 0] 83 from t3.at_))) .nil) ⟨rfl, a2.ext.write t3.ext (by intro i hi hlt; subst hi; omega)⟩
theorem rlist_ok (d : Option Addr) (n cap : Nat) (w : World) : Rets Tryd.prog 119 [.slice d n cap] w fun r w' => r = .agg #[.int .i64 3, .int .i64 0, .string ⟨#[]⟩, .slice d n cap] ∧ Ext w w' := by
  refine RetsX.of (nt := 5) Tryd.func119 (by kernel_rfl) rfl rfl (by simp) (by simp only [argEnv]; rfl) ?_
  repeat (first | refine RunE.seq ?_ | refine RunE.region ?_)
  refine RunL.alloc Tryd.tOk rfl rfl rfl fun B2 w2 a2 => ?_
  have hB := a2.eq
  repeat (first | refine RunL.pure Tryd.tOk rfl rfl rfl ?_ | refine RunE.seq ?_ | refine RunE.region ?_ | refine RunL.nil ?_)
  refine RunL.store Tryd.tOk rfl rfl rfl rfl rfl (cs := [.int .i64 0, .int .i64 0, .string ⟨#[]⟩, .slice none 0 0]) a2.at_ (by rfl) (by rfl) fun w3 t3 => ?_
  repeat (first | refine RunL.nil ?_)
  exact RunE.retFn Tryd.func119 (.cell rfl (.agg Tryd.tOk rfl rfl rfl (Blk.row (show Blk w3 B2 [.int .i64 3, .int .i64 0, .string ⟨#[]⟩, .slice d n cap] 83 from t3.at_))) .nil) ⟨rfl, a2.ext.write t3.ext (by intro i hi hlt; subst hi; omega)⟩
end Go.Sg
end
section
/- Numbers: primes, Gauss's count, the law of quadratic reciprocity, Euler's criterion, the group of the squares modulo P. Plain mathematics: no program here. -/
namespace Go.NT

/-! ### Primes -/
def IsPrime (p : Nat) : Prop := 2 ≤ p ∧ ∀ d, d ∣ p → d = 1 ∨ d = p
def noDiv (p : Nat) : Nat → Bool
  | 0 => true
  | k + 1 => p % (k + 2) != 0 && noDiv p k
theorem noDiv_spec {p : Nat} : ∀ {k : Nat}, noDiv p k = true → ∀ d, 2 ≤ d → d < k + 2 → ¬ d ∣ p
  | 0, _, d, h1, h2, _ => by omega
  | k + 1, h, d, h1, h2, hd => by
    simp only [noDiv, Bool.and_eq_true, bne_iff_ne] at h
    rcases Nat.lt_or_ge d (k + 2) with h' | h'
    · exact noDiv_spec h.2 d h1 h' hd
    · have : d = k + 2 := by omega
      subst this
      exact h.1 (Nat.mod_eq_zero_of_dvd hd)
theorem prime_of_noDiv {p k : Nat} (hp : 2 ≤ p) (h : noDiv p k = true) (hk : p < (k + 2) * (k + 2)) : IsPrime p := by
  refine ⟨hp, fun d hd => ?_⟩
  obtain ⟨e, he⟩ := hd
  have hd0 : d ≠ 0 := by rintro rfl; simp at he; omega
  have he0 : e ≠ 0 := by rintro rfl; simp at he; omega
  by_cases h1 : d = 1
  · exact .inl h1
  by_cases h2 : e = 1
  · subst h2; right; omega
  exfalso
  rcases Nat.lt_or_ge d (k + 2) with hlt | hge
  · exact noDiv_spec h d (by omega) hlt ⟨e, he⟩
  · rcases Nat.lt_or_ge e (k + 2) with hlt | hge'
    · exact noDiv_spec h e (by omega) hlt ⟨d, by rw [he, Nat.mul_comm]⟩
    · have := Nat.mul_le_mul hge hge'
      omega

theorem coprime_of_prime {p a : Nat} (hp : IsPrime p) (h : ¬ p ∣ a) : Nat.Coprime a p := by
  have h1 := hp.2 (Nat.gcd a p) (Nat.gcd_dvd_right a p)
  rcases h1 with h1 | h1
  · exact h1
  · exfalso; apply h; rw [← h1]; exact Nat.gcd_dvd_left a p
theorem prime_mul {p a b : Nat} (hp : IsPrime p) (h : p ∣ a * b) : p ∣ a ∨ p ∣ b := by
  by_cases ha : p ∣ a
  · exact .inl ha
  · exact .inr (Nat.Coprime.dvd_of_dvd_mul_left (coprime_of_prime hp ha).symm h)

/-! ### Big sums -/
section
variable {α : Type} (op : α → α → α) (e : α)
def bigTo (f : Nat → α) : Nat → α
  | 0 => e
  | k + 1 => op (bigTo f k) (f (k + 1))
end
def sumTo (f : Nat → Nat) (h : Nat) : Nat := bigTo (· + ·) 0 f h

theorem bigTo_congr {α : Type} {op : α → α → α} {e : α} {f g : Nat → α} : ∀ {h : Nat}, (∀ k, 1 ≤ k → k ≤ h → f k = g k) → bigTo op e f h = bigTo op e g h
  | 0, _ => rfl
  | h + 1, hh => by simp only [bigTo]; rw [bigTo_congr (fun k h1 h2 => hh k h1 (by omega)), hh (h + 1) (by omega) (by omega)]

theorem no_inj : ∀ (h : Nat) (m : Nat → Nat), (∀ k, 1 ≤ k → k ≤ h + 1 → 1 ≤ m k ∧ m k ≤ h) → (∀ j k, 1 ≤ j → j ≤ h + 1 → 1 ≤ k → k ≤ h + 1 → m j = m k → j = k) → False
  | 0, m, hr, _ => by have := hr 1 (by omega) (by omega); omega
  | h + 1, m, hr, hi => by
    refine no_inj h (fun k => if m k = h + 1 then m (h + 2) else m k) (fun k h1 h2 => ?_) (fun j k j1 j2 k1 k2 he => ?_)
    · have a1 := hr k h1 (by omega)
      have a2 := hr (h + 2) (by omega) (by omega)
      split
      · rename_i e
        have : m (h + 2) ≠ h + 1 := fun e2 => by have := hi k (h + 2) h1 (by omega) (by omega) (by omega) (by omega); omega
        omega
      · omega
    · split at he <;> split at he
      · exact hi j k j1 (by omega) k1 (by omega) (by omega)
      · have := hi (h + 2) k (by omega) (by omega) k1 (by omega) he; omega
      · have := hi j (h + 2) j1 (by omega) (by omega) (by omega) he; omega
      · exact hi j k j1 (by omega) k1 (by omega) he

section
variable {α : Type} {op : α → α → α} {e : α} (hc : ∀ a b, op a b = op b a) (ha : ∀ a b c, op (op a b) c = op a (op b c))
include hc ha
theorem bigTo_swap {g g' : Nat → α} {k0 : Nat} : ∀ {h : Nat}, 1 ≤ k0 → k0 ≤ h → (∀ k, 1 ≤ k → k ≤ h → k ≠ k0 → g k = g' k) → op (bigTo op e g h) (g' k0) = op (bigTo op e g' h) (g k0)
  | 0, h1, h2, _ => by omega
  | h + 1, h1, h2, hh => by
    simp only [bigTo]
    by_cases hk : k0 = h + 1
    · subst hk
      rw [bigTo_congr (fun k a b => hh k a (by omega) (by omega)), ha, ha, hc (g (h + 1))]
    · have ih := bigTo_swap (h := h) h1 (by omega) (fun k a b c => hh k a (by omega) c)
      rw [ha, hc (g (h + 1)), ← ha, ih, ha, hc (g k0), ← ha, hh (h + 1) (by omega) (by omega) (fun e => hk e.symm)]

theorem bigTo_perm {f : Nat → α} : ∀ (h : Nat) (m : Nat → Nat), (∀ k, 1 ≤ k → k ≤ h → 1 ≤ m k ∧ m k ≤ h) → (∀ j k, 1 ≤ j → j ≤ h → 1 ≤ k → k ≤ h → m j = m k → j = k) →
    bigTo op e (fun k => f (m k)) h = bigTo op e f h
  | 0, _, _, _ => rfl
  | h + 1, m, hr, hi => by
    by_cases hcc : m (h + 1) = h + 1
    · simp only [bigTo, hcc]
      rw [bigTo_perm h m (fun k h1 h2 => ?_) (fun j k a b c d => hi j k a (by omega) c (by omega))]
      have := hr k h1 (by omega)
      have h3 : m k ≠ h + 1 := fun e => by have := hi k (h + 1) h1 (by omega) (by omega) (by omega) (by omega); omega
      omega
    · have hcr := hr (h + 1) (by omega) (by omega)
      by_cases hex : ∃ k0, 1 ≤ k0 ∧ k0 ≤ h ∧ m k0 = h + 1
      · obtain ⟨k0, hk1, hk2, hk3⟩ := hex
        have uniq : ∀ k, 1 ≤ k → k ≤ h → k ≠ k0 → m k ≠ h + 1 := fun k a b c e => c (hi k k0 a (by omega) hk1 (by omega) (by omega))
        have ih := bigTo_perm (f := f) h (fun k => if m k = h + 1 then m (h + 1) else m k) (fun k h1 h2 => by
          have := hr k h1 (by omega); split <;> omega) (fun j k j1 j2 k1 k2 he => by
          split at he <;> split at he
          · exact hi j k j1 (by omega) k1 (by omega) (by omega)
          · have := hi (h + 1) k (by omega) (by omega) k1 (by omega) he; omega
          · have := hi j (h + 1) j1 (by omega) (by omega) (by omega) he; omega
          · exact hi j k j1 (by omega) k1 (by omega) he)
        simp only [bigTo]
        rw [← ih]
        have sw := bigTo_swap (e := e) hc ha (g := fun k => f (m k)) (g' := fun k => f (if m k = h + 1 then m (h + 1) else m k)) hk1 hk2 (fun k a b c => by simp only [if_neg (uniq k a b c)])
        simp only [hk3, if_true] at sw
        exact sw
      · exfalso
        refine no_inj h m (fun k h1 h2 => ?_) (fun j k a b c d => hi j k a b c d)
        have := hr k h1 h2
        by_cases hk : k = h + 1
        · subst hk; omega
        · have : m k ≠ h + 1 := fun e => hex ⟨k, h1, by omega, e⟩
          omega
end

theorem sumTo_perm {f : Nat → Nat} (h : Nat) (m : Nat → Nat) (hr : ∀ k, 1 ≤ k → k ≤ h → 1 ≤ m k ∧ m k ≤ h) (hi : ∀ j k, 1 ≤ j → j ≤ h → 1 ≤ k → k ≤ h → m j = m k → j = k) :
    sumTo (fun k => f (m k)) h = sumTo f h := bigTo_perm Nat.add_comm Nat.add_assoc h m hr hi
theorem sumTo_succ (f : Nat → Nat) (h : Nat) : sumTo f (h + 1) = sumTo f h + f (h + 1) := rfl
theorem sumTo_congr {f g : Nat → Nat} {h : Nat} (hh : ∀ k, 1 ≤ k → k ≤ h → f k = g k) : sumTo f h = sumTo g h := bigTo_congr hh
theorem sumTo_add (f g : Nat → Nat) : ∀ h, sumTo (fun k => f k + g k) h = sumTo f h + sumTo g h
  | 0 => rfl
  | h + 1 => by simp only [sumTo_succ, sumTo_add f g h]; omega
theorem sumTo_mul (c : Nat) (f : Nat → Nat) : ∀ h, sumTo (fun k => c * f k) h = c * sumTo f h
  | 0 => rfl
  | h + 1 => by simp only [sumTo_succ, sumTo_mul c f h, Nat.mul_add]
theorem sumTo_mod (f g : Nat → Nat) : ∀ h, (∀ k, 1 ≤ k → k ≤ h → f k % 2 = g k % 2) → sumTo f h % 2 = sumTo g h % 2
  | 0, _ => rfl
  | h + 1, hh => by
    have := sumTo_mod f g h (fun k a b => hh k a (by omega))
    have := hh (h + 1) (by omega) (by omega)
    simp only [sumTo_succ]; omega
theorem sumTo_const (c : Nat) : ∀ h, sumTo (fun _ => c) h = c * h
  | 0 => rfl
  | h + 1 => by simp only [sumTo_succ, sumTo_const c h, Nat.mul_add, Nat.mul_one]
theorem sumTo_swap (f : Nat → Nat → Nat) : ∀ (h h' : Nat), sumTo (fun k => sumTo (fun j => f k j) h') h = sumTo (fun j => sumTo (fun k => f k j) h) h'
  | 0, h' => by
    show 0 = sumTo (fun _ => 0) h'
    rw [sumTo_const]; omega
  | h + 1, h' => by
    rw [sumTo_succ, sumTo_swap f h h', ← sumTo_add]
    exact sumTo_congr fun j _ _ => rfl

/-! ### Gauss's count -/
/-- How many of the first (n - 1) / 2 multiples of a leave more than half of n. -/
def G (a n : Nat) : Nat := sumTo (fun k => if a * k % n > n / 2 then 1 else 0) (n / 2)
/-- The least of a remainder and its negative. -/
def lst (a n k : Nat) : Nat := if a * k % n > n / 2 then n - a * k % n else a * k % n

section
variable {a n : Nat} (hn : n % 2 = 1) (hco : Nat.Coprime a n)
include hn hco
theorem rem_pos {k : Nat} (h1 : 1 ≤ k) (h2 : k < n) : 1 ≤ a * k % n := by
  rcases Nat.eq_zero_or_pos (a * k % n) with h | h
  · exfalso
    have hd := Nat.dvd_of_mod_eq_zero h
    have := Nat.Coprime.dvd_of_dvd_mul_left hco.symm hd
    have := Nat.le_of_dvd (by omega) this
    omega
  · exact h
theorem lst_range {k : Nat} (h1 : 1 ≤ k) (h2 : k ≤ n / 2) : 1 ≤ lst a n k ∧ lst a n k ≤ n / 2 := by
  have := rem_pos hn hco h1 (by omega)
  have := Nat.mod_lt (a * k) (by omega : n > 0)
  unfold lst; split <;> omega
theorem lst_inj {j k : Nat} (j1 : 1 ≤ j) (j2 : j ≤ n / 2) (k1 : 1 ≤ k) (k2 : k ≤ n / 2) (he : lst a n j = lst a n k) : j = k := by
  have key : ∀ {j k : Nat}, j ≤ k → k ≤ n / 2 → a * j % n = a * k % n → j = k := by
    intro j k hjk hk hmod
    have hd : n ∣ a * (k - j) := by
      rw [Nat.mul_sub]
      exact Nat.dvd_of_mod_eq_zero (Nat.sub_mod_eq_zero_of_mod_eq hmod.symm)
    have := Nat.Coprime.dvd_of_dvd_mul_left hco.symm hd
    rcases Nat.eq_zero_or_pos (k - j) with h0 | h0
    · omega
    · have := Nat.le_of_dvd h0 this; omega
  have key2 : a * j % n + a * k % n = n → False := by
    intro hs
    have hd : n ∣ a * (j + k) := by
      apply Nat.dvd_of_mod_eq_zero
      rw [Nat.mul_add, Nat.add_mod, hs, Nat.mod_self]
    have := Nat.Coprime.dvd_of_dvd_mul_left hco.symm hd
    have := Nat.le_of_dvd (by omega) this; omega
  have l1 := Nat.mod_lt (a * j) (by omega : n > 0)
  have l2 := Nat.mod_lt (a * k) (by omega : n > 0)
  unfold lst at he
  have fin : a * j % n = a * k % n → j = k := fun h => by
    rcases Nat.le_total j k with h' | h'
    · exact key h' k2 h
    · exact (key h' j2 h.symm).symm
  split at he <;> split at he
  · exact fin (by omega)
  · exact (key2 (by omega)).elim
  · exact (key2 (by omega)).elim
  · exact fin he
end

theorem G_mod (a n : Nat) : G (a % n) n = G a n := by
  unfold G
  refine sumTo_congr fun k _ _ => ?_
  rw [Nat.mod_mul_mod]
theorem G_one {n : Nat} : G 1 n = 0 := by
  unfold G
  rw [sumTo_congr (g := fun _ => 0) (fun k h1 h2 => ?_), sumTo_const]; · omega
  rw [Nat.one_mul, Nat.mod_eq_of_lt (by omega), if_neg (by omega)]

theorem G_mul {a b n : Nat} (hn : n % 2 = 1) (ha : Nat.Coprime a n) (hb : Nat.Coprime b n) : G (a * b) n % 2 = (G a n + G b n) % 2 := by
  have hp : G a n = sumTo (fun k => if a * lst b n k % n > n / 2 then 1 else 0) (n / 2) := by
    unfold G
    exact (sumTo_perm (f := fun k => if a * k % n > n / 2 then 1 else 0) (n / 2) (lst b n) (fun k h1 h2 => lst_range hn hb h1 h2) (fun j k => lst_inj hn hb)).symm
  rw [hp]
  unfold G
  rw [← sumTo_add]
  refine sumTo_mod _ _ _ fun k h1 h2 => ?_
  have hlr := lst_range hn hb h1 h2
  have hra := rem_pos hn ha hlr.1 (by omega)
  have e1 : a * b * k % n = a * (b * k % n) % n := by rw [Nat.mul_assoc, Nat.mul_mod_mod]
  have lb := Nat.mod_lt (b * k) (by omega : n > 0)
  have la := Nat.mod_lt (a * lst b n k) (by omega : n > 0)
  rw [e1]
  by_cases hs : b * k % n > n / 2
  · have hl : lst b n k = n - b * k % n := by unfold lst; rw [if_pos hs]
    rw [hl] at hra la ⊢
    rw [if_pos hs]
    have : a * (b * k % n) % n = n - a * (n - b * k % n) % n := by
      have hsum : (a * (b * k % n) + a * (n - b * k % n)) % n = 0 := by
        rw [← Nat.mul_add, show b * k % n + (n - b * k % n) = n by omega, Nat.mul_mod_left]
      rw [Nat.add_mod] at hsum
      have l3 := Nat.mod_lt (a * (b * k % n)) (by omega : n > 0)
      have hd := Nat.dvd_of_mod_eq_zero hsum
      obtain ⟨q, hq⟩ := hd
      have : q = 1 := by
        rcases q with _ | _ | q
        · simp at hq; omega
        · rfl
        · have : n * (q + 1 + 1) ≥ n * 2 := Nat.mul_le_mul_left n (by omega)
          omega
      subst this; omega
    rw [this]
    split <;> split <;> omega
  · have hl : lst b n k = b * k % n := by unfold lst; rw [if_neg hs]
    rw [hl, if_neg hs]
    simp

def F (a n : Nat) : Nat := sumTo (fun k => a * k / n) (n / 2)
def T (h : Nat) : Nat := sumTo (fun k => k) h
theorem T_eq : ∀ h, 2 * T h = h * (h + 1)
  | 0 => rfl
  | h + 1 => by
    have := T_eq h
    unfold T at this ⊢
    rw [sumTo_succ, Nat.mul_add, this]
    simp only [Nat.mul_add, Nat.add_mul, Nat.mul_one, Nat.one_mul]; omega

theorem gauss_sum {a n : Nat} (hn : n % 2 = 1) (ha : Nat.Coprime a n) : (a * T (n / 2)) % 2 = (F a n + G a n + T (n / 2)) % 2 := by
  have hp : T (n / 2) = sumTo (fun k => lst a n k) (n / 2) := by
    unfold T
    exact (sumTo_perm (f := fun k => k) (n / 2) (lst a n) (fun k h1 h2 => lst_range hn ha h1 h2) (fun j k => lst_inj hn ha)).symm
  conv => rhs; rw [hp]
  unfold F G T
  rw [← sumTo_mul, ← sumTo_add, ← sumTo_add]
  refine sumTo_mod _ _ _ fun k h1 h2 => ?_
  have l := Nat.mod_lt (a * k) (by omega : n > 0)
  have e := Nat.div_add_mod (a * k) n
  have em : n * (a * k / n) % 2 = a * k / n % 2 := by
    rw [Nat.mul_mod, hn, Nat.one_mul, Nat.mod_mod]
  unfold lst
  split <;> omega

theorem G_two {n : Nat} (hn : n % 2 = 1) : G 2 n % 2 = if n % 8 = 3 ∨ n % 8 = 5 then 1 else 0 := by
  have hco : Nat.Coprime 2 n := by
    have := coprime_of_prime (p := 2) (a := n) ⟨by omega, fun d hd => by have := Nat.le_of_dvd (by omega) hd; rcases d with _ | _ | _ | d <;> simp_all⟩ (by omega)
    exact this.symm
  have h := gauss_sum hn hco
  have hF : F 2 n = 0 := by
    unfold F
    rw [sumTo_congr (g := fun _ => 0) (fun k h1 h2 => Nat.div_eq_of_lt (by omega)), sumTo_const]; omega
  rw [hF] at h
  have ht := T_eq (n / 2)
  have hq : ∃ q r, n = 8 * q + r ∧ (r = 1 ∨ r = 3 ∨ r = 5 ∨ r = 7) := ⟨n / 8, n % 8, by omega, by omega⟩
  obtain ⟨q, r, rfl, hr⟩ := hq
  have h4 : (8 * q + r) / 2 = 4 * q + r / 2 := by omega
  rw [h4] at ht h
  generalize T (4 * q + r / 2) = t at ht h
  have hm : ∃ z, (4 * q + r / 2) * (4 * q + r / 2 + 1) = 4 * z + (r / 2) * (r / 2 + 1) := by
    refine ⟨4 * q * q + q * (r / 2) + q * (r / 2 + 1), ?_⟩
    simp only [Nat.add_mul, Nat.mul_add, Nat.mul_assoc, Nat.mul_comm, Nat.mul_left_comm, Nat.mul_one]; omega
  obtain ⟨z, hz⟩ := hm
  rw [hz] at ht
  rcases hr with rfl | rfl | rfl | rfl <;> simp at ht ⊢ <;> omega

theorem G_odd {a n : Nat} (hn : n % 2 = 1) (ha : Nat.Coprime a n) (hodd : a % 2 = 1) : G a n % 2 = F a n % 2 := by
  have h := gauss_sum hn ha
  rw [Nat.mul_mod, hodd, Nat.one_mul, Nat.mod_mod] at h
  omega

theorem floor_count {n x : Nat} (hn : 0 < n) : ∀ H, x / n ≤ H → sumTo (fun j => if n * j ≤ x then 1 else 0) H = x / n := by
  have key : ∀ H, sumTo (fun j => if n * j ≤ x then 1 else 0) H = min H (x / n) := by
    intro H
    induction H with
    | zero => simp [sumTo, bigTo]
    | succ H ih =>
      rw [sumTo_succ, ih]
      by_cases h : n * (H + 1) ≤ x
      · have : H + 1 ≤ x / n := (Nat.le_div_iff_mul_le hn).2 (by rw [Nat.mul_comm]; exact h)
        rw [if_pos h]; omega
      · have : ¬ H + 1 ≤ x / n := fun hh => h (by have := (Nat.le_div_iff_mul_le hn).1 hh; rw [Nat.mul_comm]; exact this)
        rw [if_neg h]; omega
  intro H hH
  rw [key]; omega

theorem F_add {a n : Nat} (hn : n % 2 = 1) (ha : a % 2 = 1) (hco : Nat.Coprime a n) : F a n + F n a = (a / 2) * (n / 2) := by
  have bound : ∀ {a n k : Nat}, n % 2 = 1 → a % 2 = 1 → k ≤ n / 2 → a * k / n ≤ a / 2 := by
    intro a n k hn ha hk
    have h1 : a * k ≤ a * (n / 2) := Nat.mul_le_mul_left a hk
    have h2 : a * k / n < a / 2 + 1 := by
      rw [Nat.div_lt_iff_lt_mul (by omega)]
      have e1 : n = 2 * (n / 2) + 1 := by omega
      have e2 : a = 2 * (a / 2) + 1 := by omega
      generalize n / 2 = p at *
      generalize a / 2 = q at *
      subst e1; subst e2
      have : (q + 1) * (2 * p + 1) = (2 * q + 1) * p + p + q + 1 := by
        simp only [Nat.add_mul, Nat.mul_add, Nat.mul_comm, Nat.mul_left_comm, Nat.mul_one, Nat.one_mul]; omega
      omega
    omega
  have f1 : F a n = sumTo (fun k => sumTo (fun j => if n * j ≤ a * k then 1 else 0) (a / 2)) (n / 2) := by
    unfold F
    exact sumTo_congr fun k h1 h2 => (floor_count (by omega) _ (bound hn ha h2)).symm
  have f2 : F n a = sumTo (fun k => sumTo (fun j => if a * k ≤ n * j then 1 else 0) (a / 2)) (n / 2) := by
    rw [sumTo_swap]
    unfold F
    exact sumTo_congr fun k h1 h2 => (floor_count (by omega) _ (bound ha hn h2)).symm
  rw [f1, f2, ← sumTo_add, sumTo_congr (g := fun _ => a / 2) (fun k h1 h2 => ?_), sumTo_const]
  rw [← sumTo_add, sumTo_congr (g := fun _ => 1) (fun j j1 j2 => ?_), sumTo_const, Nat.one_mul]
  have : n * j ≠ a * k := fun e => by
    have hd : n ∣ a * k := ⟨j, e.symm⟩
    have := Nat.Coprime.dvd_of_dvd_mul_left hco.symm hd
    have := Nat.le_of_dvd (by omega) this
    omega
  split <;> split <;> omega

/-- The law of quadratic reciprocity. -/
theorem G_swap {a n : Nat} (hn : n % 2 = 1) (ha : a % 2 = 1) (hco : Nat.Coprime a n) : G a n % 2 = (G n a + if a % 4 = 3 ∧ n % 4 = 3 then 1 else 0) % 2 := by
  have h1 := G_odd hn hco ha
  have h2 := G_odd ha hco.symm hn
  have h3 := F_add hn ha hco
  have h4 : (a / 2) * (n / 2) % 2 = if a % 4 = 3 ∧ n % 4 = 3 then 1 else 0 := by
    rw [Nat.mul_mod]
    have ea : a / 2 % 2 = if a % 4 = 3 then 1 else 0 := by split <;> omega
    have en : n / 2 % 2 = if n % 4 = 3 then 1 else 0 := by split <;> omega
    rw [ea, en]
    by_cases x1 : a % 4 = 3 <;> by_cases x2 : n % 4 = 3 <;> simp [x1, x2]
  rw [← h4, ← h3]; omega

end Go.NT
namespace Go.NT

set_option maxRecDepth 100000 in
theorem primeP : IsPrime 2147483579 := prime_of_noDiv (k := 46340) (by decide) (by decide +kernel) (by decide)
set_option maxRecDepth 100000 in
theorem primeQ : IsPrime 1073741789 := prime_of_noDiv (k := 32767) (by decide) (by decide +kernel) (by decide)

/-! ### Powers modulo m -/
theorem mul_mod_congr {a a' b b' m : Int} (ha : a % m = a' % m) (hb : b % m = b' % m) : a * b % m = a' * b' % m := by
  rw [Int.mul_emod, ha, hb, ← Int.mul_emod]
theorem pow_mod (a m : Int) : ∀ n : Nat, (a % m) ^ n % m = a ^ n % m
  | 0 => by simp
  | n + 1 => by rw [Int.pow_succ, Int.pow_succ]; exact mul_mod_congr (pow_mod a m n) (by simp)
theorem pow_mod_congr {a b m : Int} (h : a % m = b % m) (n : Nat) : a ^ n % m = b ^ n % m := by rw [← pow_mod a, h, pow_mod]

theorem int_prime_mul {p : Nat} (hp : IsPrime p) {x y : Int} (h : (p : Int) ∣ x * y) : (p : Int) ∣ x ∨ (p : Int) ∣ y := by
  have h' : p ∣ x.natAbs * y.natAbs := by
    have := Int.natAbs_dvd_natAbs.2 h
    rwa [Int.natAbs_mul, Int.natAbs_natCast] at this
  rcases prime_mul hp h' with h | h
  · exact .inl (Int.dvd_natAbs.1 (Int.natCast_dvd_natCast.2 h))
  · exact .inr (Int.dvd_natAbs.1 (Int.natCast_dvd_natCast.2 h))

def prodTo (f : Nat → Int) (h : Nat) : Int := bigTo (· * ·) 1 f h
theorem prodTo_succ (f : Nat → Int) (h : Nat) : prodTo f (h + 1) = prodTo f h * f (h + 1) := rfl
theorem prodTo_mul (f g : Nat → Int) : ∀ h, prodTo (fun k => f k * g k) h = prodTo f h * prodTo g h
  | 0 => rfl
  | h + 1 => by simp only [prodTo_succ, prodTo_mul f g h, Int.mul_assoc, Int.mul_comm, Int.mul_left_comm]
theorem prodTo_const (c : Int) : ∀ h, prodTo (fun _ => c) h = c ^ h
  | 0 => by simp [prodTo, bigTo]
  | h + 1 => by rw [prodTo_succ, prodTo_const c h, Int.pow_succ]
theorem dvd_mul_sub {p a b c d : Int} (h1 : p ∣ a - b) (h2 : p ∣ c - d) : p ∣ a * c - b * d := by
  have : a * c - b * d = (a - b) * c + b * (c - d) := by rw [Int.sub_mul, Int.mul_sub]; omega
  rw [this]
  exact Int.dvd_add (Int.dvd_mul_of_dvd_left h1) (Int.dvd_mul_of_dvd_right h2)
theorem prodTo_dvd {p : Int} {f g : Nat → Int} : ∀ h, (∀ k, 1 ≤ k → k ≤ h → p ∣ f k - g k) → p ∣ prodTo f h - prodTo g h
  | 0, _ => by simp [prodTo, bigTo]
  | h + 1, hh => by
    rw [prodTo_succ, prodTo_succ]
    exact dvd_mul_sub (prodTo_dvd h fun k a b => hh k a (by omega)) (hh (h + 1) (by omega) (by omega))
theorem prodTo_sign (s : Nat → Bool) : ∀ h, prodTo (fun k => if s k then -1 else 1) h = (-1) ^ sumTo (fun k => if s k then 1 else 0) h
  | 0 => rfl
  | h + 1 => by
    rw [prodTo_succ, sumTo_succ, prodTo_sign s h, Int.pow_add]
    cases s (h + 1) <;> simp
theorem fact_coprime {p : Nat} (hp : IsPrime p) : ∀ h, h < p → ¬ (p : Int) ∣ prodTo (fun k => (k : Int)) h
  | 0, _ => by
    intro hd
    have h1 : (p : Int) ∣ 1 := hd
    have := Int.le_of_dvd (by decide) h1
    have := hp.1; omega
  | h + 1, hh => by
    intro hd
    rw [prodTo_succ] at hd
    rcases int_prime_mul hp hd with h1 | h1
    · exact fact_coprime hp h (by omega) h1
    · have := Int.le_of_dvd (by omega) h1; omega

theorem gauss {p a : Nat} (hp : IsPrime p) (hodd : p % 2 = 1) (ha : ¬ p ∣ a) : (p : Int) ∣ (a : Int) ^ (p / 2) - (-1) ^ G a p := by
  have hco := coprime_of_prime hp ha
  let s : Nat → Bool := fun k => decide (a * k % p > p / 2)
  have h1 : (p : Int) ∣ prodTo (fun k => (a : Int) * k) (p / 2) - prodTo (fun k => (if s k then -1 else 1) * (lst a p k : Int)) (p / 2) := by
    refine prodTo_dvd _ fun k k1 k2 => ?_
    have e := Nat.div_add_mod (a * k) p
    have l := Nat.mod_lt (a * k) (by omega : p > 0)
    have e' : (a : Int) * k = p * (a * k / p : Nat) + (a * k % p : Nat) := by rw [← Int.natCast_mul, ← Int.natCast_mul, ← Int.natCast_add, e]
    rw [e']
    by_cases hs : a * k % p > p / 2
    · have hl : lst a p k = p - a * k % p := by unfold lst; rw [if_pos hs]
      simp only [s, hs, decide_true, if_true, hl]
      refine ⟨(a * k / p : Nat) + 1, ?_⟩
      rw [Int.mul_add]; omega
    · have hl : lst a p k = a * k % p := by unfold lst; rw [if_neg hs]
      simp only [s, hs, decide_false, hl]
      refine ⟨(a * k / p : Nat), ?_⟩
      simp
  rw [prodTo_mul, prodTo_mul, prodTo_const, prodTo_sign] at h1
  have h2 : prodTo (fun k => (lst a p k : Int)) (p / 2) = prodTo (fun k => (k : Int)) (p / 2) :=
    bigTo_perm (f := fun k => (k : Int)) Int.mul_comm Int.mul_assoc (p / 2) (lst a p) (fun k h1 h2 => lst_range hodd hco h1 h2) (fun j k => lst_inj hodd hco)
  rw [h2, ← Int.sub_mul] at h1
  have h3 : sumTo (fun k => if s k then 1 else 0) (p / 2) = G a p := by
    unfold G
    exact sumTo_congr fun k _ _ => by simp [s]
  rw [h3] at h1
  rcases int_prime_mul hp h1 with h | h
  · exact h
  · exact (fact_coprime hp _ (by omega) h).elim

theorem neg_one_pow (k : Nat) : (-1 : Int) ^ k = if k % 2 = 0 then 1 else -1 := by
  induction k with
  | zero => rfl
  | succ k ih => rw [Int.pow_succ, ih]; split <;> split <;> omega

/-! ### The group -/
def validS (x : Int) : Bool := decide (1 ≤ x ∧ x < 2147483579 ∧ x ^ 1073741789 % 2147483579 = 1)

theorem euler {x : Nat} (h1 : 1 ≤ x) (h2 : x < 2147483579) : (x : Int) ^ 1073741789 % 2147483579 = if G x 2147483579 % 2 = 0 then 1 else 2147483578 := by
  have h := gauss (p := 2147483579) (a := x) primeP (by decide) (fun hd => by have := Nat.le_of_dvd (by omega) hd; omega)
  rw [neg_one_pow] at h
  obtain ⟨q, hq⟩ := h
  have e : (2147483579 / 2 : Nat) = 1073741789 := by decide
  rw [e] at hq
  generalize (x : Int) ^ 1073741789 = y at *
  split at hq <;> rename_i hg
  · rw [if_pos hg]; omega
  · rw [if_neg hg]; omega

theorem validS_iff {x : Nat} (h1 : 1 ≤ x) (h2 : x < 2147483579) : validS x = decide (G x 2147483579 % 2 = 0) := by
  unfold validS
  rw [euler h1 h2]
  by_cases h : G x 2147483579 % 2 = 0 <;> simp [h] <;> omega

theorem euler_cases {x : Int} (h1 : 1 ≤ x) (h2 : x < 2147483579) : x ^ 1073741789 % 2147483579 = 1 ∨ x ^ 1073741789 % 2147483579 = 2147483578 := by
  obtain ⟨k, rfl⟩ := Int.eq_ofNat_of_zero_le (by omega : 0 ≤ x)
  rw [euler (by omega) (by omega)]
  split <;> simp

theorem validS_inv {x : Int} (h : validS x = true) : 1 ≤ x ∧ x < 2147483579 ∧ x ^ 1073741789 % 2147483579 = 1 := by simpa [validS] using h

/-- A number modulo P whose power to Q is 1. -/
theorem valid_of_pow {y : Int} (h : y ^ 1073741789 % 2147483579 = 1) : validS (y % 2147483579) = true := by
  have h1 : (y % 2147483579) ^ 1073741789 % 2147483579 = 1 := by rw [pow_mod]; exact h
  have h2 := Int.emod_nonneg y (by decide : (2147483579 : Int) ≠ 0)
  have h3 := Int.emod_lt_of_pos y (by decide : (0 : Int) < 2147483579)
  have h4 : y % 2147483579 ≠ 0 := fun e => by
    rw [e, Int.zero_pow (by decide)] at h1
    exact absurd h1 (by decide)
  simp only [validS, decide_eq_true_eq]
  exact ⟨by omega, h3, h1⟩

theorem valid_mul {a b : Int} (ha : validS a = true) (hb : validS b = true) : validS (a * b % 2147483579) = true := by
  refine valid_of_pow ?_
  rw [Int.mul_pow]
  have := mul_mod_congr (a' := 1) (b' := 1) (m := 2147483579) (by rw [(validS_inv ha).2.2]; rfl) (by rw [(validS_inv hb).2.2]; rfl)
  rw [this]; decide

theorem valid_pow {a : Int} (ha : validS a = true) (n : Nat) : validS (a ^ n % 2147483579) = true := by
  refine valid_of_pow ?_
  rw [← Int.pow_mul, Nat.mul_comm, Int.pow_mul, pow_mod_congr (b := 1) (by rw [(validS_inv ha).2.2]; rfl), Int.one_pow]
  decide

theorem valid_one : validS 1 = true := by
  simp only [validS, decide_eq_true_eq]
  exact ⟨by decide, by decide, by rw [Int.one_pow]; decide⟩

theorem pow_period {a : Int} (ha : validS a = true) (n : Nat) : a ^ (n % 1073741789) % 2147483579 = a ^ n % 2147483579 := by
  conv => rhs; rw [← Nat.div_add_mod n 1073741789, Int.pow_add, Int.pow_mul]
  have := mul_mod_congr (a := (a ^ 1073741789) ^ (n / 1073741789)) (a' := 1) (b := a ^ (n % 1073741789)) (b' := a ^ (n % 1073741789)) (m := 2147483579)
    (by rw [pow_mod_congr (b := 1) (by rw [(validS_inv ha).2.2]; rfl), Int.one_pow]) rfl
  rw [this]; simp

theorem valid_sq {x : Int} (h1 : 1 ≤ x) (h2 : x < 2147483579) : validS (x * x % 2147483579) = true := by
  refine valid_of_pow ?_
  rw [Int.mul_pow]
  rcases euler_cases h1 h2 with h | h
  · rw [mul_mod_congr (a' := 1) (b' := 1) (by rw [h]; rfl) (by rw [h]; rfl)]; decide
  · rw [mul_mod_congr (a' := 2147483578) (b' := 2147483578) (by rw [h]; rfl) (by rw [h]; rfl)]; decide

theorem neg_pow_odd (x : Int) (k : Nat) (h : k % 2 = 1) : (-x) ^ k = - (x ^ k) := by
  have : -x = (-1) * x := by omega
  rw [this, Int.mul_pow, neg_one_pow, if_neg (by omega)]; omega

theorem valid_neg {x : Int} (h1 : 1 ≤ x) (h2 : x < 2147483579) : validS (2147483579 - x) = !validS x := by
  have e : (2147483579 - x) ^ 1073741789 % 2147483579 = (- (x ^ 1073741789)) % 2147483579 := by
    rw [← neg_pow_odd _ _ (by decide)]
    exact pow_mod_congr (by omega) _
  have e2 : (- (x ^ 1073741789)) % 2147483579 = if x ^ 1073741789 % 2147483579 = 1 then 2147483578 else 1 := by
    rcases euler_cases h1 h2 with h | h
    · generalize x ^ 1073741789 = y at *; rw [if_pos h]; omega
    · generalize x ^ 1073741789 = y at *; rw [if_neg (by omega)]; omega
  unfold validS
  rw [e, e2]
  rcases euler_cases h1 h2 with h | h <;> rw [h] <;> simp <;> omega

end Go.NT
end
section
/- The walks of package group, first part: least, squares. -/
namespace Go.Sg
open Go.Rn Go.NT Go.Proofs

def ints (l : List Int) : List Value := l.map (Value.int .i64)
theorem ints_get {l : List Int} {i : Nat} (h : i < l.length) : (ints l)[i]? = some (.int .i64 l[i]) := by simp [ints, h]

theorem tmod_cases (n Q : Int) (hQ : 0 < Q) : (n.tmod Q = n % Q ∧ 0 ≤ n % Q ∧ n % Q < Q) ∨ (n.tmod Q = n % Q - Q ∧ 0 < n % Q ∧ n % Q < Q) := by
  have h2 := Int.emod_nonneg n (by omega : Q ≠ 0)
  have h3 := Int.emod_lt_of_pos n hQ
  rw [Int.tmod_eq_emod]
  by_cases h : 0 ≤ n ∨ Q ∣ n
  · rw [if_pos h]; left; omega
  · rw [if_neg h]
    have : n % Q ≠ 0 := fun e => h (.inr (Int.dvd_of_emod_eq_zero e))
    right; omega

/-- group.least: a product of numbers, modulo Q. -/
def leastS (l : List Int) : Int := l.foldl (fun n x => n * (x.tmod 1073741789 + 1073741789) % 1073741789) 1

theorem tmodQ (x : Int) : -1073741789 < x.tmod 1073741789 ∧ x.tmod 1073741789 < 1073741789 := by
  have h1 := Int.emod_nonneg x (by decide : (1073741789 : Int) ≠ 0)
  have h2 := Int.emod_lt_of_pos x (by decide : (0 : Int) < 1073741789)
  rw [Int.tmod_eq_emod]; split <;> simp <;> omega

theorem mulmod_bd {a b : Int} (ha : 0 ≤ a) (ha' : a < 2147483579) (hb : 0 ≤ b) (hb' : b < 2147483579) : 0 ≤ a * b ∧ a * b < 4611686018427387904 := by
  refine ⟨Int.mul_nonneg ha hb, ?_⟩
  have := Int.mul_le_mul (show a ≤ 2147483578 by omega) (show b ≤ 2147483578 by omega) hb (by decide)
  omega

theorem mulQ_bd {a b : Int} (ha : 0 ≤ a) (ha' : a < 1073741789) (hb : 0 ≤ b) (hb' : b < 2147483578) : 0 ≤ a * b ∧ a * b < 4611686018427387904 := by
  refine ⟨Int.mul_nonneg ha hb, ?_⟩
  have := Int.mul_le_mul (show a ≤ 2147483578 by omega) (show b ≤ 2147483578 by omega) hb (by decide)
  omega

theorem leastS_snoc (l : List Int) (x : Int) : leastS (l ++ [x]) = leastS l * (x.tmod 1073741789 + 1073741789) % 1073741789 := by simp [leastS]
theorem leastS_bd (l : List Int) : 0 ≤ leastS l ∧ leastS l < 1073741789 := by
  suffices h : ∀ m : List Int, 0 ≤ leastS m.reverse ∧ leastS m.reverse < 1073741789 by simpa using h l.reverse
  intro m
  induction m with
  | nil => decide
  | cons x m ih =>
    rw [List.reverse_cons, leastS_snoc]
    exact ⟨Int.emod_nonneg _ (by decide), Int.emod_lt_of_pos _ (by decide)⟩

theorem take_snoc {α : Type} (l : List α) (k : Nat) (h : k < l.length) : l.take (k + 1) = l.take k ++ [l[k]] := by
  rw [List.take_succ_eq_append_getElem h]

theorem least_ok (l : List Int) (b o cap : Nat) (w : World) (hr : Row w b o (ints l)) (hl : l.length < 9223372036854775807) :
    Rets Tryd.prog 59 [.slice (some ⟨b, o, none⟩) l.length cap] w fun v w' => v = .int .i64 (leastS l) ∧ w = w' := by
  refine RetsX.of (nt := 20) Tryd.func59 (by kernel_rfl) rfl rfl (by simp) (by simp only [argEnv]; rfl) ?_
  repeat (first | refine RunL.pureI Tryd.tOk rfl rfl rfl (by (first | exact wr_i64 (by omega) (by omega) | exact wm_i64 (by omega) | exact wq_i64 (by omega) (by omega) (by omega) | rfl)) ?_ | refine RunL.pure Tryd.tOk rfl rfl rfl ?_ | refine RunE.seq ?_ | refine RunE.region ?_ | refine RunL.nil ?_ | refine RunE.block ?_)
  refine RunE.loop (ι := Nat) (fun j => [(3, .int .i64 (leastS (l.take j))), (6, .slice (some ⟨b, o, none⟩) l.length cap), (7, .int .i64 l.length), (8, .int .i64 (j : Int))])
    (fun j w' => w' = w ∧ j ≤ l.length) (fun j => l.length - j) 0 (by repeat (first | exact Sub.nil _ | refine Sub.cons rfl ?_)) ⟨rfl, by omega⟩ ?_
  rintro j w' ⟨rfl, hj⟩ IH
  repeat (first | refine RunL.pure Tryd.tOk rfl rfl rfl ?_ | refine RunE.seq ?_ | refine RunE.region ?_ | refine RunL.nil ?_)
  refine RunE.cond rfl (fun h => ?_) (fun h => ?_) <;> (first | replace h := of_decide_eq_true h | replace h := of_decide_eq_false h | replace h := beq_iff_eq.1 h | replace h := beq_eq_false_iff_ne.1 h | replace h := bne_iff_ne.1 h | replace h := bne_eq_false_iff_eq.1 h | skip)
  · have hj' : j < l.length := by omega
    have h1 := leastS_bd (l.take j)
    have h2 := tmodQ l[j]
    have h3 := mulQ_bd h1.1 h1.2 (by omega : 0 ≤ l[j].tmod 1073741789 + 1073741789) (by omega)
    have hsn := leastS_snoc (l.take j) l[j]
    rw [← take_snoc l j hj'] at hsn
    repeat (first | refine RunE.seq ?_ | refine RunE.region ?_ | refine RunE.block ?_ | refine RunE.skip ?_)
    refine RunL.indexAddr1 Tryd.tOk j rfl rfl rfl rfl rfl rfl hj' ?_
    refine RunL.load rfl rfl rfl (Loads.scalar Tryd.tOk rfl rfl (hr j _ (ints_get hj'))) ?_
    repeat (first | refine RunL.pureI Tryd.tOk rfl rfl rfl (by (first | exact wr_i64 (by omega) (by omega) | exact wm_i64 (by omega) | exact wq_i64 (by omega) (by omega) (by omega) | rfl)) ?_ | refine RunE.region ?_ | refine RunL.nil ?_ | refine RunE.inBlock ?_)
    refine RunE.weaken (.cons ?_ (by repeat (first | exact Sub.nil _ | refine Sub.cons rfl ?_))) (IH (j + 1) _ (by omega) ⟨rfl, by omega⟩)
    rw [hsn]; rfl
  · repeat (first | refine RunL.pureI Tryd.tOk rfl rfl rfl (by (first | exact wr_i64 (by omega) (by omega) | exact wm_i64 (by omega) | exact wq_i64 (by omega) (by omega) (by omega) | rfl)) ?_ | refine RunE.seq ?_ | refine RunE.region ?_ | refine RunL.nil ?_ | refine RunE.exit rfl ?_)
    refine RunE.retFn Tryd.func59 (.tmp rfl .nil) ⟨?_, rfl⟩
    simp only [oneOr]
    rw [List.take_of_length_le (by omega)]

theorem and1 {m : Int} (h : 0 ≤ m) (h' : m < 9223372036854775808) : IntKind.i64.wrap ((BitVec.ofInt IntKind.i64.bits m &&& BitVec.ofInt IntKind.i64.bits 1).toNat : Int) = m % 2 := by
  obtain ⟨k, rfl⟩ := Int.eq_ofNat_of_zero_le h
  have e : (BitVec.ofInt IntKind.i64.bits (k : Int) &&& BitVec.ofInt IntKind.i64.bits 1).toNat = k % 2 := by
    rw [BitVec.toNat_and]
    have h1 : (BitVec.ofInt IntKind.i64.bits (k : Int)).toNat = k := by
      simp only [IntKind.bits, BitVec.toNat_ofInt]; omega
    have h2 : (BitVec.ofInt IntKind.i64.bits 1).toNat = 1 := by decide
    rw [h1, h2, Nat.and_one_is_mod]
  rw [e, wr_i64 (by omega) (by omega)]
  omega
theorem shr1 {m : Int} : m.fdiv (2 ^ (min 1 IntKind.i64.bits)) = m / 2 := by
  have : (2 : Int) ^ (min 1 IntKind.i64.bits) = 2 := by decide
  rw [this, Int.fdiv_eq_ediv_of_nonneg _ (by decide)]

/-- The iterator of group.squares: it calls yield on (x, is m odd), while m is positive; then the square, and the half. -/
theorem squares1_ok (ba bn : Nat) (y : Value) (J : Int → Int → World → Prop) (hne : ba ≠ bn)
    (hstab : ∀ x m w w', J x m w → ExtB (fun k => k = ba ∨ k = bn) w w' → J x m w')
    (hy : ∀ x m w, J x m w → 0 ≤ x → x < 2147483579 → 0 < m → m < 9223372036854775808 → Blk w ba [.int .i64 x] 3 → Blk w bn [.int .i64 m] 3 →
      FnV Tryd.prog y [.int .i64 x, .bool (m % 2 == 1)] w (fun v w' => v = .bool true ∧ J (x * x % 2147483579) (m / 2) w' ∧ Blk w' ba [.int .i64 x] 3 ∧ Blk w' bn [.int .i64 m] 3) (fun _ _ => False))
    (a n : Int) (w : World) (ha : 0 ≤ a) (ha' : a < 2147483579) (hn : 0 ≤ n) (hn' : n < 9223372036854775808) (hA : Blk w ba [.int .i64 a] 3) (hN : Blk w bn [.int .i64 n] 3) (hJ : J a n w) :
    Rets Tryd.prog 92 [y, .pointer (some ⟨bn, 0, none⟩), .pointer (some ⟨ba, 0, none⟩)] w fun _ w' => ∃ x, J x 0 w' := by
  refine RetsX.of (nt := 19) Tryd.func92 (by kernel_rfl) rfl rfl (by simp) (by simp only [argEnv]; rfl) ?_
  repeat (first | refine RunE.block ?_)
  refine RunE.loop (ι := Int × Int) (fun _ => [(0, y), (1, .pointer (some ⟨bn, 0, none⟩)), (2, .pointer (some ⟨ba, 0, none⟩))])
    (fun s w => 0 ≤ s.1 ∧ s.1 < 2147483579 ∧ 0 ≤ s.2 ∧ s.2 < 9223372036854775808 ∧ Blk w ba [.int .i64 s.1] 3 ∧ Blk w bn [.int .i64 s.2] 3 ∧ J s.1 s.2 w) (fun s => s.2.toNat) (a, n) (by repeat (first | exact Sub.nil _ | refine Sub.cons rfl ?_)) ⟨ha, ha', hn, hn', hA, hN, hJ⟩ ?_
  rintro ⟨x, m⟩ w ⟨hx, hx', hm, hm', hA, hN, hJ⟩ IH
  simp only at hx hx' hm hm' hA hN hJ
  repeat (first | refine RunE.seq ?_ | refine RunE.region ?_)
  refine RunL.load rfl rfl rfl (Loads.scalar Tryd.tOk rfl rfl (hN.cell rfl)) ?_
  repeat (first | refine RunL.pure Tryd.tOk rfl rfl rfl ?_ | refine RunL.nil ?_)
  refine RunE.cond rfl (fun h => ?_) (fun h => ?_) <;> (first | replace h := of_decide_eq_true h | replace h := of_decide_eq_false h | replace h := beq_iff_eq.1 h | replace h := beq_eq_false_iff_ne.1 h | replace h := bne_iff_ne.1 h | replace h := bne_eq_false_iff_eq.1 h | skip)
  · have hb := mulmod_bd hx hx' hx hx'
    repeat (first | refine RunL.pure Tryd.tOk rfl rfl rfl ?_ | refine RunE.seq ?_ | refine RunE.region ?_ | refine RunE.block ?_ | refine RunE.skip ?_)
    refine RunL.load rfl rfl rfl (Loads.scalar Tryd.tOk rfl rfl (hA.cell rfl)) ?_
    refine RunL.load rfl rfl rfl (Loads.scalar Tryd.tOk rfl rfl (hN.cell rfl)) ?_
    refine RunL.pureI Tryd.tOk rfl rfl rfl (and1 hm hm') ?_
    repeat (first | refine RunL.pure Tryd.tOk rfl rfl rfl ?_)
    refine RunL.callV rfl rfl rfl rfl (hy x m w hJ hx hx' h hm' hA hN) (fun _ _ _ h => h.elim) ?_
    rintro v w1 ⟨rfl, hJ1, hA1, hN1⟩
    repeat (first | refine RunL.pure Tryd.tOk rfl rfl rfl ?_ | refine RunL.nil ?_)
    refine RunE.condF rfl rfl ?_
    repeat (first | refine RunE.region ?_ | refine RunE.skip ?_)
    refine RunL.load rfl rfl rfl (Loads.scalar Tryd.tOk rfl rfl (hA1.cell rfl)) ?_
    refine RunL.load rfl rfl rfl (Loads.scalar Tryd.tOk rfl rfl (hA1.cell rfl)) ?_
    repeat (first | refine RunL.pureI Tryd.tOk rfl rfl rfl (by (first | exact wr_i64 (by omega) (by omega) | exact wm_i64 (by omega) | exact wq_i64 (by omega) (by omega) (by omega) | rfl)) ?_)
    refine RunL.store Tryd.tOk rfl rfl rfl rfl rfl hA1 rfl rfl ?_
    intro w2 hT
    have hA2 : Blk w2 ba [.int .i64 (x * x % 2147483579)] 3 := hT.at_
    have hN2 := hN1.ext hT.ext (fun e => hne e.symm)
    have hJ2 := hstab _ _ _ _ hJ1 (hT.ext.mono fun k _ e => .inl e)
    repeat (first | refine RunE.region ?_ | refine RunL.nil ?_ | refine RunE.inBlock ?_)
    refine RunL.load rfl rfl rfl (Loads.scalar Tryd.tOk rfl rfl (hN2.cell rfl)) ?_
    refine RunL.pureI Tryd.tOk rfl rfl rfl shr1 ?_
    refine RunL.store Tryd.tOk rfl rfl rfl rfl rfl hN2 rfl rfl ?_
    intro w3 hT3
    have hA3 := hA2.ext hT3.ext hne
    have hN3 : Blk w3 bn [.int .i64 (m / 2)] 3 := hT3.at_
    have hJ3 := hstab _ _ _ _ hJ2 (hT3.ext.mono fun k _ e => .inr e)
    repeat (first | refine RunL.nil ?_)
    exact RunE.weaken (by repeat (first | exact Sub.nil _ | refine Sub.cons rfl ?_)) (IH (x * x % 2147483579, m / 2) _ (by simp only; omega) ⟨by simp only; omega, by simp only; omega, by simp only; omega, by simp only; omega, hA3, hN3, hJ3⟩)
  · repeat (first | refine RunE.exit rfl ?_)
    refine RunE.fallFn Tryd.func92 .nil ⟨x, ?_⟩
    obtain rfl : m = 0 := by omega
    exact hJ

theorem squares_ok (a n : Int) (w : World) : Rets Tryd.prog 58 [.int .i64 a, .int .i64 n] w fun v w' =>
    v = .func (.func 92) #[] #[.pointer (some ⟨w.heap.size + 1, 0, none⟩), .pointer (some ⟨w.heap.size, 0, none⟩)] ∧ Blk w' w.heap.size [.int .i64 a] 3 ∧ Blk w' (w.heap.size + 1) [.int .i64 n] 3 ∧ Ext w w' ∧ w'.heap.size = w.heap.size + 2 := by
  refine RetsX.of (nt := 6) Tryd.func58 (by kernel_rfl) rfl rfl (by simp) (by simp only [argEnv]; rfl) ?_
  repeat (first | refine RunE.seq ?_ | refine RunE.region ?_)
  refine RunL.box rfl rfl rfl fun B w1 h1 => ?_
  refine RunL.box rfl rfl rfl fun B2 w2 h2 => ?_
  repeat (first | refine RunL.pure Tryd.tOk rfl rfl rfl ?_ | refine RunE.seq ?_ | refine RunE.region ?_ | refine RunL.nil ?_)
  refine RunE.retFn Tryd.func58 (.tmp rfl .nil) ?_
  have e1 := h1.eq
  have e2 := h2.eq
  have s1 := h1.size
  have s2 := h2.size
  obtain rfl : B = w.heap.size := e1
  obtain rfl : B2 = w.heap.size + 1 := by omega
  refine ⟨rfl, ?_, ?_, h1.ext.trans h2.ext, by omega⟩
  · exact Blk.ext (show Blk w1 _ [.int .i64 a] 3 from h1.at_) h2.ext id
  · exact h2.at_

theorem least1 (n : Int) : leastS [n] = n % 1073741789 := by
  simp only [leastS, List.foldl]
  rcases tmod_cases n 1073741789 (by decide) with ⟨h1, h2, h3⟩ | ⟨h1, h2, h3⟩ <;> omega


end Go.Sg
end
