/- The walks of package group, the rest. -/
import Derived.Test.YtbjmdklcbknlpaaDoorGroupB
namespace Go.Sg
open Go.Rn Go.NT Go.Proofs
def powC (a n : Int) : Int := if validS a then a ^ (n % 1073741789).toNat % 2147483579 else 0

theorem sq_pow (x : Int) (m : Nat) : (x * x % 2147483579) ^ m % 2147483579 = (x * x) ^ m % 2147483579 := pow_mod _ _ _
theorem pow_step1 (c x : Int) (m : Nat) (h : m % 2 = 1) : (c * x % 2147483579 * (x * x % 2147483579) ^ (m / 2)) % 2147483579 = c * x ^ m % 2147483579 := by
  have hn : m = 2 * (m / 2) + 1 := by omega
  have e : x ^ m = x * (x * x) ^ (m / 2) := by
    conv => lhs; rw [hn]
    rw [Int.pow_succ, Int.pow_mul, Int.mul_comm, show x ^ 2 = x * x by rw [Int.pow_succ, Int.pow_succ]; simp]
  rw [e, ← Int.mul_assoc]
  exact mul_mod_congr (by simp) (sq_pow x _)
theorem pow_step0 (c x : Int) (m : Nat) (h : m % 2 = 0) : (c * (x * x % 2147483579) ^ (m / 2)) % 2147483579 = c * x ^ m % 2147483579 := by
  have hn : m = 2 * (m / 2) := by omega
  have e : x ^ m = (x * x) ^ (m / 2) := by
    conv => lhs; rw [hn]
    rw [Int.pow_mul, show x ^ 2 = x * x by rw [Int.pow_succ, Int.pow_succ]; simp]
  rw [e]
  exact mul_mod_congr rfl (sq_pow x _)

theorem pow_ok (a n : Int) (w : World) :
    Rets Tryd.prog 22 [.int .i64 a, .int .i64 n] w fun v w' => v = .tuple #[.int .i64 (powC a n), .int .i64 (grpE (validS a))] ∧ Ext w w' := by
  refine RetsX.of (nt := 24) Tryd.func22 (by kernel_rfl) rfl rfl (by simp) (by simp only [argEnv]; rfl) ?_
  repeat (first | refine RunL.pureI Tryd.tOk rfl rfl rfl (by (first | exact wr_i64 (by omega) (by omega) | exact wm_i64 (by omega) | exact wq_i64 (by omega) (by omega) (by omega) | rfl)) ?_ | refine RunL.pure Tryd.tOk rfl rfl rfl ?_ | refine RunL.unwantedD rfl rfl ?_ | refine RunE.seq ?_ | refine RunE.region ?_ | refine RunL.nil ?_ | refine RunE.block ?_ | refine RunE.inBlock ?_ | refine RunE.skip ?_ | refine RunE.exit rfl ?_ | refine RunE.scope ?_ | refine RunE.inScope ?_ | refine RunE.label ?_)
  refine RunL.alloc Tryd.tOk rfl rfl rfl fun B w1 h1 => ?_
  repeat (first | refine RunL.pureI Tryd.tOk rfl rfl rfl (by (first | exact wr_i64 (by omega) (by omega) | exact wm_i64 (by omega) | exact wq_i64 (by omega) (by omega) (by omega) | rfl)) ?_ | refine RunL.pure Tryd.tOk rfl rfl rfl ?_ | refine RunL.unwantedD rfl rfl ?_ | refine RunE.seq ?_ | refine RunE.region ?_ | refine RunL.nil ?_ | refine RunE.block ?_ | refine RunE.inBlock ?_ | refine RunE.skip ?_ | refine RunE.exit rfl ?_ | refine RunE.scope ?_ | refine RunE.inScope ?_ | refine RunE.label ?_)
  refine RunL.call rfl rfl rfl (valid_ok _ _) ?_
  rintro v _ ⟨rfl, rfl⟩
  repeat (first | refine RunL.pureI Tryd.tOk rfl rfl rfl (by (first | exact wr_i64 (by omega) (by omega) | exact wm_i64 (by omega) | exact wq_i64 (by omega) (by omega) (by omega) | rfl)) ?_ | refine RunL.pure Tryd.tOk rfl rfl rfl ?_ | refine RunL.unwantedD rfl rfl ?_ | refine RunE.seq ?_ | refine RunE.region ?_ | refine RunL.nil ?_ | refine RunE.block ?_ | refine RunE.inBlock ?_ | refine RunE.skip ?_ | refine RunE.exit rfl ?_ | refine RunE.scope ?_ | refine RunE.inScope ?_ | refine RunE.label ?_)
  have hB1 : Blk w1 B [.int .i64 0] 3 := h1.at_
  cases hva : validS a with
  | false =>
    refine RunE.condT rfl rfl ?_
    repeat (first | refine RunL.pureI Tryd.tOk rfl rfl rfl (by (first | exact wr_i64 (by omega) (by omega) | exact wm_i64 (by omega) | exact wq_i64 (by omega) (by omega) (by omega) | rfl)) ?_ | refine RunL.pure Tryd.tOk rfl rfl rfl ?_ | refine RunL.unwantedD rfl rfl ?_ | refine RunE.seq ?_ | refine RunE.region ?_ | refine RunL.nil ?_ | refine RunE.block ?_ | refine RunE.inBlock ?_ | refine RunE.skip ?_ | refine RunE.exit rfl ?_ | refine RunE.scope ?_ | refine RunE.inScope ?_ | refine RunE.label ?_)
    refine RunL.store Tryd.tOk rfl rfl rfl rfl rfl hB1 rfl rfl ?_
    intro w2 h2
    repeat (first | refine RunL.pureI Tryd.tOk rfl rfl rfl (by (first | exact wr_i64 (by omega) (by omega) | exact wm_i64 (by omega) | exact wq_i64 (by omega) (by omega) (by omega) | rfl)) ?_ | refine RunL.pure Tryd.tOk rfl rfl rfl ?_ | refine RunL.unwantedD rfl rfl ?_ | refine RunE.seq ?_ | refine RunE.region ?_ | refine RunL.nil ?_ | refine RunE.block ?_ | refine RunE.inBlock ?_ | refine RunE.skip ?_ | refine RunE.exit rfl ?_ | refine RunE.scope ?_ | refine RunE.inScope ?_ | refine RunE.label ?_)
    have hB2 : Blk w2 B [.int .i64 0] 3 := h2.at_
    refine RunE.retFn Tryd.func22 (.cell rfl (Loads.scalar Tryd.tOk rfl rfl (hB2.cell rfl)) (.tmp rfl .nil)) ⟨?_, h1.ext.write h2.ext fun i e hi => by have := h1.eq; omega⟩
    simp [oneOr, powC, hva, grpE]
  | true =>
    have hva' := hva
    simp only [validS, decide_eq_true_eq] at hva'
    obtain ⟨ha0, ha1, _⟩ := hva'
    refine RunE.condF rfl rfl ?_
    repeat (first | refine RunL.pureI Tryd.tOk rfl rfl rfl (by (first | exact wr_i64 (by omega) (by omega) | exact wm_i64 (by omega) | exact wq_i64 (by omega) (by omega) (by omega) | rfl)) ?_ | refine RunL.pure Tryd.tOk rfl rfl rfl ?_ | refine RunL.unwantedD rfl rfl ?_ | refine RunE.seq ?_ | refine RunE.region ?_ | refine RunL.nil ?_ | refine RunE.block ?_ | refine RunE.inBlock ?_ | refine RunE.skip ?_ | refine RunE.exit rfl ?_ | refine RunE.scope ?_ | refine RunE.inScope ?_ | refine RunE.label ?_)
    refine RunL.store Tryd.tOk rfl rfl rfl rfl rfl hB1 rfl rfl ?_
    intro w2 h2
    have hB2 : Blk w2 B [.int .i64 1] 3 := h2.at_
    have x2 : Ext w w2 := h1.ext.write h2.ext fun i e hi => by have := h1.eq; omega
    repeat (first | refine RunL.pureI Tryd.tOk rfl rfl rfl (by (first | exact wr_i64 (by omega) (by omega) | exact wm_i64 (by omega) | exact wq_i64 (by omega) (by omega) (by omega) | rfl)) ?_ | refine RunL.pure Tryd.tOk rfl rfl rfl ?_ | refine RunL.unwantedD rfl rfl ?_ | refine RunE.seq ?_ | refine RunE.region ?_ | refine RunL.nil ?_ | refine RunE.block ?_ | refine RunE.inBlock ?_ | refine RunE.skip ?_ | refine RunE.exit rfl ?_ | refine RunE.scope ?_ | refine RunE.inScope ?_ | refine RunE.label ?_)
    refine RunL.buildSlice Tryd.tOk rfl rfl rfl rfl rfl rfl rfl rfl fun B3 w3 h3 => ?_
    refine RunL.call rfl rfl rfl (least_ok [n] B3 0 1 w3 (Blk.row (show Blk w3 B3 [.int .i64 n] 3 from h3.at_)) (by simp)) ?_
    rintro v _ ⟨rfl, rfl⟩
    rw [least1]
    refine RunL.call rfl rfl rfl (squares_ok _ _ _) ?_
    rintro v w4 ⟨rfl, hA4, hN4, x4, s4⟩
    have hB4 := (hB2.ext h3.ext id).ext x4 id
    repeat (first | refine RunL.pureI Tryd.tOk rfl rfl rfl (by (first | exact wr_i64 (by omega) (by omega) | exact wm_i64 (by omega) | exact wq_i64 (by omega) (by omega) (by omega) | rfl)) ?_ | refine RunL.pure Tryd.tOk rfl rfl rfl ?_ | refine RunL.unwantedD rfl rfl ?_ | refine RunE.seq ?_ | refine RunE.region ?_ | refine RunL.nil ?_ | refine RunE.block ?_ | refine RunE.inBlock ?_ | refine RunE.skip ?_ | refine RunE.exit rfl ?_ | refine RunE.scope ?_ | refine RunE.inScope ?_ | refine RunE.label ?_)
    have x4' : Ext w w4 := (x2.trans h3.ext).trans x4
    have eB := h1.eq
    have e3 := h3.eq
    have s3 := h3.size
    have s1 := h1.size
    have s2 := h2.size
    refine RunE.rangeFunc rfl rfl fun fa D L w5 w6 lp hst h5 h6 hlp => ?_
    have e5 := h5.eq
    have s5 := h5.size
    have e6 := h6.eq
    have hA6 := (hA4.ext h5.ext id).ext h6.ext id
    have hN6 := (hN4.ext h5.ext id).ext h6.ext id
    have hB6 := (hB4.ext h5.ext id).ext h6.ext id
    have hD6 : w6.heap[D]? = some (.deferred (some [])) := by rw [h6.ext.block D (by omega) id]; exact h5.at_
    have x6 := (x4'.trans h5.ext).trans h6.ext
    have hq := Int.emod_nonneg n (by decide : (1073741789 : Int) ≠ 0)
    have hq' := Int.emod_lt_of_pos n (by decide : (0 : Int) < 1073741789)
    have H := squares1_ok w3.heap.size (w3.heap.size + 1) (yieldV L)
      (fun x m w' => ∃ cv, Blk w' B [.int .i64 cv] 3 ∧ 0 ≤ cv ∧ cv < 2147483579 ∧ cv * x ^ m.toNat % 2147483579 = a ^ (n % 1073741789).toNat % 2147483579 ∧
        w'.heap[L]? = some (.loop lp) ∧ w'.heap[D]? = some (.deferred (some [])) ∧ Ext w w') (by omega)
      (by
        rintro x m u u' ⟨cv, hb, h0, h1', he, hl, hd, hx⟩ hext
        exact ⟨cv, hb.ext hext (by omega), h0, h1', he, by rw [hext.block L (lt_of_get hl) (by omega)]; exact hl, by rw [hext.block D (lt_of_get hd) (by omega)]; exact hd, hx.write hext fun i e hi => by omega⟩)
      (by
        rintro x m u ⟨cv, hb, h0, h1', he, hl, hd, hx⟩ hx0 hx1 hm hm1 hA hN
        refine Yield.run hl ⟨_, Tryd.func22⟩ hst hlp rfl rfl rfl ?_
        repeat (first | refine RunL.pureI Tryd.tOk rfl rfl rfl (by (first | exact wr_i64 (by omega) (by omega) | exact wm_i64 (by omega) | exact wq_i64 (by omega) (by omega) (by omega) | rfl)) ?_ | refine RunL.pure Tryd.tOk rfl rfl rfl ?_ | refine RunL.unwantedD rfl rfl ?_ | refine RunE.seq ?_ | refine RunE.region ?_ | refine RunL.nil ?_ | refine RunE.block ?_ | refine RunE.inBlock ?_ | refine RunE.skip ?_ | refine RunE.exit rfl ?_ | refine RunE.scope ?_ | refine RunE.inScope ?_ | refine RunE.label ?_)
        refine RunE.beginRound hl hlp.state fun u1 t1 => ?_
        have hb1 := hb.ext t1.ext (by omega)
        have hA1 := hA.ext t1.ext (by omega)
        have hN1 := hN.ext t1.ext (by omega)
        have hd1 : u1.heap[D]? = some (.deferred (some [])) := by rw [t1.ext.block D (lt_of_get hd) (by omega)]; exact hd
        have hx1' := hx.write t1.ext fun i e hi => by omega
        repeat (first | refine RunL.pureI Tryd.tOk rfl rfl rfl (by (first | exact wr_i64 (by omega) (by omega) | exact wm_i64 (by omega) | exact wq_i64 (by omega) (by omega) (by omega) | rfl)) ?_ | refine RunL.pure Tryd.tOk rfl rfl rfl ?_ | refine RunL.unwantedD rfl rfl ?_ | refine RunE.seq ?_ | refine RunE.region ?_ | refine RunL.nil ?_ | refine RunE.block ?_ | refine RunE.inBlock ?_ | refine RunE.skip ?_ | refine RunE.exit rfl ?_ | refine RunE.scope ?_ | refine RunE.inScope ?_ | refine RunE.label ?_)
        refine RunE.cond rfl (fun hodd => ?_) (fun hodd => ?_)
        · have hmb := mulmod_bd h0 h1' hx0 hx1
          repeat (first | refine RunL.pureI Tryd.tOk rfl rfl rfl (by (first | exact wr_i64 (by omega) (by omega) | exact wm_i64 (by omega) | exact wq_i64 (by omega) (by omega) (by omega) | rfl)) ?_ | refine RunL.pure Tryd.tOk rfl rfl rfl ?_ | refine RunL.unwantedD rfl rfl ?_ | refine RunE.seq ?_ | refine RunE.region ?_ | refine RunL.nil ?_ | refine RunE.block ?_ | refine RunE.inBlock ?_ | refine RunE.skip ?_ | refine RunE.exit rfl ?_ | refine RunE.scope ?_ | refine RunE.inScope ?_ | refine RunE.label ?_)
          refine RunL.load rfl rfl rfl (Loads.scalar Tryd.tOk rfl rfl (hb1.cell rfl)) ?_
          repeat (first | refine RunL.pureI Tryd.tOk rfl rfl rfl (by (first | exact wr_i64 (by omega) (by omega) | exact wm_i64 (by omega) | exact wq_i64 (by omega) (by omega) (by omega) | rfl)) ?_ | refine RunL.pure Tryd.tOk rfl rfl rfl ?_ | refine RunL.unwantedD rfl rfl ?_ | refine RunE.seq ?_ | refine RunE.region ?_ | refine RunL.nil ?_ | refine RunE.block ?_ | refine RunE.inBlock ?_ | refine RunE.skip ?_ | refine RunE.exit rfl ?_ | refine RunE.scope ?_ | refine RunE.inScope ?_ | refine RunE.label ?_)
          refine RunL.store Tryd.tOk rfl rfl rfl rfl rfl hb1 rfl rfl ?_
          intro u2 t2
          repeat (first | refine RunL.pureI Tryd.tOk rfl rfl rfl (by (first | exact wr_i64 (by omega) (by omega) | exact wm_i64 (by omega) | exact wq_i64 (by omega) (by omega) (by omega) | rfl)) ?_ | refine RunL.pure Tryd.tOk rfl rfl rfl ?_ | refine RunL.unwantedD rfl rfl ?_ | refine RunE.seq ?_ | refine RunE.region ?_ | refine RunL.nil ?_ | refine RunE.block ?_ | refine RunE.inBlock ?_ | refine RunE.skip ?_ | refine RunE.exit rfl ?_ | refine RunE.scope ?_ | refine RunE.inScope ?_ | refine RunE.label ?_)
          refine RunE.nil fun _ _ => ⟨_, by rw [t2.ext.block L (lt_of_get t1.at_) (by omega)]; exact t1.at_, fun u3 t3 => ?_⟩
          rw [hlp.back] at t3
          have hA3 := (hA1.ext t2.ext (by omega)).ext t3.ext (by omega)
          have hN3 := (hN1.ext t2.ext (by omega)).ext t3.ext (by omega)
          have hb2 : Blk u2 B [.int .i64 (cv * x % 2147483579)] 3 := t2.at_
          refine ⟨rfl, ⟨cv * x % 2147483579, hb2.ext t3.ext (by omega), by omega, by omega, ?_, t3.at_, ?_, ?_⟩, hA3, hN3⟩
          · rw [← he, show (m / 2).toNat = m.toNat / 2 by omega]
            exact pow_step1 _ _ _ (by simp at hodd; omega)
          · rw [t3.ext.block D (by have := lt_of_get hd1; have := t2.size; omega) (by omega), t2.ext.block D (lt_of_get hd1) (by omega)]; exact hd1
          · exact (hx1'.write t2.ext fun i e hi => by omega).write t3.ext fun i e hi => by omega
        · repeat (first | refine RunL.pureI Tryd.tOk rfl rfl rfl (by (first | exact wr_i64 (by omega) (by omega) | exact wm_i64 (by omega) | exact wq_i64 (by omega) (by omega) (by omega) | rfl)) ?_ | refine RunL.pure Tryd.tOk rfl rfl rfl ?_ | refine RunL.unwantedD rfl rfl ?_ | refine RunE.seq ?_ | refine RunE.region ?_ | refine RunL.nil ?_ | refine RunE.block ?_ | refine RunE.inBlock ?_ | refine RunE.skip ?_ | refine RunE.exit rfl ?_ | refine RunE.scope ?_ | refine RunE.inScope ?_ | refine RunE.label ?_)
          refine RunE.nil fun _ _ => ⟨_, t1.at_, fun u3 t3 => ?_⟩
          rw [hlp.back] at t3
          refine ⟨rfl, ⟨cv, hb1.ext t3.ext (by omega), h0, h1', ?_, t3.at_, ?_, ?_⟩, hA1.ext t3.ext (by omega), hN1.ext t3.ext (by omega)⟩
          · rw [← he, show (m / 2).toNat = m.toNat / 2 by omega]
            exact pow_step0 _ _ _ (by simp at hodd; omega)
          · rw [t3.ext.block D (lt_of_get hd1) (by omega)]; exact hd1
          · exact hx1'.write t3.ext fun i e hi => by omega)
      a (n % 1073741789) w6 (by omega) (by omega) hq (by omega) hA6 hN6 ⟨1, hB6, by decide, by decide, by simp, h6.at_, hD6, x6⟩
    refine (RetsX.v (fi := []) (args := [yieldV L]) (ca := [.pointer (some ⟨w3.heap.size + 1, 0, none⟩), .pointer (some ⟨w3.heap.size, 0, none⟩)]) H).mono ?_ (fun _ _ h => h)
    rintro _ w7 ⟨x, cv, hb7, h0, h1', he, hl7, hd7, x7⟩
    refine ⟨lp, hl7, by rw [hlp.state]; rfl, fun w8 t8 => ?_⟩
    rw [hlp.pending]
    refine RunE.at_ hst ?_
    have hb8 := hb7.ext t8.ext (by omega)
    have hd8 : w8.heap[D]? = some (.deferred (some [])) := by rw [t8.ext.block D (lt_of_get hd7) (by omega)]; exact hd7
    have x8 : Ext w w8 := x7.write t8.ext fun i e hi => by omega
    simp only [Option.map_none, Option.toList_none, List.nil_append]
    repeat (first | refine RunL.pureI Tryd.tOk rfl rfl rfl (by (first | exact wr_i64 (by omega) (by omega) | exact wm_i64 (by omega) | exact wq_i64 (by omega) (by omega) (by omega) | rfl)) ?_ | refine RunL.pure Tryd.tOk rfl rfl rfl ?_ | refine RunL.unwantedD rfl rfl ?_ | refine RunE.seq ?_ | refine RunE.region ?_ | refine RunL.nil ?_ | refine RunE.block ?_ | refine RunE.inBlock ?_ | refine RunE.skip ?_ | refine RunE.exit rfl ?_ | refine RunE.scope ?_ | refine RunE.inScope ?_ | refine RunE.label ?_)
    refine RunL.load rfl rfl rfl (Loads.scalar Tryd.tOk rfl rfl (hb8.cell rfl)) ?_
    refine RunL.store Tryd.tOk rfl rfl rfl rfl rfl hb8 rfl rfl ?_
    intro w9 t9
    have hb9 : Blk w9 B [.int .i64 cv] 3 := t9.at_
    have hd9 : w9.heap[D]? = some (.deferred (some [])) := by rw [t9.ext.block D (lt_of_get hd8) (by omega)]; exact hd8
    repeat (first | refine RunL.pureI Tryd.tOk rfl rfl rfl (by (first | exact wr_i64 (by omega) (by omega) | exact wm_i64 (by omega) | exact wq_i64 (by omega) (by omega) (by omega) | rfl)) ?_ | refine RunL.pure Tryd.tOk rfl rfl rfl ?_ | refine RunL.unwantedD rfl rfl ?_ | refine RunE.seq ?_ | refine RunE.region ?_ | refine RunL.nil ?_ | refine RunE.block ?_ | refine RunE.inBlock ?_ | refine RunE.skip ?_ | refine RunE.exit rfl ?_ | refine RunE.scope ?_ | refine RunE.inScope ?_ | refine RunE.label ?_)
    refine RunE.retFn1 Tryd.func22 hd9 fun w10 t10 => ⟨_, .cell rfl (Loads.scalar Tryd.tOk rfl rfl ((hb9.ext t10.ext (by omega)).cell rfl)) (.tmp rfl .nil), ?_, ?_⟩
    · simp only [oneOr, powC, hva, grpE, if_true]
      rw [← he]
      simp
      exact (Int.emod_eq_of_lt h0 h1').symm
    · exact (x8.write t9.ext fun i e hi => by omega).write t10.ext fun i e hi => by omega
end Go.Sg
