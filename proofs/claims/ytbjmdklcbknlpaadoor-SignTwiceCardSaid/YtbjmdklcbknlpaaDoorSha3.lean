/- The program's SHA-256: a number's bytes, a text's digest. -/
import Derived.Test.YtbjmdklcbknlpaaDoorSha2
import Derived.Test.YtbjmdklcbknlpaaDoorShaS
import Derived.Test.YtbjmdklcbknlpaaDoorSl
namespace Go.Sg
open Go.Rn Go.Sha Go.Proofs
attribute [local irreducible] Go.Rn.RunL Go.Rn.RunE Go.Rn.Asy Go.Rn.OpV Go.Rn.OpE Go.Rn.ExecE

theorem put_ok (B o len cap n : Nat) (X Y Z : List UInt8) (t : TypeId) (w : World) (hX : X.length = o) (hY : Y.length = len) (h8 : len ≤ 8) (hb : Blk w B (bytesV (X ++ Y ++ Z)) t) :
    Rets Tryd.prog 53 [.slice (some ⟨B, o, none⟩) len cap, .int .u64 (n : Int)] w fun v w' => v = .tuple #[] ∧ Blk w' B (bytesV (X ++ be len n ++ Z)) t ∧ ExtB (· = B) w w' := by
  refine RetsX.of (nt := 23) Tryd.func53 (by kernel_rfl) rfl rfl (by simp) (by simp only [argEnv]; rfl) ?_
  repeat (first | refine RunL.pureI Tryd.tOk rfl rfl rfl (by (first | exact wr_i64 (by omega) (by omega) | exact wm_i64 (by omega) | exact wq_i64 (by omega) (by omega) (by omega) | rfl)) ?_ | refine RunL.pure Tryd.tOk rfl rfl rfl ?_ | refine RunL.unwantedD rfl rfl ?_ | refine RunE.seq ?_ | refine RunE.region ?_ | refine RunL.nil ?_ | refine RunE.block ?_ | refine RunE.inBlock ?_ | refine RunE.skip ?_ | refine RunE.exit rfl ?_ | refine RunE.scope ?_ | refine RunE.inScope ?_ | refine RunE.label ?_)
  refine RunE.loop (ι := Nat) (fun i => [(0, .slice (some ⟨B, o, none⟩) len cap), (1, .int .u64 (n : Int)), (6, .int .i64 (len : Int)), (7, .int .i64 (i : Int))])
    (fun i w' => i ≤ len ∧ ExtB (· = B) w w' ∧ Blk w' B (bytesV (X ++ (Y.take (len - i) ++ be i n) ++ Z)) t) (fun i => len - i) 0 (by repeat (first | exact Sub.nil _ | refine Sub.cons rfl ?_))
    ⟨by omega, .refl _ _, by rw [Nat.sub_zero, ← hY, List.take_length]; simpa [be] using hb⟩ ?_
  rintro i w1 ⟨hi, E1, B1⟩ again
  repeat (first | refine RunL.pureI Tryd.tOk rfl rfl rfl (by (first | exact wr_i64 (by omega) (by omega) | exact wm_i64 (by omega) | exact wq_i64 (by omega) (by omega) (by omega) | rfl)) ?_ | refine RunL.pure Tryd.tOk rfl rfl rfl ?_ | refine RunL.unwantedD rfl rfl ?_ | refine RunE.seq ?_ | refine RunE.region ?_ | refine RunL.nil ?_ | refine RunE.block ?_ | refine RunE.inBlock ?_ | refine RunE.skip ?_ | refine RunE.exit rfl ?_ | refine RunE.scope ?_ | refine RunE.inScope ?_ | refine RunE.label ?_)
  refine RunE.cond rfl (fun hlt => ?_) (fun hlt => ?_) <;> (first | replace hlt := of_decide_eq_true hlt | replace hlt := of_decide_eq_false hlt | replace hlt := beq_iff_eq.1 hlt | replace hlt := beq_eq_false_iff_ne.1 hlt | replace hlt := bne_iff_ne.1 hlt | replace hlt := bne_eq_false_iff_eq.1 hlt | skip)
  · have hlt' : i < len := by omega
    repeat (first | refine RunL.pureI Tryd.tOk rfl rfl rfl (by (first | exact i64_mul 8 _ (by omega) | exact u64_shr _ _ (by omega) | exact u8_of_nat _ | exact wr_i64 (by omega) (by omega) | exact wm_i64 (by omega) | exact wq_i64 (by omega) (by omega) (by omega) | rfl)) ?_ | refine RunL.pure Tryd.tOk rfl rfl rfl ?_ | refine RunL.unwantedD rfl rfl ?_ | refine RunL.val rfl rfl rfl (OpV.indexAK Tryd.tOk rfl rfl rfl rfl) ?_ | refine RunL.val rfl rfl rfl (OpV.indexSK Tryd.tOk rfl rfl rfl rfl) ?_ | refine RunE.seq ?_ | refine RunE.region ?_ | refine RunL.nil ?_ | refine RunE.block ?_ | refine RunE.inBlock ?_ | refine RunE.skip ?_ | refine RunE.exit rfl ?_ | refine RunE.scope ?_ | refine RunE.inScope ?_ | refine RunE.label ?_)
    refine RunL.val rfl rfl rfl (OpV.indexS1 Tryd.tOk (len - 1 - i) rfl rfl rfl (by omega) (by omega)) ?_
    have e1 : X ++ (Y.take (len - i) ++ be i n) ++ Z = (X ++ Y.take (len - 1 - i)) ++ Y.getD (len - 1 - i) 0 :: (be i n ++ Z) := by
      have hy : len - 1 - i < Y.length := by omega
      have : Y.take (len - i) = Y.take (len - 1 - i) ++ [Y.getD (len - 1 - i) 0] := by
        rw [show len - i = (len - 1 - i) + 1 by omega, List.take_add_one, List.getElem?_eq_getElem hy, List.getD_eq_getElem?_getD, List.getElem?_eq_getElem hy]
        rfl
      rw [this]; simp
    rw [e1] at B1
    refine RunL.store Tryd.tOk rfl rfl rfl rfl rfl B1 (by simp [bytesV_length, Value.cells, be_length]; omega) rfl fun w2 t2 => ?_
    have E2 := E1.write t2.ext (by intro i hi _; exact hi)
    have B2 : Blk w2 B (bytesV (X ++ (Y.take (len - (i + 1)) ++ be (i + 1) n) ++ Z)) t := by
      have := t2.at_
      have e2 := set_byte (X ++ Y.take (len - 1 - i)) (be i n ++ Z) (Y.getD (len - 1 - i) 0) (UInt8.ofNat (n / 2 ^ (8 * i))) (o + (len - 1 - i)) (by rw [List.length_append, List.length_take, hX]; omega)
      have e3 : X ++ (Y.take (len - (i + 1)) ++ be (i + 1) n) ++ Z = (X ++ Y.take (len - 1 - i)) ++ UInt8.ofNat (n / 2 ^ (8 * i)) :: (be i n ++ Z) := by
        rw [show len - (i + 1) = len - 1 - i by omega]; simp [be]
      unfold Blk
      rw [e3, ← e2, this]
      rfl
    repeat (first | refine RunL.pureI Tryd.tOk rfl rfl rfl (by (first | exact wr_i64 (by omega) (by omega) | exact wm_i64 (by omega) | exact wq_i64 (by omega) (by omega) (by omega) | rfl)) ?_ | refine RunL.pure Tryd.tOk rfl rfl rfl ?_ | refine RunL.unwantedD rfl rfl ?_ | refine RunE.seq ?_ | refine RunE.region ?_ | refine RunL.nil ?_ | refine RunE.block ?_ | refine RunE.inBlock ?_ | refine RunE.skip ?_ | refine RunE.exit rfl ?_ | refine RunE.scope ?_ | refine RunE.inScope ?_ | refine RunE.label ?_)
    exact RunE.weaken (by repeat (first | exact Sub.nil _ | refine Sub.cons rfl ?_)) (again (i + 1) _ (by omega) ⟨by omega, E2, B2⟩)
  · have hil : i = len := by omega
    subst hil
    repeat (first | refine RunL.pureI Tryd.tOk rfl rfl rfl (by (first | exact wr_i64 (by omega) (by omega) | exact wm_i64 (by omega) | exact wq_i64 (by omega) (by omega) (by omega) | rfl)) ?_ | refine RunL.pure Tryd.tOk rfl rfl rfl ?_ | refine RunL.unwantedD rfl rfl ?_ | refine RunE.seq ?_ | refine RunE.region ?_ | refine RunL.nil ?_ | refine RunE.block ?_ | refine RunE.inBlock ?_ | refine RunE.skip ?_ | refine RunE.exit rfl ?_ | refine RunE.scope ?_ | refine RunE.inScope ?_ | refine RunE.label ?_)
    refine RunE.fallFn Tryd.func53 .nil ⟨rfl, ?_, E1⟩
    rw [Nat.sub_self] at B1
    simpa using B1

/-- A block, handed over as a slice. -/
theorem absorb_sl (s : S8) (l : List UInt8) (b bt : Nat) (v : Value) (w : World) (hb : Blk w b (vals s.l) bt) (hl : l.length = 64) (hv : IsSl w 1 v 64 (bytesV l)) (hkT : Row w 1 0 (vals kTab)) (hb1 : b ≠ 1) :
    Rets Tryd.prog 52 [.pointer (some ⟨b, 0, none⟩), v] w fun v w' => v = .tuple #[] ∧ Blk w' b (vals (block s l).l) bt ∧ ExtB (· = b) w w' := by
  obtain ⟨b', o', cap, rfl, hr, -, hc⟩ := hv.held (by decide)
  exact absorb_ok s l b bt b' o' cap w hb hl hr hc hkT hb1

set_option maxHeartbeats 4000000 in
theorem sum_ok (v : Value) (l : List UInt8) (w : World) (hv : IsSl w 1 v l.length (bytesV l)) (hl : l.length < 1152921504606846976) (hS : Row w 0 0 (vals init8.l)) (hkT : Row w 1 0 (vals kTab)) :
    Rets Tryd.prog 31 [v] w fun r w' => r = .agg (bytesV (sha l)).toArray ∧ Ext w w' := by
  have h2 : 1 < w.heap.size := cell_lt (hkT 0 _ rfl)
  refine RetsX.of (nt := 69) Tryd.func31 (by kernel_rfl) rfl rfl (by simp) (by simp only [argEnv]; rfl) ?_
  repeat (first | refine RunL.pureI Tryd.tOk rfl rfl rfl (by (first | exact wr_i64 (by omega) (by omega) | exact wm_i64 (by omega) | exact wq_i64 (by omega) (by omega) (by omega) | rfl)) ?_ | refine RunL.pure Tryd.tOk rfl rfl rfl ?_ | refine RunL.unwantedD rfl rfl ?_ | refine RunE.seq ?_ | refine RunE.region ?_ | refine RunL.nil ?_ | refine RunE.block ?_ | refine RunE.inBlock ?_ | refine RunE.skip ?_ | refine RunE.exit rfl ?_ | refine RunE.scope ?_ | refine RunE.inScope ?_ | refine RunE.label ?_)
  refine RunL.alloc Tryd.tOk rfl rfl rfl fun B2 w1 a1 => ?_
  repeat (first | refine RunL.pureI Tryd.tOk rfl rfl rfl (by (first | exact wr_i64 (by omega) (by omega) | exact wm_i64 (by omega) | exact wq_i64 (by omega) (by omega) (by omega) | rfl)) ?_ | refine RunL.pure Tryd.tOk rfl rfl rfl ?_ | refine RunL.unwantedD rfl rfl ?_ | refine RunE.seq ?_ | refine RunE.region ?_ | refine RunL.nil ?_ | refine RunE.block ?_ | refine RunE.inBlock ?_ | refine RunE.skip ?_ | refine RunE.exit rfl ?_ | refine RunE.scope ?_ | refine RunE.inScope ?_ | refine RunE.label ?_)
  refine RunL.val rfl rfl rfl (OpV.loadN (cs := vals init8.l) Tryd.tOk rfl rfl rfl rfl (hS.extE a1.ext)) ?_
  refine RunL.alloc Tryd.tOk rfl rfl rfl fun B3 w2 a2 => ?_
  refine RunL.store (v := .agg (vals init8.l).toArray) Tryd.tOk rfl rfl rfl rfl rfl (cs := List.replicate 8 (.int .u32 0)) a2.at_ rfl rfl fun w3 t3 => ?_
  have hB2 := a1.eq
  have hB3 := a2.eq
  have hs1 := a1.size
  have X3 : Ext w w3 := (a1.ext.trans a2.ext).write t3.ext (by intro i hi hlt; subst hi; omega)
  have D3 : Blk w3 B2 (bytesV (List.replicate 32 0)) 30 := Blk.ext (Blk.ext (w := w1) (cs := List.replicate 32 (.int .u8 0)) a1.at_ a2.ext id) t3.ext (by omega)
  have V3 : Blk w3 B3 (vals (run init8 l 0).l) 75 := t3.at_
  clear a1 a2 t3
  repeat (first | refine RunL.pureI Tryd.tOk rfl rfl rfl (by (first | exact wr_i64 (by omega) (by omega) | exact wm_i64 (by omega) | exact wq_i64 (by omega) (by omega) (by omega) | rfl)) ?_ | refine RunL.pure Tryd.tOk rfl rfl rfl ?_ | refine RunL.unwantedD rfl rfl ?_ | refine RunE.seq ?_ | refine RunE.region ?_ | refine RunL.nil ?_ | refine RunE.block ?_ | refine RunE.inBlock ?_ | refine RunE.skip ?_ | refine RunE.exit rfl ?_ | refine RunE.scope ?_ | refine RunE.inScope ?_ | refine RunE.label ?_)
  refine RunE.loop (ι := Nat × Value) (fun x => [(0, v), (2, .pointer (some ⟨B2, 0, none⟩)), (3, .pointer (some ⟨B3, 0, none⟩)), (4, .func (.func 52) [.pointer (some ⟨B3, 0, none⟩)].toArray [].toArray), (5, x.2)])
    (fun x w' => 64 * x.1 ≤ l.length ∧ Ext w w' ∧ IsSl w' 1 x.2 (l.length - 64 * x.1) (bytesV (l.drop (64 * x.1))) ∧ x.2.ownBlock = v.ownBlock ∧ Blk w' B2 (bytesV (List.replicate 32 0)) 30 ∧ Blk w' B3 (vals (run init8 l x.1).l) 75)
    (fun x => l.length - 64 * x.1) (0, v) (by repeat (first | exact Sub.nil _ | refine Sub.cons rfl ?_)) ⟨by simp, X3, by simpa using hv.extE X3, rfl, D3, V3⟩ ?_
  clear V3 D3 X3
  rintro ⟨k, rv⟩ w4 ⟨hk, X4, R4, hrv, D4, V4⟩ again
  simp only at hk R4 hrv V4 again ⊢
  repeat (first | refine RunL.pureI Tryd.tOk rfl rfl rfl (by (first | exact wr_i64 (by omega) (by omega) | exact wm_i64 (by omega) | exact wq_i64 (by omega) (by omega) (by omega) | rfl)) ?_ | refine RunL.pure Tryd.tOk rfl rfl rfl ?_ | refine RunL.unwantedD rfl rfl ?_ | refine RunE.seq ?_ | refine RunE.region ?_ | refine RunL.nil ?_ | refine RunE.block ?_ | refine RunE.inBlock ?_ | refine RunE.skip ?_ | refine RunE.exit rfl ?_ | refine RunE.scope ?_ | refine RunE.inScope ?_ | refine RunE.label ?_)
  refine RunL.val rfl rfl rfl (OpV.lenSl Tryd.tOk rfl rfl R4) ?_
  repeat (first | refine RunL.pureI Tryd.tOk rfl rfl rfl (by (first | exact wr_i64 (by omega) (by omega) | exact wm_i64 (by omega) | exact wq_i64 (by omega) (by omega) (by omega) | rfl)) ?_ | refine RunL.pure Tryd.tOk rfl rfl rfl ?_ | refine RunL.unwantedD rfl rfl ?_ | refine RunE.seq ?_ | refine RunE.region ?_ | refine RunL.nil ?_ | refine RunE.block ?_ | refine RunE.inBlock ?_ | refine RunE.skip ?_ | refine RunE.exit rfl ?_ | refine RunE.scope ?_ | refine RunE.inScope ?_ | refine RunE.label ?_)
  refine RunE.cond rfl (fun hge => ?_) (fun hge => ?_) <;> (first | replace hge := of_decide_eq_true hge | replace hge := of_decide_eq_false hge | replace hge := beq_iff_eq.1 hge | replace hge := beq_eq_false_iff_ne.1 hge | replace hge := bne_iff_ne.1 hge | replace hge := bne_eq_false_iff_eq.1 hge | skip)
  · repeat (first | refine RunL.pureI Tryd.tOk rfl rfl rfl (by (first | exact wr_i64 (by omega) (by omega) | exact wm_i64 (by omega) | exact wq_i64 (by omega) (by omega) (by omega) | rfl)) ?_ | refine RunL.pure Tryd.tOk rfl rfl rfl ?_ | refine RunL.unwantedD rfl rfl ?_ | refine RunE.seq ?_ | refine RunE.region ?_ | refine RunL.nil ?_ | refine RunE.block ?_ | refine RunE.inBlock ?_ | refine RunE.skip ?_ | refine RunE.exit rfl ?_ | refine RunE.scope ?_ | refine RunE.inScope ?_ | refine RunE.label ?_)
    refine RunL.ex rfl rfl rfl (OpE.part (lo := 0) (hi := 64) Tryd.tOk rfl rfl R4 .none (.some rfl rfl) (by omega) (by omega)) ?_
    rintro u _ ⟨rfl, hu1, hu⟩
    have hu' : IsSl w4 1 u 64 (bytesV ((l.drop (64 * k)).take 64)) := by simpa [bytesV_drop, bytesV_take] using hu
    refine RunL.callV (fv := .func (.func 52) [.pointer (some ⟨B3, 0, none⟩)].toArray [].toArray) rfl rfl rfl rfl
      (Rets.v (absorb_sl _ _ B3 _ _ w4 V4 (by rw [List.length_take, List.length_drop]; omega) hu' (hkT.extE X4) (by omega)) rfl) (fun _ _ _ h => h.elim) ?_
    rintro _ w5 ⟨rfl, V5, E5⟩
    have X5 : Ext w w5 := X4.write E5 (by intro i hi hlt; subst hi; omega)
    have D5 := D4.ext E5 (by omega)
    have R5 := R4.ext E5 (by intro j hj; rw [hrv] at hj; intro e; have := hv.lt (by omega) (by decide) hj; omega)
    repeat (first | refine RunL.pureI Tryd.tOk rfl rfl rfl (by (first | exact wr_i64 (by omega) (by omega) | exact wm_i64 (by omega) | exact wq_i64 (by omega) (by omega) (by omega) | rfl)) ?_ | refine RunL.pure Tryd.tOk rfl rfl rfl ?_ | refine RunL.unwantedD rfl rfl ?_ | refine RunE.seq ?_ | refine RunE.region ?_ | refine RunL.nil ?_ | refine RunE.block ?_ | refine RunE.inBlock ?_ | refine RunE.skip ?_ | refine RunE.exit rfl ?_ | refine RunE.scope ?_ | refine RunE.inScope ?_ | refine RunE.label ?_)
    refine RunL.ex rfl rfl rfl (OpE.part (lo := 64) (hi := l.length - 64 * k) Tryd.tOk rfl rfl R5 (.some rfl rfl) .none (by omega) (by omega)) ?_
    rintro u2 _ ⟨rfl, hu3, hu4⟩
    have hu5 : IsSl w5 1 u2 (l.length - 64 * (k + 1)) (bytesV (l.drop (64 * (k + 1)))) := by
      have e : (bytesV (l.drop (64 * k))).drop 64 = bytesV (l.drop (64 * (k + 1))) := by rw [bytesV_drop, List.drop_drop]; rfl
      have e2 : l.length - 64 * k - 64 = l.length - 64 * (k + 1) := by omega
      rw [Nat.mul_one, Nat.mul_one, e, e2, List.take_of_length_le (by rw [bytesV_length, List.length_drop]; omega)] at hu4
      exact hu4
    repeat (first | refine RunL.pureI Tryd.tOk rfl rfl rfl (by (first | exact wr_i64 (by omega) (by omega) | exact wm_i64 (by omega) | exact wq_i64 (by omega) (by omega) (by omega) | rfl)) ?_ | refine RunL.pure Tryd.tOk rfl rfl rfl ?_ | refine RunL.unwantedD rfl rfl ?_ | refine RunE.seq ?_ | refine RunE.region ?_ | refine RunL.nil ?_ | refine RunE.block ?_ | refine RunE.inBlock ?_ | refine RunE.skip ?_ | refine RunE.exit rfl ?_ | refine RunE.scope ?_ | refine RunE.inScope ?_ | refine RunE.label ?_)
    exact RunE.weaken (by repeat (first | exact Sub.nil _ | refine Sub.cons rfl ?_)) (again (k + 1, u2) _ (by simp only; omega) ⟨by simp only; omega, X5, hu5, hu3.trans hrv, D5, V5⟩)
  · have hkq : k = l.length / 64 := by omega
    clear again
    repeat (first | refine RunL.pureI Tryd.tOk rfl rfl rfl (by (first | exact wr_i64 (by omega) (by omega) | exact wm_i64 (by omega) | exact wq_i64 (by omega) (by omega) (by omega) | rfl)) ?_ | refine RunL.pure Tryd.tOk rfl rfl rfl ?_ | refine RunL.unwantedD rfl rfl ?_ | refine RunE.seq ?_ | refine RunE.region ?_ | refine RunL.nil ?_ | refine RunE.block ?_ | refine RunE.inBlock ?_ | refine RunE.skip ?_ | refine RunE.exit rfl ?_ | refine RunE.scope ?_ | refine RunE.inScope ?_ | refine RunE.label ?_)
    have hw4 := X4.size
    have hB2lt := D4.lt
    have hB3lt := V4.lt
    have hDl : (l.drop (64 * k)).length = l.length - 64 * k := List.length_drop
    refine RunL.ex rfl rfl rfl (OpE.make (l := 64) (c := 128) Tryd.tOk rfl rfl rfl rfl rfl rfl rfl (by decide) (by decide) (by decide)) ?_
    rintro _ w5 ⟨B6, rfl, a5⟩
    have hB6 := a5.eq
    have V5 := V4.ext a5.ext id
    have D5 := D4.ext a5.ext id
    have R5 := R4.extE a5.ext
    have X5 := X4.trans a5.ext
    repeat (first | refine RunL.pureI Tryd.tOk rfl rfl rfl (by (first | exact wr_i64 (by omega) (by omega) | exact wm_i64 (by omega) | exact wq_i64 (by omega) (by omega) (by omega) | rfl)) ?_ | refine RunL.pure Tryd.tOk rfl rfl rfl ?_ | refine RunL.unwantedD rfl rfl ?_ | refine RunE.seq ?_ | refine RunE.region ?_ | refine RunL.nil ?_ | refine RunE.block ?_ | refine RunE.inBlock ?_ | refine RunE.skip ?_ | refine RunE.exit rfl ?_ | refine RunE.scope ?_ | refine RunE.inScope ?_ | refine RunE.label ?_)
    have C5 : Blk w5 B6 (bytesV (List.replicate 128 0)) 5 := by rw [← bytesV_replicate]; unfold Blk; rw [← zerosL_one]; exact a5.at_
    clear a5 V4 D4
    refine RunL.ex rfl rfl rfl (OpE.copySl Tryd.tOk rfl rfl rfl C5 R5 (by omega) (by simp [bytesV_length]; omega) (bytesV_plain _)) ?_
    rintro _ w6 ⟨rfl, C6, E6⟩
    have V6 := V5.ext E6 (by omega)
    have D6 := D5.ext E6 (by omega)
    have X6 : Ext w w6 := X5.write E6 (by intro i hi hlt; subst hi; omega)
    clear C5 V5 D5 X5 E6
    have e6 : setAt (bytesV (List.replicate 128 0)) 0 (bytesV (l.drop (64 * k))) = bytesV (l.drop (64 * k) ++ 0 :: List.replicate (127 - (l.length - 64 * k)) 0) := by
      have := setAt_bytes [] (List.replicate (l.length - 64 * k) 0) (0 :: List.replicate (127 - (l.length - 64 * k)) 0) (l.drop (64 * k)) 0 rfl (by simp)
      rw [List.nil_append, List.nil_append, ← List.replicate_succ, List.replicate_append_replicate, show l.length - 64 * k + (127 - (l.length - 64 * k) + 1) = 128 by omega] at this
      rw [this, ← List.replicate_succ]
    rw [e6] at C6
    repeat (first | refine RunL.pureI Tryd.tOk rfl rfl rfl (by (first | exact wr_i64 (by omega) (by omega) | exact wm_i64 (by omega) | exact wq_i64 (by omega) (by omega) (by omega) | rfl)) ?_ | refine RunL.pure Tryd.tOk rfl rfl rfl ?_ | refine RunL.unwantedD rfl rfl ?_ | refine RunE.seq ?_ | refine RunE.region ?_ | refine RunL.nil ?_ | refine RunE.block ?_ | refine RunE.inBlock ?_ | refine RunE.skip ?_ | refine RunE.exit rfl ?_ | refine RunE.scope ?_ | refine RunE.inScope ?_ | refine RunE.label ?_)
    refine RunL.val rfl rfl rfl (OpV.lenSl Tryd.tOk rfl rfl R4) ?_
    refine RunL.val rfl rfl rfl (OpV.indexS1 Tryd.tOk (l.length - 64 * k) rfl rfl rfl rfl (by omega)) ?_
    refine RunL.store Tryd.tOk rfl rfl rfl rfl rfl C6 (by simp [bytesV_length, Value.cells] <;> omega) rfl fun w7 t7 => ?_
    have V7 := V6.ext t7.ext (by omega)
    have D7 := D6.ext t7.ext (by omega)
    have X7 : Ext w w7 := X6.write t7.ext (by intro i hi hlt; subst hi; omega)
    have C7 : Blk w7 B6 (bytesV (l.drop (64 * k) ++ 128 :: List.replicate (127 - (l.length - 64 * k)) 0)) 5 := by
      have := t7.at_
      rw [Nat.zero_add] at this
      unfold Blk
      rw [this, ← set_byte (l.drop (64 * k)) _ 0 128 (l.length - 64 * k) hDl]
      rfl
    clear C6 V6 D6 X6 t7 e6
    repeat (first | refine RunL.pureI Tryd.tOk rfl rfl rfl (by (first | exact wr_i64 (by omega) (by omega) | exact wm_i64 (by omega) | exact wq_i64 (by omega) (by omega) (by omega) | rfl)) ?_ | refine RunL.pure Tryd.tOk rfl rfl rfl ?_ | refine RunL.unwantedD rfl rfl ?_ | refine RunE.seq ?_ | refine RunE.region ?_ | refine RunL.nil ?_ | refine RunE.block ?_ | refine RunE.inBlock ?_ | refine RunE.skip ?_ | refine RunE.exit rfl ?_ | refine RunE.scope ?_ | refine RunE.inScope ?_ | refine RunE.label ?_)
    refine RunL.val rfl rfl rfl (OpV.lenSl Tryd.tOk rfl rfl R4) ?_
    repeat (first | refine RunL.pureI Tryd.tOk rfl rfl rfl (by (first | exact wr_i64 (by omega) (by omega) | exact wm_i64 (by omega) | exact wq_i64 (by omega) (by omega) (by omega) | rfl)) ?_ | refine RunL.pure Tryd.tOk rfl rfl rfl ?_ | refine RunL.unwantedD rfl rfl ?_ | refine RunE.seq ?_ | refine RunE.region ?_ | refine RunL.nil ?_ | refine RunE.block ?_ | refine RunE.inBlock ?_ | refine RunE.skip ?_ | refine RunE.exit rfl ?_ | refine RunE.scope ?_ | refine RunE.inScope ?_ | refine RunE.label ?_)
    obtain ⟨m, hm⟩ : ∃ m, m = (tailOf l).length := ⟨_, rfl⟩
    have hm2 := tailOf_length l
    rw [← hm] at hm2
    refine RunE.condJoin (ι := Unit) (fun _ => [(0, v), (2, .pointer (some ⟨B2, 0, none⟩)), (3, .pointer (some ⟨B3, 0, none⟩)), (4, .func (.func 52) [.pointer (some ⟨B3, 0, none⟩)].toArray [].toArray), (6, .slice (some ⟨B6, 0, none⟩) m 128)])
      (fun _ w' => w7 = w') rfl ?_ (fun h join => ?_) (fun h join => ?_)
    rotate_left
    · have h' := of_decide_eq_true h
      have hm128 : m = 128 := by rw [hm2, if_pos (by omega)]
      refine RunE.region ?_
      repeat (first | refine RunL.pureI Tryd.tOk rfl rfl rfl (by (first | exact wr_i64 (by omega) (by omega) | exact wm_i64 (by omega) | exact wq_i64 (by omega) (by omega) (by omega) | rfl)) ?_ | refine RunL.pure Tryd.tOk rfl rfl rfl ?_ | refine RunL.unwantedD rfl rfl ?_)
      refine RunL.val rfl rfl rfl (OpV.slice0 (hi := 128) Tryd.tOk rfl rfl .none (.some rfl rfl) (by decide)) ?_
      repeat (first | refine RunL.pureI Tryd.tOk rfl rfl rfl (by (first | exact wr_i64 (by omega) (by omega) | exact wm_i64 (by omega) | exact wq_i64 (by omega) (by omega) (by omega) | rfl)) ?_ | refine RunL.pure Tryd.tOk rfl rfl rfl ?_ | refine RunL.unwantedD rfl rfl ?_)
      refine RunL.nil ?_
      subst hm128
      exact RunE.weaken (by repeat (first | exact Sub.nil _ | refine Sub.cons rfl ?_)) (join () _ rfl)
    · have h' := of_decide_eq_false h
      have hm64 : m = 64 := by rw [hm2, if_neg (by omega)]
      repeat (first | refine RunE.skip ?_)
      subst hm64
      exact RunE.weaken (by repeat (first | exact Sub.nil _ | refine Sub.cons rfl ?_)) (join () _ rfl)
    rintro _ _ rfl
    have hmz : m = 9 + padz l.length + (l.length - 64 * k) := by unfold padz; rw [hm2]; split <;> omega
    have hm8 : m = 64 ∨ m = 128 := by rw [hm2]; split <;> omega
    have ec : l.drop (64 * k) ++ 128 :: List.replicate (127 - (l.length - 64 * k)) 0 = (l.drop (64 * k) ++ 128 :: List.replicate (padz l.length) 0) ++ List.replicate 8 0 ++ List.replicate (128 - m) 0 := by
      rw [List.append_assoc, List.append_assoc, List.cons_append, List.replicate_append_replicate, List.replicate_append_replicate]
      congr 3; omega
    rw [ec] at C7
    repeat (first | refine RunL.pureI Tryd.tOk rfl rfl rfl (by (first | exact wr_i64 (by omega) (by omega) | exact wm_i64 (by omega) | exact wq_i64 (by omega) (by omega) (by omega) | rfl)) ?_ | refine RunL.pure Tryd.tOk rfl rfl rfl ?_ | refine RunL.unwantedD rfl rfl ?_ | refine RunE.seq ?_ | refine RunE.region ?_ | refine RunL.nil ?_ | refine RunE.block ?_ | refine RunE.inBlock ?_ | refine RunE.skip ?_ | refine RunE.exit rfl ?_ | refine RunE.scope ?_ | refine RunE.inScope ?_ | refine RunE.label ?_)
    refine RunL.val rfl rfl rfl (OpV.sliceSq (lo := m - 8) (hi := m) (q := m - 8) (len := 8) (cap := 128 - (m - 8)) Tryd.tOk rfl rfl (.some rfl (by omega)) .none (by omega) (by omega) (by rw [offOf_lt (by omega)]; omega) (by omega) rfl) ?_
    repeat (first | refine RunL.pureI Tryd.tOk rfl rfl rfl (by (first | exact wr_i64 (by omega) (by omega) | exact wm_i64 (by omega) | exact wq_i64 (by omega) (by omega) (by omega) | rfl)) ?_ | refine RunL.pure Tryd.tOk rfl rfl rfl ?_ | refine RunL.unwantedD rfl rfl ?_ | refine RunE.seq ?_ | refine RunE.region ?_ | refine RunL.nil ?_ | refine RunE.block ?_ | refine RunE.inBlock ?_ | refine RunE.skip ?_ | refine RunE.exit rfl ?_ | refine RunE.scope ?_ | refine RunE.inScope ?_ | refine RunE.label ?_)
    refine RunL.val rfl rfl rfl (OpV.lenSl Tryd.tOk rfl rfl hv) ?_
    repeat (first | refine RunL.pureI Tryd.tOk rfl rfl rfl (by (first | exact u64_nat _ (by omega) | exact u64_mul _ 8 (by omega) | exact wr_i64 (by omega) (by omega) | exact wm_i64 (by omega) | exact wq_i64 (by omega) (by omega) (by omega) | rfl)) ?_ | refine RunL.pure Tryd.tOk rfl rfl rfl ?_ | refine RunL.unwantedD rfl rfl ?_ | refine RunL.val rfl rfl rfl (OpV.indexAK Tryd.tOk rfl rfl rfl rfl) ?_ | refine RunL.val rfl rfl rfl (OpV.indexSK Tryd.tOk rfl rfl rfl rfl) ?_ | refine RunE.seq ?_ | refine RunE.region ?_ | refine RunL.nil ?_ | refine RunE.block ?_ | refine RunE.inBlock ?_ | refine RunE.skip ?_ | refine RunE.exit rfl ?_ | refine RunE.scope ?_ | refine RunE.inScope ?_ | refine RunE.label ?_)
    refine RunL.call rfl rfl rfl (put_ok B6 (m - 8) 8 _ _ _ _ _ _ _ (by simp; omega) (by simp) (by decide) C7) ?_
    rintro _ w8 ⟨rfl, C8, E8⟩
    have et : l.drop (64 * k) ++ 128 :: List.replicate (padz l.length) 0 ++ be 8 (l.length * 8) = tailOf l := by
      rw [tailOf_eq, ← hkq, Nat.mul_comm 8]; simp
    rw [et] at C8
    have V8 := V7.ext E8 (by omega)
    have D8 := D7.ext E8 (by omega)
    have X8 : Ext w w8 := X7.write E8 (by intro i hi hlt; subst hi; omega)
    have P8 : run init8 l k = run init8 (pad l) (k + 0) := (run_pad init8 l k hk).symm
    rw [P8] at V8
    clear C7 V7 D7 X7 E8 ec P8
    repeat (first | refine RunL.pureI Tryd.tOk rfl rfl rfl (by (first | exact wr_i64 (by omega) (by omega) | exact wm_i64 (by omega) | exact wq_i64 (by omega) (by omega) (by omega) | rfl)) ?_ | refine RunL.pure Tryd.tOk rfl rfl rfl ?_ | refine RunL.unwantedD rfl rfl ?_ | refine RunE.seq ?_ | refine RunE.region ?_ | refine RunL.nil ?_ | refine RunE.block ?_ | refine RunE.inBlock ?_ | refine RunE.skip ?_ | refine RunE.exit rfl ?_ | refine RunE.scope ?_ | refine RunE.inScope ?_ | refine RunE.label ?_)
    have sl8 : IsSl w8 1 (.slice (some ⟨B6, 0, none⟩) m 128) (m - 64 * 0) (bytesV ((tailOf l).drop (64 * 0))) := by
      refine isSl_blk C8 (fun i u hu => ?_) (by rw [bytesV_length, List.length_drop, ← hm]; omega) (by omega)
      rw [bytesV_append, Nat.zero_add]
      rw [Nat.mul_zero, List.drop_zero] at hu
      rw [List.getElem?_append_left (by
        rcases Nat.lt_or_ge i (bytesV (tailOf l)).length with h | h
        · exact h
        · rw [List.getElem?_eq_none h] at hu; simp at hu)]
      exact hu
    refine RunE.loop (ι := Nat × Value) (fun x => [(0, v), (2, .pointer (some ⟨B2, 0, none⟩)), (3, .pointer (some ⟨B3, 0, none⟩)), (4, .func (.func 52) [.pointer (some ⟨B3, 0, none⟩)].toArray [].toArray), (6, x.2)])
      (fun x w' => 64 * x.1 ≤ m ∧ Ext w w' ∧ IsSl w' 1 x.2 (m - 64 * x.1) (bytesV ((tailOf l).drop (64 * x.1))) ∧ x.2.ownBlock = some B6 ∧ Blk w' B2 (bytesV (List.replicate 32 0)) 30 ∧ Blk w' B3 (vals (run init8 (pad l) (k + x.1)).l) 75)
      (fun x => m - 64 * x.1) (0, .slice (some ⟨B6, 0, none⟩) m 128) (by repeat (first | exact Sub.nil _ | refine Sub.cons rfl ?_)) ⟨by simp, X8, sl8, rfl, D8, V8⟩ ?_
    clear V8 D8 X8 sl8 C8
    rintro ⟨j, sv⟩ w9 ⟨hj, X9, R9, hsv, D9, V9⟩ again
    simp only at hj R9 hsv V9 again ⊢
    repeat (first | refine RunL.pureI Tryd.tOk rfl rfl rfl (by (first | exact wr_i64 (by omega) (by omega) | exact wm_i64 (by omega) | exact wq_i64 (by omega) (by omega) (by omega) | rfl)) ?_ | refine RunL.pure Tryd.tOk rfl rfl rfl ?_ | refine RunL.unwantedD rfl rfl ?_ | refine RunE.seq ?_ | refine RunE.region ?_ | refine RunL.nil ?_ | refine RunE.block ?_ | refine RunE.inBlock ?_ | refine RunE.skip ?_ | refine RunE.exit rfl ?_ | refine RunE.scope ?_ | refine RunE.inScope ?_ | refine RunE.label ?_)
    refine RunL.val rfl rfl rfl (OpV.lenSl Tryd.tOk rfl rfl R9) ?_
    repeat (first | refine RunL.pureI Tryd.tOk rfl rfl rfl (by (first | exact wr_i64 (by omega) (by omega) | exact wm_i64 (by omega) | exact wq_i64 (by omega) (by omega) (by omega) | rfl)) ?_ | refine RunL.pure Tryd.tOk rfl rfl rfl ?_ | refine RunL.unwantedD rfl rfl ?_ | refine RunE.seq ?_ | refine RunE.region ?_ | refine RunL.nil ?_ | refine RunE.block ?_ | refine RunE.inBlock ?_ | refine RunE.skip ?_ | refine RunE.exit rfl ?_ | refine RunE.scope ?_ | refine RunE.inScope ?_ | refine RunE.label ?_)
    refine RunE.cond rfl (fun hgt => ?_) (fun hgt => ?_) <;> (first | replace hgt := of_decide_eq_true hgt | replace hgt := of_decide_eq_false hgt | replace hgt := beq_iff_eq.1 hgt | replace hgt := beq_eq_false_iff_ne.1 hgt | replace hgt := bne_iff_ne.1 hgt | replace hgt := bne_eq_false_iff_eq.1 hgt | skip)
    · have hj64 : 64 * j + 64 ≤ m := by omega
      repeat (first | refine RunL.pureI Tryd.tOk rfl rfl rfl (by (first | exact wr_i64 (by omega) (by omega) | exact wm_i64 (by omega) | exact wq_i64 (by omega) (by omega) (by omega) | rfl)) ?_ | refine RunL.pure Tryd.tOk rfl rfl rfl ?_ | refine RunL.unwantedD rfl rfl ?_ | refine RunE.seq ?_ | refine RunE.region ?_ | refine RunL.nil ?_ | refine RunE.block ?_ | refine RunE.inBlock ?_ | refine RunE.skip ?_ | refine RunE.exit rfl ?_ | refine RunE.scope ?_ | refine RunE.inScope ?_ | refine RunE.label ?_)
      refine RunL.ex rfl rfl rfl (OpE.part (lo := 0) (hi := 64) Tryd.tOk rfl rfl R9 .none (.some rfl rfl) (by omega) (by omega)) ?_
      rintro u _ ⟨rfl, hu1, hu⟩
      have hu' : IsSl w9 1 u 64 (bytesV (((pad l).drop (64 * (k + j))).take 64)) := by
        have := tail_block l j
        rw [← hkq] at this
        rw [← this]
        simpa [bytesV_drop, bytesV_take] using hu
      refine RunL.callV (fv := .func (.func 52) [.pointer (some ⟨B3, 0, none⟩)].toArray [].toArray) rfl rfl rfl rfl
        (Rets.v (absorb_sl _ _ B3 _ _ w9 V9 (by rw [← tail_block_len l k j m hkq hm hj64]) hu' (hkT.extE X9) (by omega)) rfl) (fun _ _ _ h => h.elim) ?_
      rintro _ wa ⟨rfl, Va, Ea⟩
      have Xa : Ext w wa := X9.write Ea (by intro i hi hlt; subst hi; omega)
      have Da := D9.ext Ea (by omega)
      have Ra := R9.ext Ea (by intro j hj; rw [hsv] at hj; injection hj with hj; omega)
      repeat (first | refine RunL.pureI Tryd.tOk rfl rfl rfl (by (first | exact wr_i64 (by omega) (by omega) | exact wm_i64 (by omega) | exact wq_i64 (by omega) (by omega) (by omega) | rfl)) ?_ | refine RunL.pure Tryd.tOk rfl rfl rfl ?_ | refine RunL.unwantedD rfl rfl ?_ | refine RunE.seq ?_ | refine RunE.region ?_ | refine RunL.nil ?_ | refine RunE.block ?_ | refine RunE.inBlock ?_ | refine RunE.skip ?_ | refine RunE.exit rfl ?_ | refine RunE.scope ?_ | refine RunE.inScope ?_ | refine RunE.label ?_)
      refine RunL.ex rfl rfl rfl (OpE.part (lo := 64) (hi := m - 64 * j) Tryd.tOk rfl rfl Ra (.some rfl rfl) .none (by omega) (by omega)) ?_
      rintro u2 _ ⟨rfl, hu3, hu4⟩
      have hu5 : IsSl wa 1 u2 (m - 64 * (j + 1)) (bytesV ((tailOf l).drop (64 * (j + 1)))) := by
        have e : (bytesV ((tailOf l).drop (64 * j))).drop 64 = bytesV ((tailOf l).drop (64 * (j + 1))) := by rw [bytesV_drop, List.drop_drop]; rfl
        have e2 : m - 64 * j - 64 = m - 64 * (j + 1) := by omega
        rw [Nat.mul_one, Nat.mul_one, e, e2, List.take_of_length_le (by rw [bytesV_length, List.length_drop]; omega)] at hu4
        exact hu4
      repeat (first | refine RunL.pureI Tryd.tOk rfl rfl rfl (by (first | exact wr_i64 (by omega) (by omega) | exact wm_i64 (by omega) | exact wq_i64 (by omega) (by omega) (by omega) | rfl)) ?_ | refine RunL.pure Tryd.tOk rfl rfl rfl ?_ | refine RunL.unwantedD rfl rfl ?_ | refine RunE.seq ?_ | refine RunE.region ?_ | refine RunL.nil ?_ | refine RunE.block ?_ | refine RunE.inBlock ?_ | refine RunE.skip ?_ | refine RunE.exit rfl ?_ | refine RunE.scope ?_ | refine RunE.inScope ?_ | refine RunE.label ?_)
      exact RunE.weaken (by repeat (first | exact Sub.nil _ | refine Sub.cons rfl ?_)) (again (j + 1, u2) _ (by simp only; omega) ⟨by simp only; omega, Xa, hu5, hu3.trans hsv, Da, Va⟩)
    · have hjm : 64 * j = m := by omega
      clear again R9
      have hsha : sha l = dig (run init8 (pad l) (k + j)) := by rw [sha_eq, ← hm, ← hkq]; congr 3; omega
      rw [hsha]
      generalize run init8 (pad l) (k + j) = S at V9
      repeat (first | refine RunL.pureI Tryd.tOk rfl rfl rfl (by (first | exact wr_i64 (by omega) (by omega) | exact wm_i64 (by omega) | exact wq_i64 (by omega) (by omega) (by omega) | rfl)) ?_ | refine RunL.pure Tryd.tOk rfl rfl rfl ?_ | refine RunL.unwantedD rfl rfl ?_ | refine RunE.seq ?_ | refine RunE.region ?_ | refine RunL.nil ?_ | refine RunE.block ?_ | refine RunE.inBlock ?_ | refine RunE.skip ?_ | refine RunE.exit rfl ?_ | refine RunE.scope ?_ | refine RunE.inScope ?_ | refine RunE.label ?_)
      refine RunL.val rfl rfl rfl (OpV.loadN (cs := vals S.l) Tryd.tOk rfl rfl rfl rfl V9.row) ?_
      repeat (first | refine RunL.pureI Tryd.tOk rfl rfl rfl (by (first | exact wr_i64 (by omega) (by omega) | exact wm_i64 (by omega) | exact wq_i64 (by omega) (by omega) (by omega) | rfl)) ?_ | refine RunL.pure Tryd.tOk rfl rfl rfl ?_ | refine RunL.unwantedD rfl rfl ?_ | refine RunE.seq ?_ | refine RunE.region ?_ | refine RunL.nil ?_ | refine RunE.block ?_ | refine RunE.inBlock ?_ | refine RunE.skip ?_ | refine RunE.exit rfl ?_ | refine RunE.scope ?_ | refine RunE.inScope ?_ | refine RunE.label ?_)
      refine RunE.loop (ι := Nat) (fun i => [(2, .pointer (some ⟨B2, 0, none⟩)), (53, .agg (vals S.l).toArray), (54, .int .i64 (i : Int))])
        (fun i w' => i ≤ 8 ∧ Ext w w' ∧ Blk w' B2 (bytesV ((S.l.take i).flatMap (fun x => be 4 x.toNat) ++ List.replicate (32 - 4 * i) 0)) 30)
        (fun i => 8 - i) 0 (by repeat (first | exact Sub.nil _ | refine Sub.cons rfl ?_)) ⟨by omega, X9, D9⟩ ?_
      clear D9 X9 V9
      rintro i u0 ⟨hi, Xu, Du⟩ again
      have hSl : S.l.length = 8 := rfl
      have hXl : ((S.l.take i).flatMap (fun x => be 4 x.toNat)).length = 4 * i := by
        rw [flat_length, List.length_take, hSl]; omega
      repeat (first | refine RunL.pureI Tryd.tOk rfl rfl rfl (by (first | exact wr_i64 (by omega) (by omega) | exact wm_i64 (by omega) | exact wq_i64 (by omega) (by omega) (by omega) | rfl)) ?_ | refine RunL.pure Tryd.tOk rfl rfl rfl ?_ | refine RunL.unwantedD rfl rfl ?_ | refine RunE.seq ?_ | refine RunE.region ?_ | refine RunL.nil ?_ | refine RunE.block ?_ | refine RunE.inBlock ?_ | refine RunE.skip ?_ | refine RunE.exit rfl ?_ | refine RunE.scope ?_ | refine RunE.inScope ?_ | refine RunE.label ?_)
      refine RunE.cond rfl (fun hlt8 => ?_) (fun hlt8 => ?_) <;> (first | replace hlt8 := of_decide_eq_true hlt8 | replace hlt8 := of_decide_eq_false hlt8 | replace hlt8 := beq_iff_eq.1 hlt8 | replace hlt8 := beq_eq_false_iff_ne.1 hlt8 | replace hlt8 := bne_iff_ne.1 hlt8 | replace hlt8 := bne_eq_false_iff_eq.1 hlt8 | skip)
      · have hi8 : i < 8 := by omega
        repeat (first | refine RunL.pureI Tryd.tOk rfl rfl rfl (by (first | exact wr_i64 (by omega) (by omega) | exact wm_i64 (by omega) | exact wq_i64 (by omega) (by omega) (by omega) | rfl)) ?_ | refine RunL.pure Tryd.tOk rfl rfl rfl ?_ | refine RunL.unwantedD rfl rfl ?_ | refine RunE.seq ?_ | refine RunE.region ?_ | refine RunL.nil ?_ | refine RunE.block ?_ | refine RunE.inBlock ?_ | refine RunE.skip ?_ | refine RunE.exit rfl ?_ | refine RunE.scope ?_ | refine RunE.inScope ?_ | refine RunE.label ?_)
        refine RunL.val rfl rfl rfl (OpV.indexV (v := .int .u32 ((S.l.getD i 0).toNat : Int)) Tryd.tOk i rfl rfl rfl rfl (by omega) (by rw [Nat.mul_one]; exact vals_get' (by omega))) ?_
        repeat (first | refine RunL.pureI Tryd.tOk rfl rfl rfl (by (first | exact i64_mul 4 _ (by omega) | exact wr_i64 (by omega) (by omega) | exact wm_i64 (by omega) | exact wq_i64 (by omega) (by omega) (by omega) | rfl)) ?_ | refine RunL.pure Tryd.tOk rfl rfl rfl ?_ | refine RunL.unwantedD rfl rfl ?_ | refine RunL.val rfl rfl rfl (OpV.indexAK Tryd.tOk rfl rfl rfl rfl) ?_ | refine RunL.val rfl rfl rfl (OpV.indexSK Tryd.tOk rfl rfl rfl rfl) ?_ | refine RunE.seq ?_ | refine RunE.region ?_ | refine RunL.nil ?_ | refine RunE.block ?_ | refine RunE.inBlock ?_ | refine RunE.skip ?_ | refine RunE.exit rfl ?_ | refine RunE.scope ?_ | refine RunE.inScope ?_ | refine RunE.label ?_)
        refine RunL.val rfl rfl rfl (OpV.sliceAq (lo := 4 * i) (hi := 4 * i + 4) (q := 4 * i) (len := 4) (cap := 32 - 4 * i) Tryd.tOk rfl rfl (.some rfl rfl) (.some rfl rfl) (by omega) (by omega) (by rw [offOf_lt (by omega)]; omega) (by omega) rfl) ?_
        repeat (first | refine RunL.pureI Tryd.tOk rfl rfl rfl (by (first | exact u64_nat _ (by have := BitVec.isLt (S.l.getD i 0); omega) | exact wr_i64 (by omega) (by omega) | exact wm_i64 (by omega) | exact wq_i64 (by omega) (by omega) (by omega) | rfl)) ?_ | refine RunL.pure Tryd.tOk rfl rfl rfl ?_ | refine RunL.unwantedD rfl rfl ?_ | refine RunL.val rfl rfl rfl (OpV.indexAK Tryd.tOk rfl rfl rfl rfl) ?_ | refine RunL.val rfl rfl rfl (OpV.indexSK Tryd.tOk rfl rfl rfl rfl) ?_ | refine RunE.seq ?_ | refine RunE.region ?_ | refine RunL.nil ?_ | refine RunE.block ?_ | refine RunE.inBlock ?_ | refine RunE.skip ?_ | refine RunE.exit rfl ?_ | refine RunE.scope ?_ | refine RunE.inScope ?_ | refine RunE.label ?_)
        have eD : (S.l.take i).flatMap (fun x => be 4 x.toNat) ++ List.replicate (32 - 4 * i) 0 = (S.l.take i).flatMap (fun x => be 4 x.toNat) ++ List.replicate 4 0 ++ List.replicate (32 - 4 * (i + 1)) 0 := by
          rw [List.append_assoc, List.replicate_append_replicate]; congr 2; omega
        rw [eD] at Du
        refine RunL.call rfl rfl rfl (put_ok B2 (4 * i) 4 _ _ _ _ _ _ _ hXl (by simp) (by decide) Du) ?_
        rintro _ u1 ⟨rfl, D1, E1⟩
        have X1 : Ext w u1 := Xu.write E1 (by intro i hi hlt; subst hi; omega)
        repeat (first | refine RunL.pureI Tryd.tOk rfl rfl rfl (by (first | exact wr_i64 (by omega) (by omega) | exact wm_i64 (by omega) | exact wq_i64 (by omega) (by omega) (by omega) | rfl)) ?_ | refine RunL.pure Tryd.tOk rfl rfl rfl ?_ | refine RunL.unwantedD rfl rfl ?_ | refine RunE.seq ?_ | refine RunE.region ?_ | refine RunL.nil ?_ | refine RunE.block ?_ | refine RunE.inBlock ?_ | refine RunE.skip ?_ | refine RunE.exit rfl ?_ | refine RunE.scope ?_ | refine RunE.inScope ?_ | refine RunE.label ?_)
        refine RunE.weaken (by repeat (first | exact Sub.nil _ | refine Sub.cons rfl ?_)) (again (i + 1) _ (by omega) ⟨by omega, X1, ?_⟩)
        rw [List.take_add_one, List.getElem?_eq_getElem (by omega : i < S.l.length), List.flatMap_append]
        rw [List.getD_eq_getElem?_getD, List.getElem?_eq_getElem (by omega : i < S.l.length)] at D1
        simpa using D1
      · have hi8 : i = 8 := by omega
        subst hi8
        have Df : Blk u0 B2 (bytesV (dig S)) 30 := by rw [show (S.l.take 8) = S.l from rfl] at Du; simpa [dig] using Du
        have hdl := dig_length S
        generalize dig S = D at Df hdl ⊢
        repeat (first | refine RunL.pureI Tryd.tOk rfl rfl rfl (by (first | exact wr_i64 (by omega) (by omega) | exact wm_i64 (by omega) | exact wq_i64 (by omega) (by omega) (by omega) | rfl)) ?_ | refine RunL.pure Tryd.tOk rfl rfl rfl ?_ | refine RunL.unwantedD rfl rfl ?_ | refine RunE.seq ?_ | refine RunE.region ?_ | refine RunL.nil ?_ | refine RunE.block ?_ | refine RunE.inBlock ?_ | refine RunE.skip ?_ | refine RunE.exit rfl ?_ | refine RunE.scope ?_ | refine RunE.inScope ?_ | refine RunE.label ?_)
        refine RunL.val rfl rfl rfl (OpV.loadN (cs := bytesV D) Tryd.tOk rfl rfl rfl (by rw [bytesV_length]; exact hdl) Df.row) ?_
        refine RunL.store (v := .agg (bytesV D).toArray) Tryd.tOk rfl rfl rfl rfl (by simp [Value.cells, bytesV_length, hdl]) Df (by simp [Value.cells]) (by simp [Value.cells, bytesV_plain]) fun u2 t2 => ?_
        have X2 : Ext w u2 := Xu.write t2.ext (by intro i hi hlt; subst hi; omega)
        have D2 : Blk u2 B2 (bytesV D) 30 := by
          have := t2.at_
          rw [show (Value.agg (bytesV D).toArray).cells.toList = bytesV D from rfl, setAt_self] at this
          exact this
        repeat (first | refine RunL.pureI Tryd.tOk rfl rfl rfl (by (first | exact wr_i64 (by omega) (by omega) | exact wm_i64 (by omega) | exact wq_i64 (by omega) (by omega) (by omega) | rfl)) ?_ | refine RunL.pure Tryd.tOk rfl rfl rfl ?_ | refine RunL.unwantedD rfl rfl ?_ | refine RunE.seq ?_ | refine RunE.region ?_ | refine RunL.nil ?_ | refine RunE.block ?_ | refine RunE.inBlock ?_ | refine RunE.skip ?_ | refine RunE.exit rfl ?_ | refine RunE.scope ?_ | refine RunE.inScope ?_ | refine RunE.label ?_)
        exact RunE.retFn Tryd.func31 (.cell rfl (.agg Tryd.tOk rfl rfl (by rw [bytesV_length]; exact hdl) D2.row) .nil) ⟨rfl, X2⟩
end Go.Sg
