/- Parts of this project that the claims share: Sha3, Sha4, Sha5, Sha6, Laid, SigEq, OpenS, Chk, Defer, Recov, Pan, Cod1, CodS. -/
import Derived.Test.YtamcgoplhnbmcaaDoorN03
import Derived.Test.YtamcgoplhnbmcaaDoorN02
import Derived.Test.YtamcgoplhnbmcaaDoorN01
import Derived.Laws.StructEq
import Derived.Recover
import Derived.Lib.AppendStr
set_option linter.unusedSimpArgs false
set_option linter.unusedVariables false
set_option linter.unusedSectionVars false
section
/- The program's SHA-256: a number's bytes, a text's digest. -/
namespace Go.Sg
open Go.Rn Go.Sha Go.Proofs
attribute [local irreducible] Go.Rn.RunL Go.Rn.RunE Go.Rn.Asy Go.Rn.OpV Go.Rn.OpE Go.Rn.ExecE

theorem put_ok (B o len cap n : Nat) (X Y Z : List UInt8) (t : TypeId) (w : World) (hX : X.length = o) (hY : Y.length = len) (h8 : len ≤ 8) (hb : Blk w B (bytesV (X ++ Y ++ Z)) t) :
    Rets Tryd.prog 124 [.slice (some ⟨B, o, none⟩) len cap, .int .u64 (n : Int)] w fun v w' => v = .tuple #[] ∧ Blk w' B (bytesV (X ++ be len n ++ Z)) t ∧ ExtB (· = B) w w' := by
  refine RetsX.of (nt := 23) Tryd.func124 (by kernel_rfl) rfl rfl (by simp) (by simp only [argEnv]; rfl) ?_
  repeat (first | refine RunL.pureI Tryd.tOk rfl rfl rfl (by (first | exact wr_i64 (by omega) (by omega) | exact wm_i64 (by omega) | exact wq_i64 (by omega) (by omega) (by omega) | rfl)) ?_ | refine RunL.pure Tryd.tOk rfl rfl rfl ?_ | refine RunE.seq ?_ | refine RunE.region ?_ | refine RunL.nil ?_ | refine RunE.block ?_)
  refine RunE.loop (ι := Nat) (fun i => [(0, .slice (some ⟨B, o, none⟩) len cap), (1, .int .u64 (n : Int)), (6, .int .i64 (len : Int)), (7, .int .i64 (i : Int))])
    (fun i w' => i ≤ len ∧ ExtB (· = B) w w' ∧ Blk w' B (bytesV (X ++ (Y.take (len - i) ++ be i n) ++ Z)) t) (fun i => len - i) 0 (by repeat (first | exact Sub.nil _ | refine Sub.cons rfl ?_))
    ⟨by omega, .refl _ _, by rw [Nat.sub_zero, ← hY, List.take_length]; simpa [be] using hb⟩ ?_
  rintro i w1 ⟨hi, E1, B1⟩ again
  repeat (first | refine RunL.pure Tryd.tOk rfl rfl rfl ?_ | refine RunE.seq ?_ | refine RunE.region ?_ | refine RunL.nil ?_)
  refine RunE.cond rfl (fun hlt => ?_) (fun hlt => ?_) <;> (first | replace hlt := of_decide_eq_true hlt | replace hlt := of_decide_eq_false hlt | replace hlt := beq_iff_eq.1 hlt | replace hlt := beq_eq_false_iff_ne.1 hlt | replace hlt := bne_iff_ne.1 hlt | replace hlt := bne_eq_false_iff_eq.1 hlt | skip)
  · have hlt' : i < len := by omega
    repeat (first | refine RunL.pureI Tryd.tOk rfl rfl rfl (by (first | exact i64_mul 8 _ (by omega) | exact u64_shr _ _ (by omega) | exact u8_of_nat _ | exact wr_i64 (by omega) (by omega) | exact wm_i64 (by omega) | exact wq_i64 (by omega) (by omega) (by omega) | rfl)) ?_ | refine RunL.pure Tryd.tOk rfl rfl rfl ?_ | refine RunE.seq ?_ | refine RunE.region ?_ | refine RunL.nil ?_ | refine RunE.block ?_ | refine RunE.skip ?_)
    refine RunL.val rfl rfl rfl (OpV.indexS1 Tryd.tOk (len - 1 - i) rfl rfl rfl (by omega) (by omega)) ?_
    have e1 : X ++ (Y.take (len - i) ++ be i n) ++ Z = (X ++ Y.take (len - 1 - i)) ++ Y.getD (len - 1 - i) 0 :: (be i n ++ Z) := by
      have hy : len - 1 - i < Y.length := by omega
      have : Y.take (len - i) = Y.take (len - 1 - i) ++ [Y.getD (len - 1 - i) 0] := by
        rw [show len - i = (len - 1 - i) + 1 by omega, List.take_add_one, List.getElem?_eq_getElem hy, List.getD_eq_getElem?_getD, List.getElem?_eq_getElem hy]
        rfl
      rw [this]; simp
    rw [e1] at B1
    refine RunL.store Tryd.tOk rfl rfl rfl rfl rfl B1 (by simp [bytesV_length, Value.cells, be_length]; omega) rfl fun w2 t2 => ?_
    have E2 := E1.write t2.ext (by intro i hi _; exact hi)
    have B2 : Blk w2 B (bytesV (X ++ (Y.take (len - (i + 1)) ++ be (i + 1) n) ++ Z)) t := by
      have := t2.at_
      have e2 := set_byte (X ++ Y.take (len - 1 - i)) (be i n ++ Z) (Y.getD (len - 1 - i) 0) (UInt8.ofNat (n / 2 ^ (8 * i))) (o + (len - 1 - i)) (by rw [List.length_append, List.length_take, hX]; omega)
      have e3 : X ++ (Y.take (len - (i + 1)) ++ be (i + 1) n) ++ Z = (X ++ Y.take (len - 1 - i)) ++ UInt8.ofNat (n / 2 ^ (8 * i)) :: (be i n ++ Z) := by
        rw [show len - (i + 1) = len - 1 - i by omega]; simp [be]
      unfold Blk
      rw [e3, ← e2, this]
      rfl
    repeat (first | refine RunL.pureI Tryd.tOk rfl rfl rfl (by (first | exact wr_i64 (by omega) (by omega) | exact wm_i64 (by omega) | exact wq_i64 (by omega) (by omega) (by omega) | rfl)) ?_ | refine RunE.region ?_ | refine RunL.nil ?_ | refine RunE.inBlock ?_)
    exact RunE.weaken (by repeat (first | exact Sub.nil _ | refine Sub.cons rfl ?_)) (again (i + 1) _ (by omega) ⟨by omega, E2, B2⟩)
  · have hil : i = len := by omega
    subst hil
    repeat (first | refine RunE.exit rfl ?_)
    refine RunE.fallFn Tryd.func124 .nil ⟨rfl, ?_, E1⟩
    rw [Nat.sub_self] at B1
    simpa using B1

/-- A block, handed over as a slice. -/
theorem absorb_sl (s : S8) (l : List UInt8) (b bt : Nat) (v : Value) (w : World) (hb : Blk w b (vals s.l) bt) (hl : l.length = 64) (hv : IsSl w 1 v 64 (bytesV l)) (hkT : Row w 1 0 (vals kTab)) (hb1 : b ≠ 1) :
    Rets Tryd.prog 123 [.pointer (some ⟨b, 0, none⟩), v] w fun v w' => v = .tuple #[] ∧ Blk w' b (vals (block s l).l) bt ∧ ExtB (· = b) w w' := by
  obtain ⟨b', o', cap, rfl, hr, -, hc⟩ := hv.held (by decide)
  exact absorb_ok s l b bt b' o' cap w hb hl hr hc hkT hb1

set_option maxHeartbeats 4000000 in
theorem sum_ok (v : Value) (l : List UInt8) (w : World) (hv : IsSl w 1 v l.length (bytesV l)) (hl : l.length < 1152921504606846976) (hS : Row w 0 0 (vals init8.l)) (hkT : Row w 1 0 (vals kTab)) :
    Rets Tryd.prog 110 [v] w fun r w' => r = .agg (bytesV (sha l)).toArray ∧ Ext w w' := by
  have h2 : 1 < w.heap.size := cell_lt (hkT 0 _ rfl)
  refine RetsX.of (nt := 69) Tryd.func110 (by kernel_rfl) rfl rfl (by simp) (by simp only [argEnv]; rfl) ?_
  repeat (first | refine RunE.seq ?_ | refine RunE.region ?_)
  refine RunL.alloc Tryd.tOk rfl rfl rfl fun B2 w1 a1 => ?_
  repeat (first | refine RunE.seq ?_ | refine RunE.region ?_ | refine RunL.nil ?_)
  refine RunL.val rfl rfl rfl (OpV.loadN (cs := vals init8.l) Tryd.tOk rfl rfl rfl rfl (hS.extE a1.ext)) ?_
  refine RunL.alloc Tryd.tOk rfl rfl rfl fun B3 w2 a2 => ?_
  refine RunL.store (v := .agg (vals init8.l).toArray) Tryd.tOk rfl rfl rfl rfl rfl (cs := List.replicate 8 (.int .u32 0)) a2.at_ rfl rfl fun w3 t3 => ?_
  have hB2 := a1.eq
  have hB3 := a2.eq
  have hs1 := a1.size
  have X3 : Ext w w3 := (a1.ext.trans a2.ext).write t3.ext (by intro i hi hlt; subst hi; omega)
  have D3 : Blk w3 B2 (bytesV (List.replicate 32 0)) 130 := Blk.ext (Blk.ext (w := w1) (cs := List.replicate 32 (.int .u8 0)) a1.at_ a2.ext id) t3.ext (by omega)
  have V3 : Blk w3 B3 (vals (run init8 l 0).l) 171 := t3.at_
  clear a1 a2 t3
  repeat (first | refine RunL.pure Tryd.tOk rfl rfl rfl ?_ | refine RunE.seq ?_ | refine RunE.region ?_ | refine RunL.nil ?_ | refine RunE.block ?_)
  refine RunE.loop (ι := Nat × Value) (fun x => [(0, v), (2, .pointer (some ⟨B2, 0, none⟩)), (3, .pointer (some ⟨B3, 0, none⟩)), (4, .func (.func 123) [.pointer (some ⟨B3, 0, none⟩)].toArray [].toArray), (5, x.2)])
    (fun x w' => 64 * x.1 ≤ l.length ∧ Ext w w' ∧ IsSl w' 1 x.2 (l.length - 64 * x.1) (bytesV (l.drop (64 * x.1))) ∧ x.2.ownBlock = v.ownBlock ∧ Blk w' B2 (bytesV (List.replicate 32 0)) 130 ∧ Blk w' B3 (vals (run init8 l x.1).l) 171)
    (fun x => l.length - 64 * x.1) (0, v) (by repeat (first | exact Sub.nil _ | refine Sub.cons rfl ?_)) ⟨by simp, X3, by simpa using hv.extE X3, rfl, D3, V3⟩ ?_
  clear V3 D3 X3
  rintro ⟨k, rv⟩ w4 ⟨hk, X4, R4, hrv, D4, V4⟩ again
  simp only at hk R4 hrv V4 again ⊢
  repeat (first | refine RunL.pure Tryd.tOk rfl rfl rfl ?_ | refine RunE.seq ?_ | refine RunE.region ?_)
  refine RunL.val rfl rfl rfl (OpV.lenSl Tryd.tOk rfl rfl R4) ?_
  repeat (first | refine RunL.pure Tryd.tOk rfl rfl rfl ?_ | refine RunL.nil ?_)
  refine RunE.cond rfl (fun hge => ?_) (fun hge => ?_) <;> (first | replace hge := of_decide_eq_true hge | replace hge := of_decide_eq_false hge | replace hge := beq_iff_eq.1 hge | replace hge := beq_eq_false_iff_ne.1 hge | replace hge := bne_iff_ne.1 hge | replace hge := bne_eq_false_iff_eq.1 hge | skip)
  · repeat (first | refine RunL.pure Tryd.tOk rfl rfl rfl ?_ | refine RunE.seq ?_ | refine RunE.region ?_ | refine RunE.block ?_ | refine RunE.skip ?_)
    refine RunL.ex rfl rfl rfl (OpE.part (lo := 0) (hi := 64) Tryd.tOk rfl rfl R4 .none (.some rfl rfl) (by omega) (by omega)) ?_
    rintro u _ ⟨rfl, hu1, hu⟩
    have hu' : IsSl w4 1 u 64 (bytesV ((l.drop (64 * k)).take 64)) := by simpa [bytesV_drop, bytesV_take] using hu
    refine RunL.callV (fv := .func (.func 123) [.pointer (some ⟨B3, 0, none⟩)].toArray [].toArray) rfl rfl rfl rfl
      (Rets.v (absorb_sl _ _ B3 _ _ w4 V4 (by rw [List.length_take, List.length_drop]; omega) hu' (hkT.extE X4) (by omega)) rfl) (fun _ _ _ h => h.elim) ?_
    rintro _ w5 ⟨rfl, V5, E5⟩
    have X5 : Ext w w5 := X4.write E5 (by intro i hi hlt; subst hi; omega)
    have D5 := D4.ext E5 (by omega)
    have R5 := R4.ext E5 (by intro j hj; rw [hrv] at hj; intro e; have := hv.lt (by omega) (by decide) hj; omega)
    repeat (first | refine RunL.pure Tryd.tOk rfl rfl rfl ?_ | refine RunE.region ?_ | refine RunL.nil ?_ | refine RunE.inBlock ?_)
    refine RunL.ex rfl rfl rfl (OpE.part (lo := 64) (hi := l.length - 64 * k) Tryd.tOk rfl rfl R5 (.some rfl rfl) .none (by omega) (by omega)) ?_
    rintro u2 _ ⟨rfl, hu3, hu4⟩
    have hu5 : IsSl w5 1 u2 (l.length - 64 * (k + 1)) (bytesV (l.drop (64 * (k + 1)))) := by
      have e : (bytesV (l.drop (64 * k))).drop 64 = bytesV (l.drop (64 * (k + 1))) := by rw [bytesV_drop, List.drop_drop]; rfl
      have e2 : l.length - 64 * k - 64 = l.length - 64 * (k + 1) := by omega
      rw [Nat.mul_one, Nat.mul_one, e, e2, List.take_of_length_le (by rw [bytesV_length, List.length_drop]; omega)] at hu4
      exact hu4
    repeat (first | refine RunL.pure Tryd.tOk rfl rfl rfl ?_ | refine RunL.nil ?_)
    exact RunE.weaken (by repeat (first | exact Sub.nil _ | refine Sub.cons rfl ?_)) (again (k + 1, u2) _ (by simp only; omega) ⟨by simp only; omega, X5, hu5, hu3.trans hrv, D5, V5⟩)
  · have hkq : k = l.length / 64 := by omega
    clear again
    repeat (first | refine RunE.seq ?_ | refine RunE.region ?_ | refine RunE.exit rfl ?_)
    have hw4 := X4.size
    have hB2lt := D4.lt
    have hB3lt := V4.lt
    have hDl : (l.drop (64 * k)).length = l.length - 64 * k := List.length_drop
    refine RunL.ex rfl rfl rfl (OpE.make (l := 64) (c := 128) Tryd.tOk rfl rfl rfl rfl rfl rfl rfl (by decide) (by decide) (by decide)) ?_
    rintro _ w5 ⟨B6, rfl, a5⟩
    have hB6 := a5.eq
    have V5 := V4.ext a5.ext id
    have D5 := D4.ext a5.ext id
    have R5 := R4.extE a5.ext
    have X5 := X4.trans a5.ext
    repeat (first | refine RunL.pure Tryd.tOk rfl rfl rfl ?_ | refine RunE.seq ?_ | refine RunE.region ?_ | refine RunL.nil ?_)
    have C5 : Blk w5 B6 (bytesV (List.replicate 128 0)) 5 := by rw [← bytesV_replicate]; unfold Blk; rw [← zerosL_one]; exact a5.at_
    clear a5 V4 D4
    refine RunL.ex rfl rfl rfl (OpE.copySl Tryd.tOk rfl rfl rfl C5 R5 (by omega) (by simp [bytesV_length]; omega) (bytesV_plain _)) ?_
    rintro _ w6 ⟨rfl, C6, E6⟩
    have V6 := V5.ext E6 (by omega)
    have D6 := D5.ext E6 (by omega)
    have X6 : Ext w w6 := X5.write E6 (by intro i hi hlt; subst hi; omega)
    clear C5 V5 D5 X5 E6
    have e6 : setAt (bytesV (List.replicate 128 0)) 0 (bytesV (l.drop (64 * k))) = bytesV (l.drop (64 * k) ++ 0 :: List.replicate (127 - (l.length - 64 * k)) 0) := by
      have := setAt_bytes [] (List.replicate (l.length - 64 * k) 0) (0 :: List.replicate (127 - (l.length - 64 * k)) 0) (l.drop (64 * k)) 0 rfl (by simp)
      rw [List.nil_append, List.nil_append, ← List.replicate_succ, List.replicate_append_replicate, show l.length - 64 * k + (127 - (l.length - 64 * k) + 1) = 128 by omega] at this
      rw [this, ← List.replicate_succ]
    rw [e6] at C6
    repeat (first | refine RunL.pure Tryd.tOk rfl rfl rfl ?_ | refine RunE.seq ?_ | refine RunE.region ?_ | refine RunL.nil ?_)
    refine RunL.val rfl rfl rfl (OpV.lenSl Tryd.tOk rfl rfl R4) ?_
    refine RunL.val rfl rfl rfl (OpV.indexS1 Tryd.tOk (l.length - 64 * k) rfl rfl rfl rfl (by omega)) ?_
    refine RunL.store Tryd.tOk rfl rfl rfl rfl rfl C6 (by simp [bytesV_length, Value.cells] <;> omega) rfl fun w7 t7 => ?_
    have V7 := V6.ext t7.ext (by omega)
    have D7 := D6.ext t7.ext (by omega)
    have X7 : Ext w w7 := X6.write t7.ext (by intro i hi hlt; subst hi; omega)
    have C7 : Blk w7 B6 (bytesV (l.drop (64 * k) ++ 128 :: List.replicate (127 - (l.length - 64 * k)) 0)) 5 := by
      have := t7.at_
      rw [Nat.zero_add] at this
      unfold Blk
      rw [this, ← set_byte (l.drop (64 * k)) _ 0 128 (l.length - 64 * k) hDl]
      rfl
    clear C6 V6 D6 X6 t7 e6
    repeat (first | refine RunL.pure Tryd.tOk rfl rfl rfl ?_ | refine RunE.seq ?_ | refine RunE.region ?_ | refine RunL.nil ?_)
    refine RunL.val rfl rfl rfl (OpV.lenSl Tryd.tOk rfl rfl R4) ?_
    repeat (first | refine RunL.pure Tryd.tOk rfl rfl rfl ?_ | refine RunL.nil ?_)
    obtain ⟨m, hm⟩ : ∃ m, m = (tailOf l).length := ⟨_, rfl⟩
    have hm2 := tailOf_length l
    rw [← hm] at hm2
    refine RunE.condJoin (ι := Unit) (fun _ => [(0, v), (2, .pointer (some ⟨B2, 0, none⟩)), (3, .pointer (some ⟨B3, 0, none⟩)), (4, .func (.func 123) [.pointer (some ⟨B3, 0, none⟩)].toArray [].toArray), (6, .slice (some ⟨B6, 0, none⟩) m 128)])
      (fun _ w' => w7 = w') rfl ?_ (fun h join => ?_) (fun h join => ?_)
    rotate_left
    · have h' := of_decide_eq_true h
      have hm128 : m = 128 := by rw [hm2, if_pos (by omega)]
      refine RunE.region ?_
      repeat (first | refine RunL.pure Tryd.tOk rfl rfl rfl ?_)
      refine RunL.val rfl rfl rfl (OpV.slice0 (hi := 128) Tryd.tOk rfl rfl .none (.some rfl rfl) (by decide)) ?_
      repeat (first | refine RunL.pure Tryd.tOk rfl rfl rfl ?_)
      refine RunL.nil ?_
      subst hm128
      exact RunE.weaken (by repeat (first | exact Sub.nil _ | refine Sub.cons rfl ?_)) (join () _ rfl)
    · have h' := of_decide_eq_false h
      have hm64 : m = 64 := by rw [hm2, if_neg (by omega)]
      repeat (first | refine RunE.skip ?_)
      subst hm64
      exact RunE.weaken (by repeat (first | exact Sub.nil _ | refine Sub.cons rfl ?_)) (join () _ rfl)
    rintro _ _ rfl
    have hmz : m = 9 + padz l.length + (l.length - 64 * k) := by unfold padz; rw [hm2]; split <;> omega
    have hm8 : m = 64 ∨ m = 128 := by rw [hm2]; split <;> omega
    have ec : l.drop (64 * k) ++ 128 :: List.replicate (127 - (l.length - 64 * k)) 0 = (l.drop (64 * k) ++ 128 :: List.replicate (padz l.length) 0) ++ List.replicate 8 0 ++ List.replicate (128 - m) 0 := by
      rw [List.append_assoc, List.append_assoc, List.cons_append, List.replicate_append_replicate, List.replicate_append_replicate]
      congr 3; omega
    rw [ec] at C7
    repeat (first | refine RunL.pureI Tryd.tOk rfl rfl rfl (by (first | exact wr_i64 (by omega) (by omega) | exact wm_i64 (by omega) | exact wq_i64 (by omega) (by omega) (by omega) | rfl)) ?_ | refine RunL.pure Tryd.tOk rfl rfl rfl ?_ | refine RunE.seq ?_ | refine RunE.region ?_)
    refine RunL.val rfl rfl rfl (OpV.sliceSq (lo := m - 8) (hi := m) (q := m - 8) (len := 8) (cap := 128 - (m - 8)) Tryd.tOk rfl rfl (.some rfl (by omega)) .none (by omega) (by omega) (by rw [offOf_lt (by omega)]; omega) (by omega) rfl) ?_
    repeat (first | refine RunL.pure Tryd.tOk rfl rfl rfl ?_)
    refine RunL.val rfl rfl rfl (OpV.lenSl Tryd.tOk rfl rfl hv) ?_
    repeat (first | refine RunL.pureI Tryd.tOk rfl rfl rfl (by (first | exact u64_nat _ (by omega) | exact u64_mul _ 8 (by omega) | exact wr_i64 (by omega) (by omega) | exact wm_i64 (by omega) | exact wq_i64 (by omega) (by omega) (by omega) | rfl)) ?_)
    refine RunL.call rfl rfl rfl (put_ok B6 (m - 8) 8 _ _ _ _ _ _ _ (by simp; omega) (by simp) (by decide) C7) ?_
    rintro _ w8 ⟨rfl, C8, E8⟩
    have et : l.drop (64 * k) ++ 128 :: List.replicate (padz l.length) 0 ++ be 8 (l.length * 8) = tailOf l := by
      rw [tailOf_eq, ← hkq, Nat.mul_comm 8]; simp
    rw [et] at C8
    have V8 := V7.ext E8 (by omega)
    have D8 := D7.ext E8 (by omega)
    have X8 : Ext w w8 := X7.write E8 (by intro i hi hlt; subst hi; omega)
    have P8 : run init8 l k = run init8 (pad l) (k + 0) := (run_pad init8 l k hk).symm
    rw [P8] at V8
    clear C7 V7 D7 X7 E8 ec P8
    repeat (first | refine RunE.seq ?_ | refine RunL.nil ?_ | refine RunE.block ?_)
    have sl8 : IsSl w8 1 (.slice (some ⟨B6, 0, none⟩) m 128) (m - 64 * 0) (bytesV ((tailOf l).drop (64 * 0))) := by
      refine isSl_blk C8 (fun i u hu => ?_) (by rw [bytesV_length, List.length_drop, ← hm]; omega) (by omega)
      rw [bytesV_append, Nat.zero_add]
      rw [Nat.mul_zero, List.drop_zero] at hu
      rw [List.getElem?_append_left (by
        rcases Nat.lt_or_ge i (bytesV (tailOf l)).length with h | h
        · exact h
        · rw [List.getElem?_eq_none h] at hu; simp at hu)]
      exact hu
    refine RunE.loop (ι := Nat × Value) (fun x => [(0, v), (2, .pointer (some ⟨B2, 0, none⟩)), (3, .pointer (some ⟨B3, 0, none⟩)), (4, .func (.func 123) [.pointer (some ⟨B3, 0, none⟩)].toArray [].toArray), (6, x.2)])
      (fun x w' => 64 * x.1 ≤ m ∧ Ext w w' ∧ IsSl w' 1 x.2 (m - 64 * x.1) (bytesV ((tailOf l).drop (64 * x.1))) ∧ x.2.ownBlock = some B6 ∧ Blk w' B2 (bytesV (List.replicate 32 0)) 130 ∧ Blk w' B3 (vals (run init8 (pad l) (k + x.1)).l) 171)
      (fun x => m - 64 * x.1) (0, .slice (some ⟨B6, 0, none⟩) m 128) (by repeat (first | exact Sub.nil _ | refine Sub.cons rfl ?_)) ⟨by simp, X8, sl8, rfl, D8, V8⟩ ?_
    clear V8 D8 X8 sl8 C8
    rintro ⟨j, sv⟩ w9 ⟨hj, X9, R9, hsv, D9, V9⟩ again
    simp only at hj R9 hsv V9 again ⊢
    repeat (first | refine RunL.pure Tryd.tOk rfl rfl rfl ?_ | refine RunE.seq ?_ | refine RunE.region ?_)
    refine RunL.val rfl rfl rfl (OpV.lenSl Tryd.tOk rfl rfl R9) ?_
    repeat (first | refine RunL.pure Tryd.tOk rfl rfl rfl ?_ | refine RunL.nil ?_)
    refine RunE.cond rfl (fun hgt => ?_) (fun hgt => ?_) <;> (first | replace hgt := of_decide_eq_true hgt | replace hgt := of_decide_eq_false hgt | replace hgt := beq_iff_eq.1 hgt | replace hgt := beq_eq_false_iff_ne.1 hgt | replace hgt := bne_iff_ne.1 hgt | replace hgt := bne_eq_false_iff_eq.1 hgt | skip)
    · have hj64 : 64 * j + 64 ≤ m := by omega
      repeat (first | refine RunL.pure Tryd.tOk rfl rfl rfl ?_ | refine RunE.seq ?_ | refine RunE.region ?_ | refine RunE.block ?_ | refine RunE.skip ?_)
      refine RunL.ex rfl rfl rfl (OpE.part (lo := 0) (hi := 64) Tryd.tOk rfl rfl R9 .none (.some rfl rfl) (by omega) (by omega)) ?_
      rintro u _ ⟨rfl, hu1, hu⟩
      have hu' : IsSl w9 1 u 64 (bytesV (((pad l).drop (64 * (k + j))).take 64)) := by
        have := tail_block l j
        rw [← hkq] at this
        rw [← this]
        simpa [bytesV_drop, bytesV_take] using hu
      refine RunL.callV (fv := .func (.func 123) [.pointer (some ⟨B3, 0, none⟩)].toArray [].toArray) rfl rfl rfl rfl
        (Rets.v (absorb_sl _ _ B3 _ _ w9 V9 (by rw [← tail_block_len l k j m hkq hm hj64]) hu' (hkT.extE X9) (by omega)) rfl) (fun _ _ _ h => h.elim) ?_
      rintro _ wa ⟨rfl, Va, Ea⟩
      have Xa : Ext w wa := X9.write Ea (by intro i hi hlt; subst hi; omega)
      have Da := D9.ext Ea (by omega)
      have Ra := R9.ext Ea (by intro j hj; rw [hsv] at hj; injection hj with hj; omega)
      repeat (first | refine RunL.pure Tryd.tOk rfl rfl rfl ?_ | refine RunE.region ?_ | refine RunL.nil ?_ | refine RunE.inBlock ?_)
      refine RunL.ex rfl rfl rfl (OpE.part (lo := 64) (hi := m - 64 * j) Tryd.tOk rfl rfl Ra (.some rfl rfl) .none (by omega) (by omega)) ?_
      rintro u2 _ ⟨rfl, hu3, hu4⟩
      have hu5 : IsSl wa 1 u2 (m - 64 * (j + 1)) (bytesV ((tailOf l).drop (64 * (j + 1)))) := by
        have e : (bytesV ((tailOf l).drop (64 * j))).drop 64 = bytesV ((tailOf l).drop (64 * (j + 1))) := by rw [bytesV_drop, List.drop_drop]; rfl
        have e2 : m - 64 * j - 64 = m - 64 * (j + 1) := by omega
        rw [Nat.mul_one, Nat.mul_one, e, e2, List.take_of_length_le (by rw [bytesV_length, List.length_drop]; omega)] at hu4
        exact hu4
      repeat (first | refine RunL.pure Tryd.tOk rfl rfl rfl ?_ | refine RunL.nil ?_)
      exact RunE.weaken (by repeat (first | exact Sub.nil _ | refine Sub.cons rfl ?_)) (again (j + 1, u2) _ (by simp only; omega) ⟨by simp only; omega, Xa, hu5, hu3.trans hsv, Da, Va⟩)
    · have hjm : 64 * j = m := by omega
      clear again R9
      have hsha : sha l = dig (run init8 (pad l) (k + j)) := by rw [sha_eq, ← hm, ← hkq]; congr 3; omega
      rw [hsha]
      generalize run init8 (pad l) (k + j) = S at V9
      repeat (first | refine RunE.seq ?_ | refine RunE.region ?_ | refine RunE.exit rfl ?_)
      refine RunL.val rfl rfl rfl (OpV.loadN (cs := vals S.l) Tryd.tOk rfl rfl rfl rfl V9.row) ?_
      repeat (first | refine RunL.pureI Tryd.tOk rfl rfl rfl (by (first | exact wr_i64 (by omega) (by omega) | exact wm_i64 (by omega) | exact wq_i64 (by omega) (by omega) (by omega) | rfl)) ?_ | refine RunL.nil ?_ | refine RunE.block ?_)
      refine RunE.loop (ι := Nat) (fun i => [(2, .pointer (some ⟨B2, 0, none⟩)), (53, .agg (vals S.l).toArray), (54, .int .i64 (i : Int))])
        (fun i w' => i ≤ 8 ∧ Ext w w' ∧ Blk w' B2 (bytesV ((S.l.take i).flatMap (fun x => be 4 x.toNat) ++ List.replicate (32 - 4 * i) 0)) 130)
        (fun i => 8 - i) 0 (by repeat (first | exact Sub.nil _ | refine Sub.cons rfl ?_)) ⟨by omega, X9, D9⟩ ?_
      clear D9 X9 V9
      rintro i u0 ⟨hi, Xu, Du⟩ again
      have hSl : S.l.length = 8 := rfl
      have hXl : ((S.l.take i).flatMap (fun x => be 4 x.toNat)).length = 4 * i := by
        rw [flat_length, List.length_take, hSl]; omega
      repeat (first | refine RunL.pure Tryd.tOk rfl rfl rfl ?_ | refine RunE.seq ?_ | refine RunE.region ?_ | refine RunL.nil ?_)
      refine RunE.cond rfl (fun hlt8 => ?_) (fun hlt8 => ?_) <;> (first | replace hlt8 := of_decide_eq_true hlt8 | replace hlt8 := of_decide_eq_false hlt8 | replace hlt8 := beq_iff_eq.1 hlt8 | replace hlt8 := beq_eq_false_iff_ne.1 hlt8 | replace hlt8 := bne_iff_ne.1 hlt8 | replace hlt8 := bne_eq_false_iff_eq.1 hlt8 | skip)
      · have hi8 : i < 8 := by omega
        repeat (first | refine RunL.pureI Tryd.tOk rfl rfl rfl (by (first | exact wr_i64 (by omega) (by omega) | exact wm_i64 (by omega) | exact wq_i64 (by omega) (by omega) (by omega) | rfl)) ?_ | refine RunE.seq ?_ | refine RunE.region ?_ | refine RunE.block ?_ | refine RunE.skip ?_)
        refine RunL.val rfl rfl rfl (OpV.indexV (v := .int .u32 ((S.l.getD i 0).toNat : Int)) Tryd.tOk i rfl rfl rfl rfl (by omega) (by rw [Nat.mul_one]; exact vals_get' (by omega))) ?_
        repeat (first | refine RunL.pureI Tryd.tOk rfl rfl rfl (by (first | exact i64_mul 4 _ (by omega) | exact wr_i64 (by omega) (by omega) | exact wm_i64 (by omega) | exact wq_i64 (by omega) (by omega) (by omega) | rfl)) ?_ | refine RunE.region ?_ | refine RunL.nil ?_)
        refine RunL.val rfl rfl rfl (OpV.sliceAq (lo := 4 * i) (hi := 4 * i + 4) (q := 4 * i) (len := 4) (cap := 32 - 4 * i) Tryd.tOk rfl rfl (.some rfl rfl) (.some rfl rfl) (by omega) (by omega) (by rw [offOf_lt (by omega)]; omega) (by omega) rfl) ?_
        repeat (first | refine RunL.pureI Tryd.tOk rfl rfl rfl (by (first | exact u64_nat _ (by have := BitVec.isLt (S.l.getD i 0); omega) | exact wr_i64 (by omega) (by omega) | exact wm_i64 (by omega) | exact wq_i64 (by omega) (by omega) (by omega) | rfl)) ?_)
        have eD : (S.l.take i).flatMap (fun x => be 4 x.toNat) ++ List.replicate (32 - 4 * i) 0 = (S.l.take i).flatMap (fun x => be 4 x.toNat) ++ List.replicate 4 0 ++ List.replicate (32 - 4 * (i + 1)) 0 := by
          rw [List.append_assoc, List.replicate_append_replicate]; congr 2; omega
        rw [eD] at Du
        refine RunL.call rfl rfl rfl (put_ok B2 (4 * i) 4 _ _ _ _ _ _ _ hXl (by simp) (by decide) Du) ?_
        rintro _ u1 ⟨rfl, D1, E1⟩
        have X1 : Ext w u1 := Xu.write E1 (by intro i hi hlt; subst hi; omega)
        repeat (first | refine RunL.pureI Tryd.tOk rfl rfl rfl (by (first | exact wr_i64 (by omega) (by omega) | exact wm_i64 (by omega) | exact wq_i64 (by omega) (by omega) (by omega) | rfl)) ?_ | refine RunE.region ?_ | refine RunL.nil ?_ | refine RunE.inBlock ?_)
        refine RunE.weaken (by repeat (first | exact Sub.nil _ | refine Sub.cons rfl ?_)) (again (i + 1) _ (by omega) ⟨by omega, X1, ?_⟩)
        rw [List.take_add_one, List.getElem?_eq_getElem (by omega : i < S.l.length), List.flatMap_append]
        rw [List.getD_eq_getElem?_getD, List.getElem?_eq_getElem (by omega : i < S.l.length)] at D1
        simpa using D1
      · have hi8 : i = 8 := by omega
        subst hi8
        have Df : Blk u0 B2 (bytesV (dig S)) 130 := by rw [show (S.l.take 8) = S.l from rfl] at Du; simpa [dig] using Du
        have hdl := dig_length S
        generalize dig S = D at Df hdl ⊢
        repeat (first | refine RunE.seq ?_ | refine RunE.region ?_ | refine RunE.exit rfl ?_)
        refine RunL.val rfl rfl rfl (OpV.loadN (cs := bytesV D) Tryd.tOk rfl rfl rfl (by rw [bytesV_length]; exact hdl) Df.row) ?_
        refine RunL.store (v := .agg (bytesV D).toArray) Tryd.tOk rfl rfl rfl rfl (by simp [Value.cells, bytesV_length, hdl]) Df (by simp [Value.cells]) (by simp [Value.cells, bytesV_plain]) fun u2 t2 => ?_
        have X2 : Ext w u2 := Xu.write t2.ext (by intro i hi hlt; subst hi; omega)
        have D2 : Blk u2 B2 (bytesV D) 130 := by
          have := t2.at_
          rw [show (Value.agg (bytesV D).toArray).cells.toList = bytesV D from rfl, setAt_self] at this
          exact this
        repeat (first | refine RunL.nil ?_)
        exact RunE.retFn Tryd.func110 (.cell rfl (.agg Tryd.tOk rfl rfl (by rw [bytesV_length]; exact hdl) D2.row) .nil) ⟨rfl, X2⟩
end Go.Sg
end
section
/- The program's tagged digest and the group's hash. -/
namespace Go.Sg
open Go.Rn Go.Sha Go.Proofs
attribute [local irreducible] Go.Rn.RunL Go.Rn.RunE Go.Rn.Asy Go.Rn.OpV Go.Rn.OpE Go.Rn.ExecE

theorem grow_ok (n : Nat) (w : World) (h : n ≤ 1000000) : Rets Tryd.prog 125 [.slice none 0 0, .int .i64 (n : Int)] w fun v w' => w'.ownsRow w.heap.size 5 1 v 0 [] ∧ Ext w w' := by
  refine RetsX.of (nt := 27) Tryd.func125 (by kernel_rfl) rfl rfl (by simp) (by simp only [argEnv]; rfl) ?_
  repeat (first | refine RunL.pureI Tryd.tOk rfl rfl rfl (by (first | exact wr_i64 (by omega) (by omega) | exact wm_i64 (by omega) | exact wq_i64 (by omega) (by omega) (by omega) | rfl)) ?_ | refine RunL.pure Tryd.tOk rfl rfl rfl ?_ | refine RunE.seq ?_ | refine RunE.region ?_ | refine RunL.nil ?_)
  refine RunE.condF rfl (decide_eq_false (by omega)) ?_
  repeat (first | refine RunL.pureI Tryd.tOk rfl rfl rfl (by (first | exact wr_i64 (by omega) (by omega) | exact wm_i64 (by omega) | exact wq_i64 (by omega) (by omega) (by omega) | rfl)) ?_ | refine RunL.pure Tryd.tOk rfl rfl rfl ?_ | refine RunE.seq ?_ | refine RunE.region ?_ | refine RunE.skip ?_)
  refine RunL.val rfl rfl rfl (OpV.cap Tryd.tOk rfl rfl) ?_
  repeat (first | refine RunL.pureI Tryd.tOk rfl rfl rfl (by (first | exact wr_i64 (by omega) (by omega) | exact wm_i64 (by omega) | exact wq_i64 (by omega) (by omega) (by omega) | rfl)) ?_ | refine RunL.pure Tryd.tOk rfl rfl rfl ?_ | refine RunE.seq ?_ | refine RunE.region ?_ | refine RunL.nil ?_)
  refine RunE.cond rfl (fun hn => ?_) (fun hn => ?_) <;> (first | replace hn := of_decide_eq_true hn | replace hn := of_decide_eq_false hn | replace hn := beq_iff_eq.1 hn | replace hn := beq_eq_false_iff_ne.1 hn | replace hn := bne_iff_ne.1 hn | replace hn := bne_eq_false_iff_eq.1 hn | skip)
  · repeat (first | refine RunL.pure Tryd.tOk rfl rfl rfl ?_ | refine RunE.region ?_)
    refine RunL.val rfl rfl rfl (OpV.cap Tryd.tOk rfl rfl) ?_
    refine RunL.val rfl rfl rfl (OpV.sliceNil Tryd.tOk rfl rfl .none (.some rfl rfl)) ?_
    repeat (first | refine RunL.pureI Tryd.tOk rfl rfl rfl (by (first | exact wr_i64 (by omega) (by omega) | exact wm_i64 (by omega) | exact wq_i64 (by omega) (by omega) (by omega) | rfl)) ?_)
    refine RunL.ex rfl rfl rfl (OpE.growNil (m := n) Tryd.tOk rfl rfl rfl rfl rfl rfl rfl (by simp) (by omega) (by show n * 1 ≤ _; omega) (by omega)) ?_
    rintro _ w1 ⟨B, cap, rfl, hc, hcm, hB, X1, cur, hcur, hsz⟩
    repeat (first | refine RunL.pureI Tryd.tOk rfl rfl rfl (by (first | exact wr_i64 (by omega) (by omega) | exact wm_i64 (by omega) | exact wq_i64 (by omega) (by omega) (by omega) | rfl)) ?_ | refine RunL.pure Tryd.tOk rfl rfl rfl ?_)
    refine RunL.val rfl rfl rfl (OpV.slice0 (hi := 0) Tryd.tOk rfl rfl .none (.some rfl rfl) (by omega)) ?_
    repeat (first | refine RunL.pure Tryd.tOk rfl rfl rfl ?_ | refine RunE.seq ?_ | refine RunE.region ?_ | refine RunL.nil ?_)
    refine RunE.retFn Tryd.func125 (.tmp rfl .nil) ⟨⟨by simp, .inr ⟨B, cap, cur, rfl, by omega, hcur, by omega, hcm, hsz, by simp⟩⟩, X1⟩
  · repeat (first | refine RunL.pure Tryd.tOk rfl rfl rfl ?_ | refine RunE.seq ?_ | refine RunE.region ?_ | refine RunL.nil ?_ | refine RunE.skip ?_)
    exact RunE.retFn Tryd.func125 (.tmp rfl .nil) ⟨World.ownsRow_nil _ _ _ _, .refl _ _⟩

def flatB (xs : List (Value × List UInt8)) (j : Nat) : List UInt8 := (xs.take j).flatMap (·.2)
theorem flatB_succ {xs : List (Value × List UInt8)} {j : Nat} {x : Value × List UInt8} (h : xs[j]? = some x) : flatB xs (j + 1) = flatB xs j ++ x.2 := by
  unfold flatB; rw [List.take_add_one, h, List.flatMap_append]; simp
theorem flatB_le (xs : List (Value × List UInt8)) (j : Nat) : (flatB xs j).length ≤ (xs.flatMap (·.2)).length := by
  unfold flatB
  conv => rhs; rw [← List.take_append_drop j xs]
  rw [List.flatMap_append, List.length_append]; omega

theorem concatB_ok (xs : List (Value × List UInt8)) (B o cap : Nat) (w : World) (hr : Row w B o (xs.map (·.1))) (hx : ∀ (j : Nat) x, xs[j]? = some x → IsSl w 1 x.1 x.2.length (bytesV x.2)) (hn : xs.length ≤ 1000) (h : (xs.flatMap (·.2)).length ≤ 1000000) :
    Rets Tryd.prog 111 [.slice (some ⟨B, o, none⟩) xs.length cap] w fun v w' =>
      w'.ownsRow w.heap.size 5 1 v (xs.flatMap (·.2)).length (bytesV (xs.flatMap (·.2))) ∧ Ext w w' := by
  have hF := flatB_le xs
  have hcell : ∀ {j : Nat} {x : Value × List UInt8}, xs[j]? = some x → w.cell? ⟨B, o + j, none⟩ = some x.1 := fun {j x} hj => hr j x.1 (by simp [hj])
  refine RetsX.of (nt := 36) Tryd.func111 (by kernel_rfl) rfl rfl (by simp) (by simp only [argEnv]; rfl) ?_
  repeat (first | refine RunL.pureI Tryd.tOk rfl rfl rfl (by (first | exact wr_i64 (by omega) (by omega) | exact wm_i64 (by omega) | exact wq_i64 (by omega) (by omega) (by omega) | rfl)) ?_ | refine RunL.pure Tryd.tOk rfl rfl rfl ?_ | refine RunE.seq ?_ | refine RunE.region ?_ | refine RunL.nil ?_ | refine RunE.block ?_)
  refine RunE.loop (ι := Nat) (fun j => [(0, .slice (some ⟨B, o, none⟩) xs.length cap), (3, .int .i64 ((flatB xs j).length : Int)), (9, .slice (some ⟨B, o, none⟩) xs.length cap), (10, .int .i64 (xs.length : Int)), (11, .int .i64 (j : Int))])
    (fun j w' => w = w' ∧ j ≤ xs.length) (fun j => xs.length - j) 0 (by repeat (first | exact Sub.nil _ | refine Sub.cons rfl ?_)) ⟨rfl, by omega⟩ ?_
  rintro j _ ⟨rfl, hj⟩ again
  have hFj := hF j
  repeat (first | refine RunL.pure Tryd.tOk rfl rfl rfl ?_ | refine RunE.seq ?_ | refine RunE.region ?_ | refine RunL.nil ?_)
  refine RunE.cond rfl (fun hlt => ?_) (fun hlt => ?_) <;> (first | replace hlt := of_decide_eq_true hlt | replace hlt := of_decide_eq_false hlt | replace hlt := beq_iff_eq.1 hlt | replace hlt := beq_eq_false_iff_ne.1 hlt | replace hlt := bne_iff_ne.1 hlt | replace hlt := bne_eq_false_iff_eq.1 hlt | skip)
  · have hlt' : j < xs.length := by omega
    obtain ⟨x, hxj⟩ : ∃ x, xs[j]? = some x := ⟨_, List.getElem?_eq_getElem hlt'⟩
    have hs := flatB_succ hxj
    have hFj1 := hF (j + 1)
    rw [hs, List.length_append] at hFj1
    repeat (first | refine RunE.seq ?_ | refine RunE.region ?_ | refine RunE.block ?_ | refine RunE.skip ?_)
    refine RunL.val rfl rfl rfl (OpV.indexS Tryd.tOk j rfl rfl rfl rfl hlt') ?_
    refine RunL.val rfl rfl rfl (OpV.load1 (v := x.1) Tryd.tOk rfl rfl rfl (by rw [show j * 1 = j from Nat.mul_one j]; exact hcell hxj)) ?_
    repeat (first | refine RunL.pureI Tryd.tOk rfl rfl rfl (by (first | exact wr_i64 (by omega) (by omega) | exact wm_i64 (by omega) | exact wq_i64 (by omega) (by omega) (by omega) | rfl)) ?_ | refine RunL.pure Tryd.tOk rfl rfl rfl ?_ | refine RunE.seq ?_ | refine RunE.region ?_ | refine RunL.nil ?_)
    refine RunL.val rfl rfl rfl (OpV.lenSl Tryd.tOk rfl rfl (hx j x hxj)) ?_
    repeat (first | refine RunL.pureI Tryd.tOk rfl rfl rfl (by (first | exact i64_add _ _ (by omega) | exact wr_i64 (by omega) (by omega) | exact wm_i64 (by omega) | exact wq_i64 (by omega) (by omega) (by omega) | rfl)) ?_ | refine RunL.pure Tryd.tOk rfl rfl rfl ?_ | refine RunE.seq ?_ | refine RunE.region ?_ | refine RunL.nil ?_)
    refine RunE.condF rfl (decide_eq_false (by omega)) ?_
    repeat (first | refine RunL.pureI Tryd.tOk rfl rfl rfl (by (first | exact wr_i64 (by omega) (by omega) | exact wm_i64 (by omega) | exact wq_i64 (by omega) (by omega) (by omega) | rfl)) ?_ | refine RunE.region ?_ | refine RunL.nil ?_ | refine RunE.inBlock ?_ | refine RunE.skip ?_)
    refine RunE.weaken (by
      refine Sub.cons rfl (Sub.cons ?_ (Sub.cons rfl (Sub.cons rfl (Sub.cons rfl (Sub.nil _)))))
      rw [hs, List.length_append]; rfl) (again (j + 1) _ (by omega) ⟨rfl, by omega⟩)
  · have hjn : j = xs.length := by omega
    subst hjn
    clear again
    have hfl : flatB xs xs.length = xs.flatMap (·.2) := by unfold flatB; rw [List.take_length]
    rw [hfl]
    repeat (first | refine RunL.pureI Tryd.tOk rfl rfl rfl (by (first | exact wr_i64 (by omega) (by omega) | exact wm_i64 (by omega) | exact wq_i64 (by omega) (by omega) (by omega) | rfl)) ?_ | refine RunE.seq ?_ | refine RunE.region ?_ | refine RunE.exit rfl ?_)
    refine RunL.call rfl rfl rfl (grow_ok _ w h) ?_
    rintro v0 w1 ⟨O1, X1⟩
    repeat (first | refine RunL.pureI Tryd.tOk rfl rfl rfl (by (first | exact wr_i64 (by omega) (by omega) | exact wm_i64 (by omega) | exact wq_i64 (by omega) (by omega) (by omega) | rfl)) ?_ | refine RunL.pure Tryd.tOk rfl rfl rfl ?_ | refine RunE.seq ?_ | refine RunE.region ?_ | refine RunL.nil ?_ | refine RunE.block ?_)
    refine RunE.loop (ι := Nat × Value) (fun x => [(6, x.2), (25, .slice (some ⟨B, o, none⟩) xs.length cap), (26, .int .i64 (xs.length : Int)), (27, .int .i64 (x.1 : Int))])
      (fun x w' => x.1 ≤ xs.length ∧ Ext w w' ∧ w'.ownsRow w.heap.size 5 1 x.2 (flatB xs x.1).length (bytesV (flatB xs x.1))) (fun x => xs.length - x.1) (0, v0) (by repeat (first | exact Sub.nil _ | refine Sub.cons rfl ?_)) ⟨by simp, X1, O1⟩ ?_
    clear O1 X1
    rintro ⟨j, u⟩ w2 ⟨hj, X2, O2⟩ again
    simp only at hj O2 again ⊢
    repeat (first | refine RunL.pure Tryd.tOk rfl rfl rfl ?_ | refine RunE.seq ?_ | refine RunE.region ?_ | refine RunL.nil ?_)
    refine RunE.cond rfl (fun hlt => ?_) (fun hlt => ?_) <;> (first | replace hlt := of_decide_eq_true hlt | replace hlt := of_decide_eq_false hlt | replace hlt := beq_iff_eq.1 hlt | replace hlt := beq_eq_false_iff_ne.1 hlt | replace hlt := bne_iff_ne.1 hlt | replace hlt := bne_eq_false_iff_eq.1 hlt | skip)
    · have hlt' : j < xs.length := by omega
      obtain ⟨x, hxj⟩ : ∃ x, xs[j]? = some x := ⟨_, List.getElem?_eq_getElem hlt'⟩
      have hs := flatB_succ hxj
      have hFj1 := hF (j + 1)
      rw [hs, List.length_append] at hFj1
      repeat (first | refine RunE.seq ?_ | refine RunE.region ?_ | refine RunE.block ?_ | refine RunE.skip ?_)
      refine RunL.val rfl rfl rfl (OpV.indexS Tryd.tOk j rfl rfl rfl rfl hlt') ?_
      refine RunL.val rfl rfl rfl (OpV.load1 (v := x.1) Tryd.tOk rfl rfl rfl (by rw [show j * 1 = j from Nat.mul_one j]; exact cell_ext (hcell hxj) X2 id)) ?_
      repeat (first | refine RunL.pure Tryd.tOk rfl rfl rfl ?_ | refine RunE.region ?_ | refine RunL.nil ?_)
      refine RunL.ex rfl rfl rfl (OpE.append Tryd.tOk rfl rfl rfl rfl rfl rfl O2 ((hx j x hxj).extE X2) (bytesV_plain _) (by show _ * 1 ≤ _; omega) (by omega) X2.size) ?_
      rintro u3 w3 ⟨O3, E3⟩
      have X3 : Ext w w3 := X2.write E3 (by intro i hi hlt; have := ownsRow_ge O2 hi; omega)
      repeat (first | refine RunL.pureI Tryd.tOk rfl rfl rfl (by (first | exact wr_i64 (by omega) (by omega) | exact wm_i64 (by omega) | exact wq_i64 (by omega) (by omega) (by omega) | rfl)) ?_ | refine RunL.pure Tryd.tOk rfl rfl rfl ?_ | refine RunE.region ?_ | refine RunL.nil ?_ | refine RunE.inBlock ?_)
      refine RunE.weaken (by repeat (first | exact Sub.nil _ | refine Sub.cons rfl ?_)) (again (j + 1, u3) _ (by simp only; omega) ⟨by simp only; omega, X3, ?_⟩)
      simp only
      rw [hs, List.length_append, bytesV_append]; exact O3
    · have hjn : j = xs.length := by omega
      subst hjn
      repeat (first | refine RunL.pure Tryd.tOk rfl rfl rfl ?_ | refine RunE.seq ?_ | refine RunE.region ?_ | refine RunL.nil ?_ | refine RunE.exit rfl ?_)
      rw [hfl] at O2
      exact RunE.retFn Tryd.func111 (.tmp rfl .nil) ⟨O2, X2⟩

theorem tagged_ok (tag : ByteArray) (v : Value) (l : List UInt8) (w : World) (ht : tag.size ≤ 1000000) (hv : IsSl w 1 v l.length (bytesV l)) (hl : l.length ≤ 900000) (hS : Row w 0 0 (vals init8.l)) (hkT : Row w 1 0 (vals kTab)) :
    Rets Tryd.prog 82 [.string tag, v] w fun r w' => r = .agg (bytesV (tagged tag.data.toList l)).toArray ∧ Ext w w' := by
  refine RetsX.of (nt := 14) Tryd.func82 (by kernel_rfl) rfl rfl (by simp) (by simp only [argEnv]; rfl) ?_
  repeat (first | refine RunE.seq ?_ | refine RunE.region ?_)
  refine RunL.alloc Tryd.tOk rfl rfl rfl fun B4 w1 a1 => ?_
  repeat (first | refine RunL.pure Tryd.tOk rfl rfl rfl ?_ | refine RunE.seq ?_ | refine RunE.region ?_ | refine RunL.nil ?_)
  refine RunL.ex rfl rfl rfl (OpE.s2b Tryd.tOk rfl rfl rfl rfl) ?_
  rintro _ w2 ⟨B, cap, rfl, X2, hB, hr, hc⟩
  have hlen : tag.data.toList.length = tag.size := rfl
  have Y2 := a1.ext.trans X2
  refine RunL.call rfl rfl rfl (sum_ok _ tag.data.toList w2 (by rw [hlen]; exact .row hr (by rw [bytesV_length, hlen, Nat.mul_one]) hc) (by omega) (hS.extE Y2) (hkT.extE Y2)) ?_
  rintro _ w3 ⟨rfl, X3⟩
  have Y3 := Y2.trans X3
  refine RunL.alloc Tryd.tOk rfl rfl rfl fun B5 w4 a4 => ?_
  have hsl := sha_length tag.data.toList
  unfold tagged
  generalize sha tag.data.toList = D at hsl ⊢
  refine RunL.store (v := .agg (bytesV D).toArray) Tryd.tOk rfl rfl rfl rfl (by simp [Value.cells, bytesV_length, hsl]) (cs := List.replicate 32 (.int .u8 0)) a4.at_ (by simp [Value.cells, bytesV_length, hsl]) (by simp [Value.cells, bytesV_plain]) fun w5 t5 => ?_
  have D5 : Blk w5 B5 (bytesV D) 130 := by
    have := t5.at_
    rw [show (Value.agg (bytesV D).toArray).cells.toList = bytesV D from rfl, setAt_all _ _ (by simp [bytesV_length, hsl])] at this
    exact this
  have hB4 := a1.eq
  have hB5 := a4.eq
  have hs1 := a1.size
  have hs4 := a4.size
  have z1 := X2.size
  have z2 := X3.size
  have X5 : Ext w w5 := (Y3.trans a4.ext).write t5.ext (by intro i hi hlt; subst hi; omega)
  have R4 : Blk w5 B4 (bytesV (List.replicate 32 0)) 130 := Blk.ext (Blk.ext (Blk.ext (w := w1) (cs := List.replicate 32 (.int .u8 0)) a1.at_ (X2.trans X3) id) a4.ext id) t5.ext (by omega)
  clear a1 a4 t5 Y3 Y2
  repeat (first | refine RunE.seq ?_ | refine RunE.region ?_ | refine RunL.nil ?_)
  refine RunL.val rfl rfl rfl (OpV.sliceA0 (hi := 32) Tryd.tOk rfl rfl .none .none (by decide)) ?_
  repeat (first | refine RunL.pure Tryd.tOk rfl rfl rfl ?_)
  have hvc : v.cells = #[v] := by rcases hv.inv with ⟨_, rfl, -⟩ | ⟨_, _, _, rfl, -⟩ <;> rfl
  refine RunL.ex rfl rfl rfl (OpE.buildSl Tryd.tOk [.slice (some ⟨B5, 0, none⟩) 32 32, v] rfl rfl rfl rfl rfl rfl (by intro u hu; rcases List.mem_cons.1 hu with rfl | hu; rfl; obtain rfl := List.mem_singleton.1 hu; rw [hvc]; rfl)) ?_
  rintro _ w6 ⟨B11, rfl, a6⟩
  have ec : cellsAll [.slice (some ⟨B5, 0, none⟩) 32 32, v] = [.slice (some ⟨B5, 0, none⟩) 32 32, v] := by
    have hc5 : (Value.slice (some ⟨B5, 0, none⟩) 32 32).cells = #[.slice (some ⟨B5, 0, none⟩) 32 32] := rfl
    simp [cellsAll, hvc, hc5]
  rw [ec] at a6
  have hB11 := a6.eq
  have X6 := X5.trans a6.ext
  have sl5 : IsSl w6 1 (.slice (some ⟨B5, 0, none⟩) 32 32) D.length (bytesV D) := by
    rw [hsl]; exact .row (D5.row.extE a6.ext) (by rw [bytesV_length, hsl]) (by omega)
  refine RunL.call rfl rfl rfl (concatB_ok [(.slice (some ⟨B5, 0, none⟩) 32 32, D), (v, l)] B11 0 2 w6 (Blk.row (show Blk w6 B11 [.slice (some ⟨B5, 0, none⟩) 32 32, v] _ from a6.at_))
    (fun j x hj => by
      match j, hj with
      | 0, hj => injection hj with hj; subst hj; exact sl5
      | 1, hj => injection hj with hj; subst hj; exact hv.extE X6) (by simp) (by simp [hsl]; omega)) ?_
  rintro u w7 ⟨O7, X7⟩
  have e : List.flatMap (fun x : Value × List UInt8 => x.2) [(.slice (some ⟨B5, 0, none⟩) 32 32, D), (v, l)] = D ++ l := by simp
  rw [e] at O7
  have Y7 := X6.trans X7
  refine RunL.call rfl rfl rfl (sum_ok _ (D ++ l) w7 (isSl_own O7) (by simp [hsl]; omega) (hS.extE Y7) (hkT.extE Y7)) ?_
  rintro _ w8 ⟨rfl, X8⟩
  have Y8 := Y7.trans X8
  have R8 := R4.ext ((a6.ext.trans X7).trans X8) id
  have hsl2 := sha_length (D ++ l)
  generalize sha (D ++ l) = G at hsl2 ⊢
  refine RunL.store (v := .agg (bytesV G).toArray) Tryd.tOk rfl rfl rfl rfl (by simp [Value.cells, bytesV_length, hsl2]) R8 (by simp [Value.cells, bytesV_length, hsl2]) (by simp [Value.cells, bytesV_plain]) fun w9 t9 => ?_
  have X9 : Ext w w9 := Y8.write t9.ext (by intro i hi hlt; subst hi; omega)
  have D9 : Blk w9 B4 (bytesV G) 130 := by
    have := t9.at_
    rw [show (Value.agg (bytesV G).toArray).cells.toList = bytesV G from rfl, setAt_all _ _ (by simp [bytesV_length, hsl2])] at this
    exact this
  repeat (first | refine RunL.nil ?_)
  exact RunE.retFn Tryd.func82 (.cell rfl (.agg Tryd.tOk rfl rfl (by rw [bytesV_length]; exact hsl2) D9.row) .nil) ⟨rfl, X9⟩

def hashN (d : List UInt8) (j : Nat) : Nat := (d.take j).foldl (fun n c => n * 256 + c.toNat) 0
theorem hashN_succ {d : List UInt8} {j : Nat} (h : j < d.length) : hashN d (j + 1) = hashN d j * 256 + (d.getD j 0).toNat := by
  unfold hashN
  rw [List.take_add_one, List.getElem?_eq_getElem h, List.getD_eq_getElem?_getD, List.getElem?_eq_getElem h, Option.toList_some, List.foldl_append]
  rfl
theorem hashN_lt (d : List UInt8) : ∀ j, j ≤ d.length → hashN d j < 256 ^ j
  | 0, _ => by simp [hashN]
  | j + 1, h => by
    have := hashN_lt d j (by omega)
    have hb := (d.getD j 0).toNat_lt
    rw [hashN_succ (by omega), Nat.pow_succ]; omega
/-- The first byte without its highest bit. -/
def low7 : List UInt8 → List UInt8
  | [] => []
  | b :: r => UInt8.ofNat (b.toNat % 128) :: r
theorem low7_length (d : List UInt8) : (low7 d).length = d.length := by cases d <;> rfl
/-- The number of a digest. -/
def hashNum (d : List UInt8) : Nat := hashN (low7 d) 8
theorem hashNum_lt (d : List UInt8) (h : d.length = 32) : hashNum d < 9223372036854775808 := by
  unfold hashNum
  cases d with
  | nil => simp at h
  | cons b r =>
    have h1 : (low7 (b :: r)).length = 32 := h
    have : ∀ j, j ≤ 7 → hashN (low7 (b :: r)) (j + 1) < 128 * 256 ^ j := by
      intro j
      induction j with
      | zero =>
        intro _
        have : (UInt8.ofNat (b.toNat % 128)).toNat = b.toNat % 128 := by rw [UInt8.toNat_ofNat']; omega
        simp [hashN, low7]; omega
      | succ j ih =>
        intro hj
        have := ih (by omega)
        have hb := ((low7 (b :: r)).getD (j + 1) 0).toNat_lt
        rw [hashN_succ (by omega), Nat.pow_succ]; omega
    have := this 7 (by omega)
    exact this
def hashS (tag l : List UInt8) : Int := (hashNum (tagged tag l) % 1073741789 : Nat)

theorem u8_and127 (b : UInt8) : IntKind.u8.wrap ((BitVec.ofInt IntKind.u8.bits (b.toNat : Int) &&& BitVec.ofInt IntKind.u8.bits 127).toNat : Int) = ((UInt8.ofNat (b.toNat % 128)).toNat : Int) := by
  have : ∀ n : Fin 256, IntKind.u8.wrap ((BitVec.ofInt IntKind.u8.bits (n.val : Int) &&& BitVec.ofInt IntKind.u8.bits 127).toNat : Int) = ((UInt8.ofNat (n.val % 128)).toNat : Int) := by decide +kernel
  exact this ⟨b.toNat, b.toNat_lt⟩
theorem i64_or8 (n c : Nat) (hn : n < 36028797018963968) (hc : c < 256) : IntKind.i64.wrap ((BitVec.ofInt IntKind.i64.bits (((n * 256 : Nat) : Int)) ||| BitVec.ofInt IntKind.i64.bits ((c : Nat) : Int)).toNat : Int) = ((n * 256 + c : Nat) : Int) := by
  have e : IntKind.i64.bits = 64 := rfl
  rw [e, BitVec.ofInt_natCast, BitVec.ofInt_natCast, BitVec.toNat_or, BitVec.toNat_ofNat, BitVec.toNat_ofNat, Nat.mod_eq_of_lt (by omega), Nat.mod_eq_of_lt (by omega)]
  have h : n * 256 + c = n * 256 ||| c := by
    have := Nat.shiftLeft_add_eq_or_of_lt (i := 8) (b := c) (by omega) n
    rw [Nat.shiftLeft_eq] at this
    exact this
  rw [← h]; exact wr_i64 (by omega) (by omega)
theorem i64_shl8 (n : Nat) (hn : n < 36028797018963968) : IntKind.i64.wrap (((n : Nat) : Int) * 2 ^ (min 8 IntKind.i64.bits)) = ((n * 256 : Nat) : Int) := by
  have e : (2 : Int) ^ (min 8 IntKind.i64.bits) = 256 := by decide
  rw [e, Int.natCast_mul]; exact wr_i64 (by omega) (by omega)
theorem i64_u8 (b : UInt8) : IntKind.i64.wrap ((b.toNat : Nat) : Int) = ((b.toNat : Nat) : Int) := by
  have := b.toNat_lt
  exact wr_i64 (by omega) (by omega)

theorem hash_ok (tag : ByteArray) (v : Value) (l : List UInt8) (w : World) (ht : tag.size ≤ 1000000) (hv : IsSl w 1 v l.length (bytesV l)) (hl : l.length ≤ 900000) (hS : Row w 0 0 (vals init8.l)) (hkT : Row w 1 0 (vals kTab)) :
    Rets Tryd.prog 46 [.string tag, v] w fun r w' => r = .int .i64 (hashS tag.data.toList l) ∧ Ext w w' := by
  refine RetsX.of (nt := 27) Tryd.func46 (by kernel_rfl) rfl rfl (by simp) (by simp only [argEnv]; rfl) ?_
  repeat (first | refine RunL.pureI Tryd.tOk rfl rfl rfl (by (first | exact wr_i64 (by omega) (by omega) | exact wm_i64 (by omega) | exact wq_i64 (by omega) (by omega) (by omega) | rfl)) ?_ | refine RunL.pure Tryd.tOk rfl rfl rfl ?_ | refine RunE.seq ?_ | refine RunE.region ?_ | refine RunL.nil ?_)
  refine RunL.call rfl rfl rfl (tagged_ok _ _ _ _ ht hv hl hS hkT) ?_
  rintro _ w1 ⟨rfl, X1⟩
  refine RunL.alloc Tryd.tOk rfl rfl rfl fun B w2 a2 => ?_
  unfold hashS
  have hsl := tagged_length tag.data.toList l
  generalize tagged tag.data.toList l = D at hsl ⊢
  refine RunL.store (v := .agg (bytesV D).toArray) Tryd.tOk rfl rfl rfl rfl (by simp [Value.cells, bytesV_length, hsl]) (cs := List.replicate 32 (.int .u8 0)) a2.at_ (by simp [Value.cells, bytesV_length, hsl]) (by simp [Value.cells, bytesV_plain]) fun w3 t3 => ?_
  have D3 : Blk w3 B (bytesV D) 130 := by
    have := t3.at_
    rw [show (Value.agg (bytesV D).toArray).cells.toList = bytesV D from rfl, setAt_all _ _ (by simp [bytesV_length, hsl])] at this
    exact this
  have hB := a2.eq
  have z1 := X1.size
  have X3 : Ext w w3 := (X1.trans a2.ext).write t3.ext (by intro i hi hlt; subst hi; omega)
  clear a2 t3
  match D, hsl, D3 with
  | [], hsl, _ => simp at hsl
  | b :: r, hsl, D3 =>
  repeat (first | refine RunL.pureI Tryd.tOk rfl rfl rfl (by (first | exact u8_and127 _ | exact wr_i64 (by omega) (by omega) | exact wm_i64 (by omega) | exact wq_i64 (by omega) (by omega) (by omega) | rfl)) ?_ | refine RunL.val rfl rfl rfl (OpV.indexAK Tryd.tOk rfl rfl rfl rfl) ?_ | refine RunL.val rfl rfl rfl (OpV.load1 Tryd.tOk rfl rfl rfl (Blk.cell D3 rfl)) ?_ | refine RunE.seq ?_ | refine RunE.region ?_ | refine RunL.nil ?_)
  refine RunL.store Tryd.tOk rfl rfl rfl rfl rfl D3 (by simp [bytesV_length, Value.cells, hsl]) rfl fun w4 t4 => ?_
  have X4 : Ext w w4 := X3.write t4.ext (by intro i hi hlt; subst hi; omega)
  have D4 : Blk w4 B (bytesV (low7 (b :: r))) 130 := t4.at_
  clear t4 D3
  have hb64 : hashNum (b :: r) < 9223372036854775808 := hashNum_lt _ hsl
  have hlen : (low7 (b :: r)).length = 32 := hsl
  unfold hashNum at hb64 ⊢
  generalize low7 (b :: r) = L at D4 hlen hb64 ⊢
  repeat (first | refine RunL.pureI Tryd.tOk rfl rfl rfl (by (first | exact wr_i64 (by omega) (by omega) | exact wm_i64 (by omega) | exact wq_i64 (by omega) (by omega) (by omega) | rfl)) ?_ | refine RunE.seq ?_ | refine RunE.region ?_ | refine RunL.nil ?_ | refine RunE.block ?_)
  refine RunE.loop (ι := Nat) (fun i => [(4, .int .i64 (hashN L i : Int)), (5, .pointer (some ⟨B, 0, none⟩)), (14, .int .i64 (i : Int))])
    (fun i w' => w4 = w' ∧ i ≤ 8) (fun i => 8 - i) 0 (by repeat (first | exact Sub.nil _ | refine Sub.cons rfl ?_)) ⟨rfl, by omega⟩ ?_
  rintro i _ ⟨rfl, hi⟩ again
  repeat (first | refine RunL.pure Tryd.tOk rfl rfl rfl ?_ | refine RunE.seq ?_ | refine RunE.region ?_ | refine RunL.nil ?_)
  refine RunE.cond rfl (fun hlt => ?_) (fun hlt => ?_) <;> (first | replace hlt := of_decide_eq_true hlt | replace hlt := of_decide_eq_false hlt | replace hlt := beq_iff_eq.1 hlt | replace hlt := beq_eq_false_iff_ne.1 hlt | replace hlt := bne_iff_ne.1 hlt | replace hlt := bne_eq_false_iff_eq.1 hlt | skip)
  · have hi8 : i < 8 := by omega
    have hs := hashN_succ (d := L) (j := i) (by omega)
    have hcl := (L.getD i 0).toNat_lt
    have hbd : hashN L i < 36028797018963968 := by
      have mono : ∀ k j, j + k ≤ 8 → hashN L j * 256 ^ k ≤ hashN L (j + k) := by
        intro k
        induction k with
        | zero => intro j _; simp
        | succ k ih =>
          intro j hj
          have h1 := ih j (by omega)
          have h2 := hashN_succ (d := L) (j := j + k) (by omega)
          rw [show j + (k + 1) = j + k + 1 by omega, h2, Nat.pow_succ, ← Nat.mul_assoc]
          omega
      have h1 := mono (8 - i) i (by omega)
      rw [show i + (8 - i) = 8 by omega] at h1
      have h2 : 256 ^ 1 ≤ 256 ^ (8 - i) := Nat.pow_le_pow_right (by decide) (by omega)
      have h3 := Nat.mul_le_mul_left (hashN L i) h2
      omega
    repeat (first | refine RunL.pureI Tryd.tOk rfl rfl rfl (by (first | exact i64_shl8 _ hbd | exact wr_i64 (by omega) (by omega) | exact wm_i64 (by omega) | exact wq_i64 (by omega) (by omega) (by omega) | rfl)) ?_ | refine RunE.seq ?_ | refine RunE.region ?_ | refine RunL.nil ?_ | refine RunE.block ?_ | refine RunE.skip ?_)
    refine RunL.val rfl rfl rfl (OpV.indexA1 Tryd.tOk i rfl rfl rfl rfl (by omega)) ?_
    refine RunL.val rfl rfl rfl (OpV.load1 (v := .int .u8 ((L.getD i 0).toNat : Int)) Tryd.tOk rfl rfl rfl (by rw [Nat.zero_add]; exact D4.cell (bytesV_get (by omega)))) ?_
    repeat (first | refine RunL.pureI Tryd.tOk rfl rfl rfl (by (first | exact i64_u8 _ | exact i64_or8 _ _ hbd hcl | exact wr_i64 (by omega) (by omega) | exact wm_i64 (by omega) | exact wq_i64 (by omega) (by omega) (by omega) | rfl)) ?_ | refine RunE.region ?_ | refine RunL.nil ?_ | refine RunE.inBlock ?_)
    refine RunE.weaken (by
      refine Sub.cons ?_ (Sub.cons rfl (Sub.cons rfl (Sub.nil _)))
      rw [hs]; rfl) (again (i + 1) _ (by omega) ⟨rfl, by omega⟩)
  · have hi8 : i = 8 := by omega
    subst hi8
    repeat (first | refine RunL.pureI Tryd.tOk rfl rfl rfl (by (first | exact wr_i64 (by omega) (by omega) | exact wm_i64 (by omega) | exact wq_i64 (by omega) (by omega) (by omega) | rfl)) ?_ | refine RunE.seq ?_ | refine RunE.region ?_ | refine RunL.nil ?_ | refine RunE.exit rfl ?_)
    refine RunE.retFn Tryd.func46 (.tmp rfl .nil) ⟨?_, X4⟩
    simp only [oneOr]
    congr 1
end Go.Sg
end
section
/- The reference's SHA-256. -/
namespace Go.Sg
open Go.Rn Go.Sha Go.Proofs
attribute [local irreducible] Go.Rn.RunL Go.Rn.RunE Go.Rn.Asy Go.Rn.OpV Go.Rn.OpE Go.Rn.ExecE

theorem u32_compl (x : W) : IntKind.u32.wrap ((BitVec.ofInt IntKind.u32.bits (if IntKind.u32.signed then -1 else IntKind.u32.max) ^^^ BitVec.ofInt IntKind.u32.bits (x.toNat : Int)).toNat : Int) = ((~~~x).toNat : Int) := by
  have h2 : (BitVec.ofInt 32 (if IntKind.u32.signed then -1 else IntKind.u32.max) : BitVec 32) = BitVec.allOnes 32 := by decide
  have h1 : BitVec.ofInt 32 (x.toNat : Int) = x := bv_of x
  show IntKind.u32.wrap (((BitVec.ofInt 32 (if IntKind.u32.signed then -1 else IntKind.u32.max) : BitVec 32) ^^^ (BitVec.ofInt 32 (x.toNat : Int) : BitVec 32)).toNat : Int) = _
  rw [h1, h2]
  have h3 : (BitVec.allOnes 32 ^^^ x) = ~~~x := by
    exact BitVec.allOnes_xor
  rw [h3]
  exact u32_wrap_nat _ (BitVec.isLt (~~~x))

set_option maxRecDepth 4000 in
theorem numbers_ok (w : World) : Rets Tryd.prog 142 [] w fun v w' => v = .agg (vals kTab).toArray ∧ Ext w w' := by
  refine RetsX.of (nt := 2) Tryd.func142 (by kernel_rfl) rfl rfl (by simp) (by simp only [argEnv]; rfl) ?_
  repeat (first | refine RunE.seq ?_ | refine RunE.region ?_)
  refine RunL.alloc Tryd.tOk rfl rfl rfl fun B w1 a1 => ?_
  repeat (first | refine RunL.pure Tryd.tOk rfl rfl rfl ?_ | refine RunE.seq ?_ | refine RunE.region ?_ | refine RunL.nil ?_)
  have hB := a1.eq
  refine RunL.store (v := .agg (vals kTab).toArray) Tryd.tOk rfl rfl rfl rfl rfl (cs := List.replicate 64 (.int .u32 0)) a1.at_ rfl rfl fun w2 t2 => ?_
  have X2 : Ext w w2 := a1.ext.write t2.ext (by intro i hi hlt; subst hi; omega)
  have D2 : Blk w2 B (vals kTab) 179 := by
    have := t2.at_
    rw [show (Value.agg (vals kTab).toArray).cells.toList = vals kTab from rfl, setAt_all _ _ (by rw [vals_length]; rfl)] at this
    exact this
  repeat (first | refine RunL.nil ?_)
  exact RunE.retFn Tryd.func142 (.cell rfl (.agg Tryd.tOk rfl rfl rfl D2.row) .nil) ⟨rfl, X2⟩

set_option maxRecDepth 4000 in
set_option maxHeartbeats 4000000 in
set_option maxRecDepth 4000 in
theorem rblock_ok (s : S8) (l : List UInt8) (v : Value) (w : World) (hl : l.length = 64) (hv : IsSl w 1 v 64 (bytesV l)) :
    Rets Tryd.prog 139 [.agg (vals s.l).toArray, v] w fun r w' => r = .agg (vals (block s l).l).toArray ∧ Ext w w' := by
  obtain ⟨b', o', cap, rfl, hr, -, hc⟩ := hv.held (by decide)
  refine RetsX.of (nt := 191) Tryd.func139 (by kernel_rfl) rfl rfl (by simp) (by simp only [argEnv]; rfl) ?_
  repeat (first | refine RunE.seq ?_ | refine RunE.region ?_)
  refine RunL.box rfl rfl rfl fun B2 w1 a1 => ?_
  refine RunL.alloc Tryd.tOk rfl rfl rfl fun B4 w2 a2 => ?_
  repeat (first | refine RunL.pure Tryd.tOk rfl rfl rfl ?_ | refine RunE.seq ?_ | refine RunE.region ?_ | refine RunL.nil ?_)
  refine RunL.alloc Tryd.tOk rfl rfl rfl fun B5 w3 a3 => ?_
  refine RunL.store (v := .agg (vals (List.replicate 64 0)).toArray) Tryd.tOk rfl rfl rfl rfl rfl (cs := List.replicate 64 (.int .u32 0)) a3.at_ rfl rfl fun w4 t4 => ?_
  have hB2 := a1.eq
  have hB4 := a2.eq
  have hB5 := a3.eq
  have z1 := a1.size
  have z2 := a2.size
  have z3 := a3.size
  have X4 : Ext w w4 := ((a1.ext.trans a2.ext).trans a3.ext).write t4.ext (by intro i hi hlt; subst hi; omega)
  have S4 : Blk w4 B2 (vals s.l) 170 := Blk.ext (Blk.ext (w := w1) (cs := vals s.l) a1.at_ (a2.ext.trans a3.ext) id) t4.ext (by omega)
  have R4 : Blk w4 B4 (List.replicate 8 (.int .u32 0)) 170 := Blk.ext (Blk.ext (w := w2) (cs := List.replicate 8 (.int .u32 0)) a2.at_ a3.ext id) t4.ext (by omega)
  have Z4 : Blk w4 B5 (vals (words l 0 ++ List.replicate (64 - 0) 0)) 179 := by
    have := t4.at_
    rw [show (Value.agg (vals (List.replicate 64 0)).toArray).cells.toList = vals (List.replicate 64 0) from rfl, setAt_all _ _ (by rw [vals_length]; rfl)] at this
    exact this
  clear a1 a2 a3 t4
  repeat (first | refine RunL.pureI Tryd.tOk rfl rfl rfl (by (first | exact wr_i64 (by omega) (by omega) | exact wm_i64 (by omega) | exact wq_i64 (by omega) (by omega) (by omega) | rfl)) ?_ | refine RunE.seq ?_ | refine RunE.region ?_ | refine RunL.nil ?_ | refine RunE.block ?_)
  refine RunE.loop (ι := Nat) (fun j => [(1, .slice (some ⟨b', o', none⟩) 64 cap), (2, .pointer (some ⟨B2, 0, none⟩)), (4, .pointer (some ⟨B4, 0, none⟩)), (5, .pointer (some ⟨B5, 0, none⟩)), (6, .int .i64 (j : Int))])
    (fun j w' => j ≤ 16 ∧ Ext w w' ∧ Blk w' B2 (vals s.l) 170 ∧ Blk w' B4 (List.replicate 8 (.int .u32 0)) 170 ∧ Blk w' B5 (vals (words l j ++ List.replicate (64 - j) 0)) 179) (fun j => 16 - j) 0 (by repeat (first | exact Sub.nil _ | refine Sub.cons rfl ?_)) ⟨by omega, X4, S4, R4, Z4⟩ ?_
  clear X4 S4 R4 Z4
  rintro j w5 ⟨hj, X5, S5, R5, Z5⟩ again
  repeat (first | refine RunL.pureI Tryd.tOk rfl rfl rfl (by (first | exact wr_i64 (by omega) (by omega) | exact wm_i64 (by omega) | exact wq_i64 (by omega) (by omega) (by omega) | rfl)) ?_ | refine RunL.pure Tryd.tOk rfl rfl rfl ?_ | refine RunE.seq ?_ | refine RunE.region ?_ | refine RunL.nil ?_)
  refine RunE.cond rfl (fun hlt => ?_) (fun hlt => ?_) <;> (first | replace hlt := of_decide_eq_true hlt | replace hlt := of_decide_eq_false hlt | replace hlt := beq_iff_eq.1 hlt | replace hlt := beq_eq_false_iff_ne.1 hlt | replace hlt := bne_iff_ne.1 hlt | replace hlt := bne_eq_false_iff_eq.1 hlt | skip)
  · repeat (first | refine RunL.pureI Tryd.tOk rfl rfl rfl (by (first | exact wr_i64 (by omega) (by omega) | exact wm_i64 (by omega) | exact wq_i64 (by omega) (by omega) (by omega) | rfl)) ?_ | refine RunL.pure Tryd.tOk rfl rfl rfl ?_ | refine RunE.seq ?_ | refine RunE.region ?_ | refine RunE.block ?_ | refine RunE.skip ?_)
    refine RunL.val rfl rfl rfl (OpV.sliceSq (lo := 4 * j) (hi := 4 * j + 4) (q := o' + 4 * j) (len := 4) (cap := cap - 4 * j) Tryd.tOk rfl rfl (.some rfl (by omega)) (.some rfl (by omega)) (by omega) (by omega) (by rw [offOf_lt (by omega)]; omega) (by omega) rfl) ?_
    have hrow : Row w5 b' (o' + 4 * j) (bytesV [l.getD (4 * j) 0, l.getD (4 * j + 1) 0, l.getD (4 * j + 2) 0, l.getD (4 * j + 3) 0]) := by
      refine (hr.extE X5).window fun i v hv => ?_
      match i, hv with
      | 0, hv => rw [bytesV_get (by omega)]; exact hv
      | 1, hv => rw [bytesV_get (by omega)]; exact hv
      | 2, hv => rw [bytesV_get (by omega)]; exact hv
      | 3, hv => rw [bytesV_get (by omega)]; exact hv
    refine RunL.call rfl rfl rfl (refWord_ok _ _ _ _ _ _ _ _ _ (by omega) hrow) ?_
    rintro _ w6 ⟨rfl, X6⟩
    have Y6 := X5.trans X6
    refine RunL.val rfl rfl rfl (OpV.indexA1 Tryd.tOk j rfl rfl rfl rfl (by omega)) ?_
    refine RunL.store Tryd.tOk rfl rfl rfl rfl rfl (Z5.ext X6 id) (by simp [vals_length, words_length, Value.cells]; omega) rfl fun w7 t7 => ?_
    have X7 : Ext w w7 := Y6.write t7.ext (by intro i hi hlt; subst hi; omega)
    have S7 := (S5.ext X6 id).ext t7.ext (by omega)
    have R7 := (R5.ext X6 id).ext t7.ext (by omega)
    have Z7 : Blk w7 B5 (vals (words l (j + 1) ++ List.replicate (64 - (j + 1)) 0)) 179 := by
      have := t7.at_
      have e := set_next (words l j) (64 - (j + 1)) (word (l.getD (4 * j) 0) (l.getD (4 * j + 1) 0) (l.getD (4 * j + 2) 0) (l.getD (4 * j + 3) 0))
      rw [words_length, show 64 - (j + 1) + 1 = 64 - j by omega] at e
      unfold Blk
      rw [words, ← e, this]
      rw [Nat.zero_add]
      rfl
    repeat (first | refine RunL.pureI Tryd.tOk rfl rfl rfl (by (first | exact wr_i64 (by omega) (by omega) | exact wm_i64 (by omega) | exact wq_i64 (by omega) (by omega) (by omega) | rfl)) ?_ | refine RunE.region ?_ | refine RunL.nil ?_ | refine RunE.inBlock ?_)
    exact RunE.weaken (by repeat (first | exact Sub.nil _ | refine Sub.cons rfl ?_)) (again (j + 1) _ (by omega) ⟨by omega, X7, S7, R7, Z7⟩)
  · have hj16 : j = 16 := by omega
    subst hj16
    clear again
    repeat (first | refine RunL.pureI Tryd.tOk rfl rfl rfl (by (first | exact wr_i64 (by omega) (by omega) | exact wm_i64 (by omega) | exact wq_i64 (by omega) (by omega) (by omega) | rfl)) ?_ | refine RunE.seq ?_ | refine RunE.region ?_ | refine RunL.nil ?_ | refine RunE.block ?_ | refine RunE.exit rfl ?_)
    refine RunE.loop (ι := Nat) (fun k => [(2, .pointer (some ⟨B2, 0, none⟩)), (4, .pointer (some ⟨B4, 0, none⟩)), (5, .pointer (some ⟨B5, 0, none⟩)), (7, .int .i64 ((16 + k : Nat) : Int))])
      (fun k w' => k ≤ 48 ∧ Ext w w' ∧ Blk w' B2 (vals s.l) 170 ∧ Blk w' B4 (List.replicate 8 (.int .u32 0)) 170 ∧ Blk w' B5 (vals (sched (words l 16) k ++ List.replicate (48 - k) 0)) 179) (fun k => 48 - k) 0 (by repeat (first | exact Sub.nil _ | refine Sub.cons rfl ?_)) ⟨by omega, X5, S5, R5, Z5⟩ ?_
    clear X5 S5 R5 Z5
    rintro k w4 ⟨hk48, X4, S4, R4, Z4⟩ again
    have hsl : (sched (words l 16) k).length = 16 + k := by rw [sched_length, words_length]
    repeat (first | refine RunL.pureI Tryd.tOk rfl rfl rfl (by (first | exact wr_i64 (by omega) (by omega) | exact wm_i64 (by omega) | exact wq_i64 (by omega) (by omega) (by omega) | rfl)) ?_ | refine RunL.pure Tryd.tOk rfl rfl rfl ?_ | refine RunE.seq ?_ | refine RunE.region ?_ | refine RunL.nil ?_)
    refine RunE.cond rfl (fun hlt2 => ?_) (fun hlt2 => ?_) <;> (first | replace hlt2 := of_decide_eq_true hlt2 | replace hlt2 := of_decide_eq_false hlt2 | replace hlt2 := beq_iff_eq.1 hlt2 | replace hlt2 := beq_eq_false_iff_ne.1 hlt2 | replace hlt2 := bne_iff_ne.1 hlt2 | replace hlt2 := bne_eq_false_iff_eq.1 hlt2 | skip)
    · repeat (first | refine RunL.pureI Tryd.tOk rfl rfl rfl (by (first | exact wr_i64 (by omega) (by omega) | exact wm_i64 (by omega) | exact wq_i64 (by omega) (by omega) (by omega) | rfl)) ?_ | refine RunE.seq ?_ | refine RunE.region ?_ | refine RunE.block ?_ | refine RunE.skip ?_)
      refine RunL.val rfl rfl rfl (OpV.indexA1 Tryd.tOk (k + 1) rfl rfl rfl (by omega) (by omega)) ?_
      refine RunL.val rfl rfl rfl (OpV.load1 Tryd.tOk rfl rfl rfl (Z4.row (k + 1) _ (vals_get _ (by omega)))) ?_
      repeat (first | refine RunL.pureI Tryd.tOk rfl rfl rfl (by (first | exact wr_i64 (by omega) (by omega) | exact wm_i64 (by omega) | exact wq_i64 (by omega) (by omega) (by omega) | rfl)) ?_ | refine RunE.seq ?_ | refine RunE.region ?_ | refine RunL.nil ?_)
      refine RunL.val rfl rfl rfl (OpV.indexA1 Tryd.tOk (k + 14) rfl rfl rfl (by omega) (by omega)) ?_
      refine RunL.val rfl rfl rfl (OpV.load1 Tryd.tOk rfl rfl rfl (Z4.row (k + 14) _ (vals_get _ (by omega)))) ?_
      repeat (first | refine RunL.pureI Tryd.tOk rfl rfl rfl (by (first | exact wr_i64 (by omega) (by omega) | exact wm_i64 (by omega) | exact wq_i64 (by omega) (by omega) (by omega) | rfl)) ?_ | refine RunL.nil ?_)
      refine RunE.draw (fun _ => False) mix ?_
      intro w8 X8
      have Z8 := Z4.ext X8 id
      repeat (first | refine Asy.pureI Tryd.tOk rfl rfl rfl (by (first | exact wr_i64 (by omega) (by omega) | exact wm_i64 (by omega) | exact wq_i64 (by omega) (by omega) (by omega) | rfl)) ?_)
      refine Asy.v rfl rfl rfl rfl (fun _ _ => OpV.indexA1 Tryd.tOk k rfl rfl rfl (by omega) (by omega)) ?_
      refine Asy.v rfl rfl rfl rfl (fun _ X' => OpV.load1 Tryd.tOk rfl rfl rfl ((Z8.ext X' id).row k _ (vals_get _ (by omega)))) ?_
      repeat (first | refine Asy.pureI Tryd.tOk rfl rfl rfl (by (first | exact wr_i64 (by omega) (by omega) | exact wm_i64 (by omega) | exact wq_i64 (by omega) (by omega) (by omega) | rfl)) ?_)
      refine Asy.val rfl rfl rfl rfl (fun _ _ => OpE.call rfl (ror_ok _ 7 (by decide) _)) ?_
      repeat (first | refine Asy.pureI Tryd.tOk rfl rfl rfl (by (first | exact wr_i64 (by omega) (by omega) | exact wm_i64 (by omega) | exact wq_i64 (by omega) (by omega) (by omega) | rfl)) ?_)
      refine Asy.val rfl rfl rfl rfl (fun _ _ => OpE.call rfl (ror_ok _ 18 (by decide) _)) ?_
      repeat (first | refine Asy.v rfl rfl rfl rfl (fun _ X_ => OpV.xor32 rfl rfl) ?_ | refine Asy.v rfl rfl rfl rfl (fun _ X_ => OpV.add32 rfl rfl) ?_ | refine Asy.v rfl rfl rfl rfl (fun _ X_ => OpV.shr32 rfl rfl rfl) ?_ | refine Asy.pureI Tryd.tOk rfl rfl rfl (by (first | exact wr_i64 (by omega) (by omega) | exact wm_i64 (by omega) | exact wq_i64 (by omega) (by omega) (by omega) | rfl)) ?_)
      refine Asy.v rfl rfl rfl rfl (fun _ _ => OpV.indexA1 Tryd.tOk (k + 9) rfl rfl rfl (by omega) (by omega)) ?_
      refine Asy.v rfl rfl rfl rfl (fun _ X' => OpV.load1 Tryd.tOk rfl rfl rfl ((Z8.ext X' id).row (k + 9) _ (vals_get _ (by omega)))) ?_
      repeat (first | refine Asy.v rfl rfl rfl rfl (fun _ X_ => OpV.add32 rfl rfl) ?_ | refine Asy.pureI Tryd.tOk rfl rfl rfl (by (first | exact wr_i64 (by omega) (by omega) | exact wm_i64 (by omega) | exact wq_i64 (by omega) (by omega) (by omega) | rfl)) ?_)
      refine Asy.val rfl rfl rfl rfl (fun _ _ => OpE.call rfl (ror_ok _ 17 (by decide) _)) ?_
      repeat (first | refine Asy.pureI Tryd.tOk rfl rfl rfl (by (first | exact wr_i64 (by omega) (by omega) | exact wm_i64 (by omega) | exact wq_i64 (by omega) (by omega) (by omega) | rfl)) ?_)
      refine Asy.val rfl rfl rfl rfl (fun _ _ => OpE.call rfl (ror_ok _ 19 (by decide) _)) ?_
      repeat (first | refine Asy.v rfl rfl rfl rfl (fun _ X_ => OpV.xor32 rfl rfl) ?_ | refine Asy.v rfl rfl rfl rfl (fun _ X_ => OpV.add32 rfl rfl) ?_ | refine Asy.v rfl rfl rfl rfl (fun _ X_ => OpV.shr32 rfl rfl rfl) ?_ | refine Asy.pureI Tryd.tOk rfl rfl rfl (by (first | exact wr_i64 (by omega) (by omega) | exact wm_i64 (by omega) | exact wq_i64 (by omega) (by omega) (by omega) | rfl)) ?_)
      refine Asy.tail (by kernel_rfl) ?_
      intro w9 X9
      simp only [satsAll]
      refine RunL.val rfl rfl rfl (OpV.indexA1 Tryd.tOk (16 + k) rfl rfl rfl rfl (by omega)) ?_
      refine RunL.store Tryd.tOk rfl rfl rfl rfl rfl (Z8.ext X9 id) (by simp [vals_length, hsl, Value.cells]; omega) rfl fun w10 t10 => ?_
      have X10 : Ext w w10 := (X4.trans (X8.trans X9)).write t10.ext (by intro i hi hlt; subst hi; omega)
      have S10 := (S4.ext (X8.trans X9) id).ext t10.ext (by omega)
      have R10 := (R4.ext (X8.trans X9) id).ext t10.ext (by omega)
      have Z10 : Blk w10 B5 (vals (sched (words l 16) (k + 1) ++ List.replicate (48 - (k + 1)) 0)) 179 := by
        have := t10.at_
        have e := set_at (n := 48 - (k + 1)) (nextW (sched (words l 16) k) k) hsl
        rw [show 48 - (k + 1) + 1 = 48 - k by omega] at e
        unfold Blk
        rw [sched, ← e, this]
        rw [Nat.zero_add]
        rfl
      repeat (first | refine RunL.pureI Tryd.tOk rfl rfl rfl (by (first | exact wr_i64 (by omega) (by omega) | exact wm_i64 (by omega) | exact wq_i64 (by omega) (by omega) (by omega) | rfl)) ?_ | refine RunE.region ?_ | refine RunL.nil ?_ | refine RunE.inBlock ?_)
      exact RunE.weaken (by repeat (first | exact Sub.nil _ | refine Sub.cons rfl ?_)) (again (k + 1) _ (by omega) ⟨by omega, X10, S10, R10, Z10⟩)
    · have hk : k = 48 := by omega
      subst hk
      clear again
      repeat (first | refine RunE.seq ?_ | refine RunE.region ?_ | refine RunE.exit rfl ?_)
      refine RunL.call rfl rfl rfl (numbers_ok _) ?_
      rintro _ w5 ⟨rfl, X5⟩
      refine RunL.alloc Tryd.tOk rfl rfl rfl fun B10 w6 a6 => ?_
      refine RunL.store (v := .agg (vals kTab).toArray) Tryd.tOk rfl rfl rfl rfl rfl (cs := List.replicate 64 (.int .u32 0)) a6.at_ rfl rfl fun w7 t7 => ?_
      have hB10 := a6.eq
      have y5 := X5.size
      have lt5 := Z4.lt
      have X7 : Ext w w7 := ((X4.trans X5).trans a6.ext).write t7.ext (by intro i hi hlt; subst hi; have := X4.size; omega)
      have S7 := (S4.ext (X5.trans a6.ext) id).ext t7.ext (by have := S4.lt; omega)
      have R7 := (R4.ext (X5.trans a6.ext) id).ext t7.ext (by have := R4.lt; omega)
      have Z7 := (Z4.ext (X5.trans a6.ext) id).ext t7.ext (by omega)
      have K7 : Blk w7 B10 (vals kTab) 179 := by
        have := t7.at_
        rw [show (Value.agg (vals kTab).toArray).cells.toList = vals kTab from rfl, setAt_all _ _ (by rw [vals_length]; rfl)] at this
        exact this
      clear X4 S4 R4 Z4 X5 a6 t7
      generalize hws : sched (words l 16) 48 = ws at Z7 hsl
      repeat (first | refine RunE.seq ?_ | refine RunL.nil ?_)
      refine RunE.draw (fun _ => False) mix ?_
      intro w8 X8
      have S8 := S7.ext X8 id
      repeat (first | refine Asy.pureI Tryd.tOk rfl rfl rfl (by (first | exact wr_i64 (by omega) (by omega) | exact wm_i64 (by omega) | exact wq_i64 (by omega) (by omega) (by omega) | rfl)) ?_ | refine Asy.v rfl rfl rfl rfl (fun _ X_ => OpV.indexAK Tryd.tOk rfl rfl rfl rfl) ?_ | refine Asy.v rfl rfl rfl rfl (fun _ X_ => OpV.load1 Tryd.tOk rfl rfl rfl (Blk.cell (S8.ext X_ id) rfl)) ?_)
      refine Asy.tail (by kernel_rfl) ?_
      intro w9 X9
      simp only [satsAll]
      repeat (first | refine RunL.pureI Tryd.tOk rfl rfl rfl (by (first | exact wr_i64 (by omega) (by omega) | exact wm_i64 (by omega) | exact wq_i64 (by omega) (by omega) (by omega) | rfl)) ?_ | refine RunE.seq ?_ | refine RunE.region ?_ | refine RunL.nil ?_ | refine RunE.block ?_)
      have Y9 := X8.trans X9
      have X10 := X7.trans Y9
      have S10 := S7.ext Y9 id
      have R10 := R7.ext Y9 id
      have Z10 := Z7.ext Y9 id
      have K10 := K7.ext Y9 id
      clear X7 S7 R7 Z7 K7 X8 X9 Y9 S8
      refine RunE.loop (ι := Nat) (fun t => [(2, .pointer (some ⟨B2, 0, none⟩)), (4, .pointer (some ⟨B4, 0, none⟩)), (5, .pointer (some ⟨B5, 0, none⟩)), (10, .pointer (some ⟨B10, 0, none⟩)), (11, .int .u32 ((rnds ws s t).a.toNat : Int)),
          (12, .int .u32 ((rnds ws s t).b.toNat : Int)), (13, .int .u32 ((rnds ws s t).c.toNat : Int)), (14, .int .u32 ((rnds ws s t).d.toNat : Int)), (15, .int .u32 ((rnds ws s t).e.toNat : Int)), (16, .int .u32 ((rnds ws s t).f.toNat : Int)),
          (17, .int .u32 ((rnds ws s t).g.toNat : Int)), (18, .int .u32 ((rnds ws s t).h.toNat : Int)), (19, .int .i64 (t : Int))])
        (fun t w' => t ≤ 64 ∧ Ext w w' ∧ Blk w' B2 (vals s.l) 170 ∧ Blk w' B4 (List.replicate 8 (.int .u32 0)) 170 ∧ Blk w' B5 (vals (ws ++ [])) 179 ∧ Blk w' B10 (vals (kTab ++ [])) 179) (fun t => 64 - t) 0 (by repeat (first | exact Sub.nil _ | refine Sub.cons rfl ?_)) ⟨by omega, X10, S10, R10, Z10, K10⟩ ?_
      clear X10 S10 R10 Z10 K10
      rintro t u0 ⟨ht, X0, S0, R0, Z0, K0⟩ again
      repeat (first | refine RunL.pureI Tryd.tOk rfl rfl rfl (by (first | exact wr_i64 (by omega) (by omega) | exact wm_i64 (by omega) | exact wq_i64 (by omega) (by omega) (by omega) | rfl)) ?_ | refine RunL.pure Tryd.tOk rfl rfl rfl ?_ | refine RunE.seq ?_ | refine RunE.region ?_ | refine RunL.nil ?_)
      refine RunE.cond rfl (fun hlt3 => ?_) (fun hlt3 => ?_) <;> (first | replace hlt3 := of_decide_eq_true hlt3 | replace hlt3 := of_decide_eq_false hlt3 | replace hlt3 := beq_iff_eq.1 hlt3 | replace hlt3 := beq_eq_false_iff_ne.1 hlt3 | replace hlt3 := bne_iff_ne.1 hlt3 | replace hlt3 := bne_eq_false_iff_eq.1 hlt3 | skip)
      · have ht' : t < kTab.length := by simp [kTab]; omega
        repeat (first | refine RunE.seq ?_ | refine RunE.block ?_ | refine RunE.skip ?_)
        refine RunE.draw (fun _ => False) mix ?_
        intro u1 X1
        repeat (first | refine Asy.pureI Tryd.tOk rfl rfl rfl (by (first | exact wr_i64 (by omega) (by omega) | exact wm_i64 (by omega) | exact wq_i64 (by omega) (by omega) (by omega) | rfl)) ?_)
        refine Asy.val rfl rfl rfl rfl (fun _ _ => OpE.call rfl (ror_ok _ 6 (by decide) _)) ?_
        repeat (first | refine Asy.pureI Tryd.tOk rfl rfl rfl (by (first | exact wr_i64 (by omega) (by omega) | exact wm_i64 (by omega) | exact wq_i64 (by omega) (by omega) (by omega) | rfl)) ?_)
        refine Asy.val rfl rfl rfl rfl (fun _ _ => OpE.call rfl (ror_ok _ 11 (by decide) _)) ?_
        repeat (first | refine Asy.v rfl rfl rfl rfl (fun _ X_ => OpV.xor32 rfl rfl) ?_ | refine Asy.pureI Tryd.tOk rfl rfl rfl (by (first | exact wr_i64 (by omega) (by omega) | exact wm_i64 (by omega) | exact wq_i64 (by omega) (by omega) (by omega) | rfl)) ?_)
        refine Asy.val rfl rfl rfl rfl (fun _ _ => OpE.call rfl (ror_ok _ 25 (by decide) _)) ?_
        repeat (first | refine Asy.v rfl rfl rfl rfl (fun _ X_ => OpV.xor32 rfl rfl) ?_ | refine Asy.v rfl rfl rfl rfl (fun _ X_ => OpV.and32 rfl rfl) ?_ | refine Asy.v rfl rfl rfl rfl (fun _ X_ => OpV.add32 rfl rfl) ?_ | refine Asy.pureI Tryd.tOk rfl rfl rfl (by (first | exact wr_i64 (by omega) (by omega) | exact wm_i64 (by omega) | exact wq_i64 (by omega) (by omega) (by omega) | rfl)) ?_)
        refine Asy.v rfl rfl rfl rfl (fun _ _ => OpV.compl rfl (u32_compl _)) ?_
        repeat (first | refine Asy.v rfl rfl rfl rfl (fun _ X_ => OpV.xor32 rfl rfl) ?_ | refine Asy.v rfl rfl rfl rfl (fun _ X_ => OpV.and32 rfl rfl) ?_ | refine Asy.v rfl rfl rfl rfl (fun _ X_ => OpV.add32 rfl rfl) ?_ | refine Asy.pureI Tryd.tOk rfl rfl rfl (by (first | exact wr_i64 (by omega) (by omega) | exact wm_i64 (by omega) | exact wq_i64 (by omega) (by omega) (by omega) | rfl)) ?_)
        refine Asy.v rfl rfl rfl rfl (fun _ _ => OpV.indexA1 Tryd.tOk t rfl rfl rfl rfl (by omega)) ?_
        refine Asy.v rfl rfl rfl rfl (fun _ X' => OpV.load1 Tryd.tOk rfl rfl rfl (((K0.ext X1 id).ext X' id).row t _ (vals_get _ ht'))) ?_
        repeat (first | refine Asy.v rfl rfl rfl rfl (fun _ X_ => OpV.add32 rfl rfl) ?_ | refine Asy.pureI Tryd.tOk rfl rfl rfl (by (first | exact wr_i64 (by omega) (by omega) | exact wm_i64 (by omega) | exact wq_i64 (by omega) (by omega) (by omega) | rfl)) ?_)
        refine Asy.v rfl rfl rfl rfl (fun _ _ => OpV.indexA1 Tryd.tOk t rfl rfl rfl rfl (by omega)) ?_
        refine Asy.v rfl rfl rfl rfl (fun _ X' => OpV.load1 Tryd.tOk rfl rfl rfl (((Z0.ext X1 id).ext X' id).row t _ (vals_get _ (by omega)))) ?_
        repeat (first | refine Asy.v rfl rfl rfl rfl (fun _ X_ => OpV.add32 rfl rfl) ?_ | refine Asy.pureI Tryd.tOk rfl rfl rfl (by (first | exact wr_i64 (by omega) (by omega) | exact wm_i64 (by omega) | exact wq_i64 (by omega) (by omega) (by omega) | rfl)) ?_)
        refine Asy.tail (by kernel_rfl) ?_
        intro u2 X2
        simp only [satsAll]
        have Y2 := X1.trans X2
        clear X1 X2
        repeat (first | refine RunL.pureI Tryd.tOk rfl rfl rfl (by (first | exact wr_i64 (by omega) (by omega) | exact wm_i64 (by omega) | exact wq_i64 (by omega) (by omega) (by omega) | rfl)) ?_ | refine RunE.seq ?_ | refine RunE.region ?_ | refine RunL.nil ?_)
        refine RunL.call rfl rfl rfl (ror_ok _ 2 (by decide) _) ?_
        rintro _ u3 ⟨rfl, X3⟩
        repeat (first | refine RunL.pureI Tryd.tOk rfl rfl rfl (by (first | exact wr_i64 (by omega) (by omega) | exact wm_i64 (by omega) | exact wq_i64 (by omega) (by omega) (by omega) | rfl)) ?_)
        refine RunL.call rfl rfl rfl (ror_ok _ 13 (by decide) _) ?_
        rintro _ u4 ⟨rfl, X4⟩
        repeat (first | refine RunL.val rfl rfl rfl (OpV.xor32 rfl rfl) ?_ | refine RunL.pureI Tryd.tOk rfl rfl rfl (by (first | exact wr_i64 (by omega) (by omega) | exact wm_i64 (by omega) | exact wq_i64 (by omega) (by omega) (by omega) | rfl)) ?_)
        refine RunL.call rfl rfl rfl (ror_ok _ 22 (by decide) _) ?_
        rintro _ u5 ⟨rfl, X5⟩
        have Y5 := ((Y2.trans X3).trans X4).trans X5
        repeat (first | refine RunL.val rfl rfl rfl (OpV.xor32 rfl rfl) ?_ | refine RunL.val rfl rfl rfl (OpV.and32 rfl rfl) ?_ | refine RunL.val rfl rfl rfl (OpV.add32 rfl rfl) ?_ | refine RunL.pureI Tryd.tOk rfl rfl rfl (by (first | exact wr_i64 (by omega) (by omega) | exact wm_i64 (by omega) | exact wq_i64 (by omega) (by omega) (by omega) | rfl)) ?_ | refine RunE.region ?_ | refine RunL.nil ?_ | refine RunE.inBlock ?_)
        refine RunE.weaken (by repeat (first | exact Sub.nil _ | refine Sub.cons rfl ?_)) (again (t + 1) _ (by omega) ⟨by omega, X0.trans Y5, S0.ext Y5 id, R0.ext Y5 id, Z0.ext Y5 id, K0.ext Y5 id⟩)
      · have ht64 : t = 64 := by omega
        subst ht64
        clear again
        have hbl : block s l = s.add (rnds ws s 64) := by rw [block, hws]
        generalize rnds ws s 64 = v at hbl ⊢
        repeat (first | refine RunL.val rfl rfl rfl (OpV.add32 rfl rfl) ?_ | refine RunL.pureI Tryd.tOk rfl rfl rfl (by (first | exact wr_i64 (by omega) (by omega) | exact wm_i64 (by omega) | exact wq_i64 (by omega) (by omega) (by omega) | rfl)) ?_ | refine RunL.pure Tryd.tOk rfl rfl rfl ?_ | refine RunL.val rfl rfl rfl (OpV.indexAK Tryd.tOk rfl rfl rfl rfl) ?_ | refine RunL.val rfl rfl rfl (OpV.load1 Tryd.tOk rfl rfl rfl (Blk.cell S0 rfl)) ?_ | refine RunE.seq ?_ | refine RunE.region ?_ | refine RunE.exit rfl ?_)
        refine RunL.store Tryd.tOk rfl rfl rfl rfl rfl R0 rfl rfl fun u1 t1 => ?_
        have X1 : Ext w u1 := X0.write t1.ext (by intro i hi hlt; subst hi; omega)
        repeat (first | refine RunL.nil ?_)
        refine RunE.retFn Tryd.func139 (.cell rfl (.agg Tryd.tOk rfl rfl rfl (Blk.row (show Blk u1 B4 (vals (s.add v).l) _ from t1.at_))) .nil) ⟨?_, X1⟩
        rw [hbl]; rfl

set_option maxRecDepth 4000 in
theorem padded_ok (v : Value) (l : List UInt8) (w : World) (hv : IsSl w 1 v l.length (bytesV l)) (hl : l.length ≤ 1000000000) :
    Rets Tryd.prog 138 [v] w fun r w' => w'.ownsRow w.heap.size 5 1 r (pad l).length (bytesV (pad l)) ∧ Ext w w' := by
  refine RetsX.of (nt := 35) Tryd.func138 (by kernel_rfl) rfl rfl (by simp) (by simp only [argEnv]; rfl) ?_
  repeat (first | refine RunL.pure Tryd.tOk rfl rfl rfl ?_ | refine RunE.seq ?_ | refine RunE.region ?_ | refine RunL.nil ?_)
  refine RunL.ex rfl rfl rfl (OpE.buildSl Tryd.tOk [] rfl rfl rfl rfl rfl rfl (by simp)) ?_
  rintro _ w1 ⟨B6, rfl, a1⟩
  have O1 := ownsRow_added (n := 0) (sz := 1) a1 (Nat.le_of_eq a1.eq.symm) rfl (by simp [maxLen])
  have X1 := a1.ext
  clear a1
  repeat (first | refine RunL.pure Tryd.tOk rfl rfl rfl ?_)
  refine RunL.ex rfl rfl rfl (OpE.append Tryd.tOk rfl rfl rfl rfl rfl rfl O1 (hv.extE X1) (bytesV_plain _) (by show _ * 1 ≤ _; omega) (by omega) X1.size) ?_
  rintro v2 w2 ⟨O2, E2⟩
  have X2 : Ext w w2 := X1.write E2 (by intro i hi hlt; have := ownsRow_ge O1 hi; omega)
  clear O1 X1 E2
  refine RunL.ex rfl rfl rfl (OpE.buildSl Tryd.tOk [.int .u8 128] rfl rfl rfl rfl rfl rfl (by simp [Value.cells])) ?_
  rintro _ w3 ⟨B9, rfl, a3⟩
  have X3 := X2.trans a3.ext
  have O3 := ownsRow_ext O2 a3.ext (fun _ _ h => h)
  refine RunL.ex rfl rfl rfl (OpE.append Tryd.tOk rfl rfl rfl rfl rfl rfl O3 (isSl_added (n := 1) (sz := 1) a3 rfl) rfl (by show _ * 1 ≤ _; omega) (by omega) X3.size) ?_
  rintro v4 w4 ⟨O4, E4⟩
  have X4 : Ext w w4 := X3.write E4 (by intro i hi hlt; have := ownsRow_ge O3 hi; omega)
  clear X2 X3 O2 O3 a3 E4
  repeat (first | refine RunL.pure Tryd.tOk rfl rfl rfl ?_ | refine RunE.seq ?_ | refine RunL.nil ?_ | refine RunE.block ?_)
  have O4' : w4.ownsRow w.heap.size 5 1 v4 (l.length + 1 + 0) (bytesV (l ++ 128 :: List.replicate 0 0)) := by
    rw [bytesV_append]; simpa [cellsAll, Value.cells, bytesV] using O4
  have hz64 : padz l.length < 64 := by unfold padz; omega
  refine RunE.loop (ι := Nat × Value) (fun x => [(0, v), (3, x.2)])
    (fun x w' => x.1 ≤ padz l.length ∧ Ext w w' ∧ w'.ownsRow w.heap.size 5 1 x.2 (l.length + 1 + x.1) (bytesV (l ++ 128 :: List.replicate x.1 0))) (fun x => padz l.length - x.1) (0, v4) (by repeat (first | exact Sub.nil _ | refine Sub.cons rfl ?_)) ⟨by simp, X4, O4'⟩ ?_
  clear O4 O4' X4
  rintro ⟨j, u⟩ w5 ⟨hj, X5, O5⟩ again
  simp only at hj O5 again ⊢
  repeat (first | refine RunL.pure Tryd.tOk rfl rfl rfl ?_ | refine RunE.seq ?_ | refine RunE.region ?_)
  refine RunL.val rfl rfl rfl (OpV.lenSl Tryd.tOk rfl rfl (isSl_own O5)) ?_
  repeat (first | refine RunL.pureI Tryd.tOk rfl rfl rfl (by (first | exact wr_i64 (by omega) (by omega) | exact wm_i64 (by omega) | exact wq_i64 (by omega) (by omega) (by omega) | rfl)) ?_ | refine RunL.pure Tryd.tOk rfl rfl rfl ?_ | refine RunL.nil ?_)
  refine RunE.cond rfl (fun hne => ?_) (fun hne => ?_) <;> (first | replace hne := of_decide_eq_true hne | replace hne := of_decide_eq_false hne | replace hne := beq_iff_eq.1 hne | replace hne := beq_eq_false_iff_ne.1 hne | replace hne := bne_iff_ne.1 hne | replace hne := bne_eq_false_iff_eq.1 hne | skip)
  · have hj' : j < padz l.length := by
      rcases Nat.lt_or_ge j (padz l.length) with h | h
      · exact h
      · exfalso; apply hne; have : j = padz l.length := by omega
        subst this; unfold padz; omega
    repeat (first | refine RunL.pure Tryd.tOk rfl rfl rfl ?_ | refine RunE.region ?_ | refine RunE.block ?_ | refine RunE.skip ?_)
    refine RunL.ex rfl rfl rfl (OpE.buildSl Tryd.tOk [.int .u8 0] rfl rfl rfl rfl rfl rfl (by simp [Value.cells])) ?_
    rintro _ w6 ⟨B16, rfl, a6⟩
    have X6 := X5.trans a6.ext
    have O6 := ownsRow_ext O5 a6.ext (fun _ _ h => h)
    refine RunL.ex rfl rfl rfl (OpE.append Tryd.tOk rfl rfl rfl rfl rfl rfl O6 (isSl_added (n := 1) (sz := 1) a6 rfl) rfl (by show _ * 1 ≤ _; omega) (by omega) X6.size) ?_
    rintro u7 w7 ⟨O7, E7⟩
    have X7 : Ext w w7 := X6.write E7 (by intro i hi hlt; have := ownsRow_ge O6 hi; omega)
    repeat (first | refine RunL.pure Tryd.tOk rfl rfl rfl ?_ | refine RunL.nil ?_ | refine RunE.inBlock ?_)
    refine RunE.weaken (by repeat (first | exact Sub.nil _ | refine Sub.cons rfl ?_)) (again (j + 1, u7) _ (by simp only; omega) ⟨by simp only; omega, X7, ?_⟩)
    simp only
    have e : l ++ 128 :: List.replicate (j + 1) (0 : UInt8) = (l ++ 128 :: List.replicate j 0) ++ [0] := by rw [List.replicate_succ']; simp
    rw [e, bytesV_append]
    exact O7
  · have hjz : j = padz l.length := by unfold padz at hj ⊢; omega
    subst hjz
    clear again
    repeat (first | refine RunL.pure Tryd.tOk rfl rfl rfl ?_ | refine RunE.seq ?_ | refine RunE.region ?_ | refine RunE.exit rfl ?_)
    refine RunL.val rfl rfl rfl (OpV.lenSl Tryd.tOk rfl rfl hv) ?_
    repeat (first | refine RunL.pureI Tryd.tOk rfl rfl rfl (by (first | exact u64_nat _ (by omega) | exact u64_mul _ 8 (by omega) | exact wr_i64 (by omega) (by omega) | exact wm_i64 (by omega) | exact wq_i64 (by omega) (by omega) (by omega) | rfl)) ?_ | refine RunE.seq ?_ | refine RunE.region ?_ | refine RunL.nil ?_ | refine RunE.block ?_)
    rw [Nat.mul_comm l.length 8]
    refine RunE.loop (ι := Nat × Value) (fun x => [(3, x.2), (4, .int .u64 ((8 * l.length : Nat) : Int)), (5, .int .i64 (7 - (x.1 : Int)))])
      (fun x w' => x.1 ≤ 8 ∧ Ext w w' ∧ w'.ownsRow w.heap.size 5 1 x.2 (l.length + 1 + padz l.length + x.1) (bytesV (l ++ 128 :: (List.replicate (padz l.length) 0 ++ (be 8 (8 * l.length)).take x.1)))) (fun x => 8 - x.1) (0, u) (by repeat (first | exact Sub.nil _ | refine Sub.cons rfl ?_))
      ⟨by simp, X5, by simpa using O5⟩ ?_
    clear O5 X5
    rintro ⟨k, u⟩ w5 ⟨hk, X5, O5⟩ again
    simp only at hk O5 again ⊢
    repeat (first | refine RunL.pureI Tryd.tOk rfl rfl rfl (by (first | exact wr_i64 (by omega) (by omega) | exact wm_i64 (by omega) | exact wq_i64 (by omega) (by omega) (by omega) | rfl)) ?_ | refine RunL.pure Tryd.tOk rfl rfl rfl ?_ | refine RunE.seq ?_ | refine RunE.region ?_ | refine RunL.nil ?_)
    refine RunE.cond rfl (fun hge => ?_) (fun hge => ?_) <;> (first | replace hge := of_decide_eq_true hge | replace hge := of_decide_eq_false hge | replace hge := beq_iff_eq.1 hge | replace hge := beq_eq_false_iff_ne.1 hge | replace hge := bne_iff_ne.1 hge | replace hge := bne_eq_false_iff_eq.1 hge | skip)
    · have hk8 : k < 8 := by omega
      have e7 : (8 : Int) * (7 - (k : Int)) = ((8 * (7 - k) : Nat) : Int) := by omega
      repeat (first | refine RunL.pureI Tryd.tOk rfl rfl rfl (by (first | exact (congrArg IntKind.i64.wrap e7).trans (wr_i64 (by omega) (by omega)) | exact u64_shr _ _ (by omega) | exact u8_of_nat _ | exact wr_i64 (by omega) (by omega) | exact wm_i64 (by omega) | exact wq_i64 (by omega) (by omega) (by omega) | rfl)) ?_ | refine RunL.pure Tryd.tOk rfl rfl rfl ?_ | refine RunE.seq ?_ | refine RunE.region ?_ | refine RunE.block ?_ | refine RunE.skip ?_)
      refine RunL.ex rfl rfl rfl (OpE.buildSl Tryd.tOk [.int .u8 ((UInt8.ofNat (8 * l.length / 2 ^ (8 * (7 - k)))).toNat : Int)] rfl rfl rfl rfl rfl rfl (by simp [Value.cells])) ?_
      rintro _ w6 ⟨B16, rfl, a6⟩
      have X6 := X5.trans a6.ext
      have O6 := ownsRow_ext O5 a6.ext (fun _ _ h => h)
      refine RunL.ex rfl rfl rfl (OpE.append Tryd.tOk rfl rfl rfl rfl rfl rfl O6 (isSl_added (n := 1) (sz := 1) a6 rfl) rfl (by show _ * 1 ≤ _; omega) (by omega) X6.size) ?_
      rintro u7 w7 ⟨O7, E7⟩
      have X7 : Ext w w7 := X6.write E7 (by intro i hi hlt; have := ownsRow_ge O6 hi; omega)
      repeat (first | refine RunL.pureI Tryd.tOk rfl rfl rfl (by (first | exact wr_i64 (by omega) (by omega) | exact wm_i64 (by omega) | exact wq_i64 (by omega) (by omega) (by omega) | rfl)) ?_ | refine RunL.pure Tryd.tOk rfl rfl rfl ?_ | refine RunE.region ?_ | refine RunL.nil ?_ | refine RunE.inBlock ?_)
      refine RunE.weaken (by
        refine Sub.cons rfl (Sub.cons rfl (Sub.cons ?_ (Sub.nil _)))
        rw [show (7 : Int) - ((k + 1 : Nat) : Int) = 7 - (k : Int) - 1 by omega]; rfl) (again (k + 1, u7) _ (by simp only; omega) ⟨by simp only; omega, X7, ?_⟩)
      simp only
      have e : (be 8 (8 * l.length)).take (k + 1) = (be 8 (8 * l.length)).take k ++ [UInt8.ofNat (8 * l.length / 2 ^ (8 * (7 - k)))] := by
        rw [List.take_add_one, be_get _ _ _ hk8]; rfl
      have e2 : l ++ 128 :: (List.replicate (padz l.length) 0 ++ (be 8 (8 * l.length)).take (k + 1)) = (l ++ 128 :: (List.replicate (padz l.length) 0 ++ (be 8 (8 * l.length)).take k)) ++ [UInt8.ofNat (8 * l.length / 2 ^ (8 * (7 - k)))] := by rw [e]; simp
      rw [e2, bytesV_append]
      exact O7
    · have hk8 : k = 8 := by omega
      subst hk8
      repeat (first | refine RunL.pure Tryd.tOk rfl rfl rfl ?_ | refine RunE.seq ?_ | refine RunE.region ?_ | refine RunL.nil ?_ | refine RunE.exit rfl ?_)
      refine RunE.retFn Tryd.func138 (.tmp rfl .nil) ⟨?_, X5⟩
      have e : (be 8 (8 * l.length)).take 8 = be 8 (8 * l.length) := rfl
      rw [e] at O5
      simp only [oneOr]
      rw [pad_length, show l.length + 9 + padz l.length = l.length + 1 + padz l.length + 8 by omega]
      exact O5

/-- The words of a state, byte by byte. -/
theorem dig_get (S : S8) (i : Nat) (h : i < 32) : (dig S)[i]? = some (UInt8.ofNat ((S.l.getD (i / 4) 0).toNat / 2 ^ (24 - 8 * (i % 4)))) := by
  have key : ∀ (L : List W) (q r : Nat), r < 4 → q < L.length → (L.flatMap fun x => be 4 x.toNat)[4 * q + r]? = some (UInt8.ofNat ((L.getD q 0).toNat / 2 ^ (8 * (3 - r)))) := by
    intro L
    induction L with
    | nil => intro q r _ hq; simp at hq
    | cons x L ih =>
      intro q r hr hq
      rw [List.flatMap_cons]
      cases q with
      | zero =>
        rw [List.getElem?_append_left (by rw [be_length]; omega), Nat.mul_zero, Nat.zero_add, be_get _ _ _ hr]
        rfl
      | succ q =>
        rw [List.getElem?_append_right (by rw [be_length]; omega), be_length, show 4 * (q + 1) + r - 4 = 4 * q + r by omega]
        rw [ih q r hr (by simpa using hq)]
        simp
  have h8 : S.l.length = 8 := rfl
  have := key S.l (i / 4) (i % 4) (by omega) (by omega)
  rw [show 4 * (i / 4) + i % 4 = i by omega, show 8 * (3 - i % 4) = 24 - 8 * (i % 4) by omega] at this
  exact this

set_option maxRecDepth 4000 in
set_option maxHeartbeats 4000000 in
set_option maxRecDepth 4000 in
theorem rsum_ok (v : Value) (l : List UInt8) (w : World) (hv : IsSl w 1 v l.length (bytesV l)) (hl : l.length ≤ 1000000000) :
    Rets Tryd.prog 137 [v] w fun r w' => r = .agg (bytesV (sha l)).toArray ∧ Ext w w' := by
  refine RetsX.of (nt := 42) Tryd.func137 (by kernel_rfl) rfl rfl (by simp) (by simp only [argEnv]; rfl) ?_
  repeat (first | refine RunE.seq ?_ | refine RunE.region ?_)
  refine RunL.alloc Tryd.tOk rfl rfl rfl fun B2 w1 a1 => ?_
  repeat (first | refine RunL.pure Tryd.tOk rfl rfl rfl ?_ | refine RunE.seq ?_ | refine RunE.region ?_ | refine RunL.nil ?_)
  refine RunL.alloc Tryd.tOk rfl rfl rfl fun B3 w2 a2 => ?_
  refine RunL.store (v := .agg (vals init8.l).toArray) Tryd.tOk rfl rfl rfl rfl rfl (cs := List.replicate 8 (.int .u32 0)) a2.at_ rfl rfl fun w3 t3 => ?_
  have hB2 := a1.eq
  have hB3 := a2.eq
  have hs1 := a1.size
  have X3 : Ext w w3 := (a1.ext.trans a2.ext).write t3.ext (by intro i hi hlt; subst hi; omega)
  have D3 : Blk w3 B2 (bytesV (List.replicate 32 0)) 130 := Blk.ext (Blk.ext (w := w1) (cs := List.replicate 32 (.int .u8 0)) a1.at_ a2.ext id) t3.ext (by omega)
  have V3 : Blk w3 B3 (vals (run init8 (pad l) 0).l) 170 := t3.at_
  clear a1 a2 t3
  repeat (first | refine RunL.pure Tryd.tOk rfl rfl rfl ?_ | refine RunE.seq ?_ | refine RunE.region ?_ | refine RunL.nil ?_)
  refine RunL.call rfl rfl rfl (padded_ok v l w3 (hv.extE X3) hl) ?_
  rintro p w4 ⟨O4, X4⟩
  have hpl := pad_length64 l
  have hpb := pad_length l
  have hz64 : padz l.length < 64 := by unfold padz; omega
  repeat (first | refine RunL.pureI Tryd.tOk rfl rfl rfl (by (first | exact wr_i64 (by omega) (by omega) | exact wm_i64 (by omega) | exact wq_i64 (by omega) (by omega) (by omega) | rfl)) ?_ | refine RunL.pure Tryd.tOk rfl rfl rfl ?_ | refine RunE.seq ?_ | refine RunE.region ?_ | refine RunL.nil ?_ | refine RunE.block ?_)
  refine RunE.loop (ι := Nat) (fun k => [(2, .pointer (some ⟨B2, 0, none⟩)), (3, .pointer (some ⟨B3, 0, none⟩)), (4, p), (5, .int .i64 ((64 * k : Nat) : Int))])
    (fun k w' => 64 * k ≤ (pad l).length ∧ Ext w w' ∧ Blk w' B2 (bytesV (List.replicate 32 0)) 130 ∧ Blk w' B3 (vals (run init8 (pad l) k).l) 170 ∧ w'.ownsRow w3.heap.size 5 1 p (pad l).length (bytesV (pad l)))
    (fun k => (pad l).length - 64 * k) 0 (by repeat (first | exact Sub.nil _ | refine Sub.cons rfl ?_)) ⟨by omega, X3.trans X4, D3.ext X4 id, V3.ext X4 id, O4⟩ ?_
  have hlt3 := V3.lt
  have hlt2 := D3.lt
  clear V3 D3 O4 X4
  rintro k w5 ⟨hk, X5, D5, V5, O5⟩ again
  repeat (first | refine RunL.pureI Tryd.tOk rfl rfl rfl (by (first | exact wr_i64 (by omega) (by omega) | exact wm_i64 (by omega) | exact wq_i64 (by omega) (by omega) (by omega) | rfl)) ?_ | refine RunL.pure Tryd.tOk rfl rfl rfl ?_ | refine RunE.seq ?_ | refine RunE.region ?_)
  refine RunL.val rfl rfl rfl (OpV.lenSl Tryd.tOk rfl rfl (isSl_own O5)) ?_
  repeat (first | refine RunL.pure Tryd.tOk rfl rfl rfl ?_ | refine RunL.nil ?_)
  refine RunE.cond rfl (fun hlt => ?_) (fun hlt => ?_) <;> (first | replace hlt := of_decide_eq_true hlt | replace hlt := of_decide_eq_false hlt | replace hlt := beq_iff_eq.1 hlt | replace hlt := beq_eq_false_iff_ne.1 hlt | replace hlt := bne_iff_ne.1 hlt | replace hlt := bne_eq_false_iff_eq.1 hlt | skip)
  · have hlt' : 64 * k + 64 ≤ (pad l).length := by omega
    obtain ⟨b', o', cap, rfl, hr, hln, hc⟩ := (isSl_own O5).held (by omega)
    repeat (first | refine RunE.seq ?_ | refine RunE.block ?_ | refine RunE.skip ?_)
    refine RunE.draw (fun _ => False) mix ?_
    intro w6 X6
    refine Asy.v rfl rfl rfl rfl (fun _ X' => OpV.loadN (cs := vals (run init8 (pad l) k).l) Tryd.tOk rfl rfl rfl rfl ((V5.ext X6 id).ext X' id).row) ?_
    repeat (first | refine Asy.pureI Tryd.tOk rfl rfl rfl (by (first | exact wr_i64 (by omega) (by omega) | exact wm_i64 (by omega) | exact wq_i64 (by omega) (by omega) (by omega) | rfl)) ?_ | refine Asy.pure Tryd.tOk rfl rfl rfl ?_)
    refine Asy.v rfl rfl rfl rfl (fun _ _ => OpV.sliceSq (lo := 64 * k) (hi := 64 * k + 64) (q := o' + 64 * k) (len := 64) (cap := cap - 64 * k) Tryd.tOk rfl rfl (.some rfl rfl) (.some rfl (by omega)) (by omega) (by omega) (by rw [offOf_lt (by omega)]; omega) (by omega) rfl) ?_
    have sl : IsSl w6 1 (.slice (some ⟨b', o' + 64 * k, none⟩) 64 (cap - 64 * k)) 64 (bytesV (((pad l).drop (64 * k)).take 64)) := by
      refine .row ?_ (by rw [bytesV_length, List.length_take, List.length_drop]; omega) (by omega)
      rw [← bytesV_take, ← bytesV_drop]
      exact ((hr.extE X6).drop _).take _
    refine Asy.val rfl rfl rfl rfl (fun w' X' => OpE.call rfl (rblock_ok (run init8 (pad l) k) (((pad l).drop (64 * k)).take 64) _ _ (by rw [List.length_take, List.length_drop]; omega) (sl.extE X'))) ?_
    refine Asy.tail (by kernel_rfl) ?_
    intro w7 X7
    simp only [satsAll]
    have Y7 := X6.trans X7
    have e8 : run init8 (pad l) (k + 1) = block (run init8 (pad l) k) (((pad l).drop (64 * k)).take 64) := rfl
    rw [← e8]
    refine RunL.store (v := .agg (vals (run init8 (pad l) (k + 1)).l).toArray) Tryd.tOk rfl rfl rfl rfl rfl (V5.ext Y7 id) rfl rfl fun w8 t8 => ?_
    have X8 : Ext w w8 := (X5.trans Y7).write t8.ext (by intro i hi hlt; subst hi; omega)
    have D8 := (D5.ext Y7 id).ext t8.ext (by omega)
    have V8 : Blk w8 B3 (vals (run init8 (pad l) (k + 1)).l) 170 := t8.at_
    have O8 := ownsRow_ext (ownsRow_ext O5 Y7 fun _ _ h => h) t8.ext (by intro j hj e; have := ownsRow_ge O5 hj; omega)
    repeat (first | refine RunL.pureI Tryd.tOk rfl rfl rfl (by (first | exact wr_i64 (by omega) (by omega) | exact wm_i64 (by omega) | exact wq_i64 (by omega) (by omega) (by omega) | rfl)) ?_ | refine RunE.region ?_ | refine RunL.nil ?_ | refine RunE.inBlock ?_)
    refine RunE.weaken (by
      refine Sub.cons rfl (Sub.cons rfl (Sub.cons rfl (Sub.cons ?_ (Sub.nil _))))
      rw [show ((64 * (k + 1) : Nat) : Int) = ((64 * k : Nat) : Int) + 64 by omega]; rfl) (again (k + 1) _ (by omega) ⟨by omega, X8, D8, V8, O8⟩)
  · have hkn : k = (pad l).length / 64 := by omega
    clear again
    have hsha : sha l = dig (run init8 (pad l) k) := by rw [sha, hkn]
    rw [hsha]
    generalize run init8 (pad l) k = S at V5 ⊢
    repeat (first | refine RunL.pure Tryd.tOk rfl rfl rfl ?_ | refine RunE.seq ?_ | refine RunE.region ?_ | refine RunE.exit rfl ?_)
    refine RunL.alloc Tryd.tOk rfl rfl rfl fun B6 w6 a6 => ?_
    have hB6 := a6.eq
    have y5 := X5.size
    have lt2 := D5.lt
    have lt3 := V5.lt
    refine RunL.store (v := .agg (bytesV (List.replicate 32 0)).toArray) Tryd.tOk rfl rfl rfl rfl rfl (cs := List.replicate 32 (.int .u8 0)) a6.at_ rfl rfl fun w7 t7 => ?_
    have X7 : Ext w w7 := (X5.trans a6.ext).write t7.ext (by intro i hi hlt; subst hi; omega)
    have D7 := (D5.ext a6.ext id).ext t7.ext (by omega)
    have V7 := (V5.ext a6.ext id).ext t7.ext (by omega)
    have G7 : Blk w7 B6 (bytesV ((dig S).take 0 ++ List.replicate (32 - 0) 0)) 130 := t7.at_
    clear a6 t7 X5 D5 V5 O5
    have hdl := dig_length S
    repeat (first | refine RunL.pureI Tryd.tOk rfl rfl rfl (by (first | exact wr_i64 (by omega) (by omega) | exact wm_i64 (by omega) | exact wq_i64 (by omega) (by omega) (by omega) | rfl)) ?_ | refine RunE.seq ?_ | refine RunE.region ?_ | refine RunL.nil ?_ | refine RunE.block ?_)
    refine RunE.loop (ι := Nat) (fun i => [(2, .pointer (some ⟨B2, 0, none⟩)), (3, .pointer (some ⟨B3, 0, none⟩)), (6, .pointer (some ⟨B6, 0, none⟩)), (7, .int .i64 (i : Int))])
      (fun i w' => i ≤ 32 ∧ Ext w w' ∧ Blk w' B2 (bytesV (List.replicate 32 0)) 130 ∧ Blk w' B3 (vals S.l) 170 ∧ Blk w' B6 (bytesV ((dig S).take i ++ List.replicate (32 - i) 0)) 130) (fun i => 32 - i) 0 (by repeat (first | exact Sub.nil _ | refine Sub.cons rfl ?_)) ⟨by omega, X7, D7, V7, G7⟩ ?_
    clear X7 D7 V7 G7
    rintro i u0 ⟨hi, X0, D0, V0, G0⟩ again
    repeat (first | refine RunL.pureI Tryd.tOk rfl rfl rfl (by (first | exact wr_i64 (by omega) (by omega) | exact wm_i64 (by omega) | exact wq_i64 (by omega) (by omega) (by omega) | rfl)) ?_ | refine RunL.pure Tryd.tOk rfl rfl rfl ?_ | refine RunE.seq ?_ | refine RunE.region ?_ | refine RunL.nil ?_)
    refine RunE.cond rfl (fun hlt32 => ?_) (fun hlt32 => ?_) <;> (first | replace hlt32 := of_decide_eq_true hlt32 | replace hlt32 := of_decide_eq_false hlt32 | replace hlt32 := beq_iff_eq.1 hlt32 | replace hlt32 := beq_eq_false_iff_ne.1 hlt32 | replace hlt32 := bne_iff_ne.1 hlt32 | replace hlt32 := bne_eq_false_iff_eq.1 hlt32 | skip)
    · have hi32 : i < 32 := by omega
      have h24 : (24 : Int) - 8 * ((i : Int) % 4) = ((24 - 8 * (i % 4) : Nat) : Int) := by omega
      repeat (first | refine RunL.pureI Tryd.tOk rfl rfl rfl (by (first | exact wr_i64 (by omega) (by omega) | exact wm_i64 (by omega) | exact wq_i64 (by omega) (by omega) (by omega) | rfl)) ?_ | refine RunE.seq ?_ | refine RunE.region ?_ | refine RunE.block ?_ | refine RunE.skip ?_)
      refine RunL.val rfl rfl rfl (OpV.indexA1 Tryd.tOk (i / 4) rfl rfl rfl (by omega) (by omega)) ?_
      refine RunL.val rfl rfl rfl (OpV.load1 (v := .int .u32 ((S.l.getD (i / 4) 0).toNat : Int)) Tryd.tOk rfl rfl rfl (by rw [Nat.zero_add]; exact V0.cell (vals_get' (by show i / 4 < 8; omega)))) ?_
      repeat (first | refine RunL.pureI Tryd.tOk rfl rfl rfl (by (first | exact (congrArg IntKind.i64.wrap h24).trans (wr_i64 (by omega) (by omega)) | exact u32_shr' _ _ (by omega) | exact u8_of_nat _ | exact wr_i64 (by omega) (by omega) | exact wm_i64 (by omega) | exact wq_i64 (by omega) (by omega) (by omega) | rfl)) ?_)
      refine RunL.val rfl rfl rfl (OpV.indexA1 Tryd.tOk i rfl rfl rfl rfl (by omega)) ?_
      have eG : (dig S).take i ++ List.replicate (32 - i) 0 = (dig S).take i ++ 0 :: List.replicate (32 - (i + 1)) 0 := by rw [show 32 - i = (32 - (i + 1)) + 1 by omega, List.replicate_succ]
      rw [eG] at G0
      refine RunL.store Tryd.tOk rfl rfl rfl rfl rfl G0 (by simp [bytesV_length, Value.cells, hdl]; omega) rfl fun u1 t1 => ?_
      have X1 : Ext w u1 := X0.write t1.ext (by intro i hi hlt; subst hi; omega)
      have D1 := D0.ext t1.ext (by omega)
      have V1 := V0.ext t1.ext (by omega)
      have G1 : Blk u1 B6 (bytesV ((dig S).take (i + 1) ++ List.replicate (32 - (i + 1)) 0)) 130 := by
        have := t1.at_
        have e := set_byte ((dig S).take i) (List.replicate (32 - (i + 1)) 0) 0 (UInt8.ofNat ((S.l.getD (i / 4) 0).toNat / 2 ^ (24 - 8 * (i % 4)))) i (by rw [List.length_take, hdl]; omega)
        unfold Blk
        rw [List.take_add_one, dig_get S i hi32, List.append_assoc]
        rw [Nat.zero_add] at this
        rw [this]
        exact congrArg (fun x : List Value => some (Obj.cells x.toArray 130 (0, 0))) e
      repeat (first | refine RunL.pureI Tryd.tOk rfl rfl rfl (by (first | exact wr_i64 (by omega) (by omega) | exact wm_i64 (by omega) | exact wq_i64 (by omega) (by omega) (by omega) | rfl)) ?_ | refine RunE.region ?_ | refine RunL.nil ?_ | refine RunE.inBlock ?_)
      exact RunE.weaken (by repeat (first | exact Sub.nil _ | refine Sub.cons rfl ?_)) (again (i + 1) _ (by omega) ⟨by omega, X1, D1, V1, G1⟩)
    · have hi32 : i = 32 := by omega
      subst hi32
      have Gf : Blk u0 B6 (bytesV (dig S)) 130 := by
        rw [List.take_of_length_le (by omega)] at G0; simpa using G0
      clear G0
      generalize dig S = D at Gf hdl ⊢
      repeat (first | refine RunE.seq ?_ | refine RunE.region ?_ | refine RunE.exit rfl ?_)
      refine RunL.val rfl rfl rfl (OpV.loadN (cs := bytesV D) Tryd.tOk rfl rfl rfl (by rw [bytesV_length]; exact hdl) Gf.row) ?_
      refine RunL.store (v := .agg (bytesV D).toArray) Tryd.tOk rfl rfl rfl rfl (by simp [Value.cells, bytesV_length, hdl]) D0 (by simp [Value.cells, bytesV_length, hdl]) (by simp [Value.cells, bytesV_plain]) fun u2 t2 => ?_
      have X2 : Ext w u2 := X0.write t2.ext (by intro i hi hlt; subst hi; omega)
      have D2 : Blk u2 B2 (bytesV D) 130 := by
        have := t2.at_
        rw [show (Value.agg (bytesV D).toArray).cells.toList = bytesV D from rfl, setAt_all _ _ (by simp [bytesV_length, hdl])] at this
        exact this
      repeat (first | refine RunL.nil ?_)
      exact RunE.retFn Tryd.func137 (.cell rfl (.agg Tryd.tOk rfl rfl (by rw [bytesV_length]; exact hdl) D2.row) .nil) ⟨rfl, X2⟩
end Go.Sg
end
section
/- The reference's tagged digest and hash. -/
namespace Go.Sg
open Go.Rn Go.Sha Go.Proofs
attribute [local irreducible] Go.Rn.RunL Go.Rn.RunE Go.Rn.Asy Go.Rn.OpV Go.Rn.OpE Go.Rn.ExecE

set_option maxRecDepth 4000 in
theorem rtagged_ok (tag : ByteArray) (v : Value) (l : List UInt8) (w : World) (ht : tag.size ≤ 1000000) (hv : IsSl w 1 v l.length (bytesV l)) (hl : l.length ≤ 900000) :
    Rets Tryd.prog 128 [.string tag, v] w fun r w' => r = .agg (bytesV (tagged tag.data.toList l)).toArray ∧ Ext w w' := by
  refine RetsX.of (nt := 15) Tryd.func128 (by kernel_rfl) rfl rfl (by simp) (by simp only [argEnv]; rfl) ?_
  repeat (first | refine RunE.seq ?_ | refine RunE.region ?_)
  refine RunL.alloc Tryd.tOk rfl rfl rfl fun B4 w1 a1 => ?_
  repeat (first | refine RunL.pure Tryd.tOk rfl rfl rfl ?_ | refine RunE.seq ?_ | refine RunE.region ?_ | refine RunL.nil ?_)
  refine RunL.ex rfl rfl rfl (OpE.s2b Tryd.tOk rfl rfl rfl rfl) ?_
  rintro _ w2 ⟨B, cap, rfl, X2, hB, hr, hc⟩
  have hlen : tag.data.toList.length = tag.size := rfl
  have Y2 := a1.ext.trans X2
  refine RunL.call rfl rfl rfl (rsum_ok _ tag.data.toList w2 (by rw [hlen]; exact .row hr (by rw [bytesV_length, hlen, Nat.mul_one]) hc) (by omega)) ?_
  rintro _ w3 ⟨rfl, X3⟩
  have Y3 := Y2.trans X3
  refine RunL.alloc Tryd.tOk rfl rfl rfl fun B5 w4 a4 => ?_
  have hsl := sha_length tag.data.toList
  unfold tagged
  generalize sha tag.data.toList = D at hsl ⊢
  refine RunL.store (v := .agg (bytesV D).toArray) Tryd.tOk rfl rfl rfl rfl (by simp [Value.cells, bytesV_length, hsl]) (cs := List.replicate 32 (.int .u8 0)) a4.at_ (by simp [Value.cells, bytesV_length, hsl]) (by simp [Value.cells, bytesV_plain]) fun w5 t5 => ?_
  have D5 : Blk w5 B5 (bytesV D) 130 := by
    have := t5.at_
    rw [show (Value.agg (bytesV D).toArray).cells.toList = bytesV D from rfl, setAt_all _ _ (by simp [bytesV_length, hsl])] at this
    exact this
  have hB4 := a1.eq
  have hB5 := a4.eq
  have hs1 := a1.size
  have hs4 := a4.size
  have z1 := X2.size
  have z2 := X3.size
  have X5 : Ext w w5 := (Y3.trans a4.ext).write t5.ext (by intro i hi hlt; subst hi; omega)
  have R4 : Blk w5 B4 (bytesV (List.replicate 32 0)) 130 := Blk.ext (Blk.ext (Blk.ext (w := w1) (cs := List.replicate 32 (.int .u8 0)) a1.at_ (X2.trans X3) id) a4.ext id) t5.ext (by omega)
  clear a1 a4 t5 Y3 Y2
  repeat (first | refine RunE.seq ?_ | refine RunE.region ?_ | refine RunL.nil ?_)
  refine RunL.ex rfl rfl rfl (OpE.buildSl Tryd.tOk [] rfl rfl rfl rfl rfl rfl (by simp)) ?_
  rintro _ w6 ⟨B6, rfl, a6⟩
  have O6 := ownsRow_added (n := 0) (sz := 1) a6 (Nat.le_refl _) rfl (by simp [maxLen])
  have X6 := a6.ext
  have D6 := D5.ext X6 id
  refine RunL.val rfl rfl rfl (OpV.sliceA0 (hi := 32) Tryd.tOk rfl rfl .none .none (by decide)) ?_
  have sl5 : IsSl w6 1 (.slice (some ⟨B5, 0, none⟩) 32 32) 32 (bytesV D) := .row D6.row (by rw [bytesV_length, hsl]) (by omega)
  refine RunL.ex rfl rfl rfl (OpE.append Tryd.tOk rfl rfl rfl rfl rfl rfl O6 sl5 (bytesV_plain _) (by decide) (by omega) (by have := a6.eq; have := a6.size; omega)) ?_
  rintro v7 w7 ⟨O7, E7⟩
  have hb6 := a6.eq
  have X7 : Ext w5 w7 := X6.write E7 (by intro i hi hlt; have := ownsRow_ge O6 hi; omega)
  repeat (first | refine RunL.pure Tryd.tOk rfl rfl rfl ?_)
  refine RunL.ex rfl rfl rfl (OpE.append Tryd.tOk rfl rfl rfl rfl rfl rfl O7 (hv.extE (X5.trans X7)) (bytesV_plain _) (by show _ * 1 ≤ _; omega) (by omega) (by have := X7.size; omega)) ?_
  rintro v8 w8 ⟨O8, E8⟩
  have X8 : Ext w5 w8 := X7.write E8 (by intro i hi hlt; have := ownsRow_ge O7 hi; omega)
  have O8' : IsSl w8 1 v8 (D ++ l).length (bytesV (D ++ l)) := by
    have := isSl_own O8
    rw [List.length_append, hsl, bytesV_append]
    simpa [cellsAll] using this
  refine RunL.call rfl rfl rfl (rsum_ok _ (D ++ l) w8 O8' (by simp [hsl]; omega)) ?_
  rintro _ w9 ⟨rfl, X9⟩
  have Y9 := X8.trans X9
  have R9 := R4.ext Y9 id
  have hsl2 := sha_length (D ++ l)
  generalize sha (D ++ l) = G at hsl2 ⊢
  refine RunL.store (v := .agg (bytesV G).toArray) Tryd.tOk rfl rfl rfl rfl (by simp [Value.cells, bytesV_length, hsl2]) R9 (by simp [Value.cells, bytesV_length, hsl2]) (by simp [Value.cells, bytesV_plain]) fun wa ta => ?_
  have Xa : Ext w wa := (X5.trans Y9).write ta.ext (by intro i hi hlt; subst hi; omega)
  have Da : Blk wa B4 (bytesV G) 130 := by
    have := ta.at_
    rw [show (Value.agg (bytesV G).toArray).cells.toList = bytesV G from rfl, setAt_all _ _ (by simp [bytesV_length, hsl2])] at this
    exact this
  repeat (first | refine RunL.nil ?_)
  exact RunE.retFn Tryd.func128 (.cell rfl (.agg Tryd.tOk rfl rfl (by rw [bytesV_length]; exact hsl2) Da.row) .nil) ⟨rfl, Xa⟩

theorem low7_get (d : List UInt8) (j : Nat) (hj : 0 < j) : (low7 d).getD j 0 = d.getD j 0 := by
  cases d with
  | nil => rfl
  | cons b r => cases j with
    | zero => omega
    | succ j => rfl
theorem hashN_bound (L : List UInt8) (hl : 8 ≤ L.length) (hb : hashN L 8 < 9223372036854775808) (i : Nat) (hi : i < 8) : hashN L i < 36028797018963968 := by
  have mono : ∀ k j, j + k ≤ 8 → hashN L j * 256 ^ k ≤ hashN L (j + k) := by
    intro k
    induction k with
    | zero => intro j _; simp
    | succ k ih =>
      intro j hj
      have h1 := ih j (by omega)
      have h2 := hashN_succ (d := L) (j := j + k) (by omega)
      rw [show j + (k + 1) = j + k + 1 by omega, h2, Nat.pow_succ, ← Nat.mul_assoc]
      omega
  have h1 := mono (8 - i) i (by omega)
  rw [show i + (8 - i) = 8 by omega] at h1
  have h2 : 256 ^ 1 ≤ 256 ^ (8 - i) := Nat.pow_le_pow_right (by decide) (by omega)
  have h3 := Nat.mul_le_mul_left (hashN L i) h2
  omega

set_option maxRecDepth 4000 in
theorem rhash_ok (tag : ByteArray) (v : Value) (l : List UInt8) (w : World) (ht : tag.size ≤ 1000000) (hv : IsSl w 1 v l.length (bytesV l)) (hl : l.length ≤ 900000) :
    Rets Tryd.prog 116 [.string tag, v] w fun r w' => r = .int .i64 (hashS tag.data.toList l) ∧ Ext w w' := by
  refine RetsX.of (nt := 28) Tryd.func116 (by kernel_rfl) rfl rfl (by simp) (by simp only [argEnv]; rfl) ?_
  repeat (first | refine RunL.pureI Tryd.tOk rfl rfl rfl (by (first | exact wr_i64 (by omega) (by omega) | exact wm_i64 (by omega) | exact wq_i64 (by omega) (by omega) (by omega) | rfl)) ?_ | refine RunL.pure Tryd.tOk rfl rfl rfl ?_ | refine RunE.seq ?_ | refine RunE.region ?_ | refine RunL.nil ?_)
  refine RunL.call rfl rfl rfl (rtagged_ok _ _ _ _ ht hv hl) ?_
  rintro _ w1 ⟨rfl, X1⟩
  refine RunL.alloc Tryd.tOk rfl rfl rfl fun B w2 a2 => ?_
  unfold hashS
  have hsl := tagged_length tag.data.toList l
  generalize tagged tag.data.toList l = D at hsl ⊢
  refine RunL.store (v := .agg (bytesV D).toArray) Tryd.tOk rfl rfl rfl rfl (by simp [Value.cells, bytesV_length, hsl]) (cs := List.replicate 32 (.int .u8 0)) a2.at_ (by simp [Value.cells, bytesV_length, hsl]) (by simp [Value.cells, bytesV_plain]) fun w3 t3 => ?_
  have D3 : Blk w3 B (bytesV D) 130 := by
    have := t3.at_
    rw [show (Value.agg (bytesV D).toArray).cells.toList = bytesV D from rfl, setAt_all _ _ (by simp [bytesV_length, hsl])] at this
    exact this
  have hB := a2.eq
  have z1 := X1.size
  have X3 : Ext w w3 := (X1.trans a2.ext).write t3.ext (by intro i hi hlt; subst hi; omega)
  clear a2 t3
  have hb64 : hashNum D < 9223372036854775808 := hashNum_lt _ hsl
  have hlen : (low7 D).length = 32 := by rw [low7_length]; exact hsl
  unfold hashNum at hb64 ⊢
  have hbd := hashN_bound (low7 D) (by omega) hb64
  repeat (first | refine RunL.val rfl rfl rfl (OpV.indexAK Tryd.tOk rfl rfl rfl rfl) ?_ | refine RunE.seq ?_ | refine RunE.region ?_ | refine RunL.nil ?_)
  refine RunL.val rfl rfl rfl (OpV.load1 (v := .int .u8 ((D.getD 0 0).toNat : Int)) Tryd.tOk rfl rfl rfl (D3.cell (bytesV_get (by omega)))) ?_
  have h1 : ((D.getD 0 0).toNat : Int) % 128 = (hashN (low7 D) 1 : Nat) := by
    match D, hsl with
    | [], h => simp at h
    | b :: r, _ =>
      have : (UInt8.ofNat (b.toNat % 128)).toNat = b.toNat % 128 := by rw [UInt8.toNat_ofNat']; omega
      simp [hashN, low7]; omega
  repeat (first | refine RunL.pureI Tryd.tOk rfl rfl rfl (by (first | exact i64_u8 _ | exact (wm_i64 (by omega)).trans h1 | exact wr_i64 (by omega) (by omega) | exact wm_i64 (by omega) | exact wq_i64 (by omega) (by omega) (by omega) | rfl)) ?_ | refine RunE.seq ?_ | refine RunE.region ?_ | refine RunL.nil ?_ | refine RunE.block ?_)
  refine RunE.loop (ι := Nat) (fun i => [(5, .pointer (some ⟨B, 0, none⟩)), (6, .int .i64 (hashN (low7 D) (i + 1) : Int)), (7, .int .i64 ((1 + i : Nat) : Int))])
    (fun i w' => w3 = w' ∧ i ≤ 7) (fun i => 7 - i) 0 (by repeat (first | exact Sub.nil _ | refine Sub.cons rfl ?_)) ⟨rfl, by omega⟩ ?_
  rintro i _ ⟨rfl, hi⟩ again
  repeat (first | refine RunL.pureI Tryd.tOk rfl rfl rfl (by (first | exact wr_i64 (by omega) (by omega) | exact wm_i64 (by omega) | exact wq_i64 (by omega) (by omega) (by omega) | rfl)) ?_ | refine RunL.pure Tryd.tOk rfl rfl rfl ?_ | refine RunE.seq ?_ | refine RunE.region ?_ | refine RunL.nil ?_)
  refine RunE.cond rfl (fun hlt => ?_) (fun hlt => ?_) <;> (first | replace hlt := of_decide_eq_true hlt | replace hlt := of_decide_eq_false hlt | replace hlt := beq_iff_eq.1 hlt | replace hlt := beq_eq_false_iff_ne.1 hlt | replace hlt := bne_iff_ne.1 hlt | replace hlt := bne_eq_false_iff_eq.1 hlt | skip)
  · have hi8 : i < 7 := by omega
    have hs := hashN_succ (d := low7 D) (j := i + 1) (by omega)
    have hcl := (D.getD (i + 1) 0).toNat_lt
    have hbi := hbd (i + 1) (by omega)
    rw [low7_get D _ (by omega)] at hs
    repeat (first | refine RunL.pureI Tryd.tOk rfl rfl rfl (by (first | exact i64_mul _ 256 (by omega) | exact wr_i64 (by omega) (by omega) | exact wm_i64 (by omega) | exact wq_i64 (by omega) (by omega) (by omega) | rfl)) ?_ | refine RunE.seq ?_ | refine RunE.region ?_ | refine RunE.block ?_ | refine RunE.skip ?_)
    refine RunL.val rfl rfl rfl (OpV.indexA1 Tryd.tOk (i + 1) rfl rfl rfl (by omega) (by omega)) ?_
    refine RunL.val rfl rfl rfl (OpV.load1 (v := .int .u8 ((D.getD (i + 1) 0).toNat : Int)) Tryd.tOk rfl rfl rfl (by rw [Nat.zero_add]; exact D3.cell (bytesV_get (by omega)))) ?_
    repeat (first | refine RunL.pureI Tryd.tOk rfl rfl rfl (by (first | exact i64_u8 _ | exact i64_add _ _ (by omega) | exact wr_i64 (by omega) (by omega) | exact wm_i64 (by omega) | exact wq_i64 (by omega) (by omega) (by omega) | rfl)) ?_ | refine RunE.region ?_ | refine RunL.nil ?_ | refine RunE.inBlock ?_)
    refine RunE.weaken (by
      refine Sub.cons rfl (Sub.cons ?_ (Sub.cons rfl (Sub.nil _)))
      rw [hs]; rfl) (again (i + 1) _ (by omega) ⟨rfl, by omega⟩)
  · have hi8 : i = 7 := by omega
    subst hi8
    repeat (first | refine RunL.pureI Tryd.tOk rfl rfl rfl (by (first | exact wr_i64 (by omega) (by omega) | exact wm_i64 (by omega) | exact wq_i64 (by omega) (by omega) (by omega) | rfl)) ?_ | refine RunE.seq ?_ | refine RunE.region ?_ | refine RunL.nil ?_ | refine RunE.exit rfl ?_)
    refine RunE.retFn Tryd.func116 (.tmp rfl .nil) ⟨?_, X3⟩
    simp only [oneOr]
    congr 1
end Go.Sg
end
section
/- What the listed variables hold. -/
namespace Go.Sg
open Go.Rn Go.Sha Go.Proofs
theorem start_of_laid {n : String} {W : World} {l : List (String × DataW Unit)} (hg : Tryd.prog.globalNamed n = some 0) (hp : (l.all fun x => x.2.handleName?.isNone) = true) (hm : (n, DataW.agg ((init8.l.map fun x => (x.toNat : Int)).map fun z => .lit (.int .u32 z))) ∈ l) (h : laidMetH Tryd.prog l W) : Row W 0 0 (vals init8.l) := by
  have := row_of_laid h hp hm hg (by kernel_rfl) Tryd.underlying170 Tryd.underlying169 (by kernel_rfl) rfl (by kernel_rfl)
  rw [List.map_map] at this
  exact this
theorem numbers_of_laid {n : String} {W : World} {l : List (String × DataW Unit)} (hg : Tryd.prog.globalNamed n = some 1) (hp : (l.all fun x => x.2.handleName?.isNone) = true) (hm : (n, DataW.agg ((kTab.map fun x => (x.toNat : Int)).map fun z => .lit (.int .u32 z))) ∈ l) (h : laidMetH Tryd.prog l W) : Row W 1 0 (vals kTab) := by
  have := row_of_laid h hp hm hg (by kernel_rfl) Tryd.underlying179 Tryd.underlying169 (by kernel_rfl) rfl (by kernel_rfl)
  rw [List.map_map] at this
  exact this
end Go.Sg
end
section
/- Two signatures are compared. -/
namespace Go.Rn
variable {P : Program} {w : World} {env : Env} {dst : Option Tmp} {ty : TypeId} {pos : String} {after : Array Edge} {guard : Option (Nat × Bool)}
/-- A struct of two integers. -/
structure TwoInts (P : Program) (t ti : TypeId) : Prop where
  und : P.underlying t = some (.struct (P.fieldsOf t))
  fields : (P.fieldsOf t).toList.map (fun f => ((f.name == "_"), f.type, f.offset)) = [(false, ti, 0), (false, ti, 1)]
  held : P.stoodInHeld t = false
  guard : P.eqGuardType P.depth t = false
  int : P.underlying ti = some (.int .i64)
  cells : cellsAgg P ti = some (1, false)
theorem TwoInts.run {t ti : TypeId} (h : TwoInts P t ti) (a b c d : Int) :
    (Op.equalIn 10000 t (.agg #[.int .i64 a, .int .i64 b]) (.agg #[.int .i64 c, .int .i64 d])).run P w = .ok (a == c && b == d) w := by
  rw [show (10000 : Nat) = 9999 + 1 from rfl, run_equalIn_struct w 9999 _ _ _ h.und h.held]
  have hf := h.fields
  generalize (P.fieldsOf t).toList = fs at hf
  obtain ⟨f0, f1, rfl⟩ : ∃ f0 f1, fs = [f0, f1] := by
    rcases fs with _ | ⟨f0, _ | ⟨f1, _ | ⟨f2, r⟩⟩⟩
    · simp at hf
    · simp at hf
    · exact ⟨f0, f1, rfl⟩
    · simp at hf
  simp only [List.map_cons, List.map_nil, List.cons.injEq, Prod.mk.injEq, and_true] at hf
  obtain ⟨⟨n0, t0, o0⟩, n1, t1, o1⟩ := hf
  have n0' : f0.name ≠ "_" := by simpa using n0
  have n1' : f1.name ≠ "_" := by simpa using n1
  have p : ∀ (off : Nat) (cs : Array Value) (v : Value), cs.toList[off]? = some v → (part ti cs off).run P w = .ok v w := fun off cs v hv => run_part h.cells cs off (by simpa using hv)
  have e : ∀ a b : Int, (Op.equalIn 9999 ti (.int .i64 a) (.int .i64 b)).run P w = .ok (a == b) w := fun a b => run_equalIn_int w 9998 ti .i64 .i64 a b h.int
  simp only [Op.eqFields, n0', n1', ne_eq, not_false_eq_true, if_true, t0, o0, t1, o1]
  rw [run_bind _ _ (p 0 _ (.int .i64 a) rfl), run_bind _ _ (p 0 _ (.int .i64 c) rfl), run_bind _ _ (e a c)]
  cases hac : (a == c) with
  | false => rfl
  | true =>
    simp only [Bool.not_true, Bool.false_eq_true, if_false]
    rw [run_bind _ _ (p 1 _ (.int .i64 b) rfl), run_bind _ _ (p 1 _ (.int .i64 d) rfl), run_bind _ _ (e b d)]
    cases hbd : (b == d) <;> rfl
theorem OpV.eqTwo {t ti u : TypeId} (h : TwoInts P t ti) {x y : Operand} {a b c d : Int} (hx : evO env x = some (.agg #[.int .i64 a, .int .i64 b])) (hy : evO env y = some (.agg #[.int .i64 c, .int .i64 d])) :
    OpV P env w ⟨dst, .binOp .eql t x y u, ty, pos, after, guard⟩ (.bool (a == c && b == d)) := .of_run fun ρ hρ => by
  refine ⟨_, by simp only [execOp, hρ _ _ hx, hρ _ _ hy]; rfl, ?_⟩
  rw [run_bind _ _ (run_eqGuard_agg w .eql t x y _ _ h.guard), run_eql_struct, h.run]; rfl
theorem OpV.neTwo {t ti u : TypeId} (h : TwoInts P t ti) {x y : Operand} {a b c d : Int} (hx : evO env x = some (.agg #[.int .i64 a, .int .i64 b])) (hy : evO env y = some (.agg #[.int .i64 c, .int .i64 d])) :
    OpV P env w ⟨dst, .binOp .neq t x y u, ty, pos, after, guard⟩ (.bool (!(a == c && b == d))) := .of_run fun ρ hρ => by
  refine ⟨_, by simp only [execOp, hρ _ _ hx, hρ _ _ hy]; rfl, ?_⟩
  rw [run_bind _ _ (run_eqGuard_agg w .neq t x y _ _ h.guard), run_neq_struct, h.run]; rfl
end Go.Rn
namespace Go.Sg
open Go.Rn Go.Proofs
theorem sigTwo : TwoInts Tryd.prog 66 3 := ⟨by kernel_rfl, by kernel_rfl, by kernel_rfl, by kernel_rfl, by kernel_rfl, by kernel_rfl⟩
end Go.Sg
end
section
/- Arguments that are structs. -/
namespace Go.Sg
open Go.Rn Go.RowKit Go.WideShapes Go.ChangeShapes
section
variable {H : Type} {enc : TypeId × Value → H} {P : Program} {w : World}
theorem open_struct {t : TypeId} {v : Value} {d : DataW H} {ps : List MemPlace} {held : Bool} {r : Reach} {b0 : Nat} (ht : P.underlying t = some (.struct (P.fieldsOf t))) (hval : Value.okWide P w r b0 t v)
    (h : DataW.Trod enc P w 0 (fun _ => true) held t v d ps) : ∃ fuel cs, v = .agg cs.toArray ∧ Shp P w fuel t cs := by
  unfold Value.okWide at hval
  rw [ht] at hval
  obtain ⟨cs, rfl, -, -⟩ := hval
  obtain ⟨fuel, hf⟩ := shp_of_Trod h
  exact ⟨fuel, cs.toList, by simp, hf⟩
theorem shp_two {t ti : TypeId} (h : TwoInts P t ti) (hc : P.cellsOf t = 2) (hi : P.cellsOf ti = 1) {fuel : Nat} {cs : List Value} (hs : Shp P w fuel t cs) :
    ∃ a b, cs = [.int .i64 a, .int .i64 b] ∧ (Lit.int .i64 a).wf = true ∧ (Lit.int .i64 b).wf = true := by
  obtain ⟨hl, f, hs⟩ := hs.struct h.und
  have hf := h.fields
  generalize (P.fieldsOf t).toList = fs at hf hs
  obtain ⟨f0, f1, rfl⟩ : ∃ f0 f1, fs = [f0, f1] := by
    rcases fs with _ | ⟨f0, _ | ⟨f1, _ | ⟨f2, r⟩⟩⟩
    · simp at hf
    · simp at hf
    · exact ⟨f0, f1, rfl⟩
    · simp at hf
  simp only [List.map_cons, List.map_nil, List.cons.injEq, Prod.mk.injEq, and_true] at hf
  obtain ⟨⟨-, t0, o0⟩, -, t1, o1⟩ := hf
  have h0 := hs f0 (by simp)
  have h1 := hs f1 (by simp)
  rw [t0, o0, hi] at h0
  rw [t1, o1, hi] at h1
  obtain ⟨a, e0, w0⟩ := h0.int h.int
  obtain ⟨b, e1, w1⟩ := h1.int h.int
  rw [hc] at hl
  match cs, hl with
  | [x, y], _ =>
    simp at e0 e1
    exact ⟨a, b, by rw [e0, e1], w0, w1⟩
theorem open_two {t ti : TypeId} (h : TwoInts P t ti) (hc : P.cellsOf t = 2) (hi : P.cellsOf ti = 1) {v : Value} {d : DataW H} {ps : List MemPlace} {held : Bool} {r : Reach} {b0 : Nat} (hval : Value.okWide P w r b0 t v)
    (h' : DataW.Trod enc P w 0 (fun _ => true) held t v d ps) : ∃ a b, v = .agg #[.int .i64 a, .int .i64 b] ∧ (Lit.int .i64 a).wf = true ∧ (Lit.int .i64 b).wf = true := by
  obtain ⟨fuel, cs, rfl, hs⟩ := open_struct h.und hval h'
  obtain ⟨a, b, rfl, h1, h2⟩ := shp_two h hc hi hs
  exact ⟨a, b, rfl, h1, h2⟩
end
end Go.Sg
end
section
/- Is it a number? (a step that fails at once where the value is none) -/
namespace Go.Rn
open Go.RowKit
section
variable {P : Program} {c : Ctx} {k : List Item} {Q : Out → Act → World → Prop} {w : World} {n : Nat} {ds : List Deferred} {env : Env}
variable {ops : Array Oper} {d : Tmp} {rest : List Oper}
theorem RunLN.chk {kd : IntKind} {m : Int} (h : RunLN P c n ds ops rest k Q env w d (.int kd m)) : RunLN P c n ds ops rest k Q env w d (.int kd m) := h
end
section
variable {P : Program} {c : Ctx} {k : List Item} {Q : Out → Act → World → Prop} {w0 : World} {n : Nat} {ds : List Deferred} {env : Env} {S : Nat → Prop} {sats pres : List (Nat × Pred)} {ph : Option (Option Nat × Pred)} {mu : List Bool} {l rest : List Oper} {d : Tmp}
theorem AsyN.chk {kd : IntKind} {m : Int} (h : AsyN P c n ds S w0 l k Q rest env sats ph mu pres d (.int kd m)) : AsyN P c n ds S w0 l k Q rest env sats ph mu pres d (.int kd m) := h
end
end Go.Rn
end
section
/- Deferred calls; panics that they catch. -/
namespace Go.Rn
open Go.RowKit
variable {P : Program} {c : Ctx} {k : List Item} {Q : Out → Act → World → Prop} {w : World} {n : Nat} {ds : List Deferred} {env : Env}
variable {ops : Array Oper} {d : Tmp} {op : Op} {ty : TypeId} {pos : String} {after : Array Edge} {guard : Option (Nat × Bool)} {rest : List Oper}

/-- One operation that may panic; the frame is known then. -/
theorem RunL.execS {o : Oper} (hw : wantE ops.toList env o = some true) (hd : isDefer o.op = false) (hdst : dstOk n o.dst = true)
    (h : ∀ ρ : Operand → Value, (∀ x v, evO env x = some v → ρ x = v) →
      ExecE P (execOp ρ o) w (fun v w' => RunL P c n ds ops rest k Q (env.put o.dst v) w') (fun ch w' => ∀ a, St n ds env a → Q (.panic ch) a w')) :
    RunL P c n ds ops (o :: rest) k Q env w := fun i hi a ha => by
  obtain ⟨h1, h2⟩ := drop_cons hi
  rw [List.length_cons, List.range'_succ]
  refine Run.op (by simpa using h1) (wantE_ok ha hw) hd ?_
  refine (h a.eval (fun x v hx => ha.ev hx)).mono (fun v w' hr => ?_) (fun ch w' hq => hq a ha)
  exact hr (i + 1) h2 _ (ha.putO (dstOk_lt hdst) v)
theorem RunL.exS {R : Value → World → Prop} {X : List PanicEntry → World → Prop} (hw : wantE ops.toList env ⟨some d, op, ty, pos, after, guard⟩ = some true) (hdst : Nat.blt d n = true) (hd : isDefer op = false)
    (h : OpE P env w ⟨some d, op, ty, pos, after, guard⟩ R X) (hX : ∀ ch w' a, X ch w' → St n ds env a → Q (.panic ch) a w') (h' : ∀ v w', R v w' → RunL P c n ds ops rest k Q ((d, v) :: env) w') :
    RunL P c n ds ops (⟨some d, op, ty, pos, after, guard⟩ :: rest) k Q env w :=
  .execS hw hd hdst fun ρ hρ => (h ρ hρ).mono h' fun ch w' hx a ha => hX ch w' a hx ha
theorem RunL.exSN {R : Value → World → Prop} {X : List PanicEntry → World → Prop} (hw : wantE ops.toList env ⟨none, op, ty, pos, after, guard⟩ = some true) (hd : isDefer op = false)
    (h : OpE P env w ⟨none, op, ty, pos, after, guard⟩ R X) (hX : ∀ ch w' a, X ch w' → St n ds env a → Q (.panic ch) a w') (h' : ∀ v w', R v w' → RunL P c n ds ops rest k Q env w') :
    RunL P c n ds ops (⟨none, op, ty, pos, after, guard⟩ :: rest) k Q env w :=
  .execS hw hd rfl fun ρ hρ => (h ρ hρ).mono h' fun ch w' hx a ha => hX ch w' a hx ha

/-- defer g(..). -/
def defOf (g : FuncId) (vs : List Value) : Deferred := { target := .fn (.func g) #[], args := vs.toArray }
theorem RunL.defer {g : FuncId} {args : Array Operand} {ts : Array TypeId} {vs : List Value} (hr : c.round = none)
    (hw : wantE ops.toList env ⟨none, .defer ⟨.value (.func g), args, ts⟩, ty, pos, after, guard⟩ = some true) (ha : evL env args.toList = some vs)
    (h : RunL P c n (defOf g vs :: ds) ops rest k Q env w) : RunL P c n ds ops (⟨none, .defer ⟨.value (.func g), args, ts⟩, ty, pos, after, guard⟩ :: rest) k Q env w := fun i hi a hst => by
  obtain ⟨h1, h2⟩ := drop_cons hi
  have ho : ops[i]? = some ⟨none, .defer ⟨.value (.func g), args, ts⟩, ty, pos, after, guard⟩ := by simpa using h1
  have hwa := wantE_ok hst hw
  rw [List.length_cons, List.range'_succ]
  have hrun : (execOp a.eval ⟨none, .defer ⟨.value (.func g), args, ts⟩, ty, pos, after, guard⟩).run P w = .ok (.defer (defOf g vs)) w := by
    have := evL_mapA (ρ := a.eval) (fun x v hx => hst.ev hx) ha
    simp [execOp, resolve, Deferred.ofValue, this, defOf, Act.eval, Pure.pure, Sem.run, bind, Sem.bind]
  refine Run.step (fun cs => .one (step_lone_go ?_)) (h (i + 1) h2 { a with defers := defOf g vs :: a.defers } ⟨hst.size, by rw [hst.defers], hst.get⟩)
  have he := c.fr_eval a (.inRegion ops (i :: List.range' (i + 1) rest.length) :: k)
  simp only [Ctx.fr] at he
  have hf := Ctx.fr_finish c { a with defers := defOf g vs :: a.defers } ops i (List.range' (i + 1) rest.length) k undef
  rw [ho] at hf
  simp only [Option.bind_some, Act.put, Ctx.fr] at hf
  rw [hr] at he hf
  simp [stepG, stepG.exec, stepG.oper, Frame.oper?, Ctx.fr, ho, hwa, hr]
  rw [he]
  simp only [stepG.apply, Sem.runT_eq, hrun, GStep.bare_after]
  exact congrArg (fun fr => GStep.go { frame := fr, callers := cs, status := .running, dying := none } w) hf

/-! ### The way out -/
theorem leaves_kit {fr : Frame} {fn : Func} {R : Value → World → Prop} {X : List PanicEntry → World → Prop} (hf : P.funcs[fr.fn]? = some fn) (hk : fr.kind = .normal)
    (h : Go.Leaves P fn fr.tmps (endP R X) fr.defers fr.mode w) : Leaves P fr R X w := fun cs => by
  obtain ⟨e, w', fr', hR, hc, h1, h2⟩ := leaves_steps fr.defers fr.mode w fr cs rfl rfl rfl hf hk h
  refine ⟨e, w', fr', hR, ?_, h1, h2⟩
  cases e with
  | returned v => exact hc
  | panicked ch => exact hc
  | outgrown => exact hR.elim

/-- What one deferred call does to a panic, and to memory. -/
def Mends (P : Program) (g : FuncId) (vs : List Value) (u : FrameMode) (w : World) (R : FrameMode → World → Prop) : Prop :=
  CallsD P g vs.toArray u w fun e u' w' => (∃ v, e = .returned v) ∧ R (settle u') w'
theorem leaves_one {fn : Func} {tmps : Array Value} {g : FuncId} {vs : List Value} {u : FrameMode} {R : Value → World → Prop} {X : List PanicEntry → World → Prop} (hg : Body P g) (hu : u ≠ .run)
    (h : Mends P g vs u w fun u' w' => u' = .returning ∧ ∃ v, (results fn tmps).run P w' = .ok v w' ∧ R v w') : Go.Leaves P fn tmps (endP R X) [defOf g vs] u w := by
  refine ⟨hu, .func g, #[], g, vs.toArray, rfl, ?_, fun c0 cs hc => ?_⟩
  · have := run_callFunc (P := P) (w := w) hg vs.toArray
    simpa [invoke, defOf] using this
  · obtain ⟨e, u', w', fr, ⟨⟨v, rfl⟩, h1, v', h2, h3⟩, h4⟩ := h c0 cs hc
    refine ⟨.returned v, u', w', fr, ?_, h4⟩
    simp only
    rw [h1]
    exact ⟨v', h2, h3⟩
theorem RunE.retD {g : FuncId} {fn : Func} {q : FuncId} {vs : List Value} {R : Value → World → Prop} {X : List PanicEntry → World → Prop} (hf : P.funcs[g]? = some fn) (hq : Body P q)
    (h : Mends P q vs .returning w fun u' w' => u' = .returning ∧ ∃ rs, ResOk P w' env fn.results.toList rs ∧ R (oneOr rs) w') : RunE P c n [defOf q vs] (.code .ret :: k) (FnQ P g R X) env w :=
  .ret fun a ha todo => leaves_kit hf rfl (by
    simp only
    rw [ha.defers]
    refine leaves_one hq (by simp) fun c0 cs hc => ?_
    obtain ⟨e, u', w', fr, ⟨h0, h1, rs, h2, h3⟩, h4⟩ := h c0 cs hc
    exact ⟨e, u', w', fr, ⟨h0, h1, _, h2.resultsRun ha, h3⟩, h4⟩)
theorem FnQ.panicD {g : FuncId} {fn : Func} {q : FuncId} {vs : List Value} {ch : List PanicEntry} {a : Act} {R : Value → World → Prop} {X : List PanicEntry → World → Prop} (hf : P.funcs[g]? = some fn) (hq : Body P q) (ha : St n [defOf q vs] env a)
    (h : Mends P q vs (.panicking ch) w fun u' w' => u' = .returning ∧ ∃ rs, ResOk P w' env fn.results.toList rs ∧ R (oneOr rs) w') : FnQ P g R X (.panic ch) a w :=
  fun todo => leaves_kit hf rfl (by
    simp only
    rw [ha.defers]
    refine leaves_one hq (by simp) fun c0 cs hc => ?_
    obtain ⟨e, u', w', fr, ⟨h0, h1, rs, h2, h3⟩, h4⟩ := h c0 cs hc
    exact ⟨e, u', w', fr, ⟨h0, h1, _, h2.resultsRun ha, h3⟩, h4⟩)
end Go.Rn
end
section
/- A deferred function that recovers. -/
namespace Go.Rn
open Go.RowKit
/-- The same as Run, with these callers; they may be other ones at the end. -/
def RunAt (P : Program) (c : Ctx) (todo : List Item) (cs : List Frame) (Q : Out → Act → List Frame → World → Prop) (a : Act) (w : World) : Prop :=
  ∃ o a' cs' w', Q o a' cs' w' ∧ Fin P (lone (c.fr a todo) cs w) c cs' o a' w'
variable {P : Program} {c : Ctx} {k : List Item} {cs : List Frame} {Q : Out → Act → List Frame → World → Prop} {a : Act} {w : World}
theorem RunAt.of_run {todo : List Item} (h : Run P c todo (fun o a w => Q o a cs w) a w) : RunAt P c todo cs Q a w :=
  let ⟨o, a', w', q, f⟩ := h cs; ⟨o, a', cs, w', q, f⟩
theorem RunAt.steps {todo todo' : List Item} {cs' : List Frame} {a' : Act} {w' : World} (hs : Steps P (lone (c.fr a todo) cs w) (lone (c.fr a' todo') cs' w')) (h : RunAt P c todo' cs' Q a' w') : RunAt P c todo cs Q a w :=
  let ⟨o, a1, cs1, w1, q, f⟩ := h; ⟨o, a1, cs1, w1, q, f.of_steps hs⟩
theorem RunAt.seq {x y : Code} (h : RunAt P c (.code x :: .code y :: k) cs Q a w) : RunAt P c (.code (.seq x y) :: k) cs Q a w :=
  .steps (.one (step_lone_go (by simp [stepG, stepG.exec, Ctx.fr]))) h
theorem RunAt.scope {b : Code} (h : RunAt P c (.code b :: .inScope b :: k) cs Q a w) : RunAt P c (.code (.scope b) :: k) cs Q a w :=
  .steps (.one (step_lone_go (by simp [stepG, stepG.exec, Ctx.fr]))) h
theorem RunAt.skip (h : RunAt P c k cs Q a w) : RunAt P c (.code .skip :: k) cs Q a w :=
  .steps (.one (step_lone_go (by simp [stepG, stepG.exec, Ctx.fr]))) h
theorem RunAt.region {id : Nat} {ops : Array Oper} (h : RunAt P c (.inRegion ops (List.range ops.size) :: k) cs Q a w) : RunAt P c (.code (.region id ops false) :: k) cs Q a w :=
  .steps (.one (step_lone_go (by simp [stepG, stepG.exec, Ctx.fr]))) h
theorem RunAt.nil {ops : Array Oper} (h : RunAt P c k cs Q a w) : RunAt P c (.inRegion ops [] :: k) cs Q a w :=
  .steps (.one (step_lone_go (by simp [stepG, stepG.exec, Ctx.fr]))) h
theorem RunAt.recov {ops : Array Oper} {i : Nat} {rest : List Nat} {d : Tmp} {ts : Array TypeId} {ty : TypeId} {pos : String} {after : Array Edge} {v : Value} {cs' : List Frame} (ho : ops[i]? = some ⟨some d, .call ⟨.builtin .recover, #[], ts⟩, ty, pos, after, none⟩) (hk : c.kind = .deferred) (hro : c.round = none)
    (hr : (recoverD cs = some (v, cs')) ∨ (recoverD cs = none ∧ v = .nilIface ∧ cs' = cs)) (h : RunAt P c (.inRegion ops rest :: k) cs' Q (a.put (some d) v) w) : RunAt P c (.inRegion ops (i :: rest) :: k) cs Q a w := by
  have hw : Region.wanted ⟨some d, .call ⟨.builtin .recover, #[], ts⟩, ty, pos, after, none⟩ (yielded ops a.tmps) = true := rfl
  have hg := stepG_oper (P := P) (c := c) (k := k) (w := w) (rest := rest) (cs := cs) ho hw rfl
  have hf := Ctx.fr_finish c a ops i rest k v
  rw [ho] at hf
  simp only [Option.bind_some] at hf
  have hrun : (execOp a.eval ⟨some d, .call ⟨.builtin .recover, #[], ts⟩, ty, pos, after, none⟩).run P w = .ok .recover w := by
    simp [execOp, resolve, invoke, builtin, Pure.pure, Sem.run, bind, Sem.bind]
  have htr := tryRecover_deferred (fr := c.fr a (.inRegion ops (i :: rest) :: k)) hk cs
  have hro' : (c.fr a (.inRegion ops (i :: rest) :: k)).roundOf = none := hro
  refine .steps (.one (step_lone_go ?_)) h
  rw [hg, ← hf]
  rcases hr with hr | ⟨hr, rfl, rfl⟩
  · simp [stepG.apply, hrun, htr, hr, hro']
  · simp [stepG.apply, hrun, htr, hr, hro']
theorem callsD_of {f : FuncId} {fn : Func} {code : Code} {args : List Value} {u : FrameMode} {R : Ending → FrameMode → World → Prop} (hf : P.funcs[f]? = some fn) (hb : fn.body = some code)
    (h : ∀ (c0 : Frame) (cs : List Frame), c0.mode = u → RunAt P ⟨f, .deferred, none⟩ [.code code] (c0 :: cs) (fun o a cs' w' => (o = .fall ∨ o = .ret) ∧ a.defers = [] ∧ ∃ u', cs' = { c0 with mode := u' } :: cs ∧ ∃ v, (results fn a.tmps).run P w' = .ok v w' ∧ R (.returned v) u' w')
      { tmps := args.toArray ++ Array.replicate (fn.ntmps - args.toArray.size) undef, defers := [] } w) : CallsD P f args.toArray u w R := by
  intro c0 cs hu
  obtain ⟨o, a', cs', w', ⟨ho, hd, u', rfl, v, hr, hR⟩, hfin⟩ := h c0 cs hu
  have henter : Frame.enter P f args.toArray .deferred = (⟨f, .deferred, none⟩ : Ctx).fr { tmps := args.toArray ++ Array.replicate (fn.ntmps - args.toArray.size) undef, defers := [] } [.code code] := by
    simp [Frame.enter, Ctx.fr, hf, hb]
  rw [← henter] at hfin
  have fin : ∀ todo, Steps P (lone (Frame.enter P f args.toArray .deferred) (c0 :: cs) w) (lone { fn := f, tmps := a'.tmps, todo, defers := a'.defers, mode := .returning, kind := .deferred } ({ c0 with mode := u' } :: cs) w') →
      ∃ e u' w' fr, R e u' w' ∧ Comes P (lone (Frame.enter P f args.toArray .deferred) (c0 :: cs) w) (lone fr ({ c0 with mode := u' } :: cs) w') e ∧ fr.kind = .deferred ∧ fr.going P w' e :=
    fun todo hs => ⟨.returned v, u', w', _, hR, hs, rfl, rfl, hd, fn, hf, hr⟩
  rcases ho with rfl | rfl
  · refine fin [] (Steps.trans hfin (.one (step_lone_go ?_)))
    simp [stepG, stepG.exec, Ctx.fr]
  · obtain ⟨kk, hs⟩ := hfin
    refine fin (.code .ret :: kk) (Steps.trans hs (.one (step_lone_go ?_)))
    simp [stepG, stepG.exec, Ctx.fr]
end Go.Rn
end
section
/- A function that panics; what goes through it; comparing with no interface value. -/
namespace Go.Rn
open Go.RowKit
variable {P : Program} {c : Ctx} {k : List Item} {Q : Out → Act → World → Prop} {w : World} {n : Nat} {ds : List Deferred} {env : Env}
variable {ops : Array Oper} {d : Tmp} {dst : Option Tmp} {op : Op} {ty : TypeId} {pos : String} {after : Array Edge} {guard : Option (Nat × Bool)} {rest : List Oper}
def panOf (t : TypeId) (v : Value) : List PanicEntry := [{ v := .iface t v, recovered := false }]
theorem OpE.panic {x : Operand} {t : TypeId} {v : Value} (hx : evO env x = some (.iface t v)) :
    OpE P env w ⟨dst, .panic x, ty, pos, after, guard⟩ (fun _ _ => False) fun ch w' => ch = panOf t v ∧ w' = w := fun ρ hρ => by
  unfold ExecE
  simp only [execOp, hρ _ _ hx]
  exact ⟨rfl, rfl⟩
theorem FnQ.panic0 {g : FuncId} {fn : Func} {ch : List PanicEntry} {a : Act} {R : Value → World → Prop} {X : List PanicEntry → World → Prop} (hf : P.funcs[g]? = some fn) (ha : St n [] env a) (h : X ch w) : FnQ P g R X (.panic ch) a w :=
  fun todo => leaves_kit hf rfl (by simp only; rw [ha.defers]; exact h)
/-- A call that may panic, in a function without deferred calls. -/
theorem RunL.callP {g h : FuncId} {fn : Func} {args : Array Operand} {ts : Array TypeId} {vs : List Value} {R R' : Value → World → Prop} {X X' : List PanicEntry → World → Prop} (hf : P.funcs[h]? = some fn)
    (hw : wantE ops.toList env ⟨some d, .call ⟨.value (.func g), args, ts⟩, ty, pos, after, guard⟩ = some true) (hdst : Nat.blt d n = true) (ha : evL env args.toList = some vs)
    (hc : RetsX P g vs w R X) (hX : ∀ ch w', X ch w' → X' ch w') (h' : ∀ v w', R v w' → RunL P c n [] ops rest k (FnQ P h R' X') ((d, v) :: env) w') :
    RunL P c n [] ops (⟨some d, .call ⟨.value (.func g), args, ts⟩, ty, pos, after, guard⟩ :: rest) k (FnQ P h R' X') env w :=
  .exS hw hdst rfl (OpE.call ha hc) (fun ch w' a hx hst => FnQ.panic0 hf hst (hX ch w' hx)) h'
theorem RunL.panicN {g : FuncId} {fn : Func} {x : Operand} {t : TypeId} {v : Value} {R : Value → World → Prop} {X : List PanicEntry → World → Prop} (hf : P.funcs[g]? = some fn)
    (hw : wantE ops.toList env ⟨dst, .panic x, ty, pos, after, guard⟩ = some true) (hdst : dstOk n dst = true) (hx : evO env x = some (.iface t v)) (h : X (panOf t v) w) :
    RunL P c n [] ops (⟨dst, .panic x, ty, pos, after, guard⟩ :: rest) k (FnQ P g R X) env w :=
  .execS hw rfl hdst fun ρ hρ => (OpE.panic (dst := dst) (ty := ty) (pos := pos) (after := after) (guard := guard) hx ρ hρ).mono (fun _ _ h => h.elim) (by rintro ch w' ⟨rfl, rfl⟩ a ha; exact FnQ.panic0 hf ha h)
theorem OpV.neNilI {t u : TypeId} {x y : Operand} {s : TypeId} {v : Value} {ms : Array (String × TypeId)} (ht : P.underlying t = some (.interface ms)) (hx : evO env x = some (.iface s v)) (hy : evO env y = some .nilIface) :
    OpV P env w ⟨dst, .binOp .neq t x y u, ty, pos, after, guard⟩ (.bool true) := .of_run fun ρ hρ => by
  refine ⟨_, by simp only [execOp, hρ _ _ hx, hρ _ _ hy]; rfl, ?_⟩
  rw [run_bind _ _ (run_eqGuard_plain (P := P) (w := w) .neq t x y (by intro c; simp) (by simp))]
  simp only [binOp]
  have : (Op.equal t (.iface s v) .nilIface).run P w = .ok false w := by
    unfold Op.equal; rw [show Op.maxDepth = 9999 + 1 from rfl, Op.equalIn, run_bind _ _ (run_underlying ht)]; rfl
  rw [run_bind _ _ this]; rfl
theorem OpV.neNilN {t u : TypeId} {x : Operand} {ms : Array (String × TypeId)} (ht : P.underlying t = some (.interface ms)) (hx : evO env x = some .nilIface) :
    OpV P env w ⟨dst, .binOp .neq t x (.const .nilIface) u, ty, pos, after, guard⟩ (.bool false) := .of_run fun ρ hρ => by
  refine ⟨_, by simp only [execOp, hρ _ _ hx, hρ (.const .nilIface) .nilIface rfl]; rfl, ?_⟩
  have hg : (eqGuard .neq t x (.const .nilIface) .nilIface .nilIface).run P w = .ok () w := by
    unfold eqGuard
    simp [Sem.run, Pure.pure]
  rw [run_bind _ _ hg]
  simp only [binOp]
  have : (Op.equal t .nilIface .nilIface).run P w = .ok true w := by
    unfold Op.equal; rw [show Op.maxDepth = 9999 + 1 from rfl, Op.equalIn, run_bind _ _ (run_underlying ht)]; rfl
  rw [run_bind _ _ this]; rfl
theorem argSt {nm nt : Nat} {args : List Value} (hn : nm = nt) (hle : args.length ≤ nt) : St nt [] (argEnv 0 args) { tmps := args.toArray ++ Array.replicate (nm - args.toArray.size) undef, defers := [] } := by
  subst hn
  refine ⟨by simp; omega, rfl, fun t v hv => ?_⟩
  obtain ⟨_, h2⟩ := argEnv_get _ _ _ _ hv
  have h2' : args[t]? = some v := by simpa using h2
  have hlt : t < args.length := by
    rcases Nat.lt_or_ge t args.length with h' | h'
    · exact h'
    · rw [List.getElem?_eq_none h'] at h2'; simp at h2'
  rw [Array.getElem?_append_left (by simpa using hlt)]
  simpa using h2'
theorem RunAt.body {n : Nat} {ds : List Deferred} {env : Env} {ops : Array Oper} {i : Nat} {rest : List Oper} {cs : List Frame} {Q : Out → Act → List Frame → World → Prop} {a : Act} (hst : St n ds env a) (hi : ops.toList.drop i = rest)
    (h : RunL P c n ds ops rest k (fun o a w => Q o a cs w) env w) : RunAt P c (.inRegion ops (List.range' i rest.length) :: k) cs Q a w :=
  .of_run (h i hi a hst)
end Go.Rn
end
section
/- The codec's numbers and values. -/
namespace Go.Rn
open Go.RowKit Go.Lib
variable {P : Program} {w : World} {env : Env} {dst : Option Tmp} {ty : TypeId} {pos : String} {after : Array Edge} {guard : Option (Nat × Bool)}
/-- append(v, s...) of a string's bytes. -/
theorem OpE.appendStr {T : Tab} (hT : T.Ok P) {t u e : TypeId} {ag : Bool} {s bb s' bb' s2 : Nat} {z z' : List Value} {a u1 a' u' a2 u2 : Bool} {x y : Operand} {v : Value} {n base : Nat} {xs : List Value} {str : ByteArray} (hz : (P.info? e).bind (·.zero) = some (.int .u8 0))
    (ht : T.get t = some ⟨.slc 1 ag e, s, bb, z, a, u1⟩) (hu : T.get u = some ⟨.str, s', bb', z', a', u'⟩) (he : T.get e = some ⟨.int .u8, s2, 1, [.int .u8 0], a2, u2⟩)
    (hx : evO env x = some v) (hy : evO env y = some (.string str)) (hv : w.ownsRow base e 1 v n xs) (hb : n + str.size ≤ 140737488355328) (hbase : base ≤ w.heap.size) :
    OpE P env w ⟨dst, .call ⟨.builtin .append, #[x, y], #[t, u]⟩, ty, pos, after, guard⟩
      (fun v' w' => w'.ownsRow base e 1 v' (n + str.size) (xs ++ bytesV str.data.toList) ∧ ExtB (fun k => v.ownBlock = some k) w w') fun _ _ => False := by
  obtain ⟨hut, hc⟩ := TD.of_slc (TI.tdof (hT.get _ _ ht)).symm
  have hus := TD.of_str (TI.tdof (hT.get _ _ hu)).symm
  have hue := TD.of_int (TI.tdof (hT.get _ _ he)).symm
  obtain ⟨j, dd, zv, hj, hd, hzv, h1, h2, h3, h4, h5, _⟩ := TI.inv (hT.get _ _ he)
  obtain ⟨ii, d', hii, hs', _, _⟩ := cellsAgg_inv hc
  rw [hii] at hj; cases hj
  have hz : j.zero = some (.int .u8 0) := by rw [hii] at hz; exact hz
  obtain ⟨v', w', hrun, hown, hgr, -⟩ := run_append_own_string (P := P) (w := w) base t u ty e j hut hus hii hz hs' h2.symm v n xs hv str (by simp only [maxLen]; omega) hb hbase
  exact .of_run (w' := w') (v := v') ⟨hown, .of_grown hgr (run_drawn _ hrun)⟩ fun ρ hρ => ⟨_, by simp only [execOp, resolve, List.map_toArray, List.map_cons, List.map_nil, hρ _ _ hx, hρ _ _ hy] <;> rfl, hrun⟩

/-- x.(T), ok: it is one. -/
theorem OpV.assertT {t u : TypeId} {x : Operand} {v : Value} {d : TypeDesc} (hx : evO env x = some (.iface u v)) (hu : P.underlying u = some d) (hd : isIfaceD d = false) :
    OpV P env w ⟨dst, .typeAssert x t u true, ty, pos, after, guard⟩ (.tuple #[v, .bool true]) := .of_run fun ρ hρ => by
  refine ⟨_, by simp only [execOp, hρ _ _ hx]; rfl, ?_⟩
  unfold Instr.typeAssert
  rw [run_bind _ _ (run_underlying hu)]
  cases d <;> first | (simp [isIfaceD] at hd; done) | simp [Pure.pure, Sem.run]
/-- x.(T), ok: it is none. -/
theorem OpV.assertF {t u u' : TypeId} {x : Operand} {v zv : Value} {d : TypeDesc} (hx : evO env x = some (.iface u' v)) (hne : (Nat.beq u' u) = false) (hu : P.underlying u = some d) (hd : isIfaceD d = false)
    (hz : (P.info? u).bind (·.zero) = some zv) :
    OpV P env w ⟨dst, .typeAssert x t u true, ty, pos, after, guard⟩ (.tuple #[zv, .bool false]) := .of_run fun ρ hρ => by
  refine ⟨_, by simp only [execOp, hρ _ _ hx]; rfl, ?_⟩
  obtain ⟨i, hi, hiz⟩ := Option.bind_eq_some_iff.1 hz
  have hne' : ¬ u' = u := fun e => by subst e; simp at hne
  have hzr : (zeroValue u).run P w = .ok zv w := by unfold zeroValue; rw [run_bind _ _ (run_typeInfo hi), hiz]; rfl
  unfold Instr.typeAssert
  rw [run_bind _ _ (run_underlying hu)]
  cases d <;> first | (simp [isIfaceD] at hd; done) | (simp only [hne', if_false, if_true]; rw [run_bind _ _ hzr]; rfl)
end Go.Rn
end
section
/- What the codec writes. Plain, but for where values lie. -/
namespace Go.Cod
open Go.Rn Go.Sha

/-- The digits of a number. -/
def num (u : Nat) : List UInt8 := if u < 128 then [UInt8.ofNat u] else UInt8.ofNat (u % 128 + 128) :: num (u / 128)
termination_by u
decreasing_by omega
theorem num_small {u : Nat} (h : u < 128) : num u = [UInt8.ofNat u] := by rw [num, if_pos h]
theorem num_big {u : Nat} (h : ¬ u < 128) : num u = UInt8.ofNat (u % 128 + 128) :: num (u / 128) := by rw [num, if_neg h]
theorem num_length : ∀ (k u : Nat), u < 128 ^ (k + 1) → (num u).length ≤ k + 1
  | 0, u, h => by rw [num_small (by simpa using h)]; simp
  | k + 1, u, h => by
    by_cases hu : u < 128
    · rw [num_small hu]; simp
    · rw [num_big hu, List.length_cons]
      have := num_length k (u / 128) (by rw [Nat.pow_succ] at h; omega)
      omega
theorem num_le (u : Nat) (h : u < 18446744073709551616) : (num u).length ≤ 10 := num_length 9 u (by omega)
/-- The unsigned form of an integer. -/
def zig (n : Int) : Nat := if 0 ≤ n then (2 * n).toNat else (-2 * n - 1).toNat
theorem zig_lt (n : Int) (h : -9223372036854775808 ≤ n ∧ n < 9223372036854775808) : zig n < 18446744073709551616 := by unfold zig; split <;> omega

inductive CV where
  | int (n : Int)
  | text (s : List UInt8)
  | list (l : List CV)

mutual
def CV.enc : CV → List UInt8
  | .int n => 1 :: num (zig n)
  | .text s => 2 :: (num s.length ++ s)
  | .list l => 3 :: (num l.length ++ encs l)
def encs : List CV → List UInt8
  | [] => []
  | c :: r => c.enc ++ encs r
end
mutual
def CV.depth : CV → Nat
  | .int _ => 0
  | .text _ => 0
  | .list l => depths l + 1
def depths : List CV → Nat
  | [] => 0
  | c :: r => max c.depth (depths r)
end
mutual
/-- A value's four cells, and what hangs on them. -/
def CV.In (w : World) : CV → List Value → Prop
  | .int n, cs => (-9223372036854775808 ≤ n ∧ n < 9223372036854775808) ∧ ∃ d, cs = [.int .i64 1, .int .i64 n, .string ⟨#[]⟩, .slice d 0 0]
  | .text s, cs => s.length ≤ 1000000000 ∧ ∃ d, cs = [.int .i64 2, .int .i64 0, .string (strOf s), .slice d 0 0]
  | .list l, cs => l.length ≤ 1000000 ∧ ∃ v rows, cs = [.int .i64 3, .int .i64 0, .string ⟨#[]⟩, v] ∧ IsSl w 4 v l.length rows.flatten ∧ Ins w l rows
def Ins (w : World) : List CV → List (List Value) → Prop
  | [], rows => rows = []
  | c :: l, rows => ∃ r rest, rows = r :: rest ∧ c.In w r ∧ Ins w l rest
end
theorem In.length {w : World} {c : CV} {cs : List Value} (h : c.In w cs) : cs.length = 4 := by
  cases c <;> simp only [CV.In] at h
  · obtain ⟨_, _, rfl⟩ := h; rfl
  · obtain ⟨_, _, rfl⟩ := h; rfl
  · obtain ⟨_, _, _, rfl, _⟩ := h; rfl

mutual
theorem In.ext {w w' : World} (e : Ext w w') : ∀ (c : CV) (cs : List Value), c.In w cs → c.In w' cs
  | .int _, _, h => by simpa only [CV.In] using h
  | .text _, _, h => by simpa only [CV.In] using h
  | .list l, cs, h => by
    simp only [CV.In] at h ⊢
    obtain ⟨h0, v, rows, h1, h2, h3⟩ := h
    exact ⟨h0, v, rows, h1, h2.extE e, Ins.ext e l rows h3⟩
theorem Ins.ext {w w' : World} (e : Ext w w') : ∀ (l : List CV) (rows : List (List Value)), Ins w l rows → Ins w' l rows
  | [], _, h => by simpa only [Ins] using h
  | c :: l, rows, h => by
    simp only [Ins] at h ⊢
    obtain ⟨r, rest, h1, h2, h3⟩ := h
    exact ⟨r, rest, h1, In.ext e c r h2, Ins.ext e l rest h3⟩
end
theorem Ins.get {w : World} : ∀ {l : List CV} {rows : List (List Value)}, Ins w l rows → rows.length = l.length ∧ ∀ (i : Nat) (c : CV), l[i]? = some c → ∃ r, rows[i]? = some r ∧ c.In w r
  | [], rows, h => by simp only [Ins] at h; subst h; exact ⟨rfl, fun i c h => by simp at h⟩
  | c :: l, rows, h => by
    simp only [Ins] at h
    obtain ⟨r, rest, rfl, h2, h3⟩ := h
    obtain ⟨h4, h5⟩ := Ins.get h3
    refine ⟨by simp [h4], fun i c' hi => ?_⟩
    cases i with
    | zero => simp at hi; subst hi; exact ⟨r, rfl, h2⟩
    | succ i => simp at hi; obtain ⟨r', h6, h7⟩ := h5 i c' hi; exact ⟨r', by simpa using h6, h7⟩
theorem Ins.lens {w : World} : ∀ {l : List CV} {rows : List (List Value)}, Ins w l rows → ∀ r ∈ rows, r.length = 4
  | [], rows, h => by simp only [Ins] at h; subst h; simp
  | c :: l, rows, h => by
    simp only [Ins] at h
    obtain ⟨r, rest, rfl, h2, h3⟩ := h
    intro x hx
    rcases List.mem_cons.1 hx with rfl | hx
    · exact In.length h2
    · exact Ins.lens h3 x hx
/-- The cells of one element. -/
theorem Ins.row {w : World} {l : List CV} {rows : List (List Value)} (h : Ins w l rows) {i : Nat} {r : List Value} (hr : rows[i]? = some r) {b o : Nat} (hb : Row w b o rows.flatten) : Row w b (o + i * 4) r := by
  have hl := h.lens
  refine hb.window fun j v hv => ?_
  have hj : j < 4 := by
    have := hl r (List.mem_of_getElem? hr)
    rcases Nat.lt_or_ge j 4 with h | h
    · exact h
    · rw [List.getElem?_eq_none (by omega)] at hv; simp at hv
  rw [flatten_get rows hl i j hj, hr]; exact hv
theorem encs_append : ∀ (a b : List CV), encs (a ++ b) = encs a ++ encs b
  | [], b => by simp [encs]
  | c :: a, b => by simp only [List.cons_append, encs, encs_append a b, List.append_assoc]
theorem encs_take {l : List CV} {i : Nat} {c : CV} (h : l[i]? = some c) : encs (l.take (i + 1)) = encs (l.take i) ++ c.enc := by
  rw [List.take_add_one, h, encs_append]; simp [encs]
theorem depths_append : ∀ (a b : List CV), depths (a ++ b) = max (depths a) (depths b)
  | [], b => by simp [depths]
  | c :: a, b => by simp only [List.cons_append, depths, depths_append a b]; omega
theorem depths_take {l : List CV} {i : Nat} {c : CV} (h : l[i]? = some c) : depths (l.take (i + 1)) = max (depths (l.take i)) c.depth := by
  rw [List.take_add_one, h, depths_append]; simp [depths]
theorem depth_le : ∀ {l : List CV} {c : CV}, c ∈ l → c.depth ≤ depths l
  | a :: l, c, h => by
    simp only [depths]
    rcases List.mem_cons.1 h with rfl | h
    · omega
    · have := depth_le h; omega
theorem encs_le {l : List CV} {c : CV} {i : Nat} (h : l[i]? = some c) : (encs (l.take i)).length + c.enc.length ≤ (encs l).length := by
  have h1 := encs_take h
  have h2 : encs l = encs (l.take (i + 1)) ++ encs (l.drop (i + 1)) := by rw [← encs_append, List.take_append_drop]
  rw [h2, h1]; simp
end Go.Cod
end
