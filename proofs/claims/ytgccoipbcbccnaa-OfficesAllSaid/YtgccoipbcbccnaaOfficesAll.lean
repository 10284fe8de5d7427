/- signatorylaw15.OfficesAll returns true for every input; no condition. -/
import Derived.Test.YtgccoipbcbccnaaOffO
import Derived.Test.YtgccoipbcbccnaaOffP
set_option linter.unusedSimpArgs false
set_option linter.unusedVariables false
set_option linter.unusedSectionVars false
namespace Go.Off
open Go.Best Go.Rn
theorem holdE_zero (l : List Ap) (o t time : Int) : holdE l o 0 t time = hsE l o t time := by
  unfold holdE hsE
  rw [show argP 0 = true from rfl, Bool.and_true]
theorem holdE_of {l : List Ap} {o t time : Int} (h : hsE l o t time = 0) {p : Nat} (hp : p < 64) : holdE l o (p : Int) t time = 0 := by
  unfold holdE hsE at *
  split at h
  · rename_i hc
    rw [if_pos hc]
    rw [show argP (p : Int) = true from decide_eq_true (by omega), Bool.and_true]
    exact h
  · rename_i hc; exact absurd h hc
theorem hsUpto_prefix (l : List Ap) (o t time : Int) (n : Nat) : ∀ m, n ≤ m → ∃ r, hsUpto l o t time m = hsUpto l o t time n ++ r
  | 0, h => by obtain rfl : n = 0 := by omega
               exact ⟨[], by simp⟩
  | m + 1, h => by
    by_cases e : n = m + 1
    · subst e; exact ⟨[], by simp⟩
    · obtain ⟨r, hr⟩ := hsUpto_prefix l o t time n m (by omega)
      exact ⟨r ++ _, by rw [hsUpto_succ, hr, List.append_assoc]⟩
end Go.Off
namespace Go.Sg
open Go.Rn Go.Proofs Go.Off Go.Rec Go.Best Go.RowKit
attribute [local irreducible] Go.Rn.RetsX Go.Rn.RunLN Go.Rn.AsyN Go.Rn.RunL Go.Rn.RunE Go.Rn.Asy Go.Rn.OpV Go.Rn.OpE Go.Rn.ExecE
set_option maxHeartbeats 4000000 in
theorem officesAll_walk (v : Value) (l : List Ap) (o t time : Int) (_ : -9223372036854775808 ≤ o ∧ o < 9223372036854775808) (_ : -9223372036854775808 ≤ t ∧ t < 9223372036854775808) (_ : -9223372036854775808 ≤ time ∧ time < 9223372036854775808)
    (W : World) (hl : l.length < 9223372036854775808) (hv : LA W v l) :
    Rets Try.prog 14 [v, .int .i64 o, .int .i64 t, .int .i64 time] W fun r w' => r = .bool true ∧ Ext W w' := by
  refine RetsX.of (nt := 100) Try.func14 (by kernel_rfl) rfl rfl (by simp) (by simp only [argEnv]; rfl) ?_
  have X := ExtB.refl (fun _ => False) W
  repeat' (first | with_reducible refine RunLN.boolT rfl ?_ | with_reducible refine RunLN.boolF rfl ?_ | refine RunLN.boolT (by assumption) ?_ | refine RunLN.boolF (by assumption) ?_ | (with_reducible refine RunLN.decT ?_ ?_; focus omega) | (with_reducible refine RunLN.decF ?_ ?_; focus omega) | (with_reducible refine RunLN.eqT ?_ ?_; focus omega) | (with_reducible refine RunLN.eqF ?_ ?_; focus omega) | (with_reducible refine RunLN.neT ?_ ?_; focus omega) | (with_reducible refine RunLN.neF ?_ ?_; focus omega) | refine RunLN.boolT (by exact rfl) ?_ | refine RunLN.boolF (by exact rfl) ?_ | refine RunLN.int (by (first | exact wr_i64 (by omega) (by omega) | exact wm_i64 (by omega) | exact wq_i64 (by omega) (by omega) (by omega) | rfl)) ?_ | (refine RunLN.boolC (fun h_ => ?_) (fun h_ => ?_) <;> (try simp only [decide_eq_true_eq, decide_eq_false_iff_not, beq_iff_eq, bne_iff_ne, ne_eq, Bool.not_eq_true, Bool.not_eq_false, beq_eq_false_iff_ne, bne_eq_false_iff_eq, Bool.not_eq_eq_eq_not, Bool.not_true, Bool.not_false, Bool.not_not, Int.not_lt, Int.not_le, gt_iff_lt, ge_iff_le, Decidable.not_not] at h_)) | refine RunLN.any ?_ | refine RunL.ev Try.tOk rfl rfl rfl ?_ | refine RunL.unwantedD rfl rfl ?_ | refine RunL.unwantedN rfl ?_ | refine RunL.evV rfl rfl rfl (OpV.indexS Try.tOk _ rfl rfl rfl rfl (by omega)) ?_ | refine RunE.condT rfl rfl ?_ | refine RunE.condF rfl rfl ?_ | refine RunE.seq ?_ | refine RunE.region ?_ | refine RunL.nil ?_ | refine RunE.block ?_ | refine RunE.inBlock ?_ | refine RunE.skip ?_ | refine RunE.exit rfl ?_ | refine RunE.scope ?_ | refine RunE.inScope ?_ | refine RunE.label ?_)
  refine RunL.call rfl rfl rfl (l15_sane_ok _) ?_
  rintro _ _ ⟨rfl, Xa_⟩
  replace X := X.trans Xa_
  clear Xa_
  repeat' (first | with_reducible refine RunLN.boolT rfl ?_ | with_reducible refine RunLN.boolF rfl ?_ | refine RunLN.boolT (by assumption) ?_ | refine RunLN.boolF (by assumption) ?_ | (with_reducible refine RunLN.decT ?_ ?_; focus omega) | (with_reducible refine RunLN.decF ?_ ?_; focus omega) | (with_reducible refine RunLN.eqT ?_ ?_; focus omega) | (with_reducible refine RunLN.eqF ?_ ?_; focus omega) | (with_reducible refine RunLN.neT ?_ ?_; focus omega) | (with_reducible refine RunLN.neF ?_ ?_; focus omega) | refine RunLN.boolT (by exact rfl) ?_ | refine RunLN.boolF (by exact rfl) ?_ | refine RunLN.int (by (first | exact wr_i64 (by omega) (by omega) | exact wm_i64 (by omega) | exact wq_i64 (by omega) (by omega) (by omega) | rfl)) ?_ | (refine RunLN.boolC (fun h_ => ?_) (fun h_ => ?_) <;> (try simp only [decide_eq_true_eq, decide_eq_false_iff_not, beq_iff_eq, bne_iff_ne, ne_eq, Bool.not_eq_true, Bool.not_eq_false, beq_eq_false_iff_ne, bne_eq_false_iff_eq, Bool.not_eq_eq_eq_not, Bool.not_true, Bool.not_false, Bool.not_not, Int.not_lt, Int.not_le, gt_iff_lt, ge_iff_le, Decidable.not_not] at h_)) | refine RunLN.any ?_ | refine RunL.ev Try.tOk rfl rfl rfl ?_ | refine RunL.unwantedD rfl rfl ?_ | refine RunL.unwantedN rfl ?_ | refine RunL.evV rfl rfl rfl (OpV.indexS Try.tOk _ rfl rfl rfl rfl (by omega)) ?_ | refine RunE.condT rfl rfl ?_ | refine RunE.condF rfl rfl ?_ | refine RunE.seq ?_ | refine RunE.region ?_ | refine RunL.nil ?_ | refine RunE.block ?_ | refine RunE.inBlock ?_ | refine RunE.skip ?_ | refine RunE.exit rfl ?_ | refine RunE.scope ?_ | refine RunE.inScope ?_ | refine RunE.label ?_)
  refine RunL.call rfl rfl rfl (few15_ok l v _ (hv.up X) hl) ?_
  rintro _ _ ⟨rfl, rfl⟩
  cases hf : fewA l with
  | false =>
    repeat' (first | with_reducible refine RunLN.boolT rfl ?_ | with_reducible refine RunLN.boolF rfl ?_ | refine RunLN.boolT (by assumption) ?_ | refine RunLN.boolF (by assumption) ?_ | (with_reducible refine RunLN.decT ?_ ?_; focus omega) | (with_reducible refine RunLN.decF ?_ ?_; focus omega) | (with_reducible refine RunLN.eqT ?_ ?_; focus omega) | (with_reducible refine RunLN.eqF ?_ ?_; focus omega) | (with_reducible refine RunLN.neT ?_ ?_; focus omega) | (with_reducible refine RunLN.neF ?_ ?_; focus omega) | refine RunLN.boolT (by exact rfl) ?_ | refine RunLN.boolF (by exact rfl) ?_ | refine RunLN.int (by (first | exact wr_i64 (by omega) (by omega) | exact wm_i64 (by omega) | exact wq_i64 (by omega) (by omega) (by omega) | rfl)) ?_ | (refine RunLN.boolC (fun h_ => ?_) (fun h_ => ?_) <;> (try simp only [decide_eq_true_eq, decide_eq_false_iff_not, beq_iff_eq, bne_iff_ne, ne_eq, Bool.not_eq_true, Bool.not_eq_false, beq_eq_false_iff_ne, bne_eq_false_iff_eq, Bool.not_eq_eq_eq_not, Bool.not_true, Bool.not_false, Bool.not_not, Int.not_lt, Int.not_le, gt_iff_lt, ge_iff_le, Decidable.not_not] at h_)) | refine RunLN.any ?_ | refine RunL.ev Try.tOk rfl rfl rfl ?_ | refine RunL.unwantedD rfl rfl ?_ | refine RunL.unwantedN rfl ?_ | refine RunL.evV rfl rfl rfl (OpV.indexS Try.tOk _ rfl rfl rfl rfl (by omega)) ?_ | refine RunE.condT rfl rfl ?_ | refine RunE.condF rfl rfl ?_ | refine RunE.seq ?_ | refine RunE.region ?_ | refine RunL.nil ?_ | refine RunE.block ?_ | refine RunE.inBlock ?_ | refine RunE.skip ?_ | refine RunE.exit rfl ?_ | refine RunE.scope ?_ | refine RunE.inScope ?_ | refine RunE.label ?_)
    exact RunE.retFn Try.func14 (.tmp rfl .nil) ⟨rfl, X⟩
  | true =>
    have c1 := fun w h => oholders_ok l v o t time w h hl
    repeat' (first | with_reducible refine RunLN.boolT rfl ?_ | with_reducible refine RunLN.boolF rfl ?_ | refine RunLN.boolT (by assumption) ?_ | refine RunLN.boolF (by assumption) ?_ | (with_reducible refine RunLN.decT ?_ ?_; focus omega) | (with_reducible refine RunLN.decF ?_ ?_; focus omega) | (with_reducible refine RunLN.eqT ?_ ?_; focus omega) | (with_reducible refine RunLN.eqF ?_ ?_; focus omega) | (with_reducible refine RunLN.neT ?_ ?_; focus omega) | (with_reducible refine RunLN.neF ?_ ?_; focus omega) | refine RunLN.boolT (by exact rfl) ?_ | refine RunLN.boolF (by exact rfl) ?_ | refine RunLN.int (by (first | exact wr_i64 (by omega) (by omega) | exact wm_i64 (by omega) | exact wq_i64 (by omega) (by omega) (by omega) | rfl)) ?_ | (refine RunLN.boolC (fun h_ => ?_) (fun h_ => ?_) <;> (try simp only [decide_eq_true_eq, decide_eq_false_iff_not, beq_iff_eq, bne_iff_ne, ne_eq, Bool.not_eq_true, Bool.not_eq_false, beq_eq_false_iff_ne, bne_eq_false_iff_eq, Bool.not_eq_eq_eq_not, Bool.not_true, Bool.not_false, Bool.not_not, Int.not_lt, Int.not_le, gt_iff_lt, ge_iff_le, Decidable.not_not] at h_)) | refine RunLN.any ?_ | refine RunL.ev Try.tOk rfl rfl rfl ?_ | refine RunL.unwantedD rfl rfl ?_ | refine RunL.unwantedN rfl ?_ | refine RunL.evV rfl rfl rfl (OpV.indexS Try.tOk _ rfl rfl rfl rfl (by omega)) ?_ | refine RunE.condT rfl rfl ?_ | refine RunE.condF rfl rfl ?_ | refine RunE.seq ?_ | refine RunE.region ?_ | refine RunL.nil ?_ | refine RunE.block ?_ | refine RunE.inBlock ?_ | refine RunE.skip ?_ | refine RunE.exit rfl ?_ | refine RunE.scope ?_ | refine RunE.inScope ?_ | refine RunE.label ?_)
    by_cases he : hsE l o t time = 0
    · have hL : hsL l o t time = hsUpto l o t time 64 := if_pos he
      have hlen := hsUpto_length l o t time 64
      rw [he, hL] at c1
      refine RunL.call rfl rfl rfl (c1 _ (hv.up X)) ?_
      rintro _ W1 ⟨⟨y1, rfl, hy1⟩, Xa_⟩
      have X0 := X.trans Xa_
      clear X Xa_ c1
      replace hv := hv.up X0
      have X := ExtB.refl (fun _ => False) W1
      repeat' (first | with_reducible refine RunLN.boolT rfl ?_ | with_reducible refine RunLN.boolF rfl ?_ | refine RunLN.boolT (by assumption) ?_ | refine RunLN.boolF (by assumption) ?_ | (with_reducible refine RunLN.decT ?_ ?_; focus omega) | (with_reducible refine RunLN.decF ?_ ?_; focus omega) | (with_reducible refine RunLN.eqT ?_ ?_; focus omega) | (with_reducible refine RunLN.eqF ?_ ?_; focus omega) | (with_reducible refine RunLN.neT ?_ ?_; focus omega) | (with_reducible refine RunLN.neF ?_ ?_; focus omega) | refine RunLN.boolT (by exact rfl) ?_ | refine RunLN.boolF (by exact rfl) ?_ | refine RunLN.int (by (first | exact wr_i64 (by omega) (by omega) | exact wm_i64 (by omega) | exact wq_i64 (by omega) (by omega) (by omega) | rfl)) ?_ | refine RunLN.any ?_ | refine RunL.ev Try.tOk rfl rfl rfl ?_ | refine RunL.unwantedD rfl rfl ?_ | refine RunL.unwantedN rfl ?_ | refine RunL.evV rfl rfl rfl (OpV.indexS Try.tOk _ rfl rfl rfl rfl (by omega)) ?_ | refine RunE.condT rfl rfl ?_ | refine RunE.condF rfl rfl ?_ | refine RunE.seq ?_ | refine RunE.region ?_ | refine RunL.nil ?_ | refine RunE.block ?_ | refine RunE.inBlock ?_ | refine RunE.skip ?_ | refine RunE.exit rfl ?_ | refine RunE.scope ?_ | refine RunE.inScope ?_ | refine RunE.label ?_)
      refine RunE.loop (ι := Nat) (fun s => [(0, v), (1, .int .i64 o), (2, .int .i64 t), (3, .int .i64 time), (9, y1), (15, .int .i64 ((hsUpto l o t time s).length : Int)), (16, .int .i64 (s : Int))])
        (fun s w' => s ≤ 64 ∧ Ext W1 w') (fun s => 64 - s) 0 (by repeat (first | exact Sub.nil _ | refine Sub.cons rfl ?_)) ⟨Nat.zero_le _, X⟩ ?_
      clear X
      rintro i w3 ⟨hi, X⟩ again
      have hli := hsUpto_length l o t time i
      by_cases hlt : i < 64
      · have c2 := fun w h => oholds_ok l v o (i : Int) t time w h hl
        have hans : holdV l o (i : Int) t time = answer (held (best l o (i : Int) t time)) := if_pos (holdE_of he hlt)
        rw [holdE_of he hlt, hans] at c2
        have hsuc := hsUpto_succ l o t time i
        obtain ⟨r, hr⟩ := hsUpto_prefix l o t time (i + 1) 64 (by omega)
        have next := fun w' a => again (i + 1) w' (by omega) ⟨by omega, a⟩
        rw [hsuc] at next hr
        clear again hsuc
        generalize hsUpto l o t time i = f at hr next hli ⊢
        generalize hsUpto l o t time 64 = hs at *
        repeat' (first | with_reducible refine RunLN.boolT rfl ?_ | with_reducible refine RunLN.boolF rfl ?_ | refine RunLN.boolT (by assumption) ?_ | refine RunLN.boolF (by assumption) ?_ | (with_reducible refine RunLN.decT ?_ ?_; focus omega) | (with_reducible refine RunLN.decF ?_ ?_; focus omega) | (with_reducible refine RunLN.eqT ?_ ?_; focus omega) | (with_reducible refine RunLN.eqF ?_ ?_; focus omega) | (with_reducible refine RunLN.neT ?_ ?_; focus omega) | (with_reducible refine RunLN.neF ?_ ?_; focus omega) | refine RunLN.boolT (by exact rfl) ?_ | refine RunLN.boolF (by exact rfl) ?_ | refine RunLN.int (by (first | exact wr_i64 (by omega) (by omega) | exact wm_i64 (by omega) | exact wq_i64 (by omega) (by omega) (by omega) | rfl)) ?_ | refine RunLN.any ?_ | refine RunL.ev Try.tOk rfl rfl rfl ?_ | refine RunL.unwantedD rfl rfl ?_ | refine RunL.unwantedN rfl ?_ | refine RunL.evV rfl rfl rfl (OpV.indexS Try.tOk _ rfl rfl rfl rfl (by omega)) ?_ | refine RunE.condT rfl rfl ?_ | refine RunE.condF rfl rfl ?_ | refine RunE.seq ?_ | refine RunE.region ?_ | refine RunL.nil ?_ | refine RunE.block ?_ | refine RunE.inBlock ?_ | refine RunE.skip ?_ | refine RunE.exit rfl ?_ | refine RunE.scope ?_ | refine RunE.inScope ?_ | refine RunE.label ?_)
        refine RunL.call rfl rfl rfl (c2 _ (hv.up X)) ?_
        rintro _ _ ⟨rfl, Xa_⟩
        replace X := X.trans Xa_
        clear Xa_
        cases hb : held (best l o (i : Int) t time) with
        | none =>
          rw [hb] at next
          simp only [Option.map_none, Option.toList_none, List.append_nil] at next
          simp only [answer]
          repeat' (first | with_reducible refine RunLN.boolT rfl ?_ | with_reducible refine RunLN.boolF rfl ?_ | refine RunLN.boolT (by assumption) ?_ | refine RunLN.boolF (by assumption) ?_ | (with_reducible refine RunLN.decT ?_ ?_; focus omega) | (with_reducible refine RunLN.decF ?_ ?_; focus omega) | (with_reducible refine RunLN.eqT ?_ ?_; focus omega) | (with_reducible refine RunLN.eqF ?_ ?_; focus omega) | (with_reducible refine RunLN.neT ?_ ?_; focus omega) | (with_reducible refine RunLN.neF ?_ ?_; focus omega) | refine RunLN.boolT (by exact rfl) ?_ | refine RunLN.boolF (by exact rfl) ?_ | refine RunLN.int (by (first | exact wr_i64 (by omega) (by omega) | exact wm_i64 (by omega) | exact wq_i64 (by omega) (by omega) (by omega) | rfl)) ?_ | (refine RunLN.boolC (fun h_ => ?_) (fun h_ => ?_) <;> (try simp only [decide_eq_true_eq, decide_eq_false_iff_not, beq_iff_eq, bne_iff_ne, ne_eq, Bool.not_eq_true, Bool.not_eq_false, beq_eq_false_iff_ne, bne_eq_false_iff_eq, Bool.not_eq_eq_eq_not, Bool.not_true, Bool.not_false, Bool.not_not, Int.not_lt, Int.not_le, gt_iff_lt, ge_iff_le, Decidable.not_not] at h_)) | refine RunLN.any ?_ | refine RunL.ev Try.tOk rfl rfl rfl ?_ | refine RunL.unwantedD rfl rfl ?_ | refine RunL.unwantedN rfl ?_ | refine RunL.evV rfl rfl rfl (OpV.indexS Try.tOk _ rfl rfl rfl rfl (by omega)) ?_ | refine RunE.condT rfl rfl ?_ | refine RunE.condF rfl rfl ?_ | refine RunE.seq ?_ | refine RunE.region ?_ | refine RunL.nil ?_ | refine RunE.block ?_ | refine RunE.inBlock ?_ | refine RunE.skip ?_ | refine RunE.exit rfl ?_ | refine RunE.scope ?_ | refine RunE.inScope ?_ | refine RunE.label ?_)
          exact RunE.weaken (by repeat (first | exact Sub.nil _ | refine Sub.cons rfl ?_)) (next _ X)
        | some x =>
          rw [hb] at next hr
          simp only [Option.map_some, Option.toList_some] at next hr
          have hx : hs[f.length]? = some ⟨(i : Int), x.weight⟩ := by rw [hr]; simp
          have hfl := (List.getElem?_eq_some_iff.1 hx).1
          obtain ⟨b, of, cap, rfl, hrow, hcap⟩ := isL_held hy1 hfl
          have hrx : Row W1 b (of + f.length * 2) [.int .i64 (i : Int), .int .i64 x.weight] := flat_row encH hrow hx
          have hlen2 : (((f ++ [(⟨(i : Int), x.weight⟩ : Hold)]).length : Nat) : Int) = (f.length : Int) + 1 := by simp
          rw [hlen2] at next
          simp only [answer]
          repeat' (first | with_reducible refine RunLN.boolT rfl ?_ | with_reducible refine RunLN.boolF rfl ?_ | refine RunLN.boolT (by assumption) ?_ | refine RunLN.boolF (by assumption) ?_ | (with_reducible refine RunLN.decT ?_ ?_; focus omega) | (with_reducible refine RunLN.decF ?_ ?_; focus omega) | (with_reducible refine RunLN.eqT ?_ ?_; focus omega) | (with_reducible refine RunLN.eqF ?_ ?_; focus omega) | (with_reducible refine RunLN.neT ?_ ?_; focus omega) | (with_reducible refine RunLN.neF ?_ ?_; focus omega) | refine RunLN.boolT (by exact rfl) ?_ | refine RunLN.boolF (by exact rfl) ?_ | refine RunLN.int (by (first | exact wr_i64 (by omega) (by omega) | exact wm_i64 (by omega) | exact wq_i64 (by omega) (by omega) (by omega) | rfl)) ?_ | (refine RunLN.boolC (fun h_ => ?_) (fun h_ => ?_) <;> (try simp only [decide_eq_true_eq, decide_eq_false_iff_not, beq_iff_eq, bne_iff_ne, ne_eq, Bool.not_eq_true, Bool.not_eq_false, beq_eq_false_iff_ne, bne_eq_false_iff_eq, Bool.not_eq_eq_eq_not, Bool.not_true, Bool.not_false, Bool.not_not, Int.not_lt, Int.not_le, gt_iff_lt, ge_iff_le, Decidable.not_not] at h_)) | refine RunLN.any ?_ | refine RunL.ev Try.tOk rfl rfl rfl ?_ | refine RunL.unwantedD rfl rfl ?_ | refine RunL.unwantedN rfl ?_ | refine RunL.evV rfl rfl rfl (OpV.lenSl Try.tOk rfl rfl hy1) ?_ | refine RunL.evV rfl rfl rfl (OpV.load1 Try.tOk rfl rfl rfl ((hrx.up X) _ _ rfl)) ?_ | refine RunL.evV rfl rfl rfl (OpV.indexS Try.tOk (f.length) rfl rfl rfl (by first | rfl | omega) (by omega)) ?_ | refine RunL.evV rfl rfl rfl (OpV.indexS Try.tOk _ rfl rfl rfl rfl (by omega)) ?_ | refine RunE.condT rfl rfl ?_ | refine RunE.condF rfl rfl ?_ | refine RunE.seq ?_ | refine RunE.region ?_ | refine RunL.nil ?_ | refine RunE.block ?_ | refine RunE.inBlock ?_ | refine RunE.skip ?_ | refine RunE.exit rfl ?_ | refine RunE.scope ?_ | refine RunE.inScope ?_ | refine RunE.label ?_)
          exact RunE.weaken (by repeat (first | exact Sub.nil _ | refine Sub.cons rfl ?_)) (next _ X)
      · obtain rfl : i = 64 := by omega
        repeat' (first | with_reducible refine RunLN.boolT rfl ?_ | with_reducible refine RunLN.boolF rfl ?_ | refine RunLN.boolT (by assumption) ?_ | refine RunLN.boolF (by assumption) ?_ | (with_reducible refine RunLN.decT ?_ ?_; focus omega) | (with_reducible refine RunLN.decF ?_ ?_; focus omega) | (with_reducible refine RunLN.eqT ?_ ?_; focus omega) | (with_reducible refine RunLN.eqF ?_ ?_; focus omega) | (with_reducible refine RunLN.neT ?_ ?_; focus omega) | (with_reducible refine RunLN.neF ?_ ?_; focus omega) | refine RunLN.boolT (by exact rfl) ?_ | refine RunLN.boolF (by exact rfl) ?_ | refine RunLN.int (by (first | exact wr_i64 (by omega) (by omega) | exact wm_i64 (by omega) | exact wq_i64 (by omega) (by omega) (by omega) | rfl)) ?_ | (refine RunLN.boolC (fun h_ => ?_) (fun h_ => ?_) <;> (try simp only [decide_eq_true_eq, decide_eq_false_iff_not, beq_iff_eq, bne_iff_ne, ne_eq, Bool.not_eq_true, Bool.not_eq_false, beq_eq_false_iff_ne, bne_eq_false_iff_eq, Bool.not_eq_eq_eq_not, Bool.not_true, Bool.not_false, Bool.not_not, Int.not_lt, Int.not_le, gt_iff_lt, ge_iff_le, Decidable.not_not] at h_)) | refine RunLN.any ?_ | refine RunL.ev Try.tOk rfl rfl rfl ?_ | refine RunL.unwantedD rfl rfl ?_ | refine RunL.unwantedN rfl ?_ | refine RunL.evV rfl rfl rfl (OpV.lenSl Try.tOk rfl rfl hy1) ?_ | refine RunL.evV rfl rfl rfl (OpV.indexS Try.tOk _ rfl rfl rfl rfl (by omega)) ?_ | refine RunE.condT rfl rfl ?_ | refine RunE.condF rfl rfl ?_ | refine RunE.seq ?_ | refine RunE.region ?_ | refine RunL.nil ?_ | refine RunE.block ?_ | refine RunE.inBlock ?_ | refine RunE.skip ?_ | refine RunE.exit rfl ?_ | refine RunE.scope ?_ | refine RunE.inScope ?_ | refine RunE.label ?_)
        exact RunE.retFn Try.func14 (.tmp rfl .nil) ⟨rfl, X0.trans X⟩
    · have hV : hsL l o t time = [] := if_neg he
      have hz := holdE_zero l o t time
      have c2 := fun w h => oholds_ok l v o 0 t time w h hl
      rw [hz] at c2
      rw [hV] at c1
      generalize hsE l o t time = e1 at *
      generalize holdV l o 0 t time = nv at c2
      obtain ⟨na, nb, nc⟩ := nv
      refine RunL.call rfl rfl rfl (c1 _ (hv.up X)) ?_
      rintro _ _ ⟨⟨y1, rfl, hy1⟩, Xa_⟩
      replace X := X.trans Xa_
      clear Xa_
      repeat' (first | with_reducible refine RunLN.boolT rfl ?_ | with_reducible refine RunLN.boolF rfl ?_ | refine RunLN.boolT (by assumption) ?_ | refine RunLN.boolF (by assumption) ?_ | (with_reducible refine RunLN.decT ?_ ?_; focus omega) | (with_reducible refine RunLN.decF ?_ ?_; focus omega) | (with_reducible refine RunLN.eqT ?_ ?_; focus omega) | (with_reducible refine RunLN.eqF ?_ ?_; focus omega) | (with_reducible refine RunLN.neT ?_ ?_; focus omega) | (with_reducible refine RunLN.neF ?_ ?_; focus omega) | refine RunLN.boolT (by exact rfl) ?_ | refine RunLN.boolF (by exact rfl) ?_ | refine RunLN.int (by (first | exact wr_i64 (by omega) (by omega) | exact wm_i64 (by omega) | exact wq_i64 (by omega) (by omega) (by omega) | rfl)) ?_ | (refine RunLN.boolC (fun h_ => ?_) (fun h_ => ?_) <;> (try simp only [decide_eq_true_eq, decide_eq_false_iff_not, beq_iff_eq, bne_iff_ne, ne_eq, Bool.not_eq_true, Bool.not_eq_false, beq_eq_false_iff_ne, bne_eq_false_iff_eq, Bool.not_eq_eq_eq_not, Bool.not_true, Bool.not_false, Bool.not_not, Int.not_lt, Int.not_le, gt_iff_lt, ge_iff_le, Decidable.not_not] at h_)) | refine RunLN.any ?_ | refine RunL.ev Try.tOk rfl rfl rfl ?_ | refine RunL.unwantedD rfl rfl ?_ | refine RunL.unwantedN rfl ?_ | refine RunL.evV rfl rfl rfl (OpV.indexS Try.tOk _ rfl rfl rfl rfl (by omega)) ?_ | refine RunE.condT rfl rfl ?_ | refine RunE.condF rfl rfl ?_ | refine RunE.seq ?_ | refine RunE.region ?_ | refine RunL.nil ?_ | refine RunE.block ?_ | refine RunE.inBlock ?_ | refine RunE.skip ?_ | refine RunE.exit rfl ?_ | refine RunE.scope ?_ | refine RunE.inScope ?_ | refine RunE.label ?_)
      refine RunL.call rfl rfl rfl (c2 _ (hv.up X)) ?_
      rintro _ _ ⟨rfl, Xa_⟩
      replace hy1 := hy1.up Xa_
      replace X := X.trans Xa_
      clear Xa_
      repeat' (first | with_reducible refine RunLN.boolT rfl ?_ | with_reducible refine RunLN.boolF rfl ?_ | refine RunLN.boolT (by assumption) ?_ | refine RunLN.boolF (by assumption) ?_ | (with_reducible refine RunLN.decT ?_ ?_; focus omega) | (with_reducible refine RunLN.decF ?_ ?_; focus omega) | (with_reducible refine RunLN.eqT ?_ ?_; focus omega) | (with_reducible refine RunLN.eqF ?_ ?_; focus omega) | (with_reducible refine RunLN.neT ?_ ?_; focus omega) | (with_reducible refine RunLN.neF ?_ ?_; focus omega) | refine RunLN.boolT (by exact rfl) ?_ | refine RunLN.boolF (by exact rfl) ?_ | refine RunLN.int (by (first | exact wr_i64 (by omega) (by omega) | exact wm_i64 (by omega) | exact wq_i64 (by omega) (by omega) (by omega) | rfl)) ?_ | refine RunLN.any ?_ | refine RunL.ev Try.tOk rfl rfl rfl ?_ | refine RunL.unwantedD rfl rfl ?_ | refine RunL.unwantedN rfl ?_ | refine RunL.evV rfl rfl rfl (OpV.lenSl Try.tOk rfl rfl hy1) ?_ | refine RunL.evV rfl rfl rfl (OpV.indexS Try.tOk _ rfl rfl rfl rfl (by omega)) ?_ | refine RunE.condT rfl rfl ?_ | refine RunE.condF rfl rfl ?_ | refine RunE.seq ?_ | refine RunE.region ?_ | refine RunL.nil ?_ | refine RunE.block ?_ | refine RunE.inBlock ?_ | refine RunE.skip ?_ | refine RunE.exit rfl ?_ | refine RunE.scope ?_ | refine RunE.inScope ?_ | refine RunE.label ?_)
      exact RunE.retFn Try.func14 (.tmp rfl .nil) ⟨rfl, X⟩
end Go.Sg
namespace Go.Proofs.Ytgccoipbcbccnaa
open Go.ChangeShapes Go.WideShapes Go.ChangeAt Go.RowKit Go.Sg
namespace officesAll
theorem own : ownKnob Try.prog.godebug = none := by kernel_rfl
theorem laidOut : laidOutB Try.prog = true := by kernel_rfl
set_option maxRecDepth 100000 in
theorem lifted (os : Os) (started : os.Started) (H : Type) (enc : TypeId × Value → H) :
    ReturnsInHanded {} Try.checked os 14 .any (Rows.officesAllSpec.pre6 enc Try.prog Try.f14 Rows.officesAllRow.domain false) (Rows.officesAllSpec.post enc Try.prog Try.f14 false true false false) := by
  refine returnsInHanded_of_change (C := Try.checked) own started (by kernel_rfl) Try.func14
    (ChangeSpec.witness6 (enc := enc) (C := Try.checked) false ⟨#[], #[.slice none 0 0, .int .i64 0, .int .i64 0, .int .i64 0], []⟩ 8 (by kernel_rfl) (by kernel_rfl) (by kernel_rfl) (by kernel_rfl)) ?_
  intro W base args ds gs before hval0 hW hcnd _
  have hval : ∀ (j : Nat) t v, Try.f14.params[j]? = some t → args[j]? = some v → Value.okWide Try.prog W .any base t v := hval0
  have hW' := hW
  obtain ⟨p, q, hA0, hV, rfl, hfz, hnd⟩ := hW
  have hA : DataW.TrodAll enc Try.prog W 0 (fun _ => true) true Try.f14.params.toList args.toList ds p := hA0
  rw [Try.params14] at hA hval
  obtain ⟨v0, vs0, d0, ds0, p0, q0, hargs, rfl, rfl, h0, r0⟩ := trodAll_cons hA
  obtain ⟨v1, vs1, d1, ds1, p1, q1, rfl, rfl, rfl, h1, r1⟩ := trodAll_cons r0
  obtain ⟨v2, vs2, d2, ds2, p2, q2, rfl, rfl, rfl, h2, r2⟩ := trodAll_cons r1
  obtain ⟨v3, vs3, d3, ds3, p3, q3, rfl, rfl, rfl, h3, r3⟩ := trodAll_cons r2
  obtain ⟨rfl, rfl, rfl⟩ := trodAll_nil r3
  obtain rfl : args = #[v0, v1, v2, v3] := by cases args; simp_all
  obtain ⟨l0, m0, s0⟩ := aps_open (hval 0 45 v0 rfl rfl) h0
  obtain ⟨a1, rfl, rfl, rfl, w1⟩ := open_int Try.underlying3 (hval 1 3 v1 rfl rfl) h1
  obtain ⟨a2, rfl, rfl, rfl, w2⟩ := open_int Try.underlying3 (hval 2 3 v2 rfl rfl) h2
  obtain ⟨a3, rfl, rfl, rfl, w3⟩ := open_int Try.underlying3 (hval 3 3 v3 rfl rfl) h3
  refine (Rets.calls (officesAll_walk v0 l0 a1 a2 a3 (i64_of_wf w1) (i64_of_wf w2) (i64_of_wf w3) W m0 s0)).mono fun e W' he => ?_
  obtain ⟨_, rfl, rfl, hx⟩ := he
  exact ⟨_, rfl, law_post (t := 4) laidOut (by kernel_rfl) (by kernel_rfl) (by kernel_rfl) rfl (fun ds h => by
    rcases ds with _ | ⟨_, _ | ⟨_, _ | ⟨_, _ | ⟨_, _ | ⟨_, _⟩⟩⟩⟩⟩ <;> first | rfl | (exact absurd h (by decide)) | (simp at h)) hW' hx⟩

theorem proved : Rows.OfficesAllSaid :=
  OpenClaim.holds_of_wide 14 Try.f14 rfl rfl rfl rfl rfl rfl rfl ⟨rfl, rfl, rfl, rfl, rfl⟩ rfl rfl rfl rfl rfl (by kernel_rfl) Try.func14 (by kernel_rfl)
    (of_decide_eq_true (by kernel_rfl)) (by unfold Func.isWrapper; first | (rw [if_pos (by decide +kernel)]; kernel_rfl) | (rw [if_neg (by decide +kernel)]; exact ⟨rfl, rfl⟩))
    (fun os started H enc _ => lifted os started H enc)
#print axioms proved
end officesAll
end Go.Proofs.Ytgccoipbcbccnaa
