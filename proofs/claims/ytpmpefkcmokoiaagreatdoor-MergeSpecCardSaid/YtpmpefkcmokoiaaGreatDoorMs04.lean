/- Parts of this project that the claims share: Sha2, Sha3, Sha4, Sha5, Sha6, Num. -/
import Derived.Test.YtpmpefkcmokoiaaGreatDoorMs03
import Derived.Test.YtpmpefkcmokoiaaGreatDoorMs02
import Derived.Test.YtpmpefkcmokoiaaGreatDoorMs01
set_option linter.unusedSimpArgs false
set_option linter.unusedVariables false
set_option linter.unusedSectionVars false
section
/- The program's SHA-256: a block. -/
set_option maxRecDepth 4000
namespace Go.Sha
open Go.Rn
theorem vals_append (A B : List W) : vals (A ++ B) = vals A ++ vals B := by simp [vals]
theorem vals_get {A : List W} {i : Nat} (B : List W) (h : i < A.length) : (vals (A ++ B))[i]? = some (.int .u32 ((A.getD i 0).toNat : Int)) := by
 rw [vals_append, List.getElem?_append_left (by rw [vals_length]; exact h)]
 simp [vals, List.getElem?_eq_getElem h, List.getD_eq_getElem?_getD]
theorem vals_get' {A : List W} {i : Nat} (h : i < A.length) : (vals A)[i]? = some (.int .u32 ((A.getD i 0).toNat : Int)) := by
 have := vals_get [] h; rwa [List.append_nil] at this
theorem set_next (A : List W) (n : Nat) (x : W) : (vals (A ++ List.replicate (n + 1) 0)).set A.length (.int .u32 (x.toNat : Int)) = vals ((A ++ [x]) ++ List.replicate n 0) := by
 simp [vals, List.replicate_succ, List.set_append_right]
/-- What is left of a sum that is under way. -/
def midw (s v : S8) (i : Nat) : List W := (s.add v).l.take i ++ s.l.drop i
theorem midw_set : ∀ (s v : S8) (i : Nat), i < 8 → (vals (midw s v i)).set i (.int .u32 (((s.l.getD i 0) + (v.l.getD i 0)).toNat : Int)) = vals (midw s v (i + 1)) ∧ (vals (midw s v i))[i]? = some (.int .u32 ((s.l.getD i 0).toNat : Int)) := by
 intro s v i hi
 match i, hi with
 | 0, _ | 1, _ | 2, _ | 3, _ | 4, _ | 5, _ | 6, _ | 7, _ => exact ⟨rfl, rfl⟩
theorem set_at {A : List W} {n i : Nat} (x : W) (h : A.length = i) : setAt (vals (A ++ List.replicate (n + 1) 0)) i [.int .u32 (x.toNat : Int)] = vals ((A ++ [x]) ++ List.replicate n 0) := by
 subst h; exact set_next A n x
end Go.Sha
namespace Go.Sg
open Go.Rn Go.Sha Go.Proofs
attribute [local irreducible] Go.Rn.RunL Go.Rn.RunE Go.Rn.Asy Go.Rn.OpV Go.Rn.OpE Go.Rn.ExecE

theorem rotated_ok (x : W) (a b c : Nat) (ha : 0 < a ∧ a < 32) (hb : 0 < b ∧ b < 32) (hc : 0 < c ∧ c < 32) (w : World) :
  Rets Tryz.prog 135 [.int .u32 (x.toNat : Int), .int .i64 (a : Int), .int .i64 (b : Int), .int .i64 (c : Int)] w fun v w' => v = .int .u32 ((S3 x a b c).toNat : Int) ∧ w = w' := by
 refine RetsX.of (nt := 23) Tryz.func135 (by kernel_rfl) rfl rfl (by simp) (by simp only [argEnv]; rfl) ?_
 repeat (first | refine RunL.pureI Tryz.tOk rfl rfl rfl (by (first | exact wr_i64 (by omega) (by omega) | rfl)) ?_ | refine ZzQ ?_ | refine ZzR ?_ | refine ZzN ?_)
 refine RunL.call rfl rfl rfl (rotl_ok _ a ha.1 ha.2 _) ?_
 rintro _ _ ⟨rfl, rfl⟩
 repeat (first | refine RunL.pureI Tryz.tOk rfl rfl rfl (by (first | exact wr_i64 (by omega) (by omega) | rfl)) ?_)
 refine RunL.call rfl rfl rfl (rotl_ok _ b hb.1 hb.2 _) ?_
 rintro _ _ ⟨rfl, rfl⟩
 repeat (first | refine RunL.pureI Tryz.tOk rfl rfl rfl (by (first | with_reducible exact Go.Rn.u32_xor _ _ | exact wr_i64 (by omega) (by omega) | rfl)) ?_)
 refine RunL.call rfl rfl rfl (rotl_ok _ c hc.1 hc.2 _) ?_
 rintro _ _ ⟨rfl, rfl⟩
 repeat (first | refine RunL.pureI Tryz.tOk rfl rfl rfl (by (first | with_reducible exact Go.Rn.u32_xor _ _ | rfl)) ?_ | refine ZzN ?_)
 exact RunE.retFn Tryz.func135 (.tmp rfl .nil) ⟨rfl, rfl⟩

set_option maxRecDepth 4000 in
set_option maxHeartbeats 2000000 in
theorem absorb_ok (s : S8) (l : List UInt8) (b bt b' o' cap : Nat) (w : World) (hb : Blk w b (vals s.l) bt) (hl : l.length = 64) (hr : Row w b' o' (bytesV l)) (hc : 64 ≤ cap) (hkT : Row w 1 0 (vals kTab)) (hb1 : b ≠ 1) :
  Rets Tryz.prog 108 [.pointer (some ⟨b, 0, none⟩), .slice (some ⟨b', o', none⟩) 64 cap] w fun v w' => v = .tuple #[] ∧ Blk w' b (vals (block s l).l) bt ∧ ExtB (· = b) w w' := by
 have hblt := hb.lt
 refine RetsX.of (nt := 144) Tryz.func108 (by kernel_rfl) rfl rfl (by simp) (by simp only [argEnv]; rfl) ?_
 repeat (first | refine ZzQ ?_ | refine ZzR ?_)
 refine RunL.alloc Tryz.tOk rfl rfl rfl fun B4 w1 a1 => ?_
 have hB4 := a1.eq
 have Z1 : Blk w1 B4 (vals (words l 0 ++ List.replicate (64 - 0) 0)) 169 := a1.at_
 repeat (first | refine RunL.pureI Tryz.tOk rfl rfl rfl (by (rfl)) ?_ | refine ZzQ ?_ | refine ZzR ?_ | refine ZzN ?_ | refine ZzB ?_)
 refine RunE.loop (ι := Nat) (fun j => [(0, .pointer (some ⟨b, 0, none⟩)), (1, .slice (some ⟨b', o', none⟩) 64 cap), (4, .pointer (some ⟨B4, 0, none⟩)), (14, .int .i64 (j : Int))])
  (fun j w' => j ≤ 16 ∧ Ext w w' ∧ Blk w' B4 (vals (words l j ++ List.replicate (64 - j) 0)) 169) (fun j => 16 - j) 0 (by repeat (first | exact Sub.nil _ | refine Sub.cons rfl ?_)) ⟨by omega, a1.ext, Z1⟩ ?_
 rintro j w2 ⟨hj, X2, Z2⟩ again
 repeat (first | refine RunL.pure Tryz.tOk rfl rfl rfl ?_ | refine ZzQ ?_ | refine ZzR ?_ | refine ZzN ?_)
 refine RunE.cond rfl (fun hlt => ?_) (fun hlt => ?_) <;> (first | replace hlt := of_decide_eq_true hlt | replace hlt := of_decide_eq_false hlt)
 ·repeat (first | refine RunL.pureI Tryz.tOk rfl rfl rfl (by (first | exact wr_i64 (by omega) (by omega) | rfl)) ?_ | refine RunL.pure Tryz.tOk rfl rfl rfl ?_ | refine ZzQ ?_ | refine ZzR ?_ | refine ZzN ?_ | refine ZzB ?_ | refine ZzK ?_)
  refine RunL.val rfl rfl rfl (OpV.slice1 (lo := 4 * j) (hi := 64) Tryz.tOk rfl rfl (.some rfl (by omega)) .none (by omega) (by omega) (by omega)) ?_
  have hrow : Row w2 b' (o' + 4 * j) (bytesV [l.getD (4 * j) 0, l.getD (4 * j + 1) 0, l.getD (4 * j + 2) 0, l.getD (4 * j + 3) 0]) := by
   refine (hr.extE X2).window fun i v hv => ?_
   have get : ∀ k, k < 64 → (bytesV l)[k]? = some (.int .u8 ((l.getD k 0).toNat : Int)) := by
    intro k hk
    simp [bytesV, List.getElem?_eq_getElem (show k < l.length by omega), List.getD_eq_getElem?_getD]
   match i, hv with
   | 0, hv => rw [get _ (by omega)]; exact hv
   | 1, hv => rw [get _ (by omega)]; exact hv
   | 2, hv => rw [get _ (by omega)]; exact hv
   | 3, hv => rw [get _ (by omega)]; exact hv
  refine RunL.call rfl rfl rfl (digestWord_ok _ _ _ _ _ _ _ _ _ (by omega) (by omega) hrow) ?_
  rintro _ _ ⟨rfl, rfl⟩
  refine RunL.val rfl rfl rfl (OpV.indexA1 Tryz.tOk j rfl rfl rfl rfl (by omega)) ?_
  refine RunL.store Tryz.tOk rfl rfl rfl rfl rfl Z2 (by simp [vals_length, words_length, Value.cells]; omega) rfl fun w3 t3 => ?_
  have X3 : Ext w w3 := X2.write t3.ext (by intro i hi hlt; subst hi; omega)
  have Z3 : Blk w3 B4 (vals (words l (j + 1) ++ List.replicate (64 - (j + 1)) 0)) 169 := by
   have := t3.at_
   have e := set_next (words l j) (64 - (j + 1)) (word (l.getD (4 * j) 0) (l.getD (4 * j + 1) 0) (l.getD (4 * j + 2) 0) (l.getD (4 * j + 3) 0))
   rw [words_length, show 64 - (j + 1) + 1 = 64 - j by omega] at e
   unfold Blk
   rw [words, ← e, this]
   rw [Nat.zero_add]
   rfl
  repeat (first | refine RunL.pureI Tryz.tOk rfl rfl rfl (by (first | exact wr_i64 (by omega) (by omega) | rfl)) ?_ | refine ZzR ?_ | refine ZzN ?_ | refine ZzI ?_)
  exact RunE.weaken (by repeat (first | exact Sub.nil _ | refine Sub.cons rfl ?_)) (again (j + 1) _ (by omega) ⟨by omega, X3, Z3⟩)
 ·have hj16 : j = 16 := by omega
  subst hj16
  clear again
  repeat (first | refine RunL.pureI Tryz.tOk rfl rfl rfl (by (rfl)) ?_ | refine ZzQ ?_ | refine ZzR ?_ | refine ZzN ?_ | refine ZzB ?_ | refine RunE.exit rfl ?_)
  refine RunE.loop (ι := Nat) (fun k => [(0, .pointer (some ⟨b, 0, none⟩)), (4, .pointer (some ⟨B4, 0, none⟩)), (6, .int .i64 ((16 + k : Nat) : Int))])
   (fun k w' => k ≤ 48 ∧ Ext w w' ∧ Blk w' B4 (vals (sched (words l 16) k ++ List.replicate (48 - k) 0)) 169) (fun k => 48 - k) 0 (by repeat (first | exact Sub.nil _ | refine Sub.cons rfl ?_)) ⟨by omega, X2, Z2⟩ ?_
  rintro k w4 ⟨hk48, X4, Z4⟩ again
  have hsl : (sched (words l 16) k).length = 16 + k := by rw [sched_length, words_length]
  repeat (first | refine RunL.pureI Tryz.tOk rfl rfl rfl (by (rfl)) ?_ | refine RunL.pure Tryz.tOk rfl rfl rfl ?_ | refine ZzQ ?_ | refine ZzR ?_ | refine ZzN ?_)
  refine RunE.cond rfl (fun hlt2 => ?_) (fun hlt2 => ?_) <;> (first | replace hlt2 := of_decide_eq_true hlt2 | replace hlt2 := of_decide_eq_false hlt2)
  ·repeat (first | refine ZzQ ?_ | refine ZzB ?_ | refine ZzK ?_)
   refine RunE.draw (fun _ => False) mix ?_
   intro w5 X5
   repeat (first | refine Asy.pureI Tryz.tOk rfl rfl rfl (by (first | exact wr_i64 (by omega) (by omega) | rfl)) ?_)
   refine Asy.v rfl rfl rfl rfl (fun _ _ => OpV.indexA1 Tryz.tOk (k + 1) rfl rfl rfl (by omega) (by omega)) ?_
   refine Asy.v rfl rfl rfl rfl (fun _ X' => OpV.load1 Tryz.tOk rfl rfl rfl (((Z4.ext X5 id).ext X' id).row (k + 1) _ (vals_get _ (by omega)))) ?_
   repeat (first | refine Asy.pureI Tryz.tOk rfl rfl rfl (by (first | exact wr_i64 (by omega) (by omega) | rfl)) ?_)
   refine Asy.v rfl rfl rfl rfl (fun _ _ => OpV.indexA1 Tryz.tOk (k + 14) rfl rfl rfl (by omega) (by omega)) ?_
   refine Asy.v rfl rfl rfl rfl (fun _ X' => OpV.load1 Tryz.tOk rfl rfl rfl (((Z4.ext X5 id).ext X' id).row (k + 14) _ (vals_get _ (by omega)))) ?_
   repeat (first | refine Asy.pureI Tryz.tOk rfl rfl rfl (by (rfl)) ?_)
   refine Asy.tail (by kernel_rfl) ?_
   intro w6 X6
   simp only [satsAll]
   repeat (first | refine ZzN ?_)
   have Y6 := X5.trans X6
   have Z6 := Z4.ext Y6 id
   have X7 := X4.trans Y6
   clear Z4 X4 X5 X6 Y6
   refine RunE.draw (fun _ => False) mix ?_
   intro w8 X8
   have Z8 := Z6.ext X8 id
   repeat (first | refine Asy.pureI Tryz.tOk rfl rfl rfl (by (first | exact wr_i64 (by omega) (by omega) | rfl)) ?_)
   refine Asy.v rfl rfl rfl rfl (fun _ _ => OpV.indexA1 Tryz.tOk k rfl rfl rfl (by omega) (by omega)) ?_
   refine Asy.v rfl rfl rfl rfl (fun _ X' => OpV.load1 Tryz.tOk rfl rfl rfl ((Z8.ext X' id).row k _ (vals_get _ (by omega)))) ?_
   repeat (first | refine Asy.pureI Tryz.tOk rfl rfl rfl (by (rfl)) ?_)
   refine Asy.val rfl rfl rfl rfl (fun _ _ => OpE.keep (OpE.call rfl (rotl_ok _ 7 (by decide) (by decide) _))) ?_
   repeat (first | refine Asy.pureI Tryz.tOk rfl rfl rfl (by (rfl)) ?_)
   refine Asy.val rfl rfl rfl rfl (fun _ _ => OpE.keep (OpE.call rfl (rotl_ok _ 18 (by decide) (by decide) _))) ?_
   repeat (first | refine Asy.pureI Tryz.tOk rfl rfl rfl (by (first | with_reducible exact Go.Rn.u32_xor _ _ | with_reducible exact u32_add _ _ | with_reducible exact u32_shr _ _ (by decide) | exact wr_i64 (by omega) (by omega) | rfl)) ?_)
   refine Asy.v rfl rfl rfl rfl (fun _ _ => OpV.indexA1 Tryz.tOk (k + 9) rfl rfl rfl (by omega) (by omega)) ?_
   refine Asy.v rfl rfl rfl rfl (fun _ X' => OpV.load1 Tryz.tOk rfl rfl rfl ((Z8.ext X' id).row (k + 9) _ (vals_get _ (by omega)))) ?_
   repeat (first | refine Asy.pureI Tryz.tOk rfl rfl rfl (by (first | with_reducible exact u32_add _ _ | rfl)) ?_)
   refine Asy.val rfl rfl rfl rfl (fun _ _ => OpE.keep (OpE.call rfl (rotl_ok _ 17 (by decide) (by decide) _))) ?_
   repeat (first | refine Asy.pureI Tryz.tOk rfl rfl rfl (by (rfl)) ?_)
   refine Asy.val rfl rfl rfl rfl (fun _ _ => OpE.keep (OpE.call rfl (rotl_ok _ 19 (by decide) (by decide) _))) ?_
   repeat (first | refine Asy.pureI Tryz.tOk rfl rfl rfl (by (first | with_reducible exact Go.Rn.u32_xor _ _ | with_reducible exact u32_add _ _ | with_reducible exact u32_shr _ _ (by decide) | rfl)) ?_)
   refine Asy.tail (by kernel_rfl) ?_
   intro w9 X9
   simp only [satsAll]
   refine RunL.val rfl rfl rfl (OpV.indexA1 Tryz.tOk (16 + k) rfl rfl rfl rfl (by omega)) ?_
   refine RunL.store Tryz.tOk rfl rfl rfl rfl rfl (Z8.ext X9 id) (by simp [vals_length, hsl, Value.cells]; omega) rfl fun w10 t10 => ?_
   have X10 : Ext w w10 := (X7.trans (X8.trans X9)).write t10.ext (by intro i hi hlt; subst hi; omega)
   have Z10 : Blk w10 B4 (vals (sched (words l 16) (k + 1) ++ List.replicate (48 - (k + 1)) 0)) 169 := by
    have := t10.at_
    have e := set_at (n := 48 - (k + 1)) (nextW (sched (words l 16) k) k) hsl
    rw [show 48 - (k + 1) + 1 = 48 - k by omega] at e
    unfold Blk
    rw [sched, ← e, this]
    rw [Nat.zero_add]
    rfl
   repeat (first | refine RunL.pureI Tryz.tOk rfl rfl rfl (by (first | exact wr_i64 (by omega) (by omega) | rfl)) ?_ | refine ZzR ?_ | refine ZzN ?_ | refine ZzI ?_)
   exact RunE.weaken (by repeat (first | exact Sub.nil _ | refine Sub.cons rfl ?_)) (again (k + 1) _ (by omega) ⟨by omega, X10, Z10⟩)
  ·have hk : k = 48 := by omega
   subst hk
   clear again
   repeat (first | refine RunL.pure Tryz.tOk rfl rfl rfl ?_ | refine ZzQ ?_ | refine ZzR ?_ | refine RunE.exit rfl ?_)
   have hb4 : Row w4 1 0 (vals kTab) := hkT.extE X4
   have Zb := hb.ext X4 id
   refine RunL.val rfl rfl rfl (OpV.loadN (cs := vals s.l) Tryz.tOk rfl rfl rfl rfl Zb.row) ?_
   skip
   refine RunL.alloc Tryz.tOk rfl rfl rfl fun B9 w5 a5 => ?_
   have hB9 := a5.eq
   have X5 := X4.trans a5.ext
   have h4 := Z4.lt
   have Z5 := Z4.ext a5.ext id
   refine RunL.store (v := .agg (vals s.l).toArray) Tryz.tOk rfl rfl rfl rfl rfl (cs := List.replicate 8 (.int .u32 0)) a5.at_ rfl rfl fun w6 t6 => ?_
   have X6 : Ext w w6 := X5.write t6.ext (by intro i hi hlt; subst hi; have := X4.size; omega)
   have Z6 := Z5.ext t6.ext (by omega)
   have V6 : Blk w6 B9 (vals s.l) 142 := t6.at_
   have hwB : w.heap.size ≤ B9 := by have := X4.size; omega
   clear a5 t6 Z5 X5 Z4 X4 Zb
   repeat (first | refine RunL.pureI Tryz.tOk rfl rfl rfl (by (rfl)) ?_ | refine ZzQ ?_ | refine ZzR ?_ | refine ZzN ?_ | refine ZzB ?_)
   generalize hws : sched (words l 16) 48 = ws
   rw [hws] at Z6 hsl
   refine RunE.loop (ι := Nat) (fun t => [(0, .pointer (some ⟨b, 0, none⟩)), (4, .pointer (some ⟨B4, 0, none⟩)), (9, .pointer (some ⟨B9, 0, none⟩)), (69, .int .i64 (t : Int))])
    (fun t w' => t ≤ 64 ∧ Ext w w' ∧ Blk w' B4 (vals (ws ++ [])) 169 ∧ Blk w' B9 (vals (rnds ws s t).l) 142) (fun t => 64 - t) 0 (by repeat (first | exact Sub.nil _ | refine Sub.cons rfl ?_)) ⟨by omega, X6, Z6, V6⟩ ?_
   rintro t w7 ⟨ht, X7, Z7, V7⟩ again
   repeat (first | refine RunL.pure Tryz.tOk rfl rfl rfl ?_ | refine ZzQ ?_ | refine ZzR ?_ | refine ZzN ?_)
   refine RunE.cond rfl (fun hlt3 => ?_) (fun hlt3 => ?_) <;> (first | replace hlt3 := of_decide_eq_true hlt3 | replace hlt3 := of_decide_eq_false hlt3)
   ·have ht' : t < kTab.length := by simp [kTab]; omega
    repeat (first | refine RunL.pureI Tryz.tOk rfl rfl rfl (by (rfl)) ?_ | refine ZzQ ?_ | refine ZzR ?_ | refine ZzN ?_ | refine ZzB ?_ | refine ZzK ?_)
    refine RunE.draw (fun _ => False) mix ?_
    intro w8 X8
    have Z8 := Z7.ext X8 id
    have V8 := V7.ext X8 id
    have K8 : Row w8 1 0 (vals kTab) := hkT.extE (X7.trans X8)
    repeat (first | refine Asy.v rfl rfl rfl rfl (fun _ X_ => OpV.indexAK Tryz.tOk rfl rfl rfl rfl) ?_ | refine Asy.v rfl rfl rfl rfl (fun _ X_ => OpV.load1 Tryz.tOk rfl rfl rfl (Blk.cell (V8.ext X_ id) rfl)) ?_)
    refine Asy.val rfl rfl rfl rfl (fun _ _ => OpE.keep (OpE.call rfl (rotated_ok _ 6 11 25 (by decide) (by decide) (by decide) _))) ?_
    repeat (first | refine Asy.v rfl rfl rfl rfl (fun _ X_ => OpV.xor32 rfl rfl) ?_ | refine Asy.v rfl rfl rfl rfl (fun _ X_ => OpV.and32 rfl rfl) ?_ | refine Asy.v rfl rfl rfl rfl (fun _ X_ => OpV.add32 rfl rfl) ?_ | refine Asy.pureI Tryz.tOk rfl rfl rfl (by (rfl)) ?_ | refine Asy.v rfl rfl rfl rfl (fun _ X_ => OpV.indexAK Tryz.tOk rfl rfl rfl rfl) ?_ | refine Asy.v rfl rfl rfl rfl (fun _ X_ => OpV.load1 Tryz.tOk rfl rfl rfl (Blk.cell (V8.ext X_ id) rfl)) ?_)
    refine Asy.v rfl rfl rfl rfl (fun _ _ => OpV.indexA1 Tryz.tOk t rfl rfl rfl rfl (by omega)) ?_
    refine Asy.v rfl rfl rfl rfl (fun _ X' => OpV.load1 Tryz.tOk rfl rfl rfl (K8.extE X' t _ (vals_get' ht'))) ?_
    repeat (first | refine Asy.v rfl rfl rfl rfl (fun _ X_ => OpV.add32 rfl rfl) ?_ | refine Asy.pureI Tryz.tOk rfl rfl rfl (by (rfl)) ?_)
    refine Asy.v rfl rfl rfl rfl (fun _ _ => OpV.indexA1 Tryz.tOk t rfl rfl rfl rfl (by omega)) ?_
    refine Asy.v rfl rfl rfl rfl (fun _ X' => OpV.load1 Tryz.tOk rfl rfl rfl ((Z8.ext X' id).row t _ (vals_get _ (by omega)))) ?_
    repeat (first | refine Asy.v rfl rfl rfl rfl (fun _ X_ => OpV.add32 rfl rfl) ?_ | refine Asy.pureI Tryz.tOk rfl rfl rfl (by (rfl)) ?_)
    refine Asy.tail (by kernel_rfl) ?_
    intro w9 X9
    simp only [satsAll]
    repeat (first | refine ZzQ ?_ | refine ZzN ?_)
    have Y9 := X8.trans X9
    have Z9 := Z7.ext Y9 id
    have V9 := V7.ext Y9 id
    have Q9 := X7.trans Y9
    clear Z7 V7 X7 Y9 X8 X9 Z8 V8 K8
    refine RunE.draw (fun _ => False) mix ?_
    intro u0 E0
    have U0 := V9.ext E0 id
    repeat (first | refine Asy.v rfl rfl rfl rfl (fun _ X_ => OpV.indexAK Tryz.tOk rfl rfl rfl rfl) ?_ | refine Asy.v rfl rfl rfl rfl (fun _ X_ => OpV.load1 Tryz.tOk rfl rfl rfl (Blk.cell (U0.ext X_ id) rfl)) ?_)
    refine Asy.val rfl rfl rfl rfl (fun _ _ => OpE.keep (OpE.call rfl (rotated_ok _ 2 13 22 (by decide) (by decide) (by decide) _))) ?_
    repeat (first | refine Asy.v rfl rfl rfl rfl (fun _ X_ => OpV.and32 rfl rfl) ?_ | refine Asy.v rfl rfl rfl rfl (fun _ X_ => OpV.or32 rfl rfl) ?_ | refine Asy.v rfl rfl rfl rfl (fun _ X_ => OpV.add32 rfl rfl) ?_ | refine Asy.pureI Tryz.tOk rfl rfl rfl (by (rfl)) ?_ | refine Asy.v rfl rfl rfl rfl (fun _ X_ => OpV.indexAK Tryz.tOk rfl rfl rfl rfl) ?_ | refine Asy.v rfl rfl rfl rfl (fun _ X_ => OpV.load1 Tryz.tOk rfl rfl rfl (Blk.cell (U0.ext X_ id) rfl)) ?_)
    refine Asy.tail (by kernel_rfl) ?_
    intro u1 E1
    simp only [satsAll]
    repeat (first | refine ZzQ ?_ | refine ZzN ?_)
    have F1 := E0.trans E1
    have Z1 := Z9.ext F1 id
    have V1 := V9.ext F1 id
    have Q1 := Q9.trans F1
    clear Z9 V9 Q9 E0 E1 F1 U0
    refine RunE.draw (fun _ => False) mix ?_
    intro u2 E2
    refine Asy.v rfl rfl rfl rfl (fun _ _ => OpV.sliceA1 (lo := 1) (hi := 8) Tryz.tOk rfl rfl (.some rfl rfl) .none (by decide) (by decide) (by decide)) ?_
    refine Asy.v rfl rfl rfl rfl (fun _ _ => OpV.sliceA0 (hi := 7) Tryz.tOk rfl rfl .none (.some rfl rfl) (by decide)) ?_
    refine Asy.tail (by kernel_rfl) ?_
    intro u3 E3
    simp only [satsAll]
    have F3 := E2.trans E3
    have Z3 := Z1.ext F3 id
    have V3 := V1.ext F3 id
    have Q3 := Q1.trans F3
    clear Z1 V1 Q1 E2 E3 F3
    refine RunL.ex rfl rfl rfl (OpE.copy (vs := (vals (rnds ws s t).l).take 7) Tryz.tOk rfl rfl rfl V3 (V3.row.take 7) rfl (Nat.le_of_ble_eq_true rfl) rfl) ?_
    rintro _ u4 ⟨rfl, t4⟩
    have Z4 := Z3.ext t4.ext (by omega)
    have V4 : Blk u4 B9 (vals [(rnds ws s t).a, (rnds ws s t).a, (rnds ws s t).b, (rnds ws s t).c, (rnds ws s t).d, (rnds ws s t).e, (rnds ws s t).f, (rnds ws s t).g]) 142 := t4.at_
    have Q4 : Ext w u4 := Q3.write t4.ext (by intro i hi hlt; subst hi; omega)
    clear Z3 V3 Q3 t4
    repeat (first | refine ZzQ ?_ | refine ZzR ?_ | refine ZzN ?_)
    repeat (first | refine RunL.val rfl rfl rfl (OpV.add32 rfl rfl) ?_ | refine RunL.pureI Tryz.tOk rfl rfl rfl (by (rfl)) ?_ | refine RunL.val rfl rfl rfl (OpV.indexAK Tryz.tOk rfl rfl rfl rfl) ?_ | refine RunL.val rfl rfl rfl (OpV.load1 Tryz.tOk rfl rfl rfl (Blk.cell V4 rfl)) ?_)
    refine RunL.store Tryz.tOk rfl rfl rfl rfl rfl V4 rfl rfl fun u5 t5 => ?_
    have V5 := t5.at_
    have Z5 := Z4.ext t5.ext (by omega)
    have Q5 : Ext w u5 := Q4.write t5.ext (by intro i hi hlt; subst hi; omega)
    clear V4 Z4 Q4 t5
    repeat (first | refine RunL.val rfl rfl rfl (OpV.add32 rfl rfl) ?_ | refine RunL.pureI Tryz.tOk rfl rfl rfl (by (rfl)) ?_ | refine RunL.val rfl rfl rfl (OpV.indexAK Tryz.tOk rfl rfl rfl rfl) ?_ | refine ZzR ?_ | refine ZzN ?_)
    refine RunL.store Tryz.tOk rfl rfl rfl rfl rfl V5 rfl rfl fun u6 t6 => ?_
    have V6 := t6.at_
    have Z6 := Z5.ext t6.ext (by omega)
    have Q6 : Ext w u6 := Q5.write t6.ext (by intro i hi hlt; subst hi; omega)
    clear V5 Z5 Q5 t6
    repeat (first | refine RunL.pureI Tryz.tOk rfl rfl rfl (by (first | exact wr_i64 (by omega) (by omega) | rfl)) ?_ | refine ZzR ?_ | refine ZzN ?_ | refine ZzI ?_)
    refine RunE.weaken (by repeat (first | exact Sub.nil _ | refine Sub.cons rfl ?_)) (again (t + 1) _ (by omega) ⟨by omega, Q6, Z6, ?_⟩)
    have e : vals (rnds ws s (t + 1)).l = vals (rnd (rnds ws s t) (kTab.getD t 0) (ws.getD t 0)).l := rfl
    rw [e]
    rw [ch_eq, maj_eq] at V6
    exact V6
   ·have ht64 : t = 64 := by omega
    subst ht64
    clear again
    repeat (first | refine RunL.pureI Tryz.tOk rfl rfl rfl (by (rfl)) ?_ | refine ZzQ ?_ | refine ZzR ?_ | refine ZzN ?_ | refine ZzB ?_ | refine RunE.exit rfl ?_)
    have hvl : (vals (rnds ws s 64).l).length = 8 := rfl
    have hbl : block s l = s.add (rnds ws s 64) := by rw [block, hws]
    generalize rnds ws s 64 = v at V7 hbl hvl
    refine RunE.loop (ι := Nat) (fun i => [(0, .pointer (some ⟨b, 0, none⟩)), (9, .pointer (some ⟨B9, 0, none⟩)), (129, .int .i64 (i : Int))])
     (fun i w' => i ≤ 8 ∧ ExtB (· = b) w w' ∧ Blk w' b (vals (midw s v i)) bt ∧ Blk w' B9 (vals v.l) 142) (fun i => 8 - i) 0 (by repeat (first | exact Sub.nil _ | refine Sub.cons rfl ?_)) ⟨by omega, .of_ext X7, hb.ext X7 id, V7⟩ ?_
    clear V7 X7 Z7
    rintro i u0 ⟨hi, E0, P0, V0⟩ again
    repeat (first | refine RunL.pure Tryz.tOk rfl rfl rfl ?_ | refine ZzQ ?_ | refine ZzR ?_ | refine ZzN ?_)
    refine RunE.cond rfl (fun hlt4 => ?_) (fun hlt4 => ?_) <;> (first | replace hlt4 := of_decide_eq_true hlt4 | replace hlt4 := of_decide_eq_false hlt4)
    ·repeat (first | refine RunL.pureI Tryz.tOk rfl rfl rfl (by (rfl)) ?_ | refine ZzQ ?_ | refine ZzR ?_ | refine ZzN ?_ | refine ZzB ?_ | refine ZzK ?_)
     refine RunE.draw (fun _ => False) mix ?_
     intro u1 E1
     have P1 := P0.ext E1 id
     have V1 := V0.ext E1 id
     repeat (first | refine Asy.pureI Tryz.tOk rfl rfl rfl (by (rfl)) ?_ | refine Asy.pure Tryz.tOk rfl rfl rfl ?_)
     refine Asy.v rfl rfl rfl rfl (fun _ _ => OpV.indexA1 Tryz.tOk i rfl rfl rfl rfl (by omega)) ?_
     refine Asy.v rfl rfl rfl rfl (fun _ X' => OpV.load1 Tryz.tOk rfl rfl rfl ((P1.ext X' id).row i _ (midw_set s v i (by omega)).2)) ?_
     repeat (first | refine Asy.pureI Tryz.tOk rfl rfl rfl (by (rfl)) ?_)
     refine Asy.v rfl rfl rfl rfl (fun _ _ => OpV.indexA1 Tryz.tOk i rfl rfl rfl rfl (by omega)) ?_
     refine Asy.v rfl rfl rfl rfl (fun _ X' => OpV.load1 Tryz.tOk rfl rfl rfl ((V1.ext X' id).row i _ (vals_get' (by show i < 8; omega)))) ?_
     repeat (first | refine Asy.v rfl rfl rfl rfl (fun _ X_ => OpV.add32 rfl rfl) ?_ | refine Asy.pure Tryz.tOk rfl rfl rfl ?_)
     refine Asy.tail (by kernel_rfl) ?_
     intro u2 E2
     simp only [satsAll]
     have P2 := P1.ext E2 id
     have V2 := V1.ext E2 id
     have Q2 := E0.trans (.of_ext (E1.trans E2))
     skip
     refine RunL.val rfl rfl rfl (OpV.indexA1 Tryz.tOk i rfl rfl rfl rfl (by omega)) ?_
     refine RunL.store Tryz.tOk rfl rfl rfl rfl rfl P2 (by simp [vals_length, midw, S8.l, S8.add, Value.cells]; omega) rfl fun u3 t3 => ?_
     have Q3 := Q2.write t3.ext (by intro i hi _; exact hi)
     have V3 := V2.ext t3.ext (by omega)
     have P3 : Blk u3 b (vals (midw s v (i + 1))) bt := by
      have := t3.at_
      rw [← (midw_set s v i (by omega)).1]
      rw [Nat.zero_add] at this
      exact this
     repeat (first | refine RunL.pureI Tryz.tOk rfl rfl rfl (by (first | exact wr_i64 (by omega) (by omega) | rfl)) ?_ | refine ZzR ?_ | refine ZzN ?_ | refine ZzI ?_)
     exact RunE.weaken (by repeat (first | exact Sub.nil _ | refine Sub.cons rfl ?_)) (again (i + 1) _ (by omega) ⟨by omega, Q3, P3, V3⟩)
    ·have hi8 : i = 8 := by omega
     subst hi8
     repeat (first | refine RunE.exit rfl ?_)
     refine RunE.fallFn Tryz.func108 .nil ⟨rfl, ?_, E0⟩
     rw [hbl]; exact P0
end Go.Sg
end
section
/- The program's SHA-256: a number's bytes, a text's digest. -/
set_option maxRecDepth 4000
namespace Go.Sg
open Go.Rn Go.Sha Go.Proofs
attribute [local irreducible] Go.Rn.RunL Go.Rn.RunE Go.Rn.Asy Go.Rn.OpV Go.Rn.OpE Go.Rn.ExecE

theorem put_ok (B o len cap n : Nat) (X Y Z : List UInt8) (t : TypeId) (w : World) (hX : X.length = o) (hY : Y.length = len) (h8 : len ≤ 8) (hb : Blk w B (bytesV (X ++ Y ++ Z)) t) :
  Rets Tryz.prog 109 [.slice (some ⟨B, o, none⟩) len cap, .int .u64 (n : Int)] w fun v w' => v = .tuple #[] ∧ Blk w' B (bytesV (X ++ be len n ++ Z)) t ∧ ExtB (· = B) w w' := by
 refine RetsX.of (nt := 23) Tryz.func109 (by kernel_rfl) rfl rfl (by simp) (by simp only [argEnv]; rfl) ?_
 repeat (first | refine RunL.pureI Tryz.tOk rfl rfl rfl (by (rfl)) ?_ | refine RunL.pure Tryz.tOk rfl rfl rfl ?_ | refine ZzQ ?_ | refine ZzR ?_ | refine ZzN ?_ | refine ZzB ?_)
 refine RunE.loop (ι := Nat) (fun i => [(0, .slice (some ⟨B, o, none⟩) len cap), (1, .int .u64 (n : Int)), (6, .int .i64 (len : Int)), (7, .int .i64 (i : Int))])
  (fun i w' => i ≤ len ∧ ExtB (· = B) w w' ∧ Blk w' B (bytesV (X ++ (Y.take (len - i) ++ be i n) ++ Z)) t) (fun i => len - i) 0 (by repeat (first | exact Sub.nil _ | refine Sub.cons rfl ?_))
  ⟨by omega, .refl _ _, by rw [Nat.sub_zero, ← hY, List.take_length]; simpa [be] using hb⟩ ?_
 rintro i w1 ⟨hi, E1, B1⟩ again
 repeat (first | refine RunL.pure Tryz.tOk rfl rfl rfl ?_ | refine ZzQ ?_ | refine ZzR ?_ | refine ZzN ?_)
 refine RunE.cond rfl (fun hlt => ?_) (fun hlt => ?_) <;> (first | replace hlt := of_decide_eq_true hlt | replace hlt := of_decide_eq_false hlt)
 ·have hlt' : i < len := by omega
  repeat (first | refine RunL.pureI Tryz.tOk rfl rfl rfl (by (first | exact i64_mul 8 _ (by omega) | exact u64_shr _ _ (by omega) | exact u8_of_nat _ | exact wr_i64 (by omega) (by omega) | rfl)) ?_ | refine RunL.pure Tryz.tOk rfl rfl rfl ?_ | refine ZzQ ?_ | refine ZzR ?_ | refine ZzN ?_ | refine ZzB ?_ | refine ZzK ?_)
  refine RunL.val rfl rfl rfl (OpV.indexS1 Tryz.tOk (len - 1 - i) rfl rfl rfl (by omega) (by omega)) ?_
  have e1 : X ++ (Y.take (len - i) ++ be i n) ++ Z = (X ++ Y.take (len - 1 - i)) ++ Y.getD (len - 1 - i) 0 :: (be i n ++ Z) := by
   have hy : len - 1 - i < Y.length := by omega
   have : Y.take (len - i) = Y.take (len - 1 - i) ++ [Y.getD (len - 1 - i) 0] := by
    rw [show len - i = (len - 1 - i) + 1 by omega, List.take_add_one, List.getElem?_eq_getElem hy, List.getD_eq_getElem?_getD, List.getElem?_eq_getElem hy]
    rfl
   rw [this]; simp
  rw [e1] at B1
  refine RunL.store Tryz.tOk rfl rfl rfl rfl rfl B1 (by simp [bytesV_length, Value.cells, be_length]; omega) rfl fun w2 t2 => ?_
  have E2 := E1.write t2.ext (by intro i hi _; exact hi)
  have B2 : Blk w2 B (bytesV (X ++ (Y.take (len - (i + 1)) ++ be (i + 1) n) ++ Z)) t := by
   have := t2.at_
   have e2 := set_byte (X ++ Y.take (len - 1 - i)) (be i n ++ Z) (Y.getD (len - 1 - i) 0) (UInt8.ofNat (n / 2 ^ (8 * i))) (o + (len - 1 - i)) (by rw [List.length_append, List.length_take, hX]; omega)
   have e3 : X ++ (Y.take (len - (i + 1)) ++ be (i + 1) n) ++ Z = (X ++ Y.take (len - 1 - i)) ++ UInt8.ofNat (n / 2 ^ (8 * i)) :: (be i n ++ Z) := by
    rw [show len - (i + 1) = len - 1 - i by omega]; simp [be]
   unfold Blk
   rw [e3, ← e2, this]
   rfl
  repeat (first | refine RunL.pureI Tryz.tOk rfl rfl rfl (by (first | exact wr_i64 (by omega) (by omega) | rfl)) ?_ | refine ZzR ?_ | refine ZzN ?_ | refine ZzI ?_)
  exact RunE.weaken (by repeat (first | exact Sub.nil _ | refine Sub.cons rfl ?_)) (again (i + 1) _ (by omega) ⟨by omega, E2, B2⟩)
 ·have hil : i = len := by omega
  subst hil
  repeat (first | refine RunE.exit rfl ?_)
  refine RunE.fallFn Tryz.func109 .nil ⟨rfl, ?_, E1⟩
  rw [Nat.sub_self] at B1
  simpa using B1

/-- A block, handed over as a slice. -/
theorem absorb_sl (s : S8) (l : List UInt8) (b bt : Nat) (v : Value) (w : World) (hb : Blk w b (vals s.l) bt) (hl : l.length = 64) (hv : IsSl w 1 v 64 (bytesV l)) (hkT : Row w 1 0 (vals kTab)) (hb1 : b ≠ 1) :
  Rets Tryz.prog 108 [.pointer (some ⟨b, 0, none⟩), v] w fun v w' => v = .tuple #[] ∧ Blk w' b (vals (block s l).l) bt ∧ ExtB (· = b) w w' := by
 obtain ⟨b', o', cap, rfl, hr, -, hc⟩ := hv.held (by decide)
 exact absorb_ok s l b bt b' o' cap w hb hl hr hc hkT hb1

set_option maxHeartbeats 4000000 in
theorem sum_ok (v : Value) (l : List UInt8) (w : World) (hv : IsSl w 1 v l.length (bytesV l)) (hl : l.length < 1152921504606846976) (hS : Row w 0 0 (vals init8.l)) (hkT : Row w 1 0 (vals kTab)) :
  Rets Tryz.prog 79 [v] w fun r w' => r = .agg (bytesV (sha l)).toArray ∧ Ext w w' := by
 have h2 : 1 < w.heap.size := cell_lt (hkT 0 _ rfl)
 refine RetsX.of (nt := 69) Tryz.func79 (by kernel_rfl) rfl rfl (by simp) (by simp only [argEnv]; rfl) ?_
 repeat (first | refine ZzQ ?_ | refine ZzR ?_)
 refine RunL.alloc Tryz.tOk rfl rfl rfl fun B2 w1 a1 => ?_
 repeat (first | refine ZzQ ?_ | refine ZzR ?_ | refine ZzN ?_)
 refine RunL.val rfl rfl rfl (OpV.loadN (cs := vals init8.l) Tryz.tOk rfl rfl rfl rfl (hS.extE a1.ext)) ?_
 refine RunL.alloc Tryz.tOk rfl rfl rfl fun B3 w2 a2 => ?_
 refine RunL.store (v := .agg (vals init8.l).toArray) Tryz.tOk rfl rfl rfl rfl rfl (cs := List.replicate 8 (.int .u32 0)) a2.at_ rfl rfl fun w3 t3 => ?_
 have hB2 := a1.eq
 have hB3 := a2.eq
 have hs1 := a1.size
 have X3 : Ext w w3 := (a1.ext.trans a2.ext).write t3.ext (by intro i hi hlt; subst hi; omega)
 have D3 : Blk w3 B2 (bytesV (List.replicate 32 0)) 32 := Blk.ext (Blk.ext (w := w1) (cs := List.replicate 32 (.int .u8 0)) a1.at_ a2.ext id) t3.ext (by omega)
 have V3 : Blk w3 B3 (vals (run init8 l 0).l) 142 := t3.at_
 clear a1 a2 t3
 repeat (first | refine RunL.pure Tryz.tOk rfl rfl rfl ?_ | refine ZzQ ?_ | refine ZzR ?_ | refine ZzN ?_ | refine ZzB ?_)
 refine RunE.loop (ι := Nat × Value) (fun x => [(0, v), (2, .pointer (some ⟨B2, 0, none⟩)), (3, .pointer (some ⟨B3, 0, none⟩)), (4, .func (.func 108) [.pointer (some ⟨B3, 0, none⟩)].toArray [].toArray), (5, x.2)])
  (fun x w' => 64 * x.1 ≤ l.length ∧ Ext w w' ∧ IsSl w' 1 x.2 (l.length - 64 * x.1) (bytesV (l.drop (64 * x.1))) ∧ x.2.ownBlock = v.ownBlock ∧ Blk w' B2 (bytesV (List.replicate 32 0)) 32 ∧ Blk w' B3 (vals (run init8 l x.1).l) 142)
  (fun x => l.length - 64 * x.1) (0, v) (by repeat (first | exact Sub.nil _ | refine Sub.cons rfl ?_)) ⟨by simp, X3, by simpa using hv.extE X3, rfl, D3, V3⟩ ?_
 clear V3 D3 X3
 rintro ⟨k, rv⟩ w4 ⟨hk, X4, R4, hrv, D4, V4⟩ again
 simp only at hk R4 hrv V4 again ⊢
 repeat (first | refine RunL.pure Tryz.tOk rfl rfl rfl ?_ | refine ZzQ ?_ | refine ZzR ?_)
 refine RunL.val rfl rfl rfl (OpV.lenSl Tryz.tOk rfl rfl R4) ?_
 repeat (first | refine RunL.pure Tryz.tOk rfl rfl rfl ?_ | refine ZzN ?_)
 refine RunE.cond rfl (fun hge => ?_) (fun hge => ?_) <;> (first | replace hge := of_decide_eq_true hge | replace hge := of_decide_eq_false hge)
 ·repeat (first | refine RunL.pure Tryz.tOk rfl rfl rfl ?_ | refine ZzQ ?_ | refine ZzR ?_ | refine ZzB ?_ | refine ZzK ?_)
  refine RunL.ex rfl rfl rfl (OpE.part (lo := 0) (hi := 64) Tryz.tOk rfl rfl R4 .none (.some rfl rfl) (by omega) (by omega)) ?_
  rintro u _ ⟨rfl, hu1, hu⟩
  have hu' : IsSl w4 1 u 64 (bytesV ((l.drop (64 * k)).take 64)) := by simpa [bytesV_drop, bytesV_take] using hu
  refine RunL.callV (fv := .func (.func 108) [.pointer (some ⟨B3, 0, none⟩)].toArray [].toArray) rfl rfl rfl rfl
   (Rets.v (absorb_sl _ _ B3 _ _ w4 V4 (by rw [List.length_take, List.length_drop]; omega) hu' (hkT.extE X4) (by omega)) rfl) (fun _ _ _ h => h.elim) ?_
  rintro _ w5 ⟨rfl, V5, E5⟩
  have X5 : Ext w w5 := X4.write E5 (by intro i hi hlt; subst hi; omega)
  have D5 := D4.ext E5 (by omega)
  have R5 := R4.ext E5 (by intro j hj; rw [hrv] at hj; intro e; have := hv.lt (by omega) (by decide) hj; omega)
  repeat (first | refine RunL.pure Tryz.tOk rfl rfl rfl ?_ | refine ZzR ?_ | refine ZzN ?_ | refine ZzI ?_)
  refine RunL.ex rfl rfl rfl (OpE.part (lo := 64) (hi := l.length - 64 * k) Tryz.tOk rfl rfl R5 (.some rfl rfl) .none (by omega) (by omega)) ?_
  rintro u2 _ ⟨rfl, hu3, hu4⟩
  have hu5 : IsSl w5 1 u2 (l.length - 64 * (k + 1)) (bytesV (l.drop (64 * (k + 1)))) := by
   have e : (bytesV (l.drop (64 * k))).drop 64 = bytesV (l.drop (64 * (k + 1))) := by rw [bytesV_drop, List.drop_drop]; rfl
   have e2 : l.length - 64 * k - 64 = l.length - 64 * (k + 1) := by omega
   rw [Nat.mul_one, Nat.mul_one, e, e2, List.take_of_length_le (by rw [bytesV_length, List.length_drop]; omega)] at hu4
   exact hu4
  repeat (first | refine RunL.pure Tryz.tOk rfl rfl rfl ?_ | refine ZzN ?_)
  exact RunE.weaken (by repeat (first | exact Sub.nil _ | refine Sub.cons rfl ?_)) (again (k + 1, u2) _ (by simp only; omega) ⟨by simp only; omega, X5, hu5, hu3.trans hrv, D5, V5⟩)
 ·have hkq : k = l.length / 64 := by omega
  clear again
  repeat (first | refine ZzQ ?_ | refine ZzR ?_ | refine RunE.exit rfl ?_)
  have hw4 := X4.size
  have hB2lt := D4.lt
  have hB3lt := V4.lt
  have hDl : (l.drop (64 * k)).length = l.length - 64 * k := List.length_drop
  refine RunL.ex rfl rfl rfl (OpE.make (l := 64) (c := 128) Tryz.tOk rfl rfl rfl rfl rfl rfl rfl (by decide) (by decide) (by decide)) ?_
  rintro _ w5 ⟨B6, rfl, a5⟩
  have hB6 := a5.eq
  have V5 := V4.ext a5.ext id
  have D5 := D4.ext a5.ext id
  have R5 := R4.extE a5.ext
  have X5 := X4.trans a5.ext
  repeat (first | refine RunL.pure Tryz.tOk rfl rfl rfl ?_ | refine ZzQ ?_ | refine ZzR ?_ | refine ZzN ?_)
  have C5 : Blk w5 B6 (bytesV (List.replicate 128 0)) 5 := by rw [← bytesV_replicate]; unfold Blk; rw [← zerosL_one]; exact a5.at_
  clear a5 V4 D4
  refine RunL.ex rfl rfl rfl (OpE.copySl Tryz.tOk rfl rfl rfl C5 R5 (by omega) (by simp [bytesV_length]; omega) (bytesV_plain _)) ?_
  rintro _ w6 ⟨rfl, C6, E6⟩
  have V6 := V5.ext E6 (by omega)
  have D6 := D5.ext E6 (by omega)
  have X6 : Ext w w6 := X5.write E6 (by intro i hi hlt; subst hi; omega)
  clear C5 V5 D5 X5 E6
  have e6 : setAt (bytesV (List.replicate 128 0)) 0 (bytesV (l.drop (64 * k))) = bytesV (l.drop (64 * k) ++ 0 :: List.replicate (127 - (l.length - 64 * k)) 0) := by
   have := setAt_bytes [] (List.replicate (l.length - 64 * k) 0) (0 :: List.replicate (127 - (l.length - 64 * k)) 0) (l.drop (64 * k)) 0 rfl (by simp)
   rw [List.nil_append, List.nil_append, ← List.replicate_succ, List.replicate_append_replicate, show l.length - 64 * k + (127 - (l.length - 64 * k) + 1) = 128 by omega] at this
   rw [this, ← List.replicate_succ]
  rw [e6] at C6
  repeat (first | refine RunL.pure Tryz.tOk rfl rfl rfl ?_ | refine ZzQ ?_ | refine ZzR ?_ | refine ZzN ?_)
  refine RunL.val rfl rfl rfl (OpV.lenSl Tryz.tOk rfl rfl R4) ?_
  refine RunL.val rfl rfl rfl (OpV.indexS1 Tryz.tOk (l.length - 64 * k) rfl rfl rfl rfl (by omega)) ?_
  refine RunL.store Tryz.tOk rfl rfl rfl rfl rfl C6 (by simp [bytesV_length, Value.cells] <;> omega) rfl fun w7 t7 => ?_
  have V7 := V6.ext t7.ext (by omega)
  have D7 := D6.ext t7.ext (by omega)
  have X7 : Ext w w7 := X6.write t7.ext (by intro i hi hlt; subst hi; omega)
  have C7 : Blk w7 B6 (bytesV (l.drop (64 * k) ++ 128 :: List.replicate (127 - (l.length - 64 * k)) 0)) 5 := by
   have := t7.at_
   rw [Nat.zero_add] at this
   unfold Blk
   rw [this, ← set_byte (l.drop (64 * k)) _ 0 128 (l.length - 64 * k) hDl]
   rfl
  clear C6 V6 D6 X6 t7 e6
  repeat (first | refine RunL.pure Tryz.tOk rfl rfl rfl ?_ | refine ZzQ ?_ | refine ZzR ?_ | refine ZzN ?_)
  refine RunL.val rfl rfl rfl (OpV.lenSl Tryz.tOk rfl rfl R4) ?_
  repeat (first | refine RunL.pure Tryz.tOk rfl rfl rfl ?_ | refine ZzN ?_)
  obtain ⟨m, hm⟩ : ∃ m, m = (tailOf l).length := ⟨_, rfl⟩
  have hm2 := tailOf_length l
  rw [← hm] at hm2
  refine RunE.condJoin (ι := Unit) (fun _ => [(0, v), (2, .pointer (some ⟨B2, 0, none⟩)), (3, .pointer (some ⟨B3, 0, none⟩)), (4, .func (.func 108) [.pointer (some ⟨B3, 0, none⟩)].toArray [].toArray), (6, .slice (some ⟨B6, 0, none⟩) m 128)])
   (fun _ w' => w7 = w') rfl ?_ (fun h join => ?_) (fun h join => ?_)
  rotate_left
  ·have h' := of_decide_eq_true h
   have hm128 : m = 128 := by rw [hm2, if_pos (by omega)]
   refine ZzR ?_
   repeat (first | refine RunL.pure Tryz.tOk rfl rfl rfl ?_)
   refine RunL.val rfl rfl rfl (OpV.slice0 (hi := 128) Tryz.tOk rfl rfl .none (.some rfl rfl) (by decide)) ?_
   repeat (first | refine RunL.pure Tryz.tOk rfl rfl rfl ?_)
   refine ZzN ?_
   subst hm128
   exact RunE.weaken (by repeat (first | exact Sub.nil _ | refine Sub.cons rfl ?_)) (join () _ rfl)
  ·have h' := of_decide_eq_false h
   have hm64 : m = 64 := by rw [hm2, if_neg (by omega)]
   repeat (first | refine ZzK ?_)
   subst hm64
   exact RunE.weaken (by repeat (first | exact Sub.nil _ | refine Sub.cons rfl ?_)) (join () _ rfl)
  rintro _ _ rfl
  have hmz : m = 9 + padz l.length + (l.length - 64 * k) := by unfold padz; rw [hm2]; split <;> omega
  have hm8 : m = 64 ∨ m = 128 := by rw [hm2]; split <;> omega
  have ec : l.drop (64 * k) ++ 128 :: List.replicate (127 - (l.length - 64 * k)) 0 = (l.drop (64 * k) ++ 128 :: List.replicate (padz l.length) 0) ++ List.replicate 8 0 ++ List.replicate (128 - m) 0 := by
   rw [List.append_assoc, List.append_assoc, List.cons_append, List.replicate_append_replicate, List.replicate_append_replicate]
   congr 3; omega
  rw [ec] at C7
  repeat (first | refine RunL.pureI Tryz.tOk rfl rfl rfl (by (first | exact wr_i64 (by omega) (by omega) | rfl)) ?_ | refine RunL.pure Tryz.tOk rfl rfl rfl ?_ | refine ZzQ ?_ | refine ZzR ?_)
  refine RunL.val rfl rfl rfl (OpV.sliceSq (lo := m - 8) (hi := m) (q := m - 8) (len := 8) (cap := 128 - (m - 8)) Tryz.tOk rfl rfl (.some rfl (by omega)) .none (by omega) (by omega) (by rw [offOf_lt (by omega)]; omega) (by omega) rfl) ?_
  repeat (first | refine RunL.pure Tryz.tOk rfl rfl rfl ?_)
  refine RunL.val rfl rfl rfl (OpV.lenSl Tryz.tOk rfl rfl hv) ?_
  repeat (first | refine RunL.pureI Tryz.tOk rfl rfl rfl (by (first | exact u64_nat _ (by omega) | exact u64_mul _ 8 (by omega) | rfl)) ?_)
  refine RunL.call rfl rfl rfl (put_ok B6 (m - 8) 8 _ _ _ _ _ _ _ (by simp; omega) (by simp) (by decide) C7) ?_
  rintro _ w8 ⟨rfl, C8, E8⟩
  have et : l.drop (64 * k) ++ 128 :: List.replicate (padz l.length) 0 ++ be 8 (l.length * 8) = tailOf l := by
   rw [tailOf_eq, ← hkq, Nat.mul_comm 8]; simp
  rw [et] at C8
  have V8 := V7.ext E8 (by omega)
  have D8 := D7.ext E8 (by omega)
  have X8 : Ext w w8 := X7.write E8 (by intro i hi hlt; subst hi; omega)
  have P8 : run init8 l k = run init8 (pad l) (k + 0) := (run_pad init8 l k hk).symm
  rw [P8] at V8
  clear C7 V7 D7 X7 E8 ec P8
  repeat (first | refine ZzQ ?_ | refine ZzN ?_ | refine ZzB ?_)
  have sl8 : IsSl w8 1 (.slice (some ⟨B6, 0, none⟩) m 128) (m - 64 * 0) (bytesV ((tailOf l).drop (64 * 0))) := by
   refine isSl_blk C8 (fun i u hu => ?_) (by rw [bytesV_length, List.length_drop, ← hm]; omega) (by omega)
   rw [bytesV_append, Nat.zero_add]
   rw [Nat.mul_zero, List.drop_zero] at hu
   rw [List.getElem?_append_left (by
    rcases Nat.lt_or_ge i (bytesV (tailOf l)).length with h | h
    ·exact h
    ·rw [List.getElem?_eq_none h] at hu; simp at hu)]
   exact hu
  refine RunE.loop (ι := Nat × Value) (fun x => [(0, v), (2, .pointer (some ⟨B2, 0, none⟩)), (3, .pointer (some ⟨B3, 0, none⟩)), (4, .func (.func 108) [.pointer (some ⟨B3, 0, none⟩)].toArray [].toArray), (6, x.2)])
   (fun x w' => 64 * x.1 ≤ m ∧ Ext w w' ∧ IsSl w' 1 x.2 (m - 64 * x.1) (bytesV ((tailOf l).drop (64 * x.1))) ∧ x.2.ownBlock = some B6 ∧ Blk w' B2 (bytesV (List.replicate 32 0)) 32 ∧ Blk w' B3 (vals (run init8 (pad l) (k + x.1)).l) 142)
   (fun x => m - 64 * x.1) (0, .slice (some ⟨B6, 0, none⟩) m 128) (by repeat (first | exact Sub.nil _ | refine Sub.cons rfl ?_)) ⟨by simp, X8, sl8, rfl, D8, V8⟩ ?_
  clear V8 D8 X8 sl8 C8
  rintro ⟨j, sv⟩ w9 ⟨hj, X9, R9, hsv, D9, V9⟩ again
  simp only at hj R9 hsv V9 again ⊢
  repeat (first | refine RunL.pure Tryz.tOk rfl rfl rfl ?_ | refine ZzQ ?_ | refine ZzR ?_)
  refine RunL.val rfl rfl rfl (OpV.lenSl Tryz.tOk rfl rfl R9) ?_
  repeat (first | refine RunL.pure Tryz.tOk rfl rfl rfl ?_ | refine ZzN ?_)
  refine RunE.cond rfl (fun hgt => ?_) (fun hgt => ?_) <;> (first | replace hgt := of_decide_eq_true hgt | replace hgt := of_decide_eq_false hgt)
  ·have hj64 : 64 * j + 64 ≤ m := by omega
   repeat (first | refine RunL.pure Tryz.tOk rfl rfl rfl ?_ | refine ZzQ ?_ | refine ZzR ?_ | refine ZzB ?_ | refine ZzK ?_)
   refine RunL.ex rfl rfl rfl (OpE.part (lo := 0) (hi := 64) Tryz.tOk rfl rfl R9 .none (.some rfl rfl) (by omega) (by omega)) ?_
   rintro u _ ⟨rfl, hu1, hu⟩
   have hu' : IsSl w9 1 u 64 (bytesV (((pad l).drop (64 * (k + j))).take 64)) := by
    have := tail_block l j
    rw [← hkq] at this
    rw [← this]
    simpa [bytesV_drop, bytesV_take] using hu
   refine RunL.callV (fv := .func (.func 108) [.pointer (some ⟨B3, 0, none⟩)].toArray [].toArray) rfl rfl rfl rfl
    (Rets.v (absorb_sl _ _ B3 _ _ w9 V9 (by rw [← tail_block_len l k j m hkq hm hj64]) hu' (hkT.extE X9) (by omega)) rfl) (fun _ _ _ h => h.elim) ?_
   rintro _ wa ⟨rfl, Va, Ea⟩
   have Xa : Ext w wa := X9.write Ea (by intro i hi hlt; subst hi; omega)
   have Da := D9.ext Ea (by omega)
   have Ra := R9.ext Ea (by intro j hj; rw [hsv] at hj; injection hj with hj; omega)
   repeat (first | refine RunL.pure Tryz.tOk rfl rfl rfl ?_ | refine ZzR ?_ | refine ZzN ?_ | refine ZzI ?_)
   refine RunL.ex rfl rfl rfl (OpE.part (lo := 64) (hi := m - 64 * j) Tryz.tOk rfl rfl Ra (.some rfl rfl) .none (by omega) (by omega)) ?_
   rintro u2 _ ⟨rfl, hu3, hu4⟩
   have hu5 : IsSl wa 1 u2 (m - 64 * (j + 1)) (bytesV ((tailOf l).drop (64 * (j + 1)))) := by
    have e : (bytesV ((tailOf l).drop (64 * j))).drop 64 = bytesV ((tailOf l).drop (64 * (j + 1))) := by rw [bytesV_drop, List.drop_drop]; rfl
    have e2 : m - 64 * j - 64 = m - 64 * (j + 1) := by omega
    rw [Nat.mul_one, Nat.mul_one, e, e2, List.take_of_length_le (by rw [bytesV_length, List.length_drop]; omega)] at hu4
    exact hu4
   repeat (first | refine RunL.pure Tryz.tOk rfl rfl rfl ?_ | refine ZzN ?_)
   exact RunE.weaken (by repeat (first | exact Sub.nil _ | refine Sub.cons rfl ?_)) (again (j + 1, u2) _ (by simp only; omega) ⟨by simp only; omega, Xa, hu5, hu3.trans hsv, Da, Va⟩)
  ·have hjm : 64 * j = m := by omega
   clear again R9
   have hsha : sha l = dig (run init8 (pad l) (k + j)) := by rw [sha_eq, ← hm, ← hkq]; congr 3; omega
   rw [hsha]
   generalize run init8 (pad l) (k + j) = S at V9
   repeat (first | refine ZzQ ?_ | refine ZzR ?_ | refine RunE.exit rfl ?_)
   refine RunL.val rfl rfl rfl (OpV.loadN (cs := vals S.l) Tryz.tOk rfl rfl rfl rfl V9.row) ?_
   repeat (first | refine RunL.pureI Tryz.tOk rfl rfl rfl (by (rfl)) ?_ | refine ZzN ?_ | refine ZzB ?_)
   refine RunE.loop (ι := Nat) (fun i => [(2, .pointer (some ⟨B2, 0, none⟩)), (53, .agg (vals S.l).toArray), (54, .int .i64 (i : Int))])
    (fun i w' => i ≤ 8 ∧ Ext w w' ∧ Blk w' B2 (bytesV ((S.l.take i).flatMap (fun x => be 4 x.toNat) ++ List.replicate (32 - 4 * i) 0)) 32)
    (fun i => 8 - i) 0 (by repeat (first | exact Sub.nil _ | refine Sub.cons rfl ?_)) ⟨by omega, X9, D9⟩ ?_
   clear D9 X9 V9
   rintro i u0 ⟨hi, Xu, Du⟩ again
   have hSl : S.l.length = 8 := rfl
   have hXl : ((S.l.take i).flatMap (fun x => be 4 x.toNat)).length = 4 * i := by
    rw [flat_length, List.length_take, hSl]; omega
   repeat (first | refine RunL.pure Tryz.tOk rfl rfl rfl ?_ | refine ZzQ ?_ | refine ZzR ?_ | refine ZzN ?_)
   refine RunE.cond rfl (fun hlt8 => ?_) (fun hlt8 => ?_) <;> (first | replace hlt8 := of_decide_eq_true hlt8 | replace hlt8 := of_decide_eq_false hlt8)
   ·have hi8 : i < 8 := by omega
    repeat (first | refine RunL.pureI Tryz.tOk rfl rfl rfl (by (rfl)) ?_ | refine ZzQ ?_ | refine ZzR ?_ | refine ZzB ?_ | refine ZzK ?_)
    refine RunL.val rfl rfl rfl (OpV.indexV (v := .int .u32 ((S.l.getD i 0).toNat : Int)) Tryz.tOk i rfl rfl rfl rfl (by omega) (by rw [Nat.mul_one]; exact vals_get' (by omega))) ?_
    repeat (first | refine RunL.pureI Tryz.tOk rfl rfl rfl (by (first | exact i64_mul 4 _ (by omega) | exact wr_i64 (by omega) (by omega) | rfl)) ?_ | refine ZzR ?_ | refine ZzN ?_)
    refine RunL.val rfl rfl rfl (OpV.sliceAq (lo := 4 * i) (hi := 4 * i + 4) (q := 4 * i) (len := 4) (cap := 32 - 4 * i) Tryz.tOk rfl rfl (.some rfl rfl) (.some rfl rfl) (by omega) (by omega) (by rw [offOf_lt (by omega)]; omega) (by omega) rfl) ?_
    repeat (first | refine RunL.pureI Tryz.tOk rfl rfl rfl (by (first | exact u64_nat _ (by have := BitVec.isLt (S.l.getD i 0); omega) | rfl)) ?_)
    have eD : (S.l.take i).flatMap (fun x => be 4 x.toNat) ++ List.replicate (32 - 4 * i) 0 = (S.l.take i).flatMap (fun x => be 4 x.toNat) ++ List.replicate 4 0 ++ List.replicate (32 - 4 * (i + 1)) 0 := by
     rw [List.append_assoc, List.replicate_append_replicate]; congr 2; omega
    rw [eD] at Du
    refine RunL.call rfl rfl rfl (put_ok B2 (4 * i) 4 _ _ _ _ _ _ _ hXl (by simp) (by decide) Du) ?_
    rintro _ u1 ⟨rfl, D1, E1⟩
    have X1 : Ext w u1 := Xu.write E1 (by intro i hi hlt; subst hi; omega)
    repeat (first | refine RunL.pureI Tryz.tOk rfl rfl rfl (by (first | exact wr_i64 (by omega) (by omega) | rfl)) ?_ | refine ZzR ?_ | refine ZzN ?_ | refine ZzI ?_)
    refine RunE.weaken (by repeat (first | exact Sub.nil _ | refine Sub.cons rfl ?_)) (again (i + 1) _ (by omega) ⟨by omega, X1, ?_⟩)
    rw [List.take_add_one, List.getElem?_eq_getElem (by omega : i < S.l.length), List.flatMap_append]
    rw [List.getD_eq_getElem?_getD, List.getElem?_eq_getElem (by omega : i < S.l.length)] at D1
    simpa using D1
   ·have hi8 : i = 8 := by omega
    subst hi8
    have Df : Blk u0 B2 (bytesV (dig S)) 32 := by rw [show (S.l.take 8) = S.l from rfl] at Du; simpa [dig] using Du
    have hdl := dig_length S
    generalize dig S = D at Df hdl ⊢
    repeat (first | refine ZzQ ?_ | refine ZzR ?_ | refine RunE.exit rfl ?_)
    refine RunL.val rfl rfl rfl (OpV.loadN (cs := bytesV D) Tryz.tOk rfl rfl rfl (by rw [bytesV_length]; exact hdl) Df.row) ?_
    refine RunL.store (v := .agg (bytesV D).toArray) Tryz.tOk rfl rfl rfl rfl (by simp [Value.cells, bytesV_length, hdl]) Df (by simp [Value.cells]) (by simp [Value.cells, bytesV_plain]) fun u2 t2 => ?_
    have X2 : Ext w u2 := Xu.write t2.ext (by intro i hi hlt; subst hi; omega)
    have D2 : Blk u2 B2 (bytesV D) 32 := by
     have := t2.at_
     rw [show (Value.agg (bytesV D).toArray).cells.toList = bytesV D from rfl, setAt_self] at this
     exact this
    repeat (first | refine ZzN ?_)
    exact RunE.retFn Tryz.func79 (.cell rfl (.agg Tryz.tOk rfl rfl (by rw [bytesV_length]; exact hdl) D2.row) .nil) ⟨rfl, X2⟩
end Go.Sg
end
section
/- The program's tagged digest and the group's hash. -/
set_option maxRecDepth 4000
namespace Go.Sg
open Go.Rn Go.Sha Go.Proofs
attribute [local irreducible] Go.Rn.RunL Go.Rn.RunE Go.Rn.Asy Go.Rn.OpV Go.Rn.OpE Go.Rn.ExecE

theorem grow_ok (n : Nat) (w : World) (h : n ≤ 1000000) : Rets Tryz.prog 110 [.slice none 0 0, .int .i64 (n : Int)] w fun v w' => w'.ownsRow w.heap.size 5 1 v 0 [] ∧ Ext w w' := by
 refine RetsX.of (nt := 27) Tryz.func110 (by kernel_rfl) rfl rfl (by simp) (by simp only [argEnv]; rfl) ?_
 repeat (first | refine RunL.pureI Tryz.tOk rfl rfl rfl (by (rfl)) ?_ | refine RunL.pure Tryz.tOk rfl rfl rfl ?_ | refine ZzQ ?_ | refine ZzR ?_ | refine ZzN ?_)
 refine RunE.condF rfl (decide_eq_false (by omega)) ?_
 repeat (first | refine RunL.pureI Tryz.tOk rfl rfl rfl (by (rfl)) ?_ | refine RunL.pure Tryz.tOk rfl rfl rfl ?_ | refine ZzQ ?_ | refine ZzR ?_ | refine ZzK ?_)
 refine RunL.val rfl rfl rfl (OpV.cap Tryz.tOk rfl rfl) ?_
 repeat (first | refine RunL.pureI Tryz.tOk rfl rfl rfl (by (first | exact wr_i64 (by omega) (by omega) | rfl)) ?_ | refine RunL.pure Tryz.tOk rfl rfl rfl ?_ | refine ZzQ ?_ | refine ZzR ?_ | refine ZzN ?_)
 refine RunE.cond rfl (fun hn => ?_) (fun hn => ?_) <;> (first | replace hn := of_decide_eq_true hn | replace hn := of_decide_eq_false hn)
 ·repeat (first | refine RunL.pure Tryz.tOk rfl rfl rfl ?_ | refine ZzR ?_)
  refine RunL.val rfl rfl rfl (OpV.cap Tryz.tOk rfl rfl) ?_
  refine RunL.val rfl rfl rfl (OpV.sliceNil Tryz.tOk rfl rfl .none (.some rfl rfl)) ?_
  repeat (first | refine RunL.pureI Tryz.tOk rfl rfl rfl (by (rfl)) ?_)
  refine RunL.ex rfl rfl rfl (OpE.growNil (m := n) Tryz.tOk rfl rfl rfl rfl rfl rfl rfl (by simp) (by omega) (by show n * 1 ≤ _; omega) (by omega)) ?_
  rintro _ w1 ⟨B, cap, rfl, hc, hcm, hB, X1, cur, hcur, hsz⟩
  repeat (first | refine RunL.pureI Tryz.tOk rfl rfl rfl (by (rfl)) ?_ | refine RunL.pure Tryz.tOk rfl rfl rfl ?_)
  refine RunL.val rfl rfl rfl (OpV.slice0 (hi := 0) Tryz.tOk rfl rfl .none (.some rfl rfl) (by omega)) ?_
  repeat (first | refine RunL.pure Tryz.tOk rfl rfl rfl ?_ | refine ZzQ ?_ | refine ZzR ?_ | refine ZzN ?_)
  refine RunE.retFn Tryz.func110 (.tmp rfl .nil) ⟨⟨by simp, .inr ⟨B, cap, cur, rfl, by omega, hcur, by omega, hcm, hsz, by simp⟩⟩, X1⟩
 ·repeat (first | refine RunL.pure Tryz.tOk rfl rfl rfl ?_ | refine ZzQ ?_ | refine ZzR ?_ | refine ZzN ?_ | refine ZzK ?_)
  exact RunE.retFn Tryz.func110 (.tmp rfl .nil) ⟨World.ownsRow_nil _ _ _ _, .refl _ _⟩

def flatB (xs : List (Value × List UInt8)) (j : Nat) : List UInt8 := (xs.take j).flatMap (·.2)
theorem flatB_succ {xs : List (Value × List UInt8)} {j : Nat} {x : Value × List UInt8} (h : xs[j]? = some x) : flatB xs (j + 1) = flatB xs j ++ x.2 := by
 unfold flatB; rw [List.take_add_one, h, List.flatMap_append]; simp
theorem flatB_le (xs : List (Value × List UInt8)) (j : Nat) : (flatB xs j).length ≤ (xs.flatMap (·.2)).length := by
 unfold flatB
 conv => rhs; rw [← List.take_append_drop j xs]
 rw [List.flatMap_append, List.length_append]; omega

theorem concatB_ok (xs : List (Value × List UInt8)) (B o cap : Nat) (w : World) (hr : Row w B o (xs.map (·.1))) (hx : ∀ (j : Nat) x, xs[j]? = some x → IsSl w 1 x.1 x.2.length (bytesV x.2)) (hn : xs.length ≤ 1000) (h : (xs.flatMap (·.2)).length ≤ 1000000) :
  Rets Tryz.prog 80 [.slice (some ⟨B, o, none⟩) xs.length cap] w fun v w' =>
   w'.ownsRow w.heap.size 5 1 v (xs.flatMap (·.2)).length (bytesV (xs.flatMap (·.2))) ∧ Ext w w' := by
 have hF := flatB_le xs
 have hcell : ∀ {j : Nat} {x : Value × List UInt8}, xs[j]? = some x → w.cell? ⟨B, o + j, none⟩ = some x.1 := fun {j x} hj => hr j x.1 (by simp [hj])
 refine RetsX.of (nt := 36) Tryz.func80 (by kernel_rfl) rfl rfl (by simp) (by simp only [argEnv]; rfl) ?_
 repeat (first | refine RunL.pureI Tryz.tOk rfl rfl rfl (by (rfl)) ?_ | refine RunL.pure Tryz.tOk rfl rfl rfl ?_ | refine ZzQ ?_ | refine ZzR ?_ | refine ZzN ?_ | refine ZzB ?_)
 refine RunE.loop (ι := Nat) (fun j => [(0, .slice (some ⟨B, o, none⟩) xs.length cap), (3, .int .i64 ((flatB xs j).length : Int)), (9, .slice (some ⟨B, o, none⟩) xs.length cap), (10, .int .i64 (xs.length : Int)), (11, .int .i64 (j : Int))])
  (fun j w' => w = w' ∧ j ≤ xs.length) (fun j => xs.length - j) 0 (by repeat (first | exact Sub.nil _ | refine Sub.cons rfl ?_)) ⟨rfl, by omega⟩ ?_
 rintro j _ ⟨rfl, hj⟩ again
 have hFj := hF j
 repeat (first | refine RunL.pure Tryz.tOk rfl rfl rfl ?_ | refine ZzQ ?_ | refine ZzR ?_ | refine ZzN ?_)
 refine RunE.cond rfl (fun hlt => ?_) (fun hlt => ?_) <;> (first | replace hlt := of_decide_eq_true hlt | replace hlt := of_decide_eq_false hlt)
 ·have hlt' : j < xs.length := by omega
  obtain ⟨x, hxj⟩ : ∃ x, xs[j]? = some x := ⟨_, List.getElem?_eq_getElem hlt'⟩
  have hs := flatB_succ hxj
  have hFj1 := hF (j + 1)
  rw [hs, List.length_append] at hFj1
  repeat (first | refine ZzQ ?_ | refine ZzR ?_ | refine ZzB ?_ | refine ZzK ?_)
  refine RunL.val rfl rfl rfl (OpV.indexS Tryz.tOk j rfl rfl rfl rfl hlt') ?_
  refine RunL.val rfl rfl rfl (OpV.load1 (v := x.1) Tryz.tOk rfl rfl rfl (by rw [show j * 1 = j from Nat.mul_one j]; exact hcell hxj)) ?_
  repeat (first | refine RunL.pureI Tryz.tOk rfl rfl rfl (by (rfl)) ?_ | refine RunL.pure Tryz.tOk rfl rfl rfl ?_ | refine ZzQ ?_ | refine ZzR ?_ | refine ZzN ?_)
  refine RunL.val rfl rfl rfl (OpV.lenSl Tryz.tOk rfl rfl (hx j x hxj)) ?_
  repeat (first | refine RunL.pureI Tryz.tOk rfl rfl rfl (by (first | exact i64_add _ _ (by omega) | rfl)) ?_ | refine RunL.pure Tryz.tOk rfl rfl rfl ?_ | refine ZzQ ?_ | refine ZzR ?_ | refine ZzN ?_)
  refine RunE.condF rfl (decide_eq_false (by omega)) ?_
  repeat (first | refine RunL.pureI Tryz.tOk rfl rfl rfl (by (first | exact wr_i64 (by omega) (by omega) | rfl)) ?_ | refine ZzR ?_ | refine ZzN ?_ | refine ZzI ?_ | refine ZzK ?_)
  refine RunE.weaken (by
   refine Sub.cons rfl (Sub.cons ?_ (Sub.cons rfl (Sub.cons rfl (Sub.cons rfl (Sub.nil _)))))
   rw [hs, List.length_append]; rfl) (again (j + 1) _ (by omega) ⟨rfl, by omega⟩)
 ·have hjn : j = xs.length := by omega
  subst hjn
  clear again
  have hfl : flatB xs xs.length = xs.flatMap (·.2) := by unfold flatB; rw [List.take_length]
  rw [hfl]
  repeat (first | refine RunL.pureI Tryz.tOk rfl rfl rfl (by (rfl)) ?_ | refine ZzQ ?_ | refine ZzR ?_ | refine RunE.exit rfl ?_)
  refine RunL.call rfl rfl rfl (grow_ok _ w h) ?_
  rintro v0 w1 ⟨O1, X1⟩
  repeat (first | refine RunL.pureI Tryz.tOk rfl rfl rfl (by (rfl)) ?_ | refine RunL.pure Tryz.tOk rfl rfl rfl ?_ | refine ZzQ ?_ | refine ZzR ?_ | refine ZzN ?_ | refine ZzB ?_)
  refine RunE.loop (ι := Nat × Value) (fun x => [(6, x.2), (25, .slice (some ⟨B, o, none⟩) xs.length cap), (26, .int .i64 (xs.length : Int)), (27, .int .i64 (x.1 : Int))])
   (fun x w' => x.1 ≤ xs.length ∧ Ext w w' ∧ w'.ownsRow w.heap.size 5 1 x.2 (flatB xs x.1).length (bytesV (flatB xs x.1))) (fun x => xs.length - x.1) (0, v0) (by repeat (first | exact Sub.nil _ | refine Sub.cons rfl ?_)) ⟨by simp, X1, O1⟩ ?_
  clear O1 X1
  rintro ⟨j, u⟩ w2 ⟨hj, X2, O2⟩ again
  simp only at hj O2 again ⊢
  repeat (first | refine RunL.pure Tryz.tOk rfl rfl rfl ?_ | refine ZzQ ?_ | refine ZzR ?_ | refine ZzN ?_)
  refine RunE.cond rfl (fun hlt => ?_) (fun hlt => ?_) <;> (first | replace hlt := of_decide_eq_true hlt | replace hlt := of_decide_eq_false hlt)
  ·have hlt' : j < xs.length := by omega
   obtain ⟨x, hxj⟩ : ∃ x, xs[j]? = some x := ⟨_, List.getElem?_eq_getElem hlt'⟩
   have hs := flatB_succ hxj
   have hFj1 := hF (j + 1)
   rw [hs, List.length_append] at hFj1
   repeat (first | refine ZzQ ?_ | refine ZzR ?_ | refine ZzB ?_ | refine ZzK ?_)
   refine RunL.val rfl rfl rfl (OpV.indexS Tryz.tOk j rfl rfl rfl rfl hlt') ?_
   refine RunL.val rfl rfl rfl (OpV.load1 (v := x.1) Tryz.tOk rfl rfl rfl (by rw [show j * 1 = j from Nat.mul_one j]; exact cell_ext (hcell hxj) X2 id)) ?_
   repeat (first | refine RunL.pure Tryz.tOk rfl rfl rfl ?_ | refine ZzR ?_ | refine ZzN ?_)
   refine RunL.ex rfl rfl rfl (OpE.append Tryz.tOk rfl rfl rfl rfl rfl rfl O2 ((hx j x hxj).extE X2) (bytesV_plain _) (by show _ * 1 ≤ _; omega) (by omega) X2.size) ?_
   rintro u3 w3 ⟨O3, E3⟩
   have X3 : Ext w w3 := X2.write E3 (by intro i hi hlt; have := ownsRow_ge O2 hi; omega)
   repeat (first | refine RunL.pureI Tryz.tOk rfl rfl rfl (by (first | exact wr_i64 (by omega) (by omega) | rfl)) ?_ | refine RunL.pure Tryz.tOk rfl rfl rfl ?_ | refine ZzR ?_ | refine ZzN ?_ | refine ZzI ?_)
   refine RunE.weaken (by repeat (first | exact Sub.nil _ | refine Sub.cons rfl ?_)) (again (j + 1, u3) _ (by simp only; omega) ⟨by simp only; omega, X3, ?_⟩)
   simp only
   rw [hs, List.length_append, bytesV_append]; exact O3
  ·have hjn : j = xs.length := by omega
   subst hjn
   repeat (first | refine RunL.pure Tryz.tOk rfl rfl rfl ?_ | refine ZzQ ?_ | refine ZzR ?_ | refine ZzN ?_ | refine RunE.exit rfl ?_)
   rw [hfl] at O2
   exact RunE.retFn Tryz.func80 (.tmp rfl .nil) ⟨O2, X2⟩

theorem tagged_ok (tag : ByteArray) (v : Value) (l : List UInt8) (w : World) (ht : tag.size ≤ 1000000) (hv : IsSl w 1 v l.length (bytesV l)) (hl : l.length ≤ 900000) (hS : Row w 0 0 (vals init8.l)) (hkT : Row w 1 0 (vals kTab)) :
  Rets Tryz.prog 53 [.string tag, v] w fun r w' => r = .agg (bytesV (tagged tag.data.toList l)).toArray ∧ Ext w w' := by
 refine RetsX.of (nt := 14) Tryz.func53 (by kernel_rfl) rfl rfl (by simp) (by simp only [argEnv]; rfl) ?_
 repeat (first | refine ZzQ ?_ | refine ZzR ?_)
 refine RunL.alloc Tryz.tOk rfl rfl rfl fun B4 w1 a1 => ?_
 repeat (first | refine RunL.pure Tryz.tOk rfl rfl rfl ?_ | refine ZzQ ?_ | refine ZzR ?_ | refine ZzN ?_)
 refine RunL.ex rfl rfl rfl (OpE.s2b Tryz.tOk rfl rfl rfl rfl) ?_
 rintro _ w2 ⟨B, cap, rfl, X2, hB, hr, hc⟩
 have hlen : tag.data.toList.length = tag.size := rfl
 have Y2 := a1.ext.trans X2
 refine RunL.call rfl rfl rfl (sum_ok _ tag.data.toList w2 (by rw [hlen]; exact .row hr (by rw [bytesV_length, hlen, Nat.mul_one]) hc) (by omega) (hS.extE Y2) (hkT.extE Y2)) ?_
 rintro _ w3 ⟨rfl, X3⟩
 have Y3 := Y2.trans X3
 refine RunL.alloc Tryz.tOk rfl rfl rfl fun B5 w4 a4 => ?_
 have hsl := sha_length tag.data.toList
 unfold tagged
 generalize sha tag.data.toList = D at hsl ⊢
 refine RunL.store (v := .agg (bytesV D).toArray) Tryz.tOk rfl rfl rfl rfl (by simp [Value.cells, bytesV_length, hsl]) (cs := List.replicate 32 (.int .u8 0)) a4.at_ (by simp [Value.cells, bytesV_length, hsl]) (by simp [Value.cells, bytesV_plain]) fun w5 t5 => ?_
 have D5 : Blk w5 B5 (bytesV D) 32 := by
  have := t5.at_
  rw [show (Value.agg (bytesV D).toArray).cells.toList = bytesV D from rfl, setAt_all _ _ (by simp [bytesV_length, hsl])] at this
  exact this
 have hB4 := a1.eq
 have hB5 := a4.eq
 have hs1 := a1.size
 have hs4 := a4.size
 have z1 := X2.size
 have z2 := X3.size
 have X5 : Ext w w5 := (Y3.trans a4.ext).write t5.ext (by intro i hi hlt; subst hi; omega)
 have R4 : Blk w5 B4 (bytesV (List.replicate 32 0)) 32 := Blk.ext (Blk.ext (Blk.ext (w := w1) (cs := List.replicate 32 (.int .u8 0)) a1.at_ (X2.trans X3) id) a4.ext id) t5.ext (by omega)
 clear a1 a4 t5 Y3 Y2
 repeat (first | refine ZzQ ?_ | refine ZzR ?_ | refine ZzN ?_)
 refine RunL.val rfl rfl rfl (OpV.sliceA0 (hi := 32) Tryz.tOk rfl rfl .none .none (by decide)) ?_
 repeat (first | refine RunL.pure Tryz.tOk rfl rfl rfl ?_)
 have hvc : v.cells = #[v] := by rcases hv.inv with ⟨_, rfl, -⟩ | ⟨_, _, _, rfl, -⟩ <;> rfl
 refine RunL.ex rfl rfl rfl (OpE.buildSl Tryz.tOk [.slice (some ⟨B5, 0, none⟩) 32 32, v] rfl rfl rfl rfl rfl rfl (by intro u hu; rcases List.mem_cons.1 hu with rfl | hu; rfl; obtain rfl := List.mem_singleton.1 hu; rw [hvc]; rfl)) ?_
 rintro _ w6 ⟨B11, rfl, a6⟩
 have ec : cellsAll [.slice (some ⟨B5, 0, none⟩) 32 32, v] = [.slice (some ⟨B5, 0, none⟩) 32 32, v] := by
  have hc5 : (Value.slice (some ⟨B5, 0, none⟩) 32 32).cells = #[.slice (some ⟨B5, 0, none⟩) 32 32] := rfl
  simp [cellsAll, hvc, hc5]
 rw [ec] at a6
 have hB11 := a6.eq
 have X6 := X5.trans a6.ext
 have sl5 : IsSl w6 1 (.slice (some ⟨B5, 0, none⟩) 32 32) D.length (bytesV D) := by
  rw [hsl]; exact .row (D5.row.extE a6.ext) (by rw [bytesV_length, hsl]) (by omega)
 refine RunL.call rfl rfl rfl (concatB_ok [(.slice (some ⟨B5, 0, none⟩) 32 32, D), (v, l)] B11 0 2 w6 (Blk.row (show Blk w6 B11 [.slice (some ⟨B5, 0, none⟩) 32 32, v] _ from a6.at_))
  (fun j x hj => by
   match j, hj with
   | 0, hj => injection hj with hj; subst hj; exact sl5
   | 1, hj => injection hj with hj; subst hj; exact hv.extE X6) (by simp) (by simp [hsl]; omega)) ?_
 rintro u w7 ⟨O7, X7⟩
 have e : List.flatMap (fun x : Value × List UInt8 => x.2) [(.slice (some ⟨B5, 0, none⟩) 32 32, D), (v, l)] = D ++ l := by simp
 rw [e] at O7
 have Y7 := X6.trans X7
 refine RunL.call rfl rfl rfl (sum_ok _ (D ++ l) w7 (isSl_own O7) (by simp [hsl]; omega) (hS.extE Y7) (hkT.extE Y7)) ?_
 rintro _ w8 ⟨rfl, X8⟩
 have Y8 := Y7.trans X8
 have R8 := R4.ext ((a6.ext.trans X7).trans X8) id
 have hsl2 := sha_length (D ++ l)
 generalize sha (D ++ l) = G at hsl2 ⊢
 refine RunL.store (v := .agg (bytesV G).toArray) Tryz.tOk rfl rfl rfl rfl (by simp [Value.cells, bytesV_length, hsl2]) R8 (by simp [Value.cells, bytesV_length, hsl2]) (by simp [Value.cells, bytesV_plain]) fun w9 t9 => ?_
 have X9 : Ext w w9 := Y8.write t9.ext (by intro i hi hlt; subst hi; omega)
 have D9 : Blk w9 B4 (bytesV G) 32 := by
  have := t9.at_
  rw [show (Value.agg (bytesV G).toArray).cells.toList = bytesV G from rfl, setAt_all _ _ (by simp [bytesV_length, hsl2])] at this
  exact this
 repeat (first | refine ZzN ?_)
 exact RunE.retFn Tryz.func53 (.cell rfl (.agg Tryz.tOk rfl rfl (by rw [bytesV_length]; exact hsl2) D9.row) .nil) ⟨rfl, X9⟩

def hashN (d : List UInt8) (j : Nat) : Nat := (d.take j).foldl (fun n c => n * 256 + c.toNat) 0
theorem hashN_succ {d : List UInt8} {j : Nat} (h : j < d.length) : hashN d (j + 1) = hashN d j * 256 + (d.getD j 0).toNat := by
 unfold hashN
 rw [List.take_add_one, List.getElem?_eq_getElem h, List.getD_eq_getElem?_getD, List.getElem?_eq_getElem h, Option.toList_some, List.foldl_append]
 rfl
/-- The first byte without its highest bit. -/
def low7 : List UInt8 → List UInt8
 | [] => []
 | b :: r => UInt8.ofNat (b.toNat % 128) :: r
theorem low7_length (d : List UInt8) : (low7 d).length = d.length := by cases d <;> rfl
/-- The number of a digest. -/
def hashNum (d : List UInt8) : Nat := hashN (low7 d) 8
theorem hashNum_lt (d : List UInt8) (h : d.length = 32) : hashNum d < 9223372036854775808 := by
 unfold hashNum
 cases d with
 | nil => simp at h
 | cons b r =>
  have h1 : (low7 (b :: r)).length = 32 := h
  have : ∀ j, j ≤ 7 → hashN (low7 (b :: r)) (j + 1) < 128 * 256 ^ j := by
   intro j
   induction j with
   | zero =>
    intro _
    have : (UInt8.ofNat (b.toNat % 128)).toNat = b.toNat % 128 := by rw [UInt8.toNat_ofNat']; omega
    simp [hashN, low7]; omega
   | succ j ih =>
    intro hj
    have := ih (by omega)
    have hb := ((low7 (b :: r)).getD (j + 1) 0).toNat_lt
    rw [hashN_succ (by omega), Nat.pow_succ]; omega
  have := this 7 (by omega)
  exact this
def hashS (tag l : List UInt8) : Int := (hashNum (tagged tag l) % 1073741789 : Nat)

theorem u8_and127 (b : UInt8) : IntKind.u8.wrap ((BitVec.ofInt IntKind.u8.bits (b.toNat : Int) &&& BitVec.ofInt IntKind.u8.bits 127).toNat : Int) = ((UInt8.ofNat (b.toNat % 128)).toNat : Int) := by
 have : ∀ n : Fin 256, IntKind.u8.wrap ((BitVec.ofInt IntKind.u8.bits (n.val : Int) &&& BitVec.ofInt IntKind.u8.bits 127).toNat : Int) = ((UInt8.ofNat (n.val % 128)).toNat : Int) := by decide +kernel
 exact this ⟨b.toNat, b.toNat_lt⟩
theorem i64_or8 (n c : Nat) (hn : n < 36028797018963968) (hc : c < 256) : IntKind.i64.wrap ((BitVec.ofInt IntKind.i64.bits (((n * 256 : Nat) : Int)) ||| BitVec.ofInt IntKind.i64.bits ((c : Nat) : Int)).toNat : Int) = ((n * 256 + c : Nat) : Int) := by
 have e : IntKind.i64.bits = 64 := rfl
 rw [e, BitVec.ofInt_natCast, BitVec.ofInt_natCast, BitVec.toNat_or, BitVec.toNat_ofNat, BitVec.toNat_ofNat, Nat.mod_eq_of_lt (by omega), Nat.mod_eq_of_lt (by omega)]
 have h : n * 256 + c = n * 256 ||| c := by
  have := Nat.shiftLeft_add_eq_or_of_lt (i := 8) (b := c) (by omega) n
  rw [Nat.shiftLeft_eq] at this
  exact this
 rw [← h]; exact wr_i64 (by omega) (by omega)
theorem i64_shl8 (n : Nat) (hn : n < 36028797018963968) : IntKind.i64.wrap (((n : Nat) : Int) * 2 ^ (min 8 IntKind.i64.bits)) = ((n * 256 : Nat) : Int) := by
 have e : (2 : Int) ^ (min 8 IntKind.i64.bits) = 256 := by decide
 rw [e, Int.natCast_mul]; exact wr_i64 (by omega) (by omega)
theorem i64_u8 (b : UInt8) : IntKind.i64.wrap ((b.toNat : Nat) : Int) = ((b.toNat : Nat) : Int) := by
 have := b.toNat_lt
 exact wr_i64 (by omega) (by omega)

theorem hash_ok (tag : ByteArray) (v : Value) (l : List UInt8) (w : World) (ht : tag.size ≤ 1000000) (hv : IsSl w 1 v l.length (bytesV l)) (hl : l.length ≤ 900000) (hS : Row w 0 0 (vals init8.l)) (hkT : Row w 1 0 (vals kTab)) :
  Rets Tryz.prog 106 [.string tag, v] w fun r w' => r = .int .i64 (hashS tag.data.toList l) ∧ Ext w w' := by
 refine RetsX.of (nt := 27) Tryz.func106 (by kernel_rfl) rfl rfl (by simp) (by simp only [argEnv]; rfl) ?_
 repeat (first | refine RunL.pureI Tryz.tOk rfl rfl rfl (by (rfl)) ?_ | refine RunL.pure Tryz.tOk rfl rfl rfl ?_ | refine ZzQ ?_ | refine ZzR ?_ | refine ZzN ?_)
 refine RunL.call rfl rfl rfl (tagged_ok _ _ _ _ ht hv hl hS hkT) ?_
 rintro _ w1 ⟨rfl, X1⟩
 refine RunL.alloc Tryz.tOk rfl rfl rfl fun B w2 a2 => ?_
 unfold hashS
 have hsl := tagged_length tag.data.toList l
 generalize tagged tag.data.toList l = D at hsl ⊢
 refine RunL.store (v := .agg (bytesV D).toArray) Tryz.tOk rfl rfl rfl rfl (by simp [Value.cells, bytesV_length, hsl]) (cs := List.replicate 32 (.int .u8 0)) a2.at_ (by simp [Value.cells, bytesV_length, hsl]) (by simp [Value.cells, bytesV_plain]) fun w3 t3 => ?_
 have D3 : Blk w3 B (bytesV D) 32 := by
  have := t3.at_
  rw [show (Value.agg (bytesV D).toArray).cells.toList = bytesV D from rfl, setAt_all _ _ (by simp [bytesV_length, hsl])] at this
  exact this
 have hB := a2.eq
 have z1 := X1.size
 have X3 : Ext w w3 := (X1.trans a2.ext).write t3.ext (by intro i hi hlt; subst hi; omega)
 clear a2 t3
 match D, hsl, D3 with
 | [], hsl, _ => simp at hsl
 | b :: r, hsl, D3 =>
 repeat (first | refine RunL.pureI Tryz.tOk rfl rfl rfl (by (first | exact u8_and127 _ | rfl)) ?_ | refine RunL.val rfl rfl rfl (OpV.indexAK Tryz.tOk rfl rfl rfl rfl) ?_ | refine RunL.val rfl rfl rfl (OpV.load1 Tryz.tOk rfl rfl rfl (Blk.cell D3 rfl)) ?_ | refine ZzQ ?_ | refine ZzR ?_ | refine ZzN ?_)
 refine RunL.store Tryz.tOk rfl rfl rfl rfl rfl D3 (by simp [bytesV_length, Value.cells, hsl]) rfl fun w4 t4 => ?_
 have X4 : Ext w w4 := X3.write t4.ext (by intro i hi hlt; subst hi; omega)
 have D4 : Blk w4 B (bytesV (low7 (b :: r))) 32 := t4.at_
 clear t4 D3
 have hb64 : hashNum (b :: r) < 9223372036854775808 := hashNum_lt _ hsl
 have hlen : (low7 (b :: r)).length = 32 := hsl
 unfold hashNum at hb64 ⊢
 generalize low7 (b :: r) = L at D4 hlen hb64 ⊢
 repeat (first | refine RunL.pureI Tryz.tOk rfl rfl rfl (by (rfl)) ?_ | refine ZzQ ?_ | refine ZzR ?_ | refine ZzN ?_ | refine ZzB ?_)
 refine RunE.loop (ι := Nat) (fun i => [(4, .int .i64 (hashN L i : Int)), (5, .pointer (some ⟨B, 0, none⟩)), (14, .int .i64 (i : Int))])
  (fun i w' => w4 = w' ∧ i ≤ 8) (fun i => 8 - i) 0 (by repeat (first | exact Sub.nil _ | refine Sub.cons rfl ?_)) ⟨rfl, by omega⟩ ?_
 rintro i _ ⟨rfl, hi⟩ again
 repeat (first | refine RunL.pure Tryz.tOk rfl rfl rfl ?_ | refine ZzQ ?_ | refine ZzR ?_ | refine ZzN ?_)
 refine RunE.cond rfl (fun hlt => ?_) (fun hlt => ?_) <;> (first | replace hlt := of_decide_eq_true hlt | replace hlt := of_decide_eq_false hlt)
 ·have hi8 : i < 8 := by omega
  have hs := hashN_succ (d := L) (j := i) (by omega)
  have hcl := (L.getD i 0).toNat_lt
  have hbd : hashN L i < 36028797018963968 := by
   have mono : ∀ k j, j + k ≤ 8 → hashN L j * 256 ^ k ≤ hashN L (j + k) := by
    intro k
    induction k with
    | zero => intro j _; simp
    | succ k ih =>
     intro j hj
     have h1 := ih j (by omega)
     have h2 := hashN_succ (d := L) (j := j + k) (by omega)
     rw [show j + (k + 1) = j + k + 1 by omega, h2, Nat.pow_succ, ← Nat.mul_assoc]
     omega
   have h1 := mono (8 - i) i (by omega)
   rw [show i + (8 - i) = 8 by omega] at h1
   have h2 : 256 ^ 1 ≤ 256 ^ (8 - i) := Nat.pow_le_pow_right (by decide) (by omega)
   have h3 := Nat.mul_le_mul_left (hashN L i) h2
   omega
  repeat (first | refine RunL.pureI Tryz.tOk rfl rfl rfl (by (first | exact i64_shl8 _ hbd | rfl)) ?_ | refine ZzQ ?_ | refine ZzR ?_ | refine ZzN ?_ | refine ZzB ?_ | refine ZzK ?_)
  refine RunL.val rfl rfl rfl (OpV.indexA1 Tryz.tOk i rfl rfl rfl rfl (by omega)) ?_
  refine RunL.val rfl rfl rfl (OpV.load1 (v := .int .u8 ((L.getD i 0).toNat : Int)) Tryz.tOk rfl rfl rfl (by rw [Nat.zero_add]; exact D4.cell (bytesV_get (by omega)))) ?_
  repeat (first | refine RunL.pureI Tryz.tOk rfl rfl rfl (by (first | exact i64_u8 _ | exact i64_or8 _ _ hbd hcl | exact wr_i64 (by omega) (by omega) | rfl)) ?_ | refine ZzR ?_ | refine ZzN ?_ | refine ZzI ?_)
  refine RunE.weaken (by
   refine Sub.cons ?_ (Sub.cons rfl (Sub.cons rfl (Sub.nil _)))
   rw [hs]; rfl) (again (i + 1) _ (by omega) ⟨rfl, by omega⟩)
 ·have hi8 : i = 8 := by omega
  subst hi8
  repeat (first | refine RunL.pureI Tryz.tOk rfl rfl rfl (by (first | exact wm_i64 (by omega) | rfl)) ?_ | refine ZzQ ?_ | refine ZzR ?_ | refine ZzN ?_ | refine RunE.exit rfl ?_)
  refine RunE.retFn Tryz.func106 (.tmp rfl .nil) ⟨?_, X4⟩
  simp only [oneOr]
  congr 1
end Go.Sg
end
section
/- The reference's SHA-256. -/
set_option maxRecDepth 4000
namespace Go.Sg
open Go.Rn Go.Sha Go.Proofs
attribute [local irreducible] Go.Rn.RunL Go.Rn.RunE Go.Rn.Asy Go.Rn.OpV Go.Rn.OpE Go.Rn.ExecE

theorem u32_compl (x : W) : IntKind.u32.wrap ((BitVec.ofInt IntKind.u32.bits (if IntKind.u32.signed then -1 else IntKind.u32.max) ^^^ BitVec.ofInt IntKind.u32.bits (x.toNat : Int)).toNat : Int) = ((~~~x).toNat : Int) := by
 have h2 : (BitVec.ofInt 32 (if IntKind.u32.signed then -1 else IntKind.u32.max) : BitVec 32) = BitVec.allOnes 32 := by decide
 have h1 : BitVec.ofInt 32 (x.toNat : Int) = x := bv_of x
 show IntKind.u32.wrap (((BitVec.ofInt 32 (if IntKind.u32.signed then -1 else IntKind.u32.max) : BitVec 32) ^^^ (BitVec.ofInt 32 (x.toNat : Int) : BitVec 32)).toNat : Int) = _
 rw [h1, h2]
 have h3 : (BitVec.allOnes 32 ^^^ x) = ~~~x := by
  exact BitVec.allOnes_xor
 rw [h3]
 exact u32_wrap_nat _ (BitVec.isLt (~~~x))

set_option maxRecDepth 4000 in
theorem numbers_ok (w : World) : Rets Tryz.prog 158 [] w fun v w' => v = .agg (vals kTab).toArray ∧ Ext w w' := by
 refine RetsX.of (nt := 2) Tryz.func158 (by kernel_rfl) rfl rfl (by simp) (by simp only [argEnv]; rfl) ?_
 repeat (first | refine ZzQ ?_ | refine ZzR ?_)
 refine RunL.alloc Tryz.tOk rfl rfl rfl fun B w1 a1 => ?_
 repeat (first | refine RunL.pure Tryz.tOk rfl rfl rfl ?_ | refine ZzQ ?_ | refine ZzR ?_ | refine ZzN ?_)
 have hB := a1.eq
 refine RunL.store (v := .agg (vals kTab).toArray) Tryz.tOk rfl rfl rfl rfl rfl (cs := List.replicate 64 (.int .u32 0)) a1.at_ rfl rfl fun w2 t2 => ?_
 have X2 : Ext w w2 := a1.ext.write t2.ext (by intro i hi hlt; subst hi; omega)
 have D2 : Blk w2 B (vals kTab) 169 := by
  have := t2.at_
  rw [show (Value.agg (vals kTab).toArray).cells.toList = vals kTab from rfl, setAt_all _ _ (by rw [vals_length]; rfl)] at this
  exact this
 repeat (first | refine ZzN ?_)
 exact RunE.retFn Tryz.func158 (.cell rfl (.agg Tryz.tOk rfl rfl rfl D2.row) .nil) ⟨rfl, X2⟩

set_option maxRecDepth 4000 in
set_option maxHeartbeats 4000000 in
set_option maxRecDepth 4000 in
theorem rblock_ok (s : S8) (l : List UInt8) (v : Value) (w : World) (hl : l.length = 64) (hv : IsSl w 1 v 64 (bytesV l)) :
  Rets Tryz.prog 154 [.agg (vals s.l).toArray, v] w fun r w' => r = .agg (vals (block s l).l).toArray ∧ Ext w w' := by
 obtain ⟨b', o', cap, rfl, hr, -, hc⟩ := hv.held (by decide)
 refine RetsX.of (nt := 191) Tryz.func154 (by kernel_rfl) rfl rfl (by simp) (by simp only [argEnv]; rfl) ?_
 repeat (first | refine ZzQ ?_ | refine ZzR ?_)
 refine RunL.box rfl rfl rfl fun B2 w1 a1 => ?_
 refine RunL.alloc Tryz.tOk rfl rfl rfl fun B4 w2 a2 => ?_
 repeat (first | refine RunL.pure Tryz.tOk rfl rfl rfl ?_ | refine ZzQ ?_ | refine ZzR ?_ | refine ZzN ?_)
 refine RunL.alloc Tryz.tOk rfl rfl rfl fun B5 w3 a3 => ?_
 refine RunL.store (v := .agg (vals (List.replicate 64 0)).toArray) Tryz.tOk rfl rfl rfl rfl rfl (cs := List.replicate 64 (.int .u32 0)) a3.at_ rfl rfl fun w4 t4 => ?_
 have hB2 := a1.eq
 have hB4 := a2.eq
 have hB5 := a3.eq
 have z1 := a1.size
 have z2 := a2.size
 have z3 := a3.size
 have X4 : Ext w w4 := ((a1.ext.trans a2.ext).trans a3.ext).write t4.ext (by intro i hi hlt; subst hi; omega)
 have S4 : Blk w4 B2 (vals s.l) 141 := Blk.ext (Blk.ext (w := w1) (cs := vals s.l) a1.at_ (a2.ext.trans a3.ext) id) t4.ext (by omega)
 have R4 : Blk w4 B4 (List.replicate 8 (.int .u32 0)) 141 := Blk.ext (Blk.ext (w := w2) (cs := List.replicate 8 (.int .u32 0)) a2.at_ a3.ext id) t4.ext (by omega)
 have Z4 : Blk w4 B5 (vals (words l 0 ++ List.replicate (64 - 0) 0)) 169 := by
  have := t4.at_
  rw [show (Value.agg (vals (List.replicate 64 0)).toArray).cells.toList = vals (List.replicate 64 0) from rfl, setAt_all _ _ (by rw [vals_length]; rfl)] at this
  exact this
 clear a1 a2 a3 t4
 repeat (first | refine RunL.pureI Tryz.tOk rfl rfl rfl (by (rfl)) ?_ | refine ZzQ ?_ | refine ZzR ?_ | refine ZzN ?_ | refine ZzB ?_)
 refine RunE.loop (ι := Nat) (fun j => [(1, .slice (some ⟨b', o', none⟩) 64 cap), (2, .pointer (some ⟨B2, 0, none⟩)), (4, .pointer (some ⟨B4, 0, none⟩)), (5, .pointer (some ⟨B5, 0, none⟩)), (6, .int .i64 (j : Int))])
  (fun j w' => j ≤ 16 ∧ Ext w w' ∧ Blk w' B2 (vals s.l) 141 ∧ Blk w' B4 (List.replicate 8 (.int .u32 0)) 141 ∧ Blk w' B5 (vals (words l j ++ List.replicate (64 - j) 0)) 169) (fun j => 16 - j) 0 (by repeat (first | exact Sub.nil _ | refine Sub.cons rfl ?_)) ⟨by omega, X4, S4, R4, Z4⟩ ?_
 clear X4 S4 R4 Z4
 rintro j w5 ⟨hj, X5, S5, R5, Z5⟩ again
 repeat (first | refine RunL.pureI Tryz.tOk rfl rfl rfl (by (rfl)) ?_ | refine RunL.pure Tryz.tOk rfl rfl rfl ?_ | refine ZzQ ?_ | refine ZzR ?_ | refine ZzN ?_)
 refine RunE.cond rfl (fun hlt => ?_) (fun hlt => ?_) <;> (first | replace hlt := of_decide_eq_true hlt | replace hlt := of_decide_eq_false hlt)
 ·repeat (first | refine RunL.pureI Tryz.tOk rfl rfl rfl (by (first | exact wr_i64 (by omega) (by omega) | rfl)) ?_ | refine RunL.pure Tryz.tOk rfl rfl rfl ?_ | refine ZzQ ?_ | refine ZzR ?_ | refine ZzB ?_ | refine ZzK ?_)
  refine RunL.val rfl rfl rfl (OpV.sliceSq (lo := 4 * j) (hi := 4 * j + 4) (q := o' + 4 * j) (len := 4) (cap := cap - 4 * j) Tryz.tOk rfl rfl (.some rfl (by omega)) (.some rfl (by omega)) (by omega) (by omega) (by rw [offOf_lt (by omega)]; omega) (by omega) rfl) ?_
  have hrow : Row w5 b' (o' + 4 * j) (bytesV [l.getD (4 * j) 0, l.getD (4 * j + 1) 0, l.getD (4 * j + 2) 0, l.getD (4 * j + 3) 0]) := by
   refine (hr.extE X5).window fun i v hv => ?_
   match i, hv with
   | 0, hv => rw [bytesV_get (by omega)]; exact hv
   | 1, hv => rw [bytesV_get (by omega)]; exact hv
   | 2, hv => rw [bytesV_get (by omega)]; exact hv
   | 3, hv => rw [bytesV_get (by omega)]; exact hv
  refine RunL.call rfl rfl rfl (refWord_ok _ _ _ _ _ _ _ _ _ (by omega) hrow) ?_
  rintro _ w6 ⟨rfl, X6⟩
  have Y6 := X5.trans X6
  refine RunL.val rfl rfl rfl (OpV.indexA1 Tryz.tOk j rfl rfl rfl rfl (by omega)) ?_
  refine RunL.store Tryz.tOk rfl rfl rfl rfl rfl (Z5.ext X6 id) (by simp [vals_length, words_length, Value.cells]; omega) rfl fun w7 t7 => ?_
  have X7 : Ext w w7 := Y6.write t7.ext (by intro i hi hlt; subst hi; omega)
  have S7 := (S5.ext X6 id).ext t7.ext (by omega)
  have R7 := (R5.ext X6 id).ext t7.ext (by omega)
  have Z7 : Blk w7 B5 (vals (words l (j + 1) ++ List.replicate (64 - (j + 1)) 0)) 169 := by
   have := t7.at_
   have e := set_next (words l j) (64 - (j + 1)) (word (l.getD (4 * j) 0) (l.getD (4 * j + 1) 0) (l.getD (4 * j + 2) 0) (l.getD (4 * j + 3) 0))
   rw [words_length, show 64 - (j + 1) + 1 = 64 - j by omega] at e
   unfold Blk
   rw [words, ← e, this]
   rw [Nat.zero_add]
   rfl
  repeat (first | refine RunL.pureI Tryz.tOk rfl rfl rfl (by (first | exact wr_i64 (by omega) (by omega) | rfl)) ?_ | refine ZzR ?_ | refine ZzN ?_ | refine ZzI ?_)
  exact RunE.weaken (by repeat (first | exact Sub.nil _ | refine Sub.cons rfl ?_)) (again (j + 1) _ (by omega) ⟨by omega, X7, S7, R7, Z7⟩)
 ·have hj16 : j = 16 := by omega
  subst hj16
  clear again
  repeat (first | refine RunL.pureI Tryz.tOk rfl rfl rfl (by (rfl)) ?_ | refine ZzQ ?_ | refine ZzR ?_ | refine ZzN ?_ | refine ZzB ?_ | refine RunE.exit rfl ?_)
  refine RunE.loop (ι := Nat) (fun k => [(2, .pointer (some ⟨B2, 0, none⟩)), (4, .pointer (some ⟨B4, 0, none⟩)), (5, .pointer (some ⟨B5, 0, none⟩)), (7, .int .i64 ((16 + k : Nat) : Int))])
   (fun k w' => k ≤ 48 ∧ Ext w w' ∧ Blk w' B2 (vals s.l) 141 ∧ Blk w' B4 (List.replicate 8 (.int .u32 0)) 141 ∧ Blk w' B5 (vals (sched (words l 16) k ++ List.replicate (48 - k) 0)) 169) (fun k => 48 - k) 0 (by repeat (first | exact Sub.nil _ | refine Sub.cons rfl ?_)) ⟨by omega, X5, S5, R5, Z5⟩ ?_
  clear X5 S5 R5 Z5
  rintro k w4 ⟨hk48, X4, S4, R4, Z4⟩ again
  have hsl : (sched (words l 16) k).length = 16 + k := by rw [sched_length, words_length]
  repeat (first | refine RunL.pureI Tryz.tOk rfl rfl rfl (by (rfl)) ?_ | refine RunL.pure Tryz.tOk rfl rfl rfl ?_ | refine ZzQ ?_ | refine ZzR ?_ | refine ZzN ?_)
  refine RunE.cond rfl (fun hlt2 => ?_) (fun hlt2 => ?_) <;> (first | replace hlt2 := of_decide_eq_true hlt2 | replace hlt2 := of_decide_eq_false hlt2)
  ·repeat (first | refine RunL.pureI Tryz.tOk rfl rfl rfl (by (first | exact wr_i64 (by omega) (by omega) | rfl)) ?_ | refine ZzQ ?_ | refine ZzR ?_ | refine ZzB ?_ | refine ZzK ?_)
   refine RunL.val rfl rfl rfl (OpV.indexA1 Tryz.tOk (k + 1) rfl rfl rfl (by omega) (by omega)) ?_
   refine RunL.val rfl rfl rfl (OpV.load1 Tryz.tOk rfl rfl rfl (Z4.row (k + 1) _ (vals_get _ (by omega)))) ?_
   repeat (first | refine RunL.pureI Tryz.tOk rfl rfl rfl (by (first | exact wr_i64 (by omega) (by omega) | rfl)) ?_ | refine ZzQ ?_ | refine ZzR ?_ | refine ZzN ?_)
   refine RunL.val rfl rfl rfl (OpV.indexA1 Tryz.tOk (k + 14) rfl rfl rfl (by omega) (by omega)) ?_
   refine RunL.val rfl rfl rfl (OpV.load1 Tryz.tOk rfl rfl rfl (Z4.row (k + 14) _ (vals_get _ (by omega)))) ?_
   repeat (first | refine RunL.pureI Tryz.tOk rfl rfl rfl (by (rfl)) ?_ | refine ZzN ?_)
   refine RunE.draw (fun _ => False) mix ?_
   intro w8 X8
   have Z8 := Z4.ext X8 id
   repeat (first | refine Asy.pureI Tryz.tOk rfl rfl rfl (by (first | exact wr_i64 (by omega) (by omega) | rfl)) ?_)
   refine Asy.v rfl rfl rfl rfl (fun _ _ => OpV.indexA1 Tryz.tOk k rfl rfl rfl (by omega) (by omega)) ?_
   refine Asy.v rfl rfl rfl rfl (fun _ X' => OpV.load1 Tryz.tOk rfl rfl rfl ((Z8.ext X' id).row k _ (vals_get _ (by omega)))) ?_
   repeat (first | refine Asy.pureI Tryz.tOk rfl rfl rfl (by (rfl)) ?_)
   refine Asy.val rfl rfl rfl rfl (fun _ _ => OpE.call rfl (ror_ok _ 7 (by decide) _)) ?_
   repeat (first | refine Asy.pureI Tryz.tOk rfl rfl rfl (by (rfl)) ?_)
   refine Asy.val rfl rfl rfl rfl (fun _ _ => OpE.call rfl (ror_ok _ 18 (by decide) _)) ?_
   repeat (first | refine Asy.v rfl rfl rfl rfl (fun _ X_ => OpV.xor32 rfl rfl) ?_ | refine Asy.v rfl rfl rfl rfl (fun _ X_ => OpV.add32 rfl rfl) ?_ | refine Asy.v rfl rfl rfl rfl (fun _ X_ => OpV.shr32 rfl rfl rfl) ?_ | refine Asy.pureI Tryz.tOk rfl rfl rfl (by (first | exact wr_i64 (by omega) (by omega) | rfl)) ?_)
   refine Asy.v rfl rfl rfl rfl (fun _ _ => OpV.indexA1 Tryz.tOk (k + 9) rfl rfl rfl (by omega) (by omega)) ?_
   refine Asy.v rfl rfl rfl rfl (fun _ X' => OpV.load1 Tryz.tOk rfl rfl rfl ((Z8.ext X' id).row (k + 9) _ (vals_get _ (by omega)))) ?_
   repeat (first | refine Asy.v rfl rfl rfl rfl (fun _ X_ => OpV.add32 rfl rfl) ?_ | refine Asy.pureI Tryz.tOk rfl rfl rfl (by (rfl)) ?_)
   refine Asy.val rfl rfl rfl rfl (fun _ _ => OpE.call rfl (ror_ok _ 17 (by decide) _)) ?_
   repeat (first | refine Asy.pureI Tryz.tOk rfl rfl rfl (by (rfl)) ?_)
   refine Asy.val rfl rfl rfl rfl (fun _ _ => OpE.call rfl (ror_ok _ 19 (by decide) _)) ?_
   repeat (first | refine Asy.v rfl rfl rfl rfl (fun _ X_ => OpV.xor32 rfl rfl) ?_ | refine Asy.v rfl rfl rfl rfl (fun _ X_ => OpV.add32 rfl rfl) ?_ | refine Asy.v rfl rfl rfl rfl (fun _ X_ => OpV.shr32 rfl rfl rfl) ?_ | refine Asy.pureI Tryz.tOk rfl rfl rfl (by (rfl)) ?_)
   refine Asy.tail (by kernel_rfl) ?_
   intro w9 X9
   simp only [satsAll]
   refine RunL.val rfl rfl rfl (OpV.indexA1 Tryz.tOk (16 + k) rfl rfl rfl rfl (by omega)) ?_
   refine RunL.store Tryz.tOk rfl rfl rfl rfl rfl (Z8.ext X9 id) (by simp [vals_length, hsl, Value.cells]; omega) rfl fun w10 t10 => ?_
   have X10 : Ext w w10 := (X4.trans (X8.trans X9)).write t10.ext (by intro i hi hlt; subst hi; omega)
   have S10 := (S4.ext (X8.trans X9) id).ext t10.ext (by omega)
   have R10 := (R4.ext (X8.trans X9) id).ext t10.ext (by omega)
   have Z10 : Blk w10 B5 (vals (sched (words l 16) (k + 1) ++ List.replicate (48 - (k + 1)) 0)) 169 := by
    have := t10.at_
    have e := set_at (n := 48 - (k + 1)) (nextW (sched (words l 16) k) k) hsl
    rw [show 48 - (k + 1) + 1 = 48 - k by omega] at e
    unfold Blk
    rw [sched, ← e, this]
    rw [Nat.zero_add]
    rfl
   repeat (first | refine RunL.pureI Tryz.tOk rfl rfl rfl (by (first | exact wr_i64 (by omega) (by omega) | rfl)) ?_ | refine ZzR ?_ | refine ZzN ?_ | refine ZzI ?_)
   exact RunE.weaken (by repeat (first | exact Sub.nil _ | refine Sub.cons rfl ?_)) (again (k + 1) _ (by omega) ⟨by omega, X10, S10, R10, Z10⟩)
  ·have hk : k = 48 := by omega
   subst hk
   clear again
   repeat (first | refine ZzQ ?_ | refine ZzR ?_ | refine RunE.exit rfl ?_)
   refine RunL.call rfl rfl rfl (numbers_ok _) ?_
   rintro _ w5 ⟨rfl, X5⟩
   refine RunL.alloc Tryz.tOk rfl rfl rfl fun B10 w6 a6 => ?_
   refine RunL.store (v := .agg (vals kTab).toArray) Tryz.tOk rfl rfl rfl rfl rfl (cs := List.replicate 64 (.int .u32 0)) a6.at_ rfl rfl fun w7 t7 => ?_
   have hB10 := a6.eq
   have y5 := X5.size
   have lt5 := Z4.lt
   have X7 : Ext w w7 := ((X4.trans X5).trans a6.ext).write t7.ext (by intro i hi hlt; subst hi; have := X4.size; omega)
   have S7 := (S4.ext (X5.trans a6.ext) id).ext t7.ext (by have := S4.lt; omega)
   have R7 := (R4.ext (X5.trans a6.ext) id).ext t7.ext (by have := R4.lt; omega)
   have Z7 := (Z4.ext (X5.trans a6.ext) id).ext t7.ext (by omega)
   have K7 : Blk w7 B10 (vals kTab) 169 := by
    have := t7.at_
    rw [show (Value.agg (vals kTab).toArray).cells.toList = vals kTab from rfl, setAt_all _ _ (by rw [vals_length]; rfl)] at this
    exact this
   clear X4 S4 R4 Z4 X5 a6 t7
   generalize hws : sched (words l 16) 48 = ws at Z7 hsl
   repeat (first | refine ZzQ ?_ | refine ZzN ?_)
   refine RunE.draw (fun _ => False) mix ?_
   intro w8 X8
   have S8 := S7.ext X8 id
   repeat (first | refine Asy.pureI Tryz.tOk rfl rfl rfl (by (rfl)) ?_ | refine Asy.v rfl rfl rfl rfl (fun _ X_ => OpV.indexAK Tryz.tOk rfl rfl rfl rfl) ?_ | refine Asy.v rfl rfl rfl rfl (fun _ X_ => OpV.load1 Tryz.tOk rfl rfl rfl (Blk.cell (S8.ext X_ id) rfl)) ?_)
   refine Asy.tail (by kernel_rfl) ?_
   intro w9 X9
   simp only [satsAll]
   repeat (first | refine RunL.pureI Tryz.tOk rfl rfl rfl (by (rfl)) ?_ | refine ZzQ ?_ | refine ZzR ?_ | refine ZzN ?_ | refine ZzB ?_)
   have Y9 := X8.trans X9
   have X10 := X7.trans Y9
   have S10 := S7.ext Y9 id
   have R10 := R7.ext Y9 id
   have Z10 := Z7.ext Y9 id
   have K10 := K7.ext Y9 id
   clear X7 S7 R7 Z7 K7 X8 X9 Y9 S8
   refine RunE.loop (ι := Nat) (fun t => [(2, .pointer (some ⟨B2, 0, none⟩)), (4, .pointer (some ⟨B4, 0, none⟩)), (5, .pointer (some ⟨B5, 0, none⟩)), (10, .pointer (some ⟨B10, 0, none⟩)), (11, .int .u32 ((rnds ws s t).a.toNat : Int)),
     (12, .int .u32 ((rnds ws s t).b.toNat : Int)), (13, .int .u32 ((rnds ws s t).c.toNat : Int)), (14, .int .u32 ((rnds ws s t).d.toNat : Int)), (15, .int .u32 ((rnds ws s t).e.toNat : Int)), (16, .int .u32 ((rnds ws s t).f.toNat : Int)),
     (17, .int .u32 ((rnds ws s t).g.toNat : Int)), (18, .int .u32 ((rnds ws s t).h.toNat : Int)), (19, .int .i64 (t : Int))])
    (fun t w' => t ≤ 64 ∧ Ext w w' ∧ Blk w' B2 (vals s.l) 141 ∧ Blk w' B4 (List.replicate 8 (.int .u32 0)) 141 ∧ Blk w' B5 (vals (ws ++ [])) 169 ∧ Blk w' B10 (vals (kTab ++ [])) 169) (fun t => 64 - t) 0 (by repeat (first | exact Sub.nil _ | refine Sub.cons rfl ?_)) ⟨by omega, X10, S10, R10, Z10, K10⟩ ?_
   clear X10 S10 R10 Z10 K10
   rintro t u0 ⟨ht, X0, S0, R0, Z0, K0⟩ again
   repeat (first | refine RunL.pureI Tryz.tOk rfl rfl rfl (by (rfl)) ?_ | refine RunL.pure Tryz.tOk rfl rfl rfl ?_ | refine ZzQ ?_ | refine ZzR ?_ | refine ZzN ?_)
   refine RunE.cond rfl (fun hlt3 => ?_) (fun hlt3 => ?_) <;> (first | replace hlt3 := of_decide_eq_true hlt3 | replace hlt3 := of_decide_eq_false hlt3)
   ·have ht' : t < kTab.length := by simp [kTab]; omega
    repeat (first | refine ZzQ ?_ | refine ZzB ?_ | refine ZzK ?_)
    refine RunE.draw (fun _ => False) mix ?_
    intro u1 X1
    repeat (first | refine Asy.pureI Tryz.tOk rfl rfl rfl (by (rfl)) ?_)
    refine Asy.val rfl rfl rfl rfl (fun _ _ => OpE.call rfl (ror_ok _ 6 (by decide) _)) ?_
    repeat (first | refine Asy.pureI Tryz.tOk rfl rfl rfl (by (rfl)) ?_)
    refine Asy.val rfl rfl rfl rfl (fun _ _ => OpE.call rfl (ror_ok _ 11 (by decide) _)) ?_
    repeat (first | refine Asy.v rfl rfl rfl rfl (fun _ X_ => OpV.xor32 rfl rfl) ?_ | refine Asy.pureI Tryz.tOk rfl rfl rfl (by (rfl)) ?_)
    refine Asy.val rfl rfl rfl rfl (fun _ _ => OpE.call rfl (ror_ok _ 25 (by decide) _)) ?_
    repeat (first | refine Asy.v rfl rfl rfl rfl (fun _ X_ => OpV.xor32 rfl rfl) ?_ | refine Asy.v rfl rfl rfl rfl (fun _ X_ => OpV.and32 rfl rfl) ?_ | refine Asy.v rfl rfl rfl rfl (fun _ X_ => OpV.add32 rfl rfl) ?_ | refine Asy.pureI Tryz.tOk rfl rfl rfl (by (rfl)) ?_)
    refine Asy.v rfl rfl rfl rfl (fun _ _ => OpV.compl rfl (u32_compl _)) ?_
    repeat (first | refine Asy.v rfl rfl rfl rfl (fun _ X_ => OpV.xor32 rfl rfl) ?_ | refine Asy.v rfl rfl rfl rfl (fun _ X_ => OpV.and32 rfl rfl) ?_ | refine Asy.v rfl rfl rfl rfl (fun _ X_ => OpV.add32 rfl rfl) ?_ | refine Asy.pureI Tryz.tOk rfl rfl rfl (by (rfl)) ?_)
    refine Asy.v rfl rfl rfl rfl (fun _ _ => OpV.indexA1 Tryz.tOk t rfl rfl rfl rfl (by omega)) ?_
    refine Asy.v rfl rfl rfl rfl (fun _ X' => OpV.load1 Tryz.tOk rfl rfl rfl (((K0.ext X1 id).ext X' id).row t _ (vals_get _ ht'))) ?_
    repeat (first | refine Asy.v rfl rfl rfl rfl (fun _ X_ => OpV.add32 rfl rfl) ?_ | refine Asy.pureI Tryz.tOk rfl rfl rfl (by (rfl)) ?_)
    refine Asy.v rfl rfl rfl rfl (fun _ _ => OpV.indexA1 Tryz.tOk t rfl rfl rfl rfl (by omega)) ?_
    refine Asy.v rfl rfl rfl rfl (fun _ X' => OpV.load1 Tryz.tOk rfl rfl rfl (((Z0.ext X1 id).ext X' id).row t _ (vals_get _ (by omega)))) ?_
    repeat (first | refine Asy.v rfl rfl rfl rfl (fun _ X_ => OpV.add32 rfl rfl) ?_ | refine Asy.pureI Tryz.tOk rfl rfl rfl (by (rfl)) ?_)
    refine Asy.tail (by kernel_rfl) ?_
    intro u2 X2
    simp only [satsAll]
    have Y2 := X1.trans X2
    clear X1 X2
    repeat (first | refine RunL.pureI Tryz.tOk rfl rfl rfl (by (rfl)) ?_ | refine ZzQ ?_ | refine ZzR ?_ | refine ZzN ?_)
    refine RunL.call rfl rfl rfl (ror_ok _ 2 (by decide) _) ?_
    rintro _ u3 ⟨rfl, X3⟩
    repeat (first | refine RunL.pureI Tryz.tOk rfl rfl rfl (by (rfl)) ?_)
    refine RunL.call rfl rfl rfl (ror_ok _ 13 (by decide) _) ?_
    rintro _ u4 ⟨rfl, X4⟩
    repeat (first | refine RunL.val rfl rfl rfl (OpV.xor32 rfl rfl) ?_ | refine RunL.pureI Tryz.tOk rfl rfl rfl (by (rfl)) ?_)
    refine RunL.call rfl rfl rfl (ror_ok _ 22 (by decide) _) ?_
    rintro _ u5 ⟨rfl, X5⟩
    have Y5 := ((Y2.trans X3).trans X4).trans X5
    repeat (first | refine RunL.val rfl rfl rfl (OpV.xor32 rfl rfl) ?_ | refine RunL.val rfl rfl rfl (OpV.and32 rfl rfl) ?_ | refine RunL.val rfl rfl rfl (OpV.add32 rfl rfl) ?_ | refine RunL.pureI Tryz.tOk rfl rfl rfl (by (first | exact wr_i64 (by omega) (by omega) | rfl)) ?_ | refine ZzR ?_ | refine ZzN ?_ | refine ZzI ?_)
    refine RunE.weaken (by repeat (first | exact Sub.nil _ | refine Sub.cons rfl ?_)) (again (t + 1) _ (by omega) ⟨by omega, X0.trans Y5, S0.ext Y5 id, R0.ext Y5 id, Z0.ext Y5 id, K0.ext Y5 id⟩)
   ·have ht64 : t = 64 := by omega
    subst ht64
    clear again
    have hbl : block s l = s.add (rnds ws s 64) := by rw [block, hws]
    generalize rnds ws s 64 = v at hbl ⊢
    repeat (first | refine RunL.val rfl rfl rfl (OpV.add32 rfl rfl) ?_ | refine RunL.pureI Tryz.tOk rfl rfl rfl (by (rfl)) ?_ | refine RunL.pure Tryz.tOk rfl rfl rfl ?_ | refine RunL.val rfl rfl rfl (OpV.indexAK Tryz.tOk rfl rfl rfl rfl) ?_ | refine RunL.val rfl rfl rfl (OpV.load1 Tryz.tOk rfl rfl rfl (Blk.cell S0 rfl)) ?_ | refine ZzQ ?_ | refine ZzR ?_ | refine RunE.exit rfl ?_)
    refine RunL.store Tryz.tOk rfl rfl rfl rfl rfl R0 rfl rfl fun u1 t1 => ?_
    have X1 : Ext w u1 := X0.write t1.ext (by intro i hi hlt; subst hi; omega)
    repeat (first | refine ZzN ?_)
    refine RunE.retFn Tryz.func154 (.cell rfl (.agg Tryz.tOk rfl rfl rfl (Blk.row (show Blk u1 B4 (vals (s.add v).l) _ from t1.at_))) .nil) ⟨?_, X1⟩
    rw [hbl]; rfl

set_option maxRecDepth 4000 in
theorem padded_ok (v : Value) (l : List UInt8) (w : World) (hv : IsSl w 1 v l.length (bytesV l)) (hl : l.length ≤ 1000000000) :
  Rets Tryz.prog 153 [v] w fun r w' => w'.ownsRow w.heap.size 5 1 r (pad l).length (bytesV (pad l)) ∧ Ext w w' := by
 refine RetsX.of (nt := 35) Tryz.func153 (by kernel_rfl) rfl rfl (by simp) (by simp only [argEnv]; rfl) ?_
 repeat (first | refine RunL.pure Tryz.tOk rfl rfl rfl ?_ | refine ZzQ ?_ | refine ZzR ?_ | refine ZzN ?_)
 refine RunL.ex rfl rfl rfl (OpE.buildSl Tryz.tOk [] rfl rfl rfl rfl rfl rfl (by simp)) ?_
 rintro _ w1 ⟨B6, rfl, a1⟩
 have O1 := ownsRow_added (n := 0) (sz := 1) a1 (Nat.le_of_eq a1.eq.symm) rfl (by simp [maxLen])
 have X1 := a1.ext
 clear a1
 repeat (first | refine RunL.pure Tryz.tOk rfl rfl rfl ?_)
 refine RunL.ex rfl rfl rfl (OpE.append Tryz.tOk rfl rfl rfl rfl rfl rfl O1 (hv.extE X1) (bytesV_plain _) (by show _ * 1 ≤ _; omega) (by omega) X1.size) ?_
 rintro v2 w2 ⟨O2, E2⟩
 have X2 : Ext w w2 := X1.write E2 (by intro i hi hlt; have := ownsRow_ge O1 hi; omega)
 clear O1 X1 E2
 refine RunL.ex rfl rfl rfl (OpE.buildSl Tryz.tOk [.int .u8 128] rfl rfl rfl rfl rfl rfl (by simp [Value.cells])) ?_
 rintro _ w3 ⟨B9, rfl, a3⟩
 have X3 := X2.trans a3.ext
 have O3 := ownsRow_ext O2 a3.ext (fun _ _ h => h)
 refine RunL.ex rfl rfl rfl (OpE.append Tryz.tOk rfl rfl rfl rfl rfl rfl O3 (isSl_added (n := 1) (sz := 1) a3 rfl) rfl (by show _ * 1 ≤ _; omega) (by omega) X3.size) ?_
 rintro v4 w4 ⟨O4, E4⟩
 have X4 : Ext w w4 := X3.write E4 (by intro i hi hlt; have := ownsRow_ge O3 hi; omega)
 clear X2 X3 O2 O3 a3 E4
 repeat (first | refine RunL.pure Tryz.tOk rfl rfl rfl ?_ | refine ZzQ ?_ | refine ZzN ?_ | refine ZzB ?_)
 have O4' : w4.ownsRow w.heap.size 5 1 v4 (l.length + 1 + 0) (bytesV (l ++ 128 :: List.replicate 0 0)) := by
  rw [bytesV_append]; simpa [cellsAll, Value.cells, bytesV] using O4
 have hz64 : padz l.length < 64 := by unfold padz; omega
 refine RunE.loop (ι := Nat × Value) (fun x => [(0, v), (3, x.2)])
  (fun x w' => x.1 ≤ padz l.length ∧ Ext w w' ∧ w'.ownsRow w.heap.size 5 1 x.2 (l.length + 1 + x.1) (bytesV (l ++ 128 :: List.replicate x.1 0))) (fun x => padz l.length - x.1) (0, v4) (by repeat (first | exact Sub.nil _ | refine Sub.cons rfl ?_)) ⟨by simp, X4, O4'⟩ ?_
 clear O4 O4' X4
 rintro ⟨j, u⟩ w5 ⟨hj, X5, O5⟩ again
 simp only at hj O5 again ⊢
 repeat (first | refine RunL.pure Tryz.tOk rfl rfl rfl ?_ | refine ZzQ ?_ | refine ZzR ?_)
 refine RunL.val rfl rfl rfl (OpV.lenSl Tryz.tOk rfl rfl (isSl_own O5)) ?_
 repeat (first | refine RunL.pureI Tryz.tOk rfl rfl rfl (by (first | exact wm_i64 (by omega) | rfl)) ?_ | refine RunL.pure Tryz.tOk rfl rfl rfl ?_ | refine ZzN ?_)
 refine RunE.cond rfl (fun hne => ?_) (fun hne => ?_) <;> (first | replace hne := bne_iff_ne.1 hne | replace hne := bne_eq_false_iff_eq.1 hne)
 ·have hj' : j < padz l.length := by
   rcases Nat.lt_or_ge j (padz l.length) with h | h
   ·exact h
   ·exfalso; apply hne; have : j = padz l.length := by omega
    subst this; unfold padz; omega
  repeat (first | refine RunL.pure Tryz.tOk rfl rfl rfl ?_ | refine ZzR ?_ | refine ZzB ?_ | refine ZzK ?_)
  refine RunL.ex rfl rfl rfl (OpE.buildSl Tryz.tOk [.int .u8 0] rfl rfl rfl rfl rfl rfl (by simp [Value.cells])) ?_
  rintro _ w6 ⟨B16, rfl, a6⟩
  have X6 := X5.trans a6.ext
  have O6 := ownsRow_ext O5 a6.ext (fun _ _ h => h)
  refine RunL.ex rfl rfl rfl (OpE.append Tryz.tOk rfl rfl rfl rfl rfl rfl O6 (isSl_added (n := 1) (sz := 1) a6 rfl) rfl (by show _ * 1 ≤ _; omega) (by omega) X6.size) ?_
  rintro u7 w7 ⟨O7, E7⟩
  have X7 : Ext w w7 := X6.write E7 (by intro i hi hlt; have := ownsRow_ge O6 hi; omega)
  repeat (first | refine RunL.pure Tryz.tOk rfl rfl rfl ?_ | refine ZzN ?_ | refine ZzI ?_)
  refine RunE.weaken (by repeat (first | exact Sub.nil _ | refine Sub.cons rfl ?_)) (again (j + 1, u7) _ (by simp only; omega) ⟨by simp only; omega, X7, ?_⟩)
  simp only
  have e : l ++ 128 :: List.replicate (j + 1) (0 : UInt8) = (l ++ 128 :: List.replicate j 0) ++ [0] := by rw [List.replicate_succ']; simp
  rw [e, bytesV_append]
  exact O7
 ·have hjz : j = padz l.length := by unfold padz at hj ⊢; omega
  subst hjz
  clear again
  repeat (first | refine RunL.pure Tryz.tOk rfl rfl rfl ?_ | refine ZzQ ?_ | refine ZzR ?_ | refine RunE.exit rfl ?_)
  refine RunL.val rfl rfl rfl (OpV.lenSl Tryz.tOk rfl rfl hv) ?_
  repeat (first | refine RunL.pureI Tryz.tOk rfl rfl rfl (by (first | exact u64_nat _ (by omega) | exact u64_mul _ 8 (by omega) | rfl)) ?_ | refine ZzQ ?_ | refine ZzR ?_ | refine ZzN ?_ | refine ZzB ?_)
  rw [Nat.mul_comm l.length 8]
  refine RunE.loop (ι := Nat × Value) (fun x => [(3, x.2), (4, .int .u64 ((8 * l.length : Nat) : Int)), (5, .int .i64 (7 - (x.1 : Int)))])
   (fun x w' => x.1 ≤ 8 ∧ Ext w w' ∧ w'.ownsRow w.heap.size 5 1 x.2 (l.length + 1 + padz l.length + x.1) (bytesV (l ++ 128 :: (List.replicate (padz l.length) 0 ++ (be 8 (8 * l.length)).take x.1)))) (fun x => 8 - x.1) (0, u) (by repeat (first | exact Sub.nil _ | refine Sub.cons rfl ?_))
   ⟨by simp, X5, by simpa using O5⟩ ?_
  clear O5 X5
  rintro ⟨k, u⟩ w5 ⟨hk, X5, O5⟩ again
  simp only at hk O5 again ⊢
  repeat (first | refine RunL.pureI Tryz.tOk rfl rfl rfl (by (rfl)) ?_ | refine RunL.pure Tryz.tOk rfl rfl rfl ?_ | refine ZzQ ?_ | refine ZzR ?_ | refine ZzN ?_)
  refine RunE.cond rfl (fun hge => ?_) (fun hge => ?_) <;> (first | replace hge := of_decide_eq_true hge | replace hge := of_decide_eq_false hge)
  ·have hk8 : k < 8 := by omega
   have e7 : (8 : Int) * (7 - (k : Int)) = ((8 * (7 - k) : Nat) : Int) := by omega
   repeat (first | refine RunL.pureI Tryz.tOk rfl rfl rfl (by (first | exact (congrArg IntKind.i64.wrap e7).trans (wr_i64 (by omega) (by omega)) | exact u64_shr _ _ (by omega) | exact u8_of_nat _ | rfl)) ?_ | refine RunL.pure Tryz.tOk rfl rfl rfl ?_ | refine ZzQ ?_ | refine ZzR ?_ | refine ZzB ?_ | refine ZzK ?_)
   refine RunL.ex rfl rfl rfl (OpE.buildSl Tryz.tOk [.int .u8 ((UInt8.ofNat (8 * l.length / 2 ^ (8 * (7 - k)))).toNat : Int)] rfl rfl rfl rfl rfl rfl (by simp [Value.cells])) ?_
   rintro _ w6 ⟨B16, rfl, a6⟩
   have X6 := X5.trans a6.ext
   have O6 := ownsRow_ext O5 a6.ext (fun _ _ h => h)
   refine RunL.ex rfl rfl rfl (OpE.append Tryz.tOk rfl rfl rfl rfl rfl rfl O6 (isSl_added (n := 1) (sz := 1) a6 rfl) rfl (by show _ * 1 ≤ _; omega) (by omega) X6.size) ?_
   rintro u7 w7 ⟨O7, E7⟩
   have X7 : Ext w w7 := X6.write E7 (by intro i hi hlt; have := ownsRow_ge O6 hi; omega)
   repeat (first | refine RunL.pureI Tryz.tOk rfl rfl rfl (by (first | exact wr_i64 (by omega) (by omega) | rfl)) ?_ | refine RunL.pure Tryz.tOk rfl rfl rfl ?_ | refine ZzR ?_ | refine ZzN ?_ | refine ZzI ?_)
   refine RunE.weaken (by
    refine Sub.cons rfl (Sub.cons rfl (Sub.cons ?_ (Sub.nil _)))
    rw [show (7 : Int) - ((k + 1 : Nat) : Int) = 7 - (k : Int) - 1 by omega]; rfl) (again (k + 1, u7) _ (by simp only; omega) ⟨by simp only; omega, X7, ?_⟩)
   simp only
   have e : (be 8 (8 * l.length)).take (k + 1) = (be 8 (8 * l.length)).take k ++ [UInt8.ofNat (8 * l.length / 2 ^ (8 * (7 - k)))] := by
    rw [List.take_add_one, be_get _ _ _ hk8]; rfl
   have e2 : l ++ 128 :: (List.replicate (padz l.length) 0 ++ (be 8 (8 * l.length)).take (k + 1)) = (l ++ 128 :: (List.replicate (padz l.length) 0 ++ (be 8 (8 * l.length)).take k)) ++ [UInt8.ofNat (8 * l.length / 2 ^ (8 * (7 - k)))] := by rw [e]; simp
   rw [e2, bytesV_append]
   exact O7
  ·have hk8 : k = 8 := by omega
   subst hk8
   repeat (first | refine RunL.pure Tryz.tOk rfl rfl rfl ?_ | refine ZzQ ?_ | refine ZzR ?_ | refine ZzN ?_ | refine RunE.exit rfl ?_)
   refine RunE.retFn Tryz.func153 (.tmp rfl .nil) ⟨?_, X5⟩
   have e : (be 8 (8 * l.length)).take 8 = be 8 (8 * l.length) := rfl
   rw [e] at O5
   simp only [oneOr]
   rw [pad_length, show l.length + 9 + padz l.length = l.length + 1 + padz l.length + 8 by omega]
   exact O5

/-- The words of a state, byte by byte. -/
theorem dig_get (S : S8) (i : Nat) (h : i < 32) : (dig S)[i]? = some (UInt8.ofNat ((S.l.getD (i / 4) 0).toNat / 2 ^ (24 - 8 * (i % 4)))) := by
 have key : ∀ (L : List W) (q r : Nat), r < 4 → q < L.length → (L.flatMap fun x => be 4 x.toNat)[4 * q + r]? = some (UInt8.ofNat ((L.getD q 0).toNat / 2 ^ (8 * (3 - r)))) := by
  intro L
  induction L with
  | nil => intro q r _ hq; simp at hq
  | cons x L ih =>
   intro q r hr hq
   rw [List.flatMap_cons]
   cases q with
   | zero =>
    rw [List.getElem?_append_left (by rw [be_length]; omega), Nat.mul_zero, Nat.zero_add, be_get _ _ _ hr]
    rfl
   | succ q =>
    rw [List.getElem?_append_right (by rw [be_length]; omega), be_length, show 4 * (q + 1) + r - 4 = 4 * q + r by omega]
    rw [ih q r hr (by simpa using hq)]
    simp
 have h8 : S.l.length = 8 := rfl
 have := key S.l (i / 4) (i % 4) (by omega) (by omega)
 rw [show 4 * (i / 4) + i % 4 = i by omega, show 8 * (3 - i % 4) = 24 - 8 * (i % 4) by omega] at this
 exact this

set_option maxRecDepth 4000 in
set_option maxHeartbeats 4000000 in
set_option maxRecDepth 4000 in
theorem rsum_ok (v : Value) (l : List UInt8) (w : World) (hv : IsSl w 1 v l.length (bytesV l)) (hl : l.length ≤ 1000000000) :
  Rets Tryz.prog 142 [v] w fun r w' => r = .agg (bytesV (sha l)).toArray ∧ Ext w w' := by
 refine RetsX.of (nt := 42) Tryz.func142 (by kernel_rfl) rfl rfl (by simp) (by simp only [argEnv]; rfl) ?_
 repeat (first | refine ZzQ ?_ | refine ZzR ?_)
 refine RunL.alloc Tryz.tOk rfl rfl rfl fun B2 w1 a1 => ?_
 repeat (first | refine RunL.pure Tryz.tOk rfl rfl rfl ?_ | refine ZzQ ?_ | refine ZzR ?_ | refine ZzN ?_)
 refine RunL.alloc Tryz.tOk rfl rfl rfl fun B3 w2 a2 => ?_
 refine RunL.store (v := .agg (vals init8.l).toArray) Tryz.tOk rfl rfl rfl rfl rfl (cs := List.replicate 8 (.int .u32 0)) a2.at_ rfl rfl fun w3 t3 => ?_
 have hB2 := a1.eq
 have hB3 := a2.eq
 have hs1 := a1.size
 have X3 : Ext w w3 := (a1.ext.trans a2.ext).write t3.ext (by intro i hi hlt; subst hi; omega)
 have D3 : Blk w3 B2 (bytesV (List.replicate 32 0)) 32 := Blk.ext (Blk.ext (w := w1) (cs := List.replicate 32 (.int .u8 0)) a1.at_ a2.ext id) t3.ext (by omega)
 have V3 : Blk w3 B3 (vals (run init8 (pad l) 0).l) 141 := t3.at_
 clear a1 a2 t3
 repeat (first | refine RunL.pure Tryz.tOk rfl rfl rfl ?_ | refine ZzQ ?_ | refine ZzR ?_ | refine ZzN ?_)
 refine RunL.call rfl rfl rfl (padded_ok v l w3 (hv.extE X3) hl) ?_
 rintro p w4 ⟨O4, X4⟩
 have hpl := pad_length64 l
 have hpb := pad_length l
 have hz64 : padz l.length < 64 := by unfold padz; omega
 repeat (first | refine RunL.pureI Tryz.tOk rfl rfl rfl (by (rfl)) ?_ | refine RunL.pure Tryz.tOk rfl rfl rfl ?_ | refine ZzQ ?_ | refine ZzR ?_ | refine ZzN ?_ | refine ZzB ?_)
 refine RunE.loop (ι := Nat) (fun k => [(2, .pointer (some ⟨B2, 0, none⟩)), (3, .pointer (some ⟨B3, 0, none⟩)), (4, p), (5, .int .i64 ((64 * k : Nat) : Int))])
  (fun k w' => 64 * k ≤ (pad l).length ∧ Ext w w' ∧ Blk w' B2 (bytesV (List.replicate 32 0)) 32 ∧ Blk w' B3 (vals (run init8 (pad l) k).l) 141 ∧ w'.ownsRow w3.heap.size 5 1 p (pad l).length (bytesV (pad l)))
  (fun k => (pad l).length - 64 * k) 0 (by repeat (first | exact Sub.nil _ | refine Sub.cons rfl ?_)) ⟨by omega, X3.trans X4, D3.ext X4 id, V3.ext X4 id, O4⟩ ?_
 have hlt3 := V3.lt
 have hlt2 := D3.lt
 clear V3 D3 O4 X4
 rintro k w5 ⟨hk, X5, D5, V5, O5⟩ again
 repeat (first | refine RunL.pureI Tryz.tOk rfl rfl rfl (by (rfl)) ?_ | refine RunL.pure Tryz.tOk rfl rfl rfl ?_ | refine ZzQ ?_ | refine ZzR ?_)
 refine RunL.val rfl rfl rfl (OpV.lenSl Tryz.tOk rfl rfl (isSl_own O5)) ?_
 repeat (first | refine RunL.pure Tryz.tOk rfl rfl rfl ?_ | refine ZzN ?_)
 refine RunE.cond rfl (fun hlt => ?_) (fun hlt => ?_) <;> (first | replace hlt := of_decide_eq_true hlt | replace hlt := of_decide_eq_false hlt)
 ·have hlt' : 64 * k + 64 ≤ (pad l).length := by omega
  obtain ⟨b', o', cap, rfl, hr, hln, hc⟩ := (isSl_own O5).held (by omega)
  repeat (first | refine ZzQ ?_ | refine ZzB ?_ | refine ZzK ?_)
  refine RunE.draw (fun _ => False) mix ?_
  intro w6 X6
  refine Asy.v rfl rfl rfl rfl (fun _ X' => OpV.loadN (cs := vals (run init8 (pad l) k).l) Tryz.tOk rfl rfl rfl rfl ((V5.ext X6 id).ext X' id).row) ?_
  repeat (first | refine Asy.pureI Tryz.tOk rfl rfl rfl (by (first | exact wr_i64 (by omega) (by omega) | rfl)) ?_ | refine Asy.pure Tryz.tOk rfl rfl rfl ?_)
  refine Asy.v rfl rfl rfl rfl (fun _ _ => OpV.sliceSq (lo := 64 * k) (hi := 64 * k + 64) (q := o' + 64 * k) (len := 64) (cap := cap - 64 * k) Tryz.tOk rfl rfl (.some rfl rfl) (.some rfl (by omega)) (by omega) (by omega) (by rw [offOf_lt (by omega)]; omega) (by omega) rfl) ?_
  have sl : IsSl w6 1 (.slice (some ⟨b', o' + 64 * k, none⟩) 64 (cap - 64 * k)) 64 (bytesV (((pad l).drop (64 * k)).take 64)) := by
   refine .row ?_ (by rw [bytesV_length, List.length_take, List.length_drop]; omega) (by omega)
   rw [← bytesV_take, ← bytesV_drop]
   exact ((hr.extE X6).drop _).take _
  refine Asy.val rfl rfl rfl rfl (fun w' X' => OpE.call rfl (rblock_ok (run init8 (pad l) k) (((pad l).drop (64 * k)).take 64) _ _ (by rw [List.length_take, List.length_drop]; omega) (sl.extE X'))) ?_
  refine Asy.tail (by kernel_rfl) ?_
  intro w7 X7
  simp only [satsAll]
  have Y7 := X6.trans X7
  have e8 : run init8 (pad l) (k + 1) = block (run init8 (pad l) k) (((pad l).drop (64 * k)).take 64) := rfl
  rw [← e8]
  refine RunL.store (v := .agg (vals (run init8 (pad l) (k + 1)).l).toArray) Tryz.tOk rfl rfl rfl rfl rfl (V5.ext Y7 id) rfl rfl fun w8 t8 => ?_
  have X8 : Ext w w8 := (X5.trans Y7).write t8.ext (by intro i hi hlt; subst hi; omega)
  have D8 := (D5.ext Y7 id).ext t8.ext (by omega)
  have V8 : Blk w8 B3 (vals (run init8 (pad l) (k + 1)).l) 141 := t8.at_
  have O8 := ownsRow_ext (ownsRow_ext O5 Y7 fun _ _ h => h) t8.ext (by intro j hj e; have := ownsRow_ge O5 hj; omega)
  repeat (first | refine RunL.pureI Tryz.tOk rfl rfl rfl (by (first | exact wr_i64 (by omega) (by omega) | rfl)) ?_ | refine ZzR ?_ | refine ZzN ?_ | refine ZzI ?_)
  refine RunE.weaken (by
   refine Sub.cons rfl (Sub.cons rfl (Sub.cons rfl (Sub.cons ?_ (Sub.nil _))))
   rw [show ((64 * (k + 1) : Nat) : Int) = ((64 * k : Nat) : Int) + 64 by omega]; rfl) (again (k + 1) _ (by omega) ⟨by omega, X8, D8, V8, O8⟩)
 ·have hkn : k = (pad l).length / 64 := by omega
  clear again
  have hsha : sha l = dig (run init8 (pad l) k) := by rw [sha, hkn]
  rw [hsha]
  generalize run init8 (pad l) k = S at V5 ⊢
  repeat (first | refine RunL.pure Tryz.tOk rfl rfl rfl ?_ | refine ZzQ ?_ | refine ZzR ?_ | refine RunE.exit rfl ?_)
  refine RunL.alloc Tryz.tOk rfl rfl rfl fun B6 w6 a6 => ?_
  have hB6 := a6.eq
  have y5 := X5.size
  have lt2 := D5.lt
  have lt3 := V5.lt
  refine RunL.store (v := .agg (bytesV (List.replicate 32 0)).toArray) Tryz.tOk rfl rfl rfl rfl rfl (cs := List.replicate 32 (.int .u8 0)) a6.at_ rfl rfl fun w7 t7 => ?_
  have X7 : Ext w w7 := (X5.trans a6.ext).write t7.ext (by intro i hi hlt; subst hi; omega)
  have D7 := (D5.ext a6.ext id).ext t7.ext (by omega)
  have V7 := (V5.ext a6.ext id).ext t7.ext (by omega)
  have G7 : Blk w7 B6 (bytesV ((dig S).take 0 ++ List.replicate (32 - 0) 0)) 32 := t7.at_
  clear a6 t7 X5 D5 V5 O5
  have hdl := dig_length S
  repeat (first | refine RunL.pureI Tryz.tOk rfl rfl rfl (by (rfl)) ?_ | refine ZzQ ?_ | refine ZzR ?_ | refine ZzN ?_ | refine ZzB ?_)
  refine RunE.loop (ι := Nat) (fun i => [(2, .pointer (some ⟨B2, 0, none⟩)), (3, .pointer (some ⟨B3, 0, none⟩)), (6, .pointer (some ⟨B6, 0, none⟩)), (7, .int .i64 (i : Int))])
   (fun i w' => i ≤ 32 ∧ Ext w w' ∧ Blk w' B2 (bytesV (List.replicate 32 0)) 32 ∧ Blk w' B3 (vals S.l) 141 ∧ Blk w' B6 (bytesV ((dig S).take i ++ List.replicate (32 - i) 0)) 32) (fun i => 32 - i) 0 (by repeat (first | exact Sub.nil _ | refine Sub.cons rfl ?_)) ⟨by omega, X7, D7, V7, G7⟩ ?_
  clear X7 D7 V7 G7
  rintro i u0 ⟨hi, X0, D0, V0, G0⟩ again
  repeat (first | refine RunL.pureI Tryz.tOk rfl rfl rfl (by (rfl)) ?_ | refine RunL.pure Tryz.tOk rfl rfl rfl ?_ | refine ZzQ ?_ | refine ZzR ?_ | refine ZzN ?_)
  refine RunE.cond rfl (fun hlt32 => ?_) (fun hlt32 => ?_) <;> (first | replace hlt32 := of_decide_eq_true hlt32 | replace hlt32 := of_decide_eq_false hlt32)
  ·have hi32 : i < 32 := by omega
   have h24 : (24 : Int) - 8 * ((i : Int) % 4) = ((24 - 8 * (i % 4) : Nat) : Int) := by omega
   repeat (first | refine RunL.pureI Tryz.tOk rfl rfl rfl (by (first | exact wq_i64 (by omega) (by omega) (by omega) | rfl)) ?_ | refine ZzQ ?_ | refine ZzR ?_ | refine ZzB ?_ | refine ZzK ?_)
   refine RunL.val rfl rfl rfl (OpV.indexA1 Tryz.tOk (i / 4) rfl rfl rfl (by omega) (by omega)) ?_
   refine RunL.val rfl rfl rfl (OpV.load1 (v := .int .u32 ((S.l.getD (i / 4) 0).toNat : Int)) Tryz.tOk rfl rfl rfl (by rw [Nat.zero_add]; exact V0.cell (vals_get' (by show i / 4 < 8; omega)))) ?_
   repeat (first | refine RunL.pureI Tryz.tOk rfl rfl rfl (by (first | exact (congrArg IntKind.i64.wrap h24).trans (wr_i64 (by omega) (by omega)) | exact u32_shr' _ _ (by omega) | exact u8_of_nat _ | exact wr_i64 (by omega) (by omega) | exact wm_i64 (by omega) | rfl)) ?_)
   refine RunL.val rfl rfl rfl (OpV.indexA1 Tryz.tOk i rfl rfl rfl rfl (by omega)) ?_
   have eG : (dig S).take i ++ List.replicate (32 - i) 0 = (dig S).take i ++ 0 :: List.replicate (32 - (i + 1)) 0 := by rw [show 32 - i = (32 - (i + 1)) + 1 by omega, List.replicate_succ]
   rw [eG] at G0
   refine RunL.store Tryz.tOk rfl rfl rfl rfl rfl G0 (by simp [bytesV_length, Value.cells, hdl]; omega) rfl fun u1 t1 => ?_
   have X1 : Ext w u1 := X0.write t1.ext (by intro i hi hlt; subst hi; omega)
   have D1 := D0.ext t1.ext (by omega)
   have V1 := V0.ext t1.ext (by omega)
   have G1 : Blk u1 B6 (bytesV ((dig S).take (i + 1) ++ List.replicate (32 - (i + 1)) 0)) 32 := by
    have := t1.at_
    have e := set_byte ((dig S).take i) (List.replicate (32 - (i + 1)) 0) 0 (UInt8.ofNat ((S.l.getD (i / 4) 0).toNat / 2 ^ (24 - 8 * (i % 4)))) i (by rw [List.length_take, hdl]; omega)
    unfold Blk
    rw [List.take_add_one, dig_get S i hi32, List.append_assoc]
    rw [Nat.zero_add] at this
    rw [this]
    exact congrArg (fun x : List Value => some (Obj.cells x.toArray 32 (0, 0))) e
   repeat (first | refine RunL.pureI Tryz.tOk rfl rfl rfl (by (first | exact wr_i64 (by omega) (by omega) | rfl)) ?_ | refine ZzR ?_ | refine ZzN ?_ | refine ZzI ?_)
   exact RunE.weaken (by repeat (first | exact Sub.nil _ | refine Sub.cons rfl ?_)) (again (i + 1) _ (by omega) ⟨by omega, X1, D1, V1, G1⟩)
  ·have hi32 : i = 32 := by omega
   subst hi32
   have Gf : Blk u0 B6 (bytesV (dig S)) 32 := by
    rw [List.take_of_length_le (by omega)] at G0; simpa using G0
   clear G0
   generalize dig S = D at Gf hdl ⊢
   repeat (first | refine ZzQ ?_ | refine ZzR ?_ | refine RunE.exit rfl ?_)
   refine RunL.val rfl rfl rfl (OpV.loadN (cs := bytesV D) Tryz.tOk rfl rfl rfl (by rw [bytesV_length]; exact hdl) Gf.row) ?_
   refine RunL.store (v := .agg (bytesV D).toArray) Tryz.tOk rfl rfl rfl rfl (by simp [Value.cells, bytesV_length, hdl]) D0 (by simp [Value.cells, bytesV_length, hdl]) (by simp [Value.cells, bytesV_plain]) fun u2 t2 => ?_
   have X2 : Ext w u2 := X0.write t2.ext (by intro i hi hlt; subst hi; omega)
   have D2 : Blk u2 B2 (bytesV D) 32 := by
    have := t2.at_
    rw [show (Value.agg (bytesV D).toArray).cells.toList = bytesV D from rfl, setAt_all _ _ (by simp [bytesV_length, hdl])] at this
    exact this
   repeat (first | refine ZzN ?_)
   exact RunE.retFn Tryz.func142 (.cell rfl (.agg Tryz.tOk rfl rfl (by rw [bytesV_length]; exact hdl) D2.row) .nil) ⟨rfl, X2⟩
end Go.Sg
end
section
/- The reference's tagged digest and hash. -/
set_option maxRecDepth 4000
namespace Go.Sg
open Go.Rn Go.Sha Go.Proofs
attribute [local irreducible] Go.Rn.RunL Go.Rn.RunE Go.Rn.Asy Go.Rn.OpV Go.Rn.OpE Go.Rn.ExecE

set_option maxRecDepth 4000 in
theorem rtagged_ok (tag : ByteArray) (v : Value) (l : List UInt8) (w : World) (ht : tag.size ≤ 1000000) (hv : IsSl w 1 v l.length (bytesV l)) (hl : l.length ≤ 900000) :
  Rets Tryz.prog 113 [.string tag, v] w fun r w' => r = .agg (bytesV (tagged tag.data.toList l)).toArray ∧ Ext w w' := by
 refine RetsX.of (nt := 15) Tryz.func113 (by kernel_rfl) rfl rfl (by simp) (by simp only [argEnv]; rfl) ?_
 repeat (first | refine ZzQ ?_ | refine ZzR ?_)
 refine RunL.alloc Tryz.tOk rfl rfl rfl fun B4 w1 a1 => ?_
 repeat (first | refine RunL.pure Tryz.tOk rfl rfl rfl ?_ | refine ZzQ ?_ | refine ZzR ?_ | refine ZzN ?_)
 refine RunL.ex rfl rfl rfl (OpE.s2b Tryz.tOk rfl rfl rfl rfl) ?_
 rintro _ w2 ⟨B, cap, rfl, X2, hB, hr, hc⟩
 have hlen : tag.data.toList.length = tag.size := rfl
 have Y2 := a1.ext.trans X2
 refine RunL.call rfl rfl rfl (rsum_ok _ tag.data.toList w2 (by rw [hlen]; exact .row hr (by rw [bytesV_length, hlen, Nat.mul_one]) hc) (by omega)) ?_
 rintro _ w3 ⟨rfl, X3⟩
 have Y3 := Y2.trans X3
 refine RunL.alloc Tryz.tOk rfl rfl rfl fun B5 w4 a4 => ?_
 have hsl := sha_length tag.data.toList
 unfold tagged
 generalize sha tag.data.toList = D at hsl ⊢
 refine RunL.store (v := .agg (bytesV D).toArray) Tryz.tOk rfl rfl rfl rfl (by simp [Value.cells, bytesV_length, hsl]) (cs := List.replicate 32 (.int .u8 0)) a4.at_ (by simp [Value.cells, bytesV_length, hsl]) (by simp [Value.cells, bytesV_plain]) fun w5 t5 => ?_
 have D5 : Blk w5 B5 (bytesV D) 32 := by
  have := t5.at_
  rw [show (Value.agg (bytesV D).toArray).cells.toList = bytesV D from rfl, setAt_all _ _ (by simp [bytesV_length, hsl])] at this
  exact this
 have hB4 := a1.eq
 have hB5 := a4.eq
 have hs1 := a1.size
 have hs4 := a4.size
 have z1 := X2.size
 have z2 := X3.size
 have X5 : Ext w w5 := (Y3.trans a4.ext).write t5.ext (by intro i hi hlt; subst hi; omega)
 have R4 : Blk w5 B4 (bytesV (List.replicate 32 0)) 32 := Blk.ext (Blk.ext (Blk.ext (w := w1) (cs := List.replicate 32 (.int .u8 0)) a1.at_ (X2.trans X3) id) a4.ext id) t5.ext (by omega)
 clear a1 a4 t5 Y3 Y2
 repeat (first | refine ZzQ ?_ | refine ZzR ?_ | refine ZzN ?_)
 refine RunL.ex rfl rfl rfl (OpE.buildSl Tryz.tOk [] rfl rfl rfl rfl rfl rfl (by simp)) ?_
 rintro _ w6 ⟨B6, rfl, a6⟩
 have O6 := ownsRow_added (n := 0) (sz := 1) a6 (Nat.le_refl _) rfl (by simp [maxLen])
 have X6 := a6.ext
 have D6 := D5.ext X6 id
 refine RunL.val rfl rfl rfl (OpV.sliceA0 (hi := 32) Tryz.tOk rfl rfl .none .none (by decide)) ?_
 have sl5 : IsSl w6 1 (.slice (some ⟨B5, 0, none⟩) 32 32) 32 (bytesV D) := .row D6.row (by rw [bytesV_length, hsl]) (by omega)
 refine RunL.ex rfl rfl rfl (OpE.append Tryz.tOk rfl rfl rfl rfl rfl rfl O6 sl5 (bytesV_plain _) (by decide) (by omega) (by have := a6.eq; have := a6.size; omega)) ?_
 rintro v7 w7 ⟨O7, E7⟩
 have hb6 := a6.eq
 have X7 : Ext w5 w7 := X6.write E7 (by intro i hi hlt; have := ownsRow_ge O6 hi; omega)
 repeat (first | refine RunL.pure Tryz.tOk rfl rfl rfl ?_)
 refine RunL.ex rfl rfl rfl (OpE.append Tryz.tOk rfl rfl rfl rfl rfl rfl O7 (hv.extE (X5.trans X7)) (bytesV_plain _) (by show _ * 1 ≤ _; omega) (by omega) (by have := X7.size; omega)) ?_
 rintro v8 w8 ⟨O8, E8⟩
 have X8 : Ext w5 w8 := X7.write E8 (by intro i hi hlt; have := ownsRow_ge O7 hi; omega)
 have O8' : IsSl w8 1 v8 (D ++ l).length (bytesV (D ++ l)) := by
  have := isSl_own O8
  rw [List.length_append, hsl, bytesV_append]
  simpa [cellsAll] using this
 refine RunL.call rfl rfl rfl (rsum_ok _ (D ++ l) w8 O8' (by simp [hsl]; omega)) ?_
 rintro _ w9 ⟨rfl, X9⟩
 have Y9 := X8.trans X9
 have R9 := R4.ext Y9 id
 have hsl2 := sha_length (D ++ l)
 generalize sha (D ++ l) = G at hsl2 ⊢
 refine RunL.store (v := .agg (bytesV G).toArray) Tryz.tOk rfl rfl rfl rfl (by simp [Value.cells, bytesV_length, hsl2]) R9 (by simp [Value.cells, bytesV_length, hsl2]) (by simp [Value.cells, bytesV_plain]) fun wa ta => ?_
 have Xa : Ext w wa := (X5.trans Y9).write ta.ext (by intro i hi hlt; subst hi; omega)
 have Da : Blk wa B4 (bytesV G) 32 := by
  have := ta.at_
  rw [show (Value.agg (bytesV G).toArray).cells.toList = bytesV G from rfl, setAt_all _ _ (by simp [bytesV_length, hsl2])] at this
  exact this
 repeat (first | refine ZzN ?_)
 exact RunE.retFn Tryz.func113 (.cell rfl (.agg Tryz.tOk rfl rfl (by rw [bytesV_length]; exact hsl2) Da.row) .nil) ⟨rfl, Xa⟩

theorem low7_get (d : List UInt8) (j : Nat) (hj : 0 < j) : (low7 d).getD j 0 = d.getD j 0 := by
 cases d with
 | nil => rfl
 | cons b r => cases j with
  | zero => omega
  | succ j => rfl
theorem hashN_bound (L : List UInt8) (hl : 8 ≤ L.length) (hb : hashN L 8 < 9223372036854775808) (i : Nat) (hi : i < 8) : hashN L i < 36028797018963968 := by
 have mono : ∀ k j, j + k ≤ 8 → hashN L j * 256 ^ k ≤ hashN L (j + k) := by
  intro k
  induction k with
  | zero => intro j _; simp
  | succ k ih =>
   intro j hj
   have h1 := ih j (by omega)
   have h2 := hashN_succ (d := L) (j := j + k) (by omega)
   rw [show j + (k + 1) = j + k + 1 by omega, h2, Nat.pow_succ, ← Nat.mul_assoc]
   omega
 have h1 := mono (8 - i) i (by omega)
 rw [show i + (8 - i) = 8 by omega] at h1
 have h2 : 256 ^ 1 ≤ 256 ^ (8 - i) := Nat.pow_le_pow_right (by decide) (by omega)
 have h3 := Nat.mul_le_mul_left (hashN L i) h2
 omega

set_option maxRecDepth 4000 in
theorem rhash_ok (tag : ByteArray) (v : Value) (l : List UInt8) (w : World) (ht : tag.size ≤ 1000000) (hv : IsSl w 1 v l.length (bytesV l)) (hl : l.length ≤ 900000) :
  Rets Tryz.prog 128 [.string tag, v] w fun r w' => r = .int .i64 (hashS tag.data.toList l) ∧ Ext w w' := by
 refine RetsX.of (nt := 28) Tryz.func128 (by kernel_rfl) rfl rfl (by simp) (by simp only [argEnv]; rfl) ?_
 repeat (first | refine RunL.pureI Tryz.tOk rfl rfl rfl (by (rfl)) ?_ | refine RunL.pure Tryz.tOk rfl rfl rfl ?_ | refine ZzQ ?_ | refine ZzR ?_ | refine ZzN ?_)
 refine RunL.call rfl rfl rfl (rtagged_ok _ _ _ _ ht hv hl) ?_
 rintro _ w1 ⟨rfl, X1⟩
 refine RunL.alloc Tryz.tOk rfl rfl rfl fun B w2 a2 => ?_
 unfold hashS
 have hsl := tagged_length tag.data.toList l
 generalize tagged tag.data.toList l = D at hsl ⊢
 refine RunL.store (v := .agg (bytesV D).toArray) Tryz.tOk rfl rfl rfl rfl (by simp [Value.cells, bytesV_length, hsl]) (cs := List.replicate 32 (.int .u8 0)) a2.at_ (by simp [Value.cells, bytesV_length, hsl]) (by simp [Value.cells, bytesV_plain]) fun w3 t3 => ?_
 have D3 : Blk w3 B (bytesV D) 32 := by
  have := t3.at_
  rw [show (Value.agg (bytesV D).toArray).cells.toList = bytesV D from rfl, setAt_all _ _ (by simp [bytesV_length, hsl])] at this
  exact this
 have hB := a2.eq
 have z1 := X1.size
 have X3 : Ext w w3 := (X1.trans a2.ext).write t3.ext (by intro i hi hlt; subst hi; omega)
 clear a2 t3
 have hb64 : hashNum D < 9223372036854775808 := hashNum_lt _ hsl
 have hlen : (low7 D).length = 32 := by rw [low7_length]; exact hsl
 unfold hashNum at hb64 ⊢
 have hbd := hashN_bound (low7 D) (by omega) hb64
 repeat (first | refine RunL.val rfl rfl rfl (OpV.indexAK Tryz.tOk rfl rfl rfl rfl) ?_ | refine ZzQ ?_ | refine ZzR ?_ | refine ZzN ?_)
 refine RunL.val rfl rfl rfl (OpV.load1 (v := .int .u8 ((D.getD 0 0).toNat : Int)) Tryz.tOk rfl rfl rfl (D3.cell (bytesV_get (by omega)))) ?_
 have h1 : ((D.getD 0 0).toNat : Int) % 128 = (hashN (low7 D) 1 : Nat) := by
  match D, hsl with
  | [], h => simp at h
  | b :: r, _ =>
   have : (UInt8.ofNat (b.toNat % 128)).toNat = b.toNat % 128 := by rw [UInt8.toNat_ofNat']; omega
   simp [hashN, low7]; omega
 repeat (first | refine RunL.pureI Tryz.tOk rfl rfl rfl (by (first | exact i64_u8 _ | exact (wm_i64 (by omega)).trans h1 | rfl)) ?_ | refine ZzQ ?_ | refine ZzR ?_ | refine ZzN ?_ | refine ZzB ?_)
 refine RunE.loop (ι := Nat) (fun i => [(5, .pointer (some ⟨B, 0, none⟩)), (6, .int .i64 (hashN (low7 D) (i + 1) : Int)), (7, .int .i64 ((1 + i : Nat) : Int))])
  (fun i w' => w3 = w' ∧ i ≤ 7) (fun i => 7 - i) 0 (by repeat (first | exact Sub.nil _ | refine Sub.cons rfl ?_)) ⟨rfl, by omega⟩ ?_
 rintro i _ ⟨rfl, hi⟩ again
 repeat (first | refine RunL.pureI Tryz.tOk rfl rfl rfl (by (rfl)) ?_ | refine RunL.pure Tryz.tOk rfl rfl rfl ?_ | refine ZzQ ?_ | refine ZzR ?_ | refine ZzN ?_)
 refine RunE.cond rfl (fun hlt => ?_) (fun hlt => ?_) <;> (first | replace hlt := of_decide_eq_true hlt | replace hlt := of_decide_eq_false hlt)
 ·have hi8 : i < 7 := by omega
  have hs := hashN_succ (d := low7 D) (j := i + 1) (by omega)
  have hcl := (D.getD (i + 1) 0).toNat_lt
  have hbi := hbd (i + 1) (by omega)
  rw [low7_get D _ (by omega)] at hs
  repeat (first | refine RunL.pureI Tryz.tOk rfl rfl rfl (by (first | exact i64_mul _ 256 (by omega) | rfl)) ?_ | refine ZzQ ?_ | refine ZzR ?_ | refine ZzB ?_ | refine ZzK ?_)
  refine RunL.val rfl rfl rfl (OpV.indexA1 Tryz.tOk (i + 1) rfl rfl rfl (by omega) (by omega)) ?_
  refine RunL.val rfl rfl rfl (OpV.load1 (v := .int .u8 ((D.getD (i + 1) 0).toNat : Int)) Tryz.tOk rfl rfl rfl (by rw [Nat.zero_add]; exact D3.cell (bytesV_get (by omega)))) ?_
  repeat (first | refine RunL.pureI Tryz.tOk rfl rfl rfl (by (first | exact i64_u8 _ | exact i64_add _ _ (by omega) | exact wr_i64 (by omega) (by omega) | rfl)) ?_ | refine ZzR ?_ | refine ZzN ?_ | refine ZzI ?_)
  refine RunE.weaken (by
   refine Sub.cons rfl (Sub.cons ?_ (Sub.cons rfl (Sub.nil _)))
   rw [hs]; rfl) (again (i + 1) _ (by omega) ⟨rfl, by omega⟩)
 ·have hi8 : i = 7 := by omega
  subst hi8
  repeat (first | refine RunL.pureI Tryz.tOk rfl rfl rfl (by (first | exact wm_i64 (by omega) | rfl)) ?_ | refine ZzQ ?_ | refine ZzR ?_ | refine ZzN ?_ | refine RunE.exit rfl ?_)
  refine RunE.retFn Tryz.func128 (.tmp rfl .nil) ⟨?_, X3⟩
  simp only [oneOr]
  congr 1
end Go.Sg
end
section
/- Numbers: primes, Gauss's count, the law of quadratic reciprocity, Euler's criterion, the group of the squares modulo P. Plain mathematics: no program here. -/
set_option maxRecDepth 4000
namespace Go.NT

/-! ### Primes -/
def IsPrime (p : Nat) : Prop := 2 ≤ p ∧ ∀ d, d ∣ p → d = 1 ∨ d = p
def noDiv (p : Nat) : Nat → Bool
 | 0 => true
 | k + 1 => p % (k + 2) != 0 && noDiv p k
theorem noDiv_spec {p : Nat} : ∀ {k : Nat}, noDiv p k = true → ∀ d, 2 ≤ d → d < k + 2 → ¬ d ∣ p
 | 0, _, d, h1, h2, _ => by omega
 | k + 1, h, d, h1, h2, hd => by
  simp only [noDiv, Bool.and_eq_true, bne_iff_ne] at h
  rcases Nat.lt_or_ge d (k + 2) with h' | h'
  ·exact noDiv_spec h.2 d h1 h' hd
  ·have : d = k + 2 := by omega
   subst this
   exact h.1 (Nat.mod_eq_zero_of_dvd hd)
theorem prime_of_noDiv {p k : Nat} (hp : 2 ≤ p) (h : noDiv p k = true) (hk : p < (k + 2) * (k + 2)) : IsPrime p := by
 refine ⟨hp, fun d hd => ?_⟩
 obtain ⟨e, he⟩ := hd
 have hd0 : d ≠ 0 := by rintro rfl; simp at he; omega
 have he0 : e ≠ 0 := by rintro rfl; simp at he; omega
 by_cases h1 : d = 1
 ·exact .inl h1
 by_cases h2 : e = 1
 ·subst h2; right; omega
 exfalso
 rcases Nat.lt_or_ge d (k + 2) with hlt | hge
 ·exact noDiv_spec h d (by omega) hlt ⟨e, he⟩
 ·rcases Nat.lt_or_ge e (k + 2) with hlt | hge'
  ·exact noDiv_spec h e (by omega) hlt ⟨d, by rw [he, Nat.mul_comm]⟩
  ·have := Nat.mul_le_mul hge hge'
   omega

theorem coprime_of_prime {p a : Nat} (hp : IsPrime p) (h : ¬ p ∣ a) : Nat.Coprime a p := by
 have h1 := hp.2 (Nat.gcd a p) (Nat.gcd_dvd_right a p)
 rcases h1 with h1 | h1
 ·exact h1
 ·exfalso; apply h; rw [← h1]; exact Nat.gcd_dvd_left a p
theorem prime_mul {p a b : Nat} (hp : IsPrime p) (h : p ∣ a * b) : p ∣ a ∨ p ∣ b := by
 by_cases ha : p ∣ a
 ·exact .inl ha
 ·exact .inr (Nat.Coprime.dvd_of_dvd_mul_left (coprime_of_prime hp ha).symm h)

/-! ### Big sums -/
section
variable {α : Type} (op : α → α → α) (e : α)
def bigTo (f : Nat → α) : Nat → α
 | 0 => e
 | k + 1 => op (bigTo f k) (f (k + 1))
end
def sumTo (f : Nat → Nat) (h : Nat) : Nat := bigTo (· + ·) 0 f h

theorem bigTo_congr {α : Type} {op : α → α → α} {e : α} {f g : Nat → α} : ∀ {h : Nat}, (∀ k, 1 ≤ k → k ≤ h → f k = g k) → bigTo op e f h = bigTo op e g h
 | 0, _ => rfl
 | h + 1, hh => by simp only [bigTo]; rw [bigTo_congr (fun k h1 h2 => hh k h1 (by omega)), hh (h + 1) (by omega) (by omega)]

theorem no_inj : ∀ (h : Nat) (m : Nat → Nat), (∀ k, 1 ≤ k → k ≤ h + 1 → 1 ≤ m k ∧ m k ≤ h) → (∀ j k, 1 ≤ j → j ≤ h + 1 → 1 ≤ k → k ≤ h + 1 → m j = m k → j = k) → False
 | 0, m, hr, _ => by have := hr 1 (by omega) (by omega); omega
 | h + 1, m, hr, hi => by
  refine no_inj h (fun k => if m k = h + 1 then m (h + 2) else m k) (fun k h1 h2 => ?_) (fun j k j1 j2 k1 k2 he => ?_)
  ·have a1 := hr k h1 (by omega)
   have a2 := hr (h + 2) (by omega) (by omega)
   split
   ·rename_i e
    have : m (h + 2) ≠ h + 1 := fun e2 => by have := hi k (h + 2) h1 (by omega) (by omega) (by omega) (by omega); omega
    omega
   ·omega
  ·split at he <;> split at he
   ·exact hi j k j1 (by omega) k1 (by omega) (by omega)
   ·have := hi (h + 2) k (by omega) (by omega) k1 (by omega) he; omega
   ·have := hi j (h + 2) j1 (by omega) (by omega) (by omega) he; omega
   ·exact hi j k j1 (by omega) k1 (by omega) he

section
variable {α : Type} {op : α → α → α} {e : α} (hc : ∀ a b, op a b = op b a) (ha : ∀ a b c, op (op a b) c = op a (op b c))
include hc ha
theorem bigTo_swap {g g' : Nat → α} {k0 : Nat} : ∀ {h : Nat}, 1 ≤ k0 → k0 ≤ h → (∀ k, 1 ≤ k → k ≤ h → k ≠ k0 → g k = g' k) → op (bigTo op e g h) (g' k0) = op (bigTo op e g' h) (g k0)
 | 0, h1, h2, _ => by omega
 | h + 1, h1, h2, hh => by
  simp only [bigTo]
  by_cases hk : k0 = h + 1
  ·subst hk
   rw [bigTo_congr (fun k a b => hh k a (by omega) (by omega)), ha, ha, hc (g (h + 1))]
  ·have ih := bigTo_swap (h := h) h1 (by omega) (fun k a b c => hh k a (by omega) c)
   rw [ha, hc (g (h + 1)), ← ha, ih, ha, hc (g k0), ← ha, hh (h + 1) (by omega) (by omega) (fun e => hk e.symm)]

theorem bigTo_perm {f : Nat → α} : ∀ (h : Nat) (m : Nat → Nat), (∀ k, 1 ≤ k → k ≤ h → 1 ≤ m k ∧ m k ≤ h) → (∀ j k, 1 ≤ j → j ≤ h → 1 ≤ k → k ≤ h → m j = m k → j = k) →
  bigTo op e (fun k => f (m k)) h = bigTo op e f h
 | 0, _, _, _ => rfl
 | h + 1, m, hr, hi => by
  by_cases hcc : m (h + 1) = h + 1
  ·simp only [bigTo, hcc]
   rw [bigTo_perm h m (fun k h1 h2 => ?_) (fun j k a b c d => hi j k a (by omega) c (by omega))]
   have := hr k h1 (by omega)
   have h3 : m k ≠ h + 1 := fun e => by have := hi k (h + 1) h1 (by omega) (by omega) (by omega) (by omega); omega
   omega
  ·have hcr := hr (h + 1) (by omega) (by omega)
   by_cases hex : ∃ k0, 1 ≤ k0 ∧ k0 ≤ h ∧ m k0 = h + 1
   ·obtain ⟨k0, hk1, hk2, hk3⟩ := hex
    have uniq : ∀ k, 1 ≤ k → k ≤ h → k ≠ k0 → m k ≠ h + 1 := fun k a b c e => c (hi k k0 a (by omega) hk1 (by omega) (by omega))
    have ih := bigTo_perm (f := f) h (fun k => if m k = h + 1 then m (h + 1) else m k) (fun k h1 h2 => by
     have := hr k h1 (by omega); split <;> omega) (fun j k j1 j2 k1 k2 he => by
     split at he <;> split at he
     ·exact hi j k j1 (by omega) k1 (by omega) (by omega)
     ·have := hi (h + 1) k (by omega) (by omega) k1 (by omega) he; omega
     ·have := hi j (h + 1) j1 (by omega) (by omega) (by omega) he; omega
     ·exact hi j k j1 (by omega) k1 (by omega) he)
    simp only [bigTo]
    rw [← ih]
    have sw := bigTo_swap (e := e) hc ha (g := fun k => f (m k)) (g' := fun k => f (if m k = h + 1 then m (h + 1) else m k)) hk1 hk2 (fun k a b c => by simp only [if_neg (uniq k a b c)])
    simp only [hk3, if_true] at sw
    exact sw
   ·exfalso
    refine no_inj h m (fun k h1 h2 => ?_) (fun j k a b c d => hi j k a b c d)
    have := hr k h1 h2
    by_cases hk : k = h + 1
    ·subst hk; omega
    ·have : m k ≠ h + 1 := fun e => hex ⟨k, h1, by omega, e⟩
     omega
end

theorem sumTo_perm {f : Nat → Nat} (h : Nat) (m : Nat → Nat) (hr : ∀ k, 1 ≤ k → k ≤ h → 1 ≤ m k ∧ m k ≤ h) (hi : ∀ j k, 1 ≤ j → j ≤ h → 1 ≤ k → k ≤ h → m j = m k → j = k) :
  sumTo (fun k => f (m k)) h = sumTo f h := bigTo_perm Nat.add_comm Nat.add_assoc h m hr hi
theorem sumTo_succ (f : Nat → Nat) (h : Nat) : sumTo f (h + 1) = sumTo f h + f (h + 1) := rfl
theorem sumTo_congr {f g : Nat → Nat} {h : Nat} (hh : ∀ k, 1 ≤ k → k ≤ h → f k = g k) : sumTo f h = sumTo g h := bigTo_congr hh
theorem sumTo_add (f g : Nat → Nat) : ∀ h, sumTo (fun k => f k + g k) h = sumTo f h + sumTo g h
 | 0 => rfl
 | h + 1 => by simp only [sumTo_succ, sumTo_add f g h]; omega
theorem sumTo_mul (c : Nat) (f : Nat → Nat) : ∀ h, sumTo (fun k => c * f k) h = c * sumTo f h
 | 0 => rfl
 | h + 1 => by simp only [sumTo_succ, sumTo_mul c f h, Nat.mul_add]
theorem sumTo_mod (f g : Nat → Nat) : ∀ h, (∀ k, 1 ≤ k → k ≤ h → f k % 2 = g k % 2) → sumTo f h % 2 = sumTo g h % 2
 | 0, _ => rfl
 | h + 1, hh => by
  have := sumTo_mod f g h (fun k a b => hh k a (by omega))
  have := hh (h + 1) (by omega) (by omega)
  simp only [sumTo_succ]; omega
theorem sumTo_const (c : Nat) : ∀ h, sumTo (fun _ => c) h = c * h
 | 0 => rfl
 | h + 1 => by simp only [sumTo_succ, sumTo_const c h, Nat.mul_add, Nat.mul_one]
theorem sumTo_swap (f : Nat → Nat → Nat) : ∀ (h h' : Nat), sumTo (fun k => sumTo (fun j => f k j) h') h = sumTo (fun j => sumTo (fun k => f k j) h) h'
 | 0, h' => by
  show 0 = sumTo (fun _ => 0) h'
  rw [sumTo_const]; omega
 | h + 1, h' => by
  rw [sumTo_succ, sumTo_swap f h h', ← sumTo_add]
  exact sumTo_congr fun j _ _ => rfl

/-! ### Gauss's count -/
/-- How many of the first (n - 1) / 2 multiples of a leave more than half of n. -/
def G (a n : Nat) : Nat := sumTo (fun k => if a * k % n > n / 2 then 1 else 0) (n / 2)
/-- The least of a remainder and its negative. -/
def lst (a n k : Nat) : Nat := if a * k % n > n / 2 then n - a * k % n else a * k % n

section
variable {a n : Nat} (hn : n % 2 = 1) (hco : Nat.Coprime a n)
include hn hco
theorem rem_pos {k : Nat} (h1 : 1 ≤ k) (h2 : k < n) : 1 ≤ a * k % n := by
 rcases Nat.eq_zero_or_pos (a * k % n) with h | h
 ·exfalso
  have hd := Nat.dvd_of_mod_eq_zero h
  have := Nat.Coprime.dvd_of_dvd_mul_left hco.symm hd
  have := Nat.le_of_dvd (by omega) this
  omega
 ·exact h
theorem lst_range {k : Nat} (h1 : 1 ≤ k) (h2 : k ≤ n / 2) : 1 ≤ lst a n k ∧ lst a n k ≤ n / 2 := by
 have := rem_pos hn hco h1 (by omega)
 have := Nat.mod_lt (a * k) (by omega : n > 0)
 unfold lst; split <;> omega
theorem lst_inj {j k : Nat} (j1 : 1 ≤ j) (j2 : j ≤ n / 2) (k1 : 1 ≤ k) (k2 : k ≤ n / 2) (he : lst a n j = lst a n k) : j = k := by
 have key : ∀ {j k : Nat}, j ≤ k → k ≤ n / 2 → a * j % n = a * k % n → j = k := by
  intro j k hjk hk hmod
  have hd : n ∣ a * (k - j) := by
   rw [Nat.mul_sub]
   exact Nat.dvd_of_mod_eq_zero (Nat.sub_mod_eq_zero_of_mod_eq hmod.symm)
  have := Nat.Coprime.dvd_of_dvd_mul_left hco.symm hd
  rcases Nat.eq_zero_or_pos (k - j) with h0 | h0
  ·omega
  ·have := Nat.le_of_dvd h0 this; omega
 have key2 : a * j % n + a * k % n = n → False := by
  intro hs
  have hd : n ∣ a * (j + k) := by
   apply Nat.dvd_of_mod_eq_zero
   rw [Nat.mul_add, Nat.add_mod, hs, Nat.mod_self]
  have := Nat.Coprime.dvd_of_dvd_mul_left hco.symm hd
  have := Nat.le_of_dvd (by omega) this; omega
 have l1 := Nat.mod_lt (a * j) (by omega : n > 0)
 have l2 := Nat.mod_lt (a * k) (by omega : n > 0)
 unfold lst at he
 have fin : a * j % n = a * k % n → j = k := fun h => by
  rcases Nat.le_total j k with h' | h'
  ·exact key h' k2 h
  ·exact (key h' j2 h.symm).symm
 split at he <;> split at he
 ·exact fin (by omega)
 ·exact (key2 (by omega)).elim
 ·exact (key2 (by omega)).elim
 ·exact fin he
end

theorem G_mod (a n : Nat) : G (a % n) n = G a n := by
 unfold G
 refine sumTo_congr fun k _ _ => ?_
 rw [Nat.mod_mul_mod]
theorem G_one {n : Nat} : G 1 n = 0 := by
 unfold G
 rw [sumTo_congr (g := fun _ => 0) (fun k h1 h2 => ?_), sumTo_const]; · omega
 rw [Nat.one_mul, Nat.mod_eq_of_lt (by omega), if_neg (by omega)]

theorem G_mul {a b n : Nat} (hn : n % 2 = 1) (ha : Nat.Coprime a n) (hb : Nat.Coprime b n) : G (a * b) n % 2 = (G a n + G b n) % 2 := by
 have hp : G a n = sumTo (fun k => if a * lst b n k % n > n / 2 then 1 else 0) (n / 2) := by
  unfold G
  exact (sumTo_perm (f := fun k => if a * k % n > n / 2 then 1 else 0) (n / 2) (lst b n) (fun k h1 h2 => lst_range hn hb h1 h2) (fun j k => lst_inj hn hb)).symm
 rw [hp]
 unfold G
 rw [← sumTo_add]
 refine sumTo_mod _ _ _ fun k h1 h2 => ?_
 have hlr := lst_range hn hb h1 h2
 have hra := rem_pos hn ha hlr.1 (by omega)
 have e1 : a * b * k % n = a * (b * k % n) % n := by rw [Nat.mul_assoc, Nat.mul_mod_mod]
 have lb := Nat.mod_lt (b * k) (by omega : n > 0)
 have la := Nat.mod_lt (a * lst b n k) (by omega : n > 0)
 rw [e1]
 by_cases hs : b * k % n > n / 2
 ·have hl : lst b n k = n - b * k % n := by unfold lst; rw [if_pos hs]
  rw [hl] at hra la ⊢
  rw [if_pos hs]
  have : a * (b * k % n) % n = n - a * (n - b * k % n) % n := by
   have hsum : (a * (b * k % n) + a * (n - b * k % n)) % n = 0 := by
    rw [← Nat.mul_add, show b * k % n + (n - b * k % n) = n by omega, Nat.mul_mod_left]
   rw [Nat.add_mod] at hsum
   have l3 := Nat.mod_lt (a * (b * k % n)) (by omega : n > 0)
   have hd := Nat.dvd_of_mod_eq_zero hsum
   obtain ⟨q, hq⟩ := hd
   have : q = 1 := by
    rcases q with _ | _ | q
    ·simp at hq; omega
    ·rfl
    ·have : n * (q + 1 + 1) ≥ n * 2 := Nat.mul_le_mul_left n (by omega)
     omega
   subst this; omega
  rw [this]
  split <;> split <;> omega
 ·have hl : lst b n k = b * k % n := by unfold lst; rw [if_neg hs]
  rw [hl, if_neg hs]
  simp

def F (a n : Nat) : Nat := sumTo (fun k => a * k / n) (n / 2)
def T (h : Nat) : Nat := sumTo (fun k => k) h
theorem T_eq : ∀ h, 2 * T h = h * (h + 1)
 | 0 => rfl
 | h + 1 => by
  have := T_eq h
  unfold T at this ⊢
  rw [sumTo_succ, Nat.mul_add, this]
  simp only [Nat.mul_add, Nat.add_mul, Nat.mul_one, Nat.one_mul]; omega

theorem gauss_sum {a n : Nat} (hn : n % 2 = 1) (ha : Nat.Coprime a n) : (a * T (n / 2)) % 2 = (F a n + G a n + T (n / 2)) % 2 := by
 have hp : T (n / 2) = sumTo (fun k => lst a n k) (n / 2) := by
  unfold T
  exact (sumTo_perm (f := fun k => k) (n / 2) (lst a n) (fun k h1 h2 => lst_range hn ha h1 h2) (fun j k => lst_inj hn ha)).symm
 conv => rhs; rw [hp]
 unfold F G T
 rw [← sumTo_mul, ← sumTo_add, ← sumTo_add]
 refine sumTo_mod _ _ _ fun k h1 h2 => ?_
 have l := Nat.mod_lt (a * k) (by omega : n > 0)
 have e := Nat.div_add_mod (a * k) n
 have em : n * (a * k / n) % 2 = a * k / n % 2 := by
  rw [Nat.mul_mod, hn, Nat.one_mul, Nat.mod_mod]
 unfold lst
 split <;> omega

theorem G_two {n : Nat} (hn : n % 2 = 1) : G 2 n % 2 = if n % 8 = 3 ∨ n % 8 = 5 then 1 else 0 := by
 have hco : Nat.Coprime 2 n := by
  have := coprime_of_prime (p := 2) (a := n) ⟨by omega, fun d hd => by have := Nat.le_of_dvd (by omega) hd; rcases d with _ | _ | _ | d <;> simp_all⟩ (by omega)
  exact this.symm
 have h := gauss_sum hn hco
 have hF : F 2 n = 0 := by
  unfold F
  rw [sumTo_congr (g := fun _ => 0) (fun k h1 h2 => Nat.div_eq_of_lt (by omega)), sumTo_const]; omega
 rw [hF] at h
 have ht := T_eq (n / 2)
 have hq : ∃ q r, n = 8 * q + r ∧ (r = 1 ∨ r = 3 ∨ r = 5 ∨ r = 7) := ⟨n / 8, n % 8, by omega, by omega⟩
 obtain ⟨q, r, rfl, hr⟩ := hq
 have h4 : (8 * q + r) / 2 = 4 * q + r / 2 := by omega
 rw [h4] at ht h
 generalize T (4 * q + r / 2) = t at ht h
 have hm : ∃ z, (4 * q + r / 2) * (4 * q + r / 2 + 1) = 4 * z + (r / 2) * (r / 2 + 1) := by
  refine ⟨4 * q * q + q * (r / 2) + q * (r / 2 + 1), ?_⟩
  simp only [Nat.add_mul, Nat.mul_add, Nat.mul_assoc, Nat.mul_comm, Nat.mul_left_comm, Nat.mul_one]; omega
 obtain ⟨z, hz⟩ := hm
 rw [hz] at ht
 rcases hr with rfl | rfl | rfl | rfl <;> simp at ht ⊢ <;> omega

theorem G_odd {a n : Nat} (hn : n % 2 = 1) (ha : Nat.Coprime a n) (hodd : a % 2 = 1) : G a n % 2 = F a n % 2 := by
 have h := gauss_sum hn ha
 rw [Nat.mul_mod, hodd, Nat.one_mul, Nat.mod_mod] at h
 omega

theorem floor_count {n x : Nat} (hn : 0 < n) : ∀ H, x / n ≤ H → sumTo (fun j => if n * j ≤ x then 1 else 0) H = x / n := by
 have key : ∀ H, sumTo (fun j => if n * j ≤ x then 1 else 0) H = min H (x / n) := by
  intro H
  induction H with
  | zero => simp [sumTo, bigTo]
  | succ H ih =>
   rw [sumTo_succ, ih]
   by_cases h : n * (H + 1) ≤ x
   ·have : H + 1 ≤ x / n := (Nat.le_div_iff_mul_le hn).2 (by rw [Nat.mul_comm]; exact h)
    rw [if_pos h]; omega
   ·have : ¬ H + 1 ≤ x / n := fun hh => h (by have := (Nat.le_div_iff_mul_le hn).1 hh; rw [Nat.mul_comm]; exact this)
    rw [if_neg h]; omega
 intro H hH
 rw [key]; omega

theorem F_add {a n : Nat} (hn : n % 2 = 1) (ha : a % 2 = 1) (hco : Nat.Coprime a n) : F a n + F n a = (a / 2) * (n / 2) := by
 have bound : ∀ {a n k : Nat}, n % 2 = 1 → a % 2 = 1 → k ≤ n / 2 → a * k / n ≤ a / 2 := by
  intro a n k hn ha hk
  have h1 : a * k ≤ a * (n / 2) := Nat.mul_le_mul_left a hk
  have h2 : a * k / n < a / 2 + 1 := by
   rw [Nat.div_lt_iff_lt_mul (by omega)]
   have e1 : n = 2 * (n / 2) + 1 := by omega
   have e2 : a = 2 * (a / 2) + 1 := by omega
   generalize n / 2 = p at *
   generalize a / 2 = q at *
   subst e1; subst e2
   have : (q + 1) * (2 * p + 1) = (2 * q + 1) * p + p + q + 1 := by
    simp only [Nat.add_mul, Nat.mul_add, Nat.mul_comm, Nat.mul_left_comm, Nat.mul_one, Nat.one_mul]; omega
   omega
  omega
 have f1 : F a n = sumTo (fun k => sumTo (fun j => if n * j ≤ a * k then 1 else 0) (a / 2)) (n / 2) := by
  unfold F
  exact sumTo_congr fun k h1 h2 => (floor_count (by omega) _ (bound hn ha h2)).symm
 have f2 : F n a = sumTo (fun k => sumTo (fun j => if a * k ≤ n * j then 1 else 0) (a / 2)) (n / 2) := by
  rw [sumTo_swap]
  unfold F
  exact sumTo_congr fun k h1 h2 => (floor_count (by omega) _ (bound ha hn h2)).symm
 rw [f1, f2, ← sumTo_add, sumTo_congr (g := fun _ => a / 2) (fun k h1 h2 => ?_), sumTo_const]
 rw [← sumTo_add, sumTo_congr (g := fun _ => 1) (fun j j1 j2 => ?_), sumTo_const, Nat.one_mul]
 have : n * j ≠ a * k := fun e => by
  have hd : n ∣ a * k := ⟨j, e.symm⟩
  have := Nat.Coprime.dvd_of_dvd_mul_left hco.symm hd
  have := Nat.le_of_dvd (by omega) this
  omega
 split <;> split <;> omega

/-- The law of quadratic reciprocity. -/
theorem G_swap {a n : Nat} (hn : n % 2 = 1) (ha : a % 2 = 1) (hco : Nat.Coprime a n) : G a n % 2 = (G n a + if a % 4 = 3 ∧ n % 4 = 3 then 1 else 0) % 2 := by
 have h1 := G_odd hn hco ha
 have h2 := G_odd ha hco.symm hn
 have h3 := F_add hn ha hco
 have h4 : (a / 2) * (n / 2) % 2 = if a % 4 = 3 ∧ n % 4 = 3 then 1 else 0 := by
  rw [Nat.mul_mod]
  have ea : a / 2 % 2 = if a % 4 = 3 then 1 else 0 := by split <;> omega
  have en : n / 2 % 2 = if n % 4 = 3 then 1 else 0 := by split <;> omega
  rw [ea, en]
  by_cases x1 : a % 4 = 3 <;> by_cases x2 : n % 4 = 3 <;> simp [x1, x2]
 rw [← h4, ← h3]; omega

end Go.NT
namespace Go.NT

set_option maxRecDepth 100000 in
theorem primeP : IsPrime 2147483579 := prime_of_noDiv (k := 46340) (by decide) (by decide +kernel) (by decide)
/-! ### Powers modulo m -/
theorem mul_mod_congr {a a' b b' m : Int} (ha : a % m = a' % m) (hb : b % m = b' % m) : a * b % m = a' * b' % m := by
 rw [Int.mul_emod, ha, hb, ← Int.mul_emod]
theorem pow_mod (a m : Int) : ∀ n : Nat, (a % m) ^ n % m = a ^ n % m
 | 0 => by simp
 | n + 1 => by rw [Int.pow_succ, Int.pow_succ]; exact mul_mod_congr (pow_mod a m n) (by simp)
theorem pow_mod_congr {a b m : Int} (h : a % m = b % m) (n : Nat) : a ^ n % m = b ^ n % m := by rw [← pow_mod a, h, pow_mod]

theorem int_prime_mul {p : Nat} (hp : IsPrime p) {x y : Int} (h : (p : Int) ∣ x * y) : (p : Int) ∣ x ∨ (p : Int) ∣ y := by
 have h' : p ∣ x.natAbs * y.natAbs := by
  have := Int.natAbs_dvd_natAbs.2 h
  rwa [Int.natAbs_mul, Int.natAbs_natCast] at this
 rcases prime_mul hp h' with h | h
 ·exact .inl (Int.dvd_natAbs.1 (Int.natCast_dvd_natCast.2 h))
 ·exact .inr (Int.dvd_natAbs.1 (Int.natCast_dvd_natCast.2 h))

def prodTo (f : Nat → Int) (h : Nat) : Int := bigTo (· * ·) 1 f h
theorem prodTo_succ (f : Nat → Int) (h : Nat) : prodTo f (h + 1) = prodTo f h * f (h + 1) := rfl
theorem prodTo_mul (f g : Nat → Int) : ∀ h, prodTo (fun k => f k * g k) h = prodTo f h * prodTo g h
 | 0 => rfl
 | h + 1 => by simp only [prodTo_succ, prodTo_mul f g h, Int.mul_assoc, Int.mul_comm, Int.mul_left_comm]
theorem prodTo_const (c : Int) : ∀ h, prodTo (fun _ => c) h = c ^ h
 | 0 => by simp [prodTo, bigTo]
 | h + 1 => by rw [prodTo_succ, prodTo_const c h, Int.pow_succ]
theorem dvd_mul_sub {p a b c d : Int} (h1 : p ∣ a - b) (h2 : p ∣ c - d) : p ∣ a * c - b * d := by
 have : a * c - b * d = (a - b) * c + b * (c - d) := by rw [Int.sub_mul, Int.mul_sub]; omega
 rw [this]
 exact Int.dvd_add (Int.dvd_mul_of_dvd_left h1) (Int.dvd_mul_of_dvd_right h2)
theorem prodTo_dvd {p : Int} {f g : Nat → Int} : ∀ h, (∀ k, 1 ≤ k → k ≤ h → p ∣ f k - g k) → p ∣ prodTo f h - prodTo g h
 | 0, _ => by simp [prodTo, bigTo]
 | h + 1, hh => by
  rw [prodTo_succ, prodTo_succ]
  exact dvd_mul_sub (prodTo_dvd h fun k a b => hh k a (by omega)) (hh (h + 1) (by omega) (by omega))
theorem prodTo_sign (s : Nat → Bool) : ∀ h, prodTo (fun k => if s k then -1 else 1) h = (-1) ^ sumTo (fun k => if s k then 1 else 0) h
 | 0 => rfl
 | h + 1 => by
  rw [prodTo_succ, sumTo_succ, prodTo_sign s h, Int.pow_add]
  cases s (h + 1) <;> simp
theorem fact_coprime {p : Nat} (hp : IsPrime p) : ∀ h, h < p → ¬ (p : Int) ∣ prodTo (fun k => (k : Int)) h
 | 0, _ => by
  intro hd
  have h1 : (p : Int) ∣ 1 := hd
  have := Int.le_of_dvd (by decide) h1
  have := hp.1; omega
 | h + 1, hh => by
  intro hd
  rw [prodTo_succ] at hd
  rcases int_prime_mul hp hd with h1 | h1
  ·exact fact_coprime hp h (by omega) h1
  ·have := Int.le_of_dvd (by omega) h1; omega

theorem gauss {p a : Nat} (hp : IsPrime p) (hodd : p % 2 = 1) (ha : ¬ p ∣ a) : (p : Int) ∣ (a : Int) ^ (p / 2) - (-1) ^ G a p := by
 have hco := coprime_of_prime hp ha
 let s : Nat → Bool := fun k => decide (a * k % p > p / 2)
 have h1 : (p : Int) ∣ prodTo (fun k => (a : Int) * k) (p / 2) - prodTo (fun k => (if s k then -1 else 1) * (lst a p k : Int)) (p / 2) := by
  refine prodTo_dvd _ fun k k1 k2 => ?_
  have e := Nat.div_add_mod (a * k) p
  have l := Nat.mod_lt (a * k) (by omega : p > 0)
  have e' : (a : Int) * k = p * (a * k / p : Nat) + (a * k % p : Nat) := by rw [← Int.natCast_mul, ← Int.natCast_mul, ← Int.natCast_add, e]
  rw [e']
  by_cases hs : a * k % p > p / 2
  ·have hl : lst a p k = p - a * k % p := by unfold lst; rw [if_pos hs]
   simp only [s, hs, decide_true, if_true, hl]
   refine ⟨(a * k / p : Nat) + 1, ?_⟩
   rw [Int.mul_add]; omega
  ·have hl : lst a p k = a * k % p := by unfold lst; rw [if_neg hs]
   simp only [s, hs, decide_false, hl]
   refine ⟨(a * k / p : Nat), ?_⟩
   simp
 rw [prodTo_mul, prodTo_mul, prodTo_const, prodTo_sign] at h1
 have h2 : prodTo (fun k => (lst a p k : Int)) (p / 2) = prodTo (fun k => (k : Int)) (p / 2) :=
  bigTo_perm (f := fun k => (k : Int)) Int.mul_comm Int.mul_assoc (p / 2) (lst a p) (fun k h1 h2 => lst_range hodd hco h1 h2) (fun j k => lst_inj hodd hco)
 rw [h2, ← Int.sub_mul] at h1
 have h3 : sumTo (fun k => if s k then 1 else 0) (p / 2) = G a p := by
  unfold G
  exact sumTo_congr fun k _ _ => by simp [s]
 rw [h3] at h1
 rcases int_prime_mul hp h1 with h | h
 ·exact h
 ·exact (fact_coprime hp _ (by omega) h).elim

theorem neg_one_pow (k : Nat) : (-1 : Int) ^ k = if k % 2 = 0 then 1 else -1 := by
 induction k with
 | zero => rfl
 | succ k ih => rw [Int.pow_succ, ih]; split <;> split <;> omega

/-! ### The group -/
def validS (x : Int) : Bool := decide (1 ≤ x ∧ x < 2147483579 ∧ x ^ 1073741789 % 2147483579 = 1)

theorem euler {x : Nat} (h1 : 1 ≤ x) (h2 : x < 2147483579) : (x : Int) ^ 1073741789 % 2147483579 = if G x 2147483579 % 2 = 0 then 1 else 2147483578 := by
 have h := gauss (p := 2147483579) (a := x) primeP (by decide) (fun hd => by have := Nat.le_of_dvd (by omega) hd; omega)
 rw [neg_one_pow] at h
 obtain ⟨q, hq⟩ := h
 have e : (2147483579 / 2 : Nat) = 1073741789 := by decide
 rw [e] at hq
 generalize (x : Int) ^ 1073741789 = y at *
 split at hq <;> rename_i hg
 ·rw [if_pos hg]; omega
 ·rw [if_neg hg]; omega

theorem validS_iff {x : Nat} (h1 : 1 ≤ x) (h2 : x < 2147483579) : validS x = decide (G x 2147483579 % 2 = 0) := by
 unfold validS
 rw [euler h1 h2]
 by_cases h : G x 2147483579 % 2 = 0 <;> simp [h] <;> omega

theorem euler_cases {x : Int} (h1 : 1 ≤ x) (h2 : x < 2147483579) : x ^ 1073741789 % 2147483579 = 1 ∨ x ^ 1073741789 % 2147483579 = 2147483578 := by
 obtain ⟨k, rfl⟩ := Int.eq_ofNat_of_zero_le (by omega : 0 ≤ x)
 rw [euler (by omega) (by omega)]
 split <;> simp

theorem validS_inv {x : Int} (h : validS x = true) : 1 ≤ x ∧ x < 2147483579 ∧ x ^ 1073741789 % 2147483579 = 1 := by simpa [validS] using h

/-- A number modulo P whose power to Q is 1. -/
theorem valid_of_pow {y : Int} (h : y ^ 1073741789 % 2147483579 = 1) : validS (y % 2147483579) = true := by
 have h1 : (y % 2147483579) ^ 1073741789 % 2147483579 = 1 := by rw [pow_mod]; exact h
 have h2 := Int.emod_nonneg y (by decide : (2147483579 : Int) ≠ 0)
 have h3 := Int.emod_lt_of_pos y (by decide : (0 : Int) < 2147483579)
 have h4 : y % 2147483579 ≠ 0 := fun e => by
  rw [e, Int.zero_pow (by decide)] at h1
  exact absurd h1 (by decide)
 simp only [validS, decide_eq_true_eq]
 exact ⟨by omega, h3, h1⟩

theorem valid_pow {a : Int} (ha : validS a = true) (n : Nat) : validS (a ^ n % 2147483579) = true := by
 refine valid_of_pow ?_
 rw [← Int.pow_mul, Nat.mul_comm, Int.pow_mul, pow_mod_congr (b := 1) (by rw [(validS_inv ha).2.2]; rfl), Int.one_pow]
 decide

theorem pow_period {a : Int} (ha : validS a = true) (n : Nat) : a ^ (n % 1073741789) % 2147483579 = a ^ n % 2147483579 := by
 conv => rhs; rw [← Nat.div_add_mod n 1073741789, Int.pow_add, Int.pow_mul]
 have := mul_mod_congr (a := (a ^ 1073741789) ^ (n / 1073741789)) (a' := 1) (b := a ^ (n % 1073741789)) (b' := a ^ (n % 1073741789)) (m := 2147483579)
  (by rw [pow_mod_congr (b := 1) (by rw [(validS_inv ha).2.2]; rfl), Int.one_pow]) rfl
 rw [this]; simp

theorem valid_sq {x : Int} (h1 : 1 ≤ x) (h2 : x < 2147483579) : validS (x * x % 2147483579) = true := by
 refine valid_of_pow ?_
 rw [Int.mul_pow]
 rcases euler_cases h1 h2 with h | h
 ·rw [mul_mod_congr (a' := 1) (b' := 1) (by rw [h]; rfl) (by rw [h]; rfl)]; decide
 ·rw [mul_mod_congr (a' := 2147483578) (b' := 2147483578) (by rw [h]; rfl) (by rw [h]; rfl)]; decide

end Go.NT
end
