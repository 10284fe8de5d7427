/- The program's SHA-256: a block. -/
import Derived.Test.YtbjmdklcbknlpaaDoorSha1
namespace Go.Sha
open Go.Rn
theorem vals_append (A B : List W) : vals (A ++ B) = vals A ++ vals B := by simp [vals]
theorem vals_get {A : List W} {i : Nat} (B : List W) (h : i < A.length) : (vals (A ++ B))[i]? = some (.int .u32 ((A.getD i 0).toNat : Int)) := by
  rw [vals_append, List.getElem?_append_left (by rw [vals_length]; exact h)]
  simp [vals, List.getElem?_eq_getElem h, List.getD_eq_getElem?_getD]
theorem vals_get' {A : List W} {i : Nat} (h : i < A.length) : (vals A)[i]? = some (.int .u32 ((A.getD i 0).toNat : Int)) := by
  have := vals_get [] h; rwa [List.append_nil] at this
theorem set_next (A : List W) (n : Nat) (x : W) : (vals (A ++ List.replicate (n + 1) 0)).set A.length (.int .u32 (x.toNat : Int)) = vals ((A ++ [x]) ++ List.replicate n 0) := by
  simp [vals, List.replicate_succ, List.set_append_right]
/-- What is left of a sum that is under way. -/
def midw (s v : S8) (i : Nat) : List W := (s.add v).l.take i ++ s.l.drop i
theorem midw_set : ∀ (s v : S8) (i : Nat), i < 8 → (vals (midw s v i)).set i (.int .u32 (((s.l.getD i 0) + (v.l.getD i 0)).toNat : Int)) = vals (midw s v (i + 1)) ∧ (vals (midw s v i))[i]? = some (.int .u32 ((s.l.getD i 0).toNat : Int)) := by
  intro s v i hi
  match i, hi with
  | 0, _ | 1, _ | 2, _ | 3, _ | 4, _ | 5, _ | 6, _ | 7, _ => exact ⟨rfl, rfl⟩
theorem set_at {A : List W} {n i : Nat} (x : W) (h : A.length = i) : setAt (vals (A ++ List.replicate (n + 1) 0)) i [.int .u32 (x.toNat : Int)] = vals ((A ++ [x]) ++ List.replicate n 0) := by
  subst h; exact set_next A n x
end Go.Sha
namespace Go.Sg
open Go.Rn Go.Sha Go.Proofs
attribute [local irreducible] Go.Rn.RunL Go.Rn.RunE Go.Rn.Asy Go.Rn.OpV Go.Rn.OpE Go.Rn.ExecE

theorem rotated_ok (x : W) (a b c : Nat) (ha : 0 < a ∧ a < 32) (hb : 0 < b ∧ b < 32) (hc : 0 < c ∧ c < 32) (w : World) :
    Rets Tryd.prog 70 [.int .u32 (x.toNat : Int), .int .i64 (a : Int), .int .i64 (b : Int), .int .i64 (c : Int)] w fun v w' => v = .int .u32 ((S3 x a b c).toNat : Int) ∧ w = w' := by
  refine RetsX.of (nt := 23) Tryd.func70 (by kernel_rfl) rfl rfl (by simp) (by simp only [argEnv]; rfl) ?_
  repeat (first | refine RunL.pureI Tryd.tOk rfl rfl rfl (by (first | exact wr_i64 (by omega) (by omega) | exact wm_i64 (by omega) | exact wq_i64 (by omega) (by omega) (by omega) | rfl)) ?_ | refine RunL.pure Tryd.tOk rfl rfl rfl ?_ | refine RunL.unwantedD rfl rfl ?_ | refine RunE.seq ?_ | refine RunE.region ?_ | refine RunL.nil ?_ | refine RunE.block ?_ | refine RunE.inBlock ?_ | refine RunE.skip ?_ | refine RunE.exit rfl ?_ | refine RunE.scope ?_ | refine RunE.inScope ?_ | refine RunE.label ?_)
  refine RunL.call rfl rfl rfl (rotl_ok _ a ha.1 ha.2 _) ?_
  rintro _ _ ⟨rfl, rfl⟩
  repeat (first | refine RunL.pureI Tryd.tOk rfl rfl rfl (by (first | exact wr_i64 (by omega) (by omega) | exact wm_i64 (by omega) | exact wq_i64 (by omega) (by omega) (by omega) | rfl)) ?_ | refine RunL.pure Tryd.tOk rfl rfl rfl ?_ | refine RunL.unwantedD rfl rfl ?_ | refine RunE.seq ?_ | refine RunE.region ?_ | refine RunL.nil ?_ | refine RunE.block ?_ | refine RunE.inBlock ?_ | refine RunE.skip ?_ | refine RunE.exit rfl ?_ | refine RunE.scope ?_ | refine RunE.inScope ?_ | refine RunE.label ?_)
  refine RunL.call rfl rfl rfl (rotl_ok _ b hb.1 hb.2 _) ?_
  rintro _ _ ⟨rfl, rfl⟩
  repeat (first | refine RunL.pureI Tryd.tOk rfl rfl rfl (by (first | with_reducible exact u32_xor _ _ | with_reducible exact u32_and _ _ | with_reducible exact u32_or _ _ | with_reducible exact u32_add _ _ | with_reducible exact u32_shl _ _ (by decide) | with_reducible exact u32_shr _ _ (by decide) | with_reducible exact u32_of_u8 _ | exact wr_i64 (by omega) (by omega) | rfl)) ?_ | refine RunL.pureI Tryd.tOk rfl rfl rfl (by (first | exact wr_i64 (by omega) (by omega) | exact wm_i64 (by omega) | exact wq_i64 (by omega) (by omega) (by omega) | rfl)) ?_ | refine RunL.pure Tryd.tOk rfl rfl rfl ?_ | refine RunL.unwantedD rfl rfl ?_ | refine RunE.seq ?_ | refine RunE.region ?_ | refine RunL.nil ?_ | refine RunE.block ?_ | refine RunE.inBlock ?_ | refine RunE.skip ?_ | refine RunE.exit rfl ?_ | refine RunE.scope ?_ | refine RunE.inScope ?_ | refine RunE.label ?_)
  refine RunL.call rfl rfl rfl (rotl_ok _ c hc.1 hc.2 _) ?_
  rintro _ _ ⟨rfl, rfl⟩
  repeat (first | refine RunL.pureI Tryd.tOk rfl rfl rfl (by (first | with_reducible exact u32_xor _ _ | with_reducible exact u32_and _ _ | with_reducible exact u32_or _ _ | with_reducible exact u32_add _ _ | with_reducible exact u32_shl _ _ (by decide) | with_reducible exact u32_shr _ _ (by decide) | with_reducible exact u32_of_u8 _ | exact wr_i64 (by omega) (by omega) | rfl)) ?_ | refine RunL.pureI Tryd.tOk rfl rfl rfl (by (first | exact wr_i64 (by omega) (by omega) | exact wm_i64 (by omega) | exact wq_i64 (by omega) (by omega) (by omega) | rfl)) ?_ | refine RunL.pure Tryd.tOk rfl rfl rfl ?_ | refine RunL.unwantedD rfl rfl ?_ | refine RunE.seq ?_ | refine RunE.region ?_ | refine RunL.nil ?_ | refine RunE.block ?_ | refine RunE.inBlock ?_ | refine RunE.skip ?_ | refine RunE.exit rfl ?_ | refine RunE.scope ?_ | refine RunE.inScope ?_ | refine RunE.label ?_)
  exact RunE.retFn Tryd.func70 (.tmp rfl .nil) ⟨rfl, rfl⟩

set_option maxHeartbeats 2000000 in
theorem absorb_ok (s : S8) (l : List UInt8) (b bt b' o' cap : Nat) (w : World) (hb : Blk w b (vals s.l) bt) (hl : l.length = 64) (hr : Row w b' o' (bytesV l)) (hc : 64 ≤ cap) (hkT : Row w 1 0 (vals kTab)) (hb1 : b ≠ 1) :
    Rets Tryd.prog 52 [.pointer (some ⟨b, 0, none⟩), .slice (some ⟨b', o', none⟩) 64 cap] w fun v w' => v = .tuple #[] ∧ Blk w' b (vals (block s l).l) bt ∧ ExtB (· = b) w w' := by
  have hblt := hb.lt
  refine RetsX.of (nt := 144) Tryd.func52 (by kernel_rfl) rfl rfl (by simp) (by simp only [argEnv]; rfl) ?_
  repeat (first | refine RunL.pureI Tryd.tOk rfl rfl rfl (by (first | exact wr_i64 (by omega) (by omega) | exact wm_i64 (by omega) | exact wq_i64 (by omega) (by omega) (by omega) | rfl)) ?_ | refine RunL.pure Tryd.tOk rfl rfl rfl ?_ | refine RunL.unwantedD rfl rfl ?_ | refine RunE.seq ?_ | refine RunE.region ?_ | refine RunL.nil ?_ | refine RunE.block ?_ | refine RunE.inBlock ?_ | refine RunE.skip ?_ | refine RunE.exit rfl ?_ | refine RunE.scope ?_ | refine RunE.inScope ?_ | refine RunE.label ?_)
  refine RunL.alloc Tryd.tOk rfl rfl rfl fun B4 w1 a1 => ?_
  have hB4 := a1.eq
  have Z1 : Blk w1 B4 (vals (words l 0 ++ List.replicate (64 - 0) 0)) 93 := a1.at_
  repeat (first | refine RunL.pureI Tryd.tOk rfl rfl rfl (by (first | exact wr_i64 (by omega) (by omega) | exact wm_i64 (by omega) | exact wq_i64 (by omega) (by omega) (by omega) | rfl)) ?_ | refine RunL.pure Tryd.tOk rfl rfl rfl ?_ | refine RunL.unwantedD rfl rfl ?_ | refine RunE.seq ?_ | refine RunE.region ?_ | refine RunL.nil ?_ | refine RunE.block ?_ | refine RunE.inBlock ?_ | refine RunE.skip ?_ | refine RunE.exit rfl ?_ | refine RunE.scope ?_ | refine RunE.inScope ?_ | refine RunE.label ?_)
  refine RunE.loop (ι := Nat) (fun j => [(0, .pointer (some ⟨b, 0, none⟩)), (1, .slice (some ⟨b', o', none⟩) 64 cap), (4, .pointer (some ⟨B4, 0, none⟩)), (14, .int .i64 (j : Int))])
    (fun j w' => j ≤ 16 ∧ Ext w w' ∧ Blk w' B4 (vals (words l j ++ List.replicate (64 - j) 0)) 93) (fun j => 16 - j) 0 (by repeat (first | exact Sub.nil _ | refine Sub.cons rfl ?_)) ⟨by omega, a1.ext, Z1⟩ ?_
  rintro j w2 ⟨hj, X2, Z2⟩ again
  repeat (first | refine RunL.pureI Tryd.tOk rfl rfl rfl (by (first | exact wr_i64 (by omega) (by omega) | exact wm_i64 (by omega) | exact wq_i64 (by omega) (by omega) (by omega) | rfl)) ?_ | refine RunL.pure Tryd.tOk rfl rfl rfl ?_ | refine RunL.unwantedD rfl rfl ?_ | refine RunE.seq ?_ | refine RunE.region ?_ | refine RunL.nil ?_ | refine RunE.block ?_ | refine RunE.inBlock ?_ | refine RunE.skip ?_ | refine RunE.exit rfl ?_ | refine RunE.scope ?_ | refine RunE.inScope ?_ | refine RunE.label ?_)
  refine RunE.cond rfl (fun hlt => ?_) (fun hlt => ?_) <;> (first | replace hlt := of_decide_eq_true hlt | replace hlt := of_decide_eq_false hlt | replace hlt := beq_iff_eq.1 hlt | replace hlt := beq_eq_false_iff_ne.1 hlt | replace hlt := bne_iff_ne.1 hlt | replace hlt := bne_eq_false_iff_eq.1 hlt | skip)
  · repeat (first | refine RunL.pureI Tryd.tOk rfl rfl rfl (by (first | exact wr_i64 (by omega) (by omega) | exact wm_i64 (by omega) | exact wq_i64 (by omega) (by omega) (by omega) | rfl)) ?_ | refine RunL.pure Tryd.tOk rfl rfl rfl ?_ | refine RunL.unwantedD rfl rfl ?_ | refine RunE.seq ?_ | refine RunE.region ?_ | refine RunL.nil ?_ | refine RunE.block ?_ | refine RunE.inBlock ?_ | refine RunE.skip ?_ | refine RunE.exit rfl ?_ | refine RunE.scope ?_ | refine RunE.inScope ?_ | refine RunE.label ?_)
    refine RunL.val rfl rfl rfl (OpV.slice1 (lo := 4 * j) (hi := 64) Tryd.tOk rfl rfl (.some rfl (by omega)) .none (by omega) (by omega) (by omega)) ?_
    have hrow : Row w2 b' (o' + 4 * j) (bytesV [l.getD (4 * j) 0, l.getD (4 * j + 1) 0, l.getD (4 * j + 2) 0, l.getD (4 * j + 3) 0]) := by
      refine (hr.extE X2).window fun i v hv => ?_
      have get : ∀ k, k < 64 → (bytesV l)[k]? = some (.int .u8 ((l.getD k 0).toNat : Int)) := by
        intro k hk
        simp [bytesV, List.getElem?_eq_getElem (show k < l.length by omega), List.getD_eq_getElem?_getD]
      match i, hv with
      | 0, hv => rw [get _ (by omega)]; exact hv
      | 1, hv => rw [get _ (by omega)]; exact hv
      | 2, hv => rw [get _ (by omega)]; exact hv
      | 3, hv => rw [get _ (by omega)]; exact hv
    refine RunL.call rfl rfl rfl (digestWord_ok _ _ _ _ _ _ _ _ _ (by omega) (by omega) hrow) ?_
    rintro _ _ ⟨rfl, rfl⟩
    refine RunL.val rfl rfl rfl (OpV.indexA1 Tryd.tOk j rfl rfl rfl rfl (by omega)) ?_
    refine RunL.store Tryd.tOk rfl rfl rfl rfl rfl Z2 (by simp [vals_length, words_length, Value.cells]; omega) rfl fun w3 t3 => ?_
    have X3 : Ext w w3 := X2.write t3.ext (by intro i hi hlt; subst hi; omega)
    have Z3 : Blk w3 B4 (vals (words l (j + 1) ++ List.replicate (64 - (j + 1)) 0)) 93 := by
      have := t3.at_
      have e := set_next (words l j) (64 - (j + 1)) (word (l.getD (4 * j) 0) (l.getD (4 * j + 1) 0) (l.getD (4 * j + 2) 0) (l.getD (4 * j + 3) 0))
      rw [words_length, show 64 - (j + 1) + 1 = 64 - j by omega] at e
      unfold Blk
      rw [words, ← e, this]
      rw [Nat.zero_add]
      rfl
    repeat (first | refine RunL.pureI Tryd.tOk rfl rfl rfl (by (first | exact wr_i64 (by omega) (by omega) | exact wm_i64 (by omega) | exact wq_i64 (by omega) (by omega) (by omega) | rfl)) ?_ | refine RunL.pure Tryd.tOk rfl rfl rfl ?_ | refine RunL.unwantedD rfl rfl ?_ | refine RunE.seq ?_ | refine RunE.region ?_ | refine RunL.nil ?_ | refine RunE.block ?_ | refine RunE.inBlock ?_ | refine RunE.skip ?_ | refine RunE.exit rfl ?_ | refine RunE.scope ?_ | refine RunE.inScope ?_ | refine RunE.label ?_)
    exact RunE.weaken (by repeat (first | exact Sub.nil _ | refine Sub.cons rfl ?_)) (again (j + 1) _ (by omega) ⟨by omega, X3, Z3⟩)
  · have hj16 : j = 16 := by omega
    subst hj16
    clear again
    repeat (first | refine RunL.pureI Tryd.tOk rfl rfl rfl (by (first | exact wr_i64 (by omega) (by omega) | exact wm_i64 (by omega) | exact wq_i64 (by omega) (by omega) (by omega) | rfl)) ?_ | refine RunL.pure Tryd.tOk rfl rfl rfl ?_ | refine RunL.unwantedD rfl rfl ?_ | refine RunE.seq ?_ | refine RunE.region ?_ | refine RunL.nil ?_ | refine RunE.block ?_ | refine RunE.inBlock ?_ | refine RunE.skip ?_ | refine RunE.exit rfl ?_ | refine RunE.scope ?_ | refine RunE.inScope ?_ | refine RunE.label ?_)
    refine RunE.loop (ι := Nat) (fun k => [(0, .pointer (some ⟨b, 0, none⟩)), (4, .pointer (some ⟨B4, 0, none⟩)), (6, .int .i64 ((16 + k : Nat) : Int))])
      (fun k w' => k ≤ 48 ∧ Ext w w' ∧ Blk w' B4 (vals (sched (words l 16) k ++ List.replicate (48 - k) 0)) 93) (fun k => 48 - k) 0 (by repeat (first | exact Sub.nil _ | refine Sub.cons rfl ?_)) ⟨by omega, X2, Z2⟩ ?_
    rintro k w4 ⟨hk48, X4, Z4⟩ again
    have hsl : (sched (words l 16) k).length = 16 + k := by rw [sched_length, words_length]
    repeat (first | refine RunL.pureI Tryd.tOk rfl rfl rfl (by (first | exact wr_i64 (by omega) (by omega) | exact wm_i64 (by omega) | exact wq_i64 (by omega) (by omega) (by omega) | rfl)) ?_ | refine RunL.pure Tryd.tOk rfl rfl rfl ?_ | refine RunL.unwantedD rfl rfl ?_ | refine RunE.seq ?_ | refine RunE.region ?_ | refine RunL.nil ?_ | refine RunE.block ?_ | refine RunE.inBlock ?_ | refine RunE.skip ?_ | refine RunE.exit rfl ?_ | refine RunE.scope ?_ | refine RunE.inScope ?_ | refine RunE.label ?_)
    refine RunE.cond rfl (fun hlt2 => ?_) (fun hlt2 => ?_) <;> (first | replace hlt2 := of_decide_eq_true hlt2 | replace hlt2 := of_decide_eq_false hlt2 | replace hlt2 := beq_iff_eq.1 hlt2 | replace hlt2 := beq_eq_false_iff_ne.1 hlt2 | replace hlt2 := bne_iff_ne.1 hlt2 | replace hlt2 := bne_eq_false_iff_eq.1 hlt2 | skip)
    · repeat (first | refine RunE.seq ?_ | refine RunE.region ?_ | refine RunL.nil ?_ | refine RunE.block ?_ | refine RunE.inBlock ?_ | refine RunE.skip ?_ | refine RunE.exit rfl ?_ | refine RunE.scope ?_ | refine RunE.inScope ?_ | refine RunE.label ?_)
      refine RunE.draw (fun _ => False) mix ?_
      intro w5 X5
      repeat (first | refine Asy.pureI Tryd.tOk rfl rfl rfl (by (first | exact wr_i64 (by omega) (by omega) | exact wm_i64 (by omega) | exact wq_i64 (by omega) (by omega) (by omega) | rfl)) ?_ | refine Asy.pure Tryd.tOk rfl rfl rfl ?_ | refine Asy.unwantedD rfl rfl rfl ?_)
      refine Asy.v rfl rfl rfl rfl (fun _ _ => OpV.indexA1 Tryd.tOk (k + 1) rfl rfl rfl (by omega) (by omega)) ?_
      refine Asy.v rfl rfl rfl rfl (fun _ X' => OpV.load1 Tryd.tOk rfl rfl rfl (((Z4.ext X5 id).ext X' id).row (k + 1) _ (vals_get _ (by omega)))) ?_
      repeat (first | refine Asy.pureI Tryd.tOk rfl rfl rfl (by (first | exact wr_i64 (by omega) (by omega) | exact wm_i64 (by omega) | exact wq_i64 (by omega) (by omega) (by omega) | rfl)) ?_ | refine Asy.pure Tryd.tOk rfl rfl rfl ?_ | refine Asy.unwantedD rfl rfl rfl ?_)
      refine Asy.v rfl rfl rfl rfl (fun _ _ => OpV.indexA1 Tryd.tOk (k + 14) rfl rfl rfl (by omega) (by omega)) ?_
      refine Asy.v rfl rfl rfl rfl (fun _ X' => OpV.load1 Tryd.tOk rfl rfl rfl (((Z4.ext X5 id).ext X' id).row (k + 14) _ (vals_get _ (by omega)))) ?_
      repeat (first | refine Asy.pureI Tryd.tOk rfl rfl rfl (by (first | exact wr_i64 (by omega) (by omega) | exact wm_i64 (by omega) | exact wq_i64 (by omega) (by omega) (by omega) | rfl)) ?_ | refine Asy.pure Tryd.tOk rfl rfl rfl ?_ | refine Asy.unwantedD rfl rfl rfl ?_)
      refine Asy.tail (by kernel_rfl) ?_
      intro w6 X6
      simp only [satsAll]
      repeat (first | refine RunL.pureI Tryd.tOk rfl rfl rfl (by (first | exact wr_i64 (by omega) (by omega) | exact wm_i64 (by omega) | exact wq_i64 (by omega) (by omega) (by omega) | rfl)) ?_ | refine RunL.pure Tryd.tOk rfl rfl rfl ?_ | refine RunL.unwantedD rfl rfl ?_ | refine RunE.seq ?_ | refine RunE.region ?_ | refine RunL.nil ?_ | refine RunE.block ?_ | refine RunE.inBlock ?_ | refine RunE.skip ?_ | refine RunE.exit rfl ?_ | refine RunE.scope ?_ | refine RunE.inScope ?_ | refine RunE.label ?_)
      have Y6 := X5.trans X6
      have Z6 := Z4.ext Y6 id
      have X7 := X4.trans Y6
      clear Z4 X4 X5 X6 Y6
      refine RunE.draw (fun _ => False) mix ?_
      intro w8 X8
      have Z8 := Z6.ext X8 id
      repeat (first | refine Asy.pureI Tryd.tOk rfl rfl rfl (by (first | with_reducible exact u32_xor _ _ | with_reducible exact u32_and _ _ | with_reducible exact u32_or _ _ | with_reducible exact u32_add _ _ | with_reducible exact u32_shl _ _ (by decide) | with_reducible exact u32_shr _ _ (by decide) | with_reducible exact u32_of_u8 _ | exact wr_i64 (by omega) (by omega) | rfl)) ?_ | refine Asy.pure Tryd.tOk rfl rfl rfl ?_ | refine Asy.unwantedD rfl rfl rfl ?_)
      refine Asy.v rfl rfl rfl rfl (fun _ _ => OpV.indexA1 Tryd.tOk k rfl rfl rfl (by omega) (by omega)) ?_
      refine Asy.v rfl rfl rfl rfl (fun _ X' => OpV.load1 Tryd.tOk rfl rfl rfl ((Z8.ext X' id).row k _ (vals_get _ (by omega)))) ?_
      repeat (first | refine Asy.pureI Tryd.tOk rfl rfl rfl (by (first | with_reducible exact u32_xor _ _ | with_reducible exact u32_and _ _ | with_reducible exact u32_or _ _ | with_reducible exact u32_add _ _ | with_reducible exact u32_shl _ _ (by decide) | with_reducible exact u32_shr _ _ (by decide) | with_reducible exact u32_of_u8 _ | exact wr_i64 (by omega) (by omega) | rfl)) ?_ | refine Asy.pure Tryd.tOk rfl rfl rfl ?_ | refine Asy.unwantedD rfl rfl rfl ?_)
      refine Asy.val rfl rfl rfl rfl (fun _ _ => OpE.keep (OpE.call rfl (rotl_ok _ 7 (by decide) (by decide) _))) ?_
      repeat (first | refine Asy.pureI Tryd.tOk rfl rfl rfl (by (first | with_reducible exact u32_xor _ _ | with_reducible exact u32_and _ _ | with_reducible exact u32_or _ _ | with_reducible exact u32_add _ _ | with_reducible exact u32_shl _ _ (by decide) | with_reducible exact u32_shr _ _ (by decide) | with_reducible exact u32_of_u8 _ | exact wr_i64 (by omega) (by omega) | rfl)) ?_ | refine Asy.pure Tryd.tOk rfl rfl rfl ?_ | refine Asy.unwantedD rfl rfl rfl ?_)
      refine Asy.val rfl rfl rfl rfl (fun _ _ => OpE.keep (OpE.call rfl (rotl_ok _ 18 (by decide) (by decide) _))) ?_
      repeat (first | refine Asy.pureI Tryd.tOk rfl rfl rfl (by (first | with_reducible exact u32_xor _ _ | with_reducible exact u32_and _ _ | with_reducible exact u32_or _ _ | with_reducible exact u32_add _ _ | with_reducible exact u32_shl _ _ (by decide) | with_reducible exact u32_shr _ _ (by decide) | with_reducible exact u32_of_u8 _ | exact wr_i64 (by omega) (by omega) | rfl)) ?_ | refine Asy.pure Tryd.tOk rfl rfl rfl ?_ | refine Asy.unwantedD rfl rfl rfl ?_)
      refine Asy.v rfl rfl rfl rfl (fun _ _ => OpV.indexA1 Tryd.tOk (k + 9) rfl rfl rfl (by omega) (by omega)) ?_
      refine Asy.v rfl rfl rfl rfl (fun _ X' => OpV.load1 Tryd.tOk rfl rfl rfl ((Z8.ext X' id).row (k + 9) _ (vals_get _ (by omega)))) ?_
      repeat (first | refine Asy.pureI Tryd.tOk rfl rfl rfl (by (first | with_reducible exact u32_xor _ _ | with_reducible exact u32_and _ _ | with_reducible exact u32_or _ _ | with_reducible exact u32_add _ _ | with_reducible exact u32_shl _ _ (by decide) | with_reducible exact u32_shr _ _ (by decide) | with_reducible exact u32_of_u8 _ | exact wr_i64 (by omega) (by omega) | rfl)) ?_ | refine Asy.pure Tryd.tOk rfl rfl rfl ?_ | refine Asy.unwantedD rfl rfl rfl ?_)
      refine Asy.val rfl rfl rfl rfl (fun _ _ => OpE.keep (OpE.call rfl (rotl_ok _ 17 (by decide) (by decide) _))) ?_
      repeat (first | refine Asy.pureI Tryd.tOk rfl rfl rfl (by (first | with_reducible exact u32_xor _ _ | with_reducible exact u32_and _ _ | with_reducible exact u32_or _ _ | with_reducible exact u32_add _ _ | with_reducible exact u32_shl _ _ (by decide) | with_reducible exact u32_shr _ _ (by decide) | with_reducible exact u32_of_u8 _ | exact wr_i64 (by omega) (by omega) | rfl)) ?_ | refine Asy.pure Tryd.tOk rfl rfl rfl ?_ | refine Asy.unwantedD rfl rfl rfl ?_)
      refine Asy.val rfl rfl rfl rfl (fun _ _ => OpE.keep (OpE.call rfl (rotl_ok _ 19 (by decide) (by decide) _))) ?_
      repeat (first | refine Asy.pureI Tryd.tOk rfl rfl rfl (by (first | with_reducible exact u32_xor _ _ | with_reducible exact u32_and _ _ | with_reducible exact u32_or _ _ | with_reducible exact u32_add _ _ | with_reducible exact u32_shl _ _ (by decide) | with_reducible exact u32_shr _ _ (by decide) | with_reducible exact u32_of_u8 _ | exact wr_i64 (by omega) (by omega) | rfl)) ?_ | refine Asy.pure Tryd.tOk rfl rfl rfl ?_ | refine Asy.unwantedD rfl rfl rfl ?_)
      refine Asy.tail (by kernel_rfl) ?_
      intro w9 X9
      simp only [satsAll]
      refine RunL.val rfl rfl rfl (OpV.indexA1 Tryd.tOk (16 + k) rfl rfl rfl rfl (by omega)) ?_
      refine RunL.store Tryd.tOk rfl rfl rfl rfl rfl (Z8.ext X9 id) (by simp [vals_length, hsl, Value.cells]; omega) rfl fun w10 t10 => ?_
      have X10 : Ext w w10 := (X7.trans (X8.trans X9)).write t10.ext (by intro i hi hlt; subst hi; omega)
      have Z10 : Blk w10 B4 (vals (sched (words l 16) (k + 1) ++ List.replicate (48 - (k + 1)) 0)) 93 := by
        have := t10.at_
        have e := set_at (n := 48 - (k + 1)) (nextW (sched (words l 16) k) k) hsl
        rw [show 48 - (k + 1) + 1 = 48 - k by omega] at e
        unfold Blk
        rw [sched, ← e, this]
        rw [Nat.zero_add]
        rfl
      repeat (first | refine RunL.pureI Tryd.tOk rfl rfl rfl (by (first | exact wr_i64 (by omega) (by omega) | exact wm_i64 (by omega) | exact wq_i64 (by omega) (by omega) (by omega) | rfl)) ?_ | refine RunL.pure Tryd.tOk rfl rfl rfl ?_ | refine RunL.unwantedD rfl rfl ?_ | refine RunE.seq ?_ | refine RunE.region ?_ | refine RunL.nil ?_ | refine RunE.block ?_ | refine RunE.inBlock ?_ | refine RunE.skip ?_ | refine RunE.exit rfl ?_ | refine RunE.scope ?_ | refine RunE.inScope ?_ | refine RunE.label ?_)
      exact RunE.weaken (by repeat (first | exact Sub.nil _ | refine Sub.cons rfl ?_)) (again (k + 1) _ (by omega) ⟨by omega, X10, Z10⟩)
    · have hk : k = 48 := by omega
      subst hk
      clear again
      repeat (first | refine RunL.pureI Tryd.tOk rfl rfl rfl (by (first | exact wr_i64 (by omega) (by omega) | exact wm_i64 (by omega) | exact wq_i64 (by omega) (by omega) (by omega) | rfl)) ?_ | refine RunL.pure Tryd.tOk rfl rfl rfl ?_ | refine RunL.unwantedD rfl rfl ?_ | refine RunE.seq ?_ | refine RunE.region ?_ | refine RunL.nil ?_ | refine RunE.block ?_ | refine RunE.inBlock ?_ | refine RunE.skip ?_ | refine RunE.exit rfl ?_ | refine RunE.scope ?_ | refine RunE.inScope ?_ | refine RunE.label ?_)
      have hb4 : Row w4 1 0 (vals kTab) := hkT.extE X4
      have Zb := hb.ext X4 id
      refine RunL.val rfl rfl rfl (OpV.loadN (cs := vals s.l) Tryd.tOk rfl rfl rfl rfl Zb.row) ?_
      repeat (first | refine RunL.pureI Tryd.tOk rfl rfl rfl (by (first | exact wr_i64 (by omega) (by omega) | exact wm_i64 (by omega) | exact wq_i64 (by omega) (by omega) (by omega) | rfl)) ?_ | refine RunL.pure Tryd.tOk rfl rfl rfl ?_ | refine RunL.unwantedD rfl rfl ?_ | refine RunE.seq ?_ | refine RunE.region ?_ | refine RunL.nil ?_ | refine RunE.block ?_ | refine RunE.inBlock ?_ | refine RunE.skip ?_ | refine RunE.exit rfl ?_ | refine RunE.scope ?_ | refine RunE.inScope ?_ | refine RunE.label ?_)
      refine RunL.alloc Tryd.tOk rfl rfl rfl fun B9 w5 a5 => ?_
      have hB9 := a5.eq
      have X5 := X4.trans a5.ext
      have h4 := Z4.lt
      have Z5 := Z4.ext a5.ext id
      refine RunL.store (v := .agg (vals s.l).toArray) Tryd.tOk rfl rfl rfl rfl rfl (cs := List.replicate 8 (.int .u32 0)) a5.at_ rfl rfl fun w6 t6 => ?_
      have X6 : Ext w w6 := X5.write t6.ext (by intro i hi hlt; subst hi; have := X4.size; omega)
      have Z6 := Z5.ext t6.ext (by omega)
      have V6 : Blk w6 B9 (vals s.l) 75 := t6.at_
      have hwB : w.heap.size ≤ B9 := by have := X4.size; omega
      clear a5 t6 Z5 X5 Z4 X4 Zb
      repeat (first | refine RunL.pureI Tryd.tOk rfl rfl rfl (by (first | exact wr_i64 (by omega) (by omega) | exact wm_i64 (by omega) | exact wq_i64 (by omega) (by omega) (by omega) | rfl)) ?_ | refine RunL.pure Tryd.tOk rfl rfl rfl ?_ | refine RunL.unwantedD rfl rfl ?_ | refine RunE.seq ?_ | refine RunE.region ?_ | refine RunL.nil ?_ | refine RunE.block ?_ | refine RunE.inBlock ?_ | refine RunE.skip ?_ | refine RunE.exit rfl ?_ | refine RunE.scope ?_ | refine RunE.inScope ?_ | refine RunE.label ?_)
      generalize hws : sched (words l 16) 48 = ws
      rw [hws] at Z6 hsl
      refine RunE.loop (ι := Nat) (fun t => [(0, .pointer (some ⟨b, 0, none⟩)), (4, .pointer (some ⟨B4, 0, none⟩)), (9, .pointer (some ⟨B9, 0, none⟩)), (69, .int .i64 (t : Int))])
        (fun t w' => t ≤ 64 ∧ Ext w w' ∧ Blk w' B4 (vals (ws ++ [])) 93 ∧ Blk w' B9 (vals (rnds ws s t).l) 75) (fun t => 64 - t) 0 (by repeat (first | exact Sub.nil _ | refine Sub.cons rfl ?_)) ⟨by omega, X6, Z6, V6⟩ ?_
      rintro t w7 ⟨ht, X7, Z7, V7⟩ again
      repeat (first | refine RunL.pureI Tryd.tOk rfl rfl rfl (by (first | exact wr_i64 (by omega) (by omega) | exact wm_i64 (by omega) | exact wq_i64 (by omega) (by omega) (by omega) | rfl)) ?_ | refine RunL.pure Tryd.tOk rfl rfl rfl ?_ | refine RunL.unwantedD rfl rfl ?_ | refine RunE.seq ?_ | refine RunE.region ?_ | refine RunL.nil ?_ | refine RunE.block ?_ | refine RunE.inBlock ?_ | refine RunE.skip ?_ | refine RunE.exit rfl ?_ | refine RunE.scope ?_ | refine RunE.inScope ?_ | refine RunE.label ?_)
      refine RunE.cond rfl (fun hlt3 => ?_) (fun hlt3 => ?_) <;> (first | replace hlt3 := of_decide_eq_true hlt3 | replace hlt3 := of_decide_eq_false hlt3 | replace hlt3 := beq_iff_eq.1 hlt3 | replace hlt3 := beq_eq_false_iff_ne.1 hlt3 | replace hlt3 := bne_iff_ne.1 hlt3 | replace hlt3 := bne_eq_false_iff_eq.1 hlt3 | skip)
      · have ht' : t < kTab.length := by simp [kTab]; omega
        repeat (first | refine RunL.pureI Tryd.tOk rfl rfl rfl (by (first | exact wr_i64 (by omega) (by omega) | exact wm_i64 (by omega) | exact wq_i64 (by omega) (by omega) (by omega) | rfl)) ?_ | refine RunL.pure Tryd.tOk rfl rfl rfl ?_ | refine RunL.unwantedD rfl rfl ?_ | refine RunE.seq ?_ | refine RunE.region ?_ | refine RunL.nil ?_ | refine RunE.block ?_ | refine RunE.inBlock ?_ | refine RunE.skip ?_ | refine RunE.exit rfl ?_ | refine RunE.scope ?_ | refine RunE.inScope ?_ | refine RunE.label ?_)
        refine RunE.draw (fun _ => False) mix ?_
        intro w8 X8
        have Z8 := Z7.ext X8 id
        have V8 := V7.ext X8 id
        have K8 : Row w8 1 0 (vals kTab) := hkT.extE (X7.trans X8)
        repeat (first | refine Asy.v rfl rfl rfl rfl (fun _ X_ => OpV.xor32 rfl rfl) ?_ | refine Asy.v rfl rfl rfl rfl (fun _ X_ => OpV.and32 rfl rfl) ?_ | refine Asy.v rfl rfl rfl rfl (fun _ X_ => OpV.or32 rfl rfl) ?_ | refine Asy.v rfl rfl rfl rfl (fun _ X_ => OpV.add32 rfl rfl) ?_ | refine Asy.v rfl rfl rfl rfl (fun _ X_ => OpV.shl32 rfl rfl rfl) ?_ | refine Asy.v rfl rfl rfl rfl (fun _ X_ => OpV.shr32 rfl rfl rfl) ?_ | refine Asy.pureI Tryd.tOk rfl rfl rfl (by (first | exact wr_i64 (by omega) (by omega) | exact wm_i64 (by omega) | exact wq_i64 (by omega) (by omega) (by omega) | rfl)) ?_ | refine Asy.pure Tryd.tOk rfl rfl rfl ?_ | refine Asy.unwantedD rfl rfl rfl ?_ | refine Asy.v rfl rfl rfl rfl (fun _ X_ => OpV.indexAK Tryd.tOk rfl rfl rfl rfl) ?_ | refine Asy.v rfl rfl rfl rfl (fun _ X_ => OpV.indexSK Tryd.tOk rfl rfl rfl rfl) ?_ | refine Asy.v rfl rfl rfl rfl (fun _ X_ => OpV.load1 Tryd.tOk rfl rfl rfl (Blk.cell (V8.ext X_ id) rfl)) ?_)
        refine Asy.val rfl rfl rfl rfl (fun _ _ => OpE.keep (OpE.call rfl (rotated_ok _ 6 11 25 (by decide) (by decide) (by decide) _))) ?_
        repeat (first | refine Asy.v rfl rfl rfl rfl (fun _ X_ => OpV.xor32 rfl rfl) ?_ | refine Asy.v rfl rfl rfl rfl (fun _ X_ => OpV.and32 rfl rfl) ?_ | refine Asy.v rfl rfl rfl rfl (fun _ X_ => OpV.or32 rfl rfl) ?_ | refine Asy.v rfl rfl rfl rfl (fun _ X_ => OpV.add32 rfl rfl) ?_ | refine Asy.v rfl rfl rfl rfl (fun _ X_ => OpV.shl32 rfl rfl rfl) ?_ | refine Asy.v rfl rfl rfl rfl (fun _ X_ => OpV.shr32 rfl rfl rfl) ?_ | refine Asy.pureI Tryd.tOk rfl rfl rfl (by (first | exact wr_i64 (by omega) (by omega) | exact wm_i64 (by omega) | exact wq_i64 (by omega) (by omega) (by omega) | rfl)) ?_ | refine Asy.pure Tryd.tOk rfl rfl rfl ?_ | refine Asy.unwantedD rfl rfl rfl ?_ | refine Asy.v rfl rfl rfl rfl (fun _ X_ => OpV.indexAK Tryd.tOk rfl rfl rfl rfl) ?_ | refine Asy.v rfl rfl rfl rfl (fun _ X_ => OpV.indexSK Tryd.tOk rfl rfl rfl rfl) ?_ | refine Asy.v rfl rfl rfl rfl (fun _ X_ => OpV.load1 Tryd.tOk rfl rfl rfl (Blk.cell (V8.ext X_ id) rfl)) ?_)
        refine Asy.v rfl rfl rfl rfl (fun _ _ => OpV.indexA1 Tryd.tOk t rfl rfl rfl rfl (by omega)) ?_
        refine Asy.v rfl rfl rfl rfl (fun _ X' => OpV.load1 Tryd.tOk rfl rfl rfl (K8.extE X' t _ (vals_get' ht'))) ?_
        repeat (first | refine Asy.v rfl rfl rfl rfl (fun _ X_ => OpV.xor32 rfl rfl) ?_ | refine Asy.v rfl rfl rfl rfl (fun _ X_ => OpV.and32 rfl rfl) ?_ | refine Asy.v rfl rfl rfl rfl (fun _ X_ => OpV.or32 rfl rfl) ?_ | refine Asy.v rfl rfl rfl rfl (fun _ X_ => OpV.add32 rfl rfl) ?_ | refine Asy.v rfl rfl rfl rfl (fun _ X_ => OpV.shl32 rfl rfl rfl) ?_ | refine Asy.v rfl rfl rfl rfl (fun _ X_ => OpV.shr32 rfl rfl rfl) ?_ | refine Asy.pureI Tryd.tOk rfl rfl rfl (by (first | exact wr_i64 (by omega) (by omega) | exact wm_i64 (by omega) | exact wq_i64 (by omega) (by omega) (by omega) | rfl)) ?_ | refine Asy.pure Tryd.tOk rfl rfl rfl ?_ | refine Asy.unwantedD rfl rfl rfl ?_ | refine Asy.v rfl rfl rfl rfl (fun _ X_ => OpV.indexAK Tryd.tOk rfl rfl rfl rfl) ?_ | refine Asy.v rfl rfl rfl rfl (fun _ X_ => OpV.indexSK Tryd.tOk rfl rfl rfl rfl) ?_ | refine Asy.v rfl rfl rfl rfl (fun _ X_ => OpV.load1 Tryd.tOk rfl rfl rfl (Blk.cell (V8.ext X_ id) rfl)) ?_)
        refine Asy.v rfl rfl rfl rfl (fun _ _ => OpV.indexA1 Tryd.tOk t rfl rfl rfl rfl (by omega)) ?_
        refine Asy.v rfl rfl rfl rfl (fun _ X' => OpV.load1 Tryd.tOk rfl rfl rfl ((Z8.ext X' id).row t _ (vals_get _ (by omega)))) ?_
        repeat (first | refine Asy.v rfl rfl rfl rfl (fun _ X_ => OpV.xor32 rfl rfl) ?_ | refine Asy.v rfl rfl rfl rfl (fun _ X_ => OpV.and32 rfl rfl) ?_ | refine Asy.v rfl rfl rfl rfl (fun _ X_ => OpV.or32 rfl rfl) ?_ | refine Asy.v rfl rfl rfl rfl (fun _ X_ => OpV.add32 rfl rfl) ?_ | refine Asy.v rfl rfl rfl rfl (fun _ X_ => OpV.shl32 rfl rfl rfl) ?_ | refine Asy.v rfl rfl rfl rfl (fun _ X_ => OpV.shr32 rfl rfl rfl) ?_ | refine Asy.pureI Tryd.tOk rfl rfl rfl (by (first | exact wr_i64 (by omega) (by omega) | exact wm_i64 (by omega) | exact wq_i64 (by omega) (by omega) (by omega) | rfl)) ?_ | refine Asy.pure Tryd.tOk rfl rfl rfl ?_ | refine Asy.unwantedD rfl rfl rfl ?_ | refine Asy.v rfl rfl rfl rfl (fun _ X_ => OpV.indexAK Tryd.tOk rfl rfl rfl rfl) ?_ | refine Asy.v rfl rfl rfl rfl (fun _ X_ => OpV.indexSK Tryd.tOk rfl rfl rfl rfl) ?_ | refine Asy.v rfl rfl rfl rfl (fun _ X_ => OpV.load1 Tryd.tOk rfl rfl rfl (Blk.cell (V8.ext X_ id) rfl)) ?_)
        refine Asy.tail (by kernel_rfl) ?_
        intro w9 X9
        simp only [satsAll]
        repeat (first | refine RunL.pureI Tryd.tOk rfl rfl rfl (by (first | exact wr_i64 (by omega) (by omega) | exact wm_i64 (by omega) | exact wq_i64 (by omega) (by omega) (by omega) | rfl)) ?_ | refine RunL.pure Tryd.tOk rfl rfl rfl ?_ | refine RunL.unwantedD rfl rfl ?_ | refine RunE.seq ?_ | refine RunE.region ?_ | refine RunL.nil ?_ | refine RunE.block ?_ | refine RunE.inBlock ?_ | refine RunE.skip ?_ | refine RunE.exit rfl ?_ | refine RunE.scope ?_ | refine RunE.inScope ?_ | refine RunE.label ?_)
        have Y9 := X8.trans X9
        have Z9 := Z7.ext Y9 id
        have V9 := V7.ext Y9 id
        have Q9 := X7.trans Y9
        clear Z7 V7 X7 Y9 X8 X9 Z8 V8 K8
        refine RunE.draw (fun _ => False) mix ?_
        intro u0 E0
        have U0 := V9.ext E0 id
        repeat (first | refine Asy.v rfl rfl rfl rfl (fun _ X_ => OpV.xor32 rfl rfl) ?_ | refine Asy.v rfl rfl rfl rfl (fun _ X_ => OpV.and32 rfl rfl) ?_ | refine Asy.v rfl rfl rfl rfl (fun _ X_ => OpV.or32 rfl rfl) ?_ | refine Asy.v rfl rfl rfl rfl (fun _ X_ => OpV.add32 rfl rfl) ?_ | refine Asy.v rfl rfl rfl rfl (fun _ X_ => OpV.shl32 rfl rfl rfl) ?_ | refine Asy.v rfl rfl rfl rfl (fun _ X_ => OpV.shr32 rfl rfl rfl) ?_ | refine Asy.pureI Tryd.tOk rfl rfl rfl (by (first | exact wr_i64 (by omega) (by omega) | exact wm_i64 (by omega) | exact wq_i64 (by omega) (by omega) (by omega) | rfl)) ?_ | refine Asy.pure Tryd.tOk rfl rfl rfl ?_ | refine Asy.unwantedD rfl rfl rfl ?_ | refine Asy.v rfl rfl rfl rfl (fun _ X_ => OpV.indexAK Tryd.tOk rfl rfl rfl rfl) ?_ | refine Asy.v rfl rfl rfl rfl (fun _ X_ => OpV.indexSK Tryd.tOk rfl rfl rfl rfl) ?_ | refine Asy.v rfl rfl rfl rfl (fun _ X_ => OpV.load1 Tryd.tOk rfl rfl rfl (Blk.cell (U0.ext X_ id) rfl)) ?_)
        refine Asy.val rfl rfl rfl rfl (fun _ _ => OpE.keep (OpE.call rfl (rotated_ok _ 2 13 22 (by decide) (by decide) (by decide) _))) ?_
        repeat (first | refine Asy.v rfl rfl rfl rfl (fun _ X_ => OpV.xor32 rfl rfl) ?_ | refine Asy.v rfl rfl rfl rfl (fun _ X_ => OpV.and32 rfl rfl) ?_ | refine Asy.v rfl rfl rfl rfl (fun _ X_ => OpV.or32 rfl rfl) ?_ | refine Asy.v rfl rfl rfl rfl (fun _ X_ => OpV.add32 rfl rfl) ?_ | refine Asy.v rfl rfl rfl rfl (fun _ X_ => OpV.shl32 rfl rfl rfl) ?_ | refine Asy.v rfl rfl rfl rfl (fun _ X_ => OpV.shr32 rfl rfl rfl) ?_ | refine Asy.pureI Tryd.tOk rfl rfl rfl (by (first | exact wr_i64 (by omega) (by omega) | exact wm_i64 (by omega) | exact wq_i64 (by omega) (by omega) (by omega) | rfl)) ?_ | refine Asy.pure Tryd.tOk rfl rfl rfl ?_ | refine Asy.unwantedD rfl rfl rfl ?_ | refine Asy.v rfl rfl rfl rfl (fun _ X_ => OpV.indexAK Tryd.tOk rfl rfl rfl rfl) ?_ | refine Asy.v rfl rfl rfl rfl (fun _ X_ => OpV.indexSK Tryd.tOk rfl rfl rfl rfl) ?_ | refine Asy.v rfl rfl rfl rfl (fun _ X_ => OpV.load1 Tryd.tOk rfl rfl rfl (Blk.cell (U0.ext X_ id) rfl)) ?_)
        refine Asy.tail (by kernel_rfl) ?_
        intro u1 E1
        simp only [satsAll]
        repeat (first | refine RunL.pureI Tryd.tOk rfl rfl rfl (by (first | exact wr_i64 (by omega) (by omega) | exact wm_i64 (by omega) | exact wq_i64 (by omega) (by omega) (by omega) | rfl)) ?_ | refine RunL.pure Tryd.tOk rfl rfl rfl ?_ | refine RunL.unwantedD rfl rfl ?_ | refine RunE.seq ?_ | refine RunE.region ?_ | refine RunL.nil ?_ | refine RunE.block ?_ | refine RunE.inBlock ?_ | refine RunE.skip ?_ | refine RunE.exit rfl ?_ | refine RunE.scope ?_ | refine RunE.inScope ?_ | refine RunE.label ?_)
        have F1 := E0.trans E1
        have Z1 := Z9.ext F1 id
        have V1 := V9.ext F1 id
        have Q1 := Q9.trans F1
        clear Z9 V9 Q9 E0 E1 F1 U0
        refine RunE.draw (fun _ => False) mix ?_
        intro u2 E2
        refine Asy.v rfl rfl rfl rfl (fun _ _ => OpV.sliceA1 (lo := 1) (hi := 8) Tryd.tOk rfl rfl (.some rfl rfl) .none (by decide) (by decide) (by decide)) ?_
        refine Asy.v rfl rfl rfl rfl (fun _ _ => OpV.sliceA0 (hi := 7) Tryd.tOk rfl rfl .none (.some rfl rfl) (by decide)) ?_
        refine Asy.tail (by kernel_rfl) ?_
        intro u3 E3
        simp only [satsAll]
        have F3 := E2.trans E3
        have Z3 := Z1.ext F3 id
        have V3 := V1.ext F3 id
        have Q3 := Q1.trans F3
        clear Z1 V1 Q1 E2 E3 F3
        refine RunL.ex rfl rfl rfl (OpE.copy (vs := (vals (rnds ws s t).l).take 7) Tryd.tOk rfl rfl rfl V3 (V3.row.take 7) rfl (Nat.le_of_ble_eq_true rfl) rfl) ?_
        rintro _ u4 ⟨rfl, t4⟩
        have Z4 := Z3.ext t4.ext (by omega)
        have V4 : Blk u4 B9 (vals [(rnds ws s t).a, (rnds ws s t).a, (rnds ws s t).b, (rnds ws s t).c, (rnds ws s t).d, (rnds ws s t).e, (rnds ws s t).f, (rnds ws s t).g]) 75 := t4.at_
        have Q4 : Ext w u4 := Q3.write t4.ext (by intro i hi hlt; subst hi; omega)
        clear Z3 V3 Q3 t4
        repeat (first | refine RunL.pureI Tryd.tOk rfl rfl rfl (by (first | exact wr_i64 (by omega) (by omega) | exact wm_i64 (by omega) | exact wq_i64 (by omega) (by omega) (by omega) | rfl)) ?_ | refine RunL.pure Tryd.tOk rfl rfl rfl ?_ | refine RunL.unwantedD rfl rfl ?_ | refine RunE.seq ?_ | refine RunE.region ?_ | refine RunL.nil ?_ | refine RunE.block ?_ | refine RunE.inBlock ?_ | refine RunE.skip ?_ | refine RunE.exit rfl ?_ | refine RunE.scope ?_ | refine RunE.inScope ?_ | refine RunE.label ?_)
        repeat (first | refine RunL.val rfl rfl rfl (OpV.xor32 rfl rfl) ?_ | refine RunL.val rfl rfl rfl (OpV.and32 rfl rfl) ?_ | refine RunL.val rfl rfl rfl (OpV.or32 rfl rfl) ?_ | refine RunL.val rfl rfl rfl (OpV.add32 rfl rfl) ?_ | refine RunL.val rfl rfl rfl (OpV.shl32 rfl rfl rfl) ?_ | refine RunL.val rfl rfl rfl (OpV.shr32 rfl rfl rfl) ?_ | refine RunL.pureI Tryd.tOk rfl rfl rfl (by (first | exact wr_i64 (by omega) (by omega) | exact wm_i64 (by omega) | exact wq_i64 (by omega) (by omega) (by omega) | rfl)) ?_ | refine RunL.pure Tryd.tOk rfl rfl rfl ?_ | refine RunL.unwantedD rfl rfl ?_ | refine RunL.val rfl rfl rfl (OpV.indexAK Tryd.tOk rfl rfl rfl rfl) ?_ | refine RunL.val rfl rfl rfl (OpV.indexSK Tryd.tOk rfl rfl rfl rfl) ?_ | refine RunL.val rfl rfl rfl (OpV.load1 Tryd.tOk rfl rfl rfl (Blk.cell V4 rfl)) ?_ | refine RunE.seq ?_ | refine RunE.region ?_ | refine RunL.nil ?_ | refine RunE.block ?_ | refine RunE.inBlock ?_ | refine RunE.skip ?_ | refine RunE.exit rfl ?_ | refine RunE.scope ?_ | refine RunE.inScope ?_ | refine RunE.label ?_)
        refine RunL.store Tryd.tOk rfl rfl rfl rfl rfl V4 rfl rfl fun u5 t5 => ?_
        have V5 := t5.at_
        have Z5 := Z4.ext t5.ext (by omega)
        have Q5 : Ext w u5 := Q4.write t5.ext (by intro i hi hlt; subst hi; omega)
        clear V4 Z4 Q4 t5
        repeat (first | refine RunL.val rfl rfl rfl (OpV.xor32 rfl rfl) ?_ | refine RunL.val rfl rfl rfl (OpV.and32 rfl rfl) ?_ | refine RunL.val rfl rfl rfl (OpV.or32 rfl rfl) ?_ | refine RunL.val rfl rfl rfl (OpV.add32 rfl rfl) ?_ | refine RunL.val rfl rfl rfl (OpV.shl32 rfl rfl rfl) ?_ | refine RunL.val rfl rfl rfl (OpV.shr32 rfl rfl rfl) ?_ | refine RunL.pureI Tryd.tOk rfl rfl rfl (by (first | exact wr_i64 (by omega) (by omega) | exact wm_i64 (by omega) | exact wq_i64 (by omega) (by omega) (by omega) | rfl)) ?_ | refine RunL.pure Tryd.tOk rfl rfl rfl ?_ | refine RunL.unwantedD rfl rfl ?_ | refine RunL.val rfl rfl rfl (OpV.indexAK Tryd.tOk rfl rfl rfl rfl) ?_ | refine RunL.val rfl rfl rfl (OpV.indexSK Tryd.tOk rfl rfl rfl rfl) ?_ | refine RunL.val rfl rfl rfl (OpV.load1 Tryd.tOk rfl rfl rfl (Blk.cell V5 rfl)) ?_ | refine RunE.seq ?_ | refine RunE.region ?_ | refine RunL.nil ?_ | refine RunE.block ?_ | refine RunE.inBlock ?_ | refine RunE.skip ?_ | refine RunE.exit rfl ?_ | refine RunE.scope ?_ | refine RunE.inScope ?_ | refine RunE.label ?_)
        refine RunL.store Tryd.tOk rfl rfl rfl rfl rfl V5 rfl rfl fun u6 t6 => ?_
        have V6 := t6.at_
        have Z6 := Z5.ext t6.ext (by omega)
        have Q6 : Ext w u6 := Q5.write t6.ext (by intro i hi hlt; subst hi; omega)
        clear V5 Z5 Q5 t6
        repeat (first | refine RunL.pureI Tryd.tOk rfl rfl rfl (by (first | exact wr_i64 (by omega) (by omega) | exact wm_i64 (by omega) | exact wq_i64 (by omega) (by omega) (by omega) | rfl)) ?_ | refine RunL.pure Tryd.tOk rfl rfl rfl ?_ | refine RunL.unwantedD rfl rfl ?_ | refine RunE.seq ?_ | refine RunE.region ?_ | refine RunL.nil ?_ | refine RunE.block ?_ | refine RunE.inBlock ?_ | refine RunE.skip ?_ | refine RunE.exit rfl ?_ | refine RunE.scope ?_ | refine RunE.inScope ?_ | refine RunE.label ?_)
        refine RunE.weaken (by repeat (first | exact Sub.nil _ | refine Sub.cons rfl ?_)) (again (t + 1) _ (by omega) ⟨by omega, Q6, Z6, ?_⟩)
        have e : vals (rnds ws s (t + 1)).l = vals (rnd (rnds ws s t) (kTab.getD t 0) (ws.getD t 0)).l := rfl
        rw [e]
        rw [ch_eq, maj_eq] at V6
        exact V6
      · have ht64 : t = 64 := by omega
        subst ht64
        clear again
        repeat (first | refine RunL.pureI Tryd.tOk rfl rfl rfl (by (first | exact wr_i64 (by omega) (by omega) | exact wm_i64 (by omega) | exact wq_i64 (by omega) (by omega) (by omega) | rfl)) ?_ | refine RunL.pure Tryd.tOk rfl rfl rfl ?_ | refine RunL.unwantedD rfl rfl ?_ | refine RunE.seq ?_ | refine RunE.region ?_ | refine RunL.nil ?_ | refine RunE.block ?_ | refine RunE.inBlock ?_ | refine RunE.skip ?_ | refine RunE.exit rfl ?_ | refine RunE.scope ?_ | refine RunE.inScope ?_ | refine RunE.label ?_)
        have hvl : (vals (rnds ws s 64).l).length = 8 := rfl
        have hbl : block s l = s.add (rnds ws s 64) := by rw [block, hws]
        generalize rnds ws s 64 = v at V7 hbl hvl
        refine RunE.loop (ι := Nat) (fun i => [(0, .pointer (some ⟨b, 0, none⟩)), (9, .pointer (some ⟨B9, 0, none⟩)), (129, .int .i64 (i : Int))])
          (fun i w' => i ≤ 8 ∧ ExtB (· = b) w w' ∧ Blk w' b (vals (midw s v i)) bt ∧ Blk w' B9 (vals v.l) 75) (fun i => 8 - i) 0 (by repeat (first | exact Sub.nil _ | refine Sub.cons rfl ?_)) ⟨by omega, .of_ext X7, hb.ext X7 id, V7⟩ ?_
        clear V7 X7 Z7
        rintro i u0 ⟨hi, E0, P0, V0⟩ again
        repeat (first | refine RunL.pureI Tryd.tOk rfl rfl rfl (by (first | exact wr_i64 (by omega) (by omega) | exact wm_i64 (by omega) | exact wq_i64 (by omega) (by omega) (by omega) | rfl)) ?_ | refine RunL.pure Tryd.tOk rfl rfl rfl ?_ | refine RunL.unwantedD rfl rfl ?_ | refine RunE.seq ?_ | refine RunE.region ?_ | refine RunL.nil ?_ | refine RunE.block ?_ | refine RunE.inBlock ?_ | refine RunE.skip ?_ | refine RunE.exit rfl ?_ | refine RunE.scope ?_ | refine RunE.inScope ?_ | refine RunE.label ?_)
        refine RunE.cond rfl (fun hlt4 => ?_) (fun hlt4 => ?_) <;> (first | replace hlt4 := of_decide_eq_true hlt4 | replace hlt4 := of_decide_eq_false hlt4 | replace hlt4 := beq_iff_eq.1 hlt4 | replace hlt4 := beq_eq_false_iff_ne.1 hlt4 | replace hlt4 := bne_iff_ne.1 hlt4 | replace hlt4 := bne_eq_false_iff_eq.1 hlt4 | skip)
        · repeat (first | refine RunL.pureI Tryd.tOk rfl rfl rfl (by (first | exact wr_i64 (by omega) (by omega) | exact wm_i64 (by omega) | exact wq_i64 (by omega) (by omega) (by omega) | rfl)) ?_ | refine RunL.pure Tryd.tOk rfl rfl rfl ?_ | refine RunL.unwantedD rfl rfl ?_ | refine RunE.seq ?_ | refine RunE.region ?_ | refine RunL.nil ?_ | refine RunE.block ?_ | refine RunE.inBlock ?_ | refine RunE.skip ?_ | refine RunE.exit rfl ?_ | refine RunE.scope ?_ | refine RunE.inScope ?_ | refine RunE.label ?_)
          refine RunE.draw (fun _ => False) mix ?_
          intro u1 E1
          have P1 := P0.ext E1 id
          have V1 := V0.ext E1 id
          repeat (first | refine Asy.v rfl rfl rfl rfl (fun _ X_ => OpV.xor32 rfl rfl) ?_ | refine Asy.v rfl rfl rfl rfl (fun _ X_ => OpV.and32 rfl rfl) ?_ | refine Asy.v rfl rfl rfl rfl (fun _ X_ => OpV.or32 rfl rfl) ?_ | refine Asy.v rfl rfl rfl rfl (fun _ X_ => OpV.add32 rfl rfl) ?_ | refine Asy.v rfl rfl rfl rfl (fun _ X_ => OpV.shl32 rfl rfl rfl) ?_ | refine Asy.v rfl rfl rfl rfl (fun _ X_ => OpV.shr32 rfl rfl rfl) ?_ | refine Asy.pureI Tryd.tOk rfl rfl rfl (by (first | exact wr_i64 (by omega) (by omega) | exact wm_i64 (by omega) | exact wq_i64 (by omega) (by omega) (by omega) | rfl)) ?_ | refine Asy.pure Tryd.tOk rfl rfl rfl ?_ | refine Asy.unwantedD rfl rfl rfl ?_ | refine Asy.v rfl rfl rfl rfl (fun _ X_ => OpV.indexAK Tryd.tOk rfl rfl rfl rfl) ?_ | refine Asy.v rfl rfl rfl rfl (fun _ X_ => OpV.indexSK Tryd.tOk rfl rfl rfl rfl) ?_)
          refine Asy.v rfl rfl rfl rfl (fun _ _ => OpV.indexA1 Tryd.tOk i rfl rfl rfl rfl (by omega)) ?_
          refine Asy.v rfl rfl rfl rfl (fun _ X' => OpV.load1 Tryd.tOk rfl rfl rfl ((P1.ext X' id).row i _ (midw_set s v i (by omega)).2)) ?_
          repeat (first | refine Asy.v rfl rfl rfl rfl (fun _ X_ => OpV.xor32 rfl rfl) ?_ | refine Asy.v rfl rfl rfl rfl (fun _ X_ => OpV.and32 rfl rfl) ?_ | refine Asy.v rfl rfl rfl rfl (fun _ X_ => OpV.or32 rfl rfl) ?_ | refine Asy.v rfl rfl rfl rfl (fun _ X_ => OpV.add32 rfl rfl) ?_ | refine Asy.v rfl rfl rfl rfl (fun _ X_ => OpV.shl32 rfl rfl rfl) ?_ | refine Asy.v rfl rfl rfl rfl (fun _ X_ => OpV.shr32 rfl rfl rfl) ?_ | refine Asy.pureI Tryd.tOk rfl rfl rfl (by (first | exact wr_i64 (by omega) (by omega) | exact wm_i64 (by omega) | exact wq_i64 (by omega) (by omega) (by omega) | rfl)) ?_ | refine Asy.pure Tryd.tOk rfl rfl rfl ?_ | refine Asy.unwantedD rfl rfl rfl ?_ | refine Asy.v rfl rfl rfl rfl (fun _ X_ => OpV.indexAK Tryd.tOk rfl rfl rfl rfl) ?_ | refine Asy.v rfl rfl rfl rfl (fun _ X_ => OpV.indexSK Tryd.tOk rfl rfl rfl rfl) ?_)
          refine Asy.v rfl rfl rfl rfl (fun _ _ => OpV.indexA1 Tryd.tOk i rfl rfl rfl rfl (by omega)) ?_
          refine Asy.v rfl rfl rfl rfl (fun _ X' => OpV.load1 Tryd.tOk rfl rfl rfl ((V1.ext X' id).row i _ (vals_get' (by show i < 8; omega)))) ?_
          repeat (first | refine Asy.v rfl rfl rfl rfl (fun _ X_ => OpV.xor32 rfl rfl) ?_ | refine Asy.v rfl rfl rfl rfl (fun _ X_ => OpV.and32 rfl rfl) ?_ | refine Asy.v rfl rfl rfl rfl (fun _ X_ => OpV.or32 rfl rfl) ?_ | refine Asy.v rfl rfl rfl rfl (fun _ X_ => OpV.add32 rfl rfl) ?_ | refine Asy.v rfl rfl rfl rfl (fun _ X_ => OpV.shl32 rfl rfl rfl) ?_ | refine Asy.v rfl rfl rfl rfl (fun _ X_ => OpV.shr32 rfl rfl rfl) ?_ | refine Asy.pureI Tryd.tOk rfl rfl rfl (by (first | exact wr_i64 (by omega) (by omega) | exact wm_i64 (by omega) | exact wq_i64 (by omega) (by omega) (by omega) | rfl)) ?_ | refine Asy.pure Tryd.tOk rfl rfl rfl ?_ | refine Asy.unwantedD rfl rfl rfl ?_ | refine Asy.v rfl rfl rfl rfl (fun _ X_ => OpV.indexAK Tryd.tOk rfl rfl rfl rfl) ?_ | refine Asy.v rfl rfl rfl rfl (fun _ X_ => OpV.indexSK Tryd.tOk rfl rfl rfl rfl) ?_)
          refine Asy.tail (by kernel_rfl) ?_
          intro u2 E2
          simp only [satsAll]
          have P2 := P1.ext E2 id
          have V2 := V1.ext E2 id
          have Q2 := E0.trans (.of_ext (E1.trans E2))
          repeat (first | refine RunL.pureI Tryd.tOk rfl rfl rfl (by (first | exact wr_i64 (by omega) (by omega) | exact wm_i64 (by omega) | exact wq_i64 (by omega) (by omega) (by omega) | rfl)) ?_ | refine RunL.pure Tryd.tOk rfl rfl rfl ?_ | refine RunL.unwantedD rfl rfl ?_ | refine RunE.seq ?_ | refine RunE.region ?_ | refine RunL.nil ?_ | refine RunE.block ?_ | refine RunE.inBlock ?_ | refine RunE.skip ?_ | refine RunE.exit rfl ?_ | refine RunE.scope ?_ | refine RunE.inScope ?_ | refine RunE.label ?_)
          refine RunL.val rfl rfl rfl (OpV.indexA1 Tryd.tOk i rfl rfl rfl rfl (by omega)) ?_
          refine RunL.store Tryd.tOk rfl rfl rfl rfl rfl P2 (by simp [vals_length, midw, S8.l, S8.add, Value.cells]; omega) rfl fun u3 t3 => ?_
          have Q3 := Q2.write t3.ext (by intro i hi _; exact hi)
          have V3 := V2.ext t3.ext (by omega)
          have P3 : Blk u3 b (vals (midw s v (i + 1))) bt := by
            have := t3.at_
            rw [← (midw_set s v i (by omega)).1]
            rw [Nat.zero_add] at this
            exact this
          repeat (first | refine RunL.pureI Tryd.tOk rfl rfl rfl (by (first | exact wr_i64 (by omega) (by omega) | exact wm_i64 (by omega) | exact wq_i64 (by omega) (by omega) (by omega) | rfl)) ?_ | refine RunL.pure Tryd.tOk rfl rfl rfl ?_ | refine RunL.unwantedD rfl rfl ?_ | refine RunE.seq ?_ | refine RunE.region ?_ | refine RunL.nil ?_ | refine RunE.block ?_ | refine RunE.inBlock ?_ | refine RunE.skip ?_ | refine RunE.exit rfl ?_ | refine RunE.scope ?_ | refine RunE.inScope ?_ | refine RunE.label ?_)
          exact RunE.weaken (by repeat (first | exact Sub.nil _ | refine Sub.cons rfl ?_)) (again (i + 1) _ (by omega) ⟨by omega, Q3, P3, V3⟩)
        · have hi8 : i = 8 := by omega
          subst hi8
          repeat (first | refine RunL.pureI Tryd.tOk rfl rfl rfl (by (first | exact wr_i64 (by omega) (by omega) | exact wm_i64 (by omega) | exact wq_i64 (by omega) (by omega) (by omega) | rfl)) ?_ | refine RunL.pure Tryd.tOk rfl rfl rfl ?_ | refine RunL.unwantedD rfl rfl ?_ | refine RunE.seq ?_ | refine RunE.region ?_ | refine RunL.nil ?_ | refine RunE.block ?_ | refine RunE.inBlock ?_ | refine RunE.skip ?_ | refine RunE.exit rfl ?_ | refine RunE.scope ?_ | refine RunE.inScope ?_ | refine RunE.label ?_)
          refine RunE.fallFn Tryd.func52 .nil ⟨rfl, ?_, E0⟩
          rw [hbl]; exact P0
end Go.Sg
