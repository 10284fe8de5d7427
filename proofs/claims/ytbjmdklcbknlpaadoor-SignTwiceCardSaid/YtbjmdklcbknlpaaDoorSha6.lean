/- The reference's tagged digest and hash. -/
import Derived.Test.YtbjmdklcbknlpaaDoorSha5
namespace Go.Sg
open Go.Rn Go.Sha Go.Proofs
attribute [local irreducible] Go.Rn.RunL Go.Rn.RunE Go.Rn.Asy Go.Rn.OpV Go.Rn.OpE Go.Rn.ExecE

theorem rtagged_ok (tag : ByteArray) (v : Value) (l : List UInt8) (w : World) (ht : tag.size ≤ 1000000) (hv : IsSl w 1 v l.length (bytesV l)) (hl : l.length ≤ 900000) :
    Rets Tryd.prog 30 [.string tag, v] w fun r w' => r = .agg (bytesV (tagged tag.data.toList l)).toArray ∧ Ext w w' := by
  refine RetsX.of (nt := 15) Tryd.func30 (by kernel_rfl) rfl rfl (by simp) (by simp only [argEnv]; rfl) ?_
  repeat (first | refine RunL.pureI Tryd.tOk rfl rfl rfl (by (first | exact wr_i64 (by omega) (by omega) | exact wm_i64 (by omega) | exact wq_i64 (by omega) (by omega) (by omega) | rfl)) ?_ | refine RunL.pure Tryd.tOk rfl rfl rfl ?_ | refine RunL.unwantedD rfl rfl ?_ | refine RunE.seq ?_ | refine RunE.region ?_ | refine RunL.nil ?_ | refine RunE.block ?_ | refine RunE.inBlock ?_ | refine RunE.skip ?_ | refine RunE.exit rfl ?_ | refine RunE.scope ?_ | refine RunE.inScope ?_ | refine RunE.label ?_)
  refine RunL.alloc Tryd.tOk rfl rfl rfl fun B4 w1 a1 => ?_
  repeat (first | refine RunL.pureI Tryd.tOk rfl rfl rfl (by (first | exact wr_i64 (by omega) (by omega) | exact wm_i64 (by omega) | exact wq_i64 (by omega) (by omega) (by omega) | rfl)) ?_ | refine RunL.pure Tryd.tOk rfl rfl rfl ?_ | refine RunL.unwantedD rfl rfl ?_ | refine RunE.seq ?_ | refine RunE.region ?_ | refine RunL.nil ?_ | refine RunE.block ?_ | refine RunE.inBlock ?_ | refine RunE.skip ?_ | refine RunE.exit rfl ?_ | refine RunE.scope ?_ | refine RunE.inScope ?_ | refine RunE.label ?_)
  refine RunL.ex rfl rfl rfl (OpE.s2b Tryd.tOk rfl rfl rfl rfl) ?_
  rintro _ w2 ⟨B, cap, rfl, X2, hB, hr, hc⟩
  have hlen : tag.data.toList.length = tag.size := rfl
  have Y2 := a1.ext.trans X2
  refine RunL.call rfl rfl rfl (rsum_ok _ tag.data.toList w2 (by rw [hlen]; exact .row hr (by rw [bytesV_length, hlen, Nat.mul_one]) hc) (by omega)) ?_
  rintro _ w3 ⟨rfl, X3⟩
  have Y3 := Y2.trans X3
  refine RunL.alloc Tryd.tOk rfl rfl rfl fun B5 w4 a4 => ?_
  have hsl := sha_length tag.data.toList
  unfold tagged
  generalize sha tag.data.toList = D at hsl ⊢
  refine RunL.store (v := .agg (bytesV D).toArray) Tryd.tOk rfl rfl rfl rfl (by simp [Value.cells, bytesV_length, hsl]) (cs := List.replicate 32 (.int .u8 0)) a4.at_ (by simp [Value.cells, bytesV_length, hsl]) (by simp [Value.cells, bytesV_plain]) fun w5 t5 => ?_
  have D5 : Blk w5 B5 (bytesV D) 30 := by
    have := t5.at_
    rw [show (Value.agg (bytesV D).toArray).cells.toList = bytesV D from rfl, setAt_all _ _ (by simp [bytesV_length, hsl])] at this
    exact this
  have hB4 := a1.eq
  have hB5 := a4.eq
  have hs1 := a1.size
  have hs4 := a4.size
  have z1 := X2.size
  have z2 := X3.size
  have X5 : Ext w w5 := (Y3.trans a4.ext).write t5.ext (by intro i hi hlt; subst hi; omega)
  have R4 : Blk w5 B4 (bytesV (List.replicate 32 0)) 30 := Blk.ext (Blk.ext (Blk.ext (w := w1) (cs := List.replicate 32 (.int .u8 0)) a1.at_ (X2.trans X3) id) a4.ext id) t5.ext (by omega)
  clear a1 a4 t5 Y3 Y2
  repeat (first | refine RunL.pureI Tryd.tOk rfl rfl rfl (by (first | exact wr_i64 (by omega) (by omega) | exact wm_i64 (by omega) | exact wq_i64 (by omega) (by omega) (by omega) | rfl)) ?_ | refine RunL.pure Tryd.tOk rfl rfl rfl ?_ | refine RunL.unwantedD rfl rfl ?_ | refine RunE.seq ?_ | refine RunE.region ?_ | refine RunL.nil ?_ | refine RunE.block ?_ | refine RunE.inBlock ?_ | refine RunE.skip ?_ | refine RunE.exit rfl ?_ | refine RunE.scope ?_ | refine RunE.inScope ?_ | refine RunE.label ?_)
  refine RunL.ex rfl rfl rfl (OpE.buildSl Tryd.tOk [] rfl rfl rfl rfl rfl rfl (by simp)) ?_
  rintro _ w6 ⟨B6, rfl, a6⟩
  have O6 := ownsRow_added (n := 0) (sz := 1) a6 (Nat.le_refl _) rfl (by simp [maxLen])
  have X6 := a6.ext
  have D6 := D5.ext X6 id
  refine RunL.val rfl rfl rfl (OpV.sliceA0 (hi := 32) Tryd.tOk rfl rfl .none .none (by decide)) ?_
  have sl5 : IsSl w6 1 (.slice (some ⟨B5, 0, none⟩) 32 32) 32 (bytesV D) := .row D6.row (by rw [bytesV_length, hsl]) (by omega)
  refine RunL.ex rfl rfl rfl (OpE.append Tryd.tOk rfl rfl rfl rfl rfl rfl O6 sl5 (bytesV_plain _) (by decide) (by omega) (by have := a6.eq; have := a6.size; omega)) ?_
  rintro v7 w7 ⟨O7, E7⟩
  have hb6 := a6.eq
  have X7 : Ext w5 w7 := X6.write E7 (by intro i hi hlt; have := ownsRow_ge O6 hi; omega)
  repeat (first | refine RunL.pureI Tryd.tOk rfl rfl rfl (by (first | exact wr_i64 (by omega) (by omega) | exact wm_i64 (by omega) | exact wq_i64 (by omega) (by omega) (by omega) | rfl)) ?_ | refine RunL.pure Tryd.tOk rfl rfl rfl ?_ | refine RunL.unwantedD rfl rfl ?_ | refine RunE.seq ?_ | refine RunE.region ?_ | refine RunL.nil ?_ | refine RunE.block ?_ | refine RunE.inBlock ?_ | refine RunE.skip ?_ | refine RunE.exit rfl ?_ | refine RunE.scope ?_ | refine RunE.inScope ?_ | refine RunE.label ?_)
  refine RunL.ex rfl rfl rfl (OpE.append Tryd.tOk rfl rfl rfl rfl rfl rfl O7 (hv.extE (X5.trans X7)) (bytesV_plain _) (by show _ * 1 ≤ _; omega) (by omega) (by have := X7.size; omega)) ?_
  rintro v8 w8 ⟨O8, E8⟩
  have X8 : Ext w5 w8 := X7.write E8 (by intro i hi hlt; have := ownsRow_ge O7 hi; omega)
  have O8' : IsSl w8 1 v8 (D ++ l).length (bytesV (D ++ l)) := by
    have := isSl_own O8
    rw [List.length_append, hsl, bytesV_append]
    simpa [cellsAll] using this
  refine RunL.call rfl rfl rfl (rsum_ok _ (D ++ l) w8 O8' (by simp [hsl]; omega)) ?_
  rintro _ w9 ⟨rfl, X9⟩
  have Y9 := X8.trans X9
  have R9 := R4.ext Y9 id
  have hsl2 := sha_length (D ++ l)
  generalize sha (D ++ l) = G at hsl2 ⊢
  refine RunL.store (v := .agg (bytesV G).toArray) Tryd.tOk rfl rfl rfl rfl (by simp [Value.cells, bytesV_length, hsl2]) R9 (by simp [Value.cells, bytesV_length, hsl2]) (by simp [Value.cells, bytesV_plain]) fun wa ta => ?_
  have Xa : Ext w wa := (X5.trans Y9).write ta.ext (by intro i hi hlt; subst hi; omega)
  have Da : Blk wa B4 (bytesV G) 30 := by
    have := ta.at_
    rw [show (Value.agg (bytesV G).toArray).cells.toList = bytesV G from rfl, setAt_all _ _ (by simp [bytesV_length, hsl2])] at this
    exact this
  repeat (first | refine RunL.pureI Tryd.tOk rfl rfl rfl (by (first | exact wr_i64 (by omega) (by omega) | exact wm_i64 (by omega) | exact wq_i64 (by omega) (by omega) (by omega) | rfl)) ?_ | refine RunL.pure Tryd.tOk rfl rfl rfl ?_ | refine RunL.unwantedD rfl rfl ?_ | refine RunE.seq ?_ | refine RunE.region ?_ | refine RunL.nil ?_ | refine RunE.block ?_ | refine RunE.inBlock ?_ | refine RunE.skip ?_ | refine RunE.exit rfl ?_ | refine RunE.scope ?_ | refine RunE.inScope ?_ | refine RunE.label ?_)
  exact RunE.retFn Tryd.func30 (.cell rfl (.agg Tryd.tOk rfl rfl (by rw [bytesV_length]; exact hsl2) Da.row) .nil) ⟨rfl, Xa⟩

theorem low7_get (d : List UInt8) (j : Nat) (hj : 0 < j) : (low7 d).getD j 0 = d.getD j 0 := by
  cases d with
  | nil => rfl
  | cons b r => cases j with
    | zero => omega
    | succ j => rfl
theorem hashN_bound (L : List UInt8) (hl : 8 ≤ L.length) (hb : hashN L 8 < 9223372036854775808) (i : Nat) (hi : i < 8) : hashN L i < 36028797018963968 := by
  have mono : ∀ k j, j + k ≤ 8 → hashN L j * 256 ^ k ≤ hashN L (j + k) := by
    intro k
    induction k with
    | zero => intro j _; simp
    | succ k ih =>
      intro j hj
      have h1 := ih j (by omega)
      have h2 := hashN_succ (d := L) (j := j + k) (by omega)
      rw [show j + (k + 1) = j + k + 1 by omega, h2, Nat.pow_succ, ← Nat.mul_assoc]
      omega
  have h1 := mono (8 - i) i (by omega)
  rw [show i + (8 - i) = 8 by omega] at h1
  have h2 : 256 ^ 1 ≤ 256 ^ (8 - i) := Nat.pow_le_pow_right (by decide) (by omega)
  have h3 := Nat.mul_le_mul_left (hashN L i) h2
  omega

theorem rhash_ok (tag : ByteArray) (v : Value) (l : List UInt8) (w : World) (ht : tag.size ≤ 1000000) (hv : IsSl w 1 v l.length (bytesV l)) (hl : l.length ≤ 900000) :
    Rets Tryd.prog 15 [.string tag, v] w fun r w' => r = .int .i64 (hashS tag.data.toList l) ∧ Ext w w' := by
  refine RetsX.of (nt := 28) Tryd.func15 (by kernel_rfl) rfl rfl (by simp) (by simp only [argEnv]; rfl) ?_
  repeat (first | refine RunL.pureI Tryd.tOk rfl rfl rfl (by (first | exact wr_i64 (by omega) (by omega) | exact wm_i64 (by omega) | exact wq_i64 (by omega) (by omega) (by omega) | rfl)) ?_ | refine RunL.pure Tryd.tOk rfl rfl rfl ?_ | refine RunL.unwantedD rfl rfl ?_ | refine RunE.seq ?_ | refine RunE.region ?_ | refine RunL.nil ?_ | refine RunE.block ?_ | refine RunE.inBlock ?_ | refine RunE.skip ?_ | refine RunE.exit rfl ?_ | refine RunE.scope ?_ | refine RunE.inScope ?_ | refine RunE.label ?_)
  refine RunL.call rfl rfl rfl (rtagged_ok _ _ _ _ ht hv hl) ?_
  rintro _ w1 ⟨rfl, X1⟩
  refine RunL.alloc Tryd.tOk rfl rfl rfl fun B w2 a2 => ?_
  unfold hashS
  have hsl := tagged_length tag.data.toList l
  generalize tagged tag.data.toList l = D at hsl ⊢
  refine RunL.store (v := .agg (bytesV D).toArray) Tryd.tOk rfl rfl rfl rfl (by simp [Value.cells, bytesV_length, hsl]) (cs := List.replicate 32 (.int .u8 0)) a2.at_ (by simp [Value.cells, bytesV_length, hsl]) (by simp [Value.cells, bytesV_plain]) fun w3 t3 => ?_
  have D3 : Blk w3 B (bytesV D) 30 := by
    have := t3.at_
    rw [show (Value.agg (bytesV D).toArray).cells.toList = bytesV D from rfl, setAt_all _ _ (by simp [bytesV_length, hsl])] at this
    exact this
  have hB := a2.eq
  have z1 := X1.size
  have X3 : Ext w w3 := (X1.trans a2.ext).write t3.ext (by intro i hi hlt; subst hi; omega)
  clear a2 t3
  have hb64 : hashNum D < 9223372036854775808 := hashNum_lt _ hsl
  have hlen : (low7 D).length = 32 := by rw [low7_length]; exact hsl
  unfold hashNum at hb64 ⊢
  have hbd := hashN_bound (low7 D) (by omega) hb64
  repeat (first | refine RunL.pureI Tryd.tOk rfl rfl rfl (by (first | exact wr_i64 (by omega) (by omega) | exact wm_i64 (by omega) | exact wq_i64 (by omega) (by omega) (by omega) | rfl)) ?_ | refine RunL.pure Tryd.tOk rfl rfl rfl ?_ | refine RunL.unwantedD rfl rfl ?_ | refine RunL.val rfl rfl rfl (OpV.indexAK Tryd.tOk rfl rfl rfl rfl) ?_ | refine RunL.val rfl rfl rfl (OpV.indexSK Tryd.tOk rfl rfl rfl rfl) ?_ | refine RunL.val rfl rfl rfl (OpV.load1 Tryd.tOk rfl rfl rfl (Blk.cell D3 rfl)) ?_ | refine RunE.seq ?_ | refine RunE.region ?_ | refine RunL.nil ?_ | refine RunE.block ?_ | refine RunE.inBlock ?_ | refine RunE.skip ?_ | refine RunE.exit rfl ?_ | refine RunE.scope ?_ | refine RunE.inScope ?_ | refine RunE.label ?_)
  refine RunL.val rfl rfl rfl (OpV.load1 (v := .int .u8 ((D.getD 0 0).toNat : Int)) Tryd.tOk rfl rfl rfl (D3.cell (bytesV_get (by omega)))) ?_
  have h1 : ((D.getD 0 0).toNat : Int) % 128 = (hashN (low7 D) 1 : Nat) := by
    match D, hsl with
    | [], h => simp at h
    | b :: r, _ =>
      have : (UInt8.ofNat (b.toNat % 128)).toNat = b.toNat % 128 := by rw [UInt8.toNat_ofNat']; omega
      simp [hashN, low7]; omega
  repeat (first | refine RunL.pureI Tryd.tOk rfl rfl rfl (by (first | exact i64_u8 _ | exact (wm_i64 (by omega)).trans h1 | exact wr_i64 (by omega) (by omega) | exact wm_i64 (by omega) | exact wq_i64 (by omega) (by omega) (by omega) | rfl)) ?_ | refine RunL.pure Tryd.tOk rfl rfl rfl ?_ | refine RunL.unwantedD rfl rfl ?_ | refine RunL.val rfl rfl rfl (OpV.indexAK Tryd.tOk rfl rfl rfl rfl) ?_ | refine RunL.val rfl rfl rfl (OpV.indexSK Tryd.tOk rfl rfl rfl rfl) ?_ | refine RunE.seq ?_ | refine RunE.region ?_ | refine RunL.nil ?_ | refine RunE.block ?_ | refine RunE.inBlock ?_ | refine RunE.skip ?_ | refine RunE.exit rfl ?_ | refine RunE.scope ?_ | refine RunE.inScope ?_ | refine RunE.label ?_)
  refine RunE.loop (ι := Nat) (fun i => [(5, .pointer (some ⟨B, 0, none⟩)), (6, .int .i64 (hashN (low7 D) (i + 1) : Int)), (7, .int .i64 ((1 + i : Nat) : Int))])
    (fun i w' => w3 = w' ∧ i ≤ 7) (fun i => 7 - i) 0 (by repeat (first | exact Sub.nil _ | refine Sub.cons rfl ?_)) ⟨rfl, by omega⟩ ?_
  rintro i _ ⟨rfl, hi⟩ again
  repeat (first | refine RunL.pureI Tryd.tOk rfl rfl rfl (by (first | exact wr_i64 (by omega) (by omega) | exact wm_i64 (by omega) | exact wq_i64 (by omega) (by omega) (by omega) | rfl)) ?_ | refine RunL.pure Tryd.tOk rfl rfl rfl ?_ | refine RunL.unwantedD rfl rfl ?_ | refine RunE.seq ?_ | refine RunE.region ?_ | refine RunL.nil ?_ | refine RunE.block ?_ | refine RunE.inBlock ?_ | refine RunE.skip ?_ | refine RunE.exit rfl ?_ | refine RunE.scope ?_ | refine RunE.inScope ?_ | refine RunE.label ?_)
  refine RunE.cond rfl (fun hlt => ?_) (fun hlt => ?_) <;> (first | replace hlt := of_decide_eq_true hlt | replace hlt := of_decide_eq_false hlt | replace hlt := beq_iff_eq.1 hlt | replace hlt := beq_eq_false_iff_ne.1 hlt | replace hlt := bne_iff_ne.1 hlt | replace hlt := bne_eq_false_iff_eq.1 hlt | skip)
  · have hi8 : i < 7 := by omega
    have hs := hashN_succ (d := low7 D) (j := i + 1) (by omega)
    have hcl := (D.getD (i + 1) 0).toNat_lt
    have hbi := hbd (i + 1) (by omega)
    rw [low7_get D _ (by omega)] at hs
    repeat (first | refine RunL.pureI Tryd.tOk rfl rfl rfl (by (first | exact i64_mul _ 256 (by omega) | exact wr_i64 (by omega) (by omega) | exact wm_i64 (by omega) | exact wq_i64 (by omega) (by omega) (by omega) | rfl)) ?_ | refine RunL.pure Tryd.tOk rfl rfl rfl ?_ | refine RunL.unwantedD rfl rfl ?_ | refine RunL.val rfl rfl rfl (OpV.indexAK Tryd.tOk rfl rfl rfl rfl) ?_ | refine RunL.val rfl rfl rfl (OpV.indexSK Tryd.tOk rfl rfl rfl rfl) ?_ | refine RunE.seq ?_ | refine RunE.region ?_ | refine RunL.nil ?_ | refine RunE.block ?_ | refine RunE.inBlock ?_ | refine RunE.skip ?_ | refine RunE.exit rfl ?_ | refine RunE.scope ?_ | refine RunE.inScope ?_ | refine RunE.label ?_)
    refine RunL.val rfl rfl rfl (OpV.indexA1 Tryd.tOk (i + 1) rfl rfl rfl (by omega) (by omega)) ?_
    refine RunL.val rfl rfl rfl (OpV.load1 (v := .int .u8 ((D.getD (i + 1) 0).toNat : Int)) Tryd.tOk rfl rfl rfl (by rw [Nat.zero_add]; exact D3.cell (bytesV_get (by omega)))) ?_
    repeat (first | refine RunL.pureI Tryd.tOk rfl rfl rfl (by (first | exact i64_u8 _ | exact i64_add _ _ (by omega) | exact wr_i64 (by omega) (by omega) | exact wm_i64 (by omega) | exact wq_i64 (by omega) (by omega) (by omega) | rfl)) ?_ | refine RunL.pure Tryd.tOk rfl rfl rfl ?_ | refine RunL.unwantedD rfl rfl ?_ | refine RunL.val rfl rfl rfl (OpV.indexAK Tryd.tOk rfl rfl rfl rfl) ?_ | refine RunL.val rfl rfl rfl (OpV.indexSK Tryd.tOk rfl rfl rfl rfl) ?_ | refine RunE.seq ?_ | refine RunE.region ?_ | refine RunL.nil ?_ | refine RunE.block ?_ | refine RunE.inBlock ?_ | refine RunE.skip ?_ | refine RunE.exit rfl ?_ | refine RunE.scope ?_ | refine RunE.inScope ?_ | refine RunE.label ?_)
    refine RunE.weaken (by
      refine Sub.cons rfl (Sub.cons ?_ (Sub.cons rfl (Sub.nil _)))
      rw [hs]; rfl) (again (i + 1) _ (by omega) ⟨rfl, by omega⟩)
  · have hi8 : i = 7 := by omega
    subst hi8
    repeat (first | refine RunL.pureI Tryd.tOk rfl rfl rfl (by (first | exact wr_i64 (by omega) (by omega) | exact wm_i64 (by omega) | exact wq_i64 (by omega) (by omega) (by omega) | rfl)) ?_ | refine RunL.pure Tryd.tOk rfl rfl rfl ?_ | refine RunL.unwantedD rfl rfl ?_ | refine RunE.seq ?_ | refine RunE.region ?_ | refine RunL.nil ?_ | refine RunE.block ?_ | refine RunE.inBlock ?_ | refine RunE.skip ?_ | refine RunE.exit rfl ?_ | refine RunE.scope ?_ | refine RunE.inScope ?_ | refine RunE.label ?_)
    refine RunE.retFn Tryd.func15 (.tmp rfl .nil) ⟨?_, X3⟩
    simp only [oneOr]
    congr 1
end Go.Sg
