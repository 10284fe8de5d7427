/- The walks of package signatoryref11: Sign, Verify. -/
import Derived.Test.YtbjmdklcbknlpaaDoorRef11
namespace Go.Sg
open Go.Rn Go.NT Go.Sha Go.Cod Go.Proofs
attribute [local irreducible] Go.Rn.RunL Go.Rn.RunE Go.Rn.Asy Go.Rn.OpV Go.Rn.OpE Go.Rn.ExecE

set_option maxHeartbeats 2000000 in
theorem r11_sign_ok (x : Int) (v : Value) (b : List UInt8) (w : World) (hx : -9223372036854775808 ≤ x ∧ x < 9223372036854775808) (hv : IsSl w 1 v b.length (bytesV b)) (hb : b.length ≤ 800000) :
    Rets Tryd.prog 19 [.int .i64 x, v] w fun r w' => r = .tuple #[.agg #[.int .i64 (sigE x b), .int .i64 (sigS x b)], .int .i64 (sigR x)] ∧ Ext w w' := by
  have he := enc2_le x b hx hb
  refine RetsX.of (nt := 58) Tryd.func19 (by kernel_rfl) rfl rfl (by simp) (by simp only [argEnv]; rfl) ?_
  repeat (first | refine RunL.pureI Tryd.tOk rfl rfl rfl (by (first | exact wr_i64 (by omega) (by omega) | exact wm_i64 (by omega) | exact wq_i64 (by omega) (by omega) (by omega) | rfl)) ?_ | refine RunL.pure Tryd.tOk rfl rfl rfl ?_ | refine RunL.unwantedD rfl rfl ?_ | refine RunE.seq ?_ | refine RunE.region ?_ | refine RunL.nil ?_ | refine RunE.block ?_ | refine RunE.inBlock ?_ | refine RunE.skip ?_ | refine RunE.exit rfl ?_ | refine RunE.scope ?_ | refine RunE.inScope ?_ | refine RunE.label ?_)
  refine RunL.alloc Tryd.tOk rfl rfl rfl fun B4 w1 a1 => ?_
  have Z1 : Blk w1 B4 [.int .i64 0, .int .i64 0] 34 := a1.at_
  have hB4 := a1.eq
  have X1 := a1.ext
  have z1 := a1.size
  clear a1
  cases hq : inQ x with
  | false =>
    have hq' : ¬ (1 ≤ x ∧ x < 1073741789) := of_decide_eq_false hq
    by_cases h1 : x < 1
    · repeat (first | refine RunL.pureB Tryd.tOk _ rfl rfl rfl (by exact decide_eq_true h1) ?_ | refine RunL.pureI Tryd.tOk rfl rfl rfl (by (first | exact wr_i64 (by omega) (by omega) | exact wm_i64 (by omega) | exact wq_i64 (by omega) (by omega) (by omega) | rfl)) ?_ | refine RunL.pure Tryd.tOk rfl rfl rfl ?_ | refine RunL.unwantedD rfl rfl ?_ | refine RunL.val rfl rfl rfl (OpV.indexAK Tryd.tOk rfl rfl rfl rfl) ?_ | refine RunL.val rfl rfl rfl (OpV.indexSK Tryd.tOk rfl rfl rfl rfl) ?_ | refine RunL.val rfl rfl rfl (OpV.load1 Tryd.tOk rfl rfl rfl (Blk.cell Z1 rfl)) ?_ | refine RunE.seq ?_ | refine RunE.region ?_ | refine RunL.nil ?_ | refine RunE.block ?_ | refine RunE.inBlock ?_ | refine RunE.skip ?_ | refine RunE.exit rfl ?_ | refine RunE.scope ?_ | refine RunE.inScope ?_ | refine RunE.label ?_)
      refine RunE.condT rfl rfl ?_
      repeat (first | refine RunL.pureI Tryd.tOk rfl rfl rfl (by (first | exact wr_i64 (by omega) (by omega) | exact wm_i64 (by omega) | exact wq_i64 (by omega) (by omega) (by omega) | rfl)) ?_ | refine RunL.pure Tryd.tOk rfl rfl rfl ?_ | refine RunL.unwantedD rfl rfl ?_ | refine RunE.seq ?_ | refine RunE.region ?_ | refine RunL.nil ?_ | refine RunE.block ?_ | refine RunE.inBlock ?_ | refine RunE.skip ?_ | refine RunE.exit rfl ?_ | refine RunE.scope ?_ | refine RunE.inScope ?_ | refine RunE.label ?_)
      refine RunL.store Tryd.tOk rfl rfl rfl rfl rfl Z1 rfl rfl fun w3 t3 => ?_
      repeat (first | refine RunL.pureI Tryd.tOk rfl rfl rfl (by (first | exact wr_i64 (by omega) (by omega) | exact wm_i64 (by omega) | exact wq_i64 (by omega) (by omega) (by omega) | rfl)) ?_ | refine RunL.pure Tryd.tOk rfl rfl rfl ?_ | refine RunL.unwantedD rfl rfl ?_ | refine RunE.seq ?_ | refine RunE.region ?_ | refine RunL.nil ?_ | refine RunE.block ?_ | refine RunE.inBlock ?_ | refine RunE.skip ?_ | refine RunE.exit rfl ?_ | refine RunE.scope ?_ | refine RunE.inScope ?_ | refine RunE.label ?_)
      refine RunE.retFn Tryd.func19 (.cell rfl (.agg Tryd.tOk rfl rfl rfl (Blk.row (show Blk w3 B4 [.int .i64 0, .int .i64 0] 34 from t3.at_))) (.tmp rfl .nil)) ⟨?_, X1.write t3.ext (by intro i hi hlt; subst hi; omega)⟩
      simp [oneOr, sigE, sigS, sigR, hq]
    · repeat (first | refine RunL.pureB Tryd.tOk _ rfl rfl rfl (by exact decide_eq_false h1) ?_ | refine RunL.pureB Tryd.tOk _ rfl rfl rfl (by exact decide_eq_true (by omega)) ?_ | refine RunL.pureI Tryd.tOk rfl rfl rfl (by (first | exact wr_i64 (by omega) (by omega) | exact wm_i64 (by omega) | exact wq_i64 (by omega) (by omega) (by omega) | rfl)) ?_ | refine RunL.pure Tryd.tOk rfl rfl rfl ?_ | refine RunL.unwantedD rfl rfl ?_ | refine RunL.val rfl rfl rfl (OpV.indexAK Tryd.tOk rfl rfl rfl rfl) ?_ | refine RunL.val rfl rfl rfl (OpV.indexSK Tryd.tOk rfl rfl rfl rfl) ?_ | refine RunL.val rfl rfl rfl (OpV.load1 Tryd.tOk rfl rfl rfl (Blk.cell Z1 rfl)) ?_ | refine RunE.seq ?_ | refine RunE.region ?_ | refine RunL.nil ?_ | refine RunE.block ?_ | refine RunE.inBlock ?_ | refine RunE.skip ?_ | refine RunE.exit rfl ?_ | refine RunE.scope ?_ | refine RunE.inScope ?_ | refine RunE.label ?_)
      refine RunE.condT rfl rfl ?_
      repeat (first | refine RunL.pureI Tryd.tOk rfl rfl rfl (by (first | exact wr_i64 (by omega) (by omega) | exact wm_i64 (by omega) | exact wq_i64 (by omega) (by omega) (by omega) | rfl)) ?_ | refine RunL.pure Tryd.tOk rfl rfl rfl ?_ | refine RunL.unwantedD rfl rfl ?_ | refine RunE.seq ?_ | refine RunE.region ?_ | refine RunL.nil ?_ | refine RunE.block ?_ | refine RunE.inBlock ?_ | refine RunE.skip ?_ | refine RunE.exit rfl ?_ | refine RunE.scope ?_ | refine RunE.inScope ?_ | refine RunE.label ?_)
      refine RunL.store Tryd.tOk rfl rfl rfl rfl rfl Z1 rfl rfl fun w3 t3 => ?_
      repeat (first | refine RunL.pureI Tryd.tOk rfl rfl rfl (by (first | exact wr_i64 (by omega) (by omega) | exact wm_i64 (by omega) | exact wq_i64 (by omega) (by omega) (by omega) | rfl)) ?_ | refine RunL.pure Tryd.tOk rfl rfl rfl ?_ | refine RunL.unwantedD rfl rfl ?_ | refine RunE.seq ?_ | refine RunE.region ?_ | refine RunL.nil ?_ | refine RunE.block ?_ | refine RunE.inBlock ?_ | refine RunE.skip ?_ | refine RunE.exit rfl ?_ | refine RunE.scope ?_ | refine RunE.inScope ?_ | refine RunE.label ?_)
      refine RunE.retFn Tryd.func19 (.cell rfl (.agg Tryd.tOk rfl rfl rfl (Blk.row (show Blk w3 B4 [.int .i64 0, .int .i64 0] 34 from t3.at_))) (.tmp rfl .nil)) ⟨?_, X1.write t3.ext (by intro i hi hlt; subst hi; omega)⟩
      simp [oneOr, sigE, sigS, sigR, hq]
  | true =>
    have hq' : 1 ≤ x ∧ x < 1073741789 := of_decide_eq_true hq
    repeat (first | refine RunL.pureB Tryd.tOk _ rfl rfl rfl (by exact decide_eq_false (by omega)) ?_ | refine RunL.pureI Tryd.tOk rfl rfl rfl (by (first | exact wr_i64 (by omega) (by omega) | exact wm_i64 (by omega) | exact wq_i64 (by omega) (by omega) (by omega) | rfl)) ?_ | refine RunL.pure Tryd.tOk rfl rfl rfl ?_ | refine RunL.unwantedD rfl rfl ?_ | refine RunL.val rfl rfl rfl (OpV.indexAK Tryd.tOk rfl rfl rfl rfl) ?_ | refine RunL.val rfl rfl rfl (OpV.indexSK Tryd.tOk rfl rfl rfl rfl) ?_ | refine RunL.val rfl rfl rfl (OpV.load1 Tryd.tOk rfl rfl rfl (Blk.cell Z1 rfl)) ?_ | refine RunE.seq ?_ | refine RunE.region ?_ | refine RunL.nil ?_ | refine RunE.block ?_ | refine RunE.inBlock ?_ | refine RunE.skip ?_ | refine RunE.exit rfl ?_ | refine RunE.scope ?_ | refine RunE.inScope ?_ | refine RunE.label ?_)
    refine RunE.condF rfl rfl ?_
    repeat (first | refine RunL.pureI Tryd.tOk rfl rfl rfl (by (first | exact wr_i64 (by omega) (by omega) | exact wm_i64 (by omega) | exact wq_i64 (by omega) (by omega) (by omega) | rfl)) ?_ | refine RunL.pure Tryd.tOk rfl rfl rfl ?_ | refine RunL.unwantedD rfl rfl ?_ | refine RunE.seq ?_ | refine RunE.region ?_ | refine RunL.nil ?_ | refine RunE.block ?_ | refine RunE.inBlock ?_ | refine RunE.skip ?_ | refine RunE.exit rfl ?_ | refine RunE.scope ?_ | refine RunE.inScope ?_ | refine RunE.label ?_)
    refine RunE.draw (fun _ => False) mix ?_
    intro w2 X2
    repeat (first | refine Asy.pureI Tryd.tOk rfl rfl rfl (by (first | exact wr_i64 (by omega) (by omega) | exact wm_i64 (by omega) | exact wq_i64 (by omega) (by omega) (by omega) | rfl)) ?_ | refine Asy.pure Tryd.tOk rfl rfl rfl ?_ | refine Asy.unwantedD rfl rfl rfl ?_)
    refine Asy.val rfl rfl rfl rfl (fun _ _ => OpE.call rfl (rint_ok x _)) ?_
    repeat (first | refine Asy.pureI Tryd.tOk rfl rfl rfl (by (first | exact wr_i64 (by omega) (by omega) | exact wm_i64 (by omega) | exact wq_i64 (by omega) (by omega) (by omega) | rfl)) ?_ | refine Asy.pure Tryd.tOk rfl rfl rfl ?_ | refine Asy.unwantedD rfl rfl rfl ?_)
    refine Asy.v rfl rfl rfl rfl (fun w' X' => OpV.b2sSl (l := b) Tryd.tOk rfl rfl rfl rfl (hv.extE ((X1.trans X2).trans X'))) ?_
    refine Asy.val rfl rfl rfl rfl (fun _ _ => OpE.call rfl (rtext_ok (strOf b) _)) ?_
    refine Asy.sat0 (fun u w' => ∃ B, u = .slice (some ⟨B, 0, none⟩) 2 2 ∧ IsSl w' 4 u 2 ([CV.int x, CV.text b].map rowOf).flatten) rfl rfl rfl rfl (fun u w' w'' _ e h => ?_) (fun w' _ => ?_) ?_
    · obtain ⟨B, h1, h2⟩ := h; exact ⟨B, h1, h2.extE e⟩
    · refine OpE.mono (OpE.buildSl Tryd.tOk [.agg (rowOf (.int x)).toArray, .agg (rowOf (.text b)).toArray] rfl rfl rfl rfl rfl rfl (by simp [Value.cells, rowOf])) ?_ fun _ _ h => h
      rintro _ w'' ⟨B, rfl, a⟩; exact ⟨a.ext, B, rfl, isSl_added (n := 2) (sz := 4) a rfl⟩
    refine Asy.sat1 0 (fun u w' => ∃ B, u = .agg #[.int .i64 3, .int .i64 0, .string ⟨#[]⟩, .slice (some ⟨B, 0, none⟩) 2 2] ∧ IsSl w' 4 (.slice (some ⟨B, 0, none⟩) 2 2) 2 ([CV.int x, CV.text b].map rowOf).flatten) rfl rfl rfl rfl rfl rfl (fun u w' w'' _ e h => ?_) (fun w' q e hq => ?_) ?_
    · obtain ⟨B, h1, h2⟩ := h; exact ⟨B, h1, h2.extE e⟩
    · obtain ⟨B, rfl, h2⟩ := hq
      refine OpE.mono (OpE.call rfl (rlist_ok (some ⟨B, 0, none⟩) 2 2 w')) ?_ fun _ _ h => h
      rintro _ w'' ⟨rfl, X⟩; exact ⟨X, B, rfl, h2.extE X⟩
    refine Asy.sat1 0 (fun u w' => ∃ r, u = .tuple #[r, .int .i64 0] ∧ IsSl w' 1 r (CV.list [.int x, .text b]).enc.length (bytesV (CV.list [.int x, .text b]).enc)) rfl rfl rfl rfl rfl rfl (fun u w' w'' _ e h => ?_) (fun w' q e hq => ?_) ?_
    · obtain ⟨B, h1, h2⟩ := h; exact ⟨B, h1, h2.extE e⟩
    · obtain ⟨B, rfl, h2⟩ := hq
      refine OpE.mono (OpE.call rfl (rEncode_ok (CV.list [.int x, .text b]) _ w' ⟨by simp, _, _, rfl, h2, ins_rows _ fun c hc => ?_⟩ (by simp [CV.depth, depths]) (by omega))) ?_ fun _ _ h => h
      · simp only [List.mem_cons, List.not_mem_nil, or_false] at hc
        rcases hc with rfl | rfl
        · exact ⟨hx, _, rfl⟩
        · exact ⟨by omega, _, rfl⟩
      · rintro _ w'' ⟨r, rfl, h1, h2⟩; exact ⟨h2, r, rfl, isSl_own h1⟩
    refine Asy.sat1 0 (fun u w' => ∃ r, u = .tuple #[r, .int .i64 0] ∧ IsSl w' 1 r (CV.list [.int x, .text b]).enc.length (bytesV (CV.list [.int x, .text b]).enc)) rfl rfl rfl rfl rfl rfl (fun u w' w'' _ e h => ?_) (fun w' q e hq => ?_) ?_
    · obtain ⟨B, h1, h2⟩ := h; exact ⟨B, h1, h2.extE e⟩
    · obtain ⟨r, rfl, h2⟩ := hq
      refine OpE.mono (OpV.e (evalOp_v Tryd.tOk rfl)) ?_ fun _ _ h => h
      rintro u w'' ⟨rfl, rfl⟩; exact ⟨.refl _ _, r, rfl, h2⟩
    refine Asy.sat1 0 (fun u w' => IsSl w' 1 u (CV.list [.int x, .text b]).enc.length (bytesV (CV.list [.int x, .text b]).enc)) rfl rfl rfl rfl rfl rfl (fun u w' w'' _ e h => h.extE e) (fun w' q e hq => ?_) ?_
    · obtain ⟨r, rfl, h2⟩ := hq
      refine OpE.mono (OpV.e (evalOp_v Tryd.tOk rfl)) ?_ fun _ _ h => h
      rintro u w'' ⟨rfl, rfl⟩; exact ⟨.refl _ _, h2⟩
    refine Asy.val1 1 (v := .int .i64 0) rfl rfl rfl rfl rfl rfl (fun w' q e hq => ?_) ?_
    · obtain ⟨r, rfl, h2⟩ := hq
      refine OpE.mono (OpV.e (evalOp_v Tryd.tOk rfl)) ?_ fun _ _ h => h
      rintro u w'' ⟨rfl, rfl⟩; exact ⟨rfl, .refl _ _⟩
    refine Asy.sat1 0 (fun u w' => IsSl w' 1 u (CV.list [.int x, .text b]).enc.length (bytesV (CV.list [.int x, .text b]).enc)) rfl rfl rfl rfl rfl rfl (fun u w' w'' _ e h => h.extE e) (fun w' q e hq => ?_) ?_
    · refine OpE.mono (OpV.e (evalOp_v Tryd.tOk rfl)) ?_ fun _ _ h => h
      rintro u w'' ⟨rfl, rfl⟩; exact ⟨.refl _ _, hq⟩
    repeat (first | refine Asy.pureI Tryd.tOk rfl rfl rfl (by (first | exact wr_i64 (by omega) (by omega) | exact wm_i64 (by omega) | exact wq_i64 (by omega) (by omega) (by omega) | rfl)) ?_ | refine Asy.pure Tryd.tOk rfl rfl rfl ?_ | refine Asy.unwantedD rfl rfl rfl ?_)
    refine Asy.tail (by kernel_rfl) ?_
    intro w3 X3
    simp only [satsAll]
    intro r3 hr3 _ _ _ _ _ _ _ _ _ _
    have Y3 := (X1.trans X2).trans X3
    have Z3 := (Z1.ext X2 id).ext X3 id
    repeat (first | refine RunL.pureI Tryd.tOk rfl rfl rfl (by (first | exact wr_i64 (by omega) (by omega) | exact wm_i64 (by omega) | exact wq_i64 (by omega) (by omega) (by omega) | rfl)) ?_ | refine RunL.pure Tryd.tOk rfl rfl rfl ?_ | refine RunL.unwantedD rfl rfl ?_ | refine RunE.seq ?_ | refine RunE.region ?_ | refine RunL.nil ?_ | refine RunE.block ?_ | refine RunE.inBlock ?_ | refine RunE.skip ?_ | refine RunE.exit rfl ?_ | refine RunE.scope ?_ | refine RunE.inScope ?_ | refine RunE.label ?_)
    refine RunL.call rfl rfl rfl (rhash_ok ⟨#[110, 111, 110, 99, 101]⟩ r3 _ w3 (by decide) hr3 he) ?_
    rintro _ w4 ⟨rfl, X4⟩
    have Y4 := Y3.trans X4
    have Z4 := Z3.ext X4 id
    have hh := hashS_bd nonceB (CV.list [.int x, .text b]).enc
    have hkn : noncN x b = if (1 : Int) > hashS [110, 111, 110, 99, 101] (CV.list [.int x, .text b]).enc then 1 else hashS [110, 111, 110, 99, 101] (CV.list [.int x, .text b]).enc := rfl
    change 0 ≤ hashS [110, 111, 110, 99, 101] (CV.list [.int x, .text b]).enc ∧ hashS [110, 111, 110, 99, 101] (CV.list [.int x, .text b]).enc < 1073741789 at hh
    have hES : sigE x b = chal (powC 4 (noncN x b)) (powC 4 x) b := by unfold sigE; rw [hq, if_pos rfl]
    have hSS : sigS x b = (noncN x b + sigE x b * x % 1073741789) % 1073741789 := by unfold sigS; rw [hq, if_pos rfl]
    have hEb := hashS_bd signB (CV.list [.int (powC 4 (noncN x b)), .int (powC 4 x), .text b]).enc
    change 0 ≤ chal (powC 4 (noncN x b)) (powC 4 x) b ∧ chal (powC 4 (noncN x b)) (powC 4 x) b < 1073741789 at hEb
    rw [← hES] at hEb
    have hRR : sigR x = 0 := by unfold sigR; rw [hq, if_pos rfl]
    generalize hk : noncN x b = kx at *
    have hkb : 1 ≤ kx ∧ kx < 1073741789 := by rw [hkn]; split <;> omega
    have hp1 := fun w => r10_pow_ok 4 x w
    have hp2 := fun w => r10_pow_ok 4 kx w
    generalize grpE (validS 4) = e4 at *
    have hb1 := powC_bd 4 x
    have hb2 := powC_bd 4 kx
    generalize powC 4 x = p1 at *
    generalize powC 4 kx = p2 at *
    generalize sigE x b = E at *
    generalize sigS x b = S at *
    show RunL _ _ _ _ _ _ _ _ ((33, .int .i64 (hashS [110, 111, 110, 99, 101] (CV.list [.int x, .text b]).enc)) :: _) _
    generalize hashS [110, 111, 110, 99, 101] (CV.list [.int x, .text b]).enc = h0 at *
    by_cases hz : h0 = 0
    · have hk1 : kx = 1 := by rw [hkn, hz]; rfl
      subst hk1
      repeat (first | refine RunL.pureB Tryd.tOk _ rfl rfl rfl (by exact beq_iff_eq.2 hz) ?_ | refine RunL.pureI Tryd.tOk rfl rfl rfl (by (first | exact wr_i64 (by omega) (by omega) | exact wm_i64 (by omega) | exact wq_i64 (by omega) (by omega) (by omega) | rfl)) ?_ | refine RunL.pure Tryd.tOk rfl rfl rfl ?_ | refine RunL.unwantedD rfl rfl ?_ | refine RunL.val rfl rfl rfl (OpV.indexAK Tryd.tOk rfl rfl rfl rfl) ?_ | refine RunL.val rfl rfl rfl (OpV.indexSK Tryd.tOk rfl rfl rfl rfl) ?_ | refine RunL.val rfl rfl rfl (OpV.load1 Tryd.tOk rfl rfl rfl (Blk.cell Z4 rfl)) ?_ | refine RunE.seq ?_ | refine RunE.region ?_ | refine RunL.nil ?_ | refine RunE.block ?_ | refine RunE.inBlock ?_ | refine RunE.skip ?_ | refine RunE.exit rfl ?_ | refine RunE.scope ?_ | refine RunE.inScope ?_ | refine RunE.label ?_)
      refine RunE.condT rfl rfl ?_
      repeat (first | refine RunL.pureI Tryd.tOk rfl rfl rfl (by (first | exact wr_i64 (by omega) (by omega) | exact wm_i64 (by omega) | exact wq_i64 (by omega) (by omega) (by omega) | rfl)) ?_ | refine RunL.pure Tryd.tOk rfl rfl rfl ?_ | refine RunL.unwantedD rfl rfl ?_ | refine RunE.seq ?_ | refine RunE.region ?_ | refine RunL.nil ?_ | refine RunE.block ?_ | refine RunE.inBlock ?_ | refine RunE.skip ?_ | refine RunE.exit rfl ?_ | refine RunE.scope ?_ | refine RunE.inScope ?_ | refine RunE.label ?_)
      refine RunL.call rfl rfl rfl (hp1 _) ?_
      rintro _ _ ⟨rfl, rfl⟩
      repeat (first | refine RunL.pureI Tryd.tOk rfl rfl rfl (by (first | exact wr_i64 (by omega) (by omega) | exact wm_i64 (by omega) | exact wq_i64 (by omega) (by omega) (by omega) | rfl)) ?_ | refine RunL.pure Tryd.tOk rfl rfl rfl ?_ | refine RunL.unwantedD rfl rfl ?_ | refine RunE.seq ?_ | refine RunE.region ?_ | refine RunL.nil ?_ | refine RunE.block ?_ | refine RunE.inBlock ?_ | refine RunE.skip ?_ | refine RunE.exit rfl ?_ | refine RunE.scope ?_ | refine RunE.inScope ?_ | refine RunE.label ?_)
      refine RunL.call rfl rfl rfl (hp2 _) ?_
      rintro _ _ ⟨rfl, rfl⟩
      repeat (first | refine RunL.pureI Tryd.tOk rfl rfl rfl (by (first | exact wr_i64 (by omega) (by omega) | exact wm_i64 (by omega) | exact wq_i64 (by omega) (by omega) (by omega) | rfl)) ?_ | refine RunL.pure Tryd.tOk rfl rfl rfl ?_ | refine RunL.unwantedD rfl rfl ?_ | refine RunE.seq ?_ | refine RunE.region ?_ | refine RunL.nil ?_ | refine RunE.block ?_ | refine RunE.inBlock ?_ | refine RunE.skip ?_ | refine RunE.exit rfl ?_ | refine RunE.scope ?_ | refine RunE.inScope ?_ | refine RunE.label ?_)
      refine RunL.call rfl rfl rfl (r11_hash_ok p2 p1 v b _ (by omega) (by omega) (hv.extE Y4) hb) ?_
      rintro _ w5 ⟨rfl, X5⟩
      have Y5 := Y4.trans X5
      have Z5 := Z4.ext X5 id
      rw [← hES]
      repeat (first | refine RunL.pureI Tryd.tOk rfl rfl rfl (by (first | exact wr_i64 (by omega) (by omega) | exact wm_i64 (by omega) | exact wq_i64 (by omega) (by omega) (by omega) | rfl)) ?_ | refine RunL.pure Tryd.tOk rfl rfl rfl ?_ | refine RunL.unwantedD rfl rfl ?_ | refine RunE.seq ?_ | refine RunE.region ?_ | refine RunL.nil ?_ | refine RunE.block ?_ | refine RunE.inBlock ?_ | refine RunE.skip ?_ | refine RunE.exit rfl ?_ | refine RunE.scope ?_ | refine RunE.inScope ?_ | refine RunE.label ?_)
      refine RunL.call rfl rfl rfl (r11_times_ok E x _) ?_
      rintro _ _ ⟨rfl, rfl⟩
      rw [Int.emod_eq_of_lt hEb.1 hEb.2, Int.emod_eq_of_lt (show 0 ≤ x by omega) hq'.2]
      have hm2 := q_bd (E * x)
      generalize E * x % 1073741789 = m at *
      repeat (first | refine RunL.pureI Tryd.tOk rfl rfl rfl (by (first | exact wr_i64 (by omega) (by omega) | exact wm_i64 (by omega) | exact wq_i64 (by omega) (by omega) (by omega) | rfl)) ?_ | refine RunL.pure Tryd.tOk rfl rfl rfl ?_ | refine RunL.unwantedD rfl rfl ?_ | refine RunE.seq ?_ | refine RunE.region ?_ | refine RunL.nil ?_ | refine RunE.block ?_ | refine RunE.inBlock ?_ | refine RunE.skip ?_ | refine RunE.exit rfl ?_ | refine RunE.scope ?_ | refine RunE.inScope ?_ | refine RunE.label ?_)
      refine RunL.store Tryd.tOk rfl rfl rfl rfl rfl Z5 rfl rfl fun w6 t6 => ?_
      repeat (first | refine RunL.pureI Tryd.tOk rfl rfl rfl (by (first | exact wr_i64 (by omega) (by omega) | exact wm_i64 (by omega) | exact wq_i64 (by omega) (by omega) (by omega) | rfl)) ?_ | refine RunL.pure Tryd.tOk rfl rfl rfl ?_ | refine RunL.unwantedD rfl rfl ?_ | refine RunE.seq ?_ | refine RunE.region ?_ | refine RunL.nil ?_ | refine RunE.block ?_ | refine RunE.inBlock ?_ | refine RunE.skip ?_ | refine RunE.exit rfl ?_ | refine RunE.scope ?_ | refine RunE.inScope ?_ | refine RunE.label ?_)
      refine RunE.retFn Tryd.func19 (.cell rfl (.agg Tryd.tOk rfl rfl rfl (Blk.row (show Blk w6 B4 [.int .i64 E, .int .i64 _] 34 from t6.at_))) (.tmp rfl .nil)) ⟨?_, Y5.write t6.ext (by intro i hi hlt; subst hi; omega)⟩
      simp [oneOr, hSS, hRR]
    · have hk1 : kx = h0 := by rw [hkn]; split <;> omega
      subst hk1
      repeat (first | refine RunL.pureB Tryd.tOk _ rfl rfl rfl (by exact beq_eq_false_iff_ne.2 hz) ?_ | refine RunL.pureI Tryd.tOk rfl rfl rfl (by (first | exact wr_i64 (by omega) (by omega) | exact wm_i64 (by omega) | exact wq_i64 (by omega) (by omega) (by omega) | rfl)) ?_ | refine RunL.pure Tryd.tOk rfl rfl rfl ?_ | refine RunL.unwantedD rfl rfl ?_ | refine RunL.val rfl rfl rfl (OpV.indexAK Tryd.tOk rfl rfl rfl rfl) ?_ | refine RunL.val rfl rfl rfl (OpV.indexSK Tryd.tOk rfl rfl rfl rfl) ?_ | refine RunL.val rfl rfl rfl (OpV.load1 Tryd.tOk rfl rfl rfl (Blk.cell Z4 rfl)) ?_ | refine RunE.seq ?_ | refine RunE.region ?_ | refine RunL.nil ?_ | refine RunE.block ?_ | refine RunE.inBlock ?_ | refine RunE.skip ?_ | refine RunE.exit rfl ?_ | refine RunE.scope ?_ | refine RunE.inScope ?_ | refine RunE.label ?_)
      refine RunE.condF rfl rfl ?_
      repeat (first | refine RunL.pureI Tryd.tOk rfl rfl rfl (by (first | exact wr_i64 (by omega) (by omega) | exact wm_i64 (by omega) | exact wq_i64 (by omega) (by omega) (by omega) | rfl)) ?_ | refine RunL.pure Tryd.tOk rfl rfl rfl ?_ | refine RunL.unwantedD rfl rfl ?_ | refine RunE.seq ?_ | refine RunE.region ?_ | refine RunL.nil ?_ | refine RunE.block ?_ | refine RunE.inBlock ?_ | refine RunE.skip ?_ | refine RunE.exit rfl ?_ | refine RunE.scope ?_ | refine RunE.inScope ?_ | refine RunE.label ?_)
      refine RunL.call rfl rfl rfl (hp1 _) ?_
      rintro _ _ ⟨rfl, rfl⟩
      repeat (first | refine RunL.pureI Tryd.tOk rfl rfl rfl (by (first | exact wr_i64 (by omega) (by omega) | exact wm_i64 (by omega) | exact wq_i64 (by omega) (by omega) (by omega) | rfl)) ?_ | refine RunL.pure Tryd.tOk rfl rfl rfl ?_ | refine RunL.unwantedD rfl rfl ?_ | refine RunE.seq ?_ | refine RunE.region ?_ | refine RunL.nil ?_ | refine RunE.block ?_ | refine RunE.inBlock ?_ | refine RunE.skip ?_ | refine RunE.exit rfl ?_ | refine RunE.scope ?_ | refine RunE.inScope ?_ | refine RunE.label ?_)
      refine RunL.call rfl rfl rfl (hp2 _) ?_
      rintro _ _ ⟨rfl, rfl⟩
      repeat (first | refine RunL.pureI Tryd.tOk rfl rfl rfl (by (first | exact wr_i64 (by omega) (by omega) | exact wm_i64 (by omega) | exact wq_i64 (by omega) (by omega) (by omega) | rfl)) ?_ | refine RunL.pure Tryd.tOk rfl rfl rfl ?_ | refine RunL.unwantedD rfl rfl ?_ | refine RunE.seq ?_ | refine RunE.region ?_ | refine RunL.nil ?_ | refine RunE.block ?_ | refine RunE.inBlock ?_ | refine RunE.skip ?_ | refine RunE.exit rfl ?_ | refine RunE.scope ?_ | refine RunE.inScope ?_ | refine RunE.label ?_)
      refine RunL.call rfl rfl rfl (r11_hash_ok p2 p1 v b _ (by omega) (by omega) (hv.extE Y4) hb) ?_
      rintro _ w5 ⟨rfl, X5⟩
      have Y5 := Y4.trans X5
      have Z5 := Z4.ext X5 id
      rw [← hES]
      repeat (first | refine RunL.pureI Tryd.tOk rfl rfl rfl (by (first | exact wr_i64 (by omega) (by omega) | exact wm_i64 (by omega) | exact wq_i64 (by omega) (by omega) (by omega) | rfl)) ?_ | refine RunL.pure Tryd.tOk rfl rfl rfl ?_ | refine RunL.unwantedD rfl rfl ?_ | refine RunE.seq ?_ | refine RunE.region ?_ | refine RunL.nil ?_ | refine RunE.block ?_ | refine RunE.inBlock ?_ | refine RunE.skip ?_ | refine RunE.exit rfl ?_ | refine RunE.scope ?_ | refine RunE.inScope ?_ | refine RunE.label ?_)
      refine RunL.call rfl rfl rfl (r11_times_ok E x _) ?_
      rintro _ _ ⟨rfl, rfl⟩
      rw [Int.emod_eq_of_lt hEb.1 hEb.2, Int.emod_eq_of_lt (show 0 ≤ x by omega) hq'.2]
      have hm2 := q_bd (E * x)
      generalize E * x % 1073741789 = m at *
      repeat (first | refine RunL.pureI Tryd.tOk rfl rfl rfl (by (first | exact wr_i64 (by omega) (by omega) | exact wm_i64 (by omega) | exact wq_i64 (by omega) (by omega) (by omega) | rfl)) ?_ | refine RunL.pure Tryd.tOk rfl rfl rfl ?_ | refine RunL.unwantedD rfl rfl ?_ | refine RunE.seq ?_ | refine RunE.region ?_ | refine RunL.nil ?_ | refine RunE.block ?_ | refine RunE.inBlock ?_ | refine RunE.skip ?_ | refine RunE.exit rfl ?_ | refine RunE.scope ?_ | refine RunE.inScope ?_ | refine RunE.label ?_)
      refine RunL.store Tryd.tOk rfl rfl rfl rfl rfl Z5 rfl rfl fun w6 t6 => ?_
      repeat (first | refine RunL.pureI Tryd.tOk rfl rfl rfl (by (first | exact wr_i64 (by omega) (by omega) | exact wm_i64 (by omega) | exact wq_i64 (by omega) (by omega) (by omega) | rfl)) ?_ | refine RunL.pure Tryd.tOk rfl rfl rfl ?_ | refine RunL.unwantedD rfl rfl ?_ | refine RunE.seq ?_ | refine RunE.region ?_ | refine RunL.nil ?_ | refine RunE.block ?_ | refine RunE.inBlock ?_ | refine RunE.skip ?_ | refine RunE.exit rfl ?_ | refine RunE.scope ?_ | refine RunE.inScope ?_ | refine RunE.label ?_)
      refine RunE.retFn Tryd.func19 (.cell rfl (.agg Tryd.tOk rfl rfl rfl (Blk.row (show Blk w6 B4 [.int .i64 E, .int .i64 _] 34 from t6.at_))) (.tmp rfl .nil)) ⟨?_, Y5.write t6.ext (by intro i hi hlt; subst hi; omega)⟩
      simp [oneOr, hSS, hRR]

set_option maxHeartbeats 2000000 in
theorem r11_verify_ok (key E S : Int) (v : Value) (b : List UInt8) (w : World) (hk : -9223372036854775808 ≤ key ∧ key < 9223372036854775808) (hE : -9223372036854775808 ≤ E ∧ E < 9223372036854775808) (hS : -9223372036854775808 ≤ S ∧ S < 9223372036854775808)
    (hv : IsSl w 1 v b.length (bytesV b)) (hb : b.length ≤ 800000) :
    Rets Tryd.prog 21 [.int .i64 key, v, .agg #[.int .i64 E, .int .i64 S]] w fun r w' => r = .bool (verS key b E S) ∧ Ext w w' := by
  refine RetsX.of (nt := 39) Tryd.func21 (by kernel_rfl) rfl rfl (by simp) (by simp only [argEnv]; rfl) ?_
  repeat (first | refine RunL.pureI Tryd.tOk rfl rfl rfl (by (first | exact wr_i64 (by omega) (by omega) | exact wm_i64 (by omega) | exact wq_i64 (by omega) (by omega) (by omega) | rfl)) ?_ | refine RunL.pure Tryd.tOk rfl rfl rfl ?_ | refine RunL.unwantedD rfl rfl ?_ | refine RunE.seq ?_ | refine RunE.region ?_ | refine RunL.nil ?_ | refine RunE.block ?_ | refine RunE.inBlock ?_ | refine RunE.skip ?_ | refine RunE.exit rfl ?_ | refine RunE.scope ?_ | refine RunE.inScope ?_ | refine RunE.label ?_)
  refine RunL.box rfl rfl rfl fun B5 w1 a1 => ?_
  have Z1 : Blk w1 B5 [.int .i64 E, .int .i64 S] 34 := a1.at_
  have X1 := a1.ext
  clear a1
  repeat (first | refine RunL.pureI Tryd.tOk rfl rfl rfl (by (first | exact wr_i64 (by omega) (by omega) | exact wm_i64 (by omega) | exact wq_i64 (by omega) (by omega) (by omega) | rfl)) ?_ | refine RunL.pure Tryd.tOk rfl rfl rfl ?_ | refine RunL.unwantedD rfl rfl ?_ | refine RunE.seq ?_ | refine RunE.region ?_ | refine RunL.nil ?_ | refine RunE.block ?_ | refine RunE.inBlock ?_ | refine RunE.skip ?_ | refine RunE.exit rfl ?_ | refine RunE.scope ?_ | refine RunE.inScope ?_ | refine RunE.label ?_)
  refine RunL.call rfl rfl rfl (r10_valid_ok key _) ?_
  rintro _ _ ⟨rfl, rfl⟩
  cases hvk : validS key with
  | false =>
    have hno : sigOk key E S = false := by unfold sigOk; rw [hvk, Bool.and_false]
    repeat (first | refine RunL.pureI Tryd.tOk rfl rfl rfl (by (first | exact wr_i64 (by omega) (by omega) | exact wm_i64 (by omega) | exact wq_i64 (by omega) (by omega) (by omega) | rfl)) ?_ | refine RunL.pure Tryd.tOk rfl rfl rfl ?_ | refine RunL.unwantedD rfl rfl ?_ | refine RunL.val rfl rfl rfl (OpV.indexAK Tryd.tOk rfl rfl rfl rfl) ?_ | refine RunL.val rfl rfl rfl (OpV.indexSK Tryd.tOk rfl rfl rfl rfl) ?_ | refine RunL.val rfl rfl rfl (OpV.load1 Tryd.tOk rfl rfl rfl (Blk.cell Z1 rfl)) ?_ | refine RunE.seq ?_ | refine RunE.region ?_ | refine RunL.nil ?_ | refine RunE.block ?_ | refine RunE.inBlock ?_ | refine RunE.skip ?_ | refine RunE.exit rfl ?_ | refine RunE.scope ?_ | refine RunE.inScope ?_ | refine RunE.label ?_)
    refine RunE.condT rfl rfl ?_
    repeat (first | refine RunL.pureI Tryd.tOk rfl rfl rfl (by (first | exact wr_i64 (by omega) (by omega) | exact wm_i64 (by omega) | exact wq_i64 (by omega) (by omega) (by omega) | rfl)) ?_ | refine RunL.pure Tryd.tOk rfl rfl rfl ?_ | refine RunL.unwantedD rfl rfl ?_ | refine RunE.seq ?_ | refine RunE.region ?_ | refine RunL.nil ?_ | refine RunE.block ?_ | refine RunE.inBlock ?_ | refine RunE.skip ?_ | refine RunE.exit rfl ?_ | refine RunE.scope ?_ | refine RunE.inScope ?_ | refine RunE.label ?_)
    refine RunE.retFn Tryd.func21 (.tmp rfl .nil) ⟨?_, X1⟩
    simp [oneOr, verS, hno]
  | true =>
    by_cases h1 : 0 ≤ E ∧ E < 1073741789 ∧ 0 ≤ S ∧ S < 1073741789
    · have hyes : sigOk key E S = true := by
        unfold sigOk; rw [hvk, decide_eq_true h1]; rfl
      have hver : verS key b E S = (E == chal (mulC (powC 4 S) (powC key (-E))) key b) := by unfold verS; rw [hyes]; rfl
      repeat (first | refine RunL.pureB Tryd.tOk _ rfl rfl rfl (by exact decide_eq_false (by omega)) ?_ | refine RunL.pureI Tryd.tOk rfl rfl rfl (by (first | exact wr_i64 (by omega) (by omega) | exact wm_i64 (by omega) | exact wq_i64 (by omega) (by omega) (by omega) | rfl)) ?_ | refine RunL.pure Tryd.tOk rfl rfl rfl ?_ | refine RunL.unwantedD rfl rfl ?_ | refine RunL.val rfl rfl rfl (OpV.indexAK Tryd.tOk rfl rfl rfl rfl) ?_ | refine RunL.val rfl rfl rfl (OpV.indexSK Tryd.tOk rfl rfl rfl rfl) ?_ | refine RunL.val rfl rfl rfl (OpV.load1 Tryd.tOk rfl rfl rfl (Blk.cell Z1 rfl)) ?_ | refine RunE.seq ?_ | refine RunE.region ?_ | refine RunL.nil ?_ | refine RunE.block ?_ | refine RunE.inBlock ?_ | refine RunE.skip ?_ | refine RunE.exit rfl ?_ | refine RunE.scope ?_ | refine RunE.inScope ?_ | refine RunE.label ?_)
      refine RunE.condF rfl rfl ?_
      repeat (first | refine RunL.pureI Tryd.tOk rfl rfl rfl (by (first | exact wr_i64 (by omega) (by omega) | exact wm_i64 (by omega) | exact wq_i64 (by omega) (by omega) (by omega) | rfl)) ?_ | refine RunL.pure Tryd.tOk rfl rfl rfl ?_ | refine RunL.unwantedD rfl rfl ?_ | refine RunE.seq ?_ | refine RunE.region ?_ | refine RunL.nil ?_ | refine RunE.block ?_ | refine RunE.inBlock ?_ | refine RunE.skip ?_ | refine RunE.exit rfl ?_ | refine RunE.scope ?_ | refine RunE.inScope ?_ | refine RunE.label ?_)
      refine RunE.draw (fun _ => False) mix ?_
      intro w2 X2
      have Z2 := Z1.ext X2 id
      repeat (first | refine Asy.pureI Tryd.tOk rfl rfl rfl (by (first | exact wr_i64 (by omega) (by omega) | exact wm_i64 (by omega) | exact wq_i64 (by omega) (by omega) (by omega) | rfl)) ?_ | refine Asy.pure Tryd.tOk rfl rfl rfl ?_ | refine Asy.unwantedD rfl rfl rfl ?_)
      refine Asy.v rfl rfl rfl rfl (fun w' X' => OpV.load1 Tryd.tOk rfl rfl rfl (Blk.cell (Z2.ext X' id) rfl)) ?_
      repeat (first | refine Asy.pureI Tryd.tOk rfl rfl rfl (by (first | exact wr_i64 (by omega) (by omega) | exact wm_i64 (by omega) | exact wq_i64 (by omega) (by omega) (by omega) | rfl)) ?_ | refine Asy.pure Tryd.tOk rfl rfl rfl ?_ | refine Asy.unwantedD rfl rfl rfl ?_)
      refine Asy.v rfl rfl rfl rfl (fun w' X' => OpV.loadN (cs := [.int .i64 E, .int .i64 S]) Tryd.tOk rfl rfl rfl rfl (Z2.ext X' id).row) ?_
      have hmb := mulC_bd (powC 4 S) (powC key (-E))
      have hp := fun w => r11_point_ok key E S w (by omega)
      generalize mulC (powC 4 S) (powC key (-E)) = R at *
      refine Asy.val rfl rfl rfl rfl (fun _ _ => OpE.call rfl (hp _)) ?_
      repeat (first | refine Asy.pureI Tryd.tOk rfl rfl rfl (by (first | exact wr_i64 (by omega) (by omega) | exact wm_i64 (by omega) | exact wq_i64 (by omega) (by omega) (by omega) | rfl)) ?_ | refine Asy.pure Tryd.tOk rfl rfl rfl ?_ | refine Asy.unwantedD rfl rfl rfl ?_)
      refine Asy.val rfl rfl rfl rfl (fun _ X' => OpE.call rfl (r11_hash_ok R key v b _ (by omega) hk (hv.extE ((X1.trans X2).trans X')) hb)) ?_
      repeat (first | refine Asy.pureI Tryd.tOk rfl rfl rfl (by (first | exact wr_i64 (by omega) (by omega) | exact wm_i64 (by omega) | exact wq_i64 (by omega) (by omega) (by omega) | rfl)) ?_ | refine Asy.pure Tryd.tOk rfl rfl rfl ?_ | refine Asy.unwantedD rfl rfl rfl ?_)
      refine Asy.tail (by kernel_rfl) ?_
      intro w3 X3
      simp only [satsAll]
      repeat (first | refine RunL.pureI Tryd.tOk rfl rfl rfl (by (first | exact wr_i64 (by omega) (by omega) | exact wm_i64 (by omega) | exact wq_i64 (by omega) (by omega) (by omega) | rfl)) ?_ | refine RunL.pure Tryd.tOk rfl rfl rfl ?_ | refine RunL.unwantedD rfl rfl ?_ | refine RunE.seq ?_ | refine RunE.region ?_ | refine RunL.nil ?_ | refine RunE.block ?_ | refine RunE.inBlock ?_ | refine RunE.skip ?_ | refine RunE.exit rfl ?_ | refine RunE.scope ?_ | refine RunE.inScope ?_ | refine RunE.label ?_)
      refine RunE.retFn Tryd.func21 (.tmp rfl .nil) ⟨?_, (X1.trans X2).trans X3⟩
      simp only [oneOr, hver]
    · have hno : sigOk key E S = false := by unfold sigOk; rw [decide_eq_false h1]; rfl
      by_cases h2 : E < 0
      · repeat (first | refine RunL.pureB Tryd.tOk _ rfl rfl rfl (by exact decide_eq_true h2) ?_ | refine RunL.pureI Tryd.tOk rfl rfl rfl (by (first | exact wr_i64 (by omega) (by omega) | exact wm_i64 (by omega) | exact wq_i64 (by omega) (by omega) (by omega) | rfl)) ?_ | refine RunL.pure Tryd.tOk rfl rfl rfl ?_ | refine RunL.unwantedD rfl rfl ?_ | refine RunL.val rfl rfl rfl (OpV.indexAK Tryd.tOk rfl rfl rfl rfl) ?_ | refine RunL.val rfl rfl rfl (OpV.indexSK Tryd.tOk rfl rfl rfl rfl) ?_ | refine RunL.val rfl rfl rfl (OpV.load1 Tryd.tOk rfl rfl rfl (Blk.cell Z1 rfl)) ?_ | refine RunE.seq ?_ | refine RunE.region ?_ | refine RunL.nil ?_ | refine RunE.block ?_ | refine RunE.inBlock ?_ | refine RunE.skip ?_ | refine RunE.exit rfl ?_ | refine RunE.scope ?_ | refine RunE.inScope ?_ | refine RunE.label ?_)
        refine RunE.condT rfl rfl ?_
        repeat (first | refine RunL.pureI Tryd.tOk rfl rfl rfl (by (first | exact wr_i64 (by omega) (by omega) | exact wm_i64 (by omega) | exact wq_i64 (by omega) (by omega) (by omega) | rfl)) ?_ | refine RunL.pure Tryd.tOk rfl rfl rfl ?_ | refine RunL.unwantedD rfl rfl ?_ | refine RunE.seq ?_ | refine RunE.region ?_ | refine RunL.nil ?_ | refine RunE.block ?_ | refine RunE.inBlock ?_ | refine RunE.skip ?_ | refine RunE.exit rfl ?_ | refine RunE.scope ?_ | refine RunE.inScope ?_ | refine RunE.label ?_)
        refine RunE.retFn Tryd.func21 (.tmp rfl .nil) ⟨?_, X1⟩
        simp [oneOr, verS, hno]
      by_cases h3 : 1073741789 ≤ E
      · repeat (first | refine RunL.pureB Tryd.tOk _ rfl rfl rfl (by exact decide_eq_false h2) ?_ | refine RunL.pureB Tryd.tOk _ rfl rfl rfl (by exact decide_eq_true h3) ?_ | refine RunL.pureI Tryd.tOk rfl rfl rfl (by (first | exact wr_i64 (by omega) (by omega) | exact wm_i64 (by omega) | exact wq_i64 (by omega) (by omega) (by omega) | rfl)) ?_ | refine RunL.pure Tryd.tOk rfl rfl rfl ?_ | refine RunL.unwantedD rfl rfl ?_ | refine RunL.val rfl rfl rfl (OpV.indexAK Tryd.tOk rfl rfl rfl rfl) ?_ | refine RunL.val rfl rfl rfl (OpV.indexSK Tryd.tOk rfl rfl rfl rfl) ?_ | refine RunL.val rfl rfl rfl (OpV.load1 Tryd.tOk rfl rfl rfl (Blk.cell Z1 rfl)) ?_ | refine RunE.seq ?_ | refine RunE.region ?_ | refine RunL.nil ?_ | refine RunE.block ?_ | refine RunE.inBlock ?_ | refine RunE.skip ?_ | refine RunE.exit rfl ?_ | refine RunE.scope ?_ | refine RunE.inScope ?_ | refine RunE.label ?_)
        refine RunE.condT rfl rfl ?_
        repeat (first | refine RunL.pureI Tryd.tOk rfl rfl rfl (by (first | exact wr_i64 (by omega) (by omega) | exact wm_i64 (by omega) | exact wq_i64 (by omega) (by omega) (by omega) | rfl)) ?_ | refine RunL.pure Tryd.tOk rfl rfl rfl ?_ | refine RunL.unwantedD rfl rfl ?_ | refine RunE.seq ?_ | refine RunE.region ?_ | refine RunL.nil ?_ | refine RunE.block ?_ | refine RunE.inBlock ?_ | refine RunE.skip ?_ | refine RunE.exit rfl ?_ | refine RunE.scope ?_ | refine RunE.inScope ?_ | refine RunE.label ?_)
        refine RunE.retFn Tryd.func21 (.tmp rfl .nil) ⟨?_, X1⟩
        simp [oneOr, verS, hno]
      by_cases h4 : S < 0
      · repeat (first | refine RunL.pureB Tryd.tOk _ rfl rfl rfl (by exact decide_eq_false h2) ?_ | refine RunL.pureB Tryd.tOk _ rfl rfl rfl (by exact decide_eq_false h3) ?_ | refine RunL.pureB Tryd.tOk _ rfl rfl rfl (by exact decide_eq_true h4) ?_ | refine RunL.pureI Tryd.tOk rfl rfl rfl (by (first | exact wr_i64 (by omega) (by omega) | exact wm_i64 (by omega) | exact wq_i64 (by omega) (by omega) (by omega) | rfl)) ?_ | refine RunL.pure Tryd.tOk rfl rfl rfl ?_ | refine RunL.unwantedD rfl rfl ?_ | refine RunL.val rfl rfl rfl (OpV.indexAK Tryd.tOk rfl rfl rfl rfl) ?_ | refine RunL.val rfl rfl rfl (OpV.indexSK Tryd.tOk rfl rfl rfl rfl) ?_ | refine RunL.val rfl rfl rfl (OpV.load1 Tryd.tOk rfl rfl rfl (Blk.cell Z1 rfl)) ?_ | refine RunE.seq ?_ | refine RunE.region ?_ | refine RunL.nil ?_ | refine RunE.block ?_ | refine RunE.inBlock ?_ | refine RunE.skip ?_ | refine RunE.exit rfl ?_ | refine RunE.scope ?_ | refine RunE.inScope ?_ | refine RunE.label ?_)
        refine RunE.condT rfl rfl ?_
        repeat (first | refine RunL.pureI Tryd.tOk rfl rfl rfl (by (first | exact wr_i64 (by omega) (by omega) | exact wm_i64 (by omega) | exact wq_i64 (by omega) (by omega) (by omega) | rfl)) ?_ | refine RunL.pure Tryd.tOk rfl rfl rfl ?_ | refine RunL.unwantedD rfl rfl ?_ | refine RunE.seq ?_ | refine RunE.region ?_ | refine RunL.nil ?_ | refine RunE.block ?_ | refine RunE.inBlock ?_ | refine RunE.skip ?_ | refine RunE.exit rfl ?_ | refine RunE.scope ?_ | refine RunE.inScope ?_ | refine RunE.label ?_)
        refine RunE.retFn Tryd.func21 (.tmp rfl .nil) ⟨?_, X1⟩
        simp [oneOr, verS, hno]
      · repeat (first | refine RunL.pureB Tryd.tOk _ rfl rfl rfl (by exact decide_eq_false h2) ?_ | refine RunL.pureB Tryd.tOk _ rfl rfl rfl (by exact decide_eq_false h3) ?_ | refine RunL.pureB Tryd.tOk _ rfl rfl rfl (by exact decide_eq_false h4) ?_ | refine RunL.pureB Tryd.tOk _ rfl rfl rfl (by exact decide_eq_true (by omega)) ?_ | refine RunL.pureI Tryd.tOk rfl rfl rfl (by (first | exact wr_i64 (by omega) (by omega) | exact wm_i64 (by omega) | exact wq_i64 (by omega) (by omega) (by omega) | rfl)) ?_ | refine RunL.pure Tryd.tOk rfl rfl rfl ?_ | refine RunL.unwantedD rfl rfl ?_ | refine RunL.val rfl rfl rfl (OpV.indexAK Tryd.tOk rfl rfl rfl rfl) ?_ | refine RunL.val rfl rfl rfl (OpV.indexSK Tryd.tOk rfl rfl rfl rfl) ?_ | refine RunL.val rfl rfl rfl (OpV.load1 Tryd.tOk rfl rfl rfl (Blk.cell Z1 rfl)) ?_ | refine RunE.seq ?_ | refine RunE.region ?_ | refine RunL.nil ?_ | refine RunE.block ?_ | refine RunE.inBlock ?_ | refine RunE.skip ?_ | refine RunE.exit rfl ?_ | refine RunE.scope ?_ | refine RunE.inScope ?_ | refine RunE.label ?_)
        refine RunE.condT rfl rfl ?_
        repeat (first | refine RunL.pureI Tryd.tOk rfl rfl rfl (by (first | exact wr_i64 (by omega) (by omega) | exact wm_i64 (by omega) | exact wq_i64 (by omega) (by omega) (by omega) | rfl)) ?_ | refine RunL.pure Tryd.tOk rfl rfl rfl ?_ | refine RunL.unwantedD rfl rfl ?_ | refine RunE.seq ?_ | refine RunE.region ?_ | refine RunL.nil ?_ | refine RunE.block ?_ | refine RunE.inBlock ?_ | refine RunE.skip ?_ | refine RunE.exit rfl ?_ | refine RunE.scope ?_ | refine RunE.inScope ?_ | refine RunE.label ?_)
        refine RunE.retFn Tryd.func21 (.tmp rfl .nil) ⟨?_, X1⟩
        simp [oneOr, verS, hno]
end Go.Sg
