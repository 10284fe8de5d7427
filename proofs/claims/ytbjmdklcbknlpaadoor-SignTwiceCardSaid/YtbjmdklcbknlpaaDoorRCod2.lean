/- The document's codec: forms. -/
import Derived.Test.YtbjmdklcbknlpaaDoorRCod1
namespace Go.Sg
open Go.Rn Go.Sha Go.Cod Go.Proofs
attribute [local irreducible] Go.Rn.RunL Go.Rn.RunE Go.Rn.Asy Go.Rn.OpV Go.Rn.OpE Go.Rn.ExecE

set_option maxHeartbeats 2000000 in
theorem rformed_ok : ∀ (c : CV) (cs : List Value) (w : World), c.In w cs → Rets Tryd.prog 71 [.agg cs.toArray] w fun v w' => v = .bool true ∧ Ext w w'
  | .int n, cs, w, h => by
    simp only [CV.In] at h
    obtain ⟨hn, d, rfl⟩ := h
    refine RetsX.of (nt := 52) Tryd.func71 (by kernel_rfl) rfl rfl (by simp) (by simp only [argEnv]; rfl) ?_
    repeat (first | refine RunL.pureI Tryd.tOk rfl rfl rfl (by (first | exact wr_i64 (by omega) (by omega) | exact wm_i64 (by omega) | exact wq_i64 (by omega) (by omega) (by omega) | rfl)) ?_ | refine RunL.pure Tryd.tOk rfl rfl rfl ?_ | refine RunL.unwantedD rfl rfl ?_ | refine RunE.seq ?_ | refine RunE.region ?_ | refine RunL.nil ?_ | refine RunE.block ?_ | refine RunE.inBlock ?_ | refine RunE.skip ?_ | refine RunE.exit rfl ?_ | refine RunE.scope ?_ | refine RunE.inScope ?_ | refine RunE.label ?_)
    refine RunL.box rfl rfl rfl fun B1 w1 a1 => ?_
    have Z1 : Blk w1 B1 [.int .i64 1, .int .i64 n, .string ⟨#[]⟩, .slice d 0 0] 48 := a1.at_
    repeat (first | refine RunL.pureB Tryd.tOk _ rfl rfl rfl (by with_reducible exact beq_refl_str _) ?_ | refine RunL.pureI Tryd.tOk rfl rfl rfl (by (first | exact wr_i64 (by omega) (by omega) | exact wm_i64 (by omega) | exact wq_i64 (by omega) (by omega) (by omega) | rfl)) ?_ | refine RunL.pure Tryd.tOk rfl rfl rfl ?_ | refine RunL.unwantedD rfl rfl ?_ | refine RunL.val rfl rfl rfl (OpV.indexAK Tryd.tOk rfl rfl rfl rfl) ?_ | refine RunL.val rfl rfl rfl (OpV.indexSK Tryd.tOk rfl rfl rfl rfl) ?_ | refine RunL.val rfl rfl rfl (OpV.load1 Tryd.tOk rfl rfl rfl (Blk.cell Z1 rfl)) ?_ | refine RunE.seq ?_ | refine RunE.region ?_ | refine RunL.nil ?_ | refine RunE.block ?_ | refine RunE.inBlock ?_ | refine RunE.skip ?_ | refine RunE.exit rfl ?_ | refine RunE.scope ?_ | refine RunE.inScope ?_ | refine RunE.label ?_)
    refine RunE.condT rfl rfl ?_
    repeat (first | refine RunL.pureB Tryd.tOk _ rfl rfl rfl (by with_reducible exact beq_refl_str _) ?_ | refine RunL.pureI Tryd.tOk rfl rfl rfl (by (first | exact wr_i64 (by omega) (by omega) | exact wm_i64 (by omega) | exact wq_i64 (by omega) (by omega) (by omega) | rfl)) ?_ | refine RunL.pure Tryd.tOk rfl rfl rfl ?_ | refine RunL.unwantedD rfl rfl ?_ | refine RunL.val rfl rfl rfl (OpV.indexAK Tryd.tOk rfl rfl rfl rfl) ?_ | refine RunL.val rfl rfl rfl (OpV.indexSK Tryd.tOk rfl rfl rfl rfl) ?_ | refine RunL.val rfl rfl rfl (OpV.load1 Tryd.tOk rfl rfl rfl (Blk.cell Z1 rfl)) ?_ | refine RunE.seq ?_ | refine RunE.region ?_ | refine RunL.nil ?_ | refine RunE.block ?_ | refine RunE.inBlock ?_ | refine RunE.skip ?_ | refine RunE.exit rfl ?_ | refine RunE.scope ?_ | refine RunE.inScope ?_ | refine RunE.label ?_)
    exact RunE.retFn Tryd.func71 (.tmp rfl .nil) ⟨rfl, a1.ext⟩
  | .text s, cs, w, h => by
    simp only [CV.In] at h
    obtain ⟨hn, d, rfl⟩ := h
    refine RetsX.of (nt := 52) Tryd.func71 (by kernel_rfl) rfl rfl (by simp) (by simp only [argEnv]; rfl) ?_
    repeat (first | refine RunL.pureI Tryd.tOk rfl rfl rfl (by (first | exact wr_i64 (by omega) (by omega) | exact wm_i64 (by omega) | exact wq_i64 (by omega) (by omega) (by omega) | rfl)) ?_ | refine RunL.pure Tryd.tOk rfl rfl rfl ?_ | refine RunL.unwantedD rfl rfl ?_ | refine RunE.seq ?_ | refine RunE.region ?_ | refine RunL.nil ?_ | refine RunE.block ?_ | refine RunE.inBlock ?_ | refine RunE.skip ?_ | refine RunE.exit rfl ?_ | refine RunE.scope ?_ | refine RunE.inScope ?_ | refine RunE.label ?_)
    refine RunL.box rfl rfl rfl fun B1 w1 a1 => ?_
    have Z1 : Blk w1 B1 [.int .i64 2, .int .i64 0, .string (strOf s), .slice d 0 0] 48 := a1.at_
    repeat (first | refine RunL.pureI Tryd.tOk rfl rfl rfl (by (first | exact wr_i64 (by omega) (by omega) | exact wm_i64 (by omega) | exact wq_i64 (by omega) (by omega) (by omega) | rfl)) ?_ | refine RunL.pure Tryd.tOk rfl rfl rfl ?_ | refine RunL.unwantedD rfl rfl ?_ | refine RunL.val rfl rfl rfl (OpV.indexAK Tryd.tOk rfl rfl rfl rfl) ?_ | refine RunL.val rfl rfl rfl (OpV.indexSK Tryd.tOk rfl rfl rfl rfl) ?_ | refine RunL.val rfl rfl rfl (OpV.load1 Tryd.tOk rfl rfl rfl (Blk.cell Z1 rfl)) ?_ | refine RunE.seq ?_ | refine RunE.region ?_ | refine RunL.nil ?_ | refine RunE.block ?_ | refine RunE.inBlock ?_ | refine RunE.skip ?_ | refine RunE.exit rfl ?_ | refine RunE.scope ?_ | refine RunE.inScope ?_ | refine RunE.label ?_)
    refine RunE.condF rfl rfl ?_
    repeat (first | refine RunL.pureI Tryd.tOk rfl rfl rfl (by (first | exact wr_i64 (by omega) (by omega) | exact wm_i64 (by omega) | exact wq_i64 (by omega) (by omega) (by omega) | rfl)) ?_ | refine RunL.pure Tryd.tOk rfl rfl rfl ?_ | refine RunL.unwantedD rfl rfl ?_ | refine RunL.val rfl rfl rfl (OpV.indexAK Tryd.tOk rfl rfl rfl rfl) ?_ | refine RunL.val rfl rfl rfl (OpV.indexSK Tryd.tOk rfl rfl rfl rfl) ?_ | refine RunL.val rfl rfl rfl (OpV.load1 Tryd.tOk rfl rfl rfl (Blk.cell Z1 rfl)) ?_ | refine RunE.seq ?_ | refine RunE.region ?_ | refine RunL.nil ?_ | refine RunE.block ?_ | refine RunE.inBlock ?_ | refine RunE.skip ?_ | refine RunE.exit rfl ?_ | refine RunE.scope ?_ | refine RunE.inScope ?_ | refine RunE.label ?_)
    refine RunE.condT rfl rfl ?_
    repeat (first | refine RunL.pureI Tryd.tOk rfl rfl rfl (by (first | exact wr_i64 (by omega) (by omega) | exact wm_i64 (by omega) | exact wq_i64 (by omega) (by omega) (by omega) | rfl)) ?_ | refine RunL.pure Tryd.tOk rfl rfl rfl ?_ | refine RunL.unwantedD rfl rfl ?_ | refine RunL.val rfl rfl rfl (OpV.indexAK Tryd.tOk rfl rfl rfl rfl) ?_ | refine RunL.val rfl rfl rfl (OpV.indexSK Tryd.tOk rfl rfl rfl rfl) ?_ | refine RunL.val rfl rfl rfl (OpV.load1 Tryd.tOk rfl rfl rfl (Blk.cell Z1 rfl)) ?_ | refine RunE.seq ?_ | refine RunE.region ?_ | refine RunL.nil ?_ | refine RunE.block ?_ | refine RunE.inBlock ?_ | refine RunE.skip ?_ | refine RunE.exit rfl ?_ | refine RunE.scope ?_ | refine RunE.inScope ?_ | refine RunE.label ?_)
    exact RunE.retFn Tryd.func71 (.tmp rfl .nil) ⟨rfl, a1.ext⟩
  | .list l, cs, w, h => by
    simp only [CV.In] at h
    obtain ⟨hl, v, rows, rfl, hsl, hin⟩ := h
    obtain ⟨hrl, hget⟩ := hin.get
    refine RetsX.of (nt := 52) Tryd.func71 (by kernel_rfl) rfl rfl (by simp) (by simp only [argEnv]; rfl) ?_
    repeat (first | refine RunL.pureI Tryd.tOk rfl rfl rfl (by (first | exact wr_i64 (by omega) (by omega) | exact wm_i64 (by omega) | exact wq_i64 (by omega) (by omega) (by omega) | rfl)) ?_ | refine RunL.pure Tryd.tOk rfl rfl rfl ?_ | refine RunL.unwantedD rfl rfl ?_ | refine RunE.seq ?_ | refine RunE.region ?_ | refine RunL.nil ?_ | refine RunE.block ?_ | refine RunE.inBlock ?_ | refine RunE.skip ?_ | refine RunE.exit rfl ?_ | refine RunE.scope ?_ | refine RunE.inScope ?_ | refine RunE.label ?_)
    refine RunL.box rfl rfl rfl fun B1 w1 a1 => ?_
    have Z1 : Blk w1 B1 [.int .i64 3, .int .i64 0, .string ⟨#[]⟩, v] 48 := a1.at_
    have hB1 := a1.eq
    have X1 := a1.ext
    clear a1
    repeat (first | refine RunL.pureI Tryd.tOk rfl rfl rfl (by (first | exact wr_i64 (by omega) (by omega) | exact wm_i64 (by omega) | exact wq_i64 (by omega) (by omega) (by omega) | rfl)) ?_ | refine RunL.pure Tryd.tOk rfl rfl rfl ?_ | refine RunL.unwantedD rfl rfl ?_ | refine RunL.val rfl rfl rfl (OpV.indexAK Tryd.tOk rfl rfl rfl rfl) ?_ | refine RunL.val rfl rfl rfl (OpV.indexSK Tryd.tOk rfl rfl rfl rfl) ?_ | refine RunL.val rfl rfl rfl (OpV.load1 Tryd.tOk rfl rfl rfl (Blk.cell Z1 rfl)) ?_ | refine RunE.seq ?_ | refine RunE.region ?_ | refine RunL.nil ?_ | refine RunE.block ?_ | refine RunE.inBlock ?_ | refine RunE.skip ?_ | refine RunE.exit rfl ?_ | refine RunE.scope ?_ | refine RunE.inScope ?_ | refine RunE.label ?_)
    refine RunE.condF rfl rfl ?_
    repeat (first | refine RunL.pureI Tryd.tOk rfl rfl rfl (by (first | exact wr_i64 (by omega) (by omega) | exact wm_i64 (by omega) | exact wq_i64 (by omega) (by omega) (by omega) | rfl)) ?_ | refine RunL.pure Tryd.tOk rfl rfl rfl ?_ | refine RunL.unwantedD rfl rfl ?_ | refine RunL.val rfl rfl rfl (OpV.indexAK Tryd.tOk rfl rfl rfl rfl) ?_ | refine RunL.val rfl rfl rfl (OpV.indexSK Tryd.tOk rfl rfl rfl rfl) ?_ | refine RunL.val rfl rfl rfl (OpV.load1 Tryd.tOk rfl rfl rfl (Blk.cell Z1 rfl)) ?_ | refine RunE.seq ?_ | refine RunE.region ?_ | refine RunL.nil ?_ | refine RunE.block ?_ | refine RunE.inBlock ?_ | refine RunE.skip ?_ | refine RunE.exit rfl ?_ | refine RunE.scope ?_ | refine RunE.inScope ?_ | refine RunE.label ?_)
    refine RunE.condF rfl rfl ?_
    repeat (first | refine RunL.pureI Tryd.tOk rfl rfl rfl (by (first | exact wr_i64 (by omega) (by omega) | exact wm_i64 (by omega) | exact wq_i64 (by omega) (by omega) (by omega) | rfl)) ?_ | refine RunL.pure Tryd.tOk rfl rfl rfl ?_ | refine RunL.unwantedD rfl rfl ?_ | refine RunL.val rfl rfl rfl (OpV.indexAK Tryd.tOk rfl rfl rfl rfl) ?_ | refine RunL.val rfl rfl rfl (OpV.indexSK Tryd.tOk rfl rfl rfl rfl) ?_ | refine RunL.val rfl rfl rfl (OpV.load1 Tryd.tOk rfl rfl rfl (Blk.cell Z1 rfl)) ?_ | refine RunE.seq ?_ | refine RunE.region ?_ | refine RunL.nil ?_ | refine RunE.block ?_ | refine RunE.inBlock ?_ | refine RunE.skip ?_ | refine RunE.exit rfl ?_ | refine RunE.scope ?_ | refine RunE.inScope ?_ | refine RunE.label ?_)
    refine RunE.condT rfl rfl ?_
    repeat (first | refine RunL.pureI Tryd.tOk rfl rfl rfl (by (first | exact wr_i64 (by omega) (by omega) | exact wm_i64 (by omega) | exact wq_i64 (by omega) (by omega) (by omega) | rfl)) ?_ | refine RunL.pure Tryd.tOk rfl rfl rfl ?_ | refine RunL.unwantedD rfl rfl ?_ | refine RunL.val rfl rfl rfl (OpV.indexAK Tryd.tOk rfl rfl rfl rfl) ?_ | refine RunL.val rfl rfl rfl (OpV.indexSK Tryd.tOk rfl rfl rfl rfl) ?_ | refine RunL.val rfl rfl rfl (OpV.load1 Tryd.tOk rfl rfl rfl (Blk.cell Z1 rfl)) ?_ | refine RunE.seq ?_ | refine RunE.region ?_ | refine RunL.nil ?_ | refine RunE.block ?_ | refine RunE.inBlock ?_ | refine RunE.skip ?_ | refine RunE.exit rfl ?_ | refine RunE.scope ?_ | refine RunE.inScope ?_ | refine RunE.label ?_)
    refine RunE.loop (ι := Nat) (fun i => [(1, .pointer (some ⟨B1, 0, none⟩)), (3, .int .i64 (i : Int))])
      (fun i w' => i ≤ l.length ∧ Ext w1 w') (fun i => l.length - i) 0 (by repeat (first | exact Sub.nil _ | refine Sub.cons rfl ?_)) ⟨by omega, .refl _ _⟩ ?_
    rintro i w4 ⟨hi, X4⟩ again
    have Z4 := Z1.ext X4 id
    repeat (first | refine RunL.pureI Tryd.tOk rfl rfl rfl (by (first | exact wr_i64 (by omega) (by omega) | exact wm_i64 (by omega) | exact wq_i64 (by omega) (by omega) (by omega) | rfl)) ?_ | refine RunL.pure Tryd.tOk rfl rfl rfl ?_ | refine RunL.unwantedD rfl rfl ?_ | refine RunL.val rfl rfl rfl (OpV.indexAK Tryd.tOk rfl rfl rfl rfl) ?_ | refine RunL.val rfl rfl rfl (OpV.indexSK Tryd.tOk rfl rfl rfl rfl) ?_ | refine RunL.val rfl rfl rfl (OpV.load1 Tryd.tOk rfl rfl rfl (Blk.cell Z4 rfl)) ?_ | refine RunE.seq ?_ | refine RunE.region ?_ | refine RunL.nil ?_ | refine RunE.block ?_ | refine RunE.inBlock ?_ | refine RunE.skip ?_ | refine RunE.exit rfl ?_ | refine RunE.scope ?_ | refine RunE.inScope ?_ | refine RunE.label ?_)
    refine RunL.val rfl rfl rfl (OpV.lenSl Tryd.tOk rfl rfl hsl) ?_
    repeat (first | refine RunL.pureI Tryd.tOk rfl rfl rfl (by (first | exact wr_i64 (by omega) (by omega) | exact wm_i64 (by omega) | exact wq_i64 (by omega) (by omega) (by omega) | rfl)) ?_ | refine RunL.pure Tryd.tOk rfl rfl rfl ?_ | refine RunL.unwantedD rfl rfl ?_ | refine RunL.val rfl rfl rfl (OpV.indexAK Tryd.tOk rfl rfl rfl rfl) ?_ | refine RunL.val rfl rfl rfl (OpV.indexSK Tryd.tOk rfl rfl rfl rfl) ?_ | refine RunL.val rfl rfl rfl (OpV.load1 Tryd.tOk rfl rfl rfl (Blk.cell Z4 rfl)) ?_ | refine RunE.seq ?_ | refine RunE.region ?_ | refine RunL.nil ?_ | refine RunE.block ?_ | refine RunE.inBlock ?_ | refine RunE.skip ?_ | refine RunE.exit rfl ?_ | refine RunE.scope ?_ | refine RunE.inScope ?_ | refine RunE.label ?_)
    refine RunE.cond rfl (fun hlt => ?_) (fun hlt => ?_) <;> (first | replace hlt := of_decide_eq_true hlt | replace hlt := of_decide_eq_false hlt | replace hlt := beq_iff_eq.1 hlt | replace hlt := beq_eq_false_iff_ne.1 hlt | replace hlt := bne_iff_ne.1 hlt | replace hlt := bne_eq_false_iff_eq.1 hlt | skip)
    · have hi' : i < l.length := by omega
      obtain ⟨c, hc⟩ : ∃ c, l[i]? = some c := ⟨_, List.getElem?_eq_getElem hi'⟩
      obtain ⟨r, hr, hcr⟩ := hget i c hc
      obtain ⟨b, o, cap, rfl, hrow, -, -⟩ := hsl.held (by omega)
      have hr4 := In.length hcr
      repeat (first | refine RunL.pureI Tryd.tOk rfl rfl rfl (by (first | exact wr_i64 (by omega) (by omega) | exact wm_i64 (by omega) | exact wq_i64 (by omega) (by omega) (by omega) | rfl)) ?_ | refine RunL.pure Tryd.tOk rfl rfl rfl ?_ | refine RunL.unwantedD rfl rfl ?_ | refine RunL.val rfl rfl rfl (OpV.indexAK Tryd.tOk rfl rfl rfl rfl) ?_ | refine RunL.val rfl rfl rfl (OpV.indexSK Tryd.tOk rfl rfl rfl rfl) ?_ | refine RunL.val rfl rfl rfl (OpV.load1 Tryd.tOk rfl rfl rfl (Blk.cell Z4 rfl)) ?_ | refine RunE.seq ?_ | refine RunE.region ?_ | refine RunL.nil ?_ | refine RunE.block ?_ | refine RunE.inBlock ?_ | refine RunE.skip ?_ | refine RunE.exit rfl ?_ | refine RunE.scope ?_ | refine RunE.inScope ?_ | refine RunE.label ?_)
      refine RunL.val rfl rfl rfl (OpV.indexS Tryd.tOk i rfl rfl rfl rfl hi') ?_
      refine RunL.val rfl rfl rfl (OpV.loadN (cs := r) Tryd.tOk rfl rfl rfl hr4 ((hin.row hr hrow).extE (X1.trans X4))) ?_
      refine RunL.call rfl rfl rfl (rformed_ok c r w4 (In.ext (X1.trans X4) c r hcr)) ?_
      rintro _ w7 ⟨rfl, X7⟩
      repeat (first | refine RunL.pureI Tryd.tOk rfl rfl rfl (by (first | exact wr_i64 (by omega) (by omega) | exact wm_i64 (by omega) | exact wq_i64 (by omega) (by omega) (by omega) | rfl)) ?_ | refine RunL.pure Tryd.tOk rfl rfl rfl ?_ | refine RunL.unwantedD rfl rfl ?_ | refine RunE.seq ?_ | refine RunE.region ?_ | refine RunL.nil ?_ | refine RunE.block ?_ | refine RunE.inBlock ?_ | refine RunE.skip ?_ | refine RunE.exit rfl ?_ | refine RunE.scope ?_ | refine RunE.inScope ?_ | refine RunE.label ?_)
      refine RunE.condF rfl rfl ?_
      repeat (first | refine RunL.pureI Tryd.tOk rfl rfl rfl (by (first | exact wr_i64 (by omega) (by omega) | exact wm_i64 (by omega) | exact wq_i64 (by omega) (by omega) (by omega) | rfl)) ?_ | refine RunL.pure Tryd.tOk rfl rfl rfl ?_ | refine RunL.unwantedD rfl rfl ?_ | refine RunE.seq ?_ | refine RunE.region ?_ | refine RunL.nil ?_ | refine RunE.block ?_ | refine RunE.inBlock ?_ | refine RunE.skip ?_ | refine RunE.exit rfl ?_ | refine RunE.scope ?_ | refine RunE.inScope ?_ | refine RunE.label ?_)
      refine RunE.weaken (by repeat (first | exact Sub.nil _ | refine Sub.cons rfl ?_)) (again (i + 1) _ (by omega) ⟨by omega, X4.trans X7⟩)
    · repeat (first | refine RunL.pureB Tryd.tOk _ rfl rfl rfl (by with_reducible exact beq_refl_str _) ?_ | refine RunL.pureI Tryd.tOk rfl rfl rfl (by (first | exact wr_i64 (by omega) (by omega) | exact wm_i64 (by omega) | exact wq_i64 (by omega) (by omega) (by omega) | rfl)) ?_ | refine RunL.pure Tryd.tOk rfl rfl rfl ?_ | refine RunL.unwantedD rfl rfl ?_ | refine RunL.val rfl rfl rfl (OpV.indexAK Tryd.tOk rfl rfl rfl rfl) ?_ | refine RunL.val rfl rfl rfl (OpV.indexSK Tryd.tOk rfl rfl rfl rfl) ?_ | refine RunL.val rfl rfl rfl (OpV.load1 Tryd.tOk rfl rfl rfl (Blk.cell Z4 rfl)) ?_ | refine RunE.seq ?_ | refine RunE.region ?_ | refine RunL.nil ?_ | refine RunE.block ?_ | refine RunE.inBlock ?_ | refine RunE.skip ?_ | refine RunE.exit rfl ?_ | refine RunE.scope ?_ | refine RunE.inScope ?_ | refine RunE.label ?_)
      exact RunE.retFn Tryd.func71 (.tmp rfl .nil) ⟨rfl, X1.trans X4⟩
termination_by c => SizeOf.sizeOf c
decreasing_by
  have := List.sizeOf_lt_of_mem (List.mem_of_getElem? hc)
  simp only [CV.list.sizeOf_spec]
  omega

set_option maxHeartbeats 2000000 in
theorem rdepth_ok : ∀ (c : CV) (cs : List Value) (w : World), c.In w cs → c.depth ≤ 1000 → Rets Tryd.prog 72 [.agg cs.toArray] w fun v w' => v = .int .i64 (c.depth : Int) ∧ Ext w w'
  | .int n, cs, w, h, _ => by
    simp only [CV.In] at h
    obtain ⟨hn, d, rfl⟩ := h
    refine RetsX.of (nt := 25) Tryd.func72 (by kernel_rfl) rfl rfl (by simp) (by simp only [argEnv]; rfl) ?_
    repeat (first | refine RunL.pureI Tryd.tOk rfl rfl rfl (by (first | exact wr_i64 (by omega) (by omega) | exact wm_i64 (by omega) | exact wq_i64 (by omega) (by omega) (by omega) | rfl)) ?_ | refine RunL.pure Tryd.tOk rfl rfl rfl ?_ | refine RunL.unwantedD rfl rfl ?_ | refine RunE.seq ?_ | refine RunE.region ?_ | refine RunL.nil ?_ | refine RunE.block ?_ | refine RunE.inBlock ?_ | refine RunE.skip ?_ | refine RunE.exit rfl ?_ | refine RunE.scope ?_ | refine RunE.inScope ?_ | refine RunE.label ?_)
    refine RunL.box rfl rfl rfl fun B1 w1 a1 => ?_
    have Z1 : Blk w1 B1 [.int .i64 1, .int .i64 n, .string ⟨#[]⟩, .slice d 0 0] 48 := a1.at_
    repeat (first | refine RunL.pureI Tryd.tOk rfl rfl rfl (by (first | exact wr_i64 (by omega) (by omega) | exact wm_i64 (by omega) | exact wq_i64 (by omega) (by omega) (by omega) | rfl)) ?_ | refine RunL.pure Tryd.tOk rfl rfl rfl ?_ | refine RunL.unwantedD rfl rfl ?_ | refine RunL.val rfl rfl rfl (OpV.indexAK Tryd.tOk rfl rfl rfl rfl) ?_ | refine RunL.val rfl rfl rfl (OpV.indexSK Tryd.tOk rfl rfl rfl rfl) ?_ | refine RunL.val rfl rfl rfl (OpV.load1 Tryd.tOk rfl rfl rfl (Blk.cell Z1 rfl)) ?_ | refine RunE.seq ?_ | refine RunE.region ?_ | refine RunL.nil ?_ | refine RunE.block ?_ | refine RunE.inBlock ?_ | refine RunE.skip ?_ | refine RunE.exit rfl ?_ | refine RunE.scope ?_ | refine RunE.inScope ?_ | refine RunE.label ?_)
    refine RunE.condT rfl rfl ?_
    repeat (first | refine RunL.pureI Tryd.tOk rfl rfl rfl (by (first | exact wr_i64 (by omega) (by omega) | exact wm_i64 (by omega) | exact wq_i64 (by omega) (by omega) (by omega) | rfl)) ?_ | refine RunL.pure Tryd.tOk rfl rfl rfl ?_ | refine RunL.unwantedD rfl rfl ?_ | refine RunL.val rfl rfl rfl (OpV.indexAK Tryd.tOk rfl rfl rfl rfl) ?_ | refine RunL.val rfl rfl rfl (OpV.indexSK Tryd.tOk rfl rfl rfl rfl) ?_ | refine RunL.val rfl rfl rfl (OpV.load1 Tryd.tOk rfl rfl rfl (Blk.cell Z1 rfl)) ?_ | refine RunE.seq ?_ | refine RunE.region ?_ | refine RunL.nil ?_ | refine RunE.block ?_ | refine RunE.inBlock ?_ | refine RunE.skip ?_ | refine RunE.exit rfl ?_ | refine RunE.scope ?_ | refine RunE.inScope ?_ | refine RunE.label ?_)
    exact RunE.retFn Tryd.func72 (.tmp rfl .nil) ⟨by simp [oneOr, CV.depth], a1.ext⟩
  | .text s, cs, w, h, _ => by
    simp only [CV.In] at h
    obtain ⟨hn, d, rfl⟩ := h
    refine RetsX.of (nt := 25) Tryd.func72 (by kernel_rfl) rfl rfl (by simp) (by simp only [argEnv]; rfl) ?_
    repeat (first | refine RunL.pureI Tryd.tOk rfl rfl rfl (by (first | exact wr_i64 (by omega) (by omega) | exact wm_i64 (by omega) | exact wq_i64 (by omega) (by omega) (by omega) | rfl)) ?_ | refine RunL.pure Tryd.tOk rfl rfl rfl ?_ | refine RunL.unwantedD rfl rfl ?_ | refine RunE.seq ?_ | refine RunE.region ?_ | refine RunL.nil ?_ | refine RunE.block ?_ | refine RunE.inBlock ?_ | refine RunE.skip ?_ | refine RunE.exit rfl ?_ | refine RunE.scope ?_ | refine RunE.inScope ?_ | refine RunE.label ?_)
    refine RunL.box rfl rfl rfl fun B1 w1 a1 => ?_
    have Z1 : Blk w1 B1 [.int .i64 2, .int .i64 0, .string (strOf s), .slice d 0 0] 48 := a1.at_
    repeat (first | refine RunL.pureI Tryd.tOk rfl rfl rfl (by (first | exact wr_i64 (by omega) (by omega) | exact wm_i64 (by omega) | exact wq_i64 (by omega) (by omega) (by omega) | rfl)) ?_ | refine RunL.pure Tryd.tOk rfl rfl rfl ?_ | refine RunL.unwantedD rfl rfl ?_ | refine RunL.val rfl rfl rfl (OpV.indexAK Tryd.tOk rfl rfl rfl rfl) ?_ | refine RunL.val rfl rfl rfl (OpV.indexSK Tryd.tOk rfl rfl rfl rfl) ?_ | refine RunL.val rfl rfl rfl (OpV.load1 Tryd.tOk rfl rfl rfl (Blk.cell Z1 rfl)) ?_ | refine RunE.seq ?_ | refine RunE.region ?_ | refine RunL.nil ?_ | refine RunE.block ?_ | refine RunE.inBlock ?_ | refine RunE.skip ?_ | refine RunE.exit rfl ?_ | refine RunE.scope ?_ | refine RunE.inScope ?_ | refine RunE.label ?_)
    refine RunE.condT rfl rfl ?_
    repeat (first | refine RunL.pureI Tryd.tOk rfl rfl rfl (by (first | exact wr_i64 (by omega) (by omega) | exact wm_i64 (by omega) | exact wq_i64 (by omega) (by omega) (by omega) | rfl)) ?_ | refine RunL.pure Tryd.tOk rfl rfl rfl ?_ | refine RunL.unwantedD rfl rfl ?_ | refine RunL.val rfl rfl rfl (OpV.indexAK Tryd.tOk rfl rfl rfl rfl) ?_ | refine RunL.val rfl rfl rfl (OpV.indexSK Tryd.tOk rfl rfl rfl rfl) ?_ | refine RunL.val rfl rfl rfl (OpV.load1 Tryd.tOk rfl rfl rfl (Blk.cell Z1 rfl)) ?_ | refine RunE.seq ?_ | refine RunE.region ?_ | refine RunL.nil ?_ | refine RunE.block ?_ | refine RunE.inBlock ?_ | refine RunE.skip ?_ | refine RunE.exit rfl ?_ | refine RunE.scope ?_ | refine RunE.inScope ?_ | refine RunE.label ?_)
    exact RunE.retFn Tryd.func72 (.tmp rfl .nil) ⟨by simp [oneOr, CV.depth], a1.ext⟩
  | .list l, cs, w, h, hdep => by
    simp only [CV.depth] at hdep
    simp only [CV.In] at h
    obtain ⟨hl, v, rows, rfl, hsl, hin⟩ := h
    obtain ⟨hrl, hget⟩ := hin.get
    refine RetsX.of (nt := 25) Tryd.func72 (by kernel_rfl) rfl rfl (by simp) (by simp only [argEnv]; rfl) ?_
    repeat (first | refine RunL.pureI Tryd.tOk rfl rfl rfl (by (first | exact wr_i64 (by omega) (by omega) | exact wm_i64 (by omega) | exact wq_i64 (by omega) (by omega) (by omega) | rfl)) ?_ | refine RunL.pure Tryd.tOk rfl rfl rfl ?_ | refine RunL.unwantedD rfl rfl ?_ | refine RunE.seq ?_ | refine RunE.region ?_ | refine RunL.nil ?_ | refine RunE.block ?_ | refine RunE.inBlock ?_ | refine RunE.skip ?_ | refine RunE.exit rfl ?_ | refine RunE.scope ?_ | refine RunE.inScope ?_ | refine RunE.label ?_)
    refine RunL.box rfl rfl rfl fun B1 w1 a1 => ?_
    have Z1 : Blk w1 B1 [.int .i64 3, .int .i64 0, .string ⟨#[]⟩, v] 48 := a1.at_
    have hB1 := a1.eq
    have X1 := a1.ext
    clear a1
    repeat (first | refine RunL.pureI Tryd.tOk rfl rfl rfl (by (first | exact wr_i64 (by omega) (by omega) | exact wm_i64 (by omega) | exact wq_i64 (by omega) (by omega) (by omega) | rfl)) ?_ | refine RunL.pure Tryd.tOk rfl rfl rfl ?_ | refine RunL.unwantedD rfl rfl ?_ | refine RunL.val rfl rfl rfl (OpV.indexAK Tryd.tOk rfl rfl rfl rfl) ?_ | refine RunL.val rfl rfl rfl (OpV.indexSK Tryd.tOk rfl rfl rfl rfl) ?_ | refine RunL.val rfl rfl rfl (OpV.load1 Tryd.tOk rfl rfl rfl (Blk.cell Z1 rfl)) ?_ | refine RunE.seq ?_ | refine RunE.region ?_ | refine RunL.nil ?_ | refine RunE.block ?_ | refine RunE.inBlock ?_ | refine RunE.skip ?_ | refine RunE.exit rfl ?_ | refine RunE.scope ?_ | refine RunE.inScope ?_ | refine RunE.label ?_)
    refine RunE.condF rfl rfl ?_
    repeat (first | refine RunL.pureI Tryd.tOk rfl rfl rfl (by (first | exact wr_i64 (by omega) (by omega) | exact wm_i64 (by omega) | exact wq_i64 (by omega) (by omega) (by omega) | rfl)) ?_ | refine RunL.pure Tryd.tOk rfl rfl rfl ?_ | refine RunL.unwantedD rfl rfl ?_ | refine RunL.val rfl rfl rfl (OpV.indexAK Tryd.tOk rfl rfl rfl rfl) ?_ | refine RunL.val rfl rfl rfl (OpV.indexSK Tryd.tOk rfl rfl rfl rfl) ?_ | refine RunL.val rfl rfl rfl (OpV.load1 Tryd.tOk rfl rfl rfl (Blk.cell Z1 rfl)) ?_ | refine RunE.seq ?_ | refine RunE.region ?_ | refine RunL.nil ?_ | refine RunE.block ?_ | refine RunE.inBlock ?_ | refine RunE.skip ?_ | refine RunE.exit rfl ?_ | refine RunE.scope ?_ | refine RunE.inScope ?_ | refine RunE.label ?_)
    refine RunE.loop (ι := Nat) (fun i => [(1, .pointer (some ⟨B1, 0, none⟩)), (3, .int .i64 (depths (l.take i) : Int)), (4, .int .i64 (i : Int))])
      (fun i w' => i ≤ l.length ∧ Ext w1 w') (fun i => l.length - i) 0 (by repeat (first | exact Sub.nil _ | refine Sub.cons rfl ?_)) ⟨by omega, .refl _ _⟩ ?_
    rintro i w4 ⟨hi, X4⟩ again
    have Z4 := Z1.ext X4 id
    repeat (first | refine RunL.pureI Tryd.tOk rfl rfl rfl (by (first | exact wr_i64 (by omega) (by omega) | exact wm_i64 (by omega) | exact wq_i64 (by omega) (by omega) (by omega) | rfl)) ?_ | refine RunL.pure Tryd.tOk rfl rfl rfl ?_ | refine RunL.unwantedD rfl rfl ?_ | refine RunL.val rfl rfl rfl (OpV.indexAK Tryd.tOk rfl rfl rfl rfl) ?_ | refine RunL.val rfl rfl rfl (OpV.indexSK Tryd.tOk rfl rfl rfl rfl) ?_ | refine RunL.val rfl rfl rfl (OpV.load1 Tryd.tOk rfl rfl rfl (Blk.cell Z4 rfl)) ?_ | refine RunE.seq ?_ | refine RunE.region ?_ | refine RunL.nil ?_ | refine RunE.block ?_ | refine RunE.inBlock ?_ | refine RunE.skip ?_ | refine RunE.exit rfl ?_ | refine RunE.scope ?_ | refine RunE.inScope ?_ | refine RunE.label ?_)
    refine RunL.val rfl rfl rfl (OpV.lenSl Tryd.tOk rfl rfl hsl) ?_
    repeat (first | refine RunL.pureI Tryd.tOk rfl rfl rfl (by (first | exact wr_i64 (by omega) (by omega) | exact wm_i64 (by omega) | exact wq_i64 (by omega) (by omega) (by omega) | rfl)) ?_ | refine RunL.pure Tryd.tOk rfl rfl rfl ?_ | refine RunL.unwantedD rfl rfl ?_ | refine RunL.val rfl rfl rfl (OpV.indexAK Tryd.tOk rfl rfl rfl rfl) ?_ | refine RunL.val rfl rfl rfl (OpV.indexSK Tryd.tOk rfl rfl rfl rfl) ?_ | refine RunL.val rfl rfl rfl (OpV.load1 Tryd.tOk rfl rfl rfl (Blk.cell Z4 rfl)) ?_ | refine RunE.seq ?_ | refine RunE.region ?_ | refine RunL.nil ?_ | refine RunE.block ?_ | refine RunE.inBlock ?_ | refine RunE.skip ?_ | refine RunE.exit rfl ?_ | refine RunE.scope ?_ | refine RunE.inScope ?_ | refine RunE.label ?_)
    refine RunE.cond rfl (fun hlt => ?_) (fun hlt => ?_) <;> (first | replace hlt := of_decide_eq_true hlt | replace hlt := of_decide_eq_false hlt | replace hlt := beq_iff_eq.1 hlt | replace hlt := beq_eq_false_iff_ne.1 hlt | replace hlt := bne_iff_ne.1 hlt | replace hlt := bne_eq_false_iff_eq.1 hlt | skip)
    · have hi' : i < l.length := by omega
      obtain ⟨c, hc⟩ : ∃ c, l[i]? = some c := ⟨_, List.getElem?_eq_getElem hi'⟩
      obtain ⟨r, hr, hcr⟩ := hget i c hc
      obtain ⟨b, o, cap, rfl, hrow, -, -⟩ := hsl.held (by omega)
      have hr4 := In.length hcr
      repeat (first | refine RunL.pureI Tryd.tOk rfl rfl rfl (by (first | exact wr_i64 (by omega) (by omega) | exact wm_i64 (by omega) | exact wq_i64 (by omega) (by omega) (by omega) | rfl)) ?_ | refine RunL.pure Tryd.tOk rfl rfl rfl ?_ | refine RunL.unwantedD rfl rfl ?_ | refine RunL.val rfl rfl rfl (OpV.indexAK Tryd.tOk rfl rfl rfl rfl) ?_ | refine RunL.val rfl rfl rfl (OpV.indexSK Tryd.tOk rfl rfl rfl rfl) ?_ | refine RunL.val rfl rfl rfl (OpV.load1 Tryd.tOk rfl rfl rfl (Blk.cell Z4 rfl)) ?_ | refine RunE.seq ?_ | refine RunE.region ?_ | refine RunL.nil ?_ | refine RunE.block ?_ | refine RunE.inBlock ?_ | refine RunE.skip ?_ | refine RunE.exit rfl ?_ | refine RunE.scope ?_ | refine RunE.inScope ?_ | refine RunE.label ?_)
      refine RunL.val rfl rfl rfl (OpV.indexS Tryd.tOk i rfl rfl rfl rfl hi') ?_
      refine RunL.val rfl rfl rfl (OpV.loadN (cs := r) Tryd.tOk rfl rfl rfl hr4 ((hin.row hr hrow).extE (X1.trans X4))) ?_
      refine RunL.call rfl rfl rfl (rdepth_ok c r w4 (In.ext (X1.trans X4) c r hcr) (by have := depth_le (List.mem_of_getElem? hc); omega)) ?_
      rintro _ w7 ⟨rfl, X7⟩
      repeat (first | refine RunL.pureI Tryd.tOk rfl rfl rfl (by (first | exact max_nat _ _ | exact wr_i64 (by omega) (by omega) | exact wm_i64 (by omega) | exact wq_i64 (by omega) (by omega) (by omega) | rfl)) ?_ | refine RunL.pure Tryd.tOk rfl rfl rfl ?_ | refine RunL.unwantedD rfl rfl ?_ | refine RunL.val rfl rfl rfl (OpV.indexAK Tryd.tOk rfl rfl rfl rfl) ?_ | refine RunL.val rfl rfl rfl (OpV.indexSK Tryd.tOk rfl rfl rfl rfl) ?_ | refine RunE.seq ?_ | refine RunE.region ?_ | refine RunL.nil ?_ | refine RunE.block ?_ | refine RunE.inBlock ?_ | refine RunE.skip ?_ | refine RunE.exit rfl ?_ | refine RunE.scope ?_ | refine RunE.inScope ?_ | refine RunE.label ?_)
      refine RunE.weaken (by
        refine Sub.cons rfl (Sub.cons ?_ (Sub.cons rfl (Sub.nil _)))
        rw [depths_take hc]; rfl) (again (i + 1) _ (by omega) ⟨by omega, X4.trans X7⟩)
    · have hil : i = l.length := by omega
      subst hil
      rw [List.take_length]
      repeat (first | refine RunL.pureI Tryd.tOk rfl rfl rfl (by (first | exact wr_i64 (by omega) (by omega) | exact wm_i64 (by omega) | exact wq_i64 (by omega) (by omega) (by omega) | rfl)) ?_ | refine RunL.pure Tryd.tOk rfl rfl rfl ?_ | refine RunL.unwantedD rfl rfl ?_ | refine RunE.seq ?_ | refine RunE.region ?_ | refine RunL.nil ?_ | refine RunE.block ?_ | refine RunE.inBlock ?_ | refine RunE.skip ?_ | refine RunE.exit rfl ?_ | refine RunE.scope ?_ | refine RunE.inScope ?_ | refine RunE.label ?_)
      exact RunE.retFn Tryd.func72 (.tmp rfl .nil) ⟨by simp only [oneOr, CV.depth]; congr 1, X1.trans X4⟩
termination_by c => SizeOf.sizeOf c
decreasing_by
  have := List.sizeOf_lt_of_mem (List.mem_of_getElem? hc)
  simp only [CV.list.sizeOf_spec]
  omega
end Go.Sg
