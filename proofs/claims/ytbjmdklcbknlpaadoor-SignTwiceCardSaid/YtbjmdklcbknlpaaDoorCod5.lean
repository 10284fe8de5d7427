/- The program's codec: Check, Encode. -/
import Derived.Test.YtbjmdklcbknlpaaDoorCod4
namespace Go.Sg
open Go.Rn Go.Sha Go.Cod Go.Proofs
attribute [local irreducible] Go.Rn.RunL Go.Rn.RunE Go.Rn.Asy Go.Rn.OpV Go.Rn.OpE Go.Rn.ExecE

theorem check_ok (c : CV) (cs : List Value) (w : World) (h : c.In w cs) (hd : c.depth ≤ 16) : Rets Tryd.prog 47 [.agg cs.toArray] w fun v w' => v = .int .i64 0 ∧ Ext w w' := by
  have h4 := In.length h
  refine RetsX.of (nt := 16) Tryd.func47 (by kernel_rfl) rfl rfl (by simp) (by simp only [argEnv]; rfl) ?_
  repeat (first | refine RunL.pureI Tryd.tOk rfl rfl rfl (by (first | exact wr_i64 (by omega) (by omega) | exact wm_i64 (by omega) | exact wq_i64 (by omega) (by omega) (by omega) | rfl)) ?_ | refine RunL.pure Tryd.tOk rfl rfl rfl ?_ | refine RunL.unwantedD rfl rfl ?_ | refine RunE.seq ?_ | refine RunE.region ?_ | refine RunL.nil ?_ | refine RunE.block ?_ | refine RunE.inBlock ?_ | refine RunE.skip ?_ | refine RunE.exit rfl ?_ | refine RunE.scope ?_ | refine RunE.inScope ?_ | refine RunE.label ?_)
  refine RunL.box rfl rfl rfl fun B1 w1 a1 => ?_
  have Z1 : Blk w1 B1 cs 48 := a1.at_
  repeat (first | refine RunL.pureI Tryd.tOk rfl rfl rfl (by (first | exact wr_i64 (by omega) (by omega) | exact wm_i64 (by omega) | exact wq_i64 (by omega) (by omega) (by omega) | rfl)) ?_ | refine RunL.pure Tryd.tOk rfl rfl rfl ?_ | refine RunL.unwantedD rfl rfl ?_ | refine RunE.seq ?_ | refine RunE.region ?_ | refine RunL.nil ?_ | refine RunE.block ?_ | refine RunE.inBlock ?_ | refine RunE.skip ?_ | refine RunE.exit rfl ?_ | refine RunE.scope ?_ | refine RunE.inScope ?_ | refine RunE.label ?_)
  refine RunL.val rfl rfl rfl (OpV.loadN (cs := cs) Tryd.tOk rfl rfl rfl h4 Z1.row) ?_
  refine RunL.call rfl rfl rfl (formed_ok c cs w1 (In.ext a1.ext c cs h) (by omega)) ?_
  rintro _ w2 ⟨rfl, X2⟩
  repeat (first | refine RunL.pureI Tryd.tOk rfl rfl rfl (by (first | exact wr_i64 (by omega) (by omega) | exact wm_i64 (by omega) | exact wq_i64 (by omega) (by omega) (by omega) | rfl)) ?_ | refine RunL.pure Tryd.tOk rfl rfl rfl ?_ | refine RunL.unwantedD rfl rfl ?_ | refine RunE.seq ?_ | refine RunE.region ?_ | refine RunL.nil ?_ | refine RunE.block ?_ | refine RunE.inBlock ?_ | refine RunE.skip ?_ | refine RunE.exit rfl ?_ | refine RunE.scope ?_ | refine RunE.inScope ?_ | refine RunE.label ?_)
  refine RunE.condF rfl rfl ?_
  repeat (first | refine RunL.pureI Tryd.tOk rfl rfl rfl (by (first | exact wr_i64 (by omega) (by omega) | exact wm_i64 (by omega) | exact wq_i64 (by omega) (by omega) (by omega) | rfl)) ?_ | refine RunL.pure Tryd.tOk rfl rfl rfl ?_ | refine RunL.unwantedD rfl rfl ?_ | refine RunE.seq ?_ | refine RunE.region ?_ | refine RunL.nil ?_ | refine RunE.block ?_ | refine RunE.inBlock ?_ | refine RunE.skip ?_ | refine RunE.exit rfl ?_ | refine RunE.scope ?_ | refine RunE.inScope ?_ | refine RunE.label ?_)
  refine RunE.condF rfl (decide_eq_false (by omega)) ?_
  repeat (first | refine RunL.pureI Tryd.tOk rfl rfl rfl (by (first | exact wr_i64 (by omega) (by omega) | exact wm_i64 (by omega) | exact wq_i64 (by omega) (by omega) (by omega) | rfl)) ?_ | refine RunL.pure Tryd.tOk rfl rfl rfl ?_ | refine RunL.unwantedD rfl rfl ?_ | refine RunE.seq ?_ | refine RunE.region ?_ | refine RunL.nil ?_ | refine RunE.block ?_ | refine RunE.inBlock ?_ | refine RunE.skip ?_ | refine RunE.exit rfl ?_ | refine RunE.scope ?_ | refine RunE.inScope ?_ | refine RunE.label ?_)
  exact RunE.retFn Tryd.func47 (.tmp rfl .nil) ⟨rfl, a1.ext.trans X2⟩

theorem encode_ok (c : CV) (cs : List Value) (w : World) (h : c.In w cs) (hd : c.depth ≤ 16) (hl : c.enc.length ≤ 1000000000) :
    Rets Tryd.prog 25 [.agg cs.toArray] w fun v w' => ∃ r, v = .tuple #[r, .int .i64 0] ∧ w'.ownsRow w.heap.size 5 1 r c.enc.length (bytesV c.enc) ∧ Ext w w' := by
  have h4 := In.length h
  refine RetsX.of (nt := 19) Tryd.func25 (by kernel_rfl) rfl rfl (by simp) (by simp only [argEnv]; rfl) ?_
  repeat (first | refine RunL.pureI Tryd.tOk rfl rfl rfl (by (first | exact wr_i64 (by omega) (by omega) | exact wm_i64 (by omega) | exact wq_i64 (by omega) (by omega) (by omega) | rfl)) ?_ | refine RunL.pure Tryd.tOk rfl rfl rfl ?_ | refine RunL.unwantedD rfl rfl ?_ | refine RunE.seq ?_ | refine RunE.region ?_ | refine RunL.nil ?_ | refine RunE.block ?_ | refine RunE.inBlock ?_ | refine RunE.skip ?_ | refine RunE.exit rfl ?_ | refine RunE.scope ?_ | refine RunE.inScope ?_ | refine RunE.label ?_)
  refine RunL.box rfl rfl rfl fun B1 w1 a1 => ?_
  have Z1 : Blk w1 B1 cs 48 := a1.at_
  have h1 := In.ext a1.ext c cs h
  repeat (first | refine RunL.pureI Tryd.tOk rfl rfl rfl (by (first | exact wr_i64 (by omega) (by omega) | exact wm_i64 (by omega) | exact wq_i64 (by omega) (by omega) (by omega) | rfl)) ?_ | refine RunL.pure Tryd.tOk rfl rfl rfl ?_ | refine RunL.unwantedD rfl rfl ?_ | refine RunE.seq ?_ | refine RunE.region ?_ | refine RunL.nil ?_ | refine RunE.block ?_ | refine RunE.inBlock ?_ | refine RunE.skip ?_ | refine RunE.exit rfl ?_ | refine RunE.scope ?_ | refine RunE.inScope ?_ | refine RunE.label ?_)
  refine RunL.val rfl rfl rfl (OpV.loadN (cs := cs) Tryd.tOk rfl rfl rfl h4 Z1.row) ?_
  refine RunL.call rfl rfl rfl (check_ok c cs w1 h1 hd) ?_
  rintro _ w2 ⟨rfl, X2⟩
  repeat (first | refine RunL.pureI Tryd.tOk rfl rfl rfl (by (first | exact wr_i64 (by omega) (by omega) | exact wm_i64 (by omega) | exact wq_i64 (by omega) (by omega) (by omega) | rfl)) ?_ | refine RunL.pure Tryd.tOk rfl rfl rfl ?_ | refine RunL.unwantedD rfl rfl ?_ | refine RunE.seq ?_ | refine RunE.region ?_ | refine RunL.nil ?_ | refine RunE.block ?_ | refine RunE.inBlock ?_ | refine RunE.skip ?_ | refine RunE.exit rfl ?_ | refine RunE.scope ?_ | refine RunE.inScope ?_ | refine RunE.label ?_)
  refine RunE.condF rfl rfl ?_
  repeat (first | refine RunL.pureI Tryd.tOk rfl rfl rfl (by (first | exact wr_i64 (by omega) (by omega) | exact wm_i64 (by omega) | exact wq_i64 (by omega) (by omega) (by omega) | rfl)) ?_ | refine RunL.pure Tryd.tOk rfl rfl rfl ?_ | refine RunL.unwantedD rfl rfl ?_ | refine RunE.seq ?_ | refine RunE.region ?_ | refine RunL.nil ?_ | refine RunE.block ?_ | refine RunE.inBlock ?_ | refine RunE.skip ?_ | refine RunE.exit rfl ?_ | refine RunE.scope ?_ | refine RunE.inScope ?_ | refine RunE.label ?_)
  refine RunE.draw (fun _ => False) mix ?_
  intro w3 X3
  have Y3 := X2.trans X3
  have Z3 := Z1.ext Y3 id
  refine Asy.sat0 (fun u w' => ∃ Bw Bp, u = .pointer (some ⟨Bw, 0, none⟩) ∧ WriterAt w' Bw Bp) rfl rfl rfl rfl (fun u w' w'' _ e h => ?_) (fun w' _ => ?_) ?_
  · obtain ⟨Bw, Bp, h1, h2⟩ := h; exact ⟨Bw, Bp, h1, h2.ext e id id⟩
  · refine OpE.mono (OpE.call rfl (newWriter_ok w')) ?_ fun _ _ h => h
    rintro u w'' ⟨Bw, Bp, h1, h2, h3⟩; exact ⟨h3, Bw, Bp, h1, h2⟩
  repeat (first | refine Asy.pureI Tryd.tOk rfl rfl rfl (by (first | exact wr_i64 (by omega) (by omega) | exact wm_i64 (by omega) | exact wq_i64 (by omega) (by omega) (by omega) | rfl)) ?_ | refine Asy.pure Tryd.tOk rfl rfl rfl ?_ | refine Asy.unwantedD rfl rfl rfl ?_)
  refine Asy.v rfl rfl rfl rfl (fun _ X' => OpV.load1 (v := .int .i64 (kind c : Int)) Tryd.tOk rfl rfl rfl (Blk.cell (Z3.ext X' id) (kind_cell h))) ?_
  refine Asy.sat1 0 (fun u w' => ∃ Bw Bp, u = .pointer (some ⟨Bw, 0, none⟩) ∧ WriterAt w' Bw Bp) rfl rfl rfl rfl rfl rfl (fun u w' w'' _ e h => ?_) (fun w' x _ hx => ?_) ?_
  · obtain ⟨Bw, Bp, h1, h2⟩ := h; exact ⟨Bw, Bp, h1, h2.ext e id id⟩
  · obtain ⟨Bw, Bp, rfl, h2⟩ := hx
    refine OpE.mono (OpV.e (evalOp_v Tryd.tOk rfl)) ?_ fun _ _ h => h
    rintro u w'' ⟨rfl, rfl⟩; exact ⟨.refl _ _, Bw, Bp, rfl, h2⟩
  refine Asy.sat1 0 (fun u w' => ∃ Bw Bp, u = .pointer (some ⟨Bw, kind c, none⟩) ∧ WriterAt w' Bw Bp) rfl rfl rfl rfl rfl rfl (fun u w' w'' _ e h => ?_) (fun w' x _ hx => ?_) ?_
  · obtain ⟨Bw, Bp, h1, h2⟩ := h; exact ⟨Bw, Bp, h1, h2.ext e id id⟩
  · obtain ⟨Bw, Bp, rfl, h2⟩ := hx
    refine OpE.mono (OpV.e (OpV.indexA1 Tryd.tOk (kind c) rfl rfl rfl rfl (kind_lt c))) ?_ fun _ _ h => h
    rintro u w'' ⟨rfl, rfl⟩; exact ⟨.refl _ _, Bw, Bp, by rw [Nat.zero_add], h2⟩
  refine Asy.sat1 0 (fun u w' => ∃ Bw Bp, u = .pointer (some ⟨Bw, kind c, none⟩) ∧ WriterAt w' Bw Bp) rfl rfl rfl rfl rfl rfl (fun u w' w'' _ e h => ?_) (fun w' x _ hx => ?_) ?_
  · obtain ⟨Bw, Bp, h1, h2⟩ := h; exact ⟨Bw, Bp, h1, h2.ext e id id⟩
  · obtain ⟨Bw, Bp, rfl, h2⟩ := hx
    refine OpE.mono (OpV.e (evalOp_v Tryd.tOk rfl)) ?_ fun _ _ h => h
    rintro u w'' ⟨rfl, rfl⟩; exact ⟨.refl _ _, Bw, Bp, rfl, h2⟩
  refine Asy.sat1 0 (fun u w' => ∃ Bw Bp, u = writerFn Bp c ∧ WriterAt w' Bw Bp) rfl rfl rfl rfl rfl rfl (fun u w' w'' _ e h => ?_) (fun w' x _ hx => ?_) ?_
  · obtain ⟨Bw, Bp, h1, h2⟩ := h; exact ⟨Bw, Bp, h1, h2.ext e id id⟩
  · obtain ⟨Bw, Bp, rfl, h2⟩ := hx
    refine OpE.mono (OpV.e (OpV.load1 (v := writerFn Bp c) Tryd.tOk rfl rfl rfl (Blk.cell h2.tab (kind_fn c Bp)))) ?_ fun _ _ h => h
    rintro u w'' ⟨rfl, rfl⟩; exact ⟨.refl _ _, Bw, Bp, rfl, h2⟩
  refine Asy.v rfl rfl rfl rfl (fun _ X' => OpV.loadN (cs := cs) Tryd.tOk rfl rfl rfl h4 (Z3.ext X' id).row) ?_
  refine Asy.tail (by kernel_rfl) ?_
  intro w4 X4
  simp only [satsAll]
  rintro x ⟨Bw, Bp, rfl, W4⟩ _ _ _ _ _ _ _ _
  have Y4 := (a1.ext.trans Y3).trans X4
  refine RunL.callV (fv := writerFn Bp c) rfl rfl rfl rfl (write_ok Bw Bp c cs w4 w4 (.slice none 0 0) [] (In.ext Y4 c cs h) W4 (.refl _ _) (World.ownsRow_nil _ _ _ _) (by simpa using hl)) (fun _ _ _ h => h.elim) ?_
  rintro r w5 ⟨O5, X5⟩
  repeat (first | refine RunL.pureI Tryd.tOk rfl rfl rfl (by (first | exact wr_i64 (by omega) (by omega) | exact wm_i64 (by omega) | exact wq_i64 (by omega) (by omega) (by omega) | rfl)) ?_ | refine RunL.pure Tryd.tOk rfl rfl rfl ?_ | refine RunL.unwantedD rfl rfl ?_ | refine RunE.seq ?_ | refine RunE.region ?_ | refine RunL.nil ?_ | refine RunE.block ?_ | refine RunE.inBlock ?_ | refine RunE.skip ?_ | refine RunE.exit rfl ?_ | refine RunE.scope ?_ | refine RunE.inScope ?_ | refine RunE.label ?_)
  refine RunE.retFn Tryd.func25 (.tmp rfl (.tmp rfl .nil)) ⟨r, rfl, ?_, Y4.trans X5⟩
  rw [List.nil_append] at O5
  exact ownsRow_base O5 Y4.size
end Go.Sg
