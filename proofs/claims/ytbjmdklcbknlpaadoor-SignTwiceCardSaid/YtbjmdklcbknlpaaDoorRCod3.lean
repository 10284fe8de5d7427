/- The document's codec: what is written. -/
import Derived.Test.YtbjmdklcbknlpaaDoorRCod2
namespace Go.Sg
open Go.Rn Go.Sha Go.Cod Go.Proofs
attribute [local irreducible] Go.Rn.RunL Go.Rn.RunE Go.Rn.Asy Go.Rn.OpV Go.Rn.OpE Go.Rn.ExecE

theorem rencode_int (n : Int) (cs : List Value) (w : World) (h : (CV.int n).In w cs) : Rets Tryd.prog 56 [.agg cs.toArray] w fun r w' => w'.ownsRow w.heap.size 5 1 r (CV.int n).enc.length (bytesV (CV.int n).enc) ∧ Ext w w' := by
  simp only [CV.In] at h
  obtain ⟨hn, d, rfl⟩ := h
  refine RetsX.of (nt := 50) Tryd.func56 (by kernel_rfl) rfl rfl (by simp) (by simp only [argEnv]; rfl) ?_
  repeat (first | refine RunL.pureI Tryd.tOk rfl rfl rfl (by (first | exact wr_i64 (by omega) (by omega) | exact wm_i64 (by omega) | exact wq_i64 (by omega) (by omega) (by omega) | rfl)) ?_ | refine RunL.pure Tryd.tOk rfl rfl rfl ?_ | refine RunL.unwantedD rfl rfl ?_ | refine RunE.seq ?_ | refine RunE.region ?_ | refine RunL.nil ?_ | refine RunE.block ?_ | refine RunE.inBlock ?_ | refine RunE.skip ?_ | refine RunE.exit rfl ?_ | refine RunE.scope ?_ | refine RunE.inScope ?_ | refine RunE.label ?_)
  refine RunL.box rfl rfl rfl fun B1 w1 a1 => ?_
  have Z1 : Blk w1 B1 [.int .i64 1, .int .i64 n, .string ⟨#[]⟩, .slice d 0 0] 48 := a1.at_
  have z1 := a1.size
  have X1 := a1.ext
  have z0 := X1.size
  clear a1
  repeat (first | refine RunL.pureI Tryd.tOk rfl rfl rfl (by (first | exact wr_i64 (by omega) (by omega) | exact wm_i64 (by omega) | exact wq_i64 (by omega) (by omega) (by omega) | rfl)) ?_ | refine RunL.pure Tryd.tOk rfl rfl rfl ?_ | refine RunL.unwantedD rfl rfl ?_ | refine RunL.val rfl rfl rfl (OpV.indexAK Tryd.tOk rfl rfl rfl rfl) ?_ | refine RunL.val rfl rfl rfl (OpV.indexSK Tryd.tOk rfl rfl rfl rfl) ?_ | refine RunL.val rfl rfl rfl (OpV.load1 Tryd.tOk rfl rfl rfl (Blk.cell Z1 rfl)) ?_ | refine RunE.seq ?_ | refine RunE.region ?_ | refine RunL.nil ?_ | refine RunE.block ?_ | refine RunE.inBlock ?_ | refine RunE.skip ?_ | refine RunE.exit rfl ?_ | refine RunE.scope ?_ | refine RunE.inScope ?_ | refine RunE.label ?_)
  refine RunE.condT rfl rfl ?_
  repeat (first | refine RunL.pureI Tryd.tOk rfl rfl rfl (by (first | exact wr_i64 (by omega) (by omega) | exact wm_i64 (by omega) | exact wq_i64 (by omega) (by omega) (by omega) | rfl)) ?_ | refine RunL.pure Tryd.tOk rfl rfl rfl ?_ | refine RunL.unwantedD rfl rfl ?_ | refine RunE.seq ?_ | refine RunE.region ?_ | refine RunL.nil ?_ | refine RunE.block ?_ | refine RunE.inBlock ?_ | refine RunE.skip ?_ | refine RunE.exit rfl ?_ | refine RunE.scope ?_ | refine RunE.inScope ?_ | refine RunE.label ?_)
  refine RunL.ex rfl rfl rfl (OpE.buildSl Tryd.tOk [.int .u8 1] rfl rfl rfl rfl rfl rfl (by simp [Value.cells])) ?_
  rintro _ w2 ⟨B, rfl, a2⟩
  have O2 : w2.ownsRow w.heap.size 5 1 (.slice (some ⟨B, 0, none⟩) 1 1) 1 (bytesV [1]) := ownsRow_added a2 (by have := a2.eq; omega) rfl (by decide)
  have z2 := a2.size
  have X2 := X1.trans a2.ext
  have Z2 := Z1.ext a2.ext id
  clear a2
  repeat (first | refine RunL.pureI Tryd.tOk rfl rfl rfl (by (first | exact wr_i64 (by omega) (by omega) | exact wm_i64 (by omega) | exact wq_i64 (by omega) (by omega) (by omega) | rfl)) ?_ | refine RunL.pure Tryd.tOk rfl rfl rfl ?_ | refine RunL.unwantedD rfl rfl ?_ | refine RunL.val rfl rfl rfl (OpV.indexAK Tryd.tOk rfl rfl rfl rfl) ?_ | refine RunL.val rfl rfl rfl (OpV.indexSK Tryd.tOk rfl rfl rfl rfl) ?_ | refine RunL.val rfl rfl rfl (OpV.load1 Tryd.tOk rfl rfl rfl (Blk.cell Z2 rfl)) ?_ | refine RunE.seq ?_ | refine RunE.region ?_ | refine RunL.nil ?_ | refine RunE.block ?_ | refine RunE.inBlock ?_ | refine RunE.skip ?_ | refine RunE.exit rfl ?_ | refine RunE.scope ?_ | refine RunE.inScope ?_ | refine RunE.label ?_)
  refine RunL.call rfl rfl rfl (runsigned_ok n _ hn) ?_
  rintro _ _ ⟨rfl, rfl⟩
  refine RunL.call rfl rfl rfl (rnumeral_ok (zig n) _ (zig_lt n hn)) ?_
  rintro r w3 ⟨O3, X3⟩
  have z3 := X3.size
  have z2x := X2.size
  have hl := num_le (zig n) (zig_lt n hn)
  refine RunL.ex rfl rfl rfl (OpE.append' Tryd.tOk rfl rfl rfl rfl rfl rfl (ownsRow_ext O2 X3 (fun _ _ h => h)) (isSl_own O3) (bytesV_plain _) (by show _ * 1 ≤ _; omega) (by omega) (by omega)) ?_
  rintro v4 w4 ⟨O4, E4, -⟩
  repeat (first | refine RunL.pureI Tryd.tOk rfl rfl rfl (by (first | exact wr_i64 (by omega) (by omega) | exact wm_i64 (by omega) | exact wq_i64 (by omega) (by omega) (by omega) | rfl)) ?_ | refine RunL.pure Tryd.tOk rfl rfl rfl ?_ | refine RunL.unwantedD rfl rfl ?_ | refine RunE.seq ?_ | refine RunE.region ?_ | refine RunL.nil ?_ | refine RunE.block ?_ | refine RunE.inBlock ?_ | refine RunE.skip ?_ | refine RunE.exit rfl ?_ | refine RunE.scope ?_ | refine RunE.inScope ?_ | refine RunE.label ?_)
  refine RunE.retFn Tryd.func56 (.tmp rfl .nil) ⟨?_, (X2.trans X3).write E4 (by intro i hi hlt; have := ownsRow_ge O2 hi; omega)⟩
  simp only [oneOr, CV.enc]
  rw [List.length_cons, Nat.add_comm]
  exact O4

theorem rencode_text (t : List UInt8) (cs : List Value) (w : World) (h : (CV.text t).In w cs) : Rets Tryd.prog 56 [.agg cs.toArray] w fun r w' => w'.ownsRow w.heap.size 5 1 r (CV.text t).enc.length (bytesV (CV.text t).enc) ∧ Ext w w' := by
  simp only [CV.In] at h
  obtain ⟨hn, d, rfl⟩ := h
  have hst : (strOf t).data.toList = t := by simp [strOf]
  have hsz : (strOf t).size = t.length := rfl
  refine RetsX.of (nt := 50) Tryd.func56 (by kernel_rfl) rfl rfl (by simp) (by simp only [argEnv]; rfl) ?_
  repeat (first | refine RunL.pureI Tryd.tOk rfl rfl rfl (by (first | exact wr_i64 (by omega) (by omega) | exact wm_i64 (by omega) | exact wq_i64 (by omega) (by omega) (by omega) | rfl)) ?_ | refine RunL.pure Tryd.tOk rfl rfl rfl ?_ | refine RunL.unwantedD rfl rfl ?_ | refine RunE.seq ?_ | refine RunE.region ?_ | refine RunL.nil ?_ | refine RunE.block ?_ | refine RunE.inBlock ?_ | refine RunE.skip ?_ | refine RunE.exit rfl ?_ | refine RunE.scope ?_ | refine RunE.inScope ?_ | refine RunE.label ?_)
  refine RunL.box rfl rfl rfl fun B1 w1 a1 => ?_
  have Z1 : Blk w1 B1 [.int .i64 2, .int .i64 0, .string (strOf t), .slice d 0 0] 48 := a1.at_
  have hB1 := a1.eq
  have z1 := a1.size
  have X1 := a1.ext
  have z0 := X1.size
  clear a1
  repeat (first | refine RunL.pureI Tryd.tOk rfl rfl rfl (by (first | exact wr_i64 (by omega) (by omega) | exact wm_i64 (by omega) | exact wq_i64 (by omega) (by omega) (by omega) | rfl)) ?_ | refine RunL.pure Tryd.tOk rfl rfl rfl ?_ | refine RunL.unwantedD rfl rfl ?_ | refine RunL.val rfl rfl rfl (OpV.indexAK Tryd.tOk rfl rfl rfl rfl) ?_ | refine RunL.val rfl rfl rfl (OpV.indexSK Tryd.tOk rfl rfl rfl rfl) ?_ | refine RunL.val rfl rfl rfl (OpV.load1 Tryd.tOk rfl rfl rfl (Blk.cell Z1 rfl)) ?_ | refine RunE.seq ?_ | refine RunE.region ?_ | refine RunL.nil ?_ | refine RunE.block ?_ | refine RunE.inBlock ?_ | refine RunE.skip ?_ | refine RunE.exit rfl ?_ | refine RunE.scope ?_ | refine RunE.inScope ?_ | refine RunE.label ?_)
  refine RunE.condF rfl rfl ?_
  repeat (first | refine RunL.pureI Tryd.tOk rfl rfl rfl (by (first | exact wr_i64 (by omega) (by omega) | exact wm_i64 (by omega) | exact wq_i64 (by omega) (by omega) (by omega) | rfl)) ?_ | refine RunL.pure Tryd.tOk rfl rfl rfl ?_ | refine RunL.unwantedD rfl rfl ?_ | refine RunL.val rfl rfl rfl (OpV.indexAK Tryd.tOk rfl rfl rfl rfl) ?_ | refine RunL.val rfl rfl rfl (OpV.indexSK Tryd.tOk rfl rfl rfl rfl) ?_ | refine RunL.val rfl rfl rfl (OpV.load1 Tryd.tOk rfl rfl rfl (Blk.cell Z1 rfl)) ?_ | refine RunE.seq ?_ | refine RunE.region ?_ | refine RunL.nil ?_ | refine RunE.block ?_ | refine RunE.inBlock ?_ | refine RunE.skip ?_ | refine RunE.exit rfl ?_ | refine RunE.scope ?_ | refine RunE.inScope ?_ | refine RunE.label ?_)
  refine RunE.condT rfl rfl ?_
  repeat (first | refine RunE.seq ?_ | refine RunE.region ?_ | refine RunL.nil ?_ | refine RunE.block ?_ | refine RunE.inBlock ?_ | refine RunE.skip ?_ | refine RunE.exit rfl ?_ | refine RunE.scope ?_ | refine RunE.inScope ?_ | refine RunE.label ?_)
  refine RunE.draw (fun k => w1.heap.size ≤ k) mix ?_
  intro w2 X2
  have z2 := X2.size
  have Z2 := Z1.ext X2 id
  have hS : ¬ (w1.heap.size ≤ B1) := by omega
  have hnl := num_le (strOf t).size (by omega)
  repeat (first | refine Asy.pureI Tryd.tOk rfl rfl rfl (by (first | exact wr_i64 (by omega) (by omega) | exact wm_i64 (by omega) | exact wq_i64 (by omega) (by omega) (by omega) | rfl)) ?_ | refine Asy.pure Tryd.tOk rfl rfl rfl ?_ | refine Asy.unwantedD rfl rfl rfl ?_)
  refine Asy.pre0 (fun u w' => w'.ownsRow w1.heap.size 5 1 u 1 (bytesV [2])) rfl rfl rfl rfl (fun u w' w'' _ e h => ownsRow_ext h e (fun _ _ h => h)) (fun w' e => ?_) ?_
  · refine OpE.mono (OpE.buildSl Tryd.tOk [.int .u8 2] rfl rfl rfl rfl rfl rfl (by simp [Value.cells])) ?_ fun _ _ h => h
    rintro _ w'' ⟨B, rfl, a⟩
    have := e.size
    exact ⟨a.ext, ownsRow_added a (by have := a.eq; omega) rfl (by decide)⟩
  repeat (first | refine Asy.pureI Tryd.tOk rfl rfl rfl (by (first | exact wr_i64 (by omega) (by omega) | exact wm_i64 (by omega) | exact wq_i64 (by omega) (by omega) (by omega) | rfl)) ?_ | refine Asy.pure Tryd.tOk rfl rfl rfl ?_ | refine Asy.unwantedD rfl rfl rfl ?_)
  refine Asy.v rfl rfl rfl rfl (fun w' X' => OpV.load1 Tryd.tOk rfl rfl rfl (Blk.cell (Z2.ext X' hS) rfl)) ?_
  repeat (first | refine Asy.pureI Tryd.tOk rfl rfl rfl (by (first | exact u64_nat _ (by omega) | exact wr_i64 (by omega) (by omega) | exact wm_i64 (by omega) | exact wq_i64 (by omega) (by omega) (by omega) | rfl)) ?_ | refine Asy.pure Tryd.tOk rfl rfl rfl ?_ | refine Asy.unwantedD rfl rfl rfl ?_ | refine Asy.v rfl rfl rfl rfl (fun _ X_ => OpV.indexAK Tryd.tOk rfl rfl rfl rfl) ?_ | refine Asy.v rfl rfl rfl rfl (fun _ X_ => OpV.indexSK Tryd.tOk rfl rfl rfl rfl) ?_)
  refine Asy.pre0 (fun u w' => w'.ownsRow w1.heap.size 5 1 u (num (strOf t).size).length (bytesV (num (strOf t).size))) rfl rfl rfl rfl (fun u w' w'' _ e h => ownsRow_ext h e (fun _ _ h => h)) (fun w' e => ?_) ?_
  · refine OpE.mono (OpE.call rfl (rnumeral_ok (strOf t).size w' (by omega))) ?_ fun _ _ h => h
    rintro u w'' ⟨h1, h2⟩
    have := e.size
    exact ⟨h2, ownsRow_base h1 (by omega)⟩
  refine Asy.wriPP 1 0 (fun u w' => w'.ownsRow w1.heap.size 5 1 u (1 + (num (strOf t).size).length) (bytesV [2] ++ bytesV (num (strOf t).size))) rfl rfl rfl rfl rfl rfl rfl rfl (fun u w' w'' _ e h => ownsRow_ext h e (fun _ _ h => h)) (fun w' x y e hx hy => ?_) ?_
  · have := e.size
    refine OpE.mono (OpE.append' Tryd.tOk rfl rfl rfl rfl rfl rfl hx (isSl_own hy) (bytesV_plain _) (by show _ * 1 ≤ _; omega) (by omega) (by omega)) ?_ fun _ _ h => h
    rintro u w'' ⟨h1, h2, h3⟩
    exact ⟨h2.mono fun k _ hk => ownsRow_ge hx hk, h1⟩
  repeat (first | refine Asy.pureI Tryd.tOk rfl rfl rfl (by (first | exact wr_i64 (by omega) (by omega) | exact wm_i64 (by omega) | exact wq_i64 (by omega) (by omega) (by omega) | rfl)) ?_ | refine Asy.pure Tryd.tOk rfl rfl rfl ?_ | refine Asy.unwantedD rfl rfl rfl ?_)
  refine Asy.v rfl rfl rfl rfl (fun w' X' => OpV.load1 Tryd.tOk rfl rfl rfl (Blk.cell (Z2.ext X' hS) rfl)) ?_
  refine Asy.tailW (by kernel_rfl) ?_
  rintro w3 x E3 O3
  simp only [satsAll]
  have z3 := E3.size
  have Y3 : Ext w w3 := (X1.trans X2).write E3 (by intro i hi hlt; omega)
  refine RunL.ex rfl rfl rfl (OpE.appendStr Tryd.tOk (by kernel_rfl) rfl rfl rfl rfl rfl O3 (by omega) (by omega)) ?_
  rintro r w4 ⟨O4, E4⟩
  have Y4 : Ext w w4 := Y3.write E4 (by intro i hi hlt; have := ownsRow_ge O3 hi; omega)
  repeat (first | refine RunL.pureI Tryd.tOk rfl rfl rfl (by (first | exact wr_i64 (by omega) (by omega) | exact wm_i64 (by omega) | exact wq_i64 (by omega) (by omega) (by omega) | rfl)) ?_ | refine RunL.pure Tryd.tOk rfl rfl rfl ?_ | refine RunL.unwantedD rfl rfl ?_ | refine RunE.seq ?_ | refine RunE.region ?_ | refine RunL.nil ?_ | refine RunE.block ?_ | refine RunE.inBlock ?_ | refine RunE.skip ?_ | refine RunE.exit rfl ?_ | refine RunE.scope ?_ | refine RunE.inScope ?_ | refine RunE.label ?_)
  refine RunE.retFn Tryd.func56 (.tmp rfl .nil) ⟨?_, Y4⟩
  simp only [CV.enc, oneOr]
  rw [← bytesV_append, hst, hsz, ← bytesV_append] at O4
  have e : [2] ++ num t.length ++ t = 2 :: (num t.length ++ t) := by simp
  have e2 : 1 + (num t.length).length + t.length = (2 :: (num t.length ++ t)).length := by simp; omega
  rw [e2, e] at O4
  exact ownsRow_base O4 (by omega)

set_option maxHeartbeats 2000000 in
theorem rencode_ok : ∀ (c : CV) (cs : List Value) (w : World), c.In w cs → c.enc.length ≤ 1000000000 → Rets Tryd.prog 56 [.agg cs.toArray] w fun r w' => w'.ownsRow w.heap.size 5 1 r c.enc.length (bytesV c.enc) ∧ Ext w w'
  | .int n, cs, w, h, _ => rencode_int n cs w h
  | .text t, cs, w, h, _ => rencode_text t cs w h
  | .list l, cs, w, h, hlen => by
    simp only [CV.In] at h
    obtain ⟨hn, sv, rows, rfl, hsl, hin⟩ := h
    obtain ⟨hrl, hget⟩ := hin.get
    simp only [CV.enc, List.length_cons, List.length_append] at hlen
    refine RetsX.of (nt := 50) Tryd.func56 (by kernel_rfl) rfl rfl (by simp) (by simp only [argEnv]; rfl) ?_
    repeat (first | refine RunL.pureI Tryd.tOk rfl rfl rfl (by (first | exact wr_i64 (by omega) (by omega) | exact wm_i64 (by omega) | exact wq_i64 (by omega) (by omega) (by omega) | rfl)) ?_ | refine RunL.pure Tryd.tOk rfl rfl rfl ?_ | refine RunL.unwantedD rfl rfl ?_ | refine RunE.seq ?_ | refine RunE.region ?_ | refine RunL.nil ?_ | refine RunE.block ?_ | refine RunE.inBlock ?_ | refine RunE.skip ?_ | refine RunE.exit rfl ?_ | refine RunE.scope ?_ | refine RunE.inScope ?_ | refine RunE.label ?_)
    refine RunL.box rfl rfl rfl fun B1 w1 a1 => ?_
    have Z1 : Blk w1 B1 [.int .i64 3, .int .i64 0, .string ⟨#[]⟩, sv] 48 := a1.at_
    have hB1 := a1.eq
    have z1 := a1.size
    have X1 := a1.ext
    have z0 := X1.size
    clear a1
    repeat (first | refine RunL.pureI Tryd.tOk rfl rfl rfl (by (first | exact wr_i64 (by omega) (by omega) | exact wm_i64 (by omega) | exact wq_i64 (by omega) (by omega) (by omega) | rfl)) ?_ | refine RunL.pure Tryd.tOk rfl rfl rfl ?_ | refine RunL.unwantedD rfl rfl ?_ | refine RunL.val rfl rfl rfl (OpV.indexAK Tryd.tOk rfl rfl rfl rfl) ?_ | refine RunL.val rfl rfl rfl (OpV.indexSK Tryd.tOk rfl rfl rfl rfl) ?_ | refine RunL.val rfl rfl rfl (OpV.load1 Tryd.tOk rfl rfl rfl (Blk.cell Z1 rfl)) ?_ | refine RunE.seq ?_ | refine RunE.region ?_ | refine RunL.nil ?_ | refine RunE.block ?_ | refine RunE.inBlock ?_ | refine RunE.skip ?_ | refine RunE.exit rfl ?_ | refine RunE.scope ?_ | refine RunE.inScope ?_ | refine RunE.label ?_)
    refine RunE.condF rfl rfl ?_
    repeat (first | refine RunL.pureI Tryd.tOk rfl rfl rfl (by (first | exact wr_i64 (by omega) (by omega) | exact wm_i64 (by omega) | exact wq_i64 (by omega) (by omega) (by omega) | rfl)) ?_ | refine RunL.pure Tryd.tOk rfl rfl rfl ?_ | refine RunL.unwantedD rfl rfl ?_ | refine RunL.val rfl rfl rfl (OpV.indexAK Tryd.tOk rfl rfl rfl rfl) ?_ | refine RunL.val rfl rfl rfl (OpV.indexSK Tryd.tOk rfl rfl rfl rfl) ?_ | refine RunL.val rfl rfl rfl (OpV.load1 Tryd.tOk rfl rfl rfl (Blk.cell Z1 rfl)) ?_ | refine RunE.seq ?_ | refine RunE.region ?_ | refine RunL.nil ?_ | refine RunE.block ?_ | refine RunE.inBlock ?_ | refine RunE.skip ?_ | refine RunE.exit rfl ?_ | refine RunE.scope ?_ | refine RunE.inScope ?_ | refine RunE.label ?_)
    refine RunE.condF rfl rfl ?_
    repeat (first | refine RunL.pureI Tryd.tOk rfl rfl rfl (by (first | exact wr_i64 (by omega) (by omega) | exact wm_i64 (by omega) | exact wq_i64 (by omega) (by omega) (by omega) | rfl)) ?_ | refine RunL.pure Tryd.tOk rfl rfl rfl ?_ | refine RunL.unwantedD rfl rfl ?_ | refine RunE.seq ?_ | refine RunE.region ?_ | refine RunL.nil ?_ | refine RunE.block ?_ | refine RunE.inBlock ?_ | refine RunE.skip ?_ | refine RunE.exit rfl ?_ | refine RunE.scope ?_ | refine RunE.inScope ?_ | refine RunE.label ?_)
    refine RunL.ex rfl rfl rfl (OpE.buildSl Tryd.tOk [.int .u8 3] rfl rfl rfl rfl rfl rfl (by simp [Value.cells])) ?_
    rintro _ w2 ⟨B, rfl, a2⟩
    have O2 : w2.ownsRow w1.heap.size 5 1 (.slice (some ⟨B, 0, none⟩) 1 1) 1 (bytesV [3]) := ownsRow_added a2 (by have := a2.eq; omega) rfl (by decide)
    have z2 := a2.size
    have X2 := a2.ext
    have Z2 := Z1.ext a2.ext id
    clear a2
    repeat (first | refine RunL.pureI Tryd.tOk rfl rfl rfl (by (first | exact wr_i64 (by omega) (by omega) | exact wm_i64 (by omega) | exact wq_i64 (by omega) (by omega) (by omega) | rfl)) ?_ | refine RunL.pure Tryd.tOk rfl rfl rfl ?_ | refine RunL.unwantedD rfl rfl ?_ | refine RunL.val rfl rfl rfl (OpV.indexAK Tryd.tOk rfl rfl rfl rfl) ?_ | refine RunL.val rfl rfl rfl (OpV.indexSK Tryd.tOk rfl rfl rfl rfl) ?_ | refine RunL.val rfl rfl rfl (OpV.load1 Tryd.tOk rfl rfl rfl (Blk.cell Z2 rfl)) ?_ | refine RunE.seq ?_ | refine RunE.region ?_ | refine RunL.nil ?_ | refine RunE.block ?_ | refine RunE.inBlock ?_ | refine RunE.skip ?_ | refine RunE.exit rfl ?_ | refine RunE.scope ?_ | refine RunE.inScope ?_ | refine RunE.label ?_)
    refine RunL.val rfl rfl rfl (OpV.lenSl Tryd.tOk rfl rfl hsl) ?_
    repeat (first | refine RunL.pureI Tryd.tOk rfl rfl rfl (by (first | exact u64_nat _ (by omega) | exact wr_i64 (by omega) (by omega) | exact wm_i64 (by omega) | exact wq_i64 (by omega) (by omega) (by omega) | rfl)) ?_ | refine RunL.pure Tryd.tOk rfl rfl rfl ?_ | refine RunL.unwantedD rfl rfl ?_ | refine RunL.val rfl rfl rfl (OpV.indexAK Tryd.tOk rfl rfl rfl rfl) ?_ | refine RunL.val rfl rfl rfl (OpV.indexSK Tryd.tOk rfl rfl rfl rfl) ?_ | refine RunE.seq ?_ | refine RunE.region ?_ | refine RunL.nil ?_ | refine RunE.block ?_ | refine RunE.inBlock ?_ | refine RunE.skip ?_ | refine RunE.exit rfl ?_ | refine RunE.scope ?_ | refine RunE.inScope ?_ | refine RunE.label ?_)
    refine RunL.call rfl rfl rfl (rnumeral_ok l.length _ (by omega)) ?_
    rintro r w3 ⟨O3, X3⟩
    have z3 := X3.size
    have z2x := X2.size
    have hl := num_le l.length (by omega)
    refine RunL.ex rfl rfl rfl (OpE.append' Tryd.tOk rfl rfl rfl rfl rfl rfl (ownsRow_ext O2 X3 (fun _ _ h => h)) (isSl_own O3) (bytesV_plain _) (by show _ * 1 ≤ _; omega) (by omega) (by omega)) ?_
    rintro v4 w4 ⟨O4, E4, -⟩
    have Y4 : Ext w1 w4 := (X2.trans X3).write E4 (by intro i hi hlt; have := ownsRow_ge O2 hi; omega)
    have O4' : w4.ownsRow w1.heap.size 5 1 v4 (3 :: (num l.length ++ encs (l.take 0))).length (bytesV (3 :: (num l.length ++ encs (l.take 0)))) := by
      have e : 3 :: (num l.length ++ encs (l.take 0)) = [3] ++ num l.length := by simp [encs]
      rw [e, List.length_append, bytesV_append]; exact O4
    repeat (first | refine RunL.pureI Tryd.tOk rfl rfl rfl (by (first | exact wr_i64 (by omega) (by omega) | exact wm_i64 (by omega) | exact wq_i64 (by omega) (by omega) (by omega) | rfl)) ?_ | refine RunL.pure Tryd.tOk rfl rfl rfl ?_ | refine RunL.unwantedD rfl rfl ?_ | refine RunE.seq ?_ | refine RunE.region ?_ | refine RunL.nil ?_ | refine RunE.block ?_ | refine RunE.inBlock ?_ | refine RunE.skip ?_ | refine RunE.exit rfl ?_ | refine RunE.scope ?_ | refine RunE.inScope ?_ | refine RunE.label ?_)
    refine RunE.loop (ι := Nat × Value) (fun x => [(1, .pointer (some ⟨B1, 0, none⟩)), (3, x.2), (4, .int .i64 (x.1 : Int))])
      (fun x w' => x.1 ≤ l.length ∧ Ext w1 w' ∧ w'.ownsRow w1.heap.size 5 1 x.2 (3 :: (num l.length ++ encs (l.take x.1))).length (bytesV (3 :: (num l.length ++ encs (l.take x.1))))) (fun x => l.length - x.1) (0, v4) (by repeat (first | exact Sub.nil _ | refine Sub.cons rfl ?_)) ⟨by simp, Y4, O4'⟩ ?_
    clear O4 O4' Y4 E4 X3 O3 X2 O2 Z2
    rintro ⟨i, u⟩ w5 ⟨hi, X5, O5⟩ again
    simp only at hi O5 again ⊢
    have Z5 := Z1.ext X5 id
    repeat (first | refine RunL.pureI Tryd.tOk rfl rfl rfl (by (first | exact wr_i64 (by omega) (by omega) | exact wm_i64 (by omega) | exact wq_i64 (by omega) (by omega) (by omega) | rfl)) ?_ | refine RunL.pure Tryd.tOk rfl rfl rfl ?_ | refine RunL.unwantedD rfl rfl ?_ | refine RunL.val rfl rfl rfl (OpV.indexAK Tryd.tOk rfl rfl rfl rfl) ?_ | refine RunL.val rfl rfl rfl (OpV.indexSK Tryd.tOk rfl rfl rfl rfl) ?_ | refine RunL.val rfl rfl rfl (OpV.load1 Tryd.tOk rfl rfl rfl (Blk.cell Z5 rfl)) ?_ | refine RunE.seq ?_ | refine RunE.region ?_ | refine RunL.nil ?_ | refine RunE.block ?_ | refine RunE.inBlock ?_ | refine RunE.skip ?_ | refine RunE.exit rfl ?_ | refine RunE.scope ?_ | refine RunE.inScope ?_ | refine RunE.label ?_)
    refine RunL.val rfl rfl rfl (OpV.lenSl Tryd.tOk rfl rfl hsl) ?_
    repeat (first | refine RunL.pureI Tryd.tOk rfl rfl rfl (by (first | exact wr_i64 (by omega) (by omega) | exact wm_i64 (by omega) | exact wq_i64 (by omega) (by omega) (by omega) | rfl)) ?_ | refine RunL.pure Tryd.tOk rfl rfl rfl ?_ | refine RunL.unwantedD rfl rfl ?_ | refine RunL.val rfl rfl rfl (OpV.indexAK Tryd.tOk rfl rfl rfl rfl) ?_ | refine RunL.val rfl rfl rfl (OpV.indexSK Tryd.tOk rfl rfl rfl rfl) ?_ | refine RunL.val rfl rfl rfl (OpV.load1 Tryd.tOk rfl rfl rfl (Blk.cell Z5 rfl)) ?_ | refine RunE.seq ?_ | refine RunE.region ?_ | refine RunL.nil ?_ | refine RunE.block ?_ | refine RunE.inBlock ?_ | refine RunE.skip ?_ | refine RunE.exit rfl ?_ | refine RunE.scope ?_ | refine RunE.inScope ?_ | refine RunE.label ?_)
    refine RunE.cond rfl (fun hlt => ?_) (fun hlt => ?_) <;> (first | replace hlt := of_decide_eq_true hlt | replace hlt := of_decide_eq_false hlt | replace hlt := beq_iff_eq.1 hlt | replace hlt := beq_eq_false_iff_ne.1 hlt | replace hlt := bne_iff_ne.1 hlt | replace hlt := bne_eq_false_iff_eq.1 hlt | skip)
    · have hi' : i < l.length := by omega
      obtain ⟨c, hc⟩ : ∃ c, l[i]? = some c := ⟨_, List.getElem?_eq_getElem hi'⟩
      obtain ⟨q, hq, hcq⟩ := hget i c hc
      obtain ⟨b, o, cap, rfl, hrow, -, -⟩ := hsl.held (by omega)
      have hq4 := In.length hcq
      have hle := encs_le hc
      have hz5 := X5.size
      repeat (first | refine RunL.pureI Tryd.tOk rfl rfl rfl (by (first | exact wr_i64 (by omega) (by omega) | exact wm_i64 (by omega) | exact wq_i64 (by omega) (by omega) (by omega) | rfl)) ?_ | refine RunL.pure Tryd.tOk rfl rfl rfl ?_ | refine RunL.unwantedD rfl rfl ?_ | refine RunL.val rfl rfl rfl (OpV.indexAK Tryd.tOk rfl rfl rfl rfl) ?_ | refine RunL.val rfl rfl rfl (OpV.indexSK Tryd.tOk rfl rfl rfl rfl) ?_ | refine RunL.val rfl rfl rfl (OpV.load1 Tryd.tOk rfl rfl rfl (Blk.cell Z5 rfl)) ?_ | refine RunE.seq ?_ | refine RunE.region ?_ | refine RunL.nil ?_ | refine RunE.block ?_ | refine RunE.inBlock ?_ | refine RunE.skip ?_ | refine RunE.exit rfl ?_ | refine RunE.scope ?_ | refine RunE.inScope ?_ | refine RunE.label ?_)
      refine RunL.val rfl rfl rfl (OpV.indexS Tryd.tOk i rfl rfl rfl rfl hi') ?_
      refine RunL.val rfl rfl rfl (OpV.loadN (cs := q) Tryd.tOk rfl rfl rfl hq4 ((hin.row hq hrow).extE (X1.trans X5))) ?_
      refine RunL.call rfl rfl rfl (rencode_ok c q w5 (In.ext (X1.trans X5) c q hcq) (by omega)) ?_
      rintro r6 w6 ⟨O6, X6⟩
      have hz6 := X6.size
      refine RunL.ex rfl rfl rfl (OpE.append' Tryd.tOk rfl rfl rfl rfl rfl rfl (ownsRow_ext O5 X6 (fun _ _ h => h)) (isSl_own O6) (bytesV_plain _) (by show _ * 1 ≤ _; simp; omega) (by simp; omega) (by omega)) ?_
      rintro v7 w7 ⟨O7, E7, -⟩
      repeat (first | refine RunL.pureI Tryd.tOk rfl rfl rfl (by (first | exact wr_i64 (by omega) (by omega) | exact wm_i64 (by omega) | exact wq_i64 (by omega) (by omega) (by omega) | rfl)) ?_ | refine RunL.pure Tryd.tOk rfl rfl rfl ?_ | refine RunL.unwantedD rfl rfl ?_ | refine RunE.seq ?_ | refine RunE.region ?_ | refine RunL.nil ?_ | refine RunE.block ?_ | refine RunE.inBlock ?_ | refine RunE.skip ?_ | refine RunE.exit rfl ?_ | refine RunE.scope ?_ | refine RunE.inScope ?_ | refine RunE.label ?_)
      refine RunE.weaken (by repeat (first | exact Sub.nil _ | refine Sub.cons rfl ?_)) (again (i + 1, v7) _ (by simp only; omega) ⟨by simp only; omega, (X5.trans X6).write E7 (by intro i hi hlt; have := ownsRow_ge O5 hi; omega), ?_⟩)
      simp only
      have e : 3 :: (num l.length ++ encs (l.take (i + 1))) = (3 :: (num l.length ++ encs (l.take i))) ++ c.enc := by rw [encs_take hc]; simp
      rw [e, List.length_append, bytesV_append]; exact O7
    · have hil : i = l.length := by omega
      subst hil
      repeat (first | refine RunL.pureI Tryd.tOk rfl rfl rfl (by (first | exact wr_i64 (by omega) (by omega) | exact wm_i64 (by omega) | exact wq_i64 (by omega) (by omega) (by omega) | rfl)) ?_ | refine RunL.pure Tryd.tOk rfl rfl rfl ?_ | refine RunL.unwantedD rfl rfl ?_ | refine RunE.seq ?_ | refine RunE.region ?_ | refine RunL.nil ?_ | refine RunE.block ?_ | refine RunE.inBlock ?_ | refine RunE.skip ?_ | refine RunE.exit rfl ?_ | refine RunE.scope ?_ | refine RunE.inScope ?_ | refine RunE.label ?_)
      refine RunE.retFn Tryd.func56 (.tmp rfl .nil) ⟨?_, X1.trans X5⟩
      simp only [oneOr, CV.enc]
      rw [List.take_length] at O5
      exact ownsRow_base O5 (by omega)
termination_by c => SizeOf.sizeOf c
decreasing_by
  have := List.sizeOf_lt_of_mem (List.mem_of_getElem? hc)
  simp only [CV.list.sizeOf_spec]
  omega

theorem rcheck_ok (c : CV) (cs : List Value) (w : World) (h : c.In w cs) (hd : c.depth ≤ 16) : Rets Tryd.prog 55 [.agg cs.toArray] w fun v w' => v = .int .i64 0 ∧ Ext w w' := by
  have h4 := In.length h
  refine RetsX.of (nt := 9) Tryd.func55 (by kernel_rfl) rfl rfl (by simp) (by simp only [argEnv]; rfl) ?_
  repeat (first | refine RunL.pureI Tryd.tOk rfl rfl rfl (by (first | exact wr_i64 (by omega) (by omega) | exact wm_i64 (by omega) | exact wq_i64 (by omega) (by omega) (by omega) | rfl)) ?_ | refine RunL.pure Tryd.tOk rfl rfl rfl ?_ | refine RunL.unwantedD rfl rfl ?_ | refine RunE.seq ?_ | refine RunE.region ?_ | refine RunL.nil ?_ | refine RunE.block ?_ | refine RunE.inBlock ?_ | refine RunE.skip ?_ | refine RunE.exit rfl ?_ | refine RunE.scope ?_ | refine RunE.inScope ?_ | refine RunE.label ?_)
  refine RunL.box rfl rfl rfl fun B1 w1 a1 => ?_
  have Z1 : Blk w1 B1 cs 48 := a1.at_
  repeat (first | refine RunL.pureI Tryd.tOk rfl rfl rfl (by (first | exact wr_i64 (by omega) (by omega) | exact wm_i64 (by omega) | exact wq_i64 (by omega) (by omega) (by omega) | rfl)) ?_ | refine RunL.pure Tryd.tOk rfl rfl rfl ?_ | refine RunL.unwantedD rfl rfl ?_ | refine RunE.seq ?_ | refine RunE.region ?_ | refine RunL.nil ?_ | refine RunE.block ?_ | refine RunE.inBlock ?_ | refine RunE.skip ?_ | refine RunE.exit rfl ?_ | refine RunE.scope ?_ | refine RunE.inScope ?_ | refine RunE.label ?_)
  refine RunL.val rfl rfl rfl (OpV.loadN (cs := cs) Tryd.tOk rfl rfl rfl h4 Z1.row) ?_
  refine RunL.call rfl rfl rfl (rformed_ok c cs w1 (In.ext a1.ext c cs h)) ?_
  rintro _ w2 ⟨rfl, X2⟩
  repeat (first | refine RunL.pureI Tryd.tOk rfl rfl rfl (by (first | exact wr_i64 (by omega) (by omega) | exact wm_i64 (by omega) | exact wq_i64 (by omega) (by omega) (by omega) | rfl)) ?_ | refine RunL.pure Tryd.tOk rfl rfl rfl ?_ | refine RunL.unwantedD rfl rfl ?_ | refine RunE.seq ?_ | refine RunE.region ?_ | refine RunL.nil ?_ | refine RunE.block ?_ | refine RunE.inBlock ?_ | refine RunE.skip ?_ | refine RunE.exit rfl ?_ | refine RunE.scope ?_ | refine RunE.inScope ?_ | refine RunE.label ?_)
  refine RunE.condF rfl rfl ?_
  repeat (first | refine RunL.pureI Tryd.tOk rfl rfl rfl (by (first | exact wr_i64 (by omega) (by omega) | exact wm_i64 (by omega) | exact wq_i64 (by omega) (by omega) (by omega) | rfl)) ?_ | refine RunL.pure Tryd.tOk rfl rfl rfl ?_ | refine RunL.unwantedD rfl rfl ?_ | refine RunE.seq ?_ | refine RunE.region ?_ | refine RunL.nil ?_ | refine RunE.block ?_ | refine RunE.inBlock ?_ | refine RunE.skip ?_ | refine RunE.exit rfl ?_ | refine RunE.scope ?_ | refine RunE.inScope ?_ | refine RunE.label ?_)
  refine RunL.val rfl rfl rfl (OpV.loadN (cs := cs) Tryd.tOk rfl rfl rfl h4 (Z1.ext X2 id).row) ?_
  refine RunL.call rfl rfl rfl (rdepth_ok c cs w2 (In.ext (a1.ext.trans X2) c cs h) (by omega)) ?_
  rintro _ w3 ⟨rfl, X3⟩
  repeat (first | refine RunL.pureI Tryd.tOk rfl rfl rfl (by (first | exact wr_i64 (by omega) (by omega) | exact wm_i64 (by omega) | exact wq_i64 (by omega) (by omega) (by omega) | rfl)) ?_ | refine RunL.pure Tryd.tOk rfl rfl rfl ?_ | refine RunL.unwantedD rfl rfl ?_ | refine RunE.seq ?_ | refine RunE.region ?_ | refine RunL.nil ?_ | refine RunE.block ?_ | refine RunE.inBlock ?_ | refine RunE.skip ?_ | refine RunE.exit rfl ?_ | refine RunE.scope ?_ | refine RunE.inScope ?_ | refine RunE.label ?_)
  refine RunE.condF rfl (decide_eq_false (by omega)) ?_
  repeat (first | refine RunL.pureI Tryd.tOk rfl rfl rfl (by (first | exact wr_i64 (by omega) (by omega) | exact wm_i64 (by omega) | exact wq_i64 (by omega) (by omega) (by omega) | rfl)) ?_ | refine RunL.pure Tryd.tOk rfl rfl rfl ?_ | refine RunL.unwantedD rfl rfl ?_ | refine RunE.seq ?_ | refine RunE.region ?_ | refine RunL.nil ?_ | refine RunE.block ?_ | refine RunE.inBlock ?_ | refine RunE.skip ?_ | refine RunE.exit rfl ?_ | refine RunE.scope ?_ | refine RunE.inScope ?_ | refine RunE.label ?_)
  exact RunE.retFn Tryd.func55 (.tmp rfl .nil) ⟨rfl, (a1.ext.trans X2).trans X3⟩

theorem rEncode_ok (c : CV) (cs : List Value) (w : World) (h : c.In w cs) (hd : c.depth ≤ 16) (hl : c.enc.length ≤ 1000000000) :
    Rets Tryd.prog 37 [.agg cs.toArray] w fun v w' => ∃ r, v = .tuple #[r, .int .i64 0] ∧ w'.ownsRow w.heap.size 5 1 r c.enc.length (bytesV c.enc) ∧ Ext w w' := by
  have h4 := In.length h
  refine RetsX.of (nt := 12) Tryd.func37 (by kernel_rfl) rfl rfl (by simp) (by simp only [argEnv]; rfl) ?_
  repeat (first | refine RunL.pureI Tryd.tOk rfl rfl rfl (by (first | exact wr_i64 (by omega) (by omega) | exact wm_i64 (by omega) | exact wq_i64 (by omega) (by omega) (by omega) | rfl)) ?_ | refine RunL.pure Tryd.tOk rfl rfl rfl ?_ | refine RunL.unwantedD rfl rfl ?_ | refine RunE.seq ?_ | refine RunE.region ?_ | refine RunL.nil ?_ | refine RunE.block ?_ | refine RunE.inBlock ?_ | refine RunE.skip ?_ | refine RunE.exit rfl ?_ | refine RunE.scope ?_ | refine RunE.inScope ?_ | refine RunE.label ?_)
  refine RunL.box rfl rfl rfl fun B1 w1 a1 => ?_
  have Z1 : Blk w1 B1 cs 48 := a1.at_
  have h1 := In.ext a1.ext c cs h
  have z0 := a1.ext.size
  repeat (first | refine RunL.pureI Tryd.tOk rfl rfl rfl (by (first | exact wr_i64 (by omega) (by omega) | exact wm_i64 (by omega) | exact wq_i64 (by omega) (by omega) (by omega) | rfl)) ?_ | refine RunL.pure Tryd.tOk rfl rfl rfl ?_ | refine RunL.unwantedD rfl rfl ?_ | refine RunE.seq ?_ | refine RunE.region ?_ | refine RunL.nil ?_ | refine RunE.block ?_ | refine RunE.inBlock ?_ | refine RunE.skip ?_ | refine RunE.exit rfl ?_ | refine RunE.scope ?_ | refine RunE.inScope ?_ | refine RunE.label ?_)
  refine RunL.val rfl rfl rfl (OpV.loadN (cs := cs) Tryd.tOk rfl rfl rfl h4 Z1.row) ?_
  refine RunL.call rfl rfl rfl (rcheck_ok c cs w1 h1 hd) ?_
  rintro _ w2 ⟨rfl, X2⟩
  repeat (first | refine RunL.pureI Tryd.tOk rfl rfl rfl (by (first | exact wr_i64 (by omega) (by omega) | exact wm_i64 (by omega) | exact wq_i64 (by omega) (by omega) (by omega) | rfl)) ?_ | refine RunL.pure Tryd.tOk rfl rfl rfl ?_ | refine RunL.unwantedD rfl rfl ?_ | refine RunE.seq ?_ | refine RunE.region ?_ | refine RunL.nil ?_ | refine RunE.block ?_ | refine RunE.inBlock ?_ | refine RunE.skip ?_ | refine RunE.exit rfl ?_ | refine RunE.scope ?_ | refine RunE.inScope ?_ | refine RunE.label ?_)
  refine RunE.condF rfl rfl ?_
  repeat (first | refine RunL.pureI Tryd.tOk rfl rfl rfl (by (first | exact wr_i64 (by omega) (by omega) | exact wm_i64 (by omega) | exact wq_i64 (by omega) (by omega) (by omega) | rfl)) ?_ | refine RunL.pure Tryd.tOk rfl rfl rfl ?_ | refine RunL.unwantedD rfl rfl ?_ | refine RunE.seq ?_ | refine RunE.region ?_ | refine RunL.nil ?_ | refine RunE.block ?_ | refine RunE.inBlock ?_ | refine RunE.skip ?_ | refine RunE.exit rfl ?_ | refine RunE.scope ?_ | refine RunE.inScope ?_ | refine RunE.label ?_)
  refine RunL.val rfl rfl rfl (OpV.loadN (cs := cs) Tryd.tOk rfl rfl rfl h4 (Z1.ext X2 id).row) ?_
  refine RunL.call rfl rfl rfl (rencode_ok c cs w2 (In.ext X2 c cs h1) hl) ?_
  rintro r w3 ⟨O3, X3⟩
  have z2 := X2.size
  repeat (first | refine RunL.pureI Tryd.tOk rfl rfl rfl (by (first | exact wr_i64 (by omega) (by omega) | exact wm_i64 (by omega) | exact wq_i64 (by omega) (by omega) (by omega) | rfl)) ?_ | refine RunL.pure Tryd.tOk rfl rfl rfl ?_ | refine RunL.unwantedD rfl rfl ?_ | refine RunE.seq ?_ | refine RunE.region ?_ | refine RunL.nil ?_ | refine RunE.block ?_ | refine RunE.inBlock ?_ | refine RunE.skip ?_ | refine RunE.exit rfl ?_ | refine RunE.scope ?_ | refine RunE.inScope ?_ | refine RunE.label ?_)
  exact RunE.retFn Tryd.func37 (.tmp rfl (.tmp rfl .nil)) ⟨r, rfl, ownsRow_base O3 (by omega), (a1.ext.trans X2).trans X3⟩

theorem rint_ok (n : Int) (w : World) : Rets Tryd.prog 39 [.int .i64 n] w fun v w' => v = .agg #[.int .i64 1, .int .i64 n, .string ⟨#[]⟩, .slice none 0 0] ∧ Ext w w' := by
  refine RetsX.of (nt := 5) Tryd.func39 (by kernel_rfl) rfl rfl (by simp) (by simp only [argEnv]; rfl) ?_
  repeat (first | refine RunL.pureI Tryd.tOk rfl rfl rfl (by (first | exact wr_i64 (by omega) (by omega) | exact wm_i64 (by omega) | exact wq_i64 (by omega) (by omega) (by omega) | rfl)) ?_ | refine RunL.pure Tryd.tOk rfl rfl rfl ?_ | refine RunL.unwantedD rfl rfl ?_ | refine RunE.seq ?_ | refine RunE.region ?_ | refine RunL.nil ?_ | refine RunE.block ?_ | refine RunE.inBlock ?_ | refine RunE.skip ?_ | refine RunE.exit rfl ?_ | refine RunE.scope ?_ | refine RunE.inScope ?_ | refine RunE.label ?_)
  refine RunL.alloc Tryd.tOk rfl rfl rfl fun B2 w2 a2 => ?_
  have hB := a2.eq
  repeat (first | refine RunL.pureI Tryd.tOk rfl rfl rfl (by (first | exact wr_i64 (by omega) (by omega) | exact wm_i64 (by omega) | exact wq_i64 (by omega) (by omega) (by omega) | rfl)) ?_ | refine RunL.pure Tryd.tOk rfl rfl rfl ?_ | refine RunL.unwantedD rfl rfl ?_ | refine RunE.seq ?_ | refine RunE.region ?_ | refine RunL.nil ?_ | refine RunE.block ?_ | refine RunE.inBlock ?_ | refine RunE.skip ?_ | refine RunE.exit rfl ?_ | refine RunE.scope ?_ | refine RunE.inScope ?_ | refine RunE.label ?_)
  refine RunL.store Tryd.tOk rfl rfl rfl rfl rfl (cs := [.int .i64 0, .int .i64 0, .string ⟨#[]⟩, .slice none 0 0]) a2.at_ rfl rfl fun w3 t3 => ?_
  repeat (first | refine RunL.pureI Tryd.tOk rfl rfl rfl (by (first | exact wr_i64 (by omega) (by omega) | exact wm_i64 (by omega) | exact wq_i64 (by omega) (by omega) (by omega) | rfl)) ?_ | refine RunL.pure Tryd.tOk rfl rfl rfl ?_ | refine RunL.unwantedD rfl rfl ?_ | refine RunE.seq ?_ | refine RunE.region ?_ | refine RunL.nil ?_ | refine RunE.block ?_ | refine RunE.inBlock ?_ | refine RunE.skip ?_ | refine RunE.exit rfl ?_ | refine RunE.scope ?_ | refine RunE.inScope ?_ | refine RunE.label ?_)
  exact RunE.retFn Tryd.func39 (.cell rfl (.agg Tryd.tOk rfl rfl rfl (Blk.row (show Blk w3 B2 [.int .i64 1, .int .i64 n, .string ⟨#[]⟩, .slice none 0 0] 48 from t3.at_))) .nil) ⟨rfl, a2.ext.write t3.ext (by intro i hi hlt; subst hi; omega)⟩
theorem rtext_ok (s : ByteArray) (w : World) : Rets Tryd.prog 40 [.string s] w fun v w' => v = .agg #[.int .i64 2, .int .i64 0, .string s, .slice none 0 0] ∧ Ext w w' := by
  refine RetsX.of (nt := 5) Tryd.func40 (by kernel_rfl) rfl rfl (by simp) (by simp only [argEnv]; rfl) ?_
  repeat (first | refine RunL.pureI Tryd.tOk rfl rfl rfl (by (first | exact wr_i64 (by omega) (by omega) | exact wm_i64 (by omega) | exact wq_i64 (by omega) (by omega) (by omega) | rfl)) ?_ | refine RunL.pure Tryd.tOk rfl rfl rfl ?_ | refine RunL.unwantedD rfl rfl ?_ | refine RunE.seq ?_ | refine RunE.region ?_ | refine RunL.nil ?_ | refine RunE.block ?_ | refine RunE.inBlock ?_ | refine RunE.skip ?_ | refine RunE.exit rfl ?_ | refine RunE.scope ?_ | refine RunE.inScope ?_ | refine RunE.label ?_)
  refine RunL.alloc Tryd.tOk rfl rfl rfl fun B2 w2 a2 => ?_
  have hB := a2.eq
  repeat (first | refine RunL.pureI Tryd.tOk rfl rfl rfl (by (first | exact wr_i64 (by omega) (by omega) | exact wm_i64 (by omega) | exact wq_i64 (by omega) (by omega) (by omega) | rfl)) ?_ | refine RunL.pure Tryd.tOk rfl rfl rfl ?_ | refine RunL.unwantedD rfl rfl ?_ | refine RunE.seq ?_ | refine RunE.region ?_ | refine RunL.nil ?_ | refine RunE.block ?_ | refine RunE.inBlock ?_ | refine RunE.skip ?_ | refine RunE.exit rfl ?_ | refine RunE.scope ?_ | refine RunE.inScope ?_ | refine RunE.label ?_)
  refine RunL.store Tryd.tOk rfl rfl rfl rfl rfl (cs := [.int .i64 0, .int .i64 0, .string ⟨#[]⟩, .slice none 0 0]) a2.at_ rfl rfl fun w3 t3 => ?_
  repeat (first | refine RunL.pureI Tryd.tOk rfl rfl rfl (by (first | exact wr_i64 (by omega) (by omega) | exact wm_i64 (by omega) | exact wq_i64 (by omega) (by omega) (by omega) | rfl)) ?_ | refine RunL.pure Tryd.tOk rfl rfl rfl ?_ | refine RunL.unwantedD rfl rfl ?_ | refine RunE.seq ?_ | refine RunE.region ?_ | refine RunL.nil ?_ | refine RunE.block ?_ | refine RunE.inBlock ?_ | refine RunE.skip ?_ | refine RunE.exit rfl ?_ | refine RunE.scope ?_ | refine RunE.inScope ?_ | refine RunE.label ?_)
  exact RunE.retFn Tryd.func40 (.cell rfl (.agg Tryd.tOk rfl rfl rfl (Blk.row (show Blk w3 B2 [.int .i64 2, .int .i64 0, .string s, .slice none 0 0] 48 from t3.at_))) .nil) ⟨rfl, a2.ext.write t3.ext (by intro i hi hlt; subst hi; omega)⟩
theorem rlist_ok (d : Option Addr) (n cap : Nat) (w : World) : Rets Tryd.prog 38 [.slice d n cap] w fun r w' => r = .agg #[.int .i64 3, .int .i64 0, .string ⟨#[]⟩, .slice d n cap] ∧ Ext w w' := by
  refine RetsX.of (nt := 5) Tryd.func38 (by kernel_rfl) rfl rfl (by simp) (by simp only [argEnv]; rfl) ?_
  repeat (first | refine RunL.pureI Tryd.tOk rfl rfl rfl (by (first | exact wr_i64 (by omega) (by omega) | exact wm_i64 (by omega) | exact wq_i64 (by omega) (by omega) (by omega) | rfl)) ?_ | refine RunL.pure Tryd.tOk rfl rfl rfl ?_ | refine RunL.unwantedD rfl rfl ?_ | refine RunE.seq ?_ | refine RunE.region ?_ | refine RunL.nil ?_ | refine RunE.block ?_ | refine RunE.inBlock ?_ | refine RunE.skip ?_ | refine RunE.exit rfl ?_ | refine RunE.scope ?_ | refine RunE.inScope ?_ | refine RunE.label ?_)
  refine RunL.alloc Tryd.tOk rfl rfl rfl fun B2 w2 a2 => ?_
  have hB := a2.eq
  repeat (first | refine RunL.pureI Tryd.tOk rfl rfl rfl (by (first | exact wr_i64 (by omega) (by omega) | exact wm_i64 (by omega) | exact wq_i64 (by omega) (by omega) (by omega) | rfl)) ?_ | refine RunL.pure Tryd.tOk rfl rfl rfl ?_ | refine RunL.unwantedD rfl rfl ?_ | refine RunE.seq ?_ | refine RunE.region ?_ | refine RunL.nil ?_ | refine RunE.block ?_ | refine RunE.inBlock ?_ | refine RunE.skip ?_ | refine RunE.exit rfl ?_ | refine RunE.scope ?_ | refine RunE.inScope ?_ | refine RunE.label ?_)
  refine RunL.store Tryd.tOk rfl rfl rfl rfl rfl (cs := [.int .i64 0, .int .i64 0, .string ⟨#[]⟩, .slice none 0 0]) a2.at_ (by rfl) (by rfl) fun w3 t3 => ?_
  repeat (first | refine RunL.pureI Tryd.tOk rfl rfl rfl (by (first | exact wr_i64 (by omega) (by omega) | exact wm_i64 (by omega) | exact wq_i64 (by omega) (by omega) (by omega) | rfl)) ?_ | refine RunL.pure Tryd.tOk rfl rfl rfl ?_ | refine RunL.unwantedD rfl rfl ?_ | refine RunE.seq ?_ | refine RunE.region ?_ | refine RunL.nil ?_ | refine RunE.block ?_ | refine RunE.inBlock ?_ | refine RunE.skip ?_ | refine RunE.exit rfl ?_ | refine RunE.scope ?_ | refine RunE.inScope ?_ | refine RunE.label ?_)
  exact RunE.retFn Tryd.func38 (.cell rfl (.agg Tryd.tOk rfl rfl rfl (Blk.row (show Blk w3 B2 [.int .i64 3, .int .i64 0, .string ⟨#[]⟩, .slice d n cap] 48 from t3.at_))) .nil) ⟨rfl, a2.ext.write t3.ext (by intro i hi hlt; subst hi; omega)⟩
end Go.Sg
