/- The program's codec: writing. -/
import Derived.Test.YtbjmdklcbknlpaaDoorCod3
namespace Go.Sg
open Go.Rn Go.Sha Go.Cod Go.Proofs
attribute [local irreducible] Go.Rn.RunL Go.Rn.RunE Go.Rn.Asy Go.Rn.OpV Go.Rn.OpE Go.Rn.ExecE

def fnV (f : FuncId) : Value := .func (.func f) [].toArray [].toArray
def fnC (f : FuncId) (ca : List Value) : Value := .func (.func f) [].toArray ca.toArray
structure WriterAt (w : World) (Bw Bp : Nat) : Prop where
  tab : Blk w Bw [.nilFunc, fnV 61, fnV 64, fnC 65 [.pointer (some ⟨Bp, 0, none⟩)]] 87
  ptr : Blk w Bp [.pointer (some ⟨Bw, 0, none⟩)] 71
theorem WriterAt.ext {S : Nat → Prop} {w w' : World} {Bw Bp : Nat} (h : WriterAt w Bw Bp) (e : ExtB S w w') (h1 : ¬ S Bw) (h2 : ¬ S Bp) : WriterAt w' Bw Bp := ⟨h.tab.ext e h1, h.ptr.ext e h2⟩

theorem newWriter_ok (w : World) : Rets Tryd.prog 48 [] w fun v w' => ∃ Bw Bp, v = .pointer (some ⟨Bw, 0, none⟩) ∧ WriterAt w' Bw Bp ∧ Ext w w' := by
  refine RetsX.of (nt := 18) Tryd.func48 (by kernel_rfl) rfl rfl (by simp) (by simp only [argEnv]; rfl) ?_
  repeat (first | refine RunL.pureI Tryd.tOk rfl rfl rfl (by (first | exact wr_i64 (by omega) (by omega) | exact wm_i64 (by omega) | exact wq_i64 (by omega) (by omega) (by omega) | rfl)) ?_ | refine RunL.pure Tryd.tOk rfl rfl rfl ?_ | refine RunL.unwantedD rfl rfl ?_ | refine RunE.seq ?_ | refine RunE.region ?_ | refine RunL.nil ?_ | refine RunE.block ?_ | refine RunE.inBlock ?_ | refine RunE.skip ?_ | refine RunE.exit rfl ?_ | refine RunE.scope ?_ | refine RunE.inScope ?_ | refine RunE.label ?_)
  refine RunL.box rfl rfl rfl fun Bw w1 a1 => ?_
  refine RunL.alloc Tryd.tOk rfl rfl rfl fun Bp w2 a2 => ?_
  refine RunL.store Tryd.tOk rfl rfl rfl rfl rfl (cs := [.pointer none]) a2.at_ rfl rfl fun w3 t3 => ?_
  have hBw := a1.eq
  have hBp := a2.eq
  have z1 := a1.size
  have X3 : Ext w w3 := (a1.ext.trans a2.ext).write t3.ext (by intro i hi hlt; subst hi; omega)
  have P3 : Blk w3 Bp [.pointer (some ⟨Bw, 0, none⟩)] 71 := t3.at_
  have T3 : Blk w3 Bw [.nilFunc, .nilFunc, .nilFunc, .nilFunc] 87 := Blk.ext (Blk.ext (w := w1) (cs := [.nilFunc, .nilFunc, .nilFunc, .nilFunc]) a1.at_ a2.ext id) t3.ext (by omega)
  clear a1 a2 t3
  repeat (first | refine RunL.pureI Tryd.tOk rfl rfl rfl (by (first | exact wr_i64 (by omega) (by omega) | exact wm_i64 (by omega) | exact wq_i64 (by omega) (by omega) (by omega) | rfl)) ?_ | refine RunL.pure Tryd.tOk rfl rfl rfl ?_ | refine RunL.unwantedD rfl rfl ?_ | refine RunL.val rfl rfl rfl (OpV.indexAK Tryd.tOk rfl rfl rfl rfl) ?_ | refine RunL.val rfl rfl rfl (OpV.indexSK Tryd.tOk rfl rfl rfl rfl) ?_ | refine RunL.val rfl rfl rfl (OpV.load1 Tryd.tOk rfl rfl rfl (Blk.cell P3 rfl)) ?_ | refine RunE.seq ?_ | refine RunE.region ?_ | refine RunL.nil ?_ | refine RunE.block ?_ | refine RunE.inBlock ?_ | refine RunE.skip ?_ | refine RunE.exit rfl ?_ | refine RunE.scope ?_ | refine RunE.inScope ?_ | refine RunE.label ?_)
  refine RunL.store Tryd.tOk rfl rfl rfl rfl rfl T3 rfl rfl fun w4 t4 => ?_
  have X4 : Ext w w4 := X3.write t4.ext (by intro i hi hlt; subst hi; omega)
  have P4 := P3.ext t4.ext (by omega)
  have T4 := t4.at_
  clear T3 P3 X3 t4
  repeat (first | refine RunL.pureI Tryd.tOk rfl rfl rfl (by (first | exact wr_i64 (by omega) (by omega) | exact wm_i64 (by omega) | exact wq_i64 (by omega) (by omega) (by omega) | rfl)) ?_ | refine RunL.pure Tryd.tOk rfl rfl rfl ?_ | refine RunL.unwantedD rfl rfl ?_ | refine RunL.val rfl rfl rfl (OpV.indexAK Tryd.tOk rfl rfl rfl rfl) ?_ | refine RunL.val rfl rfl rfl (OpV.indexSK Tryd.tOk rfl rfl rfl rfl) ?_ | refine RunL.val rfl rfl rfl (OpV.load1 Tryd.tOk rfl rfl rfl (Blk.cell P4 rfl)) ?_ | refine RunE.seq ?_ | refine RunE.region ?_ | refine RunL.nil ?_ | refine RunE.block ?_ | refine RunE.inBlock ?_ | refine RunE.skip ?_ | refine RunE.exit rfl ?_ | refine RunE.scope ?_ | refine RunE.inScope ?_ | refine RunE.label ?_)
  refine RunL.store Tryd.tOk rfl rfl rfl rfl rfl T4 rfl rfl fun w5 t5 => ?_
  have X5 : Ext w w5 := X4.write t5.ext (by intro i hi hlt; subst hi; omega)
  have P5 := P4.ext t5.ext (by omega)
  have T5 := t5.at_
  clear T4 P4 X4 t5
  repeat (first | refine RunL.pureI Tryd.tOk rfl rfl rfl (by (first | exact wr_i64 (by omega) (by omega) | exact wm_i64 (by omega) | exact wq_i64 (by omega) (by omega) (by omega) | rfl)) ?_ | refine RunL.pure Tryd.tOk rfl rfl rfl ?_ | refine RunL.unwantedD rfl rfl ?_ | refine RunL.val rfl rfl rfl (OpV.indexAK Tryd.tOk rfl rfl rfl rfl) ?_ | refine RunL.val rfl rfl rfl (OpV.indexSK Tryd.tOk rfl rfl rfl rfl) ?_ | refine RunL.val rfl rfl rfl (OpV.load1 Tryd.tOk rfl rfl rfl (Blk.cell P5 rfl)) ?_ | refine RunE.seq ?_ | refine RunE.region ?_ | refine RunL.nil ?_ | refine RunE.block ?_ | refine RunE.inBlock ?_ | refine RunE.skip ?_ | refine RunE.exit rfl ?_ | refine RunE.scope ?_ | refine RunE.inScope ?_ | refine RunE.label ?_)
  refine RunL.store Tryd.tOk rfl rfl rfl rfl rfl T5 rfl rfl fun w6 t6 => ?_
  have X6 : Ext w w6 := X5.write t6.ext (by intro i hi hlt; subst hi; omega)
  have P6 := P5.ext t6.ext (by omega)
  have T6 := t6.at_
  clear T5 P5 X5 t6
  repeat (first | refine RunL.pureI Tryd.tOk rfl rfl rfl (by (first | exact wr_i64 (by omega) (by omega) | exact wm_i64 (by omega) | exact wq_i64 (by omega) (by omega) (by omega) | rfl)) ?_ | refine RunL.pure Tryd.tOk rfl rfl rfl ?_ | refine RunL.unwantedD rfl rfl ?_ | refine RunL.val rfl rfl rfl (OpV.indexAK Tryd.tOk rfl rfl rfl rfl) ?_ | refine RunL.val rfl rfl rfl (OpV.indexSK Tryd.tOk rfl rfl rfl rfl) ?_ | refine RunL.val rfl rfl rfl (OpV.load1 Tryd.tOk rfl rfl rfl (Blk.cell P6 rfl)) ?_ | refine RunE.seq ?_ | refine RunE.region ?_ | refine RunL.nil ?_ | refine RunE.block ?_ | refine RunE.inBlock ?_ | refine RunE.skip ?_ | refine RunE.exit rfl ?_ | refine RunE.scope ?_ | refine RunE.inScope ?_ | refine RunE.label ?_)
  exact RunE.retFn Tryd.func48 (.tmp rfl .nil) ⟨Bw, Bp, rfl, ⟨T6, P6⟩, X6⟩

/-- What a writer of a value promises. -/
def Writes (c : CV) (Bw Bp : Nat) (f : Value) : Prop := ∀ (cs : List Value) (w0 w : World) (v : Value) (pre : List UInt8), c.In w0 cs → WriterAt w0 Bw Bp → Ext w0 w → w.ownsRow w0.heap.size 5 1 v pre.length (bytesV pre) →
  pre.length + c.enc.length ≤ 1000000000 → FnV Tryd.prog f [v, .agg cs.toArray] w (fun r w' => w'.ownsRow w0.heap.size 5 1 r (pre ++ c.enc).length (bytesV (pre ++ c.enc)) ∧ Ext w0 w') fun _ _ => False

theorem write_int (n : Int) (Bw Bp : Nat) : Writes (.int n) Bw Bp (fnV 61) := by
  intro cs w0 w v pre h _ X O hlen
  simp only [CV.In] at h
  obtain ⟨hn, d, rfl⟩ := h
  simp only [CV.enc] at hlen
  refine Rets.v (fi := []) (all := [v, .agg #[.int .i64 1, .int .i64 n, .string ⟨#[]⟩, .slice d 0 0]]) ?_ rfl
  refine RetsX.of (nt := 12) Tryd.func61 (by kernel_rfl) rfl rfl (by simp) (by simp only [argEnv]; rfl) ?_
  repeat (first | refine RunL.pureI Tryd.tOk rfl rfl rfl (by (first | exact wr_i64 (by omega) (by omega) | exact wm_i64 (by omega) | exact wq_i64 (by omega) (by omega) (by omega) | rfl)) ?_ | refine RunL.pure Tryd.tOk rfl rfl rfl ?_ | refine RunL.unwantedD rfl rfl ?_ | refine RunE.seq ?_ | refine RunE.region ?_ | refine RunL.nil ?_ | refine RunE.block ?_ | refine RunE.inBlock ?_ | refine RunE.skip ?_ | refine RunE.exit rfl ?_ | refine RunE.scope ?_ | refine RunE.inScope ?_ | refine RunE.label ?_)
  refine RunL.box rfl rfl rfl fun B3 w1 a1 => ?_
  have Z1 : Blk w1 B3 [.int .i64 1, .int .i64 n, .string ⟨#[]⟩, .slice d 0 0] 48 := a1.at_
  have hB3 := a1.eq
  have z0 := X.size
  have z1 := a1.size
  have X1 := X.trans a1.ext
  have O1 := ownsRow_ext O a1.ext (fun _ _ h => h)
  have hob : ∀ k, v.ownBlock = some k → k < w.heap.size := fun k hk => (O.lt k hk).2
  clear a1
  repeat (first | refine RunL.pureI Tryd.tOk rfl rfl rfl (by (first | exact wr_i64 (by omega) (by omega) | exact wm_i64 (by omega) | exact wq_i64 (by omega) (by omega) (by omega) | rfl)) ?_ | refine RunL.pure Tryd.tOk rfl rfl rfl ?_ | refine RunL.unwantedD rfl rfl ?_ | refine RunE.seq ?_ | refine RunE.region ?_ | refine RunL.nil ?_ | refine RunE.block ?_ | refine RunE.inBlock ?_ | refine RunE.skip ?_ | refine RunE.exit rfl ?_ | refine RunE.scope ?_ | refine RunE.inScope ?_ | refine RunE.label ?_)
  refine RunE.draw (fun k => v.ownBlock = some k) mix ?_
  intro w2 X2
  have O2 := ownsRow_ext O1 X2 (fun _ _ h => h)
  have Z2 := Z1.ext X2 id
  repeat (first | refine Asy.pureI Tryd.tOk rfl rfl rfl (by (first | exact wr_i64 (by omega) (by omega) | exact wm_i64 (by omega) | exact wq_i64 (by omega) (by omega) (by omega) | rfl)) ?_ | refine Asy.pure Tryd.tOk rfl rfl rfl ?_ | refine Asy.unwantedD rfl rfl rfl ?_)
  refine Asy.pre0 (fun u w' => ∃ B, u = .slice (some ⟨B, 0, none⟩) 1 1 ∧ Blk w' B (bytesV [1]) 5) rfl rfl rfl rfl (fun u w' w'' _ e h => ?_) (fun w' _ => ?_) ?_
  · obtain ⟨B, h1, h2⟩ := h; exact ⟨B, h1, h2.ext e id⟩
  · refine OpE.mono (OpE.buildSl Tryd.tOk [.int .u8 1] rfl rfl rfl rfl rfl rfl (by simp [Value.cells])) ?_ fun _ _ h => h
    rintro _ w'' ⟨B, rfl, a⟩; exact ⟨a.ext, B, rfl, a.at_⟩
  refine Asy.wriP 0 (fun u w' => w'.ownsRow w0.heap.size 5 1 u (pre.length + 1) (bytesV pre ++ bytesV [1]) ∧ ∀ k, u.ownBlock = some k → k < w2.heap.size → v.ownBlock = some k) rfl rfl rfl rfl rfl rfl (fun u w' w'' _ e h => ⟨ownsRow_ext h.1 e (fun _ _ h => h), h.2⟩) (fun w' x e hx => ?_) ?_
  · obtain ⟨B, rfl, hB⟩ := hx
    have hz := X1.size
    have hz2 := X2.size
    have hz3 := e.size
    refine OpE.mono (OpE.append' Tryd.tOk rfl rfl rfl rfl rfl rfl (ownsRow_ext O2 e (fun _ _ h => h)) (.row hB.row rfl (Nat.le_refl 1)) rfl (by show _ * 1 ≤ _; omega) (by omega) (by omega)) ?_ fun _ _ h => h
    rintro u w'' ⟨h1, h2, h3⟩
    exact ⟨h2, h1, fun k hk hlt => h3 k hk (by omega)⟩
  repeat (first | refine Asy.pureI Tryd.tOk rfl rfl rfl (by (first | exact wr_i64 (by omega) (by omega) | exact wm_i64 (by omega) | exact wq_i64 (by omega) (by omega) (by omega) | rfl)) ?_ | refine Asy.pure Tryd.tOk rfl rfl rfl ?_ | refine Asy.unwantedD rfl rfl rfl ?_)
  refine Asy.v rfl rfl rfl rfl (fun w' X' => OpV.load1 Tryd.tOk rfl rfl rfl (Blk.cell (Z2.ext X' (by intro hh; have := hob _ hh; omega)) rfl)) ?_
  refine Asy.val rfl rfl rfl rfl (fun _ _ => OpE.keep (OpE.call rfl (unsigned_ok n hn _))) ?_
  refine Asy.tailW (by kernel_rfl) ?_
  rintro w3 x E3 ⟨O3, N3⟩
  simp only [satsAll]
  have hl1 : (bytesV pre ++ bytesV [1]) = bytesV (pre ++ [1]) := by rw [bytesV_append]
  rw [hl1] at O3
  have hz := X1.size
  have hz2 := X2.size
  have hz3 := E3.size
  have Y3 : Ext w0 w3 := (X1.trans X2).write E3 (by intro i hi hlt; have := ownsRow_ge O hi; omega)
  refine RunL.call rfl rfl rfl (numeral_ok x (pre ++ [1]) (zig n) w0.heap.size w3 (by simpa using O3) (zig_lt n hn) (by simp; omega) (by omega)) ?_
  rintro r w4 ⟨O4, E4⟩
  have Y4 : Ext w0 w4 := Y3.write E4 (by intro i hi hlt; have := ownsRow_ge O3 hi; omega)
  repeat (first | refine RunL.pureI Tryd.tOk rfl rfl rfl (by (first | exact wr_i64 (by omega) (by omega) | exact wm_i64 (by omega) | exact wq_i64 (by omega) (by omega) (by omega) | rfl)) ?_ | refine RunL.pure Tryd.tOk rfl rfl rfl ?_ | refine RunL.unwantedD rfl rfl ?_ | refine RunE.seq ?_ | refine RunE.region ?_ | refine RunL.nil ?_ | refine RunE.block ?_ | refine RunE.inBlock ?_ | refine RunE.skip ?_ | refine RunE.exit rfl ?_ | refine RunE.scope ?_ | refine RunE.inScope ?_ | refine RunE.label ?_)
  refine RunE.retFn Tryd.func61 (.tmp rfl .nil) ⟨?_, Y4⟩
  simp only [CV.enc, oneOr]
  simpa using O4

theorem write_text (t : List UInt8) (Bw Bp : Nat) : Writes (.text t) Bw Bp (fnV 64) := by
  intro cs w0 w v pre h _ X O hlen
  simp only [CV.In] at h
  obtain ⟨hn, d, rfl⟩ := h
  simp only [CV.enc] at hlen
  have hst : (strOf t).data.toList = t := by simp [strOf]
  have hsz : (strOf t).size = t.length := rfl
  refine Rets.v (fi := []) (all := [v, .agg #[.int .i64 2, .int .i64 0, .string (strOf t), .slice d 0 0]]) ?_ rfl
  refine RetsX.of (nt := 16) Tryd.func64 (by kernel_rfl) rfl rfl (by simp) (by simp only [argEnv]; rfl) ?_
  repeat (first | refine RunL.pureI Tryd.tOk rfl rfl rfl (by (first | exact wr_i64 (by omega) (by omega) | exact wm_i64 (by omega) | exact wq_i64 (by omega) (by omega) (by omega) | rfl)) ?_ | refine RunL.pure Tryd.tOk rfl rfl rfl ?_ | refine RunL.unwantedD rfl rfl ?_ | refine RunE.seq ?_ | refine RunE.region ?_ | refine RunL.nil ?_ | refine RunE.block ?_ | refine RunE.inBlock ?_ | refine RunE.skip ?_ | refine RunE.exit rfl ?_ | refine RunE.scope ?_ | refine RunE.inScope ?_ | refine RunE.label ?_)
  refine RunL.box rfl rfl rfl fun B3 w1 a1 => ?_
  have Z1 : Blk w1 B3 [.int .i64 2, .int .i64 0, .string (strOf t), .slice d 0 0] 48 := a1.at_
  have hB3 := a1.eq
  have z0 := X.size
  have z1 := a1.size
  have X1 := X.trans a1.ext
  have O1 := ownsRow_ext O a1.ext (fun _ _ h => h)
  have hob : ∀ k, v.ownBlock = some k → k < w.heap.size := fun k hk => (O.lt k hk).2
  clear a1
  repeat (first | refine RunL.pureI Tryd.tOk rfl rfl rfl (by (first | exact wr_i64 (by omega) (by omega) | exact wm_i64 (by omega) | exact wq_i64 (by omega) (by omega) (by omega) | rfl)) ?_ | refine RunL.pure Tryd.tOk rfl rfl rfl ?_ | refine RunL.unwantedD rfl rfl ?_ | refine RunE.seq ?_ | refine RunE.region ?_ | refine RunL.nil ?_ | refine RunE.block ?_ | refine RunE.inBlock ?_ | refine RunE.skip ?_ | refine RunE.exit rfl ?_ | refine RunE.scope ?_ | refine RunE.inScope ?_ | refine RunE.label ?_)
  refine RunE.draw (fun k => v.ownBlock = some k ∨ w1.heap.size ≤ k) mix ?_
  intro w2 X2
  have hz2 := X2.size
  have O2 := ownsRow_ext O1 X2 (fun _ _ h => h)
  have Z2 := Z1.ext X2 id
  have hS3 : ¬ (v.ownBlock = some B3 ∨ w1.heap.size ≤ B3) := by
    rintro (h | h)
    · have := hob _ h; omega
    · omega
  repeat (first | refine Asy.pureI Tryd.tOk rfl rfl rfl (by (first | exact wr_i64 (by omega) (by omega) | exact wm_i64 (by omega) | exact wq_i64 (by omega) (by omega) (by omega) | rfl)) ?_ | refine Asy.pure Tryd.tOk rfl rfl rfl ?_ | refine Asy.unwantedD rfl rfl rfl ?_)
  refine Asy.pre0 (fun u w' => ∃ B, u = .slice (some ⟨B, 0, none⟩) 1 1 ∧ Blk w' B (bytesV [2]) 5) rfl rfl rfl rfl (fun u w' w'' _ e h => ?_) (fun w' _ => ?_) ?_
  · obtain ⟨B, h1, h2⟩ := h; exact ⟨B, h1, h2.ext e id⟩
  · refine OpE.mono (OpE.buildSl Tryd.tOk [.int .u8 2] rfl rfl rfl rfl rfl rfl (by simp [Value.cells])) ?_ fun _ _ h => h
    rintro _ w'' ⟨B, rfl, a⟩; exact ⟨a.ext, B, rfl, a.at_⟩
  refine Asy.wriP 0 (fun u w' => w'.ownsRow w0.heap.size 5 1 u (pre ++ [2]).length (bytesV (pre ++ [2])) ∧ ∀ k, u.ownBlock = some k → v.ownBlock = some k ∨ w1.heap.size ≤ k) rfl rfl rfl rfl rfl rfl (fun u w' w'' _ e h => ⟨ownsRow_ext h.1 e (fun _ _ h => h), h.2⟩) (fun w' x e hx => ?_) ?_
  · obtain ⟨B, rfl, hB⟩ := hx
    have hz := X1.size
    have hz3 := e.size
    refine OpE.mono (OpE.append' Tryd.tOk rfl rfl rfl rfl rfl rfl (ownsRow_ext O2 e (fun _ _ h => h)) (.row hB.row rfl (Nat.le_refl 1)) rfl (by show _ * 1 ≤ _; omega) (by omega) (by omega)) ?_ fun _ _ h => h
    rintro u w'' ⟨h1, h2, h3⟩
    refine ⟨h2.mono fun k _ hk => .inl hk, ?_, fun k hk => ?_⟩
    · rw [List.length_append, bytesV_append]; exact h1
    · by_cases hlt : k < w'.heap.size
      · exact .inl (h3 k hk hlt)
      · exact .inr (by omega)
  repeat (first | refine Asy.pureI Tryd.tOk rfl rfl rfl (by (first | exact wr_i64 (by omega) (by omega) | exact wm_i64 (by omega) | exact wq_i64 (by omega) (by omega) (by omega) | rfl)) ?_ | refine Asy.pure Tryd.tOk rfl rfl rfl ?_ | refine Asy.unwantedD rfl rfl rfl ?_)
  refine Asy.v rfl rfl rfl rfl (fun w' X' => OpV.load1 Tryd.tOk rfl rfl rfl (Blk.cell (Z2.ext X' hS3) rfl)) ?_
  repeat (first | refine Asy.pureI Tryd.tOk rfl rfl rfl (by (first | exact u64_nat _ (by omega) | exact wr_i64 (by omega) (by omega) | exact wm_i64 (by omega) | exact wq_i64 (by omega) (by omega) (by omega) | rfl)) ?_ | refine Asy.pure Tryd.tOk rfl rfl rfl ?_ | refine Asy.unwantedD rfl rfl rfl ?_ | refine Asy.v rfl rfl rfl rfl (fun _ X_ => OpV.indexAK Tryd.tOk rfl rfl rfl rfl) ?_ | refine Asy.v rfl rfl rfl rfl (fun _ X_ => OpV.indexSK Tryd.tOk rfl rfl rfl rfl) ?_)
  refine Asy.wri1 (fun u w' => w'.ownsRow w0.heap.size 5 1 u ((pre ++ [2]) ++ num (strOf t).size).length (bytesV ((pre ++ [2]) ++ num (strOf t).size))) rfl rfl rfl rfl rfl (fun u w' w'' _ e h => ownsRow_ext h e (fun _ _ h => h)) (fun w' x e hx => ?_) ?_
  · obtain ⟨O3, N3⟩ := hx
    have hz := X1.size
    have hz3 := e.size
    refine OpE.mono (OpE.call rfl (numeral_ok x (pre ++ [2]) (strOf t).size w0.heap.size w' O3 (by omega) (by simp; omega) (by omega))) ?_ fun _ _ h => h
    rintro u w'' ⟨h1, h2⟩
    exact ⟨h2.mono fun k _ hk => N3 k hk, h1⟩
  repeat (first | refine Asy.pureI Tryd.tOk rfl rfl rfl (by (first | exact wr_i64 (by omega) (by omega) | exact wm_i64 (by omega) | exact wq_i64 (by omega) (by omega) (by omega) | rfl)) ?_ | refine Asy.pure Tryd.tOk rfl rfl rfl ?_ | refine Asy.unwantedD rfl rfl rfl ?_)
  refine Asy.v rfl rfl rfl rfl (fun w' X' => OpV.load1 Tryd.tOk rfl rfl rfl (Blk.cell (Z2.ext X' hS3) rfl)) ?_
  refine Asy.tailW (by kernel_rfl) ?_
  rintro w3 x E3 O3
  simp only [satsAll]
  have hz := X1.size
  have hz3 := E3.size
  have Y3 : Ext w0 w3 := (X1.trans X2).write E3 (by
    rintro i (hi | hi) hlt
    · have := ownsRow_ge O hi; omega
    · omega)
  have hnl := num_le (strOf t).size (by omega)
  refine RunL.ex rfl rfl rfl (OpE.appendStr Tryd.tOk (by kernel_rfl) rfl rfl rfl rfl rfl O3 (by simp; omega) (by omega)) ?_
  rintro r w4 ⟨O4, E4⟩
  have Y4 : Ext w0 w4 := Y3.write E4 (by intro i hi hlt; have := ownsRow_ge O3 hi; omega)
  repeat (first | refine RunL.pureI Tryd.tOk rfl rfl rfl (by (first | exact wr_i64 (by omega) (by omega) | exact wm_i64 (by omega) | exact wq_i64 (by omega) (by omega) (by omega) | rfl)) ?_ | refine RunL.pure Tryd.tOk rfl rfl rfl ?_ | refine RunL.unwantedD rfl rfl ?_ | refine RunE.seq ?_ | refine RunE.region ?_ | refine RunL.nil ?_ | refine RunE.block ?_ | refine RunE.inBlock ?_ | refine RunE.skip ?_ | refine RunE.exit rfl ?_ | refine RunE.scope ?_ | refine RunE.inScope ?_ | refine RunE.label ?_)
  refine RunE.retFn Tryd.func64 (.tmp rfl .nil) ⟨?_, Y4⟩
  simp only [CV.enc, oneOr]
  rw [← bytesV_append, hst, hsz] at O4
  have e : pre ++ [2] ++ num t.length ++ t = pre ++ 2 :: (num t.length ++ t) := by simp
  have e2 : (pre ++ [2] ++ num t.length).length + t.length = (pre ++ [2] ++ num t.length ++ t).length := by simp only [List.length_append]
  rw [e2, e] at O4
  exact O4

def kind : CV → Nat
  | .int _ => 1
  | .text _ => 2
  | .list _ => 3
def writerFn (Bp : Nat) : CV → Value
  | .int _ => fnV 61
  | .text _ => fnV 64
  | .list _ => fnC 65 [.pointer (some ⟨Bp, 0, none⟩)]
theorem kind_lt (c : CV) : kind c < 4 := by cases c <;> simp [kind]
theorem kind_cell {w : World} {c : CV} {r : List Value} (h : c.In w r) : r[0]? = some (.int .i64 (kind c : Int)) := by
  cases c <;> simp only [CV.In] at h
  · obtain ⟨_, _, rfl⟩ := h; rfl
  · obtain ⟨_, _, rfl⟩ := h; rfl
  · obtain ⟨_, _, _, rfl, _⟩ := h; rfl
theorem kind_fn (c : CV) (Bp : Nat) : [.nilFunc, fnV 61, fnV 64, fnC 65 [.pointer (some ⟨Bp, 0, none⟩)]][kind c]? = some (writerFn Bp c) := by cases c <;> rfl

set_option maxHeartbeats 1000000 in
theorem write_list (l : List CV) (Bw Bp : Nat) (ih : ∀ c ∈ l, Writes c Bw Bp (writerFn Bp c)) : Writes (.list l) Bw Bp (fnC 65 [.pointer (some ⟨Bp, 0, none⟩)]) := by
  intro cs w0 w v pre h W0 X O hlen
  simp only [CV.In] at h
  obtain ⟨hn, sv, rows, rfl, hsl, hin⟩ := h
  obtain ⟨hrl, hget⟩ := hin.get
  simp only [CV.enc, List.length_cons, List.length_append] at hlen
  refine RetsX.v (fi := []) (args := [v, .agg #[.int .i64 3, .int .i64 0, .string ⟨#[]⟩, sv]]) (ca := [.pointer (some ⟨Bp, 0, none⟩)]) ?_
  show RetsX Tryd.prog 65 [v, .agg #[.int .i64 3, .int .i64 0, .string ⟨#[]⟩, sv], .pointer (some ⟨Bp, 0, none⟩)] w _ _
  refine RetsX.of (nt := 35) Tryd.func65 (by kernel_rfl) rfl rfl (by simp) (by simp only [argEnv]; rfl) ?_
  repeat (first | refine RunL.pureI Tryd.tOk rfl rfl rfl (by (first | exact wr_i64 (by omega) (by omega) | exact wm_i64 (by omega) | exact wq_i64 (by omega) (by omega) (by omega) | rfl)) ?_ | refine RunL.pure Tryd.tOk rfl rfl rfl ?_ | refine RunL.unwantedD rfl rfl ?_ | refine RunE.seq ?_ | refine RunE.region ?_ | refine RunL.nil ?_ | refine RunE.block ?_ | refine RunE.inBlock ?_ | refine RunE.skip ?_ | refine RunE.exit rfl ?_ | refine RunE.scope ?_ | refine RunE.inScope ?_ | refine RunE.label ?_)
  refine RunL.box rfl rfl rfl fun B4 w1 a1 => ?_
  have Z1 : Blk w1 B4 [.int .i64 3, .int .i64 0, .string ⟨#[]⟩, sv] 48 := a1.at_
  have hB4 := a1.eq
  have z0 := X.size
  have z1 := a1.size
  have X1 := X.trans a1.ext
  have O1 := ownsRow_ext O a1.ext (fun _ _ h => h)
  have hob : ∀ k, v.ownBlock = some k → k < w.heap.size := fun k hk => (O.lt k hk).2
  clear a1
  repeat (first | refine RunL.pureI Tryd.tOk rfl rfl rfl (by (first | exact wr_i64 (by omega) (by omega) | exact wm_i64 (by omega) | exact wq_i64 (by omega) (by omega) (by omega) | rfl)) ?_ | refine RunL.pure Tryd.tOk rfl rfl rfl ?_ | refine RunL.unwantedD rfl rfl ?_ | refine RunE.seq ?_ | refine RunE.region ?_ | refine RunL.nil ?_ | refine RunE.block ?_ | refine RunE.inBlock ?_ | refine RunE.skip ?_ | refine RunE.exit rfl ?_ | refine RunE.scope ?_ | refine RunE.inScope ?_ | refine RunE.label ?_)
  refine RunE.draw (fun k => v.ownBlock = some k) mix ?_
  intro w2 X2
  have O2 := ownsRow_ext O1 X2 (fun _ _ h => h)
  have Z2 := Z1.ext X2 id
  have hz2 := X2.size
  repeat (first | refine Asy.pureI Tryd.tOk rfl rfl rfl (by (first | exact wr_i64 (by omega) (by omega) | exact wm_i64 (by omega) | exact wq_i64 (by omega) (by omega) (by omega) | rfl)) ?_ | refine Asy.pure Tryd.tOk rfl rfl rfl ?_ | refine Asy.unwantedD rfl rfl rfl ?_)
  refine Asy.pre0 (fun u w' => ∃ B, u = .slice (some ⟨B, 0, none⟩) 1 1 ∧ Blk w' B (bytesV [3]) 5) rfl rfl rfl rfl (fun u w' w'' _ e h => ?_) (fun w' _ => ?_) ?_
  · obtain ⟨B, h1, h2⟩ := h; exact ⟨B, h1, h2.ext e id⟩
  · refine OpE.mono (OpE.buildSl Tryd.tOk [.int .u8 3] rfl rfl rfl rfl rfl rfl (by simp [Value.cells])) ?_ fun _ _ h => h
    rintro _ w'' ⟨B, rfl, a⟩; exact ⟨a.ext, B, rfl, a.at_⟩
  refine Asy.wriP 0 (fun u w' => w'.ownsRow w0.heap.size 5 1 u (pre ++ [3]).length (bytesV (pre ++ [3])) ∧ ∀ k, u.ownBlock = some k → v.ownBlock = some k ∨ w1.heap.size ≤ k) rfl rfl rfl rfl rfl rfl (fun u w' w'' _ e h => ⟨ownsRow_ext h.1 e (fun _ _ h => h), h.2⟩) (fun w' x e hx => ?_) ?_
  · obtain ⟨B, rfl, hB⟩ := hx
    have hz := X1.size
    have hz3 := e.size
    refine OpE.mono (OpE.append' Tryd.tOk rfl rfl rfl rfl rfl rfl (ownsRow_ext O2 e (fun _ _ h => h)) (.row hB.row rfl (Nat.le_refl 1)) rfl (by show _ * 1 ≤ _; omega) (by omega) (by omega)) ?_ fun _ _ h => h
    rintro u w'' ⟨h1, h2, h3⟩
    refine ⟨h2, ?_, fun k hk => ?_⟩
    · rw [List.length_append, bytesV_append]; exact h1
    · by_cases hlt : k < w'.heap.size
      · exact .inl (h3 k hk hlt)
      · exact .inr (by omega)
  repeat (first | refine Asy.pureI Tryd.tOk rfl rfl rfl (by (first | exact wr_i64 (by omega) (by omega) | exact wm_i64 (by omega) | exact wq_i64 (by omega) (by omega) (by omega) | rfl)) ?_ | refine Asy.pure Tryd.tOk rfl rfl rfl ?_ | refine Asy.unwantedD rfl rfl rfl ?_)
  refine Asy.v rfl rfl rfl rfl (fun w' X' => OpV.load1 Tryd.tOk rfl rfl rfl (Blk.cell (Z2.ext X' (by intro hh; have := hob _ hh; omega)) rfl)) ?_
  refine Asy.v rfl rfl rfl rfl (fun w' X' => OpV.lenSl Tryd.tOk rfl rfl hsl) ?_
  repeat (first | refine Asy.pureI Tryd.tOk rfl rfl rfl (by (first | exact u64_nat _ (by omega) | exact wr_i64 (by omega) (by omega) | exact wm_i64 (by omega) | exact wq_i64 (by omega) (by omega) (by omega) | rfl)) ?_ | refine Asy.pure Tryd.tOk rfl rfl rfl ?_ | refine Asy.unwantedD rfl rfl rfl ?_ | refine Asy.v rfl rfl rfl rfl (fun _ X_ => OpV.indexAK Tryd.tOk rfl rfl rfl rfl) ?_ | refine Asy.v rfl rfl rfl rfl (fun _ X_ => OpV.indexSK Tryd.tOk rfl rfl rfl rfl) ?_)
  refine Asy.tailW (by kernel_rfl) ?_
  rintro w3 x E3 ⟨O3, N3⟩
  simp only [satsAll]
  have hz := X1.size
  have hz3 := E3.size
  have Y3 : Ext w0 w3 := (X1.trans X2).write E3 (by intro i hi hlt; have := ownsRow_ge O hi; omega)
  have Z3 := Z2.ext E3 (by intro hh; have := hob _ hh; omega)
  refine RunL.call rfl rfl rfl (numeral_ok x (pre ++ [3]) l.length w0.heap.size w3 O3 (by omega) (by simp; omega) (by omega)) ?_
  rintro r w4 ⟨O4, E4⟩
  have Y4 : Ext w0 w4 := Y3.write E4 (by intro i hi hlt; have := ownsRow_ge O3 hi; omega)
  have Z4 := Z3.ext E4 (by
    intro hh
    rcases N3 _ hh with h | h
    · have := hob _ h; omega
    · omega)
  repeat (first | refine RunL.pureI Tryd.tOk rfl rfl rfl (by (first | exact wr_i64 (by omega) (by omega) | exact wm_i64 (by omega) | exact wq_i64 (by omega) (by omega) (by omega) | rfl)) ?_ | refine RunL.pure Tryd.tOk rfl rfl rfl ?_ | refine RunL.unwantedD rfl rfl ?_ | refine RunL.val rfl rfl rfl (OpV.indexAK Tryd.tOk rfl rfl rfl rfl) ?_ | refine RunL.val rfl rfl rfl (OpV.indexSK Tryd.tOk rfl rfl rfl rfl) ?_ | refine RunL.val rfl rfl rfl (OpV.load1 Tryd.tOk rfl rfl rfl (Blk.cell Z4 rfl)) ?_ | refine RunE.seq ?_ | refine RunE.region ?_ | refine RunL.nil ?_ | refine RunE.block ?_ | refine RunE.inBlock ?_ | refine RunE.skip ?_ | refine RunE.exit rfl ?_ | refine RunE.scope ?_ | refine RunE.inScope ?_ | refine RunE.label ?_)
  refine RunL.val rfl rfl rfl (OpV.lenSl Tryd.tOk rfl rfl hsl) ?_
  repeat (first | refine RunL.pureI Tryd.tOk rfl rfl rfl (by (first | exact wr_i64 (by omega) (by omega) | exact wm_i64 (by omega) | exact wq_i64 (by omega) (by omega) (by omega) | rfl)) ?_ | refine RunL.pure Tryd.tOk rfl rfl rfl ?_ | refine RunL.unwantedD rfl rfl ?_ | refine RunE.seq ?_ | refine RunE.region ?_ | refine RunL.nil ?_ | refine RunE.block ?_ | refine RunE.inBlock ?_ | refine RunE.skip ?_ | refine RunE.exit rfl ?_ | refine RunE.scope ?_ | refine RunE.inScope ?_ | refine RunE.label ?_)
  have O4' : w4.ownsRow w0.heap.size 5 1 r (pre ++ 3 :: (num l.length ++ encs (l.take 0))).length (bytesV (pre ++ 3 :: (num l.length ++ encs (l.take 0)))) := by simpa [encs] using O4
  refine RunE.loop (ι := Nat × Value) (fun x => [(0, x.2), (2, .pointer (some ⟨Bp, 0, none⟩)), (17, sv), (18, .int .i64 (l.length : Int)), (19, .int .i64 (x.1 : Int))])
    (fun x w' => x.1 ≤ l.length ∧ Ext w0 w' ∧ w'.ownsRow w0.heap.size 5 1 x.2 (pre ++ 3 :: (num l.length ++ encs (l.take x.1))).length (bytesV (pre ++ 3 :: (num l.length ++ encs (l.take x.1))))) (fun x => l.length - x.1) (0, r) (by repeat (first | exact Sub.nil _ | refine Sub.cons rfl ?_)) ⟨by simp, Y4, O4'⟩ ?_
  clear O4 O4' Y4 Z4 E4 Y3 Z3 O3 E3 N3
  rintro ⟨i, u⟩ w5 ⟨hi, X5, O5⟩ again
  simp only at hi O5 again ⊢
  repeat (first | refine RunL.pureI Tryd.tOk rfl rfl rfl (by (first | exact wr_i64 (by omega) (by omega) | exact wm_i64 (by omega) | exact wq_i64 (by omega) (by omega) (by omega) | rfl)) ?_ | refine RunL.pure Tryd.tOk rfl rfl rfl ?_ | refine RunL.unwantedD rfl rfl ?_ | refine RunE.seq ?_ | refine RunE.region ?_ | refine RunL.nil ?_ | refine RunE.block ?_ | refine RunE.inBlock ?_ | refine RunE.skip ?_ | refine RunE.exit rfl ?_ | refine RunE.scope ?_ | refine RunE.inScope ?_ | refine RunE.label ?_)
  refine RunE.cond rfl (fun hlt => ?_) (fun hlt => ?_) <;> (first | replace hlt := of_decide_eq_true hlt | replace hlt := of_decide_eq_false hlt | replace hlt := beq_iff_eq.1 hlt | replace hlt := beq_eq_false_iff_ne.1 hlt | replace hlt := bne_iff_ne.1 hlt | replace hlt := bne_eq_false_iff_eq.1 hlt | skip)
  · have hi' : i < l.length := by omega
    obtain ⟨c, hc⟩ : ∃ c, l[i]? = some c := ⟨_, List.getElem?_eq_getElem hi'⟩
    obtain ⟨q, hq, hcq⟩ := hget i c hc
    obtain ⟨b, o, cap, rfl, hrow, -, -⟩ := hsl.held (by omega)
    have hq4 := In.length hcq
    have hle := encs_le hc
    repeat (first | refine RunL.pureI Tryd.tOk rfl rfl rfl (by (first | exact wr_i64 (by omega) (by omega) | exact wm_i64 (by omega) | exact wq_i64 (by omega) (by omega) (by omega) | rfl)) ?_ | refine RunL.pure Tryd.tOk rfl rfl rfl ?_ | refine RunL.unwantedD rfl rfl ?_ | refine RunE.seq ?_ | refine RunE.region ?_ | refine RunL.nil ?_ | refine RunE.block ?_ | refine RunE.inBlock ?_ | refine RunE.skip ?_ | refine RunE.exit rfl ?_ | refine RunE.scope ?_ | refine RunE.inScope ?_ | refine RunE.label ?_)
    refine RunL.val rfl rfl rfl (OpV.indexS Tryd.tOk i rfl rfl rfl rfl hi') ?_
    refine RunL.val rfl rfl rfl (OpV.loadN (cs := q) Tryd.tOk rfl rfl rfl hq4 ((hin.row hq hrow).extE X5)) ?_
    refine RunL.alloc Tryd.tOk rfl rfl rfl fun B7 w6 a6 => ?_
    refine RunL.store (v := .agg q.toArray) Tryd.tOk rfl rfl rfl rfl (by simpa [Value.cells] using hq4) (cs := [.int .i64 0, .int .i64 0, .string ⟨#[]⟩, .slice none 0 0]) a6.at_ (by simp [Value.cells, hq4]) (cells_plain hcq) fun w7 t7 => ?_
    have hB7 := a6.eq
    have X7 : Ext w0 w7 := (X5.trans a6.ext).write t7.ext (by intro i hi hlt; subst hi; have := X5.size; omega)
    have O7 := ownsRow_ext (ownsRow_ext O5 a6.ext (fun _ _ h => h)) t7.ext (by intro k hk e; have := (O5.lt k hk).2; omega)
    have Z7 : Blk w7 B7 q 48 := by
      have := t7.at_
      rw [show (Value.agg q.toArray).cells.toList = q from rfl, setAt_all _ _ (by simpa using hq4)] at this
      exact this
    clear a6 t7
    repeat (first | refine RunL.pureI Tryd.tOk rfl rfl rfl (by (first | exact wr_i64 (by omega) (by omega) | exact wm_i64 (by omega) | exact wq_i64 (by omega) (by omega) (by omega) | rfl)) ?_ | refine RunL.pure Tryd.tOk rfl rfl rfl ?_ | refine RunL.unwantedD rfl rfl ?_ | refine RunE.seq ?_ | refine RunE.region ?_ | refine RunL.nil ?_ | refine RunE.block ?_ | refine RunE.inBlock ?_ | refine RunE.skip ?_ | refine RunE.exit rfl ?_ | refine RunE.scope ?_ | refine RunE.inScope ?_ | refine RunE.label ?_)
    refine RunE.draw (fun _ => False) mix ?_
    intro w8 X8
    have X9 := X7.trans X8
    have W8 := W0.ext X9 id id
    have Z8 := Z7.ext X8 id
    refine Asy.v rfl rfl rfl rfl (fun _ X' => OpV.load1 Tryd.tOk rfl rfl rfl (Blk.cell (W8.ptr.ext X' id) rfl)) ?_
    repeat (first | refine Asy.pureI Tryd.tOk rfl rfl rfl (by (first | exact wr_i64 (by omega) (by omega) | exact wm_i64 (by omega) | exact wq_i64 (by omega) (by omega) (by omega) | rfl)) ?_ | refine Asy.pure Tryd.tOk rfl rfl rfl ?_ | refine Asy.unwantedD rfl rfl rfl ?_)
    refine Asy.v rfl rfl rfl rfl (fun _ X' => OpV.load1 (v := .int .i64 (kind c : Int)) Tryd.tOk rfl rfl rfl (Blk.cell (Z8.ext X' id) (kind_cell hcq))) ?_
    repeat (first | refine Asy.pureI Tryd.tOk rfl rfl rfl (by (first | exact wr_i64 (by omega) (by omega) | exact wm_i64 (by omega) | exact wq_i64 (by omega) (by omega) (by omega) | rfl)) ?_ | refine Asy.pure Tryd.tOk rfl rfl rfl ?_ | refine Asy.unwantedD rfl rfl rfl ?_)
    refine Asy.v rfl rfl rfl rfl (fun _ _ => OpV.indexA1 Tryd.tOk (kind c) rfl rfl rfl rfl (kind_lt c)) ?_
    repeat (first | refine Asy.pureI Tryd.tOk rfl rfl rfl (by (first | exact wr_i64 (by omega) (by omega) | exact wm_i64 (by omega) | exact wq_i64 (by omega) (by omega) (by omega) | rfl)) ?_ | refine Asy.pure Tryd.tOk rfl rfl rfl ?_ | refine Asy.unwantedD rfl rfl rfl ?_)
    refine Asy.v rfl rfl rfl rfl (fun _ X' => OpV.load1 (v := writerFn Bp c) Tryd.tOk rfl rfl rfl (Blk.cell (W8.tab.ext X' id) (by rw [Nat.zero_add]; exact kind_fn c Bp))) ?_
    repeat (first | refine Asy.pureI Tryd.tOk rfl rfl rfl (by (first | exact wr_i64 (by omega) (by omega) | exact wm_i64 (by omega) | exact wq_i64 (by omega) (by omega) (by omega) | rfl)) ?_ | refine Asy.pure Tryd.tOk rfl rfl rfl ?_ | refine Asy.unwantedD rfl rfl rfl ?_)
    refine Asy.v rfl rfl rfl rfl (fun _ X' => OpV.loadN (cs := q) Tryd.tOk rfl rfl rfl hq4 (Z8.ext X' id).row) ?_
    refine Asy.tail (by kernel_rfl) ?_
    intro w9 X10
    simp only [satsAll]
    refine RunL.callV (fv := writerFn Bp c) rfl rfl rfl rfl (ih c (List.mem_of_getElem? hc) q w0 w9 u _ hcq W0 (X9.trans X10) (ownsRow_ext O7 (X8.trans X10) (fun _ _ h => h)) (by simp; omega)) (fun _ _ _ h => h.elim) ?_
    rintro u2 w10 ⟨O10, X11⟩
    repeat (first | refine RunL.pureI Tryd.tOk rfl rfl rfl (by (first | exact wr_i64 (by omega) (by omega) | exact wm_i64 (by omega) | exact wq_i64 (by omega) (by omega) (by omega) | rfl)) ?_ | refine RunL.pure Tryd.tOk rfl rfl rfl ?_ | refine RunL.unwantedD rfl rfl ?_ | refine RunE.seq ?_ | refine RunE.region ?_ | refine RunL.nil ?_ | refine RunE.block ?_ | refine RunE.inBlock ?_ | refine RunE.skip ?_ | refine RunE.exit rfl ?_ | refine RunE.scope ?_ | refine RunE.inScope ?_ | refine RunE.label ?_)
    refine RunE.weaken (by repeat (first | exact Sub.nil _ | refine Sub.cons rfl ?_)) (again (i + 1, u2) _ (by simp only; omega) ⟨by simp only; omega, X11, ?_⟩)
    simp only
    have e : pre ++ 3 :: (num l.length ++ encs (l.take (i + 1))) = (pre ++ 3 :: (num l.length ++ encs (l.take i))) ++ c.enc := by rw [encs_take hc]; simp
    rw [e]; exact O10
  · have hil : i = l.length := by omega
    subst hil
    repeat (first | refine RunL.pureI Tryd.tOk rfl rfl rfl (by (first | exact wr_i64 (by omega) (by omega) | exact wm_i64 (by omega) | exact wq_i64 (by omega) (by omega) (by omega) | rfl)) ?_ | refine RunL.pure Tryd.tOk rfl rfl rfl ?_ | refine RunL.unwantedD rfl rfl ?_ | refine RunE.seq ?_ | refine RunE.region ?_ | refine RunL.nil ?_ | refine RunE.block ?_ | refine RunE.inBlock ?_ | refine RunE.skip ?_ | refine RunE.exit rfl ?_ | refine RunE.scope ?_ | refine RunE.inScope ?_ | refine RunE.label ?_)
    refine RunE.retFn Tryd.func65 (.tmp rfl .nil) ⟨?_, X5⟩
    simp only [oneOr, CV.enc]
    rw [List.take_length] at O5
    exact O5

theorem write_ok (Bw Bp : Nat) : ∀ c : CV, Writes c Bw Bp (writerFn Bp c)
  | .int n => write_int n Bw Bp
  | .text t => write_text t Bw Bp
  | .list l => write_list l Bw Bp fun c _ => write_ok Bw Bp c
end Go.Sg
