/- Parts of this project that the claims share: RCod1, RCod2, RCod3, Sha2, Sha3, Sha4. -/
import Derived.Test.YtpmpefkcmokoiaaDoorDa03
set_option linter.unusedSimpArgs false
set_option linter.unusedVariables false
set_option linter.unusedSectionVars false
section
/- The document's codec: numbers. -/
namespace Go.Rn
section
variable {P : Program} {c : Ctx} {k : List Item} {Q : Out → Act → World → Prop} {w0 : World} {n : Nat} {ds : List Deferred} {env : Env} {S : Nat → Prop} {sats pres : List (Nat × Pred)} {ph : Option (Option Nat × Pred)} {mu : List Bool}
variable {l : List Oper} {d : Tmp} {op : Op} {ty : TypeId} {pos : String} {after : Array Edge} {guard : Option (Nat × Bool)} {rest : List Oper}
/-- The first that writes; it reads two values whose laws end with it. -/
theorem Asy.wriPP (i j : Nat) {t s : Nat} {U U' : Pred} (V : Pred) (hi : pres[i]? = some (t, U)) (hl : (Oper.looksAt l.toArray ⟨some d, op, ty, pos, after, guard⟩).contains t = true)
    (hj : pres[j]? = some (s, U')) (hl' : (Oper.looksAt l.toArray ⟨some d, op, ty, pos, after, guard⟩).contains s = true)
    (hw : wantE l env ⟨some d, op, ty, pos, after, guard⟩ = some true) (hdst : Nat.blt d n = true) (hd : isDefer op = false) (hs : isSel op = false)
    (hV : ∀ v w' w'', ExtB S w0 w' → Ext w' w'' → V v w' → V v w'')
    (h : ∀ w' x y, Ext w0 w' → U x w' → U' y w' → OpE P ((t, x) :: (s, y) :: env) w' ⟨some d, op, ty, pos, after, guard⟩ (fun u w'' => ExtB S w' w'' ∧ V u w'') fun _ _ => False)
    (h' : Asy P c n ds S w0 l k Q rest ⟨env.del (some d), sats, some (some d, V), true :: mu, pres⟩) : Asy P c n ds S w0 l k Q (⟨some d, op, ty, pos, after, guard⟩ :: rest) ⟨env, sats, none, mu, pres⟩ :=
  .step (e := .wri V) ⟨hdst, hs, hw, hd, hV, fun w' ρ hx hg hp => h w' _ _ hx (hp rfl t U (List.mem_of_getElem? hi) (by simpa using hl)) (hp rfl s U' (List.mem_of_getElem? hj) (by simpa using hl')) ρ (ev_cons (ev_cons hg.ev rfl) rfl)⟩ h'
end
end Go.Rn
namespace Go.Sg
open Go.Rn Go.Sha Go.Cod Go.Proofs
attribute [local irreducible] Go.Rn.RunL Go.Rn.RunE Go.Rn.Asy Go.Rn.OpV Go.Rn.OpE Go.Rn.ExecE

theorem nat_mod128 (n : Nat) : ((n : Int)).tmod 128 = ((n % 128 : Nat) : Int) := by rw [Int.tmod_eq_emod_of_nonneg (by omega)]; omega
theorem nat_div128 (n : Nat) (h : n < 18446744073709551616) : IntKind.u64.wrap (((n : Int)).tdiv 128) = ((n / 128 : Nat) : Int) := by
  rw [Int.tdiv_eq_ediv_of_nonneg (by omega), wr_u64 (by omega) (by omega)]; omega
theorem nat_add128 (n : Nat) (h : n < 128) : IntKind.u64.wrap ((n : Int) + 128) = ((n + 128 : Nat) : Int) := by
  rw [wr_u64 (by omega) (by omega)]; omega

theorem rnumeral_ok (u : Nat) (w : World) (hu : u < 18446744073709551616) :
    Rets Tryd.prog 82 [.int .u64 (u : Int)] w fun r w' => w'.ownsRow w.heap.size 5 1 r (num u).length (bytesV (num u)) ∧ Ext w w' := by
  refine RetsX.of (nt := 17) Tryd.func82 (by kernel_rfl) rfl rfl (by simp) (by simp only [argEnv]; rfl) ?_
  repeat (first | refine RunL.pureI Tryd.tOk rfl rfl rfl (by (first | exact wr_i64 (by omega) (by omega) | exact wm_i64 (by omega) | exact wq_i64 (by omega) (by omega) (by omega) | rfl)) ?_ | refine RunL.pure Tryd.tOk rfl rfl rfl ?_ | refine RunE.seq ?_ | refine RunE.region ?_ | refine RunL.nil ?_)
  refine RunE.cond rfl (fun hs => ?_) (fun hs => ?_) <;> (first | replace hs := of_decide_eq_true hs | replace hs := of_decide_eq_false hs | replace hs := beq_iff_eq.1 hs | replace hs := beq_eq_false_iff_ne.1 hs | replace hs := bne_iff_ne.1 hs | replace hs := bne_eq_false_iff_eq.1 hs | skip)
  · have hu' : u < 128 := by omega
    repeat (first | refine RunL.pureI Tryd.tOk rfl rfl rfl (by (first | exact u8_of_nat _ | exact wr_i64 (by omega) (by omega) | exact wm_i64 (by omega) | exact wq_i64 (by omega) (by omega) (by omega) | rfl)) ?_ | refine RunE.seq ?_ | refine RunE.region ?_)
    refine RunL.ex rfl rfl rfl (OpE.buildSl Tryd.tOk [.int .u8 ((UInt8.ofNat u).toNat : Int)] rfl rfl rfl rfl rfl rfl (by simp [Value.cells])) ?_
    rintro _ w2 ⟨B, rfl, a2⟩
    repeat (first | refine RunL.pure Tryd.tOk rfl rfl rfl ?_ | refine RunL.nil ?_)
    refine RunE.retFn Tryd.func82 (.tmp rfl .nil) ⟨?_, a2.ext⟩
    simp only [oneOr]
    rw [num_small hu']
    exact ownsRow_added a2 (by have := a2.eq; omega) rfl (by decide)
  · have hu' : ¬ u < 128 := by omega
    have hd : u / 128 < 18446744073709551616 := by omega
    repeat (first | refine RunL.pureI Tryd.tOk rfl rfl rfl (by (first | exact nat_mod128 _ | exact nat_add128 _ (by omega) | exact u8_of_nat _ | exact wr_i64 (by omega) (by omega) | exact wm_i64 (by omega) | exact wq_i64 (by omega) (by omega) (by omega) | rfl)) ?_ | refine RunE.seq ?_ | refine RunE.region ?_ | refine RunE.skip ?_)
    refine RunL.ex rfl rfl rfl (OpE.buildSl Tryd.tOk [.int .u8 ((UInt8.ofNat (u % 128 + 128)).toNat : Int)] rfl rfl rfl rfl rfl rfl (by simp [Value.cells])) ?_
    rintro _ w2 ⟨B, rfl, a2⟩
    have O2 : w2.ownsRow w.heap.size 5 1 (.slice (some ⟨B, 0, none⟩) 1 1) 1 [.int .u8 ((UInt8.ofNat (u % 128 + 128)).toNat : Int)] := ownsRow_added a2 (by have := a2.eq; omega) rfl (by decide)
    have hB := a2.eq
    have z2 := a2.size
    have X2 := a2.ext
    clear a2
    repeat (first | refine RunL.pureI Tryd.tOk rfl rfl rfl (by (first | exact nat_div128 _ hu | exact wr_i64 (by omega) (by omega) | exact wm_i64 (by omega) | exact wq_i64 (by omega) (by omega) (by omega) | rfl)) ?_)
    refine RunL.call rfl rfl rfl (rnumeral_ok (u / 128) w2 hd) ?_
    rintro r w3 ⟨O3, X3⟩
    have z3 := X3.size
    have hl := num_le (u / 128) hd
    refine RunL.ex rfl rfl rfl (OpE.append' Tryd.tOk rfl rfl rfl rfl rfl rfl (ownsRow_ext O2 X3 (fun _ _ h => h)) (isSl_own O3) (bytesV_plain _) (by show _ * 1 ≤ _; omega) (by omega) (by omega)) ?_
    rintro v4 w4 ⟨O4, E4, -⟩
    repeat (first | refine RunL.pure Tryd.tOk rfl rfl rfl ?_ | refine RunL.nil ?_)
    refine RunE.retFn Tryd.func82 (.tmp rfl .nil) ⟨?_, (X2.trans X3).write E4 (by intro i hi hlt; have := ownsRow_ge O2 hi; omega)⟩
    simp only [oneOr]
    rw [num_big hu', List.length_cons, Nat.add_comm]
    exact O4
termination_by u
decreasing_by omega

theorem runsigned_ok (n : Int) (w : World) (h : -9223372036854775808 ≤ n ∧ n < 9223372036854775808) : Rets Tryd.prog 83 [.int .i64 n] w fun r w' => r = .int .u64 (zig n : Int) ∧ w' = w := by
  refine RetsX.of (nt := 14) Tryd.func83 (by kernel_rfl) rfl rfl (by simp) (by simp only [argEnv]; rfl) ?_
  repeat (first | refine RunL.pureI Tryd.tOk rfl rfl rfl (by (first | exact wr_i64 (by omega) (by omega) | exact wm_i64 (by omega) | exact wq_i64 (by omega) (by omega) (by omega) | rfl)) ?_ | refine RunL.pure Tryd.tOk rfl rfl rfl ?_ | refine RunE.seq ?_ | refine RunE.region ?_ | refine RunL.nil ?_)
  refine RunE.cond rfl (fun hn => ?_) (fun hn => ?_) <;> (first | replace hn := of_decide_eq_true hn | replace hn := of_decide_eq_false hn | replace hn := beq_iff_eq.1 hn | replace hn := beq_eq_false_iff_ne.1 hn | replace hn := bne_iff_ne.1 hn | replace hn := bne_eq_false_iff_eq.1 hn | skip)
  · have hz : (zig n : Int) = 2 * n := by unfold zig; split <;> omega
    repeat (first | refine RunL.pureI Tryd.tOk rfl rfl rfl (by (first | exact wr_u64 (by omega) (by omega) | exact wr_i64 (by omega) (by omega) | exact wm_i64 (by omega) | exact wq_i64 (by omega) (by omega) (by omega) | rfl)) ?_ | refine RunE.seq ?_ | refine RunE.region ?_ | refine RunL.nil ?_)
    exact RunE.retFn Tryd.func83 (.tmp rfl .nil) ⟨by simp only [oneOr]; rw [hz], rfl⟩
  · have hz : (zig n : Int) = 2 * -(n + 1) + 1 := by unfold zig; split <;> omega
    repeat (first | refine RunL.pureI Tryd.tOk rfl rfl rfl (by (first | exact wr_u64 (by omega) (by omega) | exact wr_i64 (by omega) (by omega) | exact wm_i64 (by omega) | exact wq_i64 (by omega) (by omega) (by omega) | rfl)) ?_ | refine RunE.seq ?_ | refine RunE.region ?_ | refine RunL.nil ?_ | refine RunE.skip ?_)
    exact RunE.retFn Tryd.func83 (.tmp rfl .nil) ⟨by simp only [oneOr]; rw [hz], rfl⟩
end Go.Sg
end
section
/- The document's codec: forms. -/
namespace Go.Sg
open Go.Rn Go.Sha Go.Cod Go.Proofs
attribute [local irreducible] Go.Rn.RunL Go.Rn.RunE Go.Rn.Asy Go.Rn.OpV Go.Rn.OpE Go.Rn.ExecE

set_option maxHeartbeats 2000000 in
theorem rformed_ok : ∀ (c : CV) (cs : List Value) (w : World), c.In w cs → Rets Tryd.prog 80 [.agg cs.toArray] w fun v w' => v = .bool true ∧ Ext w w'
  | .int n, cs, w, h => by
    simp only [CV.In] at h
    obtain ⟨hn, d, rfl⟩ := h
    refine RetsX.of (nt := 52) Tryd.func80 (by kernel_rfl) rfl rfl (by simp) (by simp only [argEnv]; rfl) ?_
    repeat (first | refine RunE.seq ?_ | refine RunE.region ?_)
    refine RunL.box rfl rfl rfl fun B1 w1 a1 => ?_
    have Z1 : Blk w1 B1 [.int .i64 1, .int .i64 n, .string ⟨#[]⟩, .slice d 0 0] 57 := a1.at_
    repeat (first | refine RunL.pure Tryd.tOk rfl rfl rfl ?_ | refine RunL.val rfl rfl rfl (OpV.load1 Tryd.tOk rfl rfl rfl (Blk.cell Z1 rfl)) ?_ | refine RunE.seq ?_ | refine RunE.region ?_ | refine RunL.nil ?_ | refine RunE.block ?_)
    refine RunE.condT rfl rfl ?_
    repeat (first | refine RunL.pureB Tryd.tOk _ rfl rfl rfl (by with_reducible exact beq_refl_str _) ?_ | refine RunL.pureI Tryd.tOk rfl rfl rfl (by (first | exact wr_i64 (by omega) (by omega) | exact wm_i64 (by omega) | exact wq_i64 (by omega) (by omega) (by omega) | rfl)) ?_ | refine RunL.pure Tryd.tOk rfl rfl rfl ?_ | refine RunL.val rfl rfl rfl (OpV.load1 Tryd.tOk rfl rfl rfl (Blk.cell Z1 rfl)) ?_ | refine RunE.seq ?_ | refine RunE.region ?_ | refine RunL.nil ?_)
    exact RunE.retFn Tryd.func80 (.tmp rfl .nil) ⟨rfl, a1.ext⟩
  | .text s, cs, w, h => by
    simp only [CV.In] at h
    obtain ⟨hn, d, rfl⟩ := h
    refine RetsX.of (nt := 52) Tryd.func80 (by kernel_rfl) rfl rfl (by simp) (by simp only [argEnv]; rfl) ?_
    repeat (first | refine RunE.seq ?_ | refine RunE.region ?_)
    refine RunL.box rfl rfl rfl fun B1 w1 a1 => ?_
    have Z1 : Blk w1 B1 [.int .i64 2, .int .i64 0, .string (strOf s), .slice d 0 0] 57 := a1.at_
    repeat (first | refine RunL.pure Tryd.tOk rfl rfl rfl ?_ | refine RunL.val rfl rfl rfl (OpV.load1 Tryd.tOk rfl rfl rfl (Blk.cell Z1 rfl)) ?_ | refine RunE.seq ?_ | refine RunE.region ?_ | refine RunL.nil ?_ | refine RunE.block ?_)
    refine RunE.condF rfl rfl ?_
    repeat (first | refine RunL.pure Tryd.tOk rfl rfl rfl ?_ | refine RunE.seq ?_ | refine RunE.region ?_ | refine RunL.nil ?_)
    refine RunE.condT rfl rfl ?_
    repeat (first | refine RunL.pureI Tryd.tOk rfl rfl rfl (by (first | exact wr_i64 (by omega) (by omega) | exact wm_i64 (by omega) | exact wq_i64 (by omega) (by omega) (by omega) | rfl)) ?_ | refine RunL.pure Tryd.tOk rfl rfl rfl ?_ | refine RunL.val rfl rfl rfl (OpV.load1 Tryd.tOk rfl rfl rfl (Blk.cell Z1 rfl)) ?_ | refine RunE.seq ?_ | refine RunE.region ?_ | refine RunL.nil ?_)
    exact RunE.retFn Tryd.func80 (.tmp rfl .nil) ⟨rfl, a1.ext⟩
  | .list l, cs, w, h => by
    simp only [CV.In] at h
    obtain ⟨hl, v, rows, rfl, hsl, hin⟩ := h
    obtain ⟨hrl, hget⟩ := hin.get
    refine RetsX.of (nt := 52) Tryd.func80 (by kernel_rfl) rfl rfl (by simp) (by simp only [argEnv]; rfl) ?_
    repeat (first | refine RunE.seq ?_ | refine RunE.region ?_)
    refine RunL.box rfl rfl rfl fun B1 w1 a1 => ?_
    have Z1 : Blk w1 B1 [.int .i64 3, .int .i64 0, .string ⟨#[]⟩, v] 57 := a1.at_
    have hB1 := a1.eq
    have X1 := a1.ext
    clear a1
    repeat (first | refine RunL.pure Tryd.tOk rfl rfl rfl ?_ | refine RunL.val rfl rfl rfl (OpV.load1 Tryd.tOk rfl rfl rfl (Blk.cell Z1 rfl)) ?_ | refine RunE.seq ?_ | refine RunE.region ?_ | refine RunL.nil ?_ | refine RunE.block ?_)
    refine RunE.condF rfl rfl ?_
    repeat (first | refine RunL.pure Tryd.tOk rfl rfl rfl ?_ | refine RunE.seq ?_ | refine RunE.region ?_ | refine RunL.nil ?_)
    refine RunE.condF rfl rfl ?_
    repeat (first | refine RunL.pure Tryd.tOk rfl rfl rfl ?_ | refine RunE.seq ?_ | refine RunE.region ?_ | refine RunL.nil ?_)
    refine RunE.condT rfl rfl ?_
    repeat (first | refine RunL.pureI Tryd.tOk rfl rfl rfl (by (first | exact wr_i64 (by omega) (by omega) | exact wm_i64 (by omega) | exact wq_i64 (by omega) (by omega) (by omega) | rfl)) ?_ | refine RunE.seq ?_ | refine RunE.region ?_ | refine RunL.nil ?_ | refine RunE.block ?_)
    refine RunE.loop (ι := Nat) (fun i => [(1, .pointer (some ⟨B1, 0, none⟩)), (3, .int .i64 (i : Int))])
      (fun i w' => i ≤ l.length ∧ Ext w1 w') (fun i => l.length - i) 0 (by repeat (first | exact Sub.nil _ | refine Sub.cons rfl ?_)) ⟨by omega, .refl _ _⟩ ?_
    rintro i w4 ⟨hi, X4⟩ again
    have Z4 := Z1.ext X4 id
    repeat (first | refine RunL.pureI Tryd.tOk rfl rfl rfl (by (first | exact wr_i64 (by omega) (by omega) | exact wm_i64 (by omega) | exact wq_i64 (by omega) (by omega) (by omega) | rfl)) ?_ | refine RunL.pure Tryd.tOk rfl rfl rfl ?_ | refine RunL.val rfl rfl rfl (OpV.load1 Tryd.tOk rfl rfl rfl (Blk.cell Z4 rfl)) ?_ | refine RunE.seq ?_ | refine RunE.region ?_)
    refine RunL.val rfl rfl rfl (OpV.lenSl Tryd.tOk rfl rfl hsl) ?_
    repeat (first | refine RunL.pure Tryd.tOk rfl rfl rfl ?_ | refine RunL.nil ?_)
    refine RunE.cond rfl (fun hlt => ?_) (fun hlt => ?_) <;> (first | replace hlt := of_decide_eq_true hlt | replace hlt := of_decide_eq_false hlt | replace hlt := beq_iff_eq.1 hlt | replace hlt := beq_eq_false_iff_ne.1 hlt | replace hlt := bne_iff_ne.1 hlt | replace hlt := bne_eq_false_iff_eq.1 hlt | skip)
    · have hi' : i < l.length := by omega
      obtain ⟨c, hc⟩ : ∃ c, l[i]? = some c := ⟨_, List.getElem?_eq_getElem hi'⟩
      obtain ⟨r, hr, hcr⟩ := hget i c hc
      obtain ⟨b, o, cap, rfl, hrow, -, -⟩ := hsl.held (by omega)
      have hr4 := In.length hcr
      repeat (first | refine RunL.pureI Tryd.tOk rfl rfl rfl (by (first | exact wr_i64 (by omega) (by omega) | exact wm_i64 (by omega) | exact wq_i64 (by omega) (by omega) (by omega) | rfl)) ?_ | refine RunL.pure Tryd.tOk rfl rfl rfl ?_ | refine RunL.val rfl rfl rfl (OpV.load1 Tryd.tOk rfl rfl rfl (Blk.cell Z4 rfl)) ?_ | refine RunE.seq ?_ | refine RunE.region ?_ | refine RunE.block ?_ | refine RunE.skip ?_)
      refine RunL.val rfl rfl rfl (OpV.indexS Tryd.tOk i rfl rfl rfl rfl hi') ?_
      refine RunL.val rfl rfl rfl (OpV.loadN (cs := r) Tryd.tOk rfl rfl rfl hr4 ((hin.row hr hrow).extE (X1.trans X4))) ?_
      refine RunL.call rfl rfl rfl (rformed_ok c r w4 (In.ext (X1.trans X4) c r hcr)) ?_
      rintro _ w7 ⟨rfl, X7⟩
      repeat (first | refine RunL.pure Tryd.tOk rfl rfl rfl ?_ | refine RunL.nil ?_)
      refine RunE.condF rfl rfl ?_
      repeat (first | refine RunL.pureI Tryd.tOk rfl rfl rfl (by (first | exact wr_i64 (by omega) (by omega) | exact wm_i64 (by omega) | exact wq_i64 (by omega) (by omega) (by omega) | rfl)) ?_ | refine RunE.region ?_ | refine RunL.nil ?_ | refine RunE.inBlock ?_ | refine RunE.skip ?_)
      refine RunE.weaken (by repeat (first | exact Sub.nil _ | refine Sub.cons rfl ?_)) (again (i + 1) _ (by omega) ⟨by omega, X4.trans X7⟩)
    · repeat (first | refine RunL.pureB Tryd.tOk _ rfl rfl rfl (by with_reducible exact beq_refl_str _) ?_ | refine RunL.pure Tryd.tOk rfl rfl rfl ?_ | refine RunL.val rfl rfl rfl (OpV.load1 Tryd.tOk rfl rfl rfl (Blk.cell Z4 rfl)) ?_ | refine RunE.seq ?_ | refine RunE.region ?_ | refine RunL.nil ?_ | refine RunE.exit rfl ?_)
      exact RunE.retFn Tryd.func80 (.tmp rfl .nil) ⟨rfl, X1.trans X4⟩
termination_by c => SizeOf.sizeOf c
decreasing_by
  have := List.sizeOf_lt_of_mem (List.mem_of_getElem? hc)
  simp only [CV.list.sizeOf_spec]
  omega

set_option maxHeartbeats 2000000 in
theorem rdepth_ok : ∀ (c : CV) (cs : List Value) (w : World), c.In w cs → c.depth ≤ 1000 → Rets Tryd.prog 81 [.agg cs.toArray] w fun v w' => v = .int .i64 (c.depth : Int) ∧ Ext w w'
  | .int n, cs, w, h, _ => by
    simp only [CV.In] at h
    obtain ⟨hn, d, rfl⟩ := h
    refine RetsX.of (nt := 25) Tryd.func81 (by kernel_rfl) rfl rfl (by simp) (by simp only [argEnv]; rfl) ?_
    repeat (first | refine RunE.seq ?_ | refine RunE.region ?_)
    refine RunL.box rfl rfl rfl fun B1 w1 a1 => ?_
    have Z1 : Blk w1 B1 [.int .i64 1, .int .i64 n, .string ⟨#[]⟩, .slice d 0 0] 57 := a1.at_
    repeat (first | refine RunL.pureI Tryd.tOk rfl rfl rfl (by (first | exact wr_i64 (by omega) (by omega) | exact wm_i64 (by omega) | exact wq_i64 (by omega) (by omega) (by omega) | rfl)) ?_ | refine RunL.pure Tryd.tOk rfl rfl rfl ?_ | refine RunL.val rfl rfl rfl (OpV.load1 Tryd.tOk rfl rfl rfl (Blk.cell Z1 rfl)) ?_ | refine RunE.seq ?_ | refine RunE.region ?_ | refine RunL.nil ?_)
    refine RunE.condT rfl rfl ?_
    repeat (first | refine RunL.pureI Tryd.tOk rfl rfl rfl (by (first | exact wr_i64 (by omega) (by omega) | exact wm_i64 (by omega) | exact wq_i64 (by omega) (by omega) (by omega) | rfl)) ?_ | refine RunE.seq ?_ | refine RunE.region ?_ | refine RunL.nil ?_)
    exact RunE.retFn Tryd.func81 (.tmp rfl .nil) ⟨by simp [oneOr, CV.depth], a1.ext⟩
  | .text s, cs, w, h, _ => by
    simp only [CV.In] at h
    obtain ⟨hn, d, rfl⟩ := h
    refine RetsX.of (nt := 25) Tryd.func81 (by kernel_rfl) rfl rfl (by simp) (by simp only [argEnv]; rfl) ?_
    repeat (first | refine RunE.seq ?_ | refine RunE.region ?_)
    refine RunL.box rfl rfl rfl fun B1 w1 a1 => ?_
    have Z1 : Blk w1 B1 [.int .i64 2, .int .i64 0, .string (strOf s), .slice d 0 0] 57 := a1.at_
    repeat (first | refine RunL.pureI Tryd.tOk rfl rfl rfl (by (first | exact wr_i64 (by omega) (by omega) | exact wm_i64 (by omega) | exact wq_i64 (by omega) (by omega) (by omega) | rfl)) ?_ | refine RunL.pure Tryd.tOk rfl rfl rfl ?_ | refine RunL.val rfl rfl rfl (OpV.load1 Tryd.tOk rfl rfl rfl (Blk.cell Z1 rfl)) ?_ | refine RunE.seq ?_ | refine RunE.region ?_ | refine RunL.nil ?_)
    refine RunE.condT rfl rfl ?_
    repeat (first | refine RunL.pureI Tryd.tOk rfl rfl rfl (by (first | exact wr_i64 (by omega) (by omega) | exact wm_i64 (by omega) | exact wq_i64 (by omega) (by omega) (by omega) | rfl)) ?_ | refine RunE.seq ?_ | refine RunE.region ?_ | refine RunL.nil ?_)
    exact RunE.retFn Tryd.func81 (.tmp rfl .nil) ⟨by simp [oneOr, CV.depth], a1.ext⟩
  | .list l, cs, w, h, hdep => by
    simp only [CV.depth] at hdep
    simp only [CV.In] at h
    obtain ⟨hl, v, rows, rfl, hsl, hin⟩ := h
    obtain ⟨hrl, hget⟩ := hin.get
    refine RetsX.of (nt := 25) Tryd.func81 (by kernel_rfl) rfl rfl (by simp) (by simp only [argEnv]; rfl) ?_
    repeat (first | refine RunE.seq ?_ | refine RunE.region ?_)
    refine RunL.box rfl rfl rfl fun B1 w1 a1 => ?_
    have Z1 : Blk w1 B1 [.int .i64 3, .int .i64 0, .string ⟨#[]⟩, v] 57 := a1.at_
    have hB1 := a1.eq
    have X1 := a1.ext
    clear a1
    repeat (first | refine RunL.pureI Tryd.tOk rfl rfl rfl (by (first | exact wr_i64 (by omega) (by omega) | exact wm_i64 (by omega) | exact wq_i64 (by omega) (by omega) (by omega) | rfl)) ?_ | refine RunL.pure Tryd.tOk rfl rfl rfl ?_ | refine RunL.val rfl rfl rfl (OpV.load1 Tryd.tOk rfl rfl rfl (Blk.cell Z1 rfl)) ?_ | refine RunE.seq ?_ | refine RunE.region ?_ | refine RunL.nil ?_)
    refine RunE.condF rfl rfl ?_
    repeat (first | refine RunL.pureI Tryd.tOk rfl rfl rfl (by (first | exact wr_i64 (by omega) (by omega) | exact wm_i64 (by omega) | exact wq_i64 (by omega) (by omega) (by omega) | rfl)) ?_ | refine RunE.seq ?_ | refine RunE.region ?_ | refine RunL.nil ?_ | refine RunE.block ?_ | refine RunE.skip ?_)
    refine RunE.loop (ι := Nat) (fun i => [(1, .pointer (some ⟨B1, 0, none⟩)), (3, .int .i64 (depths (l.take i) : Int)), (4, .int .i64 (i : Int))])
      (fun i w' => i ≤ l.length ∧ Ext w1 w') (fun i => l.length - i) 0 (by repeat (first | exact Sub.nil _ | refine Sub.cons rfl ?_)) ⟨by omega, .refl _ _⟩ ?_
    rintro i w4 ⟨hi, X4⟩ again
    have Z4 := Z1.ext X4 id
    repeat (first | refine RunL.pureI Tryd.tOk rfl rfl rfl (by (first | exact wr_i64 (by omega) (by omega) | exact wm_i64 (by omega) | exact wq_i64 (by omega) (by omega) (by omega) | rfl)) ?_ | refine RunL.pure Tryd.tOk rfl rfl rfl ?_ | refine RunL.val rfl rfl rfl (OpV.load1 Tryd.tOk rfl rfl rfl (Blk.cell Z4 rfl)) ?_ | refine RunE.seq ?_ | refine RunE.region ?_)
    refine RunL.val rfl rfl rfl (OpV.lenSl Tryd.tOk rfl rfl hsl) ?_
    repeat (first | refine RunL.pure Tryd.tOk rfl rfl rfl ?_ | refine RunL.nil ?_)
    refine RunE.cond rfl (fun hlt => ?_) (fun hlt => ?_) <;> (first | replace hlt := of_decide_eq_true hlt | replace hlt := of_decide_eq_false hlt | replace hlt := beq_iff_eq.1 hlt | replace hlt := beq_eq_false_iff_ne.1 hlt | replace hlt := bne_iff_ne.1 hlt | replace hlt := bne_eq_false_iff_eq.1 hlt | skip)
    · have hi' : i < l.length := by omega
      obtain ⟨c, hc⟩ : ∃ c, l[i]? = some c := ⟨_, List.getElem?_eq_getElem hi'⟩
      obtain ⟨r, hr, hcr⟩ := hget i c hc
      obtain ⟨b, o, cap, rfl, hrow, -, -⟩ := hsl.held (by omega)
      have hr4 := In.length hcr
      repeat (first | refine RunL.pureI Tryd.tOk rfl rfl rfl (by (first | exact wr_i64 (by omega) (by omega) | exact wm_i64 (by omega) | exact wq_i64 (by omega) (by omega) (by omega) | rfl)) ?_ | refine RunL.pure Tryd.tOk rfl rfl rfl ?_ | refine RunL.val rfl rfl rfl (OpV.load1 Tryd.tOk rfl rfl rfl (Blk.cell Z4 rfl)) ?_ | refine RunE.seq ?_ | refine RunE.region ?_ | refine RunE.block ?_ | refine RunE.skip ?_)
      refine RunL.val rfl rfl rfl (OpV.indexS Tryd.tOk i rfl rfl rfl rfl hi') ?_
      refine RunL.val rfl rfl rfl (OpV.loadN (cs := r) Tryd.tOk rfl rfl rfl hr4 ((hin.row hr hrow).extE (X1.trans X4))) ?_
      refine RunL.call rfl rfl rfl (rdepth_ok c r w4 (In.ext (X1.trans X4) c r hcr) (by have := depth_le (List.mem_of_getElem? hc); omega)) ?_
      rintro _ w7 ⟨rfl, X7⟩
      repeat (first | refine RunL.pureI Tryd.tOk rfl rfl rfl (by (first | exact max_nat _ _ | exact wr_i64 (by omega) (by omega) | exact wm_i64 (by omega) | exact wq_i64 (by omega) (by omega) (by omega) | rfl)) ?_ | refine RunE.region ?_ | refine RunL.nil ?_ | refine RunE.inBlock ?_)
      refine RunE.weaken (by
        refine Sub.cons rfl (Sub.cons ?_ (Sub.cons rfl (Sub.nil _)))
        rw [depths_take hc]; rfl) (again (i + 1) _ (by omega) ⟨by omega, X4.trans X7⟩)
    · have hil : i = l.length := by omega
      subst hil
      rw [List.take_length]
      repeat (first | refine RunL.pureI Tryd.tOk rfl rfl rfl (by (first | exact wr_i64 (by omega) (by omega) | exact wm_i64 (by omega) | exact wq_i64 (by omega) (by omega) (by omega) | rfl)) ?_ | refine RunE.seq ?_ | refine RunE.region ?_ | refine RunL.nil ?_ | refine RunE.exit rfl ?_)
      exact RunE.retFn Tryd.func81 (.tmp rfl .nil) ⟨by simp only [oneOr, CV.depth]; congr 1, X1.trans X4⟩
termination_by c => SizeOf.sizeOf c
decreasing_by
  have := List.sizeOf_lt_of_mem (List.mem_of_getElem? hc)
  simp only [CV.list.sizeOf_spec]
  omega
end Go.Sg
end
section
/- The document's codec: what is written. -/
namespace Go.Sg
open Go.Rn Go.Sha Go.Cod Go.Proofs
attribute [local irreducible] Go.Rn.RunL Go.Rn.RunE Go.Rn.Asy Go.Rn.OpV Go.Rn.OpE Go.Rn.ExecE

theorem rencode_int (n : Int) (cs : List Value) (w : World) (h : (CV.int n).In w cs) : Rets Tryd.prog 66 [.agg cs.toArray] w fun r w' => w'.ownsRow w.heap.size 5 1 r (CV.int n).enc.length (bytesV (CV.int n).enc) ∧ Ext w w' := by
  simp only [CV.In] at h
  obtain ⟨hn, d, rfl⟩ := h
  refine RetsX.of (nt := 50) Tryd.func66 (by kernel_rfl) rfl rfl (by simp) (by simp only [argEnv]; rfl) ?_
  repeat (first | refine RunE.seq ?_ | refine RunE.region ?_)
  refine RunL.box rfl rfl rfl fun B1 w1 a1 => ?_
  have Z1 : Blk w1 B1 [.int .i64 1, .int .i64 n, .string ⟨#[]⟩, .slice d 0 0] 57 := a1.at_
  have z1 := a1.size
  have X1 := a1.ext
  have z0 := X1.size
  clear a1
  repeat (first | refine RunL.pure Tryd.tOk rfl rfl rfl ?_ | refine RunL.val rfl rfl rfl (OpV.load1 Tryd.tOk rfl rfl rfl (Blk.cell Z1 rfl)) ?_ | refine RunE.seq ?_ | refine RunE.region ?_ | refine RunL.nil ?_ | refine RunE.block ?_)
  refine RunE.condT rfl rfl ?_
  repeat (first | refine RunE.seq ?_ | refine RunE.region ?_)
  refine RunL.ex rfl rfl rfl (OpE.buildSl Tryd.tOk [.int .u8 1] rfl rfl rfl rfl rfl rfl (by simp [Value.cells])) ?_
  rintro _ w2 ⟨B, rfl, a2⟩
  have O2 : w2.ownsRow w.heap.size 5 1 (.slice (some ⟨B, 0, none⟩) 1 1) 1 (bytesV [1]) := ownsRow_added a2 (by have := a2.eq; omega) rfl (by decide)
  have z2 := a2.size
  have X2 := X1.trans a2.ext
  have Z2 := Z1.ext a2.ext id
  clear a2
  repeat (first | refine RunL.pure Tryd.tOk rfl rfl rfl ?_ | refine RunL.val rfl rfl rfl (OpV.load1 Tryd.tOk rfl rfl rfl (Blk.cell Z2 rfl)) ?_)
  refine RunL.call rfl rfl rfl (runsigned_ok n _ hn) ?_
  rintro _ _ ⟨rfl, rfl⟩
  refine RunL.call rfl rfl rfl (rnumeral_ok (zig n) _ (zig_lt n hn)) ?_
  rintro r w3 ⟨O3, X3⟩
  have z3 := X3.size
  have z2x := X2.size
  have hl := num_le (zig n) (zig_lt n hn)
  refine RunL.ex rfl rfl rfl (OpE.append' Tryd.tOk rfl rfl rfl rfl rfl rfl (ownsRow_ext O2 X3 (fun _ _ h => h)) (isSl_own O3) (bytesV_plain _) (by show _ * 1 ≤ _; omega) (by omega) (by omega)) ?_
  rintro v4 w4 ⟨O4, E4, -⟩
  repeat (first | refine RunL.pure Tryd.tOk rfl rfl rfl ?_ | refine RunL.nil ?_)
  refine RunE.retFn Tryd.func66 (.tmp rfl .nil) ⟨?_, (X2.trans X3).write E4 (by intro i hi hlt; have := ownsRow_ge O2 hi; omega)⟩
  simp only [oneOr, CV.enc]
  rw [List.length_cons, Nat.add_comm]
  exact O4

theorem rencode_text (t : List UInt8) (cs : List Value) (w : World) (h : (CV.text t).In w cs) : Rets Tryd.prog 66 [.agg cs.toArray] w fun r w' => w'.ownsRow w.heap.size 5 1 r (CV.text t).enc.length (bytesV (CV.text t).enc) ∧ Ext w w' := by
  simp only [CV.In] at h
  obtain ⟨hn, d, rfl⟩ := h
  have hst : (strOf t).data.toList = t := by simp [strOf]
  have hsz : (strOf t).size = t.length := rfl
  refine RetsX.of (nt := 50) Tryd.func66 (by kernel_rfl) rfl rfl (by simp) (by simp only [argEnv]; rfl) ?_
  repeat (first | refine RunE.seq ?_ | refine RunE.region ?_)
  refine RunL.box rfl rfl rfl fun B1 w1 a1 => ?_
  have Z1 : Blk w1 B1 [.int .i64 2, .int .i64 0, .string (strOf t), .slice d 0 0] 57 := a1.at_
  have hB1 := a1.eq
  have z1 := a1.size
  have X1 := a1.ext
  have z0 := X1.size
  clear a1
  repeat (first | refine RunL.pure Tryd.tOk rfl rfl rfl ?_ | refine RunL.val rfl rfl rfl (OpV.load1 Tryd.tOk rfl rfl rfl (Blk.cell Z1 rfl)) ?_ | refine RunE.seq ?_ | refine RunE.region ?_ | refine RunL.nil ?_ | refine RunE.block ?_)
  refine RunE.condF rfl rfl ?_
  repeat (first | refine RunL.pure Tryd.tOk rfl rfl rfl ?_ | refine RunE.seq ?_ | refine RunE.region ?_ | refine RunL.nil ?_)
  refine RunE.condT rfl rfl ?_
  repeat (first | refine RunE.seq ?_)
  refine RunE.draw (fun k => w1.heap.size ≤ k) mix ?_
  intro w2 X2
  have z2 := X2.size
  have Z2 := Z1.ext X2 id
  have hS : ¬ (w1.heap.size ≤ B1) := by omega
  have hnl := num_le (strOf t).size (by omega)
  skip
  refine Asy.pre0 (fun u w' => w'.ownsRow w1.heap.size 5 1 u 1 (bytesV [2])) rfl rfl rfl rfl (fun u w' w'' _ e h => ownsRow_ext h e (fun _ _ h => h)) (fun w' e => ?_) ?_
  · refine OpE.mono (OpE.buildSl Tryd.tOk [.int .u8 2] rfl rfl rfl rfl rfl rfl (by simp [Value.cells])) ?_ fun _ _ h => h
    rintro _ w'' ⟨B, rfl, a⟩
    have := e.size
    exact ⟨a.ext, ownsRow_added a (by have := a.eq; omega) rfl (by decide)⟩
  repeat (first | refine Asy.pure Tryd.tOk rfl rfl rfl ?_)
  refine Asy.v rfl rfl rfl rfl (fun w' X' => OpV.load1 Tryd.tOk rfl rfl rfl (Blk.cell (Z2.ext X' hS) rfl)) ?_
  repeat (first | refine Asy.pureI Tryd.tOk rfl rfl rfl (by (first | exact u64_nat _ (by omega) | exact wr_i64 (by omega) (by omega) | exact wm_i64 (by omega) | exact wq_i64 (by omega) (by omega) (by omega) | rfl)) ?_)
  refine Asy.pre0 (fun u w' => w'.ownsRow w1.heap.size 5 1 u (num (strOf t).size).length (bytesV (num (strOf t).size))) rfl rfl rfl rfl (fun u w' w'' _ e h => ownsRow_ext h e (fun _ _ h => h)) (fun w' e => ?_) ?_
  · refine OpE.mono (OpE.call rfl (rnumeral_ok (strOf t).size w' (by omega))) ?_ fun _ _ h => h
    rintro u w'' ⟨h1, h2⟩
    have := e.size
    exact ⟨h2, ownsRow_base h1 (by omega)⟩
  refine Asy.wriPP 1 0 (fun u w' => w'.ownsRow w1.heap.size 5 1 u (1 + (num (strOf t).size).length) (bytesV [2] ++ bytesV (num (strOf t).size))) rfl rfl rfl rfl rfl rfl rfl rfl (fun u w' w'' _ e h => ownsRow_ext h e (fun _ _ h => h)) (fun w' x y e hx hy => ?_) ?_
  · have := e.size
    refine OpE.mono (OpE.append' Tryd.tOk rfl rfl rfl rfl rfl rfl hx (isSl_own hy) (bytesV_plain _) (by show _ * 1 ≤ _; omega) (by omega) (by omega)) ?_ fun _ _ h => h
    rintro u w'' ⟨h1, h2, h3⟩
    exact ⟨h2.mono fun k _ hk => ownsRow_ge hx hk, h1⟩
  repeat (first | refine Asy.pure Tryd.tOk rfl rfl rfl ?_)
  refine Asy.v rfl rfl rfl rfl (fun w' X' => OpV.load1 Tryd.tOk rfl rfl rfl (Blk.cell (Z2.ext X' hS) rfl)) ?_
  refine Asy.tailW (by kernel_rfl) ?_
  rintro w3 x E3 O3
  simp only [satsAll]
  have z3 := E3.size
  have Y3 : Ext w w3 := (X1.trans X2).write E3 (by intro i hi hlt; omega)
  refine RunL.ex rfl rfl rfl (OpE.appendStr Tryd.tOk (by kernel_rfl) rfl rfl rfl rfl rfl O3 (by omega) (by omega)) ?_
  rintro r w4 ⟨O4, E4⟩
  have Y4 : Ext w w4 := Y3.write E4 (by intro i hi hlt; have := ownsRow_ge O3 hi; omega)
  repeat (first | refine RunL.pure Tryd.tOk rfl rfl rfl ?_ | refine RunL.nil ?_)
  refine RunE.retFn Tryd.func66 (.tmp rfl .nil) ⟨?_, Y4⟩
  simp only [CV.enc, oneOr]
  rw [← bytesV_append, hst, hsz, ← bytesV_append] at O4
  have e : [2] ++ num t.length ++ t = 2 :: (num t.length ++ t) := by simp
  have e2 : 1 + (num t.length).length + t.length = (2 :: (num t.length ++ t)).length := by simp; omega
  rw [e2, e] at O4
  exact ownsRow_base O4 (by omega)

set_option maxHeartbeats 2000000 in
theorem rencode_ok : ∀ (c : CV) (cs : List Value) (w : World), c.In w cs → c.enc.length ≤ 1000000000 → Rets Tryd.prog 66 [.agg cs.toArray] w fun r w' => w'.ownsRow w.heap.size 5 1 r c.enc.length (bytesV c.enc) ∧ Ext w w'
  | .int n, cs, w, h, _ => rencode_int n cs w h
  | .text t, cs, w, h, _ => rencode_text t cs w h
  | .list l, cs, w, h, hlen => by
    simp only [CV.In] at h
    obtain ⟨hn, sv, rows, rfl, hsl, hin⟩ := h
    obtain ⟨hrl, hget⟩ := hin.get
    simp only [CV.enc, List.length_cons, List.length_append] at hlen
    refine RetsX.of (nt := 50) Tryd.func66 (by kernel_rfl) rfl rfl (by simp) (by simp only [argEnv]; rfl) ?_
    repeat (first | refine RunE.seq ?_ | refine RunE.region ?_)
    refine RunL.box rfl rfl rfl fun B1 w1 a1 => ?_
    have Z1 : Blk w1 B1 [.int .i64 3, .int .i64 0, .string ⟨#[]⟩, sv] 57 := a1.at_
    have hB1 := a1.eq
    have z1 := a1.size
    have X1 := a1.ext
    have z0 := X1.size
    clear a1
    repeat (first | refine RunL.pure Tryd.tOk rfl rfl rfl ?_ | refine RunL.val rfl rfl rfl (OpV.load1 Tryd.tOk rfl rfl rfl (Blk.cell Z1 rfl)) ?_ | refine RunE.seq ?_ | refine RunE.region ?_ | refine RunL.nil ?_ | refine RunE.block ?_)
    refine RunE.condF rfl rfl ?_
    repeat (first | refine RunL.pure Tryd.tOk rfl rfl rfl ?_ | refine RunE.seq ?_ | refine RunE.region ?_ | refine RunL.nil ?_)
    refine RunE.condF rfl rfl ?_
    repeat (first | refine RunE.seq ?_ | refine RunE.region ?_ | refine RunE.inBlock ?_ | refine RunE.skip ?_)
    refine RunL.ex rfl rfl rfl (OpE.buildSl Tryd.tOk [.int .u8 3] rfl rfl rfl rfl rfl rfl (by simp [Value.cells])) ?_
    rintro _ w2 ⟨B, rfl, a2⟩
    have O2 : w2.ownsRow w1.heap.size 5 1 (.slice (some ⟨B, 0, none⟩) 1 1) 1 (bytesV [3]) := ownsRow_added a2 (by have := a2.eq; omega) rfl (by decide)
    have z2 := a2.size
    have X2 := a2.ext
    have Z2 := Z1.ext a2.ext id
    clear a2
    repeat (first | refine RunL.pure Tryd.tOk rfl rfl rfl ?_ | refine RunL.val rfl rfl rfl (OpV.load1 Tryd.tOk rfl rfl rfl (Blk.cell Z2 rfl)) ?_)
    refine RunL.val rfl rfl rfl (OpV.lenSl Tryd.tOk rfl rfl hsl) ?_
    repeat (first | refine RunL.pureI Tryd.tOk rfl rfl rfl (by (first | exact u64_nat _ (by omega) | exact wr_i64 (by omega) (by omega) | exact wm_i64 (by omega) | exact wq_i64 (by omega) (by omega) (by omega) | rfl)) ?_)
    refine RunL.call rfl rfl rfl (rnumeral_ok l.length _ (by omega)) ?_
    rintro r w3 ⟨O3, X3⟩
    have z3 := X3.size
    have z2x := X2.size
    have hl := num_le l.length (by omega)
    refine RunL.ex rfl rfl rfl (OpE.append' Tryd.tOk rfl rfl rfl rfl rfl rfl (ownsRow_ext O2 X3 (fun _ _ h => h)) (isSl_own O3) (bytesV_plain _) (by show _ * 1 ≤ _; omega) (by omega) (by omega)) ?_
    rintro v4 w4 ⟨O4, E4, -⟩
    have Y4 : Ext w1 w4 := (X2.trans X3).write E4 (by intro i hi hlt; have := ownsRow_ge O2 hi; omega)
    have O4' : w4.ownsRow w1.heap.size 5 1 v4 (3 :: (num l.length ++ encs (l.take 0))).length (bytesV (3 :: (num l.length ++ encs (l.take 0)))) := by
      have e : 3 :: (num l.length ++ encs (l.take 0)) = [3] ++ num l.length := by simp [encs]
      rw [e, List.length_append, bytesV_append]; exact O4
    repeat (first | refine RunL.pureI Tryd.tOk rfl rfl rfl (by (first | exact wr_i64 (by omega) (by omega) | exact wm_i64 (by omega) | exact wq_i64 (by omega) (by omega) (by omega) | rfl)) ?_ | refine RunL.pure Tryd.tOk rfl rfl rfl ?_ | refine RunE.seq ?_ | refine RunE.region ?_ | refine RunL.nil ?_ | refine RunE.block ?_)
    refine RunE.loop (ι := Nat × Value) (fun x => [(1, .pointer (some ⟨B1, 0, none⟩)), (3, x.2), (4, .int .i64 (x.1 : Int))])
      (fun x w' => x.1 ≤ l.length ∧ Ext w1 w' ∧ w'.ownsRow w1.heap.size 5 1 x.2 (3 :: (num l.length ++ encs (l.take x.1))).length (bytesV (3 :: (num l.length ++ encs (l.take x.1))))) (fun x => l.length - x.1) (0, v4) (by repeat (first | exact Sub.nil _ | refine Sub.cons rfl ?_)) ⟨by simp, Y4, O4'⟩ ?_
    clear O4 O4' Y4 E4 X3 O3 X2 O2 Z2
    rintro ⟨i, u⟩ w5 ⟨hi, X5, O5⟩ again
    simp only at hi O5 again ⊢
    have Z5 := Z1.ext X5 id
    repeat (first | refine RunL.pureI Tryd.tOk rfl rfl rfl (by (first | exact wr_i64 (by omega) (by omega) | exact wm_i64 (by omega) | exact wq_i64 (by omega) (by omega) (by omega) | rfl)) ?_ | refine RunL.pure Tryd.tOk rfl rfl rfl ?_ | refine RunL.val rfl rfl rfl (OpV.load1 Tryd.tOk rfl rfl rfl (Blk.cell Z5 rfl)) ?_ | refine RunE.seq ?_ | refine RunE.region ?_)
    refine RunL.val rfl rfl rfl (OpV.lenSl Tryd.tOk rfl rfl hsl) ?_
    repeat (first | refine RunL.pure Tryd.tOk rfl rfl rfl ?_ | refine RunL.nil ?_)
    refine RunE.cond rfl (fun hlt => ?_) (fun hlt => ?_) <;> (first | replace hlt := of_decide_eq_true hlt | replace hlt := of_decide_eq_false hlt | replace hlt := beq_iff_eq.1 hlt | replace hlt := beq_eq_false_iff_ne.1 hlt | replace hlt := bne_iff_ne.1 hlt | replace hlt := bne_eq_false_iff_eq.1 hlt | skip)
    · have hi' : i < l.length := by omega
      obtain ⟨c, hc⟩ : ∃ c, l[i]? = some c := ⟨_, List.getElem?_eq_getElem hi'⟩
      obtain ⟨q, hq, hcq⟩ := hget i c hc
      obtain ⟨b, o, cap, rfl, hrow, -, -⟩ := hsl.held (by omega)
      have hq4 := In.length hcq
      have hle := encs_le hc
      have hz5 := X5.size
      repeat (first | refine RunL.pureI Tryd.tOk rfl rfl rfl (by (first | exact wr_i64 (by omega) (by omega) | exact wm_i64 (by omega) | exact wq_i64 (by omega) (by omega) (by omega) | rfl)) ?_ | refine RunL.pure Tryd.tOk rfl rfl rfl ?_ | refine RunL.val rfl rfl rfl (OpV.load1 Tryd.tOk rfl rfl rfl (Blk.cell Z5 rfl)) ?_ | refine RunE.seq ?_ | refine RunE.region ?_ | refine RunE.block ?_ | refine RunE.skip ?_)
      refine RunL.val rfl rfl rfl (OpV.indexS Tryd.tOk i rfl rfl rfl rfl hi') ?_
      refine RunL.val rfl rfl rfl (OpV.loadN (cs := q) Tryd.tOk rfl rfl rfl hq4 ((hin.row hq hrow).extE (X1.trans X5))) ?_
      refine RunL.call rfl rfl rfl (rencode_ok c q w5 (In.ext (X1.trans X5) c q hcq) (by omega)) ?_
      rintro r6 w6 ⟨O6, X6⟩
      have hz6 := X6.size
      refine RunL.ex rfl rfl rfl (OpE.append' Tryd.tOk rfl rfl rfl rfl rfl rfl (ownsRow_ext O5 X6 (fun _ _ h => h)) (isSl_own O6) (bytesV_plain _) (by show _ * 1 ≤ _; simp; omega) (by simp; omega) (by omega)) ?_
      rintro v7 w7 ⟨O7, E7, -⟩
      repeat (first | refine RunL.pureI Tryd.tOk rfl rfl rfl (by (first | exact wr_i64 (by omega) (by omega) | exact wm_i64 (by omega) | exact wq_i64 (by omega) (by omega) (by omega) | rfl)) ?_ | refine RunL.pure Tryd.tOk rfl rfl rfl ?_ | refine RunE.region ?_ | refine RunL.nil ?_ | refine RunE.inBlock ?_)
      refine RunE.weaken (by repeat (first | exact Sub.nil _ | refine Sub.cons rfl ?_)) (again (i + 1, v7) _ (by simp only; omega) ⟨by simp only; omega, (X5.trans X6).write E7 (by intro i hi hlt; have := ownsRow_ge O5 hi; omega), ?_⟩)
      simp only
      have e : 3 :: (num l.length ++ encs (l.take (i + 1))) = (3 :: (num l.length ++ encs (l.take i))) ++ c.enc := by rw [encs_take hc]; simp
      rw [e, List.length_append, bytesV_append]; exact O7
    · have hil : i = l.length := by omega
      subst hil
      repeat (first | refine RunL.pure Tryd.tOk rfl rfl rfl ?_ | refine RunE.seq ?_ | refine RunE.region ?_ | refine RunL.nil ?_ | refine RunE.exit rfl ?_)
      refine RunE.retFn Tryd.func66 (.tmp rfl .nil) ⟨?_, X1.trans X5⟩
      simp only [oneOr, CV.enc]
      rw [List.take_length] at O5
      exact ownsRow_base O5 (by omega)
termination_by c => SizeOf.sizeOf c
decreasing_by
  have := List.sizeOf_lt_of_mem (List.mem_of_getElem? hc)
  simp only [CV.list.sizeOf_spec]
  omega

theorem rcheck_ok (c : CV) (cs : List Value) (w : World) (h : c.In w cs) (hd : c.depth ≤ 16) : Rets Tryd.prog 65 [.agg cs.toArray] w fun v w' => v = .int .i64 0 ∧ Ext w w' := by
  have h4 := In.length h
  refine RetsX.of (nt := 9) Tryd.func65 (by kernel_rfl) rfl rfl (by simp) (by simp only [argEnv]; rfl) ?_
  repeat (first | refine RunE.seq ?_ | refine RunE.region ?_)
  refine RunL.box rfl rfl rfl fun B1 w1 a1 => ?_
  have Z1 : Blk w1 B1 cs 57 := a1.at_
  repeat (first | refine RunL.pureI Tryd.tOk rfl rfl rfl (by (first | exact wr_i64 (by omega) (by omega) | exact wm_i64 (by omega) | exact wq_i64 (by omega) (by omega) (by omega) | rfl)) ?_ | refine RunE.seq ?_ | refine RunE.region ?_ | refine RunL.nil ?_)
  refine RunL.val rfl rfl rfl (OpV.loadN (cs := cs) Tryd.tOk rfl rfl rfl h4 Z1.row) ?_
  refine RunL.call rfl rfl rfl (rformed_ok c cs w1 (In.ext a1.ext c cs h)) ?_
  rintro _ w2 ⟨rfl, X2⟩
  repeat (first | refine RunL.pure Tryd.tOk rfl rfl rfl ?_ | refine RunL.nil ?_)
  refine RunE.condF rfl rfl ?_
  repeat (first | refine RunE.seq ?_ | refine RunE.region ?_ | refine RunE.skip ?_)
  refine RunL.val rfl rfl rfl (OpV.loadN (cs := cs) Tryd.tOk rfl rfl rfl h4 (Z1.ext X2 id).row) ?_
  refine RunL.call rfl rfl rfl (rdepth_ok c cs w2 (In.ext (a1.ext.trans X2) c cs h) (by omega)) ?_
  rintro _ w3 ⟨rfl, X3⟩
  repeat (first | refine RunL.pure Tryd.tOk rfl rfl rfl ?_ | refine RunL.nil ?_)
  refine RunE.condF rfl (decide_eq_false (by omega)) ?_
  repeat (first | refine RunL.pureI Tryd.tOk rfl rfl rfl (by (first | exact wr_i64 (by omega) (by omega) | exact wm_i64 (by omega) | exact wq_i64 (by omega) (by omega) (by omega) | rfl)) ?_ | refine RunE.seq ?_ | refine RunE.region ?_ | refine RunL.nil ?_ | refine RunE.skip ?_)
  exact RunE.retFn Tryd.func65 (.tmp rfl .nil) ⟨rfl, (a1.ext.trans X2).trans X3⟩

theorem rEncode_ok (c : CV) (cs : List Value) (w : World) (h : c.In w cs) (hd : c.depth ≤ 16) (hl : c.enc.length ≤ 1000000000) :
    Rets Tryd.prog 33 [.agg cs.toArray] w fun v w' => ∃ r, v = .tuple #[r, .int .i64 0] ∧ w'.ownsRow w.heap.size 5 1 r c.enc.length (bytesV c.enc) ∧ Ext w w' := by
  have h4 := In.length h
  refine RetsX.of (nt := 12) Tryd.func33 (by kernel_rfl) rfl rfl (by simp) (by simp only [argEnv]; rfl) ?_
  repeat (first | refine RunE.seq ?_ | refine RunE.region ?_)
  refine RunL.box rfl rfl rfl fun B1 w1 a1 => ?_
  have Z1 : Blk w1 B1 cs 57 := a1.at_
  have h1 := In.ext a1.ext c cs h
  have z0 := a1.ext.size
  repeat (first | refine RunL.pureI Tryd.tOk rfl rfl rfl (by (first | exact wr_i64 (by omega) (by omega) | exact wm_i64 (by omega) | exact wq_i64 (by omega) (by omega) (by omega) | rfl)) ?_ | refine RunL.pure Tryd.tOk rfl rfl rfl ?_ | refine RunE.seq ?_ | refine RunE.region ?_ | refine RunL.nil ?_)
  refine RunL.val rfl rfl rfl (OpV.loadN (cs := cs) Tryd.tOk rfl rfl rfl h4 Z1.row) ?_
  refine RunL.call rfl rfl rfl (rcheck_ok c cs w1 h1 hd) ?_
  rintro _ w2 ⟨rfl, X2⟩
  repeat (first | refine RunL.pureI Tryd.tOk rfl rfl rfl (by (first | exact wr_i64 (by omega) (by omega) | exact wm_i64 (by omega) | exact wq_i64 (by omega) (by omega) (by omega) | rfl)) ?_ | refine RunL.pure Tryd.tOk rfl rfl rfl ?_ | refine RunE.seq ?_ | refine RunE.region ?_ | refine RunL.nil ?_)
  refine RunE.condF rfl rfl ?_
  repeat (first | refine RunE.seq ?_ | refine RunE.region ?_ | refine RunE.skip ?_)
  refine RunL.val rfl rfl rfl (OpV.loadN (cs := cs) Tryd.tOk rfl rfl rfl h4 (Z1.ext X2 id).row) ?_
  refine RunL.call rfl rfl rfl (rencode_ok c cs w2 (In.ext X2 c cs h1) hl) ?_
  rintro r w3 ⟨O3, X3⟩
  have z2 := X2.size
  repeat (first | refine RunL.pureI Tryd.tOk rfl rfl rfl (by (first | exact wr_i64 (by omega) (by omega) | exact wm_i64 (by omega) | exact wq_i64 (by omega) (by omega) (by omega) | rfl)) ?_ | refine RunL.pure Tryd.tOk rfl rfl rfl ?_ | refine RunL.nil ?_)
  exact RunE.retFn Tryd.func33 (.tmp rfl (.tmp rfl .nil)) ⟨r, rfl, ownsRow_base O3 (by omega), (a1.ext.trans X2).trans X3⟩

theorem rint_ok (n : Int) (w : World) : Rets Tryd.prog 35 [.int .i64 n] w fun v w' => v = .agg #[.int .i64 1, .int .i64 n, .string ⟨#[]⟩, .slice none 0 0] ∧ Ext w w' := by
  refine RetsX.of (nt := 5) Tryd.func35 (by kernel_rfl) rfl rfl (by simp) (by simp only [argEnv]; rfl) ?_
  repeat (first | refine RunE.seq ?_ | refine RunE.region ?_)
  refine RunL.alloc Tryd.tOk rfl rfl rfl fun B2 w2 a2 => ?_
  have hB := a2.eq
  repeat (first | refine RunL.pureI Tryd.tOk rfl rfl rfl (by (first | exact wr_i64 (by omega) (by omega) | exact wm_i64 (by omega) | exact wq_i64 (by omega) (by omega) (by omega) | rfl)) ?_ | refine RunL.pure Tryd.tOk rfl rfl rfl ?_ | refine RunE.seq ?_ | refine RunE.region ?_ | refine RunL.nil ?_)
  refine RunL.store Tryd.tOk rfl rfl rfl rfl rfl (cs := [.int .i64 0, .int .i64 0, .string ⟨#[]⟩, .slice none 0 0]) a2.at_ rfl rfl fun w3 t3 => ?_
  repeat (first | refine RunL.nil ?_)
  exact RunE.retFn Tryd.func35 (.cell rfl (.agg Tryd.tOk rfl rfl rfl (Blk.row (show Blk w3 B2 [.int .i64 1, .int .i64 n, .string ⟨#[]⟩, .slice none 0 0] 57 from t3.at_))) .nil) ⟨rfl, a2.ext.write t3.ext (by intro i hi hlt; subst hi; omega)⟩
theorem rtext_ok (s : ByteArray) (w : World) : Rets Tryd.prog 36 [.string s] w fun v w' => v = .agg #[.int .i64 2, .int .i64 0, .string s, .slice none 0 0] ∧ Ext w w' := by
  refine RetsX.of (nt := 5) Tryd.func36 (by kernel_rfl) rfl rfl (by simp) (by simp only [argEnv]; rfl) ?_
  repeat (first | refine RunE.seq ?_ | refine RunE.region ?_)
  refine RunL.alloc Tryd.tOk rfl rfl rfl fun B2 w2 a2 => ?_
  have hB := a2.eq
  repeat (first | refine RunL.pure Tryd.tOk rfl rfl rfl ?_ | refine RunE.seq ?_ | refine RunE.region ?_ | refine RunL.nil ?_)
  refine RunL.store Tryd.tOk rfl rfl rfl rfl rfl (cs := [.int .i64 0, .int .i64 0, .string ⟨#[]⟩, .slice none 0 0]) a2.at_ rfl rfl fun w3 t3 => ?_
  repeat (first | refine RunL.nil ?_)
  exact RunE.retFn Tryd.func36 (.cell rfl (.agg Tryd.tOk rfl rfl rfl (Blk.row (show Blk w3 B2 [.int .i64 2, .int .i64 0, .string s, .slice none 0 0] 57 from t3.at_))) .nil) ⟨rfl, a2.ext.write t3.ext (by intro i hi hlt; subst hi; omega)⟩
theorem rlist_ok (d : Option Addr) (n cap : Nat) (w : World) : Rets Tryd.prog 34 [.slice d n cap] w fun r w' => r = .agg #[.int .i64 3, .int .i64 0, .string ⟨#[]⟩, .slice d n cap] ∧ Ext w w' := by
  refine RetsX.of (nt := 5) Tryd.func34 (by kernel_rfl) rfl rfl (by simp) (by simp only [argEnv]; rfl) ?_
  repeat (first | refine RunE.seq ?_ | refine RunE.region ?_)
  refine RunL.alloc Tryd.tOk rfl rfl rfl fun B2 w2 a2 => ?_
  have hB := a2.eq
  repeat (first | refine RunL.pure Tryd.tOk rfl rfl rfl ?_ | refine RunE.seq ?_ | refine RunE.region ?_ | refine RunL.nil ?_)
  refine RunL.store Tryd.tOk rfl rfl rfl rfl rfl (cs := [.int .i64 0, .int .i64 0, .string ⟨#[]⟩, .slice none 0 0]) a2.at_ (by rfl) (by rfl) fun w3 t3 => ?_
  repeat (first | refine RunL.nil ?_)
  exact RunE.retFn Tryd.func34 (.cell rfl (.agg Tryd.tOk rfl rfl rfl (Blk.row (show Blk w3 B2 [.int .i64 3, .int .i64 0, .string ⟨#[]⟩, .slice d n cap] 57 from t3.at_))) .nil) ⟨rfl, a2.ext.write t3.ext (by intro i hi hlt; subst hi; omega)⟩
end Go.Sg
end
section
/- The program's SHA-256: a block. -/
namespace Go.Sha
open Go.Rn
theorem vals_append (A B : List W) : vals (A ++ B) = vals A ++ vals B := by simp [vals]
theorem vals_get {A : List W} {i : Nat} (B : List W) (h : i < A.length) : (vals (A ++ B))[i]? = some (.int .u32 ((A.getD i 0).toNat : Int)) := by
  rw [vals_append, List.getElem?_append_left (by rw [vals_length]; exact h)]
  simp [vals, List.getElem?_eq_getElem h, List.getD_eq_getElem?_getD]
theorem vals_get' {A : List W} {i : Nat} (h : i < A.length) : (vals A)[i]? = some (.int .u32 ((A.getD i 0).toNat : Int)) := by
  have := vals_get [] h; rwa [List.append_nil] at this
theorem set_next (A : List W) (n : Nat) (x : W) : (vals (A ++ List.replicate (n + 1) 0)).set A.length (.int .u32 (x.toNat : Int)) = vals ((A ++ [x]) ++ List.replicate n 0) := by
  simp [vals, List.replicate_succ, List.set_append_right]
/-- What is left of a sum that is under way. -/
def midw (s v : S8) (i : Nat) : List W := (s.add v).l.take i ++ s.l.drop i
theorem midw_set : ∀ (s v : S8) (i : Nat), i < 8 → (vals (midw s v i)).set i (.int .u32 (((s.l.getD i 0) + (v.l.getD i 0)).toNat : Int)) = vals (midw s v (i + 1)) ∧ (vals (midw s v i))[i]? = some (.int .u32 ((s.l.getD i 0).toNat : Int)) := by
  intro s v i hi
  match i, hi with
  | 0, _ | 1, _ | 2, _ | 3, _ | 4, _ | 5, _ | 6, _ | 7, _ => exact ⟨rfl, rfl⟩
theorem set_at {A : List W} {n i : Nat} (x : W) (h : A.length = i) : setAt (vals (A ++ List.replicate (n + 1) 0)) i [.int .u32 (x.toNat : Int)] = vals ((A ++ [x]) ++ List.replicate n 0) := by
  subst h; exact set_next A n x
end Go.Sha
namespace Go.Sg
open Go.Rn Go.Sha Go.Proofs
attribute [local irreducible] Go.Rn.RunL Go.Rn.RunE Go.Rn.Asy Go.Rn.OpV Go.Rn.OpE Go.Rn.ExecE

theorem rotated_ok (x : W) (a b c : Nat) (ha : 0 < a ∧ a < 32) (hb : 0 < b ∧ b < 32) (hc : 0 < c ∧ c < 32) (w : World) :
    Rets Tryd.prog 86 [.int .u32 (x.toNat : Int), .int .i64 (a : Int), .int .i64 (b : Int), .int .i64 (c : Int)] w fun v w' => v = .int .u32 ((S3 x a b c).toNat : Int) ∧ w = w' := by
  refine RetsX.of (nt := 23) Tryd.func86 (by kernel_rfl) rfl rfl (by simp) (by simp only [argEnv]; rfl) ?_
  repeat (first | refine RunL.pureI Tryd.tOk rfl rfl rfl (by (first | exact wr_i64 (by omega) (by omega) | exact wm_i64 (by omega) | exact wq_i64 (by omega) (by omega) (by omega) | rfl)) ?_ | refine RunE.seq ?_ | refine RunE.region ?_ | refine RunL.nil ?_)
  refine RunL.call rfl rfl rfl (rotl_ok _ a ha.1 ha.2 _) ?_
  rintro _ _ ⟨rfl, rfl⟩
  repeat (first | refine RunL.pureI Tryd.tOk rfl rfl rfl (by (first | exact wr_i64 (by omega) (by omega) | exact wm_i64 (by omega) | exact wq_i64 (by omega) (by omega) (by omega) | rfl)) ?_)
  refine RunL.call rfl rfl rfl (rotl_ok _ b hb.1 hb.2 _) ?_
  rintro _ _ ⟨rfl, rfl⟩
  repeat (first | refine RunL.pureI Tryd.tOk rfl rfl rfl (by (first | with_reducible exact Go.Rn.u32_xor _ _ | with_reducible exact Go.Rn.u32_and _ _ | with_reducible exact Go.Rn.u32_or _ _ | with_reducible exact u32_add _ _ | with_reducible exact u32_shl _ _ (by decide) | with_reducible exact u32_shr _ _ (by decide) | with_reducible exact u32_of_u8 _ | exact wr_i64 (by omega) (by omega) | rfl)) ?_)
  refine RunL.call rfl rfl rfl (rotl_ok _ c hc.1 hc.2 _) ?_
  rintro _ _ ⟨rfl, rfl⟩
  repeat (first | refine RunL.pureI Tryd.tOk rfl rfl rfl (by (first | with_reducible exact Go.Rn.u32_xor _ _ | with_reducible exact Go.Rn.u32_and _ _ | with_reducible exact Go.Rn.u32_or _ _ | with_reducible exact u32_add _ _ | with_reducible exact u32_shl _ _ (by decide) | with_reducible exact u32_shr _ _ (by decide) | with_reducible exact u32_of_u8 _ | exact wr_i64 (by omega) (by omega) | rfl)) ?_ | refine RunL.nil ?_)
  exact RunE.retFn Tryd.func86 (.tmp rfl .nil) ⟨rfl, rfl⟩

set_option maxRecDepth 4000 in
set_option maxHeartbeats 2000000 in
theorem absorb_ok (s : S8) (l : List UInt8) (b bt b' o' cap : Nat) (w : World) (hb : Blk w b (vals s.l) bt) (hl : l.length = 64) (hr : Row w b' o' (bytesV l)) (hc : 64 ≤ cap) (hkT : Row w 1 0 (vals kTab)) (hb1 : b ≠ 1) :
    Rets Tryd.prog 67 [.pointer (some ⟨b, 0, none⟩), .slice (some ⟨b', o', none⟩) 64 cap] w fun v w' => v = .tuple #[] ∧ Blk w' b (vals (block s l).l) bt ∧ ExtB (· = b) w w' := by
  have hblt := hb.lt
  refine RetsX.of (nt := 144) Tryd.func67 (by kernel_rfl) rfl rfl (by simp) (by simp only [argEnv]; rfl) ?_
  repeat (first | refine RunE.seq ?_ | refine RunE.region ?_)
  refine RunL.alloc Tryd.tOk rfl rfl rfl fun B4 w1 a1 => ?_
  have hB4 := a1.eq
  have Z1 : Blk w1 B4 (vals (words l 0 ++ List.replicate (64 - 0) 0)) 116 := a1.at_
  repeat (first | refine RunL.pureI Tryd.tOk rfl rfl rfl (by (first | exact wr_i64 (by omega) (by omega) | exact wm_i64 (by omega) | exact wq_i64 (by omega) (by omega) (by omega) | rfl)) ?_ | refine RunE.seq ?_ | refine RunE.region ?_ | refine RunL.nil ?_ | refine RunE.block ?_)
  refine RunE.loop (ι := Nat) (fun j => [(0, .pointer (some ⟨b, 0, none⟩)), (1, .slice (some ⟨b', o', none⟩) 64 cap), (4, .pointer (some ⟨B4, 0, none⟩)), (14, .int .i64 (j : Int))])
    (fun j w' => j ≤ 16 ∧ Ext w w' ∧ Blk w' B4 (vals (words l j ++ List.replicate (64 - j) 0)) 116) (fun j => 16 - j) 0 (by repeat (first | exact Sub.nil _ | refine Sub.cons rfl ?_)) ⟨by omega, a1.ext, Z1⟩ ?_
  rintro j w2 ⟨hj, X2, Z2⟩ again
  repeat (first | refine RunL.pure Tryd.tOk rfl rfl rfl ?_ | refine RunE.seq ?_ | refine RunE.region ?_ | refine RunL.nil ?_)
  refine RunE.cond rfl (fun hlt => ?_) (fun hlt => ?_) <;> (first | replace hlt := of_decide_eq_true hlt | replace hlt := of_decide_eq_false hlt | replace hlt := beq_iff_eq.1 hlt | replace hlt := beq_eq_false_iff_ne.1 hlt | replace hlt := bne_iff_ne.1 hlt | replace hlt := bne_eq_false_iff_eq.1 hlt | skip)
  · repeat (first | refine RunL.pureI Tryd.tOk rfl rfl rfl (by (first | exact wr_i64 (by omega) (by omega) | exact wm_i64 (by omega) | exact wq_i64 (by omega) (by omega) (by omega) | rfl)) ?_ | refine RunL.pure Tryd.tOk rfl rfl rfl ?_ | refine RunE.seq ?_ | refine RunE.region ?_ | refine RunL.nil ?_ | refine RunE.block ?_ | refine RunE.skip ?_)
    refine RunL.val rfl rfl rfl (OpV.slice1 (lo := 4 * j) (hi := 64) Tryd.tOk rfl rfl (.some rfl (by omega)) .none (by omega) (by omega) (by omega)) ?_
    have hrow : Row w2 b' (o' + 4 * j) (bytesV [l.getD (4 * j) 0, l.getD (4 * j + 1) 0, l.getD (4 * j + 2) 0, l.getD (4 * j + 3) 0]) := by
      refine (hr.extE X2).window fun i v hv => ?_
      have get : ∀ k, k < 64 → (bytesV l)[k]? = some (.int .u8 ((l.getD k 0).toNat : Int)) := by
        intro k hk
        simp [bytesV, List.getElem?_eq_getElem (show k < l.length by omega), List.getD_eq_getElem?_getD]
      match i, hv with
      | 0, hv => rw [get _ (by omega)]; exact hv
      | 1, hv => rw [get _ (by omega)]; exact hv
      | 2, hv => rw [get _ (by omega)]; exact hv
      | 3, hv => rw [get _ (by omega)]; exact hv
    refine RunL.call rfl rfl rfl (digestWord_ok _ _ _ _ _ _ _ _ _ (by omega) (by omega) hrow) ?_
    rintro _ _ ⟨rfl, rfl⟩
    refine RunL.val rfl rfl rfl (OpV.indexA1 Tryd.tOk j rfl rfl rfl rfl (by omega)) ?_
    refine RunL.store Tryd.tOk rfl rfl rfl rfl rfl Z2 (by simp [vals_length, words_length, Value.cells]; omega) rfl fun w3 t3 => ?_
    have X3 : Ext w w3 := X2.write t3.ext (by intro i hi hlt; subst hi; omega)
    have Z3 : Blk w3 B4 (vals (words l (j + 1) ++ List.replicate (64 - (j + 1)) 0)) 116 := by
      have := t3.at_
      have e := set_next (words l j) (64 - (j + 1)) (word (l.getD (4 * j) 0) (l.getD (4 * j + 1) 0) (l.getD (4 * j + 2) 0) (l.getD (4 * j + 3) 0))
      rw [words_length, show 64 - (j + 1) + 1 = 64 - j by omega] at e
      unfold Blk
      rw [words, ← e, this]
      rw [Nat.zero_add]
      rfl
    repeat (first | refine RunL.pureI Tryd.tOk rfl rfl rfl (by (first | exact wr_i64 (by omega) (by omega) | exact wm_i64 (by omega) | exact wq_i64 (by omega) (by omega) (by omega) | rfl)) ?_ | refine RunE.region ?_ | refine RunL.nil ?_ | refine RunE.inBlock ?_)
    exact RunE.weaken (by repeat (first | exact Sub.nil _ | refine Sub.cons rfl ?_)) (again (j + 1) _ (by omega) ⟨by omega, X3, Z3⟩)
  · have hj16 : j = 16 := by omega
    subst hj16
    clear again
    repeat (first | refine RunL.pureI Tryd.tOk rfl rfl rfl (by (first | exact wr_i64 (by omega) (by omega) | exact wm_i64 (by omega) | exact wq_i64 (by omega) (by omega) (by omega) | rfl)) ?_ | refine RunE.seq ?_ | refine RunE.region ?_ | refine RunL.nil ?_ | refine RunE.block ?_ | refine RunE.exit rfl ?_)
    refine RunE.loop (ι := Nat) (fun k => [(0, .pointer (some ⟨b, 0, none⟩)), (4, .pointer (some ⟨B4, 0, none⟩)), (6, .int .i64 ((16 + k : Nat) : Int))])
      (fun k w' => k ≤ 48 ∧ Ext w w' ∧ Blk w' B4 (vals (sched (words l 16) k ++ List.replicate (48 - k) 0)) 116) (fun k => 48 - k) 0 (by repeat (first | exact Sub.nil _ | refine Sub.cons rfl ?_)) ⟨by omega, X2, Z2⟩ ?_
    rintro k w4 ⟨hk48, X4, Z4⟩ again
    have hsl : (sched (words l 16) k).length = 16 + k := by rw [sched_length, words_length]
    repeat (first | refine RunL.pureI Tryd.tOk rfl rfl rfl (by (first | exact wr_i64 (by omega) (by omega) | exact wm_i64 (by omega) | exact wq_i64 (by omega) (by omega) (by omega) | rfl)) ?_ | refine RunL.pure Tryd.tOk rfl rfl rfl ?_ | refine RunE.seq ?_ | refine RunE.region ?_ | refine RunL.nil ?_)
    refine RunE.cond rfl (fun hlt2 => ?_) (fun hlt2 => ?_) <;> (first | replace hlt2 := of_decide_eq_true hlt2 | replace hlt2 := of_decide_eq_false hlt2 | replace hlt2 := beq_iff_eq.1 hlt2 | replace hlt2 := beq_eq_false_iff_ne.1 hlt2 | replace hlt2 := bne_iff_ne.1 hlt2 | replace hlt2 := bne_eq_false_iff_eq.1 hlt2 | skip)
    · repeat (first | refine RunE.seq ?_ | refine RunE.block ?_ | refine RunE.skip ?_)
      refine RunE.draw (fun _ => False) mix ?_
      intro w5 X5
      repeat (first | refine Asy.pureI Tryd.tOk rfl rfl rfl (by (first | exact wr_i64 (by omega) (by omega) | exact wm_i64 (by omega) | exact wq_i64 (by omega) (by omega) (by omega) | rfl)) ?_)
      refine Asy.v rfl rfl rfl rfl (fun _ _ => OpV.indexA1 Tryd.tOk (k + 1) rfl rfl rfl (by omega) (by omega)) ?_
      refine Asy.v rfl rfl rfl rfl (fun _ X' => OpV.load1 Tryd.tOk rfl rfl rfl (((Z4.ext X5 id).ext X' id).row (k + 1) _ (vals_get _ (by omega)))) ?_
      repeat (first | refine Asy.pureI Tryd.tOk rfl rfl rfl (by (first | exact wr_i64 (by omega) (by omega) | exact wm_i64 (by omega) | exact wq_i64 (by omega) (by omega) (by omega) | rfl)) ?_)
      refine Asy.v rfl rfl rfl rfl (fun _ _ => OpV.indexA1 Tryd.tOk (k + 14) rfl rfl rfl (by omega) (by omega)) ?_
      refine Asy.v rfl rfl rfl rfl (fun _ X' => OpV.load1 Tryd.tOk rfl rfl rfl (((Z4.ext X5 id).ext X' id).row (k + 14) _ (vals_get _ (by omega)))) ?_
      repeat (first | refine Asy.pureI Tryd.tOk rfl rfl rfl (by (first | exact wr_i64 (by omega) (by omega) | exact wm_i64 (by omega) | exact wq_i64 (by omega) (by omega) (by omega) | rfl)) ?_)
      refine Asy.tail (by kernel_rfl) ?_
      intro w6 X6
      simp only [satsAll]
      repeat (first | refine RunL.nil ?_)
      have Y6 := X5.trans X6
      have Z6 := Z4.ext Y6 id
      have X7 := X4.trans Y6
      clear Z4 X4 X5 X6 Y6
      refine RunE.draw (fun _ => False) mix ?_
      intro w8 X8
      have Z8 := Z6.ext X8 id
      repeat (first | refine Asy.pureI Tryd.tOk rfl rfl rfl (by (first | with_reducible exact Go.Rn.u32_xor _ _ | with_reducible exact Go.Rn.u32_and _ _ | with_reducible exact Go.Rn.u32_or _ _ | with_reducible exact u32_add _ _ | with_reducible exact u32_shl _ _ (by decide) | with_reducible exact u32_shr _ _ (by decide) | with_reducible exact u32_of_u8 _ | exact wr_i64 (by omega) (by omega) | rfl)) ?_)
      refine Asy.v rfl rfl rfl rfl (fun _ _ => OpV.indexA1 Tryd.tOk k rfl rfl rfl (by omega) (by omega)) ?_
      refine Asy.v rfl rfl rfl rfl (fun _ X' => OpV.load1 Tryd.tOk rfl rfl rfl ((Z8.ext X' id).row k _ (vals_get _ (by omega)))) ?_
      repeat (first | refine Asy.pureI Tryd.tOk rfl rfl rfl (by (first | with_reducible exact Go.Rn.u32_xor _ _ | with_reducible exact Go.Rn.u32_and _ _ | with_reducible exact Go.Rn.u32_or _ _ | with_reducible exact u32_add _ _ | with_reducible exact u32_shl _ _ (by decide) | with_reducible exact u32_shr _ _ (by decide) | with_reducible exact u32_of_u8 _ | exact wr_i64 (by omega) (by omega) | rfl)) ?_)
      refine Asy.val rfl rfl rfl rfl (fun _ _ => OpE.keep (OpE.call rfl (rotl_ok _ 7 (by decide) (by decide) _))) ?_
      repeat (first | refine Asy.pureI Tryd.tOk rfl rfl rfl (by (first | with_reducible exact Go.Rn.u32_xor _ _ | with_reducible exact Go.Rn.u32_and _ _ | with_reducible exact Go.Rn.u32_or _ _ | with_reducible exact u32_add _ _ | with_reducible exact u32_shl _ _ (by decide) | with_reducible exact u32_shr _ _ (by decide) | with_reducible exact u32_of_u8 _ | exact wr_i64 (by omega) (by omega) | rfl)) ?_)
      refine Asy.val rfl rfl rfl rfl (fun _ _ => OpE.keep (OpE.call rfl (rotl_ok _ 18 (by decide) (by decide) _))) ?_
      repeat (first | refine Asy.pureI Tryd.tOk rfl rfl rfl (by (first | with_reducible exact Go.Rn.u32_xor _ _ | with_reducible exact Go.Rn.u32_and _ _ | with_reducible exact Go.Rn.u32_or _ _ | with_reducible exact u32_add _ _ | with_reducible exact u32_shl _ _ (by decide) | with_reducible exact u32_shr _ _ (by decide) | with_reducible exact u32_of_u8 _ | exact wr_i64 (by omega) (by omega) | rfl)) ?_)
      refine Asy.v rfl rfl rfl rfl (fun _ _ => OpV.indexA1 Tryd.tOk (k + 9) rfl rfl rfl (by omega) (by omega)) ?_
      refine Asy.v rfl rfl rfl rfl (fun _ X' => OpV.load1 Tryd.tOk rfl rfl rfl ((Z8.ext X' id).row (k + 9) _ (vals_get _ (by omega)))) ?_
      repeat (first | refine Asy.pureI Tryd.tOk rfl rfl rfl (by (first | with_reducible exact Go.Rn.u32_xor _ _ | with_reducible exact Go.Rn.u32_and _ _ | with_reducible exact Go.Rn.u32_or _ _ | with_reducible exact u32_add _ _ | with_reducible exact u32_shl _ _ (by decide) | with_reducible exact u32_shr _ _ (by decide) | with_reducible exact u32_of_u8 _ | exact wr_i64 (by omega) (by omega) | rfl)) ?_)
      refine Asy.val rfl rfl rfl rfl (fun _ _ => OpE.keep (OpE.call rfl (rotl_ok _ 17 (by decide) (by decide) _))) ?_
      repeat (first | refine Asy.pureI Tryd.tOk rfl rfl rfl (by (first | with_reducible exact Go.Rn.u32_xor _ _ | with_reducible exact Go.Rn.u32_and _ _ | with_reducible exact Go.Rn.u32_or _ _ | with_reducible exact u32_add _ _ | with_reducible exact u32_shl _ _ (by decide) | with_reducible exact u32_shr _ _ (by decide) | with_reducible exact u32_of_u8 _ | exact wr_i64 (by omega) (by omega) | rfl)) ?_)
      refine Asy.val rfl rfl rfl rfl (fun _ _ => OpE.keep (OpE.call rfl (rotl_ok _ 19 (by decide) (by decide) _))) ?_
      repeat (first | refine Asy.pureI Tryd.tOk rfl rfl rfl (by (first | with_reducible exact Go.Rn.u32_xor _ _ | with_reducible exact Go.Rn.u32_and _ _ | with_reducible exact Go.Rn.u32_or _ _ | with_reducible exact u32_add _ _ | with_reducible exact u32_shl _ _ (by decide) | with_reducible exact u32_shr _ _ (by decide) | with_reducible exact u32_of_u8 _ | exact wr_i64 (by omega) (by omega) | rfl)) ?_)
      refine Asy.tail (by kernel_rfl) ?_
      intro w9 X9
      simp only [satsAll]
      refine RunL.val rfl rfl rfl (OpV.indexA1 Tryd.tOk (16 + k) rfl rfl rfl rfl (by omega)) ?_
      refine RunL.store Tryd.tOk rfl rfl rfl rfl rfl (Z8.ext X9 id) (by simp [vals_length, hsl, Value.cells]; omega) rfl fun w10 t10 => ?_
      have X10 : Ext w w10 := (X7.trans (X8.trans X9)).write t10.ext (by intro i hi hlt; subst hi; omega)
      have Z10 : Blk w10 B4 (vals (sched (words l 16) (k + 1) ++ List.replicate (48 - (k + 1)) 0)) 116 := by
        have := t10.at_
        have e := set_at (n := 48 - (k + 1)) (nextW (sched (words l 16) k) k) hsl
        rw [show 48 - (k + 1) + 1 = 48 - k by omega] at e
        unfold Blk
        rw [sched, ← e, this]
        rw [Nat.zero_add]
        rfl
      repeat (first | refine RunL.pureI Tryd.tOk rfl rfl rfl (by (first | exact wr_i64 (by omega) (by omega) | exact wm_i64 (by omega) | exact wq_i64 (by omega) (by omega) (by omega) | rfl)) ?_ | refine RunE.region ?_ | refine RunL.nil ?_ | refine RunE.inBlock ?_)
      exact RunE.weaken (by repeat (first | exact Sub.nil _ | refine Sub.cons rfl ?_)) (again (k + 1) _ (by omega) ⟨by omega, X10, Z10⟩)
    · have hk : k = 48 := by omega
      subst hk
      clear again
      repeat (first | refine RunL.pure Tryd.tOk rfl rfl rfl ?_ | refine RunE.seq ?_ | refine RunE.region ?_ | refine RunE.exit rfl ?_)
      have hb4 : Row w4 1 0 (vals kTab) := hkT.extE X4
      have Zb := hb.ext X4 id
      refine RunL.val rfl rfl rfl (OpV.loadN (cs := vals s.l) Tryd.tOk rfl rfl rfl rfl Zb.row) ?_
      skip
      refine RunL.alloc Tryd.tOk rfl rfl rfl fun B9 w5 a5 => ?_
      have hB9 := a5.eq
      have X5 := X4.trans a5.ext
      have h4 := Z4.lt
      have Z5 := Z4.ext a5.ext id
      refine RunL.store (v := .agg (vals s.l).toArray) Tryd.tOk rfl rfl rfl rfl rfl (cs := List.replicate 8 (.int .u32 0)) a5.at_ rfl rfl fun w6 t6 => ?_
      have X6 : Ext w w6 := X5.write t6.ext (by intro i hi hlt; subst hi; have := X4.size; omega)
      have Z6 := Z5.ext t6.ext (by omega)
      have V6 : Blk w6 B9 (vals s.l) 92 := t6.at_
      have hwB : w.heap.size ≤ B9 := by have := X4.size; omega
      clear a5 t6 Z5 X5 Z4 X4 Zb
      repeat (first | refine RunL.pureI Tryd.tOk rfl rfl rfl (by (first | exact wr_i64 (by omega) (by omega) | exact wm_i64 (by omega) | exact wq_i64 (by omega) (by omega) (by omega) | rfl)) ?_ | refine RunE.seq ?_ | refine RunE.region ?_ | refine RunL.nil ?_ | refine RunE.block ?_)
      generalize hws : sched (words l 16) 48 = ws
      rw [hws] at Z6 hsl
      refine RunE.loop (ι := Nat) (fun t => [(0, .pointer (some ⟨b, 0, none⟩)), (4, .pointer (some ⟨B4, 0, none⟩)), (9, .pointer (some ⟨B9, 0, none⟩)), (69, .int .i64 (t : Int))])
        (fun t w' => t ≤ 64 ∧ Ext w w' ∧ Blk w' B4 (vals (ws ++ [])) 116 ∧ Blk w' B9 (vals (rnds ws s t).l) 92) (fun t => 64 - t) 0 (by repeat (first | exact Sub.nil _ | refine Sub.cons rfl ?_)) ⟨by omega, X6, Z6, V6⟩ ?_
      rintro t w7 ⟨ht, X7, Z7, V7⟩ again
      repeat (first | refine RunL.pure Tryd.tOk rfl rfl rfl ?_ | refine RunE.seq ?_ | refine RunE.region ?_ | refine RunL.nil ?_)
      refine RunE.cond rfl (fun hlt3 => ?_) (fun hlt3 => ?_) <;> (first | replace hlt3 := of_decide_eq_true hlt3 | replace hlt3 := of_decide_eq_false hlt3 | replace hlt3 := beq_iff_eq.1 hlt3 | replace hlt3 := beq_eq_false_iff_ne.1 hlt3 | replace hlt3 := bne_iff_ne.1 hlt3 | replace hlt3 := bne_eq_false_iff_eq.1 hlt3 | skip)
      · have ht' : t < kTab.length := by simp [kTab]; omega
        repeat (first | refine RunL.pureI Tryd.tOk rfl rfl rfl (by (first | exact wr_i64 (by omega) (by omega) | exact wm_i64 (by omega) | exact wq_i64 (by omega) (by omega) (by omega) | rfl)) ?_ | refine RunE.seq ?_ | refine RunE.region ?_ | refine RunL.nil ?_ | refine RunE.block ?_ | refine RunE.skip ?_)
        refine RunE.draw (fun _ => False) mix ?_
        intro w8 X8
        have Z8 := Z7.ext X8 id
        have V8 := V7.ext X8 id
        have K8 : Row w8 1 0 (vals kTab) := hkT.extE (X7.trans X8)
        repeat (first | refine Asy.v rfl rfl rfl rfl (fun _ X_ => OpV.indexAK Tryd.tOk rfl rfl rfl rfl) ?_ | refine Asy.v rfl rfl rfl rfl (fun _ X_ => OpV.load1 Tryd.tOk rfl rfl rfl (Blk.cell (V8.ext X_ id) rfl)) ?_)
        refine Asy.val rfl rfl rfl rfl (fun _ _ => OpE.keep (OpE.call rfl (rotated_ok _ 6 11 25 (by decide) (by decide) (by decide) _))) ?_
        repeat (first | refine Asy.v rfl rfl rfl rfl (fun _ X_ => OpV.xor32 rfl rfl) ?_ | refine Asy.v rfl rfl rfl rfl (fun _ X_ => OpV.and32 rfl rfl) ?_ | refine Asy.v rfl rfl rfl rfl (fun _ X_ => OpV.add32 rfl rfl) ?_ | refine Asy.pureI Tryd.tOk rfl rfl rfl (by (first | exact wr_i64 (by omega) (by omega) | exact wm_i64 (by omega) | exact wq_i64 (by omega) (by omega) (by omega) | rfl)) ?_ | refine Asy.v rfl rfl rfl rfl (fun _ X_ => OpV.indexAK Tryd.tOk rfl rfl rfl rfl) ?_ | refine Asy.v rfl rfl rfl rfl (fun _ X_ => OpV.load1 Tryd.tOk rfl rfl rfl (Blk.cell (V8.ext X_ id) rfl)) ?_)
        refine Asy.v rfl rfl rfl rfl (fun _ _ => OpV.indexA1 Tryd.tOk t rfl rfl rfl rfl (by omega)) ?_
        refine Asy.v rfl rfl rfl rfl (fun _ X' => OpV.load1 Tryd.tOk rfl rfl rfl (K8.extE X' t _ (vals_get' ht'))) ?_
        repeat (first | refine Asy.v rfl rfl rfl rfl (fun _ X_ => OpV.add32 rfl rfl) ?_ | refine Asy.pureI Tryd.tOk rfl rfl rfl (by (first | exact wr_i64 (by omega) (by omega) | exact wm_i64 (by omega) | exact wq_i64 (by omega) (by omega) (by omega) | rfl)) ?_)
        refine Asy.v rfl rfl rfl rfl (fun _ _ => OpV.indexA1 Tryd.tOk t rfl rfl rfl rfl (by omega)) ?_
        refine Asy.v rfl rfl rfl rfl (fun _ X' => OpV.load1 Tryd.tOk rfl rfl rfl ((Z8.ext X' id).row t _ (vals_get _ (by omega)))) ?_
        repeat (first | refine Asy.v rfl rfl rfl rfl (fun _ X_ => OpV.add32 rfl rfl) ?_ | refine Asy.pureI Tryd.tOk rfl rfl rfl (by (first | exact wr_i64 (by omega) (by omega) | exact wm_i64 (by omega) | exact wq_i64 (by omega) (by omega) (by omega) | rfl)) ?_)
        refine Asy.tail (by kernel_rfl) ?_
        intro w9 X9
        simp only [satsAll]
        repeat (first | refine RunE.seq ?_ | refine RunL.nil ?_)
        have Y9 := X8.trans X9
        have Z9 := Z7.ext Y9 id
        have V9 := V7.ext Y9 id
        have Q9 := X7.trans Y9
        clear Z7 V7 X7 Y9 X8 X9 Z8 V8 K8
        refine RunE.draw (fun _ => False) mix ?_
        intro u0 E0
        have U0 := V9.ext E0 id
        repeat (first | refine Asy.v rfl rfl rfl rfl (fun _ X_ => OpV.indexAK Tryd.tOk rfl rfl rfl rfl) ?_ | refine Asy.v rfl rfl rfl rfl (fun _ X_ => OpV.load1 Tryd.tOk rfl rfl rfl (Blk.cell (U0.ext X_ id) rfl)) ?_)
        refine Asy.val rfl rfl rfl rfl (fun _ _ => OpE.keep (OpE.call rfl (rotated_ok _ 2 13 22 (by decide) (by decide) (by decide) _))) ?_
        repeat (first | refine Asy.v rfl rfl rfl rfl (fun _ X_ => OpV.and32 rfl rfl) ?_ | refine Asy.v rfl rfl rfl rfl (fun _ X_ => OpV.or32 rfl rfl) ?_ | refine Asy.v rfl rfl rfl rfl (fun _ X_ => OpV.add32 rfl rfl) ?_ | refine Asy.pureI Tryd.tOk rfl rfl rfl (by (first | exact wr_i64 (by omega) (by omega) | exact wm_i64 (by omega) | exact wq_i64 (by omega) (by omega) (by omega) | rfl)) ?_ | refine Asy.v rfl rfl rfl rfl (fun _ X_ => OpV.indexAK Tryd.tOk rfl rfl rfl rfl) ?_ | refine Asy.v rfl rfl rfl rfl (fun _ X_ => OpV.load1 Tryd.tOk rfl rfl rfl (Blk.cell (U0.ext X_ id) rfl)) ?_)
        refine Asy.tail (by kernel_rfl) ?_
        intro u1 E1
        simp only [satsAll]
        repeat (first | refine RunE.seq ?_ | refine RunL.nil ?_)
        have F1 := E0.trans E1
        have Z1 := Z9.ext F1 id
        have V1 := V9.ext F1 id
        have Q1 := Q9.trans F1
        clear Z9 V9 Q9 E0 E1 F1 U0
        refine RunE.draw (fun _ => False) mix ?_
        intro u2 E2
        refine Asy.v rfl rfl rfl rfl (fun _ _ => OpV.sliceA1 (lo := 1) (hi := 8) Tryd.tOk rfl rfl (.some rfl rfl) .none (by decide) (by decide) (by decide)) ?_
        refine Asy.v rfl rfl rfl rfl (fun _ _ => OpV.sliceA0 (hi := 7) Tryd.tOk rfl rfl .none (.some rfl rfl) (by decide)) ?_
        refine Asy.tail (by kernel_rfl) ?_
        intro u3 E3
        simp only [satsAll]
        have F3 := E2.trans E3
        have Z3 := Z1.ext F3 id
        have V3 := V1.ext F3 id
        have Q3 := Q1.trans F3
        clear Z1 V1 Q1 E2 E3 F3
        refine RunL.ex rfl rfl rfl (OpE.copy (vs := (vals (rnds ws s t).l).take 7) Tryd.tOk rfl rfl rfl V3 (V3.row.take 7) rfl (Nat.le_of_ble_eq_true rfl) rfl) ?_
        rintro _ u4 ⟨rfl, t4⟩
        have Z4 := Z3.ext t4.ext (by omega)
        have V4 : Blk u4 B9 (vals [(rnds ws s t).a, (rnds ws s t).a, (rnds ws s t).b, (rnds ws s t).c, (rnds ws s t).d, (rnds ws s t).e, (rnds ws s t).f, (rnds ws s t).g]) 92 := t4.at_
        have Q4 : Ext w u4 := Q3.write t4.ext (by intro i hi hlt; subst hi; omega)
        clear Z3 V3 Q3 t4
        repeat (first | refine RunE.seq ?_ | refine RunE.region ?_ | refine RunL.nil ?_)
        repeat (first | refine RunL.val rfl rfl rfl (OpV.add32 rfl rfl) ?_ | refine RunL.pureI Tryd.tOk rfl rfl rfl (by (first | exact wr_i64 (by omega) (by omega) | exact wm_i64 (by omega) | exact wq_i64 (by omega) (by omega) (by omega) | rfl)) ?_ | refine RunL.val rfl rfl rfl (OpV.indexAK Tryd.tOk rfl rfl rfl rfl) ?_ | refine RunL.val rfl rfl rfl (OpV.load1 Tryd.tOk rfl rfl rfl (Blk.cell V4 rfl)) ?_)
        refine RunL.store Tryd.tOk rfl rfl rfl rfl rfl V4 rfl rfl fun u5 t5 => ?_
        have V5 := t5.at_
        have Z5 := Z4.ext t5.ext (by omega)
        have Q5 : Ext w u5 := Q4.write t5.ext (by intro i hi hlt; subst hi; omega)
        clear V4 Z4 Q4 t5
        repeat (first | refine RunL.val rfl rfl rfl (OpV.add32 rfl rfl) ?_ | refine RunL.pureI Tryd.tOk rfl rfl rfl (by (first | exact wr_i64 (by omega) (by omega) | exact wm_i64 (by omega) | exact wq_i64 (by omega) (by omega) (by omega) | rfl)) ?_ | refine RunL.val rfl rfl rfl (OpV.indexAK Tryd.tOk rfl rfl rfl rfl) ?_ | refine RunE.region ?_ | refine RunL.nil ?_)
        refine RunL.store Tryd.tOk rfl rfl rfl rfl rfl V5 rfl rfl fun u6 t6 => ?_
        have V6 := t6.at_
        have Z6 := Z5.ext t6.ext (by omega)
        have Q6 : Ext w u6 := Q5.write t6.ext (by intro i hi hlt; subst hi; omega)
        clear V5 Z5 Q5 t6
        repeat (first | refine RunL.pureI Tryd.tOk rfl rfl rfl (by (first | exact wr_i64 (by omega) (by omega) | exact wm_i64 (by omega) | exact wq_i64 (by omega) (by omega) (by omega) | rfl)) ?_ | refine RunE.region ?_ | refine RunL.nil ?_ | refine RunE.inBlock ?_)
        refine RunE.weaken (by repeat (first | exact Sub.nil _ | refine Sub.cons rfl ?_)) (again (t + 1) _ (by omega) ⟨by omega, Q6, Z6, ?_⟩)
        have e : vals (rnds ws s (t + 1)).l = vals (rnd (rnds ws s t) (kTab.getD t 0) (ws.getD t 0)).l := rfl
        rw [e]
        rw [ch_eq, maj_eq] at V6
        exact V6
      · have ht64 : t = 64 := by omega
        subst ht64
        clear again
        repeat (first | refine RunL.pureI Tryd.tOk rfl rfl rfl (by (first | exact wr_i64 (by omega) (by omega) | exact wm_i64 (by omega) | exact wq_i64 (by omega) (by omega) (by omega) | rfl)) ?_ | refine RunE.seq ?_ | refine RunE.region ?_ | refine RunL.nil ?_ | refine RunE.block ?_ | refine RunE.exit rfl ?_)
        have hvl : (vals (rnds ws s 64).l).length = 8 := rfl
        have hbl : block s l = s.add (rnds ws s 64) := by rw [block, hws]
        generalize rnds ws s 64 = v at V7 hbl hvl
        refine RunE.loop (ι := Nat) (fun i => [(0, .pointer (some ⟨b, 0, none⟩)), (9, .pointer (some ⟨B9, 0, none⟩)), (129, .int .i64 (i : Int))])
          (fun i w' => i ≤ 8 ∧ ExtB (· = b) w w' ∧ Blk w' b (vals (midw s v i)) bt ∧ Blk w' B9 (vals v.l) 92) (fun i => 8 - i) 0 (by repeat (first | exact Sub.nil _ | refine Sub.cons rfl ?_)) ⟨by omega, .of_ext X7, hb.ext X7 id, V7⟩ ?_
        clear V7 X7 Z7
        rintro i u0 ⟨hi, E0, P0, V0⟩ again
        repeat (first | refine RunL.pure Tryd.tOk rfl rfl rfl ?_ | refine RunE.seq ?_ | refine RunE.region ?_ | refine RunL.nil ?_)
        refine RunE.cond rfl (fun hlt4 => ?_) (fun hlt4 => ?_) <;> (first | replace hlt4 := of_decide_eq_true hlt4 | replace hlt4 := of_decide_eq_false hlt4 | replace hlt4 := beq_iff_eq.1 hlt4 | replace hlt4 := beq_eq_false_iff_ne.1 hlt4 | replace hlt4 := bne_iff_ne.1 hlt4 | replace hlt4 := bne_eq_false_iff_eq.1 hlt4 | skip)
        · repeat (first | refine RunL.pureI Tryd.tOk rfl rfl rfl (by (first | exact wr_i64 (by omega) (by omega) | exact wm_i64 (by omega) | exact wq_i64 (by omega) (by omega) (by omega) | rfl)) ?_ | refine RunE.seq ?_ | refine RunE.region ?_ | refine RunL.nil ?_ | refine RunE.block ?_ | refine RunE.skip ?_)
          refine RunE.draw (fun _ => False) mix ?_
          intro u1 E1
          have P1 := P0.ext E1 id
          have V1 := V0.ext E1 id
          repeat (first | refine Asy.pureI Tryd.tOk rfl rfl rfl (by (first | exact wr_i64 (by omega) (by omega) | exact wm_i64 (by omega) | exact wq_i64 (by omega) (by omega) (by omega) | rfl)) ?_ | refine Asy.pure Tryd.tOk rfl rfl rfl ?_)
          refine Asy.v rfl rfl rfl rfl (fun _ _ => OpV.indexA1 Tryd.tOk i rfl rfl rfl rfl (by omega)) ?_
          refine Asy.v rfl rfl rfl rfl (fun _ X' => OpV.load1 Tryd.tOk rfl rfl rfl ((P1.ext X' id).row i _ (midw_set s v i (by omega)).2)) ?_
          repeat (first | refine Asy.pureI Tryd.tOk rfl rfl rfl (by (first | exact wr_i64 (by omega) (by omega) | exact wm_i64 (by omega) | exact wq_i64 (by omega) (by omega) (by omega) | rfl)) ?_)
          refine Asy.v rfl rfl rfl rfl (fun _ _ => OpV.indexA1 Tryd.tOk i rfl rfl rfl rfl (by omega)) ?_
          refine Asy.v rfl rfl rfl rfl (fun _ X' => OpV.load1 Tryd.tOk rfl rfl rfl ((V1.ext X' id).row i _ (vals_get' (by show i < 8; omega)))) ?_
          repeat (first | refine Asy.v rfl rfl rfl rfl (fun _ X_ => OpV.add32 rfl rfl) ?_ | refine Asy.pure Tryd.tOk rfl rfl rfl ?_)
          refine Asy.tail (by kernel_rfl) ?_
          intro u2 E2
          simp only [satsAll]
          have P2 := P1.ext E2 id
          have V2 := V1.ext E2 id
          have Q2 := E0.trans (.of_ext (E1.trans E2))
          skip
          refine RunL.val rfl rfl rfl (OpV.indexA1 Tryd.tOk i rfl rfl rfl rfl (by omega)) ?_
          refine RunL.store Tryd.tOk rfl rfl rfl rfl rfl P2 (by simp [vals_length, midw, S8.l, S8.add, Value.cells]; omega) rfl fun u3 t3 => ?_
          have Q3 := Q2.write t3.ext (by intro i hi _; exact hi)
          have V3 := V2.ext t3.ext (by omega)
          have P3 : Blk u3 b (vals (midw s v (i + 1))) bt := by
            have := t3.at_
            rw [← (midw_set s v i (by omega)).1]
            rw [Nat.zero_add] at this
            exact this
          repeat (first | refine RunL.pureI Tryd.tOk rfl rfl rfl (by (first | exact wr_i64 (by omega) (by omega) | exact wm_i64 (by omega) | exact wq_i64 (by omega) (by omega) (by omega) | rfl)) ?_ | refine RunE.region ?_ | refine RunL.nil ?_ | refine RunE.inBlock ?_)
          exact RunE.weaken (by repeat (first | exact Sub.nil _ | refine Sub.cons rfl ?_)) (again (i + 1) _ (by omega) ⟨by omega, Q3, P3, V3⟩)
        · have hi8 : i = 8 := by omega
          subst hi8
          repeat (first | refine RunE.exit rfl ?_)
          refine RunE.fallFn Tryd.func67 .nil ⟨rfl, ?_, E0⟩
          rw [hbl]; exact P0
end Go.Sg
end
section
/- The program's SHA-256: a number's bytes, a text's digest. -/
namespace Go.Sg
open Go.Rn Go.Sha Go.Proofs
attribute [local irreducible] Go.Rn.RunL Go.Rn.RunE Go.Rn.Asy Go.Rn.OpV Go.Rn.OpE Go.Rn.ExecE

theorem put_ok (B o len cap n : Nat) (X Y Z : List UInt8) (t : TypeId) (w : World) (hX : X.length = o) (hY : Y.length = len) (h8 : len ≤ 8) (hb : Blk w B (bytesV (X ++ Y ++ Z)) t) :
    Rets Tryd.prog 68 [.slice (some ⟨B, o, none⟩) len cap, .int .u64 (n : Int)] w fun v w' => v = .tuple #[] ∧ Blk w' B (bytesV (X ++ be len n ++ Z)) t ∧ ExtB (· = B) w w' := by
  refine RetsX.of (nt := 23) Tryd.func68 (by kernel_rfl) rfl rfl (by simp) (by simp only [argEnv]; rfl) ?_
  repeat (first | refine RunL.pureI Tryd.tOk rfl rfl rfl (by (first | exact wr_i64 (by omega) (by omega) | exact wm_i64 (by omega) | exact wq_i64 (by omega) (by omega) (by omega) | rfl)) ?_ | refine RunL.pure Tryd.tOk rfl rfl rfl ?_ | refine RunE.seq ?_ | refine RunE.region ?_ | refine RunL.nil ?_ | refine RunE.block ?_)
  refine RunE.loop (ι := Nat) (fun i => [(0, .slice (some ⟨B, o, none⟩) len cap), (1, .int .u64 (n : Int)), (6, .int .i64 (len : Int)), (7, .int .i64 (i : Int))])
    (fun i w' => i ≤ len ∧ ExtB (· = B) w w' ∧ Blk w' B (bytesV (X ++ (Y.take (len - i) ++ be i n) ++ Z)) t) (fun i => len - i) 0 (by repeat (first | exact Sub.nil _ | refine Sub.cons rfl ?_))
    ⟨by omega, .refl _ _, by rw [Nat.sub_zero, ← hY, List.take_length]; simpa [be] using hb⟩ ?_
  rintro i w1 ⟨hi, E1, B1⟩ again
  repeat (first | refine RunL.pure Tryd.tOk rfl rfl rfl ?_ | refine RunE.seq ?_ | refine RunE.region ?_ | refine RunL.nil ?_)
  refine RunE.cond rfl (fun hlt => ?_) (fun hlt => ?_) <;> (first | replace hlt := of_decide_eq_true hlt | replace hlt := of_decide_eq_false hlt | replace hlt := beq_iff_eq.1 hlt | replace hlt := beq_eq_false_iff_ne.1 hlt | replace hlt := bne_iff_ne.1 hlt | replace hlt := bne_eq_false_iff_eq.1 hlt | skip)
  · have hlt' : i < len := by omega
    repeat (first | refine RunL.pureI Tryd.tOk rfl rfl rfl (by (first | exact i64_mul 8 _ (by omega) | exact u64_shr _ _ (by omega) | exact u8_of_nat _ | exact wr_i64 (by omega) (by omega) | exact wm_i64 (by omega) | exact wq_i64 (by omega) (by omega) (by omega) | rfl)) ?_ | refine RunL.pure Tryd.tOk rfl rfl rfl ?_ | refine RunE.seq ?_ | refine RunE.region ?_ | refine RunL.nil ?_ | refine RunE.block ?_ | refine RunE.skip ?_)
    refine RunL.val rfl rfl rfl (OpV.indexS1 Tryd.tOk (len - 1 - i) rfl rfl rfl (by omega) (by omega)) ?_
    have e1 : X ++ (Y.take (len - i) ++ be i n) ++ Z = (X ++ Y.take (len - 1 - i)) ++ Y.getD (len - 1 - i) 0 :: (be i n ++ Z) := by
      have hy : len - 1 - i < Y.length := by omega
      have : Y.take (len - i) = Y.take (len - 1 - i) ++ [Y.getD (len - 1 - i) 0] := by
        rw [show len - i = (len - 1 - i) + 1 by omega, List.take_add_one, List.getElem?_eq_getElem hy, List.getD_eq_getElem?_getD, List.getElem?_eq_getElem hy]
        rfl
      rw [this]; simp
    rw [e1] at B1
    refine RunL.store Tryd.tOk rfl rfl rfl rfl rfl B1 (by simp [bytesV_length, Value.cells, be_length]; omega) rfl fun w2 t2 => ?_
    have E2 := E1.write t2.ext (by intro i hi _; exact hi)
    have B2 : Blk w2 B (bytesV (X ++ (Y.take (len - (i + 1)) ++ be (i + 1) n) ++ Z)) t := by
      have := t2.at_
      have e2 := set_byte (X ++ Y.take (len - 1 - i)) (be i n ++ Z) (Y.getD (len - 1 - i) 0) (UInt8.ofNat (n / 2 ^ (8 * i))) (o + (len - 1 - i)) (by rw [List.length_append, List.length_take, hX]; omega)
      have e3 : X ++ (Y.take (len - (i + 1)) ++ be (i + 1) n) ++ Z = (X ++ Y.take (len - 1 - i)) ++ UInt8.ofNat (n / 2 ^ (8 * i)) :: (be i n ++ Z) := by
        rw [show len - (i + 1) = len - 1 - i by omega]; simp [be]
      unfold Blk
      rw [e3, ← e2, this]
      rfl
    repeat (first | refine RunL.pureI Tryd.tOk rfl rfl rfl (by (first | exact wr_i64 (by omega) (by omega) | exact wm_i64 (by omega) | exact wq_i64 (by omega) (by omega) (by omega) | rfl)) ?_ | refine RunE.region ?_ | refine RunL.nil ?_ | refine RunE.inBlock ?_)
    exact RunE.weaken (by repeat (first | exact Sub.nil _ | refine Sub.cons rfl ?_)) (again (i + 1) _ (by omega) ⟨by omega, E2, B2⟩)
  · have hil : i = len := by omega
    subst hil
    repeat (first | refine RunE.exit rfl ?_)
    refine RunE.fallFn Tryd.func68 .nil ⟨rfl, ?_, E1⟩
    rw [Nat.sub_self] at B1
    simpa using B1

/-- A block, handed over as a slice. -/
theorem absorb_sl (s : S8) (l : List UInt8) (b bt : Nat) (v : Value) (w : World) (hb : Blk w b (vals s.l) bt) (hl : l.length = 64) (hv : IsSl w 1 v 64 (bytesV l)) (hkT : Row w 1 0 (vals kTab)) (hb1 : b ≠ 1) :
    Rets Tryd.prog 67 [.pointer (some ⟨b, 0, none⟩), v] w fun v w' => v = .tuple #[] ∧ Blk w' b (vals (block s l).l) bt ∧ ExtB (· = b) w w' := by
  obtain ⟨b', o', cap, rfl, hr, -, hc⟩ := hv.held (by decide)
  exact absorb_ok s l b bt b' o' cap w hb hl hr hc hkT hb1

set_option maxHeartbeats 4000000 in
theorem sum_ok (v : Value) (l : List UInt8) (w : World) (hv : IsSl w 1 v l.length (bytesV l)) (hl : l.length < 1152921504606846976) (hS : Row w 0 0 (vals init8.l)) (hkT : Row w 1 0 (vals kTab)) :
    Rets Tryd.prog 38 [v] w fun r w' => r = .agg (bytesV (sha l)).toArray ∧ Ext w w' := by
  have h2 : 1 < w.heap.size := cell_lt (hkT 0 _ rfl)
  refine RetsX.of (nt := 69) Tryd.func38 (by kernel_rfl) rfl rfl (by simp) (by simp only [argEnv]; rfl) ?_
  repeat (first | refine RunE.seq ?_ | refine RunE.region ?_)
  refine RunL.alloc Tryd.tOk rfl rfl rfl fun B2 w1 a1 => ?_
  repeat (first | refine RunE.seq ?_ | refine RunE.region ?_ | refine RunL.nil ?_)
  refine RunL.val rfl rfl rfl (OpV.loadN (cs := vals init8.l) Tryd.tOk rfl rfl rfl rfl (hS.extE a1.ext)) ?_
  refine RunL.alloc Tryd.tOk rfl rfl rfl fun B3 w2 a2 => ?_
  refine RunL.store (v := .agg (vals init8.l).toArray) Tryd.tOk rfl rfl rfl rfl rfl (cs := List.replicate 8 (.int .u32 0)) a2.at_ rfl rfl fun w3 t3 => ?_
  have hB2 := a1.eq
  have hB3 := a2.eq
  have hs1 := a1.size
  have X3 : Ext w w3 := (a1.ext.trans a2.ext).write t3.ext (by intro i hi hlt; subst hi; omega)
  have D3 : Blk w3 B2 (bytesV (List.replicate 32 0)) 23 := Blk.ext (Blk.ext (w := w1) (cs := List.replicate 32 (.int .u8 0)) a1.at_ a2.ext id) t3.ext (by omega)
  have V3 : Blk w3 B3 (vals (run init8 l 0).l) 92 := t3.at_
  clear a1 a2 t3
  repeat (first | refine RunL.pure Tryd.tOk rfl rfl rfl ?_ | refine RunE.seq ?_ | refine RunE.region ?_ | refine RunL.nil ?_ | refine RunE.block ?_)
  refine RunE.loop (ι := Nat × Value) (fun x => [(0, v), (2, .pointer (some ⟨B2, 0, none⟩)), (3, .pointer (some ⟨B3, 0, none⟩)), (4, .func (.func 67) [.pointer (some ⟨B3, 0, none⟩)].toArray [].toArray), (5, x.2)])
    (fun x w' => 64 * x.1 ≤ l.length ∧ Ext w w' ∧ IsSl w' 1 x.2 (l.length - 64 * x.1) (bytesV (l.drop (64 * x.1))) ∧ x.2.ownBlock = v.ownBlock ∧ Blk w' B2 (bytesV (List.replicate 32 0)) 23 ∧ Blk w' B3 (vals (run init8 l x.1).l) 92)
    (fun x => l.length - 64 * x.1) (0, v) (by repeat (first | exact Sub.nil _ | refine Sub.cons rfl ?_)) ⟨by simp, X3, by simpa using hv.extE X3, rfl, D3, V3⟩ ?_
  clear V3 D3 X3
  rintro ⟨k, rv⟩ w4 ⟨hk, X4, R4, hrv, D4, V4⟩ again
  simp only at hk R4 hrv V4 again ⊢
  repeat (first | refine RunL.pure Tryd.tOk rfl rfl rfl ?_ | refine RunE.seq ?_ | refine RunE.region ?_)
  refine RunL.val rfl rfl rfl (OpV.lenSl Tryd.tOk rfl rfl R4) ?_
  repeat (first | refine RunL.pure Tryd.tOk rfl rfl rfl ?_ | refine RunL.nil ?_)
  refine RunE.cond rfl (fun hge => ?_) (fun hge => ?_) <;> (first | replace hge := of_decide_eq_true hge | replace hge := of_decide_eq_false hge | replace hge := beq_iff_eq.1 hge | replace hge := beq_eq_false_iff_ne.1 hge | replace hge := bne_iff_ne.1 hge | replace hge := bne_eq_false_iff_eq.1 hge | skip)
  · repeat (first | refine RunL.pure Tryd.tOk rfl rfl rfl ?_ | refine RunE.seq ?_ | refine RunE.region ?_ | refine RunE.block ?_ | refine RunE.skip ?_)
    refine RunL.ex rfl rfl rfl (OpE.part (lo := 0) (hi := 64) Tryd.tOk rfl rfl R4 .none (.some rfl rfl) (by omega) (by omega)) ?_
    rintro u _ ⟨rfl, hu1, hu⟩
    have hu' : IsSl w4 1 u 64 (bytesV ((l.drop (64 * k)).take 64)) := by simpa [bytesV_drop, bytesV_take] using hu
    refine RunL.callV (fv := .func (.func 67) [.pointer (some ⟨B3, 0, none⟩)].toArray [].toArray) rfl rfl rfl rfl
      (Rets.v (absorb_sl _ _ B3 _ _ w4 V4 (by rw [List.length_take, List.length_drop]; omega) hu' (hkT.extE X4) (by omega)) rfl) (fun _ _ _ h => h.elim) ?_
    rintro _ w5 ⟨rfl, V5, E5⟩
    have X5 : Ext w w5 := X4.write E5 (by intro i hi hlt; subst hi; omega)
    have D5 := D4.ext E5 (by omega)
    have R5 := R4.ext E5 (by intro j hj; rw [hrv] at hj; intro e; have := hv.lt (by omega) (by decide) hj; omega)
    repeat (first | refine RunL.pure Tryd.tOk rfl rfl rfl ?_ | refine RunE.region ?_ | refine RunL.nil ?_ | refine RunE.inBlock ?_)
    refine RunL.ex rfl rfl rfl (OpE.part (lo := 64) (hi := l.length - 64 * k) Tryd.tOk rfl rfl R5 (.some rfl rfl) .none (by omega) (by omega)) ?_
    rintro u2 _ ⟨rfl, hu3, hu4⟩
    have hu5 : IsSl w5 1 u2 (l.length - 64 * (k + 1)) (bytesV (l.drop (64 * (k + 1)))) := by
      have e : (bytesV (l.drop (64 * k))).drop 64 = bytesV (l.drop (64 * (k + 1))) := by rw [bytesV_drop, List.drop_drop]; rfl
      have e2 : l.length - 64 * k - 64 = l.length - 64 * (k + 1) := by omega
      rw [Nat.mul_one, Nat.mul_one, e, e2, List.take_of_length_le (by rw [bytesV_length, List.length_drop]; omega)] at hu4
      exact hu4
    repeat (first | refine RunL.pure Tryd.tOk rfl rfl rfl ?_ | refine RunL.nil ?_)
    exact RunE.weaken (by repeat (first | exact Sub.nil _ | refine Sub.cons rfl ?_)) (again (k + 1, u2) _ (by simp only; omega) ⟨by simp only; omega, X5, hu5, hu3.trans hrv, D5, V5⟩)
  · have hkq : k = l.length / 64 := by omega
    clear again
    repeat (first | refine RunE.seq ?_ | refine RunE.region ?_ | refine RunE.exit rfl ?_)
    have hw4 := X4.size
    have hB2lt := D4.lt
    have hB3lt := V4.lt
    have hDl : (l.drop (64 * k)).length = l.length - 64 * k := List.length_drop
    refine RunL.ex rfl rfl rfl (OpE.make (l := 64) (c := 128) Tryd.tOk rfl rfl rfl rfl rfl rfl rfl (by decide) (by decide) (by decide)) ?_
    rintro _ w5 ⟨B6, rfl, a5⟩
    have hB6 := a5.eq
    have V5 := V4.ext a5.ext id
    have D5 := D4.ext a5.ext id
    have R5 := R4.extE a5.ext
    have X5 := X4.trans a5.ext
    repeat (first | refine RunL.pure Tryd.tOk rfl rfl rfl ?_ | refine RunE.seq ?_ | refine RunE.region ?_ | refine RunL.nil ?_)
    have C5 : Blk w5 B6 (bytesV (List.replicate 128 0)) 5 := by rw [← bytesV_replicate]; unfold Blk; rw [← zerosL_one]; exact a5.at_
    clear a5 V4 D4
    refine RunL.ex rfl rfl rfl (OpE.copySl Tryd.tOk rfl rfl rfl C5 R5 (by omega) (by simp [bytesV_length]; omega) (bytesV_plain _)) ?_
    rintro _ w6 ⟨rfl, C6, E6⟩
    have V6 := V5.ext E6 (by omega)
    have D6 := D5.ext E6 (by omega)
    have X6 : Ext w w6 := X5.write E6 (by intro i hi hlt; subst hi; omega)
    clear C5 V5 D5 X5 E6
    have e6 : setAt (bytesV (List.replicate 128 0)) 0 (bytesV (l.drop (64 * k))) = bytesV (l.drop (64 * k) ++ 0 :: List.replicate (127 - (l.length - 64 * k)) 0) := by
      have := setAt_bytes [] (List.replicate (l.length - 64 * k) 0) (0 :: List.replicate (127 - (l.length - 64 * k)) 0) (l.drop (64 * k)) 0 rfl (by simp)
      rw [List.nil_append, List.nil_append, ← List.replicate_succ, List.replicate_append_replicate, show l.length - 64 * k + (127 - (l.length - 64 * k) + 1) = 128 by omega] at this
      rw [this, ← List.replicate_succ]
    rw [e6] at C6
    repeat (first | refine RunL.pure Tryd.tOk rfl rfl rfl ?_ | refine RunE.seq ?_ | refine RunE.region ?_ | refine RunL.nil ?_)
    refine RunL.val rfl rfl rfl (OpV.lenSl Tryd.tOk rfl rfl R4) ?_
    refine RunL.val rfl rfl rfl (OpV.indexS1 Tryd.tOk (l.length - 64 * k) rfl rfl rfl rfl (by omega)) ?_
    refine RunL.store Tryd.tOk rfl rfl rfl rfl rfl C6 (by simp [bytesV_length, Value.cells] <;> omega) rfl fun w7 t7 => ?_
    have V7 := V6.ext t7.ext (by omega)
    have D7 := D6.ext t7.ext (by omega)
    have X7 : Ext w w7 := X6.write t7.ext (by intro i hi hlt; subst hi; omega)
    have C7 : Blk w7 B6 (bytesV (l.drop (64 * k) ++ 128 :: List.replicate (127 - (l.length - 64 * k)) 0)) 5 := by
      have := t7.at_
      rw [Nat.zero_add] at this
      unfold Blk
      rw [this, ← set_byte (l.drop (64 * k)) _ 0 128 (l.length - 64 * k) hDl]
      rfl
    clear C6 V6 D6 X6 t7 e6
    repeat (first | refine RunL.pure Tryd.tOk rfl rfl rfl ?_ | refine RunE.seq ?_ | refine RunE.region ?_ | refine RunL.nil ?_)
    refine RunL.val rfl rfl rfl (OpV.lenSl Tryd.tOk rfl rfl R4) ?_
    repeat (first | refine RunL.pure Tryd.tOk rfl rfl rfl ?_ | refine RunL.nil ?_)
    obtain ⟨m, hm⟩ : ∃ m, m = (tailOf l).length := ⟨_, rfl⟩
    have hm2 := tailOf_length l
    rw [← hm] at hm2
    refine RunE.condJoin (ι := Unit) (fun _ => [(0, v), (2, .pointer (some ⟨B2, 0, none⟩)), (3, .pointer (some ⟨B3, 0, none⟩)), (4, .func (.func 67) [.pointer (some ⟨B3, 0, none⟩)].toArray [].toArray), (6, .slice (some ⟨B6, 0, none⟩) m 128)])
      (fun _ w' => w7 = w') rfl ?_ (fun h join => ?_) (fun h join => ?_)
    rotate_left
    · have h' := of_decide_eq_true h
      have hm128 : m = 128 := by rw [hm2, if_pos (by omega)]
      refine RunE.region ?_
      repeat (first | refine RunL.pure Tryd.tOk rfl rfl rfl ?_)
      refine RunL.val rfl rfl rfl (OpV.slice0 (hi := 128) Tryd.tOk rfl rfl .none (.some rfl rfl) (by decide)) ?_
      repeat (first | refine RunL.pure Tryd.tOk rfl rfl rfl ?_)
      refine RunL.nil ?_
      subst hm128
      exact RunE.weaken (by repeat (first | exact Sub.nil _ | refine Sub.cons rfl ?_)) (join () _ rfl)
    · have h' := of_decide_eq_false h
      have hm64 : m = 64 := by rw [hm2, if_neg (by omega)]
      repeat (first | refine RunE.skip ?_)
      subst hm64
      exact RunE.weaken (by repeat (first | exact Sub.nil _ | refine Sub.cons rfl ?_)) (join () _ rfl)
    rintro _ _ rfl
    have hmz : m = 9 + padz l.length + (l.length - 64 * k) := by unfold padz; rw [hm2]; split <;> omega
    have hm8 : m = 64 ∨ m = 128 := by rw [hm2]; split <;> omega
    have ec : l.drop (64 * k) ++ 128 :: List.replicate (127 - (l.length - 64 * k)) 0 = (l.drop (64 * k) ++ 128 :: List.replicate (padz l.length) 0) ++ List.replicate 8 0 ++ List.replicate (128 - m) 0 := by
      rw [List.append_assoc, List.append_assoc, List.cons_append, List.replicate_append_replicate, List.replicate_append_replicate]
      congr 3; omega
    rw [ec] at C7
    repeat (first | refine RunL.pureI Tryd.tOk rfl rfl rfl (by (first | exact wr_i64 (by omega) (by omega) | exact wm_i64 (by omega) | exact wq_i64 (by omega) (by omega) (by omega) | rfl)) ?_ | refine RunL.pure Tryd.tOk rfl rfl rfl ?_ | refine RunE.seq ?_ | refine RunE.region ?_)
    refine RunL.val rfl rfl rfl (OpV.sliceSq (lo := m - 8) (hi := m) (q := m - 8) (len := 8) (cap := 128 - (m - 8)) Tryd.tOk rfl rfl (.some rfl (by omega)) .none (by omega) (by omega) (by rw [offOf_lt (by omega)]; omega) (by omega) rfl) ?_
    repeat (first | refine RunL.pure Tryd.tOk rfl rfl rfl ?_)
    refine RunL.val rfl rfl rfl (OpV.lenSl Tryd.tOk rfl rfl hv) ?_
    repeat (first | refine RunL.pureI Tryd.tOk rfl rfl rfl (by (first | exact u64_nat _ (by omega) | exact u64_mul _ 8 (by omega) | exact wr_i64 (by omega) (by omega) | exact wm_i64 (by omega) | exact wq_i64 (by omega) (by omega) (by omega) | rfl)) ?_)
    refine RunL.call rfl rfl rfl (put_ok B6 (m - 8) 8 _ _ _ _ _ _ _ (by simp; omega) (by simp) (by decide) C7) ?_
    rintro _ w8 ⟨rfl, C8, E8⟩
    have et : l.drop (64 * k) ++ 128 :: List.replicate (padz l.length) 0 ++ be 8 (l.length * 8) = tailOf l := by
      rw [tailOf_eq, ← hkq, Nat.mul_comm 8]; simp
    rw [et] at C8
    have V8 := V7.ext E8 (by omega)
    have D8 := D7.ext E8 (by omega)
    have X8 : Ext w w8 := X7.write E8 (by intro i hi hlt; subst hi; omega)
    have P8 : run init8 l k = run init8 (pad l) (k + 0) := (run_pad init8 l k hk).symm
    rw [P8] at V8
    clear C7 V7 D7 X7 E8 ec P8
    repeat (first | refine RunE.seq ?_ | refine RunL.nil ?_ | refine RunE.block ?_)
    have sl8 : IsSl w8 1 (.slice (some ⟨B6, 0, none⟩) m 128) (m - 64 * 0) (bytesV ((tailOf l).drop (64 * 0))) := by
      refine isSl_blk C8 (fun i u hu => ?_) (by rw [bytesV_length, List.length_drop, ← hm]; omega) (by omega)
      rw [bytesV_append, Nat.zero_add]
      rw [Nat.mul_zero, List.drop_zero] at hu
      rw [List.getElem?_append_left (by
        rcases Nat.lt_or_ge i (bytesV (tailOf l)).length with h | h
        · exact h
        · rw [List.getElem?_eq_none h] at hu; simp at hu)]
      exact hu
    refine RunE.loop (ι := Nat × Value) (fun x => [(0, v), (2, .pointer (some ⟨B2, 0, none⟩)), (3, .pointer (some ⟨B3, 0, none⟩)), (4, .func (.func 67) [.pointer (some ⟨B3, 0, none⟩)].toArray [].toArray), (6, x.2)])
      (fun x w' => 64 * x.1 ≤ m ∧ Ext w w' ∧ IsSl w' 1 x.2 (m - 64 * x.1) (bytesV ((tailOf l).drop (64 * x.1))) ∧ x.2.ownBlock = some B6 ∧ Blk w' B2 (bytesV (List.replicate 32 0)) 23 ∧ Blk w' B3 (vals (run init8 (pad l) (k + x.1)).l) 92)
      (fun x => m - 64 * x.1) (0, .slice (some ⟨B6, 0, none⟩) m 128) (by repeat (first | exact Sub.nil _ | refine Sub.cons rfl ?_)) ⟨by simp, X8, sl8, rfl, D8, V8⟩ ?_
    clear V8 D8 X8 sl8 C8
    rintro ⟨j, sv⟩ w9 ⟨hj, X9, R9, hsv, D9, V9⟩ again
    simp only at hj R9 hsv V9 again ⊢
    repeat (first | refine RunL.pure Tryd.tOk rfl rfl rfl ?_ | refine RunE.seq ?_ | refine RunE.region ?_)
    refine RunL.val rfl rfl rfl (OpV.lenSl Tryd.tOk rfl rfl R9) ?_
    repeat (first | refine RunL.pure Tryd.tOk rfl rfl rfl ?_ | refine RunL.nil ?_)
    refine RunE.cond rfl (fun hgt => ?_) (fun hgt => ?_) <;> (first | replace hgt := of_decide_eq_true hgt | replace hgt := of_decide_eq_false hgt | replace hgt := beq_iff_eq.1 hgt | replace hgt := beq_eq_false_iff_ne.1 hgt | replace hgt := bne_iff_ne.1 hgt | replace hgt := bne_eq_false_iff_eq.1 hgt | skip)
    · have hj64 : 64 * j + 64 ≤ m := by omega
      repeat (first | refine RunL.pure Tryd.tOk rfl rfl rfl ?_ | refine RunE.seq ?_ | refine RunE.region ?_ | refine RunE.block ?_ | refine RunE.skip ?_)
      refine RunL.ex rfl rfl rfl (OpE.part (lo := 0) (hi := 64) Tryd.tOk rfl rfl R9 .none (.some rfl rfl) (by omega) (by omega)) ?_
      rintro u _ ⟨rfl, hu1, hu⟩
      have hu' : IsSl w9 1 u 64 (bytesV (((pad l).drop (64 * (k + j))).take 64)) := by
        have := tail_block l j
        rw [← hkq] at this
        rw [← this]
        simpa [bytesV_drop, bytesV_take] using hu
      refine RunL.callV (fv := .func (.func 67) [.pointer (some ⟨B3, 0, none⟩)].toArray [].toArray) rfl rfl rfl rfl
        (Rets.v (absorb_sl _ _ B3 _ _ w9 V9 (by rw [← tail_block_len l k j m hkq hm hj64]) hu' (hkT.extE X9) (by omega)) rfl) (fun _ _ _ h => h.elim) ?_
      rintro _ wa ⟨rfl, Va, Ea⟩
      have Xa : Ext w wa := X9.write Ea (by intro i hi hlt; subst hi; omega)
      have Da := D9.ext Ea (by omega)
      have Ra := R9.ext Ea (by intro j hj; rw [hsv] at hj; injection hj with hj; omega)
      repeat (first | refine RunL.pure Tryd.tOk rfl rfl rfl ?_ | refine RunE.region ?_ | refine RunL.nil ?_ | refine RunE.inBlock ?_)
      refine RunL.ex rfl rfl rfl (OpE.part (lo := 64) (hi := m - 64 * j) Tryd.tOk rfl rfl Ra (.some rfl rfl) .none (by omega) (by omega)) ?_
      rintro u2 _ ⟨rfl, hu3, hu4⟩
      have hu5 : IsSl wa 1 u2 (m - 64 * (j + 1)) (bytesV ((tailOf l).drop (64 * (j + 1)))) := by
        have e : (bytesV ((tailOf l).drop (64 * j))).drop 64 = bytesV ((tailOf l).drop (64 * (j + 1))) := by rw [bytesV_drop, List.drop_drop]; rfl
        have e2 : m - 64 * j - 64 = m - 64 * (j + 1) := by omega
        rw [Nat.mul_one, Nat.mul_one, e, e2, List.take_of_length_le (by rw [bytesV_length, List.length_drop]; omega)] at hu4
        exact hu4
      repeat (first | refine RunL.pure Tryd.tOk rfl rfl rfl ?_ | refine RunL.nil ?_)
      exact RunE.weaken (by repeat (first | exact Sub.nil _ | refine Sub.cons rfl ?_)) (again (j + 1, u2) _ (by simp only; omega) ⟨by simp only; omega, Xa, hu5, hu3.trans hsv, Da, Va⟩)
    · have hjm : 64 * j = m := by omega
      clear again R9
      have hsha : sha l = dig (run init8 (pad l) (k + j)) := by rw [sha_eq, ← hm, ← hkq]; congr 3; omega
      rw [hsha]
      generalize run init8 (pad l) (k + j) = S at V9
      repeat (first | refine RunE.seq ?_ | refine RunE.region ?_ | refine RunE.exit rfl ?_)
      refine RunL.val rfl rfl rfl (OpV.loadN (cs := vals S.l) Tryd.tOk rfl rfl rfl rfl V9.row) ?_
      repeat (first | refine RunL.pureI Tryd.tOk rfl rfl rfl (by (first | exact wr_i64 (by omega) (by omega) | exact wm_i64 (by omega) | exact wq_i64 (by omega) (by omega) (by omega) | rfl)) ?_ | refine RunL.nil ?_ | refine RunE.block ?_)
      refine RunE.loop (ι := Nat) (fun i => [(2, .pointer (some ⟨B2, 0, none⟩)), (53, .agg (vals S.l).toArray), (54, .int .i64 (i : Int))])
        (fun i w' => i ≤ 8 ∧ Ext w w' ∧ Blk w' B2 (bytesV ((S.l.take i).flatMap (fun x => be 4 x.toNat) ++ List.replicate (32 - 4 * i) 0)) 23)
        (fun i => 8 - i) 0 (by repeat (first | exact Sub.nil _ | refine Sub.cons rfl ?_)) ⟨by omega, X9, D9⟩ ?_
      clear D9 X9 V9
      rintro i u0 ⟨hi, Xu, Du⟩ again
      have hSl : S.l.length = 8 := rfl
      have hXl : ((S.l.take i).flatMap (fun x => be 4 x.toNat)).length = 4 * i := by
        rw [flat_length, List.length_take, hSl]; omega
      repeat (first | refine RunL.pure Tryd.tOk rfl rfl rfl ?_ | refine RunE.seq ?_ | refine RunE.region ?_ | refine RunL.nil ?_)
      refine RunE.cond rfl (fun hlt8 => ?_) (fun hlt8 => ?_) <;> (first | replace hlt8 := of_decide_eq_true hlt8 | replace hlt8 := of_decide_eq_false hlt8 | replace hlt8 := beq_iff_eq.1 hlt8 | replace hlt8 := beq_eq_false_iff_ne.1 hlt8 | replace hlt8 := bne_iff_ne.1 hlt8 | replace hlt8 := bne_eq_false_iff_eq.1 hlt8 | skip)
      · have hi8 : i < 8 := by omega
        repeat (first | refine RunL.pureI Tryd.tOk rfl rfl rfl (by (first | exact wr_i64 (by omega) (by omega) | exact wm_i64 (by omega) | exact wq_i64 (by omega) (by omega) (by omega) | rfl)) ?_ | refine RunE.seq ?_ | refine RunE.region ?_ | refine RunE.block ?_ | refine RunE.skip ?_)
        refine RunL.val rfl rfl rfl (OpV.indexV (v := .int .u32 ((S.l.getD i 0).toNat : Int)) Tryd.tOk i rfl rfl rfl rfl (by omega) (by rw [Nat.mul_one]; exact vals_get' (by omega))) ?_
        repeat (first | refine RunL.pureI Tryd.tOk rfl rfl rfl (by (first | exact i64_mul 4 _ (by omega) | exact wr_i64 (by omega) (by omega) | exact wm_i64 (by omega) | exact wq_i64 (by omega) (by omega) (by omega) | rfl)) ?_ | refine RunE.region ?_ | refine RunL.nil ?_)
        refine RunL.val rfl rfl rfl (OpV.sliceAq (lo := 4 * i) (hi := 4 * i + 4) (q := 4 * i) (len := 4) (cap := 32 - 4 * i) Tryd.tOk rfl rfl (.some rfl rfl) (.some rfl rfl) (by omega) (by omega) (by rw [offOf_lt (by omega)]; omega) (by omega) rfl) ?_
        repeat (first | refine RunL.pureI Tryd.tOk rfl rfl rfl (by (first | exact u64_nat _ (by have := BitVec.isLt (S.l.getD i 0); omega) | exact wr_i64 (by omega) (by omega) | exact wm_i64 (by omega) | exact wq_i64 (by omega) (by omega) (by omega) | rfl)) ?_)
        have eD : (S.l.take i).flatMap (fun x => be 4 x.toNat) ++ List.replicate (32 - 4 * i) 0 = (S.l.take i).flatMap (fun x => be 4 x.toNat) ++ List.replicate 4 0 ++ List.replicate (32 - 4 * (i + 1)) 0 := by
          rw [List.append_assoc, List.replicate_append_replicate]; congr 2; omega
        rw [eD] at Du
        refine RunL.call rfl rfl rfl (put_ok B2 (4 * i) 4 _ _ _ _ _ _ _ hXl (by simp) (by decide) Du) ?_
        rintro _ u1 ⟨rfl, D1, E1⟩
        have X1 : Ext w u1 := Xu.write E1 (by intro i hi hlt; subst hi; omega)
        repeat (first | refine RunL.pureI Tryd.tOk rfl rfl rfl (by (first | exact wr_i64 (by omega) (by omega) | exact wm_i64 (by omega) | exact wq_i64 (by omega) (by omega) (by omega) | rfl)) ?_ | refine RunE.region ?_ | refine RunL.nil ?_ | refine RunE.inBlock ?_)
        refine RunE.weaken (by repeat (first | exact Sub.nil _ | refine Sub.cons rfl ?_)) (again (i + 1) _ (by omega) ⟨by omega, X1, ?_⟩)
        rw [List.take_add_one, List.getElem?_eq_getElem (by omega : i < S.l.length), List.flatMap_append]
        rw [List.getD_eq_getElem?_getD, List.getElem?_eq_getElem (by omega : i < S.l.length)] at D1
        simpa using D1
      · have hi8 : i = 8 := by omega
        subst hi8
        have Df : Blk u0 B2 (bytesV (dig S)) 23 := by rw [show (S.l.take 8) = S.l from rfl] at Du; simpa [dig] using Du
        have hdl := dig_length S
        generalize dig S = D at Df hdl ⊢
        repeat (first | refine RunE.seq ?_ | refine RunE.region ?_ | refine RunE.exit rfl ?_)
        refine RunL.val rfl rfl rfl (OpV.loadN (cs := bytesV D) Tryd.tOk rfl rfl rfl (by rw [bytesV_length]; exact hdl) Df.row) ?_
        refine RunL.store (v := .agg (bytesV D).toArray) Tryd.tOk rfl rfl rfl rfl (by simp [Value.cells, bytesV_length, hdl]) Df (by simp [Value.cells]) (by simp [Value.cells, bytesV_plain]) fun u2 t2 => ?_
        have X2 : Ext w u2 := Xu.write t2.ext (by intro i hi hlt; subst hi; omega)
        have D2 : Blk u2 B2 (bytesV D) 23 := by
          have := t2.at_
          rw [show (Value.agg (bytesV D).toArray).cells.toList = bytesV D from rfl, setAt_self] at this
          exact this
        repeat (first | refine RunL.nil ?_)
        exact RunE.retFn Tryd.func38 (.cell rfl (.agg Tryd.tOk rfl rfl (by rw [bytesV_length]; exact hdl) D2.row) .nil) ⟨rfl, X2⟩
end Go.Sg
end
section
/- The program's tagged digest and the group's hash. -/
namespace Go.Sg
open Go.Rn Go.Sha Go.Proofs
attribute [local irreducible] Go.Rn.RunL Go.Rn.RunE Go.Rn.Asy Go.Rn.OpV Go.Rn.OpE Go.Rn.ExecE

theorem grow_ok (n : Nat) (w : World) (h : n ≤ 1000000) : Rets Tryd.prog 69 [.slice none 0 0, .int .i64 (n : Int)] w fun v w' => w'.ownsRow w.heap.size 5 1 v 0 [] ∧ Ext w w' := by
  refine RetsX.of (nt := 27) Tryd.func69 (by kernel_rfl) rfl rfl (by simp) (by simp only [argEnv]; rfl) ?_
  repeat (first | refine RunL.pureI Tryd.tOk rfl rfl rfl (by (first | exact wr_i64 (by omega) (by omega) | exact wm_i64 (by omega) | exact wq_i64 (by omega) (by omega) (by omega) | rfl)) ?_ | refine RunL.pure Tryd.tOk rfl rfl rfl ?_ | refine RunE.seq ?_ | refine RunE.region ?_ | refine RunL.nil ?_)
  refine RunE.condF rfl (decide_eq_false (by omega)) ?_
  repeat (first | refine RunL.pureI Tryd.tOk rfl rfl rfl (by (first | exact wr_i64 (by omega) (by omega) | exact wm_i64 (by omega) | exact wq_i64 (by omega) (by omega) (by omega) | rfl)) ?_ | refine RunL.pure Tryd.tOk rfl rfl rfl ?_ | refine RunE.seq ?_ | refine RunE.region ?_ | refine RunE.skip ?_)
  refine RunL.val rfl rfl rfl (OpV.cap Tryd.tOk rfl rfl) ?_
  repeat (first | refine RunL.pureI Tryd.tOk rfl rfl rfl (by (first | exact wr_i64 (by omega) (by omega) | exact wm_i64 (by omega) | exact wq_i64 (by omega) (by omega) (by omega) | rfl)) ?_ | refine RunL.pure Tryd.tOk rfl rfl rfl ?_ | refine RunE.seq ?_ | refine RunE.region ?_ | refine RunL.nil ?_)
  refine RunE.cond rfl (fun hn => ?_) (fun hn => ?_) <;> (first | replace hn := of_decide_eq_true hn | replace hn := of_decide_eq_false hn | replace hn := beq_iff_eq.1 hn | replace hn := beq_eq_false_iff_ne.1 hn | replace hn := bne_iff_ne.1 hn | replace hn := bne_eq_false_iff_eq.1 hn | skip)
  · repeat (first | refine RunL.pure Tryd.tOk rfl rfl rfl ?_ | refine RunE.region ?_)
    refine RunL.val rfl rfl rfl (OpV.cap Tryd.tOk rfl rfl) ?_
    refine RunL.val rfl rfl rfl (OpV.sliceNil Tryd.tOk rfl rfl .none (.some rfl rfl)) ?_
    repeat (first | refine RunL.pureI Tryd.tOk rfl rfl rfl (by (first | exact wr_i64 (by omega) (by omega) | exact wm_i64 (by omega) | exact wq_i64 (by omega) (by omega) (by omega) | rfl)) ?_)
    refine RunL.ex rfl rfl rfl (OpE.growNil (m := n) Tryd.tOk rfl rfl rfl rfl rfl rfl rfl (by simp) (by omega) (by show n * 1 ≤ _; omega) (by omega)) ?_
    rintro _ w1 ⟨B, cap, rfl, hc, hcm, hB, X1, cur, hcur, hsz⟩
    repeat (first | refine RunL.pureI Tryd.tOk rfl rfl rfl (by (first | exact wr_i64 (by omega) (by omega) | exact wm_i64 (by omega) | exact wq_i64 (by omega) (by omega) (by omega) | rfl)) ?_ | refine RunL.pure Tryd.tOk rfl rfl rfl ?_)
    refine RunL.val rfl rfl rfl (OpV.slice0 (hi := 0) Tryd.tOk rfl rfl .none (.some rfl rfl) (by omega)) ?_
    repeat (first | refine RunL.pure Tryd.tOk rfl rfl rfl ?_ | refine RunE.seq ?_ | refine RunE.region ?_ | refine RunL.nil ?_)
    refine RunE.retFn Tryd.func69 (.tmp rfl .nil) ⟨⟨by simp, .inr ⟨B, cap, cur, rfl, by omega, hcur, by omega, hcm, hsz, by simp⟩⟩, X1⟩
  · repeat (first | refine RunL.pure Tryd.tOk rfl rfl rfl ?_ | refine RunE.seq ?_ | refine RunE.region ?_ | refine RunL.nil ?_ | refine RunE.skip ?_)
    exact RunE.retFn Tryd.func69 (.tmp rfl .nil) ⟨World.ownsRow_nil _ _ _ _, .refl _ _⟩

def flatB (xs : List (Value × List UInt8)) (j : Nat) : List UInt8 := (xs.take j).flatMap (·.2)
theorem flatB_succ {xs : List (Value × List UInt8)} {j : Nat} {x : Value × List UInt8} (h : xs[j]? = some x) : flatB xs (j + 1) = flatB xs j ++ x.2 := by
  unfold flatB; rw [List.take_add_one, h, List.flatMap_append]; simp
theorem flatB_le (xs : List (Value × List UInt8)) (j : Nat) : (flatB xs j).length ≤ (xs.flatMap (·.2)).length := by
  unfold flatB
  conv => rhs; rw [← List.take_append_drop j xs]
  rw [List.flatMap_append, List.length_append]; omega

theorem concatB_ok (xs : List (Value × List UInt8)) (B o cap : Nat) (w : World) (hr : Row w B o (xs.map (·.1))) (hx : ∀ (j : Nat) x, xs[j]? = some x → IsSl w 1 x.1 x.2.length (bytesV x.2)) (hn : xs.length ≤ 1000) (h : (xs.flatMap (·.2)).length ≤ 1000000) :
    Rets Tryd.prog 39 [.slice (some ⟨B, o, none⟩) xs.length cap] w fun v w' =>
      w'.ownsRow w.heap.size 5 1 v (xs.flatMap (·.2)).length (bytesV (xs.flatMap (·.2))) ∧ Ext w w' := by
  have hF := flatB_le xs
  have hcell : ∀ {j : Nat} {x : Value × List UInt8}, xs[j]? = some x → w.cell? ⟨B, o + j, none⟩ = some x.1 := fun {j x} hj => hr j x.1 (by simp [hj])
  refine RetsX.of (nt := 36) Tryd.func39 (by kernel_rfl) rfl rfl (by simp) (by simp only [argEnv]; rfl) ?_
  repeat (first | refine RunL.pureI Tryd.tOk rfl rfl rfl (by (first | exact wr_i64 (by omega) (by omega) | exact wm_i64 (by omega) | exact wq_i64 (by omega) (by omega) (by omega) | rfl)) ?_ | refine RunL.pure Tryd.tOk rfl rfl rfl ?_ | refine RunE.seq ?_ | refine RunE.region ?_ | refine RunL.nil ?_ | refine RunE.block ?_)
  refine RunE.loop (ι := Nat) (fun j => [(0, .slice (some ⟨B, o, none⟩) xs.length cap), (3, .int .i64 ((flatB xs j).length : Int)), (9, .slice (some ⟨B, o, none⟩) xs.length cap), (10, .int .i64 (xs.length : Int)), (11, .int .i64 (j : Int))])
    (fun j w' => w = w' ∧ j ≤ xs.length) (fun j => xs.length - j) 0 (by repeat (first | exact Sub.nil _ | refine Sub.cons rfl ?_)) ⟨rfl, by omega⟩ ?_
  rintro j _ ⟨rfl, hj⟩ again
  have hFj := hF j
  repeat (first | refine RunL.pure Tryd.tOk rfl rfl rfl ?_ | refine RunE.seq ?_ | refine RunE.region ?_ | refine RunL.nil ?_)
  refine RunE.cond rfl (fun hlt => ?_) (fun hlt => ?_) <;> (first | replace hlt := of_decide_eq_true hlt | replace hlt := of_decide_eq_false hlt | replace hlt := beq_iff_eq.1 hlt | replace hlt := beq_eq_false_iff_ne.1 hlt | replace hlt := bne_iff_ne.1 hlt | replace hlt := bne_eq_false_iff_eq.1 hlt | skip)
  · have hlt' : j < xs.length := by omega
    obtain ⟨x, hxj⟩ : ∃ x, xs[j]? = some x := ⟨_, List.getElem?_eq_getElem hlt'⟩
    have hs := flatB_succ hxj
    have hFj1 := hF (j + 1)
    rw [hs, List.length_append] at hFj1
    repeat (first | refine RunE.seq ?_ | refine RunE.region ?_ | refine RunE.block ?_ | refine RunE.skip ?_)
    refine RunL.val rfl rfl rfl (OpV.indexS Tryd.tOk j rfl rfl rfl rfl hlt') ?_
    refine RunL.val rfl rfl rfl (OpV.load1 (v := x.1) Tryd.tOk rfl rfl rfl (by rw [show j * 1 = j from Nat.mul_one j]; exact hcell hxj)) ?_
    repeat (first | refine RunL.pureI Tryd.tOk rfl rfl rfl (by (first | exact wr_i64 (by omega) (by omega) | exact wm_i64 (by omega) | exact wq_i64 (by omega) (by omega) (by omega) | rfl)) ?_ | refine RunL.pure Tryd.tOk rfl rfl rfl ?_ | refine RunE.seq ?_ | refine RunE.region ?_ | refine RunL.nil ?_)
    refine RunL.val rfl rfl rfl (OpV.lenSl Tryd.tOk rfl rfl (hx j x hxj)) ?_
    repeat (first | refine RunL.pureI Tryd.tOk rfl rfl rfl (by (first | exact i64_add _ _ (by omega) | exact wr_i64 (by omega) (by omega) | exact wm_i64 (by omega) | exact wq_i64 (by omega) (by omega) (by omega) | rfl)) ?_ | refine RunL.pure Tryd.tOk rfl rfl rfl ?_ | refine RunE.seq ?_ | refine RunE.region ?_ | refine RunL.nil ?_)
    refine RunE.condF rfl (decide_eq_false (by omega)) ?_
    repeat (first | refine RunL.pureI Tryd.tOk rfl rfl rfl (by (first | exact wr_i64 (by omega) (by omega) | exact wm_i64 (by omega) | exact wq_i64 (by omega) (by omega) (by omega) | rfl)) ?_ | refine RunE.region ?_ | refine RunL.nil ?_ | refine RunE.inBlock ?_ | refine RunE.skip ?_)
    refine RunE.weaken (by
      refine Sub.cons rfl (Sub.cons ?_ (Sub.cons rfl (Sub.cons rfl (Sub.cons rfl (Sub.nil _)))))
      rw [hs, List.length_append]; rfl) (again (j + 1) _ (by omega) ⟨rfl, by omega⟩)
  · have hjn : j = xs.length := by omega
    subst hjn
    clear again
    have hfl : flatB xs xs.length = xs.flatMap (·.2) := by unfold flatB; rw [List.take_length]
    rw [hfl]
    repeat (first | refine RunL.pureI Tryd.tOk rfl rfl rfl (by (first | exact wr_i64 (by omega) (by omega) | exact wm_i64 (by omega) | exact wq_i64 (by omega) (by omega) (by omega) | rfl)) ?_ | refine RunE.seq ?_ | refine RunE.region ?_ | refine RunE.exit rfl ?_)
    refine RunL.call rfl rfl rfl (grow_ok _ w h) ?_
    rintro v0 w1 ⟨O1, X1⟩
    repeat (first | refine RunL.pureI Tryd.tOk rfl rfl rfl (by (first | exact wr_i64 (by omega) (by omega) | exact wm_i64 (by omega) | exact wq_i64 (by omega) (by omega) (by omega) | rfl)) ?_ | refine RunL.pure Tryd.tOk rfl rfl rfl ?_ | refine RunE.seq ?_ | refine RunE.region ?_ | refine RunL.nil ?_ | refine RunE.block ?_)
    refine RunE.loop (ι := Nat × Value) (fun x => [(6, x.2), (25, .slice (some ⟨B, o, none⟩) xs.length cap), (26, .int .i64 (xs.length : Int)), (27, .int .i64 (x.1 : Int))])
      (fun x w' => x.1 ≤ xs.length ∧ Ext w w' ∧ w'.ownsRow w.heap.size 5 1 x.2 (flatB xs x.1).length (bytesV (flatB xs x.1))) (fun x => xs.length - x.1) (0, v0) (by repeat (first | exact Sub.nil _ | refine Sub.cons rfl ?_)) ⟨by simp, X1, O1⟩ ?_
    clear O1 X1
    rintro ⟨j, u⟩ w2 ⟨hj, X2, O2⟩ again
    simp only at hj O2 again ⊢
    repeat (first | refine RunL.pure Tryd.tOk rfl rfl rfl ?_ | refine RunE.seq ?_ | refine RunE.region ?_ | refine RunL.nil ?_)
    refine RunE.cond rfl (fun hlt => ?_) (fun hlt => ?_) <;> (first | replace hlt := of_decide_eq_true hlt | replace hlt := of_decide_eq_false hlt | replace hlt := beq_iff_eq.1 hlt | replace hlt := beq_eq_false_iff_ne.1 hlt | replace hlt := bne_iff_ne.1 hlt | replace hlt := bne_eq_false_iff_eq.1 hlt | skip)
    · have hlt' : j < xs.length := by omega
      obtain ⟨x, hxj⟩ : ∃ x, xs[j]? = some x := ⟨_, List.getElem?_eq_getElem hlt'⟩
      have hs := flatB_succ hxj
      have hFj1 := hF (j + 1)
      rw [hs, List.length_append] at hFj1
      repeat (first | refine RunE.seq ?_ | refine RunE.region ?_ | refine RunE.block ?_ | refine RunE.skip ?_)
      refine RunL.val rfl rfl rfl (OpV.indexS Tryd.tOk j rfl rfl rfl rfl hlt') ?_
      refine RunL.val rfl rfl rfl (OpV.load1 (v := x.1) Tryd.tOk rfl rfl rfl (by rw [show j * 1 = j from Nat.mul_one j]; exact cell_ext (hcell hxj) X2 id)) ?_
      repeat (first | refine RunL.pure Tryd.tOk rfl rfl rfl ?_ | refine RunE.region ?_ | refine RunL.nil ?_)
      refine RunL.ex rfl rfl rfl (OpE.append Tryd.tOk rfl rfl rfl rfl rfl rfl O2 ((hx j x hxj).extE X2) (bytesV_plain _) (by show _ * 1 ≤ _; omega) (by omega) X2.size) ?_
      rintro u3 w3 ⟨O3, E3⟩
      have X3 : Ext w w3 := X2.write E3 (by intro i hi hlt; have := ownsRow_ge O2 hi; omega)
      repeat (first | refine RunL.pureI Tryd.tOk rfl rfl rfl (by (first | exact wr_i64 (by omega) (by omega) | exact wm_i64 (by omega) | exact wq_i64 (by omega) (by omega) (by omega) | rfl)) ?_ | refine RunL.pure Tryd.tOk rfl rfl rfl ?_ | refine RunE.region ?_ | refine RunL.nil ?_ | refine RunE.inBlock ?_)
      refine RunE.weaken (by repeat (first | exact Sub.nil _ | refine Sub.cons rfl ?_)) (again (j + 1, u3) _ (by simp only; omega) ⟨by simp only; omega, X3, ?_⟩)
      simp only
      rw [hs, List.length_append, bytesV_append]; exact O3
    · have hjn : j = xs.length := by omega
      subst hjn
      repeat (first | refine RunL.pure Tryd.tOk rfl rfl rfl ?_ | refine RunE.seq ?_ | refine RunE.region ?_ | refine RunL.nil ?_ | refine RunE.exit rfl ?_)
      rw [hfl] at O2
      exact RunE.retFn Tryd.func39 (.tmp rfl .nil) ⟨O2, X2⟩

theorem tagged_ok (tag : ByteArray) (v : Value) (l : List UInt8) (w : World) (ht : tag.size ≤ 1000000) (hv : IsSl w 1 v l.length (bytesV l)) (hl : l.length ≤ 900000) (hS : Row w 0 0 (vals init8.l)) (hkT : Row w 1 0 (vals kTab)) :
    Rets Tryd.prog 18 [.string tag, v] w fun r w' => r = .agg (bytesV (tagged tag.data.toList l)).toArray ∧ Ext w w' := by
  refine RetsX.of (nt := 14) Tryd.func18 (by kernel_rfl) rfl rfl (by simp) (by simp only [argEnv]; rfl) ?_
  repeat (first | refine RunE.seq ?_ | refine RunE.region ?_)
  refine RunL.alloc Tryd.tOk rfl rfl rfl fun B4 w1 a1 => ?_
  repeat (first | refine RunL.pure Tryd.tOk rfl rfl rfl ?_ | refine RunE.seq ?_ | refine RunE.region ?_ | refine RunL.nil ?_)
  refine RunL.ex rfl rfl rfl (OpE.s2b Tryd.tOk rfl rfl rfl rfl) ?_
  rintro _ w2 ⟨B, cap, rfl, X2, hB, hr, hc⟩
  have hlen : tag.data.toList.length = tag.size := rfl
  have Y2 := a1.ext.trans X2
  refine RunL.call rfl rfl rfl (sum_ok _ tag.data.toList w2 (by rw [hlen]; exact .row hr (by rw [bytesV_length, hlen, Nat.mul_one]) hc) (by omega) (hS.extE Y2) (hkT.extE Y2)) ?_
  rintro _ w3 ⟨rfl, X3⟩
  have Y3 := Y2.trans X3
  refine RunL.alloc Tryd.tOk rfl rfl rfl fun B5 w4 a4 => ?_
  have hsl := sha_length tag.data.toList
  unfold tagged
  generalize sha tag.data.toList = D at hsl ⊢
  refine RunL.store (v := .agg (bytesV D).toArray) Tryd.tOk rfl rfl rfl rfl (by simp [Value.cells, bytesV_length, hsl]) (cs := List.replicate 32 (.int .u8 0)) a4.at_ (by simp [Value.cells, bytesV_length, hsl]) (by simp [Value.cells, bytesV_plain]) fun w5 t5 => ?_
  have D5 : Blk w5 B5 (bytesV D) 23 := by
    have := t5.at_
    rw [show (Value.agg (bytesV D).toArray).cells.toList = bytesV D from rfl, setAt_all _ _ (by simp [bytesV_length, hsl])] at this
    exact this
  have hB4 := a1.eq
  have hB5 := a4.eq
  have hs1 := a1.size
  have hs4 := a4.size
  have z1 := X2.size
  have z2 := X3.size
  have X5 : Ext w w5 := (Y3.trans a4.ext).write t5.ext (by intro i hi hlt; subst hi; omega)
  have R4 : Blk w5 B4 (bytesV (List.replicate 32 0)) 23 := Blk.ext (Blk.ext (Blk.ext (w := w1) (cs := List.replicate 32 (.int .u8 0)) a1.at_ (X2.trans X3) id) a4.ext id) t5.ext (by omega)
  clear a1 a4 t5 Y3 Y2
  repeat (first | refine RunE.seq ?_ | refine RunE.region ?_ | refine RunL.nil ?_)
  refine RunL.val rfl rfl rfl (OpV.sliceA0 (hi := 32) Tryd.tOk rfl rfl .none .none (by decide)) ?_
  repeat (first | refine RunL.pure Tryd.tOk rfl rfl rfl ?_)
  have hvc : v.cells = #[v] := by rcases hv.inv with ⟨_, rfl, -⟩ | ⟨_, _, _, rfl, -⟩ <;> rfl
  refine RunL.ex rfl rfl rfl (OpE.buildSl Tryd.tOk [.slice (some ⟨B5, 0, none⟩) 32 32, v] rfl rfl rfl rfl rfl rfl (by intro u hu; rcases List.mem_cons.1 hu with rfl | hu; rfl; obtain rfl := List.mem_singleton.1 hu; rw [hvc]; rfl)) ?_
  rintro _ w6 ⟨B11, rfl, a6⟩
  have ec : cellsAll [.slice (some ⟨B5, 0, none⟩) 32 32, v] = [.slice (some ⟨B5, 0, none⟩) 32 32, v] := by
    have hc5 : (Value.slice (some ⟨B5, 0, none⟩) 32 32).cells = #[.slice (some ⟨B5, 0, none⟩) 32 32] := rfl
    simp [cellsAll, hvc, hc5]
  rw [ec] at a6
  have hB11 := a6.eq
  have X6 := X5.trans a6.ext
  have sl5 : IsSl w6 1 (.slice (some ⟨B5, 0, none⟩) 32 32) D.length (bytesV D) := by
    rw [hsl]; exact .row (D5.row.extE a6.ext) (by rw [bytesV_length, hsl]) (by omega)
  refine RunL.call rfl rfl rfl (concatB_ok [(.slice (some ⟨B5, 0, none⟩) 32 32, D), (v, l)] B11 0 2 w6 (Blk.row (show Blk w6 B11 [.slice (some ⟨B5, 0, none⟩) 32 32, v] _ from a6.at_))
    (fun j x hj => by
      match j, hj with
      | 0, hj => injection hj with hj; subst hj; exact sl5
      | 1, hj => injection hj with hj; subst hj; exact hv.extE X6) (by simp) (by simp [hsl]; omega)) ?_
  rintro u w7 ⟨O7, X7⟩
  have e : List.flatMap (fun x : Value × List UInt8 => x.2) [(.slice (some ⟨B5, 0, none⟩) 32 32, D), (v, l)] = D ++ l := by simp
  rw [e] at O7
  have Y7 := X6.trans X7
  refine RunL.call rfl rfl rfl (sum_ok _ (D ++ l) w7 (isSl_own O7) (by simp [hsl]; omega) (hS.extE Y7) (hkT.extE Y7)) ?_
  rintro _ w8 ⟨rfl, X8⟩
  have Y8 := Y7.trans X8
  have R8 := R4.ext ((a6.ext.trans X7).trans X8) id
  have hsl2 := sha_length (D ++ l)
  generalize sha (D ++ l) = G at hsl2 ⊢
  refine RunL.store (v := .agg (bytesV G).toArray) Tryd.tOk rfl rfl rfl rfl (by simp [Value.cells, bytesV_length, hsl2]) R8 (by simp [Value.cells, bytesV_length, hsl2]) (by simp [Value.cells, bytesV_plain]) fun w9 t9 => ?_
  have X9 : Ext w w9 := Y8.write t9.ext (by intro i hi hlt; subst hi; omega)
  have D9 : Blk w9 B4 (bytesV G) 23 := by
    have := t9.at_
    rw [show (Value.agg (bytesV G).toArray).cells.toList = bytesV G from rfl, setAt_all _ _ (by simp [bytesV_length, hsl2])] at this
    exact this
  repeat (first | refine RunL.nil ?_)
  exact RunE.retFn Tryd.func18 (.cell rfl (.agg Tryd.tOk rfl rfl (by rw [bytesV_length]; exact hsl2) D9.row) .nil) ⟨rfl, X9⟩

def hashN (d : List UInt8) (j : Nat) : Nat := (d.take j).foldl (fun n c => n * 256 + c.toNat) 0
theorem hashN_succ {d : List UInt8} {j : Nat} (h : j < d.length) : hashN d (j + 1) = hashN d j * 256 + (d.getD j 0).toNat := by
  unfold hashN
  rw [List.take_add_one, List.getElem?_eq_getElem h, List.getD_eq_getElem?_getD, List.getElem?_eq_getElem h, Option.toList_some, List.foldl_append]
  rfl
theorem hashN_lt (d : List UInt8) : ∀ j, j ≤ d.length → hashN d j < 256 ^ j
  | 0, _ => by simp [hashN]
  | j + 1, h => by
    have := hashN_lt d j (by omega)
    have hb := (d.getD j 0).toNat_lt
    rw [hashN_succ (by omega), Nat.pow_succ]; omega
/-- The first byte without its highest bit. -/
def low7 : List UInt8 → List UInt8
  | [] => []
  | b :: r => UInt8.ofNat (b.toNat % 128) :: r
theorem low7_length (d : List UInt8) : (low7 d).length = d.length := by cases d <;> rfl
/-- The number of a digest. -/
def hashNum (d : List UInt8) : Nat := hashN (low7 d) 8
theorem hashNum_lt (d : List UInt8) (h : d.length = 32) : hashNum d < 9223372036854775808 := by
  unfold hashNum
  cases d with
  | nil => simp at h
  | cons b r =>
    have h1 : (low7 (b :: r)).length = 32 := h
    have : ∀ j, j ≤ 7 → hashN (low7 (b :: r)) (j + 1) < 128 * 256 ^ j := by
      intro j
      induction j with
      | zero =>
        intro _
        have : (UInt8.ofNat (b.toNat % 128)).toNat = b.toNat % 128 := by rw [UInt8.toNat_ofNat']; omega
        simp [hashN, low7]; omega
      | succ j ih =>
        intro hj
        have := ih (by omega)
        have hb := ((low7 (b :: r)).getD (j + 1) 0).toNat_lt
        rw [hashN_succ (by omega), Nat.pow_succ]; omega
    have := this 7 (by omega)
    exact this
def hashS (tag l : List UInt8) : Int := (hashNum (tagged tag l) % 1073741789 : Nat)

theorem u8_and127 (b : UInt8) : IntKind.u8.wrap ((BitVec.ofInt IntKind.u8.bits (b.toNat : Int) &&& BitVec.ofInt IntKind.u8.bits 127).toNat : Int) = ((UInt8.ofNat (b.toNat % 128)).toNat : Int) := by
  have : ∀ n : Fin 256, IntKind.u8.wrap ((BitVec.ofInt IntKind.u8.bits (n.val : Int) &&& BitVec.ofInt IntKind.u8.bits 127).toNat : Int) = ((UInt8.ofNat (n.val % 128)).toNat : Int) := by decide +kernel
  exact this ⟨b.toNat, b.toNat_lt⟩
theorem i64_or8 (n c : Nat) (hn : n < 36028797018963968) (hc : c < 256) : IntKind.i64.wrap ((BitVec.ofInt IntKind.i64.bits (((n * 256 : Nat) : Int)) ||| BitVec.ofInt IntKind.i64.bits ((c : Nat) : Int)).toNat : Int) = ((n * 256 + c : Nat) : Int) := by
  have e : IntKind.i64.bits = 64 := rfl
  rw [e, BitVec.ofInt_natCast, BitVec.ofInt_natCast, BitVec.toNat_or, BitVec.toNat_ofNat, BitVec.toNat_ofNat, Nat.mod_eq_of_lt (by omega), Nat.mod_eq_of_lt (by omega)]
  have h : n * 256 + c = n * 256 ||| c := by
    have := Nat.shiftLeft_add_eq_or_of_lt (i := 8) (b := c) (by omega) n
    rw [Nat.shiftLeft_eq] at this
    exact this
  rw [← h]; exact wr_i64 (by omega) (by omega)
theorem i64_shl8 (n : Nat) (hn : n < 36028797018963968) : IntKind.i64.wrap (((n : Nat) : Int) * 2 ^ (min 8 IntKind.i64.bits)) = ((n * 256 : Nat) : Int) := by
  have e : (2 : Int) ^ (min 8 IntKind.i64.bits) = 256 := by decide
  rw [e, Int.natCast_mul]; exact wr_i64 (by omega) (by omega)
theorem i64_u8 (b : UInt8) : IntKind.i64.wrap ((b.toNat : Nat) : Int) = ((b.toNat : Nat) : Int) := by
  have := b.toNat_lt
  exact wr_i64 (by omega) (by omega)

theorem hash_ok (tag : ByteArray) (v : Value) (l : List UInt8) (w : World) (ht : tag.size ≤ 1000000) (hv : IsSl w 1 v l.length (bytesV l)) (hl : l.length ≤ 900000) (hS : Row w 0 0 (vals init8.l)) (hkT : Row w 1 0 (vals kTab)) :
    Rets Tryd.prog 48 [.string tag, v] w fun r w' => r = .int .i64 (hashS tag.data.toList l) ∧ Ext w w' := by
  refine RetsX.of (nt := 27) Tryd.func48 (by kernel_rfl) rfl rfl (by simp) (by simp only [argEnv]; rfl) ?_
  repeat (first | refine RunL.pureI Tryd.tOk rfl rfl rfl (by (first | exact wr_i64 (by omega) (by omega) | exact wm_i64 (by omega) | exact wq_i64 (by omega) (by omega) (by omega) | rfl)) ?_ | refine RunL.pure Tryd.tOk rfl rfl rfl ?_ | refine RunE.seq ?_ | refine RunE.region ?_ | refine RunL.nil ?_)
  refine RunL.call rfl rfl rfl (tagged_ok _ _ _ _ ht hv hl hS hkT) ?_
  rintro _ w1 ⟨rfl, X1⟩
  refine RunL.alloc Tryd.tOk rfl rfl rfl fun B w2 a2 => ?_
  unfold hashS
  have hsl := tagged_length tag.data.toList l
  generalize tagged tag.data.toList l = D at hsl ⊢
  refine RunL.store (v := .agg (bytesV D).toArray) Tryd.tOk rfl rfl rfl rfl (by simp [Value.cells, bytesV_length, hsl]) (cs := List.replicate 32 (.int .u8 0)) a2.at_ (by simp [Value.cells, bytesV_length, hsl]) (by simp [Value.cells, bytesV_plain]) fun w3 t3 => ?_
  have D3 : Blk w3 B (bytesV D) 23 := by
    have := t3.at_
    rw [show (Value.agg (bytesV D).toArray).cells.toList = bytesV D from rfl, setAt_all _ _ (by simp [bytesV_length, hsl])] at this
    exact this
  have hB := a2.eq
  have z1 := X1.size
  have X3 : Ext w w3 := (X1.trans a2.ext).write t3.ext (by intro i hi hlt; subst hi; omega)
  clear a2 t3
  match D, hsl, D3 with
  | [], hsl, _ => simp at hsl
  | b :: r, hsl, D3 =>
  repeat (first | refine RunL.pureI Tryd.tOk rfl rfl rfl (by (first | exact u8_and127 _ | exact wr_i64 (by omega) (by omega) | exact wm_i64 (by omega) | exact wq_i64 (by omega) (by omega) (by omega) | rfl)) ?_ | refine RunL.val rfl rfl rfl (OpV.indexAK Tryd.tOk rfl rfl rfl rfl) ?_ | refine RunL.val rfl rfl rfl (OpV.load1 Tryd.tOk rfl rfl rfl (Blk.cell D3 rfl)) ?_ | refine RunE.seq ?_ | refine RunE.region ?_ | refine RunL.nil ?_)
  refine RunL.store Tryd.tOk rfl rfl rfl rfl rfl D3 (by simp [bytesV_length, Value.cells, hsl]) rfl fun w4 t4 => ?_
  have X4 : Ext w w4 := X3.write t4.ext (by intro i hi hlt; subst hi; omega)
  have D4 : Blk w4 B (bytesV (low7 (b :: r))) 23 := t4.at_
  clear t4 D3
  have hb64 : hashNum (b :: r) < 9223372036854775808 := hashNum_lt _ hsl
  have hlen : (low7 (b :: r)).length = 32 := hsl
  unfold hashNum at hb64 ⊢
  generalize low7 (b :: r) = L at D4 hlen hb64 ⊢
  repeat (first | refine RunL.pureI Tryd.tOk rfl rfl rfl (by (first | exact wr_i64 (by omega) (by omega) | exact wm_i64 (by omega) | exact wq_i64 (by omega) (by omega) (by omega) | rfl)) ?_ | refine RunE.seq ?_ | refine RunE.region ?_ | refine RunL.nil ?_ | refine RunE.block ?_)
  refine RunE.loop (ι := Nat) (fun i => [(4, .int .i64 (hashN L i : Int)), (5, .pointer (some ⟨B, 0, none⟩)), (14, .int .i64 (i : Int))])
    (fun i w' => w4 = w' ∧ i ≤ 8) (fun i => 8 - i) 0 (by repeat (first | exact Sub.nil _ | refine Sub.cons rfl ?_)) ⟨rfl, by omega⟩ ?_
  rintro i _ ⟨rfl, hi⟩ again
  repeat (first | refine RunL.pure Tryd.tOk rfl rfl rfl ?_ | refine RunE.seq ?_ | refine RunE.region ?_ | refine RunL.nil ?_)
  refine RunE.cond rfl (fun hlt => ?_) (fun hlt => ?_) <;> (first | replace hlt := of_decide_eq_true hlt | replace hlt := of_decide_eq_false hlt | replace hlt := beq_iff_eq.1 hlt | replace hlt := beq_eq_false_iff_ne.1 hlt | replace hlt := bne_iff_ne.1 hlt | replace hlt := bne_eq_false_iff_eq.1 hlt | skip)
  · have hi8 : i < 8 := by omega
    have hs := hashN_succ (d := L) (j := i) (by omega)
    have hcl := (L.getD i 0).toNat_lt
    have hbd : hashN L i < 36028797018963968 := by
      have mono : ∀ k j, j + k ≤ 8 → hashN L j * 256 ^ k ≤ hashN L (j + k) := by
        intro k
        induction k with
        | zero => intro j _; simp
        | succ k ih =>
          intro j hj
          have h1 := ih j (by omega)
          have h2 := hashN_succ (d := L) (j := j + k) (by omega)
          rw [show j + (k + 1) = j + k + 1 by omega, h2, Nat.pow_succ, ← Nat.mul_assoc]
          omega
      have h1 := mono (8 - i) i (by omega)
      rw [show i + (8 - i) = 8 by omega] at h1
      have h2 : 256 ^ 1 ≤ 256 ^ (8 - i) := Nat.pow_le_pow_right (by decide) (by omega)
      have h3 := Nat.mul_le_mul_left (hashN L i) h2
      omega
    repeat (first | refine RunL.pureI Tryd.tOk rfl rfl rfl (by (first | exact i64_shl8 _ hbd | exact wr_i64 (by omega) (by omega) | exact wm_i64 (by omega) | exact wq_i64 (by omega) (by omega) (by omega) | rfl)) ?_ | refine RunE.seq ?_ | refine RunE.region ?_ | refine RunL.nil ?_ | refine RunE.block ?_ | refine RunE.skip ?_)
    refine RunL.val rfl rfl rfl (OpV.indexA1 Tryd.tOk i rfl rfl rfl rfl (by omega)) ?_
    refine RunL.val rfl rfl rfl (OpV.load1 (v := .int .u8 ((L.getD i 0).toNat : Int)) Tryd.tOk rfl rfl rfl (by rw [Nat.zero_add]; exact D4.cell (bytesV_get (by omega)))) ?_
    repeat (first | refine RunL.pureI Tryd.tOk rfl rfl rfl (by (first | exact i64_u8 _ | exact i64_or8 _ _ hbd hcl | exact wr_i64 (by omega) (by omega) | exact wm_i64 (by omega) | exact wq_i64 (by omega) (by omega) (by omega) | rfl)) ?_ | refine RunE.region ?_ | refine RunL.nil ?_ | refine RunE.inBlock ?_)
    refine RunE.weaken (by
      refine Sub.cons ?_ (Sub.cons rfl (Sub.cons rfl (Sub.nil _)))
      rw [hs]; rfl) (again (i + 1) _ (by omega) ⟨rfl, by omega⟩)
  · have hi8 : i = 8 := by omega
    subst hi8
    repeat (first | refine RunL.pureI Tryd.tOk rfl rfl rfl (by (first | exact wr_i64 (by omega) (by omega) | exact wm_i64 (by omega) | exact wq_i64 (by omega) (by omega) (by omega) | rfl)) ?_ | refine RunE.seq ?_ | refine RunE.region ?_ | refine RunL.nil ?_ | refine RunE.exit rfl ?_)
    refine RunE.retFn Tryd.func48 (.tmp rfl .nil) ⟨?_, X4⟩
    simp only [oneOr]
    congr 1
end Go.Sg
end
