/- Deeds: what is made keeps its lists. -/
import Derived.Test.YtpmpefkcmokoiaaDoorDa09
import Derived.Test.YtpmpefkcmokoiaaDoorWri
import Derived.Test.YtpmpefkcmokoiaaDoorAsyW
set_option linter.unusedSimpArgs false
set_option linter.unusedVariables false
set_option linter.unusedSectionVars false
namespace Go.Rn
theorem OpE.allocD {P : Program} {w : World} {env : Env} {dst : Option Tmp} {ty : TypeId} {pos : String} {after : Array Edge} {guard : Option (Nat × Bool)} {T : Tab} (hT : T.Ok P) {t : TypeId} {i : TI} (ht : T.get t = some i) :
    OpE P env w ⟨dst, .alloc t, ty, pos, after, guard⟩ (fun v w' => ∃ B, v = .pointer (some ⟨B, 0, none⟩) ∧ Added w w' B (.cells i.zero.toArray t (0, 0))) fun _ _ => False := fun ρ hρ => by
  obtain ⟨j, dd, z, hj, hd, hz, h1, h2, h3, h4, h5, _⟩ := TI.inv (hT.get _ _ ht)
  refine ExecE.of_value (w' := { w with heap := w.heap.push (.cells i.zero.toArray t) }) (v := .pointer (some ⟨w.heap.size, 0, none⟩)) ?_ ⟨_, rfl, added_push w _⟩
  simp only [execOp, Instr.alloc]
  have hzv : (zeroValue t).run P w = .ok z w := by unfold zeroValue; rw [run_bind _ _ (run_typeInfo hj), hz]; rfl
  refine Eq.trans (run_bind (v := .pointer (some ⟨w.heap.size, 0, none⟩)) (w' := { w with heap := w.heap.push (.cells i.zero.toArray t) }) _ _ ?_) rfl
  rw [run_bind _ _ hzv]
  rw [h3]
  rfl
theorem eval_rem {T : Tab} {env : Env} {t u : TypeId} {x y : Operand} {a b : Int} (hx : evO env x = some (.int .i64 a)) (hy : evO env y = some (.int .i64 b)) (hb : 0 < b) : evalOp T env (.binOp .rem t x y u) = some (.int .i64 (a.tmod b)) := by
  obtain ⟨n, rfl⟩ : ∃ n : Nat, b = ((n + 1 : Nat) : Int) := ⟨(b - 1).toNat, by omega⟩
  unfold evalOp
  simp only [hx, hy]
  rfl
end Go.Rn
namespace Go.Rn
open Go.RowKit
theorem OpE.storeW {P : Program} {w : World} {env : Env} {ty : TypeId} {pos : String} {after : Array Edge} {guard : Option (Nat × Bool)} {T : Tab} (hT : T.Ok P) {t bt : TypeId} {i : TI} {x y : Operand} {b : Nat} {cs vs : List Value}
    (hx : evO env x = some (.pointer (some ⟨b, 0, none⟩))) (hy : evO env y = some (.agg vs.toArray)) (ht : T.get t = some i) (hsz : vs.length = i.size) (hb : Blk w b cs bt) (hlen : cs.length = vs.length) (hp : vs.all plainV = true) :
    OpE P env w ⟨none, .store t x y, ty, pos, after, guard⟩ (fun _ w' => Turned w w' b (.cells vs.toArray bt (0, 0))) fun _ _ => False := by
  refine OpE.mono (OpE.store hT hx hy ht hsz hb ?_ hp) ?_ fun _ _ h => h
  · show Nat.ble (0 + vs.length) cs.length = true
    rw [Nat.zero_add, hlen, Nat.ble_eq]; exact Nat.le_refl _
  · rintro _ w' t'
    have e : setAt cs 0 (Value.agg vs.toArray).cells.toList = vs := setAt_whole hlen
    rw [e] at t'; exact t'
theorem _root_.Go.RnW.onlyT.sl {T : TypeId} {n0 : Nat} {a b c : World} {sz n : Nat} {v : Value} {cs : List Value} (h : IsSl a sz v n cs) (hn : a.heap.size ≤ n0) (x : Ext a b) (s : Go.RnW.onlyT T n0 b c) : IsSl c sz v n cs := by
  rcases h.inv with ⟨d0, rfl, rfl, rfl⟩ | ⟨g, o, cap, rfl, hr, hl, hc⟩
  · exact .nil
  · refine .row (fun i u hu => ?_) hl hc
    have h1 := hr i u hu
    have := cell_lt h1
    exact cell_ext (cell_ext h1 x id) s.1 (fun h => by have := h.1; omega)
theorem _root_.Go.RnW.onlyT.rw {T : TypeId} {n0 : Nat} {a b c : World} {g o : Nat} {cs : List Value} (h : Row a g o cs) (hn : a.heap.size ≤ n0) (x : Ext a b) (s : Go.RnW.onlyT T n0 b c) : Row c g o cs := fun i u hu => by
  have h1 := h i u hu
  have := cell_lt h1
  exact cell_ext (cell_ext h1 x id) s.1 (fun h => by have := h.1; omega)
end Go.Rn
namespace Go.Rec
open Go.Rn
theorem OpE.buildN {P : Program} {w : World} {env : Env} {dst : Option Tmp} {ty : TypeId} {pos : String} {after : Array Edge} {guard : Option (Nat × Bool)} {α : Type} {enc : α → List Value} {k : Nat} (h : EncOk enc k) {T : Tab} (hT : T.Ok P) {t e : TypeId} {ag : Bool} {s b len : Nat} {z : List Value} {a u : Bool} {ie : TI} {parts : Array (Nat × Operand)} (l : List α)
    (ht : T.get t = some ⟨.slc k ag e, s, b, z, a, u⟩) (he : T.get e = some ie) (hz : ie.zero.length = k) (hlen : Nat.ble (len * k) 16777216 = true) (hp : evParts env parts.toList = some (enumV 0 (l.map fun x => Value.agg (enc x).toArray)))
    (hl : l.length = len) :
    OpE P env w ⟨dst, .buildSlice t len parts, ty, pos, after, guard⟩ (fun v w' => (∃ B, v = .slice (some ⟨B, 0, none⟩) l.length l.length ∧ w.heap.size ≤ B) ∧ IsL w' enc k v l ∧ Ext w w') fun _ _ => False := by
  refine OpE.mono (OpE.buildSl hT _ ht he hz hlen hp (by rw [List.length_map]; exact hl) fun v hv => ?_) ?_ fun _ _ h => h
  · obtain ⟨x, -, rfl⟩ := List.mem_map.1 hv
    exact h.len x
  · rintro _ w' ⟨B, rfl, a⟩
    rw [cellsAll_flat] at a
    subst hl
    exact ⟨⟨B, rfl, Nat.le_of_eq a.eq.symm⟩, isSl_added a (flat_length h l), a.ext⟩
/-- A list's own block is an old one. -/
def InB (w : World) (v : Value) : Prop := ∀ k, v.ownBlock = some k → k < w.heap.size
theorem InB.up {w w' : World} {v : Value} (h : InB w v) (e : Ext w w') : InB w' v := fun k hk => Nat.lt_of_lt_of_le (h k hk) e.size
end Go.Rec
namespace Go.Sg
open Go.Rn Go.Proofs Go.Dee Go.Rec Go.RowKit Go.Sha Go.Cod Go.NT
attribute [local irreducible] Go.Rn.RetsX Go.Rn.RunLN Go.Rn.AsyN Go.Rn.RunL Go.Rn.RunE Go.Rn.Asy Go.Rn.OpV Go.Rn.OpE Go.Rn.ExecE
set_option maxRecDepth 8000 in
set_option maxHeartbeats 4000000 in
theorem dMake_go (x person no at_ : Int) (prev : Dg) (seen : List Dg) (data : List UInt8) (du : Option Addr) (cu : Nat) (dv : Option Addr) (cv : Nat) (w : World) (hx : -9223372036854775808 ≤ x ∧ x < 9223372036854775808) (h0 : makeE x (askD person no at_ prev seen data) = 0) (hs : LDg w (.slice du seen.length cu) seen) (hb : LBy w (.slice dv data.length cv) data) (hl : seen.length < 9223372036854775808) (hl' : data.length < 9223372036854775808) (hS : Row w 0 0 (vals init8.l)) (hkT : Row w 1 0 (vals kTab)) :
    Rets Tryd.prog 13 [.int .i64 x, .int .i64 person, .int .i64 no, .int .i64 at_, .agg (digC prev).toArray, .slice du seen.length cu, .slice dv data.length cv] w fun r w' => r = .tuple #[.agg (dCells (makeD x (askD person no at_ prev seen data)) (.slice du seen.length cu) (.slice dv data.length cv)).toArray, .int .i64 0] ∧ Ext w w' := by
  have c1 := fun w h1 h2 => dformed_ok (askD person no at_ prev seen data) (.slice du seen.length cu) (.slice dv data.length cv) w h1 h2 hl hl'
  obtain ⟨hq, hf, -⟩ := make_good h0
  have hq' : 1 ≤ x ∧ x < 1073741789 := of_decide_eq_true hq
  rw [hf] at c1
  have h1 : makeD x (askD person no at_ prev seen data) = ⟨person, no, at_, prev, seen, data, sigE x (textD (askD person no at_ prev seen data)), sigS x (textD (askD person no at_ prev seen data))⟩ := by unfold makeD; rw [h0]; rfl
  have hr : sigR x = 0 := by unfold sigR; rw [hq]; rfl
  rw [h1]
  have c2 := fun w h1 h2 => dtext_ok (askD person no at_ prev seen data) (.slice du seen.length cu) (.slice dv data.length cv) w h1 h2 hf
  have c3 := fun r w h => sign_ok x r (textD (askD person no at_ prev seen data)) w hx h (Nat.le_trans (text_len hf) (by decide))
  rw [hr] at c3
  clear h0 h1 hr
  generalize hE : sigE x (textD (askD person no at_ prev seen data)) = E at c3 ⊢
  generalize hS' : sigS x (textD (askD person no at_ prev seen data)) = S at c3 ⊢
  clear hE hS'
  refine RetsX.of (nt := 48) Tryd.func13 (by kernel_rfl) rfl rfl (by simp) (by simp only [argEnv]; rfl) ?_
  have X := ExtB.refl (fun _ => False) w
  repeat' (first | with_reducible refine RunLN.boolT rfl ?_ | with_reducible refine RunLN.boolF rfl ?_ | refine RunLN.boolT (by assumption) ?_ | refine RunLN.boolF (by assumption) ?_ | with_reducible refine RunLN.eqT rfl ?_ | with_reducible refine RunLN.neF rfl ?_ | (with_reducible refine RunLN.decT ?_ ?_; focus omega) | (with_reducible refine RunLN.decF ?_ ?_; focus omega) | (with_reducible refine RunLN.eqT ?_ ?_; focus omega) | (with_reducible refine RunLN.eqF ?_ ?_; focus omega) | (with_reducible refine RunLN.neT ?_ ?_; focus omega) | (with_reducible refine RunLN.neF ?_ ?_; focus omega) | refine RunLN.boolT (by exact rfl) ?_ | refine RunLN.boolF (by exact rfl) ?_ | (with_reducible refine RunLN.chk ?_; refine RunLN.int (by (first | (refine wr_i64 ?_ ?_; omega; omega) | (refine wm_i64 ?_; omega) | (refine wq_i64 ?_ ?_ ?_; omega; omega; omega) | rfl)) ?_) | (refine RunLN.boolC (fun h_ => ?_) (fun h_ => ?_) <;> (try simp only [decide_eq_true_eq, decide_eq_false_iff_not, beq_iff_eq, bne_iff_ne, ne_eq, Bool.not_eq_true, Bool.not_eq_false, beq_eq_false_iff_ne, bne_eq_false_iff_eq, Bool.not_eq_eq_eq_not, Bool.not_true, Bool.not_false, Bool.not_not, Int.not_lt, Int.not_le, gt_iff_lt, ge_iff_le, Decidable.not_not] at h_)) | refine RunLN.any ?_ | refine RunL.ev Tryd.tOk rfl rfl rfl ?_ | refine RunL.unwantedD rfl rfl ?_ | refine RunL.unwantedN rfl ?_ | refine RunL.evV rfl rfl rfl (OpV.indexS Tryd.tOk _ rfl rfl rfl rfl (by omega)) ?_ | refine RunE.condT rfl rfl ?_ | refine RunE.condF rfl rfl ?_ | refine RunE.seq ?_ | refine RunE.region ?_ | refine RunL.nil ?_ | refine RunE.block ?_ | refine RunE.inBlock ?_ | refine RunE.skip ?_ | refine RunE.exit rfl ?_ | refine RunE.scope ?_ | refine RunE.inScope ?_ | refine RunE.label ?_)
  refine RunL.box rfl rfl rfl fun B11 w11_ a_ => ?_
  have Z11 : Blk w11_ B11 (digC prev) 23 := a_.at_
  have gB11 := a_.ge X
  replace X := X.trans a_.ext
  clear a_
  repeat' (first | with_reducible refine RunLN.boolT rfl ?_ | with_reducible refine RunLN.boolF rfl ?_ | refine RunLN.boolT (by assumption) ?_ | refine RunLN.boolF (by assumption) ?_ | with_reducible refine RunLN.eqT rfl ?_ | with_reducible refine RunLN.neF rfl ?_ | (with_reducible refine RunLN.decT ?_ ?_; focus omega) | (with_reducible refine RunLN.decF ?_ ?_; focus omega) | (with_reducible refine RunLN.eqT ?_ ?_; focus omega) | (with_reducible refine RunLN.eqF ?_ ?_; focus omega) | (with_reducible refine RunLN.neT ?_ ?_; focus omega) | (with_reducible refine RunLN.neF ?_ ?_; focus omega) | refine RunLN.boolT (by exact rfl) ?_ | refine RunLN.boolF (by exact rfl) ?_ | (with_reducible refine RunLN.chk ?_; refine RunLN.int (by (first | (refine wr_i64 ?_ ?_; omega; omega) | (refine wm_i64 ?_; omega) | (refine wq_i64 ?_ ?_ ?_; omega; omega; omega) | rfl)) ?_) | (refine RunLN.boolC (fun h_ => ?_) (fun h_ => ?_) <;> (try simp only [decide_eq_true_eq, decide_eq_false_iff_not, beq_iff_eq, bne_iff_ne, ne_eq, Bool.not_eq_true, Bool.not_eq_false, beq_eq_false_iff_ne, bne_eq_false_iff_eq, Bool.not_eq_eq_eq_not, Bool.not_true, Bool.not_false, Bool.not_not, Int.not_lt, Int.not_le, gt_iff_lt, ge_iff_le, Decidable.not_not] at h_)) | refine RunLN.any ?_ | refine RunL.ev Tryd.tOk rfl rfl rfl ?_ | refine RunL.unwantedD rfl rfl ?_ | refine RunL.unwantedN rfl ?_ | refine RunL.evV rfl rfl rfl (OpV.indexS Tryd.tOk _ rfl rfl rfl rfl (by omega)) ?_ | refine RunE.condT rfl rfl ?_ | refine RunE.condF rfl rfl ?_ | refine RunE.seq ?_ | refine RunE.region ?_ | refine RunL.nil ?_ | refine RunE.block ?_ | refine RunE.inBlock ?_ | refine RunE.skip ?_ | refine RunE.exit rfl ?_ | refine RunE.scope ?_ | refine RunE.inScope ?_ | refine RunE.label ?_)
  refine RunL.alloc Tryd.tOk rfl rfl rfl fun B14 w14_ a_ => ?_
  have Z14 : Blk w14_ B14 (dCells zeroD nilV nilV) 29 := a_.at_
  have gB14 := a_.ge X
  have n11_14 : B11 ≠ B14 := by have := Z11.lt; have := a_.eq; omega
  have n14_11 : B14 ≠ B11 := Ne.symm n11_14
  replace Z11 := Z11.up a_.ext
  replace X := X.trans a_.ext
  clear a_
  repeat' (first | with_reducible refine RunLN.boolT rfl ?_ | with_reducible refine RunLN.boolF rfl ?_ | refine RunLN.boolT (by assumption) ?_ | refine RunLN.boolF (by assumption) ?_ | with_reducible refine RunLN.eqT rfl ?_ | with_reducible refine RunLN.neF rfl ?_ | (with_reducible refine RunLN.decT ?_ ?_; focus omega) | (with_reducible refine RunLN.decF ?_ ?_; focus omega) | (with_reducible refine RunLN.eqT ?_ ?_; focus omega) | (with_reducible refine RunLN.eqF ?_ ?_; focus omega) | (with_reducible refine RunLN.neT ?_ ?_; focus omega) | (with_reducible refine RunLN.neF ?_ ?_; focus omega) | refine RunLN.boolT (by exact rfl) ?_ | refine RunLN.boolF (by exact rfl) ?_ | (with_reducible refine RunLN.chk ?_; refine RunLN.int (by (first | (refine wr_i64 ?_ ?_; omega; omega) | (refine wm_i64 ?_; omega) | (refine wq_i64 ?_ ?_ ?_; omega; omega; omega) | rfl)) ?_) | (refine RunLN.boolC (fun h_ => ?_) (fun h_ => ?_) <;> (try simp only [decide_eq_true_eq, decide_eq_false_iff_not, beq_iff_eq, bne_iff_ne, ne_eq, Bool.not_eq_true, Bool.not_eq_false, beq_eq_false_iff_ne, bne_eq_false_iff_eq, Bool.not_eq_eq_eq_not, Bool.not_true, Bool.not_false, Bool.not_not, Int.not_lt, Int.not_le, gt_iff_lt, ge_iff_le, Decidable.not_not] at h_)) | refine RunLN.any ?_ | refine RunL.ev Tryd.tOk rfl rfl ((build_deed (sn := seen) (dt := data) rfl rfl rfl rfl rfl rfl)) ?_ | refine RunL.ev Tryd.tOk rfl rfl rfl ?_ | refine RunL.unwantedD rfl rfl ?_ | refine RunL.unwantedN rfl ?_ | refine RunL.evV rfl rfl rfl (OpV.loadN Tryd.tOk rfl rfl rfl rfl (Blk.row Z11)) ?_ | refine RunL.evV rfl rfl rfl (OpV.indexS Tryd.tOk _ rfl rfl rfl rfl (by omega)) ?_ | refine RunE.condT rfl rfl ?_ | refine RunE.condF rfl rfl ?_ | refine RunE.seq ?_ | refine RunE.region ?_ | refine RunL.nil ?_ | refine RunE.block ?_ | refine RunE.inBlock ?_ | refine RunE.skip ?_ | refine RunE.exit rfl ?_ | refine RunE.scope ?_ | refine RunE.inScope ?_ | refine RunE.label ?_)
  refine RunL.alloc Tryd.tOk rfl rfl rfl fun B16 wa_ aa_ => ?_
  have gB16 := aa_.ge X
  refine RunL.storeW (vs := dCells (askD person no at_ prev seen data) (.slice du seen.length cu) (.slice dv data.length cv)) Tryd.tOk rfl rfl rfl rfl rfl aa_.at_ rfl rfl fun w16_ tb_ => ?_
  have Xa_ : Ext _ w16_ := aa_.ext.write tb_.ext (by intro i_ hi_ hlt_; have := aa_.eq; omega)
  have Z16 : Blk w16_ B16 (dCells (askD person no at_ prev seen data) (.slice du seen.length cu) (.slice dv data.length cv)) 29 := tb_.at_
  have n14_16 : B14 ≠ B16 := by have := Z14.lt; have := aa_.eq; omega
  have n16_14 : B16 ≠ B14 := Ne.symm n14_16
  replace Z14 := Z14.up Xa_
  replace X := X.trans Xa_
  clear Xa_ aa_ tb_
  clear Z11
  repeat' (first | with_reducible refine RunLN.boolT rfl ?_ | with_reducible refine RunLN.boolF rfl ?_ | refine RunLN.boolT (by assumption) ?_ | refine RunLN.boolF (by assumption) ?_ | with_reducible refine RunLN.eqT rfl ?_ | with_reducible refine RunLN.neF rfl ?_ | (with_reducible refine RunLN.decT ?_ ?_; focus omega) | (with_reducible refine RunLN.decF ?_ ?_; focus omega) | (with_reducible refine RunLN.eqT ?_ ?_; focus omega) | (with_reducible refine RunLN.eqF ?_ ?_; focus omega) | (with_reducible refine RunLN.neT ?_ ?_; focus omega) | (with_reducible refine RunLN.neF ?_ ?_; focus omega) | refine RunLN.boolT (by exact rfl) ?_ | refine RunLN.boolF (by exact rfl) ?_ | (with_reducible refine RunLN.chk ?_; refine RunLN.int (by (first | (refine wr_i64 ?_ ?_; omega; omega) | (refine wm_i64 ?_; omega) | (refine wq_i64 ?_ ?_ ?_; omega; omega; omega) | rfl)) ?_) | (refine RunLN.boolC (fun h_ => ?_) (fun h_ => ?_) <;> (try simp only [decide_eq_true_eq, decide_eq_false_iff_not, beq_iff_eq, bne_iff_ne, ne_eq, Bool.not_eq_true, Bool.not_eq_false, beq_eq_false_iff_ne, bne_eq_false_iff_eq, Bool.not_eq_eq_eq_not, Bool.not_true, Bool.not_false, Bool.not_not, Int.not_lt, Int.not_le, gt_iff_lt, ge_iff_le, Decidable.not_not] at h_)) | refine RunLN.any ?_ | refine RunL.ev Tryd.tOk rfl rfl rfl ?_ | refine RunL.unwantedD rfl rfl ?_ | refine RunL.unwantedN rfl ?_ | refine RunL.evV rfl rfl rfl (OpV.loadN Tryd.tOk rfl rfl rfl rfl (Blk.row Z16)) ?_ | refine RunL.evV rfl rfl rfl (OpV.indexS Tryd.tOk _ rfl rfl rfl rfl (by omega)) ?_ | refine RunE.condT rfl rfl ?_ | refine RunE.condF rfl rfl ?_ | refine RunE.seq ?_ | refine RunE.region ?_ | refine RunL.nil ?_ | refine RunE.block ?_ | refine RunE.inBlock ?_ | refine RunE.skip ?_ | refine RunE.exit rfl ?_ | refine RunE.scope ?_ | refine RunE.inScope ?_ | refine RunE.label ?_)
  refine RunL.call rfl rfl rfl (c1 _ (hs.up X) (hb.up X)) ?_
  rintro _ _ ⟨rfl, Xa_⟩
  replace Z14 := Z14.up Xa_
  replace Z16 := Z16.up Xa_
  replace X := X.trans Xa_
  clear Xa_
  repeat' (first | with_reducible refine RunLN.boolT rfl ?_ | with_reducible refine RunLN.boolF rfl ?_ | refine RunLN.boolT (by assumption) ?_ | refine RunLN.boolF (by assumption) ?_ | with_reducible refine RunLN.eqT rfl ?_ | with_reducible refine RunLN.neF rfl ?_ | (with_reducible refine RunLN.decT ?_ ?_; focus omega) | (with_reducible refine RunLN.decF ?_ ?_; focus omega) | (with_reducible refine RunLN.eqT ?_ ?_; focus omega) | (with_reducible refine RunLN.eqF ?_ ?_; focus omega) | (with_reducible refine RunLN.neT ?_ ?_; focus omega) | (with_reducible refine RunLN.neF ?_ ?_; focus omega) | refine RunLN.boolT (by exact rfl) ?_ | refine RunLN.boolF (by exact rfl) ?_ | (with_reducible refine RunLN.chk ?_; refine RunLN.int (by (first | (refine wr_i64 ?_ ?_; omega; omega) | (refine wm_i64 ?_; omega) | (refine wq_i64 ?_ ?_ ?_; omega; omega; omega) | rfl)) ?_) | (refine RunLN.boolC (fun h_ => ?_) (fun h_ => ?_) <;> (try simp only [decide_eq_true_eq, decide_eq_false_iff_not, beq_iff_eq, bne_iff_ne, ne_eq, Bool.not_eq_true, Bool.not_eq_false, beq_eq_false_iff_ne, bne_eq_false_iff_eq, Bool.not_eq_eq_eq_not, Bool.not_true, Bool.not_false, Bool.not_not, Int.not_lt, Int.not_le, gt_iff_lt, ge_iff_le, Decidable.not_not] at h_)) | refine RunLN.any ?_ | refine RunL.ev Tryd.tOk rfl rfl rfl ?_ | refine RunL.unwantedD rfl rfl ?_ | refine RunL.unwantedN rfl ?_ | refine RunL.evV rfl rfl rfl (OpV.loadN Tryd.tOk rfl rfl rfl rfl (Blk.row Z16)) ?_ | refine RunL.evV rfl rfl rfl (OpV.indexS Tryd.tOk _ rfl rfl rfl rfl (by omega)) ?_ | refine RunE.condT rfl rfl ?_ | refine RunE.condF rfl rfl ?_ | refine RunE.seq ?_ | refine RunE.region ?_ | refine RunL.nil ?_ | refine RunE.block ?_ | refine RunE.inBlock ?_ | refine RunE.skip ?_ | refine RunE.exit rfl ?_ | refine RunE.scope ?_ | refine RunE.inScope ?_ | refine RunE.label ?_)
  refine RunL.call rfl rfl rfl (c2 _ (hs.up X) (hb.up X)) ?_
  rintro r w5 ⟨O5, Xa_⟩
  have O6 : LBy w5 r (textD (askD person no at_ prev seen data)) := isSl_own O5
  clear O5
  replace Z14 := Z14.up Xa_
  replace Z16 := Z16.up Xa_
  replace X := X.trans Xa_
  clear Xa_
  repeat' (first | with_reducible refine RunLN.boolT rfl ?_ | with_reducible refine RunLN.boolF rfl ?_ | refine RunLN.boolT (by assumption) ?_ | refine RunLN.boolF (by assumption) ?_ | with_reducible refine RunLN.eqT rfl ?_ | with_reducible refine RunLN.neF rfl ?_ | (with_reducible refine RunLN.decT ?_ ?_; focus omega) | (with_reducible refine RunLN.decF ?_ ?_; focus omega) | (with_reducible refine RunLN.eqT ?_ ?_; focus omega) | (with_reducible refine RunLN.eqF ?_ ?_; focus omega) | (with_reducible refine RunLN.neT ?_ ?_; focus omega) | (with_reducible refine RunLN.neF ?_ ?_; focus omega) | refine RunLN.boolT (by exact rfl) ?_ | refine RunLN.boolF (by exact rfl) ?_ | (with_reducible refine RunLN.chk ?_; refine RunLN.int (by (first | (refine wr_i64 ?_ ?_; omega; omega) | (refine wm_i64 ?_; omega) | (refine wq_i64 ?_ ?_ ?_; omega; omega; omega) | rfl)) ?_) | (refine RunLN.boolC (fun h_ => ?_) (fun h_ => ?_) <;> (try simp only [decide_eq_true_eq, decide_eq_false_iff_not, beq_iff_eq, bne_iff_ne, ne_eq, Bool.not_eq_true, Bool.not_eq_false, beq_eq_false_iff_ne, bne_eq_false_iff_eq, Bool.not_eq_eq_eq_not, Bool.not_true, Bool.not_false, Bool.not_not, Int.not_lt, Int.not_le, gt_iff_lt, ge_iff_le, Decidable.not_not] at h_)) | refine RunLN.any ?_ | refine RunL.ev Tryd.tOk rfl rfl rfl ?_ | refine RunL.unwantedD rfl rfl ?_ | refine RunL.unwantedN rfl ?_ | refine RunL.evV rfl rfl rfl (OpV.indexS Tryd.tOk _ rfl rfl rfl rfl (by omega)) ?_ | refine RunE.condT rfl rfl ?_ | refine RunE.condF rfl rfl ?_ | refine RunE.seq ?_ | refine RunE.region ?_ | refine RunL.nil ?_ | refine RunE.block ?_ | refine RunE.inBlock ?_ | refine RunE.skip ?_ | refine RunE.exit rfl ?_ | refine RunE.scope ?_ | refine RunE.inScope ?_ | refine RunE.label ?_)
  refine RunL.call rfl rfl rfl (c3 r _ O6 (hS.up X) (hkT.up X)) ?_
  rintro _ _ ⟨rfl, Xa_⟩
  replace Z14 := Z14.up Xa_
  replace Z16 := Z16.up Xa_
  replace X := X.trans Xa_
  clear Xa_
  clear O6
  repeat' (first | with_reducible refine RunLN.boolT rfl ?_ | with_reducible refine RunLN.boolF rfl ?_ | refine RunLN.boolT (by assumption) ?_ | refine RunLN.boolF (by assumption) ?_ | with_reducible refine RunLN.eqT rfl ?_ | with_reducible refine RunLN.neF rfl ?_ | (with_reducible refine RunLN.decT ?_ ?_; focus omega) | (with_reducible refine RunLN.decF ?_ ?_; focus omega) | (with_reducible refine RunLN.eqT ?_ ?_; focus omega) | (with_reducible refine RunLN.eqF ?_ ?_; focus omega) | (with_reducible refine RunLN.neT ?_ ?_; focus omega) | (with_reducible refine RunLN.neF ?_ ?_; focus omega) | refine RunLN.boolT (by exact rfl) ?_ | refine RunLN.boolF (by exact rfl) ?_ | (with_reducible refine RunLN.chk ?_; refine RunLN.int (by (first | (refine wr_i64 ?_ ?_; omega; omega) | (refine wm_i64 ?_; omega) | (refine wq_i64 ?_ ?_ ?_; omega; omega; omega) | rfl)) ?_) | (refine RunLN.boolC (fun h_ => ?_) (fun h_ => ?_) <;> (try simp only [decide_eq_true_eq, decide_eq_false_iff_not, beq_iff_eq, bne_iff_ne, ne_eq, Bool.not_eq_true, Bool.not_eq_false, beq_eq_false_iff_ne, bne_eq_false_iff_eq, Bool.not_eq_eq_eq_not, Bool.not_true, Bool.not_false, Bool.not_not, Int.not_lt, Int.not_le, gt_iff_lt, ge_iff_le, Decidable.not_not] at h_)) | refine RunLN.any ?_ | refine RunL.ev Tryd.tOk rfl rfl rfl ?_ | refine RunL.unwantedD rfl rfl ?_ | refine RunL.unwantedN rfl ?_ | refine RunL.evV rfl rfl rfl (OpV.indexS Tryd.tOk _ rfl rfl rfl rfl (by omega)) ?_ | refine RunE.condT rfl rfl ?_ | refine RunE.condF rfl rfl ?_ | refine RunE.seq ?_ | refine RunE.region ?_ | refine RunL.nil ?_ | refine RunE.block ?_ | refine RunE.inBlock ?_ | refine RunE.skip ?_ | refine RunE.exit rfl ?_ | refine RunE.scope ?_ | refine RunE.inScope ?_ | refine RunE.label ?_)
  refine RunL.store Tryd.tOk rfl rfl rfl rfl rfl Z16 rfl rfl fun w_ t_ => ?_
  replace X := X.own t_.ext gB16
  replace Z14 := Z14.other t_.ext n14_16
  replace Z16 : Blk w_ B16 (dCells ⟨person, no, at_, prev, seen, data, E, S⟩ (.slice du seen.length cu) (.slice dv data.length cv)) 29 := t_.at_
  clear t_
  repeat' (first | with_reducible refine RunLN.boolT rfl ?_ | with_reducible refine RunLN.boolF rfl ?_ | refine RunLN.boolT (by assumption) ?_ | refine RunLN.boolF (by assumption) ?_ | with_reducible refine RunLN.eqT rfl ?_ | with_reducible refine RunLN.neF rfl ?_ | (with_reducible refine RunLN.decT ?_ ?_; focus omega) | (with_reducible refine RunLN.decF ?_ ?_; focus omega) | (with_reducible refine RunLN.eqT ?_ ?_; focus omega) | (with_reducible refine RunLN.eqF ?_ ?_; focus omega) | (with_reducible refine RunLN.neT ?_ ?_; focus omega) | (with_reducible refine RunLN.neF ?_ ?_; focus omega) | refine RunLN.boolT (by exact rfl) ?_ | refine RunLN.boolF (by exact rfl) ?_ | (with_reducible refine RunLN.chk ?_; refine RunLN.int (by (first | (refine wr_i64 ?_ ?_; omega; omega) | (refine wm_i64 ?_; omega) | (refine wq_i64 ?_ ?_ ?_; omega; omega; omega) | rfl)) ?_) | (refine RunLN.boolC (fun h_ => ?_) (fun h_ => ?_) <;> (try simp only [decide_eq_true_eq, decide_eq_false_iff_not, beq_iff_eq, bne_iff_ne, ne_eq, Bool.not_eq_true, Bool.not_eq_false, beq_eq_false_iff_ne, bne_eq_false_iff_eq, Bool.not_eq_eq_eq_not, Bool.not_true, Bool.not_false, Bool.not_not, Int.not_lt, Int.not_le, gt_iff_lt, ge_iff_le, Decidable.not_not] at h_)) | refine RunLN.any ?_ | refine RunL.ev Tryd.tOk rfl rfl rfl ?_ | refine RunL.unwantedD rfl rfl ?_ | refine RunL.unwantedN rfl ?_ | refine RunL.evV rfl rfl rfl (OpV.loadN Tryd.tOk rfl rfl rfl rfl (Blk.row Z16)) ?_ | refine RunL.evV rfl rfl rfl (OpV.indexS Tryd.tOk _ rfl rfl rfl rfl (by omega)) ?_ | refine RunE.condT rfl rfl ?_ | refine RunE.condF rfl rfl ?_ | refine RunE.seq ?_ | refine RunE.region ?_ | refine RunL.nil ?_ | refine RunE.block ?_ | refine RunE.inBlock ?_ | refine RunE.skip ?_ | refine RunE.exit rfl ?_ | refine RunE.scope ?_ | refine RunE.inScope ?_ | refine RunE.label ?_)
  refine RunL.storeW (vs := dCells ⟨person, no, at_, prev, seen, data, E, S⟩ (.slice du seen.length cu) (.slice dv data.length cv)) Tryd.tOk rfl rfl rfl rfl rfl Z14 rfl rfl fun w_ t_ => ?_
  replace X := X.own t_.ext gB14
  replace Z14 : Blk w_ B14 (dCells ⟨person, no, at_, prev, seen, data, E, S⟩ (.slice du seen.length cu) (.slice dv data.length cv)) 29 := t_.at_
  clear t_
  repeat' (first | with_reducible refine RunLN.boolT rfl ?_ | with_reducible refine RunLN.boolF rfl ?_ | refine RunLN.boolT (by assumption) ?_ | refine RunLN.boolF (by assumption) ?_ | with_reducible refine RunLN.eqT rfl ?_ | with_reducible refine RunLN.neF rfl ?_ | (with_reducible refine RunLN.decT ?_ ?_; focus omega) | (with_reducible refine RunLN.decF ?_ ?_; focus omega) | (with_reducible refine RunLN.eqT ?_ ?_; focus omega) | (with_reducible refine RunLN.eqF ?_ ?_; focus omega) | (with_reducible refine RunLN.neT ?_ ?_; focus omega) | (with_reducible refine RunLN.neF ?_ ?_; focus omega) | refine RunLN.boolT (by exact rfl) ?_ | refine RunLN.boolF (by exact rfl) ?_ | (with_reducible refine RunLN.chk ?_; refine RunLN.int (by (first | (refine wr_i64 ?_ ?_; omega; omega) | (refine wm_i64 ?_; omega) | (refine wq_i64 ?_ ?_ ?_; omega; omega; omega) | rfl)) ?_) | (refine RunLN.boolC (fun h_ => ?_) (fun h_ => ?_) <;> (try simp only [decide_eq_true_eq, decide_eq_false_iff_not, beq_iff_eq, bne_iff_ne, ne_eq, Bool.not_eq_true, Bool.not_eq_false, beq_eq_false_iff_ne, bne_eq_false_iff_eq, Bool.not_eq_eq_eq_not, Bool.not_true, Bool.not_false, Bool.not_not, Int.not_lt, Int.not_le, gt_iff_lt, ge_iff_le, Decidable.not_not] at h_)) | refine RunLN.any ?_ | refine RunL.ev Tryd.tOk rfl rfl rfl ?_ | refine RunL.unwantedD rfl rfl ?_ | refine RunL.unwantedN rfl ?_ | refine RunL.evV rfl rfl rfl (OpV.indexS Tryd.tOk _ rfl rfl rfl rfl (by omega)) ?_ | refine RunE.condT rfl rfl ?_ | refine RunE.condF rfl rfl ?_ | refine RunE.seq ?_ | refine RunE.region ?_ | refine RunL.nil ?_ | refine RunE.block ?_ | refine RunE.inBlock ?_ | refine RunE.skip ?_ | refine RunE.exit rfl ?_ | refine RunE.scope ?_ | refine RunE.inScope ?_ | refine RunE.label ?_)
  exact RunE.retFn Tryd.func13 (.cell rfl (.agg Tryd.tOk rfl rfl rfl Z14.row) (.tmp rfl .nil)) ⟨rfl, X⟩
end Go.Sg
