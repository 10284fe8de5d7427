/- Offices: seats, sorted by person. -/
import Derived.Test.YtgccoipbcbccnaaOffA
import Derived.Test.YtgccoipbcbccnaaSortB
import Derived.Test.YtgccoipbcbccnaaSortS
set_option linter.unusedSimpArgs false
set_option linter.unusedVariables false
set_option linter.unusedSectionVars false
namespace Go.Off
open Go.Rn Go.Rec Go.Sort Go.Best Go.Proofs
def cmpS (a b : Seat) : Int := cmpI a.2 b.2
theorem lt_seat (x y : Seat) : ltOf cmpS x y = decide (x.2 < y.2) := by
  unfold ltOf
  rw [Bool.eq_iff_iff, decide_eq_true_eq, decide_eq_true_eq]
  exact cmpI_neg
theorem swo_seat : SWO (ltOf cmpS) where
  irrefl x := by rw [lt_seat]; exact decide_eq_false (by omega)
  trans x y z h1 h2 := by
    rw [lt_seat] at *
    have h1 := of_decide_eq_true h1
    have h2 := of_decide_eq_true h2
    exact decide_eq_true (by omega)
  ntrans x y z h1 h2 := by
    rw [lt_seat] at *
    have h1 := of_decide_eq_false h1
    have h2 := of_decide_eq_false h2
    exact decide_eq_false (by omega)
theorem sorted_seat {f : List Seat} {d' : Array Seat} (hp : PermIn 0 f.toArray.size f.toArray d') (hd : SortedIn (ltOf cmpS) 0 f.toArray.size d') : d'.toList.Perm f ∧ d'.toList.Pairwise fun a b => ¬ b.2 < a.2 := by
  obtain ⟨h1, -, h3⟩ := hp
  have hperm : d'.toList.Perm f := by
    have e1 : d'.extract 0 f.toArray.size = d' := by rw [← h1, Array.extract_size]
    rw [e1] at h3
    simpa using h3
  refine ⟨hperm, ?_⟩
  rw [List.pairwise_iff_getElem]
  intro i j hi hj hij
  simp only [Array.length_toList] at hi hj
  have hsz : d'.size = f.length := by simpa using h1
  have h := hd i j (Nat.zero_le _) hij (by simpa [hsz] using hj)
  rw [lt_seat] at h
  have hno := of_decide_eq_false h
  simp only [Array.getElem_toList]
  rw [getElem!_pos d' i (by omega), getElem!_pos d' j (by omega)] at hno
  exact hno
end Go.Off
namespace Go.Sg
open Go.Rn Go.Proofs Go.Off Go.Rec Go.Best Go.Sort
section
attribute [local irreducible] Go.Rn.RetsX Go.Rn.RunLN Go.Rn.AsyN Go.Rn.RunL Go.Rn.RunE Go.Rn.Asy Go.Rn.OpV Go.Rn.OpE Go.Rn.ExecE
theorem bySeat_ok (x y : Seat) (w : World) : Rets Try.prog 90 [.agg (Seat.cells x).toArray, .agg (Seat.cells y).toArray] w fun v w' => v = .int .i64 (cmpS x y) ∧ Ext w w' := by
  refine RetsX.of (nt := 10) Try.func90 (by kernel_rfl) rfl rfl (by simp) (by simp only [argEnv]; rfl) ?_
  have X := ExtB.refl (fun _ => False) w
  repeat' (first | with_reducible refine RunLN.boolT rfl ?_ | with_reducible refine RunLN.boolF rfl ?_ | refine RunLN.boolT (by assumption) ?_ | refine RunLN.boolF (by assumption) ?_ | (with_reducible refine RunLN.decT ?_ ?_; focus omega) | (with_reducible refine RunLN.decF ?_ ?_; focus omega) | (with_reducible refine RunLN.eqT ?_ ?_; focus omega) | (with_reducible refine RunLN.eqF ?_ ?_; focus omega) | (with_reducible refine RunLN.neT ?_ ?_; focus omega) | (with_reducible refine RunLN.neF ?_ ?_; focus omega) | refine RunLN.boolT (by exact rfl) ?_ | refine RunLN.boolF (by exact rfl) ?_ | refine RunLN.int (by (first | exact wr_i64 (by omega) (by omega) | exact wm_i64 (by omega) | exact wq_i64 (by omega) (by omega) (by omega) | rfl)) ?_ | (refine RunLN.boolC (fun h_ => ?_) (fun h_ => ?_) <;> (try simp only [decide_eq_true_eq, decide_eq_false_iff_not, beq_iff_eq, bne_iff_ne, ne_eq, Bool.not_eq_true, Bool.not_eq_false, beq_eq_false_iff_ne, bne_eq_false_iff_eq, Bool.not_eq_eq_eq_not, Bool.not_true, Bool.not_false, Bool.not_not, Int.not_lt, Int.not_le, gt_iff_lt, ge_iff_le, Decidable.not_not] at h_)) | refine RunLN.any ?_ | refine RunL.ev Try.tOk rfl rfl rfl ?_ | refine RunL.unwantedD rfl rfl ?_ | refine RunL.unwantedN rfl ?_ | refine RunL.evV rfl rfl rfl (OpV.indexS Try.tOk _ rfl rfl rfl rfl (by omega)) ?_ | refine RunE.condT rfl rfl ?_ | refine RunE.condF rfl rfl ?_ | refine RunE.seq ?_ | refine RunE.region ?_ | refine RunL.nil ?_ | refine RunE.block ?_ | refine RunE.inBlock ?_ | refine RunE.skip ?_ | refine RunE.exit rfl ?_ | refine RunE.scope ?_ | refine RunE.inScope ?_ | refine RunE.label ?_)
  refine RunL.box rfl rfl rfl fun B2 w2_ a_ => ?_
  have Z2 : Blk w2_ B2 (Seat.cells x) 93 := a_.at_
  have gB2 := a_.ge X
  replace X := X.trans a_.ext
  clear a_
  repeat' (first | with_reducible refine RunLN.boolT rfl ?_ | with_reducible refine RunLN.boolF rfl ?_ | refine RunLN.boolT (by assumption) ?_ | refine RunLN.boolF (by assumption) ?_ | (with_reducible refine RunLN.decT ?_ ?_; focus omega) | (with_reducible refine RunLN.decF ?_ ?_; focus omega) | (with_reducible refine RunLN.eqT ?_ ?_; focus omega) | (with_reducible refine RunLN.eqF ?_ ?_; focus omega) | (with_reducible refine RunLN.neT ?_ ?_; focus omega) | (with_reducible refine RunLN.neF ?_ ?_; focus omega) | refine RunLN.boolT (by exact rfl) ?_ | refine RunLN.boolF (by exact rfl) ?_ | refine RunLN.int (by (first | exact wr_i64 (by omega) (by omega) | exact wm_i64 (by omega) | exact wq_i64 (by omega) (by omega) (by omega) | rfl)) ?_ | (refine RunLN.boolC (fun h_ => ?_) (fun h_ => ?_) <;> (try simp only [decide_eq_true_eq, decide_eq_false_iff_not, beq_iff_eq, bne_iff_ne, ne_eq, Bool.not_eq_true, Bool.not_eq_false, beq_eq_false_iff_ne, bne_eq_false_iff_eq, Bool.not_eq_eq_eq_not, Bool.not_true, Bool.not_false, Bool.not_not, Int.not_lt, Int.not_le, gt_iff_lt, ge_iff_le, Decidable.not_not] at h_)) | refine RunLN.any ?_ | refine RunL.ev Try.tOk rfl rfl rfl ?_ | refine RunL.unwantedD rfl rfl ?_ | refine RunL.unwantedN rfl ?_ | refine RunL.evV rfl rfl rfl (OpV.indexS Try.tOk _ rfl rfl rfl rfl (by omega)) ?_ | refine RunE.condT rfl rfl ?_ | refine RunE.condF rfl rfl ?_ | refine RunE.seq ?_ | refine RunE.region ?_ | refine RunL.nil ?_ | refine RunE.block ?_ | refine RunE.inBlock ?_ | refine RunE.skip ?_ | refine RunE.exit rfl ?_ | refine RunE.scope ?_ | refine RunE.inScope ?_ | refine RunE.label ?_)
  refine RunL.box rfl rfl rfl fun B3 w3_ a_ => ?_
  have Z3 : Blk w3_ B3 (Seat.cells y) 93 := a_.at_
  have gB3 := a_.ge X
  have n2_3 : B2 ≠ B3 := by have := Z2.lt; have := a_.eq; omega
  have n3_2 : B3 ≠ B2 := Ne.symm n2_3
  replace Z2 := Z2.up a_.ext
  replace X := X.trans a_.ext
  clear a_
  repeat' (first | with_reducible refine RunLN.boolT rfl ?_ | with_reducible refine RunLN.boolF rfl ?_ | refine RunLN.boolT (by assumption) ?_ | refine RunLN.boolF (by assumption) ?_ | (with_reducible refine RunLN.decT ?_ ?_; focus omega) | (with_reducible refine RunLN.decF ?_ ?_; focus omega) | (with_reducible refine RunLN.eqT ?_ ?_; focus omega) | (with_reducible refine RunLN.eqF ?_ ?_; focus omega) | (with_reducible refine RunLN.neT ?_ ?_; focus omega) | (with_reducible refine RunLN.neF ?_ ?_; focus omega) | refine RunLN.boolT (by exact rfl) ?_ | refine RunLN.boolF (by exact rfl) ?_ | refine RunLN.int (by (first | exact wr_i64 (by omega) (by omega) | exact wm_i64 (by omega) | exact wq_i64 (by omega) (by omega) (by omega) | rfl)) ?_ | refine RunLN.any ?_ | refine RunL.ev Try.tOk rfl rfl rfl ?_ | refine RunL.unwantedD rfl rfl ?_ | refine RunL.unwantedN rfl ?_ | refine RunL.evV rfl rfl rfl (OpV.load1 Try.tOk rfl rfl rfl (Blk.cell Z2 rfl)) ?_ | refine RunL.evV rfl rfl rfl (OpV.load1 Try.tOk rfl rfl rfl (Blk.cell Z3 rfl)) ?_ | refine RunL.callN rfl rfl rfl (compare_ok _ _ _) ?_ | refine RunL.evV rfl rfl rfl (OpV.indexS Try.tOk _ rfl rfl rfl rfl (by omega)) ?_ | refine RunE.condT rfl rfl ?_ | refine RunE.condF rfl rfl ?_ | refine RunE.seq ?_ | refine RunE.region ?_ | refine RunL.nil ?_ | refine RunE.block ?_ | refine RunE.inBlock ?_ | refine RunE.skip ?_ | refine RunE.exit rfl ?_ | refine RunE.scope ?_ | refine RunE.inScope ?_ | refine RunE.label ?_)
  exact RunE.retFn Try.func90 (.tmp rfl .nil) ⟨rfl, X⟩
end
theorem stSort_ok (f : List Seat) (v : Value) (base : Nat) (w : World) (hO : w.ownsRow base 93 2 v f.length (flat Seat.cells f)) (hl : f.length ≤ 100000) :
    Rets Try.prog 99 [v, .func (.func 90) #[] #[]] w fun _ w' => (∃ s : List Seat, s.Perm f ∧ (s.Pairwise fun a b => ¬ b.2 < a.2) ∧ IsL w' Seat.cells 2 v s) ∧ ExtB (fun k => base ≤ k) w w' := by
  by_cases hn : f.length = 0
  · obtain rfl := List.length_eq_zero_iff.1 hn
    obtain ⟨d, c, rfl⟩ := isSl_slice (isSl_own hO)
    have hc := AnyF.slices_SortFunc_none { Try.sortSt with } d c (.func (.func 90) #[] #[]) w
    refine ⟨⟨_, Try.func99, by kernel_rfl, by kernel_rfl⟩, hc.mono ?_⟩
    rintro e w' ⟨rfl, rfl⟩
    exact ⟨⟨[], List.Perm.refl _, List.Pairwise.nil, isSl_own hO⟩, ExtB.refl _ _⟩
  · have hsl := isSl_own hO
    rcases hO.2 with ⟨-, h0⟩ | ⟨g, cap, cur, rfl, hbg, hg, hnc, hcm, hcs, htake⟩
    · exact absurd h0 hn
    have hgl : g < w.heap.size := lt_of_get hg
    have hH : HoldsK Seat.cells 2 w g 0 f.toArray := holds_of encST (base := base) (n := f.length) (cap := cap) (e := 93) hO (by simp)
    have hcmp : CmpLays Try.prog 90 #[] Seat.cells 2 cmpS g 0 f.toArray.size w := fun m os dk _ x y => by
      refine (bySeat_ok x y _).2.mono fun e w' h => ?_
      cases e with
      | returned v => obtain ⟨rfl, hx⟩ := h; exact ⟨rfl, ext_grow hx⟩
      | panicked ch => exact h.elim
      | outgrown => exact h.elim
    have eg : ∀ args w, (callFunc 90 args).run Try.prog w = .ok (.enter 90 args) w := fun args w => run_callFunc ⟨_, Try.func90, by kernel_rfl, by kernel_rfl⟩ args
    have hc := AnyQ.slices_SortFunc Try.sortSt 2 (fun w => ?_) (fun w => ?_) Seat.cells (fun _ => rfl) ?_ cmpS swo_seat 90 #[] g 0 cap f.toArray w eg hcmp hH hgl (by simp; omega)
    · refine ⟨⟨_, Try.func99, by kernel_rfl, by kernel_rfl⟩, ?_⟩
      have hsz : f.toArray.size = f.length := by simp
      rw [hsz] at hc
      refine hc.mono ?_
      rintro e w' ⟨rfl, d', n, os, hp, hd, rfl⟩
      rw [← hsz] at hp hd
      obtain ⟨h1, h2⟩ := sorted_seat hp hd
      have hd' : d'.size = f.length := by have := hp.1; simpa using this
      refine ⟨⟨d'.toList, h1, h2, ?_⟩, ext_sortWorld.mono fun k _ h => by subst h; exact hbg⟩
      have := isL_holds (cap := cap) encST (holdsK_sortWorldK_c Seat.cells 2 w g 0 f.toArray d' n os hH hgl (by simp [hd'])) (by omega)
      rwa [hd'] at this
    · obtain ⟨d, hd, ha⟩ := TI.und (Try.tOk.get 93 _ rfl)
      exact (Go.Rn.run_isAgg hd).trans (by rw [ha])
    · obtain ⟨j, hj, hsz, -⟩ := TI.info (Try.tOk.get 93 _ rfl)
      exact (Go.Rn.run_sizeOf hj).trans (by rw [hsz])
    · intro x v hv
      exact one_plain (List.all_eq_true.1 (encST.plain x) v hv)
section
attribute [local irreducible] Go.Rn.RetsX Go.Rn.RunLN Go.Rn.AsyN Go.Rn.RunL Go.Rn.RunE Go.Rn.Asy Go.Rn.OpV Go.Rn.OpE Go.Rn.ExecE
theorem stSorted_ok (xs : List Seat) (f : Value) (F : Nat → Prop) (w : World) (hG : GivesK Try.prog f (fun ys => ys.Perm xs) (fun s => [.agg (Seat.cells s).toArray]) w F) (hF : ∀ k, F k → k < w.heap.size) (hl : xs.length ≤ 100000) :
    Rets Try.prog 91 [f, .func (.func 90) #[] #[]] w fun r w' => (∃ s : List Seat, s.Perm xs ∧ (s.Pairwise fun a b => ¬ b.2 < a.2) ∧ IsL w' Seat.cells 2 r s) ∧ (∀ k, r.ownBlock = some k → w.heap.size ≤ k) ∧ Ext w w' := by
  refine RetsX.of (nt := 12) Try.func91 (by kernel_rfl) rfl rfl (by simp) (by simp only [argEnv]; rfl) ?_
  repeat' (first | with_reducible refine RunLN.boolT rfl ?_ | with_reducible refine RunLN.boolF rfl ?_ | refine RunLN.boolT (by assumption) ?_ | refine RunLN.boolF (by assumption) ?_ | (with_reducible refine RunLN.decT ?_ ?_; focus omega) | (with_reducible refine RunLN.decF ?_ ?_; focus omega) | (with_reducible refine RunLN.eqT ?_ ?_; focus omega) | (with_reducible refine RunLN.eqF ?_ ?_; focus omega) | (with_reducible refine RunLN.neT ?_ ?_; focus omega) | (with_reducible refine RunLN.neF ?_ ?_; focus omega) | refine RunLN.boolT (by exact rfl) ?_ | refine RunLN.boolF (by exact rfl) ?_ | refine RunLN.int (by (first | exact wr_i64 (by omega) (by omega) | exact wm_i64 (by omega) | exact wq_i64 (by omega) (by omega) (by omega) | rfl)) ?_ | (refine RunLN.boolC (fun h_ => ?_) (fun h_ => ?_) <;> (try simp only [decide_eq_true_eq, decide_eq_false_iff_not, beq_iff_eq, bne_iff_ne, ne_eq, Bool.not_eq_true, Bool.not_eq_false, beq_eq_false_iff_ne, bne_eq_false_iff_eq, Bool.not_eq_eq_eq_not, Bool.not_true, Bool.not_false, Bool.not_not, Int.not_lt, Int.not_le, gt_iff_lt, ge_iff_le, Decidable.not_not] at h_)) | refine RunLN.any ?_ | refine RunL.ev Try.tOk rfl rfl rfl ?_ | refine RunL.unwantedD rfl rfl ?_ | refine RunL.unwantedN rfl ?_ | refine RunL.evV rfl rfl rfl (OpV.indexS Try.tOk _ rfl rfl rfl rfl (by omega)) ?_ | refine RunE.condT rfl rfl ?_ | refine RunE.condF rfl rfl ?_ | refine RunE.seq ?_ | refine RunE.region ?_ | refine RunL.nil ?_ | refine RunE.block ?_ | refine RunE.inBlock ?_ | refine RunE.skip ?_ | refine RunE.exit rfl ?_ | refine RunE.scope ?_ | refine RunE.inScope ?_ | refine RunE.label ?_)
  refine RunL.call rfl rfl rfl (stcollect_ok (fun ys => ys.Perm xs) f F w hG hF (fun ys h => by rw [h.length_eq]; exact hl)) ?_
  rintro r w1 ⟨⟨ys, hp, h1⟩, h2⟩
  repeat' (first | with_reducible refine RunLN.boolT rfl ?_ | with_reducible refine RunLN.boolF rfl ?_ | refine RunLN.boolT (by assumption) ?_ | refine RunLN.boolF (by assumption) ?_ | (with_reducible refine RunLN.decT ?_ ?_; focus omega) | (with_reducible refine RunLN.decF ?_ ?_; focus omega) | (with_reducible refine RunLN.eqT ?_ ?_; focus omega) | (with_reducible refine RunLN.eqF ?_ ?_; focus omega) | (with_reducible refine RunLN.neT ?_ ?_; focus omega) | (with_reducible refine RunLN.neF ?_ ?_; focus omega) | refine RunLN.boolT (by exact rfl) ?_ | refine RunLN.boolF (by exact rfl) ?_ | refine RunLN.int (by (first | exact wr_i64 (by omega) (by omega) | exact wm_i64 (by omega) | exact wq_i64 (by omega) (by omega) (by omega) | rfl)) ?_ | (refine RunLN.boolC (fun h_ => ?_) (fun h_ => ?_) <;> (try simp only [decide_eq_true_eq, decide_eq_false_iff_not, beq_iff_eq, bne_iff_ne, ne_eq, Bool.not_eq_true, Bool.not_eq_false, beq_eq_false_iff_ne, bne_eq_false_iff_eq, Bool.not_eq_eq_eq_not, Bool.not_true, Bool.not_false, Bool.not_not, Int.not_lt, Int.not_le, gt_iff_lt, ge_iff_le, Decidable.not_not] at h_)) | refine RunLN.any ?_ | refine RunL.ev Try.tOk rfl rfl rfl ?_ | refine RunL.unwantedD rfl rfl ?_ | refine RunL.unwantedN rfl ?_ | refine RunL.evV rfl rfl rfl (OpV.indexS Try.tOk _ rfl rfl rfl rfl (by omega)) ?_ | refine RunE.condT rfl rfl ?_ | refine RunE.condF rfl rfl ?_ | refine RunE.seq ?_ | refine RunE.region ?_ | refine RunL.nil ?_ | refine RunE.block ?_ | refine RunE.inBlock ?_ | refine RunE.skip ?_ | refine RunE.exit rfl ?_ | refine RunE.scope ?_ | refine RunE.inScope ?_ | refine RunE.label ?_)
  refine RunL.call rfl rfl rfl (stSort_ok ys r w.heap.size w1 h1 (by rw [hp.length_eq]; exact hl)) ?_
  rintro _ w2 ⟨⟨s, h3, h4, h5⟩, h6⟩
  repeat' (first | with_reducible refine RunLN.boolT rfl ?_ | with_reducible refine RunLN.boolF rfl ?_ | refine RunLN.boolT (by assumption) ?_ | refine RunLN.boolF (by assumption) ?_ | (with_reducible refine RunLN.decT ?_ ?_; focus omega) | (with_reducible refine RunLN.decF ?_ ?_; focus omega) | (with_reducible refine RunLN.eqT ?_ ?_; focus omega) | (with_reducible refine RunLN.eqF ?_ ?_; focus omega) | (with_reducible refine RunLN.neT ?_ ?_; focus omega) | (with_reducible refine RunLN.neF ?_ ?_; focus omega) | refine RunLN.boolT (by exact rfl) ?_ | refine RunLN.boolF (by exact rfl) ?_ | refine RunLN.int (by (first | exact wr_i64 (by omega) (by omega) | exact wm_i64 (by omega) | exact wq_i64 (by omega) (by omega) (by omega) | rfl)) ?_ | (refine RunLN.boolC (fun h_ => ?_) (fun h_ => ?_) <;> (try simp only [decide_eq_true_eq, decide_eq_false_iff_not, beq_iff_eq, bne_iff_ne, ne_eq, Bool.not_eq_true, Bool.not_eq_false, beq_eq_false_iff_ne, bne_eq_false_iff_eq, Bool.not_eq_eq_eq_not, Bool.not_true, Bool.not_false, Bool.not_not, Int.not_lt, Int.not_le, gt_iff_lt, ge_iff_le, Decidable.not_not] at h_)) | refine RunLN.any ?_ | refine RunL.ev Try.tOk rfl rfl rfl ?_ | refine RunL.unwantedD rfl rfl ?_ | refine RunL.unwantedN rfl ?_ | refine RunL.evV rfl rfl rfl (OpV.indexS Try.tOk _ rfl rfl rfl rfl (by omega)) ?_ | refine RunE.condT rfl rfl ?_ | refine RunE.condF rfl rfl ?_ | refine RunE.seq ?_ | refine RunE.region ?_ | refine RunL.nil ?_ | refine RunE.block ?_ | refine RunE.inBlock ?_ | refine RunE.skip ?_ | refine RunE.exit rfl ?_ | refine RunE.scope ?_ | refine RunE.inScope ?_ | refine RunE.label ?_)
  exact RunE.retFn Try.func91 (.tmp rfl .nil) ⟨⟨s, h3.trans hp, h4, h5⟩, fun k hk => ownsRow_ge h1 hk, h2.write h6 (by intro k hk hlt; omega)⟩
end
end Go.Sg
