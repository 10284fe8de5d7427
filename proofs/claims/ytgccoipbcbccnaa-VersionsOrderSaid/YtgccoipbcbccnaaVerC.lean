/- Registers: History. -/
import Derived.Test.YtgccoipbcbccnaaVerB
import Derived.Test.YtgccoipbcbccnaaVerT
import Derived.Test.YtgccoipbcbccnaaVer7
import Derived.Test.YtgccoipbcbccnaaSortB
import Derived.Test.YtgccoipbcbccnaaSortL
import Derived.Test.YtgccoipbcbccnaaFlat
set_option linter.unusedSimpArgs false
set_option linter.unusedVariables false
set_option linter.unusedSectionVars false
namespace Go.Ver
open Go.Rn Go.Rec Go.Sort Go.Best Go.Proofs
instance (x y : Am) : Decidable (Lex x y) := by unfold Lex; infer_instance
theorem lt_lex (x y : Am) : ltOf Go.Sg.cmpAt x y = decide (Lex x y) := by
  unfold ltOf
  rw [Bool.eq_iff_iff, decide_eq_true_eq, decide_eq_true_eq]
  unfold Go.Sg.cmpAt cmpI Lex
  split <;> (repeat' split) <;> omega
theorem swo_lex : SWO (ltOf Go.Sg.cmpAt) where
  irrefl x := by rw [lt_lex]; exact decide_eq_false (by unfold Lex; omega)
  trans x y z h1 h2 := by
    rw [lt_lex] at *
    have h1 := of_decide_eq_true h1
    have h2 := of_decide_eq_true h2
    exact decide_eq_true (by unfold Lex at *; omega)
  ntrans x y z h1 h2 := by
    rw [lt_lex] at *
    have h1 := of_decide_eq_false h1
    have h2 := of_decide_eq_false h2
    exact decide_eq_false (by unfold Lex at *; omega)
/-- What the sort makes of a list sorted by number. -/
theorem sorted_lex {f : List Am} (hs : SrtV f) {d' : Array Am} (hp : PermIn 0 f.toArray.size f.toArray d') (hd : SortedIn (ltOf Go.Sg.cmpAt) 0 f.toArray.size d') : d'.toList.Perm f ∧ d'.toList.Pairwise Lex := by
  obtain ⟨h1, -, h3⟩ := hp
  have hperm : d'.toList.Perm f := by
    have e1 : d'.extract 0 f.toArray.size = d' := by rw [← h1, Array.extract_size]
    rw [e1] at h3
    simpa using h3
  refine ⟨hperm, ?_⟩
  rw [List.pairwise_iff_getElem]
  intro i j hi hj hij
  simp only [Array.length_toList] at hi hj
  have hsz : d'.size = f.length := by simpa using h1
  have h := hd i j (Nat.zero_le _) hij (by simpa [hsz] using hj)
  rw [lt_lex] at h
  have hno := of_decide_eq_false h
  simp only [Array.getElem_toList]
  rw [getElem!_pos d' i (by omega), getElem!_pos d' j (by omega)] at hno
  have hne : d'[i].no ≠ d'[j].no := by
    intro e
    have hnd : (d'.toList.map Am.no).Nodup := (hperm.map Am.no).nodup_iff.2 (by
      rw [List.Nodup, List.pairwise_map]
      exact hs.imp fun h => by omega)
    rw [List.nodup_iff_pairwise_ne, List.pairwise_map, List.pairwise_iff_getElem] at hnd
    exact hnd i j (by simpa using hi) (by simpa using hj) hij (by simpa using e)
  unfold Lex at hno ⊢
  omega
end Go.Ver
namespace Go.Sg
open Go.Rn Go.Proofs Go.Ver Go.Rec Go.Best Go.Sort
theorem vsort_ok (f : List Am) (v : Value) (base : Nat) (w : World) (hs : SrtV f) (hO : w.ownsRow base 24 6 v f.length (flat Am.cells f)) (hl : f.length ≤ 100000) :
    Rets Try.prog 79 [v, .func (.func 52) #[] #[]] w fun _ w' => (∃ s : List Am, s.Perm f ∧ s.Pairwise Lex ∧ LV w' v s) ∧ ExtB (fun k => base ≤ k) w w' := by
  by_cases hn : f.length = 0
  · obtain rfl := List.length_eq_zero_iff.1 hn
    obtain ⟨d, c, rfl⟩ := isSl_slice (isSl_own hO)
    have hc := AnyF.slices_SortFunc_none { Try.sortAm with } d c (.func (.func 52) #[] #[]) w
    refine ⟨⟨_, Try.func79, by kernel_rfl, by kernel_rfl⟩, hc.mono ?_⟩
    rintro e w' ⟨rfl, rfl⟩
    exact ⟨⟨[], List.Perm.refl _, List.Pairwise.nil, isSl_own hO⟩, ExtB.refl _ _⟩
  · have hsl := isSl_own hO
    rcases hO.2 with ⟨-, h0⟩ | ⟨g, cap, cur, rfl, hbg, hg, hnc, hcm, hcs, htake⟩
    · exact absurd h0 hn
    have hgl : g < w.heap.size := lt_of_get hg
    have hH : HoldsK Am.cells 6 w g 0 f.toArray := holds_of encV (base := base) (n := f.length) (cap := cap) (e := 24) hO (by simp)
    have hcmp : CmpLays Try.prog 52 #[] Am.cells 6 cmpAt g 0 f.toArray.size w := fun m os dk _ x y => by
      refine (byAt_ok x y _).2.mono fun e w' h => ?_
      cases e with
      | returned v => obtain ⟨rfl, hx⟩ := h; exact ⟨rfl, ext_grow hx⟩
      | panicked ch => exact h.elim
      | outgrown => exact h.elim
    have eg : ∀ args w, (callFunc 52 args).run Try.prog w = .ok (.enter 52 args) w := fun args w => run_callFunc ⟨_, Try.func52, by kernel_rfl, by kernel_rfl⟩ args
    have hc := AnyQ.slices_SortFunc Try.sortAm 6 (fun w => ?_) (fun w => ?_) Am.cells (fun _ => rfl) ?_ cmpAt swo_lex 52 #[] g 0 cap f.toArray w eg hcmp hH hgl (by simp; omega)
    · refine ⟨⟨_, Try.func79, by kernel_rfl, by kernel_rfl⟩, ?_⟩
      have hsz : f.toArray.size = f.length := by simp
      rw [hsz] at hc
      refine hc.mono ?_
      rintro e w' ⟨rfl, d', n, os, hp, hd, rfl⟩
      rw [← hsz] at hp hd
      obtain ⟨h1, h2⟩ := sorted_lex hs hp hd
      have hd' : d'.size = f.length := by have := hp.1; simpa using this
      refine ⟨⟨d'.toList, h1, h2, ?_⟩, ext_sortWorld.mono fun k _ h => by subst h; exact hbg⟩
      have := isL_holds (cap := cap) encV (holdsK_sortWorldK_c Am.cells 6 w g 0 f.toArray d' n os hH hgl (by simp [hd'])) (by omega)
      rwa [hd'] at this
    · obtain ⟨d, hd, ha⟩ := TI.und (Try.tOk.get 24 _ rfl)
      exact (Go.Rn.run_isAgg hd).trans (by rw [ha])
    · obtain ⟨j, hj, hsz, -⟩ := TI.info (Try.tOk.get 24 _ rfl)
      exact (Go.Rn.run_sizeOf hj).trans (by rw [hsz])
    · intro x v hv
      exact one_plain (List.all_eq_true.1 (encV.plain x) v hv)
attribute [local irreducible] Go.Rn.RetsX Go.Rn.RunLN Go.Rn.AsyN Go.Rn.RunL Go.Rn.RunE Go.Rn.Asy Go.Rn.OpV Go.Rn.OpE Go.Rn.ExecE
end Go.Sg
namespace Go.Sg
open Go.Rn Go.Proofs Go.Ver Go.Rec Go.Best
attribute [local irreducible] Go.Rn.RetsX Go.Rn.RunLN Go.Rn.AsyN Go.Rn.RunL Go.Rn.RunE Go.Rn.Asy Go.Rn.OpV Go.Rn.OpE Go.Rn.ExecE
theorem vsorted_ok (xs : List Am) (f : Value) (F : Nat → Prop) (w : World) (hG : Gives Try.prog f (xs.map fun x => [.agg x.cells.toArray]) w F) (hF : ∀ k, F k → k < w.heap.size) (hl : xs.length ≤ 100000) (hs : SrtV xs) :
    Rets Try.prog 55 [f, .func (.func 52) #[] #[]] w fun r w' => (∃ s : List Am, s.Perm xs ∧ s.Pairwise Lex ∧ LV w' r s) ∧ Ext w w' := by
  refine RetsX.of (nt := 12) Try.func55 (by kernel_rfl) rfl rfl (by simp) (by simp only [argEnv]; rfl) ?_
  repeat' (first | with_reducible refine RunLN.boolT rfl ?_ | with_reducible refine RunLN.boolF rfl ?_ | refine RunLN.boolT (by assumption) ?_ | refine RunLN.boolF (by assumption) ?_ | (with_reducible refine RunLN.decT ?_ ?_; focus omega) | (with_reducible refine RunLN.decF ?_ ?_; focus omega) | (with_reducible refine RunLN.eqT ?_ ?_; focus omega) | (with_reducible refine RunLN.eqF ?_ ?_; focus omega) | (with_reducible refine RunLN.neT ?_ ?_; focus omega) | (with_reducible refine RunLN.neF ?_ ?_; focus omega) | refine RunLN.boolT (by exact rfl) ?_ | refine RunLN.boolF (by exact rfl) ?_ | refine RunLN.int (by (first | exact wr_i64 (by omega) (by omega) | exact wm_i64 (by omega) | exact wq_i64 (by omega) (by omega) (by omega) | rfl)) ?_ | (refine RunLN.boolC (fun h_ => ?_) (fun h_ => ?_) <;> (try simp only [decide_eq_true_eq, decide_eq_false_iff_not, beq_iff_eq, bne_iff_ne, ne_eq, Bool.not_eq_true, Bool.not_eq_false, beq_eq_false_iff_ne, bne_eq_false_iff_eq, Bool.not_eq_eq_eq_not, Bool.not_true, Bool.not_false, Bool.not_not, Int.not_lt, Int.not_le, gt_iff_lt, ge_iff_le, Decidable.not_not] at h_)) | refine RunLN.any ?_ | refine RunL.ev Try.tOk rfl rfl rfl ?_ | refine RunL.unwantedD rfl rfl ?_ | refine RunL.unwantedN rfl ?_ | refine RunL.evV rfl rfl rfl (OpV.indexS Try.tOk _ rfl rfl rfl rfl (by omega)) ?_ | refine RunE.condT rfl rfl ?_ | refine RunE.condF rfl rfl ?_ | refine RunE.seq ?_ | refine RunE.region ?_ | refine RunL.nil ?_ | refine RunE.block ?_ | refine RunE.inBlock ?_ | refine RunE.skip ?_ | refine RunE.exit rfl ?_ | refine RunE.scope ?_ | refine RunE.inScope ?_ | refine RunE.label ?_)
  refine RunL.call rfl rfl rfl (vcollect_ok xs f F w hG hF hl) ?_
  rintro r w1 ⟨h1, h2⟩
  repeat' (first | with_reducible refine RunLN.boolT rfl ?_ | with_reducible refine RunLN.boolF rfl ?_ | refine RunLN.boolT (by assumption) ?_ | refine RunLN.boolF (by assumption) ?_ | (with_reducible refine RunLN.decT ?_ ?_; focus omega) | (with_reducible refine RunLN.decF ?_ ?_; focus omega) | (with_reducible refine RunLN.eqT ?_ ?_; focus omega) | (with_reducible refine RunLN.eqF ?_ ?_; focus omega) | (with_reducible refine RunLN.neT ?_ ?_; focus omega) | (with_reducible refine RunLN.neF ?_ ?_; focus omega) | refine RunLN.boolT (by exact rfl) ?_ | refine RunLN.boolF (by exact rfl) ?_ | refine RunLN.int (by (first | exact wr_i64 (by omega) (by omega) | exact wm_i64 (by omega) | exact wq_i64 (by omega) (by omega) (by omega) | rfl)) ?_ | (refine RunLN.boolC (fun h_ => ?_) (fun h_ => ?_) <;> (try simp only [decide_eq_true_eq, decide_eq_false_iff_not, beq_iff_eq, bne_iff_ne, ne_eq, Bool.not_eq_true, Bool.not_eq_false, beq_eq_false_iff_ne, bne_eq_false_iff_eq, Bool.not_eq_eq_eq_not, Bool.not_true, Bool.not_false, Bool.not_not, Int.not_lt, Int.not_le, gt_iff_lt, ge_iff_le, Decidable.not_not] at h_)) | refine RunLN.any ?_ | refine RunL.ev Try.tOk rfl rfl rfl ?_ | refine RunL.unwantedD rfl rfl ?_ | refine RunL.unwantedN rfl ?_ | refine RunL.evV rfl rfl rfl (OpV.indexS Try.tOk _ rfl rfl rfl rfl (by omega)) ?_ | refine RunE.condT rfl rfl ?_ | refine RunE.condF rfl rfl ?_ | refine RunE.seq ?_ | refine RunE.region ?_ | refine RunL.nil ?_ | refine RunE.block ?_ | refine RunE.inBlock ?_ | refine RunE.skip ?_ | refine RunE.exit rfl ?_ | refine RunE.scope ?_ | refine RunE.inScope ?_ | refine RunE.label ?_)
  refine RunL.call rfl rfl rfl (vsort_ok xs r w.heap.size w1 hs h1 hl) ?_
  rintro _ w2 ⟨h3, h4⟩
  repeat' (first | with_reducible refine RunLN.boolT rfl ?_ | with_reducible refine RunLN.boolF rfl ?_ | refine RunLN.boolT (by assumption) ?_ | refine RunLN.boolF (by assumption) ?_ | (with_reducible refine RunLN.decT ?_ ?_; focus omega) | (with_reducible refine RunLN.decF ?_ ?_; focus omega) | (with_reducible refine RunLN.eqT ?_ ?_; focus omega) | (with_reducible refine RunLN.eqF ?_ ?_; focus omega) | (with_reducible refine RunLN.neT ?_ ?_; focus omega) | (with_reducible refine RunLN.neF ?_ ?_; focus omega) | refine RunLN.boolT (by exact rfl) ?_ | refine RunLN.boolF (by exact rfl) ?_ | refine RunLN.int (by (first | exact wr_i64 (by omega) (by omega) | exact wm_i64 (by omega) | exact wq_i64 (by omega) (by omega) (by omega) | rfl)) ?_ | (refine RunLN.boolC (fun h_ => ?_) (fun h_ => ?_) <;> (try simp only [decide_eq_true_eq, decide_eq_false_iff_not, beq_iff_eq, bne_iff_ne, ne_eq, Bool.not_eq_true, Bool.not_eq_false, beq_eq_false_iff_ne, bne_eq_false_iff_eq, Bool.not_eq_eq_eq_not, Bool.not_true, Bool.not_false, Bool.not_not, Int.not_lt, Int.not_le, gt_iff_lt, ge_iff_le, Decidable.not_not] at h_)) | refine RunLN.any ?_ | refine RunL.ev Try.tOk rfl rfl rfl ?_ | refine RunL.unwantedD rfl rfl ?_ | refine RunL.unwantedN rfl ?_ | refine RunL.evV rfl rfl rfl (OpV.indexS Try.tOk _ rfl rfl rfl rfl (by omega)) ?_ | refine RunE.condT rfl rfl ?_ | refine RunE.condF rfl rfl ?_ | refine RunE.seq ?_ | refine RunE.region ?_ | refine RunL.nil ?_ | refine RunE.block ?_ | refine RunE.inBlock ?_ | refine RunE.skip ?_ | refine RunE.exit rfl ?_ | refine RunE.scope ?_ | refine RunE.inScope ?_ | refine RunE.label ?_)
  exact RunE.retFn Try.func55 (.tmp rfl .nil) ⟨h3, h2.write h4 (by intro k hk hlt; omega)⟩
theorem stepFlat : Flat Try.prog 42 [(3, .int .i64), (3, .int .i64), (4, .bool)] :=
  ⟨by kernel_rfl, by kernel_rfl, by kernel_rfl, by kernel_rfl, by kernel_rfl, fun x hx => by
    simp only [List.mem_cons, List.not_mem_nil, or_false] at hx
    rcases hx with rfl | rfl | rfl
    · exact ⟨Try.underlying3, by kernel_rfl, by kernel_rfl⟩
    · exact ⟨Try.underlying3, by kernel_rfl, by kernel_rfl⟩
    · exact ⟨Try.underlying4, by kernel_rfl, by kernel_rfl⟩⟩
theorem stepFits (x : Step) : fits [(3, FK.int .i64), (3, FK.int .i64), (4, FK.bool)] x.cells := by
  refine ⟨rfl, fun i y h => ?_⟩
  match i with
  | 0 => simp at h; subst h; exact ⟨_, rfl, _, rfl⟩
  | 1 => simp at h; subst h; exact ⟨_, rfl, _, rfl⟩
  | 2 => simp at h; subst h; exact ⟨_, rfl, _, rfl⟩
  | n + 3 => simp at h
theorem stepEq (x y : Step) : eqAll x.cells y.cells = decide (x = y) := by
  obtain ⟨a, b, c⟩ := x; obtain ⟨d, e, f⟩ := y
  simp [eqAll, veq, Step.cells]
  rw [Bool.eq_iff_iff]; simp
end Go.Sg
