/- signatorylaw48.DevicesMatter returns true for every input; condition: the package variables digest.start and digest.numbers hold what the program lays in them (the card ties this). -/
import Derived.Test.YtamcgoplhnbmcaaDoorY10
import Derived.Test.YtamcgoplhnbmcaaDoorDevR
import Derived.Test.YtamcgoplhnbmcaaDoorY05
set_option linter.unusedSimpArgs false
set_option linter.unusedVariables false
set_option linter.unusedSectionVars false
namespace Go.Sg
open Go.Rn Go.Proofs Go.Dev Go.Rec Go.Best Go.Sha Go.RowKit
attribute [local irreducible] Go.Rn.RetsX Go.Rn.RunLN Go.Rn.AsyN Go.Rn.RunL Go.Rn.RunE Go.Rn.Asy Go.Rn.OpV Go.Rn.OpE Go.Rn.ExecE
set_option maxHeartbeats 4000000 in
theorem devicesMatter_walk (v : Value) (l : List Dev) (p t time : Int) (_ : -9223372036854775808 ≤ p ∧ p < 9223372036854775808) (_ : -9223372036854775808 ≤ t ∧ t < 9223372036854775808) (_ : -9223372036854775808 ≤ time ∧ time < 9223372036854775808)
    (W : World) (hlk : l.length < 9223372036854775808 ∧ ∀ x ∈ l, okD x) (hv : LD W v l) (hS0 : Row W 0 0 (vals init8.l)) (hkT : Row W 1 0 (vals kTab)) :
    Rets Tryd.prog 12 [v, .int .i64 p, .int .i64 t, .int .i64 time] W fun r w' => r = .bool true ∧ Ext W w' := by
  obtain ⟨hl, -⟩ := hlk
  refine RetsX.of (nt := 94) Tryd.func12 (by kernel_rfl) rfl rfl (by simp) (by simp only [argEnv]; rfl) ?_
  have X := ExtB.refl (fun _ => False) W
  repeat' (first | with_reducible refine RunLN.boolF rfl ?_ | refine RunL.ev Tryd.tOk rfl rfl rfl ?_ | refine RunE.seq ?_ | refine RunE.region ?_ | refine RunL.nil ?_)
  refine RunL.call rfl rfl rfl (l48_sane_ok _ (hS0.up X) (hkT.up X)) ?_
  rintro _ _ ⟨rfl, Xa_⟩
  replace X := X.trans Xa_
  clear Xa_
  repeat' (first | with_reducible refine RunLN.boolF rfl ?_ | refine RunLN.int (by (first | exact wr_i64 (by omega) (by omega) | exact wm_i64 (by omega) | exact wq_i64 (by omega) (by omega) (by omega) | rfl)) ?_ | refine RunLN.any ?_ | refine RunL.ev Tryd.tOk rfl rfl rfl ?_ | refine RunE.condF rfl rfl ?_ | refine RunE.seq ?_ | refine RunE.region ?_ | refine RunL.nil ?_ | refine RunE.skip ?_)
  refine RunL.ex rfl rfl rfl (OpE.buildSl Tryd.tOk [.int .i64 t, .int .i64 time] rfl rfl rfl rfl rfl rfl (by simp [Value.cells])) ?_
  rintro _ w_ ⟨B_, rfl, a_⟩
  have hts : LI w_ (.slice (some ⟨B_, 0, none⟩) 2 2) [t, time] := (isSl_added (n := 2) (sz := 1) a_ rfl)
  replace X := X.trans a_.ext
  clear a_
  skip
  refine RunL.call rfl rfl rfl (right48_ok l v _ p [t, time] _ (hv.up X) hl hts (by simp)) ?_
  rintro _ W1 ⟨rfl, Xa_⟩
  replace X := X.trans Xa_
  clear Xa_
  clear hts
  cases hr : rightQ l p [t, time] with
  | false =>
    repeat' (first | with_reducible refine RunLN.boolT rfl ?_ | refine RunL.ev Tryd.tOk rfl rfl rfl ?_ | refine RunE.condT rfl rfl ?_ | refine RunE.seq ?_ | refine RunE.region ?_ | refine RunL.nil ?_)
    exact RunE.retFn Tryd.func12 (.tmp rfl .nil) ⟨rfl, X⟩
  | true =>
    obtain ⟨hts, hle, hc, hp⟩ := rightQ_inv hr
    have ht := hts t (by simp)
    have hti := hts time (by simp)
    have he := curE_zero hc hp ht hti
    obtain ⟨o1, o2⟩ := own_cur (p := p) (t := t) (time := time) hc
    have c1 := fun w h => dCurrent_ok l v p t time w h hl
    have c2 := fun u w h => dCurrent_ok (l.filter (ownD p t time)) u p t time w h (by have := List.length_filter_le (ownD p t time) l; omega)
    rw [o1, o2] at c2
    generalize ansD (curD l p t time) = an at c1 c2
    generalize curE l p t time = e at c1 c2
    obtain ⟨a1, a2, a3⟩ := an
    have X0 := X
    clear X
    replace hv := hv.up X0
    have X := ExtB.refl (fun _ => False) W1
    repeat' (first | with_reducible refine RunLN.boolF rfl ?_ | refine RunLN.int (by (first | exact wr_i64 (by omega) (by omega) | exact wm_i64 (by omega) | exact wq_i64 (by omega) (by omega) (by omega) | rfl)) ?_ | refine RunLN.any ?_ | refine RunL.ev Tryd.tOk rfl rfl rfl ?_ | refine RunL.evV rfl rfl rfl (OpV.lenSl Tryd.tOk rfl rfl hv) ?_ | refine RunE.condF rfl rfl ?_ | refine RunE.seq ?_ | refine RunE.region ?_ | refine RunL.nil ?_ | refine RunE.block ?_ | refine RunE.skip ?_)
    refine RunE.loop (ι := Nat × Value) (fun s => [(0, v), (1, .int .i64 p), (2, .int .i64 t), (3, .int .i64 time), (9, s.2), (29, v), (30, .int .i64 (l.length : Int)), (31, .int .i64 (s.1 : Int))])
      (fun s w' => s.1 ≤ l.length ∧ w'.ownsRow W1.heap.size 57 6 s.2 ((l.take s.1).filter (ownD p t time)).length (flat Dev.cells ((l.take s.1).filter (ownD p t time))) ∧ Ext W1 w') (fun s => l.length - s.1) (0, .slice none 0 0) (by repeat (first | exact Sub.nil _ | refine Sub.cons rfl ?_)) ⟨Nat.zero_le _, World.ownsRow_nil _ _ _ _, X⟩ ?_
    clear X
    rintro ⟨i, u⟩ w3 ⟨hi, hO, X⟩ again
    simp only at hi hO again ⊢
    by_cases hlt : i < l.length
    · obtain ⟨b, of, cap, rfl, hrow, hcap⟩ := isL_held hv hlt
      obtain ⟨x, hx⟩ : ∃ x, l[i]? = some x := ⟨_, List.getElem?_eq_getElem hlt⟩
      have hrx := flat_row encD hrow hx
      have f1 := (filter_take (ownD p t time) hx).1
      have hfl : ((l.take i).filter (ownD p t time)).length ≤ i := Nat.le_trans (List.length_filter_le _ _) (by simp; omega)
      have next : ∀ (u' : Value) (w' : World), w'.ownsRow W1.heap.size 57 6 u' ((l.take (i + 1)).filter (ownD p t time)).length (flat Dev.cells ((l.take (i + 1)).filter (ownD p t time))) → Ext W1 w' → _ := fun u' w' a b => again (i + 1, u') w' (by simp only; omega) ⟨by simp only; omega, a, b⟩
      rw [f1] at next
      clear again f1
      generalize (l.take i).filter (ownD p t time) = f at hO next hfl
      repeat' (first | (with_reducible refine RunLN.decT ?_ ?_; focus omega) | refine RunLN.any ?_ | refine RunL.ev Tryd.tOk rfl rfl rfl ?_ | refine RunL.evV rfl rfl rfl (OpV.loadN Tryd.tOk rfl rfl rfl rfl (hrx.up X)) ?_ | refine RunL.evV rfl rfl rfl (OpV.indexS Tryd.tOk _ rfl rfl rfl rfl (by omega)) ?_ | refine RunE.condT rfl rfl ?_ | refine RunE.seq ?_ | refine RunE.region ?_ | refine RunL.nil ?_ | refine RunE.block ?_ | refine RunE.skip ?_)
      refine RunL.alloc Tryd.tOk rfl rfl rfl fun B11 wa aa => ?_
      have eB := aa.eq
      refine RunL.store Tryd.tOk rfl rfl rfl rfl rfl (cs := zeroD.cells) aa.at_ rfl rfl fun wb tb => ?_
      have Xa_ : Ext w3 wb := aa.ext.write tb.ext (by intro k hk hlt; omega)
      have Z11 : Blk wb B11 x.cells 57 := tb.at_
      replace hO := ownsRow_ext hO Xa_ (fun _ _ h => h)
      replace X := X.trans Xa_
      clear aa tb Xa_ eB
      have hcx : (x.person = p ∧ x.known ≤ time ∧ x.at_ ≤ t) ∨ ¬ (x.person = p ∧ x.known ≤ time ∧ x.at_ ≤ t) := Classical.em _
      rcases hcx with hcx | hcx
      · have e1 : ownD p t time x = true := decide_eq_true hcx
        rw [if_pos e1] at next
        obtain ⟨h1, h2, h3⟩ := hcx
        repeat' (first | with_reducible refine RunLN.boolT rfl ?_ | (with_reducible refine RunLN.decT ?_ ?_; focus omega) | (with_reducible refine RunLN.eqT ?_ ?_; focus omega) | refine RunLN.int (by (first | exact wr_i64 (by omega) (by omega) | exact wm_i64 (by omega) | exact wq_i64 (by omega) (by omega) (by omega) | rfl)) ?_ | refine RunLN.any ?_ | refine RunL.ev Tryd.tOk rfl rfl rfl ?_ | refine RunL.evV rfl rfl rfl (OpV.load1 Tryd.tOk rfl rfl rfl (Blk.cell Z11 rfl)) ?_ | refine RunL.evV rfl rfl rfl (OpV.loadN Tryd.tOk rfl rfl rfl rfl (Blk.row Z11)) ?_ | refine RunE.condT rfl rfl ?_ | refine RunE.seq ?_ | refine RunE.region ?_ | refine RunL.nil ?_)
        refine RunL.ex rfl rfl rfl (OpE.buildSl Tryd.tOk [.agg x.cells.toArray] rfl rfl rfl rfl rfl rfl (by simp [Value.cells])) ?_
        rintro _ u4 ⟨B, rfl, a4⟩
        have hx1 : IsL u4 Dev.cells 6 (.slice (some ⟨B, 0, none⟩) 1 1) [x] := by
          have := isSl_added (n := 1) (sz := 6) a4 rfl
          simpa [IsL, flat, cellsAll, Value.cells] using this
        replace hO := ownsRow_ext hO a4.ext (fun _ _ h => h)
        replace X := X.trans a4.ext
        clear a4
        skip
        refine RunL.ex rfl rfl rfl (OpE.append' Tryd.tOk rfl rfl rfl rfl rfl rfl hO hx1 (flat_plain encD _) (by show _ * 48 ≤ _; simp only [List.length_singleton]; omega) (by simp only [List.length_singleton]; omega) X.size) ?_
        rintro u' u5 ⟨O5, E5, -⟩
        replace X : Ext W1 u5 := X.write E5 (by intro k hk hlt; have := ownsRow_ge hO hk; omega)
        repeat' (first | refine RunLN.int (by (first | exact wr_i64 (by omega) (by omega) | exact wm_i64 (by omega) | exact wq_i64 (by omega) (by omega) (by omega) | rfl)) ?_ | refine RunLN.any ?_ | refine RunL.ev Tryd.tOk rfl rfl rfl ?_ | refine RunE.region ?_ | refine RunL.nil ?_ | refine RunE.inBlock ?_)
        exact RunE.weaken (by repeat (first | exact Sub.nil _ | refine Sub.cons rfl ?_)) (next u' _ (by rw [List.length_append, flat_append]; exact O5) X)
      · have e1 : ownD p t time x = false := decide_eq_false hcx
        rw [if_neg (by rw [e1]; simp), List.append_nil] at next
        repeat' (first | with_reducible refine RunLN.boolT rfl ?_ | with_reducible refine RunLN.boolF rfl ?_ | (with_reducible refine RunLN.decF ?_ ?_; focus omega) | refine RunLN.int (by (first | exact wr_i64 (by omega) (by omega) | exact wm_i64 (by omega) | exact wq_i64 (by omega) (by omega) (by omega) | rfl)) ?_ | (refine RunLN.boolC (fun h_ => ?_) (fun h_ => ?_) <;> (try simp only [decide_eq_true_eq, decide_eq_false_iff_not, beq_iff_eq, bne_iff_ne, ne_eq, Bool.not_eq_true, Bool.not_eq_false, beq_eq_false_iff_ne, bne_eq_false_iff_eq, Bool.not_eq_eq_eq_not, Bool.not_true, Bool.not_false, Bool.not_not, Int.not_lt, Int.not_le, gt_iff_lt, ge_iff_le, Decidable.not_not] at h_)) | refine RunLN.any ?_ | refine RunL.ev Tryd.tOk rfl rfl rfl ?_ | refine RunL.unwantedD rfl rfl ?_ | refine RunL.evV rfl rfl rfl (OpV.load1 Tryd.tOk rfl rfl rfl (Blk.cell Z11 rfl)) ?_ | refine RunE.condF rfl rfl ?_ | refine RunE.seq ?_ | refine RunE.region ?_ | refine RunL.nil ?_ | refine RunE.inBlock ?_ | refine RunE.skip ?_)
        all_goals first
          | (exfalso; omega)
          | exact RunE.weaken (by repeat (first | exact Sub.nil _ | refine Sub.cons rfl ?_)) (next u _ hO X)
    · obtain rfl : i = l.length := by omega
      rw [List.take_length] at hO
      clear again
      have hu := isSl_own hO
      repeat' (first | (with_reducible refine RunLN.decF ?_ ?_; focus omega) | refine RunLN.int (by (first | exact wr_i64 (by omega) (by omega) | exact wm_i64 (by omega) | exact wq_i64 (by omega) (by omega) (by omega) | rfl)) ?_ | refine RunLN.any ?_ | refine RunL.ev Tryd.tOk rfl rfl rfl ?_ | refine RunE.condF rfl rfl ?_ | refine RunE.seq ?_ | refine RunE.region ?_ | refine RunL.nil ?_ | refine RunE.exit rfl ?_)
      refine RunL.call rfl rfl rfl (c1 _ (hv.up X)) ?_
      rintro _ _ ⟨rfl, Xa_⟩
      replace hu := hu.up Xa_
      replace X := X.trans Xa_
      clear Xa_
      repeat' (first | refine RunLN.int (by (first | exact wr_i64 (by omega) (by omega) | exact wm_i64 (by omega) | exact wq_i64 (by omega) (by omega) (by omega) | rfl)) ?_ | refine RunLN.any ?_ | refine RunL.ev Tryd.tOk rfl rfl rfl ?_ | refine RunE.seq ?_ | refine RunE.region ?_ | refine RunL.nil ?_)
      refine RunL.call rfl rfl rfl (c2 _ _ hu) ?_
      rintro _ _ ⟨rfl, Xa_⟩
      replace X := X.trans Xa_
      clear Xa_
      cases a3
      all_goals
        repeat' (first | with_reducible refine RunLN.boolT rfl ?_ | with_reducible refine RunLN.boolF rfl ?_ | (with_reducible refine RunLN.eqT ?_ ?_; focus omega) | refine RunLN.int (by (first | exact wr_i64 (by omega) (by omega) | exact wm_i64 (by omega) | exact wq_i64 (by omega) (by omega) (by omega) | rfl)) ?_ | refine RunLN.any ?_ | refine RunL.ev Tryd.tOk rfl rfl rfl ?_ | refine RunE.seq ?_ | refine RunE.region ?_ | refine RunL.nil ?_)
        exact RunE.retFn Tryd.func12 (.tmp rfl .nil) ⟨rfl, X0.trans X⟩
end Go.Sg
namespace Go.Proofs.YtamcgoplhnbmcaaDoor
open Go.ChangeShapes Go.WideShapes Go.ChangeAt Go.RowKit Go.Sg
namespace devicesMatter
theorem own : ownKnob Tryd.prog.godebug = none := by kernel_rfl
theorem laidOut : laidOutB Tryd.prog = true := by kernel_rfl
theorem door_met (os : Os) (args : Array Value) : laidMetH Tryd.prog Rows.devicesMatterRow.laid ((World.doorLaid Tryd.prog 19 os).forCall (fun _ _ => 0) ⟨#[], args, []⟩).memory :=
  laidMetH_of_parts3 (fuel := 8) (laidMet_of_run' 8 (by kernel_rfl) (by kernel_rfl)) (by kernel_rfl) (by kernel_rfl)
set_option maxRecDepth 100000 in
theorem lifted (os : Os) (started : os.Started) (H : Type) (enc : TypeId × Value → H) :
    ReturnsInHanded {} Tryd.checked os 12 .any (fun w args => (Rows.devicesMatterSpec.pre enc Tryd.prog Tryd.f12 [] false w args ∧ laidMetH Tryd.prog Rows.devicesMatterRow.laid w) ∧ sizedMet enc Tryd.prog Tryd.f12 (OpenSpec.ofChange Rows.devicesMatterSpec) false w args)
      (Rows.devicesMatterSpec.post enc Tryd.prog Tryd.f12 false true false false) := by
  refine returnsInHanded_of_change_and (C := Tryd.checked) (X := fun w _ => laidMetH Tryd.prog Rows.devicesMatterRow.laid w) (fun _ _ _ hh h => h.of_heap hh) own started (by kernel_rfl) Tryd.func12
    (ChangeSpec.witness_shaped (enc := enc) (C := Tryd.checked) (os := os) (X := fun w _ => laidMetH Tryd.prog Rows.devicesMatterRow.laid w) false (World.doorLaid Tryd.prog 19 os) #[.slice none 0 0, .int .i64 0, .int .i64 0, .int .i64 0] 8 rfl (World.shaped_of_RefB (by kernel_rfl) (by kernel_rfl)) (by kernel_rfl) (by kernel_rfl) (by kernel_rfl) (door_met os _)) ?_
  intro W base args ds gs before hval0 hW _ _ hL _
  have hval : ∀ (j : Nat) t v, Tryd.f12.params[j]? = some t → args[j]? = some v → Value.okWide Tryd.prog W .any base t v := hval0
  have hW' := hW
  obtain ⟨p, q, hA0, hV, rfl, hfz, hnd⟩ := hW
  have hA : DataW.TrodAll enc Tryd.prog W 0 (fun _ => true) true Tryd.f12.params.toList args.toList ds p := hA0
  rw [Tryd.params12] at hA hval
  obtain ⟨v0, vs0, d0, ds0, p0, q0, hargs, rfl, rfl, h0, r0⟩ := trodAll_cons hA
  obtain ⟨v1, vs1, d1, ds1, p1, q1, rfl, rfl, rfl, h1, r1⟩ := trodAll_cons r0
  obtain ⟨v2, vs2, d2, ds2, p2, q2, rfl, rfl, rfl, h2, r2⟩ := trodAll_cons r1
  obtain ⟨v3, vs3, d3, ds3, p3, q3, rfl, rfl, rfl, h3, r3⟩ := trodAll_cons r2
  obtain ⟨rfl, rfl, rfl⟩ := trodAll_nil r3
  obtain rfl : args = #[v0, v1, v2, v3] := by cases args; simp_all
  obtain ⟨l0, m0, s0⟩ := devs_open (hval 0 55 v0 rfl rfl) h0
  obtain ⟨a1, rfl, rfl, rfl, w1⟩ := open_int Tryd.underlying3 (hval 1 3 v1 rfl rfl) h1
  obtain ⟨a2, rfl, rfl, rfl, w2⟩ := open_int Tryd.underlying3 (hval 2 3 v2 rfl rfl) h2
  obtain ⟨a3, rfl, rfl, rfl, w3⟩ := open_int Tryd.underlying3 (hval 3 3 v3 rfl rfl) h3
  have L0 := start_of_laid (by kernel_rfl) rfl (.head _) hL
  have L1 := numbers_of_laid (by kernel_rfl) rfl (.tail _ (.head _)) hL
  refine (Rets.calls (devicesMatter_walk v0 l0 a1 a2 a3 (i64_of_wf w1) (i64_of_wf w2) (i64_of_wf w3) W m0 s0 L0 L1)).mono fun e W' he => ?_
  obtain ⟨_, rfl, rfl, hx⟩ := he
  exact ⟨_, rfl, law_post (t := 4) laidOut (by kernel_rfl) (by kernel_rfl) (by kernel_rfl) rfl (fun ds h => by
    rcases ds with _ | ⟨_, _ | ⟨_, _ | ⟨_, _ | ⟨_, _ | ⟨_, _⟩⟩⟩⟩⟩ <;> first | rfl | (exact absurd h (by decide)) | (simp at h)) hW' hx⟩

theorem holds : Rows.DevicesMatterSaid :=
  OpenClaim.holds_of_wide 12 Tryd.f12 rfl rfl rfl rfl rfl rfl rfl ⟨rfl, rfl, rfl, rfl, rfl⟩ rfl rfl rfl rfl rfl (by kernel_rfl) Tryd.func12 (by kernel_rfl)
    (of_decide_eq_true (by kernel_rfl)) (by unfold Func.isWrapper; first | (rw [if_pos (by decide +kernel)]; kernel_rfl) | (rw [if_neg (by decide +kernel)]; exact ⟨rfl, rfl⟩))
    (fun os started H enc _ => lifted os started H enc)
theorem proved : Rows.DevicesMatterCardSaid :=
  Claim7.holds_tied_plain_at .later [] [.data, .data] true (true, "ae6f700ea2bd30feb0747e63825e7d966e37b71281da2088991cb0a2928709ec") true
    holds (fun _ h => by cases h) (by kernel_rfl) (fun _ h => by cases h) devicesMatter_row_tie rfl ⟨rfl, rfl⟩ (by kernel_rfl) rfl
    (fun f fn hf hfn => by
      obtain rfl : f = 12 := Option.some.inj ((show Tryd.prog.funcNamed Tryd.f12.name = some 12 by kernel_rfl).symm.trans hf) |>.symm
      obtain rfl : fn = Tryd.f12 := (Option.some.inj (Tryd.func12.symm.trans hfn)).symm
      exact ⟨by kernel_rfl, fun j t ht => by
        have hall : Tryd.f12.params.toList.all (fun t => !Tryd.prog.wantsStandIn t) = true := by kernel_rfl
        have hm : t ∈ Tryd.f12.params.toList := by
          obtain ⟨hj, rfl⟩ := Array.getElem?_eq_some_iff.1 ht
          simp
        have := List.all_eq_true.1 hall t hm
        exact (by simpa using this : Tryd.prog.wantsStandIn t = false)⟩)
    (by kernel_rfl)
#print axioms proved
end devicesMatter
end Go.Proofs.YtamcgoplhnbmcaaDoor
