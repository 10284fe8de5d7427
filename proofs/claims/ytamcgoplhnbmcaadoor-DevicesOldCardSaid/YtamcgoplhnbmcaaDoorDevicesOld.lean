/- signatorylaw48.DevicesOld returns true for every input; condition: the package variables digest.start and digest.numbers hold what the program lays in them (the card ties this). -/
import Derived.Test.YtamcgoplhnbmcaaDoorY10
import Derived.Test.YtamcgoplhnbmcaaDoorDevR
set_option linter.unusedSimpArgs false
set_option linter.unusedVariables false
set_option linter.unusedSectionVars false
namespace Go.Sg
open Go.Rn Go.Proofs Go.Dev Go.Rec Go.Best Go.Sha Go.RowKit
attribute [local irreducible] Go.Rn.RetsX Go.Rn.RunLN Go.Rn.AsyN Go.Rn.RunL Go.Rn.RunE Go.Rn.Asy Go.Rn.OpV Go.Rn.OpE Go.Rn.ExecE
set_option maxRecDepth 4000 in
set_option maxHeartbeats 4000000 in
theorem devicesOld_walk (v : Value) (l : List Dev) (p : Int) (m : Value) (b : List UInt8) (secret first then_ later time : Int) (_ : -9223372036854775808 ≤ p ∧ p < 9223372036854775808) (hsec : -9223372036854775808 ≤ secret ∧ secret < 9223372036854775808) (_ : -9223372036854775808 ≤ first ∧ first < 9223372036854775808)
    (_ : -9223372036854775808 ≤ then_ ∧ then_ < 9223372036854775808) (_ : -9223372036854775808 ≤ later ∧ later < 9223372036854775808) (_ : -9223372036854775808 ≤ time ∧ time < 9223372036854775808)
    (W : World) (hlk : l.length < 9223372036854775808 ∧ ∀ x ∈ l, okD x) (hv : LD W v l) (hm : IsSl W 1 m b.length (bytesV b)) (hS0 : Row W 0 0 (vals init8.l)) (hkT : Row W 1 0 (vals kTab)) :
    Rets Tryd.prog 11 [v, .int .i64 p, m, .int .i64 secret, .int .i64 first, .int .i64 then_, .int .i64 later, .int .i64 time] W fun r w' => r = .bool true ∧ Ext W w' := by
  obtain ⟨hl, hk⟩ := hlk
  refine RetsX.of (nt := 167) Tryd.func11 (by kernel_rfl) rfl rfl (by simp) (by simp only [argEnv]; rfl) ?_
  have X := ExtB.refl (fun _ => False) W
  repeat' (first | with_reducible refine RunLN.boolF rfl ?_ | refine RunL.ev Tryd.tOk rfl rfl rfl ?_ | refine RunE.seq ?_ | refine RunE.region ?_ | refine RunL.nil ?_)
  refine RunL.call rfl rfl rfl (l48_sane_ok _ (hS0.up X) (hkT.up X)) ?_
  rintro _ _ ⟨rfl, Xa_⟩
  replace X := X.trans Xa_
  clear Xa_
  repeat' (first | with_reducible refine RunLN.boolF rfl ?_ | refine RunLN.int (by (first | exact wr_i64 (by omega) (by omega) | exact wm_i64 (by omega) | exact wq_i64 (by omega) (by omega) (by omega) | rfl)) ?_ | refine RunLN.any ?_ | refine RunL.ev Tryd.tOk rfl rfl rfl ?_ | refine RunE.condF rfl rfl ?_ | refine RunE.seq ?_ | refine RunE.region ?_ | refine RunL.nil ?_ | refine RunE.skip ?_)
  refine RunL.ex rfl rfl rfl (OpE.buildSl Tryd.tOk [.int .i64 first, .int .i64 then_, .int .i64 later, .int .i64 time] rfl rfl rfl rfl rfl rfl (by simp [Value.cells])) ?_
  rintro _ w_ ⟨B_, rfl, a_⟩
  have hts : LI w_ (.slice (some ⟨B_, 0, none⟩) 4 4) [first, then_, later, time] := (isSl_added (n := 4) (sz := 1) a_ rfl)
  replace X := X.trans a_.ext
  clear a_
  skip
  refine RunL.call rfl rfl rfl (right48_ok l v _ p [first, then_, later, time] _ (hv.up X) hl hts (by simp)) ?_
  rintro _ _ ⟨rfl, Xa_⟩
  replace X := X.trans Xa_
  clear Xa_
  clear hts
  cases hr : rightQ l p [first, then_, later, time] with
  | false =>
    repeat' (first | with_reducible refine RunLN.boolT rfl ?_ | refine RunL.ev Tryd.tOk rfl rfl rfl ?_ | refine RunL.unwantedD rfl rfl ?_ | refine RunE.condT rfl rfl ?_ | refine RunE.seq ?_ | refine RunE.region ?_ | refine RunL.nil ?_)
    exact RunE.retFn Tryd.func11 (.tmp rfl .nil) ⟨rfl, X⟩
  | true =>
    obtain ⟨hts, hle, hc, hp⟩ := rightQ_inv hr
    have t1 := hts first (by simp)
    have t2 := hts then_ (by simp)
    have t3 := hts later (by simp)
    have t4 := hts time (by simp)
    clear hts hr
    by_cases hq : first ≤ then_ ∧ then_ ≤ later ∧ b.length ≤ 200
    · obtain ⟨q1, q2, q3⟩ := hq
      have e1 := curE_zero hc hp t1 t4
      have e2 := curE_zero hc hp t2 t4
      have e3 := curE_zero hc hp t3 t4
      have c1 := fun w h => dCurrent_ok l v p first time w h hl
      have c2 := fun w h => dCurrent_ok l v p then_ time w h hl
      have c3 := fun w h => dCurrent_ok l v p later time w h hl
      have c4 := fun E S w h hE hS hm hb h1 h2 => dAccepts_ok l v m b E S p later time w h hl (fun hc => (chkD_srt hc).1) hk hE hS hm hb h1 h2
      rw [e1] at c1
      rw [e2] at c2
      rw [e3] at c3 c4
      obtain ⟨n, key, one, hA⟩ : ∃ n key one, ansD (curD l p first time) = (n, key, one) := ⟨_, _, _, rfl⟩
      obtain ⟨m2, k2, two, hB⟩ : ∃ n key one, ansD (curD l p then_ time) = (n, key, one) := ⟨_, _, _, rfl⟩
      obtain ⟨o, last, three, hC⟩ : ∃ n key one, ansD (curD l p later time) = (n, key, one) := ⟨_, _, _, rfl⟩
      have F := old_facts hc q1 q2 e1 e2 e3 hA hB hC
      have kA := cur_key hc e1 hk hA
      have kC := cur_key hc e3 hk hC
      have FC := fun E S => acc_facts (b := b) (E := E) (S := S) (m := (accD (curD l p later time) b E S).1) (a := (accD (curD l p later time) b E S).2) hC rfl
      rw [hA] at c1
      rw [hB] at c2
      rw [hC] at c3
      have c5 := fun w hv h1 h2 => sign_ok secret m b w hsec hv (by omega) h1 h2
      have bE := sigE_bd secret b
      have bS := sigS_bd secret b
      generalize sigE secret b = E at c5 bE
      generalize sigS secret b = S at c5 bS
      generalize sigR secret = R at c5
      have c6 := fun w hv h1 h2 => verify_ok key E S m b w kA (by omega) (by omega) hv (by omega) h1 h2
      have c7 := fun w hv h1 h2 => verify_ok last E S m b w kC (by omega) (by omega) hv (by omega) h1 h2
      replace c4 := fun w h hm h1 h2 => c4 E S w h (by omega) (by omega) hm (by omega) h1 h2
      replace FC := FC E S
      generalize (accD (curD l p later time) b E S).1 = n4 at c4 FC
      generalize (accD (curD l p later time) b E S).2 = a4 at c4 FC
      generalize verS key b E S = v6 at c6
      generalize verS last b E S = v7 at c7 FC
      clear hA hB hC e1 e2 e3 hc hk
      repeat' (first | with_reducible refine RunLN.boolF rfl ?_ | (with_reducible refine RunLN.decF ?_ ?_; focus omega) | refine RunLN.int (by (first | exact wr_i64 (by omega) (by omega) | exact wm_i64 (by omega) | exact wq_i64 (by omega) (by omega) (by omega) | rfl)) ?_ | refine RunLN.any ?_ | refine RunL.ev Tryd.tOk rfl rfl rfl ?_ | refine RunL.evV rfl rfl rfl (OpV.lenSl Tryd.tOk rfl rfl hm) ?_ | refine RunE.condF rfl rfl ?_ | refine RunE.seq ?_ | refine RunE.region ?_ | refine RunL.nil ?_ | refine RunE.skip ?_)
      refine RunL.call rfl rfl rfl (c1 _ (hv.up X)) ?_
      rintro _ _ ⟨rfl, Xa_⟩
      replace X := X.trans Xa_
      clear Xa_
      repeat' (first | refine RunLN.int (by (first | exact wr_i64 (by omega) (by omega) | exact wm_i64 (by omega) | exact wq_i64 (by omega) (by omega) (by omega) | rfl)) ?_ | refine RunLN.any ?_ | refine RunL.ev Tryd.tOk rfl rfl rfl ?_ | refine RunE.seq ?_ | refine RunE.region ?_ | refine RunL.nil ?_)
      refine RunL.call rfl rfl rfl (c2 _ (hv.up X)) ?_
      rintro _ _ ⟨rfl, Xa_⟩
      replace X := X.trans Xa_
      clear Xa_
      repeat' (first | refine RunLN.int (by (first | exact wr_i64 (by omega) (by omega) | exact wm_i64 (by omega) | exact wq_i64 (by omega) (by omega) (by omega) | rfl)) ?_ | refine RunLN.any ?_ | refine RunL.ev Tryd.tOk rfl rfl rfl ?_ | refine RunE.seq ?_ | refine RunE.region ?_ | refine RunL.nil ?_)
      refine RunL.call rfl rfl rfl (c3 _ (hv.up X)) ?_
      rintro _ _ ⟨rfl, Xa_⟩
      replace X := X.trans Xa_
      clear Xa_
      cases one with
      | false =>
        repeat' (first | with_reducible refine RunLN.boolT rfl ?_ | with_reducible refine RunLN.boolF rfl ?_ | refine RunLN.int (by (first | exact wr_i64 (by omega) (by omega) | exact wm_i64 (by omega) | exact wq_i64 (by omega) (by omega) (by omega) | rfl)) ?_ | refine RunLN.any ?_ | refine RunL.ev Tryd.tOk rfl rfl rfl ?_ | refine RunL.unwantedD rfl rfl ?_ | refine RunE.condT rfl rfl ?_ | refine RunE.condF rfl rfl ?_ | refine RunE.seq ?_ | refine RunE.region ?_ | refine RunL.nil ?_ | refine RunE.skip ?_)
        exact RunE.retFn Tryd.func11 (.tmp rfl .nil) ⟨rfl, X⟩
      | true =>
        by_cases h2 : two = true ∧ m2 = n
        · obtain ⟨rfl, rfl⟩ := h2
          repeat' (first | with_reducible refine RunLN.boolT rfl ?_ | with_reducible refine RunLN.boolF rfl ?_ | (with_reducible refine RunLN.eqT ?_ ?_; focus omega) | refine RunLN.int (by (first | exact wr_i64 (by omega) (by omega) | exact wm_i64 (by omega) | exact wq_i64 (by omega) (by omega) (by omega) | rfl)) ?_ | refine RunLN.any ?_ | refine RunL.ev Tryd.tOk rfl rfl rfl ?_ | refine RunE.condT rfl rfl ?_ | refine RunE.condF rfl rfl ?_ | refine RunE.seq ?_ | refine RunE.region ?_ | refine RunL.nil ?_ | refine RunE.skip ?_)
          exact RunE.retFn Tryd.func11 (.tmp rfl .nil) ⟨rfl, X⟩
        · have F1 := F rfl h2
          clear F
          have h2' : two = false ∨ (two = true ∧ m2 ≠ n) := by
            cases two with
            | false => exact .inl rfl
            | true => exact .inr ⟨rfl, fun e => h2 ⟨rfl, e⟩⟩
          cases three with
          | false =>
            rcases h2' with rfl | ⟨rfl, h2'⟩
            · repeat' (first | with_reducible refine RunLN.boolT rfl ?_ | with_reducible refine RunLN.boolF rfl ?_ | refine RunLN.int (by (first | exact wr_i64 (by omega) (by omega) | exact wm_i64 (by omega) | exact wq_i64 (by omega) (by omega) (by omega) | rfl)) ?_ | refine RunLN.any ?_ | refine RunL.ev Tryd.tOk rfl rfl rfl ?_ | refine RunL.unwantedD rfl rfl ?_ | refine RunE.condF rfl rfl ?_ | refine RunE.seq ?_ | refine RunE.region ?_ | refine RunL.nil ?_ | refine RunE.skip ?_)
              refine RunL.call rfl rfl rfl (c5 _ (hm.up X) (hS0.up X) (hkT.up X)) ?_
              rintro _ _ ⟨rfl, Xa_⟩
              replace X := X.trans Xa_
              clear Xa_
              repeat' (first | refine RunLN.int (by (first | exact wr_i64 (by omega) (by omega) | exact wm_i64 (by omega) | exact wq_i64 (by omega) (by omega) (by omega) | rfl)) ?_ | refine RunLN.any ?_ | refine RunL.ev Tryd.tOk rfl rfl rfl ?_)
              refine RunL.alloc Tryd.tOk rfl rfl rfl fun B29 w29 a29 => ?_
              have e29 := a29.eq
              refine RunL.store Tryd.tOk rfl rfl rfl rfl rfl (cs := [.int .i64 0, .int .i64 0]) a29.at_ rfl rfl fun w30 t29 => ?_
              have Xa_ : Ext _ w30 := a29.ext.write t29.ext (by intro i hi hlt; subst hi; omega)
              have Z29 : Blk w30 B29 [.int .i64 E, .int .i64 S] 66 := t29.at_
              replace X := X.trans Xa_
              clear Xa_ a29 t29 e29
              by_cases hR : R = 0
              · repeat' (first | with_reducible refine RunLN.boolF rfl ?_ | (with_reducible refine RunLN.neF ?_ ?_; focus omega) | refine RunLN.int (by (first | exact wr_i64 (by omega) (by omega) | exact wm_i64 (by omega) | exact wq_i64 (by omega) (by omega) (by omega) | rfl)) ?_ | refine RunLN.any ?_ | refine RunL.ev Tryd.tOk rfl rfl rfl ?_ | refine RunL.evV rfl rfl rfl (OpV.loadN Tryd.tOk rfl rfl rfl rfl (Blk.row Z29)) ?_ | refine RunE.seq ?_ | refine RunE.region ?_ | refine RunL.nil ?_)
                refine RunL.call rfl rfl rfl (c6 _ (hm.up X) (hS0.up X) (hkT.up X)) ?_
                rintro _ _ ⟨rfl, Xa_⟩
                replace Z29 := Z29.up Xa_
                replace X := X.trans Xa_
                clear Xa_
                cases v6 with
                | false =>
                  repeat' (first | with_reducible refine RunLN.boolT rfl ?_ | refine RunL.ev Tryd.tOk rfl rfl rfl ?_ | refine RunE.condT rfl rfl ?_ | refine RunE.seq ?_ | refine RunE.region ?_ | refine RunL.nil ?_)
                  exact RunE.retFn Tryd.func11 (.tmp rfl .nil) ⟨rfl, X⟩
                | true =>
                  repeat' (first | with_reducible refine RunLN.boolF rfl ?_ | refine RunLN.int (by (first | exact wr_i64 (by omega) (by omega) | exact wm_i64 (by omega) | exact wq_i64 (by omega) (by omega) (by omega) | rfl)) ?_ | refine RunLN.any ?_ | refine RunL.ev Tryd.tOk rfl rfl rfl ?_ | refine RunL.evV rfl rfl rfl (OpV.loadN Tryd.tOk rfl rfl rfl rfl (Blk.row Z29)) ?_ | refine RunE.condF rfl rfl ?_ | refine RunE.seq ?_ | refine RunE.region ?_ | refine RunL.nil ?_ | refine RunE.skip ?_)
                  refine RunL.call rfl rfl rfl (c4 _ (hv.up X) (hm.up X) (hS0.up X) (hkT.up X)) ?_
                  rintro _ _ ⟨rfl, Xa_⟩
                  replace Z29 := Z29.up Xa_
                  replace X := X.trans Xa_
                  clear Xa_
                  cases a4 with
                  | false =>
                    repeat' (first | with_reducible refine RunLN.boolT rfl ?_ | with_reducible refine RunLN.boolF rfl ?_ | refine RunLN.int (by (first | exact wr_i64 (by omega) (by omega) | exact wm_i64 (by omega) | exact wq_i64 (by omega) (by omega) (by omega) | rfl)) ?_ | refine RunLN.any ?_ | refine RunL.ev Tryd.tOk rfl rfl rfl ?_ | refine RunL.unwantedD rfl rfl ?_ | refine RunE.seq ?_ | refine RunE.region ?_ | refine RunL.nil ?_)
                    exact RunE.retFn Tryd.func11 (.tmp rfl .nil) ⟨rfl, X⟩
                  | true =>
                    try exact absurd (FC.1 rfl) (by simp)
                    all_goals
                      have g1 := FC.2.1 rfl
                      have g2 := FC.2.2 rfl
                      subst g1
                      subst g2
                      skip
                      refine RunL.call rfl rfl rfl (c7 _ (hm.up X) (hS0.up X) (hkT.up X)) ?_
                      rintro _ _ ⟨rfl, Xa_⟩
                      replace X := X.trans Xa_
                      clear Xa_
                      skip
                      exact RunE.retFn Tryd.func11 (.tmp rfl .nil) ⟨rfl, X⟩
              · repeat' (first | with_reducible refine RunLN.boolT rfl ?_ | (with_reducible refine RunLN.neT ?_ ?_; focus omega) | refine RunLN.int (by (first | exact wr_i64 (by omega) (by omega) | exact wm_i64 (by omega) | exact wq_i64 (by omega) (by omega) (by omega) | rfl)) ?_ | refine RunL.ev Tryd.tOk rfl rfl rfl ?_ | refine RunL.unwantedD rfl rfl ?_ | refine RunE.condT rfl rfl ?_ | refine RunE.seq ?_ | refine RunE.region ?_ | refine RunL.nil ?_)
                exact RunE.retFn Tryd.func11 (.tmp rfl .nil) ⟨rfl, X⟩
            · repeat' (first | with_reducible refine RunLN.boolT rfl ?_ | with_reducible refine RunLN.boolF rfl ?_ | (with_reducible refine RunLN.eqF ?_ ?_; focus omega) | refine RunLN.int (by (first | exact wr_i64 (by omega) (by omega) | exact wm_i64 (by omega) | exact wq_i64 (by omega) (by omega) (by omega) | rfl)) ?_ | refine RunLN.any ?_ | refine RunL.ev Tryd.tOk rfl rfl rfl ?_ | refine RunL.unwantedD rfl rfl ?_ | refine RunE.condF rfl rfl ?_ | refine RunE.seq ?_ | refine RunE.region ?_ | refine RunL.nil ?_ | refine RunE.skip ?_)
              refine RunL.call rfl rfl rfl (c5 _ (hm.up X) (hS0.up X) (hkT.up X)) ?_
              rintro _ _ ⟨rfl, Xa_⟩
              replace X := X.trans Xa_
              clear Xa_
              repeat' (first | refine RunLN.int (by (first | exact wr_i64 (by omega) (by omega) | exact wm_i64 (by omega) | exact wq_i64 (by omega) (by omega) (by omega) | rfl)) ?_ | refine RunLN.any ?_ | refine RunL.ev Tryd.tOk rfl rfl rfl ?_)
              refine RunL.alloc Tryd.tOk rfl rfl rfl fun B29 w29 a29 => ?_
              have e29 := a29.eq
              refine RunL.store Tryd.tOk rfl rfl rfl rfl rfl (cs := [.int .i64 0, .int .i64 0]) a29.at_ rfl rfl fun w30 t29 => ?_
              have Xa_ : Ext _ w30 := a29.ext.write t29.ext (by intro i hi hlt; subst hi; omega)
              have Z29 : Blk w30 B29 [.int .i64 E, .int .i64 S] 66 := t29.at_
              replace X := X.trans Xa_
              clear Xa_ a29 t29 e29
              by_cases hR : R = 0
              · repeat' (first | with_reducible refine RunLN.boolF rfl ?_ | (with_reducible refine RunLN.neF ?_ ?_; focus omega) | refine RunLN.int (by (first | exact wr_i64 (by omega) (by omega) | exact wm_i64 (by omega) | exact wq_i64 (by omega) (by omega) (by omega) | rfl)) ?_ | refine RunLN.any ?_ | refine RunL.ev Tryd.tOk rfl rfl rfl ?_ | refine RunL.evV rfl rfl rfl (OpV.loadN Tryd.tOk rfl rfl rfl rfl (Blk.row Z29)) ?_ | refine RunE.seq ?_ | refine RunE.region ?_ | refine RunL.nil ?_)
                refine RunL.call rfl rfl rfl (c6 _ (hm.up X) (hS0.up X) (hkT.up X)) ?_
                rintro _ _ ⟨rfl, Xa_⟩
                replace Z29 := Z29.up Xa_
                replace X := X.trans Xa_
                clear Xa_
                cases v6 with
                | false =>
                  repeat' (first | with_reducible refine RunLN.boolT rfl ?_ | refine RunL.ev Tryd.tOk rfl rfl rfl ?_ | refine RunE.condT rfl rfl ?_ | refine RunE.seq ?_ | refine RunE.region ?_ | refine RunL.nil ?_)
                  exact RunE.retFn Tryd.func11 (.tmp rfl .nil) ⟨rfl, X⟩
                | true =>
                  repeat' (first | with_reducible refine RunLN.boolF rfl ?_ | refine RunLN.int (by (first | exact wr_i64 (by omega) (by omega) | exact wm_i64 (by omega) | exact wq_i64 (by omega) (by omega) (by omega) | rfl)) ?_ | refine RunLN.any ?_ | refine RunL.ev Tryd.tOk rfl rfl rfl ?_ | refine RunL.evV rfl rfl rfl (OpV.loadN Tryd.tOk rfl rfl rfl rfl (Blk.row Z29)) ?_ | refine RunE.condF rfl rfl ?_ | refine RunE.seq ?_ | refine RunE.region ?_ | refine RunL.nil ?_ | refine RunE.skip ?_)
                  refine RunL.call rfl rfl rfl (c4 _ (hv.up X) (hm.up X) (hS0.up X) (hkT.up X)) ?_
                  rintro _ _ ⟨rfl, Xa_⟩
                  replace Z29 := Z29.up Xa_
                  replace X := X.trans Xa_
                  clear Xa_
                  cases a4 with
                  | false =>
                    repeat' (first | with_reducible refine RunLN.boolT rfl ?_ | with_reducible refine RunLN.boolF rfl ?_ | refine RunLN.int (by (first | exact wr_i64 (by omega) (by omega) | exact wm_i64 (by omega) | exact wq_i64 (by omega) (by omega) (by omega) | rfl)) ?_ | refine RunLN.any ?_ | refine RunL.ev Tryd.tOk rfl rfl rfl ?_ | refine RunL.unwantedD rfl rfl ?_ | refine RunE.seq ?_ | refine RunE.region ?_ | refine RunL.nil ?_)
                    exact RunE.retFn Tryd.func11 (.tmp rfl .nil) ⟨rfl, X⟩
                  | true =>
                    try exact absurd (FC.1 rfl) (by simp)
                    all_goals
                      have g1 := FC.2.1 rfl
                      have g2 := FC.2.2 rfl
                      subst g1
                      subst g2
                      skip
                      refine RunL.call rfl rfl rfl (c7 _ (hm.up X) (hS0.up X) (hkT.up X)) ?_
                      rintro _ _ ⟨rfl, Xa_⟩
                      replace X := X.trans Xa_
                      clear Xa_
                      skip
                      exact RunE.retFn Tryd.func11 (.tmp rfl .nil) ⟨rfl, X⟩
              · repeat' (first | with_reducible refine RunLN.boolT rfl ?_ | (with_reducible refine RunLN.neT ?_ ?_; focus omega) | refine RunLN.int (by (first | exact wr_i64 (by omega) (by omega) | exact wm_i64 (by omega) | exact wq_i64 (by omega) (by omega) (by omega) | rfl)) ?_ | refine RunL.ev Tryd.tOk rfl rfl rfl ?_ | refine RunL.unwantedD rfl rfl ?_ | refine RunE.condT rfl rfl ?_ | refine RunE.seq ?_ | refine RunE.region ?_ | refine RunL.nil ?_)
                exact RunE.retFn Tryd.func11 (.tmp rfl .nil) ⟨rfl, X⟩
          | true =>
            obtain ⟨f1, f2⟩ := F1 rfl
            clear F1
            rcases h2' with rfl | ⟨rfl, h2'⟩
            · repeat' (first | with_reducible refine RunLN.boolT rfl ?_ | with_reducible refine RunLN.boolF rfl ?_ | (with_reducible refine RunLN.eqF ?_ ?_; focus omega) | refine RunLN.int (by (first | exact wr_i64 (by omega) (by omega) | exact wm_i64 (by omega) | exact wq_i64 (by omega) (by omega) (by omega) | rfl)) ?_ | refine RunLN.any ?_ | refine RunL.ev Tryd.tOk rfl rfl rfl ?_ | refine RunL.unwantedD rfl rfl ?_ | refine RunE.condF rfl rfl ?_ | refine RunE.seq ?_ | refine RunE.region ?_ | refine RunL.nil ?_ | refine RunE.skip ?_)
              refine RunL.call rfl rfl rfl (c5 _ (hm.up X) (hS0.up X) (hkT.up X)) ?_
              rintro _ _ ⟨rfl, Xa_⟩
              replace X := X.trans Xa_
              clear Xa_
              repeat' (first | refine RunLN.int (by (first | exact wr_i64 (by omega) (by omega) | exact wm_i64 (by omega) | exact wq_i64 (by omega) (by omega) (by omega) | rfl)) ?_ | refine RunLN.any ?_ | refine RunL.ev Tryd.tOk rfl rfl rfl ?_)
              refine RunL.alloc Tryd.tOk rfl rfl rfl fun B29 w29 a29 => ?_
              have e29 := a29.eq
              refine RunL.store Tryd.tOk rfl rfl rfl rfl rfl (cs := [.int .i64 0, .int .i64 0]) a29.at_ rfl rfl fun w30 t29 => ?_
              have Xa_ : Ext _ w30 := a29.ext.write t29.ext (by intro i hi hlt; subst hi; omega)
              have Z29 : Blk w30 B29 [.int .i64 E, .int .i64 S] 66 := t29.at_
              replace X := X.trans Xa_
              clear Xa_ a29 t29 e29
              by_cases hR : R = 0
              · repeat' (first | with_reducible refine RunLN.boolF rfl ?_ | (with_reducible refine RunLN.neF ?_ ?_; focus omega) | refine RunLN.int (by (first | exact wr_i64 (by omega) (by omega) | exact wm_i64 (by omega) | exact wq_i64 (by omega) (by omega) (by omega) | rfl)) ?_ | refine RunLN.any ?_ | refine RunL.ev Tryd.tOk rfl rfl rfl ?_ | refine RunL.evV rfl rfl rfl (OpV.loadN Tryd.tOk rfl rfl rfl rfl (Blk.row Z29)) ?_ | refine RunE.seq ?_ | refine RunE.region ?_ | refine RunL.nil ?_)
                refine RunL.call rfl rfl rfl (c6 _ (hm.up X) (hS0.up X) (hkT.up X)) ?_
                rintro _ _ ⟨rfl, Xa_⟩
                replace Z29 := Z29.up Xa_
                replace X := X.trans Xa_
                clear Xa_
                cases v6 with
                | false =>
                  repeat' (first | with_reducible refine RunLN.boolT rfl ?_ | refine RunL.ev Tryd.tOk rfl rfl rfl ?_ | refine RunE.condT rfl rfl ?_ | refine RunE.seq ?_ | refine RunE.region ?_ | refine RunL.nil ?_)
                  exact RunE.retFn Tryd.func11 (.tmp rfl .nil) ⟨rfl, X⟩
                | true =>
                  repeat' (first | with_reducible refine RunLN.boolF rfl ?_ | refine RunLN.int (by (first | exact wr_i64 (by omega) (by omega) | exact wm_i64 (by omega) | exact wq_i64 (by omega) (by omega) (by omega) | rfl)) ?_ | refine RunLN.any ?_ | refine RunL.ev Tryd.tOk rfl rfl rfl ?_ | refine RunL.evV rfl rfl rfl (OpV.loadN Tryd.tOk rfl rfl rfl rfl (Blk.row Z29)) ?_ | refine RunE.condF rfl rfl ?_ | refine RunE.seq ?_ | refine RunE.region ?_ | refine RunL.nil ?_ | refine RunE.skip ?_)
                  refine RunL.call rfl rfl rfl (c4 _ (hv.up X) (hm.up X) (hS0.up X) (hkT.up X)) ?_
                  rintro _ _ ⟨rfl, Xa_⟩
                  replace Z29 := Z29.up Xa_
                  replace X := X.trans Xa_
                  clear Xa_
                  cases a4 with
                  | false =>
                    repeat' (first | with_reducible refine RunLN.boolT rfl ?_ | with_reducible refine RunLN.boolF rfl ?_ | refine RunLN.int (by (first | exact wr_i64 (by omega) (by omega) | exact wm_i64 (by omega) | exact wq_i64 (by omega) (by omega) (by omega) | rfl)) ?_ | refine RunLN.any ?_ | refine RunL.ev Tryd.tOk rfl rfl rfl ?_ | refine RunL.unwantedD rfl rfl ?_ | refine RunE.seq ?_ | refine RunE.region ?_ | refine RunL.nil ?_)
                    exact RunE.retFn Tryd.func11 (.tmp rfl .nil) ⟨rfl, X⟩
                  | true =>
                    try exact absurd (FC.1 rfl) (by simp)
                    all_goals
                      have g1 := FC.2.1 rfl
                      have g2 := FC.2.2 rfl
                      subst g1
                      subst g2
                      repeat' (first | with_reducible refine RunLN.boolT rfl ?_ | with_reducible refine RunLN.boolF rfl ?_ | (with_reducible refine RunLN.eqT ?_ ?_; focus omega) | refine RunLN.int (by (first | exact wr_i64 (by omega) (by omega) | exact wm_i64 (by omega) | exact wq_i64 (by omega) (by omega) (by omega) | rfl)) ?_ | refine RunLN.any ?_ | refine RunL.ev Tryd.tOk rfl rfl rfl ?_ | refine RunL.evV rfl rfl rfl (OpV.loadN Tryd.tOk rfl rfl rfl rfl (Blk.row Z29)) ?_ | refine RunE.seq ?_ | refine RunE.region ?_ | refine RunL.nil ?_)
                      refine RunL.call rfl rfl rfl (c7 _ (hm.up X) (hS0.up X) (hkT.up X)) ?_
                      rintro _ _ ⟨rfl, Xa_⟩
                      replace X := X.trans Xa_
                      clear Xa_
                      repeat' (first | with_reducible refine RunLN.boolT rfl ?_ | refine RunL.ev Tryd.tOk rfl rfl rfl ?_ | refine RunL.nil ?_)
                      exact RunE.retFn Tryd.func11 (.tmp rfl .nil) ⟨rfl, X⟩
              · repeat' (first | with_reducible refine RunLN.boolT rfl ?_ | (with_reducible refine RunLN.neT ?_ ?_; focus omega) | refine RunLN.int (by (first | exact wr_i64 (by omega) (by omega) | exact wm_i64 (by omega) | exact wq_i64 (by omega) (by omega) (by omega) | rfl)) ?_ | refine RunL.ev Tryd.tOk rfl rfl rfl ?_ | refine RunL.unwantedD rfl rfl ?_ | refine RunE.condT rfl rfl ?_ | refine RunE.seq ?_ | refine RunE.region ?_ | refine RunL.nil ?_)
                exact RunE.retFn Tryd.func11 (.tmp rfl .nil) ⟨rfl, X⟩
            · repeat' (first | with_reducible refine RunLN.boolT rfl ?_ | with_reducible refine RunLN.boolF rfl ?_ | (with_reducible refine RunLN.eqF ?_ ?_; focus omega) | refine RunLN.int (by (first | exact wr_i64 (by omega) (by omega) | exact wm_i64 (by omega) | exact wq_i64 (by omega) (by omega) (by omega) | rfl)) ?_ | refine RunLN.any ?_ | refine RunL.ev Tryd.tOk rfl rfl rfl ?_ | refine RunE.condF rfl rfl ?_ | refine RunE.seq ?_ | refine RunE.region ?_ | refine RunL.nil ?_ | refine RunE.skip ?_)
              refine RunL.call rfl rfl rfl (c5 _ (hm.up X) (hS0.up X) (hkT.up X)) ?_
              rintro _ _ ⟨rfl, Xa_⟩
              replace X := X.trans Xa_
              clear Xa_
              repeat' (first | refine RunLN.int (by (first | exact wr_i64 (by omega) (by omega) | exact wm_i64 (by omega) | exact wq_i64 (by omega) (by omega) (by omega) | rfl)) ?_ | refine RunLN.any ?_ | refine RunL.ev Tryd.tOk rfl rfl rfl ?_)
              refine RunL.alloc Tryd.tOk rfl rfl rfl fun B29 w29 a29 => ?_
              have e29 := a29.eq
              refine RunL.store Tryd.tOk rfl rfl rfl rfl rfl (cs := [.int .i64 0, .int .i64 0]) a29.at_ rfl rfl fun w30 t29 => ?_
              have Xa_ : Ext _ w30 := a29.ext.write t29.ext (by intro i hi hlt; subst hi; omega)
              have Z29 : Blk w30 B29 [.int .i64 E, .int .i64 S] 66 := t29.at_
              replace X := X.trans Xa_
              clear Xa_ a29 t29 e29
              by_cases hR : R = 0
              · repeat' (first | with_reducible refine RunLN.boolF rfl ?_ | (with_reducible refine RunLN.neF ?_ ?_; focus omega) | refine RunLN.int (by (first | exact wr_i64 (by omega) (by omega) | exact wm_i64 (by omega) | exact wq_i64 (by omega) (by omega) (by omega) | rfl)) ?_ | refine RunLN.any ?_ | refine RunL.ev Tryd.tOk rfl rfl rfl ?_ | refine RunL.evV rfl rfl rfl (OpV.loadN Tryd.tOk rfl rfl rfl rfl (Blk.row Z29)) ?_ | refine RunE.seq ?_ | refine RunE.region ?_ | refine RunL.nil ?_)
                refine RunL.call rfl rfl rfl (c6 _ (hm.up X) (hS0.up X) (hkT.up X)) ?_
                rintro _ _ ⟨rfl, Xa_⟩
                replace Z29 := Z29.up Xa_
                replace X := X.trans Xa_
                clear Xa_
                cases v6 with
                | false =>
                  repeat' (first | with_reducible refine RunLN.boolT rfl ?_ | refine RunL.ev Tryd.tOk rfl rfl rfl ?_ | refine RunE.condT rfl rfl ?_ | refine RunE.seq ?_ | refine RunE.region ?_ | refine RunL.nil ?_)
                  exact RunE.retFn Tryd.func11 (.tmp rfl .nil) ⟨rfl, X⟩
                | true =>
                  repeat' (first | with_reducible refine RunLN.boolF rfl ?_ | refine RunLN.int (by (first | exact wr_i64 (by omega) (by omega) | exact wm_i64 (by omega) | exact wq_i64 (by omega) (by omega) (by omega) | rfl)) ?_ | refine RunLN.any ?_ | refine RunL.ev Tryd.tOk rfl rfl rfl ?_ | refine RunL.evV rfl rfl rfl (OpV.loadN Tryd.tOk rfl rfl rfl rfl (Blk.row Z29)) ?_ | refine RunE.condF rfl rfl ?_ | refine RunE.seq ?_ | refine RunE.region ?_ | refine RunL.nil ?_ | refine RunE.skip ?_)
                  refine RunL.call rfl rfl rfl (c4 _ (hv.up X) (hm.up X) (hS0.up X) (hkT.up X)) ?_
                  rintro _ _ ⟨rfl, Xa_⟩
                  replace Z29 := Z29.up Xa_
                  replace X := X.trans Xa_
                  clear Xa_
                  cases a4 with
                  | false =>
                    repeat' (first | with_reducible refine RunLN.boolT rfl ?_ | with_reducible refine RunLN.boolF rfl ?_ | refine RunLN.int (by (first | exact wr_i64 (by omega) (by omega) | exact wm_i64 (by omega) | exact wq_i64 (by omega) (by omega) (by omega) | rfl)) ?_ | refine RunLN.any ?_ | refine RunL.ev Tryd.tOk rfl rfl rfl ?_ | refine RunL.unwantedD rfl rfl ?_ | refine RunE.seq ?_ | refine RunE.region ?_ | refine RunL.nil ?_)
                    exact RunE.retFn Tryd.func11 (.tmp rfl .nil) ⟨rfl, X⟩
                  | true =>
                    try exact absurd (FC.1 rfl) (by simp)
                    all_goals
                      have g1 := FC.2.1 rfl
                      have g2 := FC.2.2 rfl
                      subst g1
                      subst g2
                      repeat' (first | with_reducible refine RunLN.boolT rfl ?_ | with_reducible refine RunLN.boolF rfl ?_ | (with_reducible refine RunLN.eqT ?_ ?_; focus omega) | refine RunLN.int (by (first | exact wr_i64 (by omega) (by omega) | exact wm_i64 (by omega) | exact wq_i64 (by omega) (by omega) (by omega) | rfl)) ?_ | refine RunLN.any ?_ | refine RunL.ev Tryd.tOk rfl rfl rfl ?_ | refine RunL.evV rfl rfl rfl (OpV.loadN Tryd.tOk rfl rfl rfl rfl (Blk.row Z29)) ?_ | refine RunE.seq ?_ | refine RunE.region ?_ | refine RunL.nil ?_)
                      refine RunL.call rfl rfl rfl (c7 _ (hm.up X) (hS0.up X) (hkT.up X)) ?_
                      rintro _ _ ⟨rfl, Xa_⟩
                      replace X := X.trans Xa_
                      clear Xa_
                      repeat' (first | with_reducible refine RunLN.boolT rfl ?_ | refine RunL.ev Tryd.tOk rfl rfl rfl ?_ | refine RunL.nil ?_)
                      exact RunE.retFn Tryd.func11 (.tmp rfl .nil) ⟨rfl, X⟩
              · repeat' (first | with_reducible refine RunLN.boolT rfl ?_ | (with_reducible refine RunLN.neT ?_ ?_; focus omega) | refine RunLN.int (by (first | exact wr_i64 (by omega) (by omega) | exact wm_i64 (by omega) | exact wq_i64 (by omega) (by omega) (by omega) | rfl)) ?_ | refine RunL.ev Tryd.tOk rfl rfl rfl ?_ | refine RunL.unwantedD rfl rfl ?_ | refine RunE.condT rfl rfl ?_ | refine RunE.seq ?_ | refine RunE.region ?_ | refine RunL.nil ?_)
                exact RunE.retFn Tryd.func11 (.tmp rfl .nil) ⟨rfl, X⟩
    · have hq' : first > then_ ∨ (first ≤ then_ ∧ then_ > later) ∨ (first ≤ then_ ∧ then_ ≤ later ∧ 200 < b.length) := by omega
      rcases hq' with h | ⟨h, h'⟩ | ⟨h, h', h''⟩
      · repeat' (first | with_reducible refine RunLN.boolT rfl ?_ | with_reducible refine RunLN.boolF rfl ?_ | (with_reducible refine RunLN.decT ?_ ?_; focus omega) | refine RunLN.int (by (first | exact wr_i64 (by omega) (by omega) | exact wm_i64 (by omega) | exact wq_i64 (by omega) (by omega) (by omega) | rfl)) ?_ | refine RunL.ev Tryd.tOk rfl rfl rfl ?_ | refine RunL.unwantedD rfl rfl ?_ | refine RunE.condT rfl rfl ?_ | refine RunE.seq ?_ | refine RunE.region ?_ | refine RunL.nil ?_)
        exact RunE.retFn Tryd.func11 (.tmp rfl .nil) ⟨rfl, X⟩
      · repeat' (first | with_reducible refine RunLN.boolT rfl ?_ | with_reducible refine RunLN.boolF rfl ?_ | (with_reducible refine RunLN.decT ?_ ?_; focus omega) | (with_reducible refine RunLN.decF ?_ ?_; focus omega) | refine RunLN.int (by (first | exact wr_i64 (by omega) (by omega) | exact wm_i64 (by omega) | exact wq_i64 (by omega) (by omega) (by omega) | rfl)) ?_ | refine RunL.ev Tryd.tOk rfl rfl rfl ?_ | refine RunL.unwantedD rfl rfl ?_ | refine RunE.condT rfl rfl ?_ | refine RunE.seq ?_ | refine RunE.region ?_ | refine RunL.nil ?_)
        exact RunE.retFn Tryd.func11 (.tmp rfl .nil) ⟨rfl, X⟩
      · repeat' (first | with_reducible refine RunLN.boolT rfl ?_ | with_reducible refine RunLN.boolF rfl ?_ | (with_reducible refine RunLN.decT ?_ ?_; focus omega) | (with_reducible refine RunLN.decF ?_ ?_; focus omega) | refine RunLN.int (by (first | exact wr_i64 (by omega) (by omega) | exact wm_i64 (by omega) | exact wq_i64 (by omega) (by omega) (by omega) | rfl)) ?_ | refine RunLN.any ?_ | refine RunL.ev Tryd.tOk rfl rfl rfl ?_ | refine RunL.evV rfl rfl rfl (OpV.lenSl Tryd.tOk rfl rfl hm) ?_ | refine RunE.condT rfl rfl ?_ | refine RunE.seq ?_ | refine RunE.region ?_ | refine RunL.nil ?_)
        exact RunE.retFn Tryd.func11 (.tmp rfl .nil) ⟨rfl, X⟩
end Go.Sg
namespace Go.Proofs.YtamcgoplhnbmcaaDoor
open Go.ChangeShapes Go.WideShapes Go.ChangeAt Go.RowKit Go.Sg
namespace devicesOld
theorem own : ownKnob Tryd.prog.godebug = none := by kernel_rfl
theorem laidOut : laidOutB Tryd.prog = true := by kernel_rfl
theorem door_met (os : Os) (args : Array Value) : laidMetH Tryd.prog Rows.devicesOldRow.laid ((World.doorLaid Tryd.prog 19 os).forCall (fun _ _ => 0) ⟨#[], args, []⟩).memory :=
  laidMetH_of_parts3 (fuel := 8) (laidMet_of_run' 8 (by kernel_rfl) (by kernel_rfl)) (by kernel_rfl) (by kernel_rfl)
set_option maxRecDepth 100000 in
theorem lifted (os : Os) (started : os.Started) (H : Type) (enc : TypeId × Value → H) :
    ReturnsInHanded {} Tryd.checked os 11 .any (fun w args => (Rows.devicesOldSpec.pre enc Tryd.prog Tryd.f11 [] false w args ∧ laidMetH Tryd.prog Rows.devicesOldRow.laid w) ∧ sizedMet enc Tryd.prog Tryd.f11 (OpenSpec.ofChange Rows.devicesOldSpec) false w args)
      (Rows.devicesOldSpec.post enc Tryd.prog Tryd.f11 false true false false) := by
  refine returnsInHanded_of_change_and (C := Tryd.checked) (X := fun w _ => laidMetH Tryd.prog Rows.devicesOldRow.laid w) (fun _ _ _ hh h => h.of_heap hh) own started (by kernel_rfl) Tryd.func11
    (ChangeSpec.witness_shaped (enc := enc) (C := Tryd.checked) (os := os) (X := fun w _ => laidMetH Tryd.prog Rows.devicesOldRow.laid w) false (World.doorLaid Tryd.prog 19 os) #[.slice none 0 0, .int .i64 0, .slice none 0 0, .int .i64 0, .int .i64 0, .int .i64 0, .int .i64 0, .int .i64 0] 8 rfl (World.shaped_of_RefB (by kernel_rfl) (by kernel_rfl)) (by kernel_rfl) (by kernel_rfl) (by kernel_rfl) (door_met os _)) ?_
  intro W base args ds gs before hval0 hW _ _ hL _
  have hval : ∀ (j : Nat) t v, Tryd.f11.params[j]? = some t → args[j]? = some v → Value.okWide Tryd.prog W .any base t v := hval0
  have hW' := hW
  obtain ⟨p, q, hA0, hV, rfl, hfz, hnd⟩ := hW
  have hA : DataW.TrodAll enc Tryd.prog W 0 (fun _ => true) true Tryd.f11.params.toList args.toList ds p := hA0
  rw [Tryd.params11] at hA hval
  obtain ⟨v0, vs0, d0, ds0, p0, q0, hargs, rfl, rfl, h0, r0⟩ := trodAll_cons hA
  obtain ⟨v1, vs1, d1, ds1, p1, q1, rfl, rfl, rfl, h1, r1⟩ := trodAll_cons r0
  obtain ⟨v2, vs2, d2, ds2, p2, q2, rfl, rfl, rfl, h2, r2⟩ := trodAll_cons r1
  obtain ⟨v3, vs3, d3, ds3, p3, q3, rfl, rfl, rfl, h3, r3⟩ := trodAll_cons r2
  obtain ⟨v4, vs4, d4, ds4, p4, q4, rfl, rfl, rfl, h4, r4⟩ := trodAll_cons r3
  obtain ⟨v5, vs5, d5, ds5, p5, q5, rfl, rfl, rfl, h5, r5⟩ := trodAll_cons r4
  obtain ⟨v6, vs6, d6, ds6, p6, q6, rfl, rfl, rfl, h6, r6⟩ := trodAll_cons r5
  obtain ⟨v7, vs7, d7, ds7, p7, q7, rfl, rfl, rfl, h7, r7⟩ := trodAll_cons r6
  obtain ⟨rfl, rfl, rfl⟩ := trodAll_nil r7
  obtain rfl : args = #[v0, v1, v2, v3, v4, v5, v6, v7] := by cases args; simp_all
  obtain ⟨l0, m0, s0⟩ := devs_open (hval 0 55 v0 rfl rfl) h0
  obtain ⟨a1, rfl, rfl, rfl, w1⟩ := open_int Tryd.underlying3 (hval 1 3 v1 rfl rfl) h1
  obtain ⟨l2, m2, s2⟩ := open_bytes Tryd.underlying64 Tryd.underlying5 (by kernel_rfl) (hval 2 64 v2 rfl rfl) h2
  obtain ⟨a3, rfl, rfl, rfl, w3⟩ := open_int Tryd.underlying3 (hval 3 3 v3 rfl rfl) h3
  obtain ⟨a4, rfl, rfl, rfl, w4⟩ := open_int Tryd.underlying3 (hval 4 3 v4 rfl rfl) h4
  obtain ⟨a5, rfl, rfl, rfl, w5⟩ := open_int Tryd.underlying3 (hval 5 3 v5 rfl rfl) h5
  obtain ⟨a6, rfl, rfl, rfl, w6⟩ := open_int Tryd.underlying3 (hval 6 3 v6 rfl rfl) h6
  obtain ⟨a7, rfl, rfl, rfl, w7⟩ := open_int Tryd.underlying3 (hval 7 3 v7 rfl rfl) h7
  have L0 := start_of_laid (by kernel_rfl) rfl (.head _) hL
  have L1 := numbers_of_laid (by kernel_rfl) rfl (.tail _ (.head _)) hL
  refine (Rets.calls (devicesOld_walk v0 l0 a1 v2 l2 a3 a4 a5 a6 a7 (i64_of_wf w1) (i64_of_wf w3) (i64_of_wf w4) (i64_of_wf w5) (i64_of_wf w6) (i64_of_wf w7) W m0 s0 s2 L0 L1)).mono fun e W' he => ?_
  obtain ⟨_, rfl, rfl, hx⟩ := he
  exact ⟨_, rfl, law_post (t := 4) laidOut (by kernel_rfl) (by kernel_rfl) (by kernel_rfl) rfl (fun ds h => by
    rcases ds with _ | ⟨_, _ | ⟨_, _ | ⟨_, _ | ⟨_, _ | ⟨_, _ | ⟨_, _ | ⟨_, _ | ⟨_, _ | ⟨_, _⟩⟩⟩⟩⟩⟩⟩⟩⟩ <;> first | rfl | (exact absurd h (by decide)) | (simp at h)) hW' hx⟩

theorem holds : Rows.DevicesOldSaid :=
  OpenClaim.holds_of_wide 11 Tryd.f11 rfl rfl rfl rfl rfl rfl rfl ⟨rfl, rfl, rfl, rfl, rfl⟩ rfl rfl rfl rfl rfl (by kernel_rfl) Tryd.func11 (by kernel_rfl)
    (of_decide_eq_true (by kernel_rfl)) (by unfold Func.isWrapper; first | (rw [if_pos (by decide +kernel)]; kernel_rfl) | (rw [if_neg (by decide +kernel)]; exact ⟨rfl, rfl⟩))
    (fun os started H enc _ => lifted os started H enc)
theorem proved : Rows.DevicesOldCardSaid :=
  Claim7.holds_tied_plain_at .later [] [.data, .data] true (true, "ae6f700ea2bd30feb0747e63825e7d966e37b71281da2088991cb0a2928709ec") true
    holds (fun _ h => by cases h) (by kernel_rfl) (fun _ h => by cases h) devicesOld_row_tie rfl ⟨rfl, rfl⟩ (by kernel_rfl) rfl
    (fun f fn hf hfn => by
      obtain rfl : f = 11 := Option.some.inj ((show Tryd.prog.funcNamed Tryd.f11.name = some 11 by kernel_rfl).symm.trans hf) |>.symm
      obtain rfl : fn = Tryd.f11 := (Option.some.inj (Tryd.func11.symm.trans hfn)).symm
      exact ⟨by kernel_rfl, fun j t ht => by
        have hall : Tryd.f11.params.toList.all (fun t => !Tryd.prog.wantsStandIn t) = true := by kernel_rfl
        have hm : t ∈ Tryd.f11.params.toList := by
          obtain ⟨hj, rfl⟩ := Array.getElem?_eq_some_iff.1 ht
          simp
        have := List.all_eq_true.1 hall t hm
        exact (by simpa using this : Tryd.prog.wantsStandIn t = false)⟩)
    (by kernel_rfl)
#print axioms proved
end devicesOld
end Go.Proofs.YtamcgoplhnbmcaaDoor
