/- signatorylaw48.DevicesOne returns true for every input; condition: the package variables digest.start and digest.numbers hold what the program lays in them (the card ties this). -/
import Derived.Test.YtamcgoplhnbmcaaDoorY10
import Derived.Test.YtamcgoplhnbmcaaDoorDevR
set_option linter.unusedSimpArgs false
set_option linter.unusedVariables false
set_option linter.unusedSectionVars false
namespace Go.Sg
open Go.Rn Go.Proofs Go.Dev Go.Rec Go.Best Go.Sha Go.RowKit
attribute [local irreducible] Go.Rn.RetsX Go.Rn.RunLN Go.Rn.AsyN Go.Rn.RunL Go.Rn.RunE Go.Rn.Asy Go.Rn.OpV Go.Rn.OpE Go.Rn.ExecE
set_option maxRecDepth 4000 in
set_option maxHeartbeats 4000000 in
theorem devicesOne_walk (v : Value) (l : List Dev) (p q : Int) (m : Value) (b : List UInt8) (E S t time : Int) (_ : -9223372036854775808 ≤ p ∧ p < 9223372036854775808) (_ : -9223372036854775808 ≤ q ∧ q < 9223372036854775808) (hE : -9223372036854775808 ≤ E ∧ E < 9223372036854775808) (hS : -9223372036854775808 ≤ S ∧ S < 9223372036854775808)
    (_ : -9223372036854775808 ≤ t ∧ t < 9223372036854775808) (_ : -9223372036854775808 ≤ time ∧ time < 9223372036854775808) (W : World) (hlk : l.length < 9223372036854775808 ∧ ∀ x ∈ l, okD x) (hv : LD W v l) (hm : IsSl W 1 m b.length (bytesV b)) (hS0 : Row W 0 0 (vals init8.l)) (hkT : Row W 1 0 (vals kTab)) :
    Rets Tryd.prog 10 [v, .int .i64 p, .int .i64 q, m, .agg #[.int .i64 E, .int .i64 S], .int .i64 t, .int .i64 time] W fun r w' => r = .bool true ∧ Ext W w' := by
  obtain ⟨hl, hk⟩ := hlk
  refine RetsX.of (nt := 215) Tryd.func10 (by kernel_rfl) rfl rfl (by simp) (by simp only [argEnv]; rfl) ?_
  have X := ExtB.refl (fun _ => False) W
  repeat' (first | refine RunE.seq ?_ | refine RunE.region ?_)
  refine RunL.box rfl rfl rfl fun B11 w11_ a_ => ?_
  have Z11 : Blk w11_ B11 ([.int .i64 E, .int .i64 S]) 66 := a_.at_
  have gB11 := a_.ge X
  replace X := X.trans a_.ext
  clear a_
  repeat' (first | with_reducible refine RunLN.boolF rfl ?_ | refine RunL.ev Tryd.tOk rfl rfl rfl ?_ | refine RunE.seq ?_ | refine RunE.region ?_ | refine RunL.nil ?_)
  refine RunL.call rfl rfl rfl (l48_sane_ok _ (hS0.up X) (hkT.up X)) ?_
  rintro _ _ ⟨rfl, Xa_⟩
  replace Z11 := Z11.up Xa_
  replace X := X.trans Xa_
  clear Xa_
  repeat' (first | with_reducible refine RunLN.boolF rfl ?_ | refine RunLN.int (by (first | exact wr_i64 (by omega) (by omega) | exact wm_i64 (by omega) | exact wq_i64 (by omega) (by omega) (by omega) | rfl)) ?_ | refine RunLN.any ?_ | refine RunL.ev Tryd.tOk rfl rfl rfl ?_ | refine RunE.condF rfl rfl ?_ | refine RunE.seq ?_ | refine RunE.region ?_ | refine RunL.nil ?_ | refine RunE.skip ?_)
  refine RunL.ex rfl rfl rfl (OpE.buildSl Tryd.tOk [.int .i64 t, .int .i64 time] rfl rfl rfl rfl rfl rfl (by simp [Value.cells])) ?_
  rintro _ w_ ⟨B_, rfl, a_⟩
  have hts : LI w_ (.slice (some ⟨B_, 0, none⟩) 2 2) [t, time] := isSl_added (n := 2) (sz := 1) a_ rfl
  replace Z11 := Z11.up a_.ext
  replace X := X.trans a_.ext
  clear a_
  skip
  refine RunL.call rfl rfl rfl (right48_ok l v _ p [t, time] _ (hv.up X) hl hts (by simp)) ?_
  rintro _ _ ⟨rfl, Xa_⟩
  replace Z11 := Z11.up Xa_
  replace X := X.trans Xa_
  clear Xa_
  clear hts
  cases hr : rightQ l p [t, time] with
  | false =>
    repeat' (first | with_reducible refine RunLN.boolT rfl ?_ | refine RunL.ev Tryd.tOk rfl rfl rfl ?_ | refine RunL.unwantedD rfl rfl ?_ | refine RunE.condT rfl rfl ?_ | refine RunE.seq ?_ | refine RunE.region ?_ | refine RunL.nil ?_)
    exact RunE.retFn Tryd.func10 (.tmp rfl .nil) ⟨rfl, X⟩
  | true =>
    obtain ⟨hts, hle, hc, hp⟩ := rightQ_inv hr
    have ht := hts t (by simp)
    have hti := hts time (by simp)
    clear hts hr
    by_cases hq : (0 ≤ q ∧ q < 64) ∧ b.length ≤ 200
    · obtain ⟨hq, hb⟩ := hq
      have he := curE_zero hc hp ht hti
      have he' := curE_zero hc hq ht hti
      have hs := (chkD_srt hc).1
      have c1 := fun w h => dCurrent_ok l v p t time w h hl
      have c2 := fun w h => dCurrent_ok l v q t time w h hl
      have c3 := fun w h hm hb h1 h2 => dAccepts_ok l v m b E S p t time w h hl (fun hc => (chkD_srt hc).1) hk hE hS hm hb h1 h2
      rw [he] at c1 c3
      rw [he'] at c2
      obtain ⟨no, key, ok, hA⟩ : ∃ n key one, ansD (curD l p t time) = (n, key, one) := ⟨_, _, _, rfl⟩
      obtain ⟨n, k2, is_, hB⟩ : ∃ n key one, ansD (curD l q t time) = (n, key, one) := ⟨_, _, _, rfl⟩
      obtain ⟨m', acc, hC⟩ : ∃ a b', accD (curD l p t time) b E S = (a, b') := ⟨_, _, rfl⟩
      have F1 := one_person hc he he' hA hB
      have F2 := acc_facts hA hC
      have hok := cur_ok he hA
      have kA := cur_key hc he hk hA
      rw [hA] at c1
      rw [hB] at c2
      rw [hC] at c3
      dsimp only at c1 c2 c3
      have c4 := fun w hv h1 h2 => verify_ok key E S m b w kA hE hS hv (by omega) h1 h2
      generalize verS key b E S = vr at c4 F2
      repeat' (first | with_reducible refine RunLN.boolF rfl ?_ | (with_reducible refine RunLN.decT ?_ ?_; focus omega) | (with_reducible refine RunLN.decF ?_ ?_; focus omega) | refine RunLN.int (by (first | exact wr_i64 (by omega) (by omega) | exact wm_i64 (by omega) | exact wq_i64 (by omega) (by omega) (by omega) | rfl)) ?_ | refine RunLN.any ?_ | refine RunL.ev Tryd.tOk rfl rfl rfl ?_ | refine RunL.evV rfl rfl rfl (OpV.lenSl Tryd.tOk rfl rfl hm) ?_ | refine RunL.callN rfl rfl rfl (r48Person_ok _ _) ?_ | refine RunE.condF rfl rfl ?_ | refine RunE.seq ?_ | refine RunE.region ?_ | refine RunL.nil ?_ | refine RunE.skip ?_)
      refine RunL.call rfl rfl rfl (c1 _ (hv.up X)) ?_
      rintro _ _ ⟨rfl, Xa_⟩
      replace Z11 := Z11.up Xa_
      replace X := X.trans Xa_
      clear Xa_
      repeat' (first | refine RunLN.int (by (first | exact wr_i64 (by omega) (by omega) | exact wm_i64 (by omega) | exact wq_i64 (by omega) (by omega) (by omega) | rfl)) ?_ | refine RunLN.any ?_ | refine RunL.ev Tryd.tOk rfl rfl rfl ?_ | refine RunE.seq ?_ | refine RunE.region ?_ | refine RunL.nil ?_)
      refine RunL.call rfl rfl rfl (c2 _ (hv.up X)) ?_
      rintro _ _ ⟨rfl, Xa_⟩
      replace Z11 := Z11.up Xa_
      replace X := X.trans Xa_
      clear Xa_
      repeat' (first | refine RunLN.int (by (first | exact wr_i64 (by omega) (by omega) | exact wm_i64 (by omega) | exact wq_i64 (by omega) (by omega) (by omega) | rfl)) ?_ | refine RunLN.any ?_ | refine RunL.ev Tryd.tOk rfl rfl rfl ?_ | refine RunL.evV rfl rfl rfl (OpV.loadN Tryd.tOk rfl rfl rfl rfl (Blk.row Z11)) ?_ | refine RunE.seq ?_ | refine RunE.region ?_ | refine RunL.nil ?_)
      refine RunL.call rfl rfl rfl (c3 _ (hv.up X) (hm.up X) (by omega) (hS0.up X) (hkT.up X)) ?_
      rintro _ _ ⟨rfl, Xa_⟩
      replace Z11 := Z11.up Xa_
      replace X := X.trans Xa_
      clear Xa_
      clear c1 c2 c3
      repeat' (first | refine RunLN.int (by (first | exact wr_i64 (by omega) (by omega) | exact wm_i64 (by omega) | exact wq_i64 (by omega) (by omega) (by omega) | rfl)) ?_ | refine RunLN.any ?_ | refine RunL.ev Tryd.tOk rfl rfl rfl ?_ | refine RunL.nil ?_)
      refine RunE.seq ?_
      refine RunE.cut (ι := Unit) (fun _ => [(0, v), (1, .int .i64 p), (3, m), (5, .int .i64 t), (6, .int .i64 time), (11, .pointer (some ⟨B11, 0, none⟩)), (15, .int .i64 no), (16, .int .i64 key), (17, .bool ok), (23, .int .i64 m'), (24, .bool acc), (107, .bool false)]) (fun _ w' => Ext W w' ∧ Blk w' B11 [.int .i64 E, .int .i64 S] 66) ?_ ?_
      · clear X Z11
        rintro ⟨⟩ w2 ⟨X, Z11⟩
        refine RunE.seq ?_
        skip
        refine RunE.seq ?_
        refine RunE.cut (ι := Unit) (fun _ => [(0, v), (1, .int .i64 p), (5, .int .i64 t), (6, .int .i64 time), (15, .int .i64 no), (16, .int .i64 key), (17, .bool ok), (124, .bool false)]) (fun _ w' => Ext W w') ?_ ?_
        · clear X Z11
          rintro ⟨⟩ w3 X
          repeat' (first | with_reducible refine RunLN.boolF rfl ?_ | refine RunLN.int (by (first | exact wr_i64 (by omega) (by omega) | exact wm_i64 (by omega) | exact wq_i64 (by omega) (by omega) (by omega) | rfl)) ?_ | refine RunLN.any ?_ | refine RunL.ev Tryd.tOk rfl rfl rfl ?_ | refine RunL.evV rfl rfl rfl (OpV.lenSl Tryd.tOk rfl rfl hv) ?_ | refine RunE.condF rfl rfl ?_ | refine RunE.seq ?_ | refine RunE.region ?_ | refine RunL.nil ?_ | refine RunE.block ?_ | refine RunE.skip ?_)
          refine RunE.loop (ι := Nat × Bool) (fun s => [(0, v), (1, .int .i64 p), (5, .int .i64 t), (6, .int .i64 time), (15, .int .i64 no), (16, .int .i64 key), (17, .bool ok), (26, .bool s.2), (125, v), (126, .int .i64 (l.length : Int)), (127, .int .i64 (s.1 : Int))])
            (fun s w' => s.1 ≤ l.length ∧ foundD l p t time (l.take s.1) s.2 ∧ Ext W w') (fun s => l.length - s.1) (0, false) (by repeat (first | exact Sub.nil _ | refine Sub.cons rfl ?_)) ⟨Nat.zero_le _, foundD_nil _ _ _ _, X⟩ ?_
          clear X
          rintro ⟨i, f⟩ w3 ⟨hi, hF, X⟩ again
          simp only at hi hF again ⊢
          by_cases hlt : i < l.length
          · obtain ⟨bk, of, cap, rfl, hrow, hcap⟩ := isL_held hv hlt
            obtain ⟨x, hx⟩ : ∃ x, l[i]? = some x := ⟨_, List.getElem?_eq_getElem hlt⟩
            have hrx := flat_row encD hrow hx
            have e1 : l.take (i + 1) = l.take i ++ [x] := by rw [List.take_add_one, hx]; rfl
            have next : ∀ (f' : Bool) w', foundD l p t time (l.take i ++ [x]) f' → Ext W w' → _ := fun f' w' a b => again (i + 1, f') w' (by simp only; omega) ⟨by simp only; omega, by rw [e1]; exact a, b⟩
            clear again e1
            repeat' (first | (with_reducible refine RunLN.decT ?_ ?_; focus omega) | refine RunLN.any ?_ | refine RunL.ev Tryd.tOk rfl rfl rfl ?_ | refine RunL.evV rfl rfl rfl (OpV.loadN Tryd.tOk rfl rfl rfl rfl (hrx.up X)) ?_ | refine RunL.evV rfl rfl rfl (OpV.indexS Tryd.tOk _ rfl rfl rfl rfl (by omega)) ?_ | refine RunE.condT rfl rfl ?_ | refine RunE.seq ?_ | refine RunE.region ?_ | refine RunL.nil ?_ | refine RunE.block ?_ | refine RunE.skip ?_)
            refine RunL.alloc Tryd.tOk rfl rfl rfl fun B28 w28_ a_ => ?_
            have Z28 : Blk w28_ B28 (zeroD.cells) 57 := a_.at_
            have gB28 := a_.ge X
            replace X := X.trans a_.ext
            clear a_
            skip
            refine RunL.store Tryd.tOk rfl rfl rfl rfl rfl Z28 rfl rfl fun w_ t_ => ?_
            replace X := X.own t_.ext gB28
            replace Z28 : Blk w_ B28 (x.cells) 57 := t_.at_
            clear t_
            have hcx : (x.person = p ∧ x.known ≤ time ∧ x.at_ ≤ t) ∨ ¬ (x.person = p ∧ x.known ≤ time ∧ x.at_ ≤ t) := Classical.em _
            rcases hcx with ⟨h1, h2, h3⟩ | hcx
            · repeat' (first | with_reducible refine RunLN.boolT rfl ?_ | with_reducible refine RunLN.boolF rfl ?_ | (with_reducible refine RunLN.decF ?_ ?_; focus omega) | (with_reducible refine RunLN.neF ?_ ?_; focus omega) | refine RunLN.int (by (first | exact wr_i64 (by omega) (by omega) | exact wm_i64 (by omega) | exact wq_i64 (by omega) (by omega) (by omega) | rfl)) ?_ | refine RunLN.any ?_ | refine RunL.ev Tryd.tOk rfl rfl rfl ?_ | refine RunL.evV rfl rfl rfl (OpV.load1 Tryd.tOk rfl rfl rfl (Blk.cell Z28 rfl)) ?_ | refine RunE.condF rfl rfl ?_ | refine RunE.seq ?_ | refine RunE.region ?_ | refine RunL.nil ?_ | refine RunE.block ?_ | refine RunE.skip ?_)
              refine RunE.loop (ι := Nat × Bool) (fun s => [(0, .slice (some ⟨bk, of, none⟩) l.length cap), (1, .int .i64 p), (5, .int .i64 t), (6, .int .i64 time), (15, .int .i64 no), (16, .int .i64 key), (17, .bool ok), (26, .bool f), (125, .slice (some ⟨bk, of, none⟩) l.length cap), (126, .int .i64 (l.length : Int)), (127, .int .i64 (i : Int)), (28, .pointer (some ⟨B28, 0, none⟩)), (29, .bool s.2), (147, .slice (some ⟨bk, of, none⟩) l.length cap), (148, .int .i64 (l.length : Int)), (149, .int .i64 (s.1 : Int))])
                (fun s w' => s.1 ≤ l.length ∧ s.2 = !((l.take s.1).any fun y => ownD p t time y && afterD x y) ∧ Ext W w' ∧ Blk w' B28 x.cells 57) (fun s => l.length - s.1) (0, true) (by repeat (first | exact Sub.nil _ | refine Sub.cons rfl ?_)) ⟨Nat.zero_le _, rfl, X, Z28⟩ ?_
              clear X Z28
              rintro ⟨j, fl⟩ w4 ⟨hj, hfl, X, Z28⟩ again
              simp only at hj hfl X Z28 again ⊢
              by_cases hjl : j < l.length
              · obtain ⟨y, hy⟩ : ∃ y, l[j]? = some y := ⟨_, List.getElem?_eq_getElem hjl⟩
                have hry := flat_row encD hrow hy
                have e1 : (!((l.take (j + 1)).any fun y => ownD p t time y && afterD x y)) = (fl && !(ownD p t time y && afterD x y)) := by
                  rw [List.take_add_one, hy, List.any_append, Bool.not_or, ← hfl]; simp
                have next2 : ∀ w', Ext W w' → Blk w' B28 x.cells 57 → _ := fun w' a b => again (j + 1, fl && !(ownD p t time y && afterD x y)) w' (by simp only; omega) ⟨by simp only; omega, e1.symm, a, b⟩
                clear again
                repeat' (first | (with_reducible refine RunLN.decT ?_ ?_; focus omega) | refine RunLN.any ?_ | refine RunL.ev Tryd.tOk rfl rfl rfl ?_ | refine RunL.evV rfl rfl rfl (OpV.loadN Tryd.tOk rfl rfl rfl rfl (hry.up X)) ?_ | refine RunL.evV rfl rfl rfl (OpV.indexS Tryd.tOk _ rfl rfl rfl rfl (by omega)) ?_ | refine RunE.condT rfl rfl ?_ | refine RunE.seq ?_ | refine RunE.region ?_ | refine RunL.nil ?_ | refine RunE.block ?_ | refine RunE.skip ?_)
                refine RunL.alloc Tryd.tOk rfl rfl rfl fun B31 w31_ a_ => ?_
                have Z31 : Blk w31_ B31 (zeroD.cells) 57 := a_.at_
                have gB31 := a_.ge X
                have n28_31 : B28 ≠ B31 := by have := Z28.lt; have := a_.eq; omega
                have n31_28 : B31 ≠ B28 := Ne.symm n28_31
                replace Z28 := Z28.up a_.ext
                replace X := X.trans a_.ext
                clear a_
                skip
                refine RunL.store Tryd.tOk rfl rfl rfl rfl rfl Z31 rfl rfl fun w_ t_ => ?_
                replace X := X.own t_.ext gB31
                replace Z28 := Z28.other t_.ext n28_31
                replace Z31 : Blk w_ B31 (y.cells) 57 := t_.at_
                clear t_
                have hcy : (y.person = p ∧ y.known ≤ time ∧ y.at_ ≤ t ∧ (x.at_ < y.at_ ∨ (x.at_ = y.at_ ∧ x.no < y.no))) ∨ ¬ (y.person = p ∧ y.known ≤ time ∧ y.at_ ≤ t ∧ (x.at_ < y.at_ ∨ (x.at_ = y.at_ ∧ x.no < y.no))) := Classical.em _
                cases fl with
                | false =>
                  simp only [Bool.false_and] at next2
                  repeat' (first | with_reducible refine RunLN.boolF rfl ?_ | refine RunLN.int (by (first | exact wr_i64 (by omega) (by omega) | exact wm_i64 (by omega) | exact wq_i64 (by omega) (by omega) (by omega) | rfl)) ?_ | refine RunL.ev Tryd.tOk rfl rfl rfl ?_ | refine RunL.unwantedD rfl rfl ?_ | refine RunE.region ?_ | refine RunL.nil ?_ | refine RunE.inBlock ?_)
                  exact RunE.weaken (by repeat (first | exact Sub.nil _ | refine Sub.cons rfl ?_)) (next2 _ X Z28)
                | true =>
                  rcases hcy with hcy | hcy
                  · have e2 : (ownD p t time y && afterD x y) = true := by
                      rw [Bool.and_eq_true]; exact ⟨decide_eq_true ⟨hcy.1, hcy.2.1, hcy.2.2.1⟩, decide_eq_true hcy.2.2.2⟩
                    rw [e2, Bool.not_true, Bool.and_false] at next2
                    obtain ⟨c1, c2, c3, c5⟩ := hcy
                    rcases c5 with c5 | ⟨c5, c6⟩
                    · repeat' (first | with_reducible refine RunLN.boolT rfl ?_ | with_reducible refine RunLN.boolF rfl ?_ | (with_reducible refine RunLN.decF ?_ ?_; focus omega) | (with_reducible refine RunLN.eqF ?_ ?_; focus omega) | (with_reducible refine RunLN.neF ?_ ?_; focus omega) | refine RunLN.int (by (first | exact wr_i64 (by omega) (by omega) | exact wm_i64 (by omega) | exact wq_i64 (by omega) (by omega) (by omega) | rfl)) ?_ | refine RunLN.any ?_ | refine RunL.ev Tryd.tOk rfl rfl rfl ?_ | refine RunL.unwantedD rfl rfl ?_ | refine RunL.evV rfl rfl rfl (OpV.load1 Tryd.tOk rfl rfl rfl (Blk.cell Z31 rfl)) ?_ | refine RunL.evV rfl rfl rfl (OpV.load1 Tryd.tOk rfl rfl rfl (Blk.cell Z28 rfl)) ?_ | refine RunE.region ?_ | refine RunL.nil ?_ | refine RunE.inBlock ?_)
                      exact RunE.weaken (by repeat (first | exact Sub.nil _ | refine Sub.cons rfl ?_)) (next2 _ X Z28)
                    · repeat' (first | with_reducible refine RunLN.boolT rfl ?_ | with_reducible refine RunLN.boolF rfl ?_ | (with_reducible refine RunLN.decF ?_ ?_; focus omega) | (with_reducible refine RunLN.eqT ?_ ?_; focus omega) | (with_reducible refine RunLN.neF ?_ ?_; focus omega) | refine RunLN.int (by (first | exact wr_i64 (by omega) (by omega) | exact wm_i64 (by omega) | exact wq_i64 (by omega) (by omega) (by omega) | rfl)) ?_ | refine RunLN.any ?_ | refine RunL.ev Tryd.tOk rfl rfl rfl ?_ | refine RunL.evV rfl rfl rfl (OpV.load1 Tryd.tOk rfl rfl rfl (Blk.cell Z31 rfl)) ?_ | refine RunL.evV rfl rfl rfl (OpV.load1 Tryd.tOk rfl rfl rfl (Blk.cell Z28 rfl)) ?_ | refine RunE.region ?_ | refine RunL.nil ?_ | refine RunE.inBlock ?_)
                      exact RunE.weaken (by repeat (first | exact Sub.nil _ | refine Sub.cons rfl ?_)) (next2 _ X Z28)
                  · have e2 : (ownD p t time y && afterD x y) = false := by
                      rw [Bool.and_eq_false_iff]
                      by_cases hm : ownD p t time y = true
                      · have hm := of_decide_eq_true hm
                        exact .inr (decide_eq_false fun h => hcy ⟨hm.1, hm.2.1, hm.2.2, h⟩)
                      · exact .inl (by simpa using hm)
                    rw [e2, Bool.not_false, Bool.and_true] at next2
                    repeat' (first | with_reducible refine RunLN.boolT rfl ?_ | with_reducible refine RunLN.boolF rfl ?_ | (with_reducible refine RunLN.decT ?_ ?_; focus omega) | (with_reducible refine RunLN.eqT ?_ ?_; focus omega) | refine RunLN.int (by (first | exact wr_i64 (by omega) (by omega) | exact wm_i64 (by omega) | exact wq_i64 (by omega) (by omega) (by omega) | rfl)) ?_ | (refine RunLN.boolC (fun h_ => ?_) (fun h_ => ?_) <;> (try simp only [decide_eq_true_eq, decide_eq_false_iff_not, beq_iff_eq, bne_iff_ne, ne_eq, Bool.not_eq_true, Bool.not_eq_false, beq_eq_false_iff_ne, bne_eq_false_iff_eq, Bool.not_eq_eq_eq_not, Bool.not_true, Bool.not_false, Bool.not_not, Int.not_lt, Int.not_le, gt_iff_lt, ge_iff_le, Decidable.not_not] at h_)) | refine RunLN.any ?_ | refine RunL.ev Tryd.tOk rfl rfl rfl ?_ | refine RunL.unwantedD rfl rfl ?_ | refine RunL.evV rfl rfl rfl (OpV.load1 Tryd.tOk rfl rfl rfl (Blk.cell Z31 rfl)) ?_ | refine RunL.evV rfl rfl rfl (OpV.load1 Tryd.tOk rfl rfl rfl (Blk.cell Z28 rfl)) ?_ | refine RunE.region ?_ | refine RunL.nil ?_ | refine RunE.inBlock ?_)
                    all_goals first
                      | (exfalso; omega)
                      | exact RunE.weaken (by repeat (first | exact Sub.nil _ | refine Sub.cons rfl ?_)) (next2 _ X Z28)
              · obtain rfl : j = l.length := by omega
                rw [List.take_length] at hfl
                replace hfl : fl = isLastD l p t time x := hfl
                clear again
                have hxm := List.mem_of_getElem? hx
                cases fl with
                | false =>
                  have hnb : bestD l p t time ≠ some x := fun h => by
                    have := ((best_iffD hs hxm).2 h).2
                    rw [← hfl] at this; simp at this
                  repeat' (first | with_reducible refine RunLN.boolF rfl ?_ | (with_reducible refine RunLN.decF ?_ ?_; focus omega) | refine RunLN.int (by (first | exact wr_i64 (by omega) (by omega) | exact wm_i64 (by omega) | exact wq_i64 (by omega) (by omega) (by omega) | rfl)) ?_ | refine RunL.ev Tryd.tOk rfl rfl rfl ?_ | refine RunE.condF rfl rfl ?_ | refine RunE.seq ?_ | refine RunE.region ?_ | refine RunL.nil ?_ | refine RunE.inBlock ?_ | refine RunE.skip ?_ | refine RunE.exit rfl ?_)
                  exact RunE.weaken (by repeat (first | exact Sub.nil _ | refine Sub.cons rfl ?_)) (next f _ (foundD_other hF hnb) X)
                | true =>
                  have hb := (best_iffD hs hxm).1 ⟨decide_eq_true ⟨h1, h2, h3⟩, hfl.symm⟩
                  have hl' := foundD_last (pre := l.take i) hb
                  cases hgo : x.gone with
                  | true =>
                    rw [hgo] at hl'
                    repeat' (first | with_reducible refine RunLN.boolT rfl ?_ | with_reducible refine RunLN.boolF rfl ?_ | refine RunLN.boolT (by assumption) ?_ | (with_reducible refine RunLN.decF ?_ ?_; focus omega) | refine RunLN.int (by (first | exact wr_i64 (by omega) (by omega) | exact wm_i64 (by omega) | exact wq_i64 (by omega) (by omega) (by omega) | rfl)) ?_ | refine RunLN.any ?_ | refine RunL.ev Tryd.tOk rfl rfl rfl ?_ | refine RunL.unwantedD rfl rfl ?_ | refine RunL.evV rfl rfl rfl (OpV.load1 Tryd.tOk rfl rfl rfl (Blk.cell Z28 rfl)) ?_ | refine RunE.condT rfl rfl ?_ | refine RunE.condF rfl rfl ?_ | refine RunE.seq ?_ | refine RunE.region ?_ | refine RunL.nil ?_ | refine RunE.inBlock ?_ | refine RunE.skip ?_ | refine RunE.exit rfl ?_)
                    exact RunE.weaken (by repeat (first | exact Sub.nil _ | refine Sub.cons rfl ?_)) (next false _ hl' X)
                  | false =>
                    rw [hgo] at hl'
                    obtain ⟨g1, g2, g3⟩ := cur_is he hA hb hgo
                    repeat' (first | with_reducible refine RunLN.boolT rfl ?_ | with_reducible refine RunLN.boolF rfl ?_ | refine RunLN.boolF (by assumption) ?_ | (with_reducible refine RunLN.decF ?_ ?_; focus omega) | (with_reducible refine RunLN.neF ?_ ?_; focus omega) | refine RunLN.int (by (first | exact wr_i64 (by omega) (by omega) | exact wm_i64 (by omega) | exact wq_i64 (by omega) (by omega) (by omega) | rfl)) ?_ | refine RunLN.any ?_ | refine RunL.ev Tryd.tOk rfl rfl rfl ?_ | refine RunL.evV rfl rfl rfl (OpV.load1 Tryd.tOk rfl rfl rfl (Blk.cell Z28 rfl)) ?_ | refine RunE.condT rfl rfl ?_ | refine RunE.condF rfl rfl ?_ | refine RunE.seq ?_ | refine RunE.region ?_ | refine RunL.nil ?_ | refine RunE.inBlock ?_ | refine RunE.skip ?_ | refine RunE.exit rfl ?_)
                    exact RunE.weaken (by repeat (first | exact Sub.nil _ | refine Sub.cons rfl ?_)) (next true _ hl' X)
            · have hnb : bestD l p t time ≠ some x := fun h => by
                have := of_decide_eq_true ((best_iffD hs (List.mem_of_getElem? hx)).2 h).1
                exact hcx this
              repeat' (first | with_reducible refine RunLN.boolT rfl ?_ | with_reducible refine RunLN.boolF rfl ?_ | (with_reducible refine RunLN.decT ?_ ?_; focus omega) | refine RunLN.int (by (first | exact wr_i64 (by omega) (by omega) | exact wm_i64 (by omega) | exact wq_i64 (by omega) (by omega) (by omega) | rfl)) ?_ | (refine RunLN.boolC (fun h_ => ?_) (fun h_ => ?_) <;> (try simp only [decide_eq_true_eq, decide_eq_false_iff_not, beq_iff_eq, bne_iff_ne, ne_eq, Bool.not_eq_true, Bool.not_eq_false, beq_eq_false_iff_ne, bne_eq_false_iff_eq, Bool.not_eq_eq_eq_not, Bool.not_true, Bool.not_false, Bool.not_not, Int.not_lt, Int.not_le, gt_iff_lt, ge_iff_le, Decidable.not_not] at h_)) | refine RunLN.any ?_ | refine RunL.ev Tryd.tOk rfl rfl rfl ?_ | refine RunL.unwantedD rfl rfl ?_ | refine RunL.evV rfl rfl rfl (OpV.load1 Tryd.tOk rfl rfl rfl (Blk.cell Z28 rfl)) ?_ | refine RunE.condT rfl rfl ?_ | refine RunE.seq ?_ | refine RunE.region ?_ | refine RunL.nil ?_ | refine RunE.exit rfl ?_)
              all_goals first
                | (exfalso; omega)
                | exact RunE.weaken (by repeat (first | exact Sub.nil _ | refine Sub.cons rfl ?_)) (next f _ (foundD_other hF hnb) X)
          · obtain rfl : i = l.length := by omega
            rw [List.take_length] at hF
            have hfo : f = ok := by rw [hok]; exact foundD_end hs hF
            subst hfo
            cases f
            all_goals
              repeat' (first | with_reducible refine RunLN.boolT rfl ?_ | with_reducible refine RunLN.boolF rfl ?_ | (with_reducible refine RunLN.decF ?_ ?_; focus omega) | refine RunL.ev Tryd.tOk rfl rfl rfl ?_ | refine RunE.condF rfl rfl ?_ | refine RunE.seq ?_ | refine RunE.region ?_ | refine RunL.nil ?_ | refine RunE.exit rfl ?_)
              exact RunE.retFn Tryd.func10 (.tmp rfl .nil) ⟨rfl, X⟩
        · intro next
          cases ok with
          | false =>
            have g := F2.1 rfl
            subst g
            repeat' (first | with_reducible refine RunLN.boolF rfl ?_ | refine RunL.ev Tryd.tOk rfl rfl rfl ?_ | refine RunL.unwantedD rfl rfl ?_ | refine RunE.region ?_ | refine RunL.nil ?_)
            exact RunE.weaken (by repeat (first | exact Sub.nil _ | refine Sub.cons rfl ?_)) (next () _ X)
          | true =>
            have g := F2.2.1 rfl
            subst g
            repeat' (first | with_reducible refine RunLN.boolT rfl ?_ | refine RunLN.int (by (first | exact wr_i64 (by omega) (by omega) | exact wm_i64 (by omega) | exact wq_i64 (by omega) (by omega) (by omega) | rfl)) ?_ | refine RunLN.any ?_ | refine RunL.ev Tryd.tOk rfl rfl rfl ?_ | refine RunL.evV rfl rfl rfl (OpV.loadN Tryd.tOk rfl rfl rfl rfl (Blk.row Z11)) ?_ | refine RunE.region ?_)
            refine RunL.call rfl rfl rfl (c4 _ (hm.up X) (hS0.up X) (hkT.up X)) ?_
            rintro _ _ ⟨rfl, Xa_⟩
            replace X := X.trans Xa_
            clear Xa_
            cases acc with
            | false =>
              repeat' (first | with_reducible refine RunLN.boolF rfl ?_ | refine RunL.ev Tryd.tOk rfl rfl rfl ?_ | refine RunL.unwantedD rfl rfl ?_ | refine RunL.nil ?_)
              exact RunE.weaken (by repeat (first | exact Sub.nil _ | refine Sub.cons rfl ?_)) (next () _ X)
            | true =>
              have g := F2.2.2 rfl
              subst g
              repeat' (first | with_reducible refine RunLN.boolT rfl ?_ | with_reducible refine RunLN.boolF rfl ?_ | (with_reducible refine RunLN.neF ?_ ?_; focus omega) | refine RunLN.int (by (first | exact wr_i64 (by omega) (by omega) | exact wm_i64 (by omega) | exact wq_i64 (by omega) (by omega) (by omega) | rfl)) ?_ | refine RunL.ev Tryd.tOk rfl rfl rfl ?_ | refine RunL.nil ?_)
              exact RunE.weaken (by repeat (first | exact Sub.nil _ | refine Sub.cons rfl ?_)) (next () _ X)
      · intro next
        have hcs : p = q ∨ (p ≠ q ∧ ok = false) ∨ (p ≠ q ∧ ok = true ∧ is_ = false) ∨ (p ≠ q ∧ ok = true ∧ is_ = true ∧ no ≠ n) := by
          by_cases h : p = q
          · exact .inl h
          · cases ok with
            | false => exact .inr (.inl ⟨h, rfl⟩)
            | true =>
              cases is_ with
              | false => exact .inr (.inr (.inl ⟨h, rfl, rfl⟩))
              | true => exact .inr (.inr (.inr ⟨h, rfl, rfl, fun e => F1 ⟨h, rfl, rfl, e⟩⟩))
        rcases hcs with h | ⟨h, h'⟩ | ⟨h, h', h''⟩ | ⟨h, h', h'', h3⟩
        all_goals
          refine RunE.seq ?_
          repeat' (first | with_reducible refine RunLN.boolT rfl ?_ | with_reducible refine RunLN.boolF rfl ?_ | refine RunLN.boolT (by assumption) ?_ | refine RunLN.boolF (by assumption) ?_ | (with_reducible refine RunLN.eqF ?_ ?_; focus omega) | (with_reducible refine RunLN.neT ?_ ?_; focus omega) | (with_reducible refine RunLN.neF ?_ ?_; focus omega) | refine RunLN.int (by (first | exact wr_i64 (by omega) (by omega) | exact wm_i64 (by omega) | exact wq_i64 (by omega) (by omega) (by omega) | rfl)) ?_ | refine RunL.ev Tryd.tOk rfl rfl rfl ?_ | refine RunL.unwantedD rfl rfl ?_ | refine RunE.condF rfl rfl ?_ | refine RunE.region ?_ | refine RunL.nil ?_ | refine RunE.skip ?_)
          exact RunE.weaken (by repeat (first | exact Sub.nil _ | refine Sub.cons rfl ?_)) (next () _ ⟨X, Z11⟩)
    · have hq' : ¬ (0 ≤ q ∧ q < 64) ∨ ((0 ≤ q ∧ q < 64) ∧ 200 < b.length) := by omega
      rcases hq' with hq' | ⟨hq, hb⟩
      · repeat' (first | with_reducible refine RunLN.boolT rfl ?_ | with_reducible refine RunLN.boolF rfl ?_ | (with_reducible refine RunLN.decF ?_ ?_; focus omega) | refine RunLN.int (by (first | exact wr_i64 (by omega) (by omega) | exact wm_i64 (by omega) | exact wq_i64 (by omega) (by omega) (by omega) | rfl)) ?_ | refine RunL.ev Tryd.tOk rfl rfl rfl ?_ | refine RunL.unwantedD rfl rfl ?_ | refine RunL.callN rfl rfl rfl (r48Person_ok _ _) ?_ | refine RunE.condT rfl rfl ?_ | refine RunE.seq ?_ | refine RunE.region ?_ | refine RunL.nil ?_)
        exact RunE.retFn Tryd.func10 (.tmp rfl .nil) ⟨rfl, X⟩
      · repeat' (first | with_reducible refine RunLN.boolT rfl ?_ | with_reducible refine RunLN.boolF rfl ?_ | (with_reducible refine RunLN.decT ?_ ?_; focus omega) | refine RunLN.int (by (first | exact wr_i64 (by omega) (by omega) | exact wm_i64 (by omega) | exact wq_i64 (by omega) (by omega) (by omega) | rfl)) ?_ | refine RunLN.any ?_ | refine RunL.ev Tryd.tOk rfl rfl rfl ?_ | refine RunL.evV rfl rfl rfl (OpV.lenSl Tryd.tOk rfl rfl hm) ?_ | refine RunL.callN rfl rfl rfl (r48Person_ok _ _) ?_ | refine RunE.condT rfl rfl ?_ | refine RunE.seq ?_ | refine RunE.region ?_ | refine RunL.nil ?_)
        exact RunE.retFn Tryd.func10 (.tmp rfl .nil) ⟨rfl, X⟩
end Go.Sg
namespace Go.Proofs.YtamcgoplhnbmcaaDoor
open Go.ChangeShapes Go.WideShapes Go.ChangeAt Go.RowKit Go.Sg
namespace devicesOne
theorem own : ownKnob Tryd.prog.godebug = none := by kernel_rfl
theorem laidOut : laidOutB Tryd.prog = true := by kernel_rfl
theorem door_met (os : Os) (args : Array Value) : laidMetH Tryd.prog Rows.devicesOneRow.laid ((World.doorLaid Tryd.prog 19 os).forCall (fun _ _ => 0) ⟨#[], args, []⟩).memory :=
  laidMetH_of_parts3 (fuel := 8) (laidMet_of_run' 8 (by kernel_rfl) (by kernel_rfl)) (by kernel_rfl) (by kernel_rfl)
set_option maxRecDepth 100000 in
theorem lifted (os : Os) (started : os.Started) (H : Type) (enc : TypeId × Value → H) :
    ReturnsInHanded {} Tryd.checked os 10 .any (fun w args => (Rows.devicesOneSpec.pre enc Tryd.prog Tryd.f10 [] false w args ∧ laidMetH Tryd.prog Rows.devicesOneRow.laid w) ∧ sizedMet enc Tryd.prog Tryd.f10 (OpenSpec.ofChange Rows.devicesOneSpec) false w args)
      (Rows.devicesOneSpec.post enc Tryd.prog Tryd.f10 false true false false) := by
  refine returnsInHanded_of_change_and (C := Tryd.checked) (X := fun w _ => laidMetH Tryd.prog Rows.devicesOneRow.laid w) (fun _ _ _ hh h => h.of_heap hh) own started (by kernel_rfl) Tryd.func10
    (ChangeSpec.witness_shaped (enc := enc) (C := Tryd.checked) (os := os) (X := fun w _ => laidMetH Tryd.prog Rows.devicesOneRow.laid w) false (World.doorLaid Tryd.prog 19 os) #[.slice none 0 0, .int .i64 0, .int .i64 0, .slice none 0 0, .agg #[.int .i64 0, .int .i64 0], .int .i64 0, .int .i64 0] 8 rfl (World.shaped_of_RefB (by kernel_rfl) (by kernel_rfl)) (by kernel_rfl) (by kernel_rfl) (by kernel_rfl) (door_met os _)) ?_
  intro W base args ds gs before hval0 hW _ _ hL _
  have hval : ∀ (j : Nat) t v, Tryd.f10.params[j]? = some t → args[j]? = some v → Value.okWide Tryd.prog W .any base t v := hval0
  have hW' := hW
  obtain ⟨p, q, hA0, hV, rfl, hfz, hnd⟩ := hW
  have hA : DataW.TrodAll enc Tryd.prog W 0 (fun _ => true) true Tryd.f10.params.toList args.toList ds p := hA0
  rw [Tryd.params10] at hA hval
  obtain ⟨v0, vs0, d0, ds0, p0, q0, hargs, rfl, rfl, h0, r0⟩ := trodAll_cons hA
  obtain ⟨v1, vs1, d1, ds1, p1, q1, rfl, rfl, rfl, h1, r1⟩ := trodAll_cons r0
  obtain ⟨v2, vs2, d2, ds2, p2, q2, rfl, rfl, rfl, h2, r2⟩ := trodAll_cons r1
  obtain ⟨v3, vs3, d3, ds3, p3, q3, rfl, rfl, rfl, h3, r3⟩ := trodAll_cons r2
  obtain ⟨v4, vs4, d4, ds4, p4, q4, rfl, rfl, rfl, h4, r4⟩ := trodAll_cons r3
  obtain ⟨v5, vs5, d5, ds5, p5, q5, rfl, rfl, rfl, h5, r5⟩ := trodAll_cons r4
  obtain ⟨v6, vs6, d6, ds6, p6, q6, rfl, rfl, rfl, h6, r6⟩ := trodAll_cons r5
  obtain ⟨rfl, rfl, rfl⟩ := trodAll_nil r6
  obtain rfl : args = #[v0, v1, v2, v3, v4, v5, v6] := by cases args; simp_all
  obtain ⟨l0, m0, s0⟩ := devs_open (hval 0 55 v0 rfl rfl) h0
  obtain ⟨a1, rfl, rfl, rfl, w1⟩ := open_int Tryd.underlying3 (hval 1 3 v1 rfl rfl) h1
  obtain ⟨a2, rfl, rfl, rfl, w2⟩ := open_int Tryd.underlying3 (hval 2 3 v2 rfl rfl) h2
  obtain ⟨l3, m3, s3⟩ := open_bytes Tryd.underlying64 Tryd.underlying5 (by kernel_rfl) (hval 3 64 v3 rfl rfl) h3
  obtain ⟨E4, S4, rfl, wE4, wS4⟩ := open_two sigTwo (by kernel_rfl) (by kernel_rfl) (hval 4 66 v4 rfl rfl) h4
  obtain ⟨a5, rfl, rfl, rfl, w5⟩ := open_int Tryd.underlying3 (hval 5 3 v5 rfl rfl) h5
  obtain ⟨a6, rfl, rfl, rfl, w6⟩ := open_int Tryd.underlying3 (hval 6 3 v6 rfl rfl) h6
  have L0 := start_of_laid (by kernel_rfl) rfl (.head _) hL
  have L1 := numbers_of_laid (by kernel_rfl) rfl (.tail _ (.head _)) hL
  refine (Rets.calls (devicesOne_walk v0 l0 a1 a2 v3 l3 E4 S4 a5 a6 (i64_of_wf w1) (i64_of_wf w2) (i64_of_wf wE4) (i64_of_wf wS4) (i64_of_wf w5) (i64_of_wf w6) W m0 s0 s3 L0 L1)).mono fun e W' he => ?_
  obtain ⟨_, rfl, rfl, hx⟩ := he
  exact ⟨_, rfl, law_post (t := 4) laidOut (by kernel_rfl) (by kernel_rfl) (by kernel_rfl) rfl (fun ds h => by
    rcases ds with _ | ⟨_, _ | ⟨_, _ | ⟨_, _ | ⟨_, _ | ⟨_, _ | ⟨_, _ | ⟨_, _ | ⟨_, _⟩⟩⟩⟩⟩⟩⟩⟩ <;> first | rfl | (exact absurd h (by decide)) | (simp at h)) hW' hx⟩

theorem holds : Rows.DevicesOneSaid :=
  OpenClaim.holds_of_wide 10 Tryd.f10 rfl rfl rfl rfl rfl rfl rfl ⟨rfl, rfl, rfl, rfl, rfl⟩ rfl rfl rfl rfl rfl (by kernel_rfl) Tryd.func10 (by kernel_rfl)
    (of_decide_eq_true (by kernel_rfl)) (by unfold Func.isWrapper; first | (rw [if_pos (by decide +kernel)]; kernel_rfl) | (rw [if_neg (by decide +kernel)]; exact ⟨rfl, rfl⟩))
    (fun os started H enc _ => lifted os started H enc)
theorem proved : Rows.DevicesOneCardSaid :=
  Claim7.holds_tied_plain_at .later [] [.data, .data] true (true, "ae6f700ea2bd30feb0747e63825e7d966e37b71281da2088991cb0a2928709ec") true
    holds (fun _ h => by cases h) (by kernel_rfl) (fun _ h => by cases h) devicesOne_row_tie rfl ⟨rfl, rfl⟩ (by kernel_rfl) rfl
    (fun f fn hf hfn => by
      obtain rfl : f = 10 := Option.some.inj ((show Tryd.prog.funcNamed Tryd.f10.name = some 10 by kernel_rfl).symm.trans hf) |>.symm
      obtain rfl : fn = Tryd.f10 := (Option.some.inj (Tryd.func10.symm.trans hfn)).symm
      exact ⟨by kernel_rfl, fun j t ht => by
        have hall : Tryd.f10.params.toList.all (fun t => !Tryd.prog.wantsStandIn t) = true := by kernel_rfl
        have hm : t ∈ Tryd.f10.params.toList := by
          obtain ⟨hj, rfl⟩ := Array.getElem?_eq_some_iff.1 ht
          simp
        have := List.all_eq_true.1 hall t hm
        exact (by simpa using this : Tryd.prog.wantsStandIn t = false)⟩)
    (by kernel_rfl)
#print axioms proved
end devicesOne
end Go.Proofs.YtamcgoplhnbmcaaDoor
