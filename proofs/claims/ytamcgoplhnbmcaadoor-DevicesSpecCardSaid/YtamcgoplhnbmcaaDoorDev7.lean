/- Devices: the reference's Add. -/
import Derived.Test.YtamcgoplhnbmcaaDoorY04
import Derived.Test.YtamcgoplhnbmcaaDoorY05
set_option linter.unusedSimpArgs false
set_option linter.unusedVariables false
set_option linter.unusedSectionVars false
namespace Go.Sg
open Go.Rn Go.Proofs Go.Dev Go.Rec Go.Best
attribute [local irreducible] Go.Rn.RetsX Go.Rn.RunLN Go.Rn.AsyN Go.Rn.RunL Go.Rn.RunE Go.Rn.Asy Go.Rn.OpV Go.Rn.OpE Go.Rn.ExecE
set_option maxHeartbeats 4000000 in
theorem radd48_ok (l : List Dev) (x : Dev) (v : Value) (w : World) (hv : LD w v l) (hl : l.length < 9223372036854775808) :
    Rets Tryd.prog 33 [v, .agg x.cells.toArray] w fun r w' => (∃ u, r = .tuple #[u, .int .i64 (addED l x)] ∧ LD w' u (addLD l x)) ∧ Ext w w' := by
  refine RetsX.of (nt := 67) Tryd.func33 (by kernel_rfl) rfl rfl (by simp) (by simp only [argEnv]; rfl) ?_
  have X := ExtB.refl (fun _ => False) w
  repeat' (first | refine RunE.seq ?_ | refine RunE.region ?_)
  refine RunL.box rfl rfl rfl fun B3 w3_ a_ => ?_
  have Z3 : Blk w3_ B3 (x.cells) 57 := a_.at_
  have gB3 := a_.ge X
  replace X := X.trans a_.ext
  clear a_
  repeat' (first | refine RunLN.int (by (first | exact wr_i64 (by omega) (by omega) | exact wm_i64 (by omega) | exact wq_i64 (by omega) (by omega) (by omega) | rfl)) ?_ | refine RunLN.any ?_ | refine RunL.ev Tryd.tOk rfl rfl rfl ?_ | refine RunE.seq ?_ | refine RunE.region ?_ | refine RunL.nil ?_)
  refine RunL.call rfl rfl rfl (rcheck48_ok l v _ (hv.up X) hl) ?_
  rintro _ _ ⟨rfl, Xa_⟩
  replace Z3 := Z3.up Xa_
  replace X := X.trans Xa_
  clear Xa_
  by_cases hc : chkD l = 0
  · obtain ⟨hle, hsrt, -, -⟩ := chkD_ok.1 hc
    have hE : addED l x = (if rightD x then (if (l.any fun y => decide (y.no = x.no)) || usedD l x.key then 151 else if l.length = 1024 then 2 else 0) else 480) := if_pos hc
    rw [hc]
    repeat' (first | with_reducible refine RunLN.boolF rfl ?_ | refine RunLN.int (by (first | exact wr_i64 (by omega) (by omega) | exact wm_i64 (by omega) | exact wq_i64 (by omega) (by omega) (by omega) | rfl)) ?_ | refine RunLN.any ?_ | refine RunL.ev Tryd.tOk rfl rfl rfl ?_ | refine RunL.evV rfl rfl rfl (OpV.loadN Tryd.tOk rfl rfl rfl rfl (Blk.row Z3)) ?_ | refine RunE.condF rfl rfl ?_ | refine RunE.seq ?_ | refine RunE.region ?_ | refine RunL.nil ?_ | refine RunE.skip ?_)
    refine RunL.call rfl rfl rfl (rright48_ok x _) ?_
    rintro _ _ ⟨rfl, Xa_⟩
    replace Z3 := Z3.up Xa_
    replace X := X.trans Xa_
    clear Xa_
    cases hr : rightD x with
    | false =>
      have he : addED l x = 480 := by rw [hE, hr]; rfl
      repeat' (first | with_reducible refine RunLN.boolT rfl ?_ | refine RunLN.int (by (first | exact wr_i64 (by omega) (by omega) | exact wm_i64 (by omega) | exact wq_i64 (by omega) (by omega) (by omega) | rfl)) ?_ | refine RunLN.any ?_ | refine RunL.ev Tryd.tOk rfl rfl rfl ?_ | refine RunE.condT rfl rfl ?_ | refine RunE.seq ?_ | refine RunE.region ?_ | refine RunL.nil ?_)
      refine RunE.retFn Tryd.func33 (.tmp rfl (.tmp rfl .nil)) ⟨⟨.slice none 0 0, ?_, ?_⟩, X⟩
      · rw [he]; rfl
      · unfold addLD; rw [he, if_neg (by first | decide | exact hc)]; exact IsSl.nil
    | true =>
      rw [hr, if_pos rfl] at hE
      obtain ⟨hpl, hlow, hhigh, hany⟩ := split_at (no := Dev.no) (m := x.no) hsrt
      generalize hpp : (l.takeWhile fun y => decide (y.no < x.no)).length = p at hpl hlow hhigh hany
      repeat' (first | with_reducible refine RunLN.boolF rfl ?_ | refine RunLN.int (by (first | exact wr_i64 (by omega) (by omega) | exact wm_i64 (by omega) | exact wq_i64 (by omega) (by omega) (by omega) | rfl)) ?_ | refine RunL.ev Tryd.tOk rfl rfl rfl ?_ | refine RunE.condF rfl rfl ?_ | refine RunE.seq ?_ | refine RunE.region ?_ | refine RunL.nil ?_ | refine RunE.skip ?_)
      refine RunE.cut (ι := Unit) (fun _ => [(0, v), (3, .pointer (some ⟨B3, 0, none⟩)), (7, .int .i64 (p : Int))]) (fun _ w' => Ext w w' ∧ Blk w' B3 x.cells 57) ?_ ?_
      · clear X Z3
        rintro _ w4 ⟨X, Z3⟩
        repeat' (first | refine RunE.seq ?_)
        refine RunE.cut (ι := Unit) (fun _ => [(0, v), (3, .pointer (some ⟨B3, 0, none⟩)), (7, .int .i64 (p : Int)), (51, .bool ((l.any fun y => decide (y.no = x.no)) || usedD l x.key))]) (fun _ w' => Ext w w' ∧ Blk w' B3 x.cells 57) ?_ ?_
        · clear X Z3
          rintro _ wq ⟨X, Z3⟩
          cases hb : ((l.any fun y => decide (y.no = x.no)) || usedD l x.key) with
          | true =>
            have he : addED l x = 151 := by rw [hE, hb]; rfl
            repeat' (first | refine RunLN.int (by (first | exact wr_i64 (by omega) (by omega) | exact wm_i64 (by omega) | exact wq_i64 (by omega) (by omega) (by omega) | rfl)) ?_ | refine RunLN.any ?_ | refine RunL.ev Tryd.tOk rfl rfl rfl ?_ | refine RunE.condT rfl rfl ?_ | refine RunE.seq ?_ | refine RunE.region ?_ | refine RunL.nil ?_)
            refine RunE.retFn Tryd.func33 (.tmp rfl (.tmp rfl .nil)) ⟨⟨.slice none 0 0, ?_, ?_⟩, X⟩
            · rw [he]; rfl
            · unfold addLD; rw [he, if_neg (by first | decide | exact hc)]; exact IsSl.nil
          | false =>
            rw [hb, if_neg (by decide)] at hE
            by_cases h4 : l.length = 1024
            · have he : addED l x = 2 := by rw [hE, if_pos h4]
              repeat' (first | (with_reducible refine RunLN.eqT ?_ ?_; focus omega) | refine RunLN.int (by (first | exact wr_i64 (by omega) (by omega) | exact wm_i64 (by omega) | exact wq_i64 (by omega) (by omega) (by omega) | rfl)) ?_ | refine RunLN.any ?_ | refine RunL.ev Tryd.tOk rfl rfl rfl ?_ | refine RunL.evV rfl rfl rfl (OpV.lenSl Tryd.tOk rfl rfl hv) ?_ | refine RunE.condT rfl rfl ?_ | refine RunE.condF rfl rfl ?_ | refine RunE.seq ?_ | refine RunE.region ?_ | refine RunL.nil ?_ | refine RunE.skip ?_)
              refine RunE.retFn Tryd.func33 (.tmp rfl (.tmp rfl .nil)) ⟨⟨.slice none 0 0, ?_, ?_⟩, X⟩
              · rw [he]; rfl
              · unfold addLD; rw [he, if_neg (by first | decide | exact hc)]; exact IsSl.nil
            have he : addED l x = 0 := by rw [hE, if_neg h4]
            repeat' (first | (with_reducible refine RunLN.eqF ?_ ?_; focus omega) | refine RunLN.int (by (first | exact wr_i64 (by omega) (by omega) | exact wm_i64 (by omega) | exact wq_i64 (by omega) (by omega) (by omega) | rfl)) ?_ | refine RunLN.any ?_ | refine RunL.ev Tryd.tOk rfl rfl rfl ?_ | refine RunL.evV rfl rfl rfl (OpV.lenSl Tryd.tOk rfl rfl hv) ?_ | refine RunE.condF rfl rfl ?_ | refine RunE.seq ?_ | refine RunE.region ?_ | refine RunL.nil ?_ | refine RunE.skip ?_)
            clear hlow hhigh hany h4 hE hr hc
            generalize p = i at *
            have hi := hpl
            obtain ⟨u1, hq1, hp1'⟩ : ∃ u1, (∀ (w' : World) (dst : Option Tmp) (ty : TypeId) (pos : String) (after : Array Edge) (guard : Option (Nat × Bool)) (env : Env), evO env (.tmp 56) = some v → evO env (.tmp 57) = some (.int .i64 (i : Int)) →
                OpV Tryd.prog env w' ⟨dst, .slice 55 (.tmp 56) none (some (.tmp 57)) none, ty, pos, after, guard⟩ u1) ∧ ∀ w', Ext w w' → IsSl w' 6 u1 i (flat Dev.cells (l.take i)) := by
              rcases isL_inv hv with ⟨d, rfl, rfl⟩ | ⟨b, o, cap, rfl, hrow, hcap⟩
              · obtain rfl : i = 0 := by simpa using hi
                exact ⟨_, fun _ _ _ _ _ _ _ h1 h2 => OpV.sliceNil Tryd.tOk rfl h1 .none (.some h2 rfl), fun _ _ => IsSl.nil⟩
              · exact ⟨_, fun _ _ _ _ _ _ _ h1 h2 => OpV.slice0 Tryd.tOk (hi := i) rfl h1 .none (.some h2 rfl) (by omega), fun w' e => .row (by have := (hrow.extE e).take (i * 6); rwa [flat_take encD] at this) (by rw [flat_length encD, List.length_take, Nat.min_eq_left hi]) (by omega)⟩
            obtain ⟨u2, hq2, hp2'⟩ : ∃ u2, (∀ (w' : World) (dst : Option Tmp) (ty : TypeId) (pos : String) (after : Array Edge) (guard : Option (Nat × Bool)) (env : Env), evO env (.tmp 63) = some v → evO env (.tmp 64) = some (.int .i64 (i : Int)) →
                OpV Tryd.prog env w' ⟨dst, .slice 55 (.tmp 63) (some (.tmp 64)) none none, ty, pos, after, guard⟩ u2) ∧ ∀ w', Ext w w' → IsSl w' 6 u2 (l.length - i) (flat Dev.cells (l.drop i)) := by
              rcases isL_inv hv with ⟨d, rfl, rfl⟩ | ⟨b, o, cap, rfl, hrow, hcap⟩
              · obtain rfl : i = 0 := by simpa using hi
                exact ⟨_, fun _ _ _ _ _ _ _ h1 h2 => OpV.sliceNil Tryd.tOk rfl h1 (.some h2 rfl) .none, fun _ _ => IsSl.nil⟩
              · by_cases hil : i = l.length
                · refine ⟨_, fun _ _ _ _ _ _ _ h1 h2 => OpV.sliceS Tryd.tOk rfl h1 (.some h2 rfl) .none .none (.inl rfl) hi hcap (Nat.le_refl _), fun w' e => .row (fun j u hj => ?_) (by rw [flat_length encD, List.length_drop]) (by omega)⟩
                  rw [hil, List.drop_length] at hj; simp [flat] at hj
                · exact ⟨_, fun _ _ _ _ _ _ _ h1 h2 => OpV.slice1' Tryd.tOk i rfl h1 (.some h2 rfl) hi hcap (by omega), fun w' e => .row (by have := (hrow.extE e).drop (i * 6); rwa [flat_drop encD] at this) (by rw [flat_length encD, List.length_drop]) (by omega)⟩
            refine RunE.draw (fun k => wq.heap.size ≤ k) mix ?_
            intro wd_ Xd_
            refine Asy.sat0 (fun u w' => ∃ B, u = .slice (some ⟨B, 0, none⟩) 0 0) rfl rfl rfl rfl (fun u w' w'' _ e h => h) (fun w' _ => ?_) ?_
            · refine OpE.mono (OpE.build0 Tryd.tOk 55 57 rfl rfl rfl) ?_ fun _ _ h => h
              rintro _ w'' ⟨h1, h2⟩; exact ⟨h2, h1⟩
            repeat' (first | refine AsyN.int (by (first | exact wr_i64 (by omega) (by omega) | exact wm_i64 (by omega) | exact wq_i64 (by omega) (by omega) (by omega) | rfl)) ?_ | refine AsyN.any ?_ | refine Asy.ev Tryd.tOk rfl rfl rfl ?_ | refine Asy.evV rfl rfl rfl rfl (fun _ X_ => (hq1 _ _ _ _ _ _ _ rfl rfl)) ?_)
            refine Asy.pre1 0 (fun u w' => (i = 0 ∧ ∃ B, u = .slice (some ⟨B, 0, none⟩) 0 0) ∨ w'.ownsRow wq.heap.size 57 6 u i (flat Dev.cells (l.take i))) rfl rfl rfl rfl rfl rfl (fun u w' w'' _ e h => h.imp id fun h => ownsRow_ext h e (fun _ _ h => h)) (fun w' u e hu => ?_) ?_
            · obtain ⟨B, rfl⟩ := hu
              refine OpE.mono (OpE.append0 Tryd.tOk (m := i) (news := flat Dev.cells (l.take i)) rfl rfl rfl rfl rfl (hp1' w' ((X.trans Xd_).write e (by intro k hk hlt; have := X.size; omega))) (by show _ * 48 ≤ _; omega) (by omega)) ?_ fun _ _ h => h
              rintro r w'' ⟨h1, h2⟩
              refine ⟨h2, h1.imp (fun h => ⟨h.1, B, h.2⟩) fun h => ownsRow_base h ?_⟩
              have := Xd_.size; have := e.size; omega
            repeat' (first | refine AsyN.any ?_ | refine Asy.evV rfl rfl rfl rfl (fun _ X_ => (OpV.loadN Tryd.tOk rfl rfl rfl rfl (Blk.row ((Z3.up Xd_).ext X_ (Nat.not_le_of_lt Z3.lt))))) ?_)
            refine Asy.pre0 (fun u w' => ∃ B, u = .slice (some ⟨B, 0, none⟩) 1 1 ∧ Blk w' B x.cells 57) rfl rfl rfl rfl (fun u w' w'' _ e h => ?_) (fun w' _ => ?_) ?_
            · obtain ⟨B, h1, h2⟩ := h; exact ⟨B, h1, h2.up e⟩
            · refine OpE.mono (OpE.buildSl Tryd.tOk [.agg x.cells.toArray] rfl rfl rfl rfl rfl rfl (by simp [Value.cells])) ?_ fun _ _ h => h
              rintro _ w'' ⟨B, rfl, a⟩; exact ⟨a.ext, B, rfl, a.at_⟩
            refine Asy.wriP2 1 0 (fun u w' => w'.ownsRow wq.heap.size 57 6 u (i + 1) (flat Dev.cells (l.take i ++ [x]))) rfl rfl rfl rfl rfl rfl rfl rfl (fun u w' w'' _ e h => ownsRow_ext h e (fun _ _ h => h)) (fun w' r y e hr hy => ?_) ?_
            · obtain ⟨B, rfl, hB⟩ := hy
              have hx1 : IsL w' Dev.cells 6 (.slice (some ⟨B, 0, none⟩) 1 1) [x] := by
                have := isSl_blk (n := 1) (cap := 1) (sz := 6) hB (fun i v h => by rw [Nat.zero_add]; exact h) rfl (Nat.le_refl 1)
                simpa [IsL, flat] using this
              have hsz : wq.heap.size ≤ w'.heap.size := by have := Xd_.size; have := e.size; omega
              rcases hr with ⟨h0, B', rfl⟩ | hr
              · subst h0
                refine OpE.mono (OpE.append0 Tryd.tOk (m := 1) (news := flat Dev.cells [x]) rfl rfl rfl rfl rfl hx1 (by show 1 * 48 ≤ _; decide) (by omega)) ?_ fun _ _ h => h
                rintro r w'' ⟨h1, h2⟩
                refine ⟨ExtB.of_ext h2, ?_⟩
                rcases h1 with ⟨h, -⟩ | h
                · exact absurd h (by decide)
                · simpa using ownsRow_base h hsz
              · refine OpE.mono (OpE.append' Tryd.tOk rfl rfl rfl rfl rfl rfl hr hx1 (flat_plain encD [x]) (by show _ * 48 ≤ _; simp only [List.length_singleton]; omega) (by simp only [List.length_singleton]; omega) hsz) ?_ fun _ _ h => h
                rintro r' w'' ⟨h1, h2, -⟩
                refine ⟨h2.mono fun k hk h => ownsRow_ge hr h, ?_⟩
                rw [flat_append]; exact h1
            repeat' (first | refine AsyN.int (by (first | exact wr_i64 (by omega) (by omega) | exact wm_i64 (by omega) | exact wq_i64 (by omega) (by omega) (by omega) | rfl)) ?_ | refine AsyN.any ?_ | refine Asy.ev Tryd.tOk rfl rfl rfl ?_ | refine Asy.evV rfl rfl rfl rfl (fun _ X_ => (hq2 _ _ _ _ _ _ _ rfl rfl)) ?_)
            refine Asy.tailW (by kernel_rfl) fun we_ r Xe_ hr => ?_
            simp only [satsAll]
            intro _ _
            have hszE : wq.heap.size ≤ we_.heap.size := by have := Xd_.size; have := Xe_.size; omega
            refine RunL.ex rfl rfl rfl (OpE.append' Tryd.tOk rfl rfl rfl rfl rfl rfl hr (hp2' we_ ((X.trans Xd_).write Xe_ (by intro k hk hlt; have := X.size; omega))) (flat_plain encD (l.drop i)) (by show _ * 48 ≤ _; omega) (by omega) hszE) ?_
            rintro r' w5 ⟨h5, E5, -⟩
            have hXq : Ext w w5 := ((X.trans Xd_).write Xe_ (by intro k hk hlt; have := X.size; omega)).write E5 (by intro k hk hlt; have := ownsRow_ge hr hk; have := X.size; omega)
            repeat' (first | refine RunLN.int (by (first | exact wr_i64 (by omega) (by omega) | exact wm_i64 (by omega) | exact wq_i64 (by omega) (by omega) (by omega) | rfl)) ?_ | refine RunLN.any ?_ | refine RunL.ev Tryd.tOk rfl rfl rfl ?_ | refine RunL.nil ?_)
            refine RunE.retFn Tryd.func33 (.tmp rfl (.tmp rfl .nil)) ⟨⟨r', ?_, ?_⟩, hXq⟩
            · rw [he]; rfl
            · have e1 : addLD l x = insS Dev.no x l := if_pos he
              rw [e1]
              unfold insS
              rw [← (take_while l).1, ← (take_while l).2, hpp]
              have := isSl_own h5
              rw [← flat_append] at this
              have hN : (l.take i ++ x :: l.drop i).length = i + 1 + (l.length - i) := by simp; omega
              rw [show l.take i ++ [x] ++ l.drop i = l.take i ++ x :: l.drop i by simp] at this
              exact (congrArg (fun n => IsSl _ _ _ n _) hN).mpr this
        · intro join
          by_cases hlt : p < l.length
          · obtain ⟨b, o, cap, rfl, hrow, hcap⟩ := isL_held hv hlt
            obtain ⟨y, hy⟩ : ∃ y, l[p]? = some y := ⟨_, List.getElem?_eq_getElem hlt⟩
            have hry := flat_row encD hrow hy
            rw [hy] at hany
            simp only at hany
            rw [hany] at join
            refine RunE.draw (fun _ => False) mix ?_
            intro wd_ Xd_
            by_cases heq : y.no = x.no
            · rw [decide_eq_true heq, Bool.true_or] at join
              repeat' (first | with_reducible refine AsyN.boolT rfl ?_ | (with_reducible refine AsyN.decT ?_ ?_; focus omega) | (with_reducible refine AsyN.eqT ?_ ?_; focus omega) | refine AsyN.int (by (first | exact wr_i64 (by omega) (by omega) | exact wm_i64 (by omega) | exact wq_i64 (by omega) (by omega) (by omega) | rfl)) ?_ | refine AsyN.any ?_ | refine Asy.ev Tryd.tOk rfl rfl rfl ?_ | refine Asy.unwantedD rfl rfl rfl ?_ | refine Asy.evV rfl rfl rfl rfl (fun _ X_ => OpV.load1 Tryd.tOk rfl rfl rfl ((hry.up (X.trans (Xd_.trans X_))) _ _ rfl)) ?_ | refine Asy.evV rfl rfl rfl rfl (fun _ X_ => OpV.load1 Tryd.tOk rfl rfl rfl (Blk.cell (Z3.up (Xd_.trans X_)) rfl)) ?_ | refine Asy.evV rfl rfl rfl rfl (fun _ X_ => OpV.indexS Tryd.tOk _ rfl rfl rfl rfl (by omega)) ?_)
              refine Asy.end_ (by kernel_rfl) ?_
              intro we_ Xe_
              replace Xe_ := Xd_.trans Xe_
              refine RunL.nil ?_
              exact RunE.weaken (by repeat (first | exact Sub.nil _ | refine Sub.cons rfl ?_)) (join () _ ⟨X.trans Xe_, Z3.up Xe_⟩)
            · rw [decide_eq_false heq, Bool.false_or] at join
              repeat' (first | with_reducible refine AsyN.boolT rfl ?_ | with_reducible refine AsyN.boolF rfl ?_ | (with_reducible refine AsyN.decT ?_ ?_; focus omega) | (with_reducible refine AsyN.eqF ?_ ?_; focus omega) | refine AsyN.int (by (first | exact wr_i64 (by omega) (by omega) | exact wm_i64 (by omega) | exact wq_i64 (by omega) (by omega) (by omega) | rfl)) ?_ | refine AsyN.any ?_ | refine Asy.ev Tryd.tOk rfl rfl rfl ?_ | refine Asy.evV rfl rfl rfl rfl (fun _ X_ => OpV.load1 Tryd.tOk rfl rfl rfl ((hry.up (X.trans (Xd_.trans X_))) _ _ rfl)) ?_ | refine Asy.evV rfl rfl rfl rfl (fun _ X_ => OpV.load1 Tryd.tOk rfl rfl rfl (Blk.cell (Z3.up (Xd_.trans X_)) rfl)) ?_ | refine Asy.evV rfl rfl rfl rfl (fun _ X_ => OpV.indexS Tryd.tOk _ rfl rfl rfl rfl (by omega)) ?_)
              refine Asy.callN rfl rfl rfl (fun w' e => (rused48_ok l _ x.key w' (hv.up (X.trans (Xd_.trans e))) hl).mono (fun _ _ h => ⟨h.1, by rw [h.2]; exact ExtB.refl _ _⟩)) ?_
              repeat' (first | refine AsyN.any ?_ | refine Asy.ev Tryd.tOk rfl rfl rfl ?_)
              refine Asy.end_ (by kernel_rfl) ?_
              intro we_ Xe_
              replace Xe_ := Xd_.trans Xe_
              refine RunL.nil ?_
              exact RunE.weaken (by repeat (first | exact Sub.nil _ | refine Sub.cons rfl ?_)) (join () _ ⟨X.trans Xe_, Z3.up Xe_⟩)
          · rw [List.getElem?_eq_none (by omega)] at hany
            simp only at hany
            rw [hany, Bool.false_or] at join
            refine RunE.draw (fun _ => False) mix ?_
            intro wd_ Xd_
            repeat' (first | with_reducible refine AsyN.boolF rfl ?_ | (with_reducible refine AsyN.decF ?_ ?_; focus omega) | refine AsyN.int (by (first | exact wr_i64 (by omega) (by omega) | exact wm_i64 (by omega) | exact wq_i64 (by omega) (by omega) (by omega) | rfl)) ?_ | refine AsyN.any ?_ | refine Asy.ev Tryd.tOk rfl rfl rfl ?_ | refine Asy.unwantedD rfl rfl rfl ?_ | refine Asy.evV rfl rfl rfl rfl (fun _ X_ => OpV.lenSl Tryd.tOk rfl rfl hv) ?_ | refine Asy.evV rfl rfl rfl rfl (fun _ X_ => OpV.load1 Tryd.tOk rfl rfl rfl (Blk.cell (Z3.up (Xd_.trans X_)) rfl)) ?_)
            refine Asy.callN rfl rfl rfl (fun w' e => (rused48_ok l _ x.key w' (hv.up (X.trans (Xd_.trans e))) hl).mono (fun _ _ h => ⟨h.1, by rw [h.2]; exact ExtB.refl _ _⟩)) ?_
            repeat' (first | refine AsyN.any ?_ | refine Asy.ev Tryd.tOk rfl rfl rfl ?_)
            refine Asy.end_ (by kernel_rfl) ?_
            intro we_ Xe_
            replace Xe_ := Xd_.trans Xe_
            refine RunL.nil ?_
            exact RunE.weaken (by repeat (first | exact Sub.nil _ | refine Sub.cons rfl ?_)) (join () _ ⟨X.trans Xe_, Z3.up Xe_⟩)
      · intro join
        repeat' (first | refine RunE.block ?_)
        refine RunE.loop (ι := Nat) (fun i => [(0, v), (3, .pointer (some ⟨B3, 0, none⟩)), (7, .int .i64 (i : Int))])
          (fun i w' => i ≤ p ∧ Ext w w' ∧ Blk w' B3 x.cells 57) (fun i => p - i) 0 (by repeat (first | exact Sub.nil _ | refine Sub.cons rfl ?_)) ⟨Nat.zero_le _, X, Z3⟩ ?_
        clear X Z3
        rintro i w3 ⟨hi, X, Z3⟩ again
        (repeat refine RunE.seq ?_)
        refine RunE.draw (fun _ => False) mix ?_
        intro wd_ Xd_
        by_cases hlt : i < l.length
        · obtain ⟨b, o, cap, rfl, hrow, hcap⟩ := isL_held hv hlt
          obtain ⟨y, hy⟩ : ∃ y, l[i]? = some y := ⟨_, List.getElem?_eq_getElem hlt⟩
          have hry := flat_row encD hrow hy
          by_cases hyx : y.no < x.no
          · have hip : i < p := by
              rcases Nat.lt_or_ge i p with h | h
              · exact h
              · have := hhigh i y hy h; omega
            repeat' (first | with_reducible refine AsyN.boolT rfl ?_ | (with_reducible refine AsyN.decT ?_ ?_; focus omega) | refine AsyN.int (by (first | exact wr_i64 (by omega) (by omega) | exact wm_i64 (by omega) | exact wq_i64 (by omega) (by omega) (by omega) | rfl)) ?_ | refine AsyN.any ?_ | refine Asy.ev Tryd.tOk rfl rfl rfl ?_ | refine Asy.evV rfl rfl rfl rfl (fun _ X_ => OpV.load1 Tryd.tOk rfl rfl rfl ((hry.up (X.trans (Xd_.trans X_))) _ _ rfl)) ?_ | refine Asy.evV rfl rfl rfl rfl (fun _ X_ => OpV.load1 Tryd.tOk rfl rfl rfl (Blk.cell (Z3.up (Xd_.trans X_)) rfl)) ?_ | refine Asy.evV rfl rfl rfl rfl (fun _ X_ => OpV.indexS Tryd.tOk _ rfl rfl rfl rfl (by omega)) ?_)
            refine Asy.end_ (by kernel_rfl) ?_
            intro we_ Xe_
            replace Xe_ := Xd_.trans Xe_
            repeat' (first | refine RunLN.int (by (first | exact wr_i64 (by omega) (by omega) | exact wm_i64 (by omega) | exact wq_i64 (by omega) (by omega) (by omega) | rfl)) ?_ | refine RunL.ev Tryd.tOk rfl rfl rfl ?_ | refine RunE.condT rfl rfl ?_ | refine RunE.region ?_ | refine RunL.nil ?_ | refine RunE.block ?_ | refine RunE.inBlock ?_ | refine RunE.skip ?_)
            exact RunE.weaken (by repeat (first | exact Sub.nil _ | refine Sub.cons rfl ?_)) (again (i + 1) _ (by omega) ⟨by omega, X.trans Xe_, Z3.up Xe_⟩)
          · obtain rfl : i = p := by
              rcases Nat.lt_or_ge i p with h | h
              · have := hlow i y hy h; omega
              · omega
            repeat' (first | with_reducible refine AsyN.boolT rfl ?_ | with_reducible refine AsyN.boolF rfl ?_ | (with_reducible refine AsyN.decT ?_ ?_; focus omega) | (with_reducible refine AsyN.decF ?_ ?_; focus omega) | refine AsyN.int (by (first | exact wr_i64 (by omega) (by omega) | exact wm_i64 (by omega) | exact wq_i64 (by omega) (by omega) (by omega) | rfl)) ?_ | refine AsyN.any ?_ | refine Asy.ev Tryd.tOk rfl rfl rfl ?_ | refine Asy.evV rfl rfl rfl rfl (fun _ X_ => OpV.load1 Tryd.tOk rfl rfl rfl ((hry.up (X.trans (Xd_.trans X_))) _ _ rfl)) ?_ | refine Asy.evV rfl rfl rfl rfl (fun _ X_ => OpV.load1 Tryd.tOk rfl rfl rfl (Blk.cell (Z3.up (Xd_.trans X_)) rfl)) ?_ | refine Asy.evV rfl rfl rfl rfl (fun _ X_ => OpV.indexS Tryd.tOk _ rfl rfl rfl rfl (by omega)) ?_)
            refine Asy.end_ (by kernel_rfl) ?_
            intro we_ Xe_
            replace Xe_ := Xd_.trans Xe_
            repeat' (first | refine RunE.condF rfl rfl ?_ | refine RunL.nil ?_ | refine RunE.exit rfl ?_)
            exact RunE.weaken (by repeat (first | exact Sub.nil _ | refine Sub.cons rfl ?_)) (join () _ ⟨X.trans Xe_, Z3.up Xe_⟩)
        · obtain rfl : i = p := by omega
          repeat' (first | with_reducible refine AsyN.boolF rfl ?_ | (with_reducible refine AsyN.decF ?_ ?_; focus omega) | refine AsyN.int (by (first | exact wr_i64 (by omega) (by omega) | exact wm_i64 (by omega) | exact wq_i64 (by omega) (by omega) (by omega) | rfl)) ?_ | refine AsyN.any ?_ | refine Asy.ev Tryd.tOk rfl rfl rfl ?_ | refine Asy.unwantedD rfl rfl rfl ?_ | refine Asy.evV rfl rfl rfl rfl (fun _ X_ => OpV.lenSl Tryd.tOk rfl rfl hv) ?_)
          refine Asy.end_ (by kernel_rfl) ?_
          intro we_ Xe_
          replace Xe_ := Xd_.trans Xe_
          repeat' (first | refine RunE.condF rfl rfl ?_ | refine RunL.nil ?_ | refine RunE.exit rfl ?_)
          exact RunE.weaken (by repeat (first | exact Sub.nil _ | refine Sub.cons rfl ?_)) (join () _ ⟨X.trans Xe_, Z3.up Xe_⟩)
  · have he : addED l x = chkD l := if_neg hc
    repeat' (first | (with_reducible refine RunLN.neT ?_ ?_; focus omega) | refine RunLN.int (by (first | exact wr_i64 (by omega) (by omega) | exact wm_i64 (by omega) | exact wq_i64 (by omega) (by omega) (by omega) | rfl)) ?_ | refine RunLN.any ?_ | refine RunL.ev Tryd.tOk rfl rfl rfl ?_ | refine RunE.condT rfl rfl ?_ | refine RunE.seq ?_ | refine RunE.region ?_ | refine RunL.nil ?_)
    refine RunE.retFn Tryd.func33 (.tmp rfl (.tmp rfl .nil)) ⟨⟨.slice none 0 0, ?_, ?_⟩, X⟩
    · rw [he]; rfl
    · unfold addLD; rw [he, if_neg (by first | decide | exact hc)]; exact IsSl.nil
end Go.Sg
