/- Parts of this project that the claims share: NonD, NonE, Non9, NonF, NonT, NonI. -/
import Derived.Test.YtamcgoplhnbmcaaDoorN08
import Derived.Test.YtamcgoplhnbmcaaDoorN04
import Derived.Test.YtamcgoplhnbmcaaDoorN07
set_option linter.unusedSimpArgs false
set_option linter.unusedVariables false
set_option linter.unusedSectionVars false
section
/- Nonces: Make. -/
namespace Go.Non
open Go.Rn Go.Dev
theorem makeE_cases (b : Book) (n : Int) : (rtB b = false ∧ makeE b n = 410) ∨ (rtB b = true ∧ n < 0 ∧ makeE b n = 1) ∨ (rtB b = true ∧ 0 ≤ n ∧ 4096 - b.next < n ∧ makeE b n = 2) ∨ (rtB b = true ∧ 0 ≤ n ∧ n ≤ 4096 - b.next ∧ makeE b n = 0) := by
  unfold makeE
  cases rtB b with
  | false => exact .inl ⟨rfl, rfl⟩
  | true =>
    by_cases h : n < 0
    · exact .inr (.inl ⟨rfl, h, by rw [if_pos rfl, if_pos h]⟩)
    · by_cases h2 : n > 4096 - b.next
      · exact .inr (.inr (.inl ⟨rfl, by omega, by omega, by rw [if_pos rfl, if_neg h, if_pos h2]⟩))
      · exact .inr (.inr (.inr ⟨rfl, by omega, by omega, by rw [if_pos rfl, if_neg h, if_neg h2]⟩))
theorem make_bad {b : Book} {n : Int} (h : makeE b n ≠ 0) : makeB b n = zeroB ∧ makeL b n = [] := ⟨if_neg h, if_neg h⟩
theorem make_good {b : Book} {n : Int} {N : Nat} (h : makeE b n = 0) (hN : n = (N : Int)) : makeB b n = bookAt b N ∧ makeL b n = (upB b N).map (pairN b.keeper b.seed) := by
  subst hN
  exact ⟨if_pos h, if_pos h⟩
theorem rtB_len {b : Book} (h : rtB b = true) : (b.left.length : Int) ≤ b.next := by
  have h0 := rtB_inv h
  unfold rtB at h
  rw [Bool.and_eq_true] at h
  rcases incB_len h.1 with h | h
  · rw [h]; simp; omega
  · omega
end Go.Non
namespace Go.Sg
open Go.Rn Go.Proofs Go.Non Go.Rec Go.RowKit Go.Dev Go.Sha Go.NT
attribute [local irreducible] Go.Rn.RetsX Go.Rn.RunLN Go.Rn.AsyN Go.Rn.RunL Go.Rn.RunE Go.Rn.Asy Go.Rn.OpV Go.Rn.OpE Go.Rn.ExecE
theorem pairs_ok (Bk n : Nat) (w : World) :
    Rets Tryd.prog 52 [.pointer (some ⟨Bk, 0, none⟩), .int .i64 (n : Int)] w fun r w' => ∃ Bn Bp Bf, r = pairsV Bn Bp Bf ∧ Blk w' Bn [.int .i64 (n : Int)] 3 ∧ Blk w' Bp [.pointer (some ⟨Bk, 0, none⟩)] 87 ∧ Blk w' Bf [nextV Bk] 136 ∧ w.heap.size ≤ Bn ∧ w.heap.size ≤ Bp ∧ w.heap.size ≤ Bf ∧ Ext w w' := by
  refine RetsX.of (nt := 9) Tryd.func52 (by kernel_rfl) rfl rfl (by simp) (by simp only [argEnv]; rfl) ?_
  have X := ExtB.refl (fun _ => False) w
  repeat' (first | refine RunE.seq ?_ | refine RunE.region ?_)
  refine RunL.box rfl rfl rfl fun B2 w2_ a_ => ?_
  have Z2 : Blk w2_ B2 ([.pointer (some ⟨Bk, 0, none⟩)]) 87 := a_.at_
  have gB2 := a_.ge X
  replace X := X.trans a_.ext
  clear a_
  skip
  refine RunL.box rfl rfl rfl fun B3 w3_ a_ => ?_
  have Z3 : Blk w3_ B3 ([.int .i64 (n : Int)]) 3 := a_.at_
  have gB3 := a_.ge X
  have n2_3 : B2 ≠ B3 := by have := Z2.lt; have := a_.eq; omega
  have n3_2 : B3 ≠ B2 := Ne.symm n2_3
  replace Z2 := Z2.up a_.ext
  replace X := X.trans a_.ext
  clear a_
  repeat' (first | refine RunLN.any ?_ | refine RunL.ev Tryd.tOk rfl rfl rfl ?_ | refine RunL.evV rfl rfl rfl (OpV.load1 Tryd.tOk rfl rfl rfl (Blk.cell Z2 rfl)) ?_ | refine RunE.seq ?_ | refine RunE.region ?_ | refine RunL.nil ?_)
  refine RunL.alloc Tryd.tOk rfl rfl rfl fun B5 wa aa => ?_
  have e5 := aa.eq
  have g5 := aa.ge X
  refine RunL.store Tryd.tOk rfl rfl rfl rfl rfl aa.at_ rfl rfl fun wb tb => ?_
  have Xa_ : Ext _ wb := aa.ext.write tb.ext (by intro k hk hlt; omega)
  have Z5 : Blk wb B5 [nextV Bk] 136 := tb.at_
  replace Z2 := Z2.up Xa_
  replace Z3 := Z3.up Xa_
  replace X := X.trans Xa_
  repeat' (first | refine RunLN.any ?_ | refine RunL.ev Tryd.tOk rfl rfl rfl ?_ | refine RunE.seq ?_ | refine RunE.region ?_ | refine RunL.nil ?_)
  exact RunE.retFn Tryd.func52 (.tmp rfl .nil) ⟨B3, B2, B5, rfl, Z3, Z2, Z5, gB3, gB2, g5, X⟩
set_option maxHeartbeats 2000000 in
theorem nmake_ok (b : Book) (v : Value) (n : Int) (w : World) (hv : LI' w v b.left) (hl : b.left.length < 9223372036854775808) (hS : Row w 0 0 (vals init8.l)) (hkT : Row w 1 0 (vals kTab)) :
    Rets Tryd.prog 17 [.agg (bkV b v).toArray, .int .i64 n] w fun r w' => (∃ u l, r = .tuple #[.agg (bkV (makeB b n) u).toArray, l, .int .i64 (makeE b n)] ∧ w'.ownsRow w.heap.size 3 1 u (makeB b n).left.length (flat intC (makeB b n).left) ∧ LP w' l (makeL b n)) ∧ Ext w w' := by
  refine RetsX.of (nt := 31) Tryd.func17 (by kernel_rfl) rfl rfl (by simp) (by simp only [argEnv]; rfl) ?_
  have X := ExtB.refl (fun _ => False) w
  repeat' (first | refine RunE.seq ?_ | refine RunE.region ?_)
  refine RunL.box rfl rfl rfl fun B2 w2_ a_ => ?_
  have Z2 : Blk w2_ B2 (bkV b v) 24 := a_.at_
  have gB2 := a_.ge X
  replace X := X.trans a_.ext
  clear a_
  skip
  refine RunL.alloc Tryd.tOk rfl rfl rfl fun B4 w4_ a_ => ?_
  have Z4 : Blk w4_ B4 (bk0) 24 := a_.at_
  have gB4 := a_.ge X
  have n2_4 : B2 ≠ B4 := by have := Z2.lt; have := a_.eq; omega
  have n4_2 : B4 ≠ B2 := Ne.symm n2_4
  replace Z2 := Z2.up a_.ext
  replace X := X.trans a_.ext
  clear a_
  repeat' (first | refine RunLN.any ?_ | refine RunL.ev Tryd.tOk rfl rfl rfl ?_)
  refine RunL.alloc Tryd.tOk rfl rfl rfl fun B6 w6_ a_ => ?_
  have Z6 : Blk w6_ B6 ([.int .i64 0]) 27 := a_.at_
  have gB6 := a_.ge X
  have n2_6 : B2 ≠ B6 := by have := Z2.lt; have := a_.eq; omega
  have n6_2 : B6 ≠ B2 := Ne.symm n2_6
  have n4_6 : B4 ≠ B6 := by have := Z4.lt; have := a_.eq; omega
  have n6_4 : B6 ≠ B4 := Ne.symm n4_6
  replace Z2 := Z2.up a_.ext
  replace Z4 := Z4.up a_.ext
  replace X := X.trans a_.ext
  clear a_
  repeat' (first | refine RunE.seq ?_ | refine RunE.region ?_ | refine RunL.nil ?_)
  refine RunL.defer rfl rfl rfl ?_
  repeat' (first | refine RunLN.any ?_ | refine RunL.evV rfl rfl rfl (OpV.loadN Tryd.tOk rfl rfl rfl rfl (Blk.row Z2)) ?_ | refine RunE.seq ?_ | refine RunE.region ?_ | refine RunL.nil ?_)
  clear Z2
  have h01 : 1 < w.heap.size := cell_lt (hkT 0 _ rfl)
  have l4 := Z4.lt
  have l6 := Z6.lt
  have lX := X.size
  rcases makeE_cases b n with ⟨hr, hE⟩ | ⟨hr, hd, hE⟩ | ⟨hr, hd, ha, hE⟩ | ⟨hr, hd, ha, hE⟩
  · obtain ⟨hB, hD⟩ := make_bad (b := b) (n := n) (by rw [hE]; decide)
    rw [hB, hD, hE]
    refine RunL.exS rfl rfl rfl (OpE.call rfl (open_no b v _ (hv.up X) hl hr)) (fun ch w' a hX hst => ?_) (fun _ _ h => h.elim)
    obtain ⟨rfl, Xa_⟩ := hX
    replace Z4 := Z4.up Xa_
    replace Z6 := Z6.up Xa_
    replace X := X.trans Xa_
    exact FnQ.panicD Tryd.func17 caught_body hst ((caught_pan B6 0 _ _ Z6).mono fun u' w'' h => ⟨h.1, _, .cell rfl (.agg Tryd.tOk rfl rfl rfl (Z4.other h.2.ext n4_6).row) (.tmp rfl (.cell rfl (.scalar Tryd.tOk rfl rfl (Blk.cell (show Blk w'' B6 [.int .i64 _] 27 from h.2.at_) rfl)) .nil)), ⟨_, _, rfl, World.ownsRow_nil _ _ _ _, IsSl.nil⟩, X.own h.2.ext gB6⟩)
  · obtain ⟨hB, hD⟩ := make_bad (b := b) (n := n) (by rw [hE]; decide)
    rw [hB, hD, hE]
    refine RunL.call rfl rfl rfl (open_ok b v _ (hv.up X) hr) ?_
    rintro _ w' ⟨B, u, rfl, ZB, hge, hO, hne, Xa_⟩
    replace Z4 := Z4.up Xa_
    replace Z6 := Z6.up Xa_
    replace X := X.trans Xa_
    repeat' (first | (with_reducible refine RunLN.decF ?_ ?_; focus omega) | refine RunLN.int (by (first | exact wr_i64 (by omega) (by omega) | exact wm_i64 (by omega) | exact wq_i64 (by omega) (by omega) (by omega) | rfl)) ?_ | refine RunLN.any ?_ | refine RunL.ev Tryd.tOk rfl rfl rfl ?_ | refine RunE.seq ?_ | refine RunE.region ?_ | refine RunL.nil ?_)
    refine RunL.exS rfl rfl rfl (OpE.call rfl (need_no 1 _)) (fun ch w' a hX hst => ?_) (fun _ _ h => h.elim)
    obtain ⟨rfl, rfl⟩ := hX
    exact FnQ.panicD Tryd.func17 caught_body hst ((caught_pan B6 0 _ _ Z6).mono fun u' w'' h => ⟨h.1, _, .cell rfl (.agg Tryd.tOk rfl rfl rfl (Z4.other h.2.ext n4_6).row) (.tmp rfl (.cell rfl (.scalar Tryd.tOk rfl rfl (Blk.cell (show Blk w'' B6 [.int .i64 _] 27 from h.2.at_) rfl)) .nil)), ⟨_, _, rfl, World.ownsRow_nil _ _ _ _, IsSl.nil⟩, X.own h.2.ext gB6⟩)
  · obtain ⟨hB, hD⟩ := make_bad (b := b) (n := n) (by rw [hE]; decide)
    have hnum := (rtB_inv hr).1
    rw [hB, hD, hE]
    refine RunL.call rfl rfl rfl (open_ok b v _ (hv.up X) hr) ?_
    rintro _ w' ⟨B, u, rfl, ZB, hge, hO, hne, Xa_⟩
    replace Z4 := Z4.up Xa_
    replace Z6 := Z6.up Xa_
    replace X := X.trans Xa_
    repeat' (first | (with_reducible refine RunLN.decT ?_ ?_; focus omega) | refine RunLN.int (by (first | exact wr_i64 (by omega) (by omega) | exact wm_i64 (by omega) | exact wq_i64 (by omega) (by omega) (by omega) | rfl)) ?_ | refine RunLN.any ?_ | refine RunL.ev Tryd.tOk rfl rfl rfl ?_ | refine RunE.seq ?_ | refine RunE.region ?_ | refine RunL.nil ?_)
    refine RunL.call rfl rfl rfl (need_ok 1 _) ?_
    rintro _ _ ⟨rfl, rfl⟩
    repeat' (first | (with_reducible refine RunLN.decF ?_ ?_; focus omega) | refine RunLN.int (by (first | exact wr_i64 (by omega) (by omega) | exact wm_i64 (by omega) | exact wq_i64 (by omega) (by omega) (by omega) | rfl)) ?_ | refine RunLN.any ?_ | refine RunL.ev Tryd.tOk rfl rfl rfl ?_ | refine RunL.evV rfl rfl rfl (OpV.load1 Tryd.tOk rfl rfl rfl (Blk.cell ZB rfl)) ?_ | refine RunE.seq ?_ | refine RunE.region ?_ | refine RunL.nil ?_)
    refine RunL.exS rfl rfl rfl (OpE.call rfl (need_no 2 _)) (fun ch w' a hX hst => ?_) (fun _ _ h => h.elim)
    obtain ⟨rfl, rfl⟩ := hX
    exact FnQ.panicD Tryd.func17 caught_body hst ((caught_pan B6 0 _ _ Z6).mono fun u' w'' h => ⟨h.1, _, .cell rfl (.agg Tryd.tOk rfl rfl rfl (Z4.other h.2.ext n4_6).row) (.tmp rfl (.cell rfl (.scalar Tryd.tOk rfl rfl (Blk.cell (show Blk w'' B6 [.int .i64 _] 27 from h.2.at_) rfl)) .nil)), ⟨_, _, rfl, World.ownsRow_nil _ _ _ _, IsSl.nil⟩, X.own h.2.ext gB6⟩)
  · obtain ⟨N, rfl⟩ : ∃ N : Nat, n = (N : Int) := ⟨n.toNat, by omega⟩
    obtain ⟨hB, hD⟩ := make_good hE rfl
    obtain ⟨hnum, hs, hrange, hle⟩ := rtB_inv hr
    have hlen := rtB_len hr
    rw [hB, hD, hE]
    refine RunL.call rfl rfl rfl (open_ok b v _ (hv.up X) hr) ?_
    rintro _ w' ⟨B, u, rfl, ZB, hge, hO, hne, Xa_⟩
    have lB := ZB.lt
    replace Z4 := Z4.up Xa_
    replace Z6 := Z6.up Xa_
    replace X := X.trans Xa_
    have Ya := ExtB.refl (fun _ => False) w'
    repeat' (first | with_reducible refine RunLN.boolT rfl ?_ | refine RunLN.int (by (first | exact wr_i64 (by omega) (by omega) | exact wm_i64 (by omega) | exact wq_i64 (by omega) (by omega) (by omega) | rfl)) ?_ | refine RunLN.any ?_ | refine RunL.ev Tryd.tOk rfl rfl rfl ?_ | refine RunE.seq ?_ | refine RunE.region ?_ | refine RunL.nil ?_)
    refine RunL.call rfl rfl rfl (need_ok 1 _) ?_
    rintro _ _ ⟨rfl, rfl⟩
    repeat' (first | (with_reducible refine RunLN.decT ?_ ?_; focus omega) | refine RunLN.int (by (first | exact wr_i64 (by omega) (by omega) | exact wm_i64 (by omega) | exact wq_i64 (by omega) (by omega) (by omega) | rfl)) ?_ | refine RunLN.any ?_ | refine RunL.ev Tryd.tOk rfl rfl rfl ?_ | refine RunL.evV rfl rfl rfl (OpV.load1 Tryd.tOk rfl rfl rfl (Blk.cell ZB rfl)) ?_ | refine RunE.seq ?_ | refine RunE.region ?_ | refine RunL.nil ?_)
    refine RunL.call rfl rfl rfl (need_ok 2 _) ?_
    rintro _ _ ⟨rfl, rfl⟩
    repeat' (first | refine RunLN.int (by (first | exact wr_i64 (by omega) (by omega) | exact wm_i64 (by omega) | exact wq_i64 (by omega) (by omega) (by omega) | rfl)) ?_ | refine RunLN.any ?_ | refine RunL.ev Tryd.tOk rfl rfl rfl ?_ | refine RunE.seq ?_ | refine RunE.region ?_ | refine RunL.nil ?_)
    refine RunL.call rfl rfl rfl (pairs_ok B N _) ?_
    rintro _ w2 ⟨Bn, Bp, Bf, rfl, Yn, Yp, Yf, g1, g2, g3, Xb_⟩
    have lu : ∀ j, u.ownBlock = some j → j < w'.heap.size := fun j hj => ownsRow_lt' hO hj
    replace Z4 := Z4.up Xb_
    replace Z6 := Z6.up Xb_
    replace X := X.trans Xb_
    replace ZB := ZB.up Xb_
    replace hO := ownsRow_ext hO Xb_ (fun _ _ h => h)
    have PK : PairK b N Bn Bp Bf B w6_.heap.size 0 u w2 := ⟨hS.up X, hkT.up X, Yn, Yp, Yf, by rw [bookAt_zero]; exact ZB, by rw [bookAt_zero]; exact hO, fun j hj => by
      have := lu j hj
      exact ⟨by omega, by omega, by omega, hne j hj⟩⟩
    have hG := pairs_gives b N Bn Bp Bf B w6_ (decide_eq_true hnum) (by omega) hlen (by omega) hge ⟨by omega, by omega, by omega⟩ ⟨by omega, by omega, by omega⟩
    have hmap : ((upB b N).map fun no => [Value.agg (pairN b.keeper b.seed no).cells.toArray]) = (((upB b N).map (pairN b.keeper b.seed)).map fun x => [Value.agg x.cells.toArray]) := by rw [List.map_map]; rfl
    rw [hmap] at hG
    have hxl : ((upB b N).map (pairN b.keeper b.seed)).length = N := by rw [List.length_map, upB_length]
    have hs2 : w'.heap.size ≤ w2.heap.size := Xb_.size
    have ln := Yn.lt
    have lp := Yp.lt
    have lf := Yf.lt
    skip
    refine RunL.call rfl rfl rfl (pcollect_ok _ (pairsV Bn Bp Bf) _ w6_ w2 (pairG Bn Bp Bf B u) hG (fun w3 e => ⟨u, PK.ext e (fun _ _ h => h), rfl⟩) (fun k hk => ?_) (by omega) ?_ (by rw [hxl]; omega)) ?_
    · rcases hk with h | h | h | h | h | h | h
      · omega
      · omega
      · omega
      · omega
      · omega
      · omega
      · have := lu _ h; omega
    · rintro G i w1 w2 ⟨u, K, rfl⟩ e
      exact ⟨u, K.ext e (fun j hj h => h hj), rfl⟩
    · rintro lv w8 ⟨_, ⟨u2, K2, rfl⟩, hL, hnG, E8⟩
      rw [hxl] at K2
      have hL2 := isSl_own hL
      obtain ⟨dl, cl, rfl⟩ := isSl_slice hL2
      obtain ⟨du, cu, rfl⟩ := isSl_slice (isSl_own K2.o)
      replace X := X.write E8 (by intro k hk hlt; omega)
      replace Z4 := Z4.ext E8 (by omega)
      replace Z6 := Z6.ext E8 (by omega)
      have ZB := K2.k
      have hu2 := K2.o
      have hg2 : ∀ j, (Value.slice du (bookAt b N).left.length cu).ownBlock = some j → j ≠ B4 ∧ j ≠ B6 := fun j hj => by have := ownsRow_ge hu2 hj; omega
      have hgl : ∀ j, (Value.slice dl ((upB b N).map (pairN b.keeper b.seed)).length cl).ownBlock = some j → j ≠ B4 ∧ j ≠ B6 := fun j hj => by have := ownsRow_ge hL hj; omega
      clear hL K2 E8 PK Yn Yp Yf hG hnG hO
      replace hu2 := ownsRow_base hu2 lX
      repeat' (first | refine RunLN.any ?_ | refine RunL.ev Tryd.tOk rfl rfl rfl ?_ | refine RunL.evV rfl rfl rfl (OpV.loadN Tryd.tOk rfl rfl rfl rfl (Blk.row ZB)) ?_ | refine RunE.seq ?_ | refine RunE.region ?_ | refine RunL.nil ?_)
      refine RunL.store Tryd.tOk rfl rfl rfl rfl rfl Z4 rfl rfl fun w9 t9 => ?_
      replace Z6 := Z6.other t9.ext n6_4
      replace Z4 : Blk w9 B4 (bkV (bookAt b N) (.slice du (bookAt b N).left.length cu)) 24 := t9.at_
      replace hu2 := ownsRow_ext hu2 t9.ext (fun j hj => (hg2 j hj).1)
      replace hL2 := isL_ext hL2 t9.ext (fun _ j hj => (hgl j hj).1)
      replace X := X.own t9.ext gB4
      clear t9
      repeat' (first | refine RunLN.any ?_ | refine RunL.ev Tryd.tOk rfl rfl rfl ?_)
      refine RunL.store Tryd.tOk rfl rfl rfl rfl rfl Z6 rfl rfl fun w10 t10 => ?_
      replace Z4 := Z4.other t10.ext n4_6
      replace Z6 : Blk w10 B6 [.int .i64 0] 27 := t10.at_
      replace hu2 := ownsRow_ext hu2 t10.ext (fun j hj => (hg2 j hj).2)
      replace hL2 := isL_ext hL2 t10.ext (fun _ j hj => (hgl j hj).2)
      replace X := X.own t10.ext gB6
      clear t10
      repeat' (first | refine RunL.nil ?_)
      exact RunE.retD Tryd.func17 caught_body ((caught_ret B6 w10).mono fun u' w'' h => ⟨h.1, _, .cell rfl (.agg Tryd.tOk rfl rfl rfl (h.2 ▸ Z4).row) (.tmp rfl (.cell rfl (.scalar Tryd.tOk rfl rfl (Blk.cell (h.2 ▸ Z6) rfl)) .nil)), ⟨_, _, rfl, h.2 ▸ hu2, h.2 ▸ hL2⟩, h.2 ▸ X⟩)
end Go.Sg
end
section
/- Nonces: the reference's Make. -/
namespace Go.Rn
theorem ownsRow_two {w : World} {base base' : Nat} {e e' : TypeId} {sz n sz' n' : Nat} {v v' : Value} {xs xs' : List Value} (h : w.ownsRow base e sz v n xs) (h' : w.ownsRow base' e' sz' v' n' xs') (hne : e ≠ e') : ∀ k, v.ownBlock = some k → ¬ v'.ownBlock = some k := fun k hk hk' => by
  rcases h'.2 with ⟨rfl, -⟩ | ⟨g, c, cur, rfl, -, hg, -⟩
  · simp [Value.ownBlock] at hk'
  · simp [Value.ownBlock] at hk'
    subst hk'
    exact ownsRow_type h (cs := cur.toList) (t := e') (by unfold Blk; rw [hg]) (fun e => hne e.symm) _ hk rfl
end Go.Rn
namespace Go.Sg
open Go.Rn Go.Proofs Go.Non Go.Rec Go.RowKit Go.Dev Go.Sha
attribute [local irreducible] Go.Rn.RetsX Go.Rn.RunLN Go.Rn.AsyN Go.Rn.RunL Go.Rn.RunE Go.Rn.Asy Go.Rn.OpV Go.Rn.OpE Go.Rn.ExecE
set_option maxHeartbeats 2000000 in
theorem rmake41_ok (b : Book) (v : Value) (n : Int) (w : World) (hv : LI' w v b.left) (hl : b.left.length < 9223372036854775808) :
    Rets Tryd.prog 18 [.agg (bkV b v).toArray, .int .i64 n] w fun r w' => (∃ u l, r = .tuple #[.agg (bkV (makeB b n) u).toArray, l, .int .i64 (makeE b n)] ∧ LI' w' u (makeB b n).left ∧ LP w' l (makeL b n)) ∧ Ext w w' := by
  obtain ⟨dv, cv, rfl⟩ := isSl_slice hv
  have c1 := fun w h => rright41_ok b (.slice dv b.left.length cv) w h hl
  refine RetsX.of (nt := 63) Tryd.func18 (by kernel_rfl) rfl rfl (by simp) (by simp only [argEnv]; rfl) ?_
  have X := ExtB.refl (fun _ => False) w
  repeat' (first | refine RunE.seq ?_ | refine RunE.region ?_)
  refine RunL.box rfl rfl rfl fun B2 w2_ a_ => ?_
  have Z2 : Blk w2_ B2 (bkV b (.slice dv b.left.length cv)) 24 := a_.at_
  have gB2 := a_.ge X
  replace X := X.trans a_.ext
  clear a_
  skip
  refine RunL.alloc Tryd.tOk rfl rfl rfl fun B4 w4_ a_ => ?_
  have Z4 : Blk w4_ B4 (bk0) 24 := a_.at_
  have gB4 := a_.ge X
  have n2_4 : B2 ≠ B4 := by have := Z2.lt; have := a_.eq; omega
  have n4_2 : B4 ≠ B2 := Ne.symm n2_4
  replace Z2 := Z2.up a_.ext
  replace X := X.trans a_.ext
  clear a_
  repeat' (first | (with_reducible refine RunLN.chk ?_; refine RunLN.int (by (first | (refine wr_i64 ?_ ?_; omega; omega) | (refine wm_i64 ?_; omega) | (refine wq_i64 ?_ ?_ ?_; omega; omega; omega) | rfl)) ?_) | refine RunLN.any ?_ | refine RunL.ev Tryd.tOk rfl rfl rfl ?_ | refine RunL.evV rfl rfl rfl (OpV.loadN Tryd.tOk rfl rfl rfl rfl (Blk.row Z2)) ?_ | refine RunE.seq ?_ | refine RunE.region ?_ | refine RunL.nil ?_)
  refine RunL.call rfl rfl rfl (c1 _ (hv.up X)) ?_
  rintro _ _ ⟨rfl, Xa_⟩
  replace Z2 := Z2.up Xa_
  replace Z4 := Z4.up Xa_
  replace X := X.trans Xa_
  clear Xa_
  rcases makeE_cases b n with ⟨hr, hE⟩ | ⟨hr, hd, hE⟩ | ⟨hr, hd, ha, hE⟩ | ⟨hr, hd, ha, hE⟩
  · obtain ⟨hB, hD⟩ := make_bad (b := b) (n := n) (by rw [hE]; decide)
    rw [hB, hD, hE, hr]
    repeat' (first | with_reducible refine RunLN.boolT rfl ?_ | refine RunLN.any ?_ | refine RunL.ev Tryd.tOk rfl rfl rfl ?_ | refine RunE.condT rfl rfl ?_ | refine RunE.seq ?_ | refine RunE.region ?_ | refine RunL.nil ?_)
    refine RunL.store Tryd.tOk rfl rfl rfl rfl rfl Z4 rfl rfl fun w_ t_ => ?_
    replace X := X.own t_.ext gB4
    replace Z4 : Blk w_ B4 (bk0) 24 := t_.at_
    clear t_
    repeat' (first | (with_reducible refine RunLN.chk ?_; refine RunLN.int (by (first | (refine wr_i64 ?_ ?_; omega; omega) | (refine wm_i64 ?_; omega) | (refine wq_i64 ?_ ?_ ?_; omega; omega; omega) | rfl)) ?_) | refine RunLN.any ?_ | refine RunL.ev Tryd.tOk rfl rfl rfl ?_ | refine RunL.nil ?_)
    exact RunE.retFn Tryd.func18 (.cell rfl (.agg Tryd.tOk rfl rfl rfl Z4.row) (.tmp rfl (.tmp rfl .nil))) ⟨⟨_, _, rfl, IsSl.nil, IsSl.nil⟩, X⟩
  · obtain ⟨hB, hD⟩ := make_bad (b := b) (n := n) (by rw [hE]; decide)
    rw [hB, hD, hE, hr]
    repeat' (first | with_reducible refine RunLN.boolF rfl ?_ | (with_reducible refine RunLN.decT ?_ ?_; focus omega) | (with_reducible refine RunLN.chk ?_; refine RunLN.int (by (first | (refine wr_i64 ?_ ?_; omega; omega) | (refine wm_i64 ?_; omega) | (refine wq_i64 ?_ ?_ ?_; omega; omega; omega) | rfl)) ?_) | refine RunLN.any ?_ | refine RunL.ev Tryd.tOk rfl rfl rfl ?_ | refine RunE.condT rfl rfl ?_ | refine RunE.condF rfl rfl ?_ | refine RunE.seq ?_ | refine RunE.region ?_ | refine RunL.nil ?_ | refine RunE.skip ?_)
    refine RunL.store Tryd.tOk rfl rfl rfl rfl rfl Z4 rfl rfl fun w_ t_ => ?_
    replace X := X.own t_.ext gB4
    replace Z4 : Blk w_ B4 (bk0) 24 := t_.at_
    clear t_
    repeat' (first | (with_reducible refine RunLN.chk ?_; refine RunLN.int (by (first | (refine wr_i64 ?_ ?_; omega; omega) | (refine wm_i64 ?_; omega) | (refine wq_i64 ?_ ?_ ?_; omega; omega; omega) | rfl)) ?_) | refine RunLN.any ?_ | refine RunL.ev Tryd.tOk rfl rfl rfl ?_ | refine RunL.nil ?_)
    exact RunE.retFn Tryd.func18 (.cell rfl (.agg Tryd.tOk rfl rfl rfl Z4.row) (.tmp rfl (.tmp rfl .nil))) ⟨⟨_, _, rfl, IsSl.nil, IsSl.nil⟩, X⟩
  · obtain ⟨hB, hD⟩ := make_bad (b := b) (n := n) (by rw [hE]; decide)
    have hnum := (rtB_inv hr).1
    rw [hB, hD, hE, hr]
    repeat' (first | with_reducible refine RunLN.boolF rfl ?_ | (with_reducible refine RunLN.decT ?_ ?_; focus omega) | (with_reducible refine RunLN.decF ?_ ?_; focus omega) | (with_reducible refine RunLN.chk ?_; refine RunLN.int (by (first | (refine wr_i64 ?_ ?_; omega; omega) | (refine wm_i64 ?_; omega) | (refine wq_i64 ?_ ?_ ?_; omega; omega; omega) | rfl)) ?_) | refine RunLN.any ?_ | refine RunL.ev Tryd.tOk rfl rfl rfl ?_ | refine RunL.evV rfl rfl rfl (OpV.load1 Tryd.tOk rfl rfl rfl (Blk.cell Z2 rfl)) ?_ | refine RunE.condT rfl rfl ?_ | refine RunE.condF rfl rfl ?_ | refine RunE.seq ?_ | refine RunE.region ?_ | refine RunL.nil ?_ | refine RunE.skip ?_)
    refine RunL.store Tryd.tOk rfl rfl rfl rfl rfl Z4 rfl rfl fun w_ t_ => ?_
    replace X := X.own t_.ext gB4
    replace Z4 : Blk w_ B4 (bk0) 24 := t_.at_
    clear t_
    repeat' (first | (with_reducible refine RunLN.chk ?_; refine RunLN.int (by (first | (refine wr_i64 ?_ ?_; omega; omega) | (refine wm_i64 ?_; omega) | (refine wq_i64 ?_ ?_ ?_; omega; omega; omega) | rfl)) ?_) | refine RunLN.any ?_ | refine RunL.ev Tryd.tOk rfl rfl rfl ?_ | refine RunL.nil ?_)
    exact RunE.retFn Tryd.func18 (.cell rfl (.agg Tryd.tOk rfl rfl rfl Z4.row) (.tmp rfl (.tmp rfl .nil))) ⟨⟨_, _, rfl, IsSl.nil, IsSl.nil⟩, X⟩
  · obtain ⟨N, rfl⟩ : ∃ N : Nat, n = (N : Int) := ⟨n.toNat, by omega⟩
    obtain ⟨hB, hD⟩ := make_good hE rfl
    obtain ⟨hnum, hs, hrange, hle⟩ := rtB_inv hr
    have hlen := rtB_len hr
    rw [hB, hD, hE, hr]
    repeat' (first | with_reducible refine RunLN.boolF rfl ?_ | (with_reducible refine RunLN.decF ?_ ?_; focus omega) | (with_reducible refine RunLN.chk ?_; refine RunLN.int (by (first | (refine wr_i64 ?_ ?_; omega; omega) | (refine wm_i64 ?_; omega) | (refine wq_i64 ?_ ?_ ?_; omega; omega; omega) | rfl)) ?_) | refine RunLN.any ?_ | refine RunL.ev Tryd.tOk rfl rfl rfl ?_ | refine RunL.evV rfl rfl rfl (OpV.load1 Tryd.tOk rfl rfl rfl (Blk.cell Z2 rfl)) ?_ | refine RunL.evV rfl rfl rfl (OpV.loadN Tryd.tOk rfl rfl rfl rfl (Blk.row Z2)) ?_ | refine RunE.condF rfl rfl ?_ | refine RunE.seq ?_ | refine RunE.region ?_ | refine RunL.nil ?_ | refine RunE.skip ?_)
    refine RunL.alloc Tryd.tOk rfl rfl rfl fun B7 w7_ a_ => ?_
    have Z7 : Blk w7_ B7 (bk0) 24 := a_.at_
    have gB7 := a_.ge X
    have n2_7 : B2 ≠ B7 := by have := Z2.lt; have := a_.eq; omega
    have n7_2 : B7 ≠ B2 := Ne.symm n2_7
    have n4_7 : B4 ≠ B7 := by have := Z4.lt; have := a_.eq; omega
    have n7_4 : B7 ≠ B4 := Ne.symm n4_7
    replace Z2 := Z2.up a_.ext
    replace Z4 := Z4.up a_.ext
    replace X := X.trans a_.ext
    clear a_
    skip
    refine RunL.store Tryd.tOk rfl rfl rfl rfl rfl Z7 rfl rfl fun w_ t_ => ?_
    replace X := X.own t_.ext gB7
    replace Z2 := Z2.other t_.ext n2_7
    replace Z4 := Z4.other t_.ext n4_7
    replace Z7 : Blk w_ B7 (bkV b (.slice dv b.left.length cv)) 24 := t_.at_
    clear t_
    repeat' (first | refine RunE.seq ?_ | refine RunE.region ?_ | refine RunL.nil ?_)
    refine RunL.ex rfl rfl rfl (OpE.buildSl Tryd.tOk [] rfl rfl rfl rfl rfl rfl (by simp)) ?_
    rintro _ w1 ⟨B, rfl, a1⟩
    have hO : w1.ownsRow w.heap.size 3 1 (.slice (some ⟨B, 0, none⟩) 0 0) 0 [] := ownsRow_added (cs := []) a1 (a1.ge X) rfl (by decide)
    have hne : ∀ k, (Value.slice (some ⟨B, 0, none⟩) 0 0).ownBlock = some k → k ≠ B2 ∧ k ≠ B4 ∧ k ≠ B7 := fun k hk => by
      have h1 := Z2.lt; have h2 := Z4.lt; have h3 := Z7.lt; have h4 := a1.eq
      simp [Value.ownBlock] at hk; omega
    replace Z2 := Z2.up a1.ext
    replace Z4 := Z4.up a1.ext
    replace Z7 := Z7.up a1.ext
    replace X := X.trans a1.ext
    clear a1
    repeat' (first | refine RunLN.any ?_ | refine RunL.ev Tryd.tOk rfl rfl rfl ?_ | refine RunL.evV rfl rfl rfl (OpV.load1 Tryd.tOk rfl rfl rfl (Blk.cell Z2 rfl)) ?_)
    have l2 := Z2.lt
    have l4 := Z4.lt
    have l7 := Z7.lt
    refine RunL.ex rfl rfl rfl (OpE.append' Tryd.tOk rfl rfl rfl rfl rfl rfl hO (hv.up X) (flat_plain encT b.left) (by show _ * 8 ≤ _; omega) (by omega) X.size) ?_
    rintro y w2 ⟨O2, E2, hown⟩
    have hney : ∀ k, y.ownBlock = some k → k ≠ B2 ∧ k ≠ B4 ∧ k ≠ B7 := fun k hk => ⟨fun e => (hne _ (hown _ hk (by omega))).1 e, fun e => (hne _ (hown _ hk (by omega))).2.1 e, fun e => (hne _ (hown _ hk (by omega))).2.2 e⟩
    replace X : Ext w w2 := X.write E2 (by intro k hk hlt; have := ownsRow_ge hO hk; omega)
    replace Z2 := Z2.ext E2 (fun h => (hne _ h).1 rfl)
    replace Z4 := Z4.ext E2 (fun h => (hne _ h).2.1 rfl)
    replace Z7 := Z7.ext E2 (fun h => (hne _ h).2.2 rfl)
    clear E2 hown hO hne
    rw [Nat.zero_add, List.nil_append] at O2
    obtain ⟨dy, cy, rfl⟩ := isSl_slice (isSl_own O2)
    repeat' (first | refine RunLN.any ?_ | refine RunL.ev Tryd.tOk rfl rfl rfl ?_)
    refine RunL.store Tryd.tOk rfl rfl rfl rfl rfl Z7 rfl rfl fun w3 t3 => ?_
    replace O2 := ownsRow_ext O2 t3.ext (fun k hk => (hney k hk).2.2)
    replace Z2 := Z2.other t3.ext n2_7
    replace Z4 := Z4.other t3.ext n4_7
    replace Z7 : Blk w3 B7 (bkV b (.slice dy b.left.length cy)) 24 := t3.at_
    replace X := X.own t3.ext gB7
    clear t3
    repeat' (first | refine RunE.seq ?_ | refine RunE.region ?_ | refine RunL.nil ?_)
    refine RunL.ex rfl rfl rfl (OpE.buildSl Tryd.tOk [] rfl rfl rfl rfl rfl rfl (by simp)) ?_
    rintro _ w4 ⟨BL, rfl, a4⟩
    have hL : w4.ownsRow w.heap.size 46 4 (.slice (some ⟨BL, 0, none⟩) 0 0) 0 [] := ownsRow_added (cs := []) a4 (a4.ge X) rfl (by decide)
    have hneL : ∀ k, (Value.slice (some ⟨BL, 0, none⟩) 0 0).ownBlock = some k → k ≠ B2 ∧ k ≠ B4 ∧ k ≠ B7 := fun k hk => by
      have h1 := Z2.lt; have h2 := Z4.lt; have h3 := Z7.lt; have h4 := a4.eq
      simp [Value.ownBlock] at hk; omega
    replace Z2 := Z2.up a4.ext
    replace Z4 := Z4.up a4.ext
    replace Z7 := Z7.up a4.ext
    replace O2 := ownsRow_ext O2 a4.ext (fun _ _ h => h)
    replace X := X.trans a4.ext
    clear a4
    repeat' (first | (with_reducible refine RunLN.chk ?_; refine RunLN.int (by (first | (refine wr_i64 ?_ ?_; omega; omega) | (refine wm_i64 ?_; omega) | (refine wq_i64 ?_ ?_ ?_; omega; omega; omega) | rfl)) ?_) | refine RunLN.any ?_ | refine RunL.ev Tryd.tOk rfl rfl rfl ?_ | refine RunE.seq ?_ | refine RunE.region ?_ | refine RunL.nil ?_ | refine RunE.block ?_)
    refine RunE.loop (ι := Nat × Value × Value) (fun s => [(1, .int .i64 (N : Int)), (2, .pointer (some ⟨B2, 0, none⟩)), (4, .pointer (some ⟨B4, 0, none⟩)), (7, .pointer (some ⟨B7, 0, none⟩)), (8, s.2.2), (9, .int .i64 (s.1 : Int))])
      (fun s w' => s.1 ≤ N ∧ w'.ownsRow w.heap.size 3 1 s.2.1 (b.left ++ upB b s.1).length (flat intC (b.left ++ upB b s.1)) ∧ w'.ownsRow w.heap.size 46 4 s.2.2 ((upB b s.1).map (pairN b.keeper b.seed)).length (flat Pr.cells ((upB b s.1).map (pairN b.keeper b.seed))) ∧
        (∀ k, s.2.1.ownBlock = some k → k ≠ B2 ∧ k ≠ B4 ∧ k ≠ B7) ∧ (∀ k, s.2.2.ownBlock = some k → k ≠ B2 ∧ k ≠ B4 ∧ k ≠ B7) ∧ Ext w w' ∧ Blk w' B2 (bkV b (.slice dv b.left.length cv)) 24 ∧ Blk w' B4 bk0 24 ∧ Blk w' B7 (bkV b s.2.1) 24) (fun s => N - s.1) (0, .slice dy b.left.length cy, .slice (some ⟨BL, 0, none⟩) 0 0) (by repeat (first | exact Sub.nil _ | refine Sub.cons rfl ?_))
      ⟨Nat.zero_le _, by simpa [upB] using O2, by simpa [upB, flat] using hL, hney, hneL, X, Z2, Z4, Z7⟩ ?_
    clear X Z2 Z4 Z7 O2 hL hney hneL l2 l4 l7
    rintro ⟨i, y, l⟩ w3 ⟨hi, hO, hL, hne, hneL, X, Z2, Z4, Z7⟩ again
    simp only at hi hO hL hne hneL Z7 again ⊢
    by_cases hlt : i < N
    · have e1 : b.left ++ upB b (i + 1) = (b.left ++ upB b i) ++ [b.next + (i : Int)] := by rw [upB_succ, List.append_assoc]
      have e2 : (upB b (i + 1)).map (pairN b.keeper b.seed) = (upB b i).map (pairN b.keeper b.seed) ++ [pairN b.keeper b.seed (b.next + (i : Int))] := by rw [upB_succ, List.map_append]; rfl
      have hfl : (b.left ++ upB b i).length ≤ 9000 := by rw [List.length_append, upB_length]; omega
      have hpl : ((upB b i).map (pairN b.keeper b.seed)).length ≤ 9000 := by rw [List.length_map, upB_length]; omega
      have next : ∀ (u' l' : Value) w', _ → _ → _ → _ → _ → _ → _ → _ → _ := fun u' l' w' a b c d e f g h => again (i + 1, u', l') w' (by simp only; omega) ⟨by simp only; omega, a, b, c, d, e, f, g, h⟩
      simp only [e1, e2] at next
      clear again e1 e2
      have c2 := fun w => rpairOf_ok b.keeper b.seed (b.next + (i : Int)) w (by omega) (by omega) (by omega)
      generalize b.left ++ upB b i = f at hO next hfl
      generalize (upB b i).map (pairN b.keeper b.seed) = ps at hL next hpl
      generalize pairN b.keeper b.seed (b.next + (i : Int)) = pr at c2 next
      obtain ⟨dy, cy, rfl⟩ := isSl_slice (isSl_own hO)
      obtain ⟨dl, cl, rfl⟩ := isSl_slice (isSl_own hL)
      repeat' (first | (with_reducible refine RunLN.decT ?_ ?_; focus omega) | (with_reducible refine RunLN.chk ?_; refine RunLN.int (by (first | (refine wr_i64 ?_ ?_; omega; omega) | (refine wm_i64 ?_; omega) | (refine wq_i64 ?_ ?_ ?_; omega; omega; omega) | rfl)) ?_) | refine RunLN.any ?_ | refine RunL.ev Tryd.tOk rfl rfl rfl ?_ | refine RunL.evV rfl rfl rfl (OpV.load1 Tryd.tOk rfl rfl rfl (Blk.cell Z2 rfl)) ?_ | refine RunL.evV rfl rfl rfl (OpV.load1 Tryd.tOk rfl rfl rfl (Blk.cell Z7 rfl)) ?_ | refine RunE.condT rfl rfl ?_ | refine RunE.seq ?_ | refine RunE.region ?_ | refine RunL.nil ?_ | refine RunE.block ?_ | refine RunE.skip ?_)
      refine RunL.ex rfl rfl rfl (OpE.buildSl Tryd.tOk [.int .i64 (b.next + (i : Int))] rfl rfl rfl rfl rfl rfl (by simp [Value.cells])) ?_
      rintro _ u4 ⟨Bx, rfl, a4⟩
      have hx1 : LI' u4 (.slice (some ⟨Bx, 0, none⟩) 1 1) [b.next + (i : Int)] := by
        have := isSl_added (n := 1) (sz := 1) a4 rfl
        simpa [LI', IsL, flat, cellsAll, Value.cells] using this
      replace hO := ownsRow_ext hO a4.ext (fun _ _ h => h)
      replace hL := ownsRow_ext hL a4.ext (fun _ _ h => h)
      replace X := X.trans a4.ext
      replace Z2 := Z2.up a4.ext
      replace Z4 := Z4.up a4.ext
      replace Z7 := Z7.up a4.ext
      have l2 := Z2.lt
      have l4 := Z4.lt
      have l7 := Z7.lt
      clear a4
      skip
      have htw := ownsRow_two hL hO (by decide)
      refine RunL.ex rfl rfl rfl (OpE.append' Tryd.tOk rfl rfl rfl rfl rfl rfl hO hx1 (flat_plain encT [_]) (by show _ * 8 ≤ _; simp only [List.length_singleton]; omega) (by simp only [List.length_singleton]; omega) X.size) ?_
      rintro u' u5 ⟨O5, E5, hown⟩
      have hne5 : ∀ k, u'.ownBlock = some k → k ≠ B2 ∧ k ≠ B4 ∧ k ≠ B7 := fun k hk => ⟨fun e => (hne _ (hown _ hk (by omega))).1 e, fun e => (hne _ (hown _ hk (by omega))).2.1 e, fun e => (hne _ (hown _ hk (by omega))).2.2 e⟩
      replace X : Ext w u5 := X.write E5 (by intro k hk hlt; have := ownsRow_ge hO hk; omega)
      replace Z2 := Z2.ext E5 (fun h => (hne _ h).1 rfl)
      replace Z4 := Z4.ext E5 (fun h => (hne _ h).2.1 rfl)
      replace Z7 := Z7.ext E5 (fun h => (hne _ h).2.2 rfl)
      replace hL := ownsRow_ext hL E5 htw
      clear E5 hown hx1 hO htw hne
      obtain ⟨b5, o5, c5, rfl, -, -, -⟩ := (isSl_own O5).held (by simp only [List.length_singleton]; omega)
      repeat' (first | refine RunLN.any ?_ | refine RunL.ev Tryd.tOk rfl rfl rfl ?_)
      refine RunL.store Tryd.tOk rfl rfl rfl rfl rfl Z7 rfl rfl fun w6 t6 => ?_
      replace O5 := ownsRow_ext O5 t6.ext (fun k hk => (hne5 k hk).2.2)
      replace hL := ownsRow_ext hL t6.ext (fun k hk => (hneL k hk).2.2)
      replace X := X.own t6.ext gB7
      replace Z2 := Z2.other t6.ext n2_7
      replace Z4 := Z4.other t6.ext n4_7
      replace Z7 : Blk w6 B7 (bkV b (.slice (some ⟨b5, o5, none⟩) (f.length + [b.next + (i : Int)].length) c5)) 24 := t6.at_
      clear t6
      repeat' (first | (with_reducible refine RunLN.chk ?_; refine RunLN.int (by (first | (refine wr_i64 ?_ ?_; omega; omega) | (refine wm_i64 ?_; omega) | (refine wq_i64 ?_ ?_ ?_; omega; omega; omega) | rfl)) ?_) | refine RunLN.any ?_ | refine RunL.ev Tryd.tOk rfl rfl rfl ?_ | refine RunL.evV rfl rfl rfl (OpV.load1 Tryd.tOk rfl rfl rfl (Blk.cell Z2 rfl)) ?_ | refine RunE.region ?_ | refine RunL.nil ?_)
      refine RunL.call rfl rfl rfl (c2 _) ?_
      rintro _ w7 ⟨rfl, Xa_⟩
      replace O5 := ownsRow_ext O5 Xa_ (fun _ _ h => h)
      replace hL := ownsRow_ext hL Xa_ (fun _ _ h => h)
      replace X := X.trans Xa_
      replace Z2 := Z2.up Xa_
      replace Z4 := Z4.up Xa_
      replace Z7 := Z7.up Xa_
      clear Xa_ c2
      skip
      refine RunL.ex rfl rfl rfl (OpE.buildSl Tryd.tOk [.agg pr.cells.toArray] rfl rfl rfl rfl rfl rfl (by simp [Value.cells])) ?_
      rintro _ w8 ⟨By, rfl, a8⟩
      have hp1 : LP w8 (.slice (some ⟨By, 0, none⟩) 1 1) [pr] := by
        have := isSl_added (n := 1) (sz := 4) a8 rfl
        simpa [LP, IsL, flat, cellsAll, Value.cells] using this
      replace O5 := ownsRow_ext O5 a8.ext (fun _ _ h => h)
      replace hL := ownsRow_ext hL a8.ext (fun _ _ h => h)
      replace X := X.trans a8.ext
      replace Z2 := Z2.up a8.ext
      replace Z4 := Z4.up a8.ext
      replace Z7 := Z7.up a8.ext
      have l2 := Z2.lt
      have l4 := Z4.lt
      have l7 := Z7.lt
      clear a8
      skip
      have htw := ownsRow_two O5 hL (by decide)
      refine RunL.ex rfl rfl rfl (OpE.append' Tryd.tOk rfl rfl rfl rfl rfl rfl hL hp1 (flat_plain encP [_]) (by show _ * 32 ≤ _; simp only [List.length_singleton]; omega) (by simp only [List.length_singleton]; omega) X.size) ?_
      rintro l' u9 ⟨O9, E9, hown⟩
      have hne9 : ∀ k, l'.ownBlock = some k → k ≠ B2 ∧ k ≠ B4 ∧ k ≠ B7 := fun k hk => ⟨fun e => (hneL _ (hown _ hk (by omega))).1 e, fun e => (hneL _ (hown _ hk (by omega))).2.1 e, fun e => (hneL _ (hown _ hk (by omega))).2.2 e⟩
      replace X : Ext w u9 := X.write E9 (by intro k hk hlt; have := ownsRow_ge hL hk; omega)
      replace Z2 := Z2.ext E9 (fun h => (hneL _ h).1 rfl)
      replace Z4 := Z4.ext E9 (fun h => (hneL _ h).2.1 rfl)
      replace Z7 := Z7.ext E9 (fun h => (hneL _ h).2.2 rfl)
      replace O5 := ownsRow_ext O5 E9 htw
      clear E9 hown hp1 hL htw hneL
      repeat' (first | (with_reducible refine RunLN.chk ?_; refine RunLN.int (by (first | (refine wr_i64 ?_ ?_; omega; omega) | (refine wm_i64 ?_; omega) | (refine wq_i64 ?_ ?_ ?_; omega; omega; omega) | rfl)) ?_) | refine RunLN.any ?_ | refine RunL.ev Tryd.tOk rfl rfl rfl ?_ | refine RunE.region ?_ | refine RunL.nil ?_ | refine RunE.inBlock ?_)
      exact RunE.weaken (by repeat (first | exact Sub.nil _ | refine Sub.cons rfl ?_)) (next _ _ _ (by rw [List.length_append, flat_append]; exact O5) (by rw [List.length_append, flat_append]; exact O9) hne5 hne9 X Z2 Z4 Z7)
    · obtain rfl : i = N := by omega
      obtain ⟨dy, cy, rfl⟩ := isSl_slice (isSl_own hO)
      clear again
      repeat' (first | (with_reducible refine RunLN.decF ?_ ?_; focus omega) | (with_reducible refine RunLN.chk ?_; refine RunLN.int (by (first | (refine wr_i64 ?_ ?_; omega; omega) | (refine wm_i64 ?_; omega) | (refine wq_i64 ?_ ?_ ?_; omega; omega; omega) | rfl)) ?_) | refine RunLN.any ?_ | refine RunL.ev Tryd.tOk rfl rfl rfl ?_ | refine RunL.evV rfl rfl rfl (OpV.load1 Tryd.tOk rfl rfl rfl (Blk.cell Z2 rfl)) ?_ | refine RunE.condF rfl rfl ?_ | refine RunE.seq ?_ | refine RunE.region ?_ | refine RunL.nil ?_ | refine RunE.exit rfl ?_)
      refine RunL.store Tryd.tOk rfl rfl rfl rfl rfl Z7 rfl rfl fun w6 t6 => ?_
      replace hO := ownsRow_ext hO t6.ext (fun k hk => (hne k hk).2.2)
      replace hL := ownsRow_ext hL t6.ext (fun k hk => (hneL k hk).2.2)
      replace X := X.own t6.ext gB7
      replace Z4 := Z4.other t6.ext n4_7
      replace Z7 : Blk w6 B7 (bkV (bookAt b i) (.slice dy (b.left ++ upB b i).length cy)) 24 := t6.at_
      clear t6
      repeat' (first | refine RunLN.any ?_ | refine RunL.ev Tryd.tOk rfl rfl rfl ?_ | refine RunL.evV rfl rfl rfl (OpV.loadN Tryd.tOk rfl rfl rfl rfl (Blk.row Z7)) ?_ | refine RunE.seq ?_ | refine RunE.region ?_ | refine RunL.nil ?_)
      refine RunL.store Tryd.tOk rfl rfl rfl rfl rfl Z4 rfl rfl fun w7 t7 => ?_
      replace hO := ownsRow_ext hO t7.ext (fun k hk => (hne k hk).2.1)
      replace hL := ownsRow_ext hL t7.ext (fun k hk => (hneL k hk).2.1)
      replace X := X.own t7.ext gB4
      replace Z4 : Blk w7 B4 (bkV (bookAt b i) (.slice dy (b.left ++ upB b i).length cy)) 24 := t7.at_
      clear t7
      repeat' (first | (with_reducible refine RunLN.chk ?_; refine RunLN.int (by (first | (refine wr_i64 ?_ ?_; omega; omega) | (refine wm_i64 ?_; omega) | (refine wq_i64 ?_ ?_ ?_; omega; omega; omega) | rfl)) ?_) | refine RunLN.any ?_ | refine RunL.ev Tryd.tOk rfl rfl rfl ?_ | refine RunL.nil ?_)
      exact RunE.retFn Tryd.func18 (.cell rfl (.agg Tryd.tOk rfl rfl rfl Z4.row) (.tmp rfl (.tmp rfl .nil))) ⟨⟨_, _, rfl, isSl_own hO, isSl_own hL⟩, X⟩
end Go.Sg
end
section
/- Nonces: the reference's Take. -/
namespace Go.Non
theorem filter_all {no : Int} {l : List Int} : (l.filter fun x => decide (x ≠ no)).length = l.length ↔ (l.any fun x => decide (x = no)) = false := by
  rw [List.length_filter_eq_length_iff, List.any_eq_false]
  simp
theorem filter_snoc {no x : Int} {l : List Int} : ((l ++ [x]).filter fun x => decide (x ≠ no)) = (l.filter fun x => decide (x ≠ no)) ++ (if x = no then [] else [x]) := by
  rw [List.filter_append]
  congr 1
  by_cases h : x = no <;> simp [h]
end Go.Non
namespace Go.Sg
open Go.Rn Go.Proofs Go.Non Go.Rec Go.RowKit Go.Dev Go.Sha
attribute [local irreducible] Go.Rn.RetsX Go.Rn.RunLN Go.Rn.AsyN Go.Rn.RunL Go.Rn.RunE Go.Rn.Asy Go.Rn.OpV Go.Rn.OpE Go.Rn.ExecE
set_option maxHeartbeats 2000000 in
theorem rtake41_ok (b : Book) (v : Value) (no doc : Int) (w : World) (hv : LI' w v b.left) (hl : b.left.length < 9223372036854775808) :
    Rets Tryd.prog 22 [.agg (bkV b v).toArray, .int .i64 no, .int .i64 doc] w fun r w' => (∃ u, r = .tuple #[.agg (bkV (takeB b no doc) u).toArray, .int .i64 (takeD b no doc 0), .int .i64 (takeD b no doc 1), .int .i64 (takeE b no doc)] ∧ LI' w' u (takeB b no doc).left) ∧ Ext w w' := by
  obtain ⟨dv, cv, rfl⟩ := isSl_slice hv
  have c1 := fun w h => rright41_ok b (.slice dv b.left.length cv) w h hl
  refine RetsX.of (nt := 72) Tryd.func22 (by kernel_rfl) rfl rfl (by simp) (by simp only [argEnv]; rfl) ?_
  have X := ExtB.refl (fun _ => False) w
  repeat' (first | refine RunE.seq ?_ | refine RunE.region ?_)
  refine RunL.box rfl rfl rfl fun B3 w3_ a_ => ?_
  have Z3 : Blk w3_ B3 (bkV b (.slice dv b.left.length cv)) 24 := a_.at_
  have gB3 := a_.ge X
  replace X := X.trans a_.ext
  clear a_
  skip
  refine RunL.alloc Tryd.tOk rfl rfl rfl fun B6 w6_ a_ => ?_
  have Z6 : Blk w6_ B6 (bk0) 24 := a_.at_
  have gB6 := a_.ge X
  have n3_6 : B3 ≠ B6 := by have := Z3.lt; have := a_.eq; omega
  have n6_3 : B6 ≠ B3 := Ne.symm n3_6
  replace Z3 := Z3.up a_.ext
  replace X := X.trans a_.ext
  clear a_
  repeat' (first | (with_reducible refine RunLN.chk ?_; refine RunLN.int (by (first | (refine wr_i64 ?_ ?_; omega; omega) | (refine wm_i64 ?_; omega) | (refine wq_i64 ?_ ?_ ?_; omega; omega; omega) | rfl)) ?_) | refine RunLN.any ?_ | refine RunL.ev Tryd.tOk rfl rfl rfl ?_ | refine RunL.evV rfl rfl rfl (OpV.loadN Tryd.tOk rfl rfl rfl rfl (Blk.row Z3)) ?_ | refine RunE.seq ?_ | refine RunE.region ?_ | refine RunL.nil ?_)
  refine RunL.call rfl rfl rfl (c1 _ (hv.up X)) ?_
  rintro _ _ ⟨rfl, Xa_⟩
  replace Z3 := Z3.up Xa_
  replace Z6 := Z6.up Xa_
  replace X := X.trans Xa_
  clear Xa_
  have hcs := takeE_cases b no doc
  cases hr : rtB b with
  | false =>
    have hE : takeE b no doc = 410 := by unfold takeE; rw [hr]; rfl
    obtain ⟨hB, hD⟩ := take_bad (b := b) (no := no) (doc := doc) (by rw [hE]; decide)
    rw [hB, hD, hD, hE]
    repeat' (first | with_reducible refine RunLN.boolT rfl ?_ | refine RunLN.any ?_ | refine RunL.ev Tryd.tOk rfl rfl rfl ?_ | refine RunE.condT rfl rfl ?_ | refine RunE.seq ?_ | refine RunE.region ?_ | refine RunL.nil ?_)
    refine RunL.store Tryd.tOk rfl rfl rfl rfl rfl Z6 rfl rfl fun w_ t_ => ?_
    replace X := X.own t_.ext gB6
    replace Z6 : Blk w_ B6 (bk0) 24 := t_.at_
    clear t_
    repeat' (first | (with_reducible refine RunLN.chk ?_; refine RunLN.int (by (first | (refine wr_i64 ?_ ?_; omega; omega) | (refine wm_i64 ?_; omega) | (refine wq_i64 ?_ ?_ ?_; omega; omega; omega) | rfl)) ?_) | refine RunL.ev Tryd.tOk rfl rfl rfl ?_ | refine RunL.nil ?_)
    exact RunE.retFn Tryd.func22 (.cell rfl (.agg Tryd.tOk rfl rfl rfl Z6.row) (.tmp rfl (.tmp rfl (.tmp rfl .nil)))) ⟨⟨_, rfl, IsSl.nil⟩, X⟩
  | true =>
    by_cases hd : 0 ≤ doc ∧ doc < 4096
    · obtain ⟨hnum, hs, hrange, hle⟩ := rtB_inv hr
      obtain ⟨hd1, hd2⟩ := hd
      repeat' (first | with_reducible refine RunLN.boolF rfl ?_ | (with_reducible refine RunLN.decF ?_ ?_; focus omega) | (with_reducible refine RunLN.chk ?_; refine RunLN.int (by (first | (refine wr_i64 ?_ ?_; omega; omega) | (refine wm_i64 ?_; omega) | (refine wq_i64 ?_ ?_ ?_; omega; omega; omega) | rfl)) ?_) | refine RunLN.any ?_ | refine RunL.ev Tryd.tOk rfl rfl rfl ?_ | refine RunL.evV rfl rfl rfl (OpV.loadN Tryd.tOk rfl rfl rfl rfl (Blk.row Z3)) ?_ | refine RunE.condF rfl rfl ?_ | refine RunE.seq ?_ | refine RunE.region ?_ | refine RunL.nil ?_ | refine RunE.skip ?_)
      refine RunL.alloc Tryd.tOk rfl rfl rfl fun B10 w10_ a_ => ?_
      have Z10 : Blk w10_ B10 (bk0) 24 := a_.at_
      have gB10 := a_.ge X
      have n3_10 : B3 ≠ B10 := by have := Z3.lt; have := a_.eq; omega
      have n10_3 : B10 ≠ B3 := Ne.symm n3_10
      have n6_10 : B6 ≠ B10 := by have := Z6.lt; have := a_.eq; omega
      have n10_6 : B10 ≠ B6 := Ne.symm n6_10
      replace Z3 := Z3.up a_.ext
      replace Z6 := Z6.up a_.ext
      replace X := X.trans a_.ext
      clear a_
      skip
      refine RunL.store Tryd.tOk rfl rfl rfl rfl rfl Z10 rfl rfl fun w_ t_ => ?_
      replace X := X.own t_.ext gB10
      replace Z3 := Z3.other t_.ext n3_10
      replace Z6 := Z6.other t_.ext n6_10
      replace Z10 : Blk w_ B10 (bkV b (.slice dv b.left.length cv)) 24 := t_.at_
      clear t_
      repeat' (first | refine RunE.seq ?_ | refine RunE.region ?_ | refine RunL.nil ?_)
      refine RunL.ex rfl rfl rfl (OpE.buildSl Tryd.tOk [] rfl rfl rfl rfl rfl rfl (by simp)) ?_
      rintro _ w1 ⟨B, rfl, a1⟩
      have hO : w1.ownsRow w.heap.size 3 1 (.slice (some ⟨B, 0, none⟩) 0 0) 0 [] := ownsRow_added (cs := []) a1 (a1.ge X) rfl (by decide)
      have hne : ∀ k, (Value.slice (some ⟨B, 0, none⟩) 0 0).ownBlock = some k → k ≠ B3 ∧ k ≠ B6 ∧ k ≠ B10 := fun k hk => by
        have h1 := Z3.lt; have h2 := Z6.lt; have h3 := Z10.lt; have h4 := a1.eq
        simp [Value.ownBlock] at hk; omega
      replace Z3 := Z3.up a1.ext
      replace Z6 := Z6.up a1.ext
      replace Z10 := Z10.up a1.ext
      replace X := X.trans a1.ext
      clear a1
      repeat' (first | refine RunLN.any ?_ | refine RunL.ev Tryd.tOk rfl rfl rfl ?_)
      refine RunL.store Tryd.tOk rfl rfl rfl rfl rfl Z10 rfl rfl fun w2 t2 => ?_
      replace hO := ownsRow_ext hO t2.ext (fun k hk => (hne k hk).2.2)
      replace Z3 := Z3.other t2.ext n3_10
      replace Z6 := Z6.other t2.ext n6_10
      replace Z10 : Blk w2 B10 (bkV b (.slice (some ⟨B, 0, none⟩) 0 0)) 24 := t2.at_
      replace X := X.own t2.ext gB10
      clear t2
      repeat' (first | (with_reducible refine RunLN.chk ?_; refine RunLN.int (by (first | (refine wr_i64 ?_ ?_; omega; omega) | (refine wm_i64 ?_; omega) | (refine wq_i64 ?_ ?_ ?_; omega; omega; omega) | rfl)) ?_) | refine RunL.ev Tryd.tOk rfl rfl rfl ?_ | refine RunE.seq ?_ | refine RunE.region ?_ | refine RunL.nil ?_ | refine RunE.block ?_)
      refine RunE.loop (ι := Nat × Value) (fun s => [(1, .int .i64 no), (3, .pointer (some ⟨B3, 0, none⟩)), (6, .pointer (some ⟨B6, 0, none⟩)), (10, .pointer (some ⟨B10, 0, none⟩)), (11, .int .i64 (s.1 : Int))])
        (fun s w' => s.1 ≤ b.left.length ∧ w'.ownsRow w.heap.size 3 1 s.2 ((b.left.take s.1).filter fun x => decide (x ≠ no)).length (flat intC ((b.left.take s.1).filter fun x => decide (x ≠ no))) ∧ (∀ k, s.2.ownBlock = some k → k ≠ B3 ∧ k ≠ B6 ∧ k ≠ B10) ∧ Ext w w' ∧ Blk w' B3 (bkV b (.slice dv b.left.length cv)) 24 ∧ Blk w' B6 bk0 24 ∧ Blk w' B10 (bkV b s.2) 24) (fun s => b.left.length - s.1) (0, .slice (some ⟨B, 0, none⟩) 0 0) (by repeat (first | exact Sub.nil _ | refine Sub.cons rfl ?_))
        ⟨Nat.zero_le _, hO, hne, X, Z3, Z6, Z10⟩ ?_
      clear X Z3 Z6 Z10 hO hne
      rintro ⟨i, y⟩ w3 ⟨hi, hO, hne, X, Z3, Z6, Z10⟩ again
      simp only at hi hO hne Z10 again ⊢
      by_cases hlt : i < b.left.length
      · obtain ⟨b1, o1, c1, heq, hr1, -⟩ := isL_held hv hlt
        injection heq with e1 e2 e3
        subst e1; subst e3
        obtain ⟨x, hx⟩ : ∃ x, b.left[i]? = some x := ⟨_, List.getElem?_eq_getElem hlt⟩
        have hrx := flat_row encT hr1 hx
        have e1 : (b.left.take (i + 1)).filter (fun x => decide (x ≠ no)) = (b.left.take i).filter (fun x => decide (x ≠ no)) ++ (if x = no then [] else [x]) := by
          rw [List.take_add_one, hx]; exact filter_snoc
        have hfl : ((b.left.take i).filter fun x => decide (x ≠ no)).length ≤ 4096 := Nat.le_trans (List.length_filter_le _ _) (by simp; omega)
        have next : ∀ (u' : Value) w', _ → _ → _ → _ → _ → _ → _ := fun u' w' a b c d e f => again (i + 1, u') w' (by simp only; omega) ⟨by simp only; omega, a, b, c, d, e, f⟩
        simp only [e1] at next
        clear again e1
        generalize (b.left.take i).filter (fun x => decide (x ≠ no)) = f at hO next hfl
        by_cases hxn : x = no
        · rw [if_pos hxn, List.append_nil] at next
          repeat' (first | (with_reducible refine RunLN.decT ?_ ?_; focus omega) | (with_reducible refine RunLN.neF ?_ ?_; focus omega) | (with_reducible refine RunLN.chk ?_; refine RunLN.int (by (first | (refine wr_i64 ?_ ?_; omega; omega) | (refine wm_i64 ?_; omega) | (refine wq_i64 ?_ ?_ ?_; omega; omega; omega) | rfl)) ?_) | refine RunLN.any ?_ | refine RunL.ev Tryd.tOk rfl rfl rfl ?_ | refine RunL.evV rfl rfl rfl (OpV.load1 Tryd.tOk rfl rfl rfl (Blk.cell Z3 rfl)) ?_ | refine RunL.evV rfl rfl rfl (OpV.load1 Tryd.tOk rfl rfl rfl ((hrx.up X) 0 _ rfl)) ?_ | refine RunL.evV rfl rfl rfl (OpV.indexS Tryd.tOk _ rfl rfl rfl rfl (by omega)) ?_ | refine RunE.condT rfl rfl ?_ | refine RunE.condF rfl rfl ?_ | refine RunE.seq ?_ | refine RunE.region ?_ | refine RunL.nil ?_ | refine RunE.block ?_ | refine RunE.inBlock ?_ | refine RunE.skip ?_)
          exact RunE.weaken (by repeat (first | exact Sub.nil _ | refine Sub.cons rfl ?_)) (next y _ hO hne X Z3 Z6 Z10)
        · rw [if_neg hxn] at next
          obtain ⟨dy, cy, rfl⟩ := isSl_slice (isSl_own hO)
          repeat' (first | (with_reducible refine RunLN.decT ?_ ?_; focus omega) | (with_reducible refine RunLN.neT ?_ ?_; focus omega) | (with_reducible refine RunLN.chk ?_; refine RunLN.int (by (first | (refine wr_i64 ?_ ?_; omega; omega) | (refine wm_i64 ?_; omega) | (refine wq_i64 ?_ ?_ ?_; omega; omega; omega) | rfl)) ?_) | refine RunLN.any ?_ | refine RunL.ev Tryd.tOk rfl rfl rfl ?_ | refine RunL.evV rfl rfl rfl (OpV.load1 Tryd.tOk rfl rfl rfl (Blk.cell Z3 rfl)) ?_ | refine RunL.evV rfl rfl rfl (OpV.load1 Tryd.tOk rfl rfl rfl ((hrx.up X) 0 _ rfl)) ?_ | refine RunL.evV rfl rfl rfl (OpV.indexS Tryd.tOk _ rfl rfl rfl rfl (by omega)) ?_ | refine RunE.condT rfl rfl ?_ | refine RunE.seq ?_ | refine RunE.region ?_ | refine RunL.nil ?_ | refine RunE.block ?_ | refine RunE.skip ?_)
          refine RunE.draw (fun _ => False) mix ?_
          intro wd_ Xd_
          repeat' (first | (with_reducible refine AsyN.chk ?_; refine AsyN.int (by (first | (refine wr_i64 ?_ ?_; omega; omega) | (refine wm_i64 ?_; omega) | (refine wq_i64 ?_ ?_ ?_; omega; omega; omega) | rfl)) ?_) | refine AsyN.any ?_ | refine Asy.ev Tryd.tOk rfl rfl rfl ?_ | refine Asy.evV rfl rfl rfl rfl (fun _ X_ => OpV.load1 Tryd.tOk rfl rfl rfl (Blk.cell (Z3.up (Xd_.trans X_)) rfl)) ?_ | refine Asy.evV rfl rfl rfl rfl (fun _ X_ => OpV.load1 Tryd.tOk rfl rfl rfl (Blk.cell (Z10.up (Xd_.trans X_)) rfl)) ?_ | refine Asy.evV rfl rfl rfl rfl (fun _ X_ => OpV.load1 Tryd.tOk rfl rfl rfl ((hrx.up (X.trans (Xd_.trans X_))) 0 _ rfl)) ?_ | refine Asy.evV rfl rfl rfl rfl (fun _ X_ => OpV.indexS Tryd.tOk _ rfl rfl rfl rfl (by omega)) ?_)
          refine Asy.sat0 (fun u w' => ∃ B, u = .slice (some ⟨B, 0, none⟩) 1 1 ∧ LI' w' u [x]) rfl rfl rfl rfl (fun u w' w'' _ e h => ?_) (fun w' _ => ?_) ?_
          · obtain ⟨B, h1, h2⟩ := h; exact ⟨B, h1, h2.up e⟩
          · refine OpE.mono (OpE.buildSl Tryd.tOk [.int .i64 x] rfl rfl rfl rfl rfl rfl (by simp [Value.cells])) ?_ fun _ _ h => h
            rintro _ w'' ⟨B, rfl, a⟩
            refine ⟨a.ext, B, rfl, ?_⟩
            have := isSl_added (n := 1) (sz := 1) a rfl
            simpa [LI', IsL, flat, cellsAll, Value.cells] using this
          refine Asy.tail (by kernel_rfl) ?_
          intro we_ Xe_
          simp only [satsAll]
          rintro _ ⟨Bn, rfl, hx1⟩
          replace Xe_ := Xd_.trans Xe_
          clear Xd_
          replace hO := ownsRow_ext hO Xe_ (fun _ _ h => h)
          replace X := X.trans Xe_
          replace Z3 := Z3.up Xe_
          replace Z6 := Z6.up Xe_
          replace Z10 := Z10.up Xe_
          have l3 := Z3.lt
          have l6 := Z6.lt
          have l10 := Z10.lt
          clear Xe_
          refine RunL.ex rfl rfl rfl (OpE.append' Tryd.tOk rfl rfl rfl rfl rfl rfl hO hx1 (flat_plain encT [x]) (by show _ * 8 ≤ _; simp only [List.length_singleton]; omega) (by simp only [List.length_singleton]; omega) X.size) ?_
          rintro u' u5 ⟨O5, E5, hown⟩
          have hne5 : ∀ k, u'.ownBlock = some k → k ≠ B3 ∧ k ≠ B6 ∧ k ≠ B10 := fun k hk => ⟨fun e => (hne _ (hown _ hk (by omega))).1 e, fun e => (hne _ (hown _ hk (by omega))).2.1 e, fun e => (hne _ (hown _ hk (by omega))).2.2 e⟩
          replace X : Ext w u5 := X.write E5 (by intro k hk hlt; have := ownsRow_ge hO hk; omega)
          replace Z3 := Z3.ext E5 (fun h => (hne _ h).1 rfl)
          replace Z6 := Z6.ext E5 (fun h => (hne _ h).2.1 rfl)
          replace Z10 := Z10.ext E5 (fun h => (hne _ h).2.2 rfl)
          clear E5 hown hx1 hO
          obtain ⟨b5, o5, c5, rfl, -, -, -⟩ := (isSl_own O5).held (by simp only [List.length_singleton]; omega)
          repeat' (first | refine RunLN.any ?_ | refine RunL.ev Tryd.tOk rfl rfl rfl ?_)
          refine RunL.store Tryd.tOk rfl rfl rfl rfl rfl Z10 rfl rfl fun w6 t6 => ?_
          replace O5 := ownsRow_ext O5 t6.ext (fun k hk => (hne5 k hk).2.2)
          replace X := X.own t6.ext gB10
          replace Z3 := Z3.other t6.ext n3_10
          replace Z6 := Z6.other t6.ext n6_10
          replace Z10 : Blk w6 B10 (bkV b (.slice (some ⟨b5, o5, none⟩) (f.length + [x].length) c5)) 24 := t6.at_
          clear t6
          repeat' (first | (with_reducible refine RunLN.chk ?_; refine RunLN.int (by (first | (refine wr_i64 ?_ ?_; omega; omega) | (refine wm_i64 ?_; omega) | (refine wq_i64 ?_ ?_ ?_; omega; omega; omega) | rfl)) ?_) | refine RunL.ev Tryd.tOk rfl rfl rfl ?_ | refine RunE.region ?_ | refine RunL.nil ?_ | refine RunE.inBlock ?_)
          exact RunE.weaken (by repeat (first | exact Sub.nil _ | refine Sub.cons rfl ?_)) (next _ _ (by rw [List.length_append, flat_append]; exact O5) hne5 X Z3 Z6 Z10)
      · obtain rfl : i = b.left.length := by omega
        rw [List.take_length] at hO
        obtain ⟨dy, cy, rfl⟩ := isSl_slice (isSl_own hO)
        clear again
        have hfa := filter_all (no := no) (l := b.left)
        have hfl : (b.left.filter fun x => decide (x ≠ no)).length ≤ b.left.length := List.length_filter_le _ _
        cases ha : (b.left.any fun x => decide (x = no)) with
        | false =>
          have hE : takeE b no doc = 411 := by unfold takeE; rw [hr, if_pos rfl, if_pos ⟨hd1, hd2⟩, ha]; rfl
          obtain ⟨hB, hD⟩ := take_bad (b := b) (no := no) (doc := doc) (by rw [hE]; decide)
          have hq := hfa.2 ha
          rw [hB, hD, hD, hE]
          repeat' (first | (with_reducible refine RunLN.decF ?_ ?_; focus omega) | (with_reducible refine RunLN.eqT ?_ ?_; focus omega) | (with_reducible refine RunLN.chk ?_; refine RunLN.int (by (first | (refine wr_i64 ?_ ?_; omega; omega) | (refine wm_i64 ?_; omega) | (refine wq_i64 ?_ ?_ ?_; omega; omega; omega) | rfl)) ?_) | refine RunLN.any ?_ | refine RunL.ev Tryd.tOk rfl rfl rfl ?_ | refine RunL.evV rfl rfl rfl (OpV.load1 Tryd.tOk rfl rfl rfl (Blk.cell Z3 rfl)) ?_ | refine RunL.evV rfl rfl rfl (OpV.load1 Tryd.tOk rfl rfl rfl (Blk.cell Z10 rfl)) ?_ | refine RunE.condT rfl rfl ?_ | refine RunE.condF rfl rfl ?_ | refine RunE.seq ?_ | refine RunE.region ?_ | refine RunL.nil ?_ | refine RunE.exit rfl ?_)
          refine RunL.store Tryd.tOk rfl rfl rfl rfl rfl Z6 rfl rfl fun w_ t_ => ?_
          replace X := X.own t_.ext gB6
          replace Z6 : Blk w_ B6 (bk0) 24 := t_.at_
          clear t_
          repeat' (first | (with_reducible refine RunLN.chk ?_; refine RunLN.int (by (first | (refine wr_i64 ?_ ?_; omega; omega) | (refine wm_i64 ?_; omega) | (refine wq_i64 ?_ ?_ ?_; omega; omega; omega) | rfl)) ?_) | refine RunL.ev Tryd.tOk rfl rfl rfl ?_ | refine RunL.nil ?_)
          exact RunE.retFn Tryd.func22 (.cell rfl (.agg Tryd.tOk rfl rfl rfl Z6.row) (.tmp rfl (.tmp rfl (.tmp rfl .nil)))) ⟨⟨_, rfl, IsSl.nil⟩, X⟩
        | true =>
          have hE : takeE b no doc = 0 := by unfold takeE; rw [hr, if_pos rfl, if_pos ⟨hd1, hd2⟩, ha]; rfl
          obtain ⟨hB, hD⟩ := take_good hE
          have hno := hrange no (List.mem_of_getElem? (found_at hs ha))
          have hq : (b.left.filter fun x => decide (x ≠ no)).length ≠ b.left.length := fun e => by have := hfa.1 e; rw [ha] at this; simp at this
          rw [hB, hD, hD, hE]
          have c2 := fun w => rnumbers_ok b.keeper b.seed no w (by omega) (by omega) (by omega)
          generalize numN b.keeper b.seed no 0 = n0 at *
          generalize numN b.keeper b.seed no 1 = n1 at *
          repeat' (first | (with_reducible refine RunLN.decF ?_ ?_; focus omega) | (with_reducible refine RunLN.eqF ?_ ?_; focus omega) | (with_reducible refine RunLN.chk ?_; refine RunLN.int (by (first | (refine wr_i64 ?_ ?_; omega; omega) | (refine wm_i64 ?_; omega) | (refine wq_i64 ?_ ?_ ?_; omega; omega; omega) | rfl)) ?_) | refine RunLN.any ?_ | refine RunL.ev Tryd.tOk rfl rfl rfl ?_ | refine RunL.evV rfl rfl rfl (OpV.load1 Tryd.tOk rfl rfl rfl (Blk.cell Z3 rfl)) ?_ | refine RunL.evV rfl rfl rfl (OpV.load1 Tryd.tOk rfl rfl rfl (Blk.cell Z10 rfl)) ?_ | refine RunE.condF rfl rfl ?_ | refine RunE.seq ?_ | refine RunE.region ?_ | refine RunL.nil ?_ | refine RunE.skip ?_ | refine RunE.exit rfl ?_)
          refine RunL.call rfl rfl rfl (c2 _) ?_
          rintro _ w7 ⟨rfl, Xa_⟩
          replace Z6 := Z6.up Xa_
          replace Z10 := Z10.up Xa_
          replace hO := ownsRow_ext hO Xa_ (fun _ _ h => h)
          replace X := X.trans Xa_
          clear Xa_
          repeat' (first | (with_reducible refine RunLN.chk ?_; refine RunLN.int (by (first | (refine wr_i64 ?_ ?_; omega; omega) | (refine wm_i64 ?_; omega) | (refine wq_i64 ?_ ?_ ?_; omega; omega; omega) | rfl)) ?_) | refine RunLN.any ?_ | refine RunL.ev Tryd.tOk rfl rfl rfl ?_ | refine RunL.evV rfl rfl rfl (OpV.loadN Tryd.tOk rfl rfl rfl rfl (Blk.row Z10)) ?_ | refine RunE.seq ?_ | refine RunE.region ?_ | refine RunL.nil ?_)
          refine RunL.store Tryd.tOk rfl rfl rfl rfl rfl Z6 rfl rfl fun w8 t8 => ?_
          replace hO := ownsRow_ext hO t8.ext (fun k hk => (hne k hk).2.1)
          replace X := X.own t8.ext gB6
          replace Z6 : Blk w8 B6 (bkV b (.slice dy (b.left.filter fun x => decide (x ≠ no)).length cy)) 24 := t8.at_
          clear t8
          repeat' (first | (with_reducible refine RunLN.chk ?_; refine RunLN.int (by (first | (refine wr_i64 ?_ ?_; omega; omega) | (refine wm_i64 ?_; omega) | (refine wq_i64 ?_ ?_ ?_; omega; omega; omega) | rfl)) ?_) | refine RunL.ev Tryd.tOk rfl rfl rfl ?_ | refine RunL.nil ?_)
          exact RunE.retFn Tryd.func22 (.cell rfl (.agg Tryd.tOk rfl rfl rfl Z6.row) (.tmp rfl (.tmp rfl (.tmp rfl .nil)))) ⟨⟨_, rfl, isSl_own hO⟩, X⟩
    · have hE : takeE b no doc = 1 := by unfold takeE; rw [hr, if_pos rfl, if_neg hd]
      obtain ⟨hB, hD⟩ := take_bad (b := b) (no := no) (doc := doc) (by rw [hE]; decide)
      rw [hB, hD, hD, hE]
      have hd' : doc < 0 ∨ (0 ≤ doc ∧ 4096 ≤ doc) := by omega
      rcases hd' with hd' | hd'
      · repeat' (first | with_reducible refine RunLN.boolT rfl ?_ | with_reducible refine RunLN.boolF rfl ?_ | (with_reducible refine RunLN.decT ?_ ?_; focus omega) | (with_reducible refine RunLN.chk ?_; refine RunLN.int (by (first | (refine wr_i64 ?_ ?_; omega; omega) | (refine wm_i64 ?_; omega) | (refine wq_i64 ?_ ?_ ?_; omega; omega; omega) | rfl)) ?_) | refine RunLN.any ?_ | refine RunL.ev Tryd.tOk rfl rfl rfl ?_ | refine RunL.unwantedD rfl rfl ?_ | refine RunE.condT rfl rfl ?_ | refine RunE.condF rfl rfl ?_ | refine RunE.seq ?_ | refine RunE.region ?_ | refine RunL.nil ?_ | refine RunE.skip ?_)
        refine RunL.store Tryd.tOk rfl rfl rfl rfl rfl Z6 rfl rfl fun w_ t_ => ?_
        replace X := X.own t_.ext gB6
        replace Z6 : Blk w_ B6 (bk0) 24 := t_.at_
        clear t_
        repeat' (first | (with_reducible refine RunLN.chk ?_; refine RunLN.int (by (first | (refine wr_i64 ?_ ?_; omega; omega) | (refine wm_i64 ?_; omega) | (refine wq_i64 ?_ ?_ ?_; omega; omega; omega) | rfl)) ?_) | refine RunL.ev Tryd.tOk rfl rfl rfl ?_ | refine RunL.nil ?_)
        exact RunE.retFn Tryd.func22 (.cell rfl (.agg Tryd.tOk rfl rfl rfl Z6.row) (.tmp rfl (.tmp rfl (.tmp rfl .nil)))) ⟨⟨_, rfl, IsSl.nil⟩, X⟩
      · repeat' (first | with_reducible refine RunLN.boolT rfl ?_ | with_reducible refine RunLN.boolF rfl ?_ | (with_reducible refine RunLN.decT ?_ ?_; focus omega) | (with_reducible refine RunLN.decF ?_ ?_; focus omega) | (with_reducible refine RunLN.chk ?_; refine RunLN.int (by (first | (refine wr_i64 ?_ ?_; omega; omega) | (refine wm_i64 ?_; omega) | (refine wq_i64 ?_ ?_ ?_; omega; omega; omega) | rfl)) ?_) | refine RunLN.any ?_ | refine RunL.ev Tryd.tOk rfl rfl rfl ?_ | refine RunE.condT rfl rfl ?_ | refine RunE.condF rfl rfl ?_ | refine RunE.seq ?_ | refine RunE.region ?_ | refine RunL.nil ?_ | refine RunE.skip ?_)
        refine RunL.store Tryd.tOk rfl rfl rfl rfl rfl Z6 rfl rfl fun w_ t_ => ?_
        replace X := X.own t_.ext gB6
        replace Z6 : Blk w_ B6 (bk0) 24 := t_.at_
        clear t_
        repeat' (first | (with_reducible refine RunLN.chk ?_; refine RunLN.int (by (first | (refine wr_i64 ?_ ?_; omega; omega) | (refine wm_i64 ?_; omega) | (refine wq_i64 ?_ ?_ ?_; omega; omega; omega) | rfl)) ?_) | refine RunL.ev Tryd.tOk rfl rfl rfl ?_ | refine RunL.nil ?_)
        exact RunE.retFn Tryd.func22 (.cell rfl (.agg Tryd.tOk rfl rfl rfl Z6.row) (.tmp rfl (.tmp rfl (.tmp rfl .nil)))) ⟨⟨_, rfl, IsSl.nil⟩, X⟩
end Go.Sg
end
section
/- Nonces: the examples of the chapter. -/
namespace Go.Non
open Go.Sg Go.Rn
def x0 : Book := ⟨5, 77, 0, []⟩
def x2 : Book := ⟨5, 77, 2, [0, 1]⟩
def x1 : Book := ⟨5, 77, 2, [0]⟩
def xb : Book := ⟨5, 77, 2, []⟩
def x3 : Book := ⟨5, 77, 3, [2]⟩
theorem pairN_cells (k s no : Int) : (pairN k s no).cells = [.int .i64 k, .int .i64 no, .int .i64 (powC 4 (numN k s no 0)), .int .i64 (powC 4 (numN k s no 1))] := by
  unfold pairN
  generalize powC 4 (numN k s no 0) = a
  generalize powC 4 (numN k s no 1) = c
  rfl
theorem y1 : newE 5 77 = 0 ∧ newB 5 77 = x0 := ⟨by decide, rfl⟩
theorem y2 : newE 64 0 = 1 := by decide
theorem y3 : newE 0 (-1) = 1 := by decide
theorem y4 : makeE x0 0 = 0 ∧ makeB x0 0 = x0 ∧ makeL x0 0 = [] := ⟨by decide, (make_good (N := 0) (by decide) rfl).1, (make_good (N := 0) (by decide) rfl).2⟩
theorem y5 : makeE x0 2 = 0 ∧ makeB x0 2 = x2 ∧ makeL x0 2 = [pairN 5 77 0, pairN 5 77 1] := by
  obtain ⟨h1, h2⟩ := make_good (b := x0) (n := 2) (N := 2) (by decide) rfl
  refine ⟨by decide, h1.trans rfl, h2.trans ?_⟩
  rw [show upB x0 2 = [0, 1] by decide]; rfl
theorem y6 : makeE x0 4097 = 2 := by decide
theorem y7 : makeE x0 (-1) = 1 := by decide
theorem y8 : takeE x0 0 0 = 411 := by decide
theorem y9 : takeE x2 1 4095 = 0 := by decide
theorem y9B : takeB x2 1 4095 = x1 := by rw [(take_good y9).1]; rfl
theorem y10 : takeE x1 1 0 = 411 := by decide
theorem y11 : burnE x2 = 0 ∧ burnB x2 = xb := ⟨by decide, rfl⟩
theorem y12 : takeE xb 0 0 = 411 := by decide
theorem y13 : takeE x2 0 4096 = 1 := by decide
theorem y14 : burnE ⟨0, 0, 0, [0]⟩ = 410 := by decide
theorem y15 : makeE xb 1 = 0 ∧ makeB xb 1 = x3 ∧ makeL xb 1 = [pairN 5 77 2] := by
  obtain ⟨h1, h2⟩ := make_good (b := xb) (n := 1) (N := 1) (by decide) rfl
  refine ⟨by decide, h1.trans rfl, h2.trans ?_⟩
  rw [show upB xb 1 = [2] by decide]; rfl
end Go.Non
namespace Go.Sg
open Go.Rn Go.Proofs Go.Non Go.Rec Go.RowKit Go.Dev Go.Sha Go.NT Go.Cod
abbrev LVI (w : World) (v : Value) (l : List Int) : Prop := IsL w rowI 4 v l
attribute [local irreducible] Go.Rn.RetsX Go.Rn.RunLN Go.Rn.AsyN Go.Rn.RunL Go.Rn.RunE Go.Rn.Asy Go.Rn.OpV Go.Rn.OpE Go.Rn.ExecE
theorem new_at {k s e : Int} {b : Book} (h : newE k s = e ∧ newB k s = b) (w : World) : Rets Tryd.prog 15 [.int .i64 k, .int .i64 s] w fun r w' => r = .tuple #[.agg (bkV b (.slice none 0 0)).toArray, .int .i64 e] ∧ Ext w w' := by
  have := new_ok k s w
  rwa [h.1, h.2] at this
theorem make_at {b b' : Book} {n e : Int} {l : List Pr} (h : makeE b n = e ∧ makeB b n = b' ∧ makeL b n = l) (v : Value) (w : World) (hv : LI' w v b.left) (hl : b.left.length < 9223372036854775808) (hS : Row w 0 0 (vals init8.l)) (hkT : Row w 1 0 (vals kTab)) :
    Rets Tryd.prog 17 [.agg (bkV b v).toArray, .int .i64 n] w fun r w' => (∃ d c lv, r = .tuple #[.agg (bkV b' (.slice d b'.left.length c)).toArray, lv, .int .i64 e] ∧ LI' w' (.slice d b'.left.length c) b'.left ∧ LP w' lv l) ∧ Ext w w' := by
  have := nmake_ok b v n w hv hl hS hkT
  rw [h.1, h.2.1, h.2.2] at this
  exact this.mono fun _ _ ⟨⟨u, lv, h1, h2, h3⟩, h4⟩ => by
    obtain ⟨d, c, rfl⟩ := isSl_slice (isSl_own h2)
    exact ⟨⟨d, c, lv, h1, isSl_own h2, h3⟩, h4⟩
theorem make_e {b : Book} {n e : Int} (h : makeE b n = e) (he : e ≠ 0) (v : Value) (w : World) (hv : LI' w v b.left) (hl : b.left.length < 9223372036854775808) (hS : Row w 0 0 (vals init8.l)) (hkT : Row w 1 0 (vals kTab)) :
    Rets Tryd.prog 17 [.agg (bkV b v).toArray, .int .i64 n] w fun r w' => (∃ d c lv, r = .tuple #[.agg (bkV zeroB (.slice d 0 c)).toArray, lv, .int .i64 e]) ∧ Ext w w' := by
  obtain ⟨h1, h2⟩ := make_bad (b := b) (n := n) (by rw [h]; exact he)
  exact (make_at ⟨h, h1, h2⟩ v w hv hl hS hkT).mono fun _ _ ⟨⟨d, c, lv, h1, _, _⟩, h4⟩ => ⟨⟨d, c, lv, h1⟩, h4⟩
theorem take_at {b b' : Book} {no doc e d0 d1 : Int} (h : takeE b no doc = e) (hB : takeB b no doc = b') (h0 : takeD b no doc 0 = d0) (h1 : takeD b no doc 1 = d1) (v : Value) (w : World) (hv : LI' w v b.left) (hl : b.left.length < 9223372036854775808) (hS : Row w 0 0 (vals init8.l)) (hkT : Row w 1 0 (vals kTab)) :
    Rets Tryd.prog 21 [.agg (bkV b v).toArray, .int .i64 no, .int .i64 doc] w fun r w' => (∃ d c, r = .tuple #[.agg (bkV b' (.slice d b'.left.length c)).toArray, .int .i64 d0, .int .i64 d1, .int .i64 e] ∧ LI' w' (.slice d b'.left.length c) b'.left) ∧ Ext w w' := by
  have := ntake_ok b v no doc w hv hl hS hkT
  rw [h, hB, h0, h1] at this
  exact this.mono fun _ _ ⟨⟨u, h1, h2⟩, h4⟩ => by
    obtain ⟨d, c, rfl⟩ := isSl_slice (isSl_own h2)
    exact ⟨⟨d, c, h1, isSl_own h2⟩, h4⟩
theorem take_e {b : Book} {no doc e : Int} (h : takeE b no doc = e) (he : e ≠ 0) (v : Value) (w : World) (hv : LI' w v b.left) (hl : b.left.length < 9223372036854775808) (hS : Row w 0 0 (vals init8.l)) (hkT : Row w 1 0 (vals kTab)) :
    Rets Tryd.prog 21 [.agg (bkV b v).toArray, .int .i64 no, .int .i64 doc] w fun r w' => (∃ d c, r = .tuple #[.agg (bkV zeroB (.slice d 0 c)).toArray, .int .i64 0, .int .i64 0, .int .i64 e]) ∧ Ext w w' := by
  obtain ⟨h1, h2⟩ := take_bad (b := b) (no := no) (doc := doc) (by rw [h]; exact he)
  exact (take_at h h1 (h2 0) (h2 1) v w hv hl hS hkT).mono fun _ _ ⟨⟨d, c, h1, _⟩, h4⟩ => ⟨⟨d, c, h1⟩, h4⟩
theorem burn_at {b b' : Book} {e : Int} (h : burnE b = e ∧ burnB b = b') (v : Value) (w : World) (hv : LI' w v b.left) (hl : b.left.length < 9223372036854775808) :
    Rets Tryd.prog 23 [.agg (bkV b v).toArray] w fun r w' => r = .tuple #[.agg (bkV b' (.slice none 0 0)).toArray, .int .i64 e] ∧ Ext w w' := by
  have := nburn_ok b v w hv hl
  rwa [h.1, h.2] at this
end Go.Sg
end
section
/- Nonces: sane. -/
namespace Go.Sg
open Go.Rn Go.Proofs Go.Non Go.Rec Go.RowKit Go.Dev Go.Sha Go.NT Go.Cod
theorem hsh_eq (k s no which : Int) : hshN k s no which = hashS (ByteArray.mk #[110, 111, 110, 99, 101]).data.toList (CV.list ([k, s, no, which].map CV.int)).enc := rfl
theorem numN_cases (k s no which : Int) : (hshN k s no which > 1 ∧ numN k s no which = hshN k s no which) ∨ (¬ hshN k s no which > 1 ∧ numN k s no which = 1) := by
  unfold numN; split
  · rename_i h; exact .inl ⟨h, rfl⟩
  · rename_i h; exact .inr ⟨h, rfl⟩
attribute [local irreducible] numN hshN powC Go.Rn.RetsX Go.Rn.RunLN Go.Rn.AsyN Go.Rn.RunL Go.Rn.RunE Go.Rn.Asy Go.Rn.OpV Go.Rn.OpE Go.Rn.ExecE
set_option maxRecDepth 4000 in
set_option maxHeartbeats 8000000 in
theorem l41_sane_gen (P0 P1 P2 : Pr) (d0 d1 h0 : Int) (z5 : makeE x0 2 = 0 ∧ makeB x0 2 = x2 ∧ makeL x0 2 = [P0, P1]) (z15 : makeE xb 1 = 0 ∧ makeB xb 1 = x3 ∧ makeL xb 1 = [P2]) (k1 : P1.keeper = 5) (m1 : P1.no = 1) (m2 : P2.no = 2)
    (e0 : takeD x2 1 4095 0 = d0) (e1 : takeD x2 1 4095 1 = d1) (b0 : 1 ≤ d0) (b1 : 1 ≤ d1) (hnn : (h0 > 1 ∧ d0 = h0) ∨ (¬ h0 > 1 ∧ d0 = 1))
    (ch : ∀ r w, IsSl w 1 r (CV.list ([5, 77, 1, 0].map CV.int)).enc.length (bytesV (CV.list ([5, 77, 1, 0].map CV.int)).enc) → Row w 0 0 (vals init8.l) → Row w 1 0 (vals kTab) → Rets Tryd.prog 46 [.string ⟨#[110, 111, 110, 99, 101]⟩, r] w fun v w' => v = .int .i64 h0 ∧ Ext w w')
    (w : World) (hS : Row w 0 0 (vals init8.l)) (hkT : Row w 1 0 (vals kTab)) : Rets Tryd.prog 13 [] w fun r w' => r = .bool true ∧ Ext w w' := by
  have ct := fun v w hv h1 h2 => take_at y9 y9B e0 e1 v w hv (by decide) h1 h2
  have m5 := fun v w h1 h2 h3 h4 => make_at z5 v w h1 h2 h3 h4
  have m15 := fun v w h1 h2 h3 h4 => make_at z15 v w h1 h2 h3 h4
  clear z5 z15 e0 e1
  refine RetsX.of (nt := 282) Tryd.func13 (by kernel_rfl) rfl rfl (by simp) (by simp only [argEnv]; rfl) ?_
  have X := ExtB.refl (fun _ => False) w
  repeat' (first | with_reducible refine RunLN.boolF rfl ?_ | refine RunL.ev Tryd.tOk rfl rfl rfl ?_ | refine RunE.seq ?_ | refine RunE.region ?_ | refine RunL.nil ?_)
  refine RunL.call rfl rfl rfl (new_at y1 _) ?_
  rintro _ _ ⟨rfl, Xa_⟩
  replace X := X.trans Xa_
  clear Xa_
  repeat' (first | (with_reducible refine RunLN.chk ?_; refine RunLN.int (by (first | (refine wr_i64 ?_ ?_; omega; omega) | (refine wm_i64 ?_; omega) | (refine wq_i64 ?_ ?_ ?_; omega; omega; omega) | rfl)) ?_) | refine RunLN.any ?_ | refine RunL.ev Tryd.tOk rfl rfl rfl ?_)
  refine RunL.alloc Tryd.tOk rfl rfl rfl fun B1 wa_ aa_ => ?_
  have gB1 := aa_.ge X
  refine RunL.store Tryd.tOk rfl rfl rfl rfl rfl (cs := bk0) aa_.at_ rfl rfl fun w1_ tb_ => ?_
  have Xa_ : Ext _ w1_ := aa_.ext.write tb_.ext (by intro i_ hi_ hlt_; have := aa_.eq; omega)
  have Z1 : Blk w1_ B1 (bkV x0 (.slice none 0 0)) 24 := tb_.at_
  replace X := X.trans Xa_
  clear Xa_ aa_ tb_
  repeat' (first | (with_reducible refine RunLN.chk ?_; refine RunLN.int (by (first | (refine wr_i64 ?_ ?_; omega; omega) | (refine wm_i64 ?_; omega) | (refine wq_i64 ?_ ?_ ?_; omega; omega; omega) | rfl)) ?_) | refine RunL.ev Tryd.tOk rfl rfl rfl ?_ | refine RunE.seq ?_ | refine RunE.region ?_ | refine RunL.nil ?_)
  refine RunL.call rfl rfl rfl (new_at ⟨y2, rfl⟩ _) ?_
  rintro _ _ ⟨rfl, Xa_⟩
  replace Z1 := Z1.up Xa_
  replace X := X.trans Xa_
  clear Xa_
  repeat' (first | (with_reducible refine RunLN.chk ?_; refine RunLN.int (by (first | (refine wr_i64 ?_ ?_; omega; omega) | (refine wm_i64 ?_; omega) | (refine wq_i64 ?_ ?_ ?_; omega; omega; omega) | rfl)) ?_) | refine RunLN.any ?_ | refine RunL.ev Tryd.tOk rfl rfl rfl ?_)
  refine RunL.alloc Tryd.tOk rfl rfl rfl fun B3 wa_ aa_ => ?_
  have gB3 := aa_.ge X
  refine RunL.store Tryd.tOk rfl rfl rfl rfl rfl (cs := bk0) aa_.at_ rfl rfl fun w3_ tb_ => ?_
  have Xa_ : Ext _ w3_ := aa_.ext.write tb_.ext (by intro i_ hi_ hlt_; have := aa_.eq; omega)
  have Z3 : Blk w3_ B3 (bk0) 24 := tb_.at_
  have n1_3 : B1 ≠ B3 := by have := Z1.lt; have := aa_.eq; omega
  have n3_1 : B3 ≠ B1 := Ne.symm n1_3
  replace Z1 := Z1.up Xa_
  replace X := X.trans Xa_
  clear Xa_ aa_ tb_
  clear Z3
  repeat' (first | (with_reducible refine RunLN.chk ?_; refine RunLN.int (by (first | (refine wr_i64 ?_ ?_; omega; omega) | (refine wm_i64 ?_; omega) | (refine wq_i64 ?_ ?_ ?_; omega; omega; omega) | rfl)) ?_) | refine RunL.ev Tryd.tOk rfl rfl rfl ?_ | refine RunE.seq ?_ | refine RunE.region ?_ | refine RunL.nil ?_)
  refine RunL.call rfl rfl rfl (new_at ⟨y3, rfl⟩ _) ?_
  rintro _ _ ⟨rfl, Xa_⟩
  replace Z1 := Z1.up Xa_
  replace X := X.trans Xa_
  clear Xa_
  repeat' (first | (with_reducible refine RunLN.chk ?_; refine RunLN.int (by (first | (refine wr_i64 ?_ ?_; omega; omega) | (refine wm_i64 ?_; omega) | (refine wq_i64 ?_ ?_ ?_; omega; omega; omega) | rfl)) ?_) | refine RunLN.any ?_ | refine RunL.ev Tryd.tOk rfl rfl rfl ?_)
  refine RunL.alloc Tryd.tOk rfl rfl rfl fun B5 wa_ aa_ => ?_
  have gB5 := aa_.ge X
  refine RunL.store Tryd.tOk rfl rfl rfl rfl rfl (cs := bk0) aa_.at_ rfl rfl fun w5_ tb_ => ?_
  have Xa_ : Ext _ w5_ := aa_.ext.write tb_.ext (by intro i_ hi_ hlt_; have := aa_.eq; omega)
  have Z5 : Blk w5_ B5 (bk0) 24 := tb_.at_
  have n1_5 : B1 ≠ B5 := by have := Z1.lt; have := aa_.eq; omega
  have n5_1 : B5 ≠ B1 := Ne.symm n1_5
  replace Z1 := Z1.up Xa_
  replace X := X.trans Xa_
  clear Xa_ aa_ tb_
  clear Z5
  repeat' (first | (with_reducible refine RunLN.chk ?_; refine RunLN.int (by (first | (refine wr_i64 ?_ ?_; omega; omega) | (refine wm_i64 ?_; omega) | (refine wq_i64 ?_ ?_ ?_; omega; omega; omega) | rfl)) ?_) | refine RunLN.any ?_ | refine RunL.ev Tryd.tOk rfl rfl rfl ?_ | refine RunL.evV rfl rfl rfl (OpV.loadN Tryd.tOk rfl rfl rfl rfl (Blk.row Z1)) ?_ | refine RunE.seq ?_ | refine RunE.region ?_ | refine RunL.nil ?_)
  refine RunL.call rfl rfl rfl (make_at y4 _ _ IsSl.nil (by decide) (hS.up X) (hkT.up X)) ?_
  rintro _ _ ⟨⟨d7, c7, l7, rfl, h7, p7⟩, Xa_⟩
  replace Z1 := Z1.up Xa_
  replace X := X.trans Xa_
  clear Xa_
  repeat' (first | (with_reducible refine RunLN.chk ?_; refine RunLN.int (by (first | (refine wr_i64 ?_ ?_; omega; omega) | (refine wm_i64 ?_; omega) | (refine wq_i64 ?_ ?_ ?_; omega; omega; omega) | rfl)) ?_) | refine RunLN.any ?_ | refine RunL.ev Tryd.tOk rfl rfl rfl ?_)
  refine RunL.alloc Tryd.tOk rfl rfl rfl fun B7 wa_ aa_ => ?_
  have gB7 := aa_.ge X
  refine RunL.store Tryd.tOk rfl rfl rfl rfl rfl (cs := bk0) aa_.at_ rfl rfl fun w7_ tb_ => ?_
  have Xa_ : Ext _ w7_ := aa_.ext.write tb_.ext (by intro i_ hi_ hlt_; have := aa_.eq; omega)
  have Z7 : Blk w7_ B7 (bkV x0 (.slice d7 0 c7)) 24 := tb_.at_
  have n1_7 : B1 ≠ B7 := by have := Z1.lt; have := aa_.eq; omega
  have n7_1 : B7 ≠ B1 := Ne.symm n1_7
  replace Z1 := Z1.up Xa_
  replace h7 := h7.up Xa_
  replace p7 := p7.up Xa_
  replace X := X.trans Xa_
  clear Xa_ aa_ tb_
  repeat' (first | (with_reducible refine RunLN.chk ?_; refine RunLN.int (by (first | (refine wr_i64 ?_ ?_; omega; omega) | (refine wm_i64 ?_; omega) | (refine wq_i64 ?_ ?_ ?_; omega; omega; omega) | rfl)) ?_) | refine RunLN.any ?_ | refine RunL.ev Tryd.tOk rfl rfl rfl ?_ | refine RunL.evV rfl rfl rfl (OpV.loadN Tryd.tOk rfl rfl rfl rfl (Blk.row Z1)) ?_ | refine RunE.seq ?_ | refine RunE.region ?_ | refine RunL.nil ?_)
  refine RunL.call rfl rfl rfl (m5 _ _ IsSl.nil (by decide) (hS.up X) (hkT.up X)) ?_
  rintro _ _ ⟨⟨d10, c10, l10, rfl, h10, p10⟩, Xa_⟩
  replace Z1 := Z1.up Xa_
  replace Z7 := Z7.up Xa_
  replace h7 := h7.up Xa_
  replace p7 := p7.up Xa_
  replace X := X.trans Xa_
  clear Xa_
  repeat' (first | (with_reducible refine RunLN.chk ?_; refine RunLN.int (by (first | (refine wr_i64 ?_ ?_; omega; omega) | (refine wm_i64 ?_; omega) | (refine wq_i64 ?_ ?_ ?_; omega; omega; omega) | rfl)) ?_) | refine RunLN.any ?_ | refine RunL.ev Tryd.tOk rfl rfl rfl ?_)
  refine RunL.alloc Tryd.tOk rfl rfl rfl fun B10 wa_ aa_ => ?_
  have gB10 := aa_.ge X
  refine RunL.store Tryd.tOk rfl rfl rfl rfl rfl (cs := bk0) aa_.at_ rfl rfl fun w10_ tb_ => ?_
  have Xa_ : Ext _ w10_ := aa_.ext.write tb_.ext (by intro i_ hi_ hlt_; have := aa_.eq; omega)
  have Z10 : Blk w10_ B10 (bkV x2 (.slice d10 2 c10)) 24 := tb_.at_
  have n1_10 : B1 ≠ B10 := by have := Z1.lt; have := aa_.eq; omega
  have n10_1 : B10 ≠ B1 := Ne.symm n1_10
  have n7_10 : B7 ≠ B10 := by have := Z7.lt; have := aa_.eq; omega
  have n10_7 : B10 ≠ B7 := Ne.symm n7_10
  replace Z1 := Z1.up Xa_
  replace Z7 := Z7.up Xa_
  replace h7 := h7.up Xa_
  replace p7 := p7.up Xa_
  replace h10 := h10.up Xa_
  replace p10 := p10.up Xa_
  replace X := X.trans Xa_
  clear Xa_ aa_ tb_
  repeat' (first | (with_reducible refine RunLN.chk ?_; refine RunLN.int (by (first | (refine wr_i64 ?_ ?_; omega; omega) | (refine wm_i64 ?_; omega) | (refine wq_i64 ?_ ?_ ?_; omega; omega; omega) | rfl)) ?_) | refine RunLN.any ?_ | refine RunL.ev Tryd.tOk rfl rfl rfl ?_ | refine RunL.evV rfl rfl rfl (OpV.loadN Tryd.tOk rfl rfl rfl rfl (Blk.row Z1)) ?_ | refine RunE.seq ?_ | refine RunE.region ?_ | refine RunL.nil ?_)
  refine RunL.call rfl rfl rfl (make_e y6 (by decide) _ _ IsSl.nil (by decide) (hS.up X) (hkT.up X)) ?_
  rintro _ _ ⟨⟨d13, c13, l13, rfl⟩, Xa_⟩
  replace Z1 := Z1.up Xa_
  replace Z7 := Z7.up Xa_
  replace h7 := h7.up Xa_
  replace p7 := p7.up Xa_
  replace Z10 := Z10.up Xa_
  replace h10 := h10.up Xa_
  replace p10 := p10.up Xa_
  replace X := X.trans Xa_
  clear Xa_
  repeat' (first | (with_reducible refine RunLN.chk ?_; refine RunLN.int (by (first | (refine wr_i64 ?_ ?_; omega; omega) | (refine wm_i64 ?_; omega) | (refine wq_i64 ?_ ?_ ?_; omega; omega; omega) | rfl)) ?_) | refine RunLN.any ?_ | refine RunL.ev Tryd.tOk rfl rfl rfl ?_)
  refine RunL.alloc Tryd.tOk rfl rfl rfl fun B13 wa_ aa_ => ?_
  have gB13 := aa_.ge X
  refine RunL.store Tryd.tOk rfl rfl rfl rfl rfl (cs := bk0) aa_.at_ rfl rfl fun w13_ tb_ => ?_
  have Xa_ : Ext _ w13_ := aa_.ext.write tb_.ext (by intro i_ hi_ hlt_; have := aa_.eq; omega)
  have Z13 : Blk w13_ B13 (bkV zeroB (.slice d13 0 c13)) 24 := tb_.at_
  have n1_13 : B1 ≠ B13 := by have := Z1.lt; have := aa_.eq; omega
  have n13_1 : B13 ≠ B1 := Ne.symm n1_13
  have n7_13 : B7 ≠ B13 := by have := Z7.lt; have := aa_.eq; omega
  have n13_7 : B13 ≠ B7 := Ne.symm n7_13
  have n10_13 : B10 ≠ B13 := by have := Z10.lt; have := aa_.eq; omega
  have n13_10 : B13 ≠ B10 := Ne.symm n10_13
  replace Z1 := Z1.up Xa_
  replace Z7 := Z7.up Xa_
  replace h7 := h7.up Xa_
  replace p7 := p7.up Xa_
  replace Z10 := Z10.up Xa_
  replace h10 := h10.up Xa_
  replace p10 := p10.up Xa_
  replace X := X.trans Xa_
  clear Xa_ aa_ tb_
  clear Z13
  repeat' (first | (with_reducible refine RunLN.chk ?_; refine RunLN.int (by (first | (refine wr_i64 ?_ ?_; omega; omega) | (refine wm_i64 ?_; omega) | (refine wq_i64 ?_ ?_ ?_; omega; omega; omega) | rfl)) ?_) | refine RunLN.any ?_ | refine RunL.ev Tryd.tOk rfl rfl rfl ?_ | refine RunL.evV rfl rfl rfl (OpV.loadN Tryd.tOk rfl rfl rfl rfl (Blk.row Z1)) ?_ | refine RunE.seq ?_ | refine RunE.region ?_ | refine RunL.nil ?_)
  refine RunL.call rfl rfl rfl (make_e y7 (by decide) _ _ IsSl.nil (by decide) (hS.up X) (hkT.up X)) ?_
  rintro _ _ ⟨⟨d16, c16, l16, rfl⟩, Xa_⟩
  replace Z1 := Z1.up Xa_
  replace Z7 := Z7.up Xa_
  replace h7 := h7.up Xa_
  replace p7 := p7.up Xa_
  replace Z10 := Z10.up Xa_
  replace h10 := h10.up Xa_
  replace p10 := p10.up Xa_
  replace X := X.trans Xa_
  clear Xa_
  repeat' (first | (with_reducible refine RunLN.chk ?_; refine RunLN.int (by (first | (refine wr_i64 ?_ ?_; omega; omega) | (refine wm_i64 ?_; omega) | (refine wq_i64 ?_ ?_ ?_; omega; omega; omega) | rfl)) ?_) | refine RunLN.any ?_ | refine RunL.ev Tryd.tOk rfl rfl rfl ?_)
  refine RunL.alloc Tryd.tOk rfl rfl rfl fun B16 wa_ aa_ => ?_
  have gB16 := aa_.ge X
  refine RunL.store Tryd.tOk rfl rfl rfl rfl rfl (cs := bk0) aa_.at_ rfl rfl fun w16_ tb_ => ?_
  have Xa_ : Ext _ w16_ := aa_.ext.write tb_.ext (by intro i_ hi_ hlt_; have := aa_.eq; omega)
  have Z16 : Blk w16_ B16 (bkV zeroB (.slice d16 0 c16)) 24 := tb_.at_
  have n1_16 : B1 ≠ B16 := by have := Z1.lt; have := aa_.eq; omega
  have n16_1 : B16 ≠ B1 := Ne.symm n1_16
  have n7_16 : B7 ≠ B16 := by have := Z7.lt; have := aa_.eq; omega
  have n16_7 : B16 ≠ B7 := Ne.symm n7_16
  have n10_16 : B10 ≠ B16 := by have := Z10.lt; have := aa_.eq; omega
  have n16_10 : B16 ≠ B10 := Ne.symm n10_16
  replace Z1 := Z1.up Xa_
  replace Z7 := Z7.up Xa_
  replace h7 := h7.up Xa_
  replace p7 := p7.up Xa_
  replace Z10 := Z10.up Xa_
  replace h10 := h10.up Xa_
  replace p10 := p10.up Xa_
  replace X := X.trans Xa_
  clear Xa_ aa_ tb_
  clear Z16
  repeat' (first | (with_reducible refine RunLN.chk ?_; refine RunLN.int (by (first | (refine wr_i64 ?_ ?_; omega; omega) | (refine wm_i64 ?_; omega) | (refine wq_i64 ?_ ?_ ?_; omega; omega; omega) | rfl)) ?_) | refine RunLN.any ?_ | refine RunL.ev Tryd.tOk rfl rfl rfl ?_ | refine RunL.evV rfl rfl rfl (OpV.loadN Tryd.tOk rfl rfl rfl rfl (Blk.row Z1)) ?_ | refine RunE.seq ?_ | refine RunE.region ?_ | refine RunL.nil ?_)
  refine RunL.call rfl rfl rfl (take_e y8 (by decide) _ _ IsSl.nil (by decide) (hS.up X) (hkT.up X)) ?_
  rintro _ _ ⟨⟨d19, c19, rfl⟩, Xa_⟩
  replace Z1 := Z1.up Xa_
  replace Z7 := Z7.up Xa_
  replace h7 := h7.up Xa_
  replace p7 := p7.up Xa_
  replace Z10 := Z10.up Xa_
  replace h10 := h10.up Xa_
  replace p10 := p10.up Xa_
  replace X := X.trans Xa_
  clear Xa_
  repeat' (first | (with_reducible refine RunLN.chk ?_; refine RunLN.int (by (first | (refine wr_i64 ?_ ?_; omega; omega) | (refine wm_i64 ?_; omega) | (refine wq_i64 ?_ ?_ ?_; omega; omega; omega) | rfl)) ?_) | refine RunLN.any ?_ | refine RunL.ev Tryd.tOk rfl rfl rfl ?_)
  refine RunL.alloc Tryd.tOk rfl rfl rfl fun B19 wa_ aa_ => ?_
  have gB19 := aa_.ge X
  refine RunL.store Tryd.tOk rfl rfl rfl rfl rfl (cs := bk0) aa_.at_ rfl rfl fun w19_ tb_ => ?_
  have Xa_ : Ext _ w19_ := aa_.ext.write tb_.ext (by intro i_ hi_ hlt_; have := aa_.eq; omega)
  have Z19 : Blk w19_ B19 (bkV zeroB (.slice d19 0 c19)) 24 := tb_.at_
  have n1_19 : B1 ≠ B19 := by have := Z1.lt; have := aa_.eq; omega
  have n19_1 : B19 ≠ B1 := Ne.symm n1_19
  have n7_19 : B7 ≠ B19 := by have := Z7.lt; have := aa_.eq; omega
  have n19_7 : B19 ≠ B7 := Ne.symm n7_19
  have n10_19 : B10 ≠ B19 := by have := Z10.lt; have := aa_.eq; omega
  have n19_10 : B19 ≠ B10 := Ne.symm n10_19
  replace Z1 := Z1.up Xa_
  replace Z7 := Z7.up Xa_
  replace h7 := h7.up Xa_
  replace p7 := p7.up Xa_
  replace Z10 := Z10.up Xa_
  replace h10 := h10.up Xa_
  replace p10 := p10.up Xa_
  replace X := X.trans Xa_
  clear Xa_ aa_ tb_
  clear Z19
  repeat' (first | (with_reducible refine RunLN.chk ?_; refine RunLN.int (by (first | (refine wr_i64 ?_ ?_; omega; omega) | (refine wm_i64 ?_; omega) | (refine wq_i64 ?_ ?_ ?_; omega; omega; omega) | rfl)) ?_) | refine RunLN.any ?_ | refine RunL.ev Tryd.tOk rfl rfl rfl ?_ | refine RunL.evV rfl rfl rfl (OpV.loadN Tryd.tOk rfl rfl rfl rfl (Blk.row Z10)) ?_ | refine RunE.seq ?_ | refine RunE.region ?_ | refine RunL.nil ?_)
  refine RunL.call rfl rfl rfl (ct _ _ h10 (hS.up X) (hkT.up X)) ?_
  rintro _ _ ⟨⟨d23, c23, rfl, h23⟩, Xa_⟩
  replace Z1 := Z1.up Xa_
  replace Z7 := Z7.up Xa_
  replace h7 := h7.up Xa_
  replace p7 := p7.up Xa_
  replace Z10 := Z10.up Xa_
  replace h10 := h10.up Xa_
  replace p10 := p10.up Xa_
  replace X := X.trans Xa_
  clear Xa_
  repeat' (first | (with_reducible refine RunLN.chk ?_; refine RunLN.int (by (first | (refine wr_i64 ?_ ?_; omega; omega) | (refine wm_i64 ?_; omega) | (refine wq_i64 ?_ ?_ ?_; omega; omega; omega) | rfl)) ?_) | refine RunLN.any ?_ | refine RunL.ev Tryd.tOk rfl rfl rfl ?_)
  refine RunL.alloc Tryd.tOk rfl rfl rfl fun B23 wa_ aa_ => ?_
  have gB23 := aa_.ge X
  refine RunL.store Tryd.tOk rfl rfl rfl rfl rfl (cs := bk0) aa_.at_ rfl rfl fun w23_ tb_ => ?_
  have Xa_ : Ext _ w23_ := aa_.ext.write tb_.ext (by intro i_ hi_ hlt_; have := aa_.eq; omega)
  have Z23 : Blk w23_ B23 (bkV x1 (.slice d23 1 c23)) 24 := tb_.at_
  have n1_23 : B1 ≠ B23 := by have := Z1.lt; have := aa_.eq; omega
  have n23_1 : B23 ≠ B1 := Ne.symm n1_23
  have n7_23 : B7 ≠ B23 := by have := Z7.lt; have := aa_.eq; omega
  have n23_7 : B23 ≠ B7 := Ne.symm n7_23
  have n10_23 : B10 ≠ B23 := by have := Z10.lt; have := aa_.eq; omega
  have n23_10 : B23 ≠ B10 := Ne.symm n10_23
  replace Z1 := Z1.up Xa_
  replace Z7 := Z7.up Xa_
  replace h7 := h7.up Xa_
  replace p7 := p7.up Xa_
  replace Z10 := Z10.up Xa_
  replace h10 := h10.up Xa_
  replace p10 := p10.up Xa_
  replace h23 := h23.up Xa_
  replace X := X.trans Xa_
  clear Xa_ aa_ tb_
  repeat' (first | (with_reducible refine RunLN.chk ?_; refine RunLN.int (by (first | (refine wr_i64 ?_ ?_; omega; omega) | (refine wm_i64 ?_; omega) | (refine wq_i64 ?_ ?_ ?_; omega; omega; omega) | rfl)) ?_) | refine RunLN.any ?_ | refine RunL.ev Tryd.tOk rfl rfl rfl ?_ | refine RunL.evV rfl rfl rfl (OpV.loadN Tryd.tOk rfl rfl rfl rfl (Blk.row Z23)) ?_ | refine RunE.seq ?_ | refine RunE.region ?_ | refine RunL.nil ?_)
  refine RunL.call rfl rfl rfl (take_e y10 (by decide) _ _ h23 (by decide) (hS.up X) (hkT.up X)) ?_
  rintro _ _ ⟨⟨d27, c27, rfl⟩, Xa_⟩
  replace Z1 := Z1.up Xa_
  replace Z7 := Z7.up Xa_
  replace h7 := h7.up Xa_
  replace p7 := p7.up Xa_
  replace Z10 := Z10.up Xa_
  replace h10 := h10.up Xa_
  replace p10 := p10.up Xa_
  replace Z23 := Z23.up Xa_
  replace h23 := h23.up Xa_
  replace X := X.trans Xa_
  clear Xa_
  repeat' (first | (with_reducible refine RunLN.chk ?_; refine RunLN.int (by (first | (refine wr_i64 ?_ ?_; omega; omega) | (refine wm_i64 ?_; omega) | (refine wq_i64 ?_ ?_ ?_; omega; omega; omega) | rfl)) ?_) | refine RunLN.any ?_ | refine RunL.ev Tryd.tOk rfl rfl rfl ?_)
  refine RunL.alloc Tryd.tOk rfl rfl rfl fun B27 wa_ aa_ => ?_
  have gB27 := aa_.ge X
  refine RunL.store Tryd.tOk rfl rfl rfl rfl rfl (cs := bk0) aa_.at_ rfl rfl fun w27_ tb_ => ?_
  have Xa_ : Ext _ w27_ := aa_.ext.write tb_.ext (by intro i_ hi_ hlt_; have := aa_.eq; omega)
  have Z27 : Blk w27_ B27 (bkV zeroB (.slice d27 0 c27)) 24 := tb_.at_
  have n1_27 : B1 ≠ B27 := by have := Z1.lt; have := aa_.eq; omega
  have n27_1 : B27 ≠ B1 := Ne.symm n1_27
  have n7_27 : B7 ≠ B27 := by have := Z7.lt; have := aa_.eq; omega
  have n27_7 : B27 ≠ B7 := Ne.symm n7_27
  have n10_27 : B10 ≠ B27 := by have := Z10.lt; have := aa_.eq; omega
  have n27_10 : B27 ≠ B10 := Ne.symm n10_27
  have n23_27 : B23 ≠ B27 := by have := Z23.lt; have := aa_.eq; omega
  have n27_23 : B27 ≠ B23 := Ne.symm n23_27
  replace Z1 := Z1.up Xa_
  replace Z7 := Z7.up Xa_
  replace h7 := h7.up Xa_
  replace p7 := p7.up Xa_
  replace Z10 := Z10.up Xa_
  replace h10 := h10.up Xa_
  replace p10 := p10.up Xa_
  replace Z23 := Z23.up Xa_
  replace h23 := h23.up Xa_
  replace X := X.trans Xa_
  clear Xa_ aa_ tb_
  clear Z27
  repeat' (first | (with_reducible refine RunLN.chk ?_; refine RunLN.int (by (first | (refine wr_i64 ?_ ?_; omega; omega) | (refine wm_i64 ?_; omega) | (refine wq_i64 ?_ ?_ ?_; omega; omega; omega) | rfl)) ?_) | refine RunLN.any ?_ | refine RunL.ev Tryd.tOk rfl rfl rfl ?_ | refine RunL.evV rfl rfl rfl (OpV.loadN Tryd.tOk rfl rfl rfl rfl (Blk.row Z10)) ?_ | refine RunE.seq ?_ | refine RunE.region ?_ | refine RunL.nil ?_)
  refine RunL.call rfl rfl rfl (burn_at y11 _ _ h10 (by decide)) ?_
  rintro _ _ ⟨rfl, Xa_⟩
  replace Z1 := Z1.up Xa_
  replace Z7 := Z7.up Xa_
  replace h7 := h7.up Xa_
  replace p7 := p7.up Xa_
  replace Z10 := Z10.up Xa_
  replace h10 := h10.up Xa_
  replace p10 := p10.up Xa_
  replace Z23 := Z23.up Xa_
  replace h23 := h23.up Xa_
  replace X := X.trans Xa_
  clear Xa_
  repeat' (first | (with_reducible refine RunLN.chk ?_; refine RunLN.int (by (first | (refine wr_i64 ?_ ?_; omega; omega) | (refine wm_i64 ?_; omega) | (refine wq_i64 ?_ ?_ ?_; omega; omega; omega) | rfl)) ?_) | refine RunLN.any ?_ | refine RunL.ev Tryd.tOk rfl rfl rfl ?_)
  refine RunL.alloc Tryd.tOk rfl rfl rfl fun B31 wa_ aa_ => ?_
  have gB31 := aa_.ge X
  refine RunL.store Tryd.tOk rfl rfl rfl rfl rfl (cs := bk0) aa_.at_ rfl rfl fun w31_ tb_ => ?_
  have Xa_ : Ext _ w31_ := aa_.ext.write tb_.ext (by intro i_ hi_ hlt_; have := aa_.eq; omega)
  have Z31 : Blk w31_ B31 (bkV xb (.slice none 0 0)) 24 := tb_.at_
  have n1_31 : B1 ≠ B31 := by have := Z1.lt; have := aa_.eq; omega
  have n31_1 : B31 ≠ B1 := Ne.symm n1_31
  have n7_31 : B7 ≠ B31 := by have := Z7.lt; have := aa_.eq; omega
  have n31_7 : B31 ≠ B7 := Ne.symm n7_31
  have n10_31 : B10 ≠ B31 := by have := Z10.lt; have := aa_.eq; omega
  have n31_10 : B31 ≠ B10 := Ne.symm n10_31
  have n23_31 : B23 ≠ B31 := by have := Z23.lt; have := aa_.eq; omega
  have n31_23 : B31 ≠ B23 := Ne.symm n23_31
  replace Z1 := Z1.up Xa_
  replace Z7 := Z7.up Xa_
  replace h7 := h7.up Xa_
  replace p7 := p7.up Xa_
  replace Z10 := Z10.up Xa_
  replace h10 := h10.up Xa_
  replace p10 := p10.up Xa_
  replace Z23 := Z23.up Xa_
  replace h23 := h23.up Xa_
  replace X := X.trans Xa_
  clear Xa_ aa_ tb_
  repeat' (first | (with_reducible refine RunLN.chk ?_; refine RunLN.int (by (first | (refine wr_i64 ?_ ?_; omega; omega) | (refine wm_i64 ?_; omega) | (refine wq_i64 ?_ ?_ ?_; omega; omega; omega) | rfl)) ?_) | refine RunLN.any ?_ | refine RunL.ev Tryd.tOk rfl rfl rfl ?_ | refine RunL.evV rfl rfl rfl (OpV.loadN Tryd.tOk rfl rfl rfl rfl (Blk.row Z31)) ?_ | refine RunE.seq ?_ | refine RunE.region ?_ | refine RunL.nil ?_)
  refine RunL.call rfl rfl rfl (take_e y12 (by decide) _ _ IsSl.nil (by decide) (hS.up X) (hkT.up X)) ?_
  rintro _ _ ⟨⟨d33, c33, rfl⟩, Xa_⟩
  replace Z1 := Z1.up Xa_
  replace Z7 := Z7.up Xa_
  replace h7 := h7.up Xa_
  replace p7 := p7.up Xa_
  replace Z10 := Z10.up Xa_
  replace h10 := h10.up Xa_
  replace p10 := p10.up Xa_
  replace Z23 := Z23.up Xa_
  replace h23 := h23.up Xa_
  replace Z31 := Z31.up Xa_
  replace X := X.trans Xa_
  clear Xa_
  repeat' (first | (with_reducible refine RunLN.chk ?_; refine RunLN.int (by (first | (refine wr_i64 ?_ ?_; omega; omega) | (refine wm_i64 ?_; omega) | (refine wq_i64 ?_ ?_ ?_; omega; omega; omega) | rfl)) ?_) | refine RunLN.any ?_ | refine RunL.ev Tryd.tOk rfl rfl rfl ?_)
  refine RunL.alloc Tryd.tOk rfl rfl rfl fun B33 wa_ aa_ => ?_
  have gB33 := aa_.ge X
  refine RunL.store Tryd.tOk rfl rfl rfl rfl rfl (cs := bk0) aa_.at_ rfl rfl fun w33_ tb_ => ?_
  have Xa_ : Ext _ w33_ := aa_.ext.write tb_.ext (by intro i_ hi_ hlt_; have := aa_.eq; omega)
  have Z33 : Blk w33_ B33 (bkV zeroB (.slice d33 0 c33)) 24 := tb_.at_
  have n1_33 : B1 ≠ B33 := by have := Z1.lt; have := aa_.eq; omega
  have n33_1 : B33 ≠ B1 := Ne.symm n1_33
  have n7_33 : B7 ≠ B33 := by have := Z7.lt; have := aa_.eq; omega
  have n33_7 : B33 ≠ B7 := Ne.symm n7_33
  have n10_33 : B10 ≠ B33 := by have := Z10.lt; have := aa_.eq; omega
  have n33_10 : B33 ≠ B10 := Ne.symm n10_33
  have n23_33 : B23 ≠ B33 := by have := Z23.lt; have := aa_.eq; omega
  have n33_23 : B33 ≠ B23 := Ne.symm n23_33
  have n31_33 : B31 ≠ B33 := by have := Z31.lt; have := aa_.eq; omega
  have n33_31 : B33 ≠ B31 := Ne.symm n31_33
  replace Z1 := Z1.up Xa_
  replace Z7 := Z7.up Xa_
  replace h7 := h7.up Xa_
  replace p7 := p7.up Xa_
  replace Z10 := Z10.up Xa_
  replace h10 := h10.up Xa_
  replace p10 := p10.up Xa_
  replace Z23 := Z23.up Xa_
  replace h23 := h23.up Xa_
  replace Z31 := Z31.up Xa_
  replace X := X.trans Xa_
  clear Xa_ aa_ tb_
  clear Z33
  repeat' (first | (with_reducible refine RunLN.chk ?_; refine RunLN.int (by (first | (refine wr_i64 ?_ ?_; omega; omega) | (refine wm_i64 ?_; omega) | (refine wq_i64 ?_ ?_ ?_; omega; omega; omega) | rfl)) ?_) | refine RunLN.any ?_ | refine RunL.ev Tryd.tOk rfl rfl rfl ?_ | refine RunL.evV rfl rfl rfl (OpV.loadN Tryd.tOk rfl rfl rfl rfl (Blk.row Z10)) ?_ | refine RunE.seq ?_ | refine RunE.region ?_ | refine RunL.nil ?_)
  refine RunL.call rfl rfl rfl (take_e y13 (by decide) _ _ h10 (by decide) (hS.up X) (hkT.up X)) ?_
  rintro _ _ ⟨⟨d37, c37, rfl⟩, Xa_⟩
  replace Z1 := Z1.up Xa_
  replace Z7 := Z7.up Xa_
  replace h7 := h7.up Xa_
  replace p7 := p7.up Xa_
  replace Z10 := Z10.up Xa_
  replace h10 := h10.up Xa_
  replace p10 := p10.up Xa_
  replace Z23 := Z23.up Xa_
  replace h23 := h23.up Xa_
  replace Z31 := Z31.up Xa_
  replace X := X.trans Xa_
  clear Xa_
  repeat' (first | (with_reducible refine RunLN.chk ?_; refine RunLN.int (by (first | (refine wr_i64 ?_ ?_; omega; omega) | (refine wm_i64 ?_; omega) | (refine wq_i64 ?_ ?_ ?_; omega; omega; omega) | rfl)) ?_) | refine RunLN.any ?_ | refine RunL.ev Tryd.tOk rfl rfl rfl ?_)
  refine RunL.alloc Tryd.tOk rfl rfl rfl fun B37 wa_ aa_ => ?_
  have gB37 := aa_.ge X
  refine RunL.store Tryd.tOk rfl rfl rfl rfl rfl (cs := bk0) aa_.at_ rfl rfl fun w37_ tb_ => ?_
  have Xa_ : Ext _ w37_ := aa_.ext.write tb_.ext (by intro i_ hi_ hlt_; have := aa_.eq; omega)
  have Z37 : Blk w37_ B37 (bkV zeroB (.slice d37 0 c37)) 24 := tb_.at_
  have n1_37 : B1 ≠ B37 := by have := Z1.lt; have := aa_.eq; omega
  have n37_1 : B37 ≠ B1 := Ne.symm n1_37
  have n7_37 : B7 ≠ B37 := by have := Z7.lt; have := aa_.eq; omega
  have n37_7 : B37 ≠ B7 := Ne.symm n7_37
  have n10_37 : B10 ≠ B37 := by have := Z10.lt; have := aa_.eq; omega
  have n37_10 : B37 ≠ B10 := Ne.symm n10_37
  have n23_37 : B23 ≠ B37 := by have := Z23.lt; have := aa_.eq; omega
  have n37_23 : B37 ≠ B23 := Ne.symm n23_37
  have n31_37 : B31 ≠ B37 := by have := Z31.lt; have := aa_.eq; omega
  have n37_31 : B37 ≠ B31 := Ne.symm n31_37
  replace Z1 := Z1.up Xa_
  replace Z7 := Z7.up Xa_
  replace h7 := h7.up Xa_
  replace p7 := p7.up Xa_
  replace Z10 := Z10.up Xa_
  replace h10 := h10.up Xa_
  replace p10 := p10.up Xa_
  replace Z23 := Z23.up Xa_
  replace h23 := h23.up Xa_
  replace Z31 := Z31.up Xa_
  replace X := X.trans Xa_
  clear Xa_ aa_ tb_
  clear Z37
  repeat' (first | (with_reducible refine RunLN.chk ?_; refine RunLN.int (by (first | (refine wr_i64 ?_ ?_; omega; omega) | (refine wm_i64 ?_; omega) | (refine wq_i64 ?_ ?_ ?_; omega; omega; omega) | rfl)) ?_) | refine RunL.ev Tryd.tOk rfl rfl rfl ?_ | refine RunE.seq ?_ | refine RunE.region ?_ | refine RunL.nil ?_)
  refine RunL.ex rfl rfl rfl (OpE.buildSl Tryd.tOk [.int .i64 0] rfl rfl rfl rfl rfl rfl (by simp [Value.cells])) ?_
  rintro _ w_ ⟨B_, rfl, a_⟩
  have h40 : LI' w_ (.slice (some ⟨B_, 0, none⟩) 1 1) [0] := (isSl_added (n := 1) (sz := 1) a_ rfl)
  replace Z1 := Z1.up a_.ext
  replace Z7 := Z7.up a_.ext
  replace h7 := h7.up a_.ext
  replace p7 := p7.up a_.ext
  replace Z10 := Z10.up a_.ext
  replace h10 := h10.up a_.ext
  replace p10 := p10.up a_.ext
  replace Z23 := Z23.up a_.ext
  replace h23 := h23.up a_.ext
  replace Z31 := Z31.up a_.ext
  replace X := X.trans a_.ext
  clear a_
  repeat' (first | refine RunLN.any ?_ | refine RunL.ev Tryd.tOk rfl rfl rfl ?_)
  refine RunL.call rfl rfl rfl (burn_at (b := ⟨0, 0, 0, [0]⟩) ⟨y14, rfl⟩ _ _ h40 (by decide)) ?_
  rintro _ _ ⟨rfl, Xa_⟩
  replace Z1 := Z1.up Xa_
  replace Z7 := Z7.up Xa_
  replace h7 := h7.up Xa_
  replace p7 := p7.up Xa_
  replace Z10 := Z10.up Xa_
  replace h10 := h10.up Xa_
  replace p10 := p10.up Xa_
  replace Z23 := Z23.up Xa_
  replace h23 := h23.up Xa_
  replace Z31 := Z31.up Xa_
  replace X := X.trans Xa_
  clear Xa_
  repeat' (first | (with_reducible refine RunLN.chk ?_; refine RunLN.int (by (first | (refine wr_i64 ?_ ?_; omega; omega) | (refine wm_i64 ?_; omega) | (refine wq_i64 ?_ ?_ ?_; omega; omega; omega) | rfl)) ?_) | refine RunLN.any ?_ | refine RunL.ev Tryd.tOk rfl rfl rfl ?_)
  refine RunL.alloc Tryd.tOk rfl rfl rfl fun B41 wa_ aa_ => ?_
  have gB41 := aa_.ge X
  refine RunL.store Tryd.tOk rfl rfl rfl rfl rfl (cs := bk0) aa_.at_ rfl rfl fun w41_ tb_ => ?_
  have Xa_ : Ext _ w41_ := aa_.ext.write tb_.ext (by intro i_ hi_ hlt_; have := aa_.eq; omega)
  have Z41 : Blk w41_ B41 (bk0) 24 := tb_.at_
  have n1_41 : B1 ≠ B41 := by have := Z1.lt; have := aa_.eq; omega
  have n41_1 : B41 ≠ B1 := Ne.symm n1_41
  have n7_41 : B7 ≠ B41 := by have := Z7.lt; have := aa_.eq; omega
  have n41_7 : B41 ≠ B7 := Ne.symm n7_41
  have n10_41 : B10 ≠ B41 := by have := Z10.lt; have := aa_.eq; omega
  have n41_10 : B41 ≠ B10 := Ne.symm n10_41
  have n23_41 : B23 ≠ B41 := by have := Z23.lt; have := aa_.eq; omega
  have n41_23 : B41 ≠ B23 := Ne.symm n23_41
  have n31_41 : B31 ≠ B41 := by have := Z31.lt; have := aa_.eq; omega
  have n41_31 : B41 ≠ B31 := Ne.symm n31_41
  replace Z1 := Z1.up Xa_
  replace Z7 := Z7.up Xa_
  replace h7 := h7.up Xa_
  replace p7 := p7.up Xa_
  replace Z10 := Z10.up Xa_
  replace h10 := h10.up Xa_
  replace p10 := p10.up Xa_
  replace Z23 := Z23.up Xa_
  replace h23 := h23.up Xa_
  replace Z31 := Z31.up Xa_
  replace X := X.trans Xa_
  clear Xa_ aa_ tb_
  clear Z41
  repeat' (first | (with_reducible refine RunLN.chk ?_; refine RunLN.int (by (first | (refine wr_i64 ?_ ?_; omega; omega) | (refine wm_i64 ?_; omega) | (refine wq_i64 ?_ ?_ ?_; omega; omega; omega) | rfl)) ?_) | refine RunLN.any ?_ | refine RunL.ev Tryd.tOk rfl rfl rfl ?_ | refine RunL.evV rfl rfl rfl (OpV.loadN Tryd.tOk rfl rfl rfl rfl (Blk.row Z31)) ?_ | refine RunE.seq ?_ | refine RunE.region ?_ | refine RunL.nil ?_)
  refine RunL.call rfl rfl rfl (m15 _ _ IsSl.nil (by decide) (hS.up X) (hkT.up X)) ?_
  rintro _ _ ⟨⟨d43, c43, l43, rfl, h43, p43⟩, Xa_⟩
  replace Z1 := Z1.up Xa_
  replace Z7 := Z7.up Xa_
  replace h7 := h7.up Xa_
  replace p7 := p7.up Xa_
  replace Z10 := Z10.up Xa_
  replace h10 := h10.up Xa_
  replace p10 := p10.up Xa_
  replace Z23 := Z23.up Xa_
  replace h23 := h23.up Xa_
  replace X := X.trans Xa_
  clear Xa_
  repeat' (first | (with_reducible refine RunLN.chk ?_; refine RunLN.int (by (first | (refine wr_i64 ?_ ?_; omega; omega) | (refine wm_i64 ?_; omega) | (refine wq_i64 ?_ ?_ ?_; omega; omega; omega) | rfl)) ?_) | refine RunLN.any ?_ | refine RunL.ev Tryd.tOk rfl rfl rfl ?_)
  refine RunL.alloc Tryd.tOk rfl rfl rfl fun B43 wa_ aa_ => ?_
  have gB43 := aa_.ge X
  refine RunL.store Tryd.tOk rfl rfl rfl rfl rfl (cs := bk0) aa_.at_ rfl rfl fun w43_ tb_ => ?_
  have Xa_ : Ext _ w43_ := aa_.ext.write tb_.ext (by intro i_ hi_ hlt_; have := aa_.eq; omega)
  have Z43 : Blk w43_ B43 (bkV x3 (.slice d43 1 c43)) 24 := tb_.at_
  have n1_43 : B1 ≠ B43 := by have := Z1.lt; have := aa_.eq; omega
  have n43_1 : B43 ≠ B1 := Ne.symm n1_43
  have n7_43 : B7 ≠ B43 := by have := Z7.lt; have := aa_.eq; omega
  have n43_7 : B43 ≠ B7 := Ne.symm n7_43
  have n10_43 : B10 ≠ B43 := by have := Z10.lt; have := aa_.eq; omega
  have n43_10 : B43 ≠ B10 := Ne.symm n10_43
  have n23_43 : B23 ≠ B43 := by have := Z23.lt; have := aa_.eq; omega
  have n43_23 : B43 ≠ B23 := Ne.symm n23_43
  replace Z1 := Z1.up Xa_
  replace Z7 := Z7.up Xa_
  replace h7 := h7.up Xa_
  replace p7 := p7.up Xa_
  replace Z10 := Z10.up Xa_
  replace h10 := h10.up Xa_
  replace p10 := p10.up Xa_
  replace Z23 := Z23.up Xa_
  replace h23 := h23.up Xa_
  replace h43 := h43.up Xa_
  replace p43 := p43.up Xa_
  replace X := X.trans Xa_
  clear Xa_ aa_ tb_
  repeat' (first | with_reducible refine RunLN.boolF rfl ?_ | (with_reducible refine RunLN.chk ?_; refine RunLN.int (by (first | (refine wr_i64 ?_ ?_; omega; omega) | (refine wm_i64 ?_; omega) | (refine wq_i64 ?_ ?_ ?_; omega; omega; omega) | rfl)) ?_) | refine RunLN.any ?_ | refine RunL.ev Tryd.tOk rfl rfl rfl ?_ | refine RunL.evV rfl rfl rfl (OpV.lenSl Tryd.tOk rfl rfl p7) ?_ | refine RunL.evV rfl rfl rfl (OpV.lenSl Tryd.tOk rfl rfl p10) ?_ | refine RunL.evV rfl rfl rfl (OpV.lenSl Tryd.tOk rfl rfl p43) ?_ | refine RunL.evV rfl rfl rfl (OpV.loadN Tryd.tOk rfl rfl rfl rfl (Blk.row Z7)) ?_ | refine RunL.evV rfl rfl rfl (OpV.loadN Tryd.tOk rfl rfl rfl rfl (Blk.row Z1)) ?_ | refine RunE.condF rfl rfl ?_ | refine RunE.seq ?_ | refine RunE.region ?_ | refine RunL.nil ?_ | refine RunE.skip ?_)
  refine RunL.call rfl rfl rfl (rsame41_at x0 _ _ _ h7 IsSl.nil (by decide)) ?_
  rintro _ _ ⟨rfl, Xa_⟩
  replace Z10 := Z10.up Xa_
  replace h10 := h10.up Xa_
  replace p10 := p10.up Xa_
  replace Z23 := Z23.up Xa_
  replace h23 := h23.up Xa_
  replace Z43 := Z43.up Xa_
  replace h43 := h43.up Xa_
  replace p43 := p43.up Xa_
  replace X := X.trans Xa_
  clear Xa_
  clear h7 p7
  repeat' (first | with_reducible refine RunLN.boolF rfl ?_ | refine RunLN.any ?_ | refine RunL.ev Tryd.tOk rfl rfl rfl ?_ | refine RunL.evV rfl rfl rfl (OpV.loadN Tryd.tOk rfl rfl rfl rfl (Blk.row Z10)) ?_)
  refine RunL.ex rfl rfl rfl (OpE.buildSl Tryd.tOk [.int .i64 0, .int .i64 1] rfl rfl rfl rfl rfl rfl (by simp [Value.cells])) ?_
  rintro _ w_ ⟨B_, rfl, a_⟩
  have k1 : LI' w_ (.slice (some ⟨B_, 0, none⟩) 2 2) [0, 1] := (isSl_added (n := 2) (sz := 1) a_ rfl)
  replace h10 := h10.up a_.ext
  replace p10 := p10.up a_.ext
  replace Z23 := Z23.up a_.ext
  replace h23 := h23.up a_.ext
  replace Z43 := Z43.up a_.ext
  replace h43 := h43.up a_.ext
  replace p43 := p43.up a_.ext
  replace X := X.trans a_.ext
  clear a_
  repeat' (first | refine RunLN.any ?_ | refine RunL.ev Tryd.tOk rfl rfl rfl ?_)
  refine RunL.call rfl rfl rfl (rsame41_at x2 _ _ _ h10 k1 (by decide)) ?_
  rintro _ _ ⟨rfl, Xa_⟩
  replace p10 := p10.up Xa_
  replace Z23 := Z23.up Xa_
  replace h23 := h23.up Xa_
  replace Z43 := Z43.up Xa_
  replace h43 := h43.up Xa_
  replace p43 := p43.up Xa_
  replace X := X.trans Xa_
  clear Xa_
  clear h10 k1
  repeat' (first | with_reducible refine RunLN.boolF rfl ?_ | refine RunLN.any ?_ | refine RunL.ev Tryd.tOk rfl rfl rfl ?_ | refine RunL.evV rfl rfl rfl (OpV.loadN Tryd.tOk rfl rfl rfl rfl (Blk.row Z23)) ?_)
  refine RunL.ex rfl rfl rfl (OpE.buildSl Tryd.tOk [.int .i64 0] rfl rfl rfl rfl rfl rfl (by simp [Value.cells])) ?_
  rintro _ w_ ⟨B_, rfl, a_⟩
  have k2 : LI' w_ (.slice (some ⟨B_, 0, none⟩) 1 1) [0] := (isSl_added (n := 1) (sz := 1) a_ rfl)
  replace p10 := p10.up a_.ext
  replace h23 := h23.up a_.ext
  replace Z43 := Z43.up a_.ext
  replace h43 := h43.up a_.ext
  replace p43 := p43.up a_.ext
  replace X := X.trans a_.ext
  clear a_
  repeat' (first | refine RunLN.any ?_ | refine RunL.ev Tryd.tOk rfl rfl rfl ?_)
  refine RunL.call rfl rfl rfl (rsame41_at x1 _ _ _ h23 k2 (by decide)) ?_
  rintro _ _ ⟨rfl, Xa_⟩
  replace p10 := p10.up Xa_
  replace Z43 := Z43.up Xa_
  replace h43 := h43.up Xa_
  replace p43 := p43.up Xa_
  replace X := X.trans Xa_
  clear Xa_
  clear h23 k2
  repeat' (first | with_reducible refine RunLN.boolF rfl ?_ | refine RunLN.any ?_ | refine RunL.ev Tryd.tOk rfl rfl rfl ?_ | refine RunL.evV rfl rfl rfl (OpV.loadN Tryd.tOk rfl rfl rfl rfl (Blk.row Z43)) ?_)
  refine RunL.ex rfl rfl rfl (OpE.buildSl Tryd.tOk [.int .i64 2] rfl rfl rfl rfl rfl rfl (by simp [Value.cells])) ?_
  rintro _ w_ ⟨B_, rfl, a_⟩
  have k3 : LI' w_ (.slice (some ⟨B_, 0, none⟩) 1 1) [2] := (isSl_added (n := 1) (sz := 1) a_ rfl)
  replace p10 := p10.up a_.ext
  replace h43 := h43.up a_.ext
  replace p43 := p43.up a_.ext
  replace X := X.trans a_.ext
  clear a_
  repeat' (first | refine RunLN.any ?_ | refine RunL.ev Tryd.tOk rfl rfl rfl ?_)
  refine RunL.call rfl rfl rfl (rsame41_at x3 _ _ _ h43 k3 (by decide)) ?_
  rintro _ _ ⟨rfl, Xa_⟩
  replace p10 := p10.up Xa_
  replace p43 := p43.up Xa_
  replace X := X.trans Xa_
  clear Xa_
  clear h43 k3
  repeat' (first | with_reducible refine RunLN.boolF rfl ?_ | refine RunLN.any ?_ | refine RunL.ev Tryd.tOk rfl rfl rfl ?_ | refine RunE.condF rfl rfl ?_ | refine RunE.seq ?_ | refine RunE.region ?_ | refine RunL.nil ?_ | refine RunE.skip ?_)
  refine RunL.ex rfl rfl rfl (OpE.buildSl Tryd.tOk [.agg (rowI 5).toArray, .agg (rowI 77).toArray, .agg (rowI 1).toArray, .agg (rowI 0).toArray] rfl rfl rfl rfl rfl rfl (by simp [Value.cells])) ?_
  rintro _ w_ ⟨B_, rfl, a_⟩
  have i4 : LVI w_ (.slice (some ⟨B_, 0, none⟩) 4 4) [5, 77, 1, 0] := (isSl_added (n := 4) (sz := 4) a_ rfl)
  replace p10 := p10.up a_.ext
  replace p43 := p43.up a_.ext
  replace X := X.trans a_.ext
  clear a_
  have hin := list_in (by simp) i4 (fun x hx => by
    simp only [List.mem_cons, List.not_mem_nil, or_false] at hx
    omega)
  repeat' (first | refine RunLN.any ?_ | refine RunL.ev Tryd.tOk rfl rfl rfl ?_)
  refine RunL.call rfl rfl rfl (encode_ok _ _ _ hin (by simp [CV.depth, depths]) (Nat.le_trans (enc4_le 5 77 1 0 (by omega) (by omega) (by omega) (by omega)) (by decide))) ?_
  rintro _ w6 ⟨r, rfl, O6, Xa⟩
  replace X := X.trans Xa
  replace p10 := p10.up Xa
  replace p43 := p43.up Xa
  clear Xa hin
  have hr6 := isSl_own O6
  clear O6
  repeat' (first | with_reducible refine RunLN.boolT rfl ?_ | (with_reducible refine RunLN.chk ?_; refine RunLN.int (by (first | (refine wr_i64 ?_ ?_; omega; omega) | (refine wm_i64 ?_; omega) | (refine wq_i64 ?_ ?_ ?_; omega; omega; omega) | rfl)) ?_) | refine RunLN.any ?_ | refine RunL.ev Tryd.tOk rfl rfl rfl ?_ | refine RunE.seq ?_ | refine RunE.region ?_ | refine RunL.nil ?_)
  refine RunL.call rfl rfl rfl (ch r _ hr6 (hS.up X) (hkT.up X)) ?_
  rintro _ w7 ⟨rfl, Xa⟩
  replace X := X.trans Xa
  replace p10 := p10.up Xa
  replace p43 := p43.up Xa
  clear Xa
  obtain ⟨bp, op, cp, rfl, rp, -⟩ := isL_held p10 (i := 1) (by simp)
  obtain ⟨bq, oq, cq, rfl, rq, -⟩ := isL_held p43 (i := 0) (by simp)
  have rp1 := flat_row encP rp (i := 1) rfl
  have rq0 := flat_row encP rq (i := 0) rfl
  obtain ⟨k1', m1', x1', y1'⟩ := P1
  obtain ⟨k2', m2', x2', y2'⟩ := P2
  simp only at k1 m1 m2
  subst k1; subst m1; subst m2
  rcases hnn with ⟨hq, rfl⟩ | ⟨hq, rfl⟩
  · repeat' (first | with_reducible refine RunLN.boolT rfl ?_ | with_reducible refine RunLN.eqT rfl ?_ | (with_reducible refine RunLN.decT ?_ ?_; focus omega) | (with_reducible refine RunLN.chk ?_; refine RunLN.int (by (first | exact if_pos hq | (refine wr_i64 ?_ ?_; omega; omega) | (refine wm_i64 ?_; omega) | (refine wq_i64 ?_ ?_ ?_; omega; omega; omega) | rfl)) ?_) | refine RunLN.any ?_ | refine RunL.ev Tryd.tOk rfl rfl rfl ?_ | refine RunL.evV rfl rfl rfl ((OpV.indexSK Tryd.tOk rfl rfl rfl rfl)) ?_ | refine RunL.evV rfl rfl rfl (OpV.load1 Tryd.tOk rfl rfl rfl (rp1 _ _ rfl)) ?_ | refine RunL.evV rfl rfl rfl (OpV.load1 Tryd.tOk rfl rfl rfl (rq0 _ _ rfl)) ?_ | refine RunL.nil ?_)
    exact RunE.retFn Tryd.func13 (.tmp rfl .nil) ⟨rfl, X⟩
  · repeat' (first | with_reducible refine RunLN.boolT rfl ?_ | (with_reducible refine RunLN.decT ?_ ?_; focus omega) | (with_reducible refine RunLN.chk ?_; refine RunLN.int (by (first | exact if_neg hq | (refine wr_i64 ?_ ?_; omega; omega) | (refine wm_i64 ?_; omega) | (refine wq_i64 ?_ ?_ ?_; omega; omega; omega) | rfl)) ?_) | refine RunLN.any ?_ | refine RunL.ev Tryd.tOk rfl rfl rfl ?_ | refine RunL.evV rfl rfl rfl ((OpV.indexSK Tryd.tOk rfl rfl rfl rfl)) ?_ | refine RunL.evV rfl rfl rfl (OpV.load1 Tryd.tOk rfl rfl rfl (rp1 _ _ rfl)) ?_ | refine RunL.evV rfl rfl rfl (OpV.load1 Tryd.tOk rfl rfl rfl (rq0 _ _ rfl)) ?_ | refine RunL.nil ?_)
    exact RunE.retFn Tryd.func13 (.tmp rfl .nil) ⟨rfl, X⟩
end Go.Sg
end
section
/- Nonces: sane. -/
namespace Go.Sg
open Go.Rn Go.Proofs Go.Non Go.Rec Go.RowKit Go.Dev Go.Sha Go.NT Go.Cod
attribute [local irreducible] numN hshN powC Go.Rn.RetsX Go.Rn.RunLN Go.Rn.AsyN Go.Rn.RunL Go.Rn.RunE Go.Rn.Asy Go.Rn.OpV Go.Rn.OpE Go.Rn.ExecE
theorem l41_sane_ok (w : World) (hS : Row w 0 0 (vals init8.l)) (hkT : Row w 1 0 (vals kTab)) : Rets Tryd.prog 13 [] w fun r w' => r = .bool true ∧ Ext w w' := by
  have hle := enc4_le 5 77 1 0 (by omega) (by omega) (by omega) (by omega)
  have ch := fun r w hr h1 h2 => hash_ok ⟨#[110, 111, 110, 99, 101]⟩ r (CV.list ([5, 77, 1, 0].map CV.int)).enc w (by decide) hr hle h1 h2
  rw [← hsh_eq] at ch
  exact l41_sane_gen (pairN 5 77 0) (pairN 5 77 1) (pairN 5 77 2) (numN 5 77 1 0) (numN 5 77 1 1) (hshN 5 77 1 0) y5 y15 rfl rfl rfl ((take_good y9).2 0) ((take_good y9).2 1) (numN_bd _ _ _ _).1 (numN_bd _ _ _ _).1 (numN_cases _ _ _ _) ch w hS hkT
end Go.Sg
end
