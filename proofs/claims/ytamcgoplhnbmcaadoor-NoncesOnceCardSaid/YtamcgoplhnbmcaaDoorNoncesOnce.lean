/- signatorylaw41.NoncesOnce returns true for every input; condition: the package variables digest.start and digest.numbers hold what the program lays in them (the card ties this). -/
import Derived.Test.YtamcgoplhnbmcaaDoorN04
import Derived.Test.YtamcgoplhnbmcaaDoorNonL
import Derived.Test.YtamcgoplhnbmcaaDoorN09
import Derived.Test.YtamcgoplhnbmcaaDoorN06
set_option linter.unusedSimpArgs false
set_option linter.unusedVariables false
set_option linter.unusedSectionVars false
namespace Go.Sg
open Go.Rn Go.Proofs Go.Non Go.Rec Go.RowKit Go.Dev Go.Sha Go.NT
attribute [local irreducible] numN powC pairN Go.Rn.RetsX Go.Rn.RunLN Go.Rn.AsyN Go.Rn.RunL Go.Rn.RunE Go.Rn.Asy Go.Rn.OpV Go.Rn.OpE Go.Rn.ExecE
theorem blk_notMap {β : Type} {w : World} {B r : Nat} {cs : List Value} {t : TypeId} {kv : β → Value} {good : β → Prop} {m : List (β × Value)} (Z : Blk w B cs t) (hm : MapK kv good w r m) : B ≠ r := by
  intro e
  subst e
  obtain ⟨es, c, h1, -⟩ := hm
  have h2 : w.heap[B]? = _ := Z
  rw [h1] at h2
  simp at h2
set_option maxHeartbeats 8000000 in
theorem noncesOnce_walk (k s : Int) (l : List St) (v : Value) (_ : -9223372036854775808 ≤ k ∧ k < 9223372036854775808) (_ : -9223372036854775808 ≤ s ∧ s < 9223372036854775808) (W : World) (hll : l.length < 9223372036854775808 ∧ ∀ x ∈ l, okST x) (hv : LS W v l) (hS : Row W 0 0 (vals init8.l)) (hkT : Row W 1 0 (vals kTab)) :
    Rets Tryd.prog 5 [.int .i64 k, .int .i64 s, v] W fun r w' => r = .bool true ∧ Ext W w' := by
  obtain ⟨hl, hok⟩ := hll
  refine RetsX.of (nt := 276) Tryd.func5 (by kernel_rfl) rfl rfl (by simp) (by simp only [argEnv]; rfl) ?_
  have X := ExtB.refl (fun _ => False) W
  repeat' (first | with_reducible refine RunLN.boolF rfl ?_ | refine RunL.ev Tryd.tOk rfl rfl rfl ?_ | refine RunE.seq ?_ | refine RunE.region ?_ | refine RunL.nil ?_)
  refine RunL.call rfl rfl rfl (l41_sane_ok _ (hS.up X) (hkT.up X)) ?_
  rintro _ _ ⟨rfl, Xa_⟩
  replace X := X.trans Xa_
  clear Xa_
  by_cases hE : newE k s = 0
  · have hB : newB k s = bk k s 0 [] := by unfold newB; rw [if_pos hE]; rfl
    repeat' (first | with_reducible refine RunLN.boolF rfl ?_ | (with_reducible refine RunLN.chk ?_; refine RunLN.int (by (first | (refine wr_i64 ?_ ?_; omega; omega) | (refine wm_i64 ?_; omega) | (refine wq_i64 ?_ ?_ ?_; omega; omega; omega) | rfl)) ?_) | refine RunL.ev Tryd.tOk rfl rfl rfl ?_ | refine RunE.condF rfl rfl ?_ | refine RunE.seq ?_ | refine RunE.region ?_ | refine RunL.nil ?_ | refine RunE.skip ?_)
    refine RunL.call rfl rfl rfl (new_at ⟨hE, hB⟩ _) ?_
    rintro _ _ ⟨rfl, Xa_⟩
    replace X := X.trans Xa_
    clear Xa_
    have hrt0 : rtB (bk k s 0 []) = true := once_new hE
    clear hE hB
    repeat' (first | (with_reducible refine RunLN.chk ?_; refine RunLN.int (by (first | (refine wr_i64 ?_ ?_; omega; omega) | (refine wm_i64 ?_; omega) | (refine wq_i64 ?_ ?_ ?_; omega; omega; omega) | rfl)) ?_) | refine RunLN.any ?_ | refine RunL.ev Tryd.tOk rfl rfl rfl ?_)
    refine RunL.alloc Tryd.tOk rfl rfl rfl fun B7 wa_ aa_ => ?_
    have gB7 := aa_.ge X
    refine RunL.store Tryd.tOk rfl rfl rfl rfl rfl (cs := bk0) aa_.at_ rfl rfl fun w7_ tb_ => ?_
    have Xa_ : Ext _ w7_ := aa_.ext.write tb_.ext (by intro i_ hi_ hlt_; have := aa_.eq; omega)
    have Z7 : Blk w7_ B7 (bkV (bk k s 0 []) (.slice none 0 0)) 24 := tb_.at_
    replace X := X.trans Xa_
    clear Xa_ aa_ tb_
    by_cases h12 : l.length ≤ 12
    · repeat' (first | with_reducible refine RunLN.boolF rfl ?_ | (with_reducible refine RunLN.decF ?_ ?_; focus omega) | (with_reducible refine RunLN.chk ?_; refine RunLN.int (by (first | (refine wr_i64 ?_ ?_; omega; omega) | (refine wm_i64 ?_; omega) | (refine wq_i64 ?_ ?_ ?_; omega; omega; omega) | rfl)) ?_) | refine RunLN.any ?_ | refine RunL.ev Tryd.tOk rfl rfl rfl ?_ | refine RunL.evV rfl rfl rfl (OpV.lenSl Tryd.tOk rfl rfl hv) ?_ | refine RunE.condF rfl rfl ?_ | refine RunE.seq ?_ | refine RunE.region ?_ | refine RunL.nil ?_ | refine RunE.skip ?_)
      refine RunL.ex rfl rfl rfl (OpE.makeMap (Value.int .i64) (fun _ => True)) ?_
      rintro _ w1 ⟨rM, rfl, a, ZM⟩
      have nM7 : B7 < rM := by have := Z7.lt; have := a.eq; omega
      have gM := a.ge X
      replace Z7 := Z7.up a.ext
      replace X := X.trans a.ext
      clear a
      repeat' (first | refine RunLN.any ?_ | refine RunL.ev Tryd.tOk rfl rfl rfl ?_ | refine RunE.seq ?_ | refine RunE.region ?_ | refine RunL.nil ?_)
      refine RunL.ex rfl rfl rfl (OpE.makeMap (Value.int .i64) (fun _ => True)) ?_
      rintro _ w2 ⟨rO, rfl, a, ZO⟩
      have nOM : rM < rO := by have := ZM.lt; have := a.eq; omega
      have gO := a.ge X
      replace Z7 := Z7.up a.ext
      replace ZM := ZM.up a.ext
      replace X := X.trans a.ext
      clear a
      have H : OnceSt w2 k s B7 rM rO 0 0 [] (.slice none 0 0) [] := ⟨Z7, IsSl.nil, fun j hj => by simp [Value.ownBlock] at hj, ZM, ZO⟩
      clear Z7 ZM ZO
      repeat' (first | (with_reducible refine RunLN.chk ?_; refine RunLN.int (by (first | (refine wr_i64 ?_ ?_; omega; omega) | (refine wm_i64 ?_; omega) | (refine wq_i64 ?_ ?_ ?_; omega; omega; omega) | rfl)) ?_) | refine RunLN.any ?_ | refine RunL.ev Tryd.tOk rfl rfl rfl ?_ | refine RunL.evV rfl rfl rfl (OpV.lenSl Tryd.tOk rfl rfl hv) ?_ | refine RunE.seq ?_ | refine RunE.region ?_ | refine RunL.nil ?_ | refine RunE.block ?_)
      refine RunE.loop (ι := Nat × Nat × List Int × Value × List (Int × Value)) (fun x => [(0, .int .i64 k), (1, .int .i64 s), (7, .pointer (some ⟨B7, 0, none⟩)), (9, .map (some rM)), (10, .map (some rO)), (64, v), (65, .int .i64 (l.length : Int)), (66, .int .i64 (x.1 : Int))])
        (fun x w' => x.1 ≤ l.length ∧ x.2.1 ≤ 3 * x.1 ∧ rtB (bk k s x.2.1 x.2.2.1) = true ∧ OverOk x.2.2.2.2 x.2.1 x.2.2.1 ∧ OnceSt w' k s B7 rM rO x.2.1 x.2.1 x.2.2.1 x.2.2.2.1 x.2.2.2.2 ∧ Ext W w') (fun x => l.length - x.1) (0, 0, [], .slice none 0 0, []) (by repeat (first | exact Sub.nil _ | refine Sub.cons rfl ?_)) ⟨Nat.zero_le _, Nat.zero_le _, hrt0, overOk_nil, H, X⟩ ?_
      clear X H hrt0
      rintro ⟨i, N, left, u, ov⟩ w3 ⟨hi, hN, hrt, hov, H, X⟩ again
      simp only at hi hN hrt hov H X again ⊢
      by_cases hlt : i < l.length
      · obtain ⟨b, o, cap, rfl, hr, hc⟩ := isL_held hv hlt
        obtain ⟨x, hx⟩ : ∃ x, l[i]? = some x := ⟨_, List.getElem?_eq_getElem hlt⟩
        have hrx := flat_row encST hr hx
        obtain ⟨ok1, ok2⟩ := hok x (List.mem_of_getElem? hx)
        repeat' (first | (with_reducible refine RunLN.decT ?_ ?_; focus omega) | refine RunLN.any ?_ | refine RunL.ev Tryd.tOk rfl rfl rfl ?_ | refine RunL.evV rfl rfl rfl (OpV.loadN Tryd.tOk rfl rfl rfl rfl (hrx.up X)) ?_ | refine RunL.evV rfl rfl rfl (OpV.indexS Tryd.tOk _ rfl rfl rfl rfl (by omega)) ?_ | refine RunE.condT rfl rfl ?_ | refine RunE.seq ?_ | refine RunE.region ?_ | refine RunL.nil ?_ | refine RunE.block ?_ | refine RunE.skip ?_)
        refine RunL.alloc Tryd.tOk rfl rfl rfl fun B12 wa_ aa_ => ?_
        have gB12 := aa_.ge X
        refine RunL.store Tryd.tOk rfl rfl rfl rfl rfl (cs := [.int .u8 0, .int .u8 0]) aa_.at_ rfl rfl fun w12_ tb_ => ?_
        have Xa_ : Ext _ w12_ := aa_.ext.write tb_.ext (by intro i_ hi_ hlt_; have := aa_.eq; omega)
        have Z12 : Blk w12_ B12 (x.cells) 44 := tb_.at_
        replace H := H.up Xa_
        replace X := X.trans Xa_
        clear Xa_ aa_ tb_
        repeat' (first | (with_reducible refine RunLN.chk ?_; refine RunLN.int (by (first | (refine wr_i64 ?_ ?_; omega; omega) | (refine wm_i64 ?_; omega) | (refine wq_i64 ?_ ?_ ?_; omega; omega; omega) | rfl)) ?_) | refine RunLN.any ?_ | refine RunL.ev Tryd.tOk rfl rfl rfl ?_ | refine RunL.evV rfl rfl rfl (OpV.load1 Tryd.tOk rfl rfl rfl (Blk.cell Z12 rfl)) ?_ | refine RunE.seq ?_ | refine RunE.region ?_ | refine RunL.nil ?_)
        refine RunE.cut (ι := Nat × List Int × Value × List (Int × Value)) (fun _ => [(0, .int .i64 k), (1, .int .i64 s), (7, .pointer (some ⟨B7, 0, none⟩)), (9, .map (some rM)), (10, .map (some rO)), (64, .slice (some ⟨b, o, none⟩) l.length cap), (65, .int .i64 (l.length : Int)), (66, .int .i64 (i : Int))])
          (fun y w' => y.1 ≤ 3 * (i + 1) ∧ rtB (bk k s y.1 y.2.1) = true ∧ OverOk y.2.2.2 y.1 y.2.1 ∧ OnceSt w' k s B7 rM rO y.1 y.1 y.2.1 y.2.2.1 y.2.2.2 ∧ Ext W w') ?_ ?_
        · clear H X Z12 hrt hov hN hrx hr
          clear N left u ov
          rintro ⟨N, left, u, ov⟩ w4 ⟨hN, hrt, hov, H, X⟩
          simp only at hN hrt hov H X ⊢
          obtain ⟨hpw, hrg⟩ := once_range hrt
          have hlen : left.length ≤ N := once_len hrt
          repeat' (first | (with_reducible refine RunLN.chk ?_; refine RunLN.int (by (first | (refine wr_i64 ?_ ?_; omega; omega) | (refine wm_i64 ?_; omega) | (refine wq_i64 ?_ ?_ ?_; omega; omega; omega) | rfl)) ?_) | refine RunLN.any ?_ | refine RunL.ev Tryd.tOk rfl rfl rfl ?_ | refine RunE.seq ?_ | refine RunE.region ?_ | refine RunL.nil ?_)
          refine RunL.ex rfl rfl rfl (OpE.rangeMap (kv := Value.int .i64) (good := fun _ => True) Tryd.underlying41 rfl H.m) ?_
          rintro _ w5 ⟨it, rfl, hit, hsz5, e1, hI⟩
          have hitO : rO < it := by have := H.ltO; omega
          have gIt : W.heap.size ≤ it := by have := X.size; omega
          have huit : left ≠ [] → ∀ j, u.ownBlock = some j → ¬ (j = it) := fun hne j hj => by have := isL_own H.l (by decide) hne hj; omega
          replace H := H.up e1
          replace X := X.trans e1
          clear e1 hsz5
          repeat' (first | refine RunL.nil ?_ | refine RunE.block ?_)
          refine RunE.loop (ι := List (Int × Value)) (fun ys => [(0, .int .i64 k), (1, .int .i64 s), (7, .pointer (some ⟨B7, 0, none⟩)), (9, .map (some rM)), (10, .map (some rO)), (64, .slice (some ⟨b, o, none⟩) l.length cap), (65, .int .i64 (l.length : Int)), (66, .int .i64 (i : Int)), (34, .int .i64 ((ys.filter fun y => decide (y.1 ∈ left)).length : Int)), (219, .pointer (some ⟨it, 0, none⟩))])
            (fun ys w' => IterAt (Value.int .i64) (fun _ => True) w' it rM (madeM k s N) ys ∧ OnceSt w' k s B7 rM rO N N left u ov ∧ Ext W w') (fun ys => (madeM k s N).length - ys.length) [] (by repeat (first | exact Sub.nil _ | refine Sub.cons rfl ?_)) ⟨hI, H, X⟩ ?_
          clear hI H X hit
          rintro ys w6 ⟨hI, H, X⟩ again2
          repeat' (first | refine RunE.seq ?_ | refine RunE.region ?_)
          refine RunL.ex rfl rfl rfl (OpE.nextMap rfl hI) ?_
          rintro v6 w7 (⟨rfl, rfl, hp⟩ | ⟨⟨no, av⟩, rfl, -, hI7, e7, hsz7⟩)
          · rw [count_left hp hpw hrg]
            clear hI
            obtain ⟨du, cu, rfl⟩ := H.slice
            have hml := madeM_length k s N
            have hb1 : (bk k s N left).next = (N : Int) := rfl
            have hb2 : (bk k s N left).keeper = k := rfl
            have hb3 : (bk k s N left).seed = s := rfl
            repeat' (first | with_reducible refine RunLN.boolF rfl ?_ | with_reducible refine RunLN.neF rfl ?_ | (with_reducible refine RunLN.neF ?_ ?_; focus omega) | (with_reducible refine RunLN.chk ?_; refine RunLN.int (by (first | (refine wr_i64 ?_ ?_; omega; omega) | (refine wm_i64 ?_; omega) | (refine wq_i64 ?_ ?_ ?_; omega; omega; omega) | rfl)) ?_) | refine RunLN.any ?_ | refine RunL.ev Tryd.tOk rfl rfl rfl ?_ | refine RunL.evV rfl rfl rfl (OpV.load1 Tryd.tOk rfl rfl rfl (Blk.cell H.b rfl)) ?_ | refine RunL.evV rfl rfl rfl ((OpV.lenMap Tryd.underlying41 rfl H.m)) ?_ | refine RunE.condF rfl rfl ?_ | refine RunE.seq ?_ | refine RunE.region ?_ | refine RunL.nil ?_ | refine RunE.block ?_ | refine RunE.skip ?_ | refine RunE.exit rfl ?_)
            refine RunE.loop (ι := Nat) (fun j => [(0, .int .i64 k), (1, .int .i64 s), (7, .pointer (some ⟨B7, 0, none⟩)), (9, .map (some rM)), (10, .map (some rO)), (64, .slice (some ⟨b, o, none⟩) l.length cap), (65, .int .i64 (l.length : Int)), (66, .int .i64 (i : Int)), (255, .slice du left.length cu), (256, .int .i64 (left.length : Int)), (257, .int .i64 (j : Int))])
              (fun j w' => j ≤ left.length ∧ OnceSt w' k s B7 rM rO N N left (.slice du left.length cu) ov ∧ Ext W w') (fun j => left.length - j) 0 (by repeat (first | exact Sub.nil _ | refine Sub.cons rfl ?_)) ⟨Nat.zero_le _, H, X⟩ ?_
            clear H X
            rintro j w8 ⟨hj, H, X⟩ again3
            by_cases hjl : j < left.length
            · obtain ⟨bl, ol, cl, hbl, hrl, -⟩ := isL_held H.l hjl
              injection hbl with hq1 hq2 hq3
              subst hq1; subst hq3
              obtain ⟨no, hno⟩ : ∃ no, left[j]? = some no := ⟨_, List.getElem?_eq_getElem hjl⟩
              have hnm : no ∈ left := List.mem_of_getElem? hno
              obtain ⟨hn0, hn1⟩ := hrg no hnm
              have hrn := flat_row encT hrl hno
              repeat' (first | (with_reducible refine RunLN.decT ?_ ?_; focus omega) | (with_reducible refine RunLN.chk ?_; refine RunLN.int (by (first | (refine wr_i64 ?_ ?_; omega; omega) | (refine wm_i64 ?_; omega) | (refine wq_i64 ?_ ?_ ?_; omega; omega; omega) | rfl)) ?_) | refine RunLN.any ?_ | refine RunL.ev Tryd.tOk rfl rfl rfl ?_ | refine RunL.evV rfl rfl rfl (OpV.load1 Tryd.tOk rfl rfl rfl (hrn 0 _ rfl)) ?_ | refine RunL.evV rfl rfl rfl (OpV.indexS Tryd.tOk _ rfl rfl rfl rfl (by omega)) ?_ | refine RunE.condT rfl rfl ?_ | refine RunE.seq ?_ | refine RunE.region ?_ | refine RunL.nil ?_ | refine RunE.block ?_ | refine RunE.skip ?_)
              refine RunL.evV rfl rfl rfl (OpV.lookup2 (kv := Value.int .i64) (good := fun _ => True) (k := no) (z := .agg pz.toArray) Tryd.underlying41 intKey (by kernel_rfl) rfl rfl trivial H.m) ?_
              rw [madeM_get, if_pos ⟨hn0, hn1⟩, Option.getD_some, Option.isSome_some, madeV_eq]
              repeat' (first | with_reducible refine RunLN.boolT rfl ?_ | refine RunLN.any ?_ | refine RunL.ev Tryd.tOk rfl rfl rfl ?_)
              refine RunL.alloc Tryd.tOk rfl rfl rfl fun B38 wa_ aa_ => ?_
              have gB38 := aa_.ge X
              refine RunL.store Tryd.tOk rfl rfl rfl rfl rfl (cs := pz) aa_.at_ rfl rfl fun w38_ tb_ => ?_
              have Xa_ : Ext _ w38_ := aa_.ext.write tb_.ext (by intro i_ hi_ hlt_; have := aa_.eq; omega)
              have Z38 : Blk w38_ B38 (pairC k s no) 46 := tb_.at_
              replace H := H.up Xa_
              replace X := X.trans Xa_
              clear Xa_ aa_ tb_
              repeat' (first | with_reducible refine RunLN.boolT rfl ?_ | with_reducible refine RunLN.boolF rfl ?_ | (with_reducible refine RunLN.chk ?_; refine RunLN.int (by (first | (refine wr_i64 ?_ ?_; omega; omega) | (refine wm_i64 ?_; omega) | (refine wq_i64 ?_ ?_ ?_; omega; omega; omega) | rfl)) ?_) | refine RunLN.any ?_ | refine RunL.ev Tryd.tOk rfl rfl rfl ?_ | refine RunE.seq ?_ | refine RunE.region ?_ | refine RunL.nil ?_)
              refine RunL.evV rfl rfl rfl (OpV.lookup (kv := Value.int .i64) (good := fun _ => True) (k := no) (z := .bool false) Tryd.underlying42 intKey (by kernel_rfl) rfl rfl trivial H.o) ?_
              rw [hov no, decide_eq_false (fun h => h.2.2 hnm)]
              repeat' (first | with_reducible refine RunLN.boolF rfl ?_ | (with_reducible refine RunLN.chk ?_; refine RunLN.int (by (first | (refine wr_i64 ?_ ?_; omega; omega) | (refine wm_i64 ?_; omega) | (refine wq_i64 ?_ ?_ ?_; omega; omega; omega) | rfl)) ?_) | refine RunL.ev Tryd.tOk rfl rfl rfl ?_ | refine RunE.condF rfl rfl ?_ | refine RunE.region ?_ | refine RunL.nil ?_ | refine RunE.inBlock ?_ | refine RunE.skip ?_)
              refine RunE.weaken (by repeat (first | exact Sub.nil _ | refine Sub.cons rfl ?_)) (again3 (j + 1) _ (by omega) ⟨by omega, H, X⟩)
            · obtain rfl : j = left.length := by omega
              repeat' (first | (with_reducible refine RunLN.decF ?_ ?_; focus omega) | (with_reducible refine RunLN.chk ?_; refine RunLN.int (by (first | (refine wr_i64 ?_ ?_; omega; omega) | (refine wm_i64 ?_; omega) | (refine wq_i64 ?_ ?_ ?_; omega; omega; omega) | rfl)) ?_) | refine RunL.ev Tryd.tOk rfl rfl rfl ?_ | refine RunE.condF rfl rfl ?_ | refine RunE.seq ?_ | refine RunE.region ?_ | refine RunL.nil ?_ | refine RunE.inBlock ?_ | refine RunE.exit rfl ?_)
              refine RunE.weaken (by repeat (first | exact Sub.nil _ | refine Sub.cons rfl ?_)) (again (i + 1, N, left, .slice du left.length cu, ov) _ (by simp only; omega) ⟨by omega, hN, hrt, hov, H, X⟩)
          · obtain ⟨zs, hzs⟩ := hI7.sub
            have hlen2 := hzs.length_eq
            simp only [List.length_append, List.length_singleton] at hlen2
            have hmem : 0 ≤ no ∧ no < (N : Int) := (madeM_mem (k := k) (s := s)).1 (by
              rw [← (hzs.map (·.1)).mem_iff]; simp)
            replace H := H.ext e7 (by omega) (by omega) (by omega) huit
            replace X := X.own e7 gIt
            have hlt2 : (ys.filter fun y => decide (y.1 ∈ left)).length ≤ ys.length := List.length_filter_le _ _
            rw [madeM_length] at hlen2 again2
            repeat' (first | with_reducible refine RunLN.boolT rfl ?_ | refine RunL.ev Tryd.tOk rfl rfl rfl ?_ | refine RunE.condT rfl rfl ?_ | refine RunE.seq ?_ | refine RunE.region ?_ | refine RunL.nil ?_ | refine RunE.block ?_ | refine RunE.skip ?_)
            refine RunL.evV rfl rfl rfl (OpV.entryMap rfl hI7) ?_
            repeat' (first | (with_reducible refine RunLN.chk ?_; refine RunLN.int (by (first | (refine wr_i64 ?_ ?_; omega; omega) | (refine wm_i64 ?_; omega) | (refine wq_i64 ?_ ?_ ?_; omega; omega; omega) | rfl)) ?_) | refine RunLN.any ?_ | refine RunL.ev Tryd.tOk rfl rfl rfl ?_ | refine RunE.seq ?_ | refine RunE.region ?_ | refine RunL.nil ?_)
            refine RunL.evV rfl rfl rfl (OpV.lookup (kv := Value.int .i64) (good := fun _ => True) (k := no) (z := .bool false) Tryd.underlying42 intKey (by kernel_rfl) rfl rfl trivial H.o) ?_
            rw [hov no]
            by_cases hnm : no ∈ left
            · rw [decide_eq_false (fun h => h.2.2 hnm)]
              repeat' (first | with_reducible refine RunLN.boolT rfl ?_ | with_reducible refine RunLN.boolF rfl ?_ | (with_reducible refine RunLN.chk ?_; refine RunLN.int (by (first | (refine wr_i64 ?_ ?_; omega; omega) | (refine wm_i64 ?_; omega) | (refine wq_i64 ?_ ?_ ?_; omega; omega; omega) | rfl)) ?_) | refine RunL.ev Tryd.tOk rfl rfl rfl ?_ | refine RunE.condT rfl rfl ?_ | refine RunE.region ?_ | refine RunL.nil ?_ | refine RunE.inBlock ?_)
              refine RunE.weaken (env' := _) ?_ (again2 (ys ++ [(no, av)]) _ (by simp only [List.length_append, List.length_singleton]; omega) ⟨hI7, H, X⟩)
              rw [List.filter_append, List.length_append]
              simp only [List.filter_cons, List.filter_nil, hnm, decide_true, if_true, List.length_singleton]
              exact (by repeat (first | exact Sub.nil _ | refine Sub.cons rfl ?_))
            · rw [decide_eq_true ⟨hmem.1, hmem.2, hnm⟩]
              repeat' (first | with_reducible refine RunLN.boolT rfl ?_ | with_reducible refine RunLN.boolF rfl ?_ | refine RunL.ev Tryd.tOk rfl rfl rfl ?_ | refine RunE.condF rfl rfl ?_ | refine RunL.nil ?_ | refine RunE.inBlock ?_ | refine RunE.skip ?_)
              refine RunE.weaken (env' := _) ?_ (again2 (ys ++ [(no, av)]) _ (by simp only [List.length_append, List.length_singleton]; omega) ⟨hI7, H, X⟩)
              rw [List.filter_append, List.length_append]
              simp only [List.filter_cons, List.filter_nil, hnm, decide_false, Bool.false_eq_true, if_false, List.length_nil, Nat.add_zero]
              exact (by repeat (first | exact Sub.nil _ | refine Sub.cons rfl ?_))
        · intro join
          refine RunE.block ?_
          have h3 : x.kind % 3 = 0 ∨ x.kind % 3 = 1 ∨ x.kind % 3 = 2 := by omega
          rcases h3 with h3 | h3 | h3
          · rw [h3]
            obtain ⟨n, hn, hn3⟩ : ∃ n : Nat, x.n % 4 = (n : Int) ∧ n ≤ 3 := ⟨(x.n % 4).toNat, by omega, by omega⟩
            obtain ⟨e1, e2, e3, e4⟩ := once_make (n := n) hrt (by omega)
            have hlen := once_len hrt
            have m1 := fun w hv h1 h2 => make_own ⟨e1, e2, e3⟩ u w hv (show left.length < 9223372036854775808 by omega) h1 h2
            have hov' : OverOk ov (N + n) (left ++ upB (bk k s N left) n) := hov.make rfl
            have hpl : ((List.range n).map fun i => pairN k s ((N + i : Nat) : Int)).length = n := by simp
            have hpg : ∀ j, j < n → ((List.range n).map fun i => pairN k s ((N + i : Nat) : Int))[j]? = some (pairN k s ((N + j : Nat) : Int)) := fun j hj => by simp [hj]
            clear e1 e2 e3
            generalize ((List.range n).map fun i => pairN k s ((N + i : Nat) : Int)) = prs at m1 hpl hpg
            generalize left ++ upB (bk k s N left) n = left' at m1 hov' e4
            repeat' (first | with_reducible refine RunLN.boolT rfl ?_ | (with_reducible refine RunLN.chk ?_; refine RunLN.int (by (first | (refine wr_i64 ?_ ?_; omega; omega) | (refine wm_i64 ?_; omega) | (refine wq_i64 ?_ ?_ ?_; omega; omega; omega) | rfl)) ?_) | refine RunLN.any ?_ | refine RunL.ev Tryd.tOk rfl rfl rfl ?_ | refine RunL.evV rfl rfl rfl (OpV.load1 Tryd.tOk rfl rfl rfl (Blk.cell Z12 rfl)) ?_ | refine RunL.evV rfl rfl rfl (OpV.loadN Tryd.tOk rfl rfl rfl rfl (Blk.row H.b)) ?_ | refine RunE.condT rfl rfl ?_ | refine RunE.seq ?_ | refine RunE.region ?_ | refine RunL.nil ?_)
            rw [hn]
            skip
            have hB13 := H.ltO
            refine RunL.call rfl rfl rfl (m1 _ H.l (hS.up X) (hkT.up X)) ?_
            rintro _ _ ⟨⟨d13, c13, l13, rfl, O13, p13⟩, Xa_⟩
            replace H := H.up Xa_
            replace Z12 := Z12.up Xa_
            replace X := X.trans Xa_
            clear Xa_
            have o13 : ∀ j, (Value.slice d13 left'.length c13).ownBlock = some j → rO < j := fun j hj => by have := ownsRow_ge O13 hj; omega
            have h13 : LI' _ (.slice d13 left'.length c13) left' := isSl_own O13
            clear O13 m1 hB13
            repeat' (first | (with_reducible refine RunLN.chk ?_; refine RunLN.int (by (first | (refine wr_i64 ?_ ?_; omega; omega) | (refine wm_i64 ?_; omega) | (refine wq_i64 ?_ ?_ ?_; omega; omega; omega) | rfl)) ?_) | refine RunLN.any ?_ | refine RunL.ev Tryd.tOk rfl rfl rfl ?_)
            refine RunL.alloc Tryd.tOk rfl rfl rfl fun B13 wa_ aa_ => ?_
            have gB13 := aa_.ge X
            refine RunL.store Tryd.tOk rfl rfl rfl rfl rfl (cs := bk0) aa_.at_ rfl rfl fun w13_ tb_ => ?_
            have Xa_ : Ext _ w13_ := aa_.ext.write tb_.ext (by intro i_ hi_ hlt_; have := aa_.eq; omega)
            have Z13 : Blk w13_ B13 (bkV (bk k s (N + n) left') (.slice d13 left'.length c13)) 24 := tb_.at_
            have n12_13 : B12 ≠ B13 := by have := Z12.lt; have := aa_.eq; omega
            have n13_12 : B13 ≠ B12 := Ne.symm n12_13
            replace H := H.up Xa_
            replace Z12 := Z12.up Xa_
            replace h13 := h13.up Xa_
            replace p13 := p13.up Xa_
            replace X := X.trans Xa_
            clear Xa_ aa_ tb_
            repeat' (first | with_reducible refine RunLN.boolF rfl ?_ | (with_reducible refine RunLN.neF ?_ ?_; focus omega) | (with_reducible refine RunLN.chk ?_; refine RunLN.int (by (first | (refine wr_i64 ?_ ?_; omega; omega) | (refine wm_i64 ?_; omega) | (refine wq_i64 ?_ ?_ ?_; omega; omega; omega) | rfl)) ?_) | refine RunLN.any ?_ | refine RunL.ev Tryd.tOk rfl rfl rfl ?_ | refine RunL.evV rfl rfl rfl (OpV.load1 Tryd.tOk rfl rfl rfl (Blk.cell Z12 rfl)) ?_ | refine RunL.evV rfl rfl rfl (OpV.lenSl Tryd.tOk rfl rfl p13) ?_ | refine RunE.condF rfl rfl ?_ | refine RunE.seq ?_ | refine RunE.region ?_ | refine RunL.nil ?_ | refine RunE.block ?_ | refine RunE.skip ?_)
            rw [hpl]
            skip
            refine RunE.loop (ι := Nat) (fun j => [(0, .int .i64 k), (1, .int .i64 s), (7, .pointer (some ⟨B7, 0, none⟩)), (9, .map (some rM)), (10, .map (some rO)), (64, .slice (some ⟨b, o, none⟩) l.length cap), (65, .int .i64 (l.length : Int)), (66, .int .i64 (i : Int)), (13, .pointer (some ⟨B13, 0, none⟩)), (112, l13), (113, .int .i64 (n : Int)), (114, .int .i64 (j : Int))])
              (fun j w' => j ≤ n ∧ OnceSt w' k s B7 rM rO N (N + j) left u ov ∧ Blk w' B13 (bkV (bk k s (N + n) left') (.slice d13 left'.length c13)) 24 ∧ LP w' l13 prs ∧ LI' w' (.slice d13 left'.length c13) left' ∧ Ext W w') (fun j => n - j) 0 (by repeat (first | exact Sub.nil _ | refine Sub.cons rfl ?_)) ⟨Nat.zero_le _, H, Z13, p13, h13, X⟩ ?_
            clear H Z13 p13 h13 X Z12
            rintro j w8 ⟨hj, H, Z13, p13, h13, X⟩ again2
            by_cases hjn : j < n
            · have hl13 := isL_notMap p13 encP H.m (by intro e; rw [e] at hpl; simp at hpl; omega)
              obtain ⟨bp, op, cp, rfl, rp, -⟩ := isL_held p13 (i := j) (by omega)
              have rpj := flat_row encP rp (hpg j hjn)
              rw [pairN_C] at rpj
              clear rp
              have hgone : getM ((N + j : Nat) : Int) (madeM k s (N + j)) = none := by rw [madeM_get, if_neg (by omega)]
              repeat' (first | (with_reducible refine RunLN.decT ?_ ?_; focus omega) | refine RunLN.any ?_ | refine RunL.ev Tryd.tOk rfl rfl rfl ?_ | refine RunL.evV rfl rfl rfl (OpV.loadN Tryd.tOk rfl rfl rfl rfl rpj) ?_ | refine RunL.evV rfl rfl rfl (OpV.indexS Tryd.tOk _ rfl rfl rfl rfl (by omega)) ?_ | refine RunE.condT rfl rfl ?_ | refine RunE.seq ?_ | refine RunE.region ?_ | refine RunL.nil ?_ | refine RunE.block ?_ | refine RunE.skip ?_)
              refine RunL.alloc Tryd.tOk rfl rfl rfl fun B17 wa_ aa_ => ?_
              have gB17 := aa_.ge X
              refine RunL.store Tryd.tOk rfl rfl rfl rfl rfl (cs := pz) aa_.at_ rfl rfl fun w17_ tb_ => ?_
              have Xa_ : Ext _ w17_ := aa_.ext.write tb_.ext (by intro i_ hi_ hlt_; have := aa_.eq; omega)
              have Z17 : Blk w17_ B17 (pairC k s ((N + j : Nat) : Int)) 46 := tb_.at_
              have n13_17 : B13 ≠ B17 := by have := Z13.lt; have := aa_.eq; omega
              have n17_13 : B17 ≠ B13 := Ne.symm n13_17
              replace H := H.up Xa_
              replace Z13 := Z13.up Xa_
              replace p13 := p13.up Xa_
              replace h13 := h13.up Xa_
              replace X := X.trans Xa_
              clear Xa_ aa_ tb_
              repeat' (first | (with_reducible refine RunLN.chk ?_; refine RunLN.int (by (first | (refine wr_i64 ?_ ?_; omega; omega) | (refine wm_i64 ?_; omega) | (refine wq_i64 ?_ ?_ ?_; omega; omega; omega) | rfl)) ?_) | refine RunLN.any ?_ | refine RunL.ev Tryd.tOk rfl rfl rfl ?_ | refine RunL.evV rfl rfl rfl (OpV.load1 Tryd.tOk rfl rfl rfl (Blk.cell Z17 rfl)) ?_ | refine RunE.seq ?_ | refine RunE.region ?_ | refine RunL.nil ?_)
              refine RunL.evV rfl rfl rfl (OpV.lookup2 (kv := Value.int .i64) (good := fun _ => True) (k := ((N + j : Nat) : Int)) (z := .agg pz.toArray) Tryd.underlying41 intKey (by kernel_rfl) rfl rfl trivial H.m) ?_
              rw [hgone, Option.getD_none, Option.isSome_none]
              clear hgone
              repeat' (first | with_reducible refine RunLN.boolF rfl ?_ | refine RunLN.any ?_ | refine RunL.ev Tryd.tOk rfl rfl rfl ?_)
              refine RunL.alloc Tryd.tOk rfl rfl rfl fun B18 wa_ aa_ => ?_
              have gB18 := aa_.ge X
              refine RunL.store Tryd.tOk rfl rfl rfl rfl rfl (cs := pz) aa_.at_ rfl rfl fun w18_ tb_ => ?_
              have Xa_ : Ext _ w18_ := aa_.ext.write tb_.ext (by intro i_ hi_ hlt_; have := aa_.eq; omega)
              have Z18 : Blk w18_ B18 (pz) 46 := tb_.at_
              have n13_18 : B13 ≠ B18 := by have := Z13.lt; have := aa_.eq; omega
              have n18_13 : B18 ≠ B13 := Ne.symm n13_18
              have n17_18 : B17 ≠ B18 := by have := Z17.lt; have := aa_.eq; omega
              have n18_17 : B18 ≠ B17 := Ne.symm n17_18
              replace H := H.up Xa_
              replace Z13 := Z13.up Xa_
              replace p13 := p13.up Xa_
              replace h13 := h13.up Xa_
              replace Z17 := Z17.up Xa_
              replace X := X.trans Xa_
              clear Xa_ aa_ tb_
              repeat' (first | with_reducible refine RunLN.boolF rfl ?_ | with_reducible refine RunLN.neF rfl ?_ | (with_reducible refine RunLN.chk ?_; refine RunLN.int (by (first | (refine wr_i64 ?_ ?_; omega; omega) | (refine wm_i64 ?_; omega) | (refine wq_i64 ?_ ?_ ?_; omega; omega; omega) | rfl)) ?_) | refine RunLN.any ?_ | refine RunL.ev Tryd.tOk rfl rfl rfl ?_ | refine RunL.evV rfl rfl rfl (OpV.load1 Tryd.tOk rfl rfl rfl (Blk.cell Z17 rfl)) ?_ | refine RunL.evV rfl rfl rfl (OpV.loadN Tryd.tOk rfl rfl rfl rfl (Blk.row Z17)) ?_ | refine RunE.condF rfl rfl ?_ | refine RunE.seq ?_ | refine RunE.region ?_ | refine RunL.nil ?_ | refine RunE.skip ?_)
              refine RunL.exN rfl rfl (OpE.mapSet (kv := Value.int .i64) (good := fun _ => True) (k := ((N + j : Nat) : Int)) (v := .agg (pairC k s ((N + j : Nat) : Int)).toArray) Tryd.underlying41 intKey rfl rfl rfl trivial H.m) ?_
              rintro _ w9 ⟨hm9, e9, hs9⟩
              rw [← madeV_eq, madeM_set] at hm9
              have nM13 : B13 ≠ rM := blk_notMap Z13 H.m
              replace H := H.setM e9 hm9 nM7 nOM
              replace Z13 := Z13.other e9 nM13
              replace p13 := isL_ext p13 e9 (fun _ => hl13)
              replace h13 := isL_ext h13 e9 (fun _ i hi => by have := o13 i hi; omega)
              replace X := X.own e9 gM
              clear e9 hm9 hs9
              repeat' (first | (with_reducible refine RunLN.chk ?_; refine RunLN.int (by (first | (refine wr_i64 ?_ ?_; omega; omega) | (refine wm_i64 ?_; omega) | (refine wq_i64 ?_ ?_ ?_; omega; omega; omega) | rfl)) ?_) | refine RunL.ev Tryd.tOk rfl rfl rfl ?_ | refine RunE.region ?_ | refine RunL.nil ?_ | refine RunE.inBlock ?_)
              refine RunE.weaken (by repeat (first | exact Sub.nil _ | refine Sub.cons rfl ?_)) (again2 (j + 1) _ (by omega) ⟨by omega, H, Z13, p13, h13, X⟩)
            · obtain rfl : j = n := by omega
              repeat' (first | (with_reducible refine RunLN.decF ?_ ?_; focus omega) | refine RunLN.any ?_ | refine RunL.ev Tryd.tOk rfl rfl rfl ?_ | refine RunL.evV rfl rfl rfl (OpV.loadN Tryd.tOk rfl rfl rfl rfl (Blk.row Z13)) ?_ | refine RunE.condF rfl rfl ?_ | refine RunE.seq ?_ | refine RunE.region ?_ | refine RunL.nil ?_ | refine RunE.exit rfl ?_)
              refine RunL.store Tryd.tOk rfl rfl rfl rfl rfl H.b rfl rfl fun w9 t9 => ?_
              have t9' : Turned w8 w9 B7 (.cells (bkV (bk k s (N + j) left') (.slice d13 left'.length c13)).toArray 24 (0, 0)) := t9
              replace H := H.setB t9' h13 o13 nM7 nOM
              replace X := X.own t9.ext gB7
              clear t9 t9'
              refine RunL.nil ?_
              refine RunE.inBlock ?_
              refine RunE.weaken (by repeat (first | exact Sub.nil _ | refine Sub.cons rfl ?_)) (join (N + j, left', .slice d13 left'.length c13, ov) _ ⟨by simp only; omega, e4, hov', H, X⟩)
          · rw [h3]
            obtain ⟨no, hno, hn0, hn15⟩ : ∃ no, x.n % 16 = no ∧ 0 ≤ no ∧ no < 16 := ⟨x.n % 16, rfl, by omega, by omega⟩
            obtain ⟨hpw, hrg⟩ := once_range hrt
            have hlen := once_len hrt
            repeat' (first | with_reducible refine RunLN.boolT rfl ?_ | with_reducible refine RunLN.boolF rfl ?_ | (with_reducible refine RunLN.chk ?_; refine RunLN.int (by (first | (refine wr_i64 ?_ ?_; omega; omega) | (refine wm_i64 ?_; omega) | (refine wq_i64 ?_ ?_ ?_; omega; omega; omega) | rfl)) ?_) | refine RunLN.any ?_ | refine RunL.ev Tryd.tOk rfl rfl rfl ?_ | refine RunL.evV rfl rfl rfl (OpV.load1 Tryd.tOk rfl rfl rfl (Blk.cell Z12 rfl)) ?_ | refine RunE.condT rfl rfl ?_ | refine RunE.condF rfl rfl ?_ | refine RunE.seq ?_ | refine RunE.region ?_ | refine RunL.nil ?_)
            rw [hno]
            clear hno Z12
            by_cases hm : no ∈ left
            · obtain ⟨hq0, hq1⟩ := hrg no hm
              obtain ⟨e1, e2⟩ := once_take hrt hm
              have e5 := once_sub hrt (left' := left.filter fun x => decide (x ≠ no)) List.filter_sublist
              have hov' := hov.take ⟨hq0, hq1⟩
              have m1 := fun w hv h1 h2 => take_own (d0 := numN k s no 0) (d1 := numN k s no 1) e1 e2 ((take_good e1).2 0) ((take_good e1).2 1) u w hv (show left.length < 9223372036854775808 by omega) h1 h2
              have k0 := numN_bd k s no 0
              have k1 := numN_bd k s no 1
              clear e1 e2
              generalize (left.filter fun x => decide (x ≠ no)) = left' at m1 hov' e5
              repeat' (first | (with_reducible refine RunLN.chk ?_; refine RunLN.int (by (first | (refine wr_i64 ?_ ?_; omega; omega) | (refine wm_i64 ?_; omega) | (refine wq_i64 ?_ ?_ ?_; omega; omega; omega) | rfl)) ?_) | refine RunLN.any ?_ | refine RunL.ev Tryd.tOk rfl rfl rfl ?_ | refine RunL.evV rfl rfl rfl (OpV.loadN Tryd.tOk rfl rfl rfl rfl (Blk.row H.b)) ?_)
              have hB21 := H.ltO
              refine RunL.call rfl rfl rfl (m1 _ H.l (hS.up X) (hkT.up X)) ?_
              rintro _ _ ⟨⟨d21, c21, rfl, O21⟩, Xa_⟩
              replace H := H.up Xa_
              replace X := X.trans Xa_
              clear Xa_
              have o21 : ∀ j, (Value.slice d21 left'.length c21).ownBlock = some j → rO < j := fun j hj => by have := ownsRow_ge O21 hj; omega
              have h21 : LI' _ (.slice d21 left'.length c21) left' := isSl_own O21
              clear O21 m1 hB21
              repeat' (first | (with_reducible refine RunLN.chk ?_; refine RunLN.int (by (first | (refine wr_i64 ?_ ?_; omega; omega) | (refine wm_i64 ?_; omega) | (refine wq_i64 ?_ ?_ ?_; omega; omega; omega) | rfl)) ?_) | refine RunLN.any ?_ | refine RunL.ev Tryd.tOk rfl rfl rfl ?_)
              refine RunL.alloc Tryd.tOk rfl rfl rfl fun B21 wa_ aa_ => ?_
              have gB21 := aa_.ge X
              refine RunL.store Tryd.tOk rfl rfl rfl rfl rfl (cs := bk0) aa_.at_ rfl rfl fun w21_ tb_ => ?_
              have Xa_ : Ext _ w21_ := aa_.ext.write tb_.ext (by intro i_ hi_ hlt_; have := aa_.eq; omega)
              have Z21 : Blk w21_ B21 (bkV (bk k s N left') (.slice d21 left'.length c21)) 24 := tb_.at_
              replace H := H.up Xa_
              replace h21 := h21.up Xa_
              replace X := X.trans Xa_
              clear Xa_ aa_ tb_
              repeat' (first | (with_reducible refine RunLN.chk ?_; refine RunLN.int (by (first | (refine wr_i64 ?_ ?_; omega; omega) | (refine wm_i64 ?_; omega) | (refine wq_i64 ?_ ?_ ?_; omega; omega; omega) | rfl)) ?_) | refine RunLN.any ?_ | refine RunL.ev Tryd.tOk rfl rfl rfl ?_ | refine RunE.seq ?_ | refine RunE.region ?_ | refine RunL.nil ?_)
              refine RunL.evV rfl rfl rfl (OpV.lookup2 (kv := Value.int .i64) (good := fun _ => True) (k := no) (z := .agg pz.toArray) Tryd.underlying41 intKey (by kernel_rfl) rfl rfl trivial H.m) ?_
              rw [madeM_get, if_pos ⟨hq0, hq1⟩, Option.getD_some, Option.isSome_some, madeV_eq]
              repeat' (first | with_reducible refine RunLN.boolT rfl ?_ | refine RunLN.any ?_ | refine RunL.ev Tryd.tOk rfl rfl rfl ?_)
              refine RunL.alloc Tryd.tOk rfl rfl rfl fun B25 wa_ aa_ => ?_
              have gB25 := aa_.ge X
              refine RunL.store Tryd.tOk rfl rfl rfl rfl rfl (cs := pz) aa_.at_ rfl rfl fun w25_ tb_ => ?_
              have Xa_ : Ext _ w25_ := aa_.ext.write tb_.ext (by intro i_ hi_ hlt_; have := aa_.eq; omega)
              have Z25 : Blk w25_ B25 (pairC k s no) 46 := tb_.at_
              have n21_25 : B21 ≠ B25 := by have := Z21.lt; have := aa_.eq; omega
              have n25_21 : B25 ≠ B21 := Ne.symm n21_25
              replace H := H.up Xa_
              replace h21 := h21.up Xa_
              replace Z21 := Z21.up Xa_
              replace X := X.trans Xa_
              clear Xa_ aa_ tb_
              repeat' (first | with_reducible refine RunLN.boolT rfl ?_ | with_reducible refine RunLN.boolF rfl ?_ | (with_reducible refine RunLN.chk ?_; refine RunLN.int (by (first | (refine wr_i64 ?_ ?_; omega; omega) | (refine wm_i64 ?_; omega) | (refine wq_i64 ?_ ?_ ?_; omega; omega; omega) | rfl)) ?_) | refine RunLN.any ?_ | refine RunL.ev Tryd.tOk rfl rfl rfl ?_ | refine RunE.seq ?_ | refine RunE.region ?_ | refine RunL.nil ?_)
              refine RunL.evV rfl rfl rfl (OpV.lookup (kv := Value.int .i64) (good := fun _ => True) (k := no) (z := .bool false) Tryd.underlying42 intKey (by kernel_rfl) rfl rfl trivial H.o) ?_
              rw [hov no, decide_eq_false (fun h => h.2.2 hm)]
              repeat' (first | with_reducible refine RunLN.boolF rfl ?_ | (with_reducible refine RunLN.chk ?_; refine RunLN.int (by (first | (refine wr_i64 ?_ ?_; omega; omega) | (refine wm_i64 ?_; omega) | (refine wq_i64 ?_ ?_ ?_; omega; omega; omega) | rfl)) ?_) | refine RunL.ev Tryd.tOk rfl rfl rfl ?_ | refine RunE.condF rfl rfl ?_ | refine RunE.seq ?_ | refine RunE.region ?_ | refine RunL.nil ?_ | refine RunE.skip ?_)
              refine RunL.call rfl rfl rfl (pow_ok 4 (numN k s no 0) _) ?_
              rintro _ _ ⟨rfl, Xa_⟩
              replace H := H.up Xa_
              replace h21 := h21.up Xa_
              replace Z21 := Z21.up Xa_
              replace Z25 := Z25.up Xa_
              replace X := X.trans Xa_
              clear Xa_
              rw [v4]
              repeat' (first | (with_reducible refine RunLN.chk ?_; refine RunLN.int (by (first | (refine wr_i64 ?_ ?_; omega; omega) | (refine wm_i64 ?_; omega) | (refine wq_i64 ?_ ?_ ?_; omega; omega; omega) | rfl)) ?_) | refine RunLN.any ?_ | refine RunL.ev Tryd.tOk rfl rfl rfl ?_ | refine RunE.seq ?_ | refine RunE.region ?_ | refine RunL.nil ?_)
              refine RunL.call rfl rfl rfl (pow_ok 4 (numN k s no 1) _) ?_
              rintro _ _ ⟨rfl, Xa_⟩
              replace H := H.up Xa_
              replace h21 := h21.up Xa_
              replace Z21 := Z21.up Xa_
              replace Z25 := Z25.up Xa_
              replace X := X.trans Xa_
              clear Xa_
              rw [v4]
              repeat' (first | with_reducible refine RunLN.boolF rfl ?_ | with_reducible refine RunLN.neF rfl ?_ | (with_reducible refine RunLN.decF ?_ ?_; focus omega) | (with_reducible refine RunLN.chk ?_; refine RunLN.int (by (first | (refine wr_i64 ?_ ?_; omega; omega) | (refine wm_i64 ?_; omega) | (refine wq_i64 ?_ ?_ ?_; omega; omega; omega) | rfl)) ?_) | refine RunLN.any ?_ | refine RunL.ev Tryd.tOk rfl rfl rfl ?_ | refine RunL.evV rfl rfl rfl (OpV.load1 Tryd.tOk rfl rfl rfl (Blk.cell Z25 rfl)) ?_ | refine RunL.evV rfl rfl rfl (OpV.loadN Tryd.tOk rfl rfl rfl rfl (Blk.row Z21)) ?_ | refine RunE.condF rfl rfl ?_ | refine RunE.seq ?_ | refine RunE.region ?_ | refine RunL.nil ?_ | refine RunE.skip ?_)
              refine RunL.store Tryd.tOk rfl rfl rfl rfl rfl H.b rfl rfl fun w9 t9 => ?_
              have t9' : Turned _ w9 B7 (.cells (bkV (bk k s N left') (.slice d21 left'.length c21)).toArray 24 (0, 0)) := t9
              replace H := H.setB t9' h21 o21 nM7 nOM
              replace X := X.own t9.ext gB7
              clear t9 t9'
              skip
              refine RunL.exN rfl rfl (OpE.mapSet (kv := Value.int .i64) (good := fun _ => True) (k := no) (v := .bool true) Tryd.underlying42 intKey rfl rfl rfl trivial H.o) ?_
              rintro _ w10 ⟨ho9, e9, hs9⟩
              replace H := H.setO e9 ho9 nM7 nOM
              replace X := X.own e9 gO
              clear e9 ho9 hs9
              refine RunL.nil ?_
              refine RunE.inBlock ?_
              refine RunE.weaken (by repeat (first | exact Sub.nil _ | refine Sub.cons rfl ?_)) (join (N, left', .slice d21 left'.length c21, setM no (.bool true) ov) _ ⟨by simp only; omega, e5, hov', H, X⟩)
            · have e1 := once_not hrt hm
              have m1 := fun w hv h1 h2 => take_e e1 (by decide) u w hv (show left.length < 9223372036854775808 by omega) h1 h2
              clear e1
              repeat' (first | (with_reducible refine RunLN.chk ?_; refine RunLN.int (by (first | (refine wr_i64 ?_ ?_; omega; omega) | (refine wm_i64 ?_; omega) | (refine wq_i64 ?_ ?_ ?_; omega; omega; omega) | rfl)) ?_) | refine RunLN.any ?_ | refine RunL.ev Tryd.tOk rfl rfl rfl ?_ | refine RunL.evV rfl rfl rfl (OpV.loadN Tryd.tOk rfl rfl rfl rfl (Blk.row H.b)) ?_)
              refine RunL.call rfl rfl rfl (m1 _ H.l (hS.up X) (hkT.up X)) ?_
              rintro _ _ ⟨⟨d21, c21, rfl⟩, Xa_⟩
              replace H := H.up Xa_
              replace X := X.trans Xa_
              clear Xa_
              clear m1
              repeat' (first | (with_reducible refine RunLN.chk ?_; refine RunLN.int (by (first | (refine wr_i64 ?_ ?_; omega; omega) | (refine wm_i64 ?_; omega) | (refine wq_i64 ?_ ?_ ?_; omega; omega; omega) | rfl)) ?_) | refine RunLN.any ?_ | refine RunL.ev Tryd.tOk rfl rfl rfl ?_)
              refine RunL.alloc Tryd.tOk rfl rfl rfl fun B21 wa_ aa_ => ?_
              have gB21 := aa_.ge X
              refine RunL.store Tryd.tOk rfl rfl rfl rfl rfl (cs := bk0) aa_.at_ rfl rfl fun w21_ tb_ => ?_
              have Xa_ : Ext _ w21_ := aa_.ext.write tb_.ext (by intro i_ hi_ hlt_; have := aa_.eq; omega)
              have Z21 : Blk w21_ B21 (bkV zeroB (.slice d21 0 c21)) 24 := tb_.at_
              replace H := H.up Xa_
              replace X := X.trans Xa_
              clear Xa_ aa_ tb_
              clear Z21
              repeat' (first | (with_reducible refine RunLN.chk ?_; refine RunLN.int (by (first | (refine wr_i64 ?_ ?_; omega; omega) | (refine wm_i64 ?_; omega) | (refine wq_i64 ?_ ?_ ?_; omega; omega; omega) | rfl)) ?_) | refine RunLN.any ?_ | refine RunL.ev Tryd.tOk rfl rfl rfl ?_ | refine RunE.seq ?_ | refine RunE.region ?_ | refine RunL.nil ?_)
              refine RunL.evV rfl rfl rfl (OpV.lookup2 (kv := Value.int .i64) (good := fun _ => True) (k := no) (z := .agg pz.toArray) Tryd.underlying41 intKey (by kernel_rfl) rfl rfl trivial H.m) ?_
              rw [madeM_get]
              by_cases hq1 : no < (N : Int)
              · rw [if_pos ⟨hn0, hq1⟩, Option.getD_some, Option.isSome_some, madeV_eq]
                repeat' (first | with_reducible refine RunLN.boolT rfl ?_ | refine RunLN.any ?_ | refine RunL.ev Tryd.tOk rfl rfl rfl ?_)
                refine RunL.alloc Tryd.tOk rfl rfl rfl fun B25 wa_ aa_ => ?_
                have gB25 := aa_.ge X
                refine RunL.store Tryd.tOk rfl rfl rfl rfl rfl (cs := pz) aa_.at_ rfl rfl fun w25_ tb_ => ?_
                have Xa_ : Ext _ w25_ := aa_.ext.write tb_.ext (by intro i_ hi_ hlt_; have := aa_.eq; omega)
                have Z25 : Blk w25_ B25 (pairC k s no) 46 := tb_.at_
                replace H := H.up Xa_
                replace X := X.trans Xa_
                clear Xa_ aa_ tb_
                clear Z25
                repeat' (first | with_reducible refine RunLN.boolT rfl ?_ | with_reducible refine RunLN.boolF rfl ?_ | (with_reducible refine RunLN.chk ?_; refine RunLN.int (by (first | (refine wr_i64 ?_ ?_; omega; omega) | (refine wm_i64 ?_; omega) | (refine wq_i64 ?_ ?_ ?_; omega; omega; omega) | rfl)) ?_) | refine RunLN.any ?_ | refine RunL.ev Tryd.tOk rfl rfl rfl ?_ | refine RunE.seq ?_ | refine RunE.region ?_ | refine RunL.nil ?_)
                refine RunL.evV rfl rfl rfl (OpV.lookup (kv := Value.int .i64) (good := fun _ => True) (k := no) (z := .bool false) Tryd.underlying42 intKey (by kernel_rfl) rfl rfl trivial H.o) ?_
                rw [hov no, decide_eq_true ⟨hn0, hq1, hm⟩]
                repeat' (first | with_reducible refine RunLN.boolT rfl ?_ | with_reducible refine RunLN.boolF rfl ?_ | (with_reducible refine RunLN.chk ?_; refine RunLN.int (by (first | (refine wr_i64 ?_ ?_; omega; omega) | (refine wm_i64 ?_; omega) | (refine wq_i64 ?_ ?_ ?_; omega; omega; omega) | rfl)) ?_) | refine RunL.ev Tryd.tOk rfl rfl rfl ?_ | refine RunE.condT rfl rfl ?_ | refine RunE.condF rfl rfl ?_ | refine RunE.seq ?_ | refine RunE.region ?_ | refine RunL.nil ?_ | refine RunE.skip ?_ | refine RunE.exit rfl ?_)
                refine RunE.weaken (by repeat (first | exact Sub.nil _ | refine Sub.cons rfl ?_)) (again (i + 1, N, left, u, ov) _ (by simp only; omega) ⟨by simp only; omega, by simp only; omega, hrt, hov, H, X⟩)
              · rw [if_neg (fun h => hq1 h.2), Option.getD_none, Option.isSome_none]
                repeat' (first | with_reducible refine RunLN.boolF rfl ?_ | refine RunLN.any ?_ | refine RunL.ev Tryd.tOk rfl rfl rfl ?_)
                refine RunL.alloc Tryd.tOk rfl rfl rfl fun B25 wa_ aa_ => ?_
                have gB25 := aa_.ge X
                refine RunL.store Tryd.tOk rfl rfl rfl rfl rfl (cs := pz) aa_.at_ rfl rfl fun w25_ tb_ => ?_
                have Xa_ : Ext _ w25_ := aa_.ext.write tb_.ext (by intro i_ hi_ hlt_; have := aa_.eq; omega)
                have Z25 : Blk w25_ B25 (pz) 46 := tb_.at_
                replace H := H.up Xa_
                replace X := X.trans Xa_
                clear Xa_ aa_ tb_
                clear Z25
                repeat' (first | with_reducible refine RunLN.boolT rfl ?_ | with_reducible refine RunLN.boolF rfl ?_ | (with_reducible refine RunLN.chk ?_; refine RunLN.int (by (first | (refine wr_i64 ?_ ?_; omega; omega) | (refine wm_i64 ?_; omega) | (refine wq_i64 ?_ ?_ ?_; omega; omega; omega) | rfl)) ?_) | refine RunL.ev Tryd.tOk rfl rfl rfl ?_ | refine RunL.unwantedD rfl rfl ?_ | refine RunE.condT rfl rfl ?_ | refine RunE.condF rfl rfl ?_ | refine RunE.seq ?_ | refine RunE.region ?_ | refine RunL.nil ?_ | refine RunE.skip ?_ | refine RunE.exit rfl ?_)
                refine RunE.weaken (by repeat (first | exact Sub.nil _ | refine Sub.cons rfl ?_)) (again (i + 1, N, left, u, ov) _ (by simp only; omega) ⟨by simp only; omega, by simp only; omega, hrt, hov, H, X⟩)
          · rw [h3]
            obtain ⟨e1, e2⟩ := once_burn hrt
            have hlen := once_len hrt
            have m1 := fun w hv => burn_at ⟨e1, e2⟩ u w hv (show left.length < 9223372036854775808 by omega)
            clear e1 e2
            repeat' (first | with_reducible refine RunLN.boolF rfl ?_ | refine RunLN.any ?_ | refine RunL.ev Tryd.tOk rfl rfl rfl ?_ | refine RunL.evV rfl rfl rfl (OpV.loadN Tryd.tOk rfl rfl rfl rfl (Blk.row H.b)) ?_ | refine RunE.condF rfl rfl ?_ | refine RunE.seq ?_ | refine RunE.region ?_ | refine RunL.nil ?_)
            clear Z12
            refine RunL.call rfl rfl rfl (m1 _ H.l) ?_
            rintro _ _ ⟨rfl, Xa_⟩
            replace H := H.up Xa_
            replace X := X.trans Xa_
            clear Xa_
            clear m1
            repeat' (first | (with_reducible refine RunLN.chk ?_; refine RunLN.int (by (first | (refine wr_i64 ?_ ?_; omega; omega) | (refine wm_i64 ?_; omega) | (refine wq_i64 ?_ ?_ ?_; omega; omega; omega) | rfl)) ?_) | refine RunLN.any ?_ | refine RunL.ev Tryd.tOk rfl rfl rfl ?_)
            refine RunL.alloc Tryd.tOk rfl rfl rfl fun B31 wa_ aa_ => ?_
            have gB31 := aa_.ge X
            refine RunL.store Tryd.tOk rfl rfl rfl rfl rfl (cs := bk0) aa_.at_ rfl rfl fun w31_ tb_ => ?_
            have Xa_ : Ext _ w31_ := aa_.ext.write tb_.ext (by intro i_ hi_ hlt_; have := aa_.eq; omega)
            have Z31 : Blk w31_ B31 (bkV (bk k s N []) (.slice none 0 0)) 24 := tb_.at_
            replace H := H.up Xa_
            replace X := X.trans Xa_
            clear Xa_ aa_ tb_
            repeat' (first | with_reducible refine RunLN.boolF rfl ?_ | (with_reducible refine RunLN.chk ?_; refine RunLN.int (by (first | (refine wr_i64 ?_ ?_; omega; omega) | (refine wm_i64 ?_; omega) | (refine wq_i64 ?_ ?_ ?_; omega; omega; omega) | rfl)) ?_) | refine RunLN.any ?_ | refine RunL.ev Tryd.tOk rfl rfl rfl ?_ | refine RunE.condF rfl rfl ?_ | refine RunE.seq ?_ | refine RunE.region ?_ | refine RunL.nil ?_ | refine RunE.skip ?_)
            refine RunL.ex rfl rfl rfl (OpE.rangeMap (kv := Value.int .i64) (good := fun _ => True) Tryd.underlying41 rfl H.m) ?_
            rintro _ w5 ⟨it, rfl, hit, hsz5, e1, hI⟩
            have hitO : rO < it := by have := H.ltO; omega
            have gIt : W.heap.size ≤ it := by have := X.size; omega
            have huit : left ≠ [] → ∀ j, u.ownBlock = some j → ¬ (j = it) := fun hne j hj => by have := isL_own H.l (by decide) hne hj; omega
            have n31 : B31 ≠ it := by have := Z31.lt; omega
            have nO31 : B31 ≠ rO := by
              intro e
              subst e
              obtain ⟨es, c, h1, -⟩ := H.o
              have h2 : _ = _ := Z31
              rw [h1] at h2
              simp at h2
            replace H := H.up e1
            replace Z31 := Z31.up e1
            replace X := X.trans e1
            clear e1 hsz5
            repeat' (first | refine RunL.nil ?_ | refine RunE.block ?_)
            refine RunE.loop (ι := List (Int × Value) × List (Int × Value)) (fun _ => [(0, .int .i64 k), (1, .int .i64 s), (7, .pointer (some ⟨B7, 0, none⟩)), (9, .map (some rM)), (10, .map (some rO)), (64, .slice (some ⟨b, o, none⟩) l.length cap), (65, .int .i64 (l.length : Int)), (66, .int .i64 (i : Int)), (31, .pointer (some ⟨B31, 0, none⟩)), (81, .pointer (some ⟨it, 0, none⟩))])
              (fun y w' => IterAt (Value.int .i64) (fun _ => True) w' it rM (madeM k s N) y.1 ∧ OverAt y.2 N left (y.1.map (·.1)) ∧ OnceSt w' k s B7 rM rO N N left u y.2 ∧ Blk w' B31 (bkV (bk k s N []) (.slice none 0 0)) 24 ∧ Ext W w') (fun y => (madeM k s N).length - y.1.length) ([], ov) (by repeat (first | exact Sub.nil _ | refine Sub.cons rfl ?_)) ⟨hI, hov.at_, H, Z31, X⟩ ?_
            clear hI H Z31 X hit
            rintro ⟨ys, ov'⟩ w6 ⟨hI, hoa, H, Z31, X⟩ again2
            simp only at hI hoa H again2
            repeat' (first | refine RunE.seq ?_ | refine RunE.region ?_)
            refine RunL.ex rfl rfl rfl (OpE.nextMap rfl hI) ?_
            rintro v6 w7 (⟨rfl, rfl, hp⟩ | ⟨⟨no, av⟩, rfl, -, hI7, e7, hsz7⟩)
            · have hov' := hoa.done (fun no => perm_keys hp no)
              clear hI again2 hoa hov
              repeat' (first | with_reducible refine RunLN.boolF rfl ?_ | refine RunLN.any ?_ | refine RunL.ev Tryd.tOk rfl rfl rfl ?_ | refine RunL.evV rfl rfl rfl (OpV.loadN Tryd.tOk rfl rfl rfl rfl (Blk.row Z31)) ?_ | refine RunE.condF rfl rfl ?_ | refine RunE.seq ?_ | refine RunE.region ?_ | refine RunL.nil ?_ | refine RunE.exit rfl ?_)
              refine RunL.store Tryd.tOk rfl rfl rfl rfl rfl H.b rfl rfl fun w9 t9 => ?_
              have t9' : Turned w7 w9 B7 (.cells (bkV (bk k s N []) (.slice none 0 0)).toArray 24 (0, 0)) := t9
              replace H := H.setB t9' IsSl.nil (fun j hj => by simp [Value.ownBlock] at hj) nM7 nOM
              replace X := X.own t9.ext gB7
              clear t9 t9'
              refine RunL.nil ?_
              refine RunE.inBlock ?_
              refine RunE.weaken (by repeat (first | exact Sub.nil _ | refine Sub.cons rfl ?_)) (join (N, [], .slice none 0 0, ov') _ ⟨by simp only; omega, once_sub hrt (List.nil_sublist _), hov', H, X⟩)
            · obtain ⟨zs, hzs⟩ := hI7.sub
              have hlen2 := hzs.length_eq
              simp only [List.length_append, List.length_singleton] at hlen2
              replace H := H.ext e7 (by omega) (by omega) (by omega) huit
              replace Z31 := Z31.other e7 n31
              replace X := X.own e7 gIt
              rw [madeM_length] at hlen2 again2
              clear hI e7
              repeat' (first | with_reducible refine RunLN.boolT rfl ?_ | refine RunL.ev Tryd.tOk rfl rfl rfl ?_ | refine RunE.condT rfl rfl ?_ | refine RunE.seq ?_ | refine RunE.region ?_ | refine RunL.nil ?_ | refine RunE.block ?_ | refine RunE.skip ?_)
              refine RunL.evV rfl rfl rfl (OpV.entryMap rfl hI7) ?_
              repeat' (first | (with_reducible refine RunLN.chk ?_; refine RunLN.int (by (first | (refine wr_i64 ?_ ?_; omega; omega) | (refine wm_i64 ?_; omega) | (refine wq_i64 ?_ ?_ ?_; omega; omega; omega) | rfl)) ?_) | refine RunLN.any ?_ | refine RunL.ev Tryd.tOk rfl rfl rfl ?_ | refine RunE.region ?_ | refine RunL.nil ?_)
              refine RunL.exN rfl rfl (OpE.mapSet (kv := Value.int .i64) (good := fun _ => True) (k := no) (v := .bool true) Tryd.underlying42 intKey rfl rfl rfl trivial H.o) ?_
              rintro _ w10 ⟨ho9, e9, hs9⟩
              replace H := H.setO e9 ho9 nM7 nOM
              replace Z31 := Z31.other e9 nO31
              replace hI7 := hI7.other e9 (by omega) (by omega)
              replace X := X.own e9 gO
              clear e9 ho9 hs9
              repeat' (first | refine RunL.nil ?_ | refine RunE.inBlock ?_)
              refine RunE.weaken (by repeat (first | exact Sub.nil _ | refine Sub.cons rfl ?_)) (again2 (ys ++ [(no, av)], setM no (.bool true) ov') _ (by simp only [List.length_append, List.length_singleton]; omega) ⟨hI7, by rw [List.map_append]; exact hoa.next, H, Z31, X⟩)
      · repeat' (first | with_reducible refine RunLN.boolT rfl ?_ | (with_reducible refine RunLN.decF ?_ ?_; focus omega) | refine RunL.ev Tryd.tOk rfl rfl rfl ?_ | refine RunE.condF rfl rfl ?_ | refine RunE.seq ?_ | refine RunE.region ?_ | refine RunL.nil ?_ | refine RunE.exit rfl ?_)
        exact RunE.retFn Tryd.func5 (.tmp rfl .nil) ⟨rfl, X⟩
    · repeat' (first | with_reducible refine RunLN.boolT rfl ?_ | with_reducible refine RunLN.boolF rfl ?_ | (with_reducible refine RunLN.decT ?_ ?_; focus omega) | (with_reducible refine RunLN.chk ?_; refine RunLN.int (by (first | (refine wr_i64 ?_ ?_; omega; omega) | (refine wm_i64 ?_; omega) | (refine wq_i64 ?_ ?_ ?_; omega; omega; omega) | rfl)) ?_) | refine RunLN.any ?_ | refine RunL.ev Tryd.tOk rfl rfl rfl ?_ | refine RunL.unwantedD rfl rfl ?_ | refine RunL.evV rfl rfl rfl (OpV.lenSl Tryd.tOk rfl rfl hv) ?_ | refine RunE.condT rfl rfl ?_ | refine RunE.seq ?_ | refine RunE.region ?_ | refine RunL.nil ?_)
      exact RunE.retFn Tryd.func5 (.tmp rfl .nil) ⟨rfl, X⟩
  · have hB : newB k s = zeroB := if_neg hE
    have hE1 : newE k s = 1 := by unfold newE at hE ⊢; split at hE <;> simp_all
    repeat' (first | with_reducible refine RunLN.boolF rfl ?_ | (with_reducible refine RunLN.chk ?_; refine RunLN.int (by (first | (refine wr_i64 ?_ ?_; omega; omega) | (refine wm_i64 ?_; omega) | (refine wq_i64 ?_ ?_ ?_; omega; omega; omega) | rfl)) ?_) | refine RunL.ev Tryd.tOk rfl rfl rfl ?_ | refine RunE.condF rfl rfl ?_ | refine RunE.seq ?_ | refine RunE.region ?_ | refine RunL.nil ?_ | refine RunE.skip ?_)
    refine RunL.call rfl rfl rfl (new_at ⟨hE1, hB⟩ _) ?_
    rintro _ _ ⟨rfl, Xa_⟩
    replace X := X.trans Xa_
    clear Xa_
    clear hE hB hE1
    repeat' (first | (with_reducible refine RunLN.chk ?_; refine RunLN.int (by (first | (refine wr_i64 ?_ ?_; omega; omega) | (refine wm_i64 ?_; omega) | (refine wq_i64 ?_ ?_ ?_; omega; omega; omega) | rfl)) ?_) | refine RunLN.any ?_ | refine RunL.ev Tryd.tOk rfl rfl rfl ?_)
    refine RunL.alloc Tryd.tOk rfl rfl rfl fun B7 wa_ aa_ => ?_
    have gB7 := aa_.ge X
    refine RunL.store Tryd.tOk rfl rfl rfl rfl rfl (cs := bk0) aa_.at_ rfl rfl fun w7_ tb_ => ?_
    have Xa_ : Ext _ w7_ := aa_.ext.write tb_.ext (by intro i_ hi_ hlt_; have := aa_.eq; omega)
    have Z7 : Blk w7_ B7 (bkV zeroB (.slice none 0 0)) 24 := tb_.at_
    replace X := X.trans Xa_
    clear Xa_ aa_ tb_
    repeat' (first | with_reducible refine RunLN.boolT rfl ?_ | with_reducible refine RunLN.boolF rfl ?_ | (with_reducible refine RunLN.chk ?_; refine RunLN.int (by (first | (refine wr_i64 ?_ ?_; omega; omega) | (refine wm_i64 ?_; omega) | (refine wq_i64 ?_ ?_ ?_; omega; omega; omega) | rfl)) ?_) | refine RunLN.any ?_ | refine RunL.ev Tryd.tOk rfl rfl rfl ?_ | refine RunL.unwantedD rfl rfl ?_ | refine RunL.evV rfl rfl rfl (OpV.loadN Tryd.tOk rfl rfl rfl rfl (Blk.row Z7)) ?_ | refine RunE.condT rfl rfl ?_ | refine RunE.seq ?_ | refine RunE.region ?_ | refine RunL.nil ?_)
    refine RunL.call rfl rfl rfl (rsame41_at zeroB (.slice none 0 0) (.slice none 0 0) _ IsSl.nil IsSl.nil (by decide)) ?_
    rintro _ _ ⟨rfl, Xa_⟩
    replace X := X.trans Xa_
    clear Xa_
    repeat' (first | with_reducible refine RunLN.boolT rfl ?_ | refine RunL.ev Tryd.tOk rfl rfl rfl ?_ | refine RunL.nil ?_)
    exact RunE.retFn Tryd.func5 (.tmp rfl .nil) ⟨rfl, X⟩
end Go.Sg
namespace Go.Proofs.YtamcgoplhnbmcaaDoor
open Go.ChangeShapes Go.WideShapes Go.ChangeAt Go.RowKit Go.Sg
namespace noncesOnce
theorem own : ownKnob Tryd.prog.godebug = none := by kernel_rfl
theorem laidOut : laidOutB Tryd.prog = true := by kernel_rfl
theorem door_met (os : Os) (args : Array Value) : laidMetH Tryd.prog Rows.noncesOnceRow.laid ((World.doorLaid Tryd.prog 19 os).forCall (fun _ _ => 0) ⟨#[], args, []⟩).memory :=
  laidMetH_of_parts3 (fuel := 8) (laidMet_of_run' 8 (by kernel_rfl) (by kernel_rfl)) (by kernel_rfl) (by kernel_rfl)
set_option maxRecDepth 100000 in
theorem lifted (os : Os) (started : os.Started) (H : Type) (enc : TypeId × Value → H) :
    ReturnsInHanded {} Tryd.checked os 5 .any (fun w args => (Rows.noncesOnceSpec.pre enc Tryd.prog Tryd.f5 [] false w args ∧ laidMetH Tryd.prog Rows.noncesOnceRow.laid w) ∧ sizedMet enc Tryd.prog Tryd.f5 (OpenSpec.ofChange Rows.noncesOnceSpec) false w args)
      (Rows.noncesOnceSpec.post enc Tryd.prog Tryd.f5 false true false false) := by
  refine returnsInHanded_of_change_and (C := Tryd.checked) (X := fun w _ => laidMetH Tryd.prog Rows.noncesOnceRow.laid w) (fun _ _ _ hh h => h.of_heap hh) own started (by kernel_rfl) Tryd.func5
    (ChangeSpec.witness_shaped (enc := enc) (C := Tryd.checked) (os := os) (X := fun w _ => laidMetH Tryd.prog Rows.noncesOnceRow.laid w) false (World.doorLaid Tryd.prog 19 os) #[.int .i64 0, .int .i64 0, .slice none 0 0] 8 rfl (World.shaped_of_RefB (by kernel_rfl) (by kernel_rfl)) (by kernel_rfl) (by kernel_rfl) (by kernel_rfl) (door_met os _)) ?_
  intro W base args ds gs before hval0 hW _ _ hL _
  have hval : ∀ (j : Nat) t v, Tryd.f5.params[j]? = some t → args[j]? = some v → Value.okWide Tryd.prog W .any base t v := hval0
  have hW' := hW
  obtain ⟨p, q, hA0, hV, rfl, hfz, hnd⟩ := hW
  have hA : DataW.TrodAll enc Tryd.prog W 0 (fun _ => true) true Tryd.f5.params.toList args.toList ds p := hA0
  rw [Tryd.params5] at hA hval
  obtain ⟨v0, vs0, d0, ds0, p0, q0, hargs, rfl, rfl, h0, r0⟩ := trodAll_cons hA
  obtain ⟨v1, vs1, d1, ds1, p1, q1, rfl, rfl, rfl, h1, r1⟩ := trodAll_cons r0
  obtain ⟨v2, vs2, d2, ds2, p2, q2, rfl, rfl, rfl, h2, r2⟩ := trodAll_cons r1
  obtain ⟨rfl, rfl, rfl⟩ := trodAll_nil r2
  obtain rfl : args = #[v0, v1, v2] := by cases args; simp_all
  obtain ⟨a0, rfl, rfl, rfl, w0⟩ := open_int Tryd.underlying3 (hval 0 3 v0 rfl rfl) h0
  obtain ⟨a1, rfl, rfl, rfl, w1⟩ := open_int Tryd.underlying3 (hval 1 3 v1 rfl rfl) h1
  obtain ⟨l2, m2, s2⟩ := steps_open (hval 2 40 v2 rfl rfl) h2
  have L0 := start_of_laid (by kernel_rfl) rfl (.head _) hL
  have L1 := numbers_of_laid (by kernel_rfl) rfl (.tail _ (.head _)) hL
  refine (Rets.calls (noncesOnce_walk a0 a1 l2 v2 (i64_of_wf w0) (i64_of_wf w1) W m2 s2 L0 L1)).mono fun e W' he => ?_
  obtain ⟨_, rfl, rfl, hx⟩ := he
  exact ⟨_, rfl, law_post (t := 4) laidOut (by kernel_rfl) (by kernel_rfl) (by kernel_rfl) rfl (fun ds h => by
    rcases ds with _ | ⟨_, _ | ⟨_, _ | ⟨_, _ | ⟨_, _⟩⟩⟩⟩ <;> first | rfl | (exact absurd h (by decide)) | (simp at h)) hW' hx⟩

theorem holds : Rows.NoncesOnceSaid :=
  OpenClaim.holds_of_wide 5 Tryd.f5 rfl rfl rfl rfl rfl rfl rfl ⟨rfl, rfl, rfl, rfl, rfl⟩ rfl rfl rfl rfl rfl (by kernel_rfl) Tryd.func5 (by kernel_rfl)
    (of_decide_eq_true (by kernel_rfl)) (by unfold Func.isWrapper; first | (rw [if_pos (by decide +kernel)]; kernel_rfl) | (rw [if_neg (by decide +kernel)]; exact ⟨rfl, rfl⟩))
    (fun os started H enc _ => lifted os started H enc)
theorem proved : Rows.NoncesOnceCardSaid :=
  Claim7.holds_tied_plain_at .later [] [.data, .data] true (true, "ae6f700ea2bd30feb0747e63825e7d966e37b71281da2088991cb0a2928709ec") true
    holds (fun _ h => by cases h) (by kernel_rfl) (fun _ h => by cases h) noncesOnce_row_tie rfl ⟨rfl, rfl⟩ (by kernel_rfl) rfl
    (fun f fn hf hfn => by
      obtain rfl : f = 5 := Option.some.inj ((show Tryd.prog.funcNamed Tryd.f5.name = some 5 by kernel_rfl).symm.trans hf) |>.symm
      obtain rfl : fn = Tryd.f5 := (Option.some.inj (Tryd.func5.symm.trans hfn)).symm
      exact ⟨by kernel_rfl, fun j t ht => by
        have hall : Tryd.f5.params.toList.all (fun t => !Tryd.prog.wantsStandIn t) = true := by kernel_rfl
        have hm : t ∈ Tryd.f5.params.toList := by
          obtain ⟨hj, rfl⟩ := Array.getElem?_eq_some_iff.1 ht
          simp
        have := List.all_eq_true.1 hall t hm
        exact (by simpa using this : Tryd.prog.wantsStandIn t = false)⟩)
    (by kernel_rfl)
#print axioms proved
end noncesOnce
end Go.Proofs.YtamcgoplhnbmcaaDoor
