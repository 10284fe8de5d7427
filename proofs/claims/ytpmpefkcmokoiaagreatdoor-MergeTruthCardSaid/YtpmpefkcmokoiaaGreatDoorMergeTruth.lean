/- signatorylaw50.MergeTruth returns true for every input; condition: the package variables digest.start and digest.numbers hold what the program lays in them (the card ties this). -/
import Derived.Test.YtpmpefkcmokoiaaGreatDoorMerK
import Derived.Test.YtpmpefkcmokoiaaGreatDoorMg08
set_option linter.unusedSimpArgs false
set_option linter.unusedVariables false
set_option linter.unusedSectionVars false
set_option maxRecDepth 4000
namespace Go.Sg
open Go.Rn Go.Proofs Go.Dee Go.Mer Go.Rec Go.RowKit Go.Sha Go.Cod Go.NT Go.WideShapes Go.ChangeShapes
section
variable {H : Type} {enc : TypeId × Value → H} {w : World}
theorem bits_open {v : Value} {d : DataW H} {ps : List MemPlace} {held : Bool} {r : Reach} {b0 : Nat} (hval : Value.okWide Tryz.prog w r b0 55 v)
    (h : DataW.Trod enc Tryz.prog w 0 (fun _ => true) held 55 v d ps) : ∃ a b c : Int, v = .agg #[.int .u16 a, .int .u16 b, .int .u16 c] := by
  have hu : Tryz.prog.underlying 55 = some (.array 3 54) := by kernel_rfl
  have hi : Tryz.prog.underlying 54 = some (.int .u16) := by kernel_rfl
  have hc : Tryz.prog.cellsOf 55 = 3 := by kernel_rfl
  have hc1 : Tryz.prog.cellsOf 54 = 1 := by kernel_rfl
  unfold Value.okWide at hval
  rw [hu] at hval
  obtain ⟨cs, rfl, -, -⟩ := hval
  obtain ⟨fuel, hf⟩ := shp_of_Trod h
  obtain ⟨hl, f, hs⟩ := hf.array hu
  rw [hc] at hl
  have e : (Value.agg cs).cells.toList = cs.toList := rfl
  rw [e] at hl hs
  have get : ∀ i, i < 3 → ∃ n, cs.toList[i]? = some (.int .u16 n) := fun i hi' => by
    have := hs i hi'
    rw [hc1, Nat.mul_one] at this
    obtain ⟨n, e, -⟩ := this.int hi
    refine ⟨n, ?_⟩
    have e2 := congrArg (·[0]?) e
    simp only [List.getElem?_take, List.getElem?_drop, Nat.add_zero, List.getElem?_cons_zero] at e2
    rw [if_pos (by omega)] at e2
    exact e2
  obtain ⟨a, ha⟩ := get 0 (by omega)
  obtain ⟨b, hb⟩ := get 1 (by omega)
  obtain ⟨c, hc'⟩ := get 2 (by omega)
  refine ⟨a, b, c, ?_⟩
  obtain ⟨cs⟩ := cs
  simp only at hl ha hb hc'
  rcases cs with _ | ⟨x, _ | ⟨y, _ | ⟨z, _ | ⟨q, r⟩⟩⟩⟩
  all_goals (simp at hl)
  simp only [List.getElem?_cons_zero, List.getElem?_cons_succ, Option.some.injEq] at ha hb hc'
  rw [ha, hb, hc']
end
end Go.Sg
namespace Go.Mer
open Go.Rn Go.Rec Go.Dee Go.RowKit Go.Sg Go.NT
theorem allD_snoc (ls : List Ll) (x : Ll) : allD (ls ++ [x]) = allD ls ++ x.l := by
  unfold allD; rw [List.flatMap_append]; simp
end Go.Mer
namespace Go.Sg
open Go.Rn Go.Proofs Go.Dee Go.Mer Go.Rec Go.RowKit Go.Sha Go.Cod Go.NT
attribute [local irreducible] restsD fineD provesB chkM mergeD liarsL leftL thereL chkP chkE Go.Rn.RetsX Go.Rn.RunLN Go.Rn.AsyN Go.Rn.RunL Go.Rn.RunE Go.Rn.Asy Go.Rn.OpV Go.Rn.OpE Go.Rn.ExecE
set_option maxHeartbeats 16000000 in
theorem mergeTruth_walk (kv : Value) (ks : List Int) (x : Ll) (ba bb bc : Int) (W : World) (hkb : ks.length < 9223372036854775808 ∧ KsI ks) (hk : LIn W kv ks) (hx : LDr W x.v x.l ∧ (∀ d ∈ x.l, WfX W d) ∧ x.l.length * 120 ≤ 140737488351232) (hS : Row W 0 0 (vals init8.l)) (hkT : Row W 1 0 (vals kTab)) :
    Rets Tryz.prog 6 [kv, x.v, .agg #[.int .u16 ba, .int .u16 bb, .int .u16 bc]] W fun r w' => r = .bool true ∧ Ext W w' := by
  obtain ⟨hkl, hki⟩ := hkb
  obtain ⟨l, xu, xc⟩ := x
  obtain ⟨hl, hwf, hlen⟩ := hx
  simp only at hwf hlen
  replace hl : LDr W (.slice xu l.length xc) l := hl
  have ev : (⟨l, xu, xc⟩ : Ll).v = .slice xu l.length xc := rfl
  rw [ev]
  clear ev
  have hone : allD [(⟨l, xu, xc⟩ : Ll)] = l := by simp [allD]
  have hon : lenD [(⟨l, xu, xc⟩ : Ll)] = l.length := by simp [lenD]
  refine RetsX.of (nt := 142) Tryz.func6 (by kernel_rfl) rfl rfl (by simp) (by simp only [argEnv]; rfl) ?_
  have X := ExtB.refl (fun _ => False) W
  repeat' (first | refine RunE.seq ?_ | refine RunE.region ?_)
  refine RunL.box rfl rfl rfl fun B5 w5_ a_ => ?_
  have Z5 : Blk w5_ B5 ([.int .u16 ba, .int .u16 bb, .int .u16 bc]) 55 := a_.at_
  have gB5 := a_.ge X
  replace X := X.trans a_.ext
  clear a_
  repeat' (first | with_reducible refine RunLN.boolF rfl ?_ | refine RunL.ev Tryz.tOk rfl rfl rfl ?_ | refine RunE.seq ?_ | refine RunE.region ?_ | refine RunL.nil ?_)
  refine RunL.call rfl rfl rfl (lsane_ok _ (hS.up X) (hkT.up X)) ?_
  rintro _ _ ⟨rfl, Xa_⟩
  replace Z5 := Z5.up Xa_
  replace X := X.trans Xa_
  clear Xa_
  by_cases h16 : 16 < l.length
  · repeat' (first | with_reducible refine RunLN.boolT rfl ?_ | with_reducible refine RunLN.boolF rfl ?_ | (with_reducible refine RunLN.decT ?_ ?_; focus omega) | (with_reducible refine RunLN.chk ?_; refine RunLN.int (by (first | (refine wr_i64 ?_ ?_; omega; omega) | (refine wm_i64 ?_; omega) | (refine wq_i64 ?_ ?_ ?_; omega; omega; omega) | rfl)) ?_) | refine RunLN.any ?_ | refine RunL.ev Tryz.tOk rfl rfl rfl ?_ | refine RunL.unwantedD rfl rfl ?_ | refine RunE.condT rfl rfl ?_ | refine RunE.condF rfl rfl ?_ | refine RunE.seq ?_ | refine RunE.region ?_ | refine RunL.nil ?_ | refine RunE.skip ?_)
    exact RunE.retFn Tryz.func6 (.tmp rfl .nil) ⟨rfl, X⟩
  repeat' (first | with_reducible refine RunLN.boolF rfl ?_ | (with_reducible refine RunLN.decF ?_ ?_; focus omega) | (with_reducible refine RunLN.chk ?_; refine RunLN.int (by (first | (refine wr_i64 ?_ ?_; omega; omega) | (refine wm_i64 ?_; omega) | (refine wq_i64 ?_ ?_ ?_; omega; omega; omega) | rfl)) ?_) | refine RunLN.any ?_ | refine RunL.ev Tryz.tOk rfl rfl rfl ?_ | refine RunE.condF rfl rfl ?_ | refine RunE.seq ?_ | refine RunE.region ?_ | refine RunL.nil ?_ | refine RunE.skip ?_)
  refine RunL.ex rfl rfl rfl (OpE.buildSl Tryz.tOk [.slice xu l.length xc] rfl rfl rfl rfl rfl rfl (by simp [Value.cells])) ?_
  rintro _ w3 ⟨B9, rfl, a9⟩
  have hx1 : LLl w3 (.slice (some ⟨B9, 0, none⟩) 1 1) [⟨l, xu, xc⟩] := isSl_added (n := 1) (sz := 1) a9 rfl
  replace X := X.trans a9.ext
  replace Z5 := Z5.up a9.ext
  clear a9
  skip
  refine RunL.call rfl rfl rfl (lright_ok ks kv [⟨l, xu, xc⟩] _ _ (hk.up X) hkl hx1 (by simp) (fun y hy => by rw [List.mem_singleton] at hy; subst hy; exact hl.up X) (fun y hy => (hwf y (by rw [hone] at hy; exact hy)).up X) (fun _ => by rw [hon]; omega)) ?_
  rintro _ w5 ⟨⟨b, rfl, hb⟩, Xa_⟩
  replace X := X.trans Xa_
  replace Z5 := Z5.up Xa_
  clear Xa_ hx1
  cases b with
  | false =>
    repeat' (first | with_reducible refine RunLN.boolT rfl ?_ | refine RunL.ev Tryz.tOk rfl rfl rfl ?_ | refine RunL.unwantedD rfl rfl ?_ | refine RunE.condT rfl rfl ?_ | refine RunE.seq ?_ | refine RunE.region ?_ | refine RunL.nil ?_)
    exact RunE.retFn Tryz.func6 (.tmp rfl .nil) ⟨rfl, X⟩
  | true =>
  obtain ⟨-, -, hc⟩ := hb rfl
  obtain ⟨hkd, -, -⟩ := chkM_zero hc
  clear hb hc hone hon
  repeat' (first | with_reducible refine RunLN.boolF rfl ?_ | refine RunLN.any ?_ | refine RunL.ev Tryz.tOk rfl rfl rfl ?_)
  refine RunL.call rfl rfl rfl (dcheck_ok ks kv l _ _ (hk.up X) hkl hki (hl.up X) (by omega) (fun y hy => (hwf y hy).up X) (hS.up X) (hkT.up X)) ?_
  rintro _ w6' ⟨rfl, Xa_⟩
  replace X := X.trans Xa_
  replace Z5 := Z5.up Xa_
  clear Xa_
  by_cases hce : chkE ks (l.map Dr.d) = 0
  rotate_left
  · generalize chkE ks (l.map Dr.d) = ce at hce
    repeat' (first | with_reducible refine RunLN.boolT rfl ?_ | (with_reducible refine RunLN.neT ?_ ?_; focus omega) | refine RunL.ev Tryz.tOk rfl rfl rfl ?_ | refine RunE.condT rfl rfl ?_ | refine RunE.seq ?_ | refine RunE.region ?_ | refine RunL.nil ?_)
    exact RunE.retFn Tryz.func6 (.tmp rfl .nil) ⟨rfl, X⟩
  obtain ⟨-, -, hlog⟩ := chk_zero hce
  rw [hce]
  clear hce
  repeat' (first | with_reducible refine RunLN.boolF rfl ?_ | (with_reducible refine RunLN.chk ?_; refine RunLN.int (by (first | (refine wr_i64 ?_ ?_; omega; omega) | (refine wm_i64 ?_; omega) | (refine wq_i64 ?_ ?_ ?_; omega; omega; omega) | rfl)) ?_) | refine RunLN.any ?_ | refine RunL.ev Tryz.tOk rfl rfl rfl ?_ | refine RunE.condF rfl rfl ?_ | refine RunE.seq ?_ | refine RunE.region ?_ | refine RunL.nil ?_ | refine RunE.skip ?_)
  refine RunL.ex rfl rfl rfl (OpE.makeL encBo Tryz.tOk l.length false rfl rfl rfl rfl rfl rfl rfl (by show 1 * _ ≤ _; omega) (by omega)) ?_
  rintro _ w8 ⟨⟨B8, rfl, g8, Z8⟩, -, Xa_⟩
  replace Z5 := Z5.up Xa_
  have l8 := Z8.lt
  have X6 := X
  have hn : l.length ≤ 16 := by omega
  have ht0 : TruI l (List.replicate l.length false) (allD []) := TruI.init l
  have X0 : Ext w6' w8 := Xa_
  clear X Xa_
  repeat' (first | (with_reducible refine RunLN.chk ?_; refine RunLN.int (by (first | (refine wr_i64 ?_ ?_; omega; omega) | (refine wm_i64 ?_; omega) | (refine wq_i64 ?_ ?_ ?_; omega; omega; omega) | rfl)) ?_) | refine RunLN.any ?_ | refine RunL.ev Tryz.tOk rfl rfl rfl ?_ | refine RunL.evV rfl rfl rfl (OpV.loadN Tryz.tOk rfl rfl rfl rfl (Blk.row Z5)) ?_ | refine RunE.seq ?_ | refine RunE.region ?_ | refine RunL.nil ?_ | refine RunE.block ?_)
  refine RunE.loop (ι := Nat × Value × List Ll × List Bool) (fun q => [(0, kv), (1, .slice xu l.length xc), (7, q.2.1), (8, .slice (some ⟨B8, 0, none⟩) l.length l.length), (44, .agg #[.int .u16 ba, .int .u16 bb, .int .u16 bc]), (45, .int .i64 (q.1 : Int))])
    (fun q w' => q.1 ≤ 3 ∧ Ext w6' w' ∧ w8.heap.size ≤ w'.heap.size ∧ Blk w' B8 (flat boolC q.2.2.2) 4 ∧ TruI l q.2.2.2 (allD q.2.2.1) ∧ q.2.2.1.length = q.1 ∧ lenD q.2.2.1 ≤ q.1 * 16 ∧ w'.ownsRow w8.heap.size 26 1 q.2.1 q.2.2.1.length (flat Ll.cells q.2.2.1) ∧ ∀ y ∈ q.2.2.1, w'.ownsRow w8.heap.size 38 39 y.v y.l.length (flat Dr.cells y.l)) (fun q => 3 - q.1) (0, nilV, [], List.replicate l.length false) (by repeat (first | exact Sub.nil _ | refine Sub.cons rfl ?_)) ⟨Nat.zero_le _, X0, Nat.le_refl _, Z8, ht0, rfl, by simp [lenD], World.ownsRow_nil _ _ _ _, fun y hy => by cases hy⟩ ?_
  clear Z8 X0 ht0 Z5
  rintro ⟨s, u, ls, bs⟩ w9 ⟨hs, X, hz, Z8, ht, hls, hln, hO, hY⟩ again
  simp only at hs Z8 ht hls hln hO hY again ⊢
  by_cases hs3 : s < 3
  · obtain ⟨q, hq⟩ : ∃ q, ([.int .u16 ba, .int .u16 bb, .int .u16 bc] : List Value)[s * 1]? = some (.int .u16 q) := by
      obtain rfl | rfl | rfl : s = 0 ∨ s = 1 ∨ s = 2 := by omega
      · exact ⟨ba, rfl⟩
      · exact ⟨bb, rfl⟩
      · exact ⟨bc, rfl⟩
    have X9 := X
    replace X := ExtB.refl (fun k => k = B8) w9
    have hl9 := hl.up (X6.trans X9)
    have g8 : w6'.heap.size ≤ B8 := g8
    have ht9 : TruI l bs (allD ls ++ []) := by rw [List.append_nil]; exact ht
    repeat' (first | (with_reducible refine RunLN.decT ?_ ?_; focus omega) | (with_reducible refine RunLN.chk ?_; refine RunLN.int (by (first | (refine wr_i64 ?_ ?_; omega; omega) | (refine wm_i64 ?_; omega) | (refine wq_i64 ?_ ?_ ?_; omega; omega; omega) | rfl)) ?_) | refine RunLN.any ?_ | refine RunL.ev Tryz.tOk rfl rfl rfl ?_ | refine RunL.evV rfl rfl rfl ((OpV.indexV Tryz.tOk s rfl rfl rfl rfl hs3 hq)) ?_ | refine RunE.condT rfl rfl ?_ | refine RunE.seq ?_ | refine RunE.region ?_ | refine RunL.nil ?_ | refine RunE.block ?_ | refine RunE.skip ?_)
    refine RunE.loop (ι := Nat × Value × List Dr × List Bool) (fun r => [(0, kv), (1, .slice xu l.length xc), (7, u), (8, .slice (some ⟨B8, 0, none⟩) l.length l.length), (10, .int .u16 q), (11, r.2.1), (12, .int .i64 ((r.1 : Int) - 1)), (44, .agg #[.int .u16 ba, .int .u16 bb, .int .u16 bc]), (45, .int .i64 (s : Int))])
      (fun r w' => r.2.2.1.length + r.1 ≤ l.length ∧ ExtB (fun k => k = B8) w9 w' ∧ Blk w' B8 (flat boolC r.2.2.2) 4 ∧ TruI l r.2.2.2 (allD ls ++ r.2.2.1) ∧ w'.ownsRow w9.heap.size 38 39 r.2.1 r.2.2.1.length (flat Dr.cells r.2.2.1)) (fun r => r.1) (l.length, nilV, [], bs) (by repeat (first | exact Sub.nil _ | refine Sub.cons rfl ?_)) ⟨by simp, X, Z8, ht9, World.ownsRow_nil _ _ _ _⟩ ?_
    clear X ht9
    rintro ⟨m, p, pl, bs'⟩ w10 ⟨hm, X, Z8', ht', hp⟩ again2
    simp only at hm Z8' ht' hp again2 ⊢
    have XW : Ext w6' w10 := X9.write X (by intro k hk hlt; omega)
    have hl10 := hl.up (X6.trans XW)
    cases m with
    | zero =>
      clear again2
      have hz10 := X.size
      have hO' := ownsRow_ext hO X (fun k hk e => by have := ownsRow_ge hO hk; omega)
      have hY' := fun y hy => ownsRow_ext (hY y hy) X (fun k hk e => by have := ownsRow_ge (hY y hy) hk; omega)
      obtain ⟨pd, pc, rfl⟩ := isSl_slice (isSl_own hp)
      have hp' := ownsRow_base hp (show w8.heap.size ≤ w9.heap.size from hz)
      have hne : ∀ y ∈ ls ++ [⟨pl, pd, pc⟩], w10.ownsRow w8.heap.size 38 39 y.v y.l.length (flat Dr.cells y.l) := fun y hy => by
        rcases List.mem_append.1 hy with hy | hy
        · exact hY' y hy
        · rw [List.mem_singleton] at hy; subst hy; exact hp'
      clear hp hp' hY' hY X
      repeat' (first | with_reducible refine RunLN.boolF rfl ?_ | (with_reducible refine RunLN.chk ?_; refine RunLN.int (by (first | (refine wr_i64 ?_ ?_; omega; omega) | (refine wm_i64 ?_; omega) | (refine wq_i64 ?_ ?_ ?_; omega; omega; omega) | rfl)) ?_) | refine RunLN.any ?_ | refine RunL.ev Tryz.tOk rfl rfl rfl ?_ | refine RunE.condF rfl rfl ?_ | refine RunE.seq ?_ | refine RunE.region ?_ | refine RunL.nil ?_ | refine RunE.exit rfl ?_)
      refine RunL.ex rfl rfl rfl (OpE.buildSl Tryz.tOk [.slice pd pl.length pc] rfl rfl rfl rfl rfl rfl (by simp [Value.cells])) ?_
      rintro _ w11 ⟨B11, rfl, a11⟩
      have hx1 : LLl w11 (.slice (some ⟨B11, 0, none⟩) 1 1) [⟨pl, pd, pc⟩] := isSl_added (n := 1) (sz := 1) a11 rfl
      replace hO' := hO'.up a11.ext
      replace hne := fun y hy => (hne y hy).up a11.ext
      replace Z8' := Z8'.up a11.ext
      replace XW := XW.trans a11.ext
      have hz11 := a11.ext.size
      clear a11
      skip
      refine RunL.ex rfl rfl rfl (OpE.append' Tryz.tOk rfl rfl rfl rfl rfl rfl hO' hx1 (flat_plain encLl _) (by show _ * 24 ≤ _; simp only [List.length_singleton]; omega) (by simp only [List.length_singleton]; omega) (by omega)) ?_
      rintro u' w12 ⟨O8, E8, -⟩
      have hz12 := E8.size
      have XX : Ext w6' w12 := XW.write E8 (by intro k hk hlt; have := ownsRow_ge hO' hk; omega)
      have Z8'' := Z8'.ext E8 (fun e => by have := ownsRow_ge hO' e; omega)
      have hob : ∀ k, u.ownBlock = some k → ∃ cs, w11.heap[k]? = some (.cells cs 26 (0, 0)) := fun k hk => by
        rcases hO'.2 with ⟨h0, -⟩ | ⟨g, c, cur, h0, hb, hg, -⟩
        · rw [h0] at hk; simp [Value.ownBlock] at hk
        · rw [h0] at hk
          have : k = g := by simpa [Value.ownBlock] using hk.symm
          subst this
          exact ⟨cur, hg⟩
      have hY2 : ∀ y ∈ ls ++ [⟨pl, pd, pc⟩], w12.ownsRow w8.heap.size 38 39 y.v y.l.length (flat Dr.cells y.l) := fun y hy => ownsRow_ext (hne y hy) E8 (fun k hk h => by
        obtain ⟨cs, h1⟩ := hob k h
        rcases (hne y hy).2 with ⟨h0, -⟩ | ⟨g, c, cur, h0, hb, hg, -⟩
        · rw [h0] at hk; simp [Value.ownBlock] at hk
        · rw [h0] at hk
          have : k = g := by simpa [Value.ownBlock] using hk.symm
          subst this
          rw [h1] at hg
          injection hg with hg
          injection hg with _ h3
          exact absurd h3 (by decide))
      have hld : lenD (ls ++ [(⟨pl, pd, pc⟩ : Ll)]) ≤ (s + 1) * 16 := by
        rw [lenD_snoc]
        show lenD ls + pl.length ≤ _
        omega
      have ht2 : TruI l bs' (allD (ls ++ [(⟨pl, pd, pc⟩ : Ll)])) := by rw [allD_snoc]; exact ht'
      repeat' (first | (with_reducible refine RunLN.chk ?_; refine RunLN.int (by (first | (refine wr_i64 ?_ ?_; omega; omega) | (refine wm_i64 ?_; omega) | (refine wq_i64 ?_ ?_ ?_; omega; omega; omega) | rfl)) ?_) | refine RunLN.any ?_ | refine RunL.ev Tryz.tOk rfl rfl rfl ?_ | refine RunE.region ?_ | refine RunL.nil ?_ | refine RunE.inBlock ?_)
      exact RunE.weaken (by repeat (first | exact Sub.nil _ | refine Sub.cons rfl ?_)) (again (s + 1, u', ls ++ [⟨pl, pd, pc⟩], bs') _ (by simp only; omega) ⟨by simp only; omega, XX, by omega, Z8'', ht2, by simp only [List.length_append, List.length_singleton]; omega, hld, by
        simp only
        rw [List.length_append, flat_append]; exact O8, hY2⟩)
    | succ j =>
    have ej : (((j + 1 : Nat) : Int) - 1) = ((j : Nat) : Int) := by omega
    rw [ej]
    have hjl : j < l.length := by omega
    obtain ⟨y, hy⟩ : ∃ y, l[j]? = some y := ⟨_, List.getElem?_eq_getElem hjl⟩
    obtain ⟨b1, o1, c1, e1, hr1, -⟩ := isL_held hl hjl
    injection e1 with e1 _ e1'
    subst e1
    subst e1'
    have hry := flat_row encR (hr1.up (X6.trans XW)) hy
    clear again ej
    have next := fun p' pl' bs'' w' h1 h2 h3 h4 h5 => again2 (j, p', pl', bs'') w' (by simp only; omega) ⟨h1, h2, h3, h4, h5⟩
    simp only at next
    clear again2
    have hz10 := X.size
    repeat' (first | with_reducible refine RunLN.boolT rfl ?_ | (with_reducible refine RunLN.chk ?_; refine RunLN.int (by (first | (refine wr_i64 ?_ ?_; omega; omega) | (refine wm_i64 ?_; omega) | (refine wq_i64 ?_ ?_ ?_; omega; omega; omega) | rfl)) ?_) | refine RunL.ev Tryz.tOk rfl rfl rfl ?_ | refine RunE.seq ?_ | refine RunE.region ?_ | refine RunL.nil ?_)
    refine RunE.condT rfl rfl ?_
    repeat' (first | (with_reducible refine RunLN.chk ?_; refine RunLN.int (by (first | (refine wr_i64 ?_ ?_; omega; omega) | (refine wm_i64 ?_; omega) | (refine wq_i64 ?_ ?_ ?_; omega; omega; omega) | rfl)) ?_) | refine RunLN.any ?_ | refine RunL.ev Tryz.tOk rfl rfl rfl ?_ | refine RunE.seq ?_ | refine RunE.region ?_ | refine RunL.nil ?_ | refine RunE.block ?_ | refine RunE.skip ?_)
    refine RunE.cond rfl (fun hbit => ?_) (fun hbit => ?_)
    · repeat' (first | (with_reducible refine RunLN.chk ?_; refine RunLN.int (by (first | (refine wr_i64 ?_ ?_; omega; omega) | (refine wm_i64 ?_; omega) | (refine wq_i64 ?_ ?_ ?_; omega; omega; omega) | rfl)) ?_) | refine RunLN.any ?_ | refine RunL.ev Tryz.tOk rfl rfl rfl ?_ | refine RunL.evV rfl rfl rfl (OpV.loadN Tryz.tOk rfl rfl rfl rfl hry) ?_ | refine RunL.evV rfl rfl rfl (OpV.indexS Tryz.tOk _ rfl rfl rfl rfl (by omega)) ?_ | refine RunE.region ?_)
      refine RunL.ex rfl rfl rfl (OpE.buildN encR Tryz.tOk [y] rfl rfl rfl rfl rfl rfl) ?_
      rintro _ w11 ⟨⟨B15, rfl, l15⟩, hx1, Xa_⟩
      replace hp := hp.up Xa_
      replace Z8' := Z8'.up Xa_
      replace X := X.trans (ExtB.of_ext Xa_)
      have hs6 : w9.heap.size ≤ w11.heap.size := X.size
      clear Xa_
      skip
      refine RunL.ex rfl rfl rfl (OpE.append' Tryz.tOk rfl rfl rfl rfl rfl rfl hp hx1 (flat_plain encR [y]) (by show _ * 120 ≤ _; simp only [List.length_singleton]; omega) (by simp only [List.length_singleton]; omega) hs6) ?_
      rintro p' w12 ⟨O8, E8, -⟩
      have X8 : ExtB (fun k => k = B8) w9 w12 := X.write E8 (by intro k hk hlt; have := ownsRow_ge hp hk; omega)
      have Z8'' := Z8'.ext E8 (fun e => by have := ownsRow_ge hp e; omega)
      have hbl : j < bs'.length := by rw [ht'.1]; exact hjl
      repeat' (first | refine RunLN.any ?_ | refine RunL.ev Tryz.tOk rfl rfl rfl ?_ | refine RunL.evV rfl rfl rfl (OpV.indexS Tryz.tOk _ rfl rfl rfl rfl (by omega)) ?_)
      refine RunL.storeFlat Tryz.tOk encBo j true rfl rfl rfl rfl rfl rfl Z8'' hbl fun w13 t13 => ?_
      have X9' : ExtB (fun k => k = B8) w9 w13 := X8.trans t13.ext
      have O9 := ownsRow_ext O8 t13.ext (fun k hk e => by have := ownsRow_ge O8 hk; omega)
      have ht2 := ht'.snoc hy
      rw [List.append_assoc] at ht2
      repeat' (first | (with_reducible refine RunLN.chk ?_; refine RunLN.int (by (first | (refine wr_i64 ?_ ?_; omega; omega) | (refine wm_i64 ?_; omega) | (refine wq_i64 ?_ ?_ ?_; omega; omega; omega) | rfl)) ?_) | refine RunL.ev Tryz.tOk rfl rfl rfl ?_ | refine RunE.region ?_ | refine RunL.nil ?_ | refine RunE.inBlock ?_)
      exact RunE.weaken (by repeat (first | exact Sub.nil _ | refine Sub.cons rfl ?_)) (next p' (pl ++ [y]) _ _ (by rw [List.length_append, List.length_singleton]; omega) X9' t13.at_ ht2 (by rw [List.length_append, flat_append]; exact O9))
    · repeat' (first | (with_reducible refine RunLN.chk ?_; refine RunLN.int (by (first | (refine wr_i64 ?_ ?_; omega; omega) | (refine wm_i64 ?_; omega) | (refine wq_i64 ?_ ?_ ?_; omega; omega; omega) | rfl)) ?_) | refine RunL.ev Tryz.tOk rfl rfl rfl ?_ | refine RunE.region ?_ | refine RunL.nil ?_ | refine RunE.inBlock ?_ | refine RunE.skip ?_)
      exact RunE.weaken (by repeat (first | exact Sub.nil _ | refine Sub.cons rfl ?_)) (next p pl bs' _ (by omega) X Z8' ht' hp)
  obtain rfl : s = 3 := by omega
  clear again
  have hi1 : InP w9 u (ls.map Ll.l) := ⟨ls, isSl_own hO, rfl, fun y hy => isSl_own (hY y hy)⟩
  have hfl : (ls.map Ll.l).flatten.length ≤ 48 := by rw [← allD_flat, allD_len]; omega
  have hc : chkP ks (ls.map Ll.l) = 0 := chkP_of hkd (by rw [List.length_map]; omega) (by omega)
  have hLl : ∀ y ∈ allD ls, y ∈ l := fun y hy => by
    obtain ⟨i, -, hi⟩ := (ht.2 y).1 hy
    exact List.mem_of_getElem? hi
  obtain ⟨hm1, hm2⟩ := truth_merge hlog ht
  have htl := ht.1
  have hall : bs.all id = true → (passL Dr.d ks (pickR bs l)).map Dr.d = l.map Dr.d := fun h => truth_all hlog htl h
  rw [allD_flat] at hLl hm1 hm2
  have hd1 : ∀ z ∈ (ls.map Ll.l).flatten, WfX W z := fun z hz => hwf z (hLl z hz)
  have X9 := X6.trans X
  clear hO hY hln hls ht hz hLl X X6 g8 l8
  generalize ls.map Ll.l = L at *
  have X := X9
  clear X9
  repeat' (first | with_reducible refine RunLN.boolF rfl ?_ | refine RunLN.any ?_ | refine RunL.ev Tryz.tOk rfl rfl rfl ?_ | refine RunE.condF rfl rfl ?_ | refine RunE.seq ?_ | refine RunE.region ?_ | refine RunL.nil ?_ | refine RunE.exit rfl ?_)
  refine RunL.call rfl rfl rfl (pMerge_ok hc hki hkl (hk.up X) hi1 (fun z hz => (hd1 z hz).up X) (hS.up X) (hkT.up X)) ?_
  rintro _ w10 ⟨⟨u13, out, rfl, h13, e13, m13⟩, Xa_⟩
  replace X := X.trans Xa_
  replace hi1 := hi1.up Xa_
  replace Z8 := Z8.up Xa_
  clear Xa_
  repeat' (first | (with_reducible refine RunLN.chk ?_; refine RunLN.int (by (first | (refine wr_i64 ?_ ?_; omega; omega) | (refine wm_i64 ?_; omega) | (refine wq_i64 ?_ ?_ ?_; omega; omega; omega) | rfl)) ?_) | refine RunLN.any ?_ | refine RunL.ev Tryz.tOk rfl rfl rfl ?_ | refine RunE.seq ?_ | refine RunE.region ?_ | refine RunL.nil ?_)
  refine RunL.call rfl rfl rfl (pLiars_ok hc hki hkl (hk.up X) hi1 (fun z hz => (hd1 z hz).up X) (hS.up X) (hkT.up X)) ?_
  rintro _ w11 ⟨⟨u15, fs, rfl, h15, e15, -⟩, Xa_⟩
  obtain rfl : fs = [] := List.map_eq_nil_iff.1 (e15.trans hm2)
  replace h15 : IsSl w11 78 u15 0 [] := h15
  replace X := X.trans Xa_
  replace h13 := h13.up Xa_
  replace Z8 := Z8.up Xa_
  clear Xa_ hi1 e15 hm2
  have hol : out.length ≤ 48 := by
    have h1 := merge_len ks (L.flatten.map Dr.d)
    have h2 := lenM e13
    rw [List.length_map] at h1
    omega
  have w13 : ∀ z ∈ out, WfX W z := fun z hz => hd1 z (m13 z hz)
  rw [← hm1] at e13
  clear m13 hd1 hm1 hc hfl
  have hl11 := hl.up X
  have X11 := X
  replace X := ExtB.refl (fun _ => False) w11
  have hO0 : w11.ownsRow w11.heap.size 38 39 nilV (passL Dr.d ks (pickR (bs.take 0) (l.take 0))).length (flat Dr.cells (passL Dr.d ks (pickR (bs.take 0) (l.take 0)))) := World.ownsRow_nil _ _ _ _
  repeat' (first | with_reducible refine RunLN.boolF rfl ?_ | (with_reducible refine RunLN.chk ?_; refine RunLN.int (by (first | (refine wr_i64 ?_ ?_; omega; omega) | (refine wm_i64 ?_; omega) | (refine wq_i64 ?_ ?_ ?_; omega; omega; omega) | rfl)) ?_) | refine RunLN.any ?_ | refine RunL.ev Tryz.tOk rfl rfl rfl ?_ | refine RunL.evV rfl rfl rfl (OpV.lenSl Tryz.tOk rfl rfl h15) ?_ | refine RunE.condF rfl rfl ?_ | refine RunE.seq ?_ | refine RunE.region ?_ | refine RunL.nil ?_ | refine RunE.block ?_ | refine RunE.skip ?_)
  refine RunE.loop (ι := Nat × Value) (fun q => [(1, .slice xu l.length xc), (8, .slice (some ⟨B8, 0, none⟩) l.length l.length), (13, u13), (17, q.2), (98, .slice xu l.length xc), (99, .int .i64 (l.length : Int)), (100, .int .i64 (q.1 : Int))])
    (fun q w' => q.1 ≤ l.length ∧ Ext w11 w' ∧ w'.ownsRow w11.heap.size 38 39 q.2 (passL Dr.d ks (pickR (bs.take q.1) (l.take q.1))).length (flat Dr.cells (passL Dr.d ks (pickR (bs.take q.1) (l.take q.1))))) (fun q => l.length - q.1) (0, nilV) (by repeat (first | exact Sub.nil _ | refine Sub.cons rfl ?_)) ⟨Nat.zero_le _, X, hO0⟩ ?_
  clear X hO0
  rintro ⟨i, u⟩ w12 ⟨hi, X, hO⟩ again
  simp only at hi hO again ⊢
  by_cases hil : i < l.length
  · obtain ⟨x, hx⟩ : ∃ x, l[i]? = some x := ⟨_, List.getElem?_eq_getElem hil⟩
    obtain ⟨b, hb⟩ : ∃ b, bs[i]? = some b := ⟨_, List.getElem?_eq_getElem (by omega)⟩
    have hpt := pickR_take hb hx
    have hsub : ∀ y ∈ pickR (bs.take i) (l.take i), y ∈ l.take i := fun y hy => (pickR_sub _ _).subset hy
    have hre := want_rests (ks := ks) hlog hx hsub
    have hpl : (passL Dr.d ks (pickR (bs.take i) (l.take i))).length ≤ 16 := by
      have h1 := (passR_sub ks (pickR (bs.take i) (l.take i))).length_le
      have h2 := (pickR_sub (bs.take i) (l.take i)).length_le
      rw [List.length_take] at h2
      omega
    have hps : ∀ y ∈ passL Dr.d ks (pickR (bs.take i) (l.take i)), WfX W y := fun y hy => hwf y (List.mem_of_mem_take (hsub y ((passR_sub ks _).subset hy)))
    have hsn : passL Dr.d ks (pickR (bs.take (i + 1)) (l.take (i + 1))) = if b && stepD ks ((passL Dr.d ks (pickR (bs.take i) (l.take i))).map Dr.d) x.d then passL Dr.d ks (pickR (bs.take i) (l.take i)) ++ [x] else passL Dr.d ks (pickR (bs.take i) (l.take i)) := by
      rw [hpt]
      cases b with
      | false => rfl
      | true => rw [if_pos rfl, passR_snoc]; rfl
    have next := fun u' w' a b => again (i + 1, u') w' (by simp only; omega) ⟨by simp only; omega, a, b⟩
    simp only [hsn] at next
    clear again hsn hpt hsub hall
    generalize passL Dr.d ks (pickR (bs.take i) (l.take i)) = wt at *
    have hwx := hwf x (List.mem_of_getElem? hx)
    have hx0 : 0 ≤ x.d.no := by
      obtain ⟨⟨-, -, h0, -⟩, -⟩ := formedD_inv (fineD_inv (logD_fine hlog x.d (List.mem_map.2 ⟨x, List.mem_of_getElem? hx, rfl⟩))).1
      exact h0
    have hU : LDr w12 u wt := isSl_own hO
    obtain ⟨b1, o1, c1, e1, hr1, -⟩ := isL_held hl hil
    injection e1 with e1 _ e1'
    subst e1
    subst e1'
    have hrx := flat_row encR (hr1.up (X11.trans X)) hx
    have hrb := flat_row encBo ((Blk.row Z8).up X) hb
    have cR := fun w' (e : Ext w12 w') => rRests_ok wt u x w' (hU.up e) (by omega) (fun y hy => (hps y hy).up (X11.trans (X.trans e))) (hwx.up (X11.trans (X.trans e))) hx0
    rw [hre] at cR
    clear hre hps
    have X12 := X
    replace X := ExtB.refl (fun _ => False) w12
    repeat' (first | (with_reducible refine RunLN.decT ?_ ?_; focus omega) | (with_reducible refine RunLN.chk ?_; refine RunLN.int (by (first | (refine wr_i64 ?_ ?_; omega; omega) | (refine wm_i64 ?_; omega) | (refine wq_i64 ?_ ?_ ?_; omega; omega; omega) | rfl)) ?_) | refine RunLN.any ?_ | refine RunL.ev Tryz.tOk rfl rfl rfl ?_ | refine RunL.evV rfl rfl rfl (OpV.loadN Tryz.tOk rfl rfl rfl rfl hrx) ?_ | refine RunL.evV rfl rfl rfl (OpV.indexS Tryz.tOk _ rfl rfl rfl rfl (by omega)) ?_ | refine RunE.condT rfl rfl ?_ | refine RunE.seq ?_ | refine RunE.region ?_ | refine RunL.nil ?_ | refine RunE.block ?_ | refine RunE.skip ?_)
    refine RunL.alloc Tryz.tOk rfl rfl rfl fun B19 wa_ aa_ => ?_
    repeat' (first | (with_reducible refine RunLN.chk ?_; refine RunLN.int (by (first | (refine wr_i64 ?_ ?_; omega; omega) | (refine wm_i64 ?_; omega) | (refine wq_i64 ?_ ?_ ?_; omega; omega; omega) | rfl)) ?_) | refine RunL.ev Tryz.tOk rfl rfl rfl ?_)
    refine RunL.storeW (vs := x.cells) Tryz.tOk rfl rfl rfl rfl rfl aa_.at_ rfl rfl fun w19_ tb_ => ?_
    have Xa_ : Ext _ w19_ := aa_.ext.write tb_.ext (by intro i_ hi_ hlt_; have := aa_.eq; omega)
    have Z19 : Blk w19_ B19 x.cells 38 := tb_.at_
    replace X := X.trans Xa_
    replace hrb := hrb.up X
    clear Xa_ aa_ tb_ hrx
    cases b with
    | false =>
      simp only [Bool.false_and, Bool.false_eq_true, if_false] at next
      repeat' (first | with_reducible refine RunLN.boolF rfl ?_ | (with_reducible refine RunLN.chk ?_; refine RunLN.int (by (first | (refine wr_i64 ?_ ?_; omega; omega) | (refine wm_i64 ?_; omega) | (refine wq_i64 ?_ ?_ ?_; omega; omega; omega) | rfl)) ?_) | refine RunLN.any ?_ | refine RunL.ev Tryz.tOk rfl rfl rfl ?_ | refine RunL.unwantedD rfl rfl ?_ | refine RunL.evV rfl rfl rfl (OpV.load1 Tryz.tOk rfl rfl rfl (hrb 0 _ rfl)) ?_ | refine RunL.evV rfl rfl rfl (OpV.indexS Tryz.tOk _ rfl rfl rfl rfl (by omega)) ?_ | refine RunE.condF rfl rfl ?_ | refine RunE.seq ?_ | refine RunE.region ?_ | refine RunL.nil ?_ | refine RunE.inBlock ?_ | refine RunE.skip ?_)
      exact RunE.weaken (by repeat (first | exact Sub.nil _ | refine Sub.cons rfl ?_)) (next _ _ (X12.trans X) (hO.up X))
    | true =>
    simp only [Bool.true_and] at next
    cases hst : stepD ks (wt.map Dr.d) x.d with
    | false =>
      rw [hst] at cR next
      simp only [Bool.false_eq_true, if_false] at next
      repeat' (first | with_reducible refine RunLN.boolT rfl ?_ | (with_reducible refine RunLN.chk ?_; refine RunLN.int (by (first | (refine wr_i64 ?_ ?_; omega; omega) | (refine wm_i64 ?_; omega) | (refine wq_i64 ?_ ?_ ?_; omega; omega; omega) | rfl)) ?_) | refine RunLN.any ?_ | refine RunL.ev Tryz.tOk rfl rfl rfl ?_ | refine RunL.evV rfl rfl rfl (OpV.load1 Tryz.tOk rfl rfl rfl (hrb 0 _ rfl)) ?_ | refine RunL.evV rfl rfl rfl (OpV.loadN Tryz.tOk rfl rfl rfl rfl (Blk.row Z19)) ?_ | refine RunL.evV rfl rfl rfl (OpV.indexS Tryz.tOk _ rfl rfl rfl rfl (by omega)) ?_ | refine RunE.seq ?_ | refine RunE.region ?_ | refine RunL.nil ?_)
      refine RunL.call rfl rfl rfl (cR _ X) ?_
      rintro _ _ ⟨rfl, Xa_⟩
      replace Z19 := Z19.up Xa_
      replace X := X.trans Xa_
      clear Xa_
      repeat' (first | with_reducible refine RunLN.boolF rfl ?_ | (with_reducible refine RunLN.chk ?_; refine RunLN.int (by (first | (refine wr_i64 ?_ ?_; omega; omega) | (refine wm_i64 ?_; omega) | (refine wq_i64 ?_ ?_ ?_; omega; omega; omega) | rfl)) ?_) | refine RunL.ev Tryz.tOk rfl rfl rfl ?_ | refine RunE.condF rfl rfl ?_ | refine RunE.region ?_ | refine RunL.nil ?_ | refine RunE.inBlock ?_ | refine RunE.skip ?_)
      exact RunE.weaken (by repeat (first | exact Sub.nil _ | refine Sub.cons rfl ?_)) (next _ _ (X12.trans X) (hO.up X))
    | true =>
      rw [hst] at cR next
      rw [if_pos (rfl : true = true)] at next
      repeat' (first | with_reducible refine RunLN.boolT rfl ?_ | (with_reducible refine RunLN.chk ?_; refine RunLN.int (by (first | (refine wr_i64 ?_ ?_; omega; omega) | (refine wm_i64 ?_; omega) | (refine wq_i64 ?_ ?_ ?_; omega; omega; omega) | rfl)) ?_) | refine RunLN.any ?_ | refine RunL.ev Tryz.tOk rfl rfl rfl ?_ | refine RunL.evV rfl rfl rfl (OpV.load1 Tryz.tOk rfl rfl rfl (hrb 0 _ rfl)) ?_ | refine RunL.evV rfl rfl rfl (OpV.loadN Tryz.tOk rfl rfl rfl rfl (Blk.row Z19)) ?_ | refine RunL.evV rfl rfl rfl (OpV.indexS Tryz.tOk _ rfl rfl rfl rfl (by omega)) ?_ | refine RunE.seq ?_ | refine RunE.region ?_ | refine RunL.nil ?_)
      refine RunL.call rfl rfl rfl (cR _ X) ?_
      rintro _ _ ⟨rfl, Xa_⟩
      replace Z19 := Z19.up Xa_
      replace X := X.trans Xa_
      clear Xa_
      repeat' (first | with_reducible refine RunLN.boolT rfl ?_ | refine RunLN.any ?_ | refine RunL.ev Tryz.tOk rfl rfl rfl ?_ | refine RunL.evV rfl rfl rfl (OpV.loadN Tryz.tOk rfl rfl rfl rfl (Blk.row Z19)) ?_ | refine RunE.condT rfl rfl ?_ | refine RunE.region ?_ | refine RunL.nil ?_)
      refine RunL.ex rfl rfl rfl (OpE.buildN encR Tryz.tOk [x] rfl rfl rfl rfl rfl rfl) ?_
      rintro _ w13_ ⟨⟨B15, rfl, l15⟩, hx1, Xa_⟩
      replace X := X.trans Xa_
      replace hO := hO.up X
      have hs6 : w11.heap.size ≤ w13_.heap.size := (X12.trans X).size
      clear Xa_
      skip
      refine RunL.ex rfl rfl rfl (OpE.append' Tryz.tOk rfl rfl rfl rfl rfl rfl hO hx1 (flat_plain encR [x]) (by show _ * 120 ≤ _; simp only [List.length_singleton]; omega) (by simp only [List.length_singleton]; omega) hs6) ?_
      rintro u' w14 ⟨O8, E8, -⟩
      have X8 : Ext w11 w14 := (X12.trans X).write E8 (by intro k hk hlt; have := ownsRow_ge hO hk; omega)
      repeat' (first | (with_reducible refine RunLN.chk ?_; refine RunLN.int (by (first | (refine wr_i64 ?_ ?_; omega; omega) | (refine wm_i64 ?_; omega) | (refine wq_i64 ?_ ?_ ?_; omega; omega; omega) | rfl)) ?_) | refine RunLN.any ?_ | refine RunL.ev Tryz.tOk rfl rfl rfl ?_ | refine RunE.region ?_ | refine RunL.nil ?_ | refine RunE.inBlock ?_)
      exact RunE.weaken (by repeat (first | exact Sub.nil _ | refine Sub.cons rfl ?_)) (next _ _ X8 (by rw [List.length_append, flat_append]; exact O8))
  obtain rfl : i = l.length := by omega
  have ebs : bs.take l.length = bs := by rw [← htl, List.take_length]
  rw [List.take_length, ebs] at hO
  clear again ebs
  have hwl : (passL Dr.d ks (pickR bs l)).length ≤ 16 := by
    have h1 := (passR_sub ks (pickR bs l)).length_le
    have h2 := (pickR_sub bs l).length_le
    omega
  have hws : ∀ y ∈ passL Dr.d ks (pickR bs l), WfX W y := fun y hy => hwf y ((pickR_sub bs l).subset ((passR_sub ks _).subset hy))
  have hU : LDr w12 u (passL Dr.d ks (pickR bs l)) := isSl_own hO
  generalize passL Dr.d ks (pickR bs l) = wt at *
  replace h13 := h13.up X
  replace Z8 := Z8.up X
  replace X11 := X11.trans X
  clear hO X hl11
  have X := ExtB.refl (fun _ => False) w12
  repeat' (first | with_reducible refine RunLN.boolT rfl ?_ | (with_reducible refine RunLN.decF ?_ ?_; focus omega) | (with_reducible refine RunLN.chk ?_; refine RunLN.int (by (first | (refine wr_i64 ?_ ?_; omega; omega) | (refine wm_i64 ?_; omega) | (refine wq_i64 ?_ ?_ ?_; omega; omega; omega) | rfl)) ?_) | refine RunLN.any ?_ | refine RunL.ev Tryz.tOk rfl rfl rfl ?_ | refine RunE.condF rfl rfl ?_ | refine RunE.seq ?_ | refine RunE.region ?_ | refine RunL.nil ?_ | refine RunE.block ?_ | refine RunE.exit rfl ?_)
  refine RunE.loop (ι := Nat × Bool) (fun q => [(1, .slice xu l.length xc), (13, u13), (17, u), (20, .bool q.2), (119, .slice (some ⟨B8, 0, none⟩) l.length l.length), (120, .int .i64 (l.length : Int)), (121, .int .i64 (q.1 : Int))])
    (fun q w' => q.1 ≤ l.length ∧ (bs.take q.1).all id = q.2 ∧ Ext w12 w') (fun q => l.length - q.1) (0, true) (by repeat (first | exact Sub.nil _ | refine Sub.cons rfl ?_)) ⟨Nat.zero_le _, rfl, X⟩ ?_
  clear X
  rintro ⟨i, al⟩ w13' ⟨hi', hal, X⟩ again
  simp only at hi' hal again ⊢
  by_cases hil' : i < l.length
  · obtain ⟨b, hb⟩ : ∃ b, bs[i]? = some b := ⟨_, List.getElem?_eq_getElem (by omega)⟩
    have hrb := flat_row encBo ((Blk.row Z8).up X) hb
    have hnew : (bs.take (i + 1)).all id = (al && b) := by
      rw [List.take_add_one, hb, List.all_append, hal]; simp
    clear hal hall
    cases al with
    | false =>
      rw [Bool.false_and] at hnew
      repeat' (first | with_reducible refine RunLN.boolF rfl ?_ | (with_reducible refine RunLN.decT ?_ ?_; focus omega) | (with_reducible refine RunLN.chk ?_; refine RunLN.int (by (first | (refine wr_i64 ?_ ?_; omega; omega) | (refine wm_i64 ?_; omega) | (refine wq_i64 ?_ ?_ ?_; omega; omega; omega) | rfl)) ?_) | refine RunLN.any ?_ | refine RunL.ev Tryz.tOk rfl rfl rfl ?_ | refine RunL.unwantedD rfl rfl ?_ | refine RunL.evV rfl rfl rfl (OpV.load1 Tryz.tOk rfl rfl rfl (hrb 0 _ rfl)) ?_ | refine RunL.evV rfl rfl rfl (OpV.indexS Tryz.tOk _ rfl rfl rfl rfl (by omega)) ?_ | refine RunE.condT rfl rfl ?_ | refine RunE.seq ?_ | refine RunE.region ?_ | refine RunL.nil ?_ | refine RunE.block ?_ | refine RunE.inBlock ?_ | refine RunE.skip ?_)
      exact RunE.weaken (by repeat (first | exact Sub.nil _ | refine Sub.cons rfl ?_)) (again (i + 1, false) _ (by simp only; omega) ⟨by simp only; omega, hnew, X⟩)
    | true =>
      rw [Bool.true_and] at hnew
      repeat' (first | with_reducible refine RunLN.boolT rfl ?_ | (with_reducible refine RunLN.decT ?_ ?_; focus omega) | (with_reducible refine RunLN.chk ?_; refine RunLN.int (by (first | (refine wr_i64 ?_ ?_; omega; omega) | (refine wm_i64 ?_; omega) | (refine wq_i64 ?_ ?_ ?_; omega; omega; omega) | rfl)) ?_) | refine RunLN.any ?_ | refine RunL.ev Tryz.tOk rfl rfl rfl ?_ | refine RunL.evV rfl rfl rfl (OpV.load1 Tryz.tOk rfl rfl rfl (hrb 0 _ rfl)) ?_ | refine RunL.evV rfl rfl rfl (OpV.indexS Tryz.tOk _ rfl rfl rfl rfl (by omega)) ?_ | refine RunE.condT rfl rfl ?_ | refine RunE.seq ?_ | refine RunE.region ?_ | refine RunL.nil ?_ | refine RunE.block ?_ | refine RunE.inBlock ?_ | refine RunE.skip ?_)
      exact RunE.weaken (by repeat (first | exact Sub.nil _ | refine Sub.cons rfl ?_)) (again (i + 1, b) _ (by simp only; omega) ⟨by simp only; omega, hnew, X⟩)
  obtain rfl : i = l.length := by omega
  have ebs : bs.take l.length = bs := by rw [← htl, List.take_length]
  rw [ebs] at hal
  clear again ebs
  have wS := X11.trans X
  have cS1 := rSame_true out wt u13 u w13' (h13.up X) (hU.up X) e13 (by omega) (fun z hz => (w13 z hz).up wS) (fun z hz => (hws z hz).up wS)
  cases al with
  | false =>
    repeat' (first | (with_reducible refine RunLN.decF ?_ ?_; focus omega) | refine RunLN.any ?_ | refine RunL.ev Tryz.tOk rfl rfl rfl ?_ | refine RunE.condF rfl rfl ?_ | refine RunE.seq ?_ | refine RunE.region ?_ | refine RunL.nil ?_ | refine RunE.exit rfl ?_)
    refine RunL.call rfl rfl rfl (cS1) ?_
    rintro _ _ ⟨rfl, Xa_⟩
    replace X := X.trans Xa_
    clear Xa_
    repeat' (first | with_reducible refine RunLN.boolT rfl ?_ | with_reducible refine RunLN.boolF rfl ?_ | refine RunL.ev Tryz.tOk rfl rfl rfl ?_ | refine RunL.unwantedD rfl rfl ?_ | refine RunL.nil ?_)
    exact RunE.retFn Tryz.func6 (.tmp rfl .nil) ⟨rfl, X11.trans X⟩
  | true =>
    have cS2 := fun w' (e : Ext W w') => rSame_true out l u13 (.slice xu l.length xc) w'
    have e2 : out.map Dr.d = l.map Dr.d := e13.trans (hall hal)
    have X13 := X
    replace X := ExtB.refl (fun _ => False) w13'
    repeat' (first | (with_reducible refine RunLN.decF ?_ ?_; focus omega) | refine RunLN.any ?_ | refine RunL.ev Tryz.tOk rfl rfl rfl ?_ | refine RunE.condF rfl rfl ?_ | refine RunE.seq ?_ | refine RunE.region ?_ | refine RunL.nil ?_ | refine RunE.exit rfl ?_)
    refine RunL.call rfl rfl rfl (cS1) ?_
    rintro _ _ ⟨rfl, Xa_⟩
    replace X := X.trans Xa_
    clear Xa_
    repeat' (first | with_reducible refine RunLN.boolT rfl ?_ | with_reducible refine RunLN.boolF rfl ?_ | refine RunLN.any ?_ | refine RunL.ev Tryz.tOk rfl rfl rfl ?_)
    refine RunL.call rfl rfl rfl (cS2 _ (wS.trans X) (h13.up (X13.trans X)) (hl.up (wS.trans X)) e2 (by omega) (fun z hz => (w13 z hz).up (wS.trans X)) (fun z hz => (hwf z hz).up (wS.trans X))) ?_
    rintro _ _ ⟨rfl, Xa_⟩
    replace X := X.trans Xa_
    clear Xa_
    repeat' (first | with_reducible refine RunLN.boolT rfl ?_ | refine RunL.ev Tryz.tOk rfl rfl rfl ?_ | refine RunL.nil ?_)
    exact RunE.retFn Tryz.func6 (.tmp rfl .nil) ⟨rfl, wS.trans X⟩
end Go.Sg
namespace Go.Proofs.YtpmpefkcmokoiaaGreatDoor
open Go.ChangeShapes Go.WideShapes Go.ChangeAt Go.RowKit Go.Sg
namespace mergeTruth
theorem own : ownKnob Tryz.prog.godebug = none := by kernel_rfl
theorem laidOut : laidOutB Tryz.prog = true := by kernel_rfl
theorem door_met (os : Os) (args : Array Value) : laidMetH Tryz.prog Rows.mergeTruthRow.laid ((World.doorLaid Tryz.prog 19 os).forCall (fun _ _ => 0) ⟨#[], args, []⟩).memory :=
  laidMetH_of_parts3 (fuel := 8) (laidMet_of_run' 8 (by kernel_rfl) (by kernel_rfl)) (by kernel_rfl) (by kernel_rfl)
set_option maxRecDepth 100000 in
theorem lifted (os : Os) (started : os.Started) (H : Type) (enc : TypeId × Value → H) :
    ReturnsInHanded {} Tryz.checked os 6 .any (fun w args => (Rows.mergeTruthSpec.pre enc Tryz.prog Tryz.f6 [] false w args ∧ laidMetH Tryz.prog Rows.mergeTruthRow.laid w) ∧ sizedMet enc Tryz.prog Tryz.f6 (OpenSpec.ofChange Rows.mergeTruthSpec) false w args)
      (Rows.mergeTruthSpec.post enc Tryz.prog Tryz.f6 false true false false) := by
  refine returnsInHanded_of_change_and (C := Tryz.checked) (X := fun w _ => laidMetH Tryz.prog Rows.mergeTruthRow.laid w) (fun _ _ _ hh h => h.of_heap hh) own started (by kernel_rfl) Tryz.func6
    (ChangeSpec.witness_shaped (enc := enc) (C := Tryz.checked) (os := os) (X := fun w _ => laidMetH Tryz.prog Rows.mergeTruthRow.laid w) false (World.doorLaid Tryz.prog 19 os) #[.slice none 0 0, .slice none 0 0, .agg #[.int .u16 0, .int .u16 0, .int .u16 0]] 8 rfl (World.shaped_of_RefB (by kernel_rfl) (by kernel_rfl)) (by kernel_rfl) (by kernel_rfl) (by kernel_rfl) (door_met os _)) ?_
  intro W base args ds gs before hval0 hW _ hwt hL _
  have hval : ∀ (j : Nat) t v, Tryz.f6.params[j]? = some t → args[j]? = some v → Value.okWide Tryz.prog W .any base t v := hval0
  have hW' := hW
  obtain ⟨p, q, hA0, hV, rfl, hfz, hnd⟩ := hW
  have hA : DataW.TrodAll enc Tryz.prog W 0 (fun _ => true) true Tryz.f6.params.toList args.toList ds p := hA0
  rw [Tryz.params6] at hA hval
  obtain ⟨v0, vs0, d0, ds0, p0, q0, hargs, rfl, rfl, h0, r0⟩ := trodAll_cons hA
  obtain ⟨v1, vs1, d1, ds1, p1, q1, rfl, rfl, rfl, h1, r1⟩ := trodAll_cons r0
  obtain ⟨v2, vs2, d2, ds2, p2, q2, rfl, rfl, rfl, h2, r2⟩ := trodAll_cons r1
  obtain ⟨rfl, rfl, rfl⟩ := trodAll_nil r2
  obtain rfl : args = #[v0, v1, v2] := by cases args; simp_all
  obtain ⟨l0, b0, m0⟩ := keys_open (hval 0 22 v0 rfl rfl) h0
  obtain ⟨x1, rfl, m1⟩ := part_open (Go.Rn.reach_at hwt (j := 1) rfl rfl rfl) (hval 1 26 v1 rfl rfl) h1
  obtain ⟨a2, b2, c2, rfl⟩ := bits_open (hval 2 55 v2 rfl rfl) h2
  have L0 := start_of_laid (by kernel_rfl) rfl (.head _) hL
  have L1 := numbers_of_laid (by kernel_rfl) rfl (.tail _ (.head _)) hL
  refine (Rets.calls (mergeTruth_walk v0 l0 x1 a2 b2 c2 W b0 m0 m1 L0 L1)).mono fun e W' he => ?_
  obtain ⟨_, rfl, rfl, hx⟩ := he
  exact ⟨_, rfl, law_post (t := 4) laidOut (by kernel_rfl) (by kernel_rfl) (by kernel_rfl) rfl (fun ds h => by
    rcases ds with _ | ⟨_, _ | ⟨_, _ | ⟨_, _ | ⟨_, _⟩⟩⟩⟩ <;> first | rfl | (exact absurd h (by decide)) | (simp at h)) hW' hx⟩

theorem holds : Rows.MergeTruthSaid :=
  OpenClaim.holds_of_wide 6 Tryz.f6 rfl rfl rfl rfl rfl rfl rfl ⟨rfl, rfl, rfl, rfl, rfl⟩ rfl rfl rfl rfl rfl (by kernel_rfl) Tryz.func6 (by kernel_rfl)
    (of_decide_eq_true (by kernel_rfl)) (by unfold Func.isWrapper; first | (rw [if_pos (by decide +kernel)]; kernel_rfl) | (rw [if_neg (by decide +kernel)]; exact ⟨rfl, rfl⟩))
    (fun os started H enc _ => lifted os started H enc)
theorem proved : Rows.MergeTruthCardSaid :=
  Claim7.holds_tied_plain_at .later [] [.data, .data] true (true, "75ed6596ee30abdd58d082f273dd5afe18c864f07da85c18b484820de691abc6") true
    holds (fun _ h => by cases h) (by kernel_rfl) (fun _ h => by cases h) mergeTruth_row_tie rfl ⟨rfl, rfl⟩ (by kernel_rfl) rfl
    (fun f fn hf hfn => by
      obtain rfl : f = 6 := Option.some.inj ((show Tryz.prog.funcNamed Tryz.f6.name = some 6 by kernel_rfl).symm.trans hf) |>.symm
      obtain rfl : fn = Tryz.f6 := (Option.some.inj (Tryz.func6.symm.trans hfn)).symm
      exact ⟨by kernel_rfl, fun j t ht => by
        have hall : Tryz.f6.params.toList.all (fun t => !Tryz.prog.wantsStandIn t) = true := by kernel_rfl
        have hm : t ∈ Tryz.f6.params.toList := by
          obtain ⟨hj, rfl⟩ := Array.getElem?_eq_some_iff.1 ht
          simp
        have := List.all_eq_true.1 hall t hm
        exact (by simpa using this : Tryz.prog.wantsStandIn t = false)⟩)
    (by kernel_rfl)
#print axioms proved
end mergeTruth
end Go.Proofs.YtpmpefkcmokoiaaGreatDoor
