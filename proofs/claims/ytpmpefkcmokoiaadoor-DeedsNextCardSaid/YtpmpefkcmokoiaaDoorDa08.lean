/- Parts of this project that the claims share: DeeB, DeeT, SigEq, Dee5, Dee6, Ref11, Ref11B. -/
import Derived.Test.YtpmpefkcmokoiaaDoorDa07
import Derived.Test.YtpmpefkcmokoiaaDoorDa02
import Derived.Laws.StructEq
import Derived.Test.YtpmpefkcmokoiaaDoorDa05
set_option linter.unusedSimpArgs false
set_option linter.unusedVariables false
set_option linter.unusedSectionVars false
section
/- Deeds: Check. -/
namespace Go.Mer
open Go.Dee
theorem befD_iff' {a b : Deed} : befD a b = true ↔ a.at_ < b.at_ ∨ (a.at_ = b.at_ ∧ (a.person < b.person ∨ (a.person = b.person ∧ a.no < b.no))) := by
  unfold befD
  split
  · split
    · rw [decide_eq_true_eq]; omega
    · rw [decide_eq_true_eq]; omega
  · rw [decide_eq_true_eq]; omega
end Go.Mer
namespace Go.Sg
open Go.Rn Go.Proofs Go.Dee Go.Rec Go.RowKit Go.Sha Go.Cod Go.NT
section
variable {P : Program} {w : World} {env : Env} {dst : Option Tmp} {ty : TypeId} {pos : String} {after : Array Edge} {guard : Option (Nat × Bool)}
theorem OpE.mapEntryDg {t kt et : TypeId} {x y : Operand} {r : Nat} {g : Dg} {m : List (List UInt8 × Value)} {z : Value} (ht : P.underlying t = some (.map kt et)) (hk : KeyOk P kt digV fun l => l.length = 32) (hz : (P.info? et).bind (·.zero) = some z)
    (hx : evO env x = some (.map (some r))) (hy : evO env y = some (.agg (digC g).toArray)) (hm : MDg w r m) :
    OpE P env w ⟨dst, .mapEntry t x y, ty, pos, after, guard⟩ (fun u w' => ∃ st : Nat, u = .tuple #[(getM g.1 m).getD z, .int .i64 (st : Int)] ∧ EntK digV (fun l => l.length = 32) w' r m g.1 st ∧ ExtB (· = r) w w' ∧ w'.heap.size = w.heap.size) fun _ _ => False := by
  rw [digV_eq] at hy
  exact OpE.mapEntry ht hk hz hx hy g.2 hm
theorem build_none {T : Tab} {t : TypeId} {m sz s b : Nat} {ag : Bool} {e : TypeId} {z : List Value} {a u : Bool} {env : Env} (ht : T.get t = some ⟨.arr m sz ag e, s, b, z, a, u⟩) : evalOp T env (.build t #[]) = some (.agg z.toArray) := by
  unfold evalOp
  simp only [ht, evParts, fillL, force_eq]
end
attribute [local irreducible] Go.Rn.RetsX Go.Rn.RunLN Go.Rn.AsyN Go.Rn.RunL Go.Rn.RunE Go.Rn.Asy Go.Rn.OpV Go.Rn.OpE Go.Rn.ExecE
def WfX (w : World) (x : Dr) : Prop := WfD x.d ∧ x.d.seen.length < 9223372036854775808 ∧ x.d.data.length < 9223372036854775808 ∧ HoldR w x
set_option maxRecDepth 4000 in
set_option maxHeartbeats 8000000 in
theorem dcheck_ok (ks : List Int) (kv : Value) (l : List Dr) (lv : Value) (w : World) (hk : LIn w kv ks) (hkl : ks.length < 9223372036854775808) (hki : KsI ks) (hv : LDr w lv l) (hl : l.length < 9223372036854775808) (hd : ∀ x ∈ l, WfX w x) (hS : Row w 0 0 (vals init8.l)) (hkT : Row w 1 0 (vals kTab)) :
    Rets Tryd.prog 26 [kv, lv] w fun r w' => r = .int .i64 (chkE ks (l.map Dr.d)) ∧ Ext w w' := by
  have c1 := fun w h => dkeys_ok ks kv w h hkl
  cases hkd : keysD ks with
  | false =>
    rw [hkd] at c1
    have hr : chkE ks (l.map Dr.d) = 1 := by unfold chkE; rw [hkd]; rfl
    rw [hr]
    refine RetsX.of (nt := 122) Tryd.func26 (by kernel_rfl) rfl rfl (by simp) (by simp only [argEnv]; rfl) ?_
    have X := ExtB.refl (fun _ => False) w
    repeat' (first | refine RunE.seq ?_ | refine RunE.region ?_)
    refine RunL.alloc Tryd.tOk rfl rfl rfl fun B4 w4_ a_ => ?_
    have Z4 : Blk w4_ B4 ([.int .i64 0]) 32 := a_.at_
    have gB4 := a_.ge X
    replace X := X.trans a_.ext
    clear a_
    repeat' (first | refine RunLN.any ?_ | refine RunL.ev Tryd.tOk rfl rfl rfl ?_ | refine RunE.seq ?_ | refine RunE.region ?_ | refine RunL.nil ?_)
    refine RunL.call rfl rfl rfl (c1 _ (hk.up X)) ?_
    rintro _ _ ⟨rfl, Xa_⟩
    replace Z4 := Z4.up Xa_
    replace X := X.trans Xa_
    clear Xa_
    repeat' (first | with_reducible refine RunLN.boolT rfl ?_ | refine RunL.ev Tryd.tOk rfl rfl rfl ?_ | refine RunE.condT rfl rfl ?_ | refine RunE.seq ?_ | refine RunE.region ?_ | refine RunL.nil ?_)
    refine RunL.store Tryd.tOk rfl rfl rfl rfl rfl Z4 rfl rfl fun w_ t_ => ?_
    replace X := X.own t_.ext gB4
    replace Z4 : Blk w_ B4 ([.int .i64 1]) 32 := t_.at_
    clear t_
    repeat' (first | refine RunL.nil ?_)
    exact RunE.retFn Tryd.func26 (.cell rfl (Loads.scalar Tryd.tOk rfl rfl (Z4.cell rfl)) .nil) ⟨rfl, X⟩
  | true =>
  rw [hkd] at c1
  by_cases hlm : l.length ≤ 4096
  rotate_left
  · have hr : chkE ks (l.map Dr.d) = 2 := by
      unfold chkE; rw [hkd, if_pos rfl, List.length_map, if_pos (by omega)]
    rw [hr]
    refine RetsX.of (nt := 122) Tryd.func26 (by kernel_rfl) rfl rfl (by simp) (by simp only [argEnv]; rfl) ?_
    have X := ExtB.refl (fun _ => False) w
    repeat' (first | refine RunE.seq ?_ | refine RunE.region ?_)
    refine RunL.alloc Tryd.tOk rfl rfl rfl fun B4 w4_ a_ => ?_
    have Z4 : Blk w4_ B4 ([.int .i64 0]) 32 := a_.at_
    have gB4 := a_.ge X
    replace X := X.trans a_.ext
    clear a_
    repeat' (first | refine RunLN.any ?_ | refine RunL.ev Tryd.tOk rfl rfl rfl ?_ | refine RunE.seq ?_ | refine RunE.region ?_ | refine RunL.nil ?_)
    refine RunL.call rfl rfl rfl (c1 _ (hk.up X)) ?_
    rintro _ _ ⟨rfl, Xa_⟩
    replace Z4 := Z4.up Xa_
    replace X := X.trans Xa_
    clear Xa_
    repeat' (first | with_reducible refine RunLN.boolF rfl ?_ | (with_reducible refine RunLN.decT ?_ ?_; focus omega) | (with_reducible refine RunLN.chk ?_; refine RunLN.int (by (first | (refine wr_i64 ?_ ?_; omega; omega) | (refine wm_i64 ?_; omega) | (refine wq_i64 ?_ ?_ ?_; omega; omega; omega) | rfl)) ?_) | refine RunLN.any ?_ | refine RunL.ev Tryd.tOk rfl rfl rfl ?_ | refine RunL.evV rfl rfl rfl (OpV.lenSl Tryd.tOk rfl rfl hv) ?_ | refine RunE.condT rfl rfl ?_ | refine RunE.condF rfl rfl ?_ | refine RunE.seq ?_ | refine RunE.region ?_ | refine RunL.nil ?_ | refine RunE.skip ?_)
    refine RunL.store Tryd.tOk rfl rfl rfl rfl rfl Z4 rfl rfl fun w_ t_ => ?_
    replace X := X.own t_.ext gB4
    replace Z4 : Blk w_ B4 ([.int .i64 2]) 32 := t_.at_
    clear t_
    repeat' (first | refine RunL.nil ?_)
    exact RunE.retFn Tryd.func26 (.cell rfl (Loads.scalar Tryd.tOk rfl rfl (Z4.cell rfl)) .nil) ⟨rfl, X⟩
  have hr : ∀ lg, logD ks (l.map Dr.d) = lg → chkE ks (l.map Dr.d) = if lg then 0 else 490 := fun lg h => by
    unfold chkE; rw [hkd, if_pos rfl, List.length_map, if_neg (by omega), h]
  refine RetsX.of (nt := 122) Tryd.func26 (by kernel_rfl) rfl rfl (by simp) (by simp only [argEnv]; rfl) ?_
  have X := ExtB.refl (fun _ => False) w
  repeat' (first | refine RunE.seq ?_ | refine RunE.region ?_)
  refine RunL.alloc Tryd.tOk rfl rfl rfl fun B4 w4_ a_ => ?_
  have Z4 : Blk w4_ B4 ([.int .i64 0]) 32 := a_.at_
  have gB4 := a_.ge X
  replace X := X.trans a_.ext
  clear a_
  repeat' (first | refine RunLN.any ?_ | refine RunL.ev Tryd.tOk rfl rfl rfl ?_ | refine RunE.seq ?_ | refine RunE.region ?_ | refine RunL.nil ?_)
  refine RunL.call rfl rfl rfl (c1 _ (hk.up X)) ?_
  rintro _ _ ⟨rfl, Xa_⟩
  replace Z4 := Z4.up Xa_
  replace X := X.trans Xa_
  clear Xa_
  repeat' (first | with_reducible refine RunLN.boolF rfl ?_ | (with_reducible refine RunLN.decF ?_ ?_; focus omega) | (with_reducible refine RunLN.chk ?_; refine RunLN.int (by (first | (refine wr_i64 ?_ ?_; omega; omega) | (refine wm_i64 ?_; omega) | (refine wq_i64 ?_ ?_ ?_; omega; omega; omega) | rfl)) ?_) | refine RunLN.any ?_ | refine RunL.ev Tryd.tOk rfl rfl rfl ?_ | refine RunL.evV rfl rfl rfl (OpV.lenSl Tryd.tOk rfl rfl hv) ?_ | refine RunE.condF rfl rfl ?_ | refine RunE.seq ?_ | refine RunE.region ?_ | refine RunL.nil ?_ | refine RunE.skip ?_)
  refine RunL.ex rfl rfl rfl (OpE.makeMap digV fun l => l.length = 32) ?_
  rintro _ w5 ⟨R5, rfl, a5, M5⟩
  have gR5 : w.heap.size ≤ R5 := a5.ge X
  have l45 : B4 < R5 := by have := Z4.lt; have := a5.eq; omega
  replace Z4 := Z4.up a5.ext
  replace X := X.trans a5.ext
  clear a5 c1
  repeat' (first | refine RunLN.any ?_ | refine RunL.ev Tryd.tOk rfl rfl rfl ?_ | refine RunE.seq ?_ | refine RunE.region ?_ | refine RunL.nil ?_)
  refine RunL.ev Tryd.t2Ok rfl rfl (build_none rfl) ?_
  refine RunLN.any ?_
  refine RunL.alloc Tryd.t2Ok rfl rfl rfl fun B6 w6a aa_ => ?_
  have gB6 := aa_.ge X
  refine RunL.storeW (vs := List.replicate 2048 (.int .u8 0)) Tryd.t2Ok rfl rfl rfl rfl (by rw [List.length_replicate]) aa_.at_ rfl (by rw [List.all_replicate]; rfl) fun w6 tb_ => ?_
  have Xa_ : Ext w5 w6 := aa_.ext.write tb_.ext (by intro i_ hi_ hlt_; have := aa_.eq; omega)
  have l56 : R5 < B6 := by have := M5.lt; have := aa_.eq; omega
  have Z6 : Blk w6 B6 (flat digC (lastL [])) 78 := by rw [last_cells]; exact tb_.at_
  replace Z4 := Z4.up Xa_
  replace M5 := M5.up Xa_
  replace X := X.trans Xa_
  clear Xa_ aa_ tb_
  repeat' (first | refine RunLN.any ?_ | refine RunL.ev Tryd.tOk rfl rfl rfl ?_ | refine RunE.seq ?_ | refine RunE.region ?_ | refine RunL.nil ?_)
  refine RunL.alloc Tryd.tOk rfl rfl rfl fun B7 w7a aa_ => ?_
  have gB7 := aa_.ge X
  refine RunL.storeW (vs := List.replicate 64 (.int .i64 0)) Tryd.tOk rfl rfl rfl rfl (by rw [List.length_replicate]) aa_.at_ rfl (by rw [List.all_replicate]; rfl) fun w7 tb_ => ?_
  have Xa_ : Ext w6 w7 := aa_.ext.write tb_.ext (by intro i_ hi_ hlt_; have := aa_.eq; omega)
  have l67 : B6 < B7 := by have := Z6.lt; have := aa_.eq; omega
  have Z7 : Blk w7 B7 (flat intC' (nextL [])) 79 := by rw [next_cells]; exact tb_.at_
  replace Z4 := Z4.up Xa_
  replace M5 := M5.up Xa_
  replace Z6 := Z6.up Xa_
  replace X := X.trans Xa_
  clear Xa_ aa_ tb_
  have hbase := X.size
  have b7 := Z7.lt
  have g4 := gB4
  have n46 : B4 ≠ B6 := by omega
  have n47 : B4 ≠ B7 := by omega
  have n67 : B6 ≠ B7 := by omega
  have n4 : R5 ≠ B4 := by omega
  have n6 : R5 ≠ B6 := by omega
  have n7 : R5 ≠ B7 := by omega
  have H : ChkSt w w7 w7.heap.size B4 R5 B6 B7 [] [] [] := ⟨X, Z4, Z6, Z7, M5, ByOk.nil _ _, fun D h => by simp at h, List.nodup_nil, fun D h => by simp at h, Nat.le_refl _⟩
  clear X Z4 Z6 Z7 M5
  generalize w7.heap.size = base at *
  repeat' (first | (with_reducible refine RunLN.chk ?_; refine RunLN.int (by (first | (refine wr_i64 ?_ ?_; omega; omega) | (refine wm_i64 ?_; omega) | (refine wq_i64 ?_ ?_ ?_; omega; omega; omega) | rfl)) ?_) | refine RunLN.any ?_ | refine RunL.ev Tryd.tOk rfl rfl rfl ?_ | refine RunL.evV rfl rfl rfl (OpV.lenSl Tryd.tOk rfl rfl hv) ?_ | refine RunE.seq ?_ | refine RunE.region ?_ | refine RunL.nil ?_ | refine RunE.block ?_)
  refine RunE.loopD (ι := Nat × List (List UInt8 × Value) × List Nat) (fun s => [(0, kv), (1, lv), (4, .pointer (some ⟨B4, 0, none⟩)), (5, .map (some R5)), (6, .pointer (some ⟨B6, 0, none⟩)), (7, .pointer (some ⟨B7, 0, none⟩)), (23, lv), (24, .int .i64 (l.length : Int)), (25, .int .i64 (s.1 : Int))]) (fun s => s.2.2.map markOf)
    (fun s w' => s.1 ≤ l.length ∧ logD ks ((l.take s.1).map Dr.d) = true ∧ ChkSt w w' base B4 R5 B6 B7 s.2.1 ((l.take s.1).map Dr.d) s.2.2) (fun s => l.length - s.1) (0, [], []) (by repeat (first | exact Sub.nil _ | refine Sub.cons rfl ?_)) rfl ⟨Nat.zero_le _, rfl, H⟩ ?_
  clear H
  rintro ⟨i, m, Ds⟩ w3 ⟨hi, hlog, H⟩ again
  simp only at hi hlog H again ⊢
  by_cases hlt : i < l.length
  rotate_left
  · obtain rfl : i = l.length := by omega
    rw [List.take_length] at hlog
    clear again
    have hres := hr true hlog
    repeat' (first | (with_reducible refine RunLN.decF ?_ ?_; focus omega) | refine RunL.ev Tryd.tOk rfl rfl rfl ?_ | refine RunE.condF rfl rfl ?_ | refine RunE.seq ?_ | refine RunE.region ?_ | refine RunL.nil ?_ | refine RunE.exit rfl ?_)
    refine RunL.store Tryd.tOk rfl rfl rfl rfl rfl H.Z4 rfl rfl fun u5 t5 => ?_
    have Z4' : Blk u5 B4 [.int .i64 0] 32 := t5.at_
    have hD5 : ∀ D ∈ Ds, u5.heap[D]? = some (.deferred (some [])) := fun D hD => obj_ext (H.D D hD) t5.ext (by have := H.ge D hD; omega)
    have X5 : Ext w u5 := H.X.own t5.ext g4
    repeat' (first | refine RunL.nil ?_)
    exact ChkSt.out (e := 0) X5 hD5 H.nd H.ge hbase Tryd.func26 (fun w' e => .cell rfl (Loads.scalar Tryd.tOk rfl rfl ((Z4'.ext e (fun h => by have := H.ge B4 h; omega)).cell rfl)) .nil) hres.symm
  · obtain ⟨b1, o1, cc, rfl, hr1, -⟩ := isL_held hv hlt
    obtain ⟨x, hx⟩ : ∃ x, l[i]? = some x := ⟨_, List.getElem?_eq_getElem hlt⟩
    have hrx := flat_row encR hr1 hx
    obtain ⟨hwf, hls, hld, hhx⟩ := hd x (List.mem_of_getElem? hx)
    have hpx : (l.map Dr.d)[i]? = some x.d := by rw [List.getElem?_map, hx]; rfl
    have etake : (l.take (i + 1)).map Dr.d = (l.take i).map Dr.d ++ [x.d] := by rw [List.take_add_one, hx, List.map_append]; rfl
    have hbad : stepD ks ((l.take i).map Dr.d) x.d = false → chkE ks (l.map Dr.d) = 490 := fun h => by
      rw [hr false (logD_no hpx (by rw [← List.map_take]; exact h))]; rfl
    have hgood : stepD ks ((l.take i).map Dr.d) x.d = true → logD ks ((l.take (i + 1)).map Dr.d) = true := fun h => by rw [etake]; exact logD_snoc hlog h
    have hlast : ∀ j, i = j + 1 → ∃ y : Dr, l[j]? = some y ∧ ((l.take i).map Dr.d).getLast? = some y.d := fun j hj => by
      obtain ⟨y, hy⟩ : ∃ y, l[j]? = some y := ⟨_, List.getElem?_eq_getElem (by omega)⟩
      refine ⟨y, hy, ?_⟩
      rw [hj, List.take_add_one, hy, List.map_append]
      simp
    have hpos : ∀ y ∈ (l.take i).map Dr.d, 0 ≤ y.person := fun y hy => (formedD_inv (fineD_inv (logD_fine hlog y hy)).1).1.1
    have hplen : ((l.take i).map Dr.d).length ≤ 4096 := by simp; omega
    have hafter0 : i = 0 → afterD ((l.take i).map Dr.d) x.d = true := fun h => by subst h; rfl
    have next : ∀ m' Ds' w', _ → _ → _ := fun m' Ds' w' a b => again (i + 1, m', Ds') w' (by simp only; omega) ⟨by simp only; omega, a, b⟩
    simp only [etake] at next hgood
    clear again
    generalize (l.take i).map Dr.d = pre at *
    clear hlog hr hpx etake
    have hfs := fun w h h1 h2 h3 h4 => dfine_ok ks kv x.d x.u x.v w h hkl hki hwf h1 h2 hls hld h3 h4
    replace hrx := hrx.up H.X
    repeat' (first | (with_reducible refine RunLN.decT ?_ ?_; focus omega) | (with_reducible refine RunLN.chk ?_; refine RunLN.int (by (first | (refine wr_i64 ?_ ?_; omega; omega) | (refine wm_i64 ?_; omega) | (refine wq_i64 ?_ ?_ ?_; omega; omega; omega) | rfl)) ?_) | refine RunLN.any ?_ | refine RunL.ev Tryd.tOk rfl rfl rfl ?_ | refine RunL.evV rfl rfl rfl (OpV.loadN Tryd.tOk rfl rfl rfl rfl hrx) ?_ | refine RunL.evV rfl rfl rfl (OpV.indexS Tryd.tOk _ rfl rfl rfl rfl (by omega)) ?_ | refine RunE.condT rfl rfl ?_ | refine RunE.seq ?_ | refine RunE.region ?_ | refine RunL.nil ?_ | refine RunE.block ?_ | refine RunE.skip ?_)
    refine RunL.alloc Tryd.tOk rfl rfl rfl fun B9 wa_ aa_ => ?_
    have g9 := aa_.ge H.X
    have e9 := aa_.eq
    repeat' (first | (with_reducible refine RunLN.chk ?_; refine RunLN.int (by (first | (refine wr_i64 ?_ ?_; omega; omega) | (refine wm_i64 ?_; omega) | (refine wq_i64 ?_ ?_ ?_; omega; omega; omega) | rfl)) ?_) | refine RunL.ev Tryd.tOk rfl rfl rfl ?_)
    refine RunL.storeW (vs := dCells x.d x.u x.v) Tryd.tOk rfl rfl rfl rfl rfl aa_.at_ rfl rfl fun w9 tb_ => ?_
    have Xa_ : Ext w3 w9 := aa_.ext.write tb_.ext (by intro i_ hi_ hlt_; omega)
    have Z9 : Blk w9 B9 (dCells x.d x.u x.v) 29 := tb_.at_
    have l9 : base ≤ B9 := by have := H.sz; omega
    replace H := H.up Xa_
    clear Xa_ aa_ tb_ hrx
    have X := ExtB.refl (fun _ => False) w9
    cases hf : fineD ks x.d with
    | false =>
      simp only [hf] at hfs
      have hstep : stepD ks pre x.d = false := by unfold stepD; rw [hf]; simp
      repeat' (first | refine RunE.seq ?_ | refine RunL.nil ?_)
      refine RunE.draw (fun _ => False) mix ?_
      intro wd_ Xd_
      repeat' (first | with_reducible refine AsyN.boolT rfl ?_ | with_reducible refine AsyN.boolF rfl ?_ | refine AsyN.any ?_ | refine Asy.ev Tryd.tOk rfl rfl rfl ?_ | refine Asy.unwantedD rfl rfl rfl ?_ | refine Asy.evV rfl rfl rfl rfl (fun _ X_ => OpV.loadN Tryd.tOk rfl rfl rfl rfl (Blk.row (Z9.up (Xd_.trans X_)))) ?_ | refine Asy.callN rfl rfl rfl (fun _ X_ => (hfs _ (hk.up (H.X.trans (Xd_.trans X_))) (hhx.seen.up (H.X.trans (Xd_.trans X_))) (hhx.data.up (H.X.trans (Xd_.trans X_))) (hS.up (H.X.trans (Xd_.trans X_))) (hkT.up (H.X.trans (Xd_.trans X_))))) ?_)
      refine Asy.end_ (by kernel_rfl) ?_
      intro we_ Xe_
      replace H := H.up (Xd_.trans Xe_)
      clear Xd_ Xe_
      repeat' (first | refine RunE.condT rfl rfl ?_ | refine RunE.seq ?_ | refine RunE.region ?_ | refine RunL.nil ?_)
      refine RunL.store Tryd.tOk rfl rfl rfl rfl rfl H.Z4 rfl rfl fun u5 t5 => ?_
      have Z4' : Blk u5 B4 [.int .i64 490] 32 := t5.at_
      have hD5 : ∀ D ∈ Ds, u5.heap[D]? = some (.deferred (some [])) := fun D hD => obj_ext (H.D D hD) t5.ext (by have := H.ge D hD; omega)
      have X5 : Ext w u5 := H.X.own t5.ext g4
      repeat' (first | refine RunL.nil ?_)
      exact ChkSt.out (e := 490) X5 hD5 H.nd H.ge hbase Tryd.func26 (fun w' e => .cell rfl (Loads.scalar Tryd.tOk rfl rfl ((Z4'.ext e (fun h => by have := H.ge B4 h; omega)).cell rfl)) .nil) (hbad hstep).symm
    | true =>
    simp only [hf] at hfs
    obtain ⟨⟨p0, p1, -⟩, -⟩ := formedD_inv (fineD_inv hf).1
    have hn7 := flat_row encIn H.Z7.row (nextL_get (pre := pre) p0 p1)
    have hn6 := flat_row encG H.Z6.row (lastL_get (pre := pre) p0 p1)
    have hnp : x.d.person.toNat < 64 := by omega
    by_cases hno : x.d.no = nextD pre x.d.person
    rotate_left
    · have hstep : stepD ks pre x.d = false := by
        unfold stepD
        rw [beq_eq_false_iff_ne.2 hno]; simp
      generalize nextD pre x.d.person = nx at hn7 hno
      repeat' (first | refine RunE.seq ?_ | refine RunL.nil ?_)
      refine RunE.draw (fun _ => False) mix ?_
      intro wd_ Xd_
      repeat' (first | with_reducible refine AsyN.boolT rfl ?_ | with_reducible refine AsyN.boolF rfl ?_ | (with_reducible refine AsyN.neT ?_ ?_; focus omega) | (with_reducible refine AsyN.chk ?_; refine AsyN.int (by (first | (refine wr_i64 ?_ ?_; omega; omega) | (refine wm_i64 ?_; omega) | (refine wq_i64 ?_ ?_ ?_; omega; omega; omega) | rfl)) ?_) | refine AsyN.any ?_ | refine Asy.ev Tryd.tOk rfl rfl rfl ?_ | refine Asy.unwantedD rfl rfl rfl ?_ | refine Asy.evV rfl rfl rfl rfl (fun _ X_ => OpV.loadN Tryd.tOk rfl rfl rfl rfl (Blk.row (Z9.up (Xd_.trans X_)))) ?_ | refine Asy.evV rfl rfl rfl rfl (fun _ X_ => OpV.load1 Tryd.tOk rfl rfl rfl (Blk.cell (Z9.up (Xd_.trans X_)) rfl)) ?_ | refine Asy.evV rfl rfl rfl rfl (fun _ X_ => (OpV.indexA Tryd.tOk x.d.person.toNat rfl rfl rfl (by omega) hnp)) ?_ | refine Asy.evV rfl rfl rfl rfl (fun _ X_ => OpV.load1 Tryd.tOk rfl rfl rfl ((hn7.up (Xd_.trans X_)) 0 _ rfl)) ?_ | refine Asy.callN rfl rfl rfl (fun _ X_ => (hfs _ (hk.up (H.X.trans (Xd_.trans X_))) (hhx.seen.up (H.X.trans (Xd_.trans X_))) (hhx.data.up (H.X.trans (Xd_.trans X_))) (hS.up (H.X.trans (Xd_.trans X_))) (hkT.up (H.X.trans (Xd_.trans X_))))) ?_)
      refine Asy.end_ (by kernel_rfl) ?_
      intro we_ Xe_
      replace H := H.up (Xd_.trans Xe_)
      clear Xd_ Xe_
      repeat' (first | refine RunE.condT rfl rfl ?_ | refine RunE.seq ?_ | refine RunE.region ?_ | refine RunL.nil ?_)
      refine RunL.store Tryd.tOk rfl rfl rfl rfl rfl H.Z4 rfl rfl fun u5 t5 => ?_
      have Z4' : Blk u5 B4 [.int .i64 490] 32 := t5.at_
      have hD5 : ∀ D ∈ Ds, u5.heap[D]? = some (.deferred (some [])) := fun D hD => obj_ext (H.D D hD) t5.ext (by have := H.ge D hD; omega)
      have X5 : Ext w u5 := H.X.own t5.ext g4
      repeat' (first | refine RunL.nil ?_)
      exact ChkSt.out (e := 490) X5 hD5 H.nd H.ge hbase Tryd.func26 (fun w' e => .cell rfl (Loads.scalar Tryd.tOk rfl rfl ((Z4'.ext e (fun h => by have := H.ge B4 h; omega)).cell rfl)) .nil) (hbad hstep).symm
    by_cases hpv : x.d.prev = lastD pre x.d.person
    rotate_left
    · have hstep : stepD ks pre x.d = false := by
        unfold stepD
        rw [beq_eq_false_iff_ne.2 hpv]; simp
      have hq : (!(x.d.prev == lastD pre x.d.person)) = true := by rw [beq_eq_false_iff_ne.2 hpv]; rfl
      rw [← hno] at hn7
      generalize lastD pre x.d.person = ls at hn6 hpv hq
      clear hno
      repeat' (first | refine RunE.seq ?_ | refine RunL.nil ?_)
      refine RunE.draw (fun _ => False) mix ?_
      intro wd_ Xd_
      repeat' (first | with_reducible refine AsyN.boolT rfl ?_ | with_reducible refine AsyN.boolF rfl ?_ | refine AsyN.boolT (by assumption) ?_ | with_reducible refine AsyN.neF rfl ?_ | (with_reducible refine AsyN.chk ?_; refine AsyN.int (by (first | (refine wr_i64 ?_ ?_; omega; omega) | (refine wm_i64 ?_; omega) | (refine wq_i64 ?_ ?_ ?_; omega; omega; omega) | rfl)) ?_) | refine AsyN.any ?_ | refine Asy.ev Tryd.tOk rfl rfl rfl ?_ | refine Asy.evV rfl rfl rfl rfl (fun _ X_ => OpV.loadN Tryd.tOk rfl rfl rfl rfl (Blk.row (Z9.up (Xd_.trans X_)))) ?_ | refine Asy.evV rfl rfl rfl rfl (fun _ X_ => OpV.load1 Tryd.tOk rfl rfl rfl (Blk.cell (Z9.up (Xd_.trans X_)) rfl)) ?_ | refine Asy.evV rfl rfl rfl rfl (fun _ X_ => OpV.loadN Tryd.tOk rfl rfl rfl rfl ((row_prev (Blk.row Z9)).up (Xd_.trans X_))) ?_ | refine Asy.evV rfl rfl rfl rfl (fun _ X_ => (OpV.indexA Tryd.tOk x.d.person.toNat rfl rfl rfl (by omega) hnp)) ?_ | refine Asy.evV rfl rfl rfl rfl (fun _ X_ => (OpV.indexA Tryd.t2Ok x.d.person.toNat rfl rfl rfl (by omega) hnp)) ?_ | refine Asy.evV rfl rfl rfl rfl (fun _ X_ => OpV.load1 Tryd.tOk rfl rfl rfl ((hn7.up (Xd_.trans X_)) 0 _ rfl)) ?_ | refine Asy.evV rfl rfl rfl rfl (fun _ X_ => OpV.loadN Tryd.tOk rfl rfl rfl rfl (hn6.up (Xd_.trans X_))) ?_ | refine Asy.evV rfl rfl rfl rfl (fun _ X_ => (OpV.neDg (a := x.d.prev) (b := ls) bytesArr rfl rfl)) ?_ | refine Asy.callN rfl rfl rfl (fun _ X_ => (hfs _ (hk.up (H.X.trans (Xd_.trans X_))) (hhx.seen.up (H.X.trans (Xd_.trans X_))) (hhx.data.up (H.X.trans (Xd_.trans X_))) (hS.up (H.X.trans (Xd_.trans X_))) (hkT.up (H.X.trans (Xd_.trans X_))))) ?_)
      refine Asy.end_ (by kernel_rfl) ?_
      intro we_ Xe_
      replace H := H.up (Xd_.trans Xe_)
      clear Xd_ Xe_
      repeat' (first | refine RunE.condT rfl rfl ?_ | refine RunE.seq ?_ | refine RunE.region ?_ | refine RunL.nil ?_)
      refine RunL.store Tryd.tOk rfl rfl rfl rfl rfl H.Z4 rfl rfl fun u5 t5 => ?_
      have Z4' : Blk u5 B4 [.int .i64 490] 32 := t5.at_
      have hD5 : ∀ D ∈ Ds, u5.heap[D]? = some (.deferred (some [])) := fun D hD => obj_ext (H.D D hD) t5.ext (by have := H.ge D hD; omega)
      have X5 : Ext w u5 := H.X.own t5.ext g4
      repeat' (first | refine RunL.nil ?_)
      exact ChkSt.out (e := 490) X5 hD5 H.nd H.ge hbase Tryd.func26 (fun w' e => .cell rfl (Loads.scalar Tryd.tOk rfl rfl ((Z4'.ext e (fun h => by have := H.ge B4 h; omega)).cell rfl)) .nil) (hbad hstep).symm
    have hq : (!(x.d.prev == lastD pre x.d.person)) = false := by rw [beq_iff_eq.2 hpv]; rfl
    have hn7' := hn7
    rw [← hno] at hn7'
    have hn6' := hn6
    generalize lastD pre x.d.person = ls at hn6' hq
    repeat' (first | refine RunE.seq ?_ | refine RunL.nil ?_)
    refine RunE.draw (fun _ => False) mix ?_
    intro wd_ Xd_
    repeat' (first | with_reducible refine AsyN.boolT rfl ?_ | with_reducible refine AsyN.boolF rfl ?_ | refine AsyN.boolF (by assumption) ?_ | with_reducible refine AsyN.neF rfl ?_ | (with_reducible refine AsyN.chk ?_; refine AsyN.int (by (first | (refine wr_i64 ?_ ?_; omega; omega) | (refine wm_i64 ?_; omega) | (refine wq_i64 ?_ ?_ ?_; omega; omega; omega) | rfl)) ?_) | refine AsyN.any ?_ | refine Asy.ev Tryd.tOk rfl rfl rfl ?_ | refine Asy.evV rfl rfl rfl rfl (fun _ X_ => OpV.loadN Tryd.tOk rfl rfl rfl rfl (Blk.row (Z9.up (Xd_.trans X_)))) ?_ | refine Asy.evV rfl rfl rfl rfl (fun _ X_ => OpV.load1 Tryd.tOk rfl rfl rfl (Blk.cell (Z9.up (Xd_.trans X_)) rfl)) ?_ | refine Asy.evV rfl rfl rfl rfl (fun _ X_ => OpV.loadN Tryd.tOk rfl rfl rfl rfl ((row_prev (Blk.row Z9)).up (Xd_.trans X_))) ?_ | refine Asy.evV rfl rfl rfl rfl (fun _ X_ => (OpV.indexA Tryd.tOk x.d.person.toNat rfl rfl rfl (by omega) hnp)) ?_ | refine Asy.evV rfl rfl rfl rfl (fun _ X_ => (OpV.indexA Tryd.t2Ok x.d.person.toNat rfl rfl rfl (by omega) hnp)) ?_ | refine Asy.evV rfl rfl rfl rfl (fun _ X_ => OpV.load1 Tryd.tOk rfl rfl rfl ((hn7'.up (Xd_.trans X_)) 0 _ rfl)) ?_ | refine Asy.evV rfl rfl rfl rfl (fun _ X_ => OpV.loadN Tryd.tOk rfl rfl rfl rfl (hn6'.up (Xd_.trans X_))) ?_ | refine Asy.evV rfl rfl rfl rfl (fun _ X_ => (OpV.neDg (a := x.d.prev) (b := ls) bytesArr rfl rfl)) ?_ | refine Asy.callN rfl rfl rfl (fun _ X_ => (hfs _ (hk.up (H.X.trans (Xd_.trans X_))) (hhx.seen.up (H.X.trans (Xd_.trans X_))) (hhx.data.up (H.X.trans (Xd_.trans X_))) (hS.up (H.X.trans (Xd_.trans X_))) (hkT.up (H.X.trans (Xd_.trans X_))))) ?_)
    refine Asy.end_ (by kernel_rfl) ?_
    intro we_ Xe_
    replace H := H.up (Xd_.trans Xe_)
    replace Z9 := Z9.up (Xd_.trans Xe_)
    clear Xd_ Xe_ hn7' hn6' hn7 hn6 hq hfs X
    have X := ExtB.refl (fun _ => False) we_
    repeat' (first | refine RunL.nil ?_)
    refine RunE.condF rfl rfl ?_
    repeat' (first | (with_reducible refine RunLN.chk ?_; refine RunLN.int (by (first | (refine wr_i64 ?_ ?_; omega; omega) | (refine wm_i64 ?_; omega) | (refine wq_i64 ?_ ?_ ?_; omega; omega; omega) | rfl)) ?_) | refine RunLN.any ?_ | refine RunL.ev Tryd.tOk rfl rfl rfl ?_ | refine RunE.seq ?_ | refine RunE.region ?_ | refine RunL.nil ?_ | refine RunE.skip ?_)
    refine RunE.cut (ι := Unit) (fun _ => [(0, kv), (1, .slice (some ⟨b1, o1, none⟩) l.length cc), (4, .pointer (some ⟨B4, 0, none⟩)), (5, .map (some R5)), (6, .pointer (some ⟨B6, 0, none⟩)), (7, .pointer (some ⟨B7, 0, none⟩)), (9, .pointer (some ⟨B9, 0, none⟩)), (23, .slice (some ⟨b1, o1, none⟩) l.length cc), (24, .int .i64 (l.length : Int)), (25, .int .i64 (i : Int))])
      (fun _ w' => afterD pre x.d = true ∧ ChkSt w w' base B4 R5 B6 B7 m pre Ds ∧ Blk w' B9 (dCells x.d x.u x.v) 29) ?_ ?_
    · rintro _ w10 ⟨haf, H, Z9⟩
      clear X hlast hafter0
      have X := ExtB.refl (fun _ => False) w10
      repeat' (first | refine RunLN.any ?_ | refine RunL.ev Tryd.tOk rfl rfl rfl ?_ | refine RunL.evV rfl rfl rfl (OpV.loadN Tryd.tOk rfl rfl rfl rfl (Blk.row Z9)) ?_ | refine RunE.seq ?_ | refine RunE.region ?_)
      refine RunL.call rfl rfl rfl (dseen_ok x.d x.u x.v R5 _) ?_
      rintro _ w11 ⟨⟨bq, cq, rfl, Zb, Zc⟩, Xa_⟩
      replace H := H.up Xa_
      replace Z9 := Z9.up Xa_
      clear Xa_ X
      have hG := seen_gives x.d x.u x.v pre m R5 base bq cq w11 (hhx.seen.up H.X) hls hplen Zb Zc H.M H.B
      have hsz11 := H.sz
      have hDlt : ∀ D ∈ Ds, D < w11.heap.size := fun D hD => lt_of_get (H.D D hD)
      repeat' (first | refine RunL.nil ?_ | refine RunE.block ?_)
      refine RunE.rangeGivesS (w0 := w11) (F := fun k => k < w11.heap.size) rfl ⟨_, Tryd.func26⟩ rfl hG (fun _ => False) (fun k hk => ⟨id, hk⟩) (ExtB.refl _ _) (fun xs hxs => ?_) rfl
        (fun j w' => Ext w11 w' ∧ ∀ g ∈ x.d.seen.take j, metD pre x.d.person g = true)
        (fun w' => (ExtB (· = B4) w11 w' ∧ Blk w' B4 [.int .i64 490] 32) ∧ stepD ks pre x.d = false) ?_ ?_ ?_ ?_ ?_ ?_ ?_
      · obtain ⟨a, -, rfl⟩ := List.mem_map.1 hxs; rfl
      · intro w2 e _; exact ⟨e, by simp⟩
      · rintro j u ⟨h, -⟩; exact h
      · rintro j u u' ⟨h, h'⟩ e; exact ⟨h.write e (by intro k hk hlt; omega), h'⟩
      · rintro u u' ⟨⟨h, hz⟩, h'⟩ e
        exact ⟨⟨h.write e (by intro k hk hlt; omega), hz.ext e (by omega)⟩, h'⟩
      · rintro j xs u lp hxs ⟨hE, hmet⟩ hL hs'
        obtain ⟨g, hg, rfl⟩ : ∃ g, x.d.seen[j]? = some g ∧ xs = [.agg (digC g).toArray, .int .i64 (otherI x.d.person (whoD pre g))] := by
          simp only [seenX, List.getElem?_map, Option.map_eq_some_iff] at hxs
          obtain ⟨a, h, rfl⟩ := hxs; exact ⟨a, h, rfl⟩
        have hom := other_met (x := g) (p := x.d.person) hpos
        simp only [parEnv]
        repeat' (first | (with_reducible refine RunLN.chk ?_; refine RunLN.int (by (first | (refine wr_i64 ?_ ?_; omega; omega) | (refine wm_i64 ?_; omega) | (refine wq_i64 ?_ ?_ ?_; omega; omega; omega) | rfl)) ?_) | refine RunL.ev Tryd.tOk rfl rfl rfl ?_ | refine RunE.region ?_ | refine RunL.nil ?_)
        refine RunE.beginR hL hs' (by omega) fun u3 t3 hL3 => ?_
        have hE3 : Ext w11 u3 := hE.write t3 (by intro k hk hlt; omega)
        by_cases ho : otherI x.d.person (whoD pre g) < 0
        · have hst : stepD ks pre x.d = false := by
            unfold stepD
            have : x.d.seen.all (metD pre x.d.person) = false := by
              rw [List.all_eq_false]
              exact ⟨g, List.mem_of_getElem? hg, by rw [hom.1 ho]; simp⟩
            rw [this]; simp
          repeat' (first | (with_reducible refine RunLN.decT ?_ ?_; focus omega) | (with_reducible refine RunLN.chk ?_; refine RunLN.int (by (first | (refine wr_i64 ?_ ?_; omega; omega) | (refine wm_i64 ?_; omega) | (refine wq_i64 ?_ ?_ ?_; omega; omega; omega) | rfl)) ?_) | refine RunL.ev Tryd.tOk rfl rfl rfl ?_ | refine RunE.condT rfl rfl ?_ | refine RunE.seq ?_ | refine RunE.region ?_ | refine RunL.nil ?_ | refine RunE.block ?_)
          refine RunL.store Tryd.tOk rfl rfl rfl rfl rfl (H.Z4.up hE3) rfl rfl fun u5 t5 => ?_
          repeat' (first | refine RunL.nil ?_)
          exact RunE.stopS ⟨⟨(hE3.mono fun k _ h => h.elim).trans t5.ext, t5.at_⟩, hst⟩ (hL3.ext t5.ext (by omega) (by omega))
        · have hmt : metD pre x.d.person g = true := by
            cases e : metD pre x.d.person g with
            | true => rfl
            | false => exact absurd (hom.2 e) ho
          repeat' (first | (with_reducible refine RunLN.decF ?_ ?_; focus omega) | (with_reducible refine RunLN.chk ?_; refine RunLN.int (by (first | (refine wr_i64 ?_ ?_; omega; omega) | (refine wm_i64 ?_; omega) | (refine wq_i64 ?_ ?_ ?_; omega; omega; omega) | rfl)) ?_) | refine RunL.ev Tryd.tOk rfl rfl rfl ?_ | refine RunE.condF rfl rfl ?_ | refine RunE.seq ?_ | refine RunE.region ?_ | refine RunL.nil ?_ | refine RunE.block ?_ | refine RunE.inBlock ?_ | refine RunE.skip ?_)
          refine RunE.endS ⟨hE3, fun q hq => ?_⟩ hL3
          rw [List.take_add_one, hg] at hq
          rcases List.mem_append.1 hq with hq | hq
          · exact hmet q hq
          · have : q = g := by simpa using hq
            rw [this]; exact hmt
      · rintro w12 ⟨hE, hmet⟩ hDq
        have hlenX : (seenX pre x.d).length = x.d.seen.length := by simp [seenX]
        rw [hlenX, List.take_length] at hmet
        have hstep : stepD ks pre x.d = true := stepD_of hf hno hpv haf hmet
        show RunE _ _ _ (List.map markOf (w11.heap.size :: Ds)) _ _ _ _
        have hs12 := hE.size
        replace H : ChkSt w w12 base B4 R5 B6 B7 m pre (w11.heap.size :: Ds) := by
          have H' := H.up hE
          refine ⟨H'.X, H'.Z4, H'.Z6, H'.Z7, H'.M, H'.B, fun D hD => ?_, List.nodup_cons.2 ⟨fun h => by have := hDlt _ h; omega, H.nd⟩, fun D hD => ?_, by omega⟩
          · rcases List.mem_cons.1 hD with rfl | hD
            · exact hDq
            · exact H'.D D hD
          · rcases List.mem_cons.1 hD with rfl | hD
            · exact hsz11
            · exact H.ge D hD
        have hs12' := H.sz
        replace next := fun m' => next m' (w11.heap.size :: Ds)
        generalize hDs : w11.heap.size :: Ds = Ds' at H next ⊢
        replace Z9 := Z9.up hE
        clear hDq hE hG Zb Zc hDlt hsz11 hDs hs12 hmet hlenX haf hbad
        have hform := (fineD_inv hf).1
        have ct := fun w h1 h2 => dtext_ok x.d x.u x.v w h1 h2 hform
        have X := ExtB.refl (fun _ => False) w12
        repeat' (first | refine RunLN.any ?_ | refine RunL.evV rfl rfl rfl (OpV.loadN Tryd.tOk rfl rfl rfl rfl (Blk.row Z9)) ?_ | refine RunE.seq ?_ | refine RunE.region ?_ | refine RunE.inBlock ?_)
        refine RunL.call rfl rfl rfl (ct _ (hhx.seen.up H.X) (hhx.data.up H.X)) ?_
        rintro rt w13 ⟨O13, Xa_⟩
        have hrt : LBy w13 rt (textD x.d) := isSl_own O13
        replace H := H.up Xa_
        replace Z9 := Z9.up Xa_
        replace X := X.trans Xa_
        clear O13 Xa_ ct
        skip
        refine RunL.call rfl rfl rfl (dtag_ok x.d rt w13 hrt hform (hS.up H.X) (hkT.up H.X)) ?_
        rintro _ w14 ⟨rfl, Xa_⟩
        replace H := H.up Xa_
        replace Z9 := Z9.up Xa_
        replace X := X.trans Xa_
        clear Xa_ hrt
        skip
        refine RunL.alloc Tryd.tOk rfl rfl rfl fun B13 wa_ aa_ => ?_
        have gB13 := aa_.ge X
        refine RunL.storeW (vs := digC (idD x.d)) Tryd.tOk rfl rfl rfl rfl rfl aa_.at_ rfl rfl fun w13_ tb_ => ?_
        have Xa_ : Ext _ w13_ := aa_.ext.write tb_.ext (by intro i_ hi_ hlt_; have := aa_.eq; omega)
        have Z13 : Blk w13_ B13 (digC (idD x.d)) 23 := tb_.at_
        have n9_13 : B9 ≠ B13 := by have := Z9.lt; have := aa_.eq; omega
        have n13_9 : B13 ≠ B9 := Ne.symm n9_13
        replace H := H.up Xa_
        replace Z9 := Z9.up Xa_
        replace X := X.trans Xa_
        clear Xa_ aa_ tb_
        repeat' (first | (with_reducible refine RunLN.chk ?_; refine RunLN.int (by (first | (refine wr_i64 ?_ ?_; omega; omega) | (refine wm_i64 ?_; omega) | (refine wq_i64 ?_ ?_ ?_; omega; omega; omega) | rfl)) ?_) | refine RunLN.any ?_ | refine RunL.ev Tryd.tOk rfl rfl rfl ?_ | refine RunL.evV rfl rfl rfl (OpV.load1 Tryd.tOk rfl rfl rfl (Blk.cell Z9 rfl)) ?_ | refine RunL.evV rfl rfl rfl (OpV.loadN Tryd.tOk rfl rfl rfl rfl (Blk.row Z13)) ?_ | refine RunE.seq ?_ | refine RunE.region ?_ | refine RunL.nil ?_)
        refine RunL.ex rfl rfl rfl (OpE.buildSl Tryd.tOk [.int .i64 x.d.person] rfl rfl rfl rfl rfl rfl (by simp [Value.cells])) ?_
        rintro _ w15 ⟨B15, rfl, a15⟩
        have hx1 : LIn w15 (.slice (some ⟨B15, 0, none⟩) 1 1) [x.d.person] := isSl_added (n := 1) (sz := 1) a15 rfl
        have l15 : base ≤ B15 := by have := a15.eq; have := H.sz; omega
        replace H := H.up a15.ext
        replace Z9 := Z9.up a15.ext
        replace Z13 := Z13.up a15.ext
        clear a15
        skip
        refine RunL.ex rfl rfl rfl (OpE.mapEntryDg (z := nilV) Tryd.underlying77 keyDg (by kernel_rfl) rfl rfl H.M) ?_
        rintro _ w16 ⟨st, rfl, hEn, e16, s16⟩
        have l9' := Z9.lt
        have l13 : base ≤ B13 := by have := H.X.size; have := gB13; omega
        have k9 : B9 ≠ R5 := by omega
        have k13 : B13 ≠ R5 := by omega
        have hO := ownsRow_ext (H.B.own (idD x.d)) e16 (fun k hk e => by have := ownsRow_ge (H.B.own (idD x.d)) hk; omega)
        have hx2 : LIn w16 (.slice (some ⟨B15, 0, none⟩) 1 1) [x.d.person] := hx1.ext e16 (fun k hk e => by simp [Value.ownBlock] at hk; omega)
        have hB1 : ByOk w16 base m pre := H.B.ext e16 (fun k cs hb _ e => by omega)
        have X16 : Ext w w16 := H.X.write e16 (by intro k hk hlt; omega)
        have Y4 := H.Z4.ext e16 (Ne.symm n4)
        have Y6 := H.Z6.ext e16 (Ne.symm n6)
        have Y7 := H.Z7.ext e16 (Ne.symm n7)
        have YD : ∀ D ∈ Ds', w16.heap[D]? = some (.deferred (some [])) := fun D hD => obj_ext (H.D D hD) e16 (by have := H.ge D hD; omega)
        have Y9 := Z9.ext e16 k9
        have Y13 := Z13.ext e16 k13
        have hs16 : base ≤ w16.heap.size := by have := H.sz; omega
        have hnd := H.nd
        have hge := H.ge
        have hpl : (whoD pre (idD x.d)).length ≤ 4096 := by
          unfold whoD
          rw [List.length_map]
          exact Nat.le_trans (List.length_filter_le _ _) hplen
        have hon : ∀ k, ((getM (idD x.d).1 m).getD nilV).ownBlock = some k → base ≤ k ∧ ∃ cs, w16.heap[k]? = some (.cells cs 3 (0, 0)) := fun k hk => by
          refine ⟨ownsRow_ge hO hk, ?_⟩
          rcases hO.2 with ⟨h0, -⟩ | ⟨g, c, cur, h0, hb, hg, -⟩
          · rw [h0] at hk; simp [Value.ownBlock] at hk
          · rw [h0] at hk
            have : k = g := by simpa [Value.ownBlock] using hk.symm
            subst this
            exact ⟨cur, hg⟩
        clear H hx1 e16 s16 Z9 Z13 X
        repeat' (first | refine RunLN.any ?_ | refine RunL.ev Tryd.tOk rfl rfl rfl ?_)
        refine RunL.ex rfl rfl rfl (OpE.append' Tryd.tOk rfl rfl rfl rfl rfl rfl hO hx2 (flat_plain encIn [x.d.person]) (by show _ * 8 ≤ _; simp only [List.length_singleton]; omega) (by simp only [List.length_singleton]; omega) hs16) ?_
        rintro u' w17 ⟨O17, E17, hown⟩
        have hB2 := hB1.snoc (d := x.d) E17 (by rw [← flat_one (enc := intC')]; exact O17) hown
        have hEn2 := hEn.ext E17 (fun h => by have := (hon _ h).1; omega)
        have X17 : Ext w w17 := X16.write E17 (by intro k hk hlt; have := (hon _ hk).1; omega)
        replace Y4 := Y4.ext E17 (fun h => by have := (hon _ h).1; omega)
        replace Y6 := Y6.ext E17 (fun h => by have := (hon _ h).1; omega)
        replace Y7 := Y7.ext E17 (fun h => by have := (hon _ h).1; omega)
        have hcell : ∀ {b : Nat} {cs : List Value} {t : TypeId}, Blk w16 b cs t → t ≠ 3 → ¬ ((getM (idD x.d).1 m).getD nilV).ownBlock = some b := fun hb ht h => by
          obtain ⟨-, cs', hc⟩ := hon _ h
          rw [hb] at hc
          injection hc with hc
          injection hc with _ h2
          exact ht h2
        replace Y9' := Y9.ext E17 (hcell Y9 (by decide))
        replace Y13' := Y13.ext E17 (hcell Y13 (by decide))
        have YD' : ∀ D ∈ Ds', w17.heap[D]? = some (.deferred (some [])) := fun D hD => obj_ext (YD D hD) E17 (fun h => by
          obtain ⟨-, cs', hc⟩ := hon _ h
          rw [YD D hD] at hc; cases hc)
        have hs17 := E17.size
        clear hO hx2 hB1 hEn O17 hown hon hcell Y9 Y13 YD X16
        repeat' (first | (with_reducible refine RunLN.chk ?_; refine RunLN.int (by (first | (refine wr_i64 ?_ ?_; omega; omega) | (refine wm_i64 ?_; omega) | (refine wq_i64 ?_ ?_ ?_; omega; omega; omega) | rfl)) ?_) | refine RunL.ev Tryd.tOk rfl rfl rfl ?_)
        refine RunL.exN rfl rfl (OpE.entryStore rfl rfl rfl hEn2) ?_
        rintro _ w18 ⟨hM18, e18, s18⟩
        have hB3 : ByOk w18 base _ _ := hB2.ext e18 (fun k cs hb _ e => by omega)
        have X18 : Ext w w18 := X17.write e18 (by intro k hk hlt; omega)
        replace Y4 := Y4.ext e18 (Ne.symm n4)
        replace Y6 := Y6.ext e18 (Ne.symm n6)
        replace Y7 := Y7.ext e18 (Ne.symm n7)
        replace Y9' := Y9'.ext e18 k9
        replace Y13' := Y13'.ext e18 k13
        replace YD' : ∀ D ∈ Ds', w18.heap[D]? = some (.deferred (some [])) := fun D hD => obj_ext (YD' D hD) e18 (by have := hge D hD; omega)
        have hs18 : base ≤ w18.heap.size := by omega
        generalize setM (idD x.d).1 u' m = m' at hM18 hB3
        clear hB2 hEn2 e18 X17 s18 hs17
        have k96 : B9 ≠ B6 := by omega
        have k136 : B13 ≠ B6 := by omega
        have k97 : B9 ≠ B7 := by omega
        repeat' (first | (with_reducible refine RunLN.chk ?_; refine RunLN.int (by (first | (refine wr_i64 ?_ ?_; omega; omega) | (refine wm_i64 ?_; omega) | (refine wq_i64 ?_ ?_ ?_; omega; omega; omega) | rfl)) ?_) | refine RunLN.any ?_ | refine RunL.ev Tryd.tOk rfl rfl rfl ?_ | refine RunL.evV rfl rfl rfl (OpV.load1 Tryd.tOk rfl rfl rfl (Blk.cell Y9' rfl)) ?_ | refine RunL.evV rfl rfl rfl (OpV.loadN Tryd.tOk rfl rfl rfl rfl (Blk.row Y13')) ?_ | refine RunL.evV rfl rfl rfl ((OpV.indexA Tryd.t2Ok x.d.person.toNat rfl rfl rfl (by omega) hnp)) ?_ | refine RunE.seq ?_ | refine RunE.region ?_ | refine RunL.nil ?_)
        refine RunL.storeFlat Tryd.tOk encG x.d.person.toNat (idD x.d) rfl rfl rfl rfl rfl rfl Y6 (by rw [lastL_len]; exact hnp) fun w19 t19 => ?_
        rw [lastL_snoc p0 p1] at t19
        have hB4 : ByOk w19 base m' (pre ++ [x.d]) := hB3.ext t19.ext (fun k cs hb _ e => by omega)
        have hM19 : MDg w19 R5 m' := hM18.ext t19.ext n6
        have X19 : Ext w w19 := X18.own t19.ext gB6
        replace Y4 := Y4.other t19.ext n46
        have Y6' : Blk w19 B6 (flat digC (lastL (pre ++ [x.d]))) 78 := t19.at_
        replace Y7 := Y7.other t19.ext (Ne.symm n67)
        replace Y9' := Y9'.other t19.ext k96
        replace YD' : ∀ D ∈ Ds', w19.heap[D]? = some (.deferred (some [])) := fun D hD => obj_ext (YD' D hD) t19.ext (by have := hge D hD; omega)
        have hs19 : base ≤ w19.heap.size := by have := t19.ext.size; omega
        clear hB3 hM18 X18 t19 Y6 Y13' hs18
        have hn7 := flat_row encIn Y7.row (nextL_get (pre := pre) p0 p1)
        have hnx0 := nextD_nonneg pre x.d.person
        have hnx1 := nextD_le pre x.d.person
        have hsnoc := nextL_snoc (pre := pre) p0 p1
        generalize nextD pre x.d.person = nx at hn7 hnx0 hnx1 hsnoc
        repeat' (first | (with_reducible refine RunLN.chk ?_; refine RunLN.int (by (first | (refine wr_i64 ?_ ?_; omega; omega) | (refine wm_i64 ?_; omega) | (refine wq_i64 ?_ ?_ ?_; omega; omega; omega) | rfl)) ?_) | refine RunLN.any ?_ | refine RunL.ev Tryd.tOk rfl rfl rfl ?_ | refine RunL.evV rfl rfl rfl (OpV.load1 Tryd.tOk rfl rfl rfl (Blk.cell Y9' rfl)) ?_ | refine RunL.evV rfl rfl rfl ((OpV.indexA Tryd.tOk x.d.person.toNat rfl rfl rfl (by omega) hnp)) ?_ | refine RunL.evV rfl rfl rfl (OpV.load1 Tryd.tOk rfl rfl rfl (hn7 0 _ rfl)) ?_ | refine RunE.region ?_ | refine RunL.nil ?_)
        refine RunL.storeFlat Tryd.tOk encIn x.d.person.toNat (nx + 1) rfl rfl rfl rfl rfl rfl Y7 (by rw [nextL_len]; exact hnp) fun w20 t20 => ?_
        rw [hsnoc] at t20
        have H : ChkSt w w20 base B4 R5 B6 B7 m' (pre ++ [x.d]) Ds' := by
          refine ⟨X19.own t20.ext gB7, Y4.other t20.ext n47, Y6'.other t20.ext n67, t20.at_, hM19.ext t20.ext n7, hB4.ext t20.ext (fun k cs hb _ e => by omega), fun D hD => ?_, hnd, hge, ?_⟩
          · exact obj_ext (YD' D hD) t20.ext (by have := hge D hD; omega)
          · have := t20.ext.size; omega
        clear hB4 hM19 X19 t20 Y6' Y4 Y9' YD' hn7 hsnoc
        replace next := next m' _ (hgood hstep) H
        clear H hgood hstep
        repeat' (first | (with_reducible refine RunLN.chk ?_; refine RunLN.int (by (first | (refine wr_i64 ?_ ?_; omega; omega) | (refine wm_i64 ?_; omega) | (refine wq_i64 ?_ ?_ ?_; omega; omega; omega) | rfl)) ?_) | refine RunL.ev Tryd.tOk rfl rfl rfl ?_ | refine RunE.region ?_ | refine RunL.nil ?_ | refine RunE.inBlock ?_)
        refine RunE.weaken ?_ next
        repeat (first | exact Sub.nil _ | refine Sub.cons rfl ?_)
      · rintro w12 ⟨⟨hE, hz⟩, hst⟩ hDq
        show RunE _ _ _ (List.map markOf (w11.heap.size :: Ds)) _ _ _ _
        refine ChkSt.out (e := 490) (H.X.write hE (by intro k hk hlt; omega)) (fun D hD => ?_) (List.nodup_cons.2 ⟨fun h => by have := hDlt _ h; omega, H.nd⟩) (fun D hD => ?_) hbase Tryd.func26 (fun w' e => .cell rfl (Loads.scalar Tryd.tOk rfl rfl ((hz.ext e (fun h => ?_)).cell rfl)) .nil) (hbad hst).symm
        · rcases List.mem_cons.1 hD with rfl | hD
          · exact hDq
          · exact obj_ext (H.D D hD) hE (by have := H.ge D hD; omega)
        · rcases List.mem_cons.1 hD with rfl | hD
          · exact hsz11
          · exact H.ge D hD
        · rcases List.mem_cons.1 h with h | h
          · omega
          · have := H.ge B4 h; omega
    · intro join
      refine RunE.cond rfl (fun h_ => ?_) (fun h_ => ?_)
      rotate_left
      · have hi0 : i = 0 := by have := of_decide_eq_false h_; omega
        clear next
        (repeat (first | refine RunE.skip ?_))
        exact RunE.weaken (by repeat (first | exact Sub.nil _ | refine Sub.cons rfl ?_)) (join () _ ⟨hafter0 hi0, H, Z9⟩)
      · obtain ⟨j, rfl⟩ : ∃ j, i = j + 1 := ⟨i - 1, by have := of_decide_eq_true h_; omega⟩
        obtain ⟨y, hy, hyl⟩ := hlast j rfl
        have hry := flat_row encR (hr1.up H.X) hy
        have haf : afterD pre x.d = befD y.d x.d := by unfold afterD; rw [hyl]
        clear next hgood hafter0 hlast
        repeat' (first | (with_reducible refine RunLN.chk ?_; refine RunLN.int (by (first | (refine wr_i64 ?_ ?_; omega; omega) | (refine wm_i64 ?_; omega) | (refine wq_i64 ?_ ?_ ?_; omega; omega; omega) | rfl)) ?_) | refine RunLN.any ?_ | refine RunL.ev Tryd.tOk rfl rfl rfl ?_ | refine RunL.evV rfl rfl rfl (OpV.indexS Tryd.tOk j rfl rfl rfl (by first | rfl | omega) (by omega)) ?_ | refine RunL.evV rfl rfl rfl (OpV.loadN Tryd.tOk rfl rfl rfl rfl hry) ?_ | refine RunE.seq ?_ | refine RunE.region ?_)
        refine RunL.alloc Tryd.tOk rfl rfl rfl fun B10 wa_ aa_ => ?_
        have gB10 := aa_.ge X
        refine RunL.storeW (vs := dCells y.d y.u y.v) Tryd.tOk rfl rfl rfl rfl rfl aa_.at_ rfl rfl fun w10_ tb_ => ?_
        have Xa_ : Ext _ w10_ := aa_.ext.write tb_.ext (by intro i_ hi_ hlt_; have := aa_.eq; omega)
        have Z10 : Blk w10_ B10 (dCells y.d y.u y.v) 29 := tb_.at_
        have n9_10 : B9 ≠ B10 := by have := Z9.lt; have := aa_.eq; omega
        have n10_9 : B10 ≠ B9 := Ne.symm n9_10
        replace H := H.up Xa_
        replace Z9 := Z9.up Xa_
        replace X := X.trans Xa_
        clear Xa_ aa_ tb_
        cases hb : befD y.d x.d with
        | true =>
          rw [hb] at haf
          have hb' := hb
          have : y.d.at_ < x.d.at_ ∨ (y.d.at_ = x.d.at_ ∧ y.d.person < x.d.person) ∨ (y.d.at_ = x.d.at_ ∧ y.d.person = x.d.person ∧ y.d.no < x.d.no) := by
            have := Go.Mer.befD_iff'.1 hb'; omega
          clear hb hb'
          rcases this with h | h | h
          all_goals
            repeat' (first | with_reducible refine RunLN.boolT rfl ?_ | with_reducible refine RunLN.boolF rfl ?_ | (with_reducible refine RunLN.decF ?_ ?_; focus omega) | (with_reducible refine RunLN.eqT ?_ ?_; focus omega) | (with_reducible refine RunLN.eqF ?_ ?_; focus omega) | (with_reducible refine RunLN.chk ?_; refine RunLN.int (by (first | (refine wr_i64 ?_ ?_; omega; omega) | (refine wm_i64 ?_; omega) | (refine wq_i64 ?_ ?_ ?_; omega; omega; omega) | rfl)) ?_) | refine RunLN.any ?_ | refine RunL.ev Tryd.tOk rfl rfl rfl ?_ | refine RunL.unwantedD rfl rfl ?_ | refine RunL.evV rfl rfl rfl (OpV.load1 Tryd.tOk rfl rfl rfl (Blk.cell Z9 rfl)) ?_ | refine RunL.evV rfl rfl rfl (OpV.load1 Tryd.tOk rfl rfl rfl (Blk.cell Z10 rfl)) ?_ | refine RunE.seq ?_ | refine RunE.region ?_ | refine RunL.nil ?_)
            refine RunE.condF rfl rfl ?_
            (repeat (first | refine RunE.skip ?_))
            exact RunE.weaken (by repeat (first | exact Sub.nil _ | refine Sub.cons rfl ?_)) (join () _ ⟨haf, H, Z9⟩)
        | false =>
          rw [hb] at haf
          have hstep : stepD ks pre x.d = false := by unfold stepD; rw [haf]; simp
          have : x.d.at_ < y.d.at_ ∨ (y.d.at_ = x.d.at_ ∧ x.d.person < y.d.person) ∨ (y.d.at_ = x.d.at_ ∧ y.d.person = x.d.person ∧ x.d.no ≤ y.d.no) := by
            have hn : ¬ befD y.d x.d = true := by rw [hb]; simp
            rw [Go.Mer.befD_iff'] at hn
            omega
          clear hb
          rcases this with h | h | h
          all_goals
            repeat' (first | with_reducible refine RunLN.boolT rfl ?_ | with_reducible refine RunLN.boolF rfl ?_ | (with_reducible refine RunLN.decT ?_ ?_; focus omega) | (with_reducible refine RunLN.decF ?_ ?_; focus omega) | (with_reducible refine RunLN.eqT ?_ ?_; focus omega) | (with_reducible refine RunLN.chk ?_; refine RunLN.int (by (first | (refine wr_i64 ?_ ?_; omega; omega) | (refine wm_i64 ?_; omega) | (refine wq_i64 ?_ ?_ ?_; omega; omega; omega) | rfl)) ?_) | refine RunLN.any ?_ | refine RunL.ev Tryd.tOk rfl rfl rfl ?_ | refine RunL.unwantedD rfl rfl ?_ | refine RunL.evV rfl rfl rfl (OpV.load1 Tryd.tOk rfl rfl rfl (Blk.cell Z9 rfl)) ?_ | refine RunL.evV rfl rfl rfl (OpV.load1 Tryd.tOk rfl rfl rfl (Blk.cell Z10 rfl)) ?_ | refine RunE.condT rfl rfl ?_ | refine RunE.seq ?_ | refine RunE.region ?_ | refine RunL.nil ?_)
            refine RunL.store Tryd.tOk rfl rfl rfl rfl rfl H.Z4 rfl rfl fun u5 t5 => ?_
            have Z4' : Blk u5 B4 [.int .i64 490] 32 := t5.at_
            have hD5 : ∀ D ∈ Ds, u5.heap[D]? = some (.deferred (some [])) := fun D hD => obj_ext (H.D D hD) t5.ext (by have := H.ge D hD; omega)
            have X5 : Ext w u5 := H.X.own t5.ext g4
            repeat' (first | refine RunL.nil ?_)
            exact ChkSt.out (e := 490) X5 hD5 H.nd H.ge hbase Tryd.func26 (fun w' e => .cell rfl (Loads.scalar Tryd.tOk rfl rfl ((Z4'.ext e (fun h => by have := H.ge B4 h; omega)).cell rfl)) .nil) (hbad hstep).symm
end Go.Sg
end
section
/- Deeds: the examples of the chapter; made lists; calls in the form of the laws. -/
namespace Go.Rec
open Go.Rn
theorem cellsAll_flat {α : Type} {enc : α → List Value} : ∀ l : List α, cellsAll (l.map fun x => Value.agg (enc x).toArray) = flat enc l
  | [] => rfl
  | x :: l => by
    rw [List.map_cons, flat_cons, ← cellsAll_flat l]; rfl
section
variable {P : Program} {w : World} {env : Env} {dst : Option Tmp} {ty : TypeId} {pos : String} {after : Array Edge} {guard : Option (Nat × Bool)}
theorem OpE.buildL {α : Type} {enc : α → List Value} {k : Nat} (h : EncOk enc k) {T : Tab} (hT : T.Ok P) {t e : TypeId} {ag : Bool} {s b len : Nat} {z : List Value} {a u : Bool} {ie : TI} {parts : Array (Nat × Operand)} (l : List α)
    (ht : T.get t = some ⟨.slc k ag e, s, b, z, a, u⟩) (he : T.get e = some ie) (hz : ie.zero.length = k) (hlen : Nat.ble (len * k) 16777216 = true) (hp : evParts env parts.toList = some (enumV 0 (l.map fun x => Value.agg (enc x).toArray)))
    (hl : l.length = len) :
    OpE P env w ⟨dst, .buildSlice t len parts, ty, pos, after, guard⟩ (fun v w' => (∃ B, v = .slice (some ⟨B, 0, none⟩) l.length l.length) ∧ IsL w' enc k v l ∧ Ext w w') fun _ _ => False := by
  refine OpE.mono (OpE.buildSl hT _ ht he hz hlen hp (by rw [List.length_map]; exact hl) fun v hv => ?_) ?_ fun _ _ h => h
  · obtain ⟨x, -, rfl⟩ := List.mem_map.1 hv
    exact h.len x
  · rintro _ w' ⟨B, rfl, a⟩
    rw [cellsAll_flat] at a
    subst hl
    exact ⟨⟨B, rfl⟩, isSl_added a (flat_length h l), a.ext⟩
theorem zerosL_flat {α : Type} {enc : α → List Value} (x : α) : ∀ n, zerosL (enc x) n = flat enc (List.replicate n x)
  | 0 => rfl
  | n + 1 => by rw [List.replicate_succ, flat_cons, ← zerosL_flat x n]; rfl
theorem OpE.makeL {α : Type} {enc : α → List Value} {k : Nat} (h : EncOk enc k) {T : Tab} (hT : T.Ok P) {t e : TypeId} {ag : Bool} {s bb : Nat} {z : List Value} {a u : Bool} {ie : TI} {x y : Operand} {kl kc : IntKind} {i j : Int} (n : Nat) (x0 : α)
    (ht : T.get t = some ⟨.slc k ag e, s, bb, z, a, u⟩) (he : T.get e = some ie) (hz : ie.zero = enc x0)
    (hx : evO env x = some (.int kl i)) (hy : evO env y = some (.int kc j)) (hi : i = (n : Int)) (hj : j = (n : Int)) (hb : ie.bytes * n ≤ 281474976710656) (h63 : n ≤ 9223372036854775807) :
    OpE P env w ⟨dst, .makeSlice t x y, ty, pos, after, guard⟩ (fun v w' => (∃ B, v = .slice (some ⟨B, 0, none⟩) n n ∧ w.heap.size ≤ B ∧ Blk w' B (flat enc (List.replicate n x0)) e) ∧ IsL w' enc k v (List.replicate n x0) ∧ Ext w w') fun _ _ => False := by
  refine OpE.mono (OpE.make hT ht he (by rw [hz, h.len]) hx hy hi hj (Nat.le_refl _) hb h63) ?_ fun _ _ h => h
  rintro _ w' ⟨B, rfl, a⟩
  rw [hz, zerosL_flat] at a
  refine ⟨⟨B, rfl, by rw [a.eq]; exact Nat.le_refl _, a.at_⟩, ?_, a.ext⟩
  have := isSl_added (n := n) (sz := k) a (by rw [flat_length h, List.length_replicate])
  show IsSl w' k _ (List.replicate n x0).length _
  rw [List.length_replicate]; exact this
end
end Go.Rec
namespace Go.Dee
open Go.Rn Go.RowKit Go.Rec Go.Sha Go.Sg Go.NT
theorem v2n : validS 2 = false := by
  have h := validS_iff (x := 2) (by decide) (by decide)
  have g := G_two (n := 2147483579) (by decide)
  rw [if_pos (.inl (by decide))] at g
  have e : ((2 : Nat) : Int) = 2 := rfl
  rw [e] at h
  rw [h]
  exact decide_eq_false (by omega)
def aD : Deed := askD 0 0 10 zeroG [] [120]
def bD (g : Dg) : Deed := askD 2 0 10 zeroG [g] []
def cD (g : Dg) : Deed := askD 0 1 12 g [] []
def oneG : Dg := ⟨1 :: List.replicate 31 0, rfl⟩
theorem wf_make {x : Int} {d : Deed} (h : WfD d) : WfD (makeD x d) := by
  have hE := sigE_bd x (textD d)
  have hS := sigS_bd x (textD d)
  unfold makeD
  split
  · exact ⟨h.person, h.no, h.at_, ⟨by simp only; omega, by simp only; omega⟩, ⟨by simp only; omega, by simp only; omega⟩⟩
  · exact ⟨⟨by decide, by decide⟩, ⟨by decide, by decide⟩, ⟨by decide, by decide⟩, ⟨by decide, by decide⟩, ⟨by decide, by decide⟩⟩
theorem aD_f : formedD aD = true := by decide
theorem bD_f (g : Dg) : formedD (bD g) = true := rfl
theorem cD_f (g : Dg) : formedD (cD g) = true := rfl
theorem makeE_ok {x : Int} {d : Deed} (hx : inQ x = true) (hf : formedD d = true) : makeE x d = 0 := by unfold makeE; rw [hx, hf]; rfl
/-- The three deeds of the chapter. -/
structure Ex (ks : List Int) (a b c : Deed) (g : Dg) : Prop where
  id : idG a = g
  ide : idE a = 0
  form : formedD a = true
  keys : keysD ks = true
  ki : KsI ks
  kl : ks.length = 3
  right : fineD ks a = true
  abc : chkE ks [a, b, c] = 0
  ba : chkE ks [b, a] = 490
  c_ : chkE ks [c] = 490
  aa : chkE ks [a, a] = 490
  none : chkE [] [a] = 490
  sa : a.seen.length = 0 ∧ a.data.length = 1
  sb : b.seen.length = 1 ∧ b.data.length = 0
  sc : c.seen.length = 0 ∧ c.data.length = 0
  wa : WfD a
  wb : WfD b
  wc : WfD c
theorem chk_of {ks : List Int} {l : List Deed} (hk : keysD ks = true) (hl : l.length ≤ 4096) : chkE ks l = if logD ks l then 0 else 490 := by
  unfold chkE; rw [hk, if_pos rfl, if_neg (by omega)]
theorem log_cons3 {ks : List Int} {a b c : Deed} (h1 : stepD ks [] a = true) (h2 : stepD ks [a] b = true) (h3 : stepD ks [a, b] c = true) : logD ks [a, b, c] = true := by
  refine logD_iff.2 fun i d hd => ?_
  rcases i with _ | _ | _ | i
  · cases hd; exact h1
  · cases hd; exact h2
  · cases hd; exact h3
  · simp at hd
theorem log_not {ks : List Int} {l : List Deed} (i : Nat) (d : Deed) (hd : l[i]? = some d) (h : stepD ks (l.take i) d = false) (hk : keysD ks = true) (hl : l.length ≤ 4096) : chkE ks l = 490 := by
  rw [chk_of hk hl, logD_no hd h]; rfl
theorem ex_gen {ks : List Int} {ea sa eb sb ec sc : Int} (hk : keysD ks = true) (ki : KsI ks) (kl : ks.length = 3) :
    ∀ (a b c : Deed), a = ⟨0, 0, 10, zeroG, [], [120], ea, sa⟩ → b = ⟨2, 0, 10, zeroG, [idD a], [], eb, sb⟩ → c = ⟨0, 1, 12, idD a, [], [], ec, sc⟩ → fineD ks a = true → fineD ks b = true → fineD ks c = true → WfD a → WfD b → WfD c → Ex ks a b c (idD a) := by
  intro a b c ha hb hc fa fb fc wa wb wc
  have na : formedD a = true := (fineD_inv fa).1
  have s1 : stepD ks [] a = true := by
    refine stepD_of fa ?_ ?_ rfl ?_
    · subst ha; rfl
    · subst ha; rfl
    · intro x hx; rw [ha] at hx; simp at hx
  have s2 : stepD ks [a] b = true := by
    refine stepD_of fb ?_ ?_ ?_ ?_
    · subst hb; subst ha; rfl
    · subst hb; subst ha; rfl
    · subst hb; subst ha; rfl
    · intro x hx
      have : x = idD a := by rw [hb] at hx; simpa using hx
      subst this
      unfold metD
      rw [List.any_cons]
      have h1 : decide (a.person ≠ b.person) = true := by subst hb; subst ha; rfl
      rw [h1, beq_self_eq_true]; rfl
  have s3 : stepD ks [a, b] c = true := by
    refine stepD_of fc ?_ ?_ ?_ ?_
    · subst hc; subst hb; subst ha; rfl
    · have h1 : ofD [a, b] c.person = [a] := by subst hc; subst hb; subst ha; rfl
      unfold lastD
      rw [h1, hc]; rfl
    · subst hc; subst hb; subst ha; rfl
    · intro x hx; rw [hc] at hx; simp at hx
  refine ⟨idG_of na, ?_, na, hk, ki, kl, fa, ?_, ?_, ?_, ?_, ?_, ?_, ?_, ?_, wa, wb, wc⟩
  · unfold idE; rw [na]; rfl
  · rw [chk_of hk (by simp), log_cons3 s1 s2 s3]; rfl
  · refine log_not 0 b rfl ?_ hk (by simp)
    have : b.seen.all (metD [] b.person) = false := by rw [hb]; rfl
    show stepD ks [] b = false
    unfold stepD
    rw [this]; simp
  · refine log_not 0 c rfl ?_ hk (by simp)
    have : (c.no == nextD [] c.person) = false := by rw [hc]; rfl
    show stepD ks [] c = false
    unfold stepD
    rw [this]; simp
  · exact log_not 1 a rfl (step_twice (l := []) s1) hk (by simp)
  · refine log_not 0 a rfl ?_ rfl (by simp)
    have : fineD [] a = false := fine_far (by rw [ha]; show ¬ ((0 : Int) < 0); decide)
    show stepD [] [] a = false
    unfold stepD
    rw [this]; rfl
  · rw [ha]; exact ⟨rfl, rfl⟩
  · rw [hb]; exact ⟨rfl, rfl⟩
  · rw [hc]; exact ⟨rfl, rfl⟩
theorem key3 (x y z : Int) : Dee.keyOf [x, y, z] 0 = x ∧ Dee.keyOf [x, y, z] 2 = z := ⟨rfl, rfl⟩
def ksE : List Int := [powC 4 5, 0, powC 4 6]
theorem ksE_ok : keysD ksE = true ∧ KsI ksE := by
  have h5 := powC_valid v4 5
  have h6 := powC_valid v4 6
  have b5 := validS_bd h5
  have b6 := validS_bd h6
  unfold ksE
  generalize powC 4 5 = k5 at *
  generalize powC 4 6 = k6 at *
  constructor
  · unfold keysD
    simp [h5, h6]
  · intro k hk
    simp only [List.mem_cons, List.not_mem_nil, or_false] at hk
    omega
theorem ex_ok : Ex ksE (makeD 5 aD) (makeD 6 (bD (idD (makeD 5 aD)))) (makeD 5 (cD (idD (makeD 5 aD)))) (idD (makeD 5 aD)) := by
  obtain ⟨hk, hi⟩ := ksE_ok
  have ea : makeE 5 aD = 0 := makeE_ok (by decide) aD_f
  have eb : ∀ g, makeE 6 (bD g) = 0 := fun g => makeE_ok (by decide) (bD_f g)
  have ec : ∀ g, makeE 5 (cD g) = 0 := fun g => makeE_ok (by decide) (cD_f g)
  have ha := (make_good ea).2.2
  have hb := fun g => (make_good (eb g)).2.2
  have hc := fun g => (make_good (ec g)).2.2
  have wa : WfD aD := ⟨⟨by decide, by decide⟩, ⟨by decide, by decide⟩, ⟨by decide, by decide⟩, ⟨by decide, by decide⟩, ⟨by decide, by decide⟩⟩
  have w0 : ∀ (p n t : Int) (g : Dg) (s : List Dg) (d : List UInt8), i64 p → i64 n → i64 t → WfD (askD p n t g s d) := fun p n t g s d h1 h2 h3 => ⟨h1, h2, h3, ⟨by show (_ : Int) ≤ 0; decide, by show (0 : Int) < _; decide⟩, ⟨by show (_ : Int) ≤ 0; decide, by show (0 : Int) < _; decide⟩⟩
  have wb : ∀ g, WfD (bD g) := fun g => w0 _ _ _ _ _ _ ⟨by decide, by decide⟩ ⟨by decide, by decide⟩ ⟨by decide, by decide⟩
  have wc : ∀ g, WfD (cD g) := fun g => w0 _ _ _ _ _ _ ⟨by decide, by decide⟩ ⟨by decide, by decide⟩ ⟨by decide, by decide⟩
  have fa : fineD ksE (makeD 5 aD) = true := make_fine ea (by show (0 : Int) < 3; decide) (key3 _ _ _).1
  have fb : ∀ g, fineD ksE (makeD 6 (bD g)) = true := fun g => make_fine (eb g) (by show (2 : Int) < 3; decide) (key3 _ _ _).2
  have fc : ∀ g, fineD ksE (makeD 5 (cD g)) = true := fun g => make_fine (ec g) (by show (0 : Int) < 3; decide) (key3 _ _ _).1
  exact ex_gen hk hi rfl _ _ _ ha (hb _) (hc _) fa (fb _) (fc _) (wf_make wa) (wf_make (wb _)) (wf_make (wc _))
end Go.Dee
end
section
/- Two signatures are compared. -/
namespace Go.Rn
variable {P : Program} {w : World} {env : Env} {dst : Option Tmp} {ty : TypeId} {pos : String} {after : Array Edge} {guard : Option (Nat × Bool)}
/-- A struct of two integers. -/
structure TwoInts (P : Program) (t ti : TypeId) : Prop where
  und : P.underlying t = some (.struct (P.fieldsOf t))
  fields : (P.fieldsOf t).toList.map (fun f => ((f.name == "_"), f.type, f.offset)) = [(false, ti, 0), (false, ti, 1)]
  held : P.stoodInHeld t = false
  guard : P.eqGuardType P.depth t = false
  int : P.underlying ti = some (.int .i64)
  cells : cellsAgg P ti = some (1, false)
theorem TwoInts.run {t ti : TypeId} (h : TwoInts P t ti) (a b c d : Int) :
    (Op.equalIn 10000 t (.agg #[.int .i64 a, .int .i64 b]) (.agg #[.int .i64 c, .int .i64 d])).run P w = .ok (a == c && b == d) w := by
  rw [show (10000 : Nat) = 9999 + 1 from rfl, run_equalIn_struct w 9999 _ _ _ h.und h.held]
  have hf := h.fields
  generalize (P.fieldsOf t).toList = fs at hf
  obtain ⟨f0, f1, rfl⟩ : ∃ f0 f1, fs = [f0, f1] := by
    rcases fs with _ | ⟨f0, _ | ⟨f1, _ | ⟨f2, r⟩⟩⟩
    · simp at hf
    · simp at hf
    · exact ⟨f0, f1, rfl⟩
    · simp at hf
  simp only [List.map_cons, List.map_nil, List.cons.injEq, Prod.mk.injEq, and_true] at hf
  obtain ⟨⟨n0, t0, o0⟩, n1, t1, o1⟩ := hf
  have n0' : f0.name ≠ "_" := by simpa using n0
  have n1' : f1.name ≠ "_" := by simpa using n1
  have p : ∀ (off : Nat) (cs : Array Value) (v : Value), cs.toList[off]? = some v → (part ti cs off).run P w = .ok v w := fun off cs v hv => run_part h.cells cs off (by simpa using hv)
  have e : ∀ a b : Int, (Op.equalIn 9999 ti (.int .i64 a) (.int .i64 b)).run P w = .ok (a == b) w := fun a b => run_equalIn_int w 9998 ti .i64 .i64 a b h.int
  simp only [Op.eqFields, n0', n1', ne_eq, not_false_eq_true, if_true, t0, o0, t1, o1]
  rw [run_bind _ _ (p 0 _ (.int .i64 a) rfl), run_bind _ _ (p 0 _ (.int .i64 c) rfl), run_bind _ _ (e a c)]
  cases hac : (a == c) with
  | false => rfl
  | true =>
    simp only [Bool.not_true, Bool.false_eq_true, if_false]
    rw [run_bind _ _ (p 1 _ (.int .i64 b) rfl), run_bind _ _ (p 1 _ (.int .i64 d) rfl), run_bind _ _ (e b d)]
    cases hbd : (b == d) <;> rfl
theorem OpV.eqTwo {t ti u : TypeId} (h : TwoInts P t ti) {x y : Operand} {a b c d : Int} (hx : evO env x = some (.agg #[.int .i64 a, .int .i64 b])) (hy : evO env y = some (.agg #[.int .i64 c, .int .i64 d])) :
    OpV P env w ⟨dst, .binOp .eql t x y u, ty, pos, after, guard⟩ (.bool (a == c && b == d)) := .of_run fun ρ hρ => by
  refine ⟨_, by simp only [execOp, hρ _ _ hx, hρ _ _ hy]; rfl, ?_⟩
  rw [run_bind _ _ (run_eqGuard_agg w .eql t x y _ _ h.guard), run_eql_struct, h.run]; rfl
theorem OpV.neTwo {t ti u : TypeId} (h : TwoInts P t ti) {x y : Operand} {a b c d : Int} (hx : evO env x = some (.agg #[.int .i64 a, .int .i64 b])) (hy : evO env y = some (.agg #[.int .i64 c, .int .i64 d])) :
    OpV P env w ⟨dst, .binOp .neq t x y u, ty, pos, after, guard⟩ (.bool (!(a == c && b == d))) := .of_run fun ρ hρ => by
  refine ⟨_, by simp only [execOp, hρ _ _ hx, hρ _ _ hy]; rfl, ?_⟩
  rw [run_bind _ _ (run_eqGuard_agg w .neq t x y _ _ h.guard), run_neq_struct, h.run]; rfl
end Go.Rn
namespace Go.Sg
open Go.Rn Go.Proofs
theorem sigTwo : TwoInts Tryd.prog 27 3 := ⟨by kernel_rfl, by kernel_rfl, by kernel_rfl, by kernel_rfl, by kernel_rfl, by kernel_rfl⟩
end Go.Sg
end
section
/- Deeds, the reference: Less, Formed, Keys, Before, equality, size. -/
namespace Go.Dee
open Go.Rn Go.RowKit Go.Rec Go.Sha Go.Sg
theorem digC_at {x : Dg} {i : Nat} (h : i < 32) : (digC x)[0 + i * 1]? = some (cB x i) := by
  rw [Nat.zero_add, Nat.mul_one, digC_eq, bytesV_get (by rw [x.2]; exact h)]; rfl
theorem lessL_step {a b : List UInt8} {i : Nat} (ha : i < a.length) (hb : i < b.length) : lessL (a.drop i) (b.drop i) = if a.getD i 0 = b.getD i 0 then lessL (a.drop (i + 1)) (b.drop (i + 1)) else decide ((a.getD i 0).toNat < (b.getD i 0).toNat) := by
  rw [List.drop_eq_getElem_cons ha, List.drop_eq_getElem_cons hb, List.getD_eq_getElem?_getD, List.getD_eq_getElem?_getD, List.getElem?_eq_getElem ha, List.getElem?_eq_getElem hb]
  rfl
theorem lessL_end {a b : List UInt8} {i : Nat} (ha : a.length ≤ i) : lessL (a.drop i) (b.drop i) = false := by
  rw [List.drop_eq_nil_of_le ha]
  cases b.drop i <;> rfl
theorem str_toList (l : List UInt8) : (strOf l).toList = l := ByteArray.toList_mk l
def fewD (d : Deed) : Bool := decide (d.seen.length ≤ 70 ∧ d.data.length ≤ 1000)
end Go.Dee
namespace Go.Sg
open Go.Rn Go.Proofs Go.Dee Go.Rec Go.RowKit Go.Sha Go.Cod Go.NT
attribute [local irreducible] Go.Rn.RetsX Go.Rn.RunLN Go.Rn.AsyN Go.Rn.RunL Go.Rn.RunE Go.Rn.Asy Go.Rn.OpV Go.Rn.OpE Go.Rn.ExecE
set_option maxRecDepth 4000 in
theorem rless_ok (x y : Dg) (w : World) : Rets Tryd.prog 40 [.agg (digC x).toArray, .agg (digC y).toArray] w fun r w' => r = .bool (lessG x y) ∧ Ext w w' := by
  refine RetsX.of (nt := 24) Tryd.func40 (by kernel_rfl) rfl rfl (by simp) (by simp only [argEnv]; rfl) ?_
  have X := ExtB.refl (fun _ => False) w
  repeat' (first | refine RunE.seq ?_ | refine RunE.region ?_)
  refine RunL.box rfl rfl rfl fun B2 w2_ a_ => ?_
  have Z2 : Blk w2_ B2 (digC x) 23 := a_.at_
  have gB2 := a_.ge X
  replace X := X.trans a_.ext
  clear a_
  skip
  refine RunL.box rfl rfl rfl fun B3 w3_ a_ => ?_
  have Z3 : Blk w3_ B3 (digC y) 23 := a_.at_
  have gB3 := a_.ge X
  have n2_3 : B2 ≠ B3 := by have := Z2.lt; have := a_.eq; omega
  have n3_2 : B3 ≠ B2 := Ne.symm n2_3
  replace Z2 := Z2.up a_.ext
  replace X := X.trans a_.ext
  clear a_
  repeat' (first | with_reducible refine RunLN.boolF rfl ?_ | (with_reducible refine RunLN.chk ?_; refine RunLN.int (by (first | (refine wr_i64 ?_ ?_; omega; omega) | (refine wm_i64 ?_; omega) | (refine wq_i64 ?_ ?_ ?_; omega; omega; omega) | rfl)) ?_) | refine RunL.ev Tryd.tOk rfl rfl rfl ?_ | refine RunE.seq ?_ | refine RunE.region ?_ | refine RunL.nil ?_ | refine RunE.block ?_)
  refine RunE.loop (ι := Nat) (fun s => [(0, .agg (digC x).toArray), (1, .agg (digC y).toArray), (2, .pointer (some ⟨B2, 0, none⟩)), (3, .pointer (some ⟨B3, 0, none⟩)), (4, .bool false), (5, .int .i64 (s : Int))])
    (fun s w' => s ≤ 32 ∧ lessL x.1 y.1 = lessL (x.1.drop s) (y.1.drop s) ∧ Ext w w' ∧ Blk w' B2 (digC x) 23 ∧ Blk w' B3 (digC y) 23) (fun s => 32 - s) 0 (by repeat (first | exact Sub.nil _ | refine Sub.cons rfl ?_)) ⟨Nat.zero_le _, rfl, X, Z2, Z3⟩ ?_
  clear X Z2 Z3
  rintro i w3 ⟨hi, hinc, X, Z2, Z3⟩ again
  by_cases hlt : i < 32
  · rw [lessL_step (by rw [x.2]; exact hlt) (by rw [y.2]; exact hlt)] at hinc
    have hx := digC_at (x := x) hlt
    have hy := digC_at (x := y) hlt
    by_cases he : x.1.getD i 0 = y.1.getD i 0
    · rw [if_pos he] at hinc
      have he' : cB y i = cB x i := by unfold cB; rw [he]
      rw [he'] at hy
      repeat' (first | (with_reducible refine RunLN.decT ?_ ?_; focus omega) | (with_reducible refine RunLN.chk ?_; refine RunLN.int (by (first | (refine wr_i64 ?_ ?_; omega; omega) | (refine wm_i64 ?_; omega) | (refine wq_i64 ?_ ?_ ?_; omega; omega; omega) | rfl)) ?_) | refine RunL.ev Tryd.tOk rfl rfl rfl ?_ | refine RunE.condT rfl rfl ?_ | refine RunE.seq ?_ | refine RunE.region ?_ | refine RunL.nil ?_ | refine RunE.block ?_ | refine RunE.skip ?_)
      refine RunE.draw (fun _ => False) mix ?_
      intro wd_ Xd_
      repeat' (first | with_reducible refine AsyN.neF rfl ?_ | (with_reducible refine AsyN.chk ?_; refine AsyN.int (by (first | (refine wr_i64 ?_ ?_; omega; omega) | (refine wm_i64 ?_; omega) | (refine wq_i64 ?_ ?_ ?_; omega; omega; omega) | rfl)) ?_) | refine AsyN.any ?_ | refine Asy.ev Tryd.tOk rfl rfl rfl ?_ | refine Asy.evV rfl rfl rfl rfl (fun _ X_ => (OpV.indexA Tryd.tOk i rfl rfl rfl rfl hlt)) ?_ | refine Asy.evV rfl rfl rfl rfl (fun _ X_ => (OpV.load1 Tryd.tOk rfl rfl rfl (Blk.cell (Z2.up (Xd_.trans X_)) hx))) ?_ | refine Asy.evV rfl rfl rfl rfl (fun _ X_ => (OpV.load1 Tryd.tOk rfl rfl rfl (Blk.cell (Z3.up (Xd_.trans X_)) hy))) ?_)
      refine Asy.end_ (by kernel_rfl) ?_
      intro we_ Xe_
      replace X := X.trans (Xd_.trans Xe_)
      replace Z2 := Z2.up (Xd_.trans Xe_)
      replace Z3 := Z3.up (Xd_.trans Xe_)
      clear Xd_ Xe_
      repeat' (first | (with_reducible refine RunLN.chk ?_; refine RunLN.int (by (first | (refine wr_i64 ?_ ?_; omega; omega) | (refine wm_i64 ?_; omega) | (refine wq_i64 ?_ ?_ ?_; omega; omega; omega) | rfl)) ?_) | refine RunL.ev Tryd.tOk rfl rfl rfl ?_ | refine RunE.condF rfl rfl ?_ | refine RunE.region ?_ | refine RunL.nil ?_ | refine RunE.inBlock ?_ | refine RunE.skip ?_)
      exact RunE.weaken (by repeat (first | exact Sub.nil _ | refine Sub.cons rfl ?_)) (again (i + 1) _ (by omega) ⟨by omega, hinc, X, Z2, Z3⟩)
    · rw [if_neg he] at hinc
      have he1 : ((x.1.getD i 0).toNat : Int) ≠ ((y.1.getD i 0).toNat : Int) := fun h => he (UInt8.toNat_inj.1 (by omega))
      have hr : lessG x y = decide (((x.1.getD i 0).toNat : Int) < ((y.1.getD i 0).toNat : Int)) := by
        unfold lessG
        rw [hinc, Bool.eq_iff_iff, decide_eq_true_eq, decide_eq_true_eq]; omega
      repeat' (first | (with_reducible refine RunLN.decT ?_ ?_; focus omega) | (with_reducible refine RunLN.chk ?_; refine RunLN.int (by (first | (refine wr_i64 ?_ ?_; omega; omega) | (refine wm_i64 ?_; omega) | (refine wq_i64 ?_ ?_ ?_; omega; omega; omega) | rfl)) ?_) | refine RunL.ev Tryd.tOk rfl rfl rfl ?_ | refine RunE.condT rfl rfl ?_ | refine RunE.seq ?_ | refine RunE.region ?_ | refine RunL.nil ?_ | refine RunE.block ?_ | refine RunE.skip ?_)
      refine RunE.draw (fun _ => False) mix ?_
      intro wd_ Xd_
      repeat' (first | (with_reducible refine AsyN.neT ?_ ?_; focus omega) | (with_reducible refine AsyN.chk ?_; refine AsyN.int (by (first | (refine wr_i64 ?_ ?_; omega; omega) | (refine wm_i64 ?_; omega) | (refine wq_i64 ?_ ?_ ?_; omega; omega; omega) | rfl)) ?_) | refine AsyN.any ?_ | refine Asy.ev Tryd.tOk rfl rfl rfl ?_ | refine Asy.evV rfl rfl rfl rfl (fun _ X_ => (OpV.indexA Tryd.tOk i rfl rfl rfl rfl hlt)) ?_ | refine Asy.evV rfl rfl rfl rfl (fun _ X_ => (OpV.load1 Tryd.tOk rfl rfl rfl (Blk.cell (Z2.up (Xd_.trans X_)) hx))) ?_ | refine Asy.evV rfl rfl rfl rfl (fun _ X_ => (OpV.load1 Tryd.tOk rfl rfl rfl (Blk.cell (Z3.up (Xd_.trans X_)) hy))) ?_)
      refine Asy.end_ (by kernel_rfl) ?_
      intro we_ Xe_
      replace X := X.trans (Xd_.trans Xe_)
      replace Z2 := Z2.up (Xd_.trans Xe_)
      replace Z3 := Z3.up (Xd_.trans Xe_)
      clear Xd_ Xe_
      repeat' (first | refine RunE.condT rfl rfl ?_ | refine RunE.seq ?_ | refine RunL.nil ?_)
      refine RunE.draw (fun _ => False) mix ?_
      intro wd_ Xd_
      repeat' (first | (with_reducible refine AsyN.chk ?_; refine AsyN.int (by (first | (refine wr_i64 ?_ ?_; omega; omega) | (refine wm_i64 ?_; omega) | (refine wq_i64 ?_ ?_ ?_; omega; omega; omega) | rfl)) ?_) | refine AsyN.any ?_ | refine Asy.ev Tryd.tOk rfl rfl rfl ?_ | refine Asy.evV rfl rfl rfl rfl (fun _ X_ => (OpV.indexA Tryd.tOk i rfl rfl rfl rfl hlt)) ?_ | refine Asy.evV rfl rfl rfl rfl (fun _ X_ => (OpV.load1 Tryd.tOk rfl rfl rfl (Blk.cell (Z2.up (Xd_.trans X_)) hx))) ?_ | refine Asy.evV rfl rfl rfl rfl (fun _ X_ => (OpV.load1 Tryd.tOk rfl rfl rfl (Blk.cell (Z3.up (Xd_.trans X_)) hy))) ?_)
      refine Asy.end_ (by kernel_rfl) ?_
      intro we_ Xe_
      replace X := X.trans (Xd_.trans Xe_)
      clear Xd_ Xe_
      repeat' (first | refine RunL.nil ?_)
      exact RunE.retFn Tryd.func40 (.tmp rfl .nil) ⟨by rw [hr]; rfl, X⟩
  · obtain rfl : i = 32 := by omega
    have hr : lessG x y = false := by unfold lessG; rw [hinc]; exact lessL_end (by rw [x.2]; exact Nat.le_refl _)
    clear again
    repeat' (first | with_reducible refine RunLN.boolF rfl ?_ | (with_reducible refine RunLN.chk ?_; refine RunLN.int (by (first | (refine wr_i64 ?_ ?_; omega; omega) | (refine wm_i64 ?_; omega) | (refine wq_i64 ?_ ?_ ?_; omega; omega; omega) | rfl)) ?_) | refine RunL.ev Tryd.tOk rfl rfl rfl ?_ | refine RunE.condF rfl rfl ?_ | refine RunE.seq ?_ | refine RunE.region ?_ | refine RunL.nil ?_ | refine RunE.exit rfl ?_)
    exact RunE.retFn Tryd.func40 (.tmp rfl .nil) ⟨by rw [hr]; rfl, X⟩
set_option maxRecDepth 4000 in
set_option maxHeartbeats 4000000 in
theorem rformed_dd (d : Deed) (u v : Value) (w : World) (hs : LDg w u d.seen) (hb : LBy w v d.data) (hl : d.seen.length < 9223372036854775808) (hl' : d.data.length < 9223372036854775808) : Rets Tryd.prog 19 [.agg (dCells d u v).toArray] w fun r w' => r = .bool (formedD d) ∧ Ext w w' := by
  refine RetsX.of (nt := 73) Tryd.func19 (by kernel_rfl) rfl rfl (by simp) (by simp only [argEnv]; rfl) ?_
  have X := ExtB.refl (fun _ => False) w
  repeat' (first | refine RunE.seq ?_ | refine RunE.region ?_)
  refine RunL.box rfl rfl rfl fun B1 w1_ a_ => ?_
  have Z1 : Blk w1_ B1 (dCells d u v) 29 := a_.at_
  have gB1 := a_.ge X
  replace X := X.trans a_.ext
  clear a_
  cases hn : numsD d with
  | false =>
    have hr : formedD d = false := by unfold formedD; rw [hn]; rfl
    have hn' := of_decide_eq_false hn
    have : d.person < 0 ∨ (0 ≤ d.person ∧ 64 ≤ d.person) ∨ ((0 ≤ d.person ∧ d.person < 64) ∧ d.no < 0) ∨ ((0 ≤ d.person ∧ d.person < 64) ∧ 0 ≤ d.no ∧ 4096 ≤ d.no) ∨ ((0 ≤ d.person ∧ d.person < 64) ∧ (0 ≤ d.no ∧ d.no < 4096) ∧ d.at_ < 0) ∨ ((0 ≤ d.person ∧ d.person < 64) ∧ (0 ≤ d.no ∧ d.no < 4096) ∧ 0 ≤ d.at_ ∧ 1099511627776 ≤ d.at_) ∨ ((0 ≤ d.person ∧ d.person < 64) ∧ (0 ≤ d.no ∧ d.no < 4096) ∧ (0 ≤ d.at_ ∧ d.at_ < 1099511627776) ∧ 64 < d.seen.length) ∨ ((0 ≤ d.person ∧ d.person < 64) ∧ (0 ≤ d.no ∧ d.no < 4096) ∧ (0 ≤ d.at_ ∧ d.at_ < 1099511627776) ∧ d.seen.length ≤ 64 ∧ 65536 < d.data.length) := by omega
    clear hn'
    rcases this with h | h | h | h | h | h | h | h
    all_goals
      repeat' (first | with_reducible refine RunLN.boolT rfl ?_ | with_reducible refine RunLN.boolF rfl ?_ | (with_reducible refine RunLN.decT ?_ ?_; focus omega) | (with_reducible refine RunLN.decF ?_ ?_; focus omega) | (with_reducible refine RunLN.chk ?_; refine RunLN.int (by (first | (refine wr_i64 ?_ ?_; omega; omega) | (refine wm_i64 ?_; omega) | (refine wq_i64 ?_ ?_ ?_; omega; omega; omega) | rfl)) ?_) | refine RunLN.any ?_ | refine RunL.ev Tryd.tOk rfl rfl rfl ?_ | refine RunL.unwantedD rfl rfl ?_ | refine RunL.evV rfl rfl rfl (OpV.load1 Tryd.tOk rfl rfl rfl (Blk.cell Z1 rfl)) ?_ | refine RunL.evV rfl rfl rfl (OpV.lenSl Tryd.tOk rfl rfl hs) ?_ | refine RunL.evV rfl rfl rfl (OpV.lenSl Tryd.tOk rfl rfl hb) ?_ | refine RunE.condT rfl rfl ?_ | refine RunE.seq ?_ | refine RunE.region ?_ | refine RunL.nil ?_)
      exact RunE.retFn Tryd.func19 (.tmp rfl .nil) ⟨by rw [hr]; rfl, X⟩
  | true =>
    obtain ⟨p0, p1, n0, n1, t0, t1, l0, l1⟩ := of_decide_eq_true hn
    repeat' (first | with_reducible refine RunLN.boolF rfl ?_ | (with_reducible refine RunLN.decF ?_ ?_; focus omega) | (with_reducible refine RunLN.chk ?_; refine RunLN.int (by (first | (refine wr_i64 ?_ ?_; omega; omega) | (refine wm_i64 ?_; omega) | (refine wq_i64 ?_ ?_ ?_; omega; omega; omega) | rfl)) ?_) | refine RunLN.any ?_ | refine RunL.ev Tryd.tOk rfl rfl rfl ?_ | refine RunL.evV rfl rfl rfl (OpV.load1 Tryd.tOk rfl rfl rfl (Blk.cell Z1 rfl)) ?_ | refine RunL.evV rfl rfl rfl (OpV.lenSl Tryd.tOk rfl rfl hs) ?_ | refine RunL.evV rfl rfl rfl (OpV.lenSl Tryd.tOk rfl rfl hb) ?_ | refine RunE.condF rfl rfl ?_ | refine RunE.seq ?_ | refine RunE.region ?_ | refine RunL.nil ?_ | refine RunE.block ?_ | refine RunE.skip ?_)
    refine RunE.loop (ι := Nat) (fun s => [(0, .agg (dCells d u v).toArray), (1, .pointer (some ⟨B1, 0, none⟩)), (2, .bool false), (3, .int .i64 ((s : Int) + 1))])
      (fun s w' => (s < d.seen.length ∨ s = 0) ∧ incG d.seen = incG (d.seen.drop s) ∧ Ext w w' ∧ Blk w' B1 (dCells d u v) 29) (fun s => d.seen.length - s) 0 (by repeat (first | exact Sub.nil _ | refine Sub.cons rfl ?_)) ⟨.inr rfl, rfl, X, Z1⟩ ?_
    clear X Z1
    rintro i w3 ⟨hi, hinc, X, Z1⟩ again
    by_cases hlt : i + 1 < d.seen.length
    · obtain ⟨a, ha⟩ : ∃ a, d.seen[i]? = some a := ⟨_, List.getElem?_eq_getElem (by omega)⟩
      obtain ⟨b, hb'⟩ : ∃ b, d.seen[i + 1]? = some b := ⟨_, List.getElem?_eq_getElem hlt⟩
      rw [incG_drop ha hb'] at hinc
      obtain ⟨b1, o1, c1, rfl, hr1, -⟩ := isL_held hs hlt
      have hra := flat_row encG (hr1.up X) ha
      have hrb := flat_row encG (hr1.up X) hb'
      have cl := rless_ok a b
      repeat' (first | (with_reducible refine RunLN.decT ?_ ?_; focus omega) | (with_reducible refine RunLN.chk ?_; refine RunLN.int (by (first | (refine wr_i64 ?_ ?_; omega; omega) | (refine wm_i64 ?_; omega) | (refine wq_i64 ?_ ?_ ?_; omega; omega; omega) | rfl)) ?_) | refine RunLN.any ?_ | refine RunL.ev Tryd.tOk rfl rfl rfl ?_ | refine RunL.evV rfl rfl rfl (OpV.load1 Tryd.tOk rfl rfl rfl (Blk.cell Z1 rfl)) ?_ | refine RunE.condT rfl rfl ?_ | refine RunE.seq ?_ | refine RunE.region ?_ | refine RunL.nil ?_ | refine RunE.block ?_ | refine RunE.skip ?_)
      refine RunE.draw (fun _ => False) mix ?_
      intro wd_ Xd_
      cases hc : lessG a b with
      | true =>
        rw [hc] at cl
        repeat' (first | with_reducible refine AsyN.boolT rfl ?_ | with_reducible refine AsyN.boolF rfl ?_ | (with_reducible refine AsyN.chk ?_; refine AsyN.int (by (first | (refine wr_i64 ?_ ?_; omega; omega) | (refine wm_i64 ?_; omega) | (refine wq_i64 ?_ ?_ ?_; omega; omega; omega) | rfl)) ?_) | refine AsyN.any ?_ | refine Asy.ev Tryd.tOk rfl rfl rfl ?_ | refine Asy.evV rfl rfl rfl rfl (fun _ X_ => OpV.load1 Tryd.tOk rfl rfl rfl (Blk.cell (Z1.up (Xd_.trans X_)) rfl)) ?_ | refine Asy.evV rfl rfl rfl rfl (fun _ X_ => OpV.indexS Tryd.tOk i rfl rfl rfl (by first | rfl | omega) (by omega)) ?_ | refine Asy.evV rfl rfl rfl rfl (fun _ X_ => OpV.indexS Tryd.tOk (i+1) rfl rfl rfl (by first | rfl | omega) (by omega)) ?_ | refine Asy.evV rfl rfl rfl rfl (fun _ X_ => OpV.loadN Tryd.tOk rfl rfl rfl rfl (hra.up (Xd_.trans X_))) ?_ | refine Asy.evV rfl rfl rfl rfl (fun _ X_ => OpV.loadN Tryd.tOk rfl rfl rfl rfl (hrb.up (Xd_.trans X_))) ?_ | refine Asy.callN rfl rfl rfl (fun _ X_ => (cl _)) ?_)
        refine Asy.end_ (by kernel_rfl) ?_
        intro we_ Xe_
        replace X := X.trans (Xd_.trans Xe_)
        replace Z1 := Z1.up (Xd_.trans Xe_)
        clear Xd_ Xe_
        repeat' (first | (with_reducible refine RunLN.chk ?_; refine RunLN.int (by (first | (refine wr_i64 ?_ ?_; omega; omega) | (refine wm_i64 ?_; omega) | (refine wq_i64 ?_ ?_ ?_; omega; omega; omega) | rfl)) ?_) | refine RunL.ev Tryd.tOk rfl rfl rfl ?_ | refine RunE.condF rfl rfl ?_ | refine RunE.region ?_ | refine RunL.nil ?_ | refine RunE.inBlock ?_ | refine RunE.skip ?_)
        refine RunE.weaken (by repeat (first | exact Sub.nil _ | refine Sub.cons rfl ?_)) (again (i + 1) _ (by omega) ⟨.inl (by omega), by rw [hinc, hc, Bool.true_and], X, Z1⟩)
      | false =>
        rw [hc] at cl
        repeat' (first | with_reducible refine AsyN.boolT rfl ?_ | with_reducible refine AsyN.boolF rfl ?_ | (with_reducible refine AsyN.chk ?_; refine AsyN.int (by (first | (refine wr_i64 ?_ ?_; omega; omega) | (refine wm_i64 ?_; omega) | (refine wq_i64 ?_ ?_ ?_; omega; omega; omega) | rfl)) ?_) | refine AsyN.any ?_ | refine Asy.ev Tryd.tOk rfl rfl rfl ?_ | refine Asy.evV rfl rfl rfl rfl (fun _ X_ => OpV.load1 Tryd.tOk rfl rfl rfl (Blk.cell (Z1.up (Xd_.trans X_)) rfl)) ?_ | refine Asy.evV rfl rfl rfl rfl (fun _ X_ => OpV.indexS Tryd.tOk i rfl rfl rfl (by first | rfl | omega) (by omega)) ?_ | refine Asy.evV rfl rfl rfl rfl (fun _ X_ => OpV.indexS Tryd.tOk (i+1) rfl rfl rfl (by first | rfl | omega) (by omega)) ?_ | refine Asy.evV rfl rfl rfl rfl (fun _ X_ => OpV.loadN Tryd.tOk rfl rfl rfl rfl (hra.up (Xd_.trans X_))) ?_ | refine Asy.evV rfl rfl rfl rfl (fun _ X_ => OpV.loadN Tryd.tOk rfl rfl rfl rfl (hrb.up (Xd_.trans X_))) ?_ | refine Asy.callN rfl rfl rfl (fun _ X_ => (cl _)) ?_)
        refine Asy.end_ (by kernel_rfl) ?_
        intro we_ Xe_
        replace X := X.trans (Xd_.trans Xe_)
        clear Xd_ Xe_
        have hf : formedD d = false := by unfold formedD; rw [hinc, hc]; simp
        repeat' (first | with_reducible refine RunLN.boolF rfl ?_ | refine RunL.ev Tryd.tOk rfl rfl rfl ?_ | refine RunE.condT rfl rfl ?_ | refine RunE.seq ?_ | refine RunE.region ?_ | refine RunL.nil ?_)
        exact RunE.retFn Tryd.func19 (.tmp rfl .nil) ⟨by rw [hf]; rfl, X⟩
    · rw [incG_end (by omega)] at hinc
      clear again
      have hr : formedD d = firstD d := by unfold formedD; rw [hn, hinc]; rfl
      by_cases hno : 0 < d.no
      · have hf : firstD d = true := by unfold firstD; rw [decide_eq_true hno]; rfl
        repeat' (first | with_reducible refine RunLN.boolT rfl ?_ | (with_reducible refine RunLN.decT ?_ ?_; focus omega) | (with_reducible refine RunLN.decF ?_ ?_; focus omega) | (with_reducible refine RunLN.chk ?_; refine RunLN.int (by (first | (refine wr_i64 ?_ ?_; omega; omega) | (refine wm_i64 ?_; omega) | (refine wq_i64 ?_ ?_ ?_; omega; omega; omega) | rfl)) ?_) | refine RunLN.any ?_ | refine RunL.ev Tryd.tOk rfl rfl rfl ?_ | refine RunL.unwantedD rfl rfl ?_ | refine RunL.evV rfl rfl rfl (OpV.load1 Tryd.tOk rfl rfl rfl (Blk.cell Z1 rfl)) ?_ | refine RunL.evV rfl rfl rfl (OpV.lenSl Tryd.tOk rfl rfl hs) ?_ | refine RunE.condF rfl rfl ?_ | refine RunE.seq ?_ | refine RunE.region ?_ | refine RunL.nil ?_ | refine RunE.exit rfl ?_)
        exact RunE.retFn Tryd.func19 (.tmp rfl .nil) ⟨by rw [hr, hf]; rfl, X⟩
      · have hf : firstD d = (d.prev == zeroG) := by unfold firstD; rw [decide_eq_false hno]; rfl
        repeat' (first | with_reducible refine RunLN.boolF rfl ?_ | (with_reducible refine RunLN.decF ?_ ?_; focus omega) | (with_reducible refine RunLN.chk ?_; refine RunLN.int (by (first | (refine wr_i64 ?_ ?_; omega; omega) | (refine wm_i64 ?_; omega) | (refine wq_i64 ?_ ?_ ?_; omega; omega; omega) | rfl)) ?_) | refine RunLN.any ?_ | refine RunL.ev Tryd.tOk rfl rfl rfl ?_ | refine RunL.evV rfl rfl rfl (OpV.load1 Tryd.tOk rfl rfl rfl (Blk.cell Z1 rfl)) ?_ | refine RunL.evV rfl rfl rfl (OpV.lenSl Tryd.tOk rfl rfl hs) ?_ | refine RunL.evV rfl rfl rfl (OpV.loadN Tryd.tOk rfl rfl rfl rfl (row_prev (Blk.row Z1))) ?_ | refine RunL.evV rfl rfl rfl ((OpV.eqDg (a := d.prev) (b := zeroG) bytesArr rfl rfl)) ?_ | refine RunE.condF rfl rfl ?_ | refine RunE.seq ?_ | refine RunE.region ?_ | refine RunL.nil ?_ | refine RunE.exit rfl ?_)
        exact RunE.retFn Tryd.func19 (.tmp rfl .nil) ⟨by rw [hr, hf]; rfl, X⟩
end Go.Sg
end
section
/- Deeds, the reference: Keys, Before, equality, size. -/
namespace Go.Dee
open Go.Rn Go.RowKit Go.Rec Go.Sha Go.Sg
def fewX (n : Nat) (d : Deed) : Bool := fewD d && !(decide (10 < d.seen.length) && decide (4 < n))
def fewL (ks : List Int) (l : List Deed) : Bool := (l.take 20).all (fewX l.length) && decide (ks.length ≤ 70 ∧ (l.length ≤ 16 ∨ (4096 < l.length ∧ l.length ≤ 4200)))
theorem eqL_step {a b : List Dg} {i : Nat} {x y : Dg} (ha : a[i]? = some x) (hb : b[i]? = some y) : (a.drop i == b.drop i) = ((x == y) && (a.drop (i + 1) == b.drop (i + 1))) := by
  obtain ⟨h1, rfl⟩ := List.getElem?_eq_some_iff.1 ha
  obtain ⟨h2, rfl⟩ := List.getElem?_eq_some_iff.1 hb
  rw [List.drop_eq_getElem_cons h1, List.drop_eq_getElem_cons h2]
  rfl
end Go.Dee
namespace Go.Sg
open Go.Rn Go.Proofs Go.Dee Go.Rec Go.RowKit Go.Sha Go.Cod Go.NT
attribute [local irreducible] Go.Rn.RetsX Go.Rn.RunLN Go.Rn.AsyN Go.Rn.RunL Go.Rn.RunE Go.Rn.Asy Go.Rn.OpV Go.Rn.OpE Go.Rn.ExecE
theorem rkeys_ok (ks : List Int) (v : Value) (w : World) (hv : LIn w v ks) (hl : ks.length < 9223372036854775808) : Rets Tryd.prog 24 [v] w fun r w' => r = .bool (keysD ks) ∧ Ext w w' := by
  refine RetsX.of (nt := 26) Tryd.func24 (by kernel_rfl) rfl rfl (by simp) (by simp only [argEnv]; rfl) ?_
  have X := ExtB.refl (fun _ => False) w
  repeat' (first | with_reducible refine RunLN.boolF rfl ?_ | (with_reducible refine RunLN.chk ?_; refine RunLN.int (by (first | (refine wr_i64 ?_ ?_; omega; omega) | (refine wm_i64 ?_; omega) | (refine wq_i64 ?_ ?_ ?_; omega; omega; omega) | rfl)) ?_) | refine RunL.ev Tryd.tOk rfl rfl rfl ?_ | refine RunE.seq ?_ | refine RunE.region ?_ | refine RunL.nil ?_ | refine RunE.block ?_)
  refine RunE.loop (ι := Nat) (fun s => [(0, v), (2, .bool false), (3, .int .i64 (s : Int))])
    (fun s w' => s ≤ ks.length ∧ ks.all (fun k => k == 0 || validS k) = (ks.drop s).all (fun k => k == 0 || validS k) ∧ w' = w) (fun s => ks.length - s) 0 (by repeat (first | exact Sub.nil _ | refine Sub.cons rfl ?_)) ⟨Nat.zero_le _, rfl, rfl⟩ ?_
  rintro i w3 ⟨hi, hall, hw3⟩ again
  subst hw3
  by_cases hlt : i < ks.length
  · obtain ⟨b1, o1, c1, rfl, hr1, -⟩ := isL_held hv hlt
    obtain ⟨x, hx⟩ : ∃ x, ks[i]? = some x := ⟨_, List.getElem?_eq_getElem hlt⟩
    have hrx := flat_row encIn hr1 hx
    have hd : ks.drop i = x :: ks.drop (i + 1) := by
      obtain ⟨hi, e⟩ := List.getElem?_eq_some_iff.1 hx
      rw [← e, List.drop_eq_getElem_cons hi]
    rw [hd, List.all_cons] at hall
    by_cases h0 : x = 0
    · have hq : (x == 0 || validS x) = true := by rw [h0]; rfl
      rw [hq, Bool.true_and] at hall
      repeat' (first | with_reducible refine RunLN.boolF rfl ?_ | (with_reducible refine RunLN.decT ?_ ?_; focus omega) | (with_reducible refine RunLN.neF ?_ ?_; focus omega) | (with_reducible refine RunLN.chk ?_; refine RunLN.int (by (first | (refine wr_i64 ?_ ?_; omega; omega) | (refine wm_i64 ?_; omega) | (refine wq_i64 ?_ ?_ ?_; omega; omega; omega) | rfl)) ?_) | refine RunLN.any ?_ | refine RunL.ev Tryd.tOk rfl rfl rfl ?_ | refine RunL.unwantedD rfl rfl ?_ | refine RunL.evV rfl rfl rfl (OpV.load1 Tryd.tOk rfl rfl rfl ((hrx.up X) 0 _ rfl)) ?_ | refine RunL.evV rfl rfl rfl (OpV.indexS Tryd.tOk _ rfl rfl rfl rfl (by omega)) ?_ | refine RunE.condT rfl rfl ?_ | refine RunE.condF rfl rfl ?_ | refine RunE.seq ?_ | refine RunE.region ?_ | refine RunL.nil ?_ | refine RunE.block ?_ | refine RunE.inBlock ?_ | refine RunE.skip ?_)
      exact RunE.weaken (by repeat (first | exact Sub.nil _ | refine Sub.cons rfl ?_)) (again (i + 1) _ (by omega) ⟨by omega, hall, rfl⟩)
    · have h0' : (x == 0) = false := by simpa using h0
      have cv := fun w => r10_valid_ok x w
      cases hvx : validS x with
      | true =>
        rw [h0', hvx] at hall
        simp only [hvx] at cv
        repeat' (first | with_reducible refine RunLN.boolT rfl ?_ | with_reducible refine RunLN.boolF rfl ?_ | (with_reducible refine RunLN.decT ?_ ?_; focus omega) | (with_reducible refine RunLN.neT ?_ ?_; focus omega) | (with_reducible refine RunLN.chk ?_; refine RunLN.int (by (first | (refine wr_i64 ?_ ?_; omega; omega) | (refine wm_i64 ?_; omega) | (refine wq_i64 ?_ ?_ ?_; omega; omega; omega) | rfl)) ?_) | refine RunLN.any ?_ | refine RunL.ev Tryd.tOk rfl rfl rfl ?_ | refine RunL.evV rfl rfl rfl (OpV.load1 Tryd.tOk rfl rfl rfl ((hrx.up X) 0 _ rfl)) ?_ | refine RunL.callN rfl rfl rfl (cv _) ?_ | refine RunL.evV rfl rfl rfl (OpV.indexS Tryd.tOk _ rfl rfl rfl rfl (by omega)) ?_ | refine RunE.condT rfl rfl ?_ | refine RunE.condF rfl rfl ?_ | refine RunE.seq ?_ | refine RunE.region ?_ | refine RunL.nil ?_ | refine RunE.block ?_ | refine RunE.inBlock ?_ | refine RunE.skip ?_)
        exact RunE.weaken (by repeat (first | exact Sub.nil _ | refine Sub.cons rfl ?_)) (again (i + 1) _ (by omega) ⟨by omega, by rw [hall]; rfl, rfl⟩)
      | false =>
        rw [h0', hvx] at hall
        simp only [hvx] at cv
        repeat' (first | with_reducible refine RunLN.boolT rfl ?_ | with_reducible refine RunLN.boolF rfl ?_ | (with_reducible refine RunLN.decT ?_ ?_; focus omega) | (with_reducible refine RunLN.neT ?_ ?_; focus omega) | (with_reducible refine RunLN.chk ?_; refine RunLN.int (by (first | (refine wr_i64 ?_ ?_; omega; omega) | (refine wm_i64 ?_; omega) | (refine wq_i64 ?_ ?_ ?_; omega; omega; omega) | rfl)) ?_) | refine RunLN.any ?_ | refine RunL.ev Tryd.tOk rfl rfl rfl ?_ | refine RunL.evV rfl rfl rfl (OpV.load1 Tryd.tOk rfl rfl rfl ((hrx.up X) 0 _ rfl)) ?_ | refine RunL.callN rfl rfl rfl (cv _) ?_ | refine RunL.evV rfl rfl rfl (OpV.indexS Tryd.tOk _ rfl rfl rfl rfl (by omega)) ?_ | refine RunE.condT rfl rfl ?_ | refine RunE.seq ?_ | refine RunE.region ?_ | refine RunL.nil ?_ | refine RunE.block ?_ | refine RunE.skip ?_)
        exact RunE.retFn Tryd.func24 (.tmp rfl .nil) ⟨by unfold keysD; rw [hall]; rfl, X⟩
  · obtain rfl : i = ks.length := by omega
    rw [List.drop_length] at hall
    clear again
    have hk : keysD ks = decide ((ks.length : Int) ≤ 64) := by
      unfold keysD; rw [hall]
      rw [List.all_nil, Bool.true_and, Bool.eq_iff_iff, decide_eq_true_eq, decide_eq_true_eq]; omega
    repeat' (first | (with_reducible refine RunLN.decF ?_ ?_; focus omega) | (with_reducible refine RunLN.chk ?_; refine RunLN.int (by (first | (refine wr_i64 ?_ ?_; omega; omega) | (refine wm_i64 ?_; omega) | (refine wq_i64 ?_ ?_ ?_; omega; omega; omega) | rfl)) ?_) | refine RunLN.any ?_ | refine RunL.ev Tryd.tOk rfl rfl rfl ?_ | refine RunL.evV rfl rfl rfl (OpV.lenSl Tryd.tOk rfl rfl hv) ?_ | refine RunE.condF rfl rfl ?_ | refine RunE.seq ?_ | refine RunE.region ?_ | refine RunL.nil ?_ | refine RunE.exit rfl ?_)
    exact RunE.retFn Tryd.func24 (.tmp rfl .nil) ⟨by rw [hk]; rfl, X⟩
theorem rbefore_ok (a b : Deed) (u v u' v' : Value) (w : World) : Rets Tryd.prog 25 [.agg (dCells a u v).toArray, .agg (dCells b u' v').toArray] w fun r w' => r = .bool (befD a b) ∧ Ext w w' := by
  unfold befD
  refine RetsX.of (nt := 30) Tryd.func25 (by kernel_rfl) rfl rfl (by simp) (by simp only [argEnv]; rfl) ?_
  have X := ExtB.refl (fun _ => False) w
  repeat' (first | refine RunE.seq ?_ | refine RunE.region ?_)
  refine RunL.box rfl rfl rfl fun B2 w2_ a_ => ?_
  have Z2 : Blk w2_ B2 (dCells a u v) 29 := a_.at_
  have gB2 := a_.ge X
  replace X := X.trans a_.ext
  clear a_
  skip
  refine RunL.box rfl rfl rfl fun B3 w3_ a_ => ?_
  have Z3 : Blk w3_ B3 (dCells b u' v') 29 := a_.at_
  have gB3 := a_.ge X
  have n2_3 : B2 ≠ B3 := by have := Z2.lt; have := a_.eq; omega
  have n3_2 : B3 ≠ B2 := Ne.symm n2_3
  replace Z2 := Z2.up a_.ext
  replace X := X.trans a_.ext
  clear a_
  by_cases h1 : a.at_ = b.at_
  · have q1 : (a.at_ != b.at_) = false := by simpa using h1
    rw [if_pos h1]
    by_cases h2 : a.person = b.person
    · have q2 : (a.person != b.person) = false := by simpa using h2
      rw [if_pos h2]
      repeat' (first | with_reducible refine RunLN.boolF rfl ?_ | refine RunLN.boolF (by assumption) ?_ | (with_reducible refine RunLN.chk ?_; refine RunLN.int (by (first | (refine wr_i64 ?_ ?_; omega; omega) | (refine wm_i64 ?_; omega) | (refine wq_i64 ?_ ?_ ?_; omega; omega; omega) | rfl)) ?_) | refine RunLN.any ?_ | refine RunL.ev Tryd.tOk rfl rfl rfl ?_ | refine RunL.evV rfl rfl rfl (OpV.load1 Tryd.tOk rfl rfl rfl (Blk.cell Z2 rfl)) ?_ | refine RunL.evV rfl rfl rfl (OpV.load1 Tryd.tOk rfl rfl rfl (Blk.cell Z3 rfl)) ?_ | refine RunE.condF rfl rfl ?_ | refine RunE.seq ?_ | refine RunE.region ?_ | refine RunL.nil ?_ | refine RunE.skip ?_)
      exact RunE.retFn Tryd.func25 (.tmp rfl .nil) ⟨rfl, X⟩
    · have q2 : (a.person != b.person) = true := by simpa using h2
      rw [if_neg h2]
      repeat' (first | with_reducible refine RunLN.boolF rfl ?_ | refine RunLN.boolT (by assumption) ?_ | refine RunLN.boolF (by assumption) ?_ | (with_reducible refine RunLN.chk ?_; refine RunLN.int (by (first | (refine wr_i64 ?_ ?_; omega; omega) | (refine wm_i64 ?_; omega) | (refine wq_i64 ?_ ?_ ?_; omega; omega; omega) | rfl)) ?_) | refine RunLN.any ?_ | refine RunL.ev Tryd.tOk rfl rfl rfl ?_ | refine RunL.evV rfl rfl rfl (OpV.load1 Tryd.tOk rfl rfl rfl (Blk.cell Z2 rfl)) ?_ | refine RunL.evV rfl rfl rfl (OpV.load1 Tryd.tOk rfl rfl rfl (Blk.cell Z3 rfl)) ?_ | refine RunE.condT rfl rfl ?_ | refine RunE.condF rfl rfl ?_ | refine RunE.seq ?_ | refine RunE.region ?_ | refine RunL.nil ?_ | refine RunE.skip ?_)
      exact RunE.retFn Tryd.func25 (.tmp rfl .nil) ⟨rfl, X⟩
  · have q1 : (a.at_ != b.at_) = true := by simpa using h1
    rw [if_neg h1]
    repeat' (first | with_reducible refine RunLN.boolF rfl ?_ | refine RunLN.boolT (by assumption) ?_ | (with_reducible refine RunLN.chk ?_; refine RunLN.int (by (first | (refine wr_i64 ?_ ?_; omega; omega) | (refine wm_i64 ?_; omega) | (refine wq_i64 ?_ ?_ ?_; omega; omega; omega) | rfl)) ?_) | refine RunLN.any ?_ | refine RunL.ev Tryd.tOk rfl rfl rfl ?_ | refine RunL.evV rfl rfl rfl (OpV.load1 Tryd.tOk rfl rfl rfl (Blk.cell Z2 rfl)) ?_ | refine RunL.evV rfl rfl rfl (OpV.load1 Tryd.tOk rfl rfl rfl (Blk.cell Z3 rfl)) ?_ | refine RunE.condT rfl rfl ?_ | refine RunE.seq ?_ | refine RunE.region ?_ | refine RunL.nil ?_)
    exact RunE.retFn Tryd.func25 (.tmp rfl .nil) ⟨rfl, X⟩
set_option maxRecDepth 4000 in
theorem rsameDg_ok (a b : List Dg) (u u' : Value) (w : World) (ha : LDg w u a) (hb : LDg w u' b) (hl : a.length < 9223372036854775808) (hl' : b.length < 9223372036854775808) : Rets Tryd.prog 37 [u, u'] w fun r w' => r = .bool (a == b) ∧ Ext w w' := by
  by_cases hlen : a.length = b.length
  · refine RetsX.of (nt := 26) Tryd.func37 (by kernel_rfl) rfl rfl (by simp) (by simp only [argEnv]; rfl) ?_
    have X := ExtB.refl (fun _ => False) w
    repeat' (first | with_reducible refine RunLN.boolF rfl ?_ | (with_reducible refine RunLN.neF ?_ ?_; focus omega) | (with_reducible refine RunLN.chk ?_; refine RunLN.int (by (first | (refine wr_i64 ?_ ?_; omega; omega) | (refine wm_i64 ?_; omega) | (refine wq_i64 ?_ ?_ ?_; omega; omega; omega) | rfl)) ?_) | refine RunLN.any ?_ | refine RunL.ev Tryd.tOk rfl rfl rfl ?_ | refine RunL.evV rfl rfl rfl (OpV.lenSl Tryd.tOk rfl rfl ha) ?_ | refine RunL.evV rfl rfl rfl (OpV.lenSl Tryd.tOk rfl rfl hb) ?_ | refine RunE.condF rfl rfl ?_ | refine RunE.seq ?_ | refine RunE.region ?_ | refine RunL.nil ?_ | refine RunE.block ?_ | refine RunE.skip ?_)
    refine RunE.loop (ι := Nat) (fun s => [(0, u), (1, u'), (4, .bool false), (5, .int .i64 (s : Int))])
      (fun s w' => s ≤ a.length ∧ (a == b) = (a.drop s == b.drop s) ∧ Ext w w') (fun s => a.length - s) 0 (by repeat (first | exact Sub.nil _ | refine Sub.cons rfl ?_)) ⟨Nat.zero_le _, rfl, X⟩ ?_
    clear X
    rintro i w3 ⟨hi, heq, X⟩ again
    by_cases hlt : i < a.length
    · obtain ⟨x, hx⟩ : ∃ x, a[i]? = some x := ⟨_, List.getElem?_eq_getElem hlt⟩
      obtain ⟨y, hy⟩ : ∃ y, b[i]? = some y := ⟨_, List.getElem?_eq_getElem (by omega)⟩
      rw [eqL_step hx hy] at heq
      obtain ⟨b1, o1, c1, rfl, hr1, -⟩ := isL_held ha hlt
      obtain ⟨b2, o2, c2, rfl, hr2, -⟩ := isL_held hb (show i < b.length by omega)
      have hrx := flat_row encG (hr1.up X) hx
      have hry := flat_row encG (hr2.up X) hy
      repeat' (first | (with_reducible refine RunLN.decT ?_ ?_; focus omega) | (with_reducible refine RunLN.chk ?_; refine RunLN.int (by (first | (refine wr_i64 ?_ ?_; omega; omega) | (refine wm_i64 ?_; omega) | (refine wq_i64 ?_ ?_ ?_; omega; omega; omega) | rfl)) ?_) | refine RunLN.any ?_ | refine RunL.ev Tryd.tOk rfl rfl rfl ?_ | refine RunE.condT rfl rfl ?_ | refine RunE.seq ?_ | refine RunE.region ?_ | refine RunL.nil ?_ | refine RunE.block ?_ | refine RunE.skip ?_)
      refine RunE.draw (fun _ => False) mix ?_
      intro wd_ Xd_
      cases hxy : (x == y) with
      | true =>
        have hq : (!(x == y)) = false := by rw [hxy]; rfl
        rw [hxy, Bool.true_and] at heq
        repeat' (first | refine AsyN.boolF (by assumption) ?_ | (with_reducible refine AsyN.chk ?_; refine AsyN.int (by (first | (refine wr_i64 ?_ ?_; omega; omega) | (refine wm_i64 ?_; omega) | (refine wq_i64 ?_ ?_ ?_; omega; omega; omega) | rfl)) ?_) | refine AsyN.any ?_ | refine Asy.ev Tryd.tOk rfl rfl rfl ?_ | refine Asy.evV rfl rfl rfl rfl (fun _ X_ => OpV.indexS Tryd.tOk i rfl rfl rfl (by first | rfl | omega) (by omega)) ?_ | refine Asy.evV rfl rfl rfl rfl (fun _ X_ => OpV.loadN Tryd.tOk rfl rfl rfl rfl (hrx.up (Xd_.trans X_))) ?_ | refine Asy.evV rfl rfl rfl rfl (fun _ X_ => OpV.loadN Tryd.tOk rfl rfl rfl rfl (hry.up (Xd_.trans X_))) ?_ | refine Asy.evV rfl rfl rfl rfl (fun _ X_ => (OpV.neDg (a := x) (b := y) bytesArr rfl rfl)) ?_)
        refine Asy.end_ (by kernel_rfl) ?_
        intro we_ Xe_
        replace X := X.trans (Xd_.trans Xe_)
        clear Xd_ Xe_
        repeat' (first | (with_reducible refine RunLN.chk ?_; refine RunLN.int (by (first | (refine wr_i64 ?_ ?_; omega; omega) | (refine wm_i64 ?_; omega) | (refine wq_i64 ?_ ?_ ?_; omega; omega; omega) | rfl)) ?_) | refine RunL.ev Tryd.tOk rfl rfl rfl ?_ | refine RunE.condF rfl rfl ?_ | refine RunE.region ?_ | refine RunL.nil ?_ | refine RunE.inBlock ?_ | refine RunE.skip ?_)
        exact RunE.weaken (by repeat (first | exact Sub.nil _ | refine Sub.cons rfl ?_)) (again (i + 1) _ (by omega) ⟨by omega, heq, X⟩)
      | false =>
        have hq : (!(x == y)) = true := by rw [hxy]; rfl
        rw [hxy, Bool.false_and] at heq
        repeat' (first | refine AsyN.boolT (by assumption) ?_ | (with_reducible refine AsyN.chk ?_; refine AsyN.int (by (first | (refine wr_i64 ?_ ?_; omega; omega) | (refine wm_i64 ?_; omega) | (refine wq_i64 ?_ ?_ ?_; omega; omega; omega) | rfl)) ?_) | refine AsyN.any ?_ | refine Asy.ev Tryd.tOk rfl rfl rfl ?_ | refine Asy.evV rfl rfl rfl rfl (fun _ X_ => OpV.indexS Tryd.tOk i rfl rfl rfl (by first | rfl | omega) (by omega)) ?_ | refine Asy.evV rfl rfl rfl rfl (fun _ X_ => OpV.loadN Tryd.tOk rfl rfl rfl rfl (hrx.up (Xd_.trans X_))) ?_ | refine Asy.evV rfl rfl rfl rfl (fun _ X_ => OpV.loadN Tryd.tOk rfl rfl rfl rfl (hry.up (Xd_.trans X_))) ?_ | refine Asy.evV rfl rfl rfl rfl (fun _ X_ => (OpV.neDg (a := x) (b := y) bytesArr rfl rfl)) ?_)
        refine Asy.end_ (by kernel_rfl) ?_
        intro we_ Xe_
        replace X := X.trans (Xd_.trans Xe_)
        clear Xd_ Xe_
        repeat' (first | with_reducible refine RunLN.boolF rfl ?_ | refine RunL.ev Tryd.tOk rfl rfl rfl ?_ | refine RunE.condT rfl rfl ?_ | refine RunE.seq ?_ | refine RunE.region ?_ | refine RunL.nil ?_)
        exact RunE.retFn Tryd.func37 (.tmp rfl .nil) ⟨by rw [heq]; rfl, X⟩
    · obtain rfl : i = a.length := by omega
      rw [List.drop_length, List.drop_eq_nil_of_le (by omega)] at heq
      clear again
      repeat' (first | with_reducible refine RunLN.boolT rfl ?_ | (with_reducible refine RunLN.decF ?_ ?_; focus omega) | (with_reducible refine RunLN.chk ?_; refine RunLN.int (by (first | (refine wr_i64 ?_ ?_; omega; omega) | (refine wm_i64 ?_; omega) | (refine wq_i64 ?_ ?_ ?_; omega; omega; omega) | rfl)) ?_) | refine RunLN.any ?_ | refine RunL.ev Tryd.tOk rfl rfl rfl ?_ | refine RunL.evV rfl rfl rfl (OpV.lenSl Tryd.tOk rfl rfl ha) ?_ | refine RunE.condF rfl rfl ?_ | refine RunE.seq ?_ | refine RunE.region ?_ | refine RunL.nil ?_ | refine RunE.exit rfl ?_)
      exact RunE.retFn Tryd.func37 (.tmp rfl .nil) ⟨by rw [heq]; rfl, X⟩
  · have heq : (a == b) = false := by
      cases e : (a == b) with
      | false => rfl
      | true => exact absurd (by rw [beq_iff_eq.1 e]) hlen
    have hlen' : (a.length : Int) ≠ (b.length : Int) := by omega
    refine RetsX.of (nt := 26) Tryd.func37 (by kernel_rfl) rfl rfl (by simp) (by simp only [argEnv]; rfl) ?_
    have X := ExtB.refl (fun _ => False) w
    repeat' (first | with_reducible refine RunLN.boolF rfl ?_ | (with_reducible refine RunLN.neT ?_ ?_; focus omega) | (with_reducible refine RunLN.chk ?_; refine RunLN.int (by (first | (refine wr_i64 ?_ ?_; omega; omega) | (refine wm_i64 ?_; omega) | (refine wq_i64 ?_ ?_ ?_; omega; omega; omega) | rfl)) ?_) | refine RunLN.any ?_ | refine RunL.ev Tryd.tOk rfl rfl rfl ?_ | refine RunL.evV rfl rfl rfl (OpV.lenSl Tryd.tOk rfl rfl ha) ?_ | refine RunL.evV rfl rfl rfl (OpV.lenSl Tryd.tOk rfl rfl hb) ?_ | refine RunE.condT rfl rfl ?_ | refine RunE.seq ?_ | refine RunE.region ?_ | refine RunL.nil ?_)
    exact RunE.retFn Tryd.func37 (.tmp rfl .nil) ⟨by rw [heq]; rfl, X⟩
theorem rfewD_ok (d : Deed) (u v : Value) (w : World) (hs : LDg w u d.seen) (hb : LBy w v d.data) : Rets Tryd.prog 10 [.agg (dCells d u v).toArray] w fun r w' => r = .bool (fewD d) ∧ Ext w w' := by
  refine RetsX.of (nt := 13) Tryd.func10 (by kernel_rfl) rfl rfl (by simp) (by simp only [argEnv]; rfl) ?_
  have X := ExtB.refl (fun _ => False) w
  repeat' (first | refine RunE.seq ?_ | refine RunE.region ?_)
  refine RunL.box rfl rfl rfl fun B1 w1_ a_ => ?_
  have Z1 : Blk w1_ B1 (dCells d u v) 29 := a_.at_
  have gB1 := a_.ge X
  replace X := X.trans a_.ext
  clear a_
  unfold fewD
  by_cases h1 : d.seen.length ≤ 70
  · by_cases h2 : d.data.length ≤ 1000
    · rw [decide_eq_true ⟨h1, h2⟩]
      repeat' (first | with_reducible refine RunLN.boolT rfl ?_ | with_reducible refine RunLN.boolF rfl ?_ | (with_reducible refine RunLN.decT ?_ ?_; focus omega) | (with_reducible refine RunLN.chk ?_; refine RunLN.int (by (first | (refine wr_i64 ?_ ?_; omega; omega) | (refine wm_i64 ?_; omega) | (refine wq_i64 ?_ ?_ ?_; omega; omega; omega) | rfl)) ?_) | refine RunLN.any ?_ | refine RunL.ev Tryd.tOk rfl rfl rfl ?_ | refine RunL.evV rfl rfl rfl (OpV.load1 Tryd.tOk rfl rfl rfl (Blk.cell Z1 rfl)) ?_ | refine RunL.evV rfl rfl rfl (OpV.lenSl Tryd.tOk rfl rfl hs) ?_ | refine RunL.evV rfl rfl rfl (OpV.lenSl Tryd.tOk rfl rfl hb) ?_ | refine RunE.seq ?_ | refine RunE.region ?_ | refine RunL.nil ?_)
      exact RunE.retFn Tryd.func10 (.tmp rfl .nil) ⟨rfl, X⟩
    · rw [decide_eq_false fun h => h2 h.2]
      repeat' (first | with_reducible refine RunLN.boolT rfl ?_ | with_reducible refine RunLN.boolF rfl ?_ | (with_reducible refine RunLN.decT ?_ ?_; focus omega) | (with_reducible refine RunLN.decF ?_ ?_; focus omega) | (with_reducible refine RunLN.chk ?_; refine RunLN.int (by (first | (refine wr_i64 ?_ ?_; omega; omega) | (refine wm_i64 ?_; omega) | (refine wq_i64 ?_ ?_ ?_; omega; omega; omega) | rfl)) ?_) | refine RunLN.any ?_ | refine RunL.ev Tryd.tOk rfl rfl rfl ?_ | refine RunL.evV rfl rfl rfl (OpV.load1 Tryd.tOk rfl rfl rfl (Blk.cell Z1 rfl)) ?_ | refine RunL.evV rfl rfl rfl (OpV.lenSl Tryd.tOk rfl rfl hs) ?_ | refine RunL.evV rfl rfl rfl (OpV.lenSl Tryd.tOk rfl rfl hb) ?_ | refine RunE.seq ?_ | refine RunE.region ?_ | refine RunL.nil ?_)
      exact RunE.retFn Tryd.func10 (.tmp rfl .nil) ⟨rfl, X⟩
  · rw [decide_eq_false fun h => h1 h.1]
    repeat' (first | with_reducible refine RunLN.boolF rfl ?_ | (with_reducible refine RunLN.decF ?_ ?_; focus omega) | (with_reducible refine RunLN.chk ?_; refine RunLN.int (by (first | (refine wr_i64 ?_ ?_; omega; omega) | (refine wm_i64 ?_; omega) | (refine wq_i64 ?_ ?_ ?_; omega; omega; omega) | rfl)) ?_) | refine RunLN.any ?_ | refine RunL.ev Tryd.tOk rfl rfl rfl ?_ | refine RunL.unwantedD rfl rfl ?_ | refine RunL.evV rfl rfl rfl (OpV.load1 Tryd.tOk rfl rfl rfl (Blk.cell Z1 rfl)) ?_ | refine RunL.evV rfl rfl rfl (OpV.lenSl Tryd.tOk rfl rfl hs) ?_ | refine RunE.seq ?_ | refine RunE.region ?_ | refine RunL.nil ?_)
    exact RunE.retFn Tryd.func10 (.tmp rfl .nil) ⟨rfl, X⟩
set_option maxRecDepth 4000 in
set_option maxHeartbeats 4000000 in
theorem rsameF_ok (a b : Deed) (u v u' v' : Value) (w : World) (hs : LDg w u a.seen) (hb : LBy w v a.data) (hs' : LDg w u' b.seen) (hb' : LBy w v' b.data) (hl : a.seen.length < 9223372036854775808) (hl' : b.seen.length < 9223372036854775808) : Rets Tryd.prog 17 [.agg (dCells a u v).toArray, .agg (dCells b u' v').toArray] w fun r w' => r = .bool (sameF a b) ∧ Ext w w' := by
  have c1 := fun w h h' => rsameDg_ok a.seen b.seen u u' w h h' hl hl'
  unfold sameF
  refine RetsX.of (nt := 47) Tryd.func17 (by kernel_rfl) rfl rfl (by simp) (by simp only [argEnv]; rfl) ?_
  have X := ExtB.refl (fun _ => False) w
  repeat' (first | refine RunE.seq ?_ | refine RunE.region ?_)
  refine RunL.box rfl rfl rfl fun B2 w2_ a_ => ?_
  have Z2 : Blk w2_ B2 (dCells a u v) 29 := a_.at_
  have gB2 := a_.ge X
  replace X := X.trans a_.ext
  clear a_
  skip
  refine RunL.box rfl rfl rfl fun B3 w3_ a_ => ?_
  have Z3 : Blk w3_ B3 (dCells b u' v') 29 := a_.at_
  have gB3 := a_.ge X
  have n2_3 : B2 ≠ B3 := by have := Z2.lt; have := a_.eq; omega
  have n3_2 : B3 ≠ B2 := Ne.symm n2_3
  replace Z2 := Z2.up a_.ext
  replace X := X.trans a_.ext
  clear a_
  cases q1 : (a.person == b.person) with
  | false =>
    repeat' (first | with_reducible refine RunLN.boolF rfl ?_ | refine RunLN.boolF (by assumption) ?_ | (with_reducible refine RunLN.chk ?_; refine RunLN.int (by (first | (refine wr_i64 ?_ ?_; omega; omega) | (refine wm_i64 ?_; omega) | (refine wq_i64 ?_ ?_ ?_; omega; omega; omega) | rfl)) ?_) | refine RunLN.any ?_ | refine RunL.ev Tryd.tOk rfl rfl rfl ?_ | refine RunL.unwantedD rfl rfl ?_ | refine RunL.evV rfl rfl rfl (OpV.load1 Tryd.tOk rfl rfl rfl (Blk.cell Z2 rfl)) ?_ | refine RunL.evV rfl rfl rfl (OpV.load1 Tryd.tOk rfl rfl rfl (Blk.cell Z3 rfl)) ?_ | refine RunE.seq ?_ | refine RunE.region ?_ | refine RunL.nil ?_)
    exact RunE.retFn Tryd.func17 (.tmp rfl .nil) ⟨rfl, X⟩
  | true =>
  cases q2 : (a.no == b.no) with
  | false =>
    repeat' (first | with_reducible refine RunLN.boolT rfl ?_ | with_reducible refine RunLN.boolF rfl ?_ | refine RunLN.boolT (by assumption) ?_ | refine RunLN.boolF (by assumption) ?_ | (with_reducible refine RunLN.chk ?_; refine RunLN.int (by (first | (refine wr_i64 ?_ ?_; omega; omega) | (refine wm_i64 ?_; omega) | (refine wq_i64 ?_ ?_ ?_; omega; omega; omega) | rfl)) ?_) | refine RunLN.any ?_ | refine RunL.ev Tryd.tOk rfl rfl rfl ?_ | refine RunL.unwantedD rfl rfl ?_ | refine RunL.evV rfl rfl rfl (OpV.load1 Tryd.tOk rfl rfl rfl (Blk.cell Z2 rfl)) ?_ | refine RunL.evV rfl rfl rfl (OpV.load1 Tryd.tOk rfl rfl rfl (Blk.cell Z3 rfl)) ?_ | refine RunE.seq ?_ | refine RunE.region ?_ | refine RunL.nil ?_)
    exact RunE.retFn Tryd.func17 (.tmp rfl .nil) ⟨rfl, X⟩
  | true =>
  cases q3 : (a.at_ == b.at_) with
  | false =>
    repeat' (first | with_reducible refine RunLN.boolT rfl ?_ | with_reducible refine RunLN.boolF rfl ?_ | refine RunLN.boolT (by assumption) ?_ | refine RunLN.boolF (by assumption) ?_ | (with_reducible refine RunLN.chk ?_; refine RunLN.int (by (first | (refine wr_i64 ?_ ?_; omega; omega) | (refine wm_i64 ?_; omega) | (refine wq_i64 ?_ ?_ ?_; omega; omega; omega) | rfl)) ?_) | refine RunLN.any ?_ | refine RunL.ev Tryd.tOk rfl rfl rfl ?_ | refine RunL.unwantedD rfl rfl ?_ | refine RunL.evV rfl rfl rfl (OpV.load1 Tryd.tOk rfl rfl rfl (Blk.cell Z2 rfl)) ?_ | refine RunL.evV rfl rfl rfl (OpV.load1 Tryd.tOk rfl rfl rfl (Blk.cell Z3 rfl)) ?_ | refine RunE.seq ?_ | refine RunE.region ?_ | refine RunL.nil ?_)
    exact RunE.retFn Tryd.func17 (.tmp rfl .nil) ⟨rfl, X⟩
  | true =>
  cases q4 : (a.prev == b.prev) with
  | false =>
    repeat' (first | with_reducible refine RunLN.boolT rfl ?_ | with_reducible refine RunLN.boolF rfl ?_ | refine RunLN.boolT (by assumption) ?_ | refine RunLN.boolF (by assumption) ?_ | (with_reducible refine RunLN.chk ?_; refine RunLN.int (by (first | (refine wr_i64 ?_ ?_; omega; omega) | (refine wm_i64 ?_; omega) | (refine wq_i64 ?_ ?_ ?_; omega; omega; omega) | rfl)) ?_) | refine RunLN.any ?_ | refine RunL.ev Tryd.tOk rfl rfl rfl ?_ | refine RunL.unwantedD rfl rfl ?_ | refine RunL.evV rfl rfl rfl (OpV.load1 Tryd.tOk rfl rfl rfl (Blk.cell Z2 rfl)) ?_ | refine RunL.evV rfl rfl rfl (OpV.load1 Tryd.tOk rfl rfl rfl (Blk.cell Z3 rfl)) ?_ | refine RunL.evV rfl rfl rfl (OpV.loadN Tryd.tOk rfl rfl rfl rfl (row_prev (Blk.row Z2))) ?_ | refine RunL.evV rfl rfl rfl (OpV.loadN Tryd.tOk rfl rfl rfl rfl (row_prev (Blk.row Z3))) ?_ | refine RunL.evV rfl rfl rfl ((OpV.eqDg (a := a.prev) (b := b.prev) bytesArr rfl rfl)) ?_ | refine RunE.seq ?_ | refine RunE.region ?_ | refine RunL.nil ?_)
    exact RunE.retFn Tryd.func17 (.tmp rfl .nil) ⟨rfl, X⟩
  | true =>
  cases q5 : (a.seen == b.seen) with
  | false =>
    rw [q5] at c1
    repeat' (first | with_reducible refine RunLN.boolT rfl ?_ | with_reducible refine RunLN.boolF rfl ?_ | refine RunLN.boolT (by assumption) ?_ | (with_reducible refine RunLN.chk ?_; refine RunLN.int (by (first | (refine wr_i64 ?_ ?_; omega; omega) | (refine wm_i64 ?_; omega) | (refine wq_i64 ?_ ?_ ?_; omega; omega; omega) | rfl)) ?_) | refine RunLN.any ?_ | refine RunL.ev Tryd.tOk rfl rfl rfl ?_ | refine RunL.evV rfl rfl rfl (OpV.load1 Tryd.tOk rfl rfl rfl (Blk.cell Z2 rfl)) ?_ | refine RunL.evV rfl rfl rfl (OpV.load1 Tryd.tOk rfl rfl rfl (Blk.cell Z3 rfl)) ?_ | refine RunL.evV rfl rfl rfl (OpV.loadN Tryd.tOk rfl rfl rfl rfl (row_prev (Blk.row Z2))) ?_ | refine RunL.evV rfl rfl rfl (OpV.loadN Tryd.tOk rfl rfl rfl rfl (row_prev (Blk.row Z3))) ?_ | refine RunL.evV rfl rfl rfl ((OpV.eqDg (a := a.prev) (b := b.prev) bytesArr rfl rfl)) ?_ | refine RunE.seq ?_ | refine RunE.region ?_ | refine RunL.nil ?_)
    refine RunL.call rfl rfl rfl (c1 _ (hs.up X) (hs'.up X)) ?_
    rintro _ _ ⟨rfl, Xa_⟩
    replace Z2 := Z2.up Xa_
    replace Z3 := Z3.up Xa_
    replace X := X.trans Xa_
    clear Xa_
    repeat' (first | with_reducible refine RunLN.boolF rfl ?_ | refine RunL.ev Tryd.tOk rfl rfl rfl ?_ | refine RunL.unwantedD rfl rfl ?_ | refine RunL.nil ?_)
    exact RunE.retFn Tryd.func17 (.tmp rfl .nil) ⟨rfl, X⟩
  | true =>
    rw [q5] at c1
    repeat' (first | with_reducible refine RunLN.boolT rfl ?_ | with_reducible refine RunLN.boolF rfl ?_ | refine RunLN.boolT (by assumption) ?_ | (with_reducible refine RunLN.chk ?_; refine RunLN.int (by (first | (refine wr_i64 ?_ ?_; omega; omega) | (refine wm_i64 ?_; omega) | (refine wq_i64 ?_ ?_ ?_; omega; omega; omega) | rfl)) ?_) | refine RunLN.any ?_ | refine RunL.ev Tryd.tOk rfl rfl rfl ?_ | refine RunL.evV rfl rfl rfl (OpV.load1 Tryd.tOk rfl rfl rfl (Blk.cell Z2 rfl)) ?_ | refine RunL.evV rfl rfl rfl (OpV.load1 Tryd.tOk rfl rfl rfl (Blk.cell Z3 rfl)) ?_ | refine RunL.evV rfl rfl rfl (OpV.loadN Tryd.tOk rfl rfl rfl rfl (row_prev (Blk.row Z2))) ?_ | refine RunL.evV rfl rfl rfl (OpV.loadN Tryd.tOk rfl rfl rfl rfl (row_prev (Blk.row Z3))) ?_ | refine RunL.evV rfl rfl rfl ((OpV.eqDg (a := a.prev) (b := b.prev) bytesArr rfl rfl)) ?_ | refine RunE.seq ?_ | refine RunE.region ?_ | refine RunL.nil ?_)
    refine RunL.call rfl rfl rfl (c1 _ (hs.up X) (hs'.up X)) ?_
    rintro _ _ ⟨rfl, Xa_⟩
    replace Z2 := Z2.up Xa_
    replace Z3 := Z3.up Xa_
    replace X := X.trans Xa_
    clear Xa_
    repeat' (first | with_reducible refine RunLN.boolT rfl ?_ | refine RunLN.any ?_ | refine RunL.ev Tryd.tOk rfl rfl rfl ?_ | refine RunL.evV rfl rfl rfl (OpV.load1 Tryd.tOk rfl rfl rfl (Blk.cell Z2 rfl)) ?_ | refine RunL.evV rfl rfl rfl (OpV.load1 Tryd.tOk rfl rfl rfl (Blk.cell Z3 rfl)) ?_ | refine RunL.evV rfl rfl rfl ((OpV.b2sSl (l := a.data) Tryd.tOk rfl rfl rfl rfl (hb.up X))) ?_ | refine RunL.evV rfl rfl rfl ((OpV.b2sSl (l := b.data) Tryd.tOk rfl rfl rfl rfl (hb'.up X))) ?_ | refine RunL.nil ?_)
    exact RunE.retFn Tryd.func17 (.tmp rfl .nil) ⟨by rw [str_toList, str_toList]; rfl, X⟩
theorem rsameD_ok (a b : Deed) (u v u' v' : Value) (w : World) (hs : LDg w u a.seen) (hb : LBy w v a.data) (hs' : LDg w u' b.seen) (hb' : LBy w v' b.data) (hl : a.seen.length < 9223372036854775808) (hl' : b.seen.length < 9223372036854775808) : Rets Tryd.prog 15 [.agg (dCells a u v).toArray, .agg (dCells b u' v').toArray] w fun r w' => r = .bool (sameD a b) ∧ Ext w w' := by
  have c1 := fun w h1 h2 h3 h4 => rsameF_ok a b u v u' v' w h1 h2 h3 h4 hl hl'
  unfold sameD
  refine RetsX.of (nt := 15) Tryd.func15 (by kernel_rfl) rfl rfl (by simp) (by simp only [argEnv]; rfl) ?_
  have X := ExtB.refl (fun _ => False) w
  repeat' (first | refine RunE.seq ?_ | refine RunE.region ?_)
  refine RunL.box rfl rfl rfl fun B2 w2_ a_ => ?_
  have Z2 : Blk w2_ B2 (dCells a u v) 29 := a_.at_
  have gB2 := a_.ge X
  replace X := X.trans a_.ext
  clear a_
  skip
  refine RunL.box rfl rfl rfl fun B3 w3_ a_ => ?_
  have Z3 : Blk w3_ B3 (dCells b u' v') 29 := a_.at_
  have gB3 := a_.ge X
  have n2_3 : B2 ≠ B3 := by have := Z2.lt; have := a_.eq; omega
  have n3_2 : B3 ≠ B2 := Ne.symm n2_3
  replace Z2 := Z2.up a_.ext
  replace X := X.trans a_.ext
  clear a_
  repeat' (first | with_reducible refine RunLN.boolF rfl ?_ | refine RunLN.any ?_ | refine RunL.ev Tryd.tOk rfl rfl rfl ?_ | refine RunL.evV rfl rfl rfl (OpV.loadN Tryd.tOk rfl rfl rfl rfl (Blk.row Z2)) ?_ | refine RunL.evV rfl rfl rfl (OpV.loadN Tryd.tOk rfl rfl rfl rfl (Blk.row Z3)) ?_ | refine RunE.seq ?_ | refine RunE.region ?_ | refine RunL.nil ?_)
  refine RunL.call rfl rfl rfl (c1 _ (hs.up X) (hb.up X) (hs'.up X) (hb'.up X)) ?_
  rintro _ _ ⟨rfl, Xa_⟩
  replace Z2 := Z2.up Xa_
  replace Z3 := Z3.up Xa_
  replace X := X.trans Xa_
  clear Xa_
  cases sameF a b with
  | false =>
    repeat' (first | with_reducible refine RunLN.boolF rfl ?_ | refine RunL.ev Tryd.tOk rfl rfl rfl ?_ | refine RunL.unwantedD rfl rfl ?_ | refine RunL.nil ?_)
    exact RunE.retFn Tryd.func15 (.tmp rfl .nil) ⟨rfl, X⟩
  | true =>
    repeat' (first | with_reducible refine RunLN.boolT rfl ?_ | refine RunLN.any ?_ | refine RunL.ev Tryd.tOk rfl rfl rfl ?_ | refine RunL.evV rfl rfl rfl (OpV.loadN Tryd.tOk rfl rfl rfl rfl (row_sig (Blk.row Z2))) ?_ | refine RunL.evV rfl rfl rfl (OpV.loadN Tryd.tOk rfl rfl rfl rfl (row_sig (Blk.row Z3))) ?_ | refine RunL.evV rfl rfl rfl ((OpV.eqTwo sigTwo (a := a.e) (b := a.s) (c := b.e) (d := b.s) rfl rfl)) ?_ | refine RunL.nil ?_)
    exact RunE.retFn Tryd.func15 (.tmp rfl .nil) ⟨rfl, X⟩
end Go.Sg
end
section
/- The walks of package signatoryref11: Mod, Times, Power, Quotient. -/
namespace Go.Sg
open Go.Rn Go.NT Go.Sha Go.Cod Go.Proofs
attribute [local irreducible] Go.Rn.RunL Go.Rn.RunE Go.Rn.Asy Go.Rn.OpV Go.Rn.OpE Go.Rn.ExecE

theorem r11_mod_ok (n : Int) (w : World) : Rets Tryd.prog 79 [.int .i64 n] w fun v w' => v = .int .i64 (n % 1073741789) ∧ w = w' := by
  have h1 := tmod_cases n 1073741789 (by decide)
  refine RetsX.of (nt := 10) Tryd.func79 (by kernel_rfl) rfl rfl (by simp) (by simp only [argEnv]; rfl) ?_
  repeat (first | refine RunL.pureI Tryd.tOk rfl rfl rfl (by (first | exact wr_i64 (by omega) (by omega) | exact wm_i64 (by omega) | exact wq_i64 (by omega) (by omega) (by omega) | rfl)) ?_ | refine RunL.pure Tryd.tOk rfl rfl rfl ?_ | refine RunE.seq ?_ | refine RunE.region ?_ | refine RunL.nil ?_)
  refine RunE.cond rfl (fun h => ?_) (fun h => ?_) <;> (first | replace h := of_decide_eq_true h | replace h := of_decide_eq_false h | replace h := beq_iff_eq.1 h | replace h := beq_eq_false_iff_ne.1 h | replace h := bne_iff_ne.1 h | replace h := bne_eq_false_iff_eq.1 h | skip)
  · repeat (first | refine RunL.pureI Tryd.tOk rfl rfl rfl (by (first | exact wr_i64 (by omega) (by omega) | exact wm_i64 (by omega) | exact wq_i64 (by omega) (by omega) (by omega) | rfl)) ?_ | refine RunE.seq ?_ | refine RunE.region ?_ | refine RunL.nil ?_)
    refine RunE.retFn Tryd.func79 (.tmp rfl .nil) ⟨?_, rfl⟩
    simp only [oneOr]
    congr 1; omega
  · repeat (first | refine RunL.pureI Tryd.tOk rfl rfl rfl (by (first | exact wr_i64 (by omega) (by omega) | exact wm_i64 (by omega) | exact wq_i64 (by omega) (by omega) (by omega) | rfl)) ?_ | refine RunE.seq ?_ | refine RunE.region ?_ | refine RunL.nil ?_ | refine RunE.skip ?_)
    refine RunE.retFn Tryd.func79 (.tmp rfl .nil) ⟨?_, rfl⟩
    simp only [oneOr]
    congr 1; omega
theorem r11_times_ok (a n : Int) (w : World) : Rets Tryd.prog 64 [.int .i64 a, .int .i64 n] w fun v w' => v = .int .i64 ((a % 1073741789) * (n % 1073741789) % 1073741789) ∧ w = w' := by
  have h1 := q_bd a
  have h2 := q_bd n
  have hm := mul_bd30 (i := a % 1073741789) (k := n % 1073741789) (by omega) (by omega)
  refine RetsX.of (nt := 11) Tryd.func64 (by kernel_rfl) rfl rfl (by simp) (by simp only [argEnv]; rfl) ?_
  repeat (first | refine RunL.pureI Tryd.tOk rfl rfl rfl (by (first | exact wr_i64 (by omega) (by omega) | exact wm_i64 (by omega) | exact wq_i64 (by omega) (by omega) (by omega) | rfl)) ?_ | refine RunE.seq ?_ | refine RunE.region ?_ | refine RunL.nil ?_)
  refine RunL.call rfl rfl rfl (r11_mod_ok a _) ?_
  rintro _ _ ⟨rfl, rfl⟩
  repeat (first | refine RunL.pureI Tryd.tOk rfl rfl rfl (by (first | exact wr_i64 (by omega) (by omega) | exact wm_i64 (by omega) | exact wq_i64 (by omega) (by omega) (by omega) | rfl)) ?_)
  refine RunL.call rfl rfl rfl (r11_mod_ok n _) ?_
  rintro _ _ ⟨rfl, rfl⟩
  repeat (first | refine RunL.pureI Tryd.tOk rfl rfl rfl (by (first | exact wr_i64 (by omega) (by omega) | exact wm_i64 (by omega) | exact wq_i64 (by omega) (by omega) (by omega) | rfl)) ?_ | refine RunL.nil ?_)
  exact RunE.retFn Tryd.func64 (.tmp rfl .nil) ⟨rfl, rfl⟩

theorem qpow_step1 (c x : Int) (m : Nat) (h : m % 2 = 1) : (c * x % 1073741789 * (x * x % 1073741789) ^ (m / 2)) % 1073741789 = c * x ^ m % 1073741789 := by
  have hn : m = 2 * (m / 2) + 1 := by omega
  have e : x ^ m = x * (x * x) ^ (m / 2) := by
    conv => lhs; rw [hn]
    rw [Int.pow_succ, Int.pow_mul, Int.mul_comm, show x ^ 2 = x * x by rw [Int.pow_succ, Int.pow_succ]; simp]
  rw [e, ← Int.mul_assoc]
  exact mul_mod_congr (by simp) (pow_mod _ _ _)
theorem qpow_step0 (c x : Int) (m : Nat) (h : m % 2 = 0) : (c * (x * x % 1073741789) ^ (m / 2)) % 1073741789 = c * x ^ m % 1073741789 := by
  have hn : m = 2 * (m / 2) := by omega
  have e : x ^ m = (x * x) ^ (m / 2) := by
    conv => lhs; rw [hn]
    rw [Int.pow_mul, show x ^ 2 = x * x by rw [Int.pow_succ, Int.pow_succ]; simp]
  rw [e]
  exact mul_mod_congr rfl (pow_mod _ _ _)
def quo (a b : Int) : Int := a % 1073741789 * (b ^ 1073741787 % 1073741789) % 1073741789
end Go.Sg
end
section
/- The walks of package signatoryref11: Sign, Verify. -/
namespace Go.Sg
open Go.Rn Go.NT Go.Sha Go.Cod Go.Proofs
attribute [local irreducible] Go.Rn.RunL Go.Rn.RunE Go.Rn.Asy Go.Rn.OpV Go.Rn.OpE Go.Rn.ExecE

set_option maxHeartbeats 2000000 in
theorem r11_sign_ok (x : Int) (v : Value) (b : List UInt8) (w : World) (hx : -9223372036854775808 ≤ x ∧ x < 9223372036854775808) (hv : IsSl w 1 v b.length (bytesV b)) (hb : b.length ≤ 800000) :
    Rets Tryd.prog 31 [.int .i64 x, v] w fun r w' => r = .tuple #[.agg #[.int .i64 (sigE x b), .int .i64 (sigS x b)], .int .i64 (sigR x)] ∧ Ext w w' := by
  have he := enc2_le x b hx hb
  refine RetsX.of (nt := 58) Tryd.func31 (by kernel_rfl) rfl rfl (by simp) (by simp only [argEnv]; rfl) ?_
  repeat (first | refine RunE.seq ?_ | refine RunE.region ?_)
  refine RunL.alloc Tryd.tOk rfl rfl rfl fun B4 w1 a1 => ?_
  have Z1 : Blk w1 B4 [.int .i64 0, .int .i64 0] 27 := a1.at_
  have hB4 := a1.eq
  have X1 := a1.ext
  have z1 := a1.size
  clear a1
  cases hq : inQ x with
  | false =>
    have hq' : ¬ (1 ≤ x ∧ x < 1073741789) := of_decide_eq_false hq
    by_cases h1 : x < 1
    · repeat (first | refine RunL.pureB Tryd.tOk _ rfl rfl rfl (by exact decide_eq_true h1) ?_ | refine RunL.pureI Tryd.tOk rfl rfl rfl (by (first | exact wr_i64 (by omega) (by omega) | exact wm_i64 (by omega) | exact wq_i64 (by omega) (by omega) (by omega) | rfl)) ?_ | refine RunL.pure Tryd.tOk rfl rfl rfl ?_ | refine RunL.unwantedD rfl rfl ?_ | refine RunE.seq ?_ | refine RunE.region ?_ | refine RunL.nil ?_)
      refine RunE.condT rfl rfl ?_
      repeat (first | refine RunL.pure Tryd.tOk rfl rfl rfl ?_ | refine RunE.seq ?_ | refine RunE.region ?_)
      refine RunL.store Tryd.tOk rfl rfl rfl rfl rfl Z1 rfl rfl fun w3 t3 => ?_
      repeat (first | refine RunL.pureI Tryd.tOk rfl rfl rfl (by (first | exact wr_i64 (by omega) (by omega) | exact wm_i64 (by omega) | exact wq_i64 (by omega) (by omega) (by omega) | rfl)) ?_ | refine RunL.nil ?_)
      refine RunE.retFn Tryd.func31 (.cell rfl (.agg Tryd.tOk rfl rfl rfl (Blk.row (show Blk w3 B4 [.int .i64 0, .int .i64 0] 27 from t3.at_))) (.tmp rfl .nil)) ⟨?_, X1.write t3.ext (by intro i hi hlt; subst hi; omega)⟩
      simp [oneOr, sigE, sigS, sigR, hq]
    · repeat (first | refine RunL.pureB Tryd.tOk _ rfl rfl rfl (by exact decide_eq_false h1) ?_ | refine RunL.pureB Tryd.tOk _ rfl rfl rfl (by exact decide_eq_true (by omega)) ?_ | refine RunL.pureI Tryd.tOk rfl rfl rfl (by (first | exact wr_i64 (by omega) (by omega) | exact wm_i64 (by omega) | exact wq_i64 (by omega) (by omega) (by omega) | rfl)) ?_ | refine RunL.pure Tryd.tOk rfl rfl rfl ?_ | refine RunE.seq ?_ | refine RunE.region ?_ | refine RunL.nil ?_)
      refine RunE.condT rfl rfl ?_
      repeat (first | refine RunL.pure Tryd.tOk rfl rfl rfl ?_ | refine RunE.seq ?_ | refine RunE.region ?_)
      refine RunL.store Tryd.tOk rfl rfl rfl rfl rfl Z1 rfl rfl fun w3 t3 => ?_
      repeat (first | refine RunL.pureI Tryd.tOk rfl rfl rfl (by (first | exact wr_i64 (by omega) (by omega) | exact wm_i64 (by omega) | exact wq_i64 (by omega) (by omega) (by omega) | rfl)) ?_ | refine RunL.nil ?_)
      refine RunE.retFn Tryd.func31 (.cell rfl (.agg Tryd.tOk rfl rfl rfl (Blk.row (show Blk w3 B4 [.int .i64 0, .int .i64 0] 27 from t3.at_))) (.tmp rfl .nil)) ⟨?_, X1.write t3.ext (by intro i hi hlt; subst hi; omega)⟩
      simp [oneOr, sigE, sigS, sigR, hq]
  | true =>
    have hq' : 1 ≤ x ∧ x < 1073741789 := of_decide_eq_true hq
    repeat (first | refine RunL.pureB Tryd.tOk _ rfl rfl rfl (by exact decide_eq_false (by omega)) ?_ | refine RunL.pureI Tryd.tOk rfl rfl rfl (by (first | exact wr_i64 (by omega) (by omega) | exact wm_i64 (by omega) | exact wq_i64 (by omega) (by omega) (by omega) | rfl)) ?_ | refine RunL.pure Tryd.tOk rfl rfl rfl ?_ | refine RunE.seq ?_ | refine RunE.region ?_ | refine RunL.nil ?_)
    refine RunE.condF rfl rfl ?_
    repeat (first | refine RunE.seq ?_ | refine RunE.skip ?_)
    refine RunE.draw (fun _ => False) mix ?_
    intro w2 X2
    repeat (first | refine Asy.pureI Tryd.tOk rfl rfl rfl (by (first | exact wr_i64 (by omega) (by omega) | exact wm_i64 (by omega) | exact wq_i64 (by omega) (by omega) (by omega) | rfl)) ?_)
    refine Asy.val rfl rfl rfl rfl (fun _ _ => OpE.call rfl (rint_ok x _)) ?_
    repeat (first | refine Asy.pure Tryd.tOk rfl rfl rfl ?_)
    refine Asy.v rfl rfl rfl rfl (fun w' X' => OpV.b2sSl (l := b) Tryd.tOk rfl rfl rfl rfl (hv.extE ((X1.trans X2).trans X'))) ?_
    refine Asy.val rfl rfl rfl rfl (fun _ _ => OpE.call rfl (rtext_ok (strOf b) _)) ?_
    refine Asy.sat0 (fun u w' => ∃ B, u = .slice (some ⟨B, 0, none⟩) 2 2 ∧ IsSl w' 4 u 2 ([CV.int x, CV.text b].map rowOf).flatten) rfl rfl rfl rfl (fun u w' w'' _ e h => ?_) (fun w' _ => ?_) ?_
    · obtain ⟨B, h1, h2⟩ := h; exact ⟨B, h1, h2.extE e⟩
    · refine OpE.mono (OpE.buildSl Tryd.tOk [.agg (rowOf (.int x)).toArray, .agg (rowOf (.text b)).toArray] rfl rfl rfl rfl rfl rfl (by simp [Value.cells, rowOf])) ?_ fun _ _ h => h
      rintro _ w'' ⟨B, rfl, a⟩; exact ⟨a.ext, B, rfl, isSl_added (n := 2) (sz := 4) a rfl⟩
    refine Asy.sat1 0 (fun u w' => ∃ B, u = .agg #[.int .i64 3, .int .i64 0, .string ⟨#[]⟩, .slice (some ⟨B, 0, none⟩) 2 2] ∧ IsSl w' 4 (.slice (some ⟨B, 0, none⟩) 2 2) 2 ([CV.int x, CV.text b].map rowOf).flatten) rfl rfl rfl rfl rfl rfl (fun u w' w'' _ e h => ?_) (fun w' q e hq => ?_) ?_
    · obtain ⟨B, h1, h2⟩ := h; exact ⟨B, h1, h2.extE e⟩
    · obtain ⟨B, rfl, h2⟩ := hq
      refine OpE.mono (OpE.call rfl (rlist_ok (some ⟨B, 0, none⟩) 2 2 w')) ?_ fun _ _ h => h
      rintro _ w'' ⟨rfl, X⟩; exact ⟨X, B, rfl, h2.extE X⟩
    refine Asy.sat1 0 (fun u w' => ∃ r, u = .tuple #[r, .int .i64 0] ∧ IsSl w' 1 r (CV.list [.int x, .text b]).enc.length (bytesV (CV.list [.int x, .text b]).enc)) rfl rfl rfl rfl rfl rfl (fun u w' w'' _ e h => ?_) (fun w' q e hq => ?_) ?_
    · obtain ⟨B, h1, h2⟩ := h; exact ⟨B, h1, h2.extE e⟩
    · obtain ⟨B, rfl, h2⟩ := hq
      refine OpE.mono (OpE.call rfl (rEncode_ok (CV.list [.int x, .text b]) _ w' ⟨by simp, _, _, rfl, h2, ins_rows _ fun c hc => ?_⟩ (by simp [CV.depth, depths]) (by omega))) ?_ fun _ _ h => h
      · simp only [List.mem_cons, List.not_mem_nil, or_false] at hc
        rcases hc with rfl | rfl
        · exact ⟨hx, _, rfl⟩
        · exact ⟨by omega, _, rfl⟩
      · rintro _ w'' ⟨r, rfl, h1, h2⟩; exact ⟨h2, r, rfl, isSl_own h1⟩
    refine Asy.sat1 0 (fun u w' => ∃ r, u = .tuple #[r, .int .i64 0] ∧ IsSl w' 1 r (CV.list [.int x, .text b]).enc.length (bytesV (CV.list [.int x, .text b]).enc)) rfl rfl rfl rfl rfl rfl (fun u w' w'' _ e h => ?_) (fun w' q e hq => ?_) ?_
    · obtain ⟨B, h1, h2⟩ := h; exact ⟨B, h1, h2.extE e⟩
    · obtain ⟨r, rfl, h2⟩ := hq
      refine OpE.mono (OpV.e (evalOp_v Tryd.tOk rfl)) ?_ fun _ _ h => h
      rintro u w'' ⟨rfl, rfl⟩; exact ⟨.refl _ _, r, rfl, h2⟩
    refine Asy.sat1 0 (fun u w' => IsSl w' 1 u (CV.list [.int x, .text b]).enc.length (bytesV (CV.list [.int x, .text b]).enc)) rfl rfl rfl rfl rfl rfl (fun u w' w'' _ e h => h.extE e) (fun w' q e hq => ?_) ?_
    · obtain ⟨r, rfl, h2⟩ := hq
      refine OpE.mono (OpV.e (evalOp_v Tryd.tOk rfl)) ?_ fun _ _ h => h
      rintro u w'' ⟨rfl, rfl⟩; exact ⟨.refl _ _, h2⟩
    refine Asy.val1 1 (v := .int .i64 0) rfl rfl rfl rfl rfl rfl (fun w' q e hq => ?_) ?_
    · obtain ⟨r, rfl, h2⟩ := hq
      refine OpE.mono (OpV.e (evalOp_v Tryd.tOk rfl)) ?_ fun _ _ h => h
      rintro u w'' ⟨rfl, rfl⟩; exact ⟨rfl, .refl _ _⟩
    refine Asy.sat1 0 (fun u w' => IsSl w' 1 u (CV.list [.int x, .text b]).enc.length (bytesV (CV.list [.int x, .text b]).enc)) rfl rfl rfl rfl rfl rfl (fun u w' w'' _ e h => h.extE e) (fun w' q e hq => ?_) ?_
    · refine OpE.mono (OpV.e (evalOp_v Tryd.tOk rfl)) ?_ fun _ _ h => h
      rintro u w'' ⟨rfl, rfl⟩; exact ⟨.refl _ _, hq⟩
    repeat (first | refine Asy.pureI Tryd.tOk rfl rfl rfl (by (first | exact wr_i64 (by omega) (by omega) | exact wm_i64 (by omega) | exact wq_i64 (by omega) (by omega) (by omega) | rfl)) ?_)
    refine Asy.tail (by kernel_rfl) ?_
    intro w3 X3
    simp only [satsAll]
    intro r3 hr3 _ _ _ _ _ _ _ _ _ _
    have Y3 := (X1.trans X2).trans X3
    have Z3 := (Z1.ext X2 id).ext X3 id
    repeat (first | refine RunL.pure Tryd.tOk rfl rfl rfl ?_ | refine RunE.seq ?_ | refine RunE.region ?_ | refine RunL.nil ?_)
    refine RunL.call rfl rfl rfl (rhash_ok ⟨#[110, 111, 110, 99, 101]⟩ r3 _ w3 (by decide) hr3 he) ?_
    rintro _ w4 ⟨rfl, X4⟩
    have Y4 := Y3.trans X4
    have Z4 := Z3.ext X4 id
    have hh := hashS_bd nonceB (CV.list [.int x, .text b]).enc
    have hkn : noncN x b = if (1 : Int) > hashS [110, 111, 110, 99, 101] (CV.list [.int x, .text b]).enc then 1 else hashS [110, 111, 110, 99, 101] (CV.list [.int x, .text b]).enc := rfl
    change 0 ≤ hashS [110, 111, 110, 99, 101] (CV.list [.int x, .text b]).enc ∧ hashS [110, 111, 110, 99, 101] (CV.list [.int x, .text b]).enc < 1073741789 at hh
    have hES : sigE x b = chal (powC 4 (noncN x b)) (powC 4 x) b := by unfold sigE; rw [hq, if_pos rfl]
    have hSS : sigS x b = (noncN x b + sigE x b * x % 1073741789) % 1073741789 := by unfold sigS; rw [hq, if_pos rfl]
    have hEb := hashS_bd signB (CV.list [.int (powC 4 (noncN x b)), .int (powC 4 x), .text b]).enc
    change 0 ≤ chal (powC 4 (noncN x b)) (powC 4 x) b ∧ chal (powC 4 (noncN x b)) (powC 4 x) b < 1073741789 at hEb
    rw [← hES] at hEb
    have hRR : sigR x = 0 := by unfold sigR; rw [hq, if_pos rfl]
    generalize hk : noncN x b = kx at *
    have hkb : 1 ≤ kx ∧ kx < 1073741789 := by rw [hkn]; split <;> omega
    have hp1 := fun w => r10_pow_ok 4 x w
    have hp2 := fun w => r10_pow_ok 4 kx w
    generalize grpE (validS 4) = e4 at *
    have hb1 := powC_bd 4 x
    have hb2 := powC_bd 4 kx
    generalize powC 4 x = p1 at *
    generalize powC 4 kx = p2 at *
    generalize sigE x b = E at *
    generalize sigS x b = S at *
    show RunL _ _ _ _ _ _ _ _ ((33, .int .i64 (hashS [110, 111, 110, 99, 101] (CV.list [.int x, .text b]).enc)) :: _) _
    generalize hashS [110, 111, 110, 99, 101] (CV.list [.int x, .text b]).enc = h0 at *
    by_cases hz : h0 = 0
    · have hk1 : kx = 1 := by rw [hkn, hz]; rfl
      subst hk1
      repeat (first | refine RunL.pureB Tryd.tOk _ rfl rfl rfl (by exact beq_iff_eq.2 hz) ?_ | refine RunL.pureI Tryd.tOk rfl rfl rfl (by (first | exact wr_i64 (by omega) (by omega) | exact wm_i64 (by omega) | exact wq_i64 (by omega) (by omega) (by omega) | rfl)) ?_ | refine RunE.seq ?_ | refine RunE.region ?_ | refine RunL.nil ?_)
      refine RunE.condT rfl rfl ?_
      repeat (first | refine RunL.pureI Tryd.tOk rfl rfl rfl (by (first | exact wr_i64 (by omega) (by omega) | exact wm_i64 (by omega) | exact wq_i64 (by omega) (by omega) (by omega) | rfl)) ?_ | refine RunE.seq ?_ | refine RunE.region ?_ | refine RunL.nil ?_)
      refine RunL.call rfl rfl rfl (hp1 _) ?_
      rintro _ _ ⟨rfl, rfl⟩
      repeat (first | refine RunL.pureI Tryd.tOk rfl rfl rfl (by (first | exact wr_i64 (by omega) (by omega) | exact wm_i64 (by omega) | exact wq_i64 (by omega) (by omega) (by omega) | rfl)) ?_ | refine RunL.pure Tryd.tOk rfl rfl rfl ?_ | refine RunE.seq ?_ | refine RunE.region ?_ | refine RunL.nil ?_)
      refine RunL.call rfl rfl rfl (hp2 _) ?_
      rintro _ _ ⟨rfl, rfl⟩
      repeat (first | refine RunL.pureI Tryd.tOk rfl rfl rfl (by (first | exact wr_i64 (by omega) (by omega) | exact wm_i64 (by omega) | exact wq_i64 (by omega) (by omega) (by omega) | rfl)) ?_ | refine RunL.pure Tryd.tOk rfl rfl rfl ?_ | refine RunE.seq ?_ | refine RunE.region ?_ | refine RunL.nil ?_)
      refine RunL.call rfl rfl rfl (r11_hash_ok p2 p1 v b _ (by omega) (by omega) (hv.extE Y4) hb) ?_
      rintro _ w5 ⟨rfl, X5⟩
      have Y5 := Y4.trans X5
      have Z5 := Z4.ext X5 id
      rw [← hES]
      repeat (first | refine RunL.pureI Tryd.tOk rfl rfl rfl (by (first | exact wr_i64 (by omega) (by omega) | exact wm_i64 (by omega) | exact wq_i64 (by omega) (by omega) (by omega) | rfl)) ?_ | refine RunE.seq ?_ | refine RunE.region ?_ | refine RunL.nil ?_)
      refine RunL.call rfl rfl rfl (r11_times_ok E x _) ?_
      rintro _ _ ⟨rfl, rfl⟩
      rw [Int.emod_eq_of_lt hEb.1 hEb.2, Int.emod_eq_of_lt (show 0 ≤ x by omega) hq'.2]
      have hm2 := q_bd (E * x)
      generalize E * x % 1073741789 = m at *
      repeat (first | refine RunL.pureI Tryd.tOk rfl rfl rfl (by (first | exact wr_i64 (by omega) (by omega) | exact wm_i64 (by omega) | exact wq_i64 (by omega) (by omega) (by omega) | rfl)) ?_ | refine RunL.pure Tryd.tOk rfl rfl rfl ?_)
      refine RunL.store Tryd.tOk rfl rfl rfl rfl rfl Z5 rfl rfl fun w6 t6 => ?_
      repeat (first | refine RunL.pureI Tryd.tOk rfl rfl rfl (by (first | exact wr_i64 (by omega) (by omega) | exact wm_i64 (by omega) | exact wq_i64 (by omega) (by omega) (by omega) | rfl)) ?_ | refine RunL.nil ?_)
      refine RunE.retFn Tryd.func31 (.cell rfl (.agg Tryd.tOk rfl rfl rfl (Blk.row (show Blk w6 B4 [.int .i64 E, .int .i64 _] 27 from t6.at_))) (.tmp rfl .nil)) ⟨?_, Y5.write t6.ext (by intro i hi hlt; subst hi; omega)⟩
      simp [oneOr, hSS, hRR]
    · have hk1 : kx = h0 := by rw [hkn]; split <;> omega
      subst hk1
      repeat (first | refine RunL.pureB Tryd.tOk _ rfl rfl rfl (by exact beq_eq_false_iff_ne.2 hz) ?_ | refine RunL.pureI Tryd.tOk rfl rfl rfl (by (first | exact wr_i64 (by omega) (by omega) | exact wm_i64 (by omega) | exact wq_i64 (by omega) (by omega) (by omega) | rfl)) ?_ | refine RunE.seq ?_ | refine RunE.region ?_ | refine RunL.nil ?_)
      refine RunE.condF rfl rfl ?_
      repeat (first | refine RunL.pureI Tryd.tOk rfl rfl rfl (by (first | exact wr_i64 (by omega) (by omega) | exact wm_i64 (by omega) | exact wq_i64 (by omega) (by omega) (by omega) | rfl)) ?_ | refine RunE.seq ?_ | refine RunE.region ?_ | refine RunE.skip ?_)
      refine RunL.call rfl rfl rfl (hp1 _) ?_
      rintro _ _ ⟨rfl, rfl⟩
      repeat (first | refine RunL.pureI Tryd.tOk rfl rfl rfl (by (first | exact wr_i64 (by omega) (by omega) | exact wm_i64 (by omega) | exact wq_i64 (by omega) (by omega) (by omega) | rfl)) ?_ | refine RunL.pure Tryd.tOk rfl rfl rfl ?_ | refine RunE.seq ?_ | refine RunE.region ?_ | refine RunL.nil ?_)
      refine RunL.call rfl rfl rfl (hp2 _) ?_
      rintro _ _ ⟨rfl, rfl⟩
      repeat (first | refine RunL.pureI Tryd.tOk rfl rfl rfl (by (first | exact wr_i64 (by omega) (by omega) | exact wm_i64 (by omega) | exact wq_i64 (by omega) (by omega) (by omega) | rfl)) ?_ | refine RunL.pure Tryd.tOk rfl rfl rfl ?_ | refine RunE.seq ?_ | refine RunE.region ?_ | refine RunL.nil ?_)
      refine RunL.call rfl rfl rfl (r11_hash_ok p2 p1 v b _ (by omega) (by omega) (hv.extE Y4) hb) ?_
      rintro _ w5 ⟨rfl, X5⟩
      have Y5 := Y4.trans X5
      have Z5 := Z4.ext X5 id
      rw [← hES]
      repeat (first | refine RunL.pureI Tryd.tOk rfl rfl rfl (by (first | exact wr_i64 (by omega) (by omega) | exact wm_i64 (by omega) | exact wq_i64 (by omega) (by omega) (by omega) | rfl)) ?_ | refine RunE.seq ?_ | refine RunE.region ?_ | refine RunL.nil ?_)
      refine RunL.call rfl rfl rfl (r11_times_ok E x _) ?_
      rintro _ _ ⟨rfl, rfl⟩
      rw [Int.emod_eq_of_lt hEb.1 hEb.2, Int.emod_eq_of_lt (show 0 ≤ x by omega) hq'.2]
      have hm2 := q_bd (E * x)
      generalize E * x % 1073741789 = m at *
      repeat (first | refine RunL.pureI Tryd.tOk rfl rfl rfl (by (first | exact wr_i64 (by omega) (by omega) | exact wm_i64 (by omega) | exact wq_i64 (by omega) (by omega) (by omega) | rfl)) ?_ | refine RunL.pure Tryd.tOk rfl rfl rfl ?_)
      refine RunL.store Tryd.tOk rfl rfl rfl rfl rfl Z5 rfl rfl fun w6 t6 => ?_
      repeat (first | refine RunL.pureI Tryd.tOk rfl rfl rfl (by (first | exact wr_i64 (by omega) (by omega) | exact wm_i64 (by omega) | exact wq_i64 (by omega) (by omega) (by omega) | rfl)) ?_ | refine RunL.nil ?_)
      refine RunE.retFn Tryd.func31 (.cell rfl (.agg Tryd.tOk rfl rfl rfl (Blk.row (show Blk w6 B4 [.int .i64 E, .int .i64 _] 27 from t6.at_))) (.tmp rfl .nil)) ⟨?_, Y5.write t6.ext (by intro i hi hlt; subst hi; omega)⟩
      simp [oneOr, hSS, hRR]

end Go.Sg
end
