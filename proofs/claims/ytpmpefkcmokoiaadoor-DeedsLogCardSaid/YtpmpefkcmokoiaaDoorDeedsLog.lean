/- signatorylaw49.DeedsLog returns true for every input; condition: the package variables digest.start and digest.numbers hold what the program lays in them (the card ties this). -/
import Derived.Test.YtpmpefkcmokoiaaDoorDa09
set_option linter.unusedSimpArgs false
set_option linter.unusedVariables false
set_option linter.unusedSectionVars false
namespace Go.Dee
open Go.Rn Go.Sg
def condD (pre : List Deed) (d : Deed) : Bool := ((d.no == nextD pre d.person) && (d.prev == lastD pre d.person)) && d.seen.all (metD pre d.person)
def goodD (l : List Deed) (i : Nat) : Bool := (List.range i).all fun j => condD (l.take j) (l.getD j zeroD)
theorem goodD_succ {l : List Deed} {i : Nat} {d : Deed} (h : l[i]? = some d) : goodD l (i + 1) = (goodD l i && condD (l.take i) d) := by
  unfold goodD
  rw [List.range_succ, List.all_append, List.all_cons, List.all_nil, Bool.and_true, List.getD_eq_getElem?_getD, h]; rfl
theorem step_cond {ks : List Int} {pre : List Deed} {d : Deed} (h1 : fineD ks d = true) (h2 : afterD pre d = true) : stepD ks pre d = condD pre d := by
  unfold stepD condD
  rw [h1, h2, Bool.true_and, Bool.and_true]
theorem log_good {ks : List Int} {l : List Deed} (h : ∀ (j : Nat) (d : Deed), l[j]? = some d → fineD ks d = true ∧ afterD (l.take j) d = true) : logD ks l = goodD l l.length := by
  unfold logD goodD
  rw [Bool.eq_iff_iff, List.all_eq_true, List.all_eq_true]
  have key : ∀ j ∈ List.range l.length, stepD ks (l.take j) (l.getD j zeroD) = condD (l.take j) (l.getD j zeroD) := fun j hj => by
    have hj := List.mem_range.1 hj
    have hd := List.getElem?_eq_getElem hj
    have e : l.getD j zeroD = l[j] := by rw [List.getD_eq_getElem?_getD, hd]; rfl
    rw [e]
    obtain ⟨h1, h2⟩ := h j _ hd
    exact step_cond h1 h2
  exact ⟨fun h j hj => by rw [← key j hj]; exact h j hj, fun h j hj => by rw [key j hj]; exact h j hj⟩
theorem metD_snoc (pre : List Deed) (y : Deed) (p : Int) (x : Dg) : metD (pre ++ [y]) p x = (metD pre p x || (decide (y.person ≠ p) && (idD y == x))) := by
  unfold metD
  rw [List.any_append, List.any_cons, List.any_nil, Bool.or_false]
theorem take_snoc' {α : Type} {l : List α} {k : Nat} {y : α} (h : l[k]? = some y) : l.take (k + 1) = l.take k ++ [y] := by rw [List.take_add_one, h]; rfl
end Go.Dee
namespace Go.Rn
theorem RunE.cutK {P : Program} {c : Ctx} {k K : List Item} {Q : Out → Act → World → Prop} {w : World} {n : Nat} {ds : List Deferred} {env : Env} {ι : Type} (E : ι → Env) (I : ι → World → Prop)
    (h : (∀ i w', I i w' → RunE P c n ds K Q (E i) w') → RunE P c n ds k Q env w) (hj : ∀ i w', I i w' → RunE P c n ds K Q (E i) w') : RunE P c n ds k Q env w := h hj
end Go.Rn
namespace Go.Sg
open Go.Rn Go.Proofs Go.Dee Go.Rec Go.RowKit Go.Sha Go.Cod Go.NT
attribute [local irreducible] chkE fewL logD condD metD nextD lastD idD afterD stepD fineD Go.Rn.RetsX Go.Rn.RunLN Go.Rn.AsyN Go.Rn.RunL Go.Rn.RunE Go.Rn.Asy Go.Rn.OpV Go.Rn.OpE Go.Rn.ExecE
set_option maxRecDepth 4000 in
set_option maxHeartbeats 16000000 in
theorem deedsLog_walk (kv : Value) (ks : List Int) (lv : Value) (l : List Dr) (W : World) (hkb : ks.length < 9223372036854775808 ∧ KsI ks) (hk : LIn W kv ks) (hlb : l.length < 9223372036854775808 ∧ ∀ x ∈ l, WfX W x) (hv : LDr W lv l) (hS : Row W 0 0 (vals init8.l)) (hkT : Row W 1 0 (vals kTab)) :
    Rets Tryd.prog 6 [kv, lv] W fun r w' => r = .bool true ∧ Ext W w' := by
  obtain ⟨hkl, hki⟩ := hkb
  obtain ⟨hl, hd⟩ := hlb
  have c1 := fun w h h' hd => rfewL_ok ks kv l lv w h hkl h' hl hd
  have c2 := fun w h h' hd h1 h2 => dcheck_ok ks kv l lv w h hkl hki h' hl hd h1 h2
  have c3 := fun w h => rkeys_ok ks kv w h hkl
  refine RetsX.of (nt := 164) Tryd.func6 (by kernel_rfl) rfl rfl (by simp) (by simp only [argEnv]; rfl) ?_
  have X := ExtB.refl (fun _ => False) W
  repeat' (first | with_reducible refine RunLN.boolF rfl ?_ | refine RunL.ev Tryd.tOk rfl rfl rfl ?_ | refine RunE.seq ?_ | refine RunE.region ?_ | refine RunL.nil ?_)
  refine RunL.call rfl rfl rfl (l49_sane_ok _ (hS.up X) (hkT.up X)) ?_
  rintro _ _ ⟨rfl, Xa_⟩
  replace X := X.trans Xa_
  clear Xa_
  repeat' (first | with_reducible refine RunLN.boolF rfl ?_ | refine RunLN.any ?_ | refine RunL.ev Tryd.tOk rfl rfl rfl ?_ | refine RunE.condF rfl rfl ?_ | refine RunE.seq ?_ | refine RunE.region ?_ | refine RunL.nil ?_ | refine RunE.skip ?_)
  refine RunL.call rfl rfl rfl (c1 _ (hk.up X) (hv.up X) (fun x hx => (hd x hx).2.2.2.up X)) ?_
  rintro _ _ ⟨rfl, Xa_⟩
  replace X := X.trans Xa_
  clear Xa_
  cases fewL ks (l.map Dr.d) with
  | false =>
    repeat' (first | with_reducible refine RunLN.boolT rfl ?_ | refine RunL.ev Tryd.tOk rfl rfl rfl ?_ | refine RunL.unwantedD rfl rfl ?_ | refine RunE.condT rfl rfl ?_ | refine RunE.seq ?_ | refine RunE.region ?_ | refine RunL.nil ?_)
    exact RunE.retFn Tryd.func6 (.tmp rfl .nil) ⟨rfl, X⟩
  | true =>
  repeat' (first | with_reducible refine RunLN.boolF rfl ?_ | refine RunLN.any ?_ | refine RunL.ev Tryd.tOk rfl rfl rfl ?_)
  refine RunL.call rfl rfl rfl (c3 _ (hk.up X)) ?_
  rintro _ _ ⟨rfl, Xa_⟩
  replace X := X.trans Xa_
  clear Xa_
  cases hkd : keysD ks with
  | false =>
    repeat' (first | with_reducible refine RunLN.boolT rfl ?_ | refine RunL.ev Tryd.tOk rfl rfl rfl ?_ | refine RunL.unwantedD rfl rfl ?_ | refine RunE.condT rfl rfl ?_ | refine RunE.seq ?_ | refine RunE.region ?_ | refine RunL.nil ?_)
    exact RunE.retFn Tryd.func6 (.tmp rfl .nil) ⟨rfl, X⟩
  | true =>
  by_cases h16 : l.length ≤ 16
  rotate_left
  · repeat' (first | with_reducible refine RunLN.boolT rfl ?_ | with_reducible refine RunLN.boolF rfl ?_ | (with_reducible refine RunLN.decT ?_ ?_; focus omega) | (with_reducible refine RunLN.chk ?_; refine RunLN.int (by (first | (refine wr_i64 ?_ ?_; omega; omega) | (refine wm_i64 ?_; omega) | (refine wq_i64 ?_ ?_ ?_; omega; omega; omega) | rfl)) ?_) | refine RunLN.any ?_ | refine RunL.ev Tryd.tOk rfl rfl rfl ?_ | refine RunL.evV rfl rfl rfl (OpV.lenSl Tryd.tOk rfl rfl hv) ?_ | refine RunE.condT rfl rfl ?_ | refine RunE.seq ?_ | refine RunE.region ?_ | refine RunL.nil ?_)
    exact RunE.retFn Tryd.func6 (.tmp rfl .nil) ⟨rfl, X⟩
  clear c1 c3
  rw [chk_of hkd (by rw [List.length_map]; omega)] at c2
  repeat' (first | with_reducible refine RunLN.boolT rfl ?_ | with_reducible refine RunLN.boolF rfl ?_ | (with_reducible refine RunLN.decF ?_ ?_; focus omega) | (with_reducible refine RunLN.chk ?_; refine RunLN.int (by (first | (refine wr_i64 ?_ ?_; omega; omega) | (refine wm_i64 ?_; omega) | (refine wq_i64 ?_ ?_ ?_; omega; omega; omega) | rfl)) ?_) | refine RunLN.any ?_ | refine RunL.ev Tryd.tOk rfl rfl rfl ?_ | refine RunL.evV rfl rfl rfl (OpV.lenSl Tryd.tOk rfl rfl hv) ?_ | refine RunE.condF rfl rfl ?_ | refine RunE.seq ?_ | refine RunE.region ?_ | refine RunL.nil ?_ | refine RunE.skip ?_)
  refine RunL.ex rfl rfl rfl (OpE.makeL encG Tryd.tOk l.length zeroG rfl rfl rfl rfl rfl rfl rfl (by show 32 * _ ≤ _; omega) (by omega)) ?_
  rintro _ w6 ⟨⟨Bi, rfl, gi, Zi⟩, -, Xa_⟩
  have giW : W.heap.size ≤ Bi := Nat.le_trans X.size gi
  replace X := X.trans Xa_
  clear Xa_ gi
  repeat' (first | (with_reducible refine RunLN.chk ?_; refine RunLN.int (by (first | (refine wr_i64 ?_ ?_; omega; omega) | (refine wm_i64 ?_; omega) | (refine wq_i64 ?_ ?_ ?_; omega; omega; omega) | rfl)) ?_) | refine RunLN.any ?_ | refine RunL.ev Tryd.tOk rfl rfl rfl ?_ | refine RunL.evV rfl rfl rfl (OpV.lenSl Tryd.tOk rfl rfl hv) ?_ | refine RunE.seq ?_ | refine RunE.region ?_ | refine RunL.nil ?_)
  refine RunE.cut (ι := Unit) (fun _ => [(0, kv), (1, lv), (5, .bool (logD ks (l.map Dr.d)))]) (fun _ w' => Ext W w') ?_ ?_
  · rintro _ w7 X
    repeat' (first | refine RunLN.any ?_ | refine RunL.ev Tryd.tOk rfl rfl rfl ?_ | refine RunE.seq ?_ | refine RunE.region ?_)
    refine RunL.call rfl rfl rfl (c2 _ (hk.up X) (hv.up X) (fun x hx => (hd x hx).up X) (hS.up X) (hkT.up X)) ?_
    rintro _ _ ⟨rfl, Xa_⟩
    replace X := X.trans Xa_
    clear Xa_
    cases logD ks (l.map Dr.d) with
    | false =>
      repeat' (first | with_reducible refine RunLN.boolT rfl ?_ | with_reducible refine RunLN.boolF rfl ?_ | (with_reducible refine RunLN.chk ?_; refine RunLN.int (by (first | (refine wr_i64 ?_ ?_; omega; omega) | (refine wm_i64 ?_; omega) | (refine wq_i64 ?_ ?_ ?_; omega; omega; omega) | rfl)) ?_) | refine RunL.ev Tryd.tOk rfl rfl rfl ?_ | refine RunE.seq ?_ | refine RunE.region ?_ | refine RunL.nil ?_)
      exact RunE.retFn Tryd.func6 (.tmp rfl .nil) ⟨rfl, X⟩
    | true =>
      repeat' (first | with_reducible refine RunLN.boolT rfl ?_ | (with_reducible refine RunLN.chk ?_; refine RunLN.int (by (first | (refine wr_i64 ?_ ?_; omega; omega) | (refine wm_i64 ?_; omega) | (refine wq_i64 ?_ ?_ ?_; omega; omega; omega) | rfl)) ?_) | refine RunL.ev Tryd.tOk rfl rfl rfl ?_ | refine RunL.unwantedD rfl rfl ?_ | refine RunE.seq ?_ | refine RunE.region ?_ | refine RunL.nil ?_)
      exact RunE.retFn Tryd.func6 (.tmp rfl .nil) ⟨rfl, X⟩
  intro join
  clear c2
  refine RunE.block ?_
  refine RunE.loop (ι := Nat × List Dg) (fun s => [(0, kv), (1, lv), (4, .bool false), (5, .bool (goodD (l.map Dr.d) s.1)), (6, .slice (some ⟨Bi, 0, none⟩) l.length l.length), (38, lv), (39, .int .i64 (l.length : Int)), (40, .int .i64 (s.1 : Int))])
    (fun s w' => s.1 ≤ l.length ∧ s.2.length = l.length ∧ (∀ k y, k < s.1 → (l.map Dr.d)[k]? = some y → s.2[k]? = some (idD y) ∧ fineD ks y = true ∧ afterD ((l.map Dr.d).take k) y = true) ∧ Ext W w' ∧ Blk w' Bi (flat digC s.2) 23) (fun s => l.length - s.1) (0, List.replicate l.length zeroG) (by repeat (first | exact Sub.nil _ | refine Sub.cons rfl ?_)) ⟨Nat.zero_le _, by simp, fun k y hk => absurd hk (by omega), X, Zi⟩ ?_
  clear X Zi
  rintro ⟨i, ids⟩ w3 ⟨hi, hidl, hids, X, Zi⟩ again
  simp only at hi hidl hids Zi again ⊢
  by_cases hlt : i < l.length
  rotate_left
  · obtain rfl : i = l.length := by omega
    have hlg : logD ks (l.map Dr.d) = goodD (l.map Dr.d) l.length := by
      have := log_good (ks := ks) (l := l.map Dr.d) fun j d hjd => (hids j d (by have := (List.getElem?_eq_some_iff.1 hjd).1; simpa using this) hjd).2
      rwa [List.length_map] at this
    rw [hlg] at join
    clear again
    repeat' (first | (with_reducible refine RunLN.decF ?_ ?_; focus omega) | refine RunL.ev Tryd.tOk rfl rfl rfl ?_ | refine RunE.seq ?_ | refine RunE.region ?_ | refine RunL.nil ?_)
    refine RunE.condF rfl rfl ?_
    refine RunE.exit rfl ?_
    exact RunE.weaken (by repeat (first | exact Sub.nil _ | refine Sub.cons rfl ?_)) (join () _ X)
  obtain ⟨b1, o1, cc, rfl, hr1, -⟩ := isL_held hv hlt
  obtain ⟨x, hx⟩ : ∃ x, l[i]? = some x := ⟨_, List.getElem?_eq_getElem hlt⟩
  have hrx := flat_row encR hr1 hx
  obtain ⟨hwf, hls, hld, hhx⟩ := hd x (List.mem_of_getElem? hx)
  have hpx : (l.map Dr.d)[i]? = some x.d := by rw [List.getElem?_map, hx]; rfl
  have hgs := goodD_succ hpx
  have hsr : ∀ (j : Nat) (y : Dr), l[j]? = some y → (l.map Dr.d)[j]? = some y.d := fun j y h => by rw [List.getElem?_map, h]; rfl
  have hlast : ∀ j, i = j + 1 → ∃ y : Dr, l[j]? = some y ∧ ((l.map Dr.d).take i).getLast? = some y.d := fun j hj => by
    obtain ⟨y, hy⟩ : ∃ y, l[j]? = some y := ⟨_, List.getElem?_eq_getElem (by omega)⟩
    refine ⟨y, hy, ?_⟩
    rw [hj, take_snoc' (hsr j y hy), List.getLast?_concat]
  have hbad : fineD ks x.d = false ∨ afterD ((l.map Dr.d).take i) x.d = false → logD ks (l.map Dr.d) = false := fun h => by
    refine logD_no hpx ?_
    unfold stepD
    rcases h with h | h
    · rw [h]; simp
    · rw [h]; simp
  have cr := fun w h h1 h2 h3 h4 => dRight_ok ks kv x.d x.u x.v w h hkl hki hwf h1 h2 hls hld h3 h4
  have hrb : rightB ks x.d = fineD ks x.d := by unfold rightB; rw [hkd, Bool.true_and]
  have hre : rightE ks = 0 := by unfold rightE; rw [hkd]; rfl
  rw [hrb, hre] at cr
  clear hrb hre
  repeat' (first | (with_reducible refine RunLN.decT ?_ ?_; focus omega) | (with_reducible refine RunLN.chk ?_; refine RunLN.int (by (first | (refine wr_i64 ?_ ?_; omega; omega) | (refine wm_i64 ?_; omega) | (refine wq_i64 ?_ ?_ ?_; omega; omega; omega) | rfl)) ?_) | refine RunLN.any ?_ | refine RunL.ev Tryd.tOk rfl rfl rfl ?_ | refine RunL.evV rfl rfl rfl (OpV.loadN Tryd.tOk rfl rfl rfl rfl (hrx.up X)) ?_ | refine RunL.evV rfl rfl rfl (OpV.indexS Tryd.tOk _ rfl rfl rfl rfl (by omega)) ?_ | refine RunE.condT rfl rfl ?_ | refine RunE.seq ?_ | refine RunE.region ?_ | refine RunL.nil ?_ | refine RunE.block ?_ | refine RunE.skip ?_)
  refine RunL.alloc Tryd.tOk rfl rfl rfl fun B8 wa_ aa_ => ?_
  have gB8 := aa_.ge X
  have e8 := aa_.eq
  have n8i : B8 ≠ Bi := by have := Zi.lt; omega
  repeat' (first | (with_reducible refine RunLN.chk ?_; refine RunLN.int (by (first | (refine wr_i64 ?_ ?_; omega; omega) | (refine wm_i64 ?_; omega) | (refine wq_i64 ?_ ?_ ?_; omega; omega; omega) | rfl)) ?_) | refine RunL.ev Tryd.tOk rfl rfl rfl ?_)
  refine RunL.storeW (vs := dCells x.d x.u x.v) Tryd.tOk rfl rfl rfl rfl rfl aa_.at_ rfl rfl fun w8_ tb_ => ?_
  have Xa_ : Ext w3 w8_ := aa_.ext.write tb_.ext (by intro i_ hi_ hlt_; omega)
  have Z8 : Blk w8_ B8 (dCells x.d x.u x.v) 29 := tb_.at_
  replace Zi := Zi.up Xa_
  replace X := X.trans Xa_
  clear Xa_ aa_ tb_ hrx e8
  repeat' (first | refine RunLN.any ?_ | refine RunL.ev Tryd.tOk rfl rfl rfl ?_ | refine RunL.evV rfl rfl rfl (OpV.loadN Tryd.tOk rfl rfl rfl rfl (Blk.row Z8)) ?_ | refine RunE.seq ?_ | refine RunE.region ?_ | refine RunL.nil ?_)
  refine RunL.call rfl rfl rfl (cr _ (hk.up X) (hhx.seen.up X) (hhx.data.up X) (hS.up X) (hkT.up X)) ?_
  rintro _ _ ⟨rfl, Xa_⟩
  replace Zi := Zi.up Xa_
  replace Z8 := Z8.up Xa_
  replace X := X.trans Xa_
  clear Xa_
  clear cr
  have cid := fun w h h' h1 h2 => dId_ok x.d x.u x.v w h h' hls hld h1 h2
  repeat' (first | with_reducible refine RunLN.boolF rfl ?_ | (with_reducible refine RunLN.chk ?_; refine RunLN.int (by (first | (refine wr_i64 ?_ ?_; omega; omega) | (refine wm_i64 ?_; omega) | (refine wq_i64 ?_ ?_ ?_; omega; omega; omega) | rfl)) ?_) | refine RunLN.any ?_ | refine RunL.ev Tryd.tOk rfl rfl rfl ?_ | refine RunE.condF rfl rfl ?_ | refine RunE.seq ?_ | refine RunE.region ?_ | refine RunL.nil ?_ | refine RunE.skip ?_)
  refine RunE.cut (ι := Unit) (fun _ => [(0, kv), (1, .slice (some ⟨b1, o1, none⟩) l.length cc), (4, .bool false), (5, .bool (goodD (l.map Dr.d) i)), (6, .slice (some ⟨Bi, 0, none⟩) l.length l.length), (7, .int .i64 (i : Int)), (8, .pointer (some ⟨B8, 0, none⟩)), (38, .slice (some ⟨b1, o1, none⟩) l.length cc), (39, .int .i64 (l.length : Int)), (40, .int .i64 (i : Int)), (68, .bool false)])
    (fun _ w' => fineD ks x.d = true ∧ afterD ((l.map Dr.d).take i) x.d = true ∧ Ext W w' ∧ Blk w' Bi (flat digC ids) 23 ∧ Blk w' B8 (dCells x.d x.u x.v) 29) ?_ ?_
  · clear X Zi Z8 join hbad hlast
    rintro _ w4 ⟨hf, haf, X, Zi, Z8⟩
    have hform := (fineD_inv hf).1
    have eid : idG x.d = idD x.d ∧ idE x.d = 0 := ⟨idG_of hform, by unfold idE; rw [hform]; rfl⟩
    rw [eid.1, eid.2] at cid
    clear eid hform
    repeat' (first | (with_reducible refine RunLN.chk ?_; refine RunLN.int (by (first | (refine wr_i64 ?_ ?_; omega; omega) | (refine wm_i64 ?_; omega) | (refine wq_i64 ?_ ?_ ?_; omega; omega; omega) | rfl)) ?_) | refine RunLN.any ?_ | refine RunL.ev Tryd.tOk rfl rfl rfl ?_ | refine RunL.evV rfl rfl rfl (OpV.loadN Tryd.tOk rfl rfl rfl rfl (Blk.row Z8)) ?_ | refine RunE.condF rfl rfl ?_ | refine RunE.seq ?_ | refine RunE.region ?_ | refine RunE.skip ?_)
    refine RunL.call rfl rfl rfl (cid _ (hhx.seen.up X) (hhx.data.up X) (hS.up X) (hkT.up X)) ?_
    rintro _ _ ⟨rfl, Xa_⟩
    replace Zi := Zi.up Xa_
    replace Z8 := Z8.up Xa_
    replace X := X.trans Xa_
    clear Xa_
    clear cid
    repeat' (first | (with_reducible refine RunLN.chk ?_; refine RunLN.int (by (first | (refine wr_i64 ?_ ?_; omega; omega) | (refine wm_i64 ?_; omega) | (refine wq_i64 ?_ ?_ ?_; omega; omega; omega) | rfl)) ?_) | refine RunLN.any ?_ | refine RunL.ev Tryd.tOk rfl rfl rfl ?_ | refine RunL.evV rfl rfl rfl (OpV.indexS Tryd.tOk _ rfl rfl rfl rfl (by omega)) ?_)
    refine RunL.storeFlat Tryd.tOk encG i (idD x.d) rfl rfl rfl rfl rfl rfl Zi (by rw [hidl]; exact hlt) fun w5 t5 => ?_
    replace Z8 := Z8.other t5.ext n8i
    replace Zi : Blk w5 Bi (flat digC (ids.set i (idD x.d))) 23 := t5.at_
    replace X := X.own t5.ext giW
    clear t5
    have hidl' : (ids.set i (idD x.d)).length = l.length := by rw [List.length_set]; exact hidl
    have hids' : ∀ k y, k < i + 1 → (l.map Dr.d)[k]? = some y → (ids.set i (idD x.d))[k]? = some (idD y) ∧ fineD ks y = true ∧ afterD ((l.map Dr.d).take k) y = true := fun k y hk hy => by
      by_cases e : i = k
      · subst e
        rw [hpx] at hy
        cases hy
        exact ⟨by rw [List.getElem?_set, if_pos rfl, if_pos (by omega)], hf, haf⟩
      · rw [List.getElem?_set, if_neg e]
        exact hids k y (by omega) hy
    have next : ∀ w', _ → _ → _ := fun w' a b => again (i + 1, ids.set i (idD x.d)) w' (by simp only; omega) ⟨by simp only; omega, hidl', hids', a, b⟩
    simp only [hgs] at next
    have hget : ∀ k y, k < i → l[k]? = some y → (ids.set i (idD x.d))[k]? = some (idD (Dr.d y)) := fun k y hk hy => (hids' k y.d (by omega) (hsr k y hy)).1
    generalize ids.set i (idD x.d) = ids' at Zi next hidl' hget
    clear again hids hids' hidl hgs haf hf
    repeat' (first | with_reducible refine RunLN.boolF rfl ?_ | (with_reducible refine RunLN.chk ?_; refine RunLN.int (by (first | (refine wr_i64 ?_ ?_; omega; omega) | (refine wm_i64 ?_; omega) | (refine wq_i64 ?_ ?_ ?_; omega; omega; omega) | rfl)) ?_) | refine RunLN.any ?_ | refine RunL.ev Tryd.tOk rfl rfl rfl ?_ | refine RunE.condF rfl rfl ?_ | refine RunE.seq ?_ | refine RunE.region ?_ | refine RunL.nil ?_ | refine RunE.skip ?_)
    refine RunL.alloc Tryd.tOk rfl rfl rfl fun B12 wa_ aa_ => ?_
    have gB12 := aa_.ge X
    have e12 := aa_.eq
    have n12i : B12 ≠ Bi := by have := Zi.lt; omega
    have n128 : B12 ≠ B8 := by have := Z8.lt; omega
    repeat' (first | (with_reducible refine RunLN.chk ?_; refine RunLN.int (by (first | (refine wr_i64 ?_ ?_; omega; omega) | (refine wm_i64 ?_; omega) | (refine wq_i64 ?_ ?_ ?_; omega; omega; omega) | rfl)) ?_) | refine RunL.ev Tryd.tOk rfl rfl rfl ?_)
    refine RunL.storeW (vs := digC zeroG) Tryd.tOk rfl rfl rfl rfl rfl aa_.at_ rfl rfl fun w12_ tb_ => ?_
    have Xa_ : Ext w5 w12_ := aa_.ext.write tb_.ext (by intro i_ hi_ hlt_; omega)
    have Z12 : Blk w12_ B12 (digC zeroG) 23 := tb_.at_
    replace Zi := Zi.up Xa_
    replace Z8 := Z8.up Xa_
    replace X := X.trans Xa_
    clear Xa_ aa_ tb_ e12
    generalize hG : goodD (l.map Dr.d) i = gd at next ⊢
    have hcond : condD ((l.map Dr.d).take i) x.d = (((x.d.no == nextD ((l.map Dr.d).take i) x.d.person) && (x.d.prev == lastD ((l.map Dr.d).take i) x.d.person)) && x.d.seen.all (metD ((l.map Dr.d).take i) x.d.person)) := by unfold condD; rfl
    rw [hcond] at next
    clear hcond hG
    have hl0 : lastD ((l.map Dr.d).take 0) x.d.person = zeroG := by rw [List.take_zero]; exact last_zero (by unfold nextD; rfl)
    have hn0 : (0 : Int) = nextD ((l.map Dr.d).take 0) x.d.person := by rw [List.take_zero]; unfold nextD; rfl
    have hnl : ∀ j, nextD ((l.map Dr.d).take j) x.d.person ≤ 16 := fun j => by
      have := nextD_le ((l.map Dr.d).take j) x.d.person
      rw [List.length_take, List.length_map] at this; omega
    have hng : ∀ j, 0 ≤ nextD ((l.map Dr.d).take j) x.d.person := fun j => nextD_nonneg _ _
    have hns : ∀ j y, l[j]? = some y → nextD ((l.map Dr.d).take (j + 1)) x.d.person = nextD ((l.map Dr.d).take j) x.d.person + (if (Dr.d y).person = x.d.person then 1 else 0) := fun j y h => by rw [take_snoc' (hsr j y h), nextD_snoc]
    have hlsn : ∀ j y, l[j]? = some y → lastD ((l.map Dr.d).take (j + 1)) x.d.person = if (Dr.d y).person = x.d.person then idD (Dr.d y) else lastD ((l.map Dr.d).take j) x.d.person := fun j y h => by rw [take_snoc' (hsr j y h), lastD_snoc]
    have hms : ∀ j y g, l[j]? = some y → metD ((l.map Dr.d).take (j + 1)) x.d.person g = (metD ((l.map Dr.d).take j) x.d.person g || (decide ((Dr.d y).person ≠ x.d.person) && (idD (Dr.d y) == g))) := fun j y g h => by rw [take_snoc' (hsr j y h), metD_snoc]
    have hm0 : ∀ g, false = metD ((l.map Dr.d).take 0) x.d.person g := fun g => by rw [List.take_zero]; unfold metD; rfl
    have gB8W : W.heap.size ≤ B8 := gB8
    clear hsr
    repeat' (first | (with_reducible refine RunLN.chk ?_; refine RunLN.int (by (first | (refine wr_i64 ?_ ?_; omega; omega) | (refine wm_i64 ?_; omega) | (refine wq_i64 ?_ ?_ ?_; omega; omega; omega) | rfl)) ?_) | refine RunL.ev Tryd.tOk rfl rfl rfl ?_ | refine RunE.seq ?_ | refine RunE.region ?_ | refine RunL.nil ?_ | refine RunE.block ?_)
    refine RunE.loop (ι := Nat × Int × Dg) (fun s => [(0, kv), (1, .slice (some ⟨b1, o1, none⟩) l.length cc), (4, .bool false), (5, .bool gd), (6, .slice (some ⟨Bi, 0, none⟩) l.length l.length), (7, .int .i64 (i : Int)), (8, .pointer (some ⟨B8, 0, none⟩)), (11, .int .i64 s.2.1), (12, .pointer (some ⟨B12, 0, none⟩)), (38, .slice (some ⟨b1, o1, none⟩) l.length cc), (39, .int .i64 (l.length : Int)), (40, .int .i64 (i : Int)), (80, .int .i64 (i : Int)), (81, .int .i64 (s.1 : Int))])
      (fun s w' => s.1 ≤ i ∧ s.2.1 = nextD ((l.map Dr.d).take s.1) x.d.person ∧ s.2.2 = lastD ((l.map Dr.d).take s.1) x.d.person ∧ Ext W w' ∧ Blk w' Bi (flat digC ids') 23 ∧ Blk w' B8 (dCells x.d x.u x.v) 29 ∧ Blk w' B12 (digC s.2.2) 23) (fun s => i - s.1) (0, 0, zeroG) (by repeat (first | exact Sub.nil _ | refine Sub.cons rfl ?_)) ⟨Nat.zero_le _, hn0, hl0.symm, X, Zi, Z8, Z12⟩ ?_
    clear X Zi Z8 Z12 hl0 hn0
    rintro ⟨j, nx, ls⟩ w6 ⟨hj, hnx, hls', X, Zi, Z8, Z12⟩ again2
    simp only at hj hnx hls' Z12 again2 ⊢
    by_cases hji : j < i
    · obtain ⟨y, hy⟩ : ∃ y, l[j]? = some y := ⟨_, List.getElem?_eq_getElem (by omega)⟩
      have hry := flat_row encR hr1 hy
      have hgi := flat_row encG (Blk.row Zi) (hget j y hji hy)
      have h1 := hns j y hy
      have h2 := hlsn j y hy
      have h3 := hnl j
      have h4 := hng j
      rw [← hnx] at h1 h3 h4
      rw [← hls'] at h2
      clear hnl hng hns hlsn hms hm0 hget next
      by_cases hp : y.d.person = x.d.person
      · rw [if_pos hp] at h1 h2
        repeat' (first | (with_reducible refine RunLN.decT ?_ ?_; focus omega) | (with_reducible refine RunLN.chk ?_; refine RunLN.int (by (first | (refine wr_i64 ?_ ?_; omega; omega) | (refine wm_i64 ?_; omega) | (refine wq_i64 ?_ ?_ ?_; omega; omega; omega) | rfl)) ?_) | refine RunL.ev Tryd.tOk rfl rfl rfl ?_ | refine RunE.condT rfl rfl ?_ | refine RunE.seq ?_ | refine RunE.region ?_ | refine RunL.nil ?_ | refine RunE.block ?_ | refine RunE.skip ?_)
        refine RunE.draw (fun _ => False) mix ?_
        intro wd_ Xd_
        repeat' (first | (with_reducible refine AsyN.eqT ?_ ?_; focus omega) | (with_reducible refine AsyN.chk ?_; refine AsyN.int (by (first | (refine wr_i64 ?_ ?_; omega; omega) | (refine wm_i64 ?_; omega) | (refine wq_i64 ?_ ?_ ?_; omega; omega; omega) | rfl)) ?_) | refine AsyN.any ?_ | refine Asy.ev Tryd.tOk rfl rfl rfl ?_ | refine Asy.evV rfl rfl rfl rfl (fun _ X_ => OpV.indexS Tryd.tOk j rfl rfl rfl (by first | rfl | omega) (by omega)) ?_ | refine Asy.evV rfl rfl rfl rfl (fun _ X_ => OpV.load1 Tryd.tOk rfl rfl rfl ((hry.up (X.trans (Xd_.trans X_))) _ _ rfl)) ?_ | refine Asy.evV rfl rfl rfl rfl (fun _ X_ => OpV.load1 Tryd.tOk rfl rfl rfl (Blk.cell (Z8.up (Xd_.trans X_)) rfl)) ?_)
        refine Asy.end_ (by kernel_rfl) ?_
        intro we_ Xe_
        replace Xe_ := Xd_.trans Xe_
        replace Zi := Zi.up Xe_
        replace Z8 := Z8.up Xe_
        replace Z12 := Z12.up Xe_
        replace hgi := hgi.up Xe_
        replace X := X.trans Xe_
        clear Xd_ Xe_
        repeat' (first | refine RunE.condT rfl rfl ?_ | refine RunL.nil ?_)
        refine RunE.draw (fun _ => False) mix ?_
        intro wd_ Xd_
        repeat' (first | (with_reducible refine AsyN.chk ?_; refine AsyN.int (by (first | (refine wr_i64 ?_ ?_; omega; omega) | (refine wm_i64 ?_; omega) | (refine wq_i64 ?_ ?_ ?_; omega; omega; omega) | rfl)) ?_) | refine AsyN.any ?_ | refine Asy.ev Tryd.tOk rfl rfl rfl ?_ | refine Asy.evV rfl rfl rfl rfl (fun _ X_ => OpV.indexS Tryd.tOk j rfl rfl rfl (by first | rfl | omega) (by omega)) ?_ | refine Asy.evV rfl rfl rfl rfl (fun _ X_ => OpV.loadN Tryd.tOk rfl rfl rfl rfl (hgi.up (Xd_.trans X_))) ?_)
        refine Asy.end_ (by kernel_rfl) ?_
        intro we_ Xe_
        replace Xe_ := Xd_.trans Xe_
        replace Zi := Zi.up Xe_
        replace Z8 := Z8.up Xe_
        replace Z12 := Z12.up Xe_
        replace X := X.trans Xe_
        clear Xd_ Xe_ hgi
        refine RunL.storeW (vs := digC (idD y.d)) Tryd.tOk rfl rfl rfl rfl rfl Z12 rfl rfl fun w7 t7 => ?_
        replace X := X.own t7.ext gB12
        replace Zi := Zi.other t7.ext (Ne.symm n12i)
        replace Z8 := Z8.other t7.ext (Ne.symm n128)
        replace Z12 : Blk w7 B12 (digC (idD y.d)) 23 := t7.at_
        clear t7
        repeat' (first | (with_reducible refine RunLN.chk ?_; refine RunLN.int (by (first | (refine wr_i64 ?_ ?_; omega; omega) | (refine wm_i64 ?_; omega) | (refine wq_i64 ?_ ?_ ?_; omega; omega; omega) | rfl)) ?_) | refine RunL.ev Tryd.tOk rfl rfl rfl ?_ | refine RunE.region ?_ | refine RunL.nil ?_ | refine RunE.inBlock ?_)
        exact RunE.weaken (by repeat (first | exact Sub.nil _ | refine Sub.cons rfl ?_)) (again2 (j + 1, nx + 1, idD y.d) _ (by simp only; omega) ⟨by simp only; omega, h1.symm, h2.symm, X, Zi, Z8, Z12⟩)
      · rw [if_neg hp, Int.add_zero] at h1
        rw [if_neg hp] at h2
        repeat' (first | (with_reducible refine RunLN.decT ?_ ?_; focus omega) | (with_reducible refine RunLN.chk ?_; refine RunLN.int (by (first | (refine wr_i64 ?_ ?_; omega; omega) | (refine wm_i64 ?_; omega) | (refine wq_i64 ?_ ?_ ?_; omega; omega; omega) | rfl)) ?_) | refine RunL.ev Tryd.tOk rfl rfl rfl ?_ | refine RunE.condT rfl rfl ?_ | refine RunE.seq ?_ | refine RunE.region ?_ | refine RunL.nil ?_ | refine RunE.block ?_ | refine RunE.skip ?_)
        refine RunE.draw (fun _ => False) mix ?_
        intro wd_ Xd_
        repeat' (first | (with_reducible refine AsyN.eqF ?_ ?_; focus omega) | (with_reducible refine AsyN.chk ?_; refine AsyN.int (by (first | (refine wr_i64 ?_ ?_; omega; omega) | (refine wm_i64 ?_; omega) | (refine wq_i64 ?_ ?_ ?_; omega; omega; omega) | rfl)) ?_) | refine AsyN.any ?_ | refine Asy.ev Tryd.tOk rfl rfl rfl ?_ | refine Asy.evV rfl rfl rfl rfl (fun _ X_ => OpV.indexS Tryd.tOk j rfl rfl rfl (by first | rfl | omega) (by omega)) ?_ | refine Asy.evV rfl rfl rfl rfl (fun _ X_ => OpV.load1 Tryd.tOk rfl rfl rfl ((hry.up (X.trans (Xd_.trans X_))) _ _ rfl)) ?_ | refine Asy.evV rfl rfl rfl rfl (fun _ X_ => OpV.load1 Tryd.tOk rfl rfl rfl (Blk.cell (Z8.up (Xd_.trans X_)) rfl)) ?_)
        refine Asy.end_ (by kernel_rfl) ?_
        intro we_ Xe_
        replace Xe_ := Xd_.trans Xe_
        replace Zi := Zi.up Xe_
        replace Z8 := Z8.up Xe_
        replace Z12 := Z12.up Xe_
        replace X := X.trans Xe_
        clear Xd_ Xe_ hgi
        repeat' (first | (with_reducible refine RunLN.chk ?_; refine RunLN.int (by (first | (refine wr_i64 ?_ ?_; omega; omega) | (refine wm_i64 ?_; omega) | (refine wq_i64 ?_ ?_ ?_; omega; omega; omega) | rfl)) ?_) | refine RunL.ev Tryd.tOk rfl rfl rfl ?_ | refine RunE.condF rfl rfl ?_ | refine RunE.region ?_ | refine RunL.nil ?_ | refine RunE.inBlock ?_ | refine RunE.skip ?_)
        exact RunE.weaken (by repeat (first | exact Sub.nil _ | refine Sub.cons rfl ?_)) (again2 (j + 1, nx, ls) _ (by simp only; omega) ⟨by simp only; omega, h1.symm, h2.symm, X, Zi, Z8, Z12⟩)
    obtain rfl : j = i := by omega
    rw [← hnx, ← hls'] at next
    clear again2 hnl hng hns hlsn hnx hls' gB12 n12i
    repeat' (first | (with_reducible refine RunLN.decF ?_ ?_; focus omega) | refine RunL.ev Tryd.tOk rfl rfl rfl ?_ | refine RunE.seq ?_ | refine RunE.region ?_ | refine RunL.nil ?_)
    refine RunE.condF rfl rfl ?_
    refine RunE.exit rfl ?_
    apply RunE.cutK (ι := Unit) (fun _ => [(0, kv), (1, .slice (some ⟨b1, o1, none⟩) l.length cc), (4, .bool false), (5, .bool (gd && ((x.d.no == nx) && (x.d.prev == ls)))), (6, .slice (some ⟨Bi, 0, none⟩) l.length l.length), (7, .int .i64 (j : Int)), (8, .pointer (some ⟨B8, 0, none⟩)), (38, .slice (some ⟨b1, o1, none⟩) l.length cc), (39, .int .i64 (l.length : Int)), (40, .int .i64 (j : Int)), (113, x.u), (114, .int .i64 (x.d.seen.length : Int)), (115, .int .i64 0)])
      (fun _ w' => Ext W w' ∧ Blk w' Bi (flat digC ids') 23 ∧ Blk w' B8 (dCells x.d x.u x.v) 29)
    · intro fin
      have hsl := hhx.seen
      rcases Bool.eq_false_or_eq_true gd with hg | hg
      rotate_left
      · rw [hg] at fin ⊢
        repeat' (first | with_reducible refine RunLN.boolF rfl ?_ | (with_reducible refine RunLN.chk ?_; refine RunLN.int (by (first | (refine wr_i64 ?_ ?_; omega; omega) | (refine wm_i64 ?_; omega) | (refine wq_i64 ?_ ?_ ?_; omega; omega; omega) | rfl)) ?_) | refine RunLN.any ?_ | refine RunL.ev Tryd.tOk rfl rfl rfl ?_ | refine RunL.unwantedD rfl rfl ?_ | refine RunL.evV rfl rfl rfl (OpV.load1 Tryd.tOk rfl rfl rfl (Blk.cell Z8 rfl)) ?_ | refine RunE.seq ?_ | refine RunE.region ?_ | refine RunL.nil ?_)
        exact RunE.weaken (by repeat (first | exact Sub.nil _ | refine Sub.cons rfl ?_)) (fin () _ ⟨X, Zi, Z8⟩)
      rw [hg] at fin ⊢
      rcases Bool.eq_false_or_eq_true (x.d.no == nx) with q1 | q1
      rotate_left
      · rw [q1] at fin
        repeat' (first | with_reducible refine RunLN.boolT rfl ?_ | with_reducible refine RunLN.boolF rfl ?_ | refine RunLN.boolF (by assumption) ?_ | (with_reducible refine RunLN.chk ?_; refine RunLN.int (by (first | (refine wr_i64 ?_ ?_; omega; omega) | (refine wm_i64 ?_; omega) | (refine wq_i64 ?_ ?_ ?_; omega; omega; omega) | rfl)) ?_) | refine RunLN.any ?_ | refine RunL.ev Tryd.tOk rfl rfl rfl ?_ | refine RunL.unwantedD rfl rfl ?_ | refine RunL.evV rfl rfl rfl (OpV.load1 Tryd.tOk rfl rfl rfl (Blk.cell Z8 rfl)) ?_ | refine RunE.seq ?_ | refine RunE.region ?_ | refine RunL.nil ?_)
        exact RunE.weaken (by repeat (first | exact Sub.nil _ | refine Sub.cons rfl ?_)) (fin () _ ⟨X, Zi, Z8⟩)
      rcases Bool.eq_false_or_eq_true (x.d.prev == ls) with q2 | q2
      rotate_left
      · rw [q1, q2] at fin
        repeat' (first | with_reducible refine RunLN.boolT rfl ?_ | with_reducible refine RunLN.boolF rfl ?_ | refine RunLN.boolT (by assumption) ?_ | refine RunLN.boolF (by assumption) ?_ | (with_reducible refine RunLN.chk ?_; refine RunLN.int (by (first | (refine wr_i64 ?_ ?_; omega; omega) | (refine wm_i64 ?_; omega) | (refine wq_i64 ?_ ?_ ?_; omega; omega; omega) | rfl)) ?_) | refine RunLN.any ?_ | refine RunL.ev Tryd.tOk rfl rfl rfl ?_ | refine RunL.evV rfl rfl rfl (OpV.load1 Tryd.tOk rfl rfl rfl (Blk.cell Z8 rfl)) ?_ | refine RunL.evV rfl rfl rfl (OpV.loadN Tryd.tOk rfl rfl rfl rfl (Blk.row Z12)) ?_ | refine RunL.evV rfl rfl rfl (OpV.loadN Tryd.tOk rfl rfl rfl rfl (row_prev (Blk.row Z8))) ?_ | refine RunL.evV rfl rfl rfl ((OpV.eqDg (a := x.d.prev) (b := ls) bytesArr rfl rfl)) ?_ | refine RunE.seq ?_ | refine RunE.region ?_ | refine RunL.nil ?_)
        exact RunE.weaken (by repeat (first | exact Sub.nil _ | refine Sub.cons rfl ?_)) (fin () _ ⟨X, Zi, Z8⟩)
      · rw [q1, q2] at fin
        repeat' (first | with_reducible refine RunLN.boolT rfl ?_ | refine RunLN.boolT (by assumption) ?_ | (with_reducible refine RunLN.chk ?_; refine RunLN.int (by (first | (refine wr_i64 ?_ ?_; omega; omega) | (refine wm_i64 ?_; omega) | (refine wq_i64 ?_ ?_ ?_; omega; omega; omega) | rfl)) ?_) | refine RunLN.any ?_ | refine RunL.ev Tryd.tOk rfl rfl rfl ?_ | refine RunL.evV rfl rfl rfl (OpV.load1 Tryd.tOk rfl rfl rfl (Blk.cell Z8 rfl)) ?_ | refine RunL.evV rfl rfl rfl (OpV.loadN Tryd.tOk rfl rfl rfl rfl (Blk.row Z12)) ?_ | refine RunL.evV rfl rfl rfl (OpV.loadN Tryd.tOk rfl rfl rfl rfl (row_prev (Blk.row Z8))) ?_ | refine RunL.evV rfl rfl rfl ((OpV.eqDg (a := x.d.prev) (b := ls) bytesArr rfl rfl)) ?_ | refine RunE.seq ?_ | refine RunE.region ?_ | refine RunL.nil ?_)
        exact RunE.weaken (by repeat (first | exact Sub.nil _ | refine Sub.cons rfl ?_)) (fin () _ ⟨X, Zi, Z8⟩)
    clear X Zi Z8 Z12
    rintro _ w7 ⟨X, Zi, Z8⟩
    have hsl := hhx.seen
    have hbool : (gd && (((x.d.no == nx) && (x.d.prev == ls)) && x.d.seen.all (metD ((l.map Dr.d).take j) x.d.person))) = ((gd && ((x.d.no == nx) && (x.d.prev == ls))) && x.d.seen.all (metD ((l.map Dr.d).take j) x.d.person)) := (Bool.and_assoc _ _ _).symm
    rw [hbool] at next
    generalize (gd && ((x.d.no == nx) && (x.d.prev == ls))) = g1 at next ⊢
    generalize x.u = u at hsl Z8 ⊢
    clear hbool hhx
    refine RunE.block ?_
    refine RunE.loop (ι := Nat × Bool) (fun s => [(0, kv), (1, .slice (some ⟨b1, o1, none⟩) l.length cc), (4, .bool false), (5, .bool s.2), (6, .slice (some ⟨Bi, 0, none⟩) l.length l.length), (7, .int .i64 (j : Int)), (8, .pointer (some ⟨B8, 0, none⟩)), (38, .slice (some ⟨b1, o1, none⟩) l.length cc), (39, .int .i64 (l.length : Int)), (40, .int .i64 (j : Int)), (113, u), (114, .int .i64 (x.d.seen.length : Int)), (115, .int .i64 (s.1 : Int))])
      (fun s w' => s.1 ≤ x.d.seen.length ∧ s.2 = (g1 && (x.d.seen.take s.1).all (metD ((l.map Dr.d).take j) x.d.person)) ∧ Ext W w' ∧ Blk w' Bi (flat digC ids') 23 ∧ Blk w' B8 (dCells x.d u x.v) 29) (fun s => x.d.seen.length - s.1) (0, g1) (by repeat (first | exact Sub.nil _ | refine Sub.cons rfl ?_)) ⟨Nat.zero_le _, by simp, X, Zi, Z8⟩ ?_
    clear X Zi Z8
    rintro ⟨q, g⟩ w8 ⟨hq, hg, X, Zi, Z8⟩ again3
    simp only at hq hg again3 ⊢
    by_cases hql : q < x.d.seen.length
    rotate_left
    · obtain rfl : q = x.d.seen.length := by omega
      rw [List.take_length] at hg
      rw [← hg] at next
      clear again3 hms hm0
      repeat' (first | (with_reducible refine RunLN.decF ?_ ?_; focus omega) | (with_reducible refine RunLN.chk ?_; refine RunLN.int (by (first | (refine wr_i64 ?_ ?_; omega; omega) | (refine wm_i64 ?_; omega) | (refine wq_i64 ?_ ?_ ?_; omega; omega; omega) | rfl)) ?_) | refine RunL.ev Tryd.tOk rfl rfl rfl ?_ | refine RunE.condF rfl rfl ?_ | refine RunE.seq ?_ | refine RunE.region ?_ | refine RunL.nil ?_ | refine RunE.inBlock ?_ | refine RunE.exit rfl ?_)
      exact RunE.weaken (by repeat (first | exact Sub.nil _ | refine Sub.cons rfl ?_)) (next _ X Zi)
    obtain ⟨e, he⟩ : ∃ e, x.d.seen[q]? = some e := ⟨_, List.getElem?_eq_getElem hql⟩
    obtain ⟨b3, o3, c3, rfl, hr3, -⟩ := isL_held hsl hql
    have hre := flat_row encG hr3 he
    have eall : (g1 && (x.d.seen.take (q + 1)).all (metD ((l.map Dr.d).take j) x.d.person)) = (g && metD ((l.map Dr.d).take j) x.d.person e) := by
      rw [take_snoc' he, List.all_append, ← Bool.and_assoc, ← hg]; simp
    clear hg next
    repeat' (first | (with_reducible refine RunLN.decT ?_ ?_; focus omega) | refine RunLN.any ?_ | refine RunL.ev Tryd.tOk rfl rfl rfl ?_ | refine RunL.evV rfl rfl rfl (OpV.loadN Tryd.tOk rfl rfl rfl rfl (hre.up X)) ?_ | refine RunL.evV rfl rfl rfl (OpV.indexS Tryd.tOk _ rfl rfl rfl rfl (by omega)) ?_ | refine RunE.condT rfl rfl ?_ | refine RunE.seq ?_ | refine RunE.region ?_ | refine RunL.nil ?_ | refine RunE.block ?_ | refine RunE.skip ?_)
    refine RunL.alloc Tryd.tOk rfl rfl rfl fun B15 wa_ aa_ => ?_
    have gB15 := aa_.ge X
    refine RunL.storeW (vs := digC e) Tryd.tOk rfl rfl rfl rfl rfl aa_.at_ rfl rfl fun w15_ tb_ => ?_
    have Xa_ : Ext _ w15_ := aa_.ext.write tb_.ext (by intro i_ hi_ hlt_; have := aa_.eq; omega)
    have Z15 : Blk w15_ B15 (digC e) 23 := tb_.at_
    have n8_15 : B8 ≠ B15 := by have := Z8.lt; have := aa_.eq; omega
    have n15_8 : B15 ≠ B8 := Ne.symm n8_15
    replace Zi := Zi.up Xa_
    replace Z8 := Z8.up Xa_
    replace X := X.trans Xa_
    clear Xa_ aa_ tb_
    have hm0' := hm0 e
    repeat' (first | with_reducible refine RunLN.boolF rfl ?_ | (with_reducible refine RunLN.chk ?_; refine RunLN.int (by (first | (refine wr_i64 ?_ ?_; omega; omega) | (refine wm_i64 ?_; omega) | (refine wq_i64 ?_ ?_ ?_; omega; omega; omega) | rfl)) ?_) | refine RunL.ev Tryd.tOk rfl rfl rfl ?_ | refine RunE.seq ?_ | refine RunE.region ?_ | refine RunL.nil ?_ | refine RunE.block ?_)
    refine RunE.loop (ι := Nat × Bool) (fun s => [(0, kv), (1, .slice (some ⟨b1, o1, none⟩) l.length cc), (4, .bool false), (5, .bool g), (6, .slice (some ⟨Bi, 0, none⟩) l.length l.length), (7, .int .i64 (j : Int)), (8, .pointer (some ⟨B8, 0, none⟩)), (15, .pointer (some ⟨B15, 0, none⟩)), (16, .bool s.2), (38, .slice (some ⟨b1, o1, none⟩) l.length cc), (39, .int .i64 (l.length : Int)), (40, .int .i64 (j : Int)), (113, .slice (some ⟨b3, o3, none⟩) x.d.seen.length c3), (114, .int .i64 (x.d.seen.length : Int)), (115, .int .i64 (q : Int)), (119, .int .i64 (j : Int)), (120, .int .i64 (s.1 : Int))])
      (fun s w' => s.1 ≤ j ∧ s.2 = metD ((l.map Dr.d).take s.1) x.d.person e ∧ Ext W w' ∧ Blk w' Bi (flat digC ids') 23 ∧ Blk w' B8 (dCells x.d (.slice (some ⟨b3, o3, none⟩) x.d.seen.length c3) x.v) 29 ∧ Blk w' B15 (digC e) 23) (fun s => j - s.1) (0, false) (by repeat (first | exact Sub.nil _ | refine Sub.cons rfl ?_)) ⟨Nat.zero_le _, hm0', X, Zi, Z8, Z15⟩ ?_
    clear X Zi Z8 Z15 hm0' hm0 hre
    rintro ⟨k, mt⟩ w9 ⟨hkj', hmt, X, Zi, Z8, Z15⟩ again4
    simp only at hkj' hmt again4 ⊢
    by_cases hkj : k < j
    rotate_left
    · obtain rfl : k = j := by omega
      rw [← hmt] at eall
      have next3 := fun w' a b c => again3 (q + 1, g && mt) w' (by simp only; omega) ⟨by simp only; omega, eall.symm, a, b, c⟩
      clear again4 again3 eall hmt hms
      cases g with
      | false =>
        repeat' (first | with_reducible refine RunLN.boolF rfl ?_ | (with_reducible refine RunLN.decF ?_ ?_; focus omega) | (with_reducible refine RunLN.chk ?_; refine RunLN.int (by (first | (refine wr_i64 ?_ ?_; omega; omega) | (refine wm_i64 ?_; omega) | (refine wq_i64 ?_ ?_ ?_; omega; omega; omega) | rfl)) ?_) | refine RunL.ev Tryd.tOk rfl rfl rfl ?_ | refine RunL.unwantedD rfl rfl ?_ | refine RunE.condF rfl rfl ?_ | refine RunE.seq ?_ | refine RunE.region ?_ | refine RunL.nil ?_ | refine RunE.inBlock ?_ | refine RunE.exit rfl ?_)
        exact RunE.weaken (by repeat (first | exact Sub.nil _ | refine Sub.cons rfl ?_)) (next3 _ X Zi Z8)
      | true =>
        simp only [Bool.true_and] at next3
        repeat' (first | with_reducible refine RunLN.boolT rfl ?_ | (with_reducible refine RunLN.decF ?_ ?_; focus omega) | (with_reducible refine RunLN.chk ?_; refine RunLN.int (by (first | (refine wr_i64 ?_ ?_; omega; omega) | (refine wm_i64 ?_; omega) | (refine wq_i64 ?_ ?_ ?_; omega; omega; omega) | rfl)) ?_) | refine RunLN.any ?_ | refine RunL.ev Tryd.tOk rfl rfl rfl ?_ | refine RunE.condF rfl rfl ?_ | refine RunE.seq ?_ | refine RunE.region ?_ | refine RunL.nil ?_ | refine RunE.inBlock ?_ | refine RunE.exit rfl ?_)
        exact RunE.weaken (by repeat (first | exact Sub.nil _ | refine Sub.cons rfl ?_)) (next3 _ X Zi Z8)
    obtain ⟨y, hy⟩ : ∃ y, l[k]? = some y := ⟨_, List.getElem?_eq_getElem (by omega)⟩
    have hry := flat_row encR hr1 hy
    have hgi := flat_row encG (Blk.row Zi) (hget k y hkj hy)
    have h1 := hms k y e hy
    rw [← hmt] at h1
    clear hms hget again3 eall hmt
    cases mt with
    | true =>
      have next4 := fun w' a b c d => again4 (k + 1, true) w' (by simp only; omega) ⟨by simp only; omega, h1.symm, a, b, c, d⟩
      clear again4 h1
      repeat' (first | (with_reducible refine RunLN.decT ?_ ?_; focus omega) | (with_reducible refine RunLN.chk ?_; refine RunLN.int (by (first | (refine wr_i64 ?_ ?_; omega; omega) | (refine wm_i64 ?_; omega) | (refine wq_i64 ?_ ?_ ?_; omega; omega; omega) | rfl)) ?_) | refine RunL.ev Tryd.tOk rfl rfl rfl ?_ | refine RunE.condT rfl rfl ?_ | refine RunE.seq ?_ | refine RunE.region ?_ | refine RunL.nil ?_ | refine RunE.block ?_ | refine RunE.skip ?_)
      refine RunE.draw (fun _ => False) mix ?_
      intro wd_ Xd_
      repeat' (first | with_reducible refine AsyN.boolT rfl ?_ | refine Asy.ev Tryd.tOk rfl rfl rfl ?_ | refine Asy.unwantedD rfl rfl rfl ?_)
      refine Asy.end_ (by kernel_rfl) ?_
      intro we_ Xe_
      replace Xe_ := Xd_.trans Xe_
      replace Zi := Zi.up Xe_
      replace Z8 := Z8.up Xe_
      replace Z15 := Z15.up Xe_
      replace X := X.trans Xe_
      clear Xd_ Xe_ hgi
      repeat' (first | (with_reducible refine RunLN.chk ?_; refine RunLN.int (by (first | (refine wr_i64 ?_ ?_; omega; omega) | (refine wm_i64 ?_; omega) | (refine wq_i64 ?_ ?_ ?_; omega; omega; omega) | rfl)) ?_) | refine RunL.ev Tryd.tOk rfl rfl rfl ?_ | refine RunE.region ?_ | refine RunL.nil ?_ | refine RunE.inBlock ?_)
      exact RunE.weaken (by repeat (first | exact Sub.nil _ | refine Sub.cons rfl ?_)) (next4 _ X Zi Z8 Z15)
    | false =>
    by_cases hp : y.d.person = x.d.person
    · rw [decide_eq_false (by simpa using hp)] at h1
      have next4 := fun w' a b c d => again4 (k + 1, false) w' (by simp only; omega) ⟨by simp only; omega, h1.symm, a, b, c, d⟩
      clear again4 h1
      repeat' (first | (with_reducible refine RunLN.decT ?_ ?_; focus omega) | (with_reducible refine RunLN.chk ?_; refine RunLN.int (by (first | (refine wr_i64 ?_ ?_; omega; omega) | (refine wm_i64 ?_; omega) | (refine wq_i64 ?_ ?_ ?_; omega; omega; omega) | rfl)) ?_) | refine RunL.ev Tryd.tOk rfl rfl rfl ?_ | refine RunE.condT rfl rfl ?_ | refine RunE.seq ?_ | refine RunE.region ?_ | refine RunL.nil ?_ | refine RunE.block ?_ | refine RunE.skip ?_)
      refine RunE.draw (fun _ => False) mix ?_
      intro wd_ Xd_
      repeat' (first | with_reducible refine AsyN.boolF rfl ?_ | (with_reducible refine AsyN.neF ?_ ?_; focus omega) | (with_reducible refine AsyN.chk ?_; refine AsyN.int (by (first | (refine wr_i64 ?_ ?_; omega; omega) | (refine wm_i64 ?_; omega) | (refine wq_i64 ?_ ?_ ?_; omega; omega; omega) | rfl)) ?_) | refine AsyN.any ?_ | refine Asy.ev Tryd.tOk rfl rfl rfl ?_ | refine Asy.unwantedD rfl rfl rfl ?_ | refine Asy.evV rfl rfl rfl rfl (fun _ X_ => OpV.indexS Tryd.tOk k rfl rfl rfl (by first | rfl | omega) (by omega)) ?_ | refine Asy.evV rfl rfl rfl rfl (fun _ X_ => OpV.load1 Tryd.tOk rfl rfl rfl ((hry.up (X.trans (Xd_.trans X_))) _ _ rfl)) ?_ | refine Asy.evV rfl rfl rfl rfl (fun _ X_ => OpV.load1 Tryd.tOk rfl rfl rfl (Blk.cell (Z8.up (Xd_.trans X_)) rfl)) ?_)
      refine Asy.end_ (by kernel_rfl) ?_
      intro we_ Xe_
      replace Xe_ := Xd_.trans Xe_
      replace Zi := Zi.up Xe_
      replace Z8 := Z8.up Xe_
      replace Z15 := Z15.up Xe_
      replace X := X.trans Xe_
      clear Xd_ Xe_ hgi
      repeat' (first | (with_reducible refine RunLN.chk ?_; refine RunLN.int (by (first | (refine wr_i64 ?_ ?_; omega; omega) | (refine wm_i64 ?_; omega) | (refine wq_i64 ?_ ?_ ?_; omega; omega; omega) | rfl)) ?_) | refine RunL.ev Tryd.tOk rfl rfl rfl ?_ | refine RunE.region ?_ | refine RunL.nil ?_ | refine RunE.inBlock ?_)
      exact RunE.weaken (by repeat (first | exact Sub.nil _ | refine Sub.cons rfl ?_)) (next4 _ X Zi Z8 Z15)
    · rw [decide_eq_true hp] at h1
      cases hid : (idD y.d == e) with
      | false =>
        rw [hid] at h1
        have next4 := fun w' a b c d => again4 (k + 1, false) w' (by simp only; omega) ⟨by simp only; omega, h1.symm, a, b, c, d⟩
        clear again4 h1
        repeat' (first | (with_reducible refine RunLN.decT ?_ ?_; focus omega) | (with_reducible refine RunLN.chk ?_; refine RunLN.int (by (first | (refine wr_i64 ?_ ?_; omega; omega) | (refine wm_i64 ?_; omega) | (refine wq_i64 ?_ ?_ ?_; omega; omega; omega) | rfl)) ?_) | refine RunL.ev Tryd.tOk rfl rfl rfl ?_ | refine RunE.condT rfl rfl ?_ | refine RunE.seq ?_ | refine RunE.region ?_ | refine RunL.nil ?_ | refine RunE.block ?_ | refine RunE.skip ?_)
        refine RunE.draw (fun _ => False) mix ?_
        intro wd_ Xd_
        repeat' (first | with_reducible refine AsyN.boolT rfl ?_ | with_reducible refine AsyN.boolF rfl ?_ | refine AsyN.boolF (by assumption) ?_ | (with_reducible refine AsyN.neT ?_ ?_; focus omega) | (with_reducible refine AsyN.chk ?_; refine AsyN.int (by (first | (refine wr_i64 ?_ ?_; omega; omega) | (refine wm_i64 ?_; omega) | (refine wq_i64 ?_ ?_ ?_; omega; omega; omega) | rfl)) ?_) | refine AsyN.any ?_ | refine Asy.ev Tryd.tOk rfl rfl rfl ?_ | refine Asy.evV rfl rfl rfl rfl (fun _ X_ => OpV.indexS Tryd.tOk k rfl rfl rfl (by first | rfl | omega) (by omega)) ?_ | refine Asy.evV rfl rfl rfl rfl (fun _ X_ => OpV.load1 Tryd.tOk rfl rfl rfl ((hry.up (X.trans (Xd_.trans X_))) _ _ rfl)) ?_ | refine Asy.evV rfl rfl rfl rfl (fun _ X_ => OpV.load1 Tryd.tOk rfl rfl rfl (Blk.cell (Z8.up (Xd_.trans X_)) rfl)) ?_ | refine Asy.evV rfl rfl rfl rfl (fun _ X_ => OpV.loadN Tryd.tOk rfl rfl rfl rfl (hgi.up (Xd_.trans X_))) ?_ | refine Asy.evV rfl rfl rfl rfl (fun _ X_ => OpV.loadN Tryd.tOk rfl rfl rfl rfl (Blk.row (Z15.up (Xd_.trans X_)))) ?_ | refine Asy.evV rfl rfl rfl rfl (fun _ X_ => (OpV.eqDg (a := idD y.d) (b := e) bytesArr rfl rfl)) ?_)
        refine Asy.end_ (by kernel_rfl) ?_
        intro we_ Xe_
        replace Xe_ := Xd_.trans Xe_
        replace Zi := Zi.up Xe_
        replace Z8 := Z8.up Xe_
        replace Z15 := Z15.up Xe_
        replace X := X.trans Xe_
        clear Xd_ Xe_ hgi
        repeat' (first | (with_reducible refine RunLN.chk ?_; refine RunLN.int (by (first | (refine wr_i64 ?_ ?_; omega; omega) | (refine wm_i64 ?_; omega) | (refine wq_i64 ?_ ?_ ?_; omega; omega; omega) | rfl)) ?_) | refine RunL.ev Tryd.tOk rfl rfl rfl ?_ | refine RunE.region ?_ | refine RunL.nil ?_ | refine RunE.inBlock ?_)
        exact RunE.weaken (by repeat (first | exact Sub.nil _ | refine Sub.cons rfl ?_)) (next4 _ X Zi Z8 Z15)
      | true =>
        rw [hid] at h1
        have next4 := fun w' a b c d => again4 (k + 1, true) w' (by simp only; omega) ⟨by simp only; omega, h1.symm, a, b, c, d⟩
        clear again4 h1
        repeat' (first | (with_reducible refine RunLN.decT ?_ ?_; focus omega) | (with_reducible refine RunLN.chk ?_; refine RunLN.int (by (first | (refine wr_i64 ?_ ?_; omega; omega) | (refine wm_i64 ?_; omega) | (refine wq_i64 ?_ ?_ ?_; omega; omega; omega) | rfl)) ?_) | refine RunL.ev Tryd.tOk rfl rfl rfl ?_ | refine RunE.condT rfl rfl ?_ | refine RunE.seq ?_ | refine RunE.region ?_ | refine RunL.nil ?_ | refine RunE.block ?_ | refine RunE.skip ?_)
        refine RunE.draw (fun _ => False) mix ?_
        intro wd_ Xd_
        repeat' (first | with_reducible refine AsyN.boolT rfl ?_ | with_reducible refine AsyN.boolF rfl ?_ | refine AsyN.boolT (by assumption) ?_ | (with_reducible refine AsyN.neT ?_ ?_; focus omega) | (with_reducible refine AsyN.chk ?_; refine AsyN.int (by (first | (refine wr_i64 ?_ ?_; omega; omega) | (refine wm_i64 ?_; omega) | (refine wq_i64 ?_ ?_ ?_; omega; omega; omega) | rfl)) ?_) | refine AsyN.any ?_ | refine Asy.ev Tryd.tOk rfl rfl rfl ?_ | refine Asy.evV rfl rfl rfl rfl (fun _ X_ => OpV.indexS Tryd.tOk k rfl rfl rfl (by first | rfl | omega) (by omega)) ?_ | refine Asy.evV rfl rfl rfl rfl (fun _ X_ => OpV.load1 Tryd.tOk rfl rfl rfl ((hry.up (X.trans (Xd_.trans X_))) _ _ rfl)) ?_ | refine Asy.evV rfl rfl rfl rfl (fun _ X_ => OpV.load1 Tryd.tOk rfl rfl rfl (Blk.cell (Z8.up (Xd_.trans X_)) rfl)) ?_ | refine Asy.evV rfl rfl rfl rfl (fun _ X_ => OpV.loadN Tryd.tOk rfl rfl rfl rfl (hgi.up (Xd_.trans X_))) ?_ | refine Asy.evV rfl rfl rfl rfl (fun _ X_ => OpV.loadN Tryd.tOk rfl rfl rfl rfl (Blk.row (Z15.up (Xd_.trans X_)))) ?_ | refine Asy.evV rfl rfl rfl rfl (fun _ X_ => (OpV.eqDg (a := idD y.d) (b := e) bytesArr rfl rfl)) ?_)
        refine Asy.end_ (by kernel_rfl) ?_
        intro we_ Xe_
        replace Xe_ := Xd_.trans Xe_
        replace Zi := Zi.up Xe_
        replace Z8 := Z8.up Xe_
        replace Z15 := Z15.up Xe_
        replace X := X.trans Xe_
        clear Xd_ Xe_ hgi
        repeat' (first | (with_reducible refine RunLN.chk ?_; refine RunLN.int (by (first | (refine wr_i64 ?_ ?_; omega; omega) | (refine wm_i64 ?_; omega) | (refine wq_i64 ?_ ?_ ?_; omega; omega; omega) | rfl)) ?_) | refine RunL.ev Tryd.tOk rfl rfl rfl ?_ | refine RunE.region ?_ | refine RunL.nil ?_ | refine RunE.inBlock ?_)
        exact RunE.weaken (by repeat (first | exact Sub.nil _ | refine Sub.cons rfl ?_)) (next4 _ X Zi Z8 Z15)
  · intro join2
    cases hf : fineD ks x.d with
    | false =>
      rw [hbad (.inl hf)] at join
      clear hbad again hids
      refine RunE.draw (fun _ => False) mix ?_
      intro wd_ Xd_
      repeat' (first | with_reducible refine AsyN.boolT rfl ?_ | with_reducible refine AsyN.boolF rfl ?_ | refine Asy.ev Tryd.tOk rfl rfl rfl ?_ | refine Asy.unwantedD rfl rfl rfl ?_)
      refine Asy.end_ (by kernel_rfl) ?_
      intro we_ Xe_
      replace X := X.trans (Xd_.trans Xe_)
      clear Xd_ Xe_
      refine RunL.nil ?_
      refine RunE.condT rfl rfl ?_
      refine RunE.seq ?_
      refine RunE.region ?_
      refine RunL.ev Tryd.tOk rfl rfl rfl ?_
      refine RunLN.any ?_
      refine RunL.nil ?_
      refine RunE.exit rfl ?_
      exact RunE.weaken (by repeat (first | exact Sub.nil _ | refine Sub.cons rfl ?_)) (join () _ X)
    | true =>
    by_cases hi0 : i = 0
    · have haf : afterD ((l.map Dr.d).take i) x.d = true := by subst hi0; unfold afterD; rfl
      clear hbad hlast join
      refine RunE.draw (fun _ => False) mix ?_
      intro wd_ Xd_
      repeat' (first | with_reducible refine AsyN.boolT rfl ?_ | with_reducible refine AsyN.boolF rfl ?_ | (with_reducible refine AsyN.decF ?_ ?_; focus omega) | (with_reducible refine AsyN.chk ?_; refine AsyN.int (by (first | (refine wr_i64 ?_ ?_; omega; omega) | (refine wm_i64 ?_; omega) | (refine wq_i64 ?_ ?_ ?_; omega; omega; omega) | rfl)) ?_) | refine Asy.ev Tryd.tOk rfl rfl rfl ?_ | refine Asy.unwantedD rfl rfl rfl ?_)
      refine Asy.end_ (by kernel_rfl) ?_
      intro we_ Xe_
      replace Xe_ := Xd_.trans Xe_
      replace Zi := Zi.up Xe_
      replace Z8 := Z8.up Xe_
      replace X := X.trans Xe_
      clear Xd_ Xe_
      refine RunL.nil ?_
      exact RunE.weaken (by repeat (first | exact Sub.nil _ | refine Sub.cons rfl ?_)) (join2 () _ ⟨hf, haf, X, Zi, Z8⟩)
    · obtain ⟨j, hij⟩ : ∃ j, i = j + 1 := ⟨i - 1, by omega⟩
      obtain ⟨y, hy, hyl⟩ := hlast j hij
      have hry := flat_row encR hr1 hy
      have haf : afterD ((l.map Dr.d).take i) x.d = befD y.d x.d := by unfold afterD; rw [hyl]
      have cb := rbefore_ok y.d x.d y.u y.v x.u x.v
      cases hb : befD y.d x.d with
      | false =>
        rw [hb] at haf cb
        rw [hbad (.inr haf)] at join
        clear hbad again hids
        refine RunE.draw (fun _ => False) mix ?_
        intro wd_ Xd_
        repeat' (first | with_reducible refine AsyN.boolT rfl ?_ | with_reducible refine AsyN.boolF rfl ?_ | (with_reducible refine AsyN.decT ?_ ?_; focus omega) | (with_reducible refine AsyN.chk ?_; refine AsyN.int (by (first | (refine wr_i64 ?_ ?_; omega; omega) | (refine wm_i64 ?_; omega) | (refine wq_i64 ?_ ?_ ?_; omega; omega; omega) | rfl)) ?_) | refine AsyN.any ?_ | refine Asy.ev Tryd.tOk rfl rfl rfl ?_ | refine Asy.evV rfl rfl rfl rfl (fun _ X_ => OpV.indexS Tryd.tOk j rfl rfl rfl (by first | rfl | omega) (by omega)) ?_ | refine Asy.evV rfl rfl rfl rfl (fun _ X_ => OpV.loadN Tryd.tOk rfl rfl rfl rfl (hry.up (X.trans (Xd_.trans X_)))) ?_ | refine Asy.evV rfl rfl rfl rfl (fun _ X_ => OpV.loadN Tryd.tOk rfl rfl rfl rfl (Blk.row (Z8.up (Xd_.trans X_)))) ?_ | refine Asy.callN rfl rfl rfl (fun _ X_ => (cb _)) ?_)
        refine Asy.end_ (by kernel_rfl) ?_
        intro we_ Xe_
        replace X := X.trans (Xd_.trans Xe_)
        clear Xd_ Xe_
        refine RunL.nil ?_
        refine RunE.condT rfl rfl ?_
        refine RunE.seq ?_
        refine RunE.region ?_
        refine RunL.ev Tryd.tOk rfl rfl rfl ?_
        refine RunLN.any ?_
        refine RunL.nil ?_
        refine RunE.exit rfl ?_
        exact RunE.weaken (by repeat (first | exact Sub.nil _ | refine Sub.cons rfl ?_)) (join () _ X)
      | true =>
        rw [hb] at haf cb
        clear hbad hlast join
        refine RunE.draw (fun _ => False) mix ?_
        intro wd_ Xd_
        repeat' (first | with_reducible refine AsyN.boolT rfl ?_ | with_reducible refine AsyN.boolF rfl ?_ | (with_reducible refine AsyN.decT ?_ ?_; focus omega) | (with_reducible refine AsyN.chk ?_; refine AsyN.int (by (first | (refine wr_i64 ?_ ?_; omega; omega) | (refine wm_i64 ?_; omega) | (refine wq_i64 ?_ ?_ ?_; omega; omega; omega) | rfl)) ?_) | refine AsyN.any ?_ | refine Asy.ev Tryd.tOk rfl rfl rfl ?_ | refine Asy.evV rfl rfl rfl rfl (fun _ X_ => OpV.indexS Tryd.tOk j rfl rfl rfl (by first | rfl | omega) (by omega)) ?_ | refine Asy.evV rfl rfl rfl rfl (fun _ X_ => OpV.loadN Tryd.tOk rfl rfl rfl rfl (hry.up (X.trans (Xd_.trans X_)))) ?_ | refine Asy.evV rfl rfl rfl rfl (fun _ X_ => OpV.loadN Tryd.tOk rfl rfl rfl rfl (Blk.row (Z8.up (Xd_.trans X_)))) ?_ | refine Asy.callN rfl rfl rfl (fun _ X_ => (cb _)) ?_)
        refine Asy.end_ (by kernel_rfl) ?_
        intro we_ Xe_
        replace Xe_ := Xd_.trans Xe_
        replace Zi := Zi.up Xe_
        replace Z8 := Z8.up Xe_
        replace X := X.trans Xe_
        clear Xd_ Xe_
        refine RunL.nil ?_
        exact RunE.weaken (by repeat (first | exact Sub.nil _ | refine Sub.cons rfl ?_)) (join2 () _ ⟨hf, haf, X, Zi, Z8⟩)
end Go.Sg
namespace Go.Proofs.YtpmpefkcmokoiaaDoor
open Go.ChangeShapes Go.WideShapes Go.ChangeAt Go.RowKit Go.Sg
namespace deedsLog
theorem own : ownKnob Tryd.prog.godebug = none := by kernel_rfl
theorem laidOut : laidOutB Tryd.prog = true := by kernel_rfl
theorem door_met (os : Os) (args : Array Value) : laidMetH Tryd.prog Rows.deedsLogRow.laid ((World.doorLaid Tryd.prog 19 os).forCall (fun _ _ => 0) ⟨#[], args, []⟩).memory :=
  laidMetH_of_parts3 (fuel := 8) (laidMet_of_run' 8 (by kernel_rfl) (by kernel_rfl)) (by kernel_rfl) (by kernel_rfl)
set_option maxRecDepth 100000 in
theorem lifted (os : Os) (started : os.Started) (H : Type) (enc : TypeId × Value → H) :
    ReturnsInHanded {} Tryd.checked os 6 .any (fun w args => (Rows.deedsLogSpec.pre enc Tryd.prog Tryd.f6 [] false w args ∧ laidMetH Tryd.prog Rows.deedsLogRow.laid w) ∧ sizedMet enc Tryd.prog Tryd.f6 (OpenSpec.ofChange Rows.deedsLogSpec) false w args)
      (Rows.deedsLogSpec.post enc Tryd.prog Tryd.f6 false true false false) := by
  refine returnsInHanded_of_change_and (C := Tryd.checked) (X := fun w _ => laidMetH Tryd.prog Rows.deedsLogRow.laid w) (fun _ _ _ hh h => h.of_heap hh) own started (by kernel_rfl) Tryd.func6
    (ChangeSpec.witness_shaped (enc := enc) (C := Tryd.checked) (os := os) (X := fun w _ => laidMetH Tryd.prog Rows.deedsLogRow.laid w) false (World.doorLaid Tryd.prog 19 os) #[.slice none 0 0, .slice none 0 0] 8 rfl (World.shaped_of_RefB (by kernel_rfl) (by kernel_rfl)) (by kernel_rfl) (by kernel_rfl) (by kernel_rfl) (door_met os _)) ?_
  intro W base args ds gs before hval0 hW _ _ hL _
  have hval : ∀ (j : Nat) t v, Tryd.f6.params[j]? = some t → args[j]? = some v → Value.okWide Tryd.prog W .any base t v := hval0
  have hW' := hW
  obtain ⟨p, q, hA0, hV, rfl, hfz, hnd⟩ := hW
  have hA : DataW.TrodAll enc Tryd.prog W 0 (fun _ => true) true Tryd.f6.params.toList args.toList ds p := hA0
  rw [Tryd.params6] at hA hval
  obtain ⟨v0, vs0, d0, ds0, p0, q0, hargs, rfl, rfl, h0, r0⟩ := trodAll_cons hA
  obtain ⟨v1, vs1, d1, ds1, p1, q1, rfl, rfl, rfl, h1, r1⟩ := trodAll_cons r0
  obtain ⟨rfl, rfl, rfl⟩ := trodAll_nil r1
  obtain rfl : args = #[v0, v1] := by cases args; simp_all
  obtain ⟨l0, m0, s0⟩ := keys_open (hval 0 43 v0 rfl rfl) h0
  obtain ⟨l1, m1, s1⟩ := deeds_open (hval 1 47 v1 rfl rfl) h1
  have L0 := start_of_laid (by kernel_rfl) rfl (.head _) hL
  have L1 := numbers_of_laid (by kernel_rfl) rfl (.tail _ (.head _)) hL
  refine (Rets.calls (deedsLog_walk v0 l0 v1 l1 W m0 s0 m1 s1 L0 L1)).mono fun e W' he => ?_
  obtain ⟨_, rfl, rfl, hx⟩ := he
  exact ⟨_, rfl, law_post (t := 4) laidOut (by kernel_rfl) (by kernel_rfl) (by kernel_rfl) rfl (fun ds h => by
    rcases ds with _ | ⟨_, _ | ⟨_, _ | ⟨_, _⟩⟩⟩ <;> first | rfl | (exact absurd h (by decide)) | (simp at h)) hW' hx⟩

theorem holds : Rows.DeedsLogSaid :=
  OpenClaim.holds_of_wide 6 Tryd.f6 rfl rfl rfl rfl rfl rfl rfl ⟨rfl, rfl, rfl, rfl, rfl⟩ rfl rfl rfl rfl rfl (by kernel_rfl) Tryd.func6 (by kernel_rfl)
    (of_decide_eq_true (by kernel_rfl)) (by unfold Func.isWrapper; first | (rw [if_pos (by decide +kernel)]; kernel_rfl) | (rw [if_neg (by decide +kernel)]; exact ⟨rfl, rfl⟩))
    (fun os started H enc _ => lifted os started H enc)
theorem proved : Rows.DeedsLogCardSaid :=
  Claim7.holds_tied_plain_at .later [] [.data, .data] true (true, "b4bd5900933cd1c32d7ed6686b9c79531316ce8527525fd23780c777f75ab3e5") true
    holds (fun _ h => by cases h) (by kernel_rfl) (fun _ h => by cases h) deedsLog_row_tie rfl ⟨rfl, rfl⟩ (by kernel_rfl) rfl
    (fun f fn hf hfn => by
      obtain rfl : f = 6 := Option.some.inj ((show Tryd.prog.funcNamed Tryd.f6.name = some 6 by kernel_rfl).symm.trans hf) |>.symm
      obtain rfl : fn = Tryd.f6 := (Option.some.inj (Tryd.func6.symm.trans hfn)).symm
      exact ⟨by kernel_rfl, fun j t ht => by
        have hall : Tryd.f6.params.toList.all (fun t => !Tryd.prog.wantsStandIn t) = true := by kernel_rfl
        have hm : t ∈ Tryd.f6.params.toList := by
          obtain ⟨hj, rfl⟩ := Array.getElem?_eq_some_iff.1 ht
          simp
        have := List.all_eq_true.1 hall t hm
        exact (by simpa using this : Tryd.prog.wantsStandIn t = false)⟩)
    (by kernel_rfl)
#print axioms proved
end deedsLog
end Go.Proofs.YtpmpefkcmokoiaaDoor
