/- signatorylaw49.DeedsNext returns true for every input; condition: the package variables digest.start and digest.numbers hold what the program lays in them (the card ties this). -/
import Derived.Test.YtpmpefkcmokoiaaDoorDeeW
set_option linter.unusedSimpArgs false
set_option linter.unusedVariables false
set_option linter.unusedSectionVars false
namespace Go.Dee
open Go.Rn Go.Sg Go.NT
theorem keys_map {ss : List Int} (hl : ss.length ≤ 64) : keysD (ss.map (powC 4)) = true := by
  unfold keysD
  rw [List.length_map, decide_eq_true hl, Bool.and_true, List.all_eq_true]
  intro k hk
  obtain ⟨s, -, rfl⟩ := List.mem_map.1 hk
  rw [powC_valid v4 s]; simp
theorem ki_map (ss : List Int) : KsI (ss.map (powC 4)) := fun k hk => by
  obtain ⟨s, -, rfl⟩ := List.mem_map.1 hk
  have := validS_bd (powC_valid v4 s)
  omega
def nextAt (l : List Deed) (after : Int) : Int := match l.getLast? with
  | some d => d.at_ + 1 + after
  | none => after
def seeD (l : List Deed) (p : Int) (see : Int) : List Dg := match l[see.toNat]? with
  | some d => if d.person = p then [] else [idD d]
  | none => []
theorem nextAt_snoc (l : List Deed) (d : Deed) (after : Int) : nextAt (l ++ [d]) after = d.at_ + 1 + after := by unfold nextAt; rw [List.getLast?_concat]
theorem seeD_snoc (l : List Deed) (d : Deed) (p see : Int) (h0 : 0 ≤ see) : seeD (l ++ [d]) p see = if (l.length : Int) = see then (if d.person = p then [] else [idD d]) else seeD l p see := by
  unfold seeD
  rcases Nat.lt_trichotomy see.toNat l.length with h | h | h
  · rw [List.getElem?_append_left h, if_neg (by omega)]
  · rw [if_pos (by omega), List.getElem?_append_right (by omega), h, Nat.sub_self]; rfl
  · rw [if_neg (by omega), List.getElem?_eq_none (by simp; omega), List.getElem?_eq_none (by omega)]
theorem seeD_len (l : List Deed) (p see : Int) : (seeD l p see).length ≤ 1 := by
  unfold seeD
  split
  · split <;> simp
  · simp
theorem next_step {ks : List Int} {l : List Deed} {p after see s : Int} {data : List UInt8} (hlog : logD ks l = true) (hl : l.length ≤ 15) (hs : inQ s = true) (hp0 : 0 ≤ p) (hp1 : p < 8) (hpl : p < (ks.length : Int)) (hk : Dee.keyOf ks p = powC 4 s) (ha : 0 ≤ after) (hat : nextAt l after < 1099511627776) (hd : data.length ≤ 1000) :
    makeE s (askD p (nextD l p) (nextAt l after) (lastD l p) (seeD l p see) data) = 0 ∧ stepD ks l (makeD s (askD p (nextD l p) (nextAt l after) (lastD l p) (seeD l p see) data)) = true := by
  have hn0 := nextD_nonneg l p
  have hn1 := nextD_le l p
  have hsl := seeD_len l p see
  have hat0 : 0 ≤ nextAt l after := by
    unfold nextAt
    split
    · rename_i d hd
      have := (formedD_inv (fineD_inv (logD_fine hlog d (List.mem_of_getLast? hd))).1).1
      omega
    · exact ha
  have hform : formedD (askD p (nextD l p) (nextAt l after) (lastD l p) (seeD l p see) data) = true := by
    unfold formedD numsD firstD
    rw [Bool.and_eq_true, Bool.and_eq_true, decide_eq_true_eq, Bool.or_eq_true, decide_eq_true_eq, beq_iff_eq]
    refine ⟨⟨?_, ?_⟩, ?_⟩
    · show 0 ≤ p ∧ p < 64 ∧ 0 ≤ nextD l p ∧ nextD l p < 4096 ∧ 0 ≤ nextAt l after ∧ nextAt l after < 1099511627776 ∧ (seeD l p see).length ≤ 64 ∧ data.length ≤ 65536
      omega
    · show incG (seeD l p see) = true
      have := incG_end (l := seeD l p see) (i := 0) (by omega)
      rwa [List.drop_zero] at this
    · show 0 < nextD l p ∨ lastD l p = zeroG
      by_cases h : nextD l p = 0
      · exact .inr (last_zero h)
      · exact .inl (by omega)
  have he := makeE_ok hs hform
  refine ⟨he, ?_⟩
  have hfine := make_fine (ks := ks) he hpl hk
  obtain ⟨-, -, hm⟩ := make_good he
  rw [hm] at hfine ⊢
  refine stepD_of hfine rfl rfl ?_ fun x hx => ?_
  · unfold afterD
    split
    · rename_i d hd
      have e : nextAt l after = d.at_ + 1 + after := by unfold nextAt; rw [hd]
      unfold befD
      have hne : ¬ d.at_ = nextAt l after := by omega
      show (if d.at_ = nextAt l after then _ else decide (d.at_ < nextAt l after)) = true
      rw [if_neg hne, decide_eq_true_eq]; omega
    · rfl
  · have hx' : x ∈ seeD l p see := hx
    unfold seeD at hx'
    split at hx'
    · rename_i d hd
      split at hx'
      · simp at hx'
      · rename_i hne
        rw [List.mem_singleton] at hx'
        show metD l p x = true
        unfold metD
        rw [List.any_eq_true]
        exact ⟨d, List.mem_of_getElem? hd, by rw [hx', decide_eq_true hne, beq_self_eq_true]; rfl⟩
    · simp at hx'
theorem keyOf_map {ss : List Int} {p : Int} {s : Int} (h0 : 0 ≤ p) (h : ss[p.toNat]? = some s) : Dee.keyOf (ss.map (powC 4)) p = powC 4 s := by
  unfold Dee.keyOf
  rw [List.getD_eq_getElem?_getD, List.getElem?_map, h, Option.map_some, Option.getD_some]
theorem chk_snoc {ks : List Int} {l : List Deed} {d : Deed} (hk : keysD ks = true) (hl : l.length ≤ 15) (hlog : logD ks l = true) (hs : stepD ks l d = true) : chkE ks (l ++ [d]) = 0 ∧ chkE ks (l ++ [d] ++ [d]) = 490 := by
  refine ⟨chk_good hk (by simp; omega) (logD_snoc hlog hs), ?_⟩
  refine log_not (l.length + 1) d (by rw [List.getElem?_append_right (by simp)]; simp) ?_ hk (by simp; omega)
  have e : (l ++ [d] ++ [d]).take (l.length + 1) = l ++ [d] := List.take_left' (by simp)
  rw [e]
  exact step_twice hs
end Go.Dee
namespace Go.Sg
open Go.Rn Go.Proofs Go.Dee Go.Rec Go.RowKit Go.Sha Go.Cod Go.NT
attribute [local irreducible] powC chkE fewL logD nextD lastD idD idG idE nextAt seeD makeE makeD stepD fineD keysD Go.Rn.RetsX Go.Rn.RunLN Go.Rn.AsyN Go.Rn.RunL Go.Rn.RunE Go.Rn.Asy Go.Rn.OpV Go.Rn.OpE Go.Rn.ExecE
set_option maxRecDepth 4000 in
set_option maxHeartbeats 16000000 in
theorem deedsNext_walk (sv : Value) (ss : List Int) (lv : Value) (l : List Dr) (pe after see : Int) (dv : Value) (data : List UInt8) (h2 : 0 ≤ pe ∧ pe < 256) (h3 : 0 ≤ after ∧ after < 256) (h4 : 0 ≤ see ∧ see < 256) (W : World) (hkb : ss.length < 9223372036854775808 ∧ KsI ss) (hk : LIn W sv ss) (hlb : l.length < 9223372036854775808 ∧ ∀ x ∈ l, WfX W x) (hv : LDr W lv l) (hdv : LBy W dv data) (hdl0 : data.length ≤ maxLen) (hS : Row W 0 0 (vals init8.l)) (hkT : Row W 1 0 (vals kTab)) :
    Rets Tryd.prog 8 [sv, lv, .int .u8 pe, .int .u8 after, .int .u8 see, dv] W fun r w' => r = .bool true ∧ Ext W w' := by
  have hdl : data.length < 9223372036854775808 := Nat.lt_of_le_of_lt hdl0 (by decide)
  clear hdl0
  obtain ⟨hkl, hki⟩ := hkb
  obtain ⟨hl, hd⟩ := hlb
  obtain ⟨ddv, cdv, rfl⟩ := isSl_slice hdv
  refine RetsX.of (nt := 163) Tryd.func8 (by kernel_rfl) rfl rfl (by simp) (by simp only [argEnv]; rfl) ?_
  have X := ExtB.refl (fun _ => False) W
  repeat' (first | with_reducible refine RunLN.boolT rfl ?_ | with_reducible refine RunLN.boolF rfl ?_ | refine RunLN.boolT (by assumption) ?_ | refine RunLN.boolF (by assumption) ?_ | with_reducible refine RunLN.eqT rfl ?_ | with_reducible refine RunLN.neF rfl ?_ | (with_reducible refine RunLN.decT ?_ ?_; focus omega) | (with_reducible refine RunLN.decF ?_ ?_; focus omega) | (with_reducible refine RunLN.eqT ?_ ?_; focus omega) | (with_reducible refine RunLN.eqF ?_ ?_; focus omega) | (with_reducible refine RunLN.neT ?_ ?_; focus omega) | (with_reducible refine RunLN.neF ?_ ?_; focus omega) | refine RunLN.boolT (by exact rfl) ?_ | refine RunLN.boolF (by exact rfl) ?_ | (with_reducible refine RunLN.chk ?_; refine RunLN.int (by (first | (refine wr_i64 ?_ ?_; omega; omega) | (refine wm_i64 ?_; omega) | (refine wq_i64 ?_ ?_ ?_; omega; omega; omega) | rfl)) ?_) | (refine RunLN.boolC (fun h_ => ?_) (fun h_ => ?_) <;> (try simp only [decide_eq_true_eq, decide_eq_false_iff_not, beq_iff_eq, bne_iff_ne, ne_eq, Bool.not_eq_true, Bool.not_eq_false, beq_eq_false_iff_ne, bne_eq_false_iff_eq, Bool.not_eq_eq_eq_not, Bool.not_true, Bool.not_false, Bool.not_not, Int.not_lt, Int.not_le, gt_iff_lt, ge_iff_le, Decidable.not_not] at h_)) | refine RunLN.any ?_ | refine RunL.ev Tryd.tOk rfl rfl rfl ?_ | refine RunL.unwantedD rfl rfl ?_ | refine RunL.unwantedN rfl ?_ | refine RunL.evV rfl rfl rfl (OpV.indexS Tryd.tOk _ rfl rfl rfl rfl (by omega)) ?_ | refine RunE.condT rfl rfl ?_ | refine RunE.condF rfl rfl ?_ | refine RunE.seq ?_ | refine RunE.region ?_ | refine RunL.nil ?_ | refine RunE.block ?_ | refine RunE.inBlock ?_ | refine RunE.skip ?_ | refine RunE.exit rfl ?_ | refine RunE.scope ?_ | refine RunE.inScope ?_ | refine RunE.label ?_)
  refine RunL.call rfl rfl rfl (l49_sane_ok _ (hS.up X) (hkT.up X)) ?_
  rintro _ _ ⟨rfl, Xa_⟩
  replace X := X.trans Xa_
  clear Xa_
  by_cases q0 : ss.length = 0
  · repeat' (first | with_reducible refine RunLN.boolT rfl ?_ | with_reducible refine RunLN.boolF rfl ?_ | refine RunLN.boolT (by assumption) ?_ | refine RunLN.boolF (by assumption) ?_ | with_reducible refine RunLN.eqT rfl ?_ | with_reducible refine RunLN.neF rfl ?_ | (with_reducible refine RunLN.decT ?_ ?_; focus omega) | (with_reducible refine RunLN.decF ?_ ?_; focus omega) | (with_reducible refine RunLN.eqT ?_ ?_; focus omega) | (with_reducible refine RunLN.eqF ?_ ?_; focus omega) | (with_reducible refine RunLN.neT ?_ ?_; focus omega) | (with_reducible refine RunLN.neF ?_ ?_; focus omega) | refine RunLN.boolT (by exact rfl) ?_ | refine RunLN.boolF (by exact rfl) ?_ | (with_reducible refine RunLN.chk ?_; refine RunLN.int (by (first | (refine wr_i64 ?_ ?_; omega; omega) | (refine wm_i64 ?_; omega) | (refine wq_i64 ?_ ?_ ?_; omega; omega; omega) | rfl)) ?_) | (refine RunLN.boolC (fun h_ => ?_) (fun h_ => ?_) <;> (try simp only [decide_eq_true_eq, decide_eq_false_iff_not, beq_iff_eq, bne_iff_ne, ne_eq, Bool.not_eq_true, Bool.not_eq_false, beq_eq_false_iff_ne, bne_eq_false_iff_eq, Bool.not_eq_eq_eq_not, Bool.not_true, Bool.not_false, Bool.not_not, Int.not_lt, Int.not_le, gt_iff_lt, ge_iff_le, Decidable.not_not] at h_)) | refine RunLN.any ?_ | refine RunL.ev Tryd.tOk rfl rfl rfl ?_ | refine RunL.unwantedD rfl rfl ?_ | refine RunL.unwantedN rfl ?_ | refine RunL.evV rfl rfl rfl (OpV.lenSl Tryd.tOk rfl rfl hk) ?_ | refine RunL.evV rfl rfl rfl (OpV.indexS Tryd.tOk _ rfl rfl rfl rfl (by omega)) ?_ | refine RunE.condT rfl rfl ?_ | refine RunE.condF rfl rfl ?_ | refine RunE.seq ?_ | refine RunE.region ?_ | refine RunL.nil ?_ | refine RunE.block ?_ | refine RunE.inBlock ?_ | refine RunE.skip ?_ | refine RunE.exit rfl ?_ | refine RunE.scope ?_ | refine RunE.inScope ?_ | refine RunE.label ?_)
    exact RunE.retFn Tryd.func8 (.tmp rfl .nil) ⟨rfl, X⟩
  by_cases q1 : 8 < ss.length
  · repeat' (first | with_reducible refine RunLN.boolT rfl ?_ | with_reducible refine RunLN.boolF rfl ?_ | refine RunLN.boolT (by assumption) ?_ | refine RunLN.boolF (by assumption) ?_ | with_reducible refine RunLN.eqT rfl ?_ | with_reducible refine RunLN.neF rfl ?_ | (with_reducible refine RunLN.decT ?_ ?_; focus omega) | (with_reducible refine RunLN.decF ?_ ?_; focus omega) | (with_reducible refine RunLN.eqT ?_ ?_; focus omega) | (with_reducible refine RunLN.eqF ?_ ?_; focus omega) | (with_reducible refine RunLN.neT ?_ ?_; focus omega) | (with_reducible refine RunLN.neF ?_ ?_; focus omega) | refine RunLN.boolT (by exact rfl) ?_ | refine RunLN.boolF (by exact rfl) ?_ | (with_reducible refine RunLN.chk ?_; refine RunLN.int (by (first | (refine wr_i64 ?_ ?_; omega; omega) | (refine wm_i64 ?_; omega) | (refine wq_i64 ?_ ?_ ?_; omega; omega; omega) | rfl)) ?_) | (refine RunLN.boolC (fun h_ => ?_) (fun h_ => ?_) <;> (try simp only [decide_eq_true_eq, decide_eq_false_iff_not, beq_iff_eq, bne_iff_ne, ne_eq, Bool.not_eq_true, Bool.not_eq_false, beq_eq_false_iff_ne, bne_eq_false_iff_eq, Bool.not_eq_eq_eq_not, Bool.not_true, Bool.not_false, Bool.not_not, Int.not_lt, Int.not_le, gt_iff_lt, ge_iff_le, Decidable.not_not] at h_)) | refine RunLN.any ?_ | refine RunL.ev Tryd.tOk rfl rfl rfl ?_ | refine RunL.unwantedD rfl rfl ?_ | refine RunL.unwantedN rfl ?_ | refine RunL.evV rfl rfl rfl (OpV.lenSl Tryd.tOk rfl rfl hk) ?_ | refine RunL.evV rfl rfl rfl (OpV.indexS Tryd.tOk _ rfl rfl rfl rfl (by omega)) ?_ | refine RunE.condT rfl rfl ?_ | refine RunE.condF rfl rfl ?_ | refine RunE.seq ?_ | refine RunE.region ?_ | refine RunL.nil ?_ | refine RunE.block ?_ | refine RunE.inBlock ?_ | refine RunE.skip ?_ | refine RunE.exit rfl ?_ | refine RunE.scope ?_ | refine RunE.inScope ?_ | refine RunE.label ?_)
    exact RunE.retFn Tryd.func8 (.tmp rfl .nil) ⟨rfl, X⟩
  by_cases q2 : 15 < l.length
  · repeat' (first | with_reducible refine RunLN.boolT rfl ?_ | with_reducible refine RunLN.boolF rfl ?_ | refine RunLN.boolT (by assumption) ?_ | refine RunLN.boolF (by assumption) ?_ | with_reducible refine RunLN.eqT rfl ?_ | with_reducible refine RunLN.neF rfl ?_ | (with_reducible refine RunLN.decT ?_ ?_; focus omega) | (with_reducible refine RunLN.decF ?_ ?_; focus omega) | (with_reducible refine RunLN.eqT ?_ ?_; focus omega) | (with_reducible refine RunLN.eqF ?_ ?_; focus omega) | (with_reducible refine RunLN.neT ?_ ?_; focus omega) | (with_reducible refine RunLN.neF ?_ ?_; focus omega) | refine RunLN.boolT (by exact rfl) ?_ | refine RunLN.boolF (by exact rfl) ?_ | (with_reducible refine RunLN.chk ?_; refine RunLN.int (by (first | (refine wr_i64 ?_ ?_; omega; omega) | (refine wm_i64 ?_; omega) | (refine wq_i64 ?_ ?_ ?_; omega; omega; omega) | rfl)) ?_) | (refine RunLN.boolC (fun h_ => ?_) (fun h_ => ?_) <;> (try simp only [decide_eq_true_eq, decide_eq_false_iff_not, beq_iff_eq, bne_iff_ne, ne_eq, Bool.not_eq_true, Bool.not_eq_false, beq_eq_false_iff_ne, bne_eq_false_iff_eq, Bool.not_eq_eq_eq_not, Bool.not_true, Bool.not_false, Bool.not_not, Int.not_lt, Int.not_le, gt_iff_lt, ge_iff_le, Decidable.not_not] at h_)) | refine RunLN.any ?_ | refine RunL.ev Tryd.tOk rfl rfl rfl ?_ | refine RunL.unwantedD rfl rfl ?_ | refine RunL.unwantedN rfl ?_ | refine RunL.evV rfl rfl rfl (OpV.lenSl Tryd.tOk rfl rfl hk) ?_ | refine RunL.evV rfl rfl rfl (OpV.lenSl Tryd.tOk rfl rfl hv) ?_ | refine RunL.evV rfl rfl rfl (OpV.indexS Tryd.tOk _ rfl rfl rfl rfl (by omega)) ?_ | refine RunE.condT rfl rfl ?_ | refine RunE.condF rfl rfl ?_ | refine RunE.seq ?_ | refine RunE.region ?_ | refine RunL.nil ?_ | refine RunE.block ?_ | refine RunE.inBlock ?_ | refine RunE.skip ?_ | refine RunE.exit rfl ?_ | refine RunE.scope ?_ | refine RunE.inScope ?_ | refine RunE.label ?_)
    exact RunE.retFn Tryd.func8 (.tmp rfl .nil) ⟨rfl, X⟩
  by_cases q3 : 1000 < data.length
  · repeat' (first | with_reducible refine RunLN.boolT rfl ?_ | with_reducible refine RunLN.boolF rfl ?_ | refine RunLN.boolT (by assumption) ?_ | refine RunLN.boolF (by assumption) ?_ | with_reducible refine RunLN.eqT rfl ?_ | with_reducible refine RunLN.neF rfl ?_ | (with_reducible refine RunLN.decT ?_ ?_; focus omega) | (with_reducible refine RunLN.decF ?_ ?_; focus omega) | (with_reducible refine RunLN.eqT ?_ ?_; focus omega) | (with_reducible refine RunLN.eqF ?_ ?_; focus omega) | (with_reducible refine RunLN.neT ?_ ?_; focus omega) | (with_reducible refine RunLN.neF ?_ ?_; focus omega) | refine RunLN.boolT (by exact rfl) ?_ | refine RunLN.boolF (by exact rfl) ?_ | (with_reducible refine RunLN.chk ?_; refine RunLN.int (by (first | (refine wr_i64 ?_ ?_; omega; omega) | (refine wm_i64 ?_; omega) | (refine wq_i64 ?_ ?_ ?_; omega; omega; omega) | rfl)) ?_) | (refine RunLN.boolC (fun h_ => ?_) (fun h_ => ?_) <;> (try simp only [decide_eq_true_eq, decide_eq_false_iff_not, beq_iff_eq, bne_iff_ne, ne_eq, Bool.not_eq_true, Bool.not_eq_false, beq_eq_false_iff_ne, bne_eq_false_iff_eq, Bool.not_eq_eq_eq_not, Bool.not_true, Bool.not_false, Bool.not_not, Int.not_lt, Int.not_le, gt_iff_lt, ge_iff_le, Decidable.not_not] at h_)) | refine RunLN.any ?_ | refine RunL.ev Tryd.tOk rfl rfl rfl ?_ | refine RunL.unwantedD rfl rfl ?_ | refine RunL.unwantedN rfl ?_ | refine RunL.evV rfl rfl rfl (OpV.lenSl Tryd.tOk rfl rfl hk) ?_ | refine RunL.evV rfl rfl rfl (OpV.lenSl Tryd.tOk rfl rfl hv) ?_ | refine RunL.evV rfl rfl rfl (OpV.lenSl Tryd.tOk rfl rfl hdv) ?_ | refine RunL.evV rfl rfl rfl (OpV.indexS Tryd.tOk _ rfl rfl rfl rfl (by omega)) ?_ | refine RunE.condT rfl rfl ?_ | refine RunE.condF rfl rfl ?_ | refine RunE.seq ?_ | refine RunE.region ?_ | refine RunL.nil ?_ | refine RunE.block ?_ | refine RunE.inBlock ?_ | refine RunE.skip ?_ | refine RunE.exit rfl ?_ | refine RunE.scope ?_ | refine RunE.inScope ?_ | refine RunE.label ?_)
    exact RunE.retFn Tryd.func8 (.tmp rfl .nil) ⟨rfl, X⟩
  repeat' (first | with_reducible refine RunLN.boolT rfl ?_ | with_reducible refine RunLN.boolF rfl ?_ | refine RunLN.boolT (by assumption) ?_ | refine RunLN.boolF (by assumption) ?_ | with_reducible refine RunLN.eqT rfl ?_ | with_reducible refine RunLN.neF rfl ?_ | (with_reducible refine RunLN.decT ?_ ?_; focus omega) | (with_reducible refine RunLN.decF ?_ ?_; focus omega) | (with_reducible refine RunLN.eqT ?_ ?_; focus omega) | (with_reducible refine RunLN.eqF ?_ ?_; focus omega) | (with_reducible refine RunLN.neT ?_ ?_; focus omega) | (with_reducible refine RunLN.neF ?_ ?_; focus omega) | refine RunLN.boolT (by exact rfl) ?_ | refine RunLN.boolF (by exact rfl) ?_ | (with_reducible refine RunLN.chk ?_; refine RunLN.int (by (first | (refine wr_i64 ?_ ?_; omega; omega) | (refine wm_i64 ?_; omega) | (refine wq_i64 ?_ ?_ ?_; omega; omega; omega) | rfl)) ?_) | (refine RunLN.boolC (fun h_ => ?_) (fun h_ => ?_) <;> (try simp only [decide_eq_true_eq, decide_eq_false_iff_not, beq_iff_eq, bne_iff_ne, ne_eq, Bool.not_eq_true, Bool.not_eq_false, beq_eq_false_iff_ne, bne_eq_false_iff_eq, Bool.not_eq_eq_eq_not, Bool.not_true, Bool.not_false, Bool.not_not, Int.not_lt, Int.not_le, gt_iff_lt, ge_iff_le, Decidable.not_not] at h_)) | refine RunLN.any ?_ | refine RunL.ev Tryd.tOk rfl rfl rfl ?_ | refine RunL.unwantedD rfl rfl ?_ | refine RunL.unwantedN rfl ?_ | refine RunL.evV rfl rfl rfl (OpV.lenSl Tryd.tOk rfl rfl hk) ?_ | refine RunL.evV rfl rfl rfl (OpV.lenSl Tryd.tOk rfl rfl hv) ?_ | refine RunL.evV rfl rfl rfl (OpV.lenSl Tryd.tOk rfl rfl hdv) ?_ | refine RunL.evV rfl rfl rfl (OpV.indexS Tryd.tOk _ rfl rfl rfl rfl (by omega)) ?_ | refine RunE.condT rfl rfl ?_ | refine RunE.condF rfl rfl ?_ | refine RunE.seq ?_ | refine RunE.region ?_ | refine RunL.nil ?_ | refine RunE.block ?_ | refine RunE.inBlock ?_ | refine RunE.skip ?_ | refine RunE.exit rfl ?_ | refine RunE.scope ?_ | refine RunE.inScope ?_ | refine RunE.label ?_)
  refine RunE.loop (ι := Nat × Value) (fun s => [(0, sv), (1, lv), (2, .int .u8 pe), (3, .int .u8 after), (4, .int .u8 see), (5, .slice ddv data.length cdv), (12, .bool false), (13, s.2), (50, sv), (51, .int .i64 (ss.length : Int)), (52, .int .i64 (s.1 : Int))])
    (fun s w' => s.1 ≤ ss.length ∧ (∀ x ∈ ss.take s.1, inQ x = true) ∧ w'.ownsRow W.heap.size 3 1 s.2 ((ss.take s.1).map (powC 4)).length (flat intC' ((ss.take s.1).map (powC 4))) ∧ Ext W w') (fun s => ss.length - s.1) (0, .slice none 0 0) (by repeat (first | exact Sub.nil _ | refine Sub.cons rfl ?_)) ⟨Nat.zero_le _, by simp, World.ownsRow_nil _ _ _ _, X⟩ ?_
  clear X
  rintro ⟨i, y⟩ w3 ⟨hi, hin, hO, X⟩ again
  simp only at hi hin hO again ⊢
  by_cases hlt : i < ss.length
  · obtain ⟨b1, o1, cc, rfl, hr1, -⟩ := isL_held hk hlt
    obtain ⟨x, hx⟩ : ∃ x, ss[i]? = some x := ⟨_, List.getElem?_eq_getElem hlt⟩
    have hrx := flat_row encIn hr1 hx
    have hx64 := hki x (List.mem_of_getElem? hx)
    have e1 : ss.take (i + 1) = ss.take i ++ [x] := by rw [List.take_add_one, hx]; rfl
    by_cases hq : 1 ≤ x ∧ x < 1073741789
    rotate_left
    · clear again e1
      by_cases hq1 : x < 1
      · repeat' (first | with_reducible refine RunLN.boolT rfl ?_ | with_reducible refine RunLN.boolF rfl ?_ | refine RunLN.boolT (by assumption) ?_ | refine RunLN.boolF (by assumption) ?_ | with_reducible refine RunLN.eqT rfl ?_ | with_reducible refine RunLN.neF rfl ?_ | (with_reducible refine RunLN.decT ?_ ?_; focus omega) | (with_reducible refine RunLN.decF ?_ ?_; focus omega) | (with_reducible refine RunLN.eqT ?_ ?_; focus omega) | (with_reducible refine RunLN.eqF ?_ ?_; focus omega) | (with_reducible refine RunLN.neT ?_ ?_; focus omega) | (with_reducible refine RunLN.neF ?_ ?_; focus omega) | refine RunLN.boolT (by exact rfl) ?_ | refine RunLN.boolF (by exact rfl) ?_ | (with_reducible refine RunLN.chk ?_; refine RunLN.int (by (first | (refine wr_i64 ?_ ?_; omega; omega) | (refine wm_i64 ?_; omega) | (refine wq_i64 ?_ ?_ ?_; omega; omega; omega) | rfl)) ?_) | refine RunLN.any ?_ | refine RunL.ev Tryd.tOk rfl rfl rfl ?_ | refine RunL.unwantedD rfl rfl ?_ | refine RunL.unwantedN rfl ?_ | refine RunL.evV rfl rfl rfl (OpV.load1 Tryd.tOk rfl rfl rfl ((hrx.up X) 0 _ rfl)) ?_ | refine RunL.evV rfl rfl rfl (OpV.indexS Tryd.tOk _ rfl rfl rfl rfl (by omega)) ?_ | refine RunE.condT rfl rfl ?_ | refine RunE.condF rfl rfl ?_ | refine RunE.seq ?_ | refine RunE.region ?_ | refine RunL.nil ?_ | refine RunE.block ?_ | refine RunE.inBlock ?_ | refine RunE.skip ?_ | refine RunE.exit rfl ?_ | refine RunE.scope ?_ | refine RunE.inScope ?_ | refine RunE.label ?_)
        exact RunE.retFn Tryd.func8 (.tmp rfl .nil) ⟨rfl, X⟩
      · repeat' (first | with_reducible refine RunLN.boolT rfl ?_ | with_reducible refine RunLN.boolF rfl ?_ | refine RunLN.boolT (by assumption) ?_ | refine RunLN.boolF (by assumption) ?_ | with_reducible refine RunLN.eqT rfl ?_ | with_reducible refine RunLN.neF rfl ?_ | (with_reducible refine RunLN.decT ?_ ?_; focus omega) | (with_reducible refine RunLN.decF ?_ ?_; focus omega) | (with_reducible refine RunLN.eqT ?_ ?_; focus omega) | (with_reducible refine RunLN.eqF ?_ ?_; focus omega) | (with_reducible refine RunLN.neT ?_ ?_; focus omega) | (with_reducible refine RunLN.neF ?_ ?_; focus omega) | refine RunLN.boolT (by exact rfl) ?_ | refine RunLN.boolF (by exact rfl) ?_ | (with_reducible refine RunLN.chk ?_; refine RunLN.int (by (first | (refine wr_i64 ?_ ?_; omega; omega) | (refine wm_i64 ?_; omega) | (refine wq_i64 ?_ ?_ ?_; omega; omega; omega) | rfl)) ?_) | refine RunLN.any ?_ | refine RunL.ev Tryd.tOk rfl rfl rfl ?_ | refine RunL.unwantedD rfl rfl ?_ | refine RunL.unwantedN rfl ?_ | refine RunL.evV rfl rfl rfl (OpV.load1 Tryd.tOk rfl rfl rfl ((hrx.up X) 0 _ rfl)) ?_ | refine RunL.evV rfl rfl rfl (OpV.indexS Tryd.tOk _ rfl rfl rfl rfl (by omega)) ?_ | refine RunE.condT rfl rfl ?_ | refine RunE.condF rfl rfl ?_ | refine RunE.seq ?_ | refine RunE.region ?_ | refine RunL.nil ?_ | refine RunE.block ?_ | refine RunE.inBlock ?_ | refine RunE.skip ?_ | refine RunE.exit rfl ?_ | refine RunE.scope ?_ | refine RunE.inScope ?_ | refine RunE.label ?_)
        exact RunE.retFn Tryd.func8 (.tmp rfl .nil) ⟨rfl, X⟩
    have hin' : ∀ z ∈ ss.take (i + 1), inQ z = true := fun z hz => by
      rw [e1] at hz
      rcases List.mem_append.1 hz with hz | hz
      · exact hin z hz
      · rw [List.mem_singleton] at hz; subst hz; exact decide_eq_true hq
    have emap : (ss.take (i + 1)).map (powC 4) = (ss.take i).map (powC 4) ++ [powC 4 x] := by rw [e1, List.map_append]; rfl
    have hfl : ((ss.take i).map (powC 4)).length ≤ 8 := by simp; omega
    have next : ∀ (u' : Value) w', _ → _ → _ := fun u' w' a b => again (i + 1, u') w' (by simp only; omega) ⟨by simp only; omega, hin', a, b⟩
    simp only [emap] at next
    clear again e1 hin' hin emap
    generalize (ss.take i).map (powC 4) = f at hO next hfl
    have cp := pow4_at (n := x) rfl
    generalize powC 4 x = k at cp next
    obtain ⟨dy, cy, rfl⟩ := isSl_slice (isSl_own hO)
    repeat' (first | with_reducible refine RunLN.boolT rfl ?_ | with_reducible refine RunLN.boolF rfl ?_ | refine RunLN.boolT (by assumption) ?_ | refine RunLN.boolF (by assumption) ?_ | with_reducible refine RunLN.eqT rfl ?_ | with_reducible refine RunLN.neF rfl ?_ | (with_reducible refine RunLN.decT ?_ ?_; focus omega) | (with_reducible refine RunLN.decF ?_ ?_; focus omega) | (with_reducible refine RunLN.eqT ?_ ?_; focus omega) | (with_reducible refine RunLN.eqF ?_ ?_; focus omega) | (with_reducible refine RunLN.neT ?_ ?_; focus omega) | (with_reducible refine RunLN.neF ?_ ?_; focus omega) | refine RunLN.boolT (by exact rfl) ?_ | refine RunLN.boolF (by exact rfl) ?_ | (with_reducible refine RunLN.chk ?_; refine RunLN.int (by (first | (refine wr_i64 ?_ ?_; omega; omega) | (refine wm_i64 ?_; omega) | (refine wq_i64 ?_ ?_ ?_; omega; omega; omega) | rfl)) ?_) | refine RunLN.any ?_ | refine RunL.ev Tryd.tOk rfl rfl rfl ?_ | refine RunL.unwantedD rfl rfl ?_ | refine RunL.unwantedN rfl ?_ | refine RunL.evV rfl rfl rfl (OpV.load1 Tryd.tOk rfl rfl rfl ((hrx.up X) 0 _ rfl)) ?_ | refine RunL.evV rfl rfl rfl (OpV.indexS Tryd.tOk _ rfl rfl rfl rfl (by omega)) ?_ | refine RunE.condT rfl rfl ?_ | refine RunE.condF rfl rfl ?_ | refine RunE.seq ?_ | refine RunE.region ?_ | refine RunL.nil ?_ | refine RunE.block ?_ | refine RunE.inBlock ?_ | refine RunE.skip ?_ | refine RunE.exit rfl ?_ | refine RunE.scope ?_ | refine RunE.inScope ?_ | refine RunE.label ?_)
    refine RunL.call rfl rfl rfl (cp _) ?_
    rintro _ _ ⟨rfl, Xa_⟩
    replace hO := hO.up Xa_
    replace X := X.trans Xa_
    clear Xa_
    repeat' (first | with_reducible refine RunLN.boolT rfl ?_ | with_reducible refine RunLN.boolF rfl ?_ | refine RunLN.boolT (by assumption) ?_ | refine RunLN.boolF (by assumption) ?_ | with_reducible refine RunLN.eqT rfl ?_ | with_reducible refine RunLN.neF rfl ?_ | (with_reducible refine RunLN.decT ?_ ?_; focus omega) | (with_reducible refine RunLN.decF ?_ ?_; focus omega) | (with_reducible refine RunLN.eqT ?_ ?_; focus omega) | (with_reducible refine RunLN.eqF ?_ ?_; focus omega) | (with_reducible refine RunLN.neT ?_ ?_; focus omega) | (with_reducible refine RunLN.neF ?_ ?_; focus omega) | refine RunLN.boolT (by exact rfl) ?_ | refine RunLN.boolF (by exact rfl) ?_ | (with_reducible refine RunLN.chk ?_; refine RunLN.int (by (first | (refine wr_i64 ?_ ?_; omega; omega) | (refine wm_i64 ?_; omega) | (refine wq_i64 ?_ ?_ ?_; omega; omega; omega) | rfl)) ?_) | refine RunLN.any ?_ | refine RunL.ev Tryd.tOk rfl rfl rfl ?_ | refine RunL.unwantedD rfl rfl ?_ | refine RunL.unwantedN rfl ?_ | refine RunL.evV rfl rfl rfl (OpV.indexS Tryd.tOk _ rfl rfl rfl rfl (by omega)) ?_ | refine RunE.condT rfl rfl ?_ | refine RunE.condF rfl rfl ?_ | refine RunE.seq ?_ | refine RunE.region ?_ | refine RunL.nil ?_ | refine RunE.block ?_ | refine RunE.inBlock ?_ | refine RunE.skip ?_ | refine RunE.exit rfl ?_ | refine RunE.scope ?_ | refine RunE.inScope ?_ | refine RunE.label ?_)
    refine RunL.ex rfl rfl rfl (OpE.buildSl Tryd.tOk [.int .i64 k] rfl rfl rfl rfl rfl rfl (by simp [Value.cells])) ?_
    rintro _ w_ ⟨B_, rfl, a_⟩
    have hx1 : LIn w_ (.slice (some ⟨B_, 0, none⟩) 1 1) [k] := (isSl_added (n := 1) (sz := 1) a_ rfl)
    replace hO := hO.up a_.ext
    replace X := X.trans a_.ext
    clear a_
    repeat' (first | with_reducible refine RunLN.boolT rfl ?_ | with_reducible refine RunLN.boolF rfl ?_ | refine RunLN.boolT (by assumption) ?_ | refine RunLN.boolF (by assumption) ?_ | with_reducible refine RunLN.eqT rfl ?_ | with_reducible refine RunLN.neF rfl ?_ | (with_reducible refine RunLN.decT ?_ ?_; focus omega) | (with_reducible refine RunLN.decF ?_ ?_; focus omega) | (with_reducible refine RunLN.eqT ?_ ?_; focus omega) | (with_reducible refine RunLN.eqF ?_ ?_; focus omega) | (with_reducible refine RunLN.neT ?_ ?_; focus omega) | (with_reducible refine RunLN.neF ?_ ?_; focus omega) | refine RunLN.boolT (by exact rfl) ?_ | refine RunLN.boolF (by exact rfl) ?_ | (with_reducible refine RunLN.chk ?_; refine RunLN.int (by (first | (refine wr_i64 ?_ ?_; omega; omega) | (refine wm_i64 ?_; omega) | (refine wq_i64 ?_ ?_ ?_; omega; omega; omega) | rfl)) ?_) | refine RunLN.any ?_ | refine RunL.ev Tryd.tOk rfl rfl rfl ?_ | refine RunL.unwantedD rfl rfl ?_ | refine RunL.unwantedN rfl ?_ | refine RunL.evV rfl rfl rfl (OpV.indexS Tryd.tOk _ rfl rfl rfl rfl (by omega)) ?_ | refine RunE.condT rfl rfl ?_ | refine RunE.condF rfl rfl ?_ | refine RunE.seq ?_ | refine RunE.region ?_ | refine RunL.nil ?_ | refine RunE.block ?_ | refine RunE.inBlock ?_ | refine RunE.skip ?_ | refine RunE.exit rfl ?_ | refine RunE.scope ?_ | refine RunE.inScope ?_ | refine RunE.label ?_)
    refine RunL.ex rfl rfl rfl (OpE.append' Tryd.tOk rfl rfl rfl rfl rfl rfl hO hx1 (flat_plain encIn [k]) (by show _ * 8 ≤ _; simp only [List.length_singleton]; omega) (by simp only [List.length_singleton]; omega) X.size) ?_
    rintro u' u5 ⟨O5, E5, hown⟩
    replace X : Ext W u5 := X.write E5 (by intro k hk hlt; have := ownsRow_ge hO hk; omega)
    clear E5 hown hx1 hO
    repeat' (first | with_reducible refine RunLN.boolT rfl ?_ | with_reducible refine RunLN.boolF rfl ?_ | refine RunLN.boolT (by assumption) ?_ | refine RunLN.boolF (by assumption) ?_ | with_reducible refine RunLN.eqT rfl ?_ | with_reducible refine RunLN.neF rfl ?_ | (with_reducible refine RunLN.decT ?_ ?_; focus omega) | (with_reducible refine RunLN.decF ?_ ?_; focus omega) | (with_reducible refine RunLN.eqT ?_ ?_; focus omega) | (with_reducible refine RunLN.eqF ?_ ?_; focus omega) | (with_reducible refine RunLN.neT ?_ ?_; focus omega) | (with_reducible refine RunLN.neF ?_ ?_; focus omega) | refine RunLN.boolT (by exact rfl) ?_ | refine RunLN.boolF (by exact rfl) ?_ | (with_reducible refine RunLN.chk ?_; refine RunLN.int (by (first | (refine wr_i64 ?_ ?_; omega; omega) | (refine wm_i64 ?_; omega) | (refine wq_i64 ?_ ?_ ?_; omega; omega; omega) | rfl)) ?_) | refine RunLN.any ?_ | refine RunL.ev Tryd.tOk rfl rfl rfl ?_ | refine RunL.unwantedD rfl rfl ?_ | refine RunL.unwantedN rfl ?_ | refine RunL.evV rfl rfl rfl (OpV.indexS Tryd.tOk _ rfl rfl rfl rfl (by omega)) ?_ | refine RunE.condT rfl rfl ?_ | refine RunE.condF rfl rfl ?_ | refine RunE.seq ?_ | refine RunE.region ?_ | refine RunL.nil ?_ | refine RunE.block ?_ | refine RunE.inBlock ?_ | refine RunE.skip ?_ | refine RunE.exit rfl ?_ | refine RunE.scope ?_ | refine RunE.inScope ?_ | refine RunE.label ?_)
    exact RunE.weaken (by repeat (first | exact Sub.nil _ | refine Sub.cons rfl ?_)) (next _ _ (by rw [List.length_append, flat_append]; exact O5) X)
  obtain rfl : i = ss.length := by omega
  rw [List.take_length] at hin hO
  clear again
  have hks : LIn w3 y (ss.map (powC 4)) := isSl_own hO
  have hyb : InB w3 y := fun k hk => (hO.lt k hk).2
  have hksl : (ss.map (powC 4)).length < 9223372036854775808 := by rw [List.length_map]; omega
  have hksi := ki_map ss
  have hkd : keysD (ss.map (powC 4)) = true := keys_map (by omega)
  have hkk : ∀ p : Int, 0 ≤ p → p < (ss.length : Int) → ∃ s, ss[p.toNat]? = some s ∧ Dee.keyOf (ss.map (powC 4)) p = powC 4 s ∧ inQ s = true ∧ (-9223372036854775808 ≤ s ∧ s < 9223372036854775808) := fun p h0 h1 => by
    have h := List.getElem?_eq_getElem (show p.toNat < ss.length by omega)
    exact ⟨_, h, keyOf_map h0 h, hin _ (List.mem_of_getElem? h), hki _ (List.mem_of_getElem? h)⟩
  have hkn : ((ss.map (powC 4)).length : Int) = (ss.length : Int) := by rw [List.length_map]
  generalize ss.map (powC 4) = ks at *
  clear hO hin
  have c1 := fun w h h' hd => rfewL_ok ks y l lv w h hksl h' hl hd
  have c2 := fun w h h' hd h1 h2 => dcheck_ok ks y l lv w h hksl hksi h' hl hd h1 h2
  repeat' (first | with_reducible refine RunLN.boolT rfl ?_ | with_reducible refine RunLN.boolF rfl ?_ | refine RunLN.boolT (by assumption) ?_ | refine RunLN.boolF (by assumption) ?_ | with_reducible refine RunLN.eqT rfl ?_ | with_reducible refine RunLN.neF rfl ?_ | (with_reducible refine RunLN.decT ?_ ?_; focus omega) | (with_reducible refine RunLN.decF ?_ ?_; focus omega) | (with_reducible refine RunLN.eqT ?_ ?_; focus omega) | (with_reducible refine RunLN.eqF ?_ ?_; focus omega) | (with_reducible refine RunLN.neT ?_ ?_; focus omega) | (with_reducible refine RunLN.neF ?_ ?_; focus omega) | refine RunLN.boolT (by exact rfl) ?_ | refine RunLN.boolF (by exact rfl) ?_ | (with_reducible refine RunLN.chk ?_; refine RunLN.int (by (first | (refine wr_i64 ?_ ?_; omega; omega) | (refine wm_i64 ?_; omega) | (refine wq_i64 ?_ ?_ ?_; omega; omega; omega) | rfl)) ?_) | refine RunLN.any ?_ | refine RunL.ev Tryd.tOk rfl rfl rfl ?_ | refine RunL.unwantedD rfl rfl ?_ | refine RunL.unwantedN rfl ?_ | refine RunL.evV rfl rfl rfl (OpV.indexS Tryd.tOk _ rfl rfl rfl rfl (by omega)) ?_ | refine RunE.condT rfl rfl ?_ | refine RunE.condF rfl rfl ?_ | refine RunE.seq ?_ | refine RunE.region ?_ | refine RunL.nil ?_ | refine RunE.block ?_ | refine RunE.inBlock ?_ | refine RunE.skip ?_ | refine RunE.exit rfl ?_ | refine RunE.scope ?_ | refine RunE.inScope ?_ | refine RunE.label ?_)
  refine RunL.call rfl rfl rfl (c1 _ hks (hv.up X) (fun x hx => (hd x hx).2.2.2.up X)) ?_
  rintro _ _ ⟨rfl, Xa_⟩
  replace hks := hks.up Xa_
  replace hyb := hyb.up Xa_
  replace X := X.trans Xa_
  clear Xa_
  cases fewL ks (l.map Dr.d) with
  | false =>
    repeat' (first | with_reducible refine RunLN.boolT rfl ?_ | with_reducible refine RunLN.boolF rfl ?_ | refine RunLN.boolT (by assumption) ?_ | refine RunLN.boolF (by assumption) ?_ | with_reducible refine RunLN.eqT rfl ?_ | with_reducible refine RunLN.neF rfl ?_ | (with_reducible refine RunLN.decT ?_ ?_; focus omega) | (with_reducible refine RunLN.decF ?_ ?_; focus omega) | (with_reducible refine RunLN.eqT ?_ ?_; focus omega) | (with_reducible refine RunLN.eqF ?_ ?_; focus omega) | (with_reducible refine RunLN.neT ?_ ?_; focus omega) | (with_reducible refine RunLN.neF ?_ ?_; focus omega) | refine RunLN.boolT (by exact rfl) ?_ | refine RunLN.boolF (by exact rfl) ?_ | (with_reducible refine RunLN.chk ?_; refine RunLN.int (by (first | (refine wr_i64 ?_ ?_; omega; omega) | (refine wm_i64 ?_; omega) | (refine wq_i64 ?_ ?_ ?_; omega; omega; omega) | rfl)) ?_) | (refine RunLN.boolC (fun h_ => ?_) (fun h_ => ?_) <;> (try simp only [decide_eq_true_eq, decide_eq_false_iff_not, beq_iff_eq, bne_iff_ne, ne_eq, Bool.not_eq_true, Bool.not_eq_false, beq_eq_false_iff_ne, bne_eq_false_iff_eq, Bool.not_eq_eq_eq_not, Bool.not_true, Bool.not_false, Bool.not_not, Int.not_lt, Int.not_le, gt_iff_lt, ge_iff_le, Decidable.not_not] at h_)) | refine RunLN.any ?_ | refine RunL.ev Tryd.tOk rfl rfl rfl ?_ | refine RunL.unwantedD rfl rfl ?_ | refine RunL.unwantedN rfl ?_ | refine RunL.evV rfl rfl rfl (OpV.indexS Tryd.tOk _ rfl rfl rfl rfl (by omega)) ?_ | refine RunE.condT rfl rfl ?_ | refine RunE.condF rfl rfl ?_ | refine RunE.seq ?_ | refine RunE.region ?_ | refine RunL.nil ?_ | refine RunE.block ?_ | refine RunE.inBlock ?_ | refine RunE.skip ?_ | refine RunE.exit rfl ?_ | refine RunE.scope ?_ | refine RunE.inScope ?_ | refine RunE.label ?_)
    exact RunE.retFn Tryd.func8 (.tmp rfl .nil) ⟨rfl, X⟩
  | true =>
  repeat' (first | with_reducible refine RunLN.boolT rfl ?_ | with_reducible refine RunLN.boolF rfl ?_ | refine RunLN.boolT (by assumption) ?_ | refine RunLN.boolF (by assumption) ?_ | with_reducible refine RunLN.eqT rfl ?_ | with_reducible refine RunLN.neF rfl ?_ | (with_reducible refine RunLN.decT ?_ ?_; focus omega) | (with_reducible refine RunLN.decF ?_ ?_; focus omega) | (with_reducible refine RunLN.eqT ?_ ?_; focus omega) | (with_reducible refine RunLN.eqF ?_ ?_; focus omega) | (with_reducible refine RunLN.neT ?_ ?_; focus omega) | (with_reducible refine RunLN.neF ?_ ?_; focus omega) | refine RunLN.boolT (by exact rfl) ?_ | refine RunLN.boolF (by exact rfl) ?_ | (with_reducible refine RunLN.chk ?_; refine RunLN.int (by (first | (refine wr_i64 ?_ ?_; omega; omega) | (refine wm_i64 ?_; omega) | (refine wq_i64 ?_ ?_ ?_; omega; omega; omega) | rfl)) ?_) | (refine RunLN.boolC (fun h_ => ?_) (fun h_ => ?_) <;> (try simp only [decide_eq_true_eq, decide_eq_false_iff_not, beq_iff_eq, bne_iff_ne, ne_eq, Bool.not_eq_true, Bool.not_eq_false, beq_eq_false_iff_ne, bne_eq_false_iff_eq, Bool.not_eq_eq_eq_not, Bool.not_true, Bool.not_false, Bool.not_not, Int.not_lt, Int.not_le, gt_iff_lt, ge_iff_le, Decidable.not_not] at h_)) | refine RunLN.any ?_ | refine RunL.ev Tryd.tOk rfl rfl rfl ?_ | refine RunL.unwantedD rfl rfl ?_ | refine RunL.unwantedN rfl ?_ | refine RunL.evV rfl rfl rfl (OpV.indexS Tryd.tOk _ rfl rfl rfl rfl (by omega)) ?_ | refine RunE.condT rfl rfl ?_ | refine RunE.condF rfl rfl ?_ | refine RunE.seq ?_ | refine RunE.region ?_ | refine RunL.nil ?_ | refine RunE.block ?_ | refine RunE.inBlock ?_ | refine RunE.skip ?_ | refine RunE.exit rfl ?_ | refine RunE.scope ?_ | refine RunE.inScope ?_ | refine RunE.label ?_)
  refine RunL.call rfl rfl rfl (c2 _ hks (hv.up X) (fun x hx => (hd x hx).up X) (hS.up X) (hkT.up X)) ?_
  rintro _ _ ⟨rfl, Xa_⟩
  replace hks := hks.up Xa_
  replace hyb := hyb.up Xa_
  replace X := X.trans Xa_
  clear Xa_
  by_cases hc : chkE ks (l.map Dr.d) = 0
  rotate_left
  · generalize chkE ks (l.map Dr.d) = ce at hc
    repeat' (first | with_reducible refine RunLN.boolT rfl ?_ | with_reducible refine RunLN.boolF rfl ?_ | refine RunLN.boolT (by assumption) ?_ | refine RunLN.boolF (by assumption) ?_ | with_reducible refine RunLN.eqT rfl ?_ | with_reducible refine RunLN.neF rfl ?_ | (with_reducible refine RunLN.decT ?_ ?_; focus omega) | (with_reducible refine RunLN.decF ?_ ?_; focus omega) | (with_reducible refine RunLN.eqT ?_ ?_; focus omega) | (with_reducible refine RunLN.eqF ?_ ?_; focus omega) | (with_reducible refine RunLN.neT ?_ ?_; focus omega) | (with_reducible refine RunLN.neF ?_ ?_; focus omega) | refine RunLN.boolT (by exact rfl) ?_ | refine RunLN.boolF (by exact rfl) ?_ | (with_reducible refine RunLN.chk ?_; refine RunLN.int (by (first | (refine wr_i64 ?_ ?_; omega; omega) | (refine wm_i64 ?_; omega) | (refine wq_i64 ?_ ?_ ?_; omega; omega; omega) | rfl)) ?_) | (refine RunLN.boolC (fun h_ => ?_) (fun h_ => ?_) <;> (try simp only [decide_eq_true_eq, decide_eq_false_iff_not, beq_iff_eq, bne_iff_ne, ne_eq, Bool.not_eq_true, Bool.not_eq_false, beq_eq_false_iff_ne, bne_eq_false_iff_eq, Bool.not_eq_eq_eq_not, Bool.not_true, Bool.not_false, Bool.not_not, Int.not_lt, Int.not_le, gt_iff_lt, ge_iff_le, Decidable.not_not] at h_)) | refine RunLN.any ?_ | refine RunL.ev Tryd.tOk rfl rfl rfl ?_ | refine RunL.unwantedD rfl rfl ?_ | refine RunL.unwantedN rfl ?_ | refine RunL.evV rfl rfl rfl (OpV.indexS Tryd.tOk _ rfl rfl rfl rfl (by omega)) ?_ | refine RunE.condT rfl rfl ?_ | refine RunE.condF rfl rfl ?_ | refine RunE.seq ?_ | refine RunE.region ?_ | refine RunL.nil ?_ | refine RunE.block ?_ | refine RunE.inBlock ?_ | refine RunE.skip ?_ | refine RunE.exit rfl ?_ | refine RunE.scope ?_ | refine RunE.inScope ?_ | refine RunE.label ?_)
    exact RunE.retFn Tryd.func8 (.tmp rfl .nil) ⟨rfl, X⟩
  rw [hc]
  obtain ⟨-, -, hlog⟩ := chk_zero hc
  clear c1 c2 hc
  have m0 := Int.emod_nonneg pe (show (ss.length : Int) ≠ 0 by omega)
  have m1 := Int.emod_lt_of_pos pe (show 0 < (ss.length : Int) by omega)
  have hsn : 0 < (ss.length : Int) := by omega
  repeat' (first | with_reducible refine RunLN.boolT rfl ?_ | with_reducible refine RunLN.boolF rfl ?_ | refine RunLN.boolT (by assumption) ?_ | refine RunLN.boolF (by assumption) ?_ | with_reducible refine RunLN.eqT rfl ?_ | with_reducible refine RunLN.neF rfl ?_ | (with_reducible refine RunLN.decT ?_ ?_; focus omega) | (with_reducible refine RunLN.decF ?_ ?_; focus omega) | (with_reducible refine RunLN.eqT ?_ ?_; focus omega) | (with_reducible refine RunLN.eqF ?_ ?_; focus omega) | (with_reducible refine RunLN.neT ?_ ?_; focus omega) | (with_reducible refine RunLN.neF ?_ ?_; focus omega) | refine RunLN.boolT (by exact rfl) ?_ | refine RunLN.boolF (by exact rfl) ?_ | (with_reducible refine RunLN.chk ?_; refine RunLN.int (by (first | (refine wr_i64 ?_ ?_; omega; omega) | (refine wm_i64 ?_; omega) | (refine wq_i64 ?_ ?_ ?_; omega; omega; omega) | rfl)) ?_) | (refine RunLN.boolC (fun h_ => ?_) (fun h_ => ?_) <;> (try simp only [decide_eq_true_eq, decide_eq_false_iff_not, beq_iff_eq, bne_iff_ne, ne_eq, Bool.not_eq_true, Bool.not_eq_false, beq_eq_false_iff_ne, bne_eq_false_iff_eq, Bool.not_eq_eq_eq_not, Bool.not_true, Bool.not_false, Bool.not_not, Int.not_lt, Int.not_le, gt_iff_lt, ge_iff_le, Decidable.not_not] at h_)) | refine RunLN.any ?_ | refine RunL.ev Tryd.tOk rfl rfl ((eval_rem rfl rfl hsn)) ?_ | refine RunL.ev Tryd.tOk rfl rfl rfl ?_ | refine RunL.unwantedD rfl rfl ?_ | refine RunL.unwantedN rfl ?_ | refine RunL.evV rfl rfl rfl (OpV.lenSl Tryd.tOk rfl rfl hk) ?_ | refine RunL.evV rfl rfl rfl (OpV.indexS Tryd.tOk _ rfl rfl rfl rfl (by omega)) ?_ | refine RunE.condT rfl rfl ?_ | refine RunE.condF rfl rfl ?_ | refine RunE.seq ?_ | refine RunE.region ?_ | refine RunL.nil ?_ | refine RunE.block ?_ | refine RunE.inBlock ?_ | refine RunE.skip ?_ | refine RunE.exit rfl ?_ | refine RunE.scope ?_ | refine RunE.inScope ?_ | refine RunE.label ?_)
  generalize hpm : pe % (ss.length : Int) = p at m0 m1 ⊢
  clear hpm
  obtain ⟨sc, hsc, hkp, hsq, hsb⟩ := hkk p m0 m1
  clear hkk
  refine RunL.alloc Tryd.tOk rfl rfl rfl fun B21 wa_ aa_ => ?_
  have gB21 := aa_.ge X
  have e21 := aa_.eq
  have hy21 : ∀ k, y.ownBlock = some k → k ≠ B21 := fun k hk => by have := hyb k hk; omega
  clear hyb
  repeat' (first | with_reducible refine RunLN.boolT rfl ?_ | with_reducible refine RunLN.boolF rfl ?_ | refine RunLN.boolT (by assumption) ?_ | refine RunLN.boolF (by assumption) ?_ | with_reducible refine RunLN.eqT rfl ?_ | with_reducible refine RunLN.neF rfl ?_ | (with_reducible refine RunLN.decT ?_ ?_; focus omega) | (with_reducible refine RunLN.decF ?_ ?_; focus omega) | (with_reducible refine RunLN.eqT ?_ ?_; focus omega) | (with_reducible refine RunLN.eqF ?_ ?_; focus omega) | (with_reducible refine RunLN.neT ?_ ?_; focus omega) | (with_reducible refine RunLN.neF ?_ ?_; focus omega) | refine RunLN.boolT (by exact rfl) ?_ | refine RunLN.boolF (by exact rfl) ?_ | (with_reducible refine RunLN.chk ?_; refine RunLN.int (by (first | (refine wr_i64 ?_ ?_; omega; omega) | (refine wm_i64 ?_; omega) | (refine wq_i64 ?_ ?_ ?_; omega; omega; omega) | rfl)) ?_) | refine RunLN.any ?_ | refine RunL.ev Tryd.tOk rfl rfl rfl ?_ | refine RunL.unwantedD rfl rfl ?_ | refine RunL.unwantedN rfl ?_ | refine RunL.evV rfl rfl rfl (OpV.indexS Tryd.tOk _ rfl rfl rfl rfl (by omega)) ?_ | refine RunE.condT rfl rfl ?_ | refine RunE.condF rfl rfl ?_ | refine RunE.seq ?_ | refine RunE.region ?_ | refine RunL.nil ?_ | refine RunE.block ?_ | refine RunE.inBlock ?_ | refine RunE.skip ?_ | refine RunE.exit rfl ?_ | refine RunE.scope ?_ | refine RunE.inScope ?_ | refine RunE.label ?_)
  refine RunL.storeW (vs := digC zeroG) Tryd.tOk rfl rfl rfl rfl rfl aa_.at_ rfl rfl fun w21_ tb_ => ?_
  have Xa_ : Ext _ w21_ := aa_.ext.write tb_.ext (by intro i_ hi_ hlt_; omega)
  have Z21 : Blk w21_ B21 (digC zeroG) 23 := tb_.at_
  replace hks := hks.up Xa_
  replace X := X.trans Xa_
  clear Xa_ aa_ tb_ e21
  have hl0 : zeroG = lastD ((l.map Dr.d).take 0) p := by rw [List.take_zero]; exact (last_zero (by unfold nextD; rfl)).symm
  have hn0 : (0 : Int) = nextD ((l.map Dr.d).take 0) p := by rw [List.take_zero]; unfold nextD; rfl
  have ha0 : after = nextAt ((l.map Dr.d).take 0) after := by rw [List.take_zero]; unfold nextAt; rfl
  have hs0 : ([] : List Dg) = seeD ((l.map Dr.d).take 0) p see := by rw [List.take_zero]; unfold seeD; rfl
  have hnl : ∀ j, nextD ((l.map Dr.d).take j) p ≤ 16 := fun j => by
    have := nextD_le ((l.map Dr.d).take j) p
    rw [List.length_take, List.length_map] at this; omega
  have hng : ∀ j, 0 ≤ nextD ((l.map Dr.d).take j) p := fun j => nextD_nonneg _ _
  have hsr : ∀ (j : Nat) (y : Dr), l[j]? = some y → (l.map Dr.d)[j]? = some y.d := fun j y h => by rw [List.getElem?_map, h]; rfl
  have htk : ∀ (j : Nat) (y : Dr), l[j]? = some y → (l.map Dr.d).take (j + 1) = (l.map Dr.d).take j ++ [y.d] := fun j y h => by rw [List.take_add_one, hsr j y h]; rfl
  have htl : ∀ j, j ≤ l.length → (((l.map Dr.d).take j).length : Int) = (j : Int) := fun j h => by rw [List.length_take, List.length_map]; omega
  have hfm : ∀ (j : Nat) (y : Dr), l[j]? = some y → formedD y.d = true := fun j y h => (fineD_inv (logD_fine hlog y.d (List.mem_of_getElem? (hsr j y h)))).1
  clear hsr
  repeat' (first | with_reducible refine RunLN.boolT rfl ?_ | with_reducible refine RunLN.boolF rfl ?_ | refine RunLN.boolT (by assumption) ?_ | refine RunLN.boolF (by assumption) ?_ | with_reducible refine RunLN.eqT rfl ?_ | with_reducible refine RunLN.neF rfl ?_ | (with_reducible refine RunLN.decT ?_ ?_; focus omega) | (with_reducible refine RunLN.decF ?_ ?_; focus omega) | (with_reducible refine RunLN.eqT ?_ ?_; focus omega) | (with_reducible refine RunLN.eqF ?_ ?_; focus omega) | (with_reducible refine RunLN.neT ?_ ?_; focus omega) | (with_reducible refine RunLN.neF ?_ ?_; focus omega) | refine RunLN.boolT (by exact rfl) ?_ | refine RunLN.boolF (by exact rfl) ?_ | (with_reducible refine RunLN.chk ?_; refine RunLN.int (by (first | (refine wr_i64 ?_ ?_; omega; omega) | (refine wm_i64 ?_; omega) | (refine wq_i64 ?_ ?_ ?_; omega; omega; omega) | rfl)) ?_) | refine RunLN.any ?_ | refine RunL.ev Tryd.tOk rfl rfl rfl ?_ | refine RunL.unwantedD rfl rfl ?_ | refine RunL.unwantedN rfl ?_ | refine RunL.evV rfl rfl rfl (OpV.lenSl Tryd.tOk rfl rfl hv) ?_ | refine RunL.evV rfl rfl rfl (OpV.indexS Tryd.tOk _ rfl rfl rfl rfl (by omega)) ?_ | refine RunE.condT rfl rfl ?_ | refine RunE.condF rfl rfl ?_ | refine RunE.seq ?_ | refine RunE.region ?_ | refine RunL.nil ?_ | refine RunE.block ?_ | refine RunE.inBlock ?_ | refine RunE.skip ?_ | refine RunE.exit rfl ?_ | refine RunE.scope ?_ | refine RunE.inScope ?_ | refine RunE.label ?_)
  refine RunE.loop (ι := Nat × Int × Int × Dg × Value × List Dg) (fun s => [(0, sv), (1, lv), (2, .int .u8 pe), (3, .int .u8 after), (4, .int .u8 see), (5, .slice ddv data.length cdv), (12, .bool false), (13, y), (18, .int .i64 p), (19, .int .i64 s.2.1), (20, .int .i64 s.2.2.1), (21, .pointer (some ⟨B21, 0, none⟩)), (22, s.2.2.2.2.1), (92, lv), (93, .int .i64 (l.length : Int)), (94, .int .i64 (s.1 : Int))])
    (fun s w' => s.1 ≤ l.length ∧ s.2.1 = nextD ((l.map Dr.d).take s.1) p ∧ s.2.2.1 = nextAt ((l.map Dr.d).take s.1) after ∧ s.2.2.2.1 = lastD ((l.map Dr.d).take s.1) p ∧ s.2.2.2.2.2 = seeD ((l.map Dr.d).take s.1) p see ∧ s.2.2.1 < 1099511627776 ∧ Ext W w' ∧ Blk w' B21 (digC s.2.2.2.1) 23 ∧ LDg w' s.2.2.2.2.1 s.2.2.2.2.2 ∧ LIn w' y ks ∧ ∀ k, s.2.2.2.2.1.ownBlock = some k → k ≠ B21) (fun s => l.length - s.1) (0, 0, after, zeroG, nilV, []) (by repeat (first | exact Sub.nil _ | refine Sub.cons rfl ?_))
    ⟨Nat.zero_le _, hn0, ha0, hl0, hs0, by simp only; omega, X, Z21, IsSl.nil, hks, fun k hk => by simp [Value.ownBlock] at hk⟩ ?_
  clear X Z21 hl0 hn0 ha0 hs0 hks
  rintro ⟨i, no, at_, prev, sn, snl⟩ w5 ⟨hi, hno, hat, hpv, hsnl, hatb, X, Z21, hsv, hks, hs21⟩ again
  simp only at hi hno hat hpv hsnl hatb Z21 hsv hs21 again ⊢
  by_cases hlt : i < l.length
  · obtain ⟨b1, o1, cc, rfl, hr1, -⟩ := isL_held hv hlt
    obtain ⟨x, hx⟩ : ∃ x, l[i]? = some x := ⟨_, List.getElem?_eq_getElem hlt⟩
    have hrx := flat_row encR hr1 hx
    obtain ⟨hwf, hls, hld, hhx⟩ := hd x (List.mem_of_getElem? hx)
    have hform := hfm i x hx
    have e1 := htk i x hx
    have e2 := htl i hi
    have n1 : nextD ((l.map Dr.d).take (i + 1)) p = no + (if x.d.person = p then 1 else 0) := by rw [e1, nextD_snoc, ← hno]
    have n2 : nextAt ((l.map Dr.d).take (i + 1)) after = x.d.at_ + 1 + after := by rw [e1, nextAt_snoc]
    have n3 : lastD ((l.map Dr.d).take (i + 1)) p = if x.d.person = p then idD x.d else prev := by rw [e1, lastD_snoc, ← hpv]
    have n4 : seeD ((l.map Dr.d).take (i + 1)) p see = if (i : Int) = see then (if x.d.person = p then [] else [idD x.d]) else snl := by rw [e1, seeD_snoc _ _ _ _ h4.1, e2, ← hsnl]
    have hno1 := hnl i
    have hno2 := hng i
    rw [← hno] at hno1 hno2
    have hsee : (i : Int) = see → snl = [] := fun h => by
      rw [hsnl]; unfold seeD
      rw [List.getElem?_eq_none (by rw [List.length_take]; omega)]
    have next := fun a b c d e w' h1 h2 h3 h4 h5 h6 h7 h8 h9 h10 => again (i + 1, a, b, c, d, e) w' (by simp only; omega) ⟨by simp only; omega, h1, h2, h3, h4, h5, h6, h7, h8, h9, h10⟩
    have eid : idG x.d = idD x.d ∧ idE x.d = 0 := ⟨idG_of hform, by unfold idE; rw [hform]; rfl⟩
    obtain ⟨⟨-, -, -, -, t0, t1, -⟩, -⟩ := formedD_inv hform
    have cid := fun w h h' h1 h2 => dId_ok x.d x.u x.v w h h' hls hld h1 h2
    rw [eid.1, eid.2] at cid
    clear eid hform hfm htk htl hnl hng again e1 e2 hlog
    repeat' (first | with_reducible refine RunLN.boolT rfl ?_ | with_reducible refine RunLN.boolF rfl ?_ | refine RunLN.boolT (by assumption) ?_ | refine RunLN.boolF (by assumption) ?_ | with_reducible refine RunLN.eqT rfl ?_ | with_reducible refine RunLN.neF rfl ?_ | (with_reducible refine RunLN.decT ?_ ?_; focus omega) | (with_reducible refine RunLN.decF ?_ ?_; focus omega) | (with_reducible refine RunLN.eqT ?_ ?_; focus omega) | (with_reducible refine RunLN.eqF ?_ ?_; focus omega) | (with_reducible refine RunLN.neT ?_ ?_; focus omega) | (with_reducible refine RunLN.neF ?_ ?_; focus omega) | refine RunLN.boolT (by exact rfl) ?_ | refine RunLN.boolF (by exact rfl) ?_ | (with_reducible refine RunLN.chk ?_; refine RunLN.int (by (first | (refine wr_i64 ?_ ?_; omega; omega) | (refine wm_i64 ?_; omega) | (refine wq_i64 ?_ ?_ ?_; omega; omega; omega) | rfl)) ?_) | refine RunLN.any ?_ | refine RunL.ev Tryd.tOk rfl rfl rfl ?_ | refine RunL.unwantedD rfl rfl ?_ | refine RunL.unwantedN rfl ?_ | refine RunL.evV rfl rfl rfl (OpV.loadN Tryd.tOk rfl rfl rfl rfl (hrx.up X)) ?_ | refine RunL.evV rfl rfl rfl (OpV.indexS Tryd.tOk _ rfl rfl rfl rfl (by omega)) ?_ | refine RunE.condT rfl rfl ?_ | refine RunE.condF rfl rfl ?_ | refine RunE.seq ?_ | refine RunE.region ?_ | refine RunL.nil ?_ | refine RunE.block ?_ | refine RunE.inBlock ?_ | refine RunE.skip ?_ | refine RunE.exit rfl ?_ | refine RunE.scope ?_ | refine RunE.inScope ?_ | refine RunE.label ?_)
    refine RunL.alloc Tryd.tOk rfl rfl rfl fun B24 wa_ aa_ => ?_
    have e24 := aa_.eq
    repeat' (first | with_reducible refine RunLN.boolT rfl ?_ | with_reducible refine RunLN.boolF rfl ?_ | refine RunLN.boolT (by assumption) ?_ | refine RunLN.boolF (by assumption) ?_ | with_reducible refine RunLN.eqT rfl ?_ | with_reducible refine RunLN.neF rfl ?_ | (with_reducible refine RunLN.decT ?_ ?_; focus omega) | (with_reducible refine RunLN.decF ?_ ?_; focus omega) | (with_reducible refine RunLN.eqT ?_ ?_; focus omega) | (with_reducible refine RunLN.eqF ?_ ?_; focus omega) | (with_reducible refine RunLN.neT ?_ ?_; focus omega) | (with_reducible refine RunLN.neF ?_ ?_; focus omega) | refine RunLN.boolT (by exact rfl) ?_ | refine RunLN.boolF (by exact rfl) ?_ | (with_reducible refine RunLN.chk ?_; refine RunLN.int (by (first | (refine wr_i64 ?_ ?_; omega; omega) | (refine wm_i64 ?_; omega) | (refine wq_i64 ?_ ?_ ?_; omega; omega; omega) | rfl)) ?_) | refine RunLN.any ?_ | refine RunL.ev Tryd.tOk rfl rfl rfl ?_ | refine RunL.unwantedD rfl rfl ?_ | refine RunL.unwantedN rfl ?_ | refine RunL.evV rfl rfl rfl (OpV.indexS Tryd.tOk _ rfl rfl rfl rfl (by omega)) ?_ | refine RunE.condT rfl rfl ?_ | refine RunE.condF rfl rfl ?_ | refine RunE.seq ?_ | refine RunE.region ?_ | refine RunL.nil ?_ | refine RunE.block ?_ | refine RunE.inBlock ?_ | refine RunE.skip ?_ | refine RunE.exit rfl ?_ | refine RunE.scope ?_ | refine RunE.inScope ?_ | refine RunE.label ?_)
    refine RunL.storeW (vs := dCells x.d x.u x.v) Tryd.tOk rfl rfl rfl rfl rfl aa_.at_ rfl rfl fun w24_ tb_ => ?_
    have Xa_ : Ext w5 w24_ := aa_.ext.write tb_.ext (by intro i_ hi_ hlt_; omega)
    have Z24 : Blk w24_ B24 (dCells x.d x.u x.v) 29 := tb_.at_
    have n2421 : B24 ≠ B21 := by have := Z21.lt; omega
    replace Z21 := Z21.up Xa_
    replace hsv := hsv.up Xa_
    replace hks := hks.up Xa_
    replace X := X.trans Xa_
    clear Xa_ aa_ tb_ e24 hrx
    repeat' (first | with_reducible refine RunLN.boolT rfl ?_ | with_reducible refine RunLN.boolF rfl ?_ | refine RunLN.boolT (by assumption) ?_ | refine RunLN.boolF (by assumption) ?_ | with_reducible refine RunLN.eqT rfl ?_ | with_reducible refine RunLN.neF rfl ?_ | (with_reducible refine RunLN.decT ?_ ?_; focus omega) | (with_reducible refine RunLN.decF ?_ ?_; focus omega) | (with_reducible refine RunLN.eqT ?_ ?_; focus omega) | (with_reducible refine RunLN.eqF ?_ ?_; focus omega) | (with_reducible refine RunLN.neT ?_ ?_; focus omega) | (with_reducible refine RunLN.neF ?_ ?_; focus omega) | refine RunLN.boolT (by exact rfl) ?_ | refine RunLN.boolF (by exact rfl) ?_ | (with_reducible refine RunLN.chk ?_; refine RunLN.int (by (first | (refine wr_i64 ?_ ?_; omega; omega) | (refine wm_i64 ?_; omega) | (refine wq_i64 ?_ ?_ ?_; omega; omega; omega) | rfl)) ?_) | refine RunLN.any ?_ | refine RunL.ev Tryd.tOk rfl rfl rfl ?_ | refine RunL.unwantedD rfl rfl ?_ | refine RunL.unwantedN rfl ?_ | refine RunL.evV rfl rfl rfl (OpV.loadN Tryd.tOk rfl rfl rfl rfl (Blk.row Z24)) ?_ | refine RunL.evV rfl rfl rfl (OpV.indexS Tryd.tOk _ rfl rfl rfl rfl (by omega)) ?_ | refine RunE.condT rfl rfl ?_ | refine RunE.condF rfl rfl ?_ | refine RunE.seq ?_ | refine RunE.region ?_ | refine RunL.nil ?_ | refine RunE.block ?_ | refine RunE.inBlock ?_ | refine RunE.skip ?_ | refine RunE.exit rfl ?_ | refine RunE.scope ?_ | refine RunE.inScope ?_ | refine RunE.label ?_)
    refine RunL.call rfl rfl rfl (cid _ (hhx.seen.up X) (hhx.data.up X) (hS.up X) (hkT.up X)) ?_
    rintro _ _ ⟨rfl, Xa_⟩
    replace Z21 := Z21.up Xa_
    replace Z24 := Z24.up Xa_
    replace hsv := hsv.up Xa_
    replace hks := hks.up Xa_
    replace X := X.trans Xa_
    clear Xa_
    clear cid
    repeat' (first | with_reducible refine RunLN.boolT rfl ?_ | with_reducible refine RunLN.boolF rfl ?_ | refine RunLN.boolT (by assumption) ?_ | refine RunLN.boolF (by assumption) ?_ | with_reducible refine RunLN.eqT rfl ?_ | with_reducible refine RunLN.neF rfl ?_ | (with_reducible refine RunLN.decT ?_ ?_; focus omega) | (with_reducible refine RunLN.decF ?_ ?_; focus omega) | (with_reducible refine RunLN.eqT ?_ ?_; focus omega) | (with_reducible refine RunLN.eqF ?_ ?_; focus omega) | (with_reducible refine RunLN.neT ?_ ?_; focus omega) | (with_reducible refine RunLN.neF ?_ ?_; focus omega) | refine RunLN.boolT (by exact rfl) ?_ | refine RunLN.boolF (by exact rfl) ?_ | (with_reducible refine RunLN.chk ?_; refine RunLN.int (by (first | (refine wr_i64 ?_ ?_; omega; omega) | (refine wm_i64 ?_; omega) | (refine wq_i64 ?_ ?_ ?_; omega; omega; omega) | rfl)) ?_) | refine RunLN.any ?_ | refine RunL.ev Tryd.tOk rfl rfl rfl ?_ | refine RunL.unwantedD rfl rfl ?_ | refine RunL.unwantedN rfl ?_ | refine RunL.evV rfl rfl rfl (OpV.indexS Tryd.tOk _ rfl rfl rfl rfl (by omega)) ?_ | refine RunE.condT rfl rfl ?_ | refine RunE.condF rfl rfl ?_ | refine RunE.seq ?_ | refine RunE.region ?_ | refine RunL.nil ?_ | refine RunE.block ?_ | refine RunE.inBlock ?_ | refine RunE.skip ?_ | refine RunE.exit rfl ?_ | refine RunE.scope ?_ | refine RunE.inScope ?_ | refine RunE.label ?_)
    refine RunL.alloc Tryd.tOk rfl rfl rfl fun B25 wa_ aa_ => ?_
    have gB25 := aa_.ge X
    refine RunL.storeW (vs := digC (idD x.d)) Tryd.tOk rfl rfl rfl rfl rfl aa_.at_ rfl rfl fun w25_ tb_ => ?_
    have Xa_ : Ext _ w25_ := aa_.ext.write tb_.ext (by intro i_ hi_ hlt_; have := aa_.eq; omega)
    have Z25 : Blk w25_ B25 (digC (idD x.d)) 23 := tb_.at_
    have n21_25 : B21 ≠ B25 := by have := Z21.lt; have := aa_.eq; omega
    have n25_21 : B25 ≠ B21 := Ne.symm n21_25
    have n24_25 : B24 ≠ B25 := by have := Z24.lt; have := aa_.eq; omega
    have n25_24 : B25 ≠ B24 := Ne.symm n24_25
    replace Z21 := Z21.up Xa_
    replace Z24 := Z24.up Xa_
    replace hsv := hsv.up Xa_
    replace hks := hks.up Xa_
    replace X := X.trans Xa_
    clear Xa_ aa_ tb_
    by_cases hend : x.d.at_ + 1 + after < 1099511627776
    rotate_left
    · clear next
      repeat' (first | with_reducible refine RunLN.boolT rfl ?_ | with_reducible refine RunLN.boolF rfl ?_ | refine RunLN.boolT (by assumption) ?_ | refine RunLN.boolF (by assumption) ?_ | with_reducible refine RunLN.eqT rfl ?_ | with_reducible refine RunLN.neF rfl ?_ | (with_reducible refine RunLN.decT ?_ ?_; focus omega) | (with_reducible refine RunLN.decF ?_ ?_; focus omega) | (with_reducible refine RunLN.eqT ?_ ?_; focus omega) | (with_reducible refine RunLN.eqF ?_ ?_; focus omega) | (with_reducible refine RunLN.neT ?_ ?_; focus omega) | (with_reducible refine RunLN.neF ?_ ?_; focus omega) | refine RunLN.boolT (by exact rfl) ?_ | refine RunLN.boolF (by exact rfl) ?_ | (with_reducible refine RunLN.chk ?_; refine RunLN.int (by (first | (refine wr_i64 ?_ ?_; omega; omega) | (refine wm_i64 ?_; omega) | (refine wq_i64 ?_ ?_ ?_; omega; omega; omega) | rfl)) ?_) | refine RunLN.any ?_ | refine RunL.ev Tryd.tOk rfl rfl rfl ?_ | refine RunL.unwantedD rfl rfl ?_ | refine RunL.unwantedN rfl ?_ | refine RunL.evV rfl rfl rfl (OpV.load1 Tryd.tOk rfl rfl rfl (Blk.cell Z24 rfl)) ?_ | refine RunL.evV rfl rfl rfl (OpV.indexS Tryd.tOk _ rfl rfl rfl rfl (by omega)) ?_ | refine RunE.condT rfl rfl ?_ | refine RunE.condF rfl rfl ?_ | refine RunE.seq ?_ | refine RunE.region ?_ | refine RunL.nil ?_ | refine RunE.block ?_ | refine RunE.inBlock ?_ | refine RunE.skip ?_ | refine RunE.exit rfl ?_ | refine RunE.scope ?_ | refine RunE.inScope ?_ | refine RunE.label ?_)
      exact RunE.retFn Tryd.func8 (.tmp rfl .nil) ⟨rfl, X⟩
    by_cases hp : x.d.person = p
    · rw [if_pos hp] at n1 n3 n4
      have n4' : seeD ((l.map Dr.d).take (i + 1)) p see = snl := by
        rw [n4]
        split
        · rename_i h; exact (hsee h).symm
        · rfl
      clear n4 hsee
      repeat' (first | with_reducible refine RunLN.boolT rfl ?_ | with_reducible refine RunLN.boolF rfl ?_ | refine RunLN.boolT (by assumption) ?_ | refine RunLN.boolF (by assumption) ?_ | with_reducible refine RunLN.eqT rfl ?_ | with_reducible refine RunLN.neF rfl ?_ | (with_reducible refine RunLN.decT ?_ ?_; focus omega) | (with_reducible refine RunLN.decF ?_ ?_; focus omega) | (with_reducible refine RunLN.eqT ?_ ?_; focus omega) | (with_reducible refine RunLN.eqF ?_ ?_; focus omega) | (with_reducible refine RunLN.neT ?_ ?_; focus omega) | (with_reducible refine RunLN.neF ?_ ?_; focus omega) | refine RunLN.boolT (by exact rfl) ?_ | refine RunLN.boolF (by exact rfl) ?_ | (with_reducible refine RunLN.chk ?_; refine RunLN.int (by (first | (refine wr_i64 ?_ ?_; omega; omega) | (refine wm_i64 ?_; omega) | (refine wq_i64 ?_ ?_ ?_; omega; omega; omega) | rfl)) ?_) | refine RunLN.any ?_ | refine RunL.ev Tryd.tOk rfl rfl rfl ?_ | refine RunL.unwantedD rfl rfl ?_ | refine RunL.unwantedN rfl ?_ | refine RunL.evV rfl rfl rfl (OpV.load1 Tryd.tOk rfl rfl rfl (Blk.cell Z24 rfl)) ?_ | refine RunL.evV rfl rfl rfl (OpV.indexS Tryd.tOk _ rfl rfl rfl rfl (by omega)) ?_ | refine RunE.condT rfl rfl ?_ | refine RunE.condF rfl rfl ?_ | refine RunE.seq ?_ | refine RunE.region ?_ | refine RunL.nil ?_ | refine RunE.block ?_ | refine RunE.inBlock ?_ | refine RunE.skip ?_ | refine RunE.exit rfl ?_ | refine RunE.scope ?_ | refine RunE.inScope ?_ | refine RunE.label ?_)
      refine RunE.draw (fun _ => False) mix ?_
      intro wd_ Xd_
      repeat' (first | with_reducible refine AsyN.boolT rfl ?_ | with_reducible refine AsyN.boolF rfl ?_ | refine AsyN.boolT (by assumption) ?_ | refine AsyN.boolF (by assumption) ?_ | with_reducible refine AsyN.eqT rfl ?_ | with_reducible refine AsyN.neF rfl ?_ | (with_reducible refine AsyN.decT ?_ ?_; focus omega) | (with_reducible refine AsyN.decF ?_ ?_; focus omega) | (with_reducible refine AsyN.eqT ?_ ?_; focus omega) | (with_reducible refine AsyN.eqF ?_ ?_; focus omega) | (with_reducible refine AsyN.neT ?_ ?_; focus omega) | (with_reducible refine AsyN.neF ?_ ?_; focus omega) | refine AsyN.boolT (by exact rfl) ?_ | refine AsyN.boolF (by exact rfl) ?_ | (with_reducible refine AsyN.chk ?_; refine AsyN.int (by (first | (refine wr_i64 ?_ ?_; omega; omega) | (refine wm_i64 ?_; omega) | (refine wq_i64 ?_ ?_ ?_; omega; omega; omega) | rfl)) ?_) | refine AsyN.any ?_ | refine Asy.ev Tryd.tOk rfl rfl rfl ?_ | refine Asy.unwantedD rfl rfl rfl ?_ | refine Asy.evV rfl rfl rfl rfl (fun _ X_ => OpV.loadN Tryd.tOk rfl rfl rfl rfl (Blk.row (Z25.up (Xd_.trans X_)))) ?_ | refine Asy.evV rfl rfl rfl rfl (fun _ X_ => OpV.indexS Tryd.tOk _ rfl rfl rfl rfl (by omega)) ?_)
      refine Asy.end_ (by kernel_rfl) ?_
      intro we_ Xe_
      replace Xe_ := Xd_.trans Xe_
      replace Z21 := Z21.up Xe_
      replace hsv := hsv.up Xe_
      replace hks := hks.up Xe_
      replace X := X.trans Xe_
      clear Xd_ Xe_ Z24 Z25
      have hsv' : ∀ w', ExtB (· = B21) we_ w' → LDg w' sn snl := fun w' e => IsSl.ext hsv e fun k hk => hs21 k hk
      have hks' : ∀ w', ExtB (· = B21) we_ w' → LIn w' y ks := fun w' e => IsSl.ext hks e fun k hk => hy21 k hk
      refine RunL.storeW (vs := digC (idD x.d)) Tryd.tOk rfl rfl rfl rfl rfl Z21 rfl rfl fun w7 t7 => ?_
      replace X := X.own t7.ext gB21
      replace Z21 : Blk w7 B21 (digC (idD x.d)) 23 := t7.at_
      replace hsv := hsv' _ t7.ext
      replace hks := hks' _ t7.ext
      clear t7 hsv' hks'
      repeat' (first | with_reducible refine RunLN.boolT rfl ?_ | with_reducible refine RunLN.boolF rfl ?_ | refine RunLN.boolT (by assumption) ?_ | refine RunLN.boolF (by assumption) ?_ | with_reducible refine RunLN.eqT rfl ?_ | with_reducible refine RunLN.neF rfl ?_ | (with_reducible refine RunLN.decT ?_ ?_; focus omega) | (with_reducible refine RunLN.decF ?_ ?_; focus omega) | (with_reducible refine RunLN.eqT ?_ ?_; focus omega) | (with_reducible refine RunLN.eqF ?_ ?_; focus omega) | (with_reducible refine RunLN.neT ?_ ?_; focus omega) | (with_reducible refine RunLN.neF ?_ ?_; focus omega) | refine RunLN.boolT (by exact rfl) ?_ | refine RunLN.boolF (by exact rfl) ?_ | (with_reducible refine RunLN.chk ?_; refine RunLN.int (by (first | (refine wr_i64 ?_ ?_; omega; omega) | (refine wm_i64 ?_; omega) | (refine wq_i64 ?_ ?_ ?_; omega; omega; omega) | rfl)) ?_) | refine RunLN.any ?_ | refine RunL.ev Tryd.tOk rfl rfl rfl ?_ | refine RunL.unwantedD rfl rfl ?_ | refine RunL.unwantedN rfl ?_ | refine RunL.evV rfl rfl rfl (OpV.indexS Tryd.tOk _ rfl rfl rfl rfl (by omega)) ?_ | refine RunE.condT rfl rfl ?_ | refine RunE.condF rfl rfl ?_ | refine RunE.seq ?_ | refine RunE.region ?_ | refine RunL.nil ?_ | refine RunE.block ?_ | refine RunE.inBlock ?_ | refine RunE.skip ?_ | refine RunE.exit rfl ?_ | refine RunE.scope ?_ | refine RunE.inScope ?_ | refine RunE.label ?_)
      exact RunE.weaken (by repeat (first | exact Sub.nil _ | refine Sub.cons rfl ?_)) (next (no + 1) _ (idD x.d) sn snl _ n1.symm n2.symm n3.symm n4'.symm hend X Z21 hsv hks hs21)
    · rw [if_neg hp, Int.add_zero] at n1
      rw [if_neg hp] at n3 n4
      by_cases hse : (i : Int) = see
      · rw [if_pos hse] at n4
        repeat' (first | with_reducible refine RunLN.boolT rfl ?_ | with_reducible refine RunLN.boolF rfl ?_ | refine RunLN.boolT (by assumption) ?_ | refine RunLN.boolF (by assumption) ?_ | with_reducible refine RunLN.eqT rfl ?_ | with_reducible refine RunLN.neF rfl ?_ | (with_reducible refine RunLN.decT ?_ ?_; focus omega) | (with_reducible refine RunLN.decF ?_ ?_; focus omega) | (with_reducible refine RunLN.eqT ?_ ?_; focus omega) | (with_reducible refine RunLN.eqF ?_ ?_; focus omega) | (with_reducible refine RunLN.neT ?_ ?_; focus omega) | (with_reducible refine RunLN.neF ?_ ?_; focus omega) | refine RunLN.boolT (by exact rfl) ?_ | refine RunLN.boolF (by exact rfl) ?_ | (with_reducible refine RunLN.chk ?_; refine RunLN.int (by (first | (refine wr_i64 ?_ ?_; omega; omega) | (refine wm_i64 ?_; omega) | (refine wq_i64 ?_ ?_ ?_; omega; omega; omega) | rfl)) ?_) | refine RunLN.any ?_ | refine RunL.ev Tryd.tOk rfl rfl rfl ?_ | refine RunL.unwantedD rfl rfl ?_ | refine RunL.unwantedN rfl ?_ | refine RunL.evV rfl rfl rfl (OpV.load1 Tryd.tOk rfl rfl rfl (Blk.cell Z24 rfl)) ?_ | refine RunL.evV rfl rfl rfl (OpV.loadN Tryd.tOk rfl rfl rfl rfl (Blk.row Z25)) ?_ | refine RunL.evV rfl rfl rfl (OpV.indexS Tryd.tOk _ rfl rfl rfl rfl (by omega)) ?_ | refine RunE.condT rfl rfl ?_ | refine RunE.condF rfl rfl ?_ | refine RunE.seq ?_ | refine RunE.region ?_ | refine RunL.nil ?_ | refine RunE.block ?_ | refine RunE.inBlock ?_ | refine RunE.skip ?_ | refine RunE.exit rfl ?_ | refine RunE.scope ?_ | refine RunE.inScope ?_ | refine RunE.label ?_)
        refine RunL.ex rfl rfl rfl (OpE.buildN encG Tryd.tOk [idD x.d] rfl rfl rfl rfl rfl rfl) ?_
        rintro _ w9 ⟨⟨B9, rfl, hB9⟩, hg9, Xa_⟩
        have hn9 : ∀ k, (Value.slice (some ⟨B9, 0, none⟩) 1 1).ownBlock = some k → k ≠ B21 := fun k hk => by
          have h9 := Z21.lt
          simp [Value.ownBlock] at hk; omega
        replace Z21 := Z21.up Xa_
        replace hks := hks.up Xa_
        replace X := X.trans Xa_
        clear Xa_ Z24 Z25 hsv
        repeat' (first | with_reducible refine RunLN.boolT rfl ?_ | with_reducible refine RunLN.boolF rfl ?_ | refine RunLN.boolT (by assumption) ?_ | refine RunLN.boolF (by assumption) ?_ | with_reducible refine RunLN.eqT rfl ?_ | with_reducible refine RunLN.neF rfl ?_ | (with_reducible refine RunLN.decT ?_ ?_; focus omega) | (with_reducible refine RunLN.decF ?_ ?_; focus omega) | (with_reducible refine RunLN.eqT ?_ ?_; focus omega) | (with_reducible refine RunLN.eqF ?_ ?_; focus omega) | (with_reducible refine RunLN.neT ?_ ?_; focus omega) | (with_reducible refine RunLN.neF ?_ ?_; focus omega) | refine RunLN.boolT (by exact rfl) ?_ | refine RunLN.boolF (by exact rfl) ?_ | (with_reducible refine RunLN.chk ?_; refine RunLN.int (by (first | (refine wr_i64 ?_ ?_; omega; omega) | (refine wm_i64 ?_; omega) | (refine wq_i64 ?_ ?_ ?_; omega; omega; omega) | rfl)) ?_) | refine RunLN.any ?_ | refine RunL.ev Tryd.tOk rfl rfl rfl ?_ | refine RunL.unwantedD rfl rfl ?_ | refine RunL.unwantedN rfl ?_ | refine RunL.evV rfl rfl rfl (OpV.indexS Tryd.tOk _ rfl rfl rfl rfl (by omega)) ?_ | refine RunE.condT rfl rfl ?_ | refine RunE.condF rfl rfl ?_ | refine RunE.seq ?_ | refine RunE.region ?_ | refine RunL.nil ?_ | refine RunE.block ?_ | refine RunE.inBlock ?_ | refine RunE.skip ?_ | refine RunE.exit rfl ?_ | refine RunE.scope ?_ | refine RunE.inScope ?_ | refine RunE.label ?_)
        exact RunE.weaken (by repeat (first | exact Sub.nil _ | refine Sub.cons rfl ?_)) (next no _ prev _ [idD x.d] _ n1.symm n2.symm n3.symm n4.symm hend X Z21 hg9 hks hn9)
      · rw [if_neg hse] at n4
        repeat' (first | with_reducible refine RunLN.boolT rfl ?_ | with_reducible refine RunLN.boolF rfl ?_ | refine RunLN.boolT (by assumption) ?_ | refine RunLN.boolF (by assumption) ?_ | with_reducible refine RunLN.eqT rfl ?_ | with_reducible refine RunLN.neF rfl ?_ | (with_reducible refine RunLN.decT ?_ ?_; focus omega) | (with_reducible refine RunLN.decF ?_ ?_; focus omega) | (with_reducible refine RunLN.eqT ?_ ?_; focus omega) | (with_reducible refine RunLN.eqF ?_ ?_; focus omega) | (with_reducible refine RunLN.neT ?_ ?_; focus omega) | (with_reducible refine RunLN.neF ?_ ?_; focus omega) | refine RunLN.boolT (by exact rfl) ?_ | refine RunLN.boolF (by exact rfl) ?_ | (with_reducible refine RunLN.chk ?_; refine RunLN.int (by (first | (refine wr_i64 ?_ ?_; omega; omega) | (refine wm_i64 ?_; omega) | (refine wq_i64 ?_ ?_ ?_; omega; omega; omega) | rfl)) ?_) | refine RunLN.any ?_ | refine RunL.ev Tryd.tOk rfl rfl rfl ?_ | refine RunL.unwantedD rfl rfl ?_ | refine RunL.unwantedN rfl ?_ | refine RunL.evV rfl rfl rfl (OpV.load1 Tryd.tOk rfl rfl rfl (Blk.cell Z24 rfl)) ?_ | refine RunL.evV rfl rfl rfl (OpV.indexS Tryd.tOk _ rfl rfl rfl rfl (by omega)) ?_ | refine RunE.condT rfl rfl ?_ | refine RunE.condF rfl rfl ?_ | refine RunE.seq ?_ | refine RunE.region ?_ | refine RunL.nil ?_ | refine RunE.block ?_ | refine RunE.inBlock ?_ | refine RunE.skip ?_ | refine RunE.exit rfl ?_ | refine RunE.scope ?_ | refine RunE.inScope ?_ | refine RunE.label ?_)
        exact RunE.weaken (by repeat (first | exact Sub.nil _ | refine Sub.cons rfl ?_)) (next no _ prev sn snl _ n1.symm n2.symm n3.symm n4.symm hend X Z21 hsv hks hs21)
  obtain rfl : i = l.length := by omega
  have etk : (l.map Dr.d).take l.length = l.map Dr.d := List.take_of_length_le (by rw [List.length_map]; exact Nat.le_refl _)
  rw [etk] at hno hat hpv hsnl
  clear etk htl htk hfm again hng hnl hsn hlt hi
  obtain ⟨pn, rfl⟩ : ∃ n : Nat, p = (n : Int) := ⟨p.toNat, by omega⟩
  obtain ⟨b1, o1, cc, rfl, hr1, -⟩ := isL_held hk (show pn < ss.length by omega)
  have hrs := flat_row encIn hr1 (show ss[pn]? = some sc from hsc)
  obtain ⟨hme, hst⟩ := next_step (see := see) (data := data) hlog (by rw [List.length_map]; omega) hsq m0 (by omega) (by rw [hkn]; exact m1) hkp h3.1 (by rw [← hat]; exact hatb) (by omega)
  rw [← hno, ← hat, ← hpv, ← hsnl] at hme hst
  obtain ⟨hk0, hk1⟩ := chk_snoc hkd (by rw [List.length_map]; omega) hlog hst
  obtain ⟨du, cu, rfl⟩ := isSl_slice hsv
  have hnl1 := seeD_len (l.map Dr.d) (pn : Int) see
  have hno0 := nextD_nonneg (l.map Dr.d) (pn : Int)
  have hno1 := nextD_le (l.map Dr.d) (pn : Int)
  rw [← hsnl] at hnl1
  rw [← hno] at hno0 hno1
  rw [List.length_map] at hno1
  have hat0 : 0 ≤ at_ := by
    have := (formedD_inv (make_good hme).2.1).1
    have h := this.2.2.2.2.1
    exact h
  have hwm : WfD (makeD sc (askD (pn : Int) no at_ prev snl data)) := wf_make ⟨⟨by show _ ≤ (pn : Int); omega, by show (pn : Int) < _; omega⟩, ⟨by show _ ≤ no; omega, by show no < _; omega⟩, ⟨by show _ ≤ at_; omega, by show at_ < _; omega⟩, ⟨by show (_ : Int) ≤ 0; decide, by show (0 : Int) < _; decide⟩, ⟨by show (_ : Int) ≤ 0; decide, by show (0 : Int) < _; decide⟩⟩
  have hms : (makeD sc (askD (pn : Int) no at_ prev snl data)).seen = snl ∧ (makeD sc (askD (pn : Int) no at_ prev snl data)).data = data := by rw [(make_good hme).2.2]; exact ⟨rfl, rfl⟩
  have cM := fun w a b c d => dMake_go sc pn no at_ prev snl data du cu ddv cdv w hsb hme a b (by omega) hdl c d
  generalize makeD sc (askD (pn : Int) no at_ prev snl data) = m' at *
  clear hno hat hpv hsnl hlog hst hme hkp hsc hr1
  repeat' (first | with_reducible refine RunLN.boolT rfl ?_ | with_reducible refine RunLN.boolF rfl ?_ | refine RunLN.boolT (by assumption) ?_ | refine RunLN.boolF (by assumption) ?_ | with_reducible refine RunLN.eqT rfl ?_ | with_reducible refine RunLN.neF rfl ?_ | (with_reducible refine RunLN.decT ?_ ?_; focus omega) | (with_reducible refine RunLN.decF ?_ ?_; focus omega) | (with_reducible refine RunLN.eqT ?_ ?_; focus omega) | (with_reducible refine RunLN.eqF ?_ ?_; focus omega) | (with_reducible refine RunLN.neT ?_ ?_; focus omega) | (with_reducible refine RunLN.neF ?_ ?_; focus omega) | refine RunLN.boolT (by exact rfl) ?_ | refine RunLN.boolF (by exact rfl) ?_ | (with_reducible refine RunLN.chk ?_; refine RunLN.int (by (first | (refine wr_i64 ?_ ?_; omega; omega) | (refine wm_i64 ?_; omega) | (refine wq_i64 ?_ ?_ ?_; omega; omega; omega) | rfl)) ?_) | refine RunLN.any ?_ | refine RunL.ev Tryd.tOk rfl rfl rfl ?_ | refine RunL.unwantedD rfl rfl ?_ | refine RunL.unwantedN rfl ?_ | refine RunL.evV rfl rfl rfl (OpV.indexS Tryd.tOk _ rfl rfl rfl rfl (by omega)) ?_ | refine RunE.condT rfl rfl ?_ | refine RunE.condF rfl rfl ?_ | refine RunE.seq ?_ | refine RunE.region ?_ | refine RunL.nil ?_ | refine RunE.block ?_ | refine RunE.inBlock ?_ | refine RunE.skip ?_ | refine RunE.exit rfl ?_ | refine RunE.scope ?_ | refine RunE.inScope ?_ | refine RunE.label ?_)
  have l5 : w5.heap.size ≤ w5.heap.size := Nat.le_refl _
  refine Go.RnW.RunE.draw [] (Go.RnW.onlyT 29 w5.heap.size) (Go.RnW.onlyT_ok _ _) mix ?_
  intro wd_ Xd_
  refine Go.RnW.Asy.pure Tryd.tOk rfl rfl rfl ?_
  refine Go.RnW.Asy.pure Tryd.tOk rfl rfl rfl ?_
  refine Go.RnW.Asy.val rfl rfl rfl rfl (fun w' => OpV.indexS Tryd.tOk pn rfl rfl rfl rfl (by omega)) ?_
  refine Go.RnW.Asy.vS rfl rfl rfl rfl (fun w' s => OpV.load1 Tryd.tOk rfl rfl rfl ((Go.RnW.onlyT.rw (hrs.up X) l5 Xd_ s) 0 _ rfl)) ?_
  refine Go.RnW.Asy.pure Tryd.tOk rfl rfl rfl ?_
  refine Go.RnW.Asy.pure Tryd.tOk rfl rfl rfl ?_
  refine Go.RnW.Asy.pure Tryd.tOk rfl rfl rfl ?_
  refine Go.RnW.Asy.vS rfl rfl rfl rfl (fun w' s => OpV.loadN Tryd.tOk rfl rfl rfl rfl (Go.RnW.onlyT.rw (Blk.row Z21) l5 Xd_ s)) ?_
  refine Go.RnW.Asy.pure Tryd.tOk rfl rfl rfl ?_
  refine Go.RnW.Asy.pure Tryd.tOk rfl rfl rfl ?_
  refine Go.RnW.Asy.eS rfl rfl rfl rfl (fun w' s => OpE.call rfl (cM _ (Go.RnW.onlyT.sl hsv l5 Xd_ s) (Go.RnW.onlyT.sl (hdv.up X) l5 Xd_ s) (Go.RnW.onlyT.rw (hS.up X) l5 Xd_ s) (Go.RnW.onlyT.rw (hkT.up X) l5 Xd_ s))) ?_
  refine Go.RnW.Asy.pure Tryd.tOk rfl rfl rfl ?_
  refine Go.RnW.Asy.pure Tryd.tOk rfl rfl rfl ?_
  refine Go.RnW.Asy.pure Tryd.tOk rfl rfl rfl ?_
  refine Go.RnW.Asy.sat0 (Go.RnW.newT 29 w5.heap.size 39) rfl rfl rfl rfl (fun r w' w'' _ e h => h.keep e) (fun w' s => ?_) ?_
  · refine OpE.mono (OpE.allocD Tryd.tOk rfl) ?_ fun _ _ h => h
    rintro _ w'' ⟨B, rfl, a⟩
    exact ⟨a.ext, B, _, rfl, by have := a.eq; have := s.1.size; have := Xd_.size; omega, a.at_, rfl⟩
  refine Go.RnW.Asy.wri1 0 (fun r w' => ∃ B, r = .pointer (some ⟨B, 0, none⟩) ∧ w5.heap.size ≤ B ∧ Blk w' B (dCells m' (.slice du snl.length cu) (.slice ddv data.length cdv)) 29) rfl rfl (fun r w' w'' _ e h => ?_) (fun w' x e hx => ?_) ?_
  · obtain ⟨B, h1, h2, h3⟩ := h; exact ⟨B, h1, h2, h3.up e⟩
  · obtain ⟨B, cs, rfl, hB, hBh, hsz⟩ := hx
    have hb : Blk w' B cs.toList 29 := by simpa [Blk] using hBh
    refine OpE.mono (OpE.storeW (vs := dCells m' (.slice du snl.length cu) (.slice ddv data.length cdv)) Tryd.tOk rfl rfl rfl rfl hb (by rw [Array.length_toList, hsz]; rfl) rfl) ?_ fun _ _ h => h
    rintro _ w'' t
    exact ⟨Go.RnW.onlyT.turn hBh hsz hB t rfl, B, rfl, hB, t.at_⟩
  refine Go.RnW.Asy.tail1 0 15 (by kernel_rfl) (by kernel_rfl) rfl rfl rfl fun w27_ x Xe_ hV _ => ?_
  obtain ⟨B27, rfl, gB27, Z27⟩ := hV
  simp only [List.eraseIdx_cons_zero, satsAll]
  replace hsv := Go.RnW.onlyT.sl hsv l5 Xd_ Xe_
  replace hks := Go.RnW.onlyT.sl hks l5 Xd_ Xe_
  have X0 : Ext W w27_ := (X.trans Xd_).write Xe_.1 (by intro k hk hlt; have := hk.1; have := X.size; omega)
  clear Xd_ Xe_ X Z21 hrs cM l5
  have X := ExtB.refl (fun _ => False) w27_
  have hdm : ∀ w, Ext w27_ w → ∀ x ∈ l ++ [(⟨m', du, cu, ddv, cdv⟩ : Dr)], WfX w x := fun w e x hx => by
    rcases List.mem_append.1 hx with hx | hx
    · exact (hd x hx).up (X0.trans e)
    · rw [List.mem_singleton] at hx
      subst hx
      refine ⟨hwm, ?_, ?_, ?_, ?_⟩
      · show m'.seen.length < _; rw [hms.1]; omega
      · show m'.data.length < _; rw [hms.2]; exact hdl
      · show LDg w (.slice du m'.seen.length cu) m'.seen; rw [hms.1]; exact hsv.up e
      · show LBy w (.slice ddv m'.data.length cdv) m'.data; rw [hms.2]; exact hdv.up (X0.trans e)
  have hrm : ((l ++ [(⟨m', du, cu, ddv, cdv⟩ : Dr)]).map Dr.d) = l.map Dr.d ++ [m'] := by rw [List.map_append]; rfl
  have hrm2 : ((l ++ [(⟨m', du, cu, ddv, cdv⟩ : Dr)] ++ [(⟨m', du, cu, ddv, cdv⟩ : Dr)]).map Dr.d) = l.map Dr.d ++ [m'] ++ [m'] := by rw [List.map_append, hrm]; rfl
  have cc1 := fun lv w h h' hd h1 h2 => dcheck_ok ks y (l ++ [(⟨m', du, cu, ddv, cdv⟩ : Dr)]) lv w h hksl hksi h' (by rw [List.length_append, List.length_singleton]; omega) hd h1 h2
  have cc2 := fun lv w h h' hd h1 h2 => dcheck_ok ks y (l ++ [(⟨m', du, cu, ddv, cdv⟩ : Dr)] ++ [(⟨m', du, cu, ddv, cdv⟩ : Dr)]) lv w h hksl hksi h' (by rw [List.length_append, List.length_append, List.length_singleton]; omega) hd h1 h2
  rw [hrm, hk0] at cc1
  rw [hrm2, hk1] at cc2
  have henc : Value.agg (dCells m' (.slice du snl.length cu) (.slice ddv data.length cdv)).toArray = .agg (Dr.cells ⟨m', du, cu, ddv, cdv⟩).toArray := by
    show _ = Value.agg (dCells m' (.slice du m'.seen.length cu) (.slice ddv m'.data.length cdv)).toArray
    rw [hms.1, hms.2]
  clear hrm hrm2 hk0 hk1 hwm hms hd
  generalize (⟨m', du, cu, ddv, cdv⟩ : Dr) = mr at *
  repeat' (first | with_reducible refine RunLN.boolT rfl ?_ | with_reducible refine RunLN.boolF rfl ?_ | refine RunLN.boolT (by assumption) ?_ | refine RunLN.boolF (by assumption) ?_ | with_reducible refine RunLN.eqT rfl ?_ | with_reducible refine RunLN.neF rfl ?_ | (with_reducible refine RunLN.decT ?_ ?_; focus omega) | (with_reducible refine RunLN.decF ?_ ?_; focus omega) | (with_reducible refine RunLN.eqT ?_ ?_; focus omega) | (with_reducible refine RunLN.eqF ?_ ?_; focus omega) | (with_reducible refine RunLN.neT ?_ ?_; focus omega) | (with_reducible refine RunLN.neF ?_ ?_; focus omega) | refine RunLN.boolT (by exact rfl) ?_ | refine RunLN.boolF (by exact rfl) ?_ | (with_reducible refine RunLN.chk ?_; refine RunLN.int (by (first | (refine wr_i64 ?_ ?_; omega; omega) | (refine wm_i64 ?_; omega) | (refine wq_i64 ?_ ?_ ?_; omega; omega; omega) | rfl)) ?_) | refine RunLN.any ?_ | refine RunL.ev Tryd.tOk rfl rfl rfl ?_ | refine RunL.unwantedD rfl rfl ?_ | refine RunL.unwantedN rfl ?_ | refine RunL.evV rfl rfl rfl (OpV.indexS Tryd.tOk _ rfl rfl rfl rfl (by omega)) ?_ | refine RunE.condT rfl rfl ?_ | refine RunE.condF rfl rfl ?_ | refine RunE.seq ?_ | refine RunE.region ?_ | refine RunL.nil ?_ | refine RunE.block ?_ | refine RunE.inBlock ?_ | refine RunE.skip ?_ | refine RunE.exit rfl ?_ | refine RunE.scope ?_ | refine RunE.inScope ?_ | refine RunE.label ?_)
  refine RunE.draw (fun _ => False) mix ?_
  intro wd_ Xd_
  refine Asy.sat0 (fun u w' => ∃ B, u = .slice (some ⟨B, 0, none⟩) 0 0) rfl rfl rfl rfl (fun u w' w'' _ e h => h) (fun w' _ => ?_) ?_
  · refine OpE.mono (OpE.build0 Tryd.tOk 47 29 rfl rfl rfl) ?_ fun _ _ h => h
    rintro _ w'' ⟨h1, h2⟩; exact ⟨h2, h1⟩
  repeat' (first | with_reducible refine AsyN.boolT rfl ?_ | with_reducible refine AsyN.boolF rfl ?_ | refine AsyN.boolT (by assumption) ?_ | refine AsyN.boolF (by assumption) ?_ | with_reducible refine AsyN.eqT rfl ?_ | with_reducible refine AsyN.neF rfl ?_ | (with_reducible refine AsyN.decT ?_ ?_; focus omega) | (with_reducible refine AsyN.decF ?_ ?_; focus omega) | (with_reducible refine AsyN.eqT ?_ ?_; focus omega) | (with_reducible refine AsyN.eqF ?_ ?_; focus omega) | (with_reducible refine AsyN.neT ?_ ?_; focus omega) | (with_reducible refine AsyN.neF ?_ ?_; focus omega) | refine AsyN.boolT (by exact rfl) ?_ | refine AsyN.boolF (by exact rfl) ?_ | (with_reducible refine AsyN.chk ?_; refine AsyN.int (by (first | (refine wr_i64 ?_ ?_; omega; omega) | (refine wm_i64 ?_; omega) | (refine wq_i64 ?_ ?_ ?_; omega; omega; omega) | rfl)) ?_) | refine AsyN.any ?_ | refine Asy.ev Tryd.tOk rfl rfl rfl ?_ | refine Asy.unwantedD rfl rfl rfl ?_ | refine Asy.evV rfl rfl rfl rfl (fun _ X_ => OpV.indexS Tryd.tOk _ rfl rfl rfl rfl (by omega)) ?_)
  refine Asy.sat1 0 (fun u w' => (l.length = 0 ∧ ∃ B, u = .slice (some ⟨B, 0, none⟩) 0 0) ∨ w'.ownsRow wd_.heap.size 29 39 u l.length (flat Dr.cells l)) rfl rfl rfl rfl rfl rfl (fun u w' w'' _ e h => h.imp id fun h => h.up e) (fun w' u X_ hu => ?_) ?_
  · obtain ⟨B, rfl⟩ := hu
    refine OpE.mono (OpE.append0 Tryd.tOk (m := l.length) (news := flat Dr.cells l) rfl rfl rfl rfl rfl (hv.up (X0.trans (X.trans (Xd_.trans X_)))) (by show _ * 120 ≤ _; omega) (by omega)) ?_ fun _ _ h => h
    rintro r w'' ⟨h1, h2⟩
    refine ⟨h2, h1.imp (fun h => ⟨h.1, B, h.2⟩) fun h => ownsRow_base h ?_⟩
    have := X_.size; omega
  repeat' (first | with_reducible refine AsyN.boolT rfl ?_ | with_reducible refine AsyN.boolF rfl ?_ | refine AsyN.boolT (by assumption) ?_ | refine AsyN.boolF (by assumption) ?_ | with_reducible refine AsyN.eqT rfl ?_ | with_reducible refine AsyN.neF rfl ?_ | (with_reducible refine AsyN.decT ?_ ?_; focus omega) | (with_reducible refine AsyN.decF ?_ ?_; focus omega) | (with_reducible refine AsyN.eqT ?_ ?_; focus omega) | (with_reducible refine AsyN.eqF ?_ ?_; focus omega) | (with_reducible refine AsyN.neT ?_ ?_; focus omega) | (with_reducible refine AsyN.neF ?_ ?_; focus omega) | refine AsyN.boolT (by exact rfl) ?_ | refine AsyN.boolF (by exact rfl) ?_ | (with_reducible refine AsyN.chk ?_; refine AsyN.int (by (first | (refine wr_i64 ?_ ?_; omega; omega) | (refine wm_i64 ?_; omega) | (refine wq_i64 ?_ ?_ ?_; omega; omega; omega) | rfl)) ?_) | refine AsyN.any ?_ | refine Asy.ev Tryd.tOk rfl rfl rfl ?_ | refine Asy.unwantedD rfl rfl rfl ?_ | refine Asy.evV rfl rfl rfl rfl (fun _ X_ => OpV.loadN Tryd.tOk rfl rfl rfl rfl (Blk.row (Z27.up (Xd_.trans X_)))) ?_ | refine Asy.evV rfl rfl rfl rfl (fun _ X_ => OpV.indexS Tryd.tOk _ rfl rfl rfl rfl (by omega)) ?_)
  refine Asy.sat0 (fun u w' => (∃ B, u = .slice (some ⟨B, 0, none⟩) 1 1) ∧ LDr w' u [mr]) rfl rfl rfl rfl (fun u w' w'' _ e h => ⟨h.1, h.2.up e⟩) (fun w' X_ => ?_) ?_
  · refine OpE.mono (OpE.buildL encR Tryd.tOk [mr] rfl rfl rfl rfl (by show _ = some (enumV 0 [Value.agg (Dr.cells mr).toArray]); rw [← henc]; rfl) rfl) ?_ fun _ _ h => h
    rintro u w'' ⟨h1, h2, h3⟩
    exact ⟨h3, h1, h2⟩
  refine Asy.tail (by kernel_rfl) fun wx_ Xe_ => ?_
  simp only [satsAll]
  rintro _ ⟨⟨B46, rfl⟩, h46⟩ v44 h44 _ ⟨B42, rfl⟩
  refine RunL.ex (R := fun u w' => w'.ownsRow w27_.heap.size 29 39 u (l ++ [mr]).length (flat Dr.cells (l ++ [mr])) ∧ ExtB (fun k => w27_.heap.size ≤ k) wx_ w') rfl rfl rfl ?_ ?_
  · rcases h44 with ⟨h0, B', rfl⟩ | h44
    · refine OpE.mono (OpE.append0 Tryd.tOk (m := 1) (news := flat Dr.cells [mr]) rfl rfl rfl rfl rfl h46 (by show 1 * 120 ≤ _; decide) (by omega)) ?_ fun _ _ h => h
      rintro r w'' ⟨h1, h2⟩
      have e0 : l = [] := List.eq_nil_of_length_eq_zero h0
      subst e0
      refine ⟨?_, ExtB.of_ext h2⟩
      rcases h1 with ⟨h, -⟩ | h
      · exact absurd h (by decide)
      · exact ownsRow_base h (Nat.le_trans Xd_.size Xe_.size)
    · refine OpE.mono (OpE.append' Tryd.tOk rfl rfl rfl rfl rfl rfl h44 h46 (flat_plain encR [mr]) (by show _ * 120 ≤ _; simp only [List.length_singleton]; omega) (by simp only [List.length_singleton]; omega) Xe_.size) ?_ fun _ _ h => h
      rintro r' w'' ⟨h1, h2, -⟩
      refine ⟨?_, h2.mono fun k _ hk => Nat.le_trans Xd_.size (ownsRow_ge h44 hk)⟩
      rw [List.length_append, flat_append]; exact ownsRow_base h1 Xd_.size
  rintro v29 w29 ⟨O29, E29⟩
  have Xa_ : Ext w27_ w29 := (Xd_.trans Xe_).write E29 (by intro i_ hi_ hlt_; omega)
  replace Z27 := Z27.up Xa_
  replace X := X.trans Xa_
  clear E29 h44 h46 Xe_ Xa_ Xd_
  have h29 : LDr w29 v29 (l ++ [mr]) := isSl_own O29
  repeat' (first | with_reducible refine RunLN.boolT rfl ?_ | with_reducible refine RunLN.boolF rfl ?_ | refine RunLN.boolT (by assumption) ?_ | refine RunLN.boolF (by assumption) ?_ | with_reducible refine RunLN.eqT rfl ?_ | with_reducible refine RunLN.neF rfl ?_ | (with_reducible refine RunLN.decT ?_ ?_; focus omega) | (with_reducible refine RunLN.decF ?_ ?_; focus omega) | (with_reducible refine RunLN.eqT ?_ ?_; focus omega) | (with_reducible refine RunLN.eqF ?_ ?_; focus omega) | (with_reducible refine RunLN.neT ?_ ?_; focus omega) | (with_reducible refine RunLN.neF ?_ ?_; focus omega) | refine RunLN.boolT (by exact rfl) ?_ | refine RunLN.boolF (by exact rfl) ?_ | (with_reducible refine RunLN.chk ?_; refine RunLN.int (by (first | (refine wr_i64 ?_ ?_; omega; omega) | (refine wm_i64 ?_; omega) | (refine wq_i64 ?_ ?_ ?_; omega; omega; omega) | rfl)) ?_) | refine RunLN.any ?_ | refine RunL.ev Tryd.tOk rfl rfl rfl ?_ | refine RunL.unwantedD rfl rfl ?_ | refine RunL.unwantedN rfl ?_ | refine RunL.evV rfl rfl rfl (OpV.indexS Tryd.tOk _ rfl rfl rfl rfl (by omega)) ?_ | refine RunE.condT rfl rfl ?_ | refine RunE.condF rfl rfl ?_ | refine RunE.seq ?_ | refine RunE.region ?_ | refine RunL.nil ?_ | refine RunE.block ?_ | refine RunE.inBlock ?_ | refine RunE.skip ?_ | refine RunE.exit rfl ?_ | refine RunE.scope ?_ | refine RunE.inScope ?_ | refine RunE.label ?_)
  refine RunL.call rfl rfl rfl (cc1 _ _ (hks.up X) h29 (hdm _ X) (hS.up (X0.trans X)) (hkT.up (X0.trans X))) ?_
  rintro _ _ ⟨rfl, Xa_⟩
  replace Z27 := Z27.up Xa_
  replace O29 := O29.up Xa_
  replace X := X.trans Xa_
  clear Xa_
  clear h29 cc1
  repeat' (first | with_reducible refine RunLN.boolT rfl ?_ | with_reducible refine RunLN.boolF rfl ?_ | refine RunLN.boolT (by assumption) ?_ | refine RunLN.boolF (by assumption) ?_ | with_reducible refine RunLN.eqT rfl ?_ | with_reducible refine RunLN.neF rfl ?_ | (with_reducible refine RunLN.decT ?_ ?_; focus omega) | (with_reducible refine RunLN.decF ?_ ?_; focus omega) | (with_reducible refine RunLN.eqT ?_ ?_; focus omega) | (with_reducible refine RunLN.eqF ?_ ?_; focus omega) | (with_reducible refine RunLN.neT ?_ ?_; focus omega) | (with_reducible refine RunLN.neF ?_ ?_; focus omega) | refine RunLN.boolT (by exact rfl) ?_ | refine RunLN.boolF (by exact rfl) ?_ | (with_reducible refine RunLN.chk ?_; refine RunLN.int (by (first | (refine wr_i64 ?_ ?_; omega; omega) | (refine wm_i64 ?_; omega) | (refine wq_i64 ?_ ?_ ?_; omega; omega; omega) | rfl)) ?_) | refine RunLN.any ?_ | refine RunL.ev Tryd.tOk rfl rfl rfl ?_ | refine RunL.unwantedD rfl rfl ?_ | refine RunL.unwantedN rfl ?_ | refine RunL.evV rfl rfl rfl (OpV.loadN Tryd.tOk rfl rfl rfl rfl (Blk.row Z27)) ?_ | refine RunL.evV rfl rfl rfl (OpV.indexS Tryd.tOk _ rfl rfl rfl rfl (by omega)) ?_ | refine RunE.condT rfl rfl ?_ | refine RunE.condF rfl rfl ?_ | refine RunE.seq ?_ | refine RunE.region ?_ | refine RunL.nil ?_ | refine RunE.block ?_ | refine RunE.inBlock ?_ | refine RunE.skip ?_ | refine RunE.exit rfl ?_ | refine RunE.scope ?_ | refine RunE.inScope ?_ | refine RunE.label ?_)
  refine RunL.ex rfl rfl rfl (OpE.buildL encR Tryd.tOk [mr] rfl rfl rfl rfl (by show _ = some (enumV 0 [Value.agg (Dr.cells mr).toArray]); rw [← henc]; rfl) rfl) ?_
  rintro _ w59 ⟨⟨B59, rfl⟩, h59, Xa_⟩
  replace O29 := O29.up Xa_
  replace X := X.trans Xa_
  clear Xa_ Z27
  repeat' (first | with_reducible refine RunLN.boolT rfl ?_ | with_reducible refine RunLN.boolF rfl ?_ | refine RunLN.boolT (by assumption) ?_ | refine RunLN.boolF (by assumption) ?_ | with_reducible refine RunLN.eqT rfl ?_ | with_reducible refine RunLN.neF rfl ?_ | (with_reducible refine RunLN.decT ?_ ?_; focus omega) | (with_reducible refine RunLN.decF ?_ ?_; focus omega) | (with_reducible refine RunLN.eqT ?_ ?_; focus omega) | (with_reducible refine RunLN.eqF ?_ ?_; focus omega) | (with_reducible refine RunLN.neT ?_ ?_; focus omega) | (with_reducible refine RunLN.neF ?_ ?_; focus omega) | refine RunLN.boolT (by exact rfl) ?_ | refine RunLN.boolF (by exact rfl) ?_ | (with_reducible refine RunLN.chk ?_; refine RunLN.int (by (first | (refine wr_i64 ?_ ?_; omega; omega) | (refine wm_i64 ?_; omega) | (refine wq_i64 ?_ ?_ ?_; omega; omega; omega) | rfl)) ?_) | refine RunLN.any ?_ | refine RunL.ev Tryd.tOk rfl rfl rfl ?_ | refine RunL.unwantedD rfl rfl ?_ | refine RunL.unwantedN rfl ?_ | refine RunL.evV rfl rfl rfl (OpV.indexS Tryd.tOk _ rfl rfl rfl rfl (by omega)) ?_ | refine RunE.condT rfl rfl ?_ | refine RunE.condF rfl rfl ?_ | refine RunE.seq ?_ | refine RunE.region ?_ | refine RunL.nil ?_ | refine RunE.block ?_ | refine RunE.inBlock ?_ | refine RunE.skip ?_ | refine RunE.exit rfl ?_ | refine RunE.scope ?_ | refine RunE.inScope ?_ | refine RunE.label ?_)
  refine RunL.ex rfl rfl rfl (OpE.append' Tryd.tOk rfl rfl rfl rfl rfl rfl O29 h59 (flat_plain encR [mr]) (by show _ * 120 ≤ _; simp only [List.length_append, List.length_singleton]; omega) (by simp only [List.length_append, List.length_singleton]; omega) X.size) ?_
  rintro v60 w60 ⟨O60, E60, -⟩
  replace X := X.write E60 (by intro k hk hlt; have := ownsRow_ge O29 hk; omega)
  clear E60 O29 h59
  have h60 : LDr w60 v60 (l ++ [mr] ++ [mr]) := by
    have := isSl_own O60
    show IsSl w60 39 v60 (l ++ [mr] ++ [mr]).length (flat Dr.cells (l ++ [mr] ++ [mr]))
    have e1 : (l ++ [mr] ++ [mr]).length = (l ++ [mr]).length + [mr].length := List.length_append
    have e2 : flat Dr.cells (l ++ [mr] ++ [mr]) = flat Dr.cells (l ++ [mr]) ++ flat Dr.cells [mr] := by rw [flat_append]
    rw [e1, e2]; exact this
  clear O60
  have hdm2 : ∀ w, Ext w27_ w → ∀ x ∈ l ++ [mr] ++ [mr], WfX w x := fun w e x hx => hdm w e x ((List.mem_append.1 hx).elim id fun h => List.mem_append.2 (.inr h))
  repeat' (first | with_reducible refine RunLN.boolT rfl ?_ | with_reducible refine RunLN.boolF rfl ?_ | refine RunLN.boolT (by assumption) ?_ | refine RunLN.boolF (by assumption) ?_ | with_reducible refine RunLN.eqT rfl ?_ | with_reducible refine RunLN.neF rfl ?_ | (with_reducible refine RunLN.decT ?_ ?_; focus omega) | (with_reducible refine RunLN.decF ?_ ?_; focus omega) | (with_reducible refine RunLN.eqT ?_ ?_; focus omega) | (with_reducible refine RunLN.eqF ?_ ?_; focus omega) | (with_reducible refine RunLN.neT ?_ ?_; focus omega) | (with_reducible refine RunLN.neF ?_ ?_; focus omega) | refine RunLN.boolT (by exact rfl) ?_ | refine RunLN.boolF (by exact rfl) ?_ | (with_reducible refine RunLN.chk ?_; refine RunLN.int (by (first | (refine wr_i64 ?_ ?_; omega; omega) | (refine wm_i64 ?_; omega) | (refine wq_i64 ?_ ?_ ?_; omega; omega; omega) | rfl)) ?_) | refine RunLN.any ?_ | refine RunL.ev Tryd.tOk rfl rfl rfl ?_ | refine RunL.unwantedD rfl rfl ?_ | refine RunL.unwantedN rfl ?_ | refine RunL.evV rfl rfl rfl (OpV.indexS Tryd.tOk _ rfl rfl rfl rfl (by omega)) ?_ | refine RunE.condT rfl rfl ?_ | refine RunE.condF rfl rfl ?_ | refine RunE.seq ?_ | refine RunE.region ?_ | refine RunL.nil ?_ | refine RunE.block ?_ | refine RunE.inBlock ?_ | refine RunE.skip ?_ | refine RunE.exit rfl ?_ | refine RunE.scope ?_ | refine RunE.inScope ?_ | refine RunE.label ?_)
  refine RunL.call rfl rfl rfl (cc2 _ _ (hks.up X) h60 (hdm2 _ X) (hS.up (X0.trans X)) (hkT.up (X0.trans X))) ?_
  rintro _ _ ⟨rfl, Xa_⟩
  replace X := X.trans Xa_
  clear Xa_
  repeat' (first | with_reducible refine RunLN.boolT rfl ?_ | with_reducible refine RunLN.boolF rfl ?_ | refine RunLN.boolT (by assumption) ?_ | refine RunLN.boolF (by assumption) ?_ | with_reducible refine RunLN.eqT rfl ?_ | with_reducible refine RunLN.neF rfl ?_ | (with_reducible refine RunLN.decT ?_ ?_; focus omega) | (with_reducible refine RunLN.decF ?_ ?_; focus omega) | (with_reducible refine RunLN.eqT ?_ ?_; focus omega) | (with_reducible refine RunLN.eqF ?_ ?_; focus omega) | (with_reducible refine RunLN.neT ?_ ?_; focus omega) | (with_reducible refine RunLN.neF ?_ ?_; focus omega) | refine RunLN.boolT (by exact rfl) ?_ | refine RunLN.boolF (by exact rfl) ?_ | (with_reducible refine RunLN.chk ?_; refine RunLN.int (by (first | (refine wr_i64 ?_ ?_; omega; omega) | (refine wm_i64 ?_; omega) | (refine wq_i64 ?_ ?_ ?_; omega; omega; omega) | rfl)) ?_) | (refine RunLN.boolC (fun h_ => ?_) (fun h_ => ?_) <;> (try simp only [decide_eq_true_eq, decide_eq_false_iff_not, beq_iff_eq, bne_iff_ne, ne_eq, Bool.not_eq_true, Bool.not_eq_false, beq_eq_false_iff_ne, bne_eq_false_iff_eq, Bool.not_eq_eq_eq_not, Bool.not_true, Bool.not_false, Bool.not_not, Int.not_lt, Int.not_le, gt_iff_lt, ge_iff_le, Decidable.not_not] at h_)) | refine RunLN.any ?_ | refine RunL.ev Tryd.tOk rfl rfl rfl ?_ | refine RunL.unwantedD rfl rfl ?_ | refine RunL.unwantedN rfl ?_ | refine RunL.evV rfl rfl rfl (OpV.indexS Tryd.tOk _ rfl rfl rfl rfl (by omega)) ?_ | refine RunE.condT rfl rfl ?_ | refine RunE.condF rfl rfl ?_ | refine RunE.seq ?_ | refine RunE.region ?_ | refine RunL.nil ?_ | refine RunE.block ?_ | refine RunE.inBlock ?_ | refine RunE.skip ?_ | refine RunE.exit rfl ?_ | refine RunE.scope ?_ | refine RunE.inScope ?_ | refine RunE.label ?_)
  exact RunE.retFn Tryd.func8 (.tmp rfl .nil) ⟨rfl, X0.trans X⟩
end Go.Sg
namespace Go.Proofs.YtpmpefkcmokoiaaDoor
open Go.ChangeShapes Go.WideShapes Go.ChangeAt Go.RowKit Go.Sg
namespace deedsNext
theorem own : ownKnob Tryd.prog.godebug = none := by kernel_rfl
theorem laidOut : laidOutB Tryd.prog = true := by kernel_rfl
theorem door_met (os : Os) (args : Array Value) : laidMetH Tryd.prog Rows.deedsNextRow.laid ((World.doorLaid Tryd.prog 19 os).forCall (fun _ _ => 0) ⟨#[], args, []⟩).memory :=
  laidMetH_of_parts3 (fuel := 8) (laidMet_of_run' 8 (by kernel_rfl) (by kernel_rfl)) (by kernel_rfl) (by kernel_rfl)
set_option maxRecDepth 100000 in
theorem lifted (os : Os) (started : os.Started) (H : Type) (enc : TypeId × Value → H) :
    ReturnsInHanded {} Tryd.checked os 8 .any (fun w args => (Rows.deedsNextSpec.pre enc Tryd.prog Tryd.f8 [] false w args ∧ laidMetH Tryd.prog Rows.deedsNextRow.laid w) ∧ sizedMet enc Tryd.prog Tryd.f8 (OpenSpec.ofChange Rows.deedsNextSpec) false w args)
      (Rows.deedsNextSpec.post enc Tryd.prog Tryd.f8 false true false false) := by
  refine returnsInHanded_of_change_and (C := Tryd.checked) (X := fun w _ => laidMetH Tryd.prog Rows.deedsNextRow.laid w) (fun _ _ _ hh h => h.of_heap hh) own started (by kernel_rfl) Tryd.func8
    (ChangeSpec.witness_shaped (enc := enc) (C := Tryd.checked) (os := os) (X := fun w _ => laidMetH Tryd.prog Rows.deedsNextRow.laid w) false (World.doorLaid Tryd.prog 19 os) #[.slice none 0 0, .slice none 0 0, .int .u8 0, .int .u8 0, .int .u8 0, .slice none 0 0] 8 rfl (World.shaped_of_RefB (by kernel_rfl) (by kernel_rfl)) (by kernel_rfl) (by kernel_rfl) (by kernel_rfl) (door_met os _)) ?_
  intro W base args ds gs before hval0 hW _ _ hL _
  have hval : ∀ (j : Nat) t v, Tryd.f8.params[j]? = some t → args[j]? = some v → Value.okWide Tryd.prog W .any base t v := hval0
  have hW' := hW
  obtain ⟨p, q, hA0, hV, rfl, hfz, hnd⟩ := hW
  have hA : DataW.TrodAll enc Tryd.prog W 0 (fun _ => true) true Tryd.f8.params.toList args.toList ds p := hA0
  rw [Tryd.params8] at hA hval
  obtain ⟨v0, vs0, d0, ds0, p0, q0, hargs, rfl, rfl, h0, r0⟩ := trodAll_cons hA
  obtain ⟨v1, vs1, d1, ds1, p1, q1, rfl, rfl, rfl, h1, r1⟩ := trodAll_cons r0
  obtain ⟨v2, vs2, d2, ds2, p2, q2, rfl, rfl, rfl, h2, r2⟩ := trodAll_cons r1
  obtain ⟨v3, vs3, d3, ds3, p3, q3, rfl, rfl, rfl, h3, r3⟩ := trodAll_cons r2
  obtain ⟨v4, vs4, d4, ds4, p4, q4, rfl, rfl, rfl, h4, r4⟩ := trodAll_cons r3
  obtain ⟨v5, vs5, d5, ds5, p5, q5, rfl, rfl, rfl, h5, r5⟩ := trodAll_cons r4
  obtain ⟨rfl, rfl, rfl⟩ := trodAll_nil r5
  obtain rfl : args = #[v0, v1, v2, v3, v4, v5] := by cases args; simp_all
  obtain ⟨l0, m0, s0⟩ := keys_open (hval 0 43 v0 rfl rfl) h0
  obtain ⟨l1, m1, s1⟩ := deeds_open (hval 1 47 v1 rfl rfl) h1
  obtain ⟨a2, rfl, rfl, rfl, w2⟩ := open_int Tryd.underlying5 (hval 2 5 v2 rfl rfl) h2
  obtain ⟨a3, rfl, rfl, rfl, w3⟩ := open_int Tryd.underlying5 (hval 3 5 v3 rfl rfl) h3
  obtain ⟨a4, rfl, rfl, rfl, w4⟩ := open_int Tryd.underlying5 (hval 4 5 v4 rfl rfl) h4
  obtain ⟨l5, m5, s5⟩ := open_bytes Tryd.underlying25 Tryd.underlying5 (by kernel_rfl) (hval 5 25 v5 rfl rfl) h5
  have L0 := start_of_laid (by kernel_rfl) rfl (.head _) hL
  have L1 := numbers_of_laid (by kernel_rfl) rfl (.tail _ (.head _)) hL
  refine (Rets.calls (deedsNext_walk v0 l0 v1 l1 a2 a3 a4 v5 l5 (u8_of_wf w2) (u8_of_wf w3) (u8_of_wf w4) W m0 s0 m1 s1 s5 m5 L0 L1)).mono fun e W' he => ?_
  obtain ⟨_, rfl, rfl, hx⟩ := he
  exact ⟨_, rfl, law_post (t := 4) laidOut (by kernel_rfl) (by kernel_rfl) (by kernel_rfl) rfl (fun ds h => by
    rcases ds with _ | ⟨_, _ | ⟨_, _ | ⟨_, _ | ⟨_, _ | ⟨_, _ | ⟨_, _ | ⟨_, _⟩⟩⟩⟩⟩⟩⟩ <;> first | rfl | (exact absurd h (by decide)) | (simp at h)) hW' hx⟩

theorem holds : Rows.DeedsNextSaid :=
  OpenClaim.holds_of_wide 8 Tryd.f8 rfl rfl rfl rfl rfl rfl rfl ⟨rfl, rfl, rfl, rfl, rfl⟩ rfl rfl rfl rfl rfl (by kernel_rfl) Tryd.func8 (by kernel_rfl)
    (of_decide_eq_true (by kernel_rfl)) (by unfold Func.isWrapper; first | (rw [if_pos (by decide +kernel)]; kernel_rfl) | (rw [if_neg (by decide +kernel)]; exact ⟨rfl, rfl⟩))
    (fun os started H enc _ => lifted os started H enc)
theorem proved : Rows.DeedsNextCardSaid :=
  Claim7.holds_tied_plain_at .later [] [.data, .data] true (true, "b4bd5900933cd1c32d7ed6686b9c79531316ce8527525fd23780c777f75ab3e5") true
    holds (fun _ h => by cases h) (by kernel_rfl) (fun _ h => by cases h) deedsNext_row_tie rfl ⟨rfl, rfl⟩ (by kernel_rfl) rfl
    (fun f fn hf hfn => by
      obtain rfl : f = 8 := Option.some.inj ((show Tryd.prog.funcNamed Tryd.f8.name = some 8 by kernel_rfl).symm.trans hf) |>.symm
      obtain rfl : fn = Tryd.f8 := (Option.some.inj (Tryd.func8.symm.trans hfn)).symm
      exact ⟨by kernel_rfl, fun j t ht => by
        have hall : Tryd.f8.params.toList.all (fun t => !Tryd.prog.wantsStandIn t) = true := by kernel_rfl
        have hm : t ∈ Tryd.f8.params.toList := by
          obtain ⟨hj, rfl⟩ := Array.getElem?_eq_some_iff.1 ht
          simp
        have := List.all_eq_true.1 hall t hm
        exact (by simpa using this : Tryd.prog.wantsStandIn t = false)⟩)
    (by kernel_rfl)
#print axioms proved
end deedsNext
end Go.Proofs.YtpmpefkcmokoiaaDoor
