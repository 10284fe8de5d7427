/- Devices: the reference's Error, current. -/
import Derived.Test.YtamcgoplhnbmcaaDoorY04
import Derived.Test.YtamcgoplhnbmcaaDoorY05
set_option linter.unusedSimpArgs false
set_option linter.unusedVariables false
set_option linter.unusedSectionVars false
namespace Go.Dev
open Go.Rn Go.Rec Go.Best
def stepD (p t time : Int) (b : Option (Nat × Dev)) (i : Nat) (x : Dev) : Option (Nat × Dev) :=
  if x.person = p ∧ x.at_ ≤ t ∧ x.known ≤ time then (match b with
    | none => some (i, x)
    | some (k, y) => if y.at_ ≤ x.at_ then some (i, x) else some (k, y)) else b
theorem stepD_snd (p t time : Int) (b : Option (Nat × Dev)) (i : Nat) (x : Dev) : (stepD p t time b i x).map (·.2) = (if kd p time x then [x] else []).foldl (pickS Dev.at_ t) (b.map (·.2)) := by
  unfold stepD
  by_cases hk : kd p time x = true
  · have hk' := of_decide_eq_true hk
    rw [if_pos hk, List.foldl_cons, List.foldl_nil]
    unfold pickS
    by_cases ht : x.at_ ≤ t
    · rw [if_pos ⟨hk'.1, ht, hk'.2⟩, if_pos ht]
      cases b with
      | none => rfl
      | some y => obtain ⟨k, y⟩ := y; by_cases hc : y.at_ ≤ x.at_ <;> simp [hc]
    · rw [if_neg (by simp [ht]), if_neg ht]
  · rw [if_neg hk, List.foldl_nil, if_neg]
    rintro ⟨h1, h2, h3⟩
    exact hk (decide_eq_true ⟨h1, h3⟩)
theorem stepD_idx {p t time : Int} {b : Option (Nat × Dev)} {i : Nat} {x : Dev} {l : List Dev} (hb : ∀ k y, b = some (k, y) → l[k]? = some y) (hx : l[i]? = some x) : ∀ k y, stepD p t time b i x = some (k, y) → l[k]? = some y := by
  intro k y h
  unfold stepD at h
  split at h
  · cases b with
    | none => simp at h; obtain ⟨rfl, rfl⟩ := h; exact hx
    | some z =>
      obtain ⟨k', z⟩ := z
      simp only at h
      split at h <;> (simp at h; obtain ⟨rfl, rfl⟩ := h)
      · exact hx
      · exact hb _ _ rfl
  · exact hb k y h
def idxD (b : Option (Nat × Dev)) : Int := match b with
  | none => -1
  | some (k, _) => (k : Int)
/-- What current answers: nothing, if the last one is gone. -/
def curB : Option (Nat × Dev) → Option (Nat × Dev)
  | none => none
  | some (k, x) => if x.gone then none else some (k, x)
theorem curB_snd (b : Option (Nat × Dev)) : (curB b).map (·.2) = heldD (b.map (·.2)) := by
  cases b with
  | none => rfl
  | some z => obtain ⟨k, x⟩ := z; cases h : x.gone <;> simp [curB, heldD, h]
end Go.Dev
namespace Go.Sg
open Go.Rn Go.Proofs Go.Dev Go.Rec Go.Best
attribute [local irreducible] Go.Rn.RetsX Go.Rn.RunLN Go.Rn.AsyN Go.Rn.RunL Go.Rn.RunE Go.Rn.Asy Go.Rn.OpV Go.Rn.OpE Go.Rn.ExecE
set_option maxHeartbeats 2000000 in
theorem rerror48_ok (l : List Dev) (v : Value) (p t time : Int) (w : World) (hv : LD w v l) (hl : l.length < 9223372036854775808) :
    Rets Tryd.prog 72 [v, .int .i64 p, .int .i64 t, .int .i64 time] w fun r w' => r = .int .i64 (curE l p t time) ∧ Ext w w' := by
  refine RetsX.of (nt := 28) Tryd.func72 (by kernel_rfl) rfl rfl (by simp) (by simp only [argEnv]; rfl) ?_
  have X := ExtB.refl (fun _ => False) w
  repeat' (first | refine RunLN.int (by (first | exact wr_i64 (by omega) (by omega) | exact wm_i64 (by omega) | exact wq_i64 (by omega) (by omega) (by omega) | rfl)) ?_ | refine RunLN.any ?_ | refine RunL.ev Tryd.tOk rfl rfl rfl ?_ | refine RunE.seq ?_ | refine RunE.region ?_ | refine RunL.nil ?_)
  refine RunL.call rfl rfl rfl (rcheck48_ok l v _ (hv.up X) hl) ?_
  rintro _ _ ⟨rfl, Xa_⟩
  replace X := X.trans Xa_
  clear Xa_
  by_cases hc : chkD l = 0
  · have hE : curE l p t time = if argD p t time then 0 else 1 := if_pos hc
    rw [hc]
    by_cases ha : 0 ≤ p ∧ p < 64 ∧ 0 ≤ t ∧ t < 1099511627776 ∧ 0 ≤ time ∧ time < 1099511627776
    · have he : curE l p t time = 0 := by rw [hE, show argD p t time = true from decide_eq_true ha]; rfl
      repeat' (first | with_reducible refine RunLN.boolF rfl ?_ | (with_reducible refine RunLN.decT ?_ ?_; focus omega) | refine RunLN.int (by (first | exact wr_i64 (by omega) (by omega) | exact wm_i64 (by omega) | exact wq_i64 (by omega) (by omega) (by omega) | rfl)) ?_ | refine RunL.ev Tryd.tOk rfl rfl rfl ?_ | refine RunL.callN rfl rfl rfl (r48Person_ok _ _) ?_ | refine RunL.callN rfl rfl rfl (r48Time_ok _ _) ?_ | refine RunE.condF rfl rfl ?_ | refine RunE.seq ?_ | refine RunE.region ?_ | refine RunL.nil ?_ | refine RunE.skip ?_)
      all_goals first
        | (exfalso; omega)
        | exact RunE.retFn Tryd.func72 (.tmp rfl .nil) ⟨by rw [he]; rfl, X⟩
    · have he : curE l p t time = 1 := by rw [hE, show argD p t time = false from decide_eq_false ha]; rfl
      repeat' (first | with_reducible refine RunLN.boolT rfl ?_ | with_reducible refine RunLN.boolF rfl ?_ | (with_reducible refine RunLN.decF ?_ ?_; focus omega) | refine RunLN.int (by (first | exact wr_i64 (by omega) (by omega) | exact wm_i64 (by omega) | exact wq_i64 (by omega) (by omega) (by omega) | rfl)) ?_ | (refine RunLN.boolC (fun h_ => ?_) (fun h_ => ?_) <;> (try simp only [decide_eq_true_eq, decide_eq_false_iff_not, beq_iff_eq, bne_iff_ne, ne_eq, Bool.not_eq_true, Bool.not_eq_false, beq_eq_false_iff_ne, bne_eq_false_iff_eq, Bool.not_eq_eq_eq_not, Bool.not_true, Bool.not_false, Bool.not_not, Int.not_lt, Int.not_le, gt_iff_lt, ge_iff_le, Decidable.not_not] at h_)) | refine RunL.ev Tryd.tOk rfl rfl rfl ?_ | refine RunL.unwantedD rfl rfl ?_ | refine RunL.callN rfl rfl rfl (r48Person_ok _ _) ?_ | refine RunL.callN rfl rfl rfl (r48Time_ok _ _) ?_ | refine RunE.condT rfl rfl ?_ | refine RunE.condF rfl rfl ?_ | refine RunE.seq ?_ | refine RunE.region ?_ | refine RunL.nil ?_ | refine RunE.skip ?_)
      all_goals first
        | (exfalso; omega)
        | exact RunE.retFn Tryd.func72 (.tmp rfl .nil) ⟨by rw [he]; rfl, X⟩
  · have he : curE l p t time = chkD l := if_neg hc
    rw [← he] at hc ⊢
    repeat' (first | (with_reducible refine RunLN.neT ?_ ?_; focus omega) | refine RunLN.int (by (first | exact wr_i64 (by omega) (by omega) | exact wm_i64 (by omega) | exact wq_i64 (by omega) (by omega) (by omega) | rfl)) ?_ | refine RunL.ev Tryd.tOk rfl rfl rfl ?_ | refine RunE.condT rfl rfl ?_ | refine RunE.seq ?_ | refine RunE.region ?_ | refine RunL.nil ?_)
    exact RunE.retFn Tryd.func72 (.tmp rfl .nil) ⟨rfl, X⟩
set_option maxRecDepth 4000 in
set_option maxHeartbeats 4000000 in
theorem rcur48_ok (l : List Dev) (v : Value) (p t time : Int) (w : World) (hv : LD w v l) (hl : l.length < 9223372036854775808) :
    Rets Tryd.prog 73 [v, .int .i64 p, .int .i64 t, .int .i64 time] w fun r w' => (∃ b : Option (Nat × Dev), r = .int .i64 (idxD b) ∧ b.map (·.2) = heldD (bestD l p t time) ∧ ∀ k y, b = some (k, y) → l[k]? = some y) ∧ Ext w w' := by
  refine RetsX.of (nt := 70) Tryd.func73 (by kernel_rfl) rfl rfl (by simp) (by simp only [argEnv]; rfl) ?_
  have X := ExtB.refl (fun _ => False) w
  repeat' (first | refine RunLN.int (by (first | exact wr_i64 (by omega) (by omega) | exact wm_i64 (by omega) | exact wq_i64 (by omega) (by omega) (by omega) | rfl)) ?_ | refine RunL.ev Tryd.tOk rfl rfl rfl ?_ | refine RunE.seq ?_ | refine RunE.region ?_ | refine RunL.nil ?_ | refine RunE.block ?_)
  refine RunE.loop (ι := Nat × Option (Nat × Dev)) (fun x => [(0, v), (1, .int .i64 p), (2, .int .i64 t), (3, .int .i64 time), (9, .int .i64 (idxD x.2)), (10, .int .i64 (x.1 : Int))])
    (fun x w' => x.1 ≤ l.length ∧ x.2.map (·.2) = ((l.take x.1).filter (kd p time)).foldl (pickS Dev.at_ t) none ∧ (∀ k y, x.2 = some (k, y) → l[k]? = some y) ∧ Ext w w') (fun x => l.length - x.1) (0, none) (by repeat (first | exact Sub.nil _ | refine Sub.cons rfl ?_)) ⟨Nat.zero_le _, by simp, by simp, X⟩ ?_
  clear X
  rintro ⟨i, b⟩ w3 ⟨hi, hb, hk, X⟩ again
  simp only at hi hb hk again ⊢
  by_cases hlt : i < l.length
  · obtain ⟨blk, of, cap, rfl, hr, hc⟩ := isL_held hv hlt
    obtain ⟨x, hx⟩ : ∃ x, l[i]? = some x := ⟨_, List.getElem?_eq_getElem hlt⟩
    have hrx := flat_row encD hr hx
    have f1 := (filter_take (kd p time) hx).1
    have join := fun (s : Option (Nat × Dev)) (w' : World) (es : stepD p t time b i x = s ∧ Ext w w') => again (i + 1, s) w' (by simp only; omega)
      ⟨by simp only; omega, by simp only; rw [← es.1, stepD_snd, hb, f1, List.foldl_append], by rw [← es.1]; exact stepD_idx hk hx, es.2⟩
    clear again f1 hb
    repeat' (first | (with_reducible refine RunLN.decT ?_ ?_; focus omega) | refine RunLN.int (by (first | exact wr_i64 (by omega) (by omega) | exact wm_i64 (by omega) | exact wq_i64 (by omega) (by omega) (by omega) | rfl)) ?_ | refine RunLN.any ?_ | refine RunL.ev Tryd.tOk rfl rfl rfl ?_ | refine RunE.condT rfl rfl ?_ | refine RunE.seq ?_ | refine RunE.region ?_ | refine RunL.nil ?_ | refine RunE.block ?_ | refine RunE.skip ?_)
    refine RunE.draw (fun _ => False) mix ?_
    intro wd_ Xd_
    by_cases hkv : x.person = p ∧ x.at_ ≤ t ∧ x.known ≤ time
    · have e1 := hkv
      obtain ⟨hk1, hk2, hk3⟩ := hkv
      cases b with
      | none =>
        have es : stepD p t time none i x = some (i, x) := if_pos e1
        simp only [idxD]
        repeat' (first | with_reducible refine AsyN.boolT rfl ?_ | (with_reducible refine AsyN.decT ?_ ?_; focus omega) | (with_reducible refine AsyN.eqT ?_ ?_; focus omega) | refine AsyN.int (by (first | exact wr_i64 (by omega) (by omega) | exact wm_i64 (by omega) | exact wq_i64 (by omega) (by omega) (by omega) | rfl)) ?_ | refine AsyN.any ?_ | refine Asy.ev Tryd.tOk rfl rfl rfl ?_ | refine Asy.unwantedD rfl rfl rfl ?_ | refine Asy.evV rfl rfl rfl rfl (fun _ X_ => OpV.load1 Tryd.tOk rfl rfl rfl ((hrx.up (X.trans (Xd_.trans X_))) _ _ rfl)) ?_ | refine Asy.evV rfl rfl rfl rfl (fun _ X_ => OpV.indexS Tryd.tOk _ rfl rfl rfl rfl (by omega)) ?_)
        refine Asy.end_ (by kernel_rfl) ?_
        intro we_ Xe_
        replace X := X.trans (Xd_.trans Xe_)
        clear Xe_ Xd_
        repeat' (first | refine RunLN.int (by (first | exact wr_i64 (by omega) (by omega) | exact wm_i64 (by omega) | exact wq_i64 (by omega) (by omega) (by omega) | rfl)) ?_ | refine RunL.ev Tryd.tOk rfl rfl rfl ?_ | refine RunE.condT rfl rfl ?_ | refine RunE.region ?_ | refine RunL.nil ?_ | refine RunE.inBlock ?_)
        exact RunE.weaken (by repeat (first | exact Sub.nil _ | refine Sub.cons rfl ?_)) (join (some (i, x)) _ ⟨es, X⟩)
      | some z =>
        obtain ⟨k, y⟩ := z
        have hy := hk k y rfl
        have hkl : k < l.length := (List.getElem?_eq_some_iff.1 hy).1
        have hry := flat_row encD hr hy
        simp only [idxD]
        by_cases hya : y.at_ ≤ x.at_
        · have es : stepD p t time (some (k, y)) i x = some (i, x) := by unfold stepD; rw [if_pos e1]; exact if_pos hya
          repeat' (first | with_reducible refine AsyN.boolT rfl ?_ | with_reducible refine AsyN.boolF rfl ?_ | (with_reducible refine AsyN.decT ?_ ?_; focus omega) | (with_reducible refine AsyN.eqT ?_ ?_; focus omega) | refine AsyN.int (by (first | exact wr_i64 (by omega) (by omega) | exact wm_i64 (by omega) | exact wq_i64 (by omega) (by omega) (by omega) | rfl)) ?_ | refine AsyN.any ?_ | refine Asy.ev Tryd.tOk rfl rfl rfl ?_ | refine Asy.evV rfl rfl rfl rfl (fun _ X_ => OpV.load1 Tryd.tOk rfl rfl rfl ((hrx.up (X.trans (Xd_.trans X_))) _ _ rfl)) ?_ | refine Asy.evV rfl rfl rfl rfl (fun _ X_ => OpV.load1 Tryd.tOk rfl rfl rfl ((hry.up (X.trans (Xd_.trans X_))) _ _ rfl)) ?_ | refine Asy.evV rfl rfl rfl rfl (fun _ X_ => OpV.indexS Tryd.tOk _ rfl rfl rfl rfl (by omega)) ?_)
          refine Asy.end_ (by kernel_rfl) ?_
          intro we_ Xe_
          replace X := X.trans (Xd_.trans Xe_)
          clear Xe_ Xd_
          repeat' (first | refine RunLN.int (by (first | exact wr_i64 (by omega) (by omega) | exact wm_i64 (by omega) | exact wq_i64 (by omega) (by omega) (by omega) | rfl)) ?_ | refine RunL.ev Tryd.tOk rfl rfl rfl ?_ | refine RunE.condT rfl rfl ?_ | refine RunE.region ?_ | refine RunL.nil ?_ | refine RunE.inBlock ?_)
          exact RunE.weaken (by repeat (first | exact Sub.nil _ | refine Sub.cons rfl ?_)) (join (some (i, x)) _ ⟨es, X⟩)
        · have es : stepD p t time (some (k, y)) i x = some (k, y) := by unfold stepD; rw [if_pos e1]; exact if_neg hya
          repeat' (first | with_reducible refine AsyN.boolT rfl ?_ | with_reducible refine AsyN.boolF rfl ?_ | (with_reducible refine AsyN.decT ?_ ?_; focus omega) | (with_reducible refine AsyN.decF ?_ ?_; focus omega) | (with_reducible refine AsyN.eqT ?_ ?_; focus omega) | refine AsyN.int (by (first | exact wr_i64 (by omega) (by omega) | exact wm_i64 (by omega) | exact wq_i64 (by omega) (by omega) (by omega) | rfl)) ?_ | refine AsyN.any ?_ | refine Asy.ev Tryd.tOk rfl rfl rfl ?_ | refine Asy.evV rfl rfl rfl rfl (fun _ X_ => OpV.load1 Tryd.tOk rfl rfl rfl ((hrx.up (X.trans (Xd_.trans X_))) _ _ rfl)) ?_ | refine Asy.evV rfl rfl rfl rfl (fun _ X_ => OpV.load1 Tryd.tOk rfl rfl rfl ((hry.up (X.trans (Xd_.trans X_))) _ _ rfl)) ?_ | refine Asy.evV rfl rfl rfl rfl (fun _ X_ => OpV.indexS Tryd.tOk _ rfl rfl rfl rfl (by omega)) ?_)
          refine Asy.end_ (by kernel_rfl) ?_
          intro we_ Xe_
          replace X := X.trans (Xd_.trans Xe_)
          clear Xe_ Xd_
          repeat' (first | refine RunLN.int (by (first | exact wr_i64 (by omega) (by omega) | exact wm_i64 (by omega) | exact wq_i64 (by omega) (by omega) (by omega) | rfl)) ?_ | refine RunL.ev Tryd.tOk rfl rfl rfl ?_ | refine RunE.condF rfl rfl ?_ | refine RunE.region ?_ | refine RunL.nil ?_ | refine RunE.inBlock ?_ | refine RunE.skip ?_)
          exact RunE.weaken (by repeat (first | exact Sub.nil _ | refine Sub.cons rfl ?_)) (join (some (k, y)) _ ⟨es, X⟩)
    · have es : stepD p t time b i x = b := by unfold stepD; rw [if_neg hkv]
      by_cases hk1 : x.person = p
      · by_cases hk2 : x.at_ ≤ t
        · have hk3 : ¬ x.known ≤ time := fun h => hkv ⟨hk1, hk2, h⟩
          repeat' (first | with_reducible refine AsyN.boolT rfl ?_ | with_reducible refine AsyN.boolF rfl ?_ | (with_reducible refine AsyN.decT ?_ ?_; focus omega) | (with_reducible refine AsyN.decF ?_ ?_; focus omega) | (with_reducible refine AsyN.eqT ?_ ?_; focus omega) | refine AsyN.int (by (first | exact wr_i64 (by omega) (by omega) | exact wm_i64 (by omega) | exact wq_i64 (by omega) (by omega) (by omega) | rfl)) ?_ | refine AsyN.any ?_ | refine Asy.ev Tryd.tOk rfl rfl rfl ?_ | refine Asy.unwantedD rfl rfl rfl ?_ | refine Asy.evV rfl rfl rfl rfl (fun _ X_ => OpV.load1 Tryd.tOk rfl rfl rfl ((hrx.up (X.trans (Xd_.trans X_))) _ _ rfl)) ?_ | refine Asy.evV rfl rfl rfl rfl (fun _ X_ => OpV.indexS Tryd.tOk _ rfl rfl rfl rfl (by omega)) ?_)
          refine Asy.end_ (by kernel_rfl) ?_
          intro we_ Xe_
          replace X := X.trans (Xd_.trans Xe_)
          clear Xe_ Xd_
          repeat' (first | refine RunLN.int (by (first | exact wr_i64 (by omega) (by omega) | exact wm_i64 (by omega) | exact wq_i64 (by omega) (by omega) (by omega) | rfl)) ?_ | refine RunL.ev Tryd.tOk rfl rfl rfl ?_ | refine RunE.condF rfl rfl ?_ | refine RunE.region ?_ | refine RunL.nil ?_ | refine RunE.inBlock ?_ | refine RunE.skip ?_)
          exact RunE.weaken (by repeat (first | exact Sub.nil _ | refine Sub.cons rfl ?_)) (join b _ ⟨es, X⟩)
        · repeat' (first | with_reducible refine AsyN.boolT rfl ?_ | with_reducible refine AsyN.boolF rfl ?_ | (with_reducible refine AsyN.decF ?_ ?_; focus omega) | (with_reducible refine AsyN.eqT ?_ ?_; focus omega) | refine AsyN.int (by (first | exact wr_i64 (by omega) (by omega) | exact wm_i64 (by omega) | exact wq_i64 (by omega) (by omega) (by omega) | rfl)) ?_ | refine AsyN.any ?_ | refine Asy.ev Tryd.tOk rfl rfl rfl ?_ | refine Asy.unwantedD rfl rfl rfl ?_ | refine Asy.evV rfl rfl rfl rfl (fun _ X_ => OpV.load1 Tryd.tOk rfl rfl rfl ((hrx.up (X.trans (Xd_.trans X_))) _ _ rfl)) ?_ | refine Asy.evV rfl rfl rfl rfl (fun _ X_ => OpV.indexS Tryd.tOk _ rfl rfl rfl rfl (by omega)) ?_)
          refine Asy.end_ (by kernel_rfl) ?_
          intro we_ Xe_
          replace X := X.trans (Xd_.trans Xe_)
          clear Xe_ Xd_
          repeat' (first | refine RunLN.int (by (first | exact wr_i64 (by omega) (by omega) | exact wm_i64 (by omega) | exact wq_i64 (by omega) (by omega) (by omega) | rfl)) ?_ | refine RunL.ev Tryd.tOk rfl rfl rfl ?_ | refine RunE.condF rfl rfl ?_ | refine RunE.region ?_ | refine RunL.nil ?_ | refine RunE.inBlock ?_ | refine RunE.skip ?_)
          exact RunE.weaken (by repeat (first | exact Sub.nil _ | refine Sub.cons rfl ?_)) (join b _ ⟨es, X⟩)
      · repeat' (first | with_reducible refine AsyN.boolF rfl ?_ | (with_reducible refine AsyN.eqF ?_ ?_; focus omega) | refine AsyN.int (by (first | exact wr_i64 (by omega) (by omega) | exact wm_i64 (by omega) | exact wq_i64 (by omega) (by omega) (by omega) | rfl)) ?_ | refine AsyN.any ?_ | refine Asy.ev Tryd.tOk rfl rfl rfl ?_ | refine Asy.unwantedD rfl rfl rfl ?_ | refine Asy.evV rfl rfl rfl rfl (fun _ X_ => OpV.load1 Tryd.tOk rfl rfl rfl ((hrx.up (X.trans (Xd_.trans X_))) _ _ rfl)) ?_ | refine Asy.evV rfl rfl rfl rfl (fun _ X_ => OpV.indexS Tryd.tOk _ rfl rfl rfl rfl (by omega)) ?_)
        refine Asy.end_ (by kernel_rfl) ?_
        intro we_ Xe_
        replace X := X.trans (Xd_.trans Xe_)
        clear Xe_ Xd_
        repeat' (first | refine RunLN.int (by (first | exact wr_i64 (by omega) (by omega) | exact wm_i64 (by omega) | exact wq_i64 (by omega) (by omega) (by omega) | rfl)) ?_ | refine RunL.ev Tryd.tOk rfl rfl rfl ?_ | refine RunE.condF rfl rfl ?_ | refine RunE.region ?_ | refine RunL.nil ?_ | refine RunE.inBlock ?_ | refine RunE.skip ?_)
        exact RunE.weaken (by repeat (first | exact Sub.nil _ | refine Sub.cons rfl ?_)) (join b _ ⟨es, X⟩)
  · obtain rfl : i = l.length := by omega
    rw [List.take_length] at hb
    replace hb : b.map (·.2) = bestD l p t time := hb
    clear again
    cases b with
    | none =>
      simp only [idxD]
      repeat' (first | with_reducible refine RunLN.boolF rfl ?_ | (with_reducible refine RunLN.decF ?_ ?_; focus omega) | refine RunLN.int (by (first | exact wr_i64 (by omega) (by omega) | exact wm_i64 (by omega) | exact wq_i64 (by omega) (by omega) (by omega) | rfl)) ?_ | refine RunLN.any ?_ | refine RunL.ev Tryd.tOk rfl rfl rfl ?_ | refine RunL.unwantedD rfl rfl ?_ | refine RunL.evV rfl rfl rfl (OpV.lenSl Tryd.tOk rfl rfl hv) ?_ | refine RunE.condF rfl rfl ?_ | refine RunE.seq ?_ | refine RunE.region ?_ | refine RunL.nil ?_ | refine RunE.skip ?_ | refine RunE.exit rfl ?_)
      exact RunE.retFn Tryd.func73 (.tmp rfl .nil) ⟨⟨none, rfl, by rw [← hb]; rfl, by simp⟩, X⟩
    | some z =>
      obtain ⟨k, y⟩ := z
      have hy := hk k y rfl
      have hkl : k < l.length := (List.getElem?_eq_some_iff.1 hy).1
      obtain ⟨blk, of, cap, rfl, hr, hc⟩ := isL_held hv hkl
      have hry := flat_row encD hr hy
      simp only [idxD]
      obtain ⟨no, at_, known, person, key, gone⟩ := y
      cases gone with
      | true =>
        repeat' (first | with_reducible refine RunLN.boolT rfl ?_ | (with_reducible refine RunLN.decF ?_ ?_; focus omega) | refine RunLN.int (by (first | exact wr_i64 (by omega) (by omega) | exact wm_i64 (by omega) | exact wq_i64 (by omega) (by omega) (by omega) | rfl)) ?_ | refine RunLN.any ?_ | refine RunL.ev Tryd.tOk rfl rfl rfl ?_ | refine RunL.evV rfl rfl rfl (OpV.load1 Tryd.tOk rfl rfl rfl ((hry.up X) _ _ rfl)) ?_ | refine RunL.evV rfl rfl rfl (OpV.indexS Tryd.tOk _ rfl rfl rfl rfl (by omega)) ?_ | refine RunE.condT rfl rfl ?_ | refine RunE.condF rfl rfl ?_ | refine RunE.seq ?_ | refine RunE.region ?_ | refine RunL.nil ?_ | refine RunE.exit rfl ?_)
        exact RunE.retFn Tryd.func73 (.tmp rfl .nil) ⟨⟨none, rfl, by rw [← hb]; rfl, by simp⟩, X⟩
      | false =>
        repeat' (first | with_reducible refine RunLN.boolT rfl ?_ | with_reducible refine RunLN.boolF rfl ?_ | (with_reducible refine RunLN.decF ?_ ?_; focus omega) | refine RunLN.int (by (first | exact wr_i64 (by omega) (by omega) | exact wm_i64 (by omega) | exact wq_i64 (by omega) (by omega) (by omega) | rfl)) ?_ | refine RunLN.any ?_ | refine RunL.ev Tryd.tOk rfl rfl rfl ?_ | refine RunL.evV rfl rfl rfl (OpV.load1 Tryd.tOk rfl rfl rfl ((hry.up X) _ _ rfl)) ?_ | refine RunL.evV rfl rfl rfl (OpV.indexS Tryd.tOk _ rfl rfl rfl rfl (by omega)) ?_ | refine RunE.condF rfl rfl ?_ | refine RunE.seq ?_ | refine RunE.region ?_ | refine RunL.nil ?_ | refine RunE.skip ?_ | refine RunE.exit rfl ?_)
        exact RunE.retFn Tryd.func73 (.tmp rfl .nil) ⟨⟨some (k, ⟨no, at_, known, person, key, false⟩), rfl, by rw [← hb]; rfl, hk⟩, X⟩
end Go.Sg
