/- Parts of this project: OffS, Off1, Off7, Off8, OffA, SortS, OffB, Off9, OffC. -/
import Derived.Test.YtlchncheagigpaaGreatDoorTu02
import Derived.Test.YtlchncheagigpaaGreatDoorTu03
import Derived.Shelf.SlSortCmp.NoneTotal
set_option maxHeartbeats 32000000
set_option linter.unusedSimpArgs false
set_option linter.unusedVariables false
set_option linter.unusedSectionVars false
section
set_option maxRecDepth 4000
namespace Go.Off
open Go.Best Go.Rn
structure Ap where
 no : Int
 at_ : Int
 known : Int
 office : Int
 person : Int
 weight : Int
 gone : Bool
deriving DecidableEq, Inhabited
structure Hold where
 person : Int
 weight : Int
deriving DecidableEq
def rightA (x : Ap) : Bool := decide (0 ≤ x.no ∧ x.no ≤ 1048576 ∧ 0 ≤ x.at_ ∧ x.at_ < 1099511627776 ∧ 0 ≤ x.known ∧ x.known < 1099511627776 ∧ 0 ≤ x.office ∧ x.office < 32 ∧ 0 ≤ x.person ∧ x.person < 64 ∧ (x.gone = true → x.weight = 0) ∧ (x.gone = false → 1 ≤ x.weight ∧ x.weight ≤ 64))
abbrev SrtA := Srt Ap.no
abbrev chkA (l : List Ap) : Int := chk Ap.no rightA 4096 150 l
def ko (o p time : Int) (x : Ap) : Bool := decide (x.office = o ∧ x.person = p ∧ x.known ≤ time)
def best (l : List Ap) (o p t time : Int) : Option Ap := bst Ap.at_ (l.filter (ko o p time)) t
def held : Option Ap → Option Ap
 | none => none
 | some x => if x.gone then none else some x
def answer : Option Ap → Int × Int × Bool
 | none => (0, 0, false)
 | some x => (x.no, x.weight, true)
def argO (o : Int) : Bool := decide (0 ≤ o ∧ o < 32)
def argP (p : Int) : Bool := decide (0 ≤ p ∧ p < 64)
def argT (t : Int) : Bool := decide (0 ≤ t ∧ t < 1099511627776)
def holdE (l : List Ap) (o p t time : Int) : Int := if chkA l = 0 then (if argO o && argP p && argT t && argT time then 0 else 1) else chkA l
def holdV (l : List Ap) (o p t time : Int) : Int × Int × Bool := if holdE l o p t time = 0 then answer (held (best l o p t time)) else (0, 0, false)
def hsE (l : List Ap) (o t time : Int) : Int := if chkA l = 0 then (if argO o && argT t && argT time then 0 else 1) else chkA l
def hsUpto (l : List Ap) (o t time : Int) (n : Nat) : List Hold := (List.range n).filterMap fun p : Nat => (held (best l o (p : Int) t time)).map fun x => ⟨(p : Int), x.weight⟩
def hsL (l : List Ap) (o t time : Int) : List Hold := if hsE l o t time = 0 then hsUpto l o t time 64 else []
def counts (t time : Int) (x : Ap) : Bool := decide (x.at_ ≤ t ∧ x.known ≤ time)
abbrev Seat := Int × Int
def later : Option Ap → Ap → Bool
 | none, _ => false
 | some y, x => decide (x.at_ < y.at_)
def stepM (t time : Int) (m : List (Seat × Ap)) (x : Ap) : List (Seat × Ap) :=
 if counts t time x && !later (getM (x.office, x.person) m) x then setM (x.office, x.person) x m else m
def standing (l : List Ap) (t time : Int) : List (Seat × Ap) := l.foldl (stepM t time) []
theorem standing_get_aux (t time : Int) (o p : Int) : ∀ (l : List Ap) (m : List (Seat × Ap)), getM (o, p) (l.foldl (stepM t time) m) = (l.filter (ko o p time)).foldl (pickS Ap.at_ t) (getM (o, p) m)
 | [], m => rfl
 | x :: l, m => by
  rw [List.foldl_cons, standing_get_aux t time o p l, List.filter_cons]
  by_cases hk : ko o p time x
  ·rw [if_pos hk, List.foldl_cons]
   congr 1
   have hk := of_decide_eq_true hk
   obtain ⟨rfl, rfl, hk3⟩ := hk
   unfold stepM counts pickS
   by_cases ht : x.at_ ≤ t
   ·rw [if_pos ht, decide_eq_true ⟨ht, hk3⟩, Bool.true_and]
    cases hg : getM (x.office, x.person) m with
    | none => simp [later, getM_set]
    | some y =>
     simp only [later]
     by_cases hy : y.at_ ≤ x.at_
     ·have h1 : ¬ x.at_ < y.at_ := by omega
      simp [hy, h1, getM_set]
     ·have h1 : x.at_ < y.at_ := by omega
      simp [hy, h1, hg]
   ·rw [if_neg ht, decide_eq_false (fun h => ht h.1)]; simp
  ·rw [if_neg hk]
   congr 1
   unfold stepM
   split
   ·rename_i hc
    rw [Bool.and_eq_true] at hc
    have hc1 := of_decide_eq_true hc.1
    rw [getM_set, if_neg]
    intro e
    injection e with e1 e2
    exact hk (decide_eq_true ⟨e1.symm, e2.symm, hc1.2⟩)
   ·rfl
theorem standing_get (l : List Ap) (t time o p : Int) : getM (o, p) (standing l t time) = best l o p t time := standing_get_aux t time o p l []
theorem standing_nodup (l : List Ap) (t time : Int) : ((standing l t time).map (·.1)).Nodup := by
 unfold standing
 suffices h : ∀ (l : List Ap) (m : List (Seat × Ap)), (m.map (·.1)).Nodup → ((l.foldl (stepM t time) m).map (·.1)).Nodup from h l [] List.nodup_nil
 intro l
 induction l with
 | nil => exact fun m h => h
 | cons x l ih =>
  intro m h
  rw [List.foldl_cons]
  refine ih _ ?_
  unfold stepM
  split
  ·exact setM_nodup h
  ·exact h
theorem standing_length (l : List Ap) (t time : Int) : (standing l t time).length ≤ l.length := by
 unfold standing
 suffices h : ∀ (l : List Ap) (m : List (Seat × Ap)), (l.foldl (stepM t time) m).length ≤ m.length + l.length by simpa using h l []
 intro l
 induction l with
 | nil => exact fun m => Nat.le_refl _
 | cons x l ih =>
  intro m
  rw [List.foldl_cons, List.length_cons]
  have h1 := ih (stepM t time m x)
  have h2 : (stepM t time m x).length ≤ m.length + 1 := by
   unfold stepM
   split
   ·have := congrArg List.length (setM_keys (x.office, x.person) x m)
    split at this <;> simp at this <;> omega
   ·omega
  omega
theorem rightA_inv {x : Ap} (h : rightA x = true) : 0 ≤ x.no ∧ 0 ≤ x.office ∧ x.office < 32 ∧ 0 ≤ x.person ∧ x.person < 64 := by
 unfold rightA at h; have := of_decide_eq_true h; omega
theorem chkA_ok {l : List Ap} : chkA l = 0 ↔ l.length ≤ 4096 ∧ good Ap.no rightA (-1) l = true := chk_ok (by decide)
theorem chkA_srt {l : List Ap} (h : chkA l = 0) : SrtA l ∧ ∀ x ∈ l, rightA x = true := by
 obtain ⟨h1, h2⟩ := good_srt (chkA_ok.1 h).2; exact ⟨h1, fun x hx => (h2 x hx).2⟩
theorem best_mem {l : List Ap} (hs : SrtA l) {o p t time : Int} {x : Ap} (h : best l o p t time = some x) : x ∈ l ∧ x.office = o ∧ x.person = p ∧ x.known ≤ time ∧ x.at_ ≤ t := by
 obtain ⟨h1, h2⟩ := bst_mem (no := Ap.no) (hs.filter _) h
 obtain ⟨h3, h4⟩ := List.mem_filter.1 h1
 have h4 := of_decide_eq_true h4
 exact ⟨h3, h4.1, h4.2.1, h4.2.2, h2⟩
theorem hsUpto_succ (l : List Ap) (o t time : Int) (n : Nat) : hsUpto l o t time (n + 1) = hsUpto l o t time n ++ ((held (best l o (n : Int) t time)).map fun x => (⟨(n : Int), x.weight⟩ : Hold)).toList := by
 unfold hsUpto
 rw [List.range_succ, List.filterMap_append, List.filterMap_cons]
 cases (held (best l o (n : Int) t time)) <;> simp
theorem hsUpto_mem {l : List Ap} {o t time : Int} {n : Nat} {h : Hold} : h ∈ hsUpto l o t time n ↔ ∃ x, 0 ≤ h.person ∧ h.person < n ∧ held (best l o h.person t time) = some x ∧ h.weight = x.weight := by
 unfold hsUpto
 rw [List.mem_filterMap]
 constructor
 ·rintro ⟨p, hp, h1⟩
  obtain ⟨x, hx, rfl⟩ := Option.map_eq_some_iff.1 h1
  have := List.mem_range.1 hp
  exact ⟨x, by simp only; omega, by simp only; omega, hx, rfl⟩
 ·rintro ⟨x, h1, h2, h3, h4⟩
  obtain ⟨p, hp⟩ := Int.eq_ofNat_of_zero_le h1
  refine ⟨p, List.mem_range.2 (by omega), ?_⟩
  rw [← hp, h3, Option.map_some]
  obtain ⟨a, b⟩ := h
  simp only at h4 ⊢; rw [h4]
theorem hsUpto_srt (l : List Ap) (o t time : Int) : ∀ n, Srt Hold.person (hsUpto l o t time n)
 | 0 => List.Pairwise.nil
 | n + 1 => by
  rw [hsUpto_succ]
  refine List.pairwise_append.2 ⟨hsUpto_srt l o t time n, ?_, fun a ha b hb => ?_⟩
  ·cases held (best l o (n : Int) t time) <;> simp
  ·obtain ⟨x, h1, h2, -⟩ := hsUpto_mem.1 ha
   cases h : held (best l o (n : Int) t time) with
   | none => rw [h] at hb; simp at hb
   | some y => rw [h] at hb; simp at hb; subst hb; simp only; omega
theorem hsUpto_length (l : List Ap) (o t time : Int) (n : Nat) : (hsUpto l o t time n).length ≤ n := by
 unfold hsUpto
 have := List.length_filterMap_le (fun p : Nat => (held (best l o (p : Int) t time)).map fun x => (⟨(p : Int), x.weight⟩ : Hold)) (List.range n)
 rwa [List.length_range] at this
def pickH (m : List (Seat × Ap)) (o : Int) (s : Seat) : Option Hold := if s.1 = o then (held (getM s m)).map fun x => ⟨x.person, x.weight⟩ else none
theorem holders_eq {l : List Ap} (hc : chkA l = 0) (o t time : Int) {ss : List Seat} (hp : ss.Perm ((standing l t time).map (·.1))) (hs : ss.Pairwise fun a b => ¬ b.2 < a.2) :
  ss.filterMap (pickH (standing l t time) o) = hsUpto l o t time 64 := by
 obtain ⟨hsl, hr⟩ := chkA_srt hc
 have hnd : ss.Nodup := hp.nodup_iff.2 (standing_nodup l t time)
 have hpk : ∀ s h, pickH (standing l t time) o s = some h → s.1 = o ∧ ∃ x, held (best l s.1 s.2 t time) = some x ∧ best l s.1 s.2 t time = some x ∧ h = ⟨x.person, x.weight⟩ ∧ x.person = s.2 ∧ x ∈ l := by
  intro s h hh
  unfold pickH at hh
  split at hh
  ·rename_i h1
   obtain ⟨x, hx, rfl⟩ := Option.map_eq_some_iff.1 hh
   have hx2 := hx
   rw [show s = (s.1, s.2) from rfl, standing_get] at hx2
   have hb : best l s.1 s.2 t time = some x := by
    unfold held at hx2
    split at hx2
    ·simp at hx2
    ·rename_i y hy
     split at hx2
     ·simp at hx2
     ·rw [hy]; exact hx2
   have := best_mem hsl hb
   exact ⟨h1, x, hx2, hb, rfl, this.2.2.1, this.1⟩
  ·simp at hh
 refine srt_ext (no := Hold.person) ?_ (hsUpto_srt l o t time 64) fun h => ?_
 ·-- sorted
  refine List.Pairwise.filterMap (R := fun a b : Seat => a ≠ b ∧ ¬ b.2 < a.2) _ ?_ (List.pairwise_and_iff.2 ⟨hnd, hs⟩)
  intro a b hab u hu v hv
  obtain ⟨a1, x, -, -, rfl, a3, -⟩ := hpk a u hu
  obtain ⟨b1, y, -, -, rfl, b3, -⟩ := hpk b v hv
  simp only
  have : a.2 ≠ b.2 := fun e => hab.1 (Prod.ext (by rw [a1, b1]) e)
  have := hab.2
  omega
 ·rw [List.mem_filterMap, hsUpto_mem]
  constructor
  ·rintro ⟨s, hs1, hs2⟩
   obtain ⟨h1, x, h2, h3, rfl, h5, h6⟩ := hpk s h hs2
   have := rightA_inv (hr x h6)
   refine ⟨x, by simp only; omega, by simp only; omega, ?_, rfl⟩
   simp only
   rw [h5, ← h1]; exact h2
  ·rintro ⟨x, h1, h2, h3, h4⟩
   have hb : best l o h.person t time = some x := by
    unfold held at h3
    split at h3
    ·simp at h3
    ·rename_i y hy
     split at h3
     ·simp at h3
     ·rw [hy]; exact h3
   refine ⟨(o, h.person), ?_, ?_⟩
   ·rw [hp.mem_iff, ← getM_isSome, standing_get, hb]; rfl
   ·unfold pickH
    rw [if_pos rfl, standing_get, h3, Option.map_some]
    have := best_mem hsl hb
    obtain ⟨a, b⟩ := h
    simp only at this h4 ⊢
    rw [h4, this.2.2.1]
end Go.Off
end
section
set_option maxRecDepth 4000
namespace Go.Off
open Go.Rn Go.Rec
@[reducible] def Ap.cells (x : Ap) : List Value := [.int .i64 x.no, .int .i64 x.at_, .int .i64 x.known, .int .i64 x.office, .int .i64 x.person, .int .i64 x.weight, .bool x.gone]
theorem encA : EncOk Ap.cells 7 := ⟨fun _ => rfl, fun _ => rfl, by decide⟩
abbrev LA (w : World) (v : Value) (l : List Ap) : Prop := IsL w Ap.cells 7 v l
def zeroP : Ap := ⟨0, 0, 0, 0, 0, 0, false⟩
end Go.Off
namespace Go.Sg
open Go.Rn Go.Proofs Go.Off Go.Rec Go.Best
attribute [local irreducible] Go.Rn.RunLN Go.Rn.AsyN Go.Rn.RunL Go.Rn.RunE Go.Rn.Asy Go.Rn.OpV Go.Rn.OpE Go.Rn.ExecE

theorem owithin_ok (n lo hi : Int) (w : World) : Rets Tryz.prog 106 [.int .i64 n, .int .i64 lo, .int .i64 hi] w fun v w' => v = .bool (decide (lo ≤ n ∧ n ≤ hi)) ∧ w = w' := by
 refine RetsX.of (nt := 15) Tryz.func106 (by kernel_rfl) rfl rfl (by simp) (by simp only [argEnv]; rfl) ?_
 repeat' (first | with_reducible refine RunLN.boolT rfl ?_ | with_reducible refine RunLN.boolF rfl ?_ | refine RunLN.int (by (first | exact wr_i64 (by omega) (by omega) | exact wm_i64 (by omega) | exact wq_i64 (by omega) (by omega) (by omega) | rfl)) ?_ | (refine RunLN.boolC (fun h_ => ?_) (fun h_ => ?_) <;> (try simp only [decide_eq_true_eq, decide_eq_false_iff_not, beq_iff_eq, bne_iff_ne, ne_eq, Bool.not_eq_true, Bool.not_eq_false, beq_eq_false_iff_ne, bne_eq_false_iff_eq, Bool.not_eq_eq_eq_not, Bool.not_true, Bool.not_false, Bool.not_not, Int.not_lt, Int.not_le, gt_iff_lt, ge_iff_le, Decidable.not_not] at h_)) | refine RunL.ev Tryz.tOk rfl rfl rfl ?_ | refine RunL.unwantedD rfl rfl ?_ | refine RunE.seq ?_ | refine RunE.region ?_ | refine RunL.nil ?_)
 all_goals
  refine RunE.retFn Tryz.func106 (.tmp rfl .nil) ⟨?_, rfl⟩
  simp only [oneOr]
  congr 1
  first | exact (decide_eq_true (by omega)).symm | exact (decide_eq_false (by omega)).symm
theorem oisTime_ok (n : Int) (w : World) : Rets Tryz.prog 107 [.int .i64 n] w fun v w' => v = .bool (argT n) ∧ w = w' := by
 refine RetsX.of (nt := 5) Tryz.func107 (by kernel_rfl) rfl rfl (by simp) (by simp only [argEnv]; rfl) ?_
 repeat' (first | with_reducible refine RunLN.boolF rfl ?_ | refine RunLN.int (by (first | exact wr_i64 (by omega) (by omega) | exact wm_i64 (by omega) | exact wq_i64 (by omega) (by omega) (by omega) | rfl)) ?_ | refine RunLN.any ?_ | refine RunL.ev Tryz.tOk rfl rfl rfl ?_ | refine RunL.callN rfl rfl rfl (owithin_ok _ _ _ _) ?_ | refine RunE.seq ?_ | refine RunE.region ?_ | refine RunL.nil ?_)
 refine RunE.retFn Tryz.func107 (.tmp rfl .nil) ⟨?_, rfl⟩
 simp only [oneOr, argT]
 congr 1
 rw [Bool.eq_iff_iff, decide_eq_true_eq, decide_eq_true_eq]
 omega
theorem oisOffice_ok (n : Int) (w : World) : Rets Tryz.prog 108 [.int .i64 n] w fun v w' => v = .bool (argO n) ∧ w = w' := by
 refine RetsX.of (nt := 5) Tryz.func108 (by kernel_rfl) rfl rfl (by simp) (by simp only [argEnv]; rfl) ?_
 repeat' (first | with_reducible refine RunLN.boolF rfl ?_ | refine RunLN.int (by (first | exact wr_i64 (by omega) (by omega) | exact wm_i64 (by omega) | exact wq_i64 (by omega) (by omega) (by omega) | rfl)) ?_ | refine RunLN.any ?_ | refine RunL.ev Tryz.tOk rfl rfl rfl ?_ | refine RunL.callN rfl rfl rfl (owithin_ok _ _ _ _) ?_ | refine RunE.seq ?_ | refine RunE.region ?_ | refine RunL.nil ?_)
 refine RunE.retFn Tryz.func108 (.tmp rfl .nil) ⟨?_, rfl⟩
 simp only [oneOr, argO]
 congr 1
 rw [Bool.eq_iff_iff, decide_eq_true_eq, decide_eq_true_eq]
 omega
theorem oisPerson_ok (n : Int) (w : World) : Rets Tryz.prog 109 [.int .i64 n] w fun v w' => v = .bool (argP n) ∧ w = w' := by
 refine RetsX.of (nt := 5) Tryz.func109 (by kernel_rfl) rfl rfl (by simp) (by simp only [argEnv]; rfl) ?_
 repeat' (first | with_reducible refine RunLN.boolF rfl ?_ | refine RunLN.int (by (first | exact wr_i64 (by omega) (by omega) | exact wm_i64 (by omega) | exact wq_i64 (by omega) (by omega) (by omega) | rfl)) ?_ | refine RunLN.any ?_ | refine RunL.ev Tryz.tOk rfl rfl rfl ?_ | refine RunL.callN rfl rfl rfl (owithin_ok _ _ _ _) ?_ | refine RunE.seq ?_ | refine RunE.region ?_ | refine RunL.nil ?_)
 refine RunE.retFn Tryz.func109 (.tmp rfl .nil) ⟨?_, rfl⟩
 simp only [oneOr, argP]
 congr 1
 rw [Bool.eq_iff_iff, decide_eq_true_eq, decide_eq_true_eq]
 omega
set_option maxRecDepth 4000 in
theorem oright_ok (x : Ap) (w : World) : Rets Tryz.prog 66 [.agg x.cells.toArray] w fun v w' => v = .bool (rightA x) ∧ Ext w w' := by
 obtain ⟨no, at_, known, office, person, weight, gone⟩ := x
 refine RetsX.of (nt := 37) Tryz.func66 (by kernel_rfl) rfl rfl (by simp) (by simp only [argEnv]; rfl) ?_
 have X := ExtB.refl (fun _ => False) w
 repeat' (first | refine RunE.seq ?_ | refine RunE.region ?_)
 refine RunL.box rfl rfl rfl fun B1 w1_ a_ => ?_
 have Z1 : Blk w1_ B1 (Ap.cells ⟨no, at_, known, office, person, weight, gone⟩) 131 := a_.at_
 have gB1 := a_.ge X
 replace X := X.trans a_.ext
 clear a_
 unfold rightA
 cases gone <;> simp only [Ap.cells, Bool.false_eq_true, Bool.true_eq_false, reduceCtorEq, false_implies, true_implies, and_true, true_and] at Z1 ⊢
 all_goals
  repeat' (first | with_reducible refine RunLN.boolT rfl ?_ | with_reducible refine RunLN.boolF rfl ?_ | refine RunLN.int (by (first | exact wr_i64 (by omega) (by omega) | exact wm_i64 (by omega) | exact wq_i64 (by omega) (by omega) (by omega) | rfl)) ?_ | (refine RunLN.boolC (fun h_ => ?_) (fun h_ => ?_) <;> (try simp only [decide_eq_true_eq, decide_eq_false_iff_not, beq_iff_eq, bne_iff_ne, ne_eq, Bool.not_eq_true, Bool.not_eq_false, beq_eq_false_iff_ne, bne_eq_false_iff_eq, Bool.not_eq_eq_eq_not, Bool.not_true, Bool.not_false, Bool.not_not, Int.not_lt, Int.not_le, gt_iff_lt, ge_iff_le, Decidable.not_not] at h_)) | refine RunLN.any ?_ | refine RunL.ev Tryz.tOk rfl rfl rfl ?_ | refine RunL.unwantedD rfl rfl ?_ | refine RunL.evV rfl rfl rfl (OpV.load1 Tryz.tOk rfl rfl rfl (Blk.cell Z1 rfl)) ?_ | refine RunL.callN rfl rfl rfl (owithin_ok _ _ _ _) ?_ | refine RunL.callN rfl rfl rfl (oisTime_ok _ _) ?_ | refine RunL.callN rfl rfl rfl (oisOffice_ok _ _) ?_ | refine RunL.callN rfl rfl rfl (oisPerson_ok _ _) ?_ | refine RunE.condT rfl rfl ?_ | refine RunE.condF rfl rfl ?_ | refine RunE.seq ?_ | refine RunE.region ?_ | refine RunL.nil ?_ | refine RunE.skip ?_)
 all_goals
  refine RunE.retFn Tryz.func66 (.tmp rfl .nil) ⟨?_, X⟩
  simp only [oneOr]
  congr 1
  (try simp only [argT, argO, argP, decide_eq_true_eq, decide_eq_false_iff_not] at *)
  first | exact (decide_eq_true (by omega)).symm | exact (decide_eq_false (by omega)).symm
theorem ocheck_ok (l : List Ap) (v : Value) (w : World) (hv : LA w v l) (hl : l.length < 9223372036854775808) : Rets Tryz.prog 30 [v] w fun r w' => r = .int .i64 (chkA l) ∧ Ext w w' := by
 refine RetsX.of (nt := 27) Tryz.func30 (by kernel_rfl) rfl rfl (by simp) (by simp only [argEnv]; rfl) ?_
 have X := ExtB.refl (fun _ => False) w
 repeat' (first | refine RunLN.int (by (first | exact wr_i64 (by omega) (by omega) | exact wm_i64 (by omega) | exact wq_i64 (by omega) (by omega) (by omega) | rfl)) ?_ | (refine RunLN.boolC (fun h_ => ?_) (fun h_ => ?_) <;> (try simp only [decide_eq_true_eq, decide_eq_false_iff_not, beq_iff_eq, bne_iff_ne, ne_eq, Bool.not_eq_true, Bool.not_eq_false, beq_eq_false_iff_ne, bne_eq_false_iff_eq, Bool.not_eq_eq_eq_not, Bool.not_true, Bool.not_false, Bool.not_not, Int.not_lt, Int.not_le, gt_iff_lt, ge_iff_le, Decidable.not_not] at h_)) | refine RunLN.any ?_ | refine RunL.ev Tryz.tOk rfl rfl rfl ?_ | refine RunL.evV rfl rfl rfl (OpV.lenSl Tryz.tOk rfl rfl hv) ?_ | refine RunE.condT rfl rfl ?_ | refine RunE.condF rfl rfl ?_ | refine RunE.seq ?_ | refine RunE.region ?_ | refine RunL.nil ?_ | refine RunE.block ?_ | refine RunE.skip ?_)
 ·exact RunE.retFn Tryz.func30 (.tmp rfl .nil) ⟨by simp only [oneOr]; unfold chkA Best.chk; rw [if_pos (by omega)], X⟩
 skip
 refine RunE.loop (ι := Nat × Int) (fun x => [(9, v), (10, .int .i64 (l.length : Int)), (3, .int .i64 x.2), (11, .int .i64 (x.1 : Int))])
  (fun x w' => x.1 ≤ l.length ∧ good Ap.no rightA x.2 (l.drop x.1) = good Ap.no rightA (-1) l ∧ Ext w w') (fun x => l.length - x.1) (0, -1) sb_ ⟨Nat.zero_le _, rfl, X⟩ ?_
 clear X
 rintro ⟨i, last⟩ w3 ⟨hi, hg, X⟩ again
 simp only at hi hg again ⊢
 by_cases hlt : i < l.length
 ·obtain ⟨b, o, cap, rfl, hr, hc⟩ := isL_held hv hlt
  obtain ⟨x, hx⟩ : ∃ x, l[i]? = some x := ⟨_, List.getElem?_eq_getElem hlt⟩
  have hrx := flat_row encA hr hx
  have hd : l.drop i = x :: l.drop (i + 1) := by
   obtain ⟨hi, e⟩ := List.getElem?_eq_some_iff.1 hx
   rw [List.drop_eq_getElem_cons hi, e]
  rw [hd] at hg
  simp only [good] at hg
  repeat' (first | (with_reducible refine RunLN.decT ?_ ?_; focus omega) | refine RunLN.any ?_ | refine RunL.ev Tryz.tOk rfl rfl rfl ?_ | refine RunL.evV rfl rfl rfl (OpV.loadN Tryz.tOk rfl rfl rfl rfl (hrx.up X)) ?_ | refine RunL.evV rfl rfl rfl (OpV.indexS Tryz.tOk _ rfl rfl rfl rfl (by omega)) ?_ | refine RunE.condT rfl rfl ?_ | refine RunE.seq ?_ | refine RunE.region ?_ | refine RunL.nil ?_ | refine RunE.block ?_ | refine RunE.skip ?_)
  refine RunL.alloc Tryz.tOk rfl rfl rfl fun B5 w5_ a_ => ?_
  have Z5 : Blk w5_ B5 (zeroP.cells) 131 := a_.at_
  have gB5 := a_.ge X
  replace X := X.trans a_.ext
  clear a_
  skip
  refine RunL.store Tryz.tOk rfl rfl rfl rfl rfl Z5 rfl rfl fun w_ t_ => ?_
  replace X := X.own t_.ext gB5
  replace Z5 : Blk w_ B5 (x.cells) 131 := t_.at_
  clear t_
  repeat' (first | refine RunLN.any ?_ | refine RunL.evV rfl rfl rfl (OpV.loadN Tryz.tOk rfl rfl rfl rfl (Blk.row Z5)) ?_ | refine RunE.seq ?_ | refine RunE.region ?_ | refine RunL.nil ?_)
  refine RunL.call rfl rfl rfl (oright_ok x _) ?_
  rintro _ _ ⟨rfl, Xa_⟩
  replace Z5 := Z5.up Xa_
  replace X := X.trans Xa_
  clear Xa_
  cases hrt : rightA x with
  | false =>
   rw [hrt, Bool.false_and, Bool.false_and] at hg
   repeat' (first | with_reducible refine RunLN.boolT rfl ?_ | refine RunLN.int (by (first | exact wr_i64 (by omega) (by omega) | exact wm_i64 (by omega) | exact wq_i64 (by omega) (by omega) (by omega) | rfl)) ?_ | refine RunL.ev Tryz.tOk rfl rfl rfl ?_ | refine RunL.unwantedD rfl rfl ?_ | refine RunE.condT rfl rfl ?_ | refine RunE.seq ?_ | refine RunE.region ?_ | refine RunL.nil ?_)
   exact RunE.retFn Tryz.func30 (.tmp rfl .nil) ⟨by simp only [oneOr]; unfold chkA Best.chk; rw [if_neg (by omega), if_neg (by rw [← hg]; simp)], X⟩
  | true =>
   rw [hrt, Bool.true_and] at hg
   by_cases hlast : last < x.no
   ·rw [decide_eq_true hlast, Bool.true_and] at hg
    repeat' (first | with_reducible refine RunLN.boolF rfl ?_ | (with_reducible refine RunLN.decF ?_ ?_; focus omega) | refine RunLN.int (by (first | exact wr_i64 (by omega) (by omega) | exact wm_i64 (by omega) | exact wq_i64 (by omega) (by omega) (by omega) | rfl)) ?_ | refine RunLN.any ?_ | refine RunL.ev Tryz.tOk rfl rfl rfl ?_ | refine RunL.evV rfl rfl rfl (OpV.load1 Tryz.tOk rfl rfl rfl (Blk.cell Z5 rfl)) ?_ | refine RunE.condF rfl rfl ?_ | refine RunE.region ?_ | refine RunL.nil ?_ | refine RunE.inBlock ?_ | refine RunE.skip ?_)
    exact RunE.weaken sb_ (again (i + 1, x.no) _ (by simp only; omega) ⟨by simp only; omega, hg, X⟩)
   ·rw [decide_eq_false hlast, Bool.false_and] at hg
    repeat' (first | with_reducible refine RunLN.boolT rfl ?_ | with_reducible refine RunLN.boolF rfl ?_ | (with_reducible refine RunLN.decT ?_ ?_; focus omega) | refine RunLN.int (by (first | exact wr_i64 (by omega) (by omega) | exact wm_i64 (by omega) | exact wq_i64 (by omega) (by omega) (by omega) | rfl)) ?_ | refine RunLN.any ?_ | refine RunL.ev Tryz.tOk rfl rfl rfl ?_ | refine RunL.evV rfl rfl rfl (OpV.load1 Tryz.tOk rfl rfl rfl (Blk.cell Z5 rfl)) ?_ | refine RunE.condT rfl rfl ?_ | refine RunE.seq ?_ | refine RunE.region ?_ | refine RunL.nil ?_)
    exact RunE.retFn Tryz.func30 (.tmp rfl .nil) ⟨by simp only [oneOr]; unfold chkA Best.chk; rw [if_neg (by omega), if_neg (by rw [← hg]; simp)], X⟩
 ·obtain rfl : i = l.length := by omega
  rw [List.drop_length] at hg
  simp only [good] at hg
  repeat' (first | (with_reducible refine RunLN.decF ?_ ?_; focus omega) | refine RunLN.int (by (first | exact wr_i64 (by omega) (by omega) | exact wm_i64 (by omega) | exact wq_i64 (by omega) (by omega) (by omega) | rfl)) ?_ | refine RunL.ev Tryz.tOk rfl rfl rfl ?_ | refine RunE.condF rfl rfl ?_ | refine RunE.seq ?_ | refine RunE.region ?_ | refine RunL.nil ?_ | refine RunE.exit rfl ?_)
  exact RunE.retFn Tryz.func30 (.tmp rfl .nil) ⟨by simp only [oneOr]; unfold chkA Best.chk; rw [if_neg (by omega), if_pos hg.symm], X⟩
end Go.Sg
end
section
set_option maxRecDepth 4000
namespace Go.Off
open Go.Rn Go.Rec
def Seat.cells (s : Seat) : List Value := [.int .i64 s.1, .int .i64 s.2]
theorem encST : EncOk Seat.cells 2 := ⟨fun _ => rfl, fun _ => rfl, by decide⟩
abbrev seatV : Seat → Value := encV' Seat.cells
def apV (x : Ap) : Value := .agg x.cells.toArray
def mapV (m : List (Seat × Ap)) : List (Seat × Value) := m.map fun x => (x.1, apV x.2)
abbrev MapS (w : World) (r : Nat) (m : List (Seat × Ap)) : Prop := MapK seatV (fun _ => True) w r (mapV m)
end Go.Off
namespace Go.Sg
open Go.Rn Go.Proofs Go.Off Go.Rec Go.Best
attribute [local irreducible] Go.Rn.RetsX Go.Rn.RunLN Go.Rn.AsyN Go.Rn.RunL Go.Rn.RunE Go.Rn.Asy Go.Rn.OpV Go.Rn.OpE Go.Rn.ExecE
theorem seatFlat : Flat Tryz.prog 240 [(3, .int .i64), (3, .int .i64)] :=
 ⟨by kernel_rfl, by kernel_rfl, by kernel_rfl, by kernel_rfl, by kernel_rfl, fun x hx => by
  simp only [List.mem_cons, List.not_mem_nil, or_false] at hx
  rcases hx with rfl | rfl
  ·exact ⟨Tryz.underlying3, by kernel_rfl, by kernel_rfl⟩
  ·exact ⟨Tryz.underlying3, by kernel_rfl, by kernel_rfl⟩⟩
theorem seatKey : KeyOk Tryz.prog 240 seatV fun _ => True := keyOk_flat seatFlat (fun s => ⟨rfl, fun i y h => by
  rcases i with _ | _ | n
  all_goals (simp only [List.getElem?_cons_zero, List.getElem?_cons_succ, List.getElem?_nil, Option.some.injEq, reduceCtorEq] at h)
  all_goals (subst h; exact ⟨_, rfl, _, rfl⟩)⟩) fun a b => by
 obtain ⟨a1, a2⟩ := a; obtain ⟨b1, b2⟩ := b
 simp [eqAll, veq, Seat.cells]
 rw [Bool.eq_iff_iff]; simp
theorem counts_ok (x : Ap) (t time : Int) (b1 b2 : Nat) (w : World) (U1 : Blk w b1 [.int .i64 t] 3) (U2 : Blk w b2 [.int .i64 time] 3) :
  Rets Tryz.prog 168 [.agg x.cells.toArray, .pointer (some ⟨b1, 0, none⟩), .pointer (some ⟨b2, 0, none⟩)] w fun r w' => r = .tuple #[seatV (x.office, x.person), .bool (counts t time x)] ∧ Ext w w' := by
 refine RetsX.of (nt := 21) Tryz.func168 (by kernel_rfl) rfl rfl (by simp) (by simp only [argEnv]; rfl) ?_
 have X := ExtB.refl (fun _ => False) w
 repeat' (first | refine RunE.seq ?_ | refine RunE.region ?_)
 refine RunL.box rfl rfl rfl fun B3 w3_ a_ => ?_
 have Z3 : Blk w3_ B3 (x.cells) 131 := a_.at_
 have gB3 := a_.ge X
 replace X := X.trans a_.ext
 clear a_
 skip
 refine RunL.alloc Tryz.tOk rfl rfl rfl fun B4 w4_ a_ => ?_
 have Z4 : Blk w4_ B4 ([.int .i64 0, .int .i64 0]) 240 := a_.at_
 have gB4 := a_.ge X
 have n3_4 : B3 ≠ B4 := by have := Z3.lt; have := a_.eq; omega
 have n4_3 : B4 ≠ B3 := Ne.symm n3_4
 replace Z3 := Z3.up a_.ext
 replace X := X.trans a_.ext
 clear a_
 have n1 : b1 ≠ B4 := by have := U1.lt; omega
 have n2 : b2 ≠ B4 := by have := U2.lt; omega
 have hB4 := Z4.lt
 replace U1 := U1.up X
 replace U2 := U2.up X
 repeat' (first | with_reducible refine RunLN.boolF rfl ?_ | refine RunL.ev Tryz.tOk rfl rfl rfl ?_ | refine RunE.seq ?_ | refine RunL.nil ?_)
 refine RunE.draw (fun k => k = B4) mix ?_
 intro wd_ Xd_
 replace U1 := U1.up Xd_
 replace U2 := U2.up Xd_
 replace Z3 := Z3.up Xd_
 replace Z4 := Z4.up Xd_
 by_cases h1 : x.at_ ≤ t
 ·by_cases h2 : x.known ≤ time
  ·have hc : counts t time x = true := decide_eq_true ⟨h1, h2⟩
   rw [hc]
   repeat' (first | with_reducible refine AsyN.boolT rfl ?_ | (with_reducible refine AsyN.decT ?_ ?_; focus omega) | refine AsyN.int (by (first | exact wr_i64 (by omega) (by omega) | exact wm_i64 (by omega) | exact wq_i64 (by omega) (by omega) (by omega) | rfl)) ?_ | refine AsyN.any ?_ | refine Asy.ev Tryz.tOk rfl rfl rfl ?_ | refine Asy.evV rfl rfl rfl rfl (fun _ X_ => (OpV.load1 Tryz.tOk rfl rfl rfl (Blk.cell (Z3.ext X_ n3_4) rfl))) ?_ | refine Asy.evV rfl rfl rfl rfl (fun _ X_ => (OpV.load1 Tryz.tOk rfl rfl rfl (Blk.cell (U1.ext X_ n1) rfl))) ?_ | refine Asy.evV rfl rfl rfl rfl (fun _ X_ => (OpV.load1 Tryz.tOk rfl rfl rfl (Blk.cell (U2.ext X_ n2) rfl))) ?_)
   refine Asy.wriN (fun w' => Blk w' B4 (Seat.cells (x.office, x.person)) 240) rfl rfl rfl (fun w' w'' _ e h => h.up e) (fun w' e => ?_) ?_
   ·refine OpE.mono (OpE.store Tryz.tOk rfl rfl rfl rfl (Z4.up e) rfl rfl) ?_ fun _ _ h => h
    rintro _ w'' t'
    exact ⟨t'.ext, t'.at_⟩
   repeat' (first | with_reducible refine AsyN.boolT rfl ?_ | refine Asy.ev Tryz.tOk rfl rfl rfl ?_)
   refine Asy.tailN (by kernel_rfl) fun we_ _ Xe_ Z4' => ?_
   simp only [satsAll]
   repeat' (first | refine RunL.nil ?_)
   refine RunE.retFn Tryz.func168 (.cell rfl (Loads.agg Tryz.tOk rfl rfl rfl Z4'.row) (.tmp rfl .nil)) ⟨rfl, ?_⟩
   exact (X.trans Xd_).write Xe_ (by intro k hk hlt; omega)
  ·have hc : counts t time x = false := decide_eq_false (fun h => h2 h.2)
   rw [hc]
   repeat' (first | with_reducible refine AsyN.boolT rfl ?_ | with_reducible refine AsyN.boolF rfl ?_ | (with_reducible refine AsyN.decT ?_ ?_; focus omega) | (with_reducible refine AsyN.decF ?_ ?_; focus omega) | refine AsyN.int (by (first | exact wr_i64 (by omega) (by omega) | exact wm_i64 (by omega) | exact wq_i64 (by omega) (by omega) (by omega) | rfl)) ?_ | refine AsyN.any ?_ | refine Asy.ev Tryz.tOk rfl rfl rfl ?_ | refine Asy.evV rfl rfl rfl rfl (fun _ X_ => (OpV.load1 Tryz.tOk rfl rfl rfl (Blk.cell (Z3.ext X_ n3_4) rfl))) ?_ | refine Asy.evV rfl rfl rfl rfl (fun _ X_ => (OpV.load1 Tryz.tOk rfl rfl rfl (Blk.cell (U1.ext X_ n1) rfl))) ?_ | refine Asy.evV rfl rfl rfl rfl (fun _ X_ => (OpV.load1 Tryz.tOk rfl rfl rfl (Blk.cell (U2.ext X_ n2) rfl))) ?_)
   refine Asy.wriN (fun w' => Blk w' B4 (Seat.cells (x.office, x.person)) 240) rfl rfl rfl (fun w' w'' _ e h => h.up e) (fun w' e => ?_) ?_
   ·refine OpE.mono (OpE.store Tryz.tOk rfl rfl rfl rfl (Z4.up e) rfl rfl) ?_ fun _ _ h => h
    rintro _ w'' t'
    exact ⟨t'.ext, t'.at_⟩
   repeat' (first | with_reducible refine AsyN.boolF rfl ?_ | refine Asy.ev Tryz.tOk rfl rfl rfl ?_)
   refine Asy.tailN (by kernel_rfl) fun we_ _ Xe_ Z4' => ?_
   simp only [satsAll]
   repeat' (first | refine RunL.nil ?_)
   refine RunE.retFn Tryz.func168 (.cell rfl (Loads.agg Tryz.tOk rfl rfl rfl Z4'.row) (.tmp rfl .nil)) ⟨rfl, ?_⟩
   exact (X.trans Xd_).write Xe_ (by intro k hk hlt; omega)
 ·have hc : counts t time x = false := decide_eq_false (fun h => h1 h.1)
  rw [hc]
  repeat' (first | with_reducible refine AsyN.boolF rfl ?_ | (with_reducible refine AsyN.decF ?_ ?_; focus omega) | refine AsyN.int (by (first | exact wr_i64 (by omega) (by omega) | exact wm_i64 (by omega) | exact wq_i64 (by omega) (by omega) (by omega) | rfl)) ?_ | refine AsyN.any ?_ | refine Asy.ev Tryz.tOk rfl rfl rfl ?_ | refine Asy.unwantedD rfl rfl rfl ?_ | refine Asy.evV rfl rfl rfl rfl (fun _ X_ => (OpV.load1 Tryz.tOk rfl rfl rfl (Blk.cell (Z3.ext X_ n3_4) rfl))) ?_ | refine Asy.evV rfl rfl rfl rfl (fun _ X_ => (OpV.load1 Tryz.tOk rfl rfl rfl (Blk.cell (U1.ext X_ n1) rfl))) ?_)
  refine Asy.wriN (fun w' => Blk w' B4 (Seat.cells (x.office, x.person)) 240) rfl rfl rfl (fun w' w'' _ e h => h.up e) (fun w' e => ?_) ?_
  ·refine OpE.mono (OpE.store Tryz.tOk rfl rfl rfl rfl (Z4.up e) rfl rfl) ?_ fun _ _ h => h
   rintro _ w'' t'
   exact ⟨t'.ext, t'.at_⟩
  repeat' (first | with_reducible refine AsyN.boolF rfl ?_ | refine Asy.ev Tryz.tOk rfl rfl rfl ?_)
  refine Asy.tailN (by kernel_rfl) fun we_ _ Xe_ Z4' => ?_
  simp only [satsAll]
  repeat' (first | refine RunL.nil ?_)
  refine RunE.retFn Tryz.func168 (.cell rfl (Loads.agg Tryz.tOk rfl rfl rfl Z4'.row) (.tmp rfl .nil)) ⟨rfl, ?_⟩
  exact (X.trans Xd_).write Xe_ (by intro k hk hlt; omega)
theorem laterP_ok (x y : Ap) (w : World) : Rets Tryz.prog 170 [.agg x.cells.toArray, .agg y.cells.toArray] w fun r w' => r = .bool (decide (y.at_ < x.at_)) ∧ Ext w w' := by
 refine RetsX.of (nt := 10) Tryz.func170 (by kernel_rfl) rfl rfl (by simp) (by simp only [argEnv]; rfl) ?_
 have X := ExtB.refl (fun _ => False) w
 repeat' (first | refine RunE.seq ?_ | refine RunE.region ?_)
 refine RunL.box rfl rfl rfl fun B2 w2_ a_ => ?_
 have Z2 : Blk w2_ B2 (x.cells) 131 := a_.at_
 have gB2 := a_.ge X
 replace X := X.trans a_.ext
 clear a_
 skip
 refine RunL.box rfl rfl rfl fun B3 w3_ a_ => ?_
 have Z3 : Blk w3_ B3 (y.cells) 131 := a_.at_
 have gB3 := a_.ge X
 have n2_3 : B2 ≠ B3 := by have := Z2.lt; have := a_.eq; omega
 have n3_2 : B3 ≠ B2 := Ne.symm n2_3
 replace Z2 := Z2.up a_.ext
 replace X := X.trans a_.ext
 clear a_
 repeat' (first | with_reducible refine RunLN.boolF rfl ?_ | refine RunLN.int (by (first | exact wr_i64 (by omega) (by omega) | exact wm_i64 (by omega) | exact wq_i64 (by omega) (by omega) (by omega) | rfl)) ?_ | refine RunLN.any ?_ | refine RunL.ev Tryz.tOk rfl rfl rfl ?_ | refine RunL.evV rfl rfl rfl (OpV.load1 Tryz.tOk rfl rfl rfl (Blk.cell Z2 rfl)) ?_ | refine RunL.evV rfl rfl rfl (OpV.load1 Tryz.tOk rfl rfl rfl (Blk.cell Z3 rfl)) ?_ | refine RunE.seq ?_ | refine RunE.region ?_ | refine RunL.nil ?_)
 exact RunE.retFn Tryz.func170 (.tmp rfl .nil) ⟨rfl, X⟩
end Go.Sg
end
section
set_option maxRecDepth 4000
namespace Go.Off
open Go.Rn Go.Rec
theorem mapV_set (k : Seat) (x : Ap) (m : List (Seat × Ap)) : setM k (apV x) (mapV m) = mapV (setM k x m) := setM_map apV k x m
theorem mapV_get (k : Seat) (m : List (Seat × Ap)) : getM k (mapV m) = (getM k m).map apV := getM_map apV k m
end Go.Off
namespace Go.Sg
open Go.Rn Go.Proofs Go.Off Go.Rec Go.Best
attribute [local irreducible] Go.Rn.RetsX Go.Rn.RunLN Go.Rn.AsyN Go.Rn.RunL Go.Rn.RunE Go.Rn.Asy Go.Rn.OpV Go.Rn.OpE Go.Rn.ExecE
abbrev countsV (b1 b2 : Nat) : Value := .func (.func 168) #[] #[.pointer (some ⟨b1, 0, none⟩), .pointer (some ⟨b2, 0, none⟩)]
abbrev laterV : Value := .func (.func 170) #[] #[]
theorem keep_ok (l : List Ap) (v : Value) (t time : Int) (b1 b2 : Nat) (w : World) (hv : LA w v l) (hl : l.length < 9223372036854775808) (U1 : Blk w b1 [.int .i64 t] 3) (U2 : Blk w b2 [.int .i64 time] 3) :
  Rets Tryz.prog 169 [v, countsV b1 b2, laterV] w fun r w' => (∃ R, r = .map (some R) ∧ MapS w' R (standing l t time)) ∧ Ext w w' := by
 refine RetsX.of (nt := 50) Tryz.func169 (by kernel_rfl) rfl rfl (by simp) (by simp only [argEnv]; rfl) ?_
 have X := ExtB.refl (fun _ => False) w
 repeat' (first | refine RunLN.any ?_ | refine RunL.ev Tryz.tOk rfl rfl rfl ?_ | refine RunE.seq ?_ | refine RunE.region ?_ | refine RunL.nil ?_)
 refine RunL.ex rfl rfl rfl (OpE.makeMap seatV (fun _ => True)) ?_
 rintro _ w1 ⟨BM, rfl, a, ZM⟩
 have gBM := a.ge X
 replace X := X.trans a.ext
 clear a
 repeat' (first | refine RunLN.int (by (first | exact wr_i64 (by omega) (by omega) | exact wm_i64 (by omega) | exact wq_i64 (by omega) (by omega) (by omega) | rfl)) ?_ | refine RunLN.any ?_ | refine RunL.ev Tryz.tOk rfl rfl rfl ?_ | refine RunL.evV rfl rfl rfl (OpV.lenSl Tryz.tOk rfl rfl hv) ?_ | refine RunE.seq ?_ | refine RunE.region ?_ | refine RunL.nil ?_ | refine RunE.block ?_)
 refine RunE.loop (ι := Nat) (fun i => [(0, v), (1, countsV b1 b2), (2, laterV), (7, .map (some BM)), (15, v), (16, .int .i64 (l.length : Int)), (17, .int .i64 (i : Int))])
  (fun i w' => i ≤ l.length ∧ MapS w' BM ((l.take i).foldl (stepM t time) []) ∧ Ext w w') (fun i => l.length - i) 0 sb_ ⟨Nat.zero_le _, ZM, X⟩ ?_
 clear X ZM
 rintro i w3 ⟨hi, ZM, X⟩ again
 by_cases hlt : i < l.length
 ·obtain ⟨b, o, cap, rfl, hr, hc⟩ := isL_held hv hlt
  obtain ⟨x, hx⟩ : ∃ x, l[i]? = some x := ⟨_, List.getElem?_eq_getElem hlt⟩
  have hrx := flat_row encA hr hx
  have hst : (l.take (i + 1)).foldl (stepM t time) [] = stepM t time ((l.take i).foldl (stepM t time) []) x := by rw [List.take_add_one, hx]; simp
  have next : ∀ w', Ext w w' → MapS w' BM ((l.take (i + 1)).foldl (stepM t time) []) → _ := fun w' a b => again (i + 1) w' (by omega) ⟨by omega, b, a⟩
  clear again
  generalize (l.take i).foldl (stepM t time) [] = m at ZM hst
  have hget := mapV_get (x.office, x.person) m
  repeat' (first | (with_reducible refine RunLN.decT ?_ ?_; focus omega) | refine RunLN.any ?_ | refine RunL.ev Tryz.tOk rfl rfl rfl ?_ | refine RunL.evV rfl rfl rfl (OpV.loadN Tryz.tOk rfl rfl rfl rfl (hrx.up X)) ?_ | refine RunL.evV rfl rfl rfl (OpV.indexS Tryz.tOk _ rfl rfl rfl rfl (by omega)) ?_ | refine RunE.condT rfl rfl ?_ | refine RunE.seq ?_ | refine RunE.region ?_ | refine RunL.nil ?_ | refine RunE.block ?_ | refine RunE.skip ?_)
  refine RunL.alloc Tryz.tOk rfl rfl rfl fun B9 w9_ a_ => ?_
  have Z9 : Blk w9_ B9 (zeroP.cells) 131 := a_.at_
  have gB9 := a_.ge X
  have nM_9 : BM ≠ B9 := by have := ZM.lt; have := a_.eq; omega
  have n9_M : B9 ≠ BM := Ne.symm nM_9
  replace ZM := ZM.up a_.ext
  replace X := X.trans a_.ext
  clear a_
  skip
  refine RunL.store Tryz.tOk rfl rfl rfl rfl rfl Z9 rfl rfl fun w_ t_ => ?_
  replace X := X.own t_.ext gB9
  replace ZM := ZM.other t_.ext nM_9
  replace Z9 : Blk w_ B9 (x.cells) 131 := t_.at_
  clear t_
  repeat' (first | refine RunLN.any ?_ | refine RunL.ev Tryz.tOk rfl rfl rfl ?_ | refine RunL.evV rfl rfl rfl (OpV.loadN Tryz.tOk rfl rfl rfl rfl (Blk.row Z9)) ?_ | refine RunE.seq ?_ | refine RunE.region ?_ | refine RunL.nil ?_)
  refine RunL.ex rfl rfl rfl (OpE.callV rfl rfl (RetsX.v (fi := []) (args := [.agg x.cells.toArray]) (ca := [.pointer (some ⟨b1, 0, none⟩), .pointer (some ⟨b2, 0, none⟩)]) (counts_ok x t time b1 b2 _ (U1.up X) (U2.up X)))) ?_
  rintro _ w4 ⟨rfl, Xa⟩
  replace X := X.trans Xa
  replace Z9 := Z9.up Xa
  replace ZM := ZM.up Xa
  clear Xa
  repeat' (first | refine RunLN.any ?_ | refine RunL.ev Tryz.tOk rfl rfl rfl ?_)
  refine RunL.alloc Tryz.tOk rfl rfl rfl fun B10 w10_ a_ => ?_
  have Z10 : Blk w10_ B10 ([.int .i64 0, .int .i64 0]) 240 := a_.at_
  have gB10 := a_.ge X
  have n9_10 : B9 ≠ B10 := by have := Z9.lt; have := a_.eq; omega
  have n10_9 : B10 ≠ B9 := Ne.symm n9_10
  have nM_10 : BM ≠ B10 := by have := ZM.lt; have := a_.eq; omega
  have n10_M : B10 ≠ BM := Ne.symm nM_10
  replace Z9 := Z9.up a_.ext
  replace ZM := ZM.up a_.ext
  replace X := X.trans a_.ext
  clear a_
  skip
  refine RunL.store Tryz.tOk rfl rfl rfl rfl rfl Z10 rfl rfl fun w_ t_ => ?_
  replace X := X.own t_.ext gB10
  replace Z9 := Z9.other t_.ext n9_10
  replace ZM := ZM.other t_.ext nM_10
  replace Z10 : Blk w_ B10 (Seat.cells (x.office, x.person)) 240 := t_.at_
  clear t_
  repeat' (first | refine RunLN.any ?_ | refine RunL.ev Tryz.tOk rfl rfl rfl ?_ | refine RunL.evV rfl rfl rfl (OpV.loadN Tryz.tOk rfl rfl rfl rfl (Blk.row Z10)) ?_ | refine RunE.seq ?_ | refine RunE.region ?_ | refine RunL.nil ?_)
  refine RunL.evV rfl rfl rfl (OpV.lookup2 (kv := seatV) (good := fun _ => True) (k := (x.office, x.person)) (z := apV zeroP) Tryz.underlying210 seatKey (by kernel_rfl) rfl rfl trivial ZM) ?_
  rw [hget]
  cases hg : getM (x.office, x.person) m with
  | none =>
   have hl0 : later (getM (x.office, x.person) m) x = false := by rw [hg]; rfl
   simp only [Option.map_none, Option.getD_none, Option.isSome_none]
   repeat' (first | with_reducible refine RunLN.boolF rfl ?_ | refine RunLN.any ?_ | refine RunL.ev Tryz.tOk rfl rfl rfl ?_)
   refine RunL.alloc Tryz.tOk rfl rfl rfl fun B12 w12_ a_ => ?_
   have Z12 : Blk w12_ B12 (zeroP.cells) 131 := a_.at_
   have gB12 := a_.ge X
   have n9_12 : B9 ≠ B12 := by have := Z9.lt; have := a_.eq; omega
   have n12_9 : B12 ≠ B9 := Ne.symm n9_12
   have n10_12 : B10 ≠ B12 := by have := Z10.lt; have := a_.eq; omega
   have n12_10 : B12 ≠ B10 := Ne.symm n10_12
   have nM_12 : BM ≠ B12 := by have := ZM.lt; have := a_.eq; omega
   have n12_M : B12 ≠ BM := Ne.symm nM_12
   replace Z9 := Z9.up a_.ext
   replace Z10 := Z10.up a_.ext
   replace ZM := ZM.up a_.ext
   replace X := X.trans a_.ext
   clear a_
   skip
   refine RunL.store Tryz.tOk rfl rfl rfl rfl rfl Z12 rfl rfl fun w_ t_ => ?_
   replace X := X.own t_.ext gB12
   replace Z9 := Z9.other t_.ext n9_12
   replace Z10 := Z10.other t_.ext n10_12
   replace ZM := ZM.other t_.ext nM_12
   replace Z12 : Blk w_ B12 (zeroP.cells) 131 := t_.at_
   clear t_
   cases hc : counts t time x with
   | false =>
    have hst' : stepM t time m x = m := by unfold stepM; rw [hc]; rfl
    repeat' (first | with_reducible refine RunLN.boolF rfl ?_ | refine RunLN.int (by (first | exact wr_i64 (by omega) (by omega) | exact wm_i64 (by omega) | exact wq_i64 (by omega) (by omega) (by omega) | rfl)) ?_ | refine RunL.ev Tryz.tOk rfl rfl rfl ?_ | refine RunL.unwantedD rfl rfl ?_ | refine RunE.condF rfl rfl ?_ | refine RunE.seq ?_ | refine RunE.region ?_ | refine RunL.nil ?_ | refine RunE.inBlock ?_ | refine RunE.skip ?_)
    exact RunE.weaken sb_ (next _ X (by rw [hst, hst']; exact ZM))
   | true =>
    have hst' : stepM t time m x = setM (x.office, x.person) x m := by unfold stepM; rw [hc, hl0]; rfl
    rw [hst'] at hst
    repeat' (first | with_reducible refine RunLN.boolT rfl ?_ | with_reducible refine RunLN.boolF rfl ?_ | refine RunLN.any ?_ | refine RunL.ev Tryz.tOk rfl rfl rfl ?_ | refine RunL.unwantedD rfl rfl ?_ | refine RunL.evV rfl rfl rfl (OpV.loadN Tryz.tOk rfl rfl rfl rfl (Blk.row Z10)) ?_ | refine RunL.evV rfl rfl rfl (OpV.loadN Tryz.tOk rfl rfl rfl rfl (Blk.row Z9)) ?_ | refine RunE.condT rfl rfl ?_ | refine RunE.seq ?_ | refine RunE.region ?_ | refine RunL.nil ?_)
    refine RunL.exN rfl rfl (OpE.mapSet (kv := seatV) (good := fun _ => True) (k := (x.office, x.person)) (v := apV x) Tryz.underlying210 seatKey rfl rfl rfl trivial ZM) ?_
    rintro _ w9 ⟨hM9, E9, -⟩
    rw [mapV_set] at hM9
    replace X : Ext w w9 := X.write E9 (by intro k hk hlt; omega)
    repeat' (first | refine RunLN.int (by (first | exact wr_i64 (by omega) (by omega) | exact wm_i64 (by omega) | exact wq_i64 (by omega) (by omega) (by omega) | rfl)) ?_ | refine RunL.ev Tryz.tOk rfl rfl rfl ?_ | refine RunE.region ?_ | refine RunL.nil ?_ | refine RunE.inBlock ?_)
    exact RunE.weaken sb_ (next _ X (by rw [hst]; exact hM9))
  | some y =>
   have hl0 : later (getM (x.office, x.person) m) x = decide (x.at_ < y.at_) := by rw [hg]; rfl
   simp only [Option.map_some, Option.getD_some, Option.isSome_some]
   repeat' (first | with_reducible refine RunLN.boolT rfl ?_ | refine RunLN.any ?_ | refine RunL.ev Tryz.tOk rfl rfl rfl ?_)
   refine RunL.alloc Tryz.tOk rfl rfl rfl fun B12 w12_ a_ => ?_
   have Z12 : Blk w12_ B12 (zeroP.cells) 131 := a_.at_
   have gB12 := a_.ge X
   have n9_12 : B9 ≠ B12 := by have := Z9.lt; have := a_.eq; omega
   have n12_9 : B12 ≠ B9 := Ne.symm n9_12
   have n10_12 : B10 ≠ B12 := by have := Z10.lt; have := a_.eq; omega
   have n12_10 : B12 ≠ B10 := Ne.symm n10_12
   have nM_12 : BM ≠ B12 := by have := ZM.lt; have := a_.eq; omega
   have n12_M : B12 ≠ BM := Ne.symm nM_12
   replace Z9 := Z9.up a_.ext
   replace Z10 := Z10.up a_.ext
   replace ZM := ZM.up a_.ext
   replace X := X.trans a_.ext
   clear a_
   skip
   refine RunL.store Tryz.tOk rfl rfl rfl rfl rfl Z12 rfl rfl fun w_ t_ => ?_
   replace X := X.own t_.ext gB12
   replace Z9 := Z9.other t_.ext n9_12
   replace Z10 := Z10.other t_.ext n10_12
   replace ZM := ZM.other t_.ext nM_12
   replace Z12 : Blk w_ B12 (y.cells) 131 := t_.at_
   clear t_
   cases hc : counts t time x with
   | false =>
    have hst' : stepM t time m x = m := by unfold stepM; rw [hc]; rfl
    repeat' (first | with_reducible refine RunLN.boolT rfl ?_ | with_reducible refine RunLN.boolF rfl ?_ | refine RunLN.int (by (first | exact wr_i64 (by omega) (by omega) | exact wm_i64 (by omega) | exact wq_i64 (by omega) (by omega) (by omega) | rfl)) ?_ | refine RunL.ev Tryz.tOk rfl rfl rfl ?_ | refine RunL.unwantedD rfl rfl ?_ | refine RunE.condF rfl rfl ?_ | refine RunE.seq ?_ | refine RunE.region ?_ | refine RunL.nil ?_ | refine RunE.inBlock ?_ | refine RunE.skip ?_)
    exact RunE.weaken sb_ (next _ X (by rw [hst, hst']; exact ZM))
   | true =>
    repeat' (first | with_reducible refine RunLN.boolT rfl ?_ | with_reducible refine RunLN.boolF rfl ?_ | refine RunLN.any ?_ | refine RunL.ev Tryz.tOk rfl rfl rfl ?_ | refine RunL.evV rfl rfl rfl (OpV.loadN Tryz.tOk rfl rfl rfl rfl (Blk.row Z12)) ?_ | refine RunL.evV rfl rfl rfl (OpV.loadN Tryz.tOk rfl rfl rfl rfl (Blk.row Z9)) ?_ | refine RunE.seq ?_ | refine RunE.region ?_ | refine RunL.nil ?_)
    refine RunL.ex rfl rfl rfl (OpE.callV rfl rfl (Rets.v (fi := []) (laterP_ok y x _) rfl)) ?_
    rintro _ w5 ⟨rfl, Xa⟩
    replace X := X.trans Xa
    replace Z9 := Z9.up Xa
    replace Z10 := Z10.up Xa
    replace ZM := ZM.up Xa
    clear Xa
    by_cases hlt : x.at_ < y.at_
    ·have hst' : stepM t time m x = m := by unfold stepM; rw [hc, hl0, decide_eq_true hlt]; rfl
     rw [decide_eq_true hlt]
     repeat' (first | with_reducible refine RunLN.boolF rfl ?_ | refine RunLN.int (by (first | exact wr_i64 (by omega) (by omega) | exact wm_i64 (by omega) | exact wq_i64 (by omega) (by omega) (by omega) | rfl)) ?_ | refine RunL.ev Tryz.tOk rfl rfl rfl ?_ | refine RunE.condF rfl rfl ?_ | refine RunE.region ?_ | refine RunL.nil ?_ | refine RunE.inBlock ?_ | refine RunE.skip ?_)
     exact RunE.weaken sb_ (next _ X (by rw [hst, hst']; exact ZM))
    ·have hst' : stepM t time m x = setM (x.office, x.person) x m := by unfold stepM; rw [hc, hl0, decide_eq_false hlt]; rfl
     rw [hst'] at hst
     rw [decide_eq_false hlt]
     repeat' (first | with_reducible refine RunLN.boolT rfl ?_ | refine RunLN.any ?_ | refine RunL.ev Tryz.tOk rfl rfl rfl ?_ | refine RunL.evV rfl rfl rfl (OpV.loadN Tryz.tOk rfl rfl rfl rfl (Blk.row Z10)) ?_ | refine RunL.evV rfl rfl rfl (OpV.loadN Tryz.tOk rfl rfl rfl rfl (Blk.row Z9)) ?_ | refine RunE.condT rfl rfl ?_ | refine RunE.region ?_ | refine RunL.nil ?_)
     refine RunL.exN rfl rfl (OpE.mapSet (kv := seatV) (good := fun _ => True) (k := (x.office, x.person)) (v := apV x) Tryz.underlying210 seatKey rfl rfl rfl trivial ZM) ?_
     rintro _ w9 ⟨hM9, E9, -⟩
     rw [mapV_set] at hM9
     replace X : Ext w w9 := X.write E9 (by intro k hk hlt; omega)
     repeat' (first | refine RunLN.int (by (first | exact wr_i64 (by omega) (by omega) | exact wm_i64 (by omega) | exact wq_i64 (by omega) (by omega) (by omega) | rfl)) ?_ | refine RunL.ev Tryz.tOk rfl rfl rfl ?_ | refine RunE.region ?_ | refine RunL.nil ?_ | refine RunE.inBlock ?_)
     exact RunE.weaken sb_ (next _ X (by rw [hst]; exact hM9))
 ·obtain rfl : i = l.length := by omega
  rw [List.take_length] at ZM
  repeat' (first | (with_reducible refine RunLN.decF ?_ ?_; focus omega) | refine RunLN.any ?_ | refine RunL.ev Tryz.tOk rfl rfl rfl ?_ | refine RunE.condF rfl rfl ?_ | refine RunE.seq ?_ | refine RunE.region ?_ | refine RunL.nil ?_ | refine RunE.exit rfl ?_)
  exact RunE.retFn Tryz.func169 (.tmp rfl .nil) ⟨⟨BM, rfl, ZM⟩, X⟩
end Go.Sg
end
section
set_option maxRecDepth 4000
namespace Go.Rn
theorem IterAt.move {α : Type} [DecidableEq α] {kv : α → Value} {good : α → Prop} {w w' : World} {it r : Nat} {m ys : List (α × Value)} (h : IterAt kv good w it r m ys) (h1 : w'.heap[it]? = w.heap[it]?) (h2 : w'.heap[r]? = w.heap[r]?) : IterAt kv good w' it r m ys := by
 obtain ⟨es, clock, since, seen, js, a, b, rest⟩ := h
 exact ⟨es, clock, since, seen, js, by rw [h1]; exact a, by rw [h2]; exact b, rest⟩
end Go.Rn
namespace Go.Sg
open Go.Rn Go.Proofs Go.Off Go.Rec Go.Best
attribute [local irreducible] Go.Rn.RetsX Go.Rn.RunLN Go.Rn.AsyN Go.Rn.RunL Go.Rn.RunE Go.Rn.Asy Go.Rn.OpV Go.Rn.OpE Go.Rn.ExecE
abbrev keysV (b : Nat) : Value := .func (.func 200) #[] #[.pointer (some ⟨b, 0, none⟩)]
theorem keys_gives (m : List (Seat × Ap)) (R b : Nat) (w0 : World) (hM : MapS w0 R m) (Y : Blk w0 b [.map (some R)] 210) :
  GivesK Tryz.prog (keysV b) (fun ys => ys.Perm (m.map (·.1))) (fun s => [.agg (Seat.cells s).toArray]) w0 (fun k => k = b ∨ k = R) := by
 intro S J y w hS hX hJ0 hJX hJup hy
 refine RetsX.v (fi := []) (args := [y]) (ca := [.pointer (some ⟨b, 0, none⟩)]) ?_
 change RetsX Tryz.prog 200 [y, .pointer (some ⟨b, 0, none⟩)] _ _ _
 refine RetsX.of (nt := 14) Tryz.func200 (by kernel_rfl) rfl rfl (by simp) (by simp only [argEnv]; rfl) ?_
 have U := Y.ext hX (hS _ (.inl rfl))
 have hMw := hM.ext hX (hS _ (.inr rfl))
 repeat' (first | refine RunLN.any ?_ | refine RunL.evV rfl rfl rfl (OpV.load1 Tryz.tOk rfl rfl rfl (Blk.cell U rfl)) ?_ | refine RunE.seq ?_ | refine RunE.region ?_)
 refine RunL.ex rfl rfl rfl (OpE.rangeMap (kv := seatV) (good := fun _ => True) Tryz.underlying210 rfl hMw) ?_
 rintro _ w1 ⟨it, rfl, hit, hsz, e1, hI⟩
 have hJ := hJ0 (· = it) w1 e1 (fun k hk => by omega)
 repeat' (first | refine RunL.nil ?_ | refine RunE.block ?_)
 refine RunE.loop (ι := List (Seat × Value)) (fun _ => [(0, y), (1, .pointer (some ⟨b, 0, none⟩)), (5, .pointer (some ⟨it, 0, none⟩))])
  (fun ys w' => IterAt seatV (fun _ => True) w' it R (mapV m) ys ∧ J (· = it) (ys.map (·.1)) w') (fun ys => (mapV m).length - ys.length) [] sb_ ⟨hI, hJ⟩ ?_
 clear hI hJ U hMw e1
 rintro ys w3 ⟨hI, hJ⟩ again
 have hmf : (mapV m).map (·.1) = m.map (·.1) := by simp [mapV]
 repeat' (first | refine RunE.seq ?_ | refine RunE.region ?_)
 refine RunL.ex rfl rfl rfl (OpE.nextMap rfl hI) ?_
 rintro v w4 (⟨rfl, rfl, hp⟩ | ⟨⟨s, a⟩, rfl, -, hI4, e4, hsz4⟩)
 ·repeat' (first | with_reducible refine RunLN.boolF rfl ?_ | refine RunL.ev Tryz.tOk rfl rfl rfl ?_ | refine RunE.condF rfl rfl ?_ | refine RunE.seq ?_ | refine RunL.nil ?_ | refine RunE.exit rfl ?_)
  refine RunE.fallFn Tryz.func200 .nil ?_
  exact ⟨(· = it), _, by rw [← hmf]; exact hp.map _, hJ⟩
 ·have hJ4 := hJup _ _ _ _ hJ e4
  obtain ⟨zs, hzs⟩ := hI4.sub
  have hlen := hzs.length_eq
  simp only [List.length_append, List.length_singleton] at hlen
  have hperm : (ys.map (·.1) ++ s :: zs.map (·.1)).Perm (m.map (·.1)) := by rw [← hmf]; simpa using hzs.map (·.1)
  have X := ExtB.refl (fun _ => False) w4
  repeat' (first | with_reducible refine RunLN.boolT rfl ?_ | refine RunL.ev Tryz.tOk rfl rfl rfl ?_ | refine RunE.condT rfl rfl ?_ | refine RunE.seq ?_ | refine RunE.region ?_ | refine RunL.nil ?_ | refine RunE.block ?_ | refine RunE.skip ?_)
  refine RunL.evV rfl rfl rfl (OpV.entryMap rfl hI4) ?_
  repeat' (first | refine RunLN.any ?_ | refine RunL.ev Tryz.tOk rfl rfl rfl ?_)
  refine RunL.alloc Tryz.tOk rfl rfl rfl fun B3 w3_ a_ => ?_
  have Z3 : Blk w3_ B3 ([.int .i64 0, .int .i64 0]) 240 := a_.at_
  have gB3 := a_.ge X
  replace X := X.trans a_.ext
  clear a_
  skip
  refine RunL.store Tryz.tOk rfl rfl rfl rfl rfl Z3 rfl rfl fun w_ t_ => ?_
  replace X := X.own t_.ext gB3
  replace Z3 : Blk w_ B3 (Seat.cells s) 240 := t_.at_
  clear t_
  replace hJ4 := hJup _ _ _ _ hJ4 (ExtB.of_ext X)
  replace hI4 := hI4.up X
  repeat' (first | refine RunLN.any ?_ | refine RunL.ev Tryz.tOk rfl rfl rfl ?_ | refine RunL.evV rfl rfl rfl (OpV.loadN Tryz.tOk rfl rfl rfl rfl (Blk.row Z3)) ?_ | refine RunE.seq ?_ | refine RunE.region ?_ | refine RunL.nil ?_)
  refine RunL.ex rfl rfl rfl (OpE.callV rfl rfl (hy (· = it) _ s _ _ hperm hJ4)) ?_
  rintro _ w5 ⟨rfl, hJ5, hk5⟩
  have hR : ∀ u, J (· = it) (ys.map (·.1)) u ∨ J (· = it) (ys.map (·.1) ++ [s]) u → u.heap[R]? = w0.heap[R]? := fun u hu => by
   have e : ExtB S w0 u := by
    rcases hu with hu | hu
    ·exact hJX _ _ _ hu
    ·exact hJX _ _ _ hu
   exact e.block R hM.lt (hS _ (.inr rfl))
  have hI5 := hI4.move (hk5 it rfl) ((hR _ (.inr hJ5)).trans (hR _ (.inl hJ4)).symm)
  repeat' (first | with_reducible refine RunLN.boolF rfl ?_ | refine RunL.ev Tryz.tOk rfl rfl rfl ?_ | refine RunE.condF rfl rfl ?_ | refine RunL.nil ?_ | refine RunE.inBlock ?_ | refine RunE.skip ?_)
  refine RunE.weaken sb_ (again (ys ++ [(s, a)]) _ (by simp only [List.length_append, List.length_singleton]; omega) ⟨hI5, by simpa using hJ5⟩)
theorem keys_ok (m : List (Seat × Ap)) (R : Nat) (w : World) (hM : MapS w R m) :
  Rets Tryz.prog 167 [.map (some R)] w fun r w' => (∃ F : Nat → Prop, GivesK Tryz.prog r (fun ys => ys.Perm (m.map (·.1))) (fun s => [.agg (Seat.cells s).toArray]) w' F ∧ ∀ k, F k → k < w'.heap.size) ∧ Ext w w' := by
 refine RetsX.of (nt := 4) Tryz.func167 (by kernel_rfl) rfl rfl (by simp) (by simp only [argEnv]; rfl) ?_
 have X := ExtB.refl (fun _ => False) w
 repeat' (first | refine RunE.seq ?_ | refine RunE.region ?_)
 refine RunL.box rfl rfl rfl fun B1 w1_ a_ => ?_
 have Z1 : Blk w1_ B1 ([.map (some R)]) 210 := a_.at_
 have gB1 := a_.ge X
 replace X := X.trans a_.ext
 clear a_
 repeat' (first | refine RunLN.any ?_ | refine RunL.ev Tryz.tOk rfl rfl rfl ?_ | refine RunE.seq ?_ | refine RunE.region ?_ | refine RunL.nil ?_)
 refine RunE.retFn Tryz.func167 (.tmp rfl .nil) ⟨⟨_, keys_gives m R B1 _ (hM.ext X id) Z1, fun k hk => ?_⟩, X⟩
 rcases hk with rfl | rfl
 ·exact Z1.lt
 ·exact (hM.ext X id).lt
theorem stappendSeq_ok (ok : List Seat → Prop) (f : Value) (F : Nat → Prop) (w : World) (hG : GivesK Tryz.prog f ok (fun s => [.agg (Seat.cells s).toArray]) w F) (hF : ∀ k, F k → k < w.heap.size) (hl : ∀ ys, ok ys → ys.length ≤ 100000) :
  Rets Tryz.prog 208 [.slice none 0 0, f] w fun r w' => (∃ ys : List Seat, ok ys ∧ w'.ownsRow w.heap.size 240 2 r ys.length (flat Seat.cells ys)) ∧ Ext w w' := by
 refine RetsX.of (nt := 13) Tryz.func208 (by kernel_rfl) rfl rfl (by simp) (by simp only [argEnv]; rfl) ?_
 have X := ExtB.refl (fun _ => False) w
 repeat' (first | refine RunE.seq ?_ | refine RunE.region ?_)
 refine RunL.box rfl rfl rfl fun B2 w2_ a_ => ?_
 have Z2 : Blk w2_ B2 ([.slice none 0 0]) 252 := a_.at_
 have gB2 := a_.ge X
 replace X := X.trans a_.ext
 clear a_
 repeat' (first | refine RunLN.any ?_ | refine RunL.ev Tryz.tOk rfl rfl rfl ?_ | refine RunE.seq ?_ | refine RunE.region ?_ | refine RunL.nil ?_ | refine RunE.block ?_)
 have hl2 := Z2.lt
 refine RunE.rangeGivesK (w0 := w) (F := F) rfl ⟨_, Tryz.func208⟩ rfl hG (fun k => k = B2) (fun k hk => ?_) (ExtB.of_ext X) (fun _ => rfl) rfl
  (fun G ys w' => (∃ u, Blk w' B2 [u] 252 ∧ w'.ownsRow (w2_.heap.size + 2) 240 2 u ys.length (flat Seat.cells ys) ∧ ∀ k, u.ownBlock = some k → ¬ G k) ∧ (∀ k, G k → w2_.heap.size + 2 ≤ k ∧ k < w'.heap.size) ∧ ExtB (fun k => k = B2) w2_ w') ?_ ?_ ?_ ?_ ?_ ?_
 ·have h1 := hF k hk
  have h2 := X.size
  exact ⟨by omega, by omega⟩
 ·intro G w2 e h1; exact ⟨⟨_, Z2.up e, World.ownsRow_nil _ _ _ _, fun k hk => by simp [Value.ownBlock] at hk⟩, h1, ExtB.of_ext e⟩
 ·rintro G ys u ⟨-, -, h⟩; exact h
 ·rintro G ys u ⟨-, h, -⟩ k hk; exact (h k hk).1
 ·rintro G ys u u' ⟨⟨y, h2, ho, hn⟩, h1, e1⟩ e2
  exact ⟨⟨y, h2.ext e2 (fun h => by rcases h with h | h | h; omega; omega; have := h1 _ h; omega), ownsRow_ext ho e2 (fun k hk h => by have := ownsRow_ge ho hk; have := hn k hk; rcases h with h | h | h; omega; omega; exact this h), hn⟩, fun k hk => by have := e2.size; have := h1 k hk; omega, e1.write e2 (by intro k hk hlt; rcases hk with h | h | h; omega; omega; have := h1 _ h; omega)⟩
 ·rintro G ys x zs u lp hx ⟨⟨y, h2, ho, hn⟩, hit, e1⟩ hL hs
  have hlen := hl _ hx
  simp only [List.length_append, List.length_cons] at hlen
  have hLl := lt_of_get hL.l
  obtain ⟨dy, cy, rfl⟩ := isSl_slice (isSl_own ho)
  simp only [parEnv]
  repeat' (first | refine RunE.region ?_)
  refine RunL.alloc Tryz.tOk rfl rfl rfl fun B5 u1 a1 => ?_
  have Z5 : Blk u1 B5 _ 240 := a1.at_
  have e5 := a1.eq
  skip
  refine RunL.store Tryz.tOk rfl rfl rfl rfl rfl Z5 rfl rfl fun u2 t2 => ?_
  replace Z5 : Blk u2 B5 (Seat.cells x) 240 := t2.at_
  have XA : Ext u u2 := a1.ext.write t2.ext (by intro k hk hlt; omega)
  clear a1 t2
  repeat' (first | refine RunL.nil ?_)
  refine RunE.beginR (hL.up XA) hs (by omega) fun u3 t3 hL3 => ?_
  have Y2 := (h2.up XA).ext t3 (by omega)
  have Y5 := Z5.ext t3 (by omega)
  have hO := ownsRow_ext (ownsRow_ext ho XA (fun _ _ h => h)) t3 (fun k hk h => by have := ownsRow_ge ho hk; omega)
  have XB : ExtB (fun k => k = B2) w2_ u3 := (e1.trans (ExtB.of_ext XA)).write t3 (by intro k hk hlt; omega)
  have hs3 : ∀ it, G it → it < u3.heap.size := fun it hg => by have := XA.size; have := t3.size; have := hit it hg; omega
  have hk3 : ∀ it, G it → u3.heap[it]? = u.heap[it]? := fun it hg => (t3.block it (by have := XA.size; have := hit it hg; omega) (by have := hit it hg; omega)).trans (XA.block it (hit it hg).2 id)
  have hs3' : w2_.heap.size + 2 ≤ u3.heap.size := by have := XA.size; have := t3.size; have := lt_of_get hL.l; have := e1.size; omega
  clear h2 ho Z5 XA t3 hL e1
  repeat' (first | refine RunLN.any ?_ | refine RunL.evV rfl rfl rfl (OpV.load1 Tryz.tOk rfl rfl rfl (Blk.cell Y2 rfl)) ?_ | refine RunL.evV rfl rfl rfl (OpV.loadN Tryz.tOk rfl rfl rfl rfl (Blk.row Y5)) ?_ | refine RunE.region ?_ | refine RunE.block ?_)
  refine RunL.ex rfl rfl rfl (OpE.buildSl Tryz.tOk [.agg (Seat.cells x).toArray] rfl rfl rfl rfl rfl rfl (by simp [Value.cells, Seat.cells])) ?_
  rintro _ u4 ⟨B, rfl, a4⟩
  have hx1 : IsL u4 Seat.cells 2 (.slice (some ⟨B, 0, none⟩) 1 1) [x] := by
   have := isSl_added (n := 1) (sz := 2) a4 rfl
   simpa [IsL, flat, cellsAll, Value.cells] using this
  replace hO := ownsRow_ext hO a4.ext (fun _ _ h => h)
  have hk4 : ∀ it, G it → u4.heap[it]? = u.heap[it]? := fun it hg => (a4.ext.block it (hs3 it hg) id).trans (hk3 it hg)
  skip
  refine RunL.ex rfl rfl rfl (OpE.append' Tryz.tOk rfl rfl rfl rfl rfl rfl hO hx1 (flat_plain encST [x]) (by show _ * 16 ≤ _; simp only [List.length_singleton]; omega) (by simp only [List.length_singleton]; omega) (by have := a4.ext.size; omega)) ?_
  rintro y' u5 ⟨O5, E5, hown⟩
  obtain ⟨b5, o5, c5, rfl, -, -, -⟩ := (isSl_own O5).held (by simp only [List.length_singleton]; omega)
  have hne : ∀ k, (Value.slice dy ys.length cy).ownBlock = some k → w2_.heap.size + 2 ≤ k := fun k hk => ownsRow_ge hO hk
  have hs4 : ∀ it, G it → it < u4.heap.size := fun it hg => by have := a4.ext.size; have := hs3 it hg; omega
  have hk5 : ∀ it, G it → u5.heap[it]? = u.heap[it]? := fun it hg => (E5.block it (hs4 it hg) (fun h => hn it h hg)).trans (hk4 it hg)
  have hn5 : ∀ k, (Value.slice (some ⟨b5, o5, none⟩) (ys.length + [x].length) c5).ownBlock = some k → ¬ G k := fun k hk e => hn _ (hown _ hk (hs4 k e)) e
  replace Y2 := (Y2.up a4.ext).ext E5 (fun h => by have := hne _ h; omega)
  replace hL3 := (hL3.up a4.ext).ext E5 (fun h => by have := hne _ h; omega) (fun h => by have := hne _ h; omega)
  replace XB : ExtB (fun k => k = B2) w2_ u5 := (XB.trans (ExtB.of_ext a4.ext)).write E5 (by intro k hk hlt; have := hne k hk; omega)
  have hs5 : ∀ it, G it → it < u5.heap.size := fun it hg => by have := E5.size; have := hs4 it hg; omega
  clear hO E5 a4 hne hk3 hk4
  skip
  refine RunL.store Tryz.tOk rfl rfl rfl rfl rfl Y2 rfl rfl fun u6 t6 => ?_
  replace Y2 : Blk u6 B2 [.slice (some ⟨b5, o5, none⟩) (ys.length + [x].length) c5] 252 := t6.at_
  replace hL3 := hL3.ext t6.ext (by omega) (by omega)
  replace XB : ExtB (fun k => k = B2) w2_ u6 := XB.trans t6.ext
  replace O5 := ownsRow_ext O5 t6.ext (fun k hk h => by have := ownsRow_ge O5 hk; omega)
  repeat' (first | refine RunL.nil ?_ | refine RunE.inBlock ?_)
  refine RunE.endR ⟨⟨⟨_, Y2, ?_, hn5⟩, fun k hk => ⟨(hit k hk).1, by have := t6.ext.size; have := hs5 k hk; omega⟩, XB⟩, fun it hg => (t6.ext.block it (hs5 it hg) (by have := hit it hg; omega)).trans (hk5 it hg)⟩ hL3
  rw [List.length_append, flat_append]
  exact O5
 ·rintro G ys w' hp ⟨⟨y, h2, ho, hn⟩, hit, e1⟩ hD
  have X8 : Ext w w' := X.write e1 (by intro k hk hlt; omega)
  obtain ⟨dy, cy, rfl⟩ := isSl_slice (isSl_own ho)
  repeat' (first | refine RunLN.any ?_ | refine RunL.ev Tryz.tOk rfl rfl rfl ?_ | refine RunL.evV rfl rfl rfl (OpV.load1 Tryz.tOk rfl rfl rfl (Blk.cell h2 rfl)) ?_ | refine RunE.seq ?_ | refine RunE.region ?_ | refine RunL.nil ?_ | refine RunE.inBlock ?_)
  refine RunE.retFn1 Tryz.func208 hD fun w9 t9 => ?_
  have hX := X.size
  exact ⟨_, .tmp rfl .nil, ⟨ys, hp, ownsRow_base (ownsRow_ext ho t9.ext (fun k hk h => by have := ownsRow_ge ho hk; omega)) (by omega)⟩, X8.write t9.ext (by intro k hk hlt; omega)⟩
theorem stcollect_ok (ok : List Seat → Prop) (f : Value) (F : Nat → Prop) (w : World) (hG : GivesK Tryz.prog f ok (fun s => [.agg (Seat.cells s).toArray]) w F) (hF : ∀ k, F k → k < w.heap.size) (hl : ∀ ys, ok ys → ys.length ≤ 100000) :
  Rets Tryz.prog 198 [f] w fun r w' => (∃ ys : List Seat, ok ys ∧ w'.ownsRow w.heap.size 240 2 r ys.length (flat Seat.cells ys)) ∧ Ext w w' := by
 refine RetsX.of (nt := 5) Tryz.func198 (by kernel_rfl) rfl rfl (by simp) (by simp only [argEnv]; rfl) ?_
 repeat' (first | refine RunLN.any ?_ | refine RunL.ev Tryz.tOk rfl rfl rfl ?_ | refine RunE.seq ?_ | refine RunE.region ?_ | refine RunL.nil ?_)
 refine RunL.call rfl rfl rfl (stappendSeq_ok ok f F w hG hF hl) ?_
 rintro r w1 ⟨h1, h2⟩
 repeat' (first | refine RunLN.any ?_ | refine RunL.ev Tryz.tOk rfl rfl rfl ?_ | refine RunL.nil ?_)
 exact RunE.retFn Tryz.func198 (.tmp rfl .nil) ⟨h1, h2⟩
end Go.Sg
end
section
set_option maxRecDepth 4000
namespace Go.Proofs
open Go.Shelf Go.RowKit Go.Lib Go.Sort
def Tryz.sortSt_ren : Go.Shelf.Ren := ⟨fun | 6 => 199 | 15 => 65 | 14 => 209 | 28 => 104 | 29 => 105 | 20 => 213 | 21 => 214 | 22 => 215 | 23 => 216 | 24 => 217 | 25 => 218 | 26 => 219 | 27 => 220 | 46 => 222 | 47 => 148 | 48 => 149 | 49 => 223 | 50 => 224 | 57 => 226 | n => n, fun | 22 => 252 | 24 => 240 | 25 => 251 | 3 => 3 | 39 => 129 | 0 => 0 | 53 => 192 | 55 => 194 | 4 => 4 | 46 => 184 | 45 => 183 | 50 => 189 | 5 => 5 | 9 => 9 | 66 => 229 | 70 => 233 | 76 => 273 | 77 => 99 | n => n, fun | n => n⟩
theorem Tryz.sortSt : Go.Proofs.SlLaysF0.n6 Tryz.prog Tryz.sortSt_ren where
 mixed := by kernel_rfl
 f6 := ⟨Tryz.f199.name, by kernel_rfl, Tryz.func199.trans (congrArg some (by kernel_rfl))⟩
 f14 := ⟨Tryz.f209.name, by kernel_rfl, Tryz.func209.trans (congrArg some (by kernel_rfl))⟩
 f15 := Tryz.func65.trans (congrArg some (by kernel_rfl))
 f20 := ⟨Tryz.f213.name, by kernel_rfl, Tryz.func213.trans (congrArg some (by kernel_rfl))⟩
 f21 := ⟨Tryz.f214.name, by kernel_rfl, Tryz.func214.trans (congrArg some (by kernel_rfl))⟩
 f22 := ⟨Tryz.f215.name, by kernel_rfl, Tryz.func215.trans (congrArg some (by kernel_rfl))⟩
 f23 := ⟨Tryz.f216.name, by kernel_rfl, Tryz.func216.trans (congrArg some (by kernel_rfl))⟩
 f24 := ⟨Tryz.f217.name, by kernel_rfl, Tryz.func217.trans (congrArg some (by kernel_rfl))⟩
 f25 := ⟨Tryz.f218.name, by kernel_rfl, Tryz.func218.trans (congrArg some (by kernel_rfl))⟩
 f26 := ⟨Tryz.f219.name, by kernel_rfl, Tryz.func219.trans (congrArg some (by kernel_rfl))⟩
 f27 := ⟨Tryz.f220.name, by kernel_rfl, Tryz.func220.trans (congrArg some (by kernel_rfl))⟩
 f28 := Tryz.func104.trans (congrArg some (by kernel_rfl))
 f29 := Tryz.func105.trans (congrArg some (by kernel_rfl))
 f46 := ⟨Tryz.f222.name, by kernel_rfl, Tryz.func222.trans (congrArg some (by kernel_rfl))⟩
 f47 := Tryz.func148.trans (congrArg some (by kernel_rfl))
 f48 := Tryz.func149.trans (congrArg some (by kernel_rfl))
 f49 := ⟨Tryz.f223.name, by kernel_rfl, Tryz.func223.trans (congrArg some (by kernel_rfl))⟩
 f50 := ⟨Tryz.f224.name, by kernel_rfl, Tryz.func224.trans (congrArg some (by kernel_rfl))⟩
 f57 := ⟨Tryz.f226.name, by kernel_rfl, Tryz.func226.trans (congrArg some (by kernel_rfl))⟩
 t0 := Tryz.underlying0
 a0 := Tryz.isAgg0
 z0 := Tryz.sizeOf0
 v0 := Tryz.zeroValue0
 t3 := Tryz.underlying3
 a3 := Tryz.isAgg3
 z3 := Tryz.sizeOf3
 v3 := Tryz.zeroValue3
 t4 := Tryz.underlying4
 a4 := Tryz.isAgg4
 z4 := Tryz.sizeOf4
 v4 := Tryz.zeroValue4
 t5 := Tryz.underlying5
 a5 := Tryz.isAgg5
 z5 := Tryz.sizeOf5
 v5 := Tryz.zeroValue5
 t9 := Tryz.underlying9
 a9 := Tryz.isAgg9
 z9 := Tryz.sizeOf9
 v9 := Tryz.zeroValue9
 t22 := Tryz.underlying252
 a22 := Tryz.isAgg252
 z22 := Tryz.sizeOf252
 v22 := Tryz.zeroValue252
 t25 := Tryz.underlying251
 a25 := Tryz.isAgg251
 z25 := Tryz.sizeOf251
 v25 := Tryz.zeroValue251
 t39 := Tryz.underlying129
 a39 := Tryz.isAgg129
 z39 := Tryz.sizeOf129
 v39 := Tryz.zeroValue129
 t45 := Tryz.underlying183
 a45 := Tryz.isAgg183
 z45 := Tryz.sizeOf183
 v45 := Tryz.zeroValue183
 t46 := Tryz.underlying184
 a46 := Tryz.isAgg184
 z46 := Tryz.sizeOf184
 v46 := Tryz.zeroValue184
 t50 := Tryz.underlying189
 a50 := Tryz.isAgg189
 z50 := Tryz.sizeOf189
 v50 := Tryz.zeroValue189
 t53 := Tryz.underlying192
 a53 := Tryz.isAgg192
 z53 := Tryz.sizeOf192
 v53 := Tryz.zeroValue192
 t55 := Tryz.underlying194
 a55 := Tryz.isAgg194
 z55 := Tryz.sizeOf194
 v55 := Tryz.zeroValue194
 t66 := Tryz.underlying229
 a66 := Tryz.isAgg229
 z66 := Tryz.sizeOf229
 v66 := Tryz.zeroValue229
 t70 := Tryz.underlying233
 a70 := Tryz.isAgg233
 z70 := Tryz.sizeOf233
 v70 := Tryz.zeroValue233
 t76 := Tryz.underlying273
 a76 := Tryz.isAgg273
 z76 := Tryz.sizeOf273
 v76 := Tryz.zeroValue273
 t77 := Tryz.underlying99
 a77 := Tryz.isAgg99
 z77 := Tryz.sizeOf99
 v77 := Tryz.zeroValue99
end Go.Proofs
end
section
set_option maxRecDepth 4000
namespace Go.Off
open Go.Rn Go.Rec Go.Sort Go.Best Go.Proofs
def cmpS (a b : Seat) : Int := cmpI a.2 b.2
theorem lt_seat (x y : Seat) : ltOf cmpS x y = decide (x.2 < y.2) := by
 unfold ltOf
 rw [Bool.eq_iff_iff, decide_eq_true_eq, decide_eq_true_eq]
 exact cmpI_neg
theorem swo_seat : SWO (ltOf cmpS) where
 irrefl x := by rw [lt_seat]; exact decide_eq_false (by omega)
 trans x y z h1 h2 := by
  rw [lt_seat] at *
  have h1 := of_decide_eq_true h1
  have h2 := of_decide_eq_true h2
  exact decide_eq_true (by omega)
 ntrans x y z h1 h2 := by
  rw [lt_seat] at *
  have h1 := of_decide_eq_false h1
  have h2 := of_decide_eq_false h2
  exact decide_eq_false (by omega)
theorem sorted_seat {f : List Seat} {d' : Array Seat} (hp : PermIn 0 f.toArray.size f.toArray d') (hd : SortedIn (ltOf cmpS) 0 f.toArray.size d') : d'.toList.Perm f ∧ d'.toList.Pairwise fun a b => ¬ b.2 < a.2 := by
 obtain ⟨h1, -, h3⟩ := hp
 have hperm : d'.toList.Perm f := by
  have e1 : d'.extract 0 f.toArray.size = d' := by rw [← h1, Array.extract_size]
  rw [e1] at h3
  simpa using h3
 refine ⟨hperm, ?_⟩
 rw [List.pairwise_iff_getElem]
 intro i j hi hj hij
 simp only [Array.length_toList] at hi hj
 have hsz : d'.size = f.length := by simpa using h1
 have h := hd i j (Nat.zero_le _) hij (by simpa [hsz] using hj)
 rw [lt_seat] at h
 have hno := of_decide_eq_false h
 simp only [Array.getElem_toList]
 rw [getElem!_pos d' i (by omega), getElem!_pos d' j (by omega)] at hno
 exact hno
end Go.Off
namespace Go.Sg
open Go.Rn Go.Proofs Go.Off Go.Rec Go.Best Go.Sort
section
attribute [local irreducible] Go.Rn.RetsX Go.Rn.RunLN Go.Rn.AsyN Go.Rn.RunL Go.Rn.RunE Go.Rn.Asy Go.Rn.OpV Go.Rn.OpE Go.Rn.ExecE
theorem bySeat_ok (x y : Seat) (w : World) : Rets Tryz.prog 165 [.agg (Seat.cells x).toArray, .agg (Seat.cells y).toArray] w fun v w' => v = .int .i64 (cmpS x y) ∧ Ext w w' := by
 refine RetsX.of (nt := 10) Tryz.func165 (by kernel_rfl) rfl rfl (by simp) (by simp only [argEnv]; rfl) ?_
 have X := ExtB.refl (fun _ => False) w
 repeat' (first | refine RunE.seq ?_ | refine RunE.region ?_)
 refine RunL.box rfl rfl rfl fun B2 w2_ a_ => ?_
 have Z2 : Blk w2_ B2 (Seat.cells x) 240 := a_.at_
 have gB2 := a_.ge X
 replace X := X.trans a_.ext
 clear a_
 skip
 refine RunL.box rfl rfl rfl fun B3 w3_ a_ => ?_
 have Z3 : Blk w3_ B3 (Seat.cells y) 240 := a_.at_
 have gB3 := a_.ge X
 have n2_3 : B2 ≠ B3 := by have := Z2.lt; have := a_.eq; omega
 have n3_2 : B3 ≠ B2 := Ne.symm n2_3
 replace Z2 := Z2.up a_.ext
 replace X := X.trans a_.ext
 clear a_
 repeat' (first | refine RunLN.int (by (first | exact wr_i64 (by omega) (by omega) | exact wm_i64 (by omega) | exact wq_i64 (by omega) (by omega) (by omega) | rfl)) ?_ | refine RunLN.any ?_ | refine RunL.ev Tryz.tOk rfl rfl rfl ?_ | refine RunL.evV rfl rfl rfl (OpV.load1 Tryz.tOk rfl rfl rfl (Blk.cell Z2 rfl)) ?_ | refine RunL.evV rfl rfl rfl (OpV.load1 Tryz.tOk rfl rfl rfl (Blk.cell Z3 rfl)) ?_ | refine RunL.callN rfl rfl rfl (compare_ok _ _ _) ?_ | refine RunE.seq ?_ | refine RunE.region ?_ | refine RunL.nil ?_)
 exact RunE.retFn Tryz.func165 (.tmp rfl .nil) ⟨rfl, X⟩
end
theorem stSort_ok (f : List Seat) (v : Value) (base : Nat) (w : World) (hO : w.ownsRow base 240 2 v f.length (flat Seat.cells f)) (hl : f.length ≤ 100000) :
  Rets Tryz.prog 199 [v, .func (.func 165) #[] #[]] w fun _ w' => (∃ s : List Seat, s.Perm f ∧ (s.Pairwise fun a b => ¬ b.2 < a.2) ∧ IsL w' Seat.cells 2 v s) ∧ ExtB (fun k => base ≤ k) w w' := by
 by_cases hn : f.length = 0
 ·obtain rfl := List.length_eq_zero_iff.1 hn
  obtain ⟨d, c, rfl⟩ := isSl_slice (isSl_own hO)
  have hc := AnyF.slices_SortFunc_none { Tryz.sortSt with } d c (.func (.func 165) #[] #[]) w
  refine ⟨⟨_, Tryz.func199, by kernel_rfl, by kernel_rfl⟩, hc.mono ?_⟩
  rintro e w' ⟨rfl, rfl⟩
  exact ⟨⟨[], List.Perm.refl _, List.Pairwise.nil, isSl_own hO⟩, ExtB.refl _ _⟩
 ·have hsl := isSl_own hO
  rcases hO.2 with ⟨-, h0⟩ | ⟨g, cap, cur, rfl, hbg, hg, hnc, hcm, hcs, htake⟩
  ·exact absurd h0 hn
  have hgl : g < w.heap.size := lt_of_get hg
  have hH : HoldsK Seat.cells 2 w g 0 f.toArray := holds_of encST (base := base) (n := f.length) (cap := cap) (e := 240) hO (by simp)
  have hcmp : CmpLays Tryz.prog 165 #[] Seat.cells 2 cmpS g 0 f.toArray.size w := fun m os dk _ x y => by
   refine (bySeat_ok x y _).2.mono fun e w' h => ?_
   cases e with
   | returned v => obtain ⟨rfl, hx⟩ := h; exact ⟨rfl, ext_grow hx⟩
   | panicked ch => exact h.elim
   | outgrown => exact h.elim
  have eg : ∀ args w, (callFunc 165 args).run Tryz.prog w = .ok (.enter 165 args) w := fun args w => run_callFunc ⟨_, Tryz.func165, by kernel_rfl, by kernel_rfl⟩ args
  have hc := AnyQ.slices_SortFunc Tryz.sortSt 2 (fun w => ?_) (fun w => ?_) Seat.cells (fun _ => rfl) ?_ cmpS swo_seat 165 #[] g 0 cap f.toArray w eg hcmp hH hgl (by simp; omega)
  ·refine ⟨⟨_, Tryz.func199, by kernel_rfl, by kernel_rfl⟩, ?_⟩
   have hsz : f.toArray.size = f.length := by simp
   rw [hsz] at hc
   refine hc.mono ?_
   rintro e w' ⟨rfl, d', n, os, hp, hd, rfl⟩
   rw [← hsz] at hp hd
   obtain ⟨h1, h2⟩ := sorted_seat hp hd
   have hd' : d'.size = f.length := by have := hp.1; simpa using this
   refine ⟨⟨d'.toList, h1, h2, ?_⟩, ext_sortWorld.mono fun k _ h => by subst h; exact hbg⟩
   have := isL_holds (cap := cap) encST (holdsK_sortWorldK_c Seat.cells 2 w g 0 f.toArray d' n os hH hgl (by simp [hd'])) (by omega)
   rwa [hd'] at this
  ·obtain ⟨d, hd, ha⟩ := TI.und (Tryz.tOk.get 240 _ rfl)
   exact (Go.Rn.run_isAgg hd).trans (by rw [ha])
  ·obtain ⟨j, hj, hsz, -⟩ := TI.info (Tryz.tOk.get 240 _ rfl)
   exact (Go.Rn.run_sizeOf hj).trans (by rw [hsz])
  ·intro x v hv
   exact one_plain (List.all_eq_true.1 (encST.plain x) v hv)
section
attribute [local irreducible] Go.Rn.RetsX Go.Rn.RunLN Go.Rn.AsyN Go.Rn.RunL Go.Rn.RunE Go.Rn.Asy Go.Rn.OpV Go.Rn.OpE Go.Rn.ExecE
theorem stSorted_ok (xs : List Seat) (f : Value) (F : Nat → Prop) (w : World) (hG : GivesK Tryz.prog f (fun ys => ys.Perm xs) (fun s => [.agg (Seat.cells s).toArray]) w F) (hF : ∀ k, F k → k < w.heap.size) (hl : xs.length ≤ 100000) :
  Rets Tryz.prog 166 [f, .func (.func 165) #[] #[]] w fun r w' => (∃ s : List Seat, s.Perm xs ∧ (s.Pairwise fun a b => ¬ b.2 < a.2) ∧ IsL w' Seat.cells 2 r s) ∧ (∀ k, r.ownBlock = some k → w.heap.size ≤ k) ∧ Ext w w' := by
 refine RetsX.of (nt := 12) Tryz.func166 (by kernel_rfl) rfl rfl (by simp) (by simp only [argEnv]; rfl) ?_
 repeat' (first | refine RunLN.any ?_ | refine RunL.ev Tryz.tOk rfl rfl rfl ?_ | refine RunE.seq ?_ | refine RunE.region ?_ | refine RunL.nil ?_)
 refine RunL.call rfl rfl rfl (stcollect_ok (fun ys => ys.Perm xs) f F w hG hF (fun ys h => by rw [h.length_eq]; exact hl)) ?_
 rintro r w1 ⟨⟨ys, hp, h1⟩, h2⟩
 repeat' (first | refine RunLN.any ?_ | refine RunL.ev Tryz.tOk rfl rfl rfl ?_ | refine RunE.seq ?_ | refine RunE.region ?_ | refine RunL.nil ?_)
 refine RunL.call rfl rfl rfl (stSort_ok ys r w.heap.size w1 h1 (by rw [hp.length_eq]; exact hl)) ?_
 rintro _ w2 ⟨⟨s, h3, h4, h5⟩, h6⟩
 repeat' (first | refine RunLN.any ?_ | refine RunL.ev Tryz.tOk rfl rfl rfl ?_ | refine RunE.seq ?_ | refine RunE.region ?_ | refine RunL.nil ?_)
 exact RunE.retFn Tryz.func166 (.tmp rfl .nil) ⟨⟨s, h3.trans hp, h4, h5⟩, fun k hk => ownsRow_ge h1 hk, h2.write h6 (by intro k hk hlt; omega)⟩
end
end Go.Sg
end
section
set_option maxRecDepth 4000
namespace Go.Sg
open Go.Rn Go.Proofs Go.Off Go.Rec Go.Best
attribute [local irreducible] Go.Rn.RetsX Go.Rn.RunLN Go.Rn.AsyN Go.Rn.RunL Go.Rn.RunE Go.Rn.Asy Go.Rn.OpV Go.Rn.OpE Go.Rn.ExecE
theorem standing_ok (l : List Ap) (v : Value) (t time : Int) (w : World) (hv : LA w v l) (hl : l.length < 9223372036854775808) :
    Rets Tryz.prog 129 [v, .int .i64 t, .int .i64 time] w fun r w' => (∃ R, r = .map (some R) ∧ MapS w' R (standing l t time)) ∧ Ext w w' := by
  refine RetsX.of (nt := 12) Tryz.func129 (by kernel_rfl) rfl rfl (by simp) (by simp only [argEnv]; rfl) ?_
  have X := ExtB.refl (fun _ => False) w
  repeat' (first | refine RunE.seq ?_ | refine RunE.region ?_)
  refine RunL.box rfl rfl rfl fun B4 w4_ a_ => ?_
  have Z4 : Blk w4_ B4 ([.int .i64 t]) 3 := a_.at_
  have gB4 := a_.ge X
  replace X := X.trans a_.ext
  clear a_
  skip
  refine RunL.box rfl rfl rfl fun B5 w5_ a_ => ?_
  have Z5 : Blk w5_ B5 ([.int .i64 time]) 3 := a_.at_
  have gB5 := a_.ge X
  have n4_5 : B4 ≠ B5 := by have := Z4.lt; have := a_.eq; omega
  have n5_4 : B5 ≠ B4 := Ne.symm n4_5
  replace Z4 := Z4.up a_.ext
  replace X := X.trans a_.ext
  clear a_
  repeat' (first | refine RunLN.any ?_ | refine RunL.ev Tryz.tOk rfl rfl rfl ?_ | refine RunE.seq ?_ | refine RunE.region ?_ | refine RunL.nil ?_)
  refine RunL.call rfl rfl rfl (keep_ok l v t time B4 B5 _ (hv.up X) hl Z4 Z5) ?_
  rintro _ w9 ⟨⟨R, rfl, hM⟩, Xa⟩
  repeat' (first | refine RunLN.any ?_ | refine RunL.ev Tryz.tOk rfl rfl rfl ?_ | refine RunL.nil ?_)
  exact RunE.retFn Tryz.func129 (.tmp rfl .nil) ⟨⟨R, rfl, hM⟩, X.trans Xa⟩
theorem argAll {a b c d : Bool} (h : (a && b && c && d) = true) : a = true ∧ b = true ∧ c = true ∧ d = true := by
  cases a <;> cases b <;> cases c <;> cases d <;> simp at h <;> simp
theorem argAny {a b c d : Bool} (h : (a && b && c && d) = false) (ha : a = true) (hb : b = true) (hc : c = true) (hd : d = true) : False := by
  subst ha; subst hb; subst hc; subst hd; simp at h
theorem oholds_ok (l : List Ap) (v : Value) (o p t time : Int) (w : World) (hv : LA w v l) (hl : l.length < 9223372036854775808) :
    Rets Tryz.prog 124 [v, .int .i64 o, .int .i64 p, .int .i64 t, .int .i64 time] w fun r w' => r = .tuple #[.int .i64 (holdV l o p t time).1, .int .i64 (holdV l o p t time).2.1, .bool (holdV l o p t time).2.2, .int .i64 (holdE l o p t time)] ∧ Ext w w' := by
  refine RetsX.of (nt := 60) Tryz.func124 (by kernel_rfl) rfl rfl (by simp) (by simp only [argEnv]; rfl) ?_
  have X := ExtB.refl (fun _ => False) w
  repeat' (first | with_reducible refine RunLN.boolF rfl ?_ | refine RunLN.int (by (first | exact wr_i64 (by omega) (by omega) | exact wm_i64 (by omega) | exact wq_i64 (by omega) (by omega) (by omega) | rfl)) ?_ | refine RunLN.any ?_ | refine RunL.ev Tryz.tOk rfl rfl rfl ?_ | refine RunE.seq ?_ | refine RunE.region ?_ | refine RunL.nil ?_)
  refine RunL.call rfl rfl rfl (ocheck_ok l v _ (hv.up X) hl) ?_
  rintro _ _ ⟨rfl, Xa_⟩
  replace X := X.trans Xa_
  clear Xa_
  by_cases hc : chkA l = 0
  · have hE : holdE l o p t time = if argO o && argP p && argT t && argT time then 0 else 1 := if_pos hc
    rw [hc]
    cases hA : (argO o && argP p && argT t && argT time) with
    | true =>
      have he : holdE l o p t time = 0 := by rw [hE, hA]; rfl
      have hV0 : holdV l o p t time = answer (held (best l o p t time)) := if_pos he
      obtain ⟨a1, a2, a3, a4⟩ := argAll hA
      have hget := standing_get l t time o p
      repeat' (first | with_reducible refine RunLN.boolF rfl ?_ | refine RunLN.boolT (by assumption) ?_ | refine RunLN.int (by (first | exact wr_i64 (by omega) (by omega) | exact wm_i64 (by omega) | exact wq_i64 (by omega) (by omega) (by omega) | rfl)) ?_ | refine RunLN.any ?_ | refine RunL.ev Tryz.tOk rfl rfl rfl ?_ | refine RunL.callN rfl rfl rfl (oisOffice_ok _ _) ?_ | refine RunL.callN rfl rfl rfl (oisPerson_ok _ _) ?_ | refine RunL.callN rfl rfl rfl (oisTime_ok _ _) ?_ | refine RunE.condF rfl rfl ?_ | refine RunE.seq ?_ | refine RunE.region ?_ | refine RunL.nil ?_ | refine RunE.skip ?_)
      refine RunL.call rfl rfl rfl (standing_ok l v t time _ (hv.up X) hl) ?_
      rintro _ _ ⟨⟨R, rfl, hM⟩, Xa_⟩
      replace X := X.trans Xa_
      clear Xa_
      have hg2 := mapV_get (o, p) (standing l t time)
      rw [hget] at hg2
      repeat' (first | refine RunLN.int (by (first | exact wr_i64 (by omega) (by omega) | exact wm_i64 (by omega) | exact wq_i64 (by omega) (by omega) (by omega) | rfl)) ?_ | refine RunLN.any ?_ | refine RunL.ev Tryz.tOk rfl rfl rfl ?_)
      refine RunL.evV rfl rfl rfl (OpV.lookup2 (kv := seatV) (good := fun _ => True) (k := (o, p)) (z := apV zeroP) Tryz.underlying210 seatKey (by kernel_rfl) rfl rfl trivial hM) ?_
      rw [hg2]
      cases hb : best l o p t time with
      | none =>
        have hV : holdV l o p t time = (0, 0, false) := by rw [hV0, hb]; rfl
        simp only [Option.map_none, Option.getD_none, Option.isSome_none]
        repeat' (first | with_reducible refine RunLN.boolF rfl ?_ | refine RunLN.any ?_ | refine RunL.ev Tryz.tOk rfl rfl rfl ?_)
        refine RunL.alloc Tryz.tOk rfl rfl rfl fun B14 w14_ a_ => ?_
        have Z14 : Blk w14_ B14 (zeroP.cells) 131 := a_.at_
        have gB14 := a_.ge X
        replace X := X.trans a_.ext
        clear a_
        skip
        refine RunL.store Tryz.tOk rfl rfl rfl rfl rfl Z14 rfl rfl fun w_ t_ => ?_
        replace X := X.own t_.ext gB14
        replace Z14 : Blk w_ B14 (zeroP.cells) 131 := t_.at_
        clear t_
        repeat' (first | with_reducible refine RunLN.boolT rfl ?_ | with_reducible refine RunLN.boolF rfl ?_ | refine RunLN.int (by (first | exact wr_i64 (by omega) (by omega) | exact wm_i64 (by omega) | exact wq_i64 (by omega) (by omega) (by omega) | rfl)) ?_ | refine RunL.ev Tryz.tOk rfl rfl rfl ?_ | refine RunL.unwantedD rfl rfl ?_ | refine RunE.condT rfl rfl ?_ | refine RunE.seq ?_ | refine RunE.region ?_ | refine RunL.nil ?_)
        refine RunE.retFn Tryz.func124 (.tmp rfl (.tmp rfl (.tmp rfl (.tmp rfl .nil)))) ⟨?_, X⟩
        rw [he, hV]; rfl
      | some x =>
        simp only [Option.map_some, Option.getD_some, Option.isSome_some]
        obtain ⟨no, at_, known, office, person, weight, gone⟩ := x
        cases gone with
        | true =>
          have hV : holdV l o p t time = (0, 0, false) := by rw [hV0, hb]; rfl
          repeat' (first | with_reducible refine RunLN.boolT rfl ?_ | refine RunLN.any ?_ | refine RunL.ev Tryz.tOk rfl rfl rfl ?_)
          refine RunL.alloc Tryz.tOk rfl rfl rfl fun B14 w14_ a_ => ?_
          have Z14 : Blk w14_ B14 (zeroP.cells) 131 := a_.at_
          have gB14 := a_.ge X
          replace X := X.trans a_.ext
          clear a_
          skip
          refine RunL.store Tryz.tOk rfl rfl rfl rfl rfl Z14 rfl rfl fun w_ t_ => ?_
          replace X := X.own t_.ext gB14
          replace Z14 : Blk w_ B14 (Ap.cells ⟨no, at_, known, office, person, weight, true⟩) 131 := t_.at_
          clear t_
          repeat' (first | with_reducible refine RunLN.boolT rfl ?_ | with_reducible refine RunLN.boolF rfl ?_ | refine RunLN.int (by (first | exact wr_i64 (by omega) (by omega) | exact wm_i64 (by omega) | exact wq_i64 (by omega) (by omega) (by omega) | rfl)) ?_ | refine RunLN.any ?_ | refine RunL.ev Tryz.tOk rfl rfl rfl ?_ | refine RunL.evV rfl rfl rfl (OpV.load1 Tryz.tOk rfl rfl rfl (Blk.cell Z14 rfl)) ?_ | refine RunE.condT rfl rfl ?_ | refine RunE.seq ?_ | refine RunE.region ?_ | refine RunL.nil ?_)
          refine RunE.retFn Tryz.func124 (.tmp rfl (.tmp rfl (.tmp rfl (.tmp rfl .nil)))) ⟨?_, X⟩
          rw [he, hV]; rfl
        | false =>
          have hV : holdV l o p t time = (no, weight, true) := by rw [hV0, hb]; rfl
          repeat' (first | with_reducible refine RunLN.boolT rfl ?_ | refine RunLN.any ?_ | refine RunL.ev Tryz.tOk rfl rfl rfl ?_)
          refine RunL.alloc Tryz.tOk rfl rfl rfl fun B14 w14_ a_ => ?_
          have Z14 : Blk w14_ B14 (zeroP.cells) 131 := a_.at_
          have gB14 := a_.ge X
          replace X := X.trans a_.ext
          clear a_
          skip
          refine RunL.store Tryz.tOk rfl rfl rfl rfl rfl Z14 rfl rfl fun w_ t_ => ?_
          replace X := X.own t_.ext gB14
          replace Z14 : Blk w_ B14 (Ap.cells ⟨no, at_, known, office, person, weight, false⟩) 131 := t_.at_
          clear t_
          repeat' (first | with_reducible refine RunLN.boolT rfl ?_ | with_reducible refine RunLN.boolF rfl ?_ | refine RunLN.any ?_ | refine RunL.ev Tryz.tOk rfl rfl rfl ?_ | refine RunL.evV rfl rfl rfl (OpV.load1 Tryz.tOk rfl rfl rfl (Blk.cell Z14 rfl)) ?_ | refine RunE.condF rfl rfl ?_ | refine RunE.seq ?_ | refine RunE.region ?_ | refine RunL.nil ?_ | refine RunE.skip ?_)
          refine RunE.draw (fun _ => False) mix ?_
          intro wd_ Xd_
          repeat' (first | with_reducible refine AsyN.boolT rfl ?_ | refine AsyN.int (by (first | exact wr_i64 (by omega) (by omega) | exact wm_i64 (by omega) | exact wq_i64 (by omega) (by omega) (by omega) | rfl)) ?_ | refine AsyN.any ?_ | refine Asy.ev Tryz.tOk rfl rfl rfl ?_ | refine Asy.evV rfl rfl rfl rfl (fun _ X_ => OpV.load1 Tryz.tOk rfl rfl rfl (Blk.cell (Z14.up (Xd_.trans X_)) rfl)) ?_)
          refine Asy.end_ (by kernel_rfl) ?_
          intro we_ Xe_
          replace X := X.trans (Xd_.trans Xe_)
          repeat' (first | refine RunL.nil ?_)
          refine RunE.retFn Tryz.func124 (.tmp rfl (.tmp rfl (.tmp rfl (.tmp rfl .nil)))) ⟨?_, X⟩
          rw [he, hV]; rfl
    | false =>
      have he : holdE l o p t time = 1 := by rw [hE, hA]; rfl
      have hV : holdV l o p t time = (0, 0, false) := if_neg (by rw [he]; decide)
      repeat' (first | with_reducible refine RunLN.boolT rfl ?_ | with_reducible refine RunLN.boolF rfl ?_ | refine RunLN.int (by (first | exact wr_i64 (by omega) (by omega) | exact wm_i64 (by omega) | exact wq_i64 (by omega) (by omega) (by omega) | rfl)) ?_ | (refine RunLN.boolC (fun h_ => ?_) (fun h_ => ?_) <;> (try simp only [decide_eq_true_eq, decide_eq_false_iff_not, beq_iff_eq, bne_iff_ne, ne_eq, Bool.not_eq_true, Bool.not_eq_false, beq_eq_false_iff_ne, bne_eq_false_iff_eq, Bool.not_eq_eq_eq_not, Bool.not_true, Bool.not_false, Bool.not_not, Int.not_lt, Int.not_le, gt_iff_lt, ge_iff_le, Decidable.not_not] at h_)) | refine RunLN.any ?_ | refine RunL.ev Tryz.tOk rfl rfl rfl ?_ | refine RunL.unwantedD rfl rfl ?_ | refine RunL.callN rfl rfl rfl (oisOffice_ok _ _) ?_ | refine RunL.callN rfl rfl rfl (oisPerson_ok _ _) ?_ | refine RunL.callN rfl rfl rfl (oisTime_ok _ _) ?_ | refine RunE.condT rfl rfl ?_ | refine RunE.condF rfl rfl ?_ | refine RunE.seq ?_ | refine RunE.region ?_ | refine RunL.nil ?_ | refine RunE.skip ?_)
      all_goals first
        | (exfalso; exact argAny hA (by assumption) (by assumption) (by assumption) (by assumption))
        | (refine RunE.retFn Tryz.func124 (.tmp rfl (.tmp rfl (.tmp rfl (.tmp rfl .nil)))) ⟨?_, X⟩
           rw [he, hV]; rfl)
  · have he : holdE l o p t time = chkA l := if_neg hc
    rw [← he] at hc ⊢
    have hV : holdV l o p t time = (0, 0, false) := if_neg hc
    repeat' (first | with_reducible refine RunLN.boolF rfl ?_ | (with_reducible refine RunLN.neT ?_ ?_; focus omega) | refine RunLN.int (by (first | exact wr_i64 (by omega) (by omega) | exact wm_i64 (by omega) | exact wq_i64 (by omega) (by omega) (by omega) | rfl)) ?_ | refine RunL.ev Tryz.tOk rfl rfl rfl ?_ | refine RunE.condT rfl rfl ?_ | refine RunE.seq ?_ | refine RunE.region ?_ | refine RunL.nil ?_)
    refine RunE.retFn Tryz.func124 (.tmp rfl (.tmp rfl (.tmp rfl (.tmp rfl .nil)))) ⟨?_, X⟩
    rw [hV]; rfl
end Go.Sg
end
section
set_option maxRecDepth 4000
namespace Go.Rec
open Go.Rn
theorem cell_kept {w w' : World} {b o : Nat} {v : Value} (h : w.cell? ⟨b, o, none⟩ = some v) (e : w'.heap[b]? = w.heap[b]?) : w'.cell? ⟨b, o, none⟩ = some v := by
 unfold World.cell? at *; rw [e]; exact h
theorem isL_kept {α : Type} {enc : α → List Value} {k : Nat} {w w' : World} {v : Value} {l : List α} (h : IsL w enc k v l) (e : l ≠ [] → ∀ j, v.ownBlock = some j → w'.heap[j]? = w.heap[j]?) : IsL w' enc k v l := by
 rcases h.inv with ⟨d, rfl, h0, h1⟩ | ⟨b, o, c, rfl, hr, hl, hc⟩
 ·have : l = [] := List.length_eq_zero_iff.1 h0
  subst this
  exact IsSl.nil
 ·refine .row (fun i u hu => ?_) hl hc
  cases l with
  | nil => simp [flat] at hu
  | cons a l => exact cell_kept (hr i u hu) (e (by simp) b rfl)
end Go.Rec
namespace Go.Off
open Go.Rn Go.Rec
@[reducible] def Hold.cells (h : Hold) : List Value := [.int .i64 h.person, .int .i64 h.weight]
theorem encH : EncOk Hold.cells 2 := ⟨fun _ => rfl, fun _ => rfl, by decide⟩
theorem filterMap_take {α β : Type} (f : α → Option β) {l : List α} {i : Nat} {x : α} (hx : l[i]? = some x) :
  (l.take (i + 1)).filterMap f = (l.take i).filterMap f ++ (f x).toList := by
 rw [List.take_add_one, hx, List.filterMap_append]
 cases h : f x <;> simp [h]
theorem filterMap_split {α β : Type} (f : α → Option β) {l : List α} {i : Nat} {x : α} {h : β} (hx : l[i]? = some x) (hf : f x = some h) :
  l.filterMap f = (l.take i).filterMap f ++ h :: (l.drop (i + 1)).filterMap f := by
 have e : l = l.take i ++ x :: l.drop (i + 1) := by
  obtain ⟨hi, e⟩ := List.getElem?_eq_some_iff.1 hx
  rw [← e, List.getElem_cons_drop, List.take_append_drop]
 conv => lhs; rw [e]
 rw [List.filterMap_append, List.filterMap_cons, hf]
end Go.Off
namespace Go.Sg
open Go.Rn Go.Proofs Go.Off Go.Rec Go.Best
attribute [local irreducible] Go.Rn.RetsX Go.Rn.RunLN Go.Rn.AsyN Go.Rn.RunL Go.Rn.RunE Go.Rn.Asy Go.Rn.OpV Go.Rn.OpE Go.Rn.ExecE
abbrev holdersV (b1 b2 : Nat) : Value := .func (.func 164) #[] #[.pointer (some ⟨b1, 0, none⟩), .pointer (some ⟨b2, 0, none⟩)]
theorem holders_gives (l : List Ap) (o t time : Int) (hc : chkA l = 0) (R b1 b2 : Nat) (w0 : World) (hM : MapS w0 R (standing l t time)) (Y1 : Blk w0 b1 [.map (some R)] 210) (Y2 : Blk w0 b2 [.int .i64 o] 3) :
  GivesK Tryz.prog (holdersV b1 b2) (fun hs => hs = hsUpto l o t time 64) (fun h => [.agg (Hold.cells h).toArray]) w0 (fun k => k = b1 ∨ k = b2 ∨ k = R) := by
 intro S J y w hS hX hJ0 hJX hJup hy
 refine RetsX.v (fi := []) (args := [y]) (ca := [.pointer (some ⟨b1, 0, none⟩), .pointer (some ⟨b2, 0, none⟩)]) ?_
 change RetsX Tryz.prog 164 [y, .pointer (some ⟨b1, 0, none⟩), .pointer (some ⟨b2, 0, none⟩)] _ _ _
 have hlen : ((standing l t time).map (·.1)).length ≤ 100000 := by
  rw [List.length_map]
  have := standing_length l t time
  have := (chkA_ok.1 hc).1
  omega
 have hHE := fun ss => holders_eq hc o t time (ss := ss)
 generalize standing l t time = m at hM hlen hHE
 generalize hsUpto l o t time 64 = hs at hHE hy ⊢
 have at0 : ∀ u, ExtB S w0 u → Blk u b1 [.map (some R)] 210 ∧ Blk u b2 [.int .i64 o] 3 ∧ MapS u R m := fun u e =>
  ⟨Y1.ext e (hS _ (.inl rfl)), Y2.ext e (hS _ (.inr (.inl rfl))), hM.ext e (hS _ (.inr (.inr rfl)))⟩
 refine RetsX.of (nt := 40) Tryz.func164 (by kernel_rfl) rfl rfl (by simp) (by simp only [argEnv]; rfl) ?_
 obtain ⟨U1, U2, UM⟩ := at0 w hX
 repeat' (first | refine RunLN.any ?_ | refine RunL.ev Tryz.tOk rfl rfl rfl ?_ | refine RunL.evV rfl rfl rfl (OpV.load1 Tryz.tOk rfl rfl rfl (Blk.cell U1 rfl)) ?_ | refine RunE.seq ?_ | refine RunE.region ?_ | refine RunL.nil ?_)
 refine RunL.call rfl rfl rfl (keys_ok m R w UM) ?_
 rintro kf w1 ⟨⟨F, hG, hF⟩, X1⟩
 repeat' (first | refine RunLN.any ?_ | refine RunL.ev Tryz.tOk rfl rfl rfl ?_)
 refine RunL.call rfl rfl rfl (stSorted_ok (m.map (·.1)) kf F w1 hG hF hlen) ?_
 rintro r w2 ⟨⟨ss, hp, hsrt, hsl⟩, hge, X2⟩
 have hfin := hHE ss hp hsrt
 have X12 := X1.trans X2
 have hown : ∀ k, (ss ≠ [] ∧ r.ownBlock = some k) → w.heap.size ≤ k ∧ k < w2.heap.size := fun k hk => ⟨by have := hge k hk.2; have := X1.size; omega, isL_own hsl (by decide) hk.1 hk.2⟩
 have hJ := hJ0 (fun k => ss ≠ [] ∧ r.ownBlock = some k) w2 X12 hown
 have hmem : ∀ s ∈ ss, getM s m ≠ none := fun s hs e => by
  have := getM_isSome.2 (hp.mem_iff.1 hs)
  rw [e] at this; simp at this
 have hsn : ss.length ≤ 100000 := by rw [hp.length_eq]; exact hlen
 clear hG hF hHE hp hsrt hJ0 UM U1 U2
 repeat' (first | refine RunLN.int (by (first | exact wr_i64 (by omega) (by omega) | exact wm_i64 (by omega) | exact wq_i64 (by omega) (by omega) (by omega) | rfl)) ?_ | refine RunL.ev Tryz.tOk rfl rfl rfl ?_ | refine RunL.evV rfl rfl rfl (OpV.lenSl Tryz.tOk rfl rfl hsl) ?_ | refine RunL.nil ?_ | refine RunE.block ?_)
 refine RunE.loop (ι := Nat) (fun i => [(0, y), (1, .pointer (some ⟨b1, 0, none⟩)), (2, .pointer (some ⟨b2, 0, none⟩)), (11, r), (12, .int .i64 (ss.length : Int)), (13, .int .i64 (i : Int))])
  (fun i w' => i ≤ ss.length ∧ IsL w' Seat.cells 2 r ss ∧ J (fun k => ss ≠ [] ∧ r.ownBlock = some k) ((ss.take i).filterMap (pickH m o)) w') (fun i => ss.length - i) 0 sb_ ⟨Nat.zero_le _, hsl, hJ⟩ ?_
 clear hJ
 rintro i w3 ⟨hi, hsl, hJ⟩ again
 by_cases hlt : i < ss.length
 ·obtain ⟨blk, of, cap, rfl, hr, hcap⟩ := isL_held hsl hlt
  obtain ⟨s, hx⟩ : ∃ s, ss[i]? = some s := ⟨_, List.getElem?_eq_getElem hlt⟩
  have hrx := flat_row encST hr hx
  have ftake := filterMap_take (pickH m o) hx
  obtain ⟨U1, U2, UM⟩ := at0 w3 (hJX _ _ _ hJ)
  have X := ExtB.refl (fun _ => False) w3
  have hget := mapV_get s m
  repeat' (first | (with_reducible refine RunLN.decT ?_ ?_; focus omega) | refine RunLN.any ?_ | refine RunL.ev Tryz.tOk rfl rfl rfl ?_ | refine RunL.evV rfl rfl rfl (OpV.loadN Tryz.tOk rfl rfl rfl rfl (hrx.up X)) ?_ | refine RunL.evV rfl rfl rfl (OpV.indexS Tryz.tOk _ rfl rfl rfl rfl (by omega)) ?_ | refine RunE.condT rfl rfl ?_ | refine RunE.seq ?_ | refine RunE.region ?_ | refine RunL.nil ?_ | refine RunE.block ?_ | refine RunE.skip ?_)
  refine RunL.alloc Tryz.tOk rfl rfl rfl fun B6 w6_ a_ => ?_
  have Z6 : Blk w6_ B6 ([.int .i64 0, .int .i64 0]) 240 := a_.at_
  have gB6 := a_.ge X
  replace X := X.trans a_.ext
  clear a_
  skip
  refine RunL.store Tryz.tOk rfl rfl rfl rfl rfl Z6 rfl rfl fun w_ t_ => ?_
  replace X := X.own t_.ext gB6
  replace Z6 : Blk w_ B6 (Seat.cells s) 240 := t_.at_
  clear t_
  repeat' (first | refine RunLN.any ?_ | refine RunL.evV rfl rfl rfl (OpV.loadN Tryz.tOk rfl rfl rfl rfl (Blk.row Z6)) ?_ | refine RunL.evV rfl rfl rfl (OpV.load1 Tryz.tOk rfl rfl rfl (Blk.cell (U1.up X) rfl)) ?_ | refine RunE.seq ?_ | refine RunE.region ?_ | refine RunL.nil ?_)
  refine RunL.evV rfl rfl rfl (OpV.lookup (kv := seatV) (good := fun _ => True) (k := s) (z := apV zeroP) Tryz.underlying210 seatKey (by kernel_rfl) rfl rfl trivial (UM.up X)) ?_
  rw [hget]
  have skip : ∀ w', Ext w3 w' → pickH m o s = none → _ := fun w' X' e => again (i + 1) w' (by omega) ⟨by omega, hsl.up X', by rw [ftake, e]; simpa using hJup _ _ _ _ hJ (ExtB.of_ext X')⟩
  cases hg : getM s m with
  | none => exact absurd hg (hmem s (List.mem_of_getElem? hx))
  | some x =>
   simp only [Option.map_some, Option.getD_some]
   repeat' (first | refine RunLN.any ?_)
   refine RunL.alloc Tryz.tOk rfl rfl rfl fun B7 w7_ a_ => ?_
   have Z7 : Blk w7_ B7 (zeroP.cells) 131 := a_.at_
   have gB7 := a_.ge X
   have n6_7 : B6 ≠ B7 := by have := Z6.lt; have := a_.eq; omega
   have n7_6 : B7 ≠ B6 := Ne.symm n6_7
   replace Z6 := Z6.up a_.ext
   replace X := X.trans a_.ext
   clear a_
   skip
   refine RunL.store Tryz.tOk rfl rfl rfl rfl rfl Z7 rfl rfl fun w_ t_ => ?_
   replace X := X.own t_.ext gB7
   replace Z6 := Z6.other t_.ext n6_7
   replace Z7 : Blk w_ B7 (x.cells) 131 := t_.at_
   clear t_
   by_cases hso : s.1 = o
   ·obtain ⟨no, at_, known, office, person, weight, gone⟩ := x
    cases gone with
    | true =>
     have hpk : pickH m o s = none := by unfold pickH; rw [if_pos hso, hg]; rfl
     repeat' (first | with_reducible refine RunLN.boolT rfl ?_ | with_reducible refine RunLN.boolF rfl ?_ | (with_reducible refine RunLN.eqT ?_ ?_; focus omega) | refine RunLN.int (by (first | exact wr_i64 (by omega) (by omega) | exact wm_i64 (by omega) | exact wq_i64 (by omega) (by omega) (by omega) | rfl)) ?_ | refine RunLN.any ?_ | refine RunL.ev Tryz.tOk rfl rfl rfl ?_ | refine RunL.unwantedD rfl rfl ?_ | refine RunL.evV rfl rfl rfl (OpV.load1 Tryz.tOk rfl rfl rfl (Blk.cell Z6 rfl)) ?_ | refine RunL.evV rfl rfl rfl (OpV.load1 Tryz.tOk rfl rfl rfl (Blk.cell Z7 rfl)) ?_ | refine RunL.evV rfl rfl rfl (OpV.load1 Tryz.tOk rfl rfl rfl (Blk.cell (U2.up X) rfl)) ?_ | refine RunE.condF rfl rfl ?_ | refine RunE.seq ?_ | refine RunE.region ?_ | refine RunL.nil ?_ | refine RunE.inBlock ?_ | refine RunE.skip ?_)
     exact RunE.weaken sb_ (skip _ X hpk)
    | false =>
     have hpk : pickH m o s = some ⟨person, weight⟩ := by unfold pickH; rw [if_pos hso, hg]; rfl
     have hsp := filterMap_split (pickH m o) hx hpk
     rw [hfin] at hsp
     have hJ4 := hJup _ _ _ _ hJ (ExtB.of_ext X)
     have hs4 := hsl.up X
     repeat' (first | with_reducible refine RunLN.boolT rfl ?_ | with_reducible refine RunLN.boolF rfl ?_ | (with_reducible refine RunLN.eqT ?_ ?_; focus omega) | refine RunLN.int (by (first | exact wr_i64 (by omega) (by omega) | exact wm_i64 (by omega) | exact wq_i64 (by omega) (by omega) (by omega) | rfl)) ?_ | refine RunLN.any ?_ | refine RunL.ev Tryz.tOk rfl rfl rfl ?_ | refine RunL.evV rfl rfl rfl (OpV.load1 Tryz.tOk rfl rfl rfl (Blk.cell Z6 rfl)) ?_ | refine RunL.evV rfl rfl rfl (OpV.load1 Tryz.tOk rfl rfl rfl (Blk.cell Z7 rfl)) ?_ | refine RunL.evV rfl rfl rfl (OpV.load1 Tryz.tOk rfl rfl rfl (Blk.cell (U2.up X) rfl)) ?_ | refine RunE.seq ?_ | refine RunE.region ?_ | refine RunL.nil ?_)
     refine RunL.ex rfl rfl rfl (OpE.callV rfl rfl (hy _ _ ⟨person, weight⟩ _ _ hsp.symm hJ4)) ?_
     rintro _ w5 ⟨rfl, hJ5, hk5⟩
     have hs5 := isL_kept hs4 fun h j hj => hk5 j ⟨h, hj⟩
     repeat' (first | with_reducible refine RunLN.boolF rfl ?_ | refine RunLN.int (by (first | exact wr_i64 (by omega) (by omega) | exact wm_i64 (by omega) | exact wq_i64 (by omega) (by omega) (by omega) | rfl)) ?_ | refine RunL.ev Tryz.tOk rfl rfl rfl ?_ | refine RunE.condF rfl rfl ?_ | refine RunE.region ?_ | refine RunL.nil ?_ | refine RunE.inBlock ?_ | refine RunE.skip ?_)
     refine RunE.weaken sb_ (again (i + 1) _ (by omega) ⟨by omega, hs5, ?_⟩)
     rw [ftake, hpk]; exact hJ5
   ·have hpk : pickH m o s = none := by unfold pickH; rw [if_neg hso]
    repeat' (first | with_reducible refine RunLN.boolF rfl ?_ | (with_reducible refine RunLN.eqF ?_ ?_; focus omega) | refine RunLN.int (by (first | exact wr_i64 (by omega) (by omega) | exact wm_i64 (by omega) | exact wq_i64 (by omega) (by omega) (by omega) | rfl)) ?_ | refine RunLN.any ?_ | refine RunL.ev Tryz.tOk rfl rfl rfl ?_ | refine RunL.unwantedD rfl rfl ?_ | refine RunL.evV rfl rfl rfl (OpV.load1 Tryz.tOk rfl rfl rfl (Blk.cell Z6 rfl)) ?_ | refine RunL.evV rfl rfl rfl (OpV.load1 Tryz.tOk rfl rfl rfl (Blk.cell (U2.up X) rfl)) ?_ | refine RunE.condF rfl rfl ?_ | refine RunE.seq ?_ | refine RunE.region ?_ | refine RunL.nil ?_ | refine RunE.inBlock ?_ | refine RunE.skip ?_)
    exact RunE.weaken sb_ (skip _ X hpk)
 ·obtain rfl : i = ss.length := by omega
  repeat' (first | (with_reducible refine RunLN.decF ?_ ?_; focus omega) | refine RunL.ev Tryz.tOk rfl rfl rfl ?_ | refine RunE.condF rfl rfl ?_ | refine RunE.seq ?_ | refine RunE.region ?_ | refine RunL.nil ?_ | refine RunE.exit rfl ?_)
  refine RunE.fallFn Tryz.func164 .nil ?_
  rw [List.take_length, hfin] at hJ
  exact ⟨_, hs, rfl, hJ⟩
theorem holders_ok (l : List Ap) (o t time : Int) (hc : chkA l = 0) (R : Nat) (w : World) (hM : MapS w R (standing l t time)) :
  Rets Tryz.prog 128 [.map (some R), .int .i64 o] w fun r w' => (∃ F : Nat → Prop, GivesK Tryz.prog r (fun hs => hs = hsUpto l o t time 64) (fun h => [.agg (Hold.cells h).toArray]) w' F ∧ ∀ k, F k → k < w'.heap.size) ∧ Ext w w' := by
 refine RetsX.of (nt := 6) Tryz.func128 (by kernel_rfl) rfl rfl (by simp) (by simp only [argEnv]; rfl) ?_
 have X := ExtB.refl (fun _ => False) w
 repeat' (first | refine RunE.seq ?_ | refine RunE.region ?_)
 refine RunL.box rfl rfl rfl fun B2 w2_ a_ => ?_
 have Z2 : Blk w2_ B2 ([.map (some R)]) 210 := a_.at_
 have gB2 := a_.ge X
 replace X := X.trans a_.ext
 clear a_
 skip
 refine RunL.box rfl rfl rfl fun B3 w3_ a_ => ?_
 have Z3 : Blk w3_ B3 ([.int .i64 o]) 3 := a_.at_
 have gB3 := a_.ge X
 have n2_3 : B2 ≠ B3 := by have := Z2.lt; have := a_.eq; omega
 have n3_2 : B3 ≠ B2 := Ne.symm n2_3
 replace Z2 := Z2.up a_.ext
 replace X := X.trans a_.ext
 clear a_
 repeat' (first | refine RunLN.any ?_ | refine RunL.ev Tryz.tOk rfl rfl rfl ?_ | refine RunE.seq ?_ | refine RunE.region ?_ | refine RunL.nil ?_)
 refine RunE.retFn Tryz.func128 (.tmp rfl .nil) ⟨⟨_, holders_gives l o t time hc R B2 B3 _ (hM.ext X id) Z2 Z3, fun k hk => ?_⟩, X⟩
 rcases hk with rfl | rfl | rfl
 ·exact Z2.lt
 ·exact Z3.lt
 ·exact (hM.ext X id).lt
theorem happendSeq_ok (ok : List Hold → Prop) (f : Value) (F : Nat → Prop) (w : World) (hG : GivesK Tryz.prog f ok (fun s => [.agg (Hold.cells s).toArray]) w F) (hF : ∀ k, F k → k < w.heap.size) (hl : ∀ ys, ok ys → ys.length ≤ 100000) :
  Rets Tryz.prog 163 [.slice none 0 0, f] w fun r w' => (∃ ys : List Hold, ok ys ∧ w'.ownsRow w.heap.size 206 2 r ys.length (flat Hold.cells ys)) ∧ Ext w w' := by
 refine RetsX.of (nt := 13) Tryz.func163 (by kernel_rfl) rfl rfl (by simp) (by simp only [argEnv]; rfl) ?_
 have X := ExtB.refl (fun _ => False) w
 repeat' (first | refine RunE.seq ?_ | refine RunE.region ?_)
 refine RunL.box rfl rfl rfl fun B2 w2_ a_ => ?_
 have Z2 : Blk w2_ B2 ([.slice none 0 0]) 173 := a_.at_
 have gB2 := a_.ge X
 replace X := X.trans a_.ext
 clear a_
 repeat' (first | refine RunLN.any ?_ | refine RunL.ev Tryz.tOk rfl rfl rfl ?_ | refine RunE.seq ?_ | refine RunE.region ?_ | refine RunL.nil ?_ | refine RunE.block ?_)
 have hl2 := Z2.lt
 refine RunE.rangeGivesK (w0 := w) (F := F) rfl ⟨_, Tryz.func163⟩ rfl hG (fun k => k = B2) (fun k hk => ?_) (ExtB.of_ext X) (fun _ => rfl) rfl
  (fun G ys w' => (∃ u, Blk w' B2 [u] 173 ∧ w'.ownsRow (w2_.heap.size + 2) 206 2 u ys.length (flat Hold.cells ys) ∧ ∀ k, u.ownBlock = some k → ¬ G k) ∧ (∀ k, G k → w2_.heap.size + 2 ≤ k ∧ k < w'.heap.size) ∧ ExtB (fun k => k = B2) w2_ w') ?_ ?_ ?_ ?_ ?_ ?_
 ·have h1 := hF k hk
  have h2 := X.size
  exact ⟨by omega, by omega⟩
 ·intro G w2 e h1; exact ⟨⟨_, Z2.up e, World.ownsRow_nil _ _ _ _, fun k hk => by simp [Value.ownBlock] at hk⟩, h1, ExtB.of_ext e⟩
 ·rintro G ys u ⟨-, -, h⟩; exact h
 ·rintro G ys u ⟨-, h, -⟩ k hk; exact (h k hk).1
 ·rintro G ys u u' ⟨⟨y, h2, ho, hn⟩, h1, e1⟩ e2
  exact ⟨⟨y, h2.ext e2 (fun h => by rcases h with h | h | h; omega; omega; have := h1 _ h; omega), ownsRow_ext ho e2 (fun k hk h => by have := ownsRow_ge ho hk; have := hn k hk; rcases h with h | h | h; omega; omega; exact this h), hn⟩, fun k hk => by have := e2.size; have := h1 k hk; omega, e1.write e2 (by intro k hk hlt; rcases hk with h | h | h; omega; omega; have := h1 _ h; omega)⟩
 ·rintro G ys x zs u lp hx ⟨⟨y, h2, ho, hn⟩, hit, e1⟩ hL hs
  have hlen := hl _ hx
  simp only [List.length_append, List.length_cons] at hlen
  have hLl := lt_of_get hL.l
  obtain ⟨dy, cy, rfl⟩ := isSl_slice (isSl_own ho)
  simp only [parEnv]
  repeat' (first | refine RunE.region ?_)
  refine RunL.alloc Tryz.tOk rfl rfl rfl fun B5 u1 a1 => ?_
  have Z5 : Blk u1 B5 _ 206 := a1.at_
  have e5 := a1.eq
  skip
  refine RunL.store Tryz.tOk rfl rfl rfl rfl rfl Z5 rfl rfl fun u2 t2 => ?_
  replace Z5 : Blk u2 B5 (Hold.cells x) 206 := t2.at_
  have XA : Ext u u2 := a1.ext.write t2.ext (by intro k hk hlt; omega)
  clear a1 t2
  repeat' (first | refine RunL.nil ?_)
  refine RunE.beginR (hL.up XA) hs (by omega) fun u3 t3 hL3 => ?_
  have Y2 := (h2.up XA).ext t3 (by omega)
  have Y5 := Z5.ext t3 (by omega)
  have hO := ownsRow_ext (ownsRow_ext ho XA (fun _ _ h => h)) t3 (fun k hk h => by have := ownsRow_ge ho hk; omega)
  have XB : ExtB (fun k => k = B2) w2_ u3 := (e1.trans (ExtB.of_ext XA)).write t3 (by intro k hk hlt; omega)
  have hs3 : ∀ it, G it → it < u3.heap.size := fun it hg => by have := XA.size; have := t3.size; have := hit it hg; omega
  have hk3 : ∀ it, G it → u3.heap[it]? = u.heap[it]? := fun it hg => (t3.block it (by have := XA.size; have := hit it hg; omega) (by have := hit it hg; omega)).trans (XA.block it (hit it hg).2 id)
  have hs3' : w2_.heap.size + 2 ≤ u3.heap.size := by have := XA.size; have := t3.size; have := lt_of_get hL.l; have := e1.size; omega
  clear h2 ho Z5 XA t3 hL e1
  repeat' (first | refine RunLN.any ?_ | refine RunL.evV rfl rfl rfl (OpV.load1 Tryz.tOk rfl rfl rfl (Blk.cell Y2 rfl)) ?_ | refine RunL.evV rfl rfl rfl (OpV.loadN Tryz.tOk rfl rfl rfl rfl (Blk.row Y5)) ?_ | refine RunE.region ?_ | refine RunE.block ?_)
  refine RunL.ex rfl rfl rfl (OpE.buildSl Tryz.tOk [.agg (Hold.cells x).toArray] rfl rfl rfl rfl rfl rfl (by simp [Value.cells, Hold.cells])) ?_
  rintro _ u4 ⟨B, rfl, a4⟩
  have hx1 : IsL u4 Hold.cells 2 (.slice (some ⟨B, 0, none⟩) 1 1) [x] := by
   have := isSl_added (n := 1) (sz := 2) a4 rfl
   simpa [IsL, flat, cellsAll, Value.cells] using this
  replace hO := ownsRow_ext hO a4.ext (fun _ _ h => h)
  have hk4 : ∀ it, G it → u4.heap[it]? = u.heap[it]? := fun it hg => (a4.ext.block it (hs3 it hg) id).trans (hk3 it hg)
  skip
  refine RunL.ex rfl rfl rfl (OpE.append' Tryz.tOk rfl rfl rfl rfl rfl rfl hO hx1 (flat_plain encH [x]) (by show _ * 16 ≤ _; simp only [List.length_singleton]; omega) (by simp only [List.length_singleton]; omega) (by have := a4.ext.size; omega)) ?_
  rintro y' u5 ⟨O5, E5, hown⟩
  obtain ⟨b5, o5, c5, rfl, -, -, -⟩ := (isSl_own O5).held (by simp only [List.length_singleton]; omega)
  have hne : ∀ k, (Value.slice dy ys.length cy).ownBlock = some k → w2_.heap.size + 2 ≤ k := fun k hk => ownsRow_ge hO hk
  have hs4 : ∀ it, G it → it < u4.heap.size := fun it hg => by have := a4.ext.size; have := hs3 it hg; omega
  have hk5 : ∀ it, G it → u5.heap[it]? = u.heap[it]? := fun it hg => (E5.block it (hs4 it hg) (fun h => hn it h hg)).trans (hk4 it hg)
  have hn5 : ∀ k, (Value.slice (some ⟨b5, o5, none⟩) (ys.length + [x].length) c5).ownBlock = some k → ¬ G k := fun k hk e => hn _ (hown _ hk (hs4 k e)) e
  replace Y2 := (Y2.up a4.ext).ext E5 (fun h => by have := hne _ h; omega)
  replace hL3 := (hL3.up a4.ext).ext E5 (fun h => by have := hne _ h; omega) (fun h => by have := hne _ h; omega)
  replace XB : ExtB (fun k => k = B2) w2_ u5 := (XB.trans (ExtB.of_ext a4.ext)).write E5 (by intro k hk hlt; have := hne k hk; omega)
  have hs5 : ∀ it, G it → it < u5.heap.size := fun it hg => by have := E5.size; have := hs4 it hg; omega
  clear hO E5 a4 hne hk3 hk4
  skip
  refine RunL.store Tryz.tOk rfl rfl rfl rfl rfl Y2 rfl rfl fun u6 t6 => ?_
  replace Y2 : Blk u6 B2 [.slice (some ⟨b5, o5, none⟩) (ys.length + [x].length) c5] 173 := t6.at_
  replace hL3 := hL3.ext t6.ext (by omega) (by omega)
  replace XB : ExtB (fun k => k = B2) w2_ u6 := XB.trans t6.ext
  replace O5 := ownsRow_ext O5 t6.ext (fun k hk h => by have := ownsRow_ge O5 hk; omega)
  repeat' (first | refine RunL.nil ?_ | refine RunE.inBlock ?_)
  refine RunE.endR ⟨⟨⟨_, Y2, ?_, hn5⟩, fun k hk => ⟨(hit k hk).1, by have := t6.ext.size; have := hs5 k hk; omega⟩, XB⟩, fun it hg => (t6.ext.block it (hs5 it hg) (by have := hit it hg; omega)).trans (hk5 it hg)⟩ hL3
  rw [List.length_append, flat_append]
  exact O5
 ·rintro G ys w' hp ⟨⟨y, h2, ho, hn⟩, hit, e1⟩ hD
  have X8 : Ext w w' := X.write e1 (by intro k hk hlt; omega)
  obtain ⟨dy, cy, rfl⟩ := isSl_slice (isSl_own ho)
  repeat' (first | refine RunLN.any ?_ | refine RunL.ev Tryz.tOk rfl rfl rfl ?_ | refine RunL.evV rfl rfl rfl (OpV.load1 Tryz.tOk rfl rfl rfl (Blk.cell h2 rfl)) ?_ | refine RunE.seq ?_ | refine RunE.region ?_ | refine RunL.nil ?_ | refine RunE.inBlock ?_)
  refine RunE.retFn1 Tryz.func163 hD fun w9 t9 => ?_
  have hX := X.size
  exact ⟨_, .tmp rfl .nil, ⟨ys, hp, ownsRow_base (ownsRow_ext ho t9.ext (fun k hk h => by have := ownsRow_ge ho hk; omega)) (by omega)⟩, X8.write t9.ext (by intro k hk hlt; omega)⟩
theorem hcollect_ok (ok : List Hold → Prop) (f : Value) (F : Nat → Prop) (w : World) (hG : GivesK Tryz.prog f ok (fun s => [.agg (Hold.cells s).toArray]) w F) (hF : ∀ k, F k → k < w.heap.size) (hl : ∀ ys, ok ys → ys.length ≤ 100000) :
  Rets Tryz.prog 127 [f] w fun r w' => (∃ ys : List Hold, ok ys ∧ w'.ownsRow w.heap.size 206 2 r ys.length (flat Hold.cells ys)) ∧ Ext w w' := by
 refine RetsX.of (nt := 5) Tryz.func127 (by kernel_rfl) rfl rfl (by simp) (by simp only [argEnv]; rfl) ?_
 repeat' (first | refine RunLN.any ?_ | refine RunL.ev Tryz.tOk rfl rfl rfl ?_ | refine RunE.seq ?_ | refine RunE.region ?_ | refine RunL.nil ?_)
 refine RunL.call rfl rfl rfl (happendSeq_ok ok f F w hG hF hl) ?_
 rintro r w1 ⟨h1, h2⟩
 repeat' (first | refine RunLN.any ?_ | refine RunL.ev Tryz.tOk rfl rfl rfl ?_ | refine RunL.nil ?_)
 exact RunE.retFn Tryz.func127 (.tmp rfl .nil) ⟨h1, h2⟩
end Go.Sg
end
