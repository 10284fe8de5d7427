/- Parts of this project that the claims share: Mef2, MefS, Mef3, Mef4, Mef5, Mef6, Mef7, MerX, MerY, OpenW, MerZ, MerQ, Const. -/
import Derived.Test.YtpmpefkcmokoiaaGreatDoorMs09
import Derived.Test.YtpmpefkcmokoiaaGreatDoorMs08
import Derived.SizedLaws
import Derived.Test.YtpmpefkcmokoiaaGreatDoorMs02
import Derived.Lib.SlBytesConst
set_option linter.unusedSimpArgs false
set_option linter.unusedVariables false
set_option linter.unusedSectionVars false
section
/- Merge: the reference: Forked, Taken. -/
set_option maxRecDepth 4000
namespace Go.Mer
open Go.Rn Go.Rec Go.Dee Go.RowKit
theorem two_idx {α : Type} (q : α → Bool) : ∀ l : List α, 2 ≤ (l.filter q).length ↔ ∃ (i k : Nat) (a b : α), k < i ∧ l[i]? = some a ∧ l[k]? = some b ∧ q a = true ∧ q b = true
 | [] => by simp
 | x :: l => by
  have ih := two_idx q l
  rw [List.filter_cons]
  constructor
  ·intro h
   cases hq : q x with
   | true =>
    rw [hq, if_pos rfl, List.length_cons] at h
    obtain ⟨a, r, he⟩ : ∃ a r, l.filter q = a :: r := by
     cases hf : l.filter q with
     | nil => rw [hf] at h; simp at h
     | cons a r => exact ⟨a, r, rfl⟩
    have ha : a ∈ l.filter q := by rw [he]; exact List.mem_cons_self
    obtain ⟨h1, h2⟩ := List.mem_filter.1 ha
    obtain ⟨i, hi⟩ := List.mem_iff_getElem?.1 h1
    exact ⟨i + 1, 0, a, x, by omega, by simpa using hi, rfl, h2, hq⟩
   | false =>
    rw [hq] at h
    obtain ⟨i, k, a, b, h1, h2, h3, h4⟩ := ih.1 (by simpa using h)
    exact ⟨i + 1, k + 1, a, b, by omega, by simpa using h2, by simpa using h3, h4⟩
  ·rintro ⟨i, k, a, b, h1, h2, h3, h4, h5⟩
   cases i with
   | zero => omega
   | succ i =>
    rw [List.getElem?_cons_succ] at h2
    cases k with
    | zero =>
     rw [List.getElem?_cons_zero, Option.some.injEq] at h3
     subst h3
     rw [h5, if_pos rfl, List.length_cons]
     have : a ∈ l.filter q := List.mem_filter.2 ⟨List.mem_of_getElem? h2, h4⟩
     have := List.length_pos_of_mem this
     omega
    | succ k =>
     rw [List.getElem?_cons_succ] at h3
     have := ih.2 ⟨i, k, a, b, by omega, h2, h3, h4, h5⟩
     split
     ·rw [List.length_cons]; omega
     ·exact this
def PairAt (l : List Dr) (p : Int) (i k : Nat) (n : Int) : Prop := ∃ a b, l[i]? = some a ∧ l[k]? = some b ∧ a.d.person = p ∧ b.d.person = p ∧ a.d.no = n ∧ b.d.no = n
def ProcF (i k i' k' : Nat) : Prop := k' < i' ∧ (i' < i ∨ (i' = i ∧ k' < k))
structure ForkI (l : List Dr) (p : Int) (i k : Nat) (no : Int) : Prop where
 is : no = -1 ∨ (0 ≤ no ∧ ∃ i' k', ProcF i k i' k' ∧ PairAt l p i' k' no)
 least : ∀ i' k' n, ProcF i k i' k' → PairAt l p i' k' n → 0 ≤ no ∧ no ≤ n
theorem ForkI.init (l : List Dr) (p : Int) : ForkI l p 0 0 (-1) := ⟨.inl rfl, fun i' k' n h => by unfold ProcF at h; omega⟩
theorem ForkI.next {l : List Dr} {p : Int} {i : Nat} {no : Int} (h : ForkI l p i i no) : ForkI l p (i + 1) 0 no := by
 have hp : ∀ i' k', ProcF (i + 1) 0 i' k' ↔ ProcF i i i' k' := fun i' k' => by unfold ProcF; omega
 refine ⟨h.is.imp_right fun ⟨h1, i', k', h2, h3⟩ => ⟨h1, i', k', (hp _ _).2 h2, h3⟩, fun i' k' n h1 h2 => h.least i' k' n ((hp _ _).1 h1) h2⟩
theorem ForkI.keep {l : List Dr} {p : Int} {i k : Nat} {no : Int} (h : ForkI l p i k no) (hn : ∀ n, PairAt l p i k n → 0 ≤ no ∧ no ≤ n) : ForkI l p i (k + 1) no := by
 refine ⟨h.is.imp_right fun ⟨h1, i', k', h2, h3⟩ => ⟨h1, i', k', by unfold ProcF at *; omega, h3⟩, fun i' k' n h1 h2 => ?_⟩
 by_cases e : i' = i ∧ k' = k
 ·obtain ⟨rfl, rfl⟩ := e; exact hn n h2
 ·exact h.least i' k' n (by unfold ProcF at *; omega) h2
theorem ForkI.set {l : List Dr} {p : Int} {i k : Nat} {no n : Int} (h : ForkI l p i k no) (hk : k < i) (hp : PairAt l p i k n) (h0 : 0 ≤ n) (hl : no < 0 ∨ n < no) : ForkI l p i (k + 1) n := by
 refine ⟨.inr ⟨h0, i, k, by unfold ProcF; omega, hp⟩, fun i' k' n' h1 h2 => ?_⟩
 by_cases e : i' = i ∧ k' = k
 ·obtain ⟨rfl, rfl⟩ := e
  obtain ⟨a, b, ha, -, -, -, hn, -⟩ := hp
  obtain ⟨a', b', ha', -, -, -, hn', -⟩ := h2
  rw [ha] at ha'
  cases ha'
  omega
 ·have := h.least i' k' n' (by unfold ProcF at *; omega) h2
  omega
def forkN (l : List Dr) (p : Int) : Int := match forkL Dr.d l p with
 | none => -1
 | some n => (n : Int)
theorem ForkI.fin {l : List Dr} {p no : Int} (h : ForkI l p l.length 0 no) (hno : ∀ x ∈ l, 0 ≤ x.d.no ∧ x.d.no < 4096) : no = forkN l p := by
 have hpair : ∀ n : Int, 2 ≤ (grpD l (p, n)).length ↔ ∃ i' k', ProcF l.length 0 i' k' ∧ PairAt l p i' k' n := fun n => by
  unfold grpD atL
  rw [two_idx]
  constructor
  ·rintro ⟨i, k, a, b, h1, h2, h3, h4, h5⟩
   have h4 := of_decide_eq_true h4
   have h5 := of_decide_eq_true h5
   have := (List.getElem?_eq_some_iff.1 h2).1
   exact ⟨i, k, by unfold ProcF; omega, a, b, h2, h3, h4.1, h5.1, h4.2, h5.2⟩
  ·rintro ⟨i, k, h1, a, b, h2, h3, h4, h5, h6, h7⟩
   exact ⟨i, k, a, b, h1.1, h2, h3, decide_eq_true ⟨h4, h6⟩, decide_eq_true ⟨h5, h7⟩⟩
 unfold forkN
 rcases h.is with rfl | ⟨h0, i', k', h1, h2⟩
 ·have : forkL Dr.d l p = none := forkL_no fun m _ => by
   apply Nat.lt_of_not_le
   intro h2
   obtain ⟨i', k', h3, h4⟩ := (hpair _).1 h2
   have := h.least i' k' _ h3 h4
   omega
  rw [this]
 ·have hg := (hpair no).2 ⟨i', k', h1, h2⟩
  obtain ⟨a, b, ha, -, -, -, hn, -⟩ := h2
  have hna := hno a (List.mem_of_getElem? ha)
  have e : ((no.toNat : Nat) : Int) = no := by omega
  have : forkL Dr.d l p = some no.toNat := forkL_of (by omega) (by rw [e]; omega) fun m hm => by
   apply Nat.lt_of_not_le
   intro h2
   obtain ⟨i2, k2, h3, h4⟩ := (hpair _).1 h2
   have := h.least i2 k2 _ h3 h4
   omega
  rw [this]
  simp only
  omega
theorem kept_fork (l : List Dr) (x : Dr) : keptL Dr.d l x = (decide (forkN l x.d.person < 0) || decide (x.d.no < forkN l x.d.person)) := by
 unfold keptL forkN
 cases forkL Dr.d l x.d.person with
 | none => rfl
 | some n =>
  simp only
  rw [decide_eq_false (show ¬ ((n : Int) < 0) by omega), Bool.false_or]
end Go.Mer
namespace Go.Sg
open Go.Rn Go.Proofs Go.Dee Go.Mer Go.Rec Go.RowKit Go.Sha Go.Cod Go.NT
attribute [local irreducible] leftL keysD fineD thereL Go.Rn.RetsX Go.Rn.RunLN Go.Rn.AsyN Go.Rn.RunL Go.Rn.RunE Go.Rn.Asy Go.Rn.OpV Go.Rn.OpE Go.Rn.ExecE
set_option maxRecDepth 8000 in
set_option maxHeartbeats 8000000 in
theorem rForked_ok (l : List Dr) (v : Value) (p : Int) (w : World) (hv : LDr w v l) (hl : l.length < 9223372036854775808) (hno : ∀ x ∈ l, 0 ≤ x.d.no ∧ x.d.no < 4096) :
  Rets Tryz.prog 45 [v, .int .i64 p] w fun r w' => r = .int .i64 (forkN l p) ∧ Ext w w' := by
 refine RetsX.of (nt := 67) Tryz.func45 (by kernel_rfl) rfl rfl (by simp) (by simp only [argEnv]; rfl) ?_
 have X := ExtB.refl (fun _ => False) w
 repeat' (first | (with_reducible refine RunLN.chk ?_; refine RunLN.int (by (rfl)) ?_) | refine RunL.ev Tryz.tOk rfl rfl rfl ?_ | refine ZzQ ?_ | refine ZzR ?_ | refine ZzN ?_ | refine ZzB ?_)
 refine RunE.loop (ι := Nat × Int) (fun s => [(0, v), (1, .int .i64 p), (5, .int .i64 s.2), (6, .int .i64 (s.1 : Int))])
  (fun s w' => s.1 ≤ l.length ∧ Ext w w' ∧ ForkI l p s.1 0 s.2) (fun s => l.length - s.1) (0, -1) (by repeat (first | exact Sub.nil _ | refine Sub.cons rfl ?_)) ⟨Nat.zero_le _, X, ForkI.init l p⟩ ?_
 clear X
 rintro ⟨i, no⟩ w3 ⟨hi, X, hF⟩ again
 simp only at hi hF again ⊢
 by_cases hlt : i < l.length
 ·obtain ⟨b1, o1, c1, rfl, hr1, -⟩ := isL_held hv hlt
  obtain ⟨a, ha⟩ : ∃ a, l[i]? = some a := ⟨_, List.getElem?_eq_getElem hlt⟩
  have hra := flat_row encR hr1 ha
  repeat' (first | (with_reducible refine RunLN.decT ?_ ?_; focus omega) | (with_reducible refine RunLN.chk ?_; refine RunLN.int (by (rfl)) ?_) | refine ZzA ?_ | refine RunL.ev Tryz.tOk rfl rfl rfl ?_ | refine ZzT rfl rfl ?_ | refine ZzQ ?_ | refine ZzR ?_ | refine ZzN ?_ | refine ZzB ?_ | refine ZzK ?_)
  refine RunE.loop (ι := Nat × Int) (fun s => [(0, .slice (some ⟨b1, o1, none⟩) l.length c1), (1, .int .i64 p), (5, .int .i64 s.2), (6, .int .i64 (i : Int)), (7, .int .i64 (s.1 : Int))])
   (fun s w' => s.1 ≤ i ∧ Ext w w' ∧ ForkI l p i s.1 s.2) (fun s => i - s.1) (0, no) (by repeat (first | exact Sub.nil _ | refine Sub.cons rfl ?_)) ⟨Nat.zero_le _, X, hF⟩ ?_
  clear X hF
  rintro ⟨k, no⟩ w4 ⟨hk, X, hF⟩ again2
  simp only at hk hF again2 ⊢
  by_cases hkl : k < i
  ·obtain ⟨b, hb⟩ : ∃ b, l[k]? = some b := ⟨_, List.getElem?_eq_getElem (by omega)⟩
   have hrb := flat_row encR hr1 hb
   clear again
   repeat' (first | (with_reducible refine RunLN.decT ?_ ?_; focus omega) | (with_reducible refine RunLN.chk ?_; refine RunLN.int (by (rfl)) ?_) | refine RunL.ev Tryz.tOk rfl rfl rfl ?_ | refine ZzT rfl rfl ?_ | refine ZzQ ?_ | refine ZzR ?_ | refine ZzN ?_ | refine ZzB ?_ | refine ZzK ?_)
   refine RunE.draw (fun _ => False) mix ?_
   intro wd_ Xd_
   by_cases h1 : a.d.person = p
   rotate_left
   ·have hkeep : ∀ n, PairAt l p i k n → 0 ≤ no ∧ no ≤ n := fun n ⟨a', b', ha', _, h, _⟩ => by
     rw [ha] at ha'; cases ha'; exact absurd h h1
    repeat' (first | with_reducible refine AsyN.boolF rfl ?_ | (with_reducible refine AsyN.eqF ?_ ?_; focus omega) | (with_reducible refine AsyN.chk ?_; refine AsyN.int (by (rfl)) ?_) | refine AsyN.any ?_ | refine Asy.ev Tryz.tOk rfl rfl rfl ?_ | refine Asy.unwantedD rfl rfl rfl ?_ | refine Asy.evV rfl rfl rfl rfl (fun _ X_ => OpV.load1 Tryz.tOk rfl rfl rfl ((hra.up (X.trans (Xd_.trans X_))) _ _ rfl)) ?_ | refine Asy.evV rfl rfl rfl rfl (fun _ X_ => OpV.indexS Tryz.tOk _ rfl rfl rfl rfl (by omega)) ?_)
    refine Asy.end_ (by kernel_rfl) ?_
    intro we_ Xe_
    replace X := X.trans (Xd_.trans Xe_)
    clear Xd_ Xe_
    repeat' (first | (with_reducible refine RunLN.chk ?_; refine RunLN.int (by (first | (refine wr_i64 ?_ ?_; omega; omega) | rfl)) ?_) | refine RunL.ev Tryz.tOk rfl rfl rfl ?_ | refine ZzF rfl rfl ?_ | refine ZzR ?_ | refine ZzN ?_ | refine ZzI ?_ | refine ZzK ?_)
    exact RunE.weaken (by repeat (first | exact Sub.nil _ | refine Sub.cons rfl ?_)) (again2 (k + 1, no) _ (by simp only; omega) ⟨by simp only; omega, X, hF.keep hkeep⟩)
   by_cases h2 : b.d.person = p
   rotate_left
   ·have hkeep : ∀ n, PairAt l p i k n → 0 ≤ no ∧ no ≤ n := fun n ⟨a', b', _, hb', _, h, _⟩ => by
     rw [hb] at hb'; cases hb'; exact absurd h h2
    repeat' (first | with_reducible refine AsyN.boolT rfl ?_ | with_reducible refine AsyN.boolF rfl ?_ | (with_reducible refine AsyN.eqT ?_ ?_; focus omega) | (with_reducible refine AsyN.eqF ?_ ?_; focus omega) | (with_reducible refine AsyN.chk ?_; refine AsyN.int (by (rfl)) ?_) | refine AsyN.any ?_ | refine Asy.ev Tryz.tOk rfl rfl rfl ?_ | refine Asy.unwantedD rfl rfl rfl ?_ | refine Asy.evV rfl rfl rfl rfl (fun _ X_ => OpV.load1 Tryz.tOk rfl rfl rfl ((hra.up (X.trans (Xd_.trans X_))) _ _ rfl)) ?_ | refine Asy.evV rfl rfl rfl rfl (fun _ X_ => OpV.load1 Tryz.tOk rfl rfl rfl ((hrb.up (X.trans (Xd_.trans X_))) _ _ rfl)) ?_ | refine Asy.evV rfl rfl rfl rfl (fun _ X_ => OpV.indexS Tryz.tOk _ rfl rfl rfl rfl (by omega)) ?_)
    refine Asy.end_ (by kernel_rfl) ?_
    intro we_ Xe_
    replace X := X.trans (Xd_.trans Xe_)
    clear Xd_ Xe_
    repeat' (first | (with_reducible refine RunLN.chk ?_; refine RunLN.int (by (first | (refine wr_i64 ?_ ?_; omega; omega) | rfl)) ?_) | refine RunL.ev Tryz.tOk rfl rfl rfl ?_ | refine ZzF rfl rfl ?_ | refine ZzR ?_ | refine ZzN ?_ | refine ZzI ?_ | refine ZzK ?_)
    exact RunE.weaken (by repeat (first | exact Sub.nil _ | refine Sub.cons rfl ?_)) (again2 (k + 1, no) _ (by simp only; omega) ⟨by simp only; omega, X, hF.keep hkeep⟩)
   by_cases h3 : a.d.no = b.d.no
   rotate_left
   ·have hkeep : ∀ n, PairAt l p i k n → 0 ≤ no ∧ no ≤ n := fun n ⟨a', b', ha', hb', _, _, h, h'⟩ => by
     rw [ha] at ha'; cases ha'; rw [hb] at hb'; cases hb'; exact absurd (h.trans h'.symm) h3
    repeat' (first | with_reducible refine AsyN.boolT rfl ?_ | with_reducible refine AsyN.boolF rfl ?_ | (with_reducible refine AsyN.eqT ?_ ?_; focus omega) | (with_reducible refine AsyN.eqF ?_ ?_; focus omega) | (with_reducible refine AsyN.chk ?_; refine AsyN.int (by (rfl)) ?_) | refine AsyN.any ?_ | refine Asy.ev Tryz.tOk rfl rfl rfl ?_ | refine Asy.unwantedD rfl rfl rfl ?_ | refine Asy.evV rfl rfl rfl rfl (fun _ X_ => OpV.load1 Tryz.tOk rfl rfl rfl ((hra.up (X.trans (Xd_.trans X_))) _ _ rfl)) ?_ | refine Asy.evV rfl rfl rfl rfl (fun _ X_ => OpV.load1 Tryz.tOk rfl rfl rfl ((hrb.up (X.trans (Xd_.trans X_))) _ _ rfl)) ?_ | refine Asy.evV rfl rfl rfl rfl (fun _ X_ => OpV.indexS Tryz.tOk _ rfl rfl rfl rfl (by omega)) ?_)
    refine Asy.end_ (by kernel_rfl) ?_
    intro we_ Xe_
    replace X := X.trans (Xd_.trans Xe_)
    clear Xd_ Xe_
    repeat' (first | (with_reducible refine RunLN.chk ?_; refine RunLN.int (by (first | (refine wr_i64 ?_ ?_; omega; omega) | rfl)) ?_) | refine RunL.ev Tryz.tOk rfl rfl rfl ?_ | refine ZzF rfl rfl ?_ | refine ZzR ?_ | refine ZzN ?_ | refine ZzI ?_ | refine ZzK ?_)
    exact RunE.weaken (by repeat (first | exact Sub.nil _ | refine Sub.cons rfl ?_)) (again2 (k + 1, no) _ (by simp only; omega) ⟨by simp only; omega, X, hF.keep hkeep⟩)
   by_cases h4 : no < 0
   ·repeat' (first | with_reducible refine AsyN.boolT rfl ?_ | (with_reducible refine AsyN.decT ?_ ?_; focus omega) | (with_reducible refine AsyN.eqT ?_ ?_; focus omega) | (with_reducible refine AsyN.chk ?_; refine AsyN.int (by (rfl)) ?_) | refine AsyN.any ?_ | refine Asy.ev Tryz.tOk rfl rfl rfl ?_ | refine Asy.unwantedD rfl rfl rfl ?_ | refine Asy.evV rfl rfl rfl rfl (fun _ X_ => OpV.load1 Tryz.tOk rfl rfl rfl ((hra.up (X.trans (Xd_.trans X_))) _ _ rfl)) ?_ | refine Asy.evV rfl rfl rfl rfl (fun _ X_ => OpV.load1 Tryz.tOk rfl rfl rfl ((hrb.up (X.trans (Xd_.trans X_))) _ _ rfl)) ?_ | refine Asy.evV rfl rfl rfl rfl (fun _ X_ => OpV.indexS Tryz.tOk _ rfl rfl rfl rfl (by omega)) ?_)
    refine Asy.end_ (by kernel_rfl) ?_
    intro we_ Xe_
    replace X := X.trans (Xd_.trans Xe_)
    clear Xd_ Xe_
    repeat' (first | (with_reducible refine RunLN.chk ?_; refine RunLN.int (by (first | (refine wr_i64 ?_ ?_; omega; omega) | rfl)) ?_) | refine ZzA ?_ | refine RunL.ev Tryz.tOk rfl rfl rfl ?_ | refine RunL.evV rfl rfl rfl (OpV.load1 Tryz.tOk rfl rfl rfl ((hra.up X) _ _ rfl)) ?_ | refine RunL.evV rfl rfl rfl (OpV.indexS Tryz.tOk _ rfl rfl rfl rfl (by omega)) ?_ | refine ZzT rfl rfl ?_ | refine ZzR ?_ | refine ZzN ?_ | refine ZzI ?_)
    exact RunE.weaken (by repeat (first | exact Sub.nil _ | refine Sub.cons rfl ?_)) (again2 (k + 1, a.d.no) _ (by simp only; omega) ⟨by simp only; omega, X, hF.set hkl ⟨a, b, ha, hb, h1, h2, rfl, h3.symm⟩ (hno a (List.mem_of_getElem? ha)).1 (by omega)⟩)
   by_cases h5 : a.d.no < no
   ·repeat' (first | with_reducible refine AsyN.boolT rfl ?_ | with_reducible refine AsyN.boolF rfl ?_ | (with_reducible refine AsyN.decT ?_ ?_; focus omega) | (with_reducible refine AsyN.decF ?_ ?_; focus omega) | (with_reducible refine AsyN.eqT ?_ ?_; focus omega) | (with_reducible refine AsyN.chk ?_; refine AsyN.int (by (rfl)) ?_) | refine AsyN.any ?_ | refine Asy.ev Tryz.tOk rfl rfl rfl ?_ | refine Asy.evV rfl rfl rfl rfl (fun _ X_ => OpV.load1 Tryz.tOk rfl rfl rfl ((hra.up (X.trans (Xd_.trans X_))) _ _ rfl)) ?_ | refine Asy.evV rfl rfl rfl rfl (fun _ X_ => OpV.load1 Tryz.tOk rfl rfl rfl ((hrb.up (X.trans (Xd_.trans X_))) _ _ rfl)) ?_ | refine Asy.evV rfl rfl rfl rfl (fun _ X_ => OpV.indexS Tryz.tOk _ rfl rfl rfl rfl (by omega)) ?_)
    refine Asy.end_ (by kernel_rfl) ?_
    intro we_ Xe_
    replace X := X.trans (Xd_.trans Xe_)
    clear Xd_ Xe_
    repeat' (first | (with_reducible refine RunLN.chk ?_; refine RunLN.int (by (first | (refine wr_i64 ?_ ?_; omega; omega) | rfl)) ?_) | refine ZzA ?_ | refine RunL.ev Tryz.tOk rfl rfl rfl ?_ | refine RunL.evV rfl rfl rfl (OpV.load1 Tryz.tOk rfl rfl rfl ((hra.up X) _ _ rfl)) ?_ | refine RunL.evV rfl rfl rfl (OpV.indexS Tryz.tOk _ rfl rfl rfl rfl (by omega)) ?_ | refine ZzT rfl rfl ?_ | refine ZzR ?_ | refine ZzN ?_ | refine ZzI ?_)
    exact RunE.weaken (by repeat (first | exact Sub.nil _ | refine Sub.cons rfl ?_)) (again2 (k + 1, a.d.no) _ (by simp only; omega) ⟨by simp only; omega, X, hF.set hkl ⟨a, b, ha, hb, h1, h2, rfl, h3.symm⟩ (hno a (List.mem_of_getElem? ha)).1 (by omega)⟩)
   ·have hkeep : ∀ n, PairAt l p i k n → 0 ≤ no ∧ no ≤ n := fun n ⟨a', b', ha', _, _, _, h, _⟩ => by
     rw [ha] at ha'; cases ha'; omega
    repeat' (first | with_reducible refine AsyN.boolT rfl ?_ | with_reducible refine AsyN.boolF rfl ?_ | (with_reducible refine AsyN.decF ?_ ?_; focus omega) | (with_reducible refine AsyN.eqT ?_ ?_; focus omega) | (with_reducible refine AsyN.chk ?_; refine AsyN.int (by (rfl)) ?_) | refine AsyN.any ?_ | refine Asy.ev Tryz.tOk rfl rfl rfl ?_ | refine Asy.evV rfl rfl rfl rfl (fun _ X_ => OpV.load1 Tryz.tOk rfl rfl rfl ((hra.up (X.trans (Xd_.trans X_))) _ _ rfl)) ?_ | refine Asy.evV rfl rfl rfl rfl (fun _ X_ => OpV.load1 Tryz.tOk rfl rfl rfl ((hrb.up (X.trans (Xd_.trans X_))) _ _ rfl)) ?_ | refine Asy.evV rfl rfl rfl rfl (fun _ X_ => OpV.indexS Tryz.tOk _ rfl rfl rfl rfl (by omega)) ?_)
    refine Asy.end_ (by kernel_rfl) ?_
    intro we_ Xe_
    replace X := X.trans (Xd_.trans Xe_)
    clear Xd_ Xe_
    repeat' (first | (with_reducible refine RunLN.chk ?_; refine RunLN.int (by (first | (refine wr_i64 ?_ ?_; omega; omega) | rfl)) ?_) | refine RunL.ev Tryz.tOk rfl rfl rfl ?_ | refine ZzF rfl rfl ?_ | refine ZzR ?_ | refine ZzN ?_ | refine ZzI ?_ | refine ZzK ?_)
    exact RunE.weaken (by repeat (first | exact Sub.nil _ | refine Sub.cons rfl ?_)) (again2 (k + 1, no) _ (by simp only; omega) ⟨by simp only; omega, X, hF.keep hkeep⟩)
  ·obtain rfl : k = i := by omega
   clear again2
   repeat' (first | (with_reducible refine RunLN.decF ?_ ?_; focus omega) | (with_reducible refine RunLN.chk ?_; refine RunLN.int (by (first | (refine wr_i64 ?_ ?_; omega; omega) | rfl)) ?_) | refine RunL.ev Tryz.tOk rfl rfl rfl ?_ | refine ZzF rfl rfl ?_ | refine ZzQ ?_ | refine ZzR ?_ | refine ZzN ?_ | refine ZzI ?_ | refine RunE.exit rfl ?_)
   exact RunE.weaken (by repeat (first | exact Sub.nil _ | refine Sub.cons rfl ?_)) (again (k + 1, no) _ (by simp only; omega) ⟨by simp only; omega, X, hF.next⟩)
 ·obtain rfl : i = l.length := by omega
  have he := hF.fin hno
  subst he
  clear again
  repeat' (first | (with_reducible refine RunLN.decF ?_ ?_; focus omega) | (with_reducible refine RunLN.chk ?_; refine RunLN.int (by (rfl)) ?_) | refine ZzA ?_ | refine RunL.ev Tryz.tOk rfl rfl rfl ?_ | refine RunL.evV rfl rfl rfl (OpV.lenSl Tryz.tOk rfl rfl hv) ?_ | refine ZzF rfl rfl ?_ | refine ZzQ ?_ | refine ZzR ?_ | refine ZzN ?_ | refine RunE.exit rfl ?_)
  exact RunE.retFn Tryz.func45 (.tmp rfl .nil) ⟨rfl, X⟩
theorem take_filter {α : Type} (q : α → Bool) {l : List α} {i : Nat} {x : α} (h : l[i]? = some x) : (l.take (i + 1)).filter q = if q x then (l.take i).filter q ++ [x] else (l.take i).filter q := by
 rw [List.take_add_one, h, List.filter_append]
 cases hq : q x <;> simp [hq]
set_option maxRecDepth 8000 in
set_option maxHeartbeats 8000000 in
theorem rTaken_ok (l : List Dr) (v : Value) (w : World) (hv : LDr w v l) (hl : l.length ≤ 4096) (hno : ∀ x ∈ l, 0 ≤ x.d.no ∧ x.d.no < 4096) :
  Rets Tryz.prog 42 [v] w fun r w' => w'.ownsRow w.heap.size 38 39 r (takenL Dr.d l).length (flat Dr.cells (takenL Dr.d l)) ∧ Ext w w' := by
 have cF : ∀ (p : Int) (w' : World), Ext w w' → Rets Tryz.prog 45 [v, .int .i64 p] w' fun r w'' => r = .int .i64 (forkN l p) ∧ Ext w' w'' := fun p w' e => rForked_ok l v p w' (hv.up e) (by omega) hno
 unfold takenL
 refine RetsX.of (nt := 39) Tryz.func42 (by kernel_rfl) rfl rfl (by simp) (by simp only [argEnv]; rfl) ?_
 have X := ExtB.refl (fun _ => False) w
 repeat' (first | refine ZzA ?_ | refine RunL.ev Tryz.tOk rfl rfl rfl ?_ | refine ZzQ ?_ | refine ZzR ?_ | refine ZzN ?_)
 refine RunL.ex rfl rfl rfl (OpE.build00 Tryz.tOk 26 38 rfl rfl rfl) ?_
 rintro _ w1 ⟨⟨B0, rfl⟩, hO, Xa_⟩
 replace X := X.trans Xa_
 clear Xa_
 repeat' (first | (with_reducible refine RunLN.chk ?_; refine RunLN.int (by (rfl)) ?_) | refine ZzA ?_ | refine RunL.ev Tryz.tOk rfl rfl rfl ?_ | refine ZzQ ?_ | refine ZzR ?_ | refine ZzN ?_ | refine ZzB ?_)
 refine RunE.loop (ι := Nat × Value) (fun s => [(0, v), (3, s.2), (4, .int .i64 (s.1 : Int))])
  (fun s w' => s.1 ≤ l.length ∧ Ext w w' ∧ w'.ownsRow w.heap.size 38 39 s.2 ((l.take s.1).filter (keptL Dr.d l)).length (flat Dr.cells ((l.take s.1).filter (keptL Dr.d l)))) (fun s => l.length - s.1) (0, _) (by repeat (first | exact Sub.nil _ | refine Sub.cons rfl ?_)) ⟨Nat.zero_le _, X, by rw [List.take_zero]; exact hO⟩ ?_
 clear X hO
 rintro ⟨i, u⟩ w3 ⟨hi, X, hO⟩ again
 simp only at hi hO again ⊢
 by_cases hlt : i < l.length
 ·obtain ⟨b1, o1, c1, rfl, hr1, -⟩ := isL_held hv hlt
  obtain ⟨x, hx⟩ : ∃ x, l[i]? = some x := ⟨_, List.getElem?_eq_getElem hlt⟩
  have hrx := flat_row encR hr1 hx
  have htf := take_filter (keptL Dr.d l) hx
  have hkp := kept_fork l x
  have hfl : ((l.take i).filter (keptL Dr.d l)).length ≤ 4096 := by
   have := List.length_filter_le (keptL Dr.d l) (l.take i)
   rw [List.length_take] at this; omega
  generalize (l.take i).filter (keptL Dr.d l) = out at hO htf hfl
  have next := fun u' w' a (b : w'.ownsRow w.heap.size 38 39 u' (if keptL Dr.d l x = true then out ++ [x] else out).length (flat Dr.cells (if keptL Dr.d l x = true then out ++ [x] else out))) => again (i + 1, u') w' (by simp only; omega) ⟨by simp only; omega, a, by simp only; rw [htf]; exact b⟩
  simp only at next
  clear again htf
  have X3 := X
  replace hrx := hrx.up X3
  replace hO := hO
  have cF' := fun p w' (e : Ext w3 w') => cF p w' (X3.trans e)
  replace X := ExtB.refl (fun _ => False) w3
  repeat' (first | (with_reducible refine RunLN.decT ?_ ?_; focus omega) | (with_reducible refine RunLN.chk ?_; refine RunLN.int (by (rfl)) ?_) | refine ZzA ?_ | refine RunL.ev Tryz.tOk rfl rfl rfl ?_ | refine RunL.evV rfl rfl rfl (OpV.load1 Tryz.tOk rfl rfl rfl ((hrx.up X) _ _ rfl)) ?_ | refine RunL.evV rfl rfl rfl (OpV.indexS Tryz.tOk _ rfl rfl rfl rfl (by omega)) ?_ | refine ZzT rfl rfl ?_ | refine ZzQ ?_ | refine ZzR ?_ | refine ZzN ?_ | refine ZzB ?_ | refine ZzK ?_)
  refine RunL.call rfl rfl rfl (cF' _ _ X) ?_
  rintro _ _ ⟨rfl, Xa_⟩
  replace X := X.trans Xa_
  clear Xa_
  generalize forkN l x.d.person = fk at hkp
  have fin : ∀ (b : Bool), keptL Dr.d l x = b → keptL Dr.d l x = b := fun _ h => h
  by_cases h1 : fk < 0 ∨ x.d.no < fk
  ·have hk : keptL Dr.d l x = true := by
    rw [hkp, Bool.or_eq_true]
    exact h1.imp decide_eq_true decide_eq_true
   rw [hk, if_pos rfl] at next
   have app : ∀ w', Ext w3 w' → w'.ownsRow w.heap.size 38 39 u out.length (flat Dr.cells out) := fun w' e => World.ownsRow.up hO e
   by_cases h2 : fk < 0
   ·repeat' (first | with_reducible refine ZzP rfl ?_ | (with_reducible refine RunLN.decT ?_ ?_; focus omega) | (with_reducible refine RunLN.chk ?_; refine RunLN.int (by (rfl)) ?_) | refine ZzA ?_ | refine RunL.ev Tryz.tOk rfl rfl rfl ?_ | refine RunL.unwantedD rfl rfl ?_ | refine RunL.evV rfl rfl rfl (OpV.loadN Tryz.tOk rfl rfl rfl rfl (hrx.up X)) ?_ | refine RunL.evV rfl rfl rfl (OpV.indexS Tryz.tOk _ rfl rfl rfl rfl (by omega)) ?_ | refine ZzT rfl rfl ?_ | refine ZzQ ?_ | refine ZzR ?_ | refine ZzN ?_)
    refine RunL.ex rfl rfl rfl (OpE.buildN encR Tryz.tOk [x] rfl rfl rfl rfl rfl rfl) ?_
    rintro _ w6 ⟨⟨B15, rfl, l15⟩, hx1, Xa_⟩
    replace X := X.trans Xa_
    replace hO := app _ X
    have hs6 : w.heap.size ≤ w6.heap.size := (X3.trans X).size
    clear Xa_ app
    skip
    refine RunL.ex rfl rfl rfl (OpE.append' Tryz.tOk rfl rfl rfl rfl rfl rfl hO hx1 (flat_plain encR [x]) (by show _ * 120 ≤ _; simp only [List.length_singleton]; omega) (by simp only [List.length_singleton]; omega) hs6) ?_
    rintro u' w8 ⟨O8, E8, -⟩
    have X8 : Ext w w8 := (X3.trans X).write E8 (by intro k hk hlt; have := ownsRow_ge hO hk; omega)
    repeat' (first | (with_reducible refine RunLN.chk ?_; refine RunLN.int (by (first | (refine wr_i64 ?_ ?_; omega; omega) | rfl)) ?_) | refine ZzA ?_ | refine RunL.ev Tryz.tOk rfl rfl rfl ?_ | refine ZzR ?_ | refine ZzN ?_ | refine ZzI ?_)
    exact RunE.weaken (by repeat (first | exact Sub.nil _ | refine Sub.cons rfl ?_)) (next _ _ X8 (by rw [List.length_append, flat_append]; exact O8))
   ·have h3 : x.d.no < fk := h1.resolve_left h2
    repeat' (first | with_reducible refine ZzP rfl ?_ | with_reducible refine ZzG rfl ?_ | (with_reducible refine RunLN.decT ?_ ?_; focus omega) | (with_reducible refine RunLN.decF ?_ ?_; focus omega) | (with_reducible refine RunLN.chk ?_; refine RunLN.int (by (rfl)) ?_) | refine ZzA ?_ | refine RunL.ev Tryz.tOk rfl rfl rfl ?_ | refine RunL.evV rfl rfl rfl (OpV.load1 Tryz.tOk rfl rfl rfl ((hrx.up X) _ _ rfl)) ?_ | refine RunL.evV rfl rfl rfl (OpV.indexS Tryz.tOk _ rfl rfl rfl rfl (by omega)) ?_ | refine ZzT rfl rfl ?_ | refine ZzQ ?_ | refine ZzR ?_ | refine ZzN ?_)
    repeat' (first | refine ZzA ?_ | refine RunL.evV rfl rfl rfl (OpV.loadN Tryz.tOk rfl rfl rfl rfl (hrx.up X)) ?_)
    refine RunL.ex rfl rfl rfl (OpE.buildN encR Tryz.tOk [x] rfl rfl rfl rfl rfl rfl) ?_
    rintro _ w6 ⟨⟨B15, rfl, l15⟩, hx1, Xa_⟩
    replace X := X.trans Xa_
    replace hO := app _ X
    have hs6 : w.heap.size ≤ w6.heap.size := (X3.trans X).size
    clear Xa_ app
    skip
    refine RunL.ex rfl rfl rfl (OpE.append' Tryz.tOk rfl rfl rfl rfl rfl rfl hO hx1 (flat_plain encR [x]) (by show _ * 120 ≤ _; simp only [List.length_singleton]; omega) (by simp only [List.length_singleton]; omega) hs6) ?_
    rintro u' w8 ⟨O8, E8, -⟩
    have X8 : Ext w w8 := (X3.trans X).write E8 (by intro k hk hlt; have := ownsRow_ge hO hk; omega)
    repeat' (first | (with_reducible refine RunLN.chk ?_; refine RunLN.int (by (first | (refine wr_i64 ?_ ?_; omega; omega) | rfl)) ?_) | refine ZzA ?_ | refine RunL.ev Tryz.tOk rfl rfl rfl ?_ | refine ZzR ?_ | refine ZzN ?_ | refine ZzI ?_)
    exact RunE.weaken (by repeat (first | exact Sub.nil _ | refine Sub.cons rfl ?_)) (next _ _ X8 (by rw [List.length_append, flat_append]; exact O8))
  ·have hk : keptL Dr.d l x = false := by
    rw [hkp, Bool.or_eq_false_iff]
    exact ⟨decide_eq_false fun h => h1 (.inl h), decide_eq_false fun h => h1 (.inr h)⟩
   rw [hk, if_neg Bool.false_ne_true] at next
   have h2 : ¬ fk < 0 := fun h => h1 (.inl h)
   have h3 : ¬ x.d.no < fk := fun h => h1 (.inr h)
   repeat' (first | with_reducible refine ZzG rfl ?_ | (with_reducible refine RunLN.decF ?_ ?_; focus omega) | (with_reducible refine RunLN.chk ?_; refine RunLN.int (by (first | (refine wr_i64 ?_ ?_; omega; omega) | rfl)) ?_) | refine ZzA ?_ | refine RunL.ev Tryz.tOk rfl rfl rfl ?_ | refine RunL.evV rfl rfl rfl (OpV.load1 Tryz.tOk rfl rfl rfl ((hrx.up X) _ _ rfl)) ?_ | refine RunL.evV rfl rfl rfl (OpV.indexS Tryz.tOk _ rfl rfl rfl rfl (by omega)) ?_ | refine ZzF rfl rfl ?_ | refine ZzQ ?_ | refine ZzR ?_ | refine ZzN ?_ | refine ZzI ?_ | refine ZzK ?_)
   exact RunE.weaken (by repeat (first | exact Sub.nil _ | refine Sub.cons rfl ?_)) (next _ _ (X3.trans X) (World.ownsRow.up hO X))
 ·obtain rfl : i = l.length := by omega
  rw [List.take_length] at hO
  clear again
  repeat' (first | (with_reducible refine RunLN.decF ?_ ?_; focus omega) | (with_reducible refine RunLN.chk ?_; refine RunLN.int (by (rfl)) ?_) | refine ZzA ?_ | refine RunL.ev Tryz.tOk rfl rfl rfl ?_ | refine RunL.evV rfl rfl rfl (OpV.lenSl Tryz.tOk rfl rfl hv) ?_ | refine ZzF rfl rfl ?_ | refine ZzQ ?_ | refine ZzR ?_ | refine ZzN ?_ | refine RunE.exit rfl ?_)
  exact RunE.retFn Tryz.func42 (.tmp rfl .nil) ⟨hO, X⟩
end Go.Sg
end
section
/- Merge: the reference: what it sorts, and its pass (plain). -/
set_option maxRecDepth 4000
namespace Go.Mer
open Go.Rn Go.Rec Go.Dee Go.RowKit Go.Sha
def insR (out : List Dr) (x : Dr) : List Dr := out.takeWhile (fun y => befD y.d x.d) ++ x :: out.dropWhile (fun y => befD y.d x.d)
def sortR (l : List Dr) : List Dr := l.foldl insR []
theorem insR_map (out : List Dr) (x : Dr) : (insR out x).map Dr.d = insD (out.map Dr.d) x.d := by
 unfold insR insD
 rw [List.map_append, List.map_cons, List.takeWhile_map, List.dropWhile_map]; rfl
theorem sortR_go : ∀ l out : List Dr, (l.foldl insR out).map Dr.d = (l.map Dr.d).foldl insD (out.map Dr.d)
 | [], _ => rfl
 | x :: l, out => by
  rw [List.foldl_cons, sortR_go l, insR_map]; rfl
theorem sortR_map (l : List Dr) : (sortR l).map Dr.d = sortD (l.map Dr.d) := sortR_go l []
theorem insR_perm (out : List Dr) (x : Dr) : (insR out x).Perm (x :: out) := by
 unfold insR
 refine List.perm_middle.trans ?_
 rw [List.takeWhile_append_dropWhile]
theorem sortR_perm_go : ∀ l out : List Dr, (l.foldl insR out).Perm (l ++ out)
 | [], _ => List.Perm.refl _
 | x :: l, out => by
  rw [List.foldl_cons]
  exact (sortR_perm_go l _).trans (((insR_perm out x).append_left l).trans List.perm_middle)
theorem sortR_perm (l : List Dr) : (sortR l).Perm l := by
 have := sortR_perm_go l []
 rwa [List.append_nil] at this
theorem sortR_snoc (l : List Dr) (x : Dr) : sortR (l ++ [x]) = insR (sortR l) x := by
 unfold sortR; rw [List.foldl_append]; rfl
theorem takeW_at {α : Type} (p : α → Bool) : ∀ (l : List α) (i : Nat), (∀ j y, j < i → l[j]? = some y → p y = true) → (∀ y, l[i]? = some y → p y = false) → l.takeWhile p = l.take i ∧ l.dropWhile p = l.drop i
 | [], i, _, _ => by simp
 | x :: l, 0, _, h => by have := h x rfl; simp [this]
 | x :: l, i + 1, h1, h2 => by
  have hx := h1 0 x (by omega) rfl
  obtain ⟨a, b⟩ := takeW_at p l i (fun j y hj hy => h1 (j + 1) y (by omega) (by simpa using hy)) (fun y hy => h2 y (by simpa using hy))
  simp [hx, a, b]
theorem insR_at {out : List Dr} {x : Dr} {i : Nat} (h : ∀ j y, j < i → out[j]? = some y → befD y.d x.d = true) (he : ∀ y, out[i]? = some y → befD y.d x.d = false) : insR out x = (out.take i ++ [x]) ++ out.drop i := by
 obtain ⟨a, b⟩ := takeW_at (fun y : Dr => befD y.d x.d) out i h he
 unfold insR
 rw [a, b, List.append_assoc]; rfl
theorem srt_drop {ks : List Int} {s : List Dr} (h : Srt ks (s.map Dr.d)) {i : Nat} {x : Dr} (hx : s[i]? = some x) : fineD ks x.d = true ∧
  restsD ((passL Dr.d ks (s.take i)).map Dr.d) x.d = stepD ks ((passL Dr.d ks (s.take i)).map Dr.d) x.d := by
 have e : s.map Dr.d = (s.take i).map Dr.d ++ x.d :: (s.drop (i + 1)).map Dr.d := by
  obtain ⟨hi, e⟩ := List.getElem?_eq_some_iff.1 hx
  rw [← List.map_cons, ← List.map_append]
  rw [← e, List.getElem_cons_drop, List.take_append_drop]
 rw [e] at h
 obtain ⟨-, h2, h3, h4, -⟩ := h.split
 refine ⟨h2, rests_eq (by rw [passL_map]; exact pass_log ks _) h2 (fun y hy => ?_) (fun y hy => ?_)⟩
 ·exact h3 y (((passR_sub ks (s.take i)).map Dr.d).subset hy)
 ·exact h4 y (((passR_sub ks (s.take i)).map Dr.d).subset hy)
theorem pass_merge (ks : List Int) (L : List Dr) : (passL Dr.d ks (sortR (takenL Dr.d (leftL Dr.d ks L)))).map Dr.d = mergeD ks (L.map Dr.d) := by
 rw [passL_map, sortR_map, takenL_map, leftL_map]; rfl
theorem srt_all (ks : List Int) (L : List Dr) : Srt ks ((sortR (takenL Dr.d (leftL Dr.d ks L))).map Dr.d) := by
 rw [sortR_map, takenL_map, leftL_map]; exact sort_srt ks _
def prevL (out : List Dr) (d : Deed) (b : Bool) : Bool := b || out.any fun y => decide (y.d.person = d.person ∧ y.d.no = d.no - 1 ∧ y.d.at_ ≤ d.at_) && (idG y.d == d.prev)
def seenL (out : List Dr) (d : Deed) (g : Dg) : Bool := out.any fun y => decide (y.d.person ≠ d.person) && befD y.d d && (idG y.d == g)
theorem rests_map (out : List Dr) (d : Deed) : restsD (out.map Dr.d) d = (prevL out d (d.no == 0) && d.seen.all (seenL out d)) := by
 unfold restsD prevL seenL
 rw [List.any_map]
 congr 1
 refine congrArg _ ?_
 funext x
 rw [List.any_map]; rfl
theorem any_snoc {α : Type} (q : α → Bool) {l : List α} {i : Nat} {x : α} (h : l[i]? = some x) : (l.take (i + 1)).any q = ((l.take i).any q || q x) := by
 rw [List.take_add_one, h, List.any_append]; simp
end Go.Mer
end
section
/- Merge: the reference: sorted, id. -/
set_option maxRecDepth 4000
namespace Go.Sg
open Go.Rn Go.Proofs Go.Dee Go.Mer Go.Rec Go.RowKit Go.Sha Go.Cod Go.NT
attribute [local irreducible] leftL keysD fineD thereL Go.Rn.RetsX Go.Rn.RunLN Go.Rn.AsyN Go.Rn.RunL Go.Rn.RunE Go.Rn.Asy Go.Rn.OpV Go.Rn.OpE Go.Rn.ExecE
theorem rid50_ok (d : Deed) (u v : Value) (w : World) (hs : LDg w u d.seen) (hb : LBy w v d.data) (hl : d.seen.length < 9223372036854775808) (hl' : d.data.length < 9223372036854775808) :
  Rets Tryz.prog 55 [.agg (dCells d u v).toArray] w fun r w' => r = .agg (digC (idG d)).toArray ∧ Ext w w' := by
 have c1 := fun w h1 h2 => rId_ok d u v w h1 h2 hl hl'
 generalize idG d = g at c1
 generalize idE d = e at c1
 refine RetsX.of (nt := 11) Tryz.func55 (by kernel_rfl) rfl rfl (by simp) (by simp only [argEnv]; rfl) ?_
 have X := ExtB.refl (fun _ => False) w
 repeat' (first | refine ZzQ ?_ | refine ZzR ?_)
 refine RunL.box rfl rfl rfl fun B1 w1_ a_ => ?_
 have Z1 : Blk w1_ B1 (dCells d u v) 38 := a_.at_
 have gB1 := a_.ge X
 replace X := X.trans a_.ext
 clear a_
 skip
 refine RunL.alloc Tryz.tOk rfl rfl rfl fun B2 w2_ a_ => ?_
 have Z2 : Blk w2_ B2 (digC zeroG) 32 := a_.at_
 have gB2 := a_.ge X
 have n1_2 : B1 ≠ B2 := by have := Z1.lt; have := a_.eq; omega
 have n2_1 : B2 ≠ B1 := Ne.symm n1_2
 replace Z1 := Z1.up a_.ext
 replace X := X.trans a_.ext
 clear a_
 repeat' (first | refine ZzA ?_ | refine RunL.evV rfl rfl rfl (OpV.loadN Tryz.tOk rfl rfl rfl rfl (Blk.row Z1)) ?_ | refine ZzQ ?_ | refine ZzR ?_ | refine ZzN ?_)
 refine RunL.call rfl rfl rfl (c1 _ (hs.up X) (hb.up X)) ?_
 rintro _ _ ⟨rfl, Xa_⟩
 replace Z2 := Z2.up Xa_
 replace X := X.trans Xa_
 clear Xa_
 clear Z1
 repeat' (first | (with_reducible refine RunLN.chk ?_; refine RunLN.int (by (rfl)) ?_) | refine ZzA ?_ | refine RunL.ev Tryz.tOk rfl rfl rfl ?_)
 refine RunL.alloc Tryz.tOk rfl rfl rfl fun B3 wa_ aa_ => ?_
 have gB3 := aa_.ge X
 refine RunL.storeW (vs := digC g) Tryz.tOk rfl rfl rfl rfl rfl aa_.at_ rfl rfl fun w3_ tb_ => ?_
 have Xa_ : Ext _ w3_ := aa_.ext.write tb_.ext (by intro i_ hi_ hlt_; have := aa_.eq; omega)
 have Z3 : Blk w3_ B3 (digC g) 32 := tb_.at_
 have n2_3 : B2 ≠ B3 := by have := Z2.lt; have := aa_.eq; omega
 have n3_2 : B3 ≠ B2 := Ne.symm n2_3
 replace Z2 := Z2.up Xa_
 replace X := X.trans Xa_
 clear Xa_ aa_ tb_
 repeat' (first | (with_reducible refine RunLN.chk ?_; refine RunLN.int (by (rfl)) ?_) | refine ZzA ?_ | refine RunL.ev Tryz.tOk rfl rfl rfl ?_ | refine RunL.evV rfl rfl rfl (OpV.loadN Tryz.tOk rfl rfl rfl rfl (Blk.row Z3)) ?_ | refine ZzQ ?_ | refine ZzR ?_ | refine ZzN ?_)
 refine RunL.storeW (vs := digC g) Tryz.tOk rfl rfl rfl rfl rfl Z2 rfl rfl fun w_ t_ => ?_
 replace X := X.own t_.ext gB2
 replace Z2 : Blk w_ B2 (digC g) 32 := t_.at_
 clear t_
 repeat' (first | refine ZzN ?_)
 exact RunE.retFn Tryz.func55 (.cell rfl (.agg Tryz.tOk rfl rfl rfl Z2.row) .nil) ⟨rfl, X⟩
set_option maxRecDepth 8000 in
set_option maxHeartbeats 8000000 in
theorem rsorted_ok (l : List Dr) (v : Value) (w : World) (hv : LDr w v l) (hl : l.length ≤ 4096) :
  Rets Tryz.prog 41 [v] w fun r w' => w'.ownsRow w.heap.size 38 39 r (sortR l).length (flat Dr.cells (sortR l)) ∧ Ext w w' := by
 refine RetsX.of (nt := 46) Tryz.func41 (by kernel_rfl) rfl rfl (by simp) (by simp only [argEnv]; rfl) ?_
 have X := ExtB.refl (fun _ => False) w
 repeat' (first | refine ZzA ?_ | refine RunL.ev Tryz.tOk rfl rfl rfl ?_ | refine ZzQ ?_ | refine ZzR ?_ | refine ZzN ?_)
 refine RunL.ex rfl rfl rfl (OpE.build00 Tryz.tOk 26 38 rfl rfl rfl) ?_
 rintro _ w1 ⟨⟨B0, rfl⟩, hO, Xa_⟩
 replace X := X.trans Xa_
 clear Xa_
 repeat' (first | (with_reducible refine RunLN.chk ?_; refine RunLN.int (by (rfl)) ?_) | refine ZzA ?_ | refine RunL.ev Tryz.tOk rfl rfl rfl ?_ | refine ZzQ ?_ | refine ZzR ?_ | refine ZzN ?_ | refine ZzB ?_)
 refine RunE.loop (ι := Nat × Value) (fun s => [(0, v), (3, s.2), (4, .int .i64 (s.1 : Int))])
  (fun s w' => s.1 ≤ l.length ∧ Ext w w' ∧ w'.ownsRow w.heap.size 38 39 s.2 (sortR (l.take s.1)).length (flat Dr.cells (sortR (l.take s.1)))) (fun s => l.length - s.1) (0, _) (by repeat (first | exact Sub.nil _ | refine Sub.cons rfl ?_)) ⟨Nat.zero_le _, X, by rw [List.take_zero]; exact hO⟩ ?_
 clear X hO
 rintro ⟨i, u⟩ w3 ⟨hi, X, hO⟩ again
 simp only at hi hO again ⊢
 by_cases hlt : i < l.length
 ·obtain ⟨b1, o1, c1, rfl, hr1, -⟩ := isL_held hv hlt
  obtain ⟨x, hx⟩ : ∃ x, l[i]? = some x := ⟨_, List.getElem?_eq_getElem hlt⟩
  have hrx := flat_row encR hr1 hx
  have hsn : sortR (l.take (i + 1)) = insR (sortR (l.take i)) x := by rw [List.take_add_one, hx]; exact sortR_snoc _ _
  have hol : (sortR (l.take i)).length ≤ 4095 := by
   have := (sortR_perm (l.take i)).length_eq
   rw [List.length_take] at this; omega
  have next := fun u' w' a (b : w'.ownsRow w.heap.size 38 39 u' (insR (sortR (l.take i)) x).length (flat Dr.cells (insR (sortR (l.take i)) x))) => again (i + 1, u') w' (by simp only; omega) ⟨by simp only; omega, a, by simp only; rw [hsn]; exact b⟩
  clear again hsn
  generalize sortR (l.take i) = out at hO hol next
  replace hrx := hrx.up X
  have hU : LDr w3 u out := isSl_own hO
  have hz3 := X.size
  have X3 := X
  replace X := ExtB.refl (fun _ => False) w3
  repeat' (first | (with_reducible refine RunLN.decT ?_ ?_; focus omega) | (with_reducible refine RunLN.chk ?_; refine RunLN.int (by (rfl)) ?_) | refine ZzA ?_ | refine RunL.ev Tryz.tOk rfl rfl rfl ?_ | refine ZzT rfl rfl ?_ | refine ZzQ ?_ | refine ZzR ?_ | refine ZzN ?_ | refine ZzK ?_)
  refine ZzB ?_
  repeat' (first | (with_reducible refine RunLN.chk ?_; refine RunLN.int (by (rfl)) ?_) | refine RunL.ev Tryz.tOk rfl rfl rfl ?_ | refine ZzQ ?_ | refine ZzR ?_ | refine ZzN ?_)
  refine RunE.cut (ι := Nat) (fun p => [(0, .slice (some ⟨b1, o1, none⟩) l.length c1), (3, u), (4, .int .i64 (i : Int)), (5, .int .i64 (p : Int))]) (fun p w' => p ≤ out.length ∧ insR out x = (out.take p ++ [x]) ++ out.drop p ∧ Ext w3 w') ?_ ?_
  ·clear X
   rintro p wq ⟨hp, he, X⟩
   replace hrx := hrx.up X
   replace hU := hU.up X
   have hzq := X.size
   rw [he] at next
   skip
   obtain ⟨u1, hq1, hp1'⟩ : ∃ u1, (∀ (w' : World) (dst : Option Tmp) (ty : TypeId) (pos : String) (after : Array Edge) (guard : Option (Nat × Bool)) (env : Env), evO env (.tmp 31) = some u → evO env (.tmp 32) = some (.int .i64 (p : Int)) →
     OpV Tryz.prog env w' ⟨dst, .slice 26 (.tmp 31) none (some (.tmp 32)) none, ty, pos, after, guard⟩ u1) ∧ ∀ w', Ext wq w' → IsSl w' 39 u1 p (flat Dr.cells (out.take p)) := by
    rcases isL_inv hU with ⟨d, rfl, rfl⟩ | ⟨b, o, cap, rfl, hrow, hcap⟩
    ·obtain rfl : p = 0 := by simpa using hp
     exact ⟨_, fun _ _ _ _ _ _ _ h1 h2 => OpV.sliceNil Tryz.tOk rfl h1 .none (.some h2 rfl), fun _ _ => IsSl.nil⟩
    ·exact ⟨_, fun _ _ _ _ _ _ _ h1 h2 => OpV.slice0 Tryz.tOk (hi := p) rfl h1 .none (.some h2 rfl) (by omega), fun w' e => .row (by have := (hrow.extE e).take (p * 39); rwa [flat_take encR] at this) (by rw [flat_length encR, List.length_take, Nat.min_eq_left hp]) (by omega)⟩
   obtain ⟨u2, hq2, hp2'⟩ : ∃ u2, (∀ (w' : World) (dst : Option Tmp) (ty : TypeId) (pos : String) (after : Array Edge) (guard : Option (Nat × Bool)) (env : Env), evO env (.tmp 41) = some u → evO env (.tmp 42) = some (.int .i64 (p : Int)) →
     OpV Tryz.prog env w' ⟨dst, .slice 26 (.tmp 41) (some (.tmp 42)) none none, ty, pos, after, guard⟩ u2) ∧ ∀ w', Ext wq w' → IsSl w' 39 u2 (out.length - p) (flat Dr.cells (out.drop p)) := by
    rcases isL_inv hU with ⟨d, rfl, rfl⟩ | ⟨b, o, cap, rfl, hrow, hcap⟩
    ·obtain rfl : p = 0 := by simpa using hp
     exact ⟨_, fun _ _ _ _ _ _ _ h1 h2 => OpV.sliceNil Tryz.tOk rfl h1 (.some h2 rfl) .none, fun _ _ => IsSl.nil⟩
    ·by_cases hil : p = out.length
     ·refine ⟨_, fun _ _ _ _ _ _ _ h1 h2 => OpV.sliceS Tryz.tOk rfl h1 (.some h2 rfl) .none .none (.inl rfl) hp hcap (Nat.le_refl _), fun w' e => .row (fun j u hj => ?_) (by rw [flat_length encR, List.length_drop]) (by omega)⟩
      rw [hil, List.drop_length] at hj; simp [flat] at hj
     ·exact ⟨_, fun _ _ _ _ _ _ _ h1 h2 => OpV.slice1' Tryz.tOk p rfl h1 (.some h2 rfl) hp hcap (by omega), fun w' e => .row (by have := (hrow.extE e).drop (p * 39); rwa [flat_drop encR] at this) (by rw [flat_length encR, List.length_drop]) (by omega)⟩
   refine RunE.draw (fun k => wq.heap.size ≤ k) mix ?_
   intro wd_ Xd_
   refine Asy.sat0 (fun u w' => ∃ B, u = .slice (some ⟨B, 0, none⟩) 0 0) rfl rfl rfl rfl (fun u w' w'' _ e h => h) (fun w' _ => ?_) ?_
   ·refine OpE.mono (OpE.build0 Tryz.tOk 26 38 rfl rfl rfl) ?_ fun _ _ h => h
    rintro _ w'' ⟨h1, h2⟩; exact ⟨h2, h1⟩
   repeat' (first | (with_reducible refine AsyN.chk ?_; refine AsyN.int (by (rfl)) ?_) | refine AsyN.any ?_ | refine Asy.ev Tryz.tOk rfl rfl rfl ?_ | refine Asy.evV rfl rfl rfl rfl (fun _ X_ => (hq1 _ _ _ _ _ _ _ rfl rfl)) ?_)
   refine Asy.pre1 0 (fun u w' => (p = 0 ∧ ∃ B, u = .slice (some ⟨B, 0, none⟩) 0 0) ∨ w'.ownsRow wq.heap.size 38 39 u p (flat Dr.cells (out.take p))) rfl rfl rfl rfl rfl rfl (fun u w' w'' _ e h => h.imp id fun h => ownsRow_ext h e (fun _ _ h => h)) (fun w' u e hu => ?_) ?_
   ·obtain ⟨B, rfl⟩ := hu
    refine OpE.mono (OpE.append0 Tryz.tOk (m := p) (news := flat Dr.cells (out.take p)) rfl rfl rfl rfl rfl (hp1' w' (Xd_.write e (by intro k hk hlt; omega))) (by show _ * 120 ≤ _; omega) (by omega)) ?_ fun _ _ h => h
    rintro r w'' ⟨h1, h2⟩
    refine ⟨h2, h1.imp (fun h => ⟨h.1, B, h.2⟩) fun h => ownsRow_base h ?_⟩
    have := Xd_.size; have := e.size; omega
   repeat' (first | (with_reducible refine AsyN.chk ?_; refine AsyN.int (by (rfl)) ?_) | refine AsyN.any ?_ | refine Asy.ev Tryz.tOk rfl rfl rfl ?_ | refine Asy.evV rfl rfl rfl rfl (fun _ X_ => (OpV.loadN Tryz.tOk rfl rfl rfl rfl (hrx.ext (Xd_.write X_ (by intro k hk hlt; omega)) id))) ?_ | refine Asy.evV rfl rfl rfl rfl (fun _ X_ => OpV.indexS Tryz.tOk _ rfl rfl rfl rfl (by omega)) ?_)
   refine Asy.pre0 (fun u w' => ∃ B, u = .slice (some ⟨B, 0, none⟩) 1 1 ∧ Blk w' B x.cells 38) rfl rfl rfl rfl (fun u w' w'' _ e h => ?_) (fun w' _ => ?_) ?_
   ·obtain ⟨B, h1, h2⟩ := h; exact ⟨B, h1, h2.up e⟩
   ·refine OpE.mono (OpE.buildSl Tryz.tOk [.agg x.cells.toArray] rfl rfl rfl rfl rfl rfl (by simp [Value.cells]; rfl)) ?_ fun _ _ h => h
    rintro _ w'' ⟨B, rfl, a⟩; exact ⟨a.ext, B, rfl, a.at_⟩
   refine Asy.wriP2 1 0 (fun u w' => w'.ownsRow wq.heap.size 38 39 u (p + 1) (flat Dr.cells (out.take p ++ [x]))) rfl rfl rfl rfl rfl rfl rfl rfl (fun u w' w'' _ e h => ownsRow_ext h e (fun _ _ h => h)) (fun w' r y e hr hy => ?_) ?_
   ·obtain ⟨B, rfl, hB⟩ := hy
    have hx1 : IsL w' Dr.cells 39 (.slice (some ⟨B, 0, none⟩) 1 1) [x] := by
     have := isSl_blk (n := 1) (cap := 1) (sz := 39) hB (fun i v h => by rw [Nat.zero_add]; exact h) rfl (Nat.le_refl 1)
     simpa [IsL, flat] using this
    have hsz : wq.heap.size ≤ w'.heap.size := by have := Xd_.size; have := e.size; omega
    rcases hr with ⟨h0, B', rfl⟩ | hr
    ·subst h0
     refine OpE.mono (OpE.append0 Tryz.tOk (m := 1) (news := flat Dr.cells [x]) rfl rfl rfl rfl rfl hx1 (by show 1 * 120 ≤ _; decide) (by omega)) ?_ fun _ _ h => h
     rintro r w'' ⟨h1, h2⟩
     refine ⟨ExtB.of_ext h2, ?_⟩
     rcases h1 with ⟨h, -⟩ | h
     ·exact absurd h (by decide)
     ·simpa using ownsRow_base h hsz
    ·refine OpE.mono (OpE.append' Tryz.tOk rfl rfl rfl rfl rfl rfl hr hx1 (flat_plain encR [x]) (by show _ * 120 ≤ _; simp only [List.length_singleton]; omega) (by simp only [List.length_singleton]; omega) hsz) ?_ fun _ _ h => h
     rintro r' w'' ⟨h1, h2, -⟩
     refine ⟨h2.mono fun k hk h => ownsRow_ge hr h, ?_⟩
     rw [flat_append]; exact h1
   repeat' (first | (with_reducible refine AsyN.chk ?_; refine AsyN.int (by (rfl)) ?_) | refine AsyN.any ?_ | refine Asy.ev Tryz.tOk rfl rfl rfl ?_ | refine Asy.evV rfl rfl rfl rfl (fun _ X_ => (hq2 _ _ _ _ _ _ _ rfl rfl)) ?_)
   refine Asy.tailW (by kernel_rfl) fun we_ r Xe_ hr => ?_
   simp only [satsAll]
   intro _ _
   have hszE : wq.heap.size ≤ we_.heap.size := by have := Xd_.size; have := Xe_.size; omega
   have XE : Ext wq we_ := Xd_.write Xe_ (by intro k hk hlt; omega)
   refine RunL.ex rfl rfl rfl (OpE.append' Tryz.tOk rfl rfl rfl rfl rfl rfl hr (hp2' we_ XE) (flat_plain encR (out.drop p)) (by show _ * 120 ≤ _; omega) (by omega) hszE) ?_
   rintro r' w5 ⟨h5, E5, -⟩
   have hXq : Ext wq w5 := XE.write E5 (by intro k hk hlt; have := ownsRow_ge hr hk; omega)
   repeat' (first | (with_reducible refine RunLN.chk ?_; refine RunLN.int (by (first | (refine wr_i64 ?_ ?_; omega; omega) | rfl)) ?_) | refine ZzA ?_ | refine RunL.ev Tryz.tOk rfl rfl rfl ?_ | refine ZzR ?_ | refine ZzN ?_ | refine ZzI ?_)
   refine RunE.weaken (by repeat (first | exact Sub.nil _ | refine Sub.cons rfl ?_)) (next r' _ ((X3.trans X).trans hXq) ?_)
   have hN : ((out.take p ++ [x]) ++ out.drop p).length = p + 1 + (out.length - p) := by simp; omega
   rw [hN, flat_append]
   exact ownsRow_base h5 (by omega)
  ·intro join
   repeat' (first | refine ZzB ?_)
   refine RunE.loop (ι := Nat) (fun p => [(0, .slice (some ⟨b1, o1, none⟩) l.length c1), (3, u), (4, .int .i64 (i : Int)), (5, .int .i64 (p : Int))])
    (fun p w' => p ≤ out.length ∧ (∀ j y, j < p → out[j]? = some y → befD y.d x.d = true) ∧ Ext w3 w') (fun p => out.length - p) 0 (by repeat (first | exact Sub.nil _ | refine Sub.cons rfl ?_)) ⟨Nat.zero_le _, fun j y h => by omega, X⟩ ?_
   clear X
   rintro p w4 ⟨hp, hb, X⟩ again2
   have hU4 := hU.up X
   have hrx4 := hrx.up X
   by_cases hpl : p < out.length
   ·obtain ⟨b2, o2, c2, rfl, hr2, -⟩ := isL_held hU4 hpl
    obtain ⟨y, hy⟩ : ∃ y, out[p]? = some y := ⟨_, List.getElem?_eq_getElem hpl⟩
    have hry := flat_row encR hr2 hy
    have cB := fun w => rbefore_ok y.d x.d y.u y.v x.u x.v w
    cases hbf : befD y.d x.d with
    | true =>
     rw [hbf] at cB
     repeat' (first | refine ZzQ ?_)
     refine RunE.draw (fun _ => False) mix ?_
     intro wd_ Xd_
     repeat' (first | with_reducible refine AsyN.boolT rfl ?_ | (with_reducible refine AsyN.decT ?_ ?_; focus omega) | (with_reducible refine AsyN.chk ?_; refine AsyN.int (by (rfl)) ?_) | refine AsyN.any ?_ | refine Asy.ev Tryz.tOk rfl rfl rfl ?_ | refine Asy.evV rfl rfl rfl rfl (fun _ X_ => OpV.loadN Tryz.tOk rfl rfl rfl rfl (hry.up (Xd_.trans X_))) ?_ | refine Asy.evV rfl rfl rfl rfl (fun _ X_ => OpV.loadN Tryz.tOk rfl rfl rfl rfl (hrx4.up (Xd_.trans X_))) ?_ | refine Asy.callN rfl rfl rfl (fun _ X_ => ((cB _))) ?_ | refine Asy.evV rfl rfl rfl rfl (fun _ X_ => OpV.indexS Tryz.tOk _ rfl rfl rfl rfl (by omega)) ?_)
     refine Asy.end_ (by kernel_rfl) ?_
     intro we_ Xe_
     replace X := X.trans (Xd_.trans Xe_)
     clear Xd_ Xe_
     repeat' (first | (with_reducible refine RunLN.chk ?_; refine RunLN.int (by (first | (refine wr_i64 ?_ ?_; omega; omega) | rfl)) ?_) | refine RunL.ev Tryz.tOk rfl rfl rfl ?_ | refine ZzT rfl rfl ?_ | refine ZzR ?_ | refine ZzN ?_ | refine ZzB ?_ | refine ZzI ?_ | refine ZzK ?_)
     exact RunE.weaken (by repeat (first | exact Sub.nil _ | refine Sub.cons rfl ?_)) (again2 (p + 1) _ (by omega) ⟨by omega, fun j z hj hz => by
      by_cases e : j = p
      ·subst e; rw [hy] at hz; cases hz; exact hbf
      ·exact hb j z (by omega) hz, X⟩)
    | false =>
     rw [hbf] at cB
     clear again2
     have he := insR_at hb (fun z hz => by rw [hy] at hz; cases hz; exact hbf)
     repeat' (first | refine ZzQ ?_)
     refine RunE.draw (fun _ => False) mix ?_
     intro wd_ Xd_
     repeat' (first | with_reducible refine AsyN.boolT rfl ?_ | with_reducible refine AsyN.boolF rfl ?_ | (with_reducible refine AsyN.decT ?_ ?_; focus omega) | (with_reducible refine AsyN.chk ?_; refine AsyN.int (by (rfl)) ?_) | refine AsyN.any ?_ | refine Asy.ev Tryz.tOk rfl rfl rfl ?_ | refine Asy.evV rfl rfl rfl rfl (fun _ X_ => OpV.loadN Tryz.tOk rfl rfl rfl rfl (hry.up (Xd_.trans X_))) ?_ | refine Asy.evV rfl rfl rfl rfl (fun _ X_ => OpV.loadN Tryz.tOk rfl rfl rfl rfl (hrx4.up (Xd_.trans X_))) ?_ | refine Asy.callN rfl rfl rfl (fun _ X_ => ((cB _))) ?_ | refine Asy.evV rfl rfl rfl rfl (fun _ X_ => OpV.indexS Tryz.tOk _ rfl rfl rfl rfl (by omega)) ?_)
     refine Asy.end_ (by kernel_rfl) ?_
     intro we_ Xe_
     replace X := X.trans (Xd_.trans Xe_)
     clear Xd_ Xe_
     refine ZzN ?_
     refine ZzF rfl rfl ?_
     refine RunE.exit rfl ?_
     exact RunE.weaken (by repeat (first | exact Sub.nil _ | refine Sub.cons rfl ?_)) (join p _ ⟨by omega, he, X⟩)
   ·obtain rfl : p = out.length := by omega
    clear again2
    have he := insR_at hb (fun z hz => by rw [List.getElem?_eq_none (Nat.le_refl _)] at hz; cases hz)
    repeat' (first | refine ZzQ ?_)
    refine RunE.draw (fun _ => False) mix ?_
    intro wd_ Xd_
    repeat' (first | with_reducible refine AsyN.boolF rfl ?_ | (with_reducible refine AsyN.decF ?_ ?_; focus omega) | (with_reducible refine AsyN.chk ?_; refine AsyN.int (by (rfl)) ?_) | refine AsyN.any ?_ | refine Asy.ev Tryz.tOk rfl rfl rfl ?_ | refine Asy.unwantedD rfl rfl rfl ?_ | refine Asy.evV rfl rfl rfl rfl (fun _ X_ => OpV.lenSl Tryz.tOk rfl rfl hU4) ?_)
    refine Asy.end_ (by kernel_rfl) ?_
    intro we_ Xe_
    replace X := X.trans (Xd_.trans Xe_)
    clear Xd_ Xe_
    refine ZzN ?_
    refine ZzF rfl rfl ?_
    refine RunE.exit rfl ?_
    exact RunE.weaken (by repeat (first | exact Sub.nil _ | refine Sub.cons rfl ?_)) (join out.length _ ⟨Nat.le_refl _, he, X⟩)
 ·obtain rfl : i = l.length := by omega
  rw [List.take_length] at hO
  clear again
  repeat' (first | (with_reducible refine RunLN.decF ?_ ?_; focus omega) | (with_reducible refine RunLN.chk ?_; refine RunLN.int (by (rfl)) ?_) | refine ZzA ?_ | refine RunL.ev Tryz.tOk rfl rfl rfl ?_ | refine RunL.evV rfl rfl rfl (OpV.lenSl Tryz.tOk rfl rfl hv) ?_ | refine ZzF rfl rfl ?_ | refine ZzQ ?_ | refine ZzR ?_ | refine ZzN ?_ | refine RunE.exit rfl ?_)
  exact RunE.retFn Tryz.func41 (.tmp rfl .nil) ⟨hO, X⟩
end Go.Sg
end
section
/- Merge: the reference: Rests. -/
set_option maxRecDepth 4000
namespace Go.Sg
open Go.Rn Go.Proofs Go.Dee Go.Mer Go.Rec Go.RowKit Go.Sha Go.Cod Go.NT
attribute [local irreducible] idG idD befD formedD leftL keysD fineD thereL Go.Rn.RetsX Go.Rn.RunLN Go.Rn.AsyN Go.Rn.RunL Go.Rn.RunE Go.Rn.Asy Go.Rn.OpV Go.Rn.OpE Go.Rn.ExecE
set_option maxRecDepth 8000 in
set_option maxHeartbeats 8000000 in
theorem rRests_go (l : List Dr) (v : Value) (d : Deed) (ua : Option Addr) (uc : Nat) (dv : Value) (w : World) (hv : LDr w v l) (hl : l.length < 9223372036854775808) (hw : ∀ x ∈ l, WfX w x) (hs : LDg w (.slice ua d.seen.length uc) d.seen) (hsl : d.seen.length < 9223372036854775808) (hd0 : 0 ≤ d.no) (hdi : d.no < 9223372036854775808) :
  Rets Tryz.prog 25 [v, .agg (dCells d (.slice ua d.seen.length uc) dv).toArray] w fun r w' => r = .bool (restsD (l.map Dr.d) d) ∧ Ext w w' := by
 rw [rests_map]
 refine RetsX.of (nt := 104) Tryz.func25 (by kernel_rfl) rfl rfl (by simp) (by simp only [argEnv]; rfl) ?_
 have X := ExtB.refl (fun _ => False) w
 repeat' (first | refine ZzQ ?_ | refine ZzR ?_)
 refine RunL.box rfl rfl rfl fun B3 w3_ a_ => ?_
 have Z3 : Blk w3_ B3 (dCells d (.slice ua d.seen.length uc) dv) 38 := a_.at_
 have gB3 := a_.ge X
 replace X := X.trans a_.ext
 clear a_
 repeat' (first | with_reducible refine ZzG rfl ?_ | (with_reducible refine RunLN.chk ?_; refine RunLN.int (by (rfl)) ?_) | refine ZzA ?_ | refine RunL.ev Tryz.tOk rfl rfl rfl ?_ | refine RunL.evV rfl rfl rfl (OpV.load1 Tryz.tOk rfl rfl rfl (Blk.cell Z3 rfl)) ?_ | refine ZzQ ?_ | refine ZzR ?_ | refine ZzN ?_ | refine ZzB ?_)
 refine RunE.loop (ι := Nat × Bool) (fun s => [(0, v), (3, .pointer (some ⟨B3, 0, none⟩)), (5, .bool s.2), (6, .int .i64 (s.1 : Int))])
  (fun s w' => s.1 ≤ l.length ∧ prevL (l.take s.1) d (d.no == 0) = s.2 ∧ Ext w w' ∧ Blk w' B3 (dCells d (.slice ua d.seen.length uc) dv) 38) (fun s => l.length - s.1) (0, (d.no == 0)) (by repeat (first | exact Sub.nil _ | refine Sub.cons rfl ?_)) ⟨Nat.zero_le _, by unfold prevL; simp, X, Z3⟩ ?_
 clear X Z3
 rintro ⟨i, pv⟩ w3 ⟨hi, hpv, X, Z3⟩ again
 simp only at hi hpv again ⊢
 by_cases hlt : i < l.length
 ·obtain ⟨b1, o1, c1, rfl, hr1, -⟩ := isL_held hv hlt
  obtain ⟨x, hx⟩ : ∃ x, l[i]? = some x := ⟨_, List.getElem?_eq_getElem hlt⟩
  have hrx := flat_row encR hr1 hx
  have hwx := hw x (List.mem_of_getElem? hx)
  have hnew : prevL (l.take (i + 1)) d (d.no == 0) = (pv || (decide (x.d.person = d.person ∧ x.d.no = d.no - 1 ∧ x.d.at_ ≤ d.at_) && (idG x.d == d.prev))) := by
   rw [← hpv]; unfold prevL; rw [any_snoc _ hx, Bool.or_assoc]
  have cI := fun w h h' => rid50_ok x.d x.u x.v w h h' hwx.2.1 hwx.2.2.1
  clear hpv
  repeat' (first | (with_reducible refine RunLN.decT ?_ ?_; focus omega) | (with_reducible refine RunLN.chk ?_; refine RunLN.int (by (rfl)) ?_) | refine ZzA ?_ | refine RunL.ev Tryz.tOk rfl rfl rfl ?_ | refine ZzT rfl rfl ?_ | refine ZzQ ?_ | refine ZzR ?_ | refine ZzN ?_ | refine ZzB ?_ | refine ZzK ?_)
  refine RunE.draw (fun _ => False) mix ?_
  intro wd_ Xd_
  by_cases h1 : x.d.person = d.person
  rotate_left
  ·rw [decide_eq_false (fun h => h1 h.1), Bool.false_and] at hnew
   repeat' (first | with_reducible refine AsyN.boolF rfl ?_ | (with_reducible refine AsyN.eqF ?_ ?_; focus omega) | (with_reducible refine AsyN.chk ?_; refine AsyN.int (by (rfl)) ?_) | refine AsyN.any ?_ | refine Asy.ev Tryz.tOk rfl rfl rfl ?_ | refine Asy.unwantedD rfl rfl rfl ?_ | refine Asy.evV rfl rfl rfl rfl (fun _ X_ => OpV.load1 Tryz.tOk rfl rfl rfl ((hrx.up (X.trans (Xd_.trans X_))) _ _ rfl)) ?_ | refine Asy.evV rfl rfl rfl rfl (fun _ X_ => OpV.load1 Tryz.tOk rfl rfl rfl (Blk.cell (Z3.up (Xd_.trans X_)) rfl)) ?_ | refine Asy.evV rfl rfl rfl rfl (fun _ X_ => OpV.indexS Tryz.tOk _ rfl rfl rfl rfl (by omega)) ?_)
   refine Asy.end_ (by kernel_rfl) ?_
   intro we_ Xe_
   replace X := X.trans (Xd_.trans Xe_)
   replace Z3 := Z3.up (Xd_.trans Xe_)
   clear Xd_ Xe_
   repeat' (first | (with_reducible refine RunLN.chk ?_; refine RunLN.int (by (first | (refine wr_i64 ?_ ?_; omega; omega) | rfl)) ?_) | refine RunL.ev Tryz.tOk rfl rfl rfl ?_ | refine ZzF rfl rfl ?_ | refine ZzR ?_ | refine ZzN ?_ | refine ZzI ?_ | refine ZzK ?_)
   exact RunE.weaken (by repeat (first | exact Sub.nil _ | refine Sub.cons rfl ?_)) (again (i + 1, pv) _ (by simp only; omega) ⟨by simp only; omega, by rw [hnew, Bool.or_false], X, Z3⟩)
  by_cases h2 : x.d.no = d.no - 1
  rotate_left
  ·rw [decide_eq_false (fun h => h2 h.2.1), Bool.false_and] at hnew
   repeat' (first | with_reducible refine AsyN.boolT rfl ?_ | with_reducible refine AsyN.boolF rfl ?_ | (with_reducible refine AsyN.eqT ?_ ?_; focus omega) | (with_reducible refine AsyN.eqF ?_ ?_; focus omega) | (with_reducible refine AsyN.chk ?_; refine AsyN.int (by (first | (refine wr_i64 ?_ ?_; omega; omega) | rfl)) ?_) | refine AsyN.any ?_ | refine Asy.ev Tryz.tOk rfl rfl rfl ?_ | refine Asy.unwantedD rfl rfl rfl ?_ | refine Asy.evV rfl rfl rfl rfl (fun _ X_ => OpV.load1 Tryz.tOk rfl rfl rfl ((hrx.up (X.trans (Xd_.trans X_))) _ _ rfl)) ?_ | refine Asy.evV rfl rfl rfl rfl (fun _ X_ => OpV.load1 Tryz.tOk rfl rfl rfl (Blk.cell (Z3.up (Xd_.trans X_)) rfl)) ?_ | refine Asy.evV rfl rfl rfl rfl (fun _ X_ => OpV.indexS Tryz.tOk _ rfl rfl rfl rfl (by omega)) ?_)
   refine Asy.end_ (by kernel_rfl) ?_
   intro we_ Xe_
   replace X := X.trans (Xd_.trans Xe_)
   replace Z3 := Z3.up (Xd_.trans Xe_)
   clear Xd_ Xe_
   repeat' (first | (with_reducible refine RunLN.chk ?_; refine RunLN.int (by (first | (refine wr_i64 ?_ ?_; omega; omega) | rfl)) ?_) | refine RunL.ev Tryz.tOk rfl rfl rfl ?_ | refine ZzF rfl rfl ?_ | refine ZzR ?_ | refine ZzN ?_ | refine ZzI ?_ | refine ZzK ?_)
   exact RunE.weaken (by repeat (first | exact Sub.nil _ | refine Sub.cons rfl ?_)) (again (i + 1, pv) _ (by simp only; omega) ⟨by simp only; omega, by rw [hnew, Bool.or_false], X, Z3⟩)
  by_cases h3 : x.d.at_ ≤ d.at_
  rotate_left
  ·rw [decide_eq_false (fun h => h3 h.2.2), Bool.false_and] at hnew
   repeat' (first | with_reducible refine AsyN.boolT rfl ?_ | with_reducible refine AsyN.boolF rfl ?_ | (with_reducible refine AsyN.decF ?_ ?_; focus omega) | (with_reducible refine AsyN.eqT ?_ ?_; focus omega) | (with_reducible refine AsyN.chk ?_; refine AsyN.int (by (first | (refine wr_i64 ?_ ?_; omega; omega) | rfl)) ?_) | refine AsyN.any ?_ | refine Asy.ev Tryz.tOk rfl rfl rfl ?_ | refine Asy.unwantedD rfl rfl rfl ?_ | refine Asy.evV rfl rfl rfl rfl (fun _ X_ => OpV.load1 Tryz.tOk rfl rfl rfl ((hrx.up (X.trans (Xd_.trans X_))) _ _ rfl)) ?_ | refine Asy.evV rfl rfl rfl rfl (fun _ X_ => OpV.load1 Tryz.tOk rfl rfl rfl (Blk.cell (Z3.up (Xd_.trans X_)) rfl)) ?_ | refine Asy.evV rfl rfl rfl rfl (fun _ X_ => OpV.indexS Tryz.tOk _ rfl rfl rfl rfl (by omega)) ?_)
   refine Asy.end_ (by kernel_rfl) ?_
   intro we_ Xe_
   replace X := X.trans (Xd_.trans Xe_)
   replace Z3 := Z3.up (Xd_.trans Xe_)
   clear Xd_ Xe_
   repeat' (first | (with_reducible refine RunLN.chk ?_; refine RunLN.int (by (first | (refine wr_i64 ?_ ?_; omega; omega) | rfl)) ?_) | refine RunL.ev Tryz.tOk rfl rfl rfl ?_ | refine ZzF rfl rfl ?_ | refine ZzR ?_ | refine ZzN ?_ | refine ZzI ?_ | refine ZzK ?_)
   exact RunE.weaken (by repeat (first | exact Sub.nil _ | refine Sub.cons rfl ?_)) (again (i + 1, pv) _ (by simp only; omega) ⟨by simp only; omega, by rw [hnew, Bool.or_false], X, Z3⟩)
  rw [decide_eq_true ⟨h1, h2, h3⟩, Bool.true_and] at hnew
  cases hq : (idG x.d == d.prev) with
  | false =>
   rw [hq] at hnew
   repeat' (first | with_reducible refine AsyN.boolT rfl ?_ | with_reducible refine AsyN.boolF rfl ?_ | refine AsyN.boolF (by assumption) ?_ | (with_reducible refine AsyN.decT ?_ ?_; focus omega) | (with_reducible refine AsyN.eqT ?_ ?_; focus omega) | (with_reducible refine AsyN.chk ?_; refine AsyN.int (by (first | (refine wr_i64 ?_ ?_; omega; omega) | rfl)) ?_) | refine AsyN.any ?_ | refine Asy.ev Tryz.tOk rfl rfl rfl ?_ | refine Asy.evV rfl rfl rfl rfl (fun _ X_ => OpV.load1 Tryz.tOk rfl rfl rfl ((hrx.up (X.trans (Xd_.trans X_))) _ _ rfl)) ?_ | refine Asy.evV rfl rfl rfl rfl (fun _ X_ => OpV.loadN Tryz.tOk rfl rfl rfl rfl (hrx.up (X.trans (Xd_.trans X_)))) ?_ | refine Asy.evV rfl rfl rfl rfl (fun _ X_ => OpV.load1 Tryz.tOk rfl rfl rfl (Blk.cell (Z3.up (Xd_.trans X_)) rfl)) ?_ | refine Asy.evV rfl rfl rfl rfl (fun _ X_ => OpV.loadN Tryz.tOk rfl rfl rfl rfl ((row_prev (Blk.row Z3)).up (Xd_.trans X_))) ?_ | refine Asy.evV rfl rfl rfl rfl (fun _ X_ => (OpV.eqDg (a := idG x.d) (b := d.prev) bytesArr rfl rfl)) ?_ | refine Asy.callN rfl rfl rfl (fun _ X_ => ((cI _ (hwx.2.2.2.seen.up (X.trans (Xd_.trans X_))) (hwx.2.2.2.data.up (X.trans (Xd_.trans X_)))))) ?_ | refine Asy.evV rfl rfl rfl rfl (fun _ X_ => OpV.indexS Tryz.tOk _ rfl rfl rfl rfl (by omega)) ?_)
   refine Asy.end_ (by kernel_rfl) ?_
   intro we_ Xe_
   replace X := X.trans (Xd_.trans Xe_)
   replace Z3 := Z3.up (Xd_.trans Xe_)
   clear Xd_ Xe_
   repeat' (first | (with_reducible refine RunLN.chk ?_; refine RunLN.int (by (first | (refine wr_i64 ?_ ?_; omega; omega) | rfl)) ?_) | refine RunL.ev Tryz.tOk rfl rfl rfl ?_ | refine ZzF rfl rfl ?_ | refine ZzR ?_ | refine ZzN ?_ | refine ZzI ?_ | refine ZzK ?_)
   exact RunE.weaken (by repeat (first | exact Sub.nil _ | refine Sub.cons rfl ?_)) (again (i + 1, pv) _ (by simp only; omega) ⟨by simp only; omega, by rw [hnew, Bool.or_false], X, Z3⟩)
  | true =>
   rw [hq, Bool.or_true] at hnew
   repeat' (first | with_reducible refine AsyN.boolT rfl ?_ | refine AsyN.boolT (by assumption) ?_ | (with_reducible refine AsyN.decT ?_ ?_; focus omega) | (with_reducible refine AsyN.eqT ?_ ?_; focus omega) | (with_reducible refine AsyN.chk ?_; refine AsyN.int (by (first | (refine wr_i64 ?_ ?_; omega; omega) | rfl)) ?_) | refine AsyN.any ?_ | refine Asy.ev Tryz.tOk rfl rfl rfl ?_ | refine Asy.evV rfl rfl rfl rfl (fun _ X_ => OpV.load1 Tryz.tOk rfl rfl rfl ((hrx.up (X.trans (Xd_.trans X_))) _ _ rfl)) ?_ | refine Asy.evV rfl rfl rfl rfl (fun _ X_ => OpV.loadN Tryz.tOk rfl rfl rfl rfl (hrx.up (X.trans (Xd_.trans X_)))) ?_ | refine Asy.evV rfl rfl rfl rfl (fun _ X_ => OpV.load1 Tryz.tOk rfl rfl rfl (Blk.cell (Z3.up (Xd_.trans X_)) rfl)) ?_ | refine Asy.evV rfl rfl rfl rfl (fun _ X_ => OpV.loadN Tryz.tOk rfl rfl rfl rfl ((row_prev (Blk.row Z3)).up (Xd_.trans X_))) ?_ | refine Asy.evV rfl rfl rfl rfl (fun _ X_ => (OpV.eqDg (a := idG x.d) (b := d.prev) bytesArr rfl rfl)) ?_ | refine Asy.callN rfl rfl rfl (fun _ X_ => ((cI _ (hwx.2.2.2.seen.up (X.trans (Xd_.trans X_))) (hwx.2.2.2.data.up (X.trans (Xd_.trans X_)))))) ?_ | refine Asy.evV rfl rfl rfl rfl (fun _ X_ => OpV.indexS Tryz.tOk _ rfl rfl rfl rfl (by omega)) ?_)
   refine Asy.end_ (by kernel_rfl) ?_
   intro we_ Xe_
   replace X := X.trans (Xd_.trans Xe_)
   replace Z3 := Z3.up (Xd_.trans Xe_)
   clear Xd_ Xe_
   repeat' (first | with_reducible refine ZzP rfl ?_ | (with_reducible refine RunLN.chk ?_; refine RunLN.int (by (first | (refine wr_i64 ?_ ?_; omega; omega) | rfl)) ?_) | refine RunL.ev Tryz.tOk rfl rfl rfl ?_ | refine ZzT rfl rfl ?_ | refine ZzR ?_ | refine ZzN ?_ | refine ZzI ?_)
   exact RunE.weaken (by repeat (first | exact Sub.nil _ | refine Sub.cons rfl ?_)) (again (i + 1, true) _ (by simp only; omega) ⟨by simp only; omega, hnew, X, Z3⟩)
 obtain rfl : i = l.length := by omega
 rw [List.take_length] at hpv
 clear again hdi
 rw [hpv]
 cases pv with
 | false =>
  repeat' (first | with_reducible refine ZzP rfl ?_ | with_reducible refine ZzG rfl ?_ | (with_reducible refine RunLN.decF ?_ ?_; focus omega) | (with_reducible refine RunLN.chk ?_; refine RunLN.int (by (rfl)) ?_) | refine ZzA ?_ | refine RunL.ev Tryz.tOk rfl rfl rfl ?_ | refine RunL.evV rfl rfl rfl (OpV.lenSl Tryz.tOk rfl rfl hv) ?_ | refine ZzT rfl rfl ?_ | refine ZzF rfl rfl ?_ | refine ZzQ ?_ | refine ZzR ?_ | refine ZzN ?_ | refine RunE.exit rfl ?_)
  exact RunE.retFn Tryz.func25 (.tmp rfl .nil) ⟨rfl, X⟩
 | true =>
 rw [Bool.true_and]
 repeat' (first | with_reducible refine ZzP rfl ?_ | with_reducible refine ZzG rfl ?_ | (with_reducible refine RunLN.decF ?_ ?_; focus omega) | (with_reducible refine RunLN.chk ?_; refine RunLN.int (by (rfl)) ?_) | refine ZzA ?_ | refine RunL.ev Tryz.tOk rfl rfl rfl ?_ | refine RunL.evV rfl rfl rfl (OpV.lenSl Tryz.tOk rfl rfl hv) ?_ | refine ZzF rfl rfl ?_ | refine ZzQ ?_ | refine ZzR ?_ | refine ZzN ?_ | refine ZzB ?_ | refine ZzK ?_ | refine RunE.exit rfl ?_)
 refine RunE.loop (ι := Nat) (fun s => [(0, v), (3, .pointer (some ⟨B3, 0, none⟩)), (7, .int .i64 (s : Int))])
  (fun s w' => s ≤ d.seen.length ∧ (d.seen.take s).all (seenL l d) = true ∧ Ext w w' ∧ Blk w' B3 (dCells d (.slice ua d.seen.length uc) dv) 38) (fun s => d.seen.length - s) 0 (by repeat (first | exact Sub.nil _ | refine Sub.cons rfl ?_)) ⟨Nat.zero_le _, rfl, X, Z3⟩ ?_
 clear X Z3 hpv
 rintro k w4 ⟨hk, hall, X, Z3⟩ again2
 by_cases hkl : k < d.seen.length
 rotate_left
 ·obtain rfl : k = d.seen.length := by omega
  rw [List.take_length] at hall
  clear again2
  repeat' (first | with_reducible refine ZzP rfl ?_ | (with_reducible refine RunLN.decF ?_ ?_; focus omega) | (with_reducible refine RunLN.chk ?_; refine RunLN.int (by (rfl)) ?_) | refine ZzA ?_ | refine RunL.ev Tryz.tOk rfl rfl rfl ?_ | refine RunL.evV rfl rfl rfl (OpV.load1 Tryz.tOk rfl rfl rfl (Blk.cell Z3 rfl)) ?_ | refine ZzF rfl rfl ?_ | refine ZzQ ?_ | refine ZzR ?_ | refine ZzN ?_ | refine RunE.exit rfl ?_)
  exact RunE.retFn Tryz.func25 (.tmp rfl .nil) ⟨by rw [hall]; rfl, X⟩
 obtain ⟨g, hg⟩ : ∃ g, d.seen[k]? = some g := ⟨_, List.getElem?_eq_getElem hkl⟩
 obtain ⟨b3, o3, c3, eu, hr3, -⟩ := isL_held hs hkl
 have hrg := flat_row encG hr3 hg
 injection eu with e3 _ e4
 subst e3
 subst e4
 have hak : (d.seen.take (k + 1)).all (seenL l d) = seenL l d g := by
  rw [List.take_add_one, hg, List.all_append, hall, Bool.true_and]; simp
 repeat' (first | with_reducible refine ZzG rfl ?_ | (with_reducible refine RunLN.decT ?_ ?_; focus omega) | (with_reducible refine RunLN.chk ?_; refine RunLN.int (by (rfl)) ?_) | refine ZzA ?_ | refine RunL.ev Tryz.tOk rfl rfl rfl ?_ | refine RunL.evV rfl rfl rfl (OpV.load1 Tryz.tOk rfl rfl rfl (Blk.cell Z3 rfl)) ?_ | refine ZzT rfl rfl ?_ | refine ZzQ ?_ | refine ZzR ?_ | refine ZzN ?_ | refine ZzB ?_ | refine ZzK ?_)
 refine RunE.loop (ι := Nat × Bool) (fun s => [(0, v), (3, .pointer (some ⟨B3, 0, none⟩)), (7, .int .i64 (k : Int)), (8, .bool s.2), (9, .int .i64 (s.1 : Int))])
  (fun s w' => s.1 ≤ l.length ∧ seenL (l.take s.1) d g = s.2 ∧ Ext w w' ∧ Blk w' B3 (dCells d (.slice (some ⟨b3, o3, none⟩) d.seen.length uc) dv) 38) (fun s => l.length - s.1) (0, false) (by repeat (first | exact Sub.nil _ | refine Sub.cons rfl ?_)) ⟨Nat.zero_le _, by unfold seenL; rfl, X, Z3⟩ ?_
 clear X Z3
 rintro ⟨i, sn⟩ w5 ⟨hi, hsn, X, Z3⟩ again3
 simp only at hi hsn again3 ⊢
 by_cases hlt : i < l.length
 ·obtain ⟨b1, o1, c1, rfl, hr1, -⟩ := isL_held hv hlt
  obtain ⟨x, hx⟩ : ∃ x, l[i]? = some x := ⟨_, List.getElem?_eq_getElem hlt⟩
  have hrx := flat_row encR hr1 hx
  have hwx := hw x (List.mem_of_getElem? hx)
  have hnew : seenL (l.take (i + 1)) d g = (sn || (decide (x.d.person ≠ d.person) && befD x.d d && (idG x.d == g))) := by
   rw [← hsn]; unfold seenL; rw [any_snoc _ hx]
  have cI := fun w h h' => rid50_ok x.d x.u x.v w h h' hwx.2.1 hwx.2.2.1
  have cB := fun w => rbefore_ok x.d d x.u x.v (.slice (some ⟨b3, o3, none⟩) d.seen.length uc) dv w
  clear hsn again2 hak hall
  repeat' (first | (with_reducible refine RunLN.decT ?_ ?_; focus omega) | (with_reducible refine RunLN.chk ?_; refine RunLN.int (by (rfl)) ?_) | refine ZzA ?_ | refine RunL.ev Tryz.tOk rfl rfl rfl ?_ | refine ZzT rfl rfl ?_ | refine ZzQ ?_ | refine ZzR ?_ | refine ZzN ?_ | refine ZzB ?_ | refine ZzK ?_)
  refine RunE.draw (fun _ => False) mix ?_
  intro wd_ Xd_
  by_cases h1 : x.d.person = d.person
  ·rw [decide_eq_false (by simpa using h1), Bool.false_and, Bool.false_and] at hnew
   repeat' (first | with_reducible refine AsyN.boolF rfl ?_ | (with_reducible refine AsyN.neF ?_ ?_; focus omega) | (with_reducible refine AsyN.chk ?_; refine AsyN.int (by (rfl)) ?_) | refine AsyN.any ?_ | refine Asy.ev Tryz.tOk rfl rfl rfl ?_ | refine Asy.unwantedD rfl rfl rfl ?_ | refine Asy.evV rfl rfl rfl rfl (fun _ X_ => OpV.load1 Tryz.tOk rfl rfl rfl ((hrx.up (X.trans (Xd_.trans X_))) _ _ rfl)) ?_ | refine Asy.evV rfl rfl rfl rfl (fun _ X_ => OpV.load1 Tryz.tOk rfl rfl rfl (Blk.cell (Z3.up (Xd_.trans X_)) rfl)) ?_ | refine Asy.evV rfl rfl rfl rfl (fun _ X_ => OpV.indexS Tryz.tOk _ rfl rfl rfl rfl (by omega)) ?_)
   refine Asy.end_ (by kernel_rfl) ?_
   intro we_ Xe_
   replace X := X.trans (Xd_.trans Xe_)
   replace Z3 := Z3.up (Xd_.trans Xe_)
   clear Xd_ Xe_
   repeat' (first | (with_reducible refine RunLN.chk ?_; refine RunLN.int (by (first | (refine wr_i64 ?_ ?_; omega; omega) | rfl)) ?_) | refine RunL.ev Tryz.tOk rfl rfl rfl ?_ | refine ZzF rfl rfl ?_ | refine ZzR ?_ | refine ZzN ?_ | refine ZzI ?_ | refine ZzK ?_)
   exact RunE.weaken (by repeat (first | exact Sub.nil _ | refine Sub.cons rfl ?_)) (again3 (i + 1, sn) _ (by simp only; omega) ⟨by simp only; omega, by rw [hnew, Bool.or_false], X, Z3⟩)
  rw [decide_eq_true (by simpa using h1), Bool.true_and] at hnew
  cases hb : befD x.d d with
  | false =>
   rw [hb] at hnew cB
   rw [Bool.false_and] at hnew
   repeat' (first | with_reducible refine AsyN.boolT rfl ?_ | with_reducible refine AsyN.boolF rfl ?_ | (with_reducible refine AsyN.neT ?_ ?_; focus omega) | (with_reducible refine AsyN.chk ?_; refine AsyN.int (by (rfl)) ?_) | refine AsyN.any ?_ | refine Asy.ev Tryz.tOk rfl rfl rfl ?_ | refine Asy.unwantedD rfl rfl rfl ?_ | refine Asy.evV rfl rfl rfl rfl (fun _ X_ => OpV.load1 Tryz.tOk rfl rfl rfl ((hrx.up (X.trans (Xd_.trans X_))) _ _ rfl)) ?_ | refine Asy.evV rfl rfl rfl rfl (fun _ X_ => OpV.loadN Tryz.tOk rfl rfl rfl rfl (hrx.up (X.trans (Xd_.trans X_)))) ?_ | refine Asy.evV rfl rfl rfl rfl (fun _ X_ => OpV.load1 Tryz.tOk rfl rfl rfl (Blk.cell (Z3.up (Xd_.trans X_)) rfl)) ?_ | refine Asy.evV rfl rfl rfl rfl (fun _ X_ => OpV.loadN Tryz.tOk rfl rfl rfl rfl (Blk.row (Z3.up (Xd_.trans X_)))) ?_ | refine Asy.callN rfl rfl rfl (fun _ X_ => ((cB _))) ?_ | refine Asy.evV rfl rfl rfl rfl (fun _ X_ => OpV.indexS Tryz.tOk _ rfl rfl rfl rfl (by omega)) ?_)
   refine Asy.end_ (by kernel_rfl) ?_
   intro we_ Xe_
   replace X := X.trans (Xd_.trans Xe_)
   replace Z3 := Z3.up (Xd_.trans Xe_)
   clear Xd_ Xe_
   repeat' (first | (with_reducible refine RunLN.chk ?_; refine RunLN.int (by (first | (refine wr_i64 ?_ ?_; omega; omega) | rfl)) ?_) | refine RunL.ev Tryz.tOk rfl rfl rfl ?_ | refine ZzF rfl rfl ?_ | refine ZzR ?_ | refine ZzN ?_ | refine ZzI ?_ | refine ZzK ?_)
   exact RunE.weaken (by repeat (first | exact Sub.nil _ | refine Sub.cons rfl ?_)) (again3 (i + 1, sn) _ (by simp only; omega) ⟨by simp only; omega, by rw [hnew, Bool.or_false], X, Z3⟩)
  | true =>
  rw [hb] at hnew cB
  rw [Bool.true_and] at hnew
  cases hq : (idG x.d == g) with
  | false =>
   rw [hq] at hnew
   repeat' (first | with_reducible refine AsyN.boolT rfl ?_ | with_reducible refine AsyN.boolF rfl ?_ | refine AsyN.boolF (by assumption) ?_ | (with_reducible refine AsyN.neT ?_ ?_; focus omega) | (with_reducible refine AsyN.chk ?_; refine AsyN.int (by (rfl)) ?_) | refine AsyN.any ?_ | refine Asy.ev Tryz.tOk rfl rfl rfl ?_ | refine Asy.evV rfl rfl rfl rfl (fun _ X_ => OpV.load1 Tryz.tOk rfl rfl rfl ((hrx.up (X.trans (Xd_.trans X_))) _ _ rfl)) ?_ | refine Asy.evV rfl rfl rfl rfl (fun _ X_ => OpV.loadN Tryz.tOk rfl rfl rfl rfl (hrx.up (X.trans (Xd_.trans X_)))) ?_ | refine Asy.evV rfl rfl rfl rfl (fun _ X_ => OpV.load1 Tryz.tOk rfl rfl rfl (Blk.cell (Z3.up (Xd_.trans X_)) rfl)) ?_ | refine Asy.evV rfl rfl rfl rfl (fun _ X_ => OpV.loadN Tryz.tOk rfl rfl rfl rfl (Blk.row (Z3.up (Xd_.trans X_)))) ?_ | refine Asy.evV rfl rfl rfl rfl (fun _ X_ => OpV.indexS Tryz.tOk k rfl rfl rfl (by first | rfl | omega) (by omega)) ?_ | refine Asy.evV rfl rfl rfl rfl (fun _ X_ => OpV.loadN Tryz.tOk rfl rfl rfl rfl (hrg.up (X.trans (Xd_.trans X_)))) ?_ | refine Asy.evV rfl rfl rfl rfl (fun _ X_ => (OpV.eqDg (a := idG x.d) (b := g) bytesArr rfl rfl)) ?_ | refine Asy.callN rfl rfl rfl (fun _ X_ => ((cB _))) ?_ | refine Asy.callN rfl rfl rfl (fun _ X_ => ((cI _ (hwx.2.2.2.seen.up (X.trans (Xd_.trans X_))) (hwx.2.2.2.data.up (X.trans (Xd_.trans X_)))))) ?_ | refine Asy.evV rfl rfl rfl rfl (fun _ X_ => OpV.indexS Tryz.tOk _ rfl rfl rfl rfl (by omega)) ?_)
   refine Asy.end_ (by kernel_rfl) ?_
   intro we_ Xe_
   replace X := X.trans (Xd_.trans Xe_)
   replace Z3 := Z3.up (Xd_.trans Xe_)
   clear Xd_ Xe_
   repeat' (first | (with_reducible refine RunLN.chk ?_; refine RunLN.int (by (first | (refine wr_i64 ?_ ?_; omega; omega) | rfl)) ?_) | refine RunL.ev Tryz.tOk rfl rfl rfl ?_ | refine ZzF rfl rfl ?_ | refine ZzR ?_ | refine ZzN ?_ | refine ZzI ?_ | refine ZzK ?_)
   exact RunE.weaken (by repeat (first | exact Sub.nil _ | refine Sub.cons rfl ?_)) (again3 (i + 1, sn) _ (by simp only; omega) ⟨by simp only; omega, by rw [hnew, Bool.or_false], X, Z3⟩)
  | true =>
   rw [hq, Bool.or_true] at hnew
   repeat' (first | with_reducible refine AsyN.boolT rfl ?_ | refine AsyN.boolT (by assumption) ?_ | (with_reducible refine AsyN.neT ?_ ?_; focus omega) | (with_reducible refine AsyN.chk ?_; refine AsyN.int (by (rfl)) ?_) | refine AsyN.any ?_ | refine Asy.ev Tryz.tOk rfl rfl rfl ?_ | refine Asy.evV rfl rfl rfl rfl (fun _ X_ => OpV.load1 Tryz.tOk rfl rfl rfl ((hrx.up (X.trans (Xd_.trans X_))) _ _ rfl)) ?_ | refine Asy.evV rfl rfl rfl rfl (fun _ X_ => OpV.loadN Tryz.tOk rfl rfl rfl rfl (hrx.up (X.trans (Xd_.trans X_)))) ?_ | refine Asy.evV rfl rfl rfl rfl (fun _ X_ => OpV.load1 Tryz.tOk rfl rfl rfl (Blk.cell (Z3.up (Xd_.trans X_)) rfl)) ?_ | refine Asy.evV rfl rfl rfl rfl (fun _ X_ => OpV.loadN Tryz.tOk rfl rfl rfl rfl (Blk.row (Z3.up (Xd_.trans X_)))) ?_ | refine Asy.evV rfl rfl rfl rfl (fun _ X_ => OpV.indexS Tryz.tOk k rfl rfl rfl (by first | rfl | omega) (by omega)) ?_ | refine Asy.evV rfl rfl rfl rfl (fun _ X_ => OpV.loadN Tryz.tOk rfl rfl rfl rfl (hrg.up (X.trans (Xd_.trans X_)))) ?_ | refine Asy.evV rfl rfl rfl rfl (fun _ X_ => (OpV.eqDg (a := idG x.d) (b := g) bytesArr rfl rfl)) ?_ | refine Asy.callN rfl rfl rfl (fun _ X_ => ((cB _))) ?_ | refine Asy.callN rfl rfl rfl (fun _ X_ => ((cI _ (hwx.2.2.2.seen.up (X.trans (Xd_.trans X_))) (hwx.2.2.2.data.up (X.trans (Xd_.trans X_)))))) ?_ | refine Asy.evV rfl rfl rfl rfl (fun _ X_ => OpV.indexS Tryz.tOk _ rfl rfl rfl rfl (by omega)) ?_)
   refine Asy.end_ (by kernel_rfl) ?_
   intro we_ Xe_
   replace X := X.trans (Xd_.trans Xe_)
   replace Z3 := Z3.up (Xd_.trans Xe_)
   clear Xd_ Xe_
   repeat' (first | with_reducible refine ZzP rfl ?_ | (with_reducible refine RunLN.chk ?_; refine RunLN.int (by (first | (refine wr_i64 ?_ ?_; omega; omega) | rfl)) ?_) | refine RunL.ev Tryz.tOk rfl rfl rfl ?_ | refine ZzT rfl rfl ?_ | refine ZzR ?_ | refine ZzN ?_ | refine ZzI ?_)
   exact RunE.weaken (by repeat (first | exact Sub.nil _ | refine Sub.cons rfl ?_)) (again3 (i + 1, true) _ (by simp only; omega) ⟨by simp only; omega, hnew, X, Z3⟩)
 obtain rfl : i = l.length := by omega
 rw [List.take_length] at hsn
 clear again3
 cases sn with
 | false =>
  repeat' (first | with_reducible refine ZzP rfl ?_ | with_reducible refine ZzG rfl ?_ | (with_reducible refine RunLN.decF ?_ ?_; focus omega) | (with_reducible refine RunLN.chk ?_; refine RunLN.int (by (rfl)) ?_) | refine ZzA ?_ | refine RunL.ev Tryz.tOk rfl rfl rfl ?_ | refine RunL.evV rfl rfl rfl (OpV.lenSl Tryz.tOk rfl rfl hv) ?_ | refine ZzT rfl rfl ?_ | refine ZzF rfl rfl ?_ | refine ZzQ ?_ | refine ZzR ?_ | refine ZzN ?_ | refine RunE.exit rfl ?_)
  exact RunE.retFn Tryz.func25 (.tmp rfl .nil) ⟨by rw [show d.seen.all (seenL l d) = false from List.all_eq_false.2 ⟨g, List.mem_of_getElem? hg, by rw [hsn]; decide⟩]; rfl, X⟩
 | true =>
  rw [hsn] at hak
  repeat' (first | with_reducible refine ZzP rfl ?_ | with_reducible refine ZzG rfl ?_ | (with_reducible refine RunLN.decF ?_ ?_; focus omega) | (with_reducible refine RunLN.chk ?_; refine RunLN.int (by (first | (refine wr_i64 ?_ ?_; omega; omega) | rfl)) ?_) | refine ZzA ?_ | refine RunL.ev Tryz.tOk rfl rfl rfl ?_ | refine RunL.evV rfl rfl rfl (OpV.lenSl Tryz.tOk rfl rfl hv) ?_ | refine ZzF rfl rfl ?_ | refine ZzQ ?_ | refine ZzR ?_ | refine ZzN ?_ | refine ZzI ?_ | refine ZzK ?_ | refine RunE.exit rfl ?_)
  exact RunE.weaken (by repeat (first | exact Sub.nil _ | refine Sub.cons rfl ?_)) (again2 (k + 1) _ (by omega) ⟨by omega, hak, X, Z3⟩)
theorem rRests_ok (l : List Dr) (v : Value) (d : Dr) (w : World) (hv : LDr w v l) (hl : l.length < 9223372036854775808) (hw : ∀ x ∈ l, WfX w x) (hd : WfX w d) (hd0 : 0 ≤ d.d.no) :
  Rets Tryz.prog 25 [v, .agg d.cells.toArray] w fun r w' => r = .bool (restsD (l.map Dr.d) d.d) ∧ Ext w w' :=
 rRests_go l v d.d d.ua d.uc d.v w hv hl hw hd.2.2.2.seen hd.2.1 hd0 hd.1.no.2
end Go.Sg
end
section
/- Merge: the reference: Merge. -/
set_option maxRecDepth 4000
namespace Go.Mer
open Go.Rn Go.Rec Go.Dee Go.RowKit Go.Sg Go.NT
theorem left_no {ks : List Int} {L : List Dr} {y : Dr} (h : y ∈ leftL Dr.d ks L) : 0 ≤ y.d.no ∧ y.d.no < 4096 := by
 obtain ⟨⟨-, -, o0, o1, -⟩, -⟩ := formedD_inv (fineD_inv (leftR_fine h)).1
 exact ⟨o0, o1⟩
end Go.Mer
namespace Go.Sg
open Go.Rn Go.Proofs Go.Dee Go.Mer Go.Rec Go.RowKit Go.Sha Go.Cod Go.NT
attribute [local irreducible] restsD idG idD befD formedD leftL takenL sortR passL stepD keysD fineD thereL chkM mergeD Go.Rn.RetsX Go.Rn.RunLN Go.Rn.AsyN Go.Rn.RunL Go.Rn.RunE Go.Rn.Asy Go.Rn.OpV Go.Rn.OpE Go.Rn.ExecE
set_option maxRecDepth 8000 in
set_option maxHeartbeats 8000000 in
theorem rMerge_ok (ks : List Int) (kv : Value) (ls : List Ll) (lv : Value) (w : World) (hk : LIn w kv ks) (hkl : ks.length < 9223372036854775808) (hki : KsI ks) (hv : LLl w lv ls) (hl : ls.length < 9223372036854775808)
  (hp : ∀ x ∈ ls, LDr w x.v x.l) (hd : ∀ x ∈ allD ls, WfX w x) (hn : lenD ls < 9223372036854775808) :
  Rets Tryz.prog 13 [kv, lv] w fun r w' => (∃ u out, r = .tuple #[u, .int .i64 (chkM ks ls)] ∧ LDr w' u out ∧ out.map Dr.d = (if chkM ks ls = 0 then mergeD ks ((allD ls).map Dr.d) else []) ∧ ∀ x ∈ out, x ∈ allD ls) ∧ Ext w w' := by
 refine RetsX.of (nt := 42) Tryz.func13 (by kernel_rfl) rfl rfl (by simp) (by simp only [argEnv]; rfl) ?_
 have X := ExtB.refl (fun _ => False) w
 repeat' (first | (with_reducible refine RunLN.chk ?_; refine RunLN.int (by (rfl)) ?_) | refine ZzA ?_ | refine RunL.ev Tryz.tOk rfl rfl rfl ?_ | refine ZzQ ?_ | refine ZzR ?_ | refine ZzN ?_)
 refine RunL.call rfl rfl rfl (rError_ok ks kv ls lv _ (hk.up X) hkl (hv.up X) hl hn) ?_
 rintro _ wc ⟨rfl, Xa_⟩
 replace X := X.trans Xa_
 clear Xa_
 by_cases hc : chkM ks ls = 0
 rotate_left
 ·generalize chkM ks ls = ce at hc
  repeat' (first | (with_reducible refine RunLN.neT ?_ ?_; focus omega) | (with_reducible refine RunLN.chk ?_; refine RunLN.int (by (rfl)) ?_) | refine ZzA ?_ | refine RunL.ev Tryz.tOk rfl rfl rfl ?_ | refine ZzT rfl rfl ?_ | refine ZzQ ?_ | refine ZzR ?_ | refine ZzN ?_)
  exact RunE.retFn Tryz.func13 (.tmp rfl (.tmp rfl .nil)) ⟨⟨nilV, [], rfl, IsSl.nil, by rw [if_neg hc]; rfl, fun x hx => by cases hx⟩, X⟩
 obtain ⟨hkd, hl64, hn4⟩ := chkM_zero hc
 rw [hc]
 clear hc hn
 repeat' (first | with_reducible refine ZzG rfl ?_ | (with_reducible refine RunLN.chk ?_; refine RunLN.int (by (rfl)) ?_) | refine ZzA ?_ | refine RunL.ev Tryz.tOk rfl rfl rfl ?_ | refine ZzF rfl rfl ?_ | refine ZzQ ?_ | refine ZzR ?_ | refine ZzN ?_ | refine ZzK ?_)
 refine RunL.call rfl rfl rfl (rLeft_ok ks kv ls lv _ (hk.up X) hkl hki (hv.up X) hl (fun x hx => (hp x hx).up X) (fun x hx => (hd x hx).up X) hn4) ?_
 rintro r1 w1 ⟨O1, Xa_⟩
 replace X := X.trans Xa_
 clear Xa_
 have hol : (leftL Dr.d ks (allD ls)).length ≤ 4096 := by
  have := leftL_len Dr.d ks (allD ls)
  rw [allD_len] at this; omega
 have hos : ∀ y ∈ leftL Dr.d ks (allD ls), y ∈ allD ls := fun y hy => leftL_sub Dr.d hy
 have hno : ∀ y ∈ leftL Dr.d ks (allD ls), 0 ≤ y.d.no ∧ y.d.no < 4096 := fun y hy => left_no hy
 have hfin := pass_merge ks (allD ls)
 have hsrt := srt_all ks (allD ls)
 generalize leftL Dr.d ks (allD ls) = lf at O1 hol hos hno hfin hsrt
 skip
 refine RunL.call rfl rfl rfl (rTaken_ok lf r1 _ (isSl_own O1) hol hno) ?_
 rintro r2 w2 ⟨O2, Xa_⟩
 replace X := X.trans Xa_
 clear Xa_ O1
 have htl : (takenL Dr.d lf).length ≤ 4096 := by
  have : (takenL Dr.d lf).length ≤ lf.length := by unfold takenL; exact List.length_filter_le _ _
  omega
 have hts : ∀ y ∈ takenL Dr.d lf, y ∈ lf := fun y hy => by unfold takenL at hy; exact (List.mem_filter.1 hy).1
 generalize takenL Dr.d lf = tk at O2 htl hts hfin hsrt
 skip
 refine RunL.call rfl rfl rfl (rsorted_ok tk r2 _ (isSl_own O2) htl) ?_
 rintro r3 w3 ⟨O3, Xa_⟩
 replace X := X.trans Xa_
 clear Xa_ O2
 have hsp := sortR_perm tk
 have hsl : (sortR tk).length ≤ 4096 := by rw [hsp.length_eq]; exact htl
 have hsm : ∀ y ∈ sortR tk, y ∈ allD ls ∧ 0 ≤ y.d.no := fun y hy => by
  have h := hts y (hsp.mem_iff.1 hy)
  exact ⟨hos y h, (hno y h).1⟩
 have hS : LDr w3 r3 (sortR tk) := isSl_own O3
 generalize sortR tk = s at hS hsl hsm hfin hsrt
 clear hsp O3 hts htl hos hno hol
 have X3 := X
 replace X := ExtB.refl (fun _ => False) w3
 repeat' (first | refine ZzA ?_ | refine RunL.ev Tryz.tOk rfl rfl rfl ?_ | refine ZzQ ?_ | refine ZzR ?_ | refine ZzN ?_)
 refine RunL.ex rfl rfl rfl (OpE.build00 Tryz.tOk 26 38 rfl rfl rfl) ?_
 rintro _ w4 ⟨⟨B0, rfl⟩, hO, Xa_⟩
 replace X := X.trans Xa_
 clear Xa_
 repeat' (first | (with_reducible refine RunLN.chk ?_; refine RunLN.int (by (rfl)) ?_) | refine ZzA ?_ | refine RunL.ev Tryz.tOk rfl rfl rfl ?_ | refine ZzQ ?_ | refine ZzR ?_ | refine ZzN ?_ | refine ZzB ?_)
 refine RunE.loop (ι := Nat × Value) (fun q => [(7, r3), (8, q.2), (9, .int .i64 (q.1 : Int))])
  (fun q w' => q.1 ≤ s.length ∧ Ext w3 w' ∧ w'.ownsRow w3.heap.size 38 39 q.2 (passL Dr.d ks (s.take q.1)).length (flat Dr.cells (passL Dr.d ks (s.take q.1)))) (fun q => s.length - q.1) (0, _) (by repeat (first | exact Sub.nil _ | refine Sub.cons rfl ?_)) ⟨Nat.zero_le _, X, by rw [List.take_zero]; unfold passL; exact hO⟩ ?_
 clear X hO
 rintro ⟨i, u⟩ w5 ⟨hi, X, hO⟩ again
 simp only at hi hO again ⊢
 by_cases hlt : i < s.length
 ·obtain ⟨b1, o1, c1, rfl, hr1, -⟩ := isL_held hS hlt
  obtain ⟨x, hx⟩ : ∃ x, s[i]? = some x := ⟨_, List.getElem?_eq_getElem hlt⟩
  have hrx := flat_row encR hr1 hx
  obtain ⟨hxa, hx0⟩ := hsm x (List.mem_of_getElem? hx)
  have hwx := (hd x hxa).up X3
  obtain ⟨-, hre⟩ := srt_drop hsrt hx
  have hto : passL Dr.d ks (s.take (i + 1)) = if stepD ks ((passL Dr.d ks (s.take i)).map Dr.d) x.d then passL Dr.d ks (s.take i) ++ [x] else passL Dr.d ks (s.take i) := by
   rw [List.take_add_one, hx]; exact passR_snoc ks _ x
  have hps : ∀ y ∈ passL Dr.d ks (s.take i), WfX w3 y := fun y hy => (hd y (hsm y (List.mem_of_mem_take ((passR_sub ks (s.take i)).subset hy))).1).up X3
  have hpl : (passL Dr.d ks (s.take i)).length ≤ 4096 := by
   have := (passR_sub ks (s.take i)).length_le
   rw [List.length_take] at this; omega
  have next := fun u' w' a b => again (i + 1, u') w' (by simp only; omega) ⟨by simp only; omega, a, b⟩
  simp only at next
  rw [hto] at next
  clear again hto
  generalize passL Dr.d ks (s.take i) = out at hO hre hps hpl next
  have hU : LDr w5 u out := isSl_own hO
  have cR := fun w' (e : Ext w5 w') => rRests_ok out u x w' (hU.up e) (by omega) (fun y hy => (hps y hy).up (X.trans e)) (hwx.up (X.trans e)) hx0
  rw [hre] at cR
  clear hre hps
  have X5 := X
  replace hrx := hrx.up X5
  replace X := ExtB.refl (fun _ => False) w5
  cases hst : stepD ks (out.map Dr.d) x.d with
  | false =>
   rw [hst] at cR next
   simp only [Bool.false_eq_true, if_false] at next
   repeat' (first | (with_reducible refine RunLN.decT ?_ ?_; focus omega) | (with_reducible refine RunLN.chk ?_; refine RunLN.int (by (rfl)) ?_) | refine ZzA ?_ | refine RunL.ev Tryz.tOk rfl rfl rfl ?_ | refine RunL.evV rfl rfl rfl (OpV.loadN Tryz.tOk rfl rfl rfl rfl (hrx.up X)) ?_ | refine RunL.evV rfl rfl rfl (OpV.indexS Tryz.tOk _ rfl rfl rfl rfl (by omega)) ?_ | refine ZzT rfl rfl ?_ | refine ZzQ ?_ | refine ZzR ?_ | refine ZzN ?_ | refine ZzB ?_ | refine ZzK ?_)
   refine RunL.call rfl rfl rfl (cR _ X) ?_
   rintro _ _ ⟨rfl, Xa_⟩
   replace X := X.trans Xa_
   clear Xa_
   repeat' (first | (with_reducible refine RunLN.chk ?_; refine RunLN.int (by (first | (refine wr_i64 ?_ ?_; omega; omega) | rfl)) ?_) | refine RunL.ev Tryz.tOk rfl rfl rfl ?_ | refine ZzF rfl rfl ?_ | refine ZzR ?_ | refine ZzN ?_ | refine ZzI ?_ | refine ZzK ?_)
   exact RunE.weaken (by repeat (first | exact Sub.nil _ | refine Sub.cons rfl ?_)) (next _ _ (X5.trans X) (World.ownsRow.up hO X))
  | true =>
   rw [hst] at cR next
   rw [if_pos (rfl : true = true)] at next
   repeat' (first | (with_reducible refine RunLN.decT ?_ ?_; focus omega) | (with_reducible refine RunLN.chk ?_; refine RunLN.int (by (rfl)) ?_) | refine ZzA ?_ | refine RunL.ev Tryz.tOk rfl rfl rfl ?_ | refine RunL.evV rfl rfl rfl (OpV.loadN Tryz.tOk rfl rfl rfl rfl (hrx.up X)) ?_ | refine RunL.evV rfl rfl rfl (OpV.indexS Tryz.tOk _ rfl rfl rfl rfl (by omega)) ?_ | refine ZzT rfl rfl ?_ | refine ZzQ ?_ | refine ZzR ?_ | refine ZzN ?_ | refine ZzB ?_ | refine ZzK ?_)
   refine RunL.call rfl rfl rfl (cR _ X) ?_
   rintro _ _ ⟨rfl, Xa_⟩
   replace X := X.trans Xa_
   clear Xa_
   repeat' (first | (with_reducible refine RunLN.chk ?_; refine RunLN.int (by (rfl)) ?_) | refine ZzA ?_ | refine RunL.ev Tryz.tOk rfl rfl rfl ?_ | refine RunL.evV rfl rfl rfl (OpV.loadN Tryz.tOk rfl rfl rfl rfl (hrx.up X)) ?_ | refine RunL.evV rfl rfl rfl (OpV.indexS Tryz.tOk _ rfl rfl rfl rfl (by omega)) ?_ | refine ZzT rfl rfl ?_ | refine ZzR ?_ | refine ZzN ?_)
   refine RunL.ex rfl rfl rfl (OpE.buildN encR Tryz.tOk [x] rfl rfl rfl rfl rfl rfl) ?_
   rintro _ w6 ⟨⟨B15, rfl, l15⟩, hx1, Xa_⟩
   replace X := X.trans Xa_
   replace hO := World.ownsRow.up hO X
   have hs6 : w3.heap.size ≤ w6.heap.size := (X5.trans X).size
   clear Xa_
   skip
   refine RunL.ex rfl rfl rfl (OpE.append' Tryz.tOk rfl rfl rfl rfl rfl rfl hO hx1 (flat_plain encR [x]) (by show _ * 120 ≤ _; simp only [List.length_singleton]; omega) (by simp only [List.length_singleton]; omega) hs6) ?_
   rintro u' w8 ⟨O8, E8, -⟩
   have X8 : Ext w3 w8 := (X5.trans X).write E8 (by intro k hk hlt; have := ownsRow_ge hO hk; omega)
   repeat' (first | (with_reducible refine RunLN.chk ?_; refine RunLN.int (by (first | (refine wr_i64 ?_ ?_; omega; omega) | rfl)) ?_) | refine ZzA ?_ | refine RunL.ev Tryz.tOk rfl rfl rfl ?_ | refine ZzR ?_ | refine ZzN ?_ | refine ZzI ?_)
   exact RunE.weaken (by repeat (first | exact Sub.nil _ | refine Sub.cons rfl ?_)) (next _ _ X8 (by rw [List.length_append, flat_append]; exact O8))
 ·obtain rfl : i = s.length := by omega
  rw [List.take_length] at hO
  clear again
  repeat' (first | (with_reducible refine RunLN.decF ?_ ?_; focus omega) | (with_reducible refine RunLN.chk ?_; refine RunLN.int (by (rfl)) ?_) | refine ZzA ?_ | refine RunL.ev Tryz.tOk rfl rfl rfl ?_ | refine RunL.evV rfl rfl rfl (OpV.lenSl Tryz.tOk rfl rfl hS) ?_ | refine ZzF rfl rfl ?_ | refine ZzQ ?_ | refine ZzR ?_ | refine ZzN ?_ | refine RunE.exit rfl ?_)
  exact RunE.retFn Tryz.func13 (.tmp rfl (.tmp rfl .nil)) ⟨⟨_, _, rfl, isSl_own hO, by rw [if_pos trivial]; exact hfin, fun y hy => (hsm y ((passR_sub ks s).subset hy)).1⟩, X3.trans X⟩
end Go.Sg
end
section
/- Merge: the reference: fork, Liars, Proves, SameForks, Few. -/
set_option maxRecDepth 4000
namespace Go.Sg
open Go.Rn Go.Proofs Go.Dee Go.Mer Go.Rec Go.RowKit Go.Sha Go.Cod Go.NT
attribute [local irreducible] restsD idG idD befD formedD leftL takenL sortR passL stepD keysD fineD thereL chkM mergeD Go.Rn.RetsX Go.Rn.RunLN Go.Rn.AsyN Go.Rn.RunL Go.Rn.RunE Go.Rn.Asy Go.Rn.OpV Go.Rn.OpE Go.Rn.ExecE
end Go.Sg
end
section
/- Merge: the reference: Liars, Proves, SameForks, Few. -/
set_option maxRecDepth 4000
namespace Go.Mer
open Go.Rn Go.Rec Go.Dee Go.RowKit Go.Sg Go.NT
end Go.Mer
namespace Go.Sg
open Go.Rn Go.Proofs Go.Dee Go.Mer Go.Rec Go.RowKit Go.Sha Go.Cod Go.NT
attribute [local irreducible] forkN restsD idG idD befD formedD leftL takenL sortR passL stepD keysD fineD thereL chkM mergeD liarsL Go.Rn.RetsX Go.Rn.RunLN Go.Rn.AsyN Go.Rn.RunL Go.Rn.RunE Go.Rn.Asy Go.Rn.OpV Go.Rn.OpE Go.Rn.ExecE
set_option maxRecDepth 8000 in
set_option maxHeartbeats 8000000 in
theorem rSameForks_ok (a b : List Fr) (u v : Value) (w : World) (ha : LFr w u a) (hb : LFr w v b) (hl : a.length < 9223372036854775808) (he : a.map pairD = b.map pairD) (hda : ∀ x ∈ a, WfX w x.a ∧ WfX w x.b) (hdb : ∀ x ∈ b, WfX w x.a ∧ WfX w x.b) :
  Rets Tryz.prog 20 [u, v] w fun r w' => r = .bool true ∧ Ext w w' := by
 have hlen : a.length = b.length := by
  have := congrArg List.length he
  simpa using this
 refine RetsX.of (nt := 43) Tryz.func20 (by kernel_rfl) rfl rfl (by simp) (by simp only [argEnv]; rfl) ?_
 have X := ExtB.refl (fun _ => False) w
 repeat' (first | with_reducible refine ZzG rfl ?_ | (with_reducible refine RunLN.neF ?_ ?_; focus omega) | (with_reducible refine RunLN.chk ?_; refine RunLN.int (by (rfl)) ?_) | refine ZzA ?_ | refine RunL.ev Tryz.tOk rfl rfl rfl ?_ | refine RunL.evV rfl rfl rfl (OpV.lenSl Tryz.tOk rfl rfl ha) ?_ | refine RunL.evV rfl rfl rfl (OpV.lenSl Tryz.tOk rfl rfl hb) ?_ | refine ZzF rfl rfl ?_ | refine ZzQ ?_ | refine ZzR ?_ | refine ZzN ?_ | refine ZzB ?_ | refine ZzK ?_)
 refine RunE.loop (ι := Nat) (fun s => [(0, u), (1, v), (5, .int .i64 (s : Int))])
  (fun s w' => s ≤ a.length ∧ Ext w w') (fun s => a.length - s) 0 (by repeat (first | exact Sub.nil _ | refine Sub.cons rfl ?_)) ⟨Nat.zero_le _, X⟩ ?_
 clear X
 rintro i w3 ⟨hi, X⟩ again
 by_cases hlt : i < a.length
 ·obtain ⟨x, hx⟩ : ∃ x, a[i]? = some x := ⟨_, List.getElem?_eq_getElem hlt⟩
  obtain ⟨y, hy⟩ : ∃ y, b[i]? = some y := ⟨_, List.getElem?_eq_getElem (by omega)⟩
  have hxy : pairD x = pairD y := by
   have := congrArg (·[i]?) he
   simpa [hx, hy] using this
  obtain ⟨h1, h2⟩ := Prod.mk.inj hxy
  obtain ⟨b1, o1, c1, rfl, hr1, -⟩ := isL_held ha hlt
  obtain ⟨b2, o2, c2, rfl, hr2, -⟩ := isL_held hb (show i < b.length by omega)
  have hrx := flat_row encF (hr1.up X) hx
  have hry := flat_row encF (hr2.up X) hy
  obtain ⟨wx1, wx2⟩ := hda x (List.mem_of_getElem? hx)
  obtain ⟨wy1, wy2⟩ := hdb y (List.mem_of_getElem? hy)
  have hX3 := X
  have cA : ∀ w', Ext w3 w' → Rets Tryz.prog 44 [.agg x.a.cells.toArray, .agg y.a.cells.toArray] w' fun r w'' => r = .bool true ∧ Ext w' w'' := fun w' e => by
   have := rsameD_ok x.a.d y.a.d x.a.u x.a.v y.a.u y.a.v w' ((wx1.up (hX3.trans e)).2.2.2.seen) ((wx1.up (hX3.trans e)).2.2.2.data) ((wy1.up (hX3.trans e)).2.2.2.seen) ((wy1.up (hX3.trans e)).2.2.2.data) wx1.2.1 wy1.2.1
   rwa [sameD_iff.2 h1] at this
  have cB : ∀ w', Ext w3 w' → Rets Tryz.prog 44 [.agg x.b.cells.toArray, .agg y.b.cells.toArray] w' fun r w'' => r = .bool true ∧ Ext w' w'' := fun w' e => by
   have := rsameD_ok x.b.d y.b.d x.b.u x.b.v y.b.u y.b.v w' ((wx2.up (hX3.trans e)).2.2.2.seen) ((wx2.up (hX3.trans e)).2.2.2.data) ((wy2.up (hX3.trans e)).2.2.2.seen) ((wy2.up (hX3.trans e)).2.2.2.data) wx2.2.1 wy2.2.1
   rwa [sameD_iff.2 h2] at this
  have X := ExtB.refl (fun _ => False) w3
  repeat' (first | (with_reducible refine RunLN.decT ?_ ?_; focus omega) | (with_reducible refine RunLN.chk ?_; refine RunLN.int (by (rfl)) ?_) | refine ZzA ?_ | refine RunL.ev Tryz.tOk rfl rfl rfl ?_ | refine ZzT rfl rfl ?_ | refine ZzQ ?_ | refine ZzR ?_ | refine ZzN ?_ | refine ZzB ?_ | refine ZzK ?_)
  refine RunE.draw (fun _ => False) mix ?_
  intro wd_ Xd_
  repeat' (first | with_reducible refine AsyN.boolT rfl ?_ | with_reducible refine AsyN.boolF rfl ?_ | (with_reducible refine AsyN.chk ?_; refine AsyN.int (by (rfl)) ?_) | refine AsyN.any ?_ | refine Asy.ev Tryz.tOk rfl rfl rfl ?_ | refine Asy.evV rfl rfl rfl rfl (fun _ X_ => OpV.indexS Tryz.tOk i rfl rfl rfl (by first | rfl | omega) (by omega)) ?_ | refine Asy.evV rfl rfl rfl rfl (fun _ X_ => OpV.loadN Tryz.tOk rfl rfl rfl rfl ((row_fa hrx).up (Xd_.trans X_))) ?_ | refine Asy.evV rfl rfl rfl rfl (fun _ X_ => OpV.loadN Tryz.tOk rfl rfl rfl rfl ((row_fa hry).up (Xd_.trans X_))) ?_ | refine Asy.evV rfl rfl rfl rfl (fun _ X_ => OpV.loadN Tryz.tOk rfl rfl rfl rfl ((row_fb hrx).up (Xd_.trans X_))) ?_ | refine Asy.evV rfl rfl rfl rfl (fun _ X_ => OpV.loadN Tryz.tOk rfl rfl rfl rfl ((row_fb hry).up (Xd_.trans X_))) ?_ | refine Asy.callN rfl rfl rfl (fun _ X_ => (cA _ (Xd_.trans X_))) ?_ | refine Asy.callN rfl rfl rfl (fun _ X_ => (cB _ (Xd_.trans X_))) ?_)
  refine Asy.end_ (by kernel_rfl) ?_
  intro we_ Xe_
  replace X := hX3.trans (Xd_.trans Xe_)
  clear Xd_ Xe_
  repeat' (first | (with_reducible refine RunLN.chk ?_; refine RunLN.int (by (first | (refine wr_i64 ?_ ?_; omega; omega) | rfl)) ?_) | refine RunL.ev Tryz.tOk rfl rfl rfl ?_ | refine ZzF rfl rfl ?_ | refine ZzR ?_ | refine ZzN ?_ | refine ZzI ?_ | refine ZzK ?_)
  exact RunE.weaken (by repeat (first | exact Sub.nil _ | refine Sub.cons rfl ?_)) (again (i + 1) _ (by omega) ⟨by omega, X⟩)
 ·obtain rfl : i = a.length := by omega
  clear again
  repeat' (first | with_reducible refine ZzP rfl ?_ | (with_reducible refine RunLN.decF ?_ ?_; focus omega) | (with_reducible refine RunLN.chk ?_; refine RunLN.int (by (rfl)) ?_) | refine ZzA ?_ | refine RunL.ev Tryz.tOk rfl rfl rfl ?_ | refine RunL.evV rfl rfl rfl (OpV.lenSl Tryz.tOk rfl rfl ha) ?_ | refine ZzF rfl rfl ?_ | refine ZzQ ?_ | refine ZzR ?_ | refine ZzN ?_ | refine RunE.exit rfl ?_)
  exact RunE.retFn Tryz.func20 (.tmp rfl .nil) ⟨rfl, X⟩
set_option maxRecDepth 8000 in
set_option maxHeartbeats 8000000 in
theorem rFew_ok (ks : List Int) (kv : Value) (ls : List Ll) (lv : Value) (w : World) (hk : LIn w kv ks) (hkl : ks.length < 9223372036854775808) (hv : LLl w lv ls) (hl : ls.length < 9223372036854775808)
  (hp : ∀ x ∈ ls, LDr w x.v x.l) (hd : ∀ x ∈ allD ls, WfX w x) (hn : ls.length ≤ 70 → lenD ls < 9223372036854775808) :
  Rets Tryz.prog 11 [kv, lv] w fun r w' => (∃ b, r = .bool b ∧ (b = true → ls.length ≤ 70 ∧ lenD ls ≤ 4200)) ∧ Ext w w' := by
 have hpl : ∀ x ∈ ls, x.l.length < 9223372036854775808 ∨ 70 < ls.length := fun x hx => by
  by_cases h : ls.length ≤ 70
  ·left
   have h1 := hn h
   have : x.l.length ≤ lenD ls := by
    obtain ⟨i, hi⟩ := List.mem_iff_getElem?.1 hx
    have e1 := lenD_take hi
    have e2 := lenD_le ls (i + 1)
    omega
   omega
  ·right; omega
 refine RetsX.of (nt := 61) Tryz.func11 (by kernel_rfl) rfl rfl (by simp) (by simp only [argEnv]; rfl) ?_
 have X := ExtB.refl (fun _ => False) w
 by_cases h80 : 80 < ks.length
 ·repeat' (first | with_reducible refine ZzP rfl ?_ | with_reducible refine ZzG rfl ?_ | (with_reducible refine RunLN.decT ?_ ?_; focus omega) | (with_reducible refine RunLN.chk ?_; refine RunLN.int (by (rfl)) ?_) | refine ZzA ?_ | refine RunL.ev Tryz.tOk rfl rfl rfl ?_ | refine RunL.unwantedD rfl rfl ?_ | refine RunL.evV rfl rfl rfl (OpV.lenSl Tryz.tOk rfl rfl hk) ?_ | refine ZzT rfl rfl ?_ | refine ZzQ ?_ | refine ZzR ?_ | refine ZzN ?_)
  exact RunE.retFn Tryz.func11 (.tmp rfl .nil) ⟨⟨_, rfl, fun h => by cases h⟩, X⟩
 by_cases h70 : 70 < ls.length
 ·repeat' (first | with_reducible refine ZzP rfl ?_ | with_reducible refine ZzG rfl ?_ | (with_reducible refine RunLN.decT ?_ ?_; focus omega) | (with_reducible refine RunLN.decF ?_ ?_; focus omega) | (with_reducible refine RunLN.chk ?_; refine RunLN.int (by (rfl)) ?_) | refine ZzA ?_ | refine RunL.ev Tryz.tOk rfl rfl rfl ?_ | refine RunL.evV rfl rfl rfl (OpV.lenSl Tryz.tOk rfl rfl hk) ?_ | refine RunL.evV rfl rfl rfl (OpV.lenSl Tryz.tOk rfl rfl hv) ?_ | refine ZzT rfl rfl ?_ | refine ZzQ ?_ | refine ZzR ?_ | refine ZzN ?_)
  exact RunE.retFn Tryz.func11 (.tmp rfl .nil) ⟨⟨_, rfl, fun h => by cases h⟩, X⟩
 replace hn := hn (by omega)
 replace hpl : ∀ x ∈ ls, x.l.length < 9223372036854775808 := fun x hx => (hpl x hx).resolve_right h70
 repeat' (first | with_reducible refine ZzG rfl ?_ | (with_reducible refine RunLN.decF ?_ ?_; focus omega) | (with_reducible refine RunLN.chk ?_; refine RunLN.int (by (rfl)) ?_) | refine ZzA ?_ | refine RunL.ev Tryz.tOk rfl rfl rfl ?_ | refine RunL.evV rfl rfl rfl (OpV.lenSl Tryz.tOk rfl rfl hk) ?_ | refine RunL.evV rfl rfl rfl (OpV.lenSl Tryz.tOk rfl rfl hv) ?_ | refine ZzF rfl rfl ?_ | refine ZzQ ?_ | refine ZzR ?_ | refine ZzN ?_ | refine ZzB ?_ | refine ZzK ?_)
 refine RunE.loop (ι := Nat) (fun s => [(1, lv), (5, .int .i64 (lenD (ls.take s) : Int)), (6, .int .i64 (s : Int))])
  (fun s w' => s ≤ ls.length ∧ Ext w w') (fun s => ls.length - s) 0 (by repeat (first | exact Sub.nil _ | refine Sub.cons rfl ?_)) ⟨Nat.zero_le _, X⟩ ?_
 clear X
 rintro i w3 ⟨hi, X⟩ again
 by_cases hlt : i < ls.length
 ·obtain ⟨b1, o1, cc, rfl, hr1, -⟩ := isL_held hv hlt
  obtain ⟨x, hx⟩ : ∃ x, ls[i]? = some x := ⟨_, List.getElem?_eq_getElem hlt⟩
  have hrx := flat_row encLl hr1 hx
  have e2 := lenD_take hx
  have e3 := lenD_le ls (i + 1)
  have next := fun w' a => again (i + 1) w' (by omega) ⟨by omega, a⟩
  have hxm := List.mem_of_getElem? hx
  have hxl := hp x hxm
  have hxn := hpl x hxm
  have hxd : ∀ y ∈ x.l, WfX w y := fun y hy => hd y (List.mem_flatMap.2 ⟨x, hxm, hy⟩)
  rw [e2, Int.natCast_add] at next
  clear again
  generalize lenD (ls.take i) = m at *
  obtain ⟨xl, xu, xc⟩ := x
  simp only at hxl hxn hxd e2 next
  replace hrx : Row w b1 (o1 + i * 1) [.slice xu xl.length xc] := hrx
  replace hxl : LDr w (.slice xu xl.length xc) xl := hxl
  repeat' (first | (with_reducible refine RunLN.decT ?_ ?_; focus omega) | (with_reducible refine RunLN.chk ?_; refine RunLN.int (by (first | (refine wr_i64 ?_ ?_; omega; omega) | rfl)) ?_) | refine ZzA ?_ | refine RunL.ev Tryz.tOk rfl rfl rfl ?_ | refine RunL.evV rfl rfl rfl (OpV.load1 Tryz.tOk rfl rfl rfl ((hrx.up X) 0 _ rfl)) ?_ | refine RunL.evV rfl rfl rfl (OpV.indexS Tryz.tOk _ rfl rfl rfl rfl (by omega)) ?_ | refine ZzT rfl rfl ?_ | refine ZzQ ?_ | refine ZzR ?_ | refine ZzN ?_ | refine ZzB ?_ | refine ZzK ?_)
  refine RunE.loop (ι := Nat) (fun s => [(1, .slice (some ⟨b1, o1, none⟩) ls.length cc), (5, .int .i64 ((m : Int) + (xl.length : Int))), (6, .int .i64 (i : Int)), (7, .int .i64 (s : Int))])
   (fun s w' => s ≤ xl.length ∧ Ext w w') (fun s => xl.length - s) 0 (by repeat (first | exact Sub.nil _ | refine Sub.cons rfl ?_)) ⟨Nat.zero_le _, X⟩ ?_
  clear X
  rintro k w4 ⟨hk4, X⟩ again2
  by_cases hke : k < xl.length ∧ k < 50
  ·obtain ⟨h1, h2⟩ := hke
   obtain ⟨b2, o2, c2, e2', hr2, -⟩ := isL_held hxl h1
   obtain ⟨y, hy⟩ : ∃ y, xl[k]? = some y := ⟨_, List.getElem?_eq_getElem h1⟩
   have hry := flat_row encR hr2 hy
   have hwy := hxd y (List.mem_of_getElem? hy)
   injection e2' with e4 _ e5
   subst e4
   subst e5
   have cD := fun w h h' => rfewD_ok y.d y.u y.v w h h'
   repeat' (first | with_reducible refine ZzP rfl ?_ | (with_reducible refine RunLN.decT ?_ ?_; focus omega) | (with_reducible refine RunLN.chk ?_; refine RunLN.int (by (rfl)) ?_) | refine ZzA ?_ | refine RunL.ev Tryz.tOk rfl rfl rfl ?_ | refine RunL.evV rfl rfl rfl (OpV.load1 Tryz.tOk rfl rfl rfl ((hrx.up X) 0 _ rfl)) ?_ | refine RunL.evV rfl rfl rfl (OpV.loadN Tryz.tOk rfl rfl rfl rfl (hry.up X)) ?_ | refine RunL.evV rfl rfl rfl (OpV.indexS Tryz.tOk _ rfl rfl rfl rfl (by omega)) ?_ | refine ZzT rfl rfl ?_ | refine ZzQ ?_ | refine ZzR ?_ | refine ZzN ?_ | refine ZzB ?_ | refine ZzK ?_)
   refine RunL.call rfl rfl rfl (cD _ (hwy.2.2.2.up X).seen (hwy.2.2.2.up X).data) ?_
   rintro _ _ ⟨rfl, Xa_⟩
   replace X := X.trans Xa_
   clear Xa_
   cases fewD y.d with
   | false =>
    repeat' (first | with_reducible refine ZzP rfl ?_ | with_reducible refine ZzG rfl ?_ | refine RunL.ev Tryz.tOk rfl rfl rfl ?_ | refine ZzT rfl rfl ?_ | refine ZzQ ?_ | refine ZzR ?_ | refine ZzN ?_)
    exact RunE.retFn Tryz.func11 (.tmp rfl .nil) ⟨⟨_, rfl, fun h => by cases h⟩, X⟩
   | true =>
    repeat' (first | with_reducible refine ZzG rfl ?_ | (with_reducible refine RunLN.chk ?_; refine RunLN.int (by (first | (refine wr_i64 ?_ ?_; omega; omega) | rfl)) ?_) | refine RunL.ev Tryz.tOk rfl rfl rfl ?_ | refine ZzF rfl rfl ?_ | refine ZzR ?_ | refine ZzN ?_ | refine ZzI ?_ | refine ZzK ?_)
    exact RunE.weaken (by repeat (first | exact Sub.nil _ | refine Sub.cons rfl ?_)) (again2 (k + 1) _ (by omega) ⟨by omega, X⟩)
  ·clear again2
   by_cases h1 : k < xl.length
   ·have h2 : ¬ k < 50 := fun h => hke ⟨h1, h⟩
    repeat' (first | with_reducible refine ZzP rfl ?_ | with_reducible refine ZzG rfl ?_ | (with_reducible refine RunLN.decT ?_ ?_; focus omega) | (with_reducible refine RunLN.decF ?_ ?_; focus omega) | (with_reducible refine RunLN.chk ?_; refine RunLN.int (by (first | (refine wr_i64 ?_ ?_; omega; omega) | rfl)) ?_) | refine ZzA ?_ | refine RunL.ev Tryz.tOk rfl rfl rfl ?_ | refine RunL.evV rfl rfl rfl (OpV.load1 Tryz.tOk rfl rfl rfl ((hrx.up X) 0 _ rfl)) ?_ | refine RunL.evV rfl rfl rfl (OpV.indexS Tryz.tOk _ rfl rfl rfl rfl (by omega)) ?_ | refine ZzF rfl rfl ?_ | refine ZzQ ?_ | refine ZzR ?_ | refine ZzN ?_ | refine ZzI ?_ | refine RunE.exit rfl ?_)
    exact RunE.weaken (by repeat (first | exact Sub.nil _ | refine Sub.cons rfl ?_)) (next _ X)
   ·repeat' (first | with_reducible refine ZzG rfl ?_ | (with_reducible refine RunLN.decF ?_ ?_; focus omega) | (with_reducible refine RunLN.chk ?_; refine RunLN.int (by (first | (refine wr_i64 ?_ ?_; omega; omega) | rfl)) ?_) | refine ZzA ?_ | refine RunL.ev Tryz.tOk rfl rfl rfl ?_ | refine RunL.unwantedD rfl rfl ?_ | refine RunL.evV rfl rfl rfl (OpV.load1 Tryz.tOk rfl rfl rfl ((hrx.up X) 0 _ rfl)) ?_ | refine RunL.evV rfl rfl rfl (OpV.indexS Tryz.tOk _ rfl rfl rfl rfl (by omega)) ?_ | refine ZzF rfl rfl ?_ | refine ZzQ ?_ | refine ZzR ?_ | refine ZzN ?_ | refine ZzI ?_ | refine RunE.exit rfl ?_)
    exact RunE.weaken (by repeat (first | exact Sub.nil _ | refine Sub.cons rfl ?_)) (next _ X)
 ·obtain rfl : i = ls.length := by omega
  rw [List.take_length]
  clear again
  by_cases h1 : lenD ls ≤ 40
  ·repeat' (first | with_reducible refine ZzP rfl ?_ | (with_reducible refine RunLN.decT ?_ ?_; focus omega) | (with_reducible refine RunLN.decF ?_ ?_; focus omega) | (with_reducible refine RunLN.chk ?_; refine RunLN.int (by (rfl)) ?_) | refine ZzA ?_ | refine RunL.ev Tryz.tOk rfl rfl rfl ?_ | refine RunL.unwantedD rfl rfl ?_ | refine RunL.evV rfl rfl rfl (OpV.lenSl Tryz.tOk rfl rfl hv) ?_ | refine ZzF rfl rfl ?_ | refine ZzQ ?_ | refine ZzR ?_ | refine ZzN ?_ | refine RunE.exit rfl ?_)
   exact RunE.retFn Tryz.func11 (.tmp rfl .nil) ⟨⟨_, rfl, fun _ => ⟨by omega, by omega⟩⟩, X⟩
  by_cases h2 : 4096 < lenD ls
  rotate_left
  ·repeat' (first | with_reducible refine ZzG rfl ?_ | (with_reducible refine RunLN.decF ?_ ?_; focus omega) | (with_reducible refine RunLN.chk ?_; refine RunLN.int (by (rfl)) ?_) | refine ZzA ?_ | refine RunL.ev Tryz.tOk rfl rfl rfl ?_ | refine RunL.unwantedD rfl rfl ?_ | refine RunL.evV rfl rfl rfl (OpV.lenSl Tryz.tOk rfl rfl hv) ?_ | refine ZzF rfl rfl ?_ | refine ZzQ ?_ | refine ZzR ?_ | refine ZzN ?_ | refine RunE.exit rfl ?_)
   exact RunE.retFn Tryz.func11 (.tmp rfl .nil) ⟨⟨_, rfl, fun h => by cases h⟩, X⟩
  by_cases h3 : lenD ls ≤ 4200
  ·repeat' (first | with_reducible refine ZzP rfl ?_ | with_reducible refine ZzG rfl ?_ | (with_reducible refine RunLN.decT ?_ ?_; focus omega) | (with_reducible refine RunLN.decF ?_ ?_; focus omega) | (with_reducible refine RunLN.chk ?_; refine RunLN.int (by (rfl)) ?_) | refine ZzA ?_ | refine RunL.ev Tryz.tOk rfl rfl rfl ?_ | refine RunL.evV rfl rfl rfl (OpV.lenSl Tryz.tOk rfl rfl hv) ?_ | refine ZzF rfl rfl ?_ | refine ZzQ ?_ | refine ZzR ?_ | refine ZzN ?_ | refine RunE.exit rfl ?_)
   exact RunE.retFn Tryz.func11 (.tmp rfl .nil) ⟨⟨_, rfl, fun _ => ⟨by omega, h3⟩⟩, X⟩
  ·repeat' (first | with_reducible refine ZzP rfl ?_ | with_reducible refine ZzG rfl ?_ | (with_reducible refine RunLN.decT ?_ ?_; focus omega) | (with_reducible refine RunLN.decF ?_ ?_; focus omega) | (with_reducible refine RunLN.chk ?_; refine RunLN.int (by (rfl)) ?_) | refine ZzA ?_ | refine RunL.ev Tryz.tOk rfl rfl rfl ?_ | refine RunL.evV rfl rfl rfl (OpV.lenSl Tryz.tOk rfl rfl hv) ?_ | refine ZzF rfl rfl ?_ | refine ZzQ ?_ | refine ZzR ?_ | refine ZzN ?_ | refine RunE.exit rfl ?_)
   exact RunE.retFn Tryz.func11 (.tmp rfl .nil) ⟨⟨_, rfl, fun h => by cases h⟩, X⟩
end Go.Sg
end
section
/- Merge: the examples of the chapter (plain). -/
set_option maxRecDepth 4000
namespace Go.Mer
open Go.Rn Go.RowKit Go.Rec Go.Sha Go.Sg Go.NT Go.Dee
/-- Two keys, a log of three deeds, and another second deed. -/
structure ExM (ks : List Int) (a b c o : Deed) (x y : Dg) : Prop where
 ida : idG a = x ∧ idE a = 0
 idb : idG b = y ∧ idE b = 0
 keys : keysD ks = true
 ki : KsI ks
 kl : ks.length = 2
 all : mergeD ks [b, c, a] = [a, b, c]
 some : mergeD ks [b, c] = []
 both : mergeD ks [a, b, c, o] = [a, b]
 liars : liarsL id (leftD ks [a, b, c, o]) = [(c, o)]
 pr : provesB ks c o = true
 sm : provesB ks o o = false
 sa : a.seen = [] ∧ a.data = [97]
 sb : b.seen = [x] ∧ b.data = [98]
 sc : c.seen = [y] ∧ c.data = [99]
 so : o.seen = [] ∧ o.data = [100]
 wa : WfD a
 wb : WfD b
 wc : WfD c
 wo : WfD o
theorem liars_none {l : List Deed} (h : ∀ p : Nat, forkD l (p : Int) = none) : ∀ ps : List Nat, ps.filterMap (liarAt id l) = [] := fun ps => by
 rw [List.filterMap_eq_nil_iff]
 intro p _
 unfold liarAt
 rw [show forkL id l (p : Int) = none from h p]
theorem exM_gen {ks : List Int} {ea sa eb sb ec sc eo so : Int} (hk : keysD ks = true) (ki : KsI ks) (kl : ks.length = 2) :
  ∀ (a b c o : Deed), a = ⟨0, 0, 10, zeroG, [], [97], ea, sa⟩ → b = ⟨1, 0, 11, zeroG, [idD a], [98], eb, sb⟩ → c = ⟨0, 1, 12, idD a, [idD b], [99], ec, sc⟩ → o = ⟨0, 1, 12, idD a, [], [100], eo, so⟩ →
   fineD ks a = true → fineD ks b = true → fineD ks c = true → fineD ks o = true → WfD a → WfD b → WfD c → WfD o → ExM ks a b c o (idD a) (idD b) := by
 intro a b c o ha hb hc ho fa fb fc fo wa wb wc wo
 have na : formedD a = true := (fineD_inv fa).1
 have nb : formedD b = true := (fineD_inv fb).1
 have pa : a.person = 0 ∧ a.no = 0 ∧ a.at_ = 10 ∧ a.prev = zeroG ∧ a.seen = [] := by rw [ha]; exact ⟨rfl, rfl, rfl, rfl, rfl⟩
 have pb : b.person = 1 ∧ b.no = 0 ∧ b.at_ = 11 ∧ b.prev = zeroG ∧ b.seen = [idD a] := by rw [hb]; exact ⟨rfl, rfl, rfl, rfl, rfl⟩
 have pc : c.person = 0 ∧ c.no = 1 ∧ c.at_ = 12 ∧ c.prev = idD a ∧ c.seen = [idD b] := by rw [hc]; exact ⟨rfl, rfl, rfl, rfl, rfl⟩
 have po : o.person = 0 ∧ o.no = 1 ∧ o.at_ = 12 ∧ o.prev = idD a ∧ o.seen = [] := by rw [ho]; exact ⟨rfl, rfl, rfl, rfl, rfl⟩
 have la : a.seen = [] ∧ a.data = [97] := by rw [ha]; exact ⟨rfl, rfl⟩
 have lb : b.seen = [idD a] ∧ b.data = [98] := by rw [hb]; exact ⟨rfl, rfl⟩
 have lc : c.seen = [idD b] ∧ c.data = [99] := by rw [hc]; exact ⟨rfl, rfl⟩
 have lo : o.seen = [] ∧ o.data = [100] := by rw [ho]; exact ⟨rfl, rfl⟩
 clear ha hb hc ho
 obtain ⟨a1, a2, a3, a4, a5⟩ := pa
 obtain ⟨b1, b2, b3, b4, b5⟩ := pb
 obtain ⟨c1, c2, c3, c4, c5⟩ := pc
 obtain ⟨o1, o2, o3, o4, o5⟩ := po
 have s1 : stepD ks [] a = true := by
  refine stepD_of fa ?_ ?_ rfl ?_
  ·rw [a2]; rfl
  ·rw [a4]; rfl
  ·intro x hx; rw [a5] at hx; simp at hx
 have ob : ofD [a] b.person = [] := by unfold ofD; simp [a1, b1]
 have s2 : stepD ks [a] b = true := by
  refine stepD_of fb ?_ ?_ ?_ ?_
  ·unfold nextD; rw [ob, b2]; rfl
  ·unfold lastD; rw [ob, b4]; rfl
  ·unfold afterD; simp [befD, a3, b3]
  ·intro x hx
   have : x = idD a := by rw [b5] at hx; simpa using hx
   subst this
   unfold metD
   simp [a1, b1]
 have oc : ofD [a, b] c.person = [a] := by unfold ofD; simp [a1, b1, c1]
 have s3 : stepD ks [a, b] c = true := by
  refine stepD_of fc ?_ ?_ ?_ ?_
  ·unfold nextD; rw [oc, c2]; rfl
  ·unfold lastD; rw [oc, c4]; rfl
  ·unfold afterD; simp [befD, b3, c3]
  ·intro x hx
   have : x = idD b := by rw [c5] at hx; simpa using hx
   subst this
   unfold metD
   simp [b1, c1]
 have hlog := log_cons3 s1 s2 s3
 have hco : sameF c o = false := by
  unfold sameF; rw [c5, o5]; simp
 have d1 : ∀ p n : Int, atL id [a, b, c, o] p n = (if p = 0 ∧ n = 0 then [a] else if p = 0 ∧ n = 1 then [c, o] else if p = 1 ∧ n = 0 then [b] else []) := fun p n => by
  unfold atL
  have ea : decide ((id a).person = p ∧ (id a).no = n) = decide (p = 0 ∧ n = 0) := by simp only [id, a1, a2, eq_comm]
  have eb : decide ((id b).person = p ∧ (id b).no = n) = decide (p = 1 ∧ n = 0) := by simp only [id, b1, b2, eq_comm]
  have ec : decide ((id c).person = p ∧ (id c).no = n) = decide (p = 0 ∧ n = 1) := by simp only [id, c1, c2, eq_comm]
  have eo : decide ((id o).person = p ∧ (id o).no = n) = decide (p = 0 ∧ n = 1) := by simp only [id, o1, o2, eq_comm]
  rw [List.filter_cons, List.filter_cons, List.filter_cons, List.filter_cons, ea, eb, ec, eo, List.filter_nil]
  by_cases h0 : p = 0
  ·subst h0
   by_cases h1 : n = 0
   ·subst h1; rfl
   ·by_cases h2 : n = 1
    ·subst h2; rfl
    ·simp [h1, h2]
  ·by_cases h3 : p = 1
   ·subst h3
    by_cases h1 : n = 0
    ·subst h1; rfl
    ·simp [h1]
   ·simp [h0, h3]
 have f0 : forkD [a, b, c, o] 0 = some 1 := by
  refine forkD_of (by decide) ?_ ?_
  ·rw [d1]; exact Nat.le_refl 2
  ·intro m hm
   obtain rfl : m = 0 := by omega
   rw [d1]; exact Nat.lt_succ_self 1
 have f1 : ∀ p : Int, p ≠ 0 → forkD [a, b, c, o] p = none := fun p hp => by
  cases e : forkD [a, b, c, o] p with
  | none => rfl
  | some n =>
   have := (forkD_some e).2.1
   rw [d1, if_neg (fun h => hp h.1), if_neg (fun h => hp h.1)] at this
   split at this <;> simp at this
 have hleft : leftD ks [a, b, c, o] = [a, b, c, o] := by
  refine left_self _ ?_ ?_
  ·have q : ∀ x y : Deed, x.at_ ≠ y.at_ → sameF x y = false := fun x y h => by
    unfold sameF
    rw [show (x.at_ == y.at_) = false by simpa using h]; simp
   have qb : sameF a b = false := q _ _ (by rw [a3, b3]; decide)
   have qc : sameF a c = false := q _ _ (by rw [a3, c3]; decide)
   have qo : sameF a o = false := q _ _ (by rw [a3, o3]; decide)
   have qbc : sameF b c = false := q _ _ (by rw [b3, c3]; decide)
   have qbo : sameF b o = false := q _ _ (by rw [b3, o3]; decide)
   simp [qb, qc, qo, qbc, qbo, hco]
  ·intro y hy
   simp only [List.mem_cons, List.not_mem_nil, or_false] at hy
   rcases hy with rfl | rfl | rfl | rfl
   ·exact fa
   ·exact fb
   ·exact fc
   ·exact fo
 have htaken : takenD [a, b, c, o] = [a, b] := by
  have k : ∀ y : Deed, keptL id [a, b, c, o] y = if y.person = 0 then decide (y.no < 1) else true := fun y => by
   unfold keptL
   simp only [id]
   by_cases h : y.person = 0
   ·rw [h, show forkL id [a, b, c, o] 0 = some 1 from f0, if_pos rfl]; rfl
   ·rw [show forkL id [a, b, c, o] y.person = none from f1 _ h, if_neg h]
  unfold takenD takenL
  simp only [List.filter_cons, List.filter_nil, k, a1, a2, b1, c1, c2, o1, o2]
  simp
 have hall : ∀ y, y ∈ [b, c, a] ↔ y ∈ pickD [true, true, true] [a, b, c] := fun y => by
  show y ∈ [b, c, a] ↔ y ∈ [a, b, c]
  simp only [List.mem_cons, List.not_mem_nil, or_false]
  constructor
  ·rintro (h | h | h) <;> simp [h]
  ·rintro (h | h | h) <;> simp [h]
 have hsome : ∀ y, y ∈ [b, c] ↔ y ∈ pickD [false, true, true] [a, b, c] := fun y => Iff.rfl
 have sb0 : stepD ks [] b = false := by
  have : b.seen.all (metD [] b.person) = false := by rw [b5]; rfl
  unfold stepD
  rw [this]; simp
 have sc0 : stepD ks [] c = false := by
  have : (c.no == nextD [] c.person) = false := by rw [c2]; rfl
  unfold stepD
  rw [this]; simp
 refine ⟨⟨idG_of na, ?_⟩, ⟨idG_of nb, ?_⟩, hk, ki, kl, ?_, ?_, ?_, ?_, ?_, ?_, la, lb, lc, lo, wa, wb, wc, wo⟩
 ·unfold idE; rw [na]; rfl
 ·unfold idE; rw [nb]; rfl
 ·unfold mergeD
  rw [(truth_sort hlog hall).2]
  exact pass_self _ hlog
 ·unfold mergeD
  rw [(truth_sort hlog hsome).2]
  show passL id ks [b, c] = []
  unfold passL
  simp only [List.foldl_cons, List.foldl_nil, List.map_nil, id, sb0, sc0, Bool.false_eq_true, if_false]
 ·unfold mergeD
  rw [hleft, htaken]
  have h2 : logD ks [a, b] = true := logD_take hlog 2
  rw [← sort_uniq (s := [a, b]) (l := [a, b]) (log_apart _ h2) (List.Perm.refl _) ((log_sorted _ h2).imp fun h => by rw [befD_asymm h]; decide)]
  exact pass_self _ h2
 ·rw [hleft]
  unfold liarsL
  rw [show (64 : Nat) = 63 + 1 from rfl, List.range_succ_eq_map, List.filterMap_cons]
  have l0 : liarAt id [a, b, c, o] 0 = some (c, o) := by
   unfold liarAt
   rw [show forkL id [a, b, c, o] ((0 : Nat) : Int) = some 1 from f0]
   simp only
   rw [show ((1 : Nat) : Int) = 1 from rfl, show ((0 : Nat) : Int) = 0 from rfl, d1]
   rfl
  rw [l0]
  simp only
  congr 1
  rw [List.filterMap_eq_nil_iff]
  intro p hp
  obtain ⟨q, -, rfl⟩ := List.mem_map.1 hp
  unfold liarAt
  rw [show forkL id [a, b, c, o] ((Nat.succ q : Nat) : Int) = none from f1 _ (by omega)]
 ·unfold provesB
  rw [hk, fc, fo, hco, c1, o1, c2, o2]; rfl
 ·unfold provesB
  have : sameF o o = true := sameF_iff.2 ⟨rfl, rfl, rfl, rfl, rfl, rfl⟩
  rw [this]; simp
def ksM : List Int := [powC 4 5, powC 4 6]
theorem key2 (x y : Int) : Dee.keyOf [x, y] 0 = x ∧ Dee.keyOf [x, y] 1 = y := ⟨rfl, rfl⟩
theorem ksM_ok : keysD ksM = true ∧ KsI ksM := by
 have h5 := powC_valid v4 5
 have h6 := powC_valid v4 6
 have b5 := validS_bd h5
 have b6 := validS_bd h6
 unfold ksM
 generalize powC 4 5 = k5 at *
 generalize powC 4 6 = k6 at *
 constructor
 ·unfold keysD
  simp [h5, h6]
 ·intro k hk
  simp only [List.mem_cons, List.not_mem_nil, or_false] at hk
  omega
def aM : Deed := askD 0 0 10 zeroG [] [97]
def bM (g : Dg) : Deed := askD 1 0 11 zeroG [g] [98]
def cM (g h : Dg) : Deed := askD 0 1 12 g [h] [99]
def oM (g : Dg) : Deed := askD 0 1 12 g [] [100]
theorem aM_f : formedD aM = true := by decide
theorem bM_f (g : Dg) : formedD (bM g) = true := rfl
theorem cM_f (g h : Dg) : formedD (cM g h) = true := rfl
theorem oM_f (g : Dg) : formedD (oM g) = true := rfl
theorem exM_ok : ExM ksM (makeD 5 aM) (makeD 6 (bM (idD (makeD 5 aM)))) (makeD 5 (cM (idD (makeD 5 aM)) (idD (makeD 6 (bM (idD (makeD 5 aM))))))) (makeD 5 (oM (idD (makeD 5 aM)))) (idD (makeD 5 aM)) (idD (makeD 6 (bM (idD (makeD 5 aM))))) := by
 obtain ⟨hk, hi⟩ := ksM_ok
 have ea : makeE 5 aM = 0 := makeE_ok (by decide) aM_f
 have eb : ∀ g, makeE 6 (bM g) = 0 := fun g => makeE_ok (by decide) (bM_f g)
 have ec : ∀ g h, makeE 5 (cM g h) = 0 := fun g h => makeE_ok (by decide) (cM_f g h)
 have eo : ∀ g, makeE 5 (oM g) = 0 := fun g => makeE_ok (by decide) (oM_f g)
 have ha := (make_good ea).2.2
 have hb := fun g => (make_good (eb g)).2.2
 have hc := fun g h => (make_good (ec g h)).2.2
 have ho := fun g => (make_good (eo g)).2.2
 have w0 : ∀ (p n t : Int) (g : Dg) (s : List Dg) (d : List UInt8), i64 p → i64 n → i64 t → WfD (askD p n t g s d) := fun p n t g s d h1 h2 h3 => ⟨h1, h2, h3, ⟨by show (_ : Int) ≤ 0; decide, by show (0 : Int) < _; decide⟩, ⟨by show (_ : Int) ≤ 0; decide, by show (0 : Int) < _; decide⟩⟩
 have wa : WfD aM := w0 _ _ _ _ _ _ ⟨by decide, by decide⟩ ⟨by decide, by decide⟩ ⟨by decide, by decide⟩
 have wb : ∀ g, WfD (bM g) := fun g => w0 _ _ _ _ _ _ ⟨by decide, by decide⟩ ⟨by decide, by decide⟩ ⟨by decide, by decide⟩
 have wc : ∀ g h, WfD (cM g h) := fun g h => w0 _ _ _ _ _ _ ⟨by decide, by decide⟩ ⟨by decide, by decide⟩ ⟨by decide, by decide⟩
 have wo : ∀ g, WfD (oM g) := fun g => w0 _ _ _ _ _ _ ⟨by decide, by decide⟩ ⟨by decide, by decide⟩ ⟨by decide, by decide⟩
 have fa : fineD ksM (makeD 5 aM) = true := make_fine ea (by show (0 : Int) < 2; decide) (key2 _ _).1
 have fb : ∀ g, fineD ksM (makeD 6 (bM g)) = true := fun g => make_fine (eb g) (by show (1 : Int) < 2; decide) (key2 _ _).2
 have fc : ∀ g h, fineD ksM (makeD 5 (cM g h)) = true := fun g h => make_fine (ec g h) (by show (0 : Int) < 2; decide) (key2 _ _).1
 have fo : ∀ g, fineD ksM (makeD 5 (oM g)) = true := fun g => make_fine (eo g) (by show (0 : Int) < 2; decide) (key2 _ _).1
 exact exM_gen hk hi rfl _ _ _ _ ha (hb _) (hc _ _) (ho _) fa (fb _) (fc _ _) (fo _) (wf_make wa) (wf_make (wb _)) (wf_make (wc _ _)) (wf_make (wo _))
theorem proves_none : provesB [] zeroD zeroD = false := by
 unfold provesB
 rw [fine_far (by show ¬ ((0 : Int) < 0); decide)]
 simp
end Go.Mer
end
section
/- Merge: for the laws, plain: maps of forks, parts of a log, liars side by side. -/
set_option maxRecDepth 4000
namespace Go.Mer
open Go.Rn Go.RowKit Go.Rec Go.Sha Go.Sg Go.NT Go.Dee
/-! ### A map filled from a list -/
/-! ### Parts of one log -/
/-! ### The order of parts -/
/-! ### One more part -/
end Go.Mer
end
section
/- Arguments: how long their lists are at most (the reach of the form). -/
set_option maxRecDepth 4000
namespace Go.Rn
open Go.RowKit Go.ChangeShapes Go.WideShapes
section
variable {H : Type} {enc : TypeId × Value → H} {P : Program} {w : World} {held : Bool}
theorem wts_mem {e : TypeId} : ∀ {l : List (DataW H)} {d : DataW H}, d ∈ l → ∀ n ∈ d.weights P e, n ∈ DataW.weightsAll P e l
 | x :: l, d, hd, n, hn => by
  rw [DataW.weightsAll]
  rcases List.mem_cons.1 hd with rfl | hd
  ·exact List.mem_append_left _ hn
  ·exact List.mem_append_right _ (wts_mem hd n hn)
/-- A list that is read: its rows, each read by itself, and its length in bytes. -/
theorem trod_rows {fuel : Nat} {t e : TypeId} {cs : List Value} {x : DataW H × List MemPlace} {B : Nat} (ht : P.underlying t = some (.slice e)) (hpos : 0 < P.cellsOf e) (h : DataW.trod enc P w 0 (fun _ => true) held fuel t cs = some x) (hB : ∀ n ∈ x.1.weights P t, n ≤ B) :
  ∃ f v n, ∃ rows : List (List Value), cs = [v] ∧ n ≤ maxLen ∧ rows.length = n ∧ (∀ r ∈ rows, r.length = P.cellsOf e ∧ ∃ y, DataW.trod enc P w 0 (fun _ => true) held f e r = some y ∧ ∀ n ∈ y.1.weights P e, n ≤ B) ∧ IsSl w (P.cellsOf e) v n rows.flatten ∧ n * P.bytesOf e ≤ B := by
 rcases DataW.trod_slice ht h with ⟨rfl, -⟩ | ⟨a, len, cap, elems, rest, n, hfu, rfl, rfl, -, hlc, hcm, hlen, hel, hsp, -⟩
 ·exact ⟨0, _, 0, [], rfl, by simp [maxLen], rfl, by simp, by simpa using IsSl.nil, by simp⟩
 ·obtain ⟨hrl, hre⟩ := hsp rfl
  have hwt : (DataW.slice (elems.map (·.1)) (rest.map (·.1))).weights P t = ((elems.map (·.1)).length + (rest.map (·.1)).length) * P.bytesOf e :: (DataW.weightsAll P e (elems.map (·.1)) ++ DataW.weightsAll P e (rest.map (·.1))) := by
   rw [DataW.weights, ht]
  rw [hwt] at hB
  have hB0 := hB _ List.mem_cons_self
  rw [List.length_map, List.length_map, hlen] at hB0
  have hBe : ∀ y ∈ elems, ∀ n ∈ y.1.weights P e, n ≤ B := fun y hy n hn => hB n (List.mem_cons_of_mem _ (List.mem_append_left _ (wts_mem (List.mem_map.2 ⟨y, hy, rfl⟩) n hn)))
  have hBr : ∀ y ∈ rest, ∀ n ∈ y.1.weights P e, n ≤ B := fun y hy n hn => hB n (List.mem_cons_of_mem _ (List.mem_append_right _ (wts_mem (List.mem_map.2 ⟨y, hy, rfl⟩) n hn)))
  clear hB hwt
  have all : ∀ i, i < cap → ∃ cs', w.cells? 0 (a.add (i * P.cellsOf e)) (P.cellsOf e) = some cs' ∧ ∃ y, DataW.trod enc P w 0 (fun _ => true) held n e cs' = some y ∧ ∀ m ∈ y.1.weights P e, m ≤ B := by
   intro i hi
   by_cases hil : i < len
   ·have h1 := hel i hil
    rw [List.getElem?_eq_getElem (by omega)] at h1
    obtain ⟨cs', h1, h2⟩ := Option.bind_eq_some_iff.1 h1
    exact ⟨cs', h1, _, h2, hBe _ (List.getElem_mem _)⟩
   ·have h1 := hre (i - len) (by omega)
    rw [show len + (i - len) = i by omega, List.getElem?_eq_getElem (by omega)] at h1
    obtain ⟨cs', h1, h2⟩ := Option.bind_eq_some_iff.1 h1
    exact ⟨cs', h1, _, h2, hBr _ (List.getElem_mem _)⟩
  obtain ⟨F, hF⟩ := Deep.choose_lt (α := List Value) (p := fun i cs' => w.cells? 0 (a.add (i * P.cellsOf e)) (P.cellsOf e) = some cs' ∧ ∃ y, DataW.trod enc P w 0 (fun _ => true) held n e cs' = some y ∧ ∀ m ∈ y.1.weights P e, m ≤ B) all
  have hlenF : ∀ i, i < cap → (F i).length = P.cellsOf e := fun i hi => (World.cells?_some (hF i hi).1).2.1
  refine ⟨n, _, len, (List.range len).map F, rfl, by omega, by simp, ?_, ?_, Nat.le_trans (Nat.mul_le_mul_right _ (Nat.le_add_right _ _)) hB0⟩
  ·intro r hr
   obtain ⟨i, hi, rfl⟩ := List.mem_map.1 hr
   have hi' : i < cap := by have := List.mem_range.1 hi; omega
   exact ⟨hlenF i hi', (hF i hi').2⟩
  ·by_cases h0 : cap = 0
   ·subst h0
    obtain rfl : len = 0 := by omega
    simpa using IsSl.nil
   ·have hsp : a.spot = none := by
     have h1 := (World.cells?_some (hF 0 (by omega)).1).2.2 0 hpos
     rw [Nat.zero_mul] at h1
     have e0 : (a.add 0).add 0 = a := by simp [Addr.add]
     rw [e0] at h1
     have hl := hlenF 0 (by omega)
     rw [List.getElem?_eq_getElem (by omega)] at h1
     unfold World.cell? at h1
     split at h1
     ·split at h1
      ·simp at h1
      ·rename_i hs; simpa using hs
     ·simp at h1
    obtain ⟨ab, ao, asp⟩ := a
    simp only at hsp; subst hsp
    have hrl : ∀ r ∈ (List.range len).map F, r.length = P.cellsOf e := by
     intro r hr
     obtain ⟨i, hi, rfl⟩ := List.mem_map.1 hr
     exact hlenF i (by have := List.mem_range.1 hi; omega)
    refine .row ?_ (by rw [flatten_length _ hrl]; simp) hlc
    intro q v hv
    have hq : q < len * P.cellsOf e := by
     rcases Nat.lt_or_ge q (len * P.cellsOf e) with h | h
     ·exact h
     ·rw [List.getElem?_eq_none (by rw [flatten_length _ hrl]; simpa using h)] at hv; simp at hv
    have hqi : q / P.cellsOf e < len := Nat.div_lt_of_lt_mul (by rw [Nat.mul_comm]; exact hq)
    have hqj : q % P.cellsOf e < P.cellsOf e := Nat.mod_lt _ hpos
    have hqe : q / P.cellsOf e * P.cellsOf e + q % P.cellsOf e = q := by rw [Nat.mul_comm]; exact Nat.div_add_mod q _
    rw [← hqe, flatten_get _ hrl _ _ hqj] at hv
    simp only [List.getElem?_map, List.getElem?_range hqi, Option.map_some, Option.bind_some] at hv
    have h1 := (World.cells?_some (hF _ (by omega : q / P.cellsOf e < cap)).1).2.2 _ hqj
    rw [hv] at h1
    rw [add_none, add_none] at h1
    rw [← hqe, ← Nat.add_assoc]; exact h1
/-- The reach of one argument. -/
theorem reach_at {ts : List TypeId} {ds gs : List (DataW H)} {vs : List TypeId} {j : Nat} {t : TypeId} {d : DataW H} (h : (DataW.weightsEach P (ts ++ vs) (ds ++ gs)).all (· ≤ reachBytes) = true) (hl : ts.length = ds.length) (ht : ts[j]? = some t) (hd : ds[j]? = some d) : ∀ n ∈ d.weights P t, n ≤ 140737488351232 := fun n hn => by
 have h1 : (ts ++ vs)[j]? = some t := by rw [List.getElem?_append_left (List.getElem?_eq_some_iff.1 ht).1]; exact ht
 have h2 : (ds ++ gs)[j]? = some d := by rw [List.getElem?_append_left (List.getElem?_eq_some_iff.1 hd).1]; exact hd
 have := List.all_eq_true.1 h n (DataW.weights_mem_each h1 h2 n hn)
 exact of_decide_eq_true this
end
end Go.Rn
end
section
/- Merge: for the laws: has, right; parts and forks as arguments. -/
set_option maxRecDepth 4000
namespace Go.Sg
open Go.Rn Go.Proofs Go.Dee Go.Mer Go.Rec Go.RowKit Go.Sha Go.Cod Go.NT
attribute [local irreducible] keysD fineD thereL chkM mergeD liarsL Go.Rn.RetsX Go.Rn.RunLN Go.Rn.AsyN Go.Rn.RunL Go.Rn.RunE Go.Rn.Asy Go.Rn.OpV Go.Rn.OpE Go.Rn.ExecE
end Go.Sg
namespace Go.Sg
open Go.Rn Go.Proofs Go.Dee Go.Mer Go.Rec Go.RowKit Go.WideShapes Go.ChangeShapes Go.Sha
/-- Parts that come in. -/
structure InL (w : World) (v : Value) (ls : List Ll) : Prop where
 at_ : LLl w v ls
 part : ∀ x ∈ ls, LDr w x.v x.l
 wf : ∀ x ∈ allD ls, WfX w x
 len : ls.length * 24 ≤ 140737488351232
 each : ∀ x ∈ ls, x.l.length * 120 ≤ 140737488351232
theorem small_of {ls : List Ll} (h : ∀ x ∈ ls, x.l.length * 120 ≤ 140737488351232) (h70 : ls.length ≤ 70) : lenD ls < 9223372036854775808 := by
 have key : ∀ l : List Ll, (∀ x ∈ l, x.l.length * 120 ≤ 140737488351232) → lenD l * 120 ≤ l.length * 140737488351232 := by
  intro l
  induction l with
  | nil => intro _; simp [lenD]
  | cons x l ih =>
   intro hx
   have h1 := ih fun y hy => hx y (List.mem_cons_of_mem _ hy)
   have h2 := hx x List.mem_cons_self
   have e : lenD (x :: l) = x.l.length + lenD l := by unfold lenD; simp
   rw [e, List.length_cons, Nat.add_mul, Nat.add_mul]
   omega
 have := key ls h
 omega
theorem InL.small {w : World} {v : Value} {ls : List Ll} (h : InL w v ls) (h70 : ls.length ≤ 70) : lenD ls < 9223372036854775808 := small_of h.each h70
theorem InL.few {w : World} {v : Value} {ls : List Ll} (h : InL w v ls) : ls.length < 9223372036854775808 := by have := h.len; omega
section
variable {H : Type} {enc : TypeId × Value → H} {w : World}
theorem deeds_row {fuel : Nat} {cs : List Value} {held : Bool} {y : DataW H × List MemPlace} (h : DataW.trod enc Tryz.prog w 0 (fun _ => true) held fuel 26 cs = some y) (hB : ∀ n ∈ y.1.weights Tryz.prog 26, n ≤ 140737488351232) :
  ∃ x : Ll, cs = x.cells ∧ LDr w x.v x.l ∧ (∀ d ∈ x.l, WfX w d) ∧ x.l.length * 120 ≤ 140737488351232 := by
 have hc : Tryz.prog.cellsOf 38 = 39 := by kernel_rfl
 have hb : Tryz.prog.bytesOf 38 = 120 := by kernel_rfl
 obtain ⟨f, v, n, rows, rfl, hm, hr, hrs, hsl, hbt⟩ := trod_rows (Tryz.underlying26) (by rw [hc]; decide) h hB
 rw [hc] at hrs hsl
 rw [hb] at hbt
 obtain ⟨l, hl, hw⟩ : ∃ l : List Dr, rows = l.map Dr.cells ∧ ∀ x ∈ l, WfX w x := by
  clear hr hsl h
  induction rows with
  | nil => exact ⟨[], rfl, by simp⟩
  | cons r rs ih =>
   obtain ⟨l, rfl, h2⟩ := ih fun r hr => hrs r (List.mem_cons_of_mem _ hr)
   obtain ⟨y, hy, -⟩ := (hrs r List.mem_cons_self).2
   obtain ⟨x, rfl, hx⟩ := deed_row _ _ (shp_of_trod _ _ _ _ hy)
   exact ⟨x :: l, rfl, fun z hz => by
    rcases List.mem_cons.1 hz with rfl | hz
    ·exact hx
    ·exact h2 z hz⟩
 subst hl
 have hlm : l.length = n := by simpa using hr
 subst hlm
 have hsl' : LDr w v l := hsl
 obtain ⟨d, c, rfl⟩ := isSl_slice hsl'
 exact ⟨⟨l, d, c⟩, rfl, hsl', hw, hbt⟩
theorem parts_open {v : Value} {d : DataW H} {ps : List MemPlace} {held : Bool} {r : Reach} {b0 : Nat} (hB : ∀ n ∈ d.weights Tryz.prog 23, n ≤ 140737488351232) (hval : Value.okWide Tryz.prog w r b0 23 v)
  (h : DataW.Trod enc Tryz.prog w 0 (fun _ => true) held 23 v d ps) : ∃ ls : List Ll, InL w v ls := by
 obtain ⟨a, n, c, rfl⟩ := okWide_sl (Tryz.underlying23) hval
 obtain ⟨fuel, hf⟩ := h
 have hc : Tryz.prog.cellsOf 26 = 1 := by kernel_rfl
 have hb : Tryz.prog.bytesOf 26 = 24 := by kernel_rfl
 obtain ⟨f, u, m, rows, hv, hm, hr, hrs, hsl, hbt⟩ := trod_rows (Tryz.underlying23) (by rw [hc]; decide) hf hB
 have hu : u = .slice a n c := by simpa [Value.cells] using hv.symm
 subst hu
 rw [hc] at hrs hsl
 rw [hb] at hbt
 obtain ⟨l, hl, hw⟩ : ∃ l : List Ll, rows = l.map Ll.cells ∧ ∀ x ∈ l, LDr w x.v x.l ∧ (∀ d ∈ x.l, WfX w d) ∧ x.l.length * 120 ≤ 140737488351232 := by
  clear hr hsl hf
  induction rows with
  | nil => exact ⟨[], rfl, by simp⟩
  | cons r rs ih =>
   obtain ⟨l, rfl, h2⟩ := ih fun r hr => hrs r (List.mem_cons_of_mem _ hr)
   obtain ⟨y, hy, hyB⟩ := (hrs r List.mem_cons_self).2
   obtain ⟨x, rfl, hx⟩ := deeds_row hy hyB
   exact ⟨x :: l, rfl, fun z hz => by
    rcases List.mem_cons.1 hz with rfl | hz
    ·exact hx
    ·exact h2 z hz⟩
 subst hl
 have hlm : l.length = m := by simpa using hr
 subst hlm
 exact ⟨l, hsl, fun x hx => (hw x hx).1, fun y hy => by
  obtain ⟨x, hx, hy⟩ := List.mem_flatMap.1 hy
  exact (hw x hx).2.1 y hy, hbt, fun x hx => (hw x hx).2.2⟩
end
end Go.Sg
end
section
/- Merge: what is made keeps its lists. -/
set_option maxRecDepth 4000
namespace Go.Sg
open Go.Rn Go.Proofs Go.Dee Go.Rec Go.RowKit Go.Sha Go.Cod Go.NT
attribute [local irreducible] Go.Rn.RetsX Go.Rn.RunLN Go.Rn.AsyN Go.Rn.RunL Go.Rn.RunE Go.Rn.Asy Go.Rn.OpV Go.Rn.OpE Go.Rn.ExecE
set_option maxRecDepth 8000 in
set_option maxHeartbeats 4000000 in
theorem dMake_go (x person no at_ : Int) (prev : Dg) (seen : List Dg) (data : List UInt8) (du : Option Addr) (cu : Nat) (dv : Option Addr) (cv : Nat) (w : World) (hx : -9223372036854775808 ≤ x ∧ x < 9223372036854775808) (h0 : makeE x (askD person no at_ prev seen data) = 0) (hs : LDg w (.slice du seen.length cu) seen) (hb : LBy w (.slice dv data.length cv) data) (hl : seen.length < 9223372036854775808) (hl' : data.length < 9223372036854775808) (hS : Row w 0 0 (vals init8.l)) (hkT : Row w 1 0 (vals kTab)) :
  Rets Tryz.prog 59 [.int .i64 x, .int .i64 person, .int .i64 no, .int .i64 at_, .agg (digC prev).toArray, .slice du seen.length cu, .slice dv data.length cv] w fun r w' => r = .tuple #[.agg (dCells (makeD x (askD person no at_ prev seen data)) (.slice du seen.length cu) (.slice dv data.length cv)).toArray, .int .i64 0] ∧ Ext w w' := by
 have c1 := fun w h1 h2 => dformed_ok (askD person no at_ prev seen data) (.slice du seen.length cu) (.slice dv data.length cv) w h1 h2 hl hl'
 obtain ⟨hq, hf, -⟩ := make_good h0
 have hq' : 1 ≤ x ∧ x < 1073741789 := of_decide_eq_true hq
 rw [hf] at c1
 have h1 : makeD x (askD person no at_ prev seen data) = ⟨person, no, at_, prev, seen, data, sigE x (textD (askD person no at_ prev seen data)), sigS x (textD (askD person no at_ prev seen data))⟩ := by unfold makeD; rw [h0]; rfl
 have hr : sigR x = 0 := by unfold sigR; rw [hq]; rfl
 rw [h1]
 have c2 := fun w h1 h2 => dtext_ok (askD person no at_ prev seen data) (.slice du seen.length cu) (.slice dv data.length cv) w h1 h2 hf
 have c3 := fun r w h => sign_ok x r (textD (askD person no at_ prev seen data)) w hx h (Nat.le_trans (text_len hf) (by decide))
 rw [hr] at c3
 clear h0 h1 hr
 generalize hE : sigE x (textD (askD person no at_ prev seen data)) = E at c3 ⊢
 generalize hS' : sigS x (textD (askD person no at_ prev seen data)) = S at c3 ⊢
 clear hE hS'
 refine RetsX.of (nt := 48) Tryz.func59 (by kernel_rfl) rfl rfl (by simp) (by simp only [argEnv]; rfl) ?_
 have X := ExtB.refl (fun _ => False) w
 repeat' (first | refine ZzQ ?_ | refine ZzR ?_)
 refine RunL.box rfl rfl rfl fun B11 w11_ a_ => ?_
 have Z11 : Blk w11_ B11 (digC prev) 32 := a_.at_
 have gB11 := a_.ge X
 replace X := X.trans a_.ext
 clear a_
 skip
 refine RunL.alloc Tryz.tOk rfl rfl rfl fun B14 w14_ a_ => ?_
 have Z14 : Blk w14_ B14 (dCells zeroD nilV nilV) 38 := a_.at_
 have gB14 := a_.ge X
 have n11_14 : B11 ≠ B14 := by have := Z11.lt; have := a_.eq; omega
 have n14_11 : B14 ≠ B11 := Ne.symm n11_14
 replace Z11 := Z11.up a_.ext
 replace X := X.trans a_.ext
 clear a_
 repeat' (first | with_reducible refine ZzG rfl ?_ | (with_reducible refine RunLN.decF ?_ ?_; focus omega) | (with_reducible refine RunLN.chk ?_; refine RunLN.int (by (rfl)) ?_) | refine ZzA ?_ | refine RunL.ev Tryz.tOk rfl rfl ((build_deed (sn := seen) (dt := data) rfl rfl rfl rfl rfl rfl)) ?_ | refine RunL.ev Tryz.tOk rfl rfl rfl ?_ | refine RunL.evV rfl rfl rfl (OpV.loadN Tryz.tOk rfl rfl rfl rfl (Blk.row Z11)) ?_ | refine ZzF rfl rfl ?_ | refine ZzQ ?_ | refine ZzR ?_ | refine ZzN ?_ | refine ZzK ?_)
 refine RunL.alloc Tryz.tOk rfl rfl rfl fun B16 wa_ aa_ => ?_
 have gB16 := aa_.ge X
 refine RunL.storeW (vs := dCells (askD person no at_ prev seen data) (.slice du seen.length cu) (.slice dv data.length cv)) Tryz.tOk rfl rfl rfl rfl rfl aa_.at_ rfl rfl fun w16_ tb_ => ?_
 have Xa_ : Ext _ w16_ := aa_.ext.write tb_.ext (by intro i_ hi_ hlt_; have := aa_.eq; omega)
 have Z16 : Blk w16_ B16 (dCells (askD person no at_ prev seen data) (.slice du seen.length cu) (.slice dv data.length cv)) 38 := tb_.at_
 have n14_16 : B14 ≠ B16 := by have := Z14.lt; have := aa_.eq; omega
 have n16_14 : B16 ≠ B14 := Ne.symm n14_16
 replace Z14 := Z14.up Xa_
 replace X := X.trans Xa_
 clear Xa_ aa_ tb_
 clear Z11
 repeat' (first | refine ZzA ?_ | refine RunL.evV rfl rfl rfl (OpV.loadN Tryz.tOk rfl rfl rfl rfl (Blk.row Z16)) ?_ | refine ZzQ ?_ | refine ZzR ?_ | refine ZzN ?_)
 refine RunL.call rfl rfl rfl (c1 _ (hs.up X) (hb.up X)) ?_
 rintro _ _ ⟨rfl, Xa_⟩
 replace Z14 := Z14.up Xa_
 replace Z16 := Z16.up Xa_
 replace X := X.trans Xa_
 clear Xa_
 repeat' (first | with_reducible refine ZzG rfl ?_ | (with_reducible refine RunLN.chk ?_; refine RunLN.int (by (rfl)) ?_) | refine ZzA ?_ | refine RunL.ev Tryz.tOk rfl rfl rfl ?_ | refine RunL.evV rfl rfl rfl (OpV.loadN Tryz.tOk rfl rfl rfl rfl (Blk.row Z16)) ?_ | refine ZzF rfl rfl ?_ | refine ZzQ ?_ | refine ZzR ?_ | refine ZzN ?_ | refine ZzK ?_)
 refine RunL.call rfl rfl rfl (c2 _ (hs.up X) (hb.up X)) ?_
 rintro r w5 ⟨O5, Xa_⟩
 have O6 : LBy w5 r (textD (askD person no at_ prev seen data)) := isSl_own O5
 clear O5
 replace Z14 := Z14.up Xa_
 replace Z16 := Z16.up Xa_
 replace X := X.trans Xa_
 clear Xa_
 skip
 refine RunL.call rfl rfl rfl (c3 r _ O6 (hS.up X) (hkT.up X)) ?_
 rintro _ _ ⟨rfl, Xa_⟩
 replace Z14 := Z14.up Xa_
 replace Z16 := Z16.up Xa_
 replace X := X.trans Xa_
 clear Xa_
 clear O6
 repeat' (first | (with_reducible refine RunLN.chk ?_; refine RunLN.int (by (rfl)) ?_) | refine ZzA ?_ | refine RunL.ev Tryz.tOk rfl rfl rfl ?_)
 refine RunL.store Tryz.tOk rfl rfl rfl rfl rfl Z16 rfl rfl fun w_ t_ => ?_
 replace X := X.own t_.ext gB16
 replace Z14 := Z14.other t_.ext n14_16
 replace Z16 : Blk w_ B16 (dCells ⟨person, no, at_, prev, seen, data, E, S⟩ (.slice du seen.length cu) (.slice dv data.length cv)) 38 := t_.at_
 clear t_
 repeat' (first | with_reducible refine ZzG rfl ?_ | (with_reducible refine RunLN.chk ?_; refine RunLN.int (by (rfl)) ?_) | refine ZzA ?_ | refine RunL.ev Tryz.tOk rfl rfl rfl ?_ | refine RunL.evV rfl rfl rfl (OpV.loadN Tryz.tOk rfl rfl rfl rfl (Blk.row Z16)) ?_ | refine ZzF rfl rfl ?_ | refine ZzQ ?_ | refine ZzR ?_ | refine ZzN ?_ | refine ZzK ?_)
 refine RunL.storeW (vs := dCells ⟨person, no, at_, prev, seen, data, E, S⟩ (.slice du seen.length cu) (.slice dv data.length cv)) Tryz.tOk rfl rfl rfl rfl rfl Z14 rfl rfl fun w_ t_ => ?_
 replace X := X.own t_.ext gB14
 replace Z14 : Blk w_ B14 (dCells ⟨person, no, at_, prev, seen, data, E, S⟩ (.slice du seen.length cu) (.slice dv data.length cv)) 38 := t_.at_
 clear t_
 repeat' (first | (with_reducible refine RunLN.chk ?_; refine RunLN.int (by (rfl)) ?_) | refine RunL.ev Tryz.tOk rfl rfl rfl ?_ | refine ZzN ?_)
 exact RunE.retFn Tryz.func59 (.cell rfl (.agg Tryz.tOk rfl rfl rfl Z14.row) (.tmp rfl .nil)) ⟨rfl, X⟩
end Go.Sg
end
section
/- []byte("..") of a constant. -/
set_option maxRecDepth 4000
namespace Go.Rn
variable {P : Program} {w : World} {env : Env} {dst : Option Tmp} {ty : TypeId} {pos : String} {after : Array Edge} {guard : Option (Nat × Bool)}
theorem row_cells {b : Nat} {cs : List Value} {t : TypeId} {fz : Nat × Nat} (h : w.heap[b]? = some (.cells cs.toArray t fz)) : Row w b 0 cs := fun i v hv => by
 simp [World.cell?, h, hv]
theorem OpE.bytesC {T : Tab} (hT : T.Ok P) {t e : TypeId} {ag : Bool} {s bb s2 bb2 : Nat} {z z2 : List Value} {a u a2 u2 : Bool} {x : Operand} {B n c : Nat} {cs : List Value} {bt : TypeId}
  (ht : T.get t = some ⟨.slc 1 ag e, s, bb, z, a, u⟩) (he : T.get e = some ⟨.int .u8, s2, bb2, z2, a2, u2⟩) (hx : evO env x = some (.slice (some ⟨B, 0, none⟩) n c)) (hb : Blk w B cs bt) :
  OpE P env w ⟨dst, .convert t t x, ty, pos, after, guard⟩ (fun v w' => v = .slice (some ⟨B, 0, none⟩) n c ∧ Turned w w' B (.cells cs.toArray bt (cs.length, cs.length + 1))) fun _ _ => False := by
 obtain ⟨hu, -⟩ := TD.of_slc (TI.tdof (hT.get _ _ ht)).symm
 have hue := TD.of_int (TI.tdof (hT.get _ _ he)).symm
 refine .of_run (w' := World.setObj w B (.cells cs.toArray bt (cs.length, cs.length + 1))) (v := .slice (some ⟨B, 0, none⟩) n c) ⟨rfl, turned_set w hb.lt _⟩ fun ρ hρ => ⟨_, by simp only [execOp, hρ _ _ hx] <;> rfl, ?_⟩
 have hsh : w.shape? B = some (bt, cs.length) := by
  unfold World.shape?
  rw [show w.heap[B]? = some (.cells cs.toArray bt (0, 0)) from hb]; simp
 have hfr : w.freeze ⟨B, cs.length, none⟩ 1 = World.setObj w B (.cells cs.toArray bt (cs.length, cs.length + 1)) := by
  unfold World.freeze World.setObj
  rw [if_neg (by decide)]
  have hm : ∀ (f : Obj → Obj) (y : Obj), f (.cells cs.toArray bt (0, 0)) = y → w.heap.modify B f = w.heap.setIfInBounds B y := by
   intro f y hy
   have hB := hb.lt
   have hg : w.heap[B] = .cells cs.toArray bt (0, 0) := by
    have : w.heap[B]? = some _ := hb
    rw [Array.getElem?_eq_getElem hB] at this; injection this
   apply Array.ext
   ·simp
   ·intro i h1 h2
    simp only [Array.getElem_modify, Array.getElem_setIfInBounds]
    by_cases h : B = i
    ·subst h; simp [hg, hy]
    ·simp only [h, if_false]
     rw [Array.getElem_setIfInBounds_ne _ h]
  rw [hm _ _ (by rfl)]
  rfl
 simp [convert, run_underlying hu, run_underlying hue, markStringish, hsh]
 exact hfr
end Go.Rn
end
