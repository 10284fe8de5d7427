/- Parts of this project that the claims share: Mef2, MefS, Mef3, Mef4, Mef5, Mef6, Mef7, MerX, MerY, OpenW, MerZ, MerQ, Const, MerV, MerT. -/
import Derived.Test.YtpmpefkcmokoiaaGreatDoorMl09
import Derived.Test.YtpmpefkcmokoiaaGreatDoorMl08
import Derived.SizedLaws
import Derived.Test.YtpmpefkcmokoiaaGreatDoorMl02
import Derived.Lib.SlBytesConst
set_option linter.unusedSimpArgs false
set_option linter.unusedVariables false
set_option linter.unusedSectionVars false
section
/- Merge: the reference: Forked, Taken. -/
set_option maxRecDepth 4000
namespace Go.Mer
open Go.Rn Go.Rec Go.Dee Go.RowKit
theorem two_idx {α : Type} (q : α → Bool) : ∀ l : List α, 2 ≤ (l.filter q).length ↔ ∃ (i k : Nat) (a b : α), k < i ∧ l[i]? = some a ∧ l[k]? = some b ∧ q a = true ∧ q b = true
 | [] => by simp
 | x :: l => by
  have ih := two_idx q l
  rw [List.filter_cons]
  constructor
  ·intro h
   cases hq : q x with
   | true =>
    rw [hq, if_pos rfl, List.length_cons] at h
    obtain ⟨a, r, he⟩ : ∃ a r, l.filter q = a :: r := by
     cases hf : l.filter q with
     | nil => rw [hf] at h; simp at h
     | cons a r => exact ⟨a, r, rfl⟩
    have ha : a ∈ l.filter q := by rw [he]; exact List.mem_cons_self
    obtain ⟨h1, h2⟩ := List.mem_filter.1 ha
    obtain ⟨i, hi⟩ := List.mem_iff_getElem?.1 h1
    exact ⟨i + 1, 0, a, x, by omega, by simpa using hi, rfl, h2, hq⟩
   | false =>
    rw [hq] at h
    obtain ⟨i, k, a, b, h1, h2, h3, h4⟩ := ih.1 (by simpa using h)
    exact ⟨i + 1, k + 1, a, b, by omega, by simpa using h2, by simpa using h3, h4⟩
  ·rintro ⟨i, k, a, b, h1, h2, h3, h4, h5⟩
   cases i with
   | zero => omega
   | succ i =>
    rw [List.getElem?_cons_succ] at h2
    cases k with
    | zero =>
     rw [List.getElem?_cons_zero, Option.some.injEq] at h3
     subst h3
     rw [h5, if_pos rfl, List.length_cons]
     have : a ∈ l.filter q := List.mem_filter.2 ⟨List.mem_of_getElem? h2, h4⟩
     have := List.length_pos_of_mem this
     omega
    | succ k =>
     rw [List.getElem?_cons_succ] at h3
     have := ih.2 ⟨i, k, a, b, by omega, h2, h3, h4, h5⟩
     split
     ·rw [List.length_cons]; omega
     ·exact this
def PairAt (l : List Dr) (p : Int) (i k : Nat) (n : Int) : Prop := ∃ a b, l[i]? = some a ∧ l[k]? = some b ∧ a.d.person = p ∧ b.d.person = p ∧ a.d.no = n ∧ b.d.no = n
def ProcF (i k i' k' : Nat) : Prop := k' < i' ∧ (i' < i ∨ (i' = i ∧ k' < k))
structure ForkI (l : List Dr) (p : Int) (i k : Nat) (no : Int) : Prop where
 is : no = -1 ∨ (0 ≤ no ∧ ∃ i' k', ProcF i k i' k' ∧ PairAt l p i' k' no)
 least : ∀ i' k' n, ProcF i k i' k' → PairAt l p i' k' n → 0 ≤ no ∧ no ≤ n
theorem ForkI.init (l : List Dr) (p : Int) : ForkI l p 0 0 (-1) := ⟨.inl rfl, fun i' k' n h => by unfold ProcF at h; omega⟩
theorem ForkI.next {l : List Dr} {p : Int} {i : Nat} {no : Int} (h : ForkI l p i i no) : ForkI l p (i + 1) 0 no := by
 have hp : ∀ i' k', ProcF (i + 1) 0 i' k' ↔ ProcF i i i' k' := fun i' k' => by unfold ProcF; omega
 refine ⟨h.is.imp_right fun ⟨h1, i', k', h2, h3⟩ => ⟨h1, i', k', (hp _ _).2 h2, h3⟩, fun i' k' n h1 h2 => h.least i' k' n ((hp _ _).1 h1) h2⟩
theorem ForkI.keep {l : List Dr} {p : Int} {i k : Nat} {no : Int} (h : ForkI l p i k no) (hn : ∀ n, PairAt l p i k n → 0 ≤ no ∧ no ≤ n) : ForkI l p i (k + 1) no := by
 refine ⟨h.is.imp_right fun ⟨h1, i', k', h2, h3⟩ => ⟨h1, i', k', by unfold ProcF at *; omega, h3⟩, fun i' k' n h1 h2 => ?_⟩
 by_cases e : i' = i ∧ k' = k
 ·obtain ⟨rfl, rfl⟩ := e; exact hn n h2
 ·exact h.least i' k' n (by unfold ProcF at *; omega) h2
theorem ForkI.set {l : List Dr} {p : Int} {i k : Nat} {no n : Int} (h : ForkI l p i k no) (hk : k < i) (hp : PairAt l p i k n) (h0 : 0 ≤ n) (hl : no < 0 ∨ n < no) : ForkI l p i (k + 1) n := by
 refine ⟨.inr ⟨h0, i, k, by unfold ProcF; omega, hp⟩, fun i' k' n' h1 h2 => ?_⟩
 by_cases e : i' = i ∧ k' = k
 ·obtain ⟨rfl, rfl⟩ := e
  obtain ⟨a, b, ha, -, -, -, hn, -⟩ := hp
  obtain ⟨a', b', ha', -, -, -, hn', -⟩ := h2
  rw [ha] at ha'
  cases ha'
  omega
 ·have := h.least i' k' n' (by unfold ProcF at *; omega) h2
  omega
def forkN (l : List Dr) (p : Int) : Int := match forkL Dr.d l p with
 | none => -1
 | some n => (n : Int)
theorem ForkI.fin {l : List Dr} {p no : Int} (h : ForkI l p l.length 0 no) (hno : ∀ x ∈ l, 0 ≤ x.d.no ∧ x.d.no < 4096) : no = forkN l p := by
 have hpair : ∀ n : Int, 2 ≤ (grpD l (p, n)).length ↔ ∃ i' k', ProcF l.length 0 i' k' ∧ PairAt l p i' k' n := fun n => by
  unfold grpD atL
  rw [two_idx]
  constructor
  ·rintro ⟨i, k, a, b, h1, h2, h3, h4, h5⟩
   have h4 := of_decide_eq_true h4
   have h5 := of_decide_eq_true h5
   have := (List.getElem?_eq_some_iff.1 h2).1
   exact ⟨i, k, by unfold ProcF; omega, a, b, h2, h3, h4.1, h5.1, h4.2, h5.2⟩
  ·rintro ⟨i, k, h1, a, b, h2, h3, h4, h5, h6, h7⟩
   exact ⟨i, k, a, b, h1.1, h2, h3, decide_eq_true ⟨h4, h6⟩, decide_eq_true ⟨h5, h7⟩⟩
 unfold forkN
 rcases h.is with rfl | ⟨h0, i', k', h1, h2⟩
 ·have : forkL Dr.d l p = none := forkL_no fun m _ => by
   apply Nat.lt_of_not_le
   intro h2
   obtain ⟨i', k', h3, h4⟩ := (hpair _).1 h2
   have := h.least i' k' _ h3 h4
   omega
  rw [this]
 ·have hg := (hpair no).2 ⟨i', k', h1, h2⟩
  obtain ⟨a, b, ha, -, -, -, hn, -⟩ := h2
  have hna := hno a (List.mem_of_getElem? ha)
  have e : ((no.toNat : Nat) : Int) = no := by omega
  have : forkL Dr.d l p = some no.toNat := forkL_of (by omega) (by rw [e]; omega) fun m hm => by
   apply Nat.lt_of_not_le
   intro h2
   obtain ⟨i2, k2, h3, h4⟩ := (hpair _).1 h2
   have := h.least i2 k2 _ h3 h4
   omega
  rw [this]
  simp only
  omega
end Go.Mer
namespace Go.Sg
open Go.Rn Go.Proofs Go.Dee Go.Mer Go.Rec Go.RowKit Go.Sha Go.Cod Go.NT
attribute [local irreducible] leftL keysD fineD thereL Go.Rn.RetsX Go.Rn.RunLN Go.Rn.AsyN Go.Rn.RunL Go.Rn.RunE Go.Rn.Asy Go.Rn.OpV Go.Rn.OpE Go.Rn.ExecE
set_option maxRecDepth 8000 in
set_option maxHeartbeats 8000000 in
theorem rForked_ok (l : List Dr) (v : Value) (p : Int) (w : World) (hv : LDr w v l) (hl : l.length < 9223372036854775808) (hno : ∀ x ∈ l, 0 ≤ x.d.no ∧ x.d.no < 4096) :
  Rets Tryz.prog 45 [v, .int .i64 p] w fun r w' => r = .int .i64 (forkN l p) ∧ Ext w w' := by
 refine RetsX.of (nt := 67) Tryz.func45 (by kernel_rfl) rfl rfl (by simp) (by simp only [argEnv]; rfl) ?_
 have X := ExtB.refl (fun _ => False) w
 repeat' (first | (with_reducible refine RunLN.chk ?_; refine RunLN.int (by (rfl)) ?_) | refine RunL.ev Tryz.tOk rfl rfl rfl ?_ | refine RunE.seq ?_ | refine RunE.region ?_ | refine RunL.nil ?_ | refine RunE.block ?_)
 refine RunE.loop (ι := Nat × Int) (fun s => [(0, v), (1, .int .i64 p), (5, .int .i64 s.2), (6, .int .i64 (s.1 : Int))])
  (fun s w' => s.1 ≤ l.length ∧ Ext w w' ∧ ForkI l p s.1 0 s.2) (fun s => l.length - s.1) (0, -1) (by repeat (first | exact Sub.nil _ | refine Sub.cons rfl ?_)) ⟨Nat.zero_le _, X, ForkI.init l p⟩ ?_
 clear X
 rintro ⟨i, no⟩ w3 ⟨hi, X, hF⟩ again
 simp only at hi hF again ⊢
 by_cases hlt : i < l.length
 ·obtain ⟨b1, o1, c1, rfl, hr1, -⟩ := isL_held hv hlt
  obtain ⟨a, ha⟩ : ∃ a, l[i]? = some a := ⟨_, List.getElem?_eq_getElem hlt⟩
  have hra := flat_row encR hr1 ha
  repeat' (first | (with_reducible refine RunLN.decT ?_ ?_; focus omega) | (with_reducible refine RunLN.chk ?_; refine RunLN.int (by (rfl)) ?_) | refine RunLN.any ?_ | refine RunL.ev Tryz.tOk rfl rfl rfl ?_ | refine RunE.condT rfl rfl ?_ | refine RunE.seq ?_ | refine RunE.region ?_ | refine RunL.nil ?_ | refine RunE.block ?_ | refine RunE.skip ?_)
  refine RunE.loop (ι := Nat × Int) (fun s => [(0, .slice (some ⟨b1, o1, none⟩) l.length c1), (1, .int .i64 p), (5, .int .i64 s.2), (6, .int .i64 (i : Int)), (7, .int .i64 (s.1 : Int))])
   (fun s w' => s.1 ≤ i ∧ Ext w w' ∧ ForkI l p i s.1 s.2) (fun s => i - s.1) (0, no) (by repeat (first | exact Sub.nil _ | refine Sub.cons rfl ?_)) ⟨Nat.zero_le _, X, hF⟩ ?_
  clear X hF
  rintro ⟨k, no⟩ w4 ⟨hk, X, hF⟩ again2
  simp only at hk hF again2 ⊢
  by_cases hkl : k < i
  ·obtain ⟨b, hb⟩ : ∃ b, l[k]? = some b := ⟨_, List.getElem?_eq_getElem (by omega)⟩
   have hrb := flat_row encR hr1 hb
   clear again
   repeat' (first | (with_reducible refine RunLN.decT ?_ ?_; focus omega) | (with_reducible refine RunLN.chk ?_; refine RunLN.int (by (rfl)) ?_) | refine RunL.ev Tryz.tOk rfl rfl rfl ?_ | refine RunE.condT rfl rfl ?_ | refine RunE.seq ?_ | refine RunE.region ?_ | refine RunL.nil ?_ | refine RunE.block ?_ | refine RunE.skip ?_)
   refine RunE.draw (fun _ => False) mix ?_
   intro wd_ Xd_
   by_cases h1 : a.d.person = p
   rotate_left
   ·have hkeep : ∀ n, PairAt l p i k n → 0 ≤ no ∧ no ≤ n := fun n ⟨a', b', ha', _, h, _⟩ => by
     rw [ha] at ha'; cases ha'; exact absurd h h1
    repeat' (first | with_reducible refine AsyN.boolF rfl ?_ | (with_reducible refine AsyN.eqF ?_ ?_; focus omega) | (with_reducible refine AsyN.chk ?_; refine AsyN.int (by (rfl)) ?_) | refine AsyN.any ?_ | refine Asy.ev Tryz.tOk rfl rfl rfl ?_ | refine Asy.unwantedD rfl rfl rfl ?_ | refine Asy.evV rfl rfl rfl rfl (fun _ X_ => OpV.load1 Tryz.tOk rfl rfl rfl ((hra.up (X.trans (Xd_.trans X_))) _ _ rfl)) ?_ | refine Asy.evV rfl rfl rfl rfl (fun _ X_ => OpV.indexS Tryz.tOk _ rfl rfl rfl rfl (by omega)) ?_)
    refine Asy.end_ (by kernel_rfl) ?_
    intro we_ Xe_
    replace X := X.trans (Xd_.trans Xe_)
    clear Xd_ Xe_
    repeat' (first | (with_reducible refine RunLN.chk ?_; refine RunLN.int (by (first | (refine wr_i64 ?_ ?_; omega; omega) | rfl)) ?_) | refine RunL.ev Tryz.tOk rfl rfl rfl ?_ | refine RunE.condF rfl rfl ?_ | refine RunE.region ?_ | refine RunL.nil ?_ | refine RunE.inBlock ?_ | refine RunE.skip ?_)
    exact RunE.weaken (by repeat (first | exact Sub.nil _ | refine Sub.cons rfl ?_)) (again2 (k + 1, no) _ (by simp only; omega) ⟨by simp only; omega, X, hF.keep hkeep⟩)
   by_cases h2 : b.d.person = p
   rotate_left
   ·have hkeep : ∀ n, PairAt l p i k n → 0 ≤ no ∧ no ≤ n := fun n ⟨a', b', _, hb', _, h, _⟩ => by
     rw [hb] at hb'; cases hb'; exact absurd h h2
    repeat' (first | with_reducible refine AsyN.boolT rfl ?_ | with_reducible refine AsyN.boolF rfl ?_ | (with_reducible refine AsyN.eqT ?_ ?_; focus omega) | (with_reducible refine AsyN.eqF ?_ ?_; focus omega) | (with_reducible refine AsyN.chk ?_; refine AsyN.int (by (rfl)) ?_) | refine AsyN.any ?_ | refine Asy.ev Tryz.tOk rfl rfl rfl ?_ | refine Asy.unwantedD rfl rfl rfl ?_ | refine Asy.evV rfl rfl rfl rfl (fun _ X_ => OpV.load1 Tryz.tOk rfl rfl rfl ((hra.up (X.trans (Xd_.trans X_))) _ _ rfl)) ?_ | refine Asy.evV rfl rfl rfl rfl (fun _ X_ => OpV.load1 Tryz.tOk rfl rfl rfl ((hrb.up (X.trans (Xd_.trans X_))) _ _ rfl)) ?_ | refine Asy.evV rfl rfl rfl rfl (fun _ X_ => OpV.indexS Tryz.tOk _ rfl rfl rfl rfl (by omega)) ?_)
    refine Asy.end_ (by kernel_rfl) ?_
    intro we_ Xe_
    replace X := X.trans (Xd_.trans Xe_)
    clear Xd_ Xe_
    repeat' (first | (with_reducible refine RunLN.chk ?_; refine RunLN.int (by (first | (refine wr_i64 ?_ ?_; omega; omega) | rfl)) ?_) | refine RunL.ev Tryz.tOk rfl rfl rfl ?_ | refine RunE.condF rfl rfl ?_ | refine RunE.region ?_ | refine RunL.nil ?_ | refine RunE.inBlock ?_ | refine RunE.skip ?_)
    exact RunE.weaken (by repeat (first | exact Sub.nil _ | refine Sub.cons rfl ?_)) (again2 (k + 1, no) _ (by simp only; omega) ⟨by simp only; omega, X, hF.keep hkeep⟩)
   by_cases h3 : a.d.no = b.d.no
   rotate_left
   ·have hkeep : ∀ n, PairAt l p i k n → 0 ≤ no ∧ no ≤ n := fun n ⟨a', b', ha', hb', _, _, h, h'⟩ => by
     rw [ha] at ha'; cases ha'; rw [hb] at hb'; cases hb'; exact absurd (h.trans h'.symm) h3
    repeat' (first | with_reducible refine AsyN.boolT rfl ?_ | with_reducible refine AsyN.boolF rfl ?_ | (with_reducible refine AsyN.eqT ?_ ?_; focus omega) | (with_reducible refine AsyN.eqF ?_ ?_; focus omega) | (with_reducible refine AsyN.chk ?_; refine AsyN.int (by (rfl)) ?_) | refine AsyN.any ?_ | refine Asy.ev Tryz.tOk rfl rfl rfl ?_ | refine Asy.unwantedD rfl rfl rfl ?_ | refine Asy.evV rfl rfl rfl rfl (fun _ X_ => OpV.load1 Tryz.tOk rfl rfl rfl ((hra.up (X.trans (Xd_.trans X_))) _ _ rfl)) ?_ | refine Asy.evV rfl rfl rfl rfl (fun _ X_ => OpV.load1 Tryz.tOk rfl rfl rfl ((hrb.up (X.trans (Xd_.trans X_))) _ _ rfl)) ?_ | refine Asy.evV rfl rfl rfl rfl (fun _ X_ => OpV.indexS Tryz.tOk _ rfl rfl rfl rfl (by omega)) ?_)
    refine Asy.end_ (by kernel_rfl) ?_
    intro we_ Xe_
    replace X := X.trans (Xd_.trans Xe_)
    clear Xd_ Xe_
    repeat' (first | (with_reducible refine RunLN.chk ?_; refine RunLN.int (by (first | (refine wr_i64 ?_ ?_; omega; omega) | rfl)) ?_) | refine RunL.ev Tryz.tOk rfl rfl rfl ?_ | refine RunE.condF rfl rfl ?_ | refine RunE.region ?_ | refine RunL.nil ?_ | refine RunE.inBlock ?_ | refine RunE.skip ?_)
    exact RunE.weaken (by repeat (first | exact Sub.nil _ | refine Sub.cons rfl ?_)) (again2 (k + 1, no) _ (by simp only; omega) ⟨by simp only; omega, X, hF.keep hkeep⟩)
   by_cases h4 : no < 0
   ·repeat' (first | with_reducible refine AsyN.boolT rfl ?_ | (with_reducible refine AsyN.decT ?_ ?_; focus omega) | (with_reducible refine AsyN.eqT ?_ ?_; focus omega) | (with_reducible refine AsyN.chk ?_; refine AsyN.int (by (rfl)) ?_) | refine AsyN.any ?_ | refine Asy.ev Tryz.tOk rfl rfl rfl ?_ | refine Asy.unwantedD rfl rfl rfl ?_ | refine Asy.evV rfl rfl rfl rfl (fun _ X_ => OpV.load1 Tryz.tOk rfl rfl rfl ((hra.up (X.trans (Xd_.trans X_))) _ _ rfl)) ?_ | refine Asy.evV rfl rfl rfl rfl (fun _ X_ => OpV.load1 Tryz.tOk rfl rfl rfl ((hrb.up (X.trans (Xd_.trans X_))) _ _ rfl)) ?_ | refine Asy.evV rfl rfl rfl rfl (fun _ X_ => OpV.indexS Tryz.tOk _ rfl rfl rfl rfl (by omega)) ?_)
    refine Asy.end_ (by kernel_rfl) ?_
    intro we_ Xe_
    replace X := X.trans (Xd_.trans Xe_)
    clear Xd_ Xe_
    repeat' (first | (with_reducible refine RunLN.chk ?_; refine RunLN.int (by (first | (refine wr_i64 ?_ ?_; omega; omega) | rfl)) ?_) | refine RunLN.any ?_ | refine RunL.ev Tryz.tOk rfl rfl rfl ?_ | refine RunL.evV rfl rfl rfl (OpV.load1 Tryz.tOk rfl rfl rfl ((hra.up X) _ _ rfl)) ?_ | refine RunL.evV rfl rfl rfl (OpV.indexS Tryz.tOk _ rfl rfl rfl rfl (by omega)) ?_ | refine RunE.condT rfl rfl ?_ | refine RunE.region ?_ | refine RunL.nil ?_ | refine RunE.inBlock ?_)
    exact RunE.weaken (by repeat (first | exact Sub.nil _ | refine Sub.cons rfl ?_)) (again2 (k + 1, a.d.no) _ (by simp only; omega) ⟨by simp only; omega, X, hF.set hkl ⟨a, b, ha, hb, h1, h2, rfl, h3.symm⟩ (hno a (List.mem_of_getElem? ha)).1 (by omega)⟩)
   by_cases h5 : a.d.no < no
   ·repeat' (first | with_reducible refine AsyN.boolT rfl ?_ | with_reducible refine AsyN.boolF rfl ?_ | (with_reducible refine AsyN.decT ?_ ?_; focus omega) | (with_reducible refine AsyN.decF ?_ ?_; focus omega) | (with_reducible refine AsyN.eqT ?_ ?_; focus omega) | (with_reducible refine AsyN.chk ?_; refine AsyN.int (by (rfl)) ?_) | refine AsyN.any ?_ | refine Asy.ev Tryz.tOk rfl rfl rfl ?_ | refine Asy.evV rfl rfl rfl rfl (fun _ X_ => OpV.load1 Tryz.tOk rfl rfl rfl ((hra.up (X.trans (Xd_.trans X_))) _ _ rfl)) ?_ | refine Asy.evV rfl rfl rfl rfl (fun _ X_ => OpV.load1 Tryz.tOk rfl rfl rfl ((hrb.up (X.trans (Xd_.trans X_))) _ _ rfl)) ?_ | refine Asy.evV rfl rfl rfl rfl (fun _ X_ => OpV.indexS Tryz.tOk _ rfl rfl rfl rfl (by omega)) ?_)
    refine Asy.end_ (by kernel_rfl) ?_
    intro we_ Xe_
    replace X := X.trans (Xd_.trans Xe_)
    clear Xd_ Xe_
    repeat' (first | (with_reducible refine RunLN.chk ?_; refine RunLN.int (by (first | (refine wr_i64 ?_ ?_; omega; omega) | rfl)) ?_) | refine RunLN.any ?_ | refine RunL.ev Tryz.tOk rfl rfl rfl ?_ | refine RunL.evV rfl rfl rfl (OpV.load1 Tryz.tOk rfl rfl rfl ((hra.up X) _ _ rfl)) ?_ | refine RunL.evV rfl rfl rfl (OpV.indexS Tryz.tOk _ rfl rfl rfl rfl (by omega)) ?_ | refine RunE.condT rfl rfl ?_ | refine RunE.region ?_ | refine RunL.nil ?_ | refine RunE.inBlock ?_)
    exact RunE.weaken (by repeat (first | exact Sub.nil _ | refine Sub.cons rfl ?_)) (again2 (k + 1, a.d.no) _ (by simp only; omega) ⟨by simp only; omega, X, hF.set hkl ⟨a, b, ha, hb, h1, h2, rfl, h3.symm⟩ (hno a (List.mem_of_getElem? ha)).1 (by omega)⟩)
   ·have hkeep : ∀ n, PairAt l p i k n → 0 ≤ no ∧ no ≤ n := fun n ⟨a', b', ha', _, _, _, h, _⟩ => by
     rw [ha] at ha'; cases ha'; omega
    repeat' (first | with_reducible refine AsyN.boolT rfl ?_ | with_reducible refine AsyN.boolF rfl ?_ | (with_reducible refine AsyN.decF ?_ ?_; focus omega) | (with_reducible refine AsyN.eqT ?_ ?_; focus omega) | (with_reducible refine AsyN.chk ?_; refine AsyN.int (by (rfl)) ?_) | refine AsyN.any ?_ | refine Asy.ev Tryz.tOk rfl rfl rfl ?_ | refine Asy.evV rfl rfl rfl rfl (fun _ X_ => OpV.load1 Tryz.tOk rfl rfl rfl ((hra.up (X.trans (Xd_.trans X_))) _ _ rfl)) ?_ | refine Asy.evV rfl rfl rfl rfl (fun _ X_ => OpV.load1 Tryz.tOk rfl rfl rfl ((hrb.up (X.trans (Xd_.trans X_))) _ _ rfl)) ?_ | refine Asy.evV rfl rfl rfl rfl (fun _ X_ => OpV.indexS Tryz.tOk _ rfl rfl rfl rfl (by omega)) ?_)
    refine Asy.end_ (by kernel_rfl) ?_
    intro we_ Xe_
    replace X := X.trans (Xd_.trans Xe_)
    clear Xd_ Xe_
    repeat' (first | (with_reducible refine RunLN.chk ?_; refine RunLN.int (by (first | (refine wr_i64 ?_ ?_; omega; omega) | rfl)) ?_) | refine RunL.ev Tryz.tOk rfl rfl rfl ?_ | refine RunE.condF rfl rfl ?_ | refine RunE.region ?_ | refine RunL.nil ?_ | refine RunE.inBlock ?_ | refine RunE.skip ?_)
    exact RunE.weaken (by repeat (first | exact Sub.nil _ | refine Sub.cons rfl ?_)) (again2 (k + 1, no) _ (by simp only; omega) ⟨by simp only; omega, X, hF.keep hkeep⟩)
  ·obtain rfl : k = i := by omega
   clear again2
   repeat' (first | (with_reducible refine RunLN.decF ?_ ?_; focus omega) | (with_reducible refine RunLN.chk ?_; refine RunLN.int (by (first | (refine wr_i64 ?_ ?_; omega; omega) | rfl)) ?_) | refine RunL.ev Tryz.tOk rfl rfl rfl ?_ | refine RunE.condF rfl rfl ?_ | refine RunE.seq ?_ | refine RunE.region ?_ | refine RunL.nil ?_ | refine RunE.inBlock ?_ | refine RunE.exit rfl ?_)
   exact RunE.weaken (by repeat (first | exact Sub.nil _ | refine Sub.cons rfl ?_)) (again (k + 1, no) _ (by simp only; omega) ⟨by simp only; omega, X, hF.next⟩)
 ·obtain rfl : i = l.length := by omega
  have he := hF.fin hno
  subst he
  clear again
  repeat' (first | (with_reducible refine RunLN.decF ?_ ?_; focus omega) | (with_reducible refine RunLN.chk ?_; refine RunLN.int (by (rfl)) ?_) | refine RunLN.any ?_ | refine RunL.ev Tryz.tOk rfl rfl rfl ?_ | refine RunL.evV rfl rfl rfl (OpV.lenSl Tryz.tOk rfl rfl hv) ?_ | refine RunE.condF rfl rfl ?_ | refine RunE.seq ?_ | refine RunE.region ?_ | refine RunL.nil ?_ | refine RunE.exit rfl ?_)
  exact RunE.retFn Tryz.func45 (.tmp rfl .nil) ⟨rfl, X⟩
theorem take_filter {α : Type} (q : α → Bool) {l : List α} {i : Nat} {x : α} (h : l[i]? = some x) : (l.take (i + 1)).filter q = if q x then (l.take i).filter q ++ [x] else (l.take i).filter q := by
 rw [List.take_add_one, h, List.filter_append]
 cases hq : q x <;> simp [hq]
end Go.Sg
end
section
/- Merge: the reference: what it sorts, and its pass (plain). -/
set_option maxRecDepth 4000
namespace Go.Mer
open Go.Rn Go.Rec Go.Dee Go.RowKit Go.Sha
def insR (out : List Dr) (x : Dr) : List Dr := out.takeWhile (fun y => befD y.d x.d) ++ x :: out.dropWhile (fun y => befD y.d x.d)
def sortR (l : List Dr) : List Dr := l.foldl insR []
theorem forkN_cases (l : List Dr) (p : Int) : (forkL Dr.d l p = none ∧ forkN l p = -1) ∨ ∃ n : Nat, forkL Dr.d l p = some n ∧ forkN l p = (n : Int) := by
 unfold forkN
 cases forkL Dr.d l p with
 | none => exact .inl ⟨rfl, rfl⟩
 | some n => exact .inr ⟨n, rfl, rfl⟩
end Go.Mer
end
section
/- Merge: the reference: sorted, id. -/
set_option maxRecDepth 4000
namespace Go.Sg
open Go.Rn Go.Proofs Go.Dee Go.Mer Go.Rec Go.RowKit Go.Sha Go.Cod Go.NT
attribute [local irreducible] leftL keysD fineD thereL Go.Rn.RetsX Go.Rn.RunLN Go.Rn.AsyN Go.Rn.RunL Go.Rn.RunE Go.Rn.Asy Go.Rn.OpV Go.Rn.OpE Go.Rn.ExecE
end Go.Sg
end
section
/- Merge: the reference: Rests. -/
set_option maxRecDepth 4000
namespace Go.Sg
open Go.Rn Go.Proofs Go.Dee Go.Mer Go.Rec Go.RowKit Go.Sha Go.Cod Go.NT
attribute [local irreducible] idG idD befD formedD leftL keysD fineD thereL Go.Rn.RetsX Go.Rn.RunLN Go.Rn.AsyN Go.Rn.RunL Go.Rn.RunE Go.Rn.Asy Go.Rn.OpV Go.Rn.OpE Go.Rn.ExecE
end Go.Sg
end
section
/- Merge: the reference: Merge. -/
set_option maxRecDepth 4000
namespace Go.Mer
open Go.Rn Go.Rec Go.Dee Go.RowKit Go.Sg Go.NT
theorem left_no {ks : List Int} {L : List Dr} {y : Dr} (h : y ∈ leftL Dr.d ks L) : 0 ≤ y.d.no ∧ y.d.no < 4096 := by
 obtain ⟨⟨-, -, o0, o1, -⟩, -⟩ := formedD_inv (fineD_inv (leftR_fine h)).1
 exact ⟨o0, o1⟩
end Go.Mer
namespace Go.Sg
open Go.Rn Go.Proofs Go.Dee Go.Mer Go.Rec Go.RowKit Go.Sha Go.Cod Go.NT
attribute [local irreducible] restsD idG idD befD formedD leftL takenL sortR passL stepD keysD fineD thereL chkM mergeD Go.Rn.RetsX Go.Rn.RunLN Go.Rn.AsyN Go.Rn.RunL Go.Rn.RunE Go.Rn.Asy Go.Rn.OpV Go.Rn.OpE Go.Rn.ExecE
end Go.Sg
end
section
/- Merge: the reference: fork, Liars, Proves, SameForks, Few. -/
set_option maxRecDepth 4000
namespace Go.Sg
open Go.Rn Go.Proofs Go.Dee Go.Mer Go.Rec Go.RowKit Go.Sha Go.Cod Go.NT
attribute [local irreducible] restsD idG idD befD formedD leftL takenL sortR passL stepD keysD fineD thereL chkM mergeD Go.Rn.RetsX Go.Rn.RunLN Go.Rn.AsyN Go.Rn.RunL Go.Rn.RunE Go.Rn.Asy Go.Rn.OpV Go.Rn.OpE Go.Rn.ExecE
set_option maxRecDepth 8000 in
set_option maxHeartbeats 8000000 in
theorem rfork_ok (l : List Dr) (v : Value) (p n : Int) (w : World) (hv : LDr w v l) (hl : l.length ≤ 4096) (h2 : 2 ≤ (grpD l (p, n)).length) :
  Rets Tryz.prog 46 [v, .int .i64 p, .int .i64 n] w fun r w' => r = .agg (Fr.cells ⟨(grpD l (p, n)).getD 0 zeroR, (grpD l (p, n)).getD 1 zeroR⟩).toArray ∧ Ext w w' := by
 have eg : ∀ k, (l.take k).filter (fun y => decide (y.d.person = p ∧ y.d.no = n)) = grpD (l.take k) (p, n) := fun k => rfl
 refine RetsX.of (nt := 46) Tryz.func46 (by kernel_rfl) rfl rfl (by simp) (by simp only [argEnv]; rfl) ?_
 have X := ExtB.refl (fun _ => False) w
 repeat' (first | refine RunE.seq ?_ | refine RunE.region ?_)
 refine RunL.alloc Tryz.tOk rfl rfl rfl fun B6 w6_ a_ => ?_
 have Z6 : Blk w6_ B6 (Fr.cells ⟨zeroR, zeroR⟩) 40 := a_.at_
 have gB6 := a_.ge X
 replace X := X.trans a_.ext
 clear a_
 repeat' (first | refine RunE.seq ?_ | refine RunE.region ?_ | refine RunL.nil ?_)
 refine RunL.ex rfl rfl rfl (OpE.build00 Tryz.tOk 26 38 rfl rfl rfl) ?_
 rintro _ w1 ⟨⟨B0, rfl⟩, hO, Xa_⟩
 have hz := Xa_.size
 have lB6 := Z6.lt
 replace Z6 := Z6.up Xa_
 replace X := X.trans Xa_
 generalize hbs : w6_.heap.size = base at hO hz lB6
 clear Xa_ hbs
 have hbw : w.heap.size ≤ B6 := gB6
 repeat' (first | (with_reducible refine RunLN.chk ?_; refine RunLN.int (by (rfl)) ?_) | refine RunLN.any ?_ | refine RunL.ev Tryz.tOk rfl rfl rfl ?_ | refine RunE.seq ?_ | refine RunE.region ?_ | refine RunL.nil ?_ | refine RunE.block ?_)
 refine RunE.loop (ι := Nat × Value) (fun s => [(0, v), (1, .int .i64 p), (2, .int .i64 n), (6, .pointer (some ⟨B6, 0, none⟩)), (7, s.2), (8, .int .i64 (s.1 : Int))])
  (fun s w' => s.1 ≤ l.length ∧ Ext w w' ∧ base ≤ w'.heap.size ∧ Blk w' B6 (Fr.cells ⟨zeroR, zeroR⟩) 40 ∧ w'.ownsRow base 38 39 s.2 (grpD (l.take s.1) (p, n)).length (flat Dr.cells (grpD (l.take s.1) (p, n)))) (fun s => l.length - s.1) (0, _) (by repeat (first | exact Sub.nil _ | refine Sub.cons rfl ?_)) ⟨Nat.zero_le _, X, hz, Z6, by rw [List.take_zero]; exact hO⟩ ?_
 clear X hO Z6 hz
 rintro ⟨i, u⟩ w3 ⟨hi, X, hz, Z6, hO⟩ again
 simp only at hi hO again ⊢
 by_cases hlt : i < l.length
 ·obtain ⟨b1, o1, c1, rfl, hr1, -⟩ := isL_held hv hlt
  obtain ⟨x, hx⟩ : ∃ x, l[i]? = some x := ⟨_, List.getElem?_eq_getElem hlt⟩
  have hrx := flat_row encR hr1 hx
  have htf := take_filter (fun y : Dr => decide (y.d.person = p ∧ y.d.no = n)) hx
  rw [eg, eg] at htf
  have hfl : (grpD (l.take i) (p, n)).length ≤ 4096 := by
   have : (grpD (l.take i) (p, n)).length ≤ (l.take i).length := List.length_filter_le _ _
   rw [List.length_take] at this; omega
  have next := fun u' w' a b c d => again (i + 1, u') w' (by simp only; omega) ⟨by simp only; omega, a, b, c, d⟩
  simp only [htf] at next
  clear again htf h2
  generalize grpD (l.take i) (p, n) = out at hO hfl next
  by_cases h1 : x.d.person = p
  rotate_left
  ·rw [if_neg (by simp [h1])] at next
   repeat' (first | with_reducible refine RunLN.boolF rfl ?_ | (with_reducible refine RunLN.decT ?_ ?_; focus omega) | (with_reducible refine RunLN.eqF ?_ ?_; focus omega) | (with_reducible refine RunLN.chk ?_; refine RunLN.int (by (first | (refine wr_i64 ?_ ?_; omega; omega) | rfl)) ?_) | refine RunLN.any ?_ | refine RunL.ev Tryz.tOk rfl rfl rfl ?_ | refine RunL.unwantedD rfl rfl ?_ | refine RunL.evV rfl rfl rfl (OpV.load1 Tryz.tOk rfl rfl rfl ((hrx.up X) _ _ rfl)) ?_ | refine RunL.evV rfl rfl rfl (OpV.indexS Tryz.tOk _ rfl rfl rfl rfl (by omega)) ?_ | refine RunE.condT rfl rfl ?_ | refine RunE.condF rfl rfl ?_ | refine RunE.seq ?_ | refine RunE.region ?_ | refine RunL.nil ?_ | refine RunE.block ?_ | refine RunE.inBlock ?_ | refine RunE.skip ?_)
   exact RunE.weaken (by repeat (first | exact Sub.nil _ | refine Sub.cons rfl ?_)) (next _ _ X hz Z6 hO)
  by_cases h3 : x.d.no = n
  rotate_left
  ·rw [if_neg (by simp [h3])] at next
   repeat' (first | with_reducible refine RunLN.boolT rfl ?_ | with_reducible refine RunLN.boolF rfl ?_ | (with_reducible refine RunLN.decT ?_ ?_; focus omega) | (with_reducible refine RunLN.eqT ?_ ?_; focus omega) | (with_reducible refine RunLN.eqF ?_ ?_; focus omega) | (with_reducible refine RunLN.chk ?_; refine RunLN.int (by (first | (refine wr_i64 ?_ ?_; omega; omega) | rfl)) ?_) | refine RunLN.any ?_ | refine RunL.ev Tryz.tOk rfl rfl rfl ?_ | refine RunL.evV rfl rfl rfl (OpV.load1 Tryz.tOk rfl rfl rfl ((hrx.up X) _ _ rfl)) ?_ | refine RunL.evV rfl rfl rfl (OpV.indexS Tryz.tOk _ rfl rfl rfl rfl (by omega)) ?_ | refine RunE.condT rfl rfl ?_ | refine RunE.condF rfl rfl ?_ | refine RunE.seq ?_ | refine RunE.region ?_ | refine RunL.nil ?_ | refine RunE.block ?_ | refine RunE.inBlock ?_ | refine RunE.skip ?_)
   exact RunE.weaken (by repeat (first | exact Sub.nil _ | refine Sub.cons rfl ?_)) (next _ _ X hz Z6 hO)
  rw [if_pos (by simp [h1, h3])] at next
  repeat' (first | with_reducible refine RunLN.boolT rfl ?_ | (with_reducible refine RunLN.decT ?_ ?_; focus omega) | (with_reducible refine RunLN.eqT ?_ ?_; focus omega) | (with_reducible refine RunLN.chk ?_; refine RunLN.int (by (rfl)) ?_) | refine RunLN.any ?_ | refine RunL.ev Tryz.tOk rfl rfl rfl ?_ | refine RunL.evV rfl rfl rfl (OpV.load1 Tryz.tOk rfl rfl rfl ((hrx.up X) _ _ rfl)) ?_ | refine RunL.evV rfl rfl rfl (OpV.loadN Tryz.tOk rfl rfl rfl rfl (hrx.up X)) ?_ | refine RunL.evV rfl rfl rfl (OpV.indexS Tryz.tOk _ rfl rfl rfl rfl (by omega)) ?_ | refine RunE.condT rfl rfl ?_ | refine RunE.seq ?_ | refine RunE.region ?_ | refine RunL.nil ?_ | refine RunE.block ?_ | refine RunE.skip ?_)
  refine RunL.ex rfl rfl rfl (OpE.buildN encR Tryz.tOk [x] rfl rfl rfl rfl rfl rfl) ?_
  rintro _ w6 ⟨⟨B15, rfl, l15⟩, hx1, Xa_⟩
  replace X := X.trans Xa_
  replace hO := World.ownsRow.up hO Xa_
  replace Z6 := Z6.up Xa_
  have hs6 : base ≤ w6.heap.size := Nat.le_trans hz Xa_.size
  clear Xa_
  skip
  refine RunL.ex rfl rfl rfl (OpE.append' Tryz.tOk rfl rfl rfl rfl rfl rfl hO hx1 (flat_plain encR [x]) (by show _ * 120 ≤ _; simp only [List.length_singleton]; omega) (by simp only [List.length_singleton]; omega) hs6) ?_
  rintro u' w8 ⟨O8, E8, -⟩
  have X8 : Ext w w8 := X.write E8 (by intro k hk hlt; have := ownsRow_ge hO hk; omega)
  replace Z6 := Z6.ext E8 (fun h => by have := ownsRow_ge hO h; omega)
  have hs8 : base ≤ w8.heap.size := Nat.le_trans hs6 E8.size
  repeat' (first | (with_reducible refine RunLN.chk ?_; refine RunLN.int (by (first | (refine wr_i64 ?_ ?_; omega; omega) | rfl)) ?_) | refine RunLN.any ?_ | refine RunL.ev Tryz.tOk rfl rfl rfl ?_ | refine RunE.region ?_ | refine RunL.nil ?_ | refine RunE.inBlock ?_)
  exact RunE.weaken (by repeat (first | exact Sub.nil _ | refine Sub.cons rfl ?_)) (next _ _ X8 hs8 Z6 (by rw [List.length_append, flat_append]; exact O8))
 ·obtain rfl : i = l.length := by omega
  rw [List.take_length] at hO
  clear again
  have ha : (grpD l (p, n))[0]? = some ((grpD l (p, n)).getD 0 zeroR) := getD_of (by omega) zeroR
  have hb : (grpD l (p, n))[1]? = some ((grpD l (p, n)).getD 1 zeroR) := getD_of (by omega) zeroR
  obtain ⟨b2, o2, c2, rfl, hr2, -⟩ := isL_held (isSl_own hO) (show 0 < (grpD l (p, n)).length by omega)
  have hra := flat_row encR hr2 ha
  have hrb := flat_row encR hr2 hb
  generalize (grpD l (p, n)).getD 0 zeroR = fa at ha hra ⊢
  generalize (grpD l (p, n)).getD 1 zeroR = fb at hb hrb ⊢
  generalize grpD l (p, n) = g2 at *
  repeat' (first | (with_reducible refine RunLN.decF ?_ ?_; focus omega) | (with_reducible refine RunLN.chk ?_; refine RunLN.int (by (rfl)) ?_) | refine RunLN.any ?_ | refine RunL.ev Tryz.tOk rfl rfl rfl ?_ | refine RunL.evV rfl rfl rfl (OpV.lenSl Tryz.tOk rfl rfl hv) ?_ | refine RunE.condF rfl rfl ?_ | refine RunE.seq ?_ | refine RunE.region ?_ | refine RunL.nil ?_ | refine RunE.exit rfl ?_)
  refine RunE.draw (fun _ => False) mix ?_
  intro wd_ Xd_
  repeat' (first | refine AsyN.any ?_ | refine Asy.ev Tryz.tOk rfl rfl ((build_fork fa fb rfl rfl)) ?_ | refine Asy.ev Tryz.tOk rfl rfl rfl ?_ | refine Asy.evV rfl rfl rfl rfl (fun _ X_ => OpV.indexS Tryz.tOk 0 rfl rfl rfl (by first | rfl | omega) (by omega)) ?_ | refine Asy.evV rfl rfl rfl rfl (fun _ X_ => OpV.indexS Tryz.tOk 1 rfl rfl rfl (by first | rfl | omega) (by omega)) ?_ | refine Asy.evV rfl rfl rfl rfl (fun _ X_ => OpV.loadN Tryz.tOk rfl rfl rfl rfl (hra.up (Xd_.trans X_))) ?_ | refine Asy.evV rfl rfl rfl rfl (fun _ X_ => OpV.loadN Tryz.tOk rfl rfl rfl rfl (hrb.up (Xd_.trans X_))) ?_)
  refine Asy.tail (by kernel_rfl) ?_
  intro we_ Xe_
  simp only [satsAll]
  replace X := X.trans (Xd_.trans Xe_)
  replace Z6 := Z6.up (Xd_.trans Xe_)
  clear Xd_ Xe_
  refine RunL.storeW (vs := Fr.cells ⟨fa, fb⟩) Tryz.tOk rfl rfl rfl rfl rfl Z6 rfl rfl fun w_ t_ => ?_
  replace X := X.own t_.ext gB6
  have Z6 : Blk w_ B6 (Fr.cells ⟨fa, fb⟩) 40 := t_.at_
  repeat' (first | refine RunL.nil ?_)
  exact RunE.retFn Tryz.func46 (.cell rfl (.agg Tryz.tOk rfl rfl rfl Z6.row) .nil) ⟨rfl, X⟩
end Go.Sg
end
section
/- Merge: the reference: Liars, Proves, SameForks, Few. -/
set_option maxRecDepth 4000
namespace Go.Mer
open Go.Rn Go.Rec Go.Dee Go.RowKit Go.Sg Go.NT
theorem forkTo_len (out : List Dr) (n : Nat) : (forkTo out n).length ≤ n := by
 unfold forkTo
 refine Nat.le_trans (List.length_filterMap_le _ _) ?_
 simp
end Go.Mer
namespace Go.Sg
open Go.Rn Go.Proofs Go.Dee Go.Mer Go.Rec Go.RowKit Go.Sha Go.Cod Go.NT
attribute [local irreducible] forkN restsD idG idD befD formedD leftL takenL sortR passL stepD keysD fineD thereL chkM mergeD liarsL Go.Rn.RetsX Go.Rn.RunLN Go.Rn.AsyN Go.Rn.RunL Go.Rn.RunE Go.Rn.Asy Go.Rn.OpV Go.Rn.OpE Go.Rn.ExecE
set_option maxRecDepth 8000 in
set_option maxHeartbeats 8000000 in
theorem rLiars_ok (ks : List Int) (kv : Value) (ls : List Ll) (lv : Value) (w : World) (hk : LIn w kv ks) (hkl : ks.length < 9223372036854775808) (hki : KsI ks) (hv : LLl w lv ls) (hl : ls.length < 9223372036854775808)
  (hp : ∀ x ∈ ls, LDr w x.v x.l) (hd : ∀ x ∈ allD ls, WfX w x) (hn : lenD ls < 9223372036854775808) :
  Rets Tryz.prog 17 [kv, lv] w fun r w' => (∃ u fs, r = .tuple #[u, .int .i64 (chkM ks ls)] ∧ LFr w' u fs ∧ fs.map pairD = (if chkM ks ls = 0 then liarsL id (leftD ks ((allD ls).map Dr.d)) else []) ∧ ∀ x ∈ fs, x.a ∈ allD ls ∧ x.b ∈ allD ls) ∧ Ext w w' := by
 refine RetsX.of (nt := 38) Tryz.func17 (by kernel_rfl) rfl rfl (by simp) (by simp only [argEnv]; rfl) ?_
 have X := ExtB.refl (fun _ => False) w
 repeat' (first | (with_reducible refine RunLN.chk ?_; refine RunLN.int (by (rfl)) ?_) | refine RunLN.any ?_ | refine RunL.ev Tryz.tOk rfl rfl rfl ?_ | refine RunE.seq ?_ | refine RunE.region ?_ | refine RunL.nil ?_)
 refine RunL.call rfl rfl rfl (rError_ok ks kv ls lv _ (hk.up X) hkl (hv.up X) hl hn) ?_
 rintro _ wc ⟨rfl, Xa_⟩
 replace X := X.trans Xa_
 clear Xa_
 by_cases hc : chkM ks ls = 0
 rotate_left
 ·generalize chkM ks ls = ce at hc
  repeat' (first | (with_reducible refine RunLN.neT ?_ ?_; focus omega) | (with_reducible refine RunLN.chk ?_; refine RunLN.int (by (rfl)) ?_) | refine RunLN.any ?_ | refine RunL.ev Tryz.tOk rfl rfl rfl ?_ | refine RunE.condT rfl rfl ?_ | refine RunE.seq ?_ | refine RunE.region ?_ | refine RunL.nil ?_)
  exact RunE.retFn Tryz.func17 (.tmp rfl (.tmp rfl .nil)) ⟨⟨nilV, [], rfl, IsSl.nil, by rw [if_neg hc]; rfl, fun x hx => by cases hx⟩, X⟩
 obtain ⟨hkd, hl64, hn4⟩ := chkM_zero hc
 rw [hc]
 clear hc hn
 repeat' (first | with_reducible refine RunLN.boolF rfl ?_ | (with_reducible refine RunLN.chk ?_; refine RunLN.int (by (rfl)) ?_) | refine RunLN.any ?_ | refine RunL.ev Tryz.tOk rfl rfl rfl ?_ | refine RunE.condF rfl rfl ?_ | refine RunE.seq ?_ | refine RunE.region ?_ | refine RunL.nil ?_ | refine RunE.skip ?_)
 refine RunL.call rfl rfl rfl (rLeft_ok ks kv ls lv _ (hk.up X) hkl hki (hv.up X) hl (fun x hx => (hp x hx).up X) (fun x hx => (hd x hx).up X) hn4) ?_
 rintro r1 w1 ⟨O1, Xa_⟩
 replace X := X.trans Xa_
 clear Xa_
 have hol : (leftL Dr.d ks (allD ls)).length ≤ 4096 := by
  have := leftL_len Dr.d ks (allD ls)
  rw [allD_len] at this; omega
 have hos : ∀ y ∈ leftL Dr.d ks (allD ls), y ∈ allD ls := fun y hy => leftL_sub Dr.d hy
 have hno : ∀ y ∈ leftL Dr.d ks (allD ls), 0 ≤ y.d.no ∧ y.d.no < 4096 := fun y hy => left_no hy
 have hfin := frk_pair (leftL Dr.d ks (allD ls))
 rw [leftL_map] at hfin
 have hL : LDr w1 r1 (leftL Dr.d ks (allD ls)) := isSl_own O1
 generalize leftL Dr.d ks (allD ls) = lf at hL hol hos hno hfin
 have X3 := X
 replace X := ExtB.refl (fun _ => False) w1
 clear O1
 repeat' (first | refine RunLN.any ?_ | refine RunL.ev Tryz.tOk rfl rfl rfl ?_ | refine RunE.seq ?_ | refine RunE.region ?_ | refine RunL.nil ?_)
 refine RunL.ex rfl rfl rfl (OpE.build00 Tryz.tOk 42 40 rfl rfl rfl) ?_
 rintro _ w4 ⟨⟨B0, rfl⟩, hO, Xa_⟩
 replace X := X.trans Xa_
 clear Xa_
 repeat' (first | (with_reducible refine RunLN.chk ?_; refine RunLN.int (by (rfl)) ?_) | refine RunLN.any ?_ | refine RunL.ev Tryz.tOk rfl rfl rfl ?_ | refine RunE.seq ?_ | refine RunE.region ?_ | refine RunL.nil ?_ | refine RunE.block ?_)
 refine RunE.loop (ι := Nat × Value) (fun q => [(7, r1), (8, q.2), (9, .int .i64 (q.1 : Int))])
  (fun q w' => q.1 ≤ 64 ∧ Ext w1 w' ∧ w'.ownsRow w1.heap.size 40 78 q.2 ((forkTo lf q.1).map (frkL lf)).length (flat Fr.cells ((forkTo lf q.1).map (frkL lf)))) (fun q => 64 - q.1) (0, _) (by repeat (first | exact Sub.nil _ | refine Sub.cons rfl ?_)) ⟨Nat.zero_le _, X, hO⟩ ?_
 clear X hO
 rintro ⟨i, u⟩ w5 ⟨hi, X, hO⟩ again
 simp only at hi hO again ⊢
 by_cases hlt : i < 64
 ·have hfl : ((forkTo lf i).map (frkL lf)).length ≤ 64 := by
   rw [List.length_map]
   have := forkTo_len lf i
   omega
  have next := fun u' w' a b => again (i + 1, u') w' (by simp only; omega) ⟨by simp only; omega, a, b⟩
  simp only [forkTo_succ, List.map_append] at next
  clear again
  generalize (forkTo lf i).map (frkL lf) = out at hO hfl next
  have X5 := X
  have cF := fun w' (e : Ext w5 w') => rForked_ok lf r1 (i : Int) w' (hL.up (X5.trans e)) (by omega) hno
  have cK := fun (n : Int) w' (e : Ext w5 w') h => rfork_ok lf r1 (i : Int) n w' (hL.up (X5.trans e)) hol h
  replace X := ExtB.refl (fun _ => False) w5
  rcases forkN_cases lf (i : Int) with ⟨h1, h2⟩ | ⟨n, h1, h2⟩
  ·rw [h1] at next
   simp only [Option.map_none, Option.toList_none, List.map_nil, List.append_nil] at next
   rw [h2] at cF
   repeat' (first | (with_reducible refine RunLN.decT ?_ ?_; focus omega) | (with_reducible refine RunLN.chk ?_; refine RunLN.int (by (rfl)) ?_) | refine RunLN.any ?_ | refine RunL.ev Tryz.tOk rfl rfl rfl ?_ | refine RunE.condT rfl rfl ?_ | refine RunE.seq ?_ | refine RunE.region ?_ | refine RunL.nil ?_ | refine RunE.block ?_ | refine RunE.skip ?_)
   refine RunL.call rfl rfl rfl (cF _ X) ?_
   rintro _ _ ⟨rfl, Xa_⟩
   replace X := X.trans Xa_
   clear Xa_
   repeat' (first | with_reducible refine RunLN.boolF rfl ?_ | (with_reducible refine RunLN.chk ?_; refine RunLN.int (by (first | (refine wr_i64 ?_ ?_; omega; omega) | rfl)) ?_) | refine RunL.ev Tryz.tOk rfl rfl rfl ?_ | refine RunE.condF rfl rfl ?_ | refine RunE.seq ?_ | refine RunE.region ?_ | refine RunL.nil ?_ | refine RunE.inBlock ?_ | refine RunE.skip ?_)
   exact RunE.weaken (by repeat (first | exact Sub.nil _ | refine Sub.cons rfl ?_)) (next _ _ (X5.trans X) (World.ownsRow.up hO X))
  ·rw [h1] at next
   simp only [Option.map_some, Option.toList_some, List.map_cons, List.map_nil] at next
   rw [h2] at cF
   have hg2 := fork_len h1
   have efr : frkL lf (i, n) = ⟨(grpD lf ((i : Int), (n : Int))).getD 0 zeroR, (grpD lf ((i : Int), (n : Int))).getD 1 zeroR⟩ := rfl
   have cK' := fun w' e => cK (n : Int) w' e hg2
   rw [← efr] at cK'
   clear cK efr
   generalize frkL lf (i, n) = fr at next cK'
   repeat' (first | (with_reducible refine RunLN.decT ?_ ?_; focus omega) | (with_reducible refine RunLN.chk ?_; refine RunLN.int (by (rfl)) ?_) | refine RunLN.any ?_ | refine RunL.ev Tryz.tOk rfl rfl rfl ?_ | refine RunE.condT rfl rfl ?_ | refine RunE.seq ?_ | refine RunE.region ?_ | refine RunL.nil ?_ | refine RunE.block ?_ | refine RunE.skip ?_)
   refine RunL.call rfl rfl rfl (cF _ X) ?_
   rintro _ _ ⟨rfl, Xa_⟩
   replace X := X.trans Xa_
   clear Xa_
   repeat' (first | with_reducible refine RunLN.boolT rfl ?_ | (with_reducible refine RunLN.chk ?_; refine RunLN.int (by (rfl)) ?_) | refine RunLN.any ?_ | refine RunL.ev Tryz.tOk rfl rfl rfl ?_ | refine RunE.condT rfl rfl ?_ | refine RunE.seq ?_ | refine RunE.region ?_ | refine RunL.nil ?_)
   refine RunL.call rfl rfl rfl (cK' _ X) ?_
   rintro _ _ ⟨rfl, Xa_⟩
   replace X := X.trans Xa_
   clear Xa_
   skip
   refine RunL.ex rfl rfl rfl (OpE.buildN encF Tryz.tOk [fr] rfl rfl rfl rfl rfl rfl) ?_
   rintro _ w6 ⟨⟨B15, rfl, l15⟩, hx1, Xa_⟩
   replace X := X.trans Xa_
   replace hO := World.ownsRow.up hO X
   have hs6 : w1.heap.size ≤ w6.heap.size := (X5.trans X).size
   clear Xa_
   skip
   refine RunL.ex rfl rfl rfl (OpE.append' Tryz.tOk rfl rfl rfl rfl rfl rfl hO hx1 (flat_plain encF [fr]) (by show _ * 240 ≤ _; simp only [List.length_singleton]; omega) (by simp only [List.length_singleton]; omega) hs6) ?_
   rintro u' w8 ⟨O8, E8, -⟩
   have X8 : Ext w1 w8 := (X5.trans X).write E8 (by intro k hk hlt; have := ownsRow_ge hO hk; omega)
   repeat' (first | (with_reducible refine RunLN.chk ?_; refine RunLN.int (by (first | (refine wr_i64 ?_ ?_; omega; omega) | rfl)) ?_) | refine RunLN.any ?_ | refine RunL.ev Tryz.tOk rfl rfl rfl ?_ | refine RunE.region ?_ | refine RunL.nil ?_ | refine RunE.inBlock ?_)
   exact RunE.weaken (by repeat (first | exact Sub.nil _ | refine Sub.cons rfl ?_)) (next _ _ X8 (by rw [List.length_append, flat_append]; exact O8))
 ·obtain rfl : i = 64 := by omega
  clear again
  have hm : ∀ x ∈ (forkTo lf 64).map (frkL lf), x.a ∈ allD ls ∧ x.b ∈ allD ls := fun x hx => by
   obtain ⟨y, hy, rfl⟩ := List.mem_map.1 hx
   obtain ⟨j, hj⟩ := List.mem_iff_getElem?.1 hy
   have h2 := fork_len (forkTo_mem hj).2
   have hg : ∀ i, i < 2 → (grpD lf ((y.1 : Int), (y.2 : Int))).getD i zeroR ∈ allD ls := fun i hi => by
    rw [List.getD_eq_getElem?_getD, List.getElem?_eq_getElem (by omega)]
    exact hos _ (grp_sub (List.getElem_mem (by omega)))
   exact ⟨hg 0 (by omega), hg 1 (by omega)⟩
  repeat' (first | with_reducible refine RunLN.boolF rfl ?_ | (with_reducible refine RunLN.chk ?_; refine RunLN.int (by (rfl)) ?_) | refine RunLN.any ?_ | refine RunL.ev Tryz.tOk rfl rfl rfl ?_ | refine RunE.condF rfl rfl ?_ | refine RunE.seq ?_ | refine RunE.region ?_ | refine RunL.nil ?_ | refine RunE.exit rfl ?_)
  exact RunE.retFn Tryz.func17 (.tmp rfl (.tmp rfl .nil)) ⟨⟨_, _, rfl, isSl_own hO, by rw [if_pos trivial]; exact hfin, hm⟩, X3.trans X⟩
set_option maxRecDepth 8000 in
set_option maxHeartbeats 8000000 in
theorem rProves_ok (ks : List Int) (kv : Value) (x : Fr) (w : World) (hk : LIn w kv ks) (hkl : ks.length < 9223372036854775808) (hki : KsI ks) (ha : WfX w x.a) (hb : WfX w x.b) :
  Rets Tryz.prog 19 [kv, .agg x.cells.toArray] w fun r w' => r = .tuple #[.bool (provesB ks x.a.d x.b.d), .int .i64 (provesE ks)] ∧ Ext w w' := by
 have cK := fun w h => rkeys_ok ks kv w h hkl
 have cF : ∀ (d : Dr) (w' : World), WfX w d → Ext w w' → Rets Tryz.prog 49 [kv, .agg d.cells.toArray] w' fun r w'' => r = .bool (fineD ks d.d) ∧ Ext w' w'' := fun d w' hw X =>
  rfine_ok ks kv d.d d.u d.v w' (hk.up X) hkl hki hw.1 (hw.2.2.2.seen.up X) (hw.2.2.2.up X).data hw.2.1 hw.2.2.1
 have cS : ∀ (w' : World), Ext w w' → Rets Tryz.prog 26 [.agg x.a.cells.toArray, .agg x.b.cells.toArray] w' fun r w'' => r = .bool (sameF x.a.d x.b.d) ∧ Ext w' w'' := fun w' X =>
  rsameF_ok x.a.d x.b.d x.a.u x.a.v x.b.u x.b.v w' (ha.2.2.2.up X).seen (ha.2.2.2.up X).data (hb.2.2.2.up X).seen (hb.2.2.2.up X).data ha.2.1 hb.2.1
 unfold provesB provesE
 refine RetsX.of (nt := 45) Tryz.func19 (by kernel_rfl) rfl rfl (by simp) (by simp only [argEnv]; rfl) ?_
 have X := ExtB.refl (fun _ => False) w
 repeat' (first | refine RunE.seq ?_ | refine RunE.region ?_)
 refine RunL.box rfl rfl rfl fun B3 w3_ a_ => ?_
 have Z3 : Blk w3_ B3 (x.cells) 40 := a_.at_
 have gB3 := a_.ge X
 replace X := X.trans a_.ext
 clear a_
 repeat' (first | with_reducible refine RunLN.boolF rfl ?_ | (with_reducible refine RunLN.chk ?_; refine RunLN.int (by (rfl)) ?_) | refine RunLN.any ?_ | refine RunL.ev Tryz.tOk rfl rfl rfl ?_ | refine RunE.seq ?_ | refine RunE.region ?_ | refine RunL.nil ?_)
 refine RunL.call rfl rfl rfl (cK _ (hk.up X)) ?_
 rintro _ _ ⟨rfl, Xa_⟩
 replace Z3 := Z3.up Xa_
 replace X := X.trans Xa_
 clear Xa_
 cases hkd : keysD ks with
 | false =>
  repeat' (first | with_reducible refine RunLN.boolT rfl ?_ | with_reducible refine RunLN.boolF rfl ?_ | (with_reducible refine RunLN.chk ?_; refine RunLN.int (by (rfl)) ?_) | refine RunL.ev Tryz.tOk rfl rfl rfl ?_ | refine RunE.condT rfl rfl ?_ | refine RunE.seq ?_ | refine RunE.region ?_ | refine RunL.nil ?_)
  exact RunE.retFn Tryz.func19 (.tmp rfl (.tmp rfl .nil)) ⟨rfl, X⟩
 | true =>
 simp only [Bool.true_and, if_true]
 repeat' (first | with_reducible refine RunLN.boolF rfl ?_ | refine RunLN.any ?_ | refine RunL.ev Tryz.tOk rfl rfl rfl ?_ | refine RunL.evV rfl rfl rfl (OpV.loadN Tryz.tOk rfl rfl rfl rfl (row_fa Z3.row)) ?_ | refine RunE.condF rfl rfl ?_ | refine RunE.seq ?_ | refine RunE.region ?_ | refine RunL.nil ?_ | refine RunE.skip ?_)
 refine RunL.call rfl rfl rfl (cF x.a _ ha X) ?_
 rintro _ _ ⟨rfl, Xa_⟩
 replace Z3 := Z3.up Xa_
 replace X := X.trans Xa_
 clear Xa_
 cases hfa : fineD ks x.a.d with
 | false =>
  repeat' (first | with_reducible refine RunLN.boolF rfl ?_ | (with_reducible refine RunLN.chk ?_; refine RunLN.int (by (rfl)) ?_) | refine RunL.ev Tryz.tOk rfl rfl rfl ?_ | refine RunL.unwantedD rfl rfl ?_ | refine RunL.nil ?_)
  exact RunE.retFn Tryz.func19 (.tmp rfl (.tmp rfl .nil)) ⟨rfl, X⟩
 | true =>
 repeat' (first | with_reducible refine RunLN.boolT rfl ?_ | refine RunLN.any ?_ | refine RunL.ev Tryz.tOk rfl rfl rfl ?_ | refine RunL.evV rfl rfl rfl (OpV.loadN Tryz.tOk rfl rfl rfl rfl (row_fb Z3.row)) ?_)
 refine RunL.call rfl rfl rfl (cF x.b _ hb X) ?_
 rintro _ _ ⟨rfl, Xa_⟩
 replace Z3 := Z3.up Xa_
 replace X := X.trans Xa_
 clear Xa_
 cases hfb : fineD ks x.b.d with
 | false =>
  repeat' (first | with_reducible refine RunLN.boolF rfl ?_ | (with_reducible refine RunLN.chk ?_; refine RunLN.int (by (rfl)) ?_) | refine RunL.ev Tryz.tOk rfl rfl rfl ?_ | refine RunL.unwantedD rfl rfl ?_ | refine RunL.nil ?_)
  exact RunE.retFn Tryz.func19 (.tmp rfl (.tmp rfl .nil)) ⟨rfl, X⟩
 | true =>
 cases hp1 : (x.a.d.person == x.b.d.person) with
 | false =>
  repeat' (first | with_reducible refine RunLN.boolT rfl ?_ | with_reducible refine RunLN.boolF rfl ?_ | refine RunLN.boolF (by assumption) ?_ | (with_reducible refine RunLN.chk ?_; refine RunLN.int (by (rfl)) ?_) | refine RunLN.any ?_ | refine RunL.ev Tryz.tOk rfl rfl rfl ?_ | refine RunL.unwantedD rfl rfl ?_ | refine RunL.evV rfl rfl rfl (OpV.load1 Tryz.tOk rfl rfl rfl (Blk.cell Z3 rfl)) ?_ | refine RunL.nil ?_)
  exact RunE.retFn Tryz.func19 (.tmp rfl (.tmp rfl .nil)) ⟨rfl, X⟩
 | true =>
 cases hp2 : (x.a.d.no == x.b.d.no) with
 | false =>
  repeat' (first | with_reducible refine RunLN.boolT rfl ?_ | with_reducible refine RunLN.boolF rfl ?_ | refine RunLN.boolT (by assumption) ?_ | refine RunLN.boolF (by assumption) ?_ | (with_reducible refine RunLN.chk ?_; refine RunLN.int (by (rfl)) ?_) | refine RunLN.any ?_ | refine RunL.ev Tryz.tOk rfl rfl rfl ?_ | refine RunL.unwantedD rfl rfl ?_ | refine RunL.evV rfl rfl rfl (OpV.load1 Tryz.tOk rfl rfl rfl (Blk.cell Z3 rfl)) ?_ | refine RunL.nil ?_)
  exact RunE.retFn Tryz.func19 (.tmp rfl (.tmp rfl .nil)) ⟨rfl, X⟩
 | true =>
 repeat' (first | with_reducible refine RunLN.boolT rfl ?_ | refine RunLN.boolT (by assumption) ?_ | (with_reducible refine RunLN.chk ?_; refine RunLN.int (by (rfl)) ?_) | refine RunLN.any ?_ | refine RunL.ev Tryz.tOk rfl rfl rfl ?_ | refine RunL.evV rfl rfl rfl (OpV.load1 Tryz.tOk rfl rfl rfl (Blk.cell Z3 rfl)) ?_ | refine RunL.evV rfl rfl rfl (OpV.loadN Tryz.tOk rfl rfl rfl rfl (row_fa Z3.row)) ?_ | refine RunL.evV rfl rfl rfl (OpV.loadN Tryz.tOk rfl rfl rfl rfl (row_fb Z3.row)) ?_)
 refine RunL.call rfl rfl rfl (cS _ X) ?_
 rintro _ _ ⟨rfl, Xa_⟩
 replace X := X.trans Xa_
 clear Xa_
 cases hsm : sameF x.a.d x.b.d
 all_goals
  repeat' (first | with_reducible refine RunLN.boolT rfl ?_ | with_reducible refine RunLN.boolF rfl ?_ | (with_reducible refine RunLN.chk ?_; refine RunLN.int (by (rfl)) ?_) | refine RunL.ev Tryz.tOk rfl rfl rfl ?_ | refine RunL.nil ?_)
  exact RunE.retFn Tryz.func19 (.tmp rfl (.tmp rfl .nil)) ⟨rfl, X⟩
set_option maxRecDepth 8000 in
set_option maxHeartbeats 8000000 in
theorem rSameForks_ok (a b : List Fr) (u v : Value) (w : World) (ha : LFr w u a) (hb : LFr w v b) (hl : a.length < 9223372036854775808) (he : a.map pairD = b.map pairD) (hda : ∀ x ∈ a, WfX w x.a ∧ WfX w x.b) (hdb : ∀ x ∈ b, WfX w x.a ∧ WfX w x.b) :
  Rets Tryz.prog 20 [u, v] w fun r w' => r = .bool true ∧ Ext w w' := by
 have hlen : a.length = b.length := by
  have := congrArg List.length he
  simpa using this
 refine RetsX.of (nt := 43) Tryz.func20 (by kernel_rfl) rfl rfl (by simp) (by simp only [argEnv]; rfl) ?_
 have X := ExtB.refl (fun _ => False) w
 repeat' (first | with_reducible refine RunLN.boolF rfl ?_ | (with_reducible refine RunLN.neF ?_ ?_; focus omega) | (with_reducible refine RunLN.chk ?_; refine RunLN.int (by (rfl)) ?_) | refine RunLN.any ?_ | refine RunL.ev Tryz.tOk rfl rfl rfl ?_ | refine RunL.evV rfl rfl rfl (OpV.lenSl Tryz.tOk rfl rfl ha) ?_ | refine RunL.evV rfl rfl rfl (OpV.lenSl Tryz.tOk rfl rfl hb) ?_ | refine RunE.condF rfl rfl ?_ | refine RunE.seq ?_ | refine RunE.region ?_ | refine RunL.nil ?_ | refine RunE.block ?_ | refine RunE.skip ?_)
 refine RunE.loop (ι := Nat) (fun s => [(0, u), (1, v), (5, .int .i64 (s : Int))])
  (fun s w' => s ≤ a.length ∧ Ext w w') (fun s => a.length - s) 0 (by repeat (first | exact Sub.nil _ | refine Sub.cons rfl ?_)) ⟨Nat.zero_le _, X⟩ ?_
 clear X
 rintro i w3 ⟨hi, X⟩ again
 by_cases hlt : i < a.length
 ·obtain ⟨x, hx⟩ : ∃ x, a[i]? = some x := ⟨_, List.getElem?_eq_getElem hlt⟩
  obtain ⟨y, hy⟩ : ∃ y, b[i]? = some y := ⟨_, List.getElem?_eq_getElem (by omega)⟩
  have hxy : pairD x = pairD y := by
   have := congrArg (·[i]?) he
   simpa [hx, hy] using this
  obtain ⟨h1, h2⟩ := Prod.mk.inj hxy
  obtain ⟨b1, o1, c1, rfl, hr1, -⟩ := isL_held ha hlt
  obtain ⟨b2, o2, c2, rfl, hr2, -⟩ := isL_held hb (show i < b.length by omega)
  have hrx := flat_row encF (hr1.up X) hx
  have hry := flat_row encF (hr2.up X) hy
  obtain ⟨wx1, wx2⟩ := hda x (List.mem_of_getElem? hx)
  obtain ⟨wy1, wy2⟩ := hdb y (List.mem_of_getElem? hy)
  have hX3 := X
  have cA : ∀ w', Ext w3 w' → Rets Tryz.prog 44 [.agg x.a.cells.toArray, .agg y.a.cells.toArray] w' fun r w'' => r = .bool true ∧ Ext w' w'' := fun w' e => by
   have := rsameD_ok x.a.d y.a.d x.a.u x.a.v y.a.u y.a.v w' ((wx1.up (hX3.trans e)).2.2.2.seen) ((wx1.up (hX3.trans e)).2.2.2.data) ((wy1.up (hX3.trans e)).2.2.2.seen) ((wy1.up (hX3.trans e)).2.2.2.data) wx1.2.1 wy1.2.1
   rwa [sameD_iff.2 h1] at this
  have cB : ∀ w', Ext w3 w' → Rets Tryz.prog 44 [.agg x.b.cells.toArray, .agg y.b.cells.toArray] w' fun r w'' => r = .bool true ∧ Ext w' w'' := fun w' e => by
   have := rsameD_ok x.b.d y.b.d x.b.u x.b.v y.b.u y.b.v w' ((wx2.up (hX3.trans e)).2.2.2.seen) ((wx2.up (hX3.trans e)).2.2.2.data) ((wy2.up (hX3.trans e)).2.2.2.seen) ((wy2.up (hX3.trans e)).2.2.2.data) wx2.2.1 wy2.2.1
   rwa [sameD_iff.2 h2] at this
  have X := ExtB.refl (fun _ => False) w3
  repeat' (first | (with_reducible refine RunLN.decT ?_ ?_; focus omega) | (with_reducible refine RunLN.chk ?_; refine RunLN.int (by (rfl)) ?_) | refine RunLN.any ?_ | refine RunL.ev Tryz.tOk rfl rfl rfl ?_ | refine RunE.condT rfl rfl ?_ | refine RunE.seq ?_ | refine RunE.region ?_ | refine RunL.nil ?_ | refine RunE.block ?_ | refine RunE.skip ?_)
  refine RunE.draw (fun _ => False) mix ?_
  intro wd_ Xd_
  repeat' (first | with_reducible refine AsyN.boolT rfl ?_ | with_reducible refine AsyN.boolF rfl ?_ | (with_reducible refine AsyN.chk ?_; refine AsyN.int (by (rfl)) ?_) | refine AsyN.any ?_ | refine Asy.ev Tryz.tOk rfl rfl rfl ?_ | refine Asy.evV rfl rfl rfl rfl (fun _ X_ => OpV.indexS Tryz.tOk i rfl rfl rfl (by first | rfl | omega) (by omega)) ?_ | refine Asy.evV rfl rfl rfl rfl (fun _ X_ => OpV.loadN Tryz.tOk rfl rfl rfl rfl ((row_fa hrx).up (Xd_.trans X_))) ?_ | refine Asy.evV rfl rfl rfl rfl (fun _ X_ => OpV.loadN Tryz.tOk rfl rfl rfl rfl ((row_fa hry).up (Xd_.trans X_))) ?_ | refine Asy.evV rfl rfl rfl rfl (fun _ X_ => OpV.loadN Tryz.tOk rfl rfl rfl rfl ((row_fb hrx).up (Xd_.trans X_))) ?_ | refine Asy.evV rfl rfl rfl rfl (fun _ X_ => OpV.loadN Tryz.tOk rfl rfl rfl rfl ((row_fb hry).up (Xd_.trans X_))) ?_ | refine Asy.callN rfl rfl rfl (fun _ X_ => (cA _ (Xd_.trans X_))) ?_ | refine Asy.callN rfl rfl rfl (fun _ X_ => (cB _ (Xd_.trans X_))) ?_)
  refine Asy.end_ (by kernel_rfl) ?_
  intro we_ Xe_
  replace X := hX3.trans (Xd_.trans Xe_)
  clear Xd_ Xe_
  repeat' (first | (with_reducible refine RunLN.chk ?_; refine RunLN.int (by (first | (refine wr_i64 ?_ ?_; omega; omega) | rfl)) ?_) | refine RunL.ev Tryz.tOk rfl rfl rfl ?_ | refine RunE.condF rfl rfl ?_ | refine RunE.region ?_ | refine RunL.nil ?_ | refine RunE.inBlock ?_ | refine RunE.skip ?_)
  exact RunE.weaken (by repeat (first | exact Sub.nil _ | refine Sub.cons rfl ?_)) (again (i + 1) _ (by omega) ⟨by omega, X⟩)
 ·obtain rfl : i = a.length := by omega
  clear again
  repeat' (first | with_reducible refine RunLN.boolT rfl ?_ | (with_reducible refine RunLN.decF ?_ ?_; focus omega) | (with_reducible refine RunLN.chk ?_; refine RunLN.int (by (rfl)) ?_) | refine RunLN.any ?_ | refine RunL.ev Tryz.tOk rfl rfl rfl ?_ | refine RunL.evV rfl rfl rfl (OpV.lenSl Tryz.tOk rfl rfl ha) ?_ | refine RunE.condF rfl rfl ?_ | refine RunE.seq ?_ | refine RunE.region ?_ | refine RunL.nil ?_ | refine RunE.exit rfl ?_)
  exact RunE.retFn Tryz.func20 (.tmp rfl .nil) ⟨rfl, X⟩
set_option maxRecDepth 8000 in
set_option maxHeartbeats 8000000 in
theorem rFew_ok (ks : List Int) (kv : Value) (ls : List Ll) (lv : Value) (w : World) (hk : LIn w kv ks) (hkl : ks.length < 9223372036854775808) (hv : LLl w lv ls) (hl : ls.length < 9223372036854775808)
  (hp : ∀ x ∈ ls, LDr w x.v x.l) (hd : ∀ x ∈ allD ls, WfX w x) (hn : ls.length ≤ 70 → lenD ls < 9223372036854775808) :
  Rets Tryz.prog 11 [kv, lv] w fun r w' => (∃ b, r = .bool b ∧ (b = true → ls.length ≤ 70 ∧ lenD ls ≤ 4200)) ∧ Ext w w' := by
 have hpl : ∀ x ∈ ls, x.l.length < 9223372036854775808 ∨ 70 < ls.length := fun x hx => by
  by_cases h : ls.length ≤ 70
  ·left
   have h1 := hn h
   have : x.l.length ≤ lenD ls := by
    obtain ⟨i, hi⟩ := List.mem_iff_getElem?.1 hx
    have e1 := lenD_take hi
    have e2 := lenD_le ls (i + 1)
    omega
   omega
  ·right; omega
 refine RetsX.of (nt := 61) Tryz.func11 (by kernel_rfl) rfl rfl (by simp) (by simp only [argEnv]; rfl) ?_
 have X := ExtB.refl (fun _ => False) w
 by_cases h80 : 80 < ks.length
 ·repeat' (first | with_reducible refine RunLN.boolT rfl ?_ | with_reducible refine RunLN.boolF rfl ?_ | (with_reducible refine RunLN.decT ?_ ?_; focus omega) | (with_reducible refine RunLN.chk ?_; refine RunLN.int (by (rfl)) ?_) | refine RunLN.any ?_ | refine RunL.ev Tryz.tOk rfl rfl rfl ?_ | refine RunL.unwantedD rfl rfl ?_ | refine RunL.evV rfl rfl rfl (OpV.lenSl Tryz.tOk rfl rfl hk) ?_ | refine RunE.condT rfl rfl ?_ | refine RunE.seq ?_ | refine RunE.region ?_ | refine RunL.nil ?_)
  exact RunE.retFn Tryz.func11 (.tmp rfl .nil) ⟨⟨_, rfl, fun h => by cases h⟩, X⟩
 by_cases h70 : 70 < ls.length
 ·repeat' (first | with_reducible refine RunLN.boolT rfl ?_ | with_reducible refine RunLN.boolF rfl ?_ | (with_reducible refine RunLN.decT ?_ ?_; focus omega) | (with_reducible refine RunLN.decF ?_ ?_; focus omega) | (with_reducible refine RunLN.chk ?_; refine RunLN.int (by (rfl)) ?_) | refine RunLN.any ?_ | refine RunL.ev Tryz.tOk rfl rfl rfl ?_ | refine RunL.evV rfl rfl rfl (OpV.lenSl Tryz.tOk rfl rfl hk) ?_ | refine RunL.evV rfl rfl rfl (OpV.lenSl Tryz.tOk rfl rfl hv) ?_ | refine RunE.condT rfl rfl ?_ | refine RunE.seq ?_ | refine RunE.region ?_ | refine RunL.nil ?_)
  exact RunE.retFn Tryz.func11 (.tmp rfl .nil) ⟨⟨_, rfl, fun h => by cases h⟩, X⟩
 replace hn := hn (by omega)
 replace hpl : ∀ x ∈ ls, x.l.length < 9223372036854775808 := fun x hx => (hpl x hx).resolve_right h70
 repeat' (first | with_reducible refine RunLN.boolF rfl ?_ | (with_reducible refine RunLN.decF ?_ ?_; focus omega) | (with_reducible refine RunLN.chk ?_; refine RunLN.int (by (rfl)) ?_) | refine RunLN.any ?_ | refine RunL.ev Tryz.tOk rfl rfl rfl ?_ | refine RunL.evV rfl rfl rfl (OpV.lenSl Tryz.tOk rfl rfl hk) ?_ | refine RunL.evV rfl rfl rfl (OpV.lenSl Tryz.tOk rfl rfl hv) ?_ | refine RunE.condF rfl rfl ?_ | refine RunE.seq ?_ | refine RunE.region ?_ | refine RunL.nil ?_ | refine RunE.block ?_ | refine RunE.skip ?_)
 refine RunE.loop (ι := Nat) (fun s => [(1, lv), (5, .int .i64 (lenD (ls.take s) : Int)), (6, .int .i64 (s : Int))])
  (fun s w' => s ≤ ls.length ∧ Ext w w') (fun s => ls.length - s) 0 (by repeat (first | exact Sub.nil _ | refine Sub.cons rfl ?_)) ⟨Nat.zero_le _, X⟩ ?_
 clear X
 rintro i w3 ⟨hi, X⟩ again
 by_cases hlt : i < ls.length
 ·obtain ⟨b1, o1, cc, rfl, hr1, -⟩ := isL_held hv hlt
  obtain ⟨x, hx⟩ : ∃ x, ls[i]? = some x := ⟨_, List.getElem?_eq_getElem hlt⟩
  have hrx := flat_row encLl hr1 hx
  have e2 := lenD_take hx
  have e3 := lenD_le ls (i + 1)
  have next := fun w' a => again (i + 1) w' (by omega) ⟨by omega, a⟩
  have hxm := List.mem_of_getElem? hx
  have hxl := hp x hxm
  have hxn := hpl x hxm
  have hxd : ∀ y ∈ x.l, WfX w y := fun y hy => hd y (List.mem_flatMap.2 ⟨x, hxm, hy⟩)
  rw [e2, Int.natCast_add] at next
  clear again
  generalize lenD (ls.take i) = m at *
  obtain ⟨xl, xu, xc⟩ := x
  simp only at hxl hxn hxd e2 next
  replace hrx : Row w b1 (o1 + i * 1) [.slice xu xl.length xc] := hrx
  replace hxl : LDr w (.slice xu xl.length xc) xl := hxl
  repeat' (first | (with_reducible refine RunLN.decT ?_ ?_; focus omega) | (with_reducible refine RunLN.chk ?_; refine RunLN.int (by (first | (refine wr_i64 ?_ ?_; omega; omega) | rfl)) ?_) | refine RunLN.any ?_ | refine RunL.ev Tryz.tOk rfl rfl rfl ?_ | refine RunL.evV rfl rfl rfl (OpV.load1 Tryz.tOk rfl rfl rfl ((hrx.up X) 0 _ rfl)) ?_ | refine RunL.evV rfl rfl rfl (OpV.indexS Tryz.tOk _ rfl rfl rfl rfl (by omega)) ?_ | refine RunE.condT rfl rfl ?_ | refine RunE.seq ?_ | refine RunE.region ?_ | refine RunL.nil ?_ | refine RunE.block ?_ | refine RunE.skip ?_)
  refine RunE.loop (ι := Nat) (fun s => [(1, .slice (some ⟨b1, o1, none⟩) ls.length cc), (5, .int .i64 ((m : Int) + (xl.length : Int))), (6, .int .i64 (i : Int)), (7, .int .i64 (s : Int))])
   (fun s w' => s ≤ xl.length ∧ Ext w w') (fun s => xl.length - s) 0 (by repeat (first | exact Sub.nil _ | refine Sub.cons rfl ?_)) ⟨Nat.zero_le _, X⟩ ?_
  clear X
  rintro k w4 ⟨hk4, X⟩ again2
  by_cases hke : k < xl.length ∧ k < 50
  ·obtain ⟨h1, h2⟩ := hke
   obtain ⟨b2, o2, c2, e2', hr2, -⟩ := isL_held hxl h1
   obtain ⟨y, hy⟩ : ∃ y, xl[k]? = some y := ⟨_, List.getElem?_eq_getElem h1⟩
   have hry := flat_row encR hr2 hy
   have hwy := hxd y (List.mem_of_getElem? hy)
   injection e2' with e4 _ e5
   subst e4
   subst e5
   have cD := fun w h h' => rfewD_ok y.d y.u y.v w h h'
   repeat' (first | with_reducible refine RunLN.boolT rfl ?_ | (with_reducible refine RunLN.decT ?_ ?_; focus omega) | (with_reducible refine RunLN.chk ?_; refine RunLN.int (by (rfl)) ?_) | refine RunLN.any ?_ | refine RunL.ev Tryz.tOk rfl rfl rfl ?_ | refine RunL.evV rfl rfl rfl (OpV.load1 Tryz.tOk rfl rfl rfl ((hrx.up X) 0 _ rfl)) ?_ | refine RunL.evV rfl rfl rfl (OpV.loadN Tryz.tOk rfl rfl rfl rfl (hry.up X)) ?_ | refine RunL.evV rfl rfl rfl (OpV.indexS Tryz.tOk _ rfl rfl rfl rfl (by omega)) ?_ | refine RunE.condT rfl rfl ?_ | refine RunE.seq ?_ | refine RunE.region ?_ | refine RunL.nil ?_ | refine RunE.block ?_ | refine RunE.skip ?_)
   refine RunL.call rfl rfl rfl (cD _ (hwy.2.2.2.up X).seen (hwy.2.2.2.up X).data) ?_
   rintro _ _ ⟨rfl, Xa_⟩
   replace X := X.trans Xa_
   clear Xa_
   cases fewD y.d with
   | false =>
    repeat' (first | with_reducible refine RunLN.boolT rfl ?_ | with_reducible refine RunLN.boolF rfl ?_ | refine RunL.ev Tryz.tOk rfl rfl rfl ?_ | refine RunE.condT rfl rfl ?_ | refine RunE.seq ?_ | refine RunE.region ?_ | refine RunL.nil ?_)
    exact RunE.retFn Tryz.func11 (.tmp rfl .nil) ⟨⟨_, rfl, fun h => by cases h⟩, X⟩
   | true =>
    repeat' (first | with_reducible refine RunLN.boolF rfl ?_ | (with_reducible refine RunLN.chk ?_; refine RunLN.int (by (first | (refine wr_i64 ?_ ?_; omega; omega) | rfl)) ?_) | refine RunL.ev Tryz.tOk rfl rfl rfl ?_ | refine RunE.condF rfl rfl ?_ | refine RunE.region ?_ | refine RunL.nil ?_ | refine RunE.inBlock ?_ | refine RunE.skip ?_)
    exact RunE.weaken (by repeat (first | exact Sub.nil _ | refine Sub.cons rfl ?_)) (again2 (k + 1) _ (by omega) ⟨by omega, X⟩)
  ·clear again2
   by_cases h1 : k < xl.length
   ·have h2 : ¬ k < 50 := fun h => hke ⟨h1, h⟩
    repeat' (first | with_reducible refine RunLN.boolT rfl ?_ | with_reducible refine RunLN.boolF rfl ?_ | (with_reducible refine RunLN.decT ?_ ?_; focus omega) | (with_reducible refine RunLN.decF ?_ ?_; focus omega) | (with_reducible refine RunLN.chk ?_; refine RunLN.int (by (first | (refine wr_i64 ?_ ?_; omega; omega) | rfl)) ?_) | refine RunLN.any ?_ | refine RunL.ev Tryz.tOk rfl rfl rfl ?_ | refine RunL.evV rfl rfl rfl (OpV.load1 Tryz.tOk rfl rfl rfl ((hrx.up X) 0 _ rfl)) ?_ | refine RunL.evV rfl rfl rfl (OpV.indexS Tryz.tOk _ rfl rfl rfl rfl (by omega)) ?_ | refine RunE.condF rfl rfl ?_ | refine RunE.seq ?_ | refine RunE.region ?_ | refine RunL.nil ?_ | refine RunE.inBlock ?_ | refine RunE.exit rfl ?_)
    exact RunE.weaken (by repeat (first | exact Sub.nil _ | refine Sub.cons rfl ?_)) (next _ X)
   ·repeat' (first | with_reducible refine RunLN.boolF rfl ?_ | (with_reducible refine RunLN.decF ?_ ?_; focus omega) | (with_reducible refine RunLN.chk ?_; refine RunLN.int (by (first | (refine wr_i64 ?_ ?_; omega; omega) | rfl)) ?_) | refine RunLN.any ?_ | refine RunL.ev Tryz.tOk rfl rfl rfl ?_ | refine RunL.unwantedD rfl rfl ?_ | refine RunL.evV rfl rfl rfl (OpV.load1 Tryz.tOk rfl rfl rfl ((hrx.up X) 0 _ rfl)) ?_ | refine RunL.evV rfl rfl rfl (OpV.indexS Tryz.tOk _ rfl rfl rfl rfl (by omega)) ?_ | refine RunE.condF rfl rfl ?_ | refine RunE.seq ?_ | refine RunE.region ?_ | refine RunL.nil ?_ | refine RunE.inBlock ?_ | refine RunE.exit rfl ?_)
    exact RunE.weaken (by repeat (first | exact Sub.nil _ | refine Sub.cons rfl ?_)) (next _ X)
 ·obtain rfl : i = ls.length := by omega
  rw [List.take_length]
  clear again
  by_cases h1 : lenD ls ≤ 40
  ·repeat' (first | with_reducible refine RunLN.boolT rfl ?_ | (with_reducible refine RunLN.decT ?_ ?_; focus omega) | (with_reducible refine RunLN.decF ?_ ?_; focus omega) | (with_reducible refine RunLN.chk ?_; refine RunLN.int (by (rfl)) ?_) | refine RunLN.any ?_ | refine RunL.ev Tryz.tOk rfl rfl rfl ?_ | refine RunL.unwantedD rfl rfl ?_ | refine RunL.evV rfl rfl rfl (OpV.lenSl Tryz.tOk rfl rfl hv) ?_ | refine RunE.condF rfl rfl ?_ | refine RunE.seq ?_ | refine RunE.region ?_ | refine RunL.nil ?_ | refine RunE.exit rfl ?_)
   exact RunE.retFn Tryz.func11 (.tmp rfl .nil) ⟨⟨_, rfl, fun _ => ⟨by omega, by omega⟩⟩, X⟩
  by_cases h2 : 4096 < lenD ls
  rotate_left
  ·repeat' (first | with_reducible refine RunLN.boolF rfl ?_ | (with_reducible refine RunLN.decF ?_ ?_; focus omega) | (with_reducible refine RunLN.chk ?_; refine RunLN.int (by (rfl)) ?_) | refine RunLN.any ?_ | refine RunL.ev Tryz.tOk rfl rfl rfl ?_ | refine RunL.unwantedD rfl rfl ?_ | refine RunL.evV rfl rfl rfl (OpV.lenSl Tryz.tOk rfl rfl hv) ?_ | refine RunE.condF rfl rfl ?_ | refine RunE.seq ?_ | refine RunE.region ?_ | refine RunL.nil ?_ | refine RunE.exit rfl ?_)
   exact RunE.retFn Tryz.func11 (.tmp rfl .nil) ⟨⟨_, rfl, fun h => by cases h⟩, X⟩
  by_cases h3 : lenD ls ≤ 4200
  ·repeat' (first | with_reducible refine RunLN.boolT rfl ?_ | with_reducible refine RunLN.boolF rfl ?_ | (with_reducible refine RunLN.decT ?_ ?_; focus omega) | (with_reducible refine RunLN.decF ?_ ?_; focus omega) | (with_reducible refine RunLN.chk ?_; refine RunLN.int (by (rfl)) ?_) | refine RunLN.any ?_ | refine RunL.ev Tryz.tOk rfl rfl rfl ?_ | refine RunL.evV rfl rfl rfl (OpV.lenSl Tryz.tOk rfl rfl hv) ?_ | refine RunE.condF rfl rfl ?_ | refine RunE.seq ?_ | refine RunE.region ?_ | refine RunL.nil ?_ | refine RunE.exit rfl ?_)
   exact RunE.retFn Tryz.func11 (.tmp rfl .nil) ⟨⟨_, rfl, fun _ => ⟨by omega, h3⟩⟩, X⟩
  ·repeat' (first | with_reducible refine RunLN.boolT rfl ?_ | with_reducible refine RunLN.boolF rfl ?_ | (with_reducible refine RunLN.decT ?_ ?_; focus omega) | (with_reducible refine RunLN.decF ?_ ?_; focus omega) | (with_reducible refine RunLN.chk ?_; refine RunLN.int (by (rfl)) ?_) | refine RunLN.any ?_ | refine RunL.ev Tryz.tOk rfl rfl rfl ?_ | refine RunL.evV rfl rfl rfl (OpV.lenSl Tryz.tOk rfl rfl hv) ?_ | refine RunE.condF rfl rfl ?_ | refine RunE.seq ?_ | refine RunE.region ?_ | refine RunL.nil ?_ | refine RunE.exit rfl ?_)
   exact RunE.retFn Tryz.func11 (.tmp rfl .nil) ⟨⟨_, rfl, fun h => by cases h⟩, X⟩
end Go.Sg
end
section
/- Merge: the examples of the chapter (plain). -/
set_option maxRecDepth 4000
namespace Go.Mer
open Go.Rn Go.RowKit Go.Rec Go.Sha Go.Sg Go.NT Go.Dee
/-- Two keys, a log of three deeds, and another second deed. -/
structure ExM (ks : List Int) (a b c o : Deed) (x y : Dg) : Prop where
 ida : idG a = x ∧ idE a = 0
 idb : idG b = y ∧ idE b = 0
 keys : keysD ks = true
 ki : KsI ks
 kl : ks.length = 2
 all : mergeD ks [b, c, a] = [a, b, c]
 some : mergeD ks [b, c] = []
 both : mergeD ks [a, b, c, o] = [a, b]
 liars : liarsL id (leftD ks [a, b, c, o]) = [(c, o)]
 pr : provesB ks c o = true
 sm : provesB ks o o = false
 sa : a.seen = [] ∧ a.data = [97]
 sb : b.seen = [x] ∧ b.data = [98]
 sc : c.seen = [y] ∧ c.data = [99]
 so : o.seen = [] ∧ o.data = [100]
 wa : WfD a
 wb : WfD b
 wc : WfD c
 wo : WfD o
theorem liars_none {l : List Deed} (h : ∀ p : Nat, forkD l (p : Int) = none) : ∀ ps : List Nat, ps.filterMap (liarAt id l) = [] := fun ps => by
 rw [List.filterMap_eq_nil_iff]
 intro p _
 unfold liarAt
 rw [show forkL id l (p : Int) = none from h p]
theorem exM_gen {ks : List Int} {ea sa eb sb ec sc eo so : Int} (hk : keysD ks = true) (ki : KsI ks) (kl : ks.length = 2) :
  ∀ (a b c o : Deed), a = ⟨0, 0, 10, zeroG, [], [97], ea, sa⟩ → b = ⟨1, 0, 11, zeroG, [idD a], [98], eb, sb⟩ → c = ⟨0, 1, 12, idD a, [idD b], [99], ec, sc⟩ → o = ⟨0, 1, 12, idD a, [], [100], eo, so⟩ →
   fineD ks a = true → fineD ks b = true → fineD ks c = true → fineD ks o = true → WfD a → WfD b → WfD c → WfD o → ExM ks a b c o (idD a) (idD b) := by
 intro a b c o ha hb hc ho fa fb fc fo wa wb wc wo
 have na : formedD a = true := (fineD_inv fa).1
 have nb : formedD b = true := (fineD_inv fb).1
 have pa : a.person = 0 ∧ a.no = 0 ∧ a.at_ = 10 ∧ a.prev = zeroG ∧ a.seen = [] := by rw [ha]; exact ⟨rfl, rfl, rfl, rfl, rfl⟩
 have pb : b.person = 1 ∧ b.no = 0 ∧ b.at_ = 11 ∧ b.prev = zeroG ∧ b.seen = [idD a] := by rw [hb]; exact ⟨rfl, rfl, rfl, rfl, rfl⟩
 have pc : c.person = 0 ∧ c.no = 1 ∧ c.at_ = 12 ∧ c.prev = idD a ∧ c.seen = [idD b] := by rw [hc]; exact ⟨rfl, rfl, rfl, rfl, rfl⟩
 have po : o.person = 0 ∧ o.no = 1 ∧ o.at_ = 12 ∧ o.prev = idD a ∧ o.seen = [] := by rw [ho]; exact ⟨rfl, rfl, rfl, rfl, rfl⟩
 have la : a.seen = [] ∧ a.data = [97] := by rw [ha]; exact ⟨rfl, rfl⟩
 have lb : b.seen = [idD a] ∧ b.data = [98] := by rw [hb]; exact ⟨rfl, rfl⟩
 have lc : c.seen = [idD b] ∧ c.data = [99] := by rw [hc]; exact ⟨rfl, rfl⟩
 have lo : o.seen = [] ∧ o.data = [100] := by rw [ho]; exact ⟨rfl, rfl⟩
 clear ha hb hc ho
 obtain ⟨a1, a2, a3, a4, a5⟩ := pa
 obtain ⟨b1, b2, b3, b4, b5⟩ := pb
 obtain ⟨c1, c2, c3, c4, c5⟩ := pc
 obtain ⟨o1, o2, o3, o4, o5⟩ := po
 have s1 : stepD ks [] a = true := by
  refine stepD_of fa ?_ ?_ rfl ?_
  ·rw [a2]; rfl
  ·rw [a4]; rfl
  ·intro x hx; rw [a5] at hx; simp at hx
 have ob : ofD [a] b.person = [] := by unfold ofD; simp [a1, b1]
 have s2 : stepD ks [a] b = true := by
  refine stepD_of fb ?_ ?_ ?_ ?_
  ·unfold nextD; rw [ob, b2]; rfl
  ·unfold lastD; rw [ob, b4]; rfl
  ·unfold afterD; simp [befD, a3, b3]
  ·intro x hx
   have : x = idD a := by rw [b5] at hx; simpa using hx
   subst this
   unfold metD
   simp [a1, b1]
 have oc : ofD [a, b] c.person = [a] := by unfold ofD; simp [a1, b1, c1]
 have s3 : stepD ks [a, b] c = true := by
  refine stepD_of fc ?_ ?_ ?_ ?_
  ·unfold nextD; rw [oc, c2]; rfl
  ·unfold lastD; rw [oc, c4]; rfl
  ·unfold afterD; simp [befD, b3, c3]
  ·intro x hx
   have : x = idD b := by rw [c5] at hx; simpa using hx
   subst this
   unfold metD
   simp [b1, c1]
 have hlog := log_cons3 s1 s2 s3
 have hco : sameF c o = false := by
  unfold sameF; rw [c5, o5]; simp
 have d1 : ∀ p n : Int, atL id [a, b, c, o] p n = (if p = 0 ∧ n = 0 then [a] else if p = 0 ∧ n = 1 then [c, o] else if p = 1 ∧ n = 0 then [b] else []) := fun p n => by
  unfold atL
  have ea : decide ((id a).person = p ∧ (id a).no = n) = decide (p = 0 ∧ n = 0) := by simp only [id, a1, a2, eq_comm]
  have eb : decide ((id b).person = p ∧ (id b).no = n) = decide (p = 1 ∧ n = 0) := by simp only [id, b1, b2, eq_comm]
  have ec : decide ((id c).person = p ∧ (id c).no = n) = decide (p = 0 ∧ n = 1) := by simp only [id, c1, c2, eq_comm]
  have eo : decide ((id o).person = p ∧ (id o).no = n) = decide (p = 0 ∧ n = 1) := by simp only [id, o1, o2, eq_comm]
  rw [List.filter_cons, List.filter_cons, List.filter_cons, List.filter_cons, ea, eb, ec, eo, List.filter_nil]
  by_cases h0 : p = 0
  ·subst h0
   by_cases h1 : n = 0
   ·subst h1; rfl
   ·by_cases h2 : n = 1
    ·subst h2; rfl
    ·simp [h1, h2]
  ·by_cases h3 : p = 1
   ·subst h3
    by_cases h1 : n = 0
    ·subst h1; rfl
    ·simp [h1]
   ·simp [h0, h3]
 have f0 : forkD [a, b, c, o] 0 = some 1 := by
  refine forkD_of (by decide) ?_ ?_
  ·rw [d1]; exact Nat.le_refl 2
  ·intro m hm
   obtain rfl : m = 0 := by omega
   rw [d1]; exact Nat.lt_succ_self 1
 have f1 : ∀ p : Int, p ≠ 0 → forkD [a, b, c, o] p = none := fun p hp => by
  cases e : forkD [a, b, c, o] p with
  | none => rfl
  | some n =>
   have := (forkD_some e).2.1
   rw [d1, if_neg (fun h => hp h.1), if_neg (fun h => hp h.1)] at this
   split at this <;> simp at this
 have hleft : leftD ks [a, b, c, o] = [a, b, c, o] := by
  refine left_self _ ?_ ?_
  ·have q : ∀ x y : Deed, x.at_ ≠ y.at_ → sameF x y = false := fun x y h => by
    unfold sameF
    rw [show (x.at_ == y.at_) = false by simpa using h]; simp
   have qb : sameF a b = false := q _ _ (by rw [a3, b3]; decide)
   have qc : sameF a c = false := q _ _ (by rw [a3, c3]; decide)
   have qo : sameF a o = false := q _ _ (by rw [a3, o3]; decide)
   have qbc : sameF b c = false := q _ _ (by rw [b3, c3]; decide)
   have qbo : sameF b o = false := q _ _ (by rw [b3, o3]; decide)
   simp [qb, qc, qo, qbc, qbo, hco]
  ·intro y hy
   simp only [List.mem_cons, List.not_mem_nil, or_false] at hy
   rcases hy with rfl | rfl | rfl | rfl
   ·exact fa
   ·exact fb
   ·exact fc
   ·exact fo
 have htaken : takenD [a, b, c, o] = [a, b] := by
  have k : ∀ y : Deed, keptL id [a, b, c, o] y = if y.person = 0 then decide (y.no < 1) else true := fun y => by
   unfold keptL
   simp only [id]
   by_cases h : y.person = 0
   ·rw [h, show forkL id [a, b, c, o] 0 = some 1 from f0, if_pos rfl]; rfl
   ·rw [show forkL id [a, b, c, o] y.person = none from f1 _ h, if_neg h]
  unfold takenD takenL
  simp only [List.filter_cons, List.filter_nil, k, a1, a2, b1, c1, c2, o1, o2]
  simp
 have hall : ∀ y, y ∈ [b, c, a] ↔ y ∈ pickD [true, true, true] [a, b, c] := fun y => by
  show y ∈ [b, c, a] ↔ y ∈ [a, b, c]
  simp only [List.mem_cons, List.not_mem_nil, or_false]
  constructor
  ·rintro (h | h | h) <;> simp [h]
  ·rintro (h | h | h) <;> simp [h]
 have hsome : ∀ y, y ∈ [b, c] ↔ y ∈ pickD [false, true, true] [a, b, c] := fun y => Iff.rfl
 have sb0 : stepD ks [] b = false := by
  have : b.seen.all (metD [] b.person) = false := by rw [b5]; rfl
  unfold stepD
  rw [this]; simp
 have sc0 : stepD ks [] c = false := by
  have : (c.no == nextD [] c.person) = false := by rw [c2]; rfl
  unfold stepD
  rw [this]; simp
 refine ⟨⟨idG_of na, ?_⟩, ⟨idG_of nb, ?_⟩, hk, ki, kl, ?_, ?_, ?_, ?_, ?_, ?_, la, lb, lc, lo, wa, wb, wc, wo⟩
 ·unfold idE; rw [na]; rfl
 ·unfold idE; rw [nb]; rfl
 ·unfold mergeD
  rw [(truth_sort hlog hall).2]
  exact pass_self _ hlog
 ·unfold mergeD
  rw [(truth_sort hlog hsome).2]
  show passL id ks [b, c] = []
  unfold passL
  simp only [List.foldl_cons, List.foldl_nil, List.map_nil, id, sb0, sc0, Bool.false_eq_true, if_false]
 ·unfold mergeD
  rw [hleft, htaken]
  have h2 : logD ks [a, b] = true := logD_take hlog 2
  rw [← sort_uniq (s := [a, b]) (l := [a, b]) (log_apart _ h2) (List.Perm.refl _) ((log_sorted _ h2).imp fun h => by rw [befD_asymm h]; decide)]
  exact pass_self _ h2
 ·rw [hleft]
  unfold liarsL
  rw [show (64 : Nat) = 63 + 1 from rfl, List.range_succ_eq_map, List.filterMap_cons]
  have l0 : liarAt id [a, b, c, o] 0 = some (c, o) := by
   unfold liarAt
   rw [show forkL id [a, b, c, o] ((0 : Nat) : Int) = some 1 from f0]
   simp only
   rw [show ((1 : Nat) : Int) = 1 from rfl, show ((0 : Nat) : Int) = 0 from rfl, d1]
   rfl
  rw [l0]
  simp only
  congr 1
  rw [List.filterMap_eq_nil_iff]
  intro p hp
  obtain ⟨q, -, rfl⟩ := List.mem_map.1 hp
  unfold liarAt
  rw [show forkL id [a, b, c, o] ((Nat.succ q : Nat) : Int) = none from f1 _ (by omega)]
 ·unfold provesB
  rw [hk, fc, fo, hco, c1, o1, c2, o2]; rfl
 ·unfold provesB
  have : sameF o o = true := sameF_iff.2 ⟨rfl, rfl, rfl, rfl, rfl, rfl⟩
  rw [this]; simp
def ksM : List Int := [powC 4 5, powC 4 6]
theorem key2 (x y : Int) : Dee.keyOf [x, y] 0 = x ∧ Dee.keyOf [x, y] 1 = y := ⟨rfl, rfl⟩
theorem ksM_ok : keysD ksM = true ∧ KsI ksM := by
 have h5 := powC_valid v4 5
 have h6 := powC_valid v4 6
 have b5 := validS_bd h5
 have b6 := validS_bd h6
 unfold ksM
 generalize powC 4 5 = k5 at *
 generalize powC 4 6 = k6 at *
 constructor
 ·unfold keysD
  simp [h5, h6]
 ·intro k hk
  simp only [List.mem_cons, List.not_mem_nil, or_false] at hk
  omega
def aM : Deed := askD 0 0 10 zeroG [] [97]
def bM (g : Dg) : Deed := askD 1 0 11 zeroG [g] [98]
def cM (g h : Dg) : Deed := askD 0 1 12 g [h] [99]
def oM (g : Dg) : Deed := askD 0 1 12 g [] [100]
theorem aM_f : formedD aM = true := by decide
theorem bM_f (g : Dg) : formedD (bM g) = true := rfl
theorem cM_f (g h : Dg) : formedD (cM g h) = true := rfl
theorem oM_f (g : Dg) : formedD (oM g) = true := rfl
theorem exM_ok : ExM ksM (makeD 5 aM) (makeD 6 (bM (idD (makeD 5 aM)))) (makeD 5 (cM (idD (makeD 5 aM)) (idD (makeD 6 (bM (idD (makeD 5 aM))))))) (makeD 5 (oM (idD (makeD 5 aM)))) (idD (makeD 5 aM)) (idD (makeD 6 (bM (idD (makeD 5 aM))))) := by
 obtain ⟨hk, hi⟩ := ksM_ok
 have ea : makeE 5 aM = 0 := makeE_ok (by decide) aM_f
 have eb : ∀ g, makeE 6 (bM g) = 0 := fun g => makeE_ok (by decide) (bM_f g)
 have ec : ∀ g h, makeE 5 (cM g h) = 0 := fun g h => makeE_ok (by decide) (cM_f g h)
 have eo : ∀ g, makeE 5 (oM g) = 0 := fun g => makeE_ok (by decide) (oM_f g)
 have ha := (make_good ea).2.2
 have hb := fun g => (make_good (eb g)).2.2
 have hc := fun g h => (make_good (ec g h)).2.2
 have ho := fun g => (make_good (eo g)).2.2
 have w0 : ∀ (p n t : Int) (g : Dg) (s : List Dg) (d : List UInt8), i64 p → i64 n → i64 t → WfD (askD p n t g s d) := fun p n t g s d h1 h2 h3 => ⟨h1, h2, h3, ⟨by show (_ : Int) ≤ 0; decide, by show (0 : Int) < _; decide⟩, ⟨by show (_ : Int) ≤ 0; decide, by show (0 : Int) < _; decide⟩⟩
 have wa : WfD aM := w0 _ _ _ _ _ _ ⟨by decide, by decide⟩ ⟨by decide, by decide⟩ ⟨by decide, by decide⟩
 have wb : ∀ g, WfD (bM g) := fun g => w0 _ _ _ _ _ _ ⟨by decide, by decide⟩ ⟨by decide, by decide⟩ ⟨by decide, by decide⟩
 have wc : ∀ g h, WfD (cM g h) := fun g h => w0 _ _ _ _ _ _ ⟨by decide, by decide⟩ ⟨by decide, by decide⟩ ⟨by decide, by decide⟩
 have wo : ∀ g, WfD (oM g) := fun g => w0 _ _ _ _ _ _ ⟨by decide, by decide⟩ ⟨by decide, by decide⟩ ⟨by decide, by decide⟩
 have fa : fineD ksM (makeD 5 aM) = true := make_fine ea (by show (0 : Int) < 2; decide) (key2 _ _).1
 have fb : ∀ g, fineD ksM (makeD 6 (bM g)) = true := fun g => make_fine (eb g) (by show (1 : Int) < 2; decide) (key2 _ _).2
 have fc : ∀ g h, fineD ksM (makeD 5 (cM g h)) = true := fun g h => make_fine (ec g h) (by show (0 : Int) < 2; decide) (key2 _ _).1
 have fo : ∀ g, fineD ksM (makeD 5 (oM g)) = true := fun g => make_fine (eo g) (by show (0 : Int) < 2; decide) (key2 _ _).1
 exact exM_gen hk hi rfl _ _ _ _ ha (hb _) (hc _ _) (ho _) fa (fb _) (fc _ _) (fo _) (wf_make wa) (wf_make (wb _)) (wf_make (wc _ _)) (wf_make (wo _))
theorem proves_none : provesB [] zeroD zeroD = false := by
 unfold provesB
 rw [fine_far (by show ¬ ((0 : Int) < 0); decide)]
 simp
end Go.Mer
end
section
/- Merge: for the laws, plain: maps of forks, parts of a log, liars side by side. -/
set_option maxRecDepth 4000
namespace Go.Mer
open Go.Rn Go.RowKit Go.Rec Go.Sha Go.Sg Go.NT Go.Dee
/-! ### A map filled from a list -/
/-! ### Parts of one log -/
/-! ### The order of parts -/
/-! ### One more part -/
end Go.Mer
end
section
/- Arguments: how long their lists are at most (the reach of the form). -/
set_option maxRecDepth 4000
namespace Go.Rn
open Go.RowKit Go.ChangeShapes Go.WideShapes
section
variable {H : Type} {enc : TypeId × Value → H} {P : Program} {w : World} {held : Bool}
theorem wts_mem {e : TypeId} : ∀ {l : List (DataW H)} {d : DataW H}, d ∈ l → ∀ n ∈ d.weights P e, n ∈ DataW.weightsAll P e l
 | x :: l, d, hd, n, hn => by
  rw [DataW.weightsAll]
  rcases List.mem_cons.1 hd with rfl | hd
  ·exact List.mem_append_left _ hn
  ·exact List.mem_append_right _ (wts_mem hd n hn)
/-- A list that is read: its rows, each read by itself, and its length in bytes. -/
theorem trod_rows {fuel : Nat} {t e : TypeId} {cs : List Value} {x : DataW H × List MemPlace} {B : Nat} (ht : P.underlying t = some (.slice e)) (hpos : 0 < P.cellsOf e) (h : DataW.trod enc P w 0 (fun _ => true) held fuel t cs = some x) (hB : ∀ n ∈ x.1.weights P t, n ≤ B) :
  ∃ f v n, ∃ rows : List (List Value), cs = [v] ∧ n ≤ maxLen ∧ rows.length = n ∧ (∀ r ∈ rows, r.length = P.cellsOf e ∧ ∃ y, DataW.trod enc P w 0 (fun _ => true) held f e r = some y ∧ ∀ n ∈ y.1.weights P e, n ≤ B) ∧ IsSl w (P.cellsOf e) v n rows.flatten ∧ n * P.bytesOf e ≤ B := by
 rcases DataW.trod_slice ht h with ⟨rfl, -⟩ | ⟨a, len, cap, elems, rest, n, hfu, rfl, rfl, -, hlc, hcm, hlen, hel, hsp, -⟩
 ·exact ⟨0, _, 0, [], rfl, by simp [maxLen], rfl, by simp, by simpa using IsSl.nil, by simp⟩
 ·obtain ⟨hrl, hre⟩ := hsp rfl
  have hwt : (DataW.slice (elems.map (·.1)) (rest.map (·.1))).weights P t = ((elems.map (·.1)).length + (rest.map (·.1)).length) * P.bytesOf e :: (DataW.weightsAll P e (elems.map (·.1)) ++ DataW.weightsAll P e (rest.map (·.1))) := by
   rw [DataW.weights, ht]
  rw [hwt] at hB
  have hB0 := hB _ List.mem_cons_self
  rw [List.length_map, List.length_map, hlen] at hB0
  have hBe : ∀ y ∈ elems, ∀ n ∈ y.1.weights P e, n ≤ B := fun y hy n hn => hB n (List.mem_cons_of_mem _ (List.mem_append_left _ (wts_mem (List.mem_map.2 ⟨y, hy, rfl⟩) n hn)))
  have hBr : ∀ y ∈ rest, ∀ n ∈ y.1.weights P e, n ≤ B := fun y hy n hn => hB n (List.mem_cons_of_mem _ (List.mem_append_right _ (wts_mem (List.mem_map.2 ⟨y, hy, rfl⟩) n hn)))
  clear hB hwt
  have all : ∀ i, i < cap → ∃ cs', w.cells? 0 (a.add (i * P.cellsOf e)) (P.cellsOf e) = some cs' ∧ ∃ y, DataW.trod enc P w 0 (fun _ => true) held n e cs' = some y ∧ ∀ m ∈ y.1.weights P e, m ≤ B := by
   intro i hi
   by_cases hil : i < len
   ·have h1 := hel i hil
    rw [List.getElem?_eq_getElem (by omega)] at h1
    obtain ⟨cs', h1, h2⟩ := Option.bind_eq_some_iff.1 h1
    exact ⟨cs', h1, _, h2, hBe _ (List.getElem_mem _)⟩
   ·have h1 := hre (i - len) (by omega)
    rw [show len + (i - len) = i by omega, List.getElem?_eq_getElem (by omega)] at h1
    obtain ⟨cs', h1, h2⟩ := Option.bind_eq_some_iff.1 h1
    exact ⟨cs', h1, _, h2, hBr _ (List.getElem_mem _)⟩
  obtain ⟨F, hF⟩ := Deep.choose_lt (α := List Value) (p := fun i cs' => w.cells? 0 (a.add (i * P.cellsOf e)) (P.cellsOf e) = some cs' ∧ ∃ y, DataW.trod enc P w 0 (fun _ => true) held n e cs' = some y ∧ ∀ m ∈ y.1.weights P e, m ≤ B) all
  have hlenF : ∀ i, i < cap → (F i).length = P.cellsOf e := fun i hi => (World.cells?_some (hF i hi).1).2.1
  refine ⟨n, _, len, (List.range len).map F, rfl, by omega, by simp, ?_, ?_, Nat.le_trans (Nat.mul_le_mul_right _ (Nat.le_add_right _ _)) hB0⟩
  ·intro r hr
   obtain ⟨i, hi, rfl⟩ := List.mem_map.1 hr
   have hi' : i < cap := by have := List.mem_range.1 hi; omega
   exact ⟨hlenF i hi', (hF i hi').2⟩
  ·by_cases h0 : cap = 0
   ·subst h0
    obtain rfl : len = 0 := by omega
    simpa using IsSl.nil
   ·have hsp : a.spot = none := by
     have h1 := (World.cells?_some (hF 0 (by omega)).1).2.2 0 hpos
     rw [Nat.zero_mul] at h1
     have e0 : (a.add 0).add 0 = a := by simp [Addr.add]
     rw [e0] at h1
     have hl := hlenF 0 (by omega)
     rw [List.getElem?_eq_getElem (by omega)] at h1
     unfold World.cell? at h1
     split at h1
     ·split at h1
      ·simp at h1
      ·rename_i hs; simpa using hs
     ·simp at h1
    obtain ⟨ab, ao, asp⟩ := a
    simp only at hsp; subst hsp
    have hrl : ∀ r ∈ (List.range len).map F, r.length = P.cellsOf e := by
     intro r hr
     obtain ⟨i, hi, rfl⟩ := List.mem_map.1 hr
     exact hlenF i (by have := List.mem_range.1 hi; omega)
    refine .row ?_ (by rw [flatten_length _ hrl]; simp) hlc
    intro q v hv
    have hq : q < len * P.cellsOf e := by
     rcases Nat.lt_or_ge q (len * P.cellsOf e) with h | h
     ·exact h
     ·rw [List.getElem?_eq_none (by rw [flatten_length _ hrl]; simpa using h)] at hv; simp at hv
    have hqi : q / P.cellsOf e < len := Nat.div_lt_of_lt_mul (by rw [Nat.mul_comm]; exact hq)
    have hqj : q % P.cellsOf e < P.cellsOf e := Nat.mod_lt _ hpos
    have hqe : q / P.cellsOf e * P.cellsOf e + q % P.cellsOf e = q := by rw [Nat.mul_comm]; exact Nat.div_add_mod q _
    rw [← hqe, flatten_get _ hrl _ _ hqj] at hv
    simp only [List.getElem?_map, List.getElem?_range hqi, Option.map_some, Option.bind_some] at hv
    have h1 := (World.cells?_some (hF _ (by omega : q / P.cellsOf e < cap)).1).2.2 _ hqj
    rw [hv] at h1
    rw [add_none, add_none] at h1
    rw [← hqe, ← Nat.add_assoc]; exact h1
/-- The reach of one argument. -/
theorem reach_at {ts : List TypeId} {ds gs : List (DataW H)} {vs : List TypeId} {j : Nat} {t : TypeId} {d : DataW H} (h : (DataW.weightsEach P (ts ++ vs) (ds ++ gs)).all (· ≤ reachBytes) = true) (hl : ts.length = ds.length) (ht : ts[j]? = some t) (hd : ds[j]? = some d) : ∀ n ∈ d.weights P t, n ≤ 140737488351232 := fun n hn => by
 have h1 : (ts ++ vs)[j]? = some t := by rw [List.getElem?_append_left (List.getElem?_eq_some_iff.1 ht).1]; exact ht
 have h2 : (ds ++ gs)[j]? = some d := by rw [List.getElem?_append_left (List.getElem?_eq_some_iff.1 hd).1]; exact hd
 have := List.all_eq_true.1 h n (DataW.weights_mem_each h1 h2 n hn)
 exact of_decide_eq_true this
end
end Go.Rn
end
section
/- Merge: for the laws: has, right; parts and forks as arguments. -/
set_option maxRecDepth 4000
namespace Go.Sg
open Go.Rn Go.Proofs Go.Dee Go.Mer Go.Rec Go.RowKit Go.Sha Go.Cod Go.NT
attribute [local irreducible] keysD fineD thereL chkM mergeD liarsL Go.Rn.RetsX Go.Rn.RunLN Go.Rn.AsyN Go.Rn.RunL Go.Rn.RunE Go.Rn.Asy Go.Rn.OpV Go.Rn.OpE Go.Rn.ExecE
end Go.Sg
namespace Go.Sg
open Go.Rn Go.Proofs Go.Dee Go.Mer Go.Rec Go.RowKit Go.WideShapes Go.ChangeShapes Go.Sha
/-- Parts that come in. -/
structure InL (w : World) (v : Value) (ls : List Ll) : Prop where
 at_ : LLl w v ls
 part : ∀ x ∈ ls, LDr w x.v x.l
 wf : ∀ x ∈ allD ls, WfX w x
 len : ls.length * 24 ≤ 140737488351232
 each : ∀ x ∈ ls, x.l.length * 120 ≤ 140737488351232
theorem small_of {ls : List Ll} (h : ∀ x ∈ ls, x.l.length * 120 ≤ 140737488351232) (h70 : ls.length ≤ 70) : lenD ls < 9223372036854775808 := by
 have key : ∀ l : List Ll, (∀ x ∈ l, x.l.length * 120 ≤ 140737488351232) → lenD l * 120 ≤ l.length * 140737488351232 := by
  intro l
  induction l with
  | nil => intro _; simp [lenD]
  | cons x l ih =>
   intro hx
   have h1 := ih fun y hy => hx y (List.mem_cons_of_mem _ hy)
   have h2 := hx x List.mem_cons_self
   have e : lenD (x :: l) = x.l.length + lenD l := by unfold lenD; simp
   rw [e, List.length_cons, Nat.add_mul, Nat.add_mul]
   omega
 have := key ls h
 omega
theorem InL.small {w : World} {v : Value} {ls : List Ll} (h : InL w v ls) (h70 : ls.length ≤ 70) : lenD ls < 9223372036854775808 := small_of h.each h70
theorem InL.few {w : World} {v : Value} {ls : List Ll} (h : InL w v ls) : ls.length < 9223372036854775808 := by have := h.len; omega
section
variable {H : Type} {enc : TypeId × Value → H} {w : World}
theorem deeds_row {fuel : Nat} {cs : List Value} {held : Bool} {y : DataW H × List MemPlace} (h : DataW.trod enc Tryz.prog w 0 (fun _ => true) held fuel 26 cs = some y) (hB : ∀ n ∈ y.1.weights Tryz.prog 26, n ≤ 140737488351232) :
  ∃ x : Ll, cs = x.cells ∧ LDr w x.v x.l ∧ (∀ d ∈ x.l, WfX w d) ∧ x.l.length * 120 ≤ 140737488351232 := by
 have hc : Tryz.prog.cellsOf 38 = 39 := by kernel_rfl
 have hb : Tryz.prog.bytesOf 38 = 120 := by kernel_rfl
 obtain ⟨f, v, n, rows, rfl, hm, hr, hrs, hsl, hbt⟩ := trod_rows (Tryz.underlying26) (by rw [hc]; decide) h hB
 rw [hc] at hrs hsl
 rw [hb] at hbt
 obtain ⟨l, hl, hw⟩ : ∃ l : List Dr, rows = l.map Dr.cells ∧ ∀ x ∈ l, WfX w x := by
  clear hr hsl h
  induction rows with
  | nil => exact ⟨[], rfl, by simp⟩
  | cons r rs ih =>
   obtain ⟨l, rfl, h2⟩ := ih fun r hr => hrs r (List.mem_cons_of_mem _ hr)
   obtain ⟨y, hy, -⟩ := (hrs r List.mem_cons_self).2
   obtain ⟨x, rfl, hx⟩ := deed_row _ _ (shp_of_trod _ _ _ _ hy)
   exact ⟨x :: l, rfl, fun z hz => by
    rcases List.mem_cons.1 hz with rfl | hz
    ·exact hx
    ·exact h2 z hz⟩
 subst hl
 have hlm : l.length = n := by simpa using hr
 subst hlm
 have hsl' : LDr w v l := hsl
 obtain ⟨d, c, rfl⟩ := isSl_slice hsl'
 exact ⟨⟨l, d, c⟩, rfl, hsl', hw, hbt⟩
theorem parts_open {v : Value} {d : DataW H} {ps : List MemPlace} {held : Bool} {r : Reach} {b0 : Nat} (hB : ∀ n ∈ d.weights Tryz.prog 23, n ≤ 140737488351232) (hval : Value.okWide Tryz.prog w r b0 23 v)
  (h : DataW.Trod enc Tryz.prog w 0 (fun _ => true) held 23 v d ps) : ∃ ls : List Ll, InL w v ls := by
 obtain ⟨a, n, c, rfl⟩ := okWide_sl (Tryz.underlying23) hval
 obtain ⟨fuel, hf⟩ := h
 have hc : Tryz.prog.cellsOf 26 = 1 := by kernel_rfl
 have hb : Tryz.prog.bytesOf 26 = 24 := by kernel_rfl
 obtain ⟨f, u, m, rows, hv, hm, hr, hrs, hsl, hbt⟩ := trod_rows (Tryz.underlying23) (by rw [hc]; decide) hf hB
 have hu : u = .slice a n c := by simpa [Value.cells] using hv.symm
 subst hu
 rw [hc] at hrs hsl
 rw [hb] at hbt
 obtain ⟨l, hl, hw⟩ : ∃ l : List Ll, rows = l.map Ll.cells ∧ ∀ x ∈ l, LDr w x.v x.l ∧ (∀ d ∈ x.l, WfX w d) ∧ x.l.length * 120 ≤ 140737488351232 := by
  clear hr hsl hf
  induction rows with
  | nil => exact ⟨[], rfl, by simp⟩
  | cons r rs ih =>
   obtain ⟨l, rfl, h2⟩ := ih fun r hr => hrs r (List.mem_cons_of_mem _ hr)
   obtain ⟨y, hy, hyB⟩ := (hrs r List.mem_cons_self).2
   obtain ⟨x, rfl, hx⟩ := deeds_row hy hyB
   exact ⟨x :: l, rfl, fun z hz => by
    rcases List.mem_cons.1 hz with rfl | hz
    ·exact hx
    ·exact h2 z hz⟩
 subst hl
 have hlm : l.length = m := by simpa using hr
 subst hlm
 exact ⟨l, hsl, fun x hx => (hw x hx).1, fun y hy => by
  obtain ⟨x, hx, hy⟩ := List.mem_flatMap.1 hy
  exact (hw x hx).2.1 y hy, hbt, fun x hx => (hw x hx).2.2⟩
set_option maxRecDepth 4000 in
theorem fork_open {v : Value} {d : DataW H} {ps : List MemPlace} {held : Bool} {r : Reach} {b0 : Nat} (hval : Value.okWide Tryz.prog w r b0 40 v)
  (h : DataW.Trod enc Tryz.prog w 0 (fun _ => true) held 40 v d ps) : ∃ x : Fr, v = .agg x.cells.toArray ∧ WfX w x.a ∧ WfX w x.b := by
 obtain ⟨fuel, cs, rfl, hs⟩ := open_struct (by kernel_rfl) hval h
 obtain ⟨hl, f, hs⟩ := hs.struct (by kernel_rfl : Tryz.prog.underlying 40 = some (.struct (Tryz.prog.fieldsOf 40)))
 have hf : (Tryz.prog.fieldsOf 40).toList.map (fun f => (f.type, f.offset)) = [(38, 0), (38, 39)] := by kernel_rfl
 have hc : Tryz.prog.cellsOf 40 = 78 := by kernel_rfl
 have hg : Tryz.prog.cellsOf 38 = 39 := by kernel_rfl
 generalize (Tryz.prog.fieldsOf 40).toList = fs at hf hs
 obtain ⟨f0, f1, rfl⟩ : ∃ f0 f1, fs = [f0, f1] := by
  rcases fs with _ | ⟨f0, _ | ⟨f1, _ | ⟨f2, r⟩⟩⟩
  all_goals first | exact ⟨_, _, rfl⟩ | simp at hf
 simp only [List.map_cons, List.map_nil, List.cons.injEq, Prod.mk.injEq, and_true] at hf
 obtain ⟨⟨t0, o0⟩, t1, o1⟩ := hf
 have h0 := hs f0 (by simp)
 have h1 := hs f1 (by simp)
 rw [t0, o0, hg] at h0
 rw [t1, o1, hg] at h1
 obtain ⟨xa, e0, wa⟩ := deed_row _ _ h0
 obtain ⟨xb, e1, wb⟩ := deed_row _ _ h1
 refine ⟨⟨xa, xb⟩, ?_, wa, wb⟩
 have c0 := drop_split cs 0 39
 have c1 := drop_split cs 39 39
 have c2 : cs.drop 78 = [] := List.drop_eq_nil_iff.2 (by omega)
 rw [List.drop_zero] at c0 e0
 rw [c0, e0, Nat.zero_add, c1, e1, c2, List.append_nil]
end
end Go.Sg
end
section
/- Merge: what is made keeps its lists. -/
set_option maxRecDepth 4000
namespace Go.Sg
open Go.Rn Go.Proofs Go.Dee Go.Rec Go.RowKit Go.Sha Go.Cod Go.NT
attribute [local irreducible] Go.Rn.RetsX Go.Rn.RunLN Go.Rn.AsyN Go.Rn.RunL Go.Rn.RunE Go.Rn.Asy Go.Rn.OpV Go.Rn.OpE Go.Rn.ExecE
set_option maxRecDepth 8000 in
set_option maxHeartbeats 4000000 in
theorem dMake_go (x person no at_ : Int) (prev : Dg) (seen : List Dg) (data : List UInt8) (du : Option Addr) (cu : Nat) (dv : Option Addr) (cv : Nat) (w : World) (hx : -9223372036854775808 ≤ x ∧ x < 9223372036854775808) (h0 : makeE x (askD person no at_ prev seen data) = 0) (hs : LDg w (.slice du seen.length cu) seen) (hb : LBy w (.slice dv data.length cv) data) (hl : seen.length < 9223372036854775808) (hl' : data.length < 9223372036854775808) (hS : Row w 0 0 (vals init8.l)) (hkT : Row w 1 0 (vals kTab)) :
  Rets Tryz.prog 59 [.int .i64 x, .int .i64 person, .int .i64 no, .int .i64 at_, .agg (digC prev).toArray, .slice du seen.length cu, .slice dv data.length cv] w fun r w' => r = .tuple #[.agg (dCells (makeD x (askD person no at_ prev seen data)) (.slice du seen.length cu) (.slice dv data.length cv)).toArray, .int .i64 0] ∧ Ext w w' := by
 have c1 := fun w h1 h2 => dformed_ok (askD person no at_ prev seen data) (.slice du seen.length cu) (.slice dv data.length cv) w h1 h2 hl hl'
 obtain ⟨hq, hf, -⟩ := make_good h0
 have hq' : 1 ≤ x ∧ x < 1073741789 := of_decide_eq_true hq
 rw [hf] at c1
 have h1 : makeD x (askD person no at_ prev seen data) = ⟨person, no, at_, prev, seen, data, sigE x (textD (askD person no at_ prev seen data)), sigS x (textD (askD person no at_ prev seen data))⟩ := by unfold makeD; rw [h0]; rfl
 have hr : sigR x = 0 := by unfold sigR; rw [hq]; rfl
 rw [h1]
 have c2 := fun w h1 h2 => dtext_ok (askD person no at_ prev seen data) (.slice du seen.length cu) (.slice dv data.length cv) w h1 h2 hf
 have c3 := fun r w h => sign_ok x r (textD (askD person no at_ prev seen data)) w hx h (Nat.le_trans (text_len hf) (by decide))
 rw [hr] at c3
 clear h0 h1 hr
 generalize hE : sigE x (textD (askD person no at_ prev seen data)) = E at c3 ⊢
 generalize hS' : sigS x (textD (askD person no at_ prev seen data)) = S at c3 ⊢
 clear hE hS'
 refine RetsX.of (nt := 48) Tryz.func59 (by kernel_rfl) rfl rfl (by simp) (by simp only [argEnv]; rfl) ?_
 have X := ExtB.refl (fun _ => False) w
 repeat' (first | refine RunE.seq ?_ | refine RunE.region ?_)
 refine RunL.box rfl rfl rfl fun B11 w11_ a_ => ?_
 have Z11 : Blk w11_ B11 (digC prev) 32 := a_.at_
 have gB11 := a_.ge X
 replace X := X.trans a_.ext
 clear a_
 skip
 refine RunL.alloc Tryz.tOk rfl rfl rfl fun B14 w14_ a_ => ?_
 have Z14 : Blk w14_ B14 (dCells zeroD nilV nilV) 38 := a_.at_
 have gB14 := a_.ge X
 have n11_14 : B11 ≠ B14 := by have := Z11.lt; have := a_.eq; omega
 have n14_11 : B14 ≠ B11 := Ne.symm n11_14
 replace Z11 := Z11.up a_.ext
 replace X := X.trans a_.ext
 clear a_
 repeat' (first | with_reducible refine RunLN.boolF rfl ?_ | (with_reducible refine RunLN.decF ?_ ?_; focus omega) | (with_reducible refine RunLN.chk ?_; refine RunLN.int (by (rfl)) ?_) | refine RunLN.any ?_ | refine RunL.ev Tryz.tOk rfl rfl ((build_deed (sn := seen) (dt := data) rfl rfl rfl rfl rfl rfl)) ?_ | refine RunL.ev Tryz.tOk rfl rfl rfl ?_ | refine RunL.evV rfl rfl rfl (OpV.loadN Tryz.tOk rfl rfl rfl rfl (Blk.row Z11)) ?_ | refine RunE.condF rfl rfl ?_ | refine RunE.seq ?_ | refine RunE.region ?_ | refine RunL.nil ?_ | refine RunE.skip ?_)
 refine RunL.alloc Tryz.tOk rfl rfl rfl fun B16 wa_ aa_ => ?_
 have gB16 := aa_.ge X
 refine RunL.storeW (vs := dCells (askD person no at_ prev seen data) (.slice du seen.length cu) (.slice dv data.length cv)) Tryz.tOk rfl rfl rfl rfl rfl aa_.at_ rfl rfl fun w16_ tb_ => ?_
 have Xa_ : Ext _ w16_ := aa_.ext.write tb_.ext (by intro i_ hi_ hlt_; have := aa_.eq; omega)
 have Z16 : Blk w16_ B16 (dCells (askD person no at_ prev seen data) (.slice du seen.length cu) (.slice dv data.length cv)) 38 := tb_.at_
 have n14_16 : B14 ≠ B16 := by have := Z14.lt; have := aa_.eq; omega
 have n16_14 : B16 ≠ B14 := Ne.symm n14_16
 replace Z14 := Z14.up Xa_
 replace X := X.trans Xa_
 clear Xa_ aa_ tb_
 clear Z11
 repeat' (first | refine RunLN.any ?_ | refine RunL.evV rfl rfl rfl (OpV.loadN Tryz.tOk rfl rfl rfl rfl (Blk.row Z16)) ?_ | refine RunE.seq ?_ | refine RunE.region ?_ | refine RunL.nil ?_)
 refine RunL.call rfl rfl rfl (c1 _ (hs.up X) (hb.up X)) ?_
 rintro _ _ ⟨rfl, Xa_⟩
 replace Z14 := Z14.up Xa_
 replace Z16 := Z16.up Xa_
 replace X := X.trans Xa_
 clear Xa_
 repeat' (first | with_reducible refine RunLN.boolF rfl ?_ | (with_reducible refine RunLN.chk ?_; refine RunLN.int (by (rfl)) ?_) | refine RunLN.any ?_ | refine RunL.ev Tryz.tOk rfl rfl rfl ?_ | refine RunL.evV rfl rfl rfl (OpV.loadN Tryz.tOk rfl rfl rfl rfl (Blk.row Z16)) ?_ | refine RunE.condF rfl rfl ?_ | refine RunE.seq ?_ | refine RunE.region ?_ | refine RunL.nil ?_ | refine RunE.skip ?_)
 refine RunL.call rfl rfl rfl (c2 _ (hs.up X) (hb.up X)) ?_
 rintro r w5 ⟨O5, Xa_⟩
 have O6 : LBy w5 r (textD (askD person no at_ prev seen data)) := isSl_own O5
 clear O5
 replace Z14 := Z14.up Xa_
 replace Z16 := Z16.up Xa_
 replace X := X.trans Xa_
 clear Xa_
 skip
 refine RunL.call rfl rfl rfl (c3 r _ O6 (hS.up X) (hkT.up X)) ?_
 rintro _ _ ⟨rfl, Xa_⟩
 replace Z14 := Z14.up Xa_
 replace Z16 := Z16.up Xa_
 replace X := X.trans Xa_
 clear Xa_
 clear O6
 repeat' (first | (with_reducible refine RunLN.chk ?_; refine RunLN.int (by (rfl)) ?_) | refine RunLN.any ?_ | refine RunL.ev Tryz.tOk rfl rfl rfl ?_)
 refine RunL.store Tryz.tOk rfl rfl rfl rfl rfl Z16 rfl rfl fun w_ t_ => ?_
 replace X := X.own t_.ext gB16
 replace Z14 := Z14.other t_.ext n14_16
 replace Z16 : Blk w_ B16 (dCells ⟨person, no, at_, prev, seen, data, E, S⟩ (.slice du seen.length cu) (.slice dv data.length cv)) 38 := t_.at_
 clear t_
 repeat' (first | with_reducible refine RunLN.boolF rfl ?_ | (with_reducible refine RunLN.chk ?_; refine RunLN.int (by (rfl)) ?_) | refine RunLN.any ?_ | refine RunL.ev Tryz.tOk rfl rfl rfl ?_ | refine RunL.evV rfl rfl rfl (OpV.loadN Tryz.tOk rfl rfl rfl rfl (Blk.row Z16)) ?_ | refine RunE.condF rfl rfl ?_ | refine RunE.seq ?_ | refine RunE.region ?_ | refine RunL.nil ?_ | refine RunE.skip ?_)
 refine RunL.storeW (vs := dCells ⟨person, no, at_, prev, seen, data, E, S⟩ (.slice du seen.length cu) (.slice dv data.length cv)) Tryz.tOk rfl rfl rfl rfl rfl Z14 rfl rfl fun w_ t_ => ?_
 replace X := X.own t_.ext gB14
 replace Z14 : Blk w_ B14 (dCells ⟨person, no, at_, prev, seen, data, E, S⟩ (.slice du seen.length cu) (.slice dv data.length cv)) 38 := t_.at_
 clear t_
 repeat' (first | (with_reducible refine RunLN.chk ?_; refine RunLN.int (by (rfl)) ?_) | refine RunL.ev Tryz.tOk rfl rfl rfl ?_ | refine RunL.nil ?_)
 exact RunE.retFn Tryz.func59 (.cell rfl (.agg Tryz.tOk rfl rfl rfl Z14.row) (.tmp rfl .nil)) ⟨rfl, X⟩
end Go.Sg
end
section
/- []byte("..") of a constant. -/
set_option maxRecDepth 4000
namespace Go.Rn
variable {P : Program} {w : World} {env : Env} {dst : Option Tmp} {ty : TypeId} {pos : String} {after : Array Edge} {guard : Option (Nat × Bool)}
theorem row_cells {b : Nat} {cs : List Value} {t : TypeId} {fz : Nat × Nat} (h : w.heap[b]? = some (.cells cs.toArray t fz)) : Row w b 0 cs := fun i v hv => by
 simp [World.cell?, h, hv]
theorem OpE.bytesC {T : Tab} (hT : T.Ok P) {t e : TypeId} {ag : Bool} {s bb s2 bb2 : Nat} {z z2 : List Value} {a u a2 u2 : Bool} {x : Operand} {B n c : Nat} {cs : List Value} {bt : TypeId}
  (ht : T.get t = some ⟨.slc 1 ag e, s, bb, z, a, u⟩) (he : T.get e = some ⟨.int .u8, s2, bb2, z2, a2, u2⟩) (hx : evO env x = some (.slice (some ⟨B, 0, none⟩) n c)) (hb : Blk w B cs bt) :
  OpE P env w ⟨dst, .convert t t x, ty, pos, after, guard⟩ (fun v w' => v = .slice (some ⟨B, 0, none⟩) n c ∧ Turned w w' B (.cells cs.toArray bt (cs.length, cs.length + 1))) fun _ _ => False := by
 obtain ⟨hu, -⟩ := TD.of_slc (TI.tdof (hT.get _ _ ht)).symm
 have hue := TD.of_int (TI.tdof (hT.get _ _ he)).symm
 refine .of_run (w' := World.setObj w B (.cells cs.toArray bt (cs.length, cs.length + 1))) (v := .slice (some ⟨B, 0, none⟩) n c) ⟨rfl, turned_set w hb.lt _⟩ fun ρ hρ => ⟨_, by simp only [execOp, hρ _ _ hx] <;> rfl, ?_⟩
 have hsh : w.shape? B = some (bt, cs.length) := by
  unfold World.shape?
  rw [show w.heap[B]? = some (.cells cs.toArray bt (0, 0)) from hb]; simp
 have hfr : w.freeze ⟨B, cs.length, none⟩ 1 = World.setObj w B (.cells cs.toArray bt (cs.length, cs.length + 1)) := by
  unfold World.freeze World.setObj
  rw [if_neg (by decide)]
  have hm : ∀ (f : Obj → Obj) (y : Obj), f (.cells cs.toArray bt (0, 0)) = y → w.heap.modify B f = w.heap.setIfInBounds B y := by
   intro f y hy
   have hB := hb.lt
   have hg : w.heap[B] = .cells cs.toArray bt (0, 0) := by
    have : w.heap[B]? = some _ := hb
    rw [Array.getElem?_eq_getElem hB] at this; injection this
   apply Array.ext
   ·simp
   ·intro i h1 h2
    simp only [Array.getElem_modify, Array.getElem_setIfInBounds]
    by_cases h : B = i
    ·subst h; simp [hg, hy]
    ·simp only [h, if_false]
     rw [Array.getElem_setIfInBounds_ne _ h]
  rw [hm _ _ (by rfl)]
  rfl
 simp [convert, run_underlying hu, run_underlying hue, markStringish, hsh]
 exact hfr
end Go.Rn
end
section
/- Merge: the examples: small. -/
set_option maxRecDepth 4000
namespace Go.Sg
open Go.Rn Go.Proofs Go.Dee Go.Mer Go.Rec Go.RowKit Go.Sha Go.Cod Go.NT
attribute [local irreducible] Go.Rn.RetsX Go.Rn.RunLN Go.Rn.AsyN Go.Rn.RunL Go.Rn.RunE Go.Rn.Asy Go.Rn.OpV Go.Rn.OpE Go.Rn.ExecE
theorem dMake_as {x p n t : Int} {prev : Dg} {seen : List Dg} {data : List UInt8} {d : Deed} (hd : makeD x (askD p n t prev seen data) = d) (he : makeE x (askD p n t prev seen data) = 0) (hsd : d.seen = seen ∧ d.data = data) (du : Option Addr) (cu : Nat) (dv : Option Addr) (cv : Nat) (w : World) (hx : -9223372036854775808 ≤ x ∧ x < 9223372036854775808) (hs : LDg w (.slice du seen.length cu) seen) (hb : LBy w (.slice dv data.length cv) data) (hl : seen.length < 9223372036854775808) (hl' : data.length < 9223372036854775808) (hS : Row w 0 0 (vals init8.l)) (hkT : Row w 1 0 (vals kTab)) :
  Rets Tryz.prog 59 [.int .i64 x, .int .i64 p, .int .i64 n, .int .i64 t, .agg (digC prev).toArray, .slice du seen.length cu, .slice dv data.length cv] w fun r w' => r = .tuple #[.agg (Dr.cells ⟨d, du, cu, dv, cv⟩).toArray, .int .i64 0] ∧ Ext w w' := by
 have h := dMake_go x p n t prev seen data du cu dv cv w hx he hs hb hl hl' hS hkT
 rw [hd] at h
 have e : Dr.cells ⟨d, du, cu, dv, cv⟩ = dCells d (.slice du seen.length cu) (.slice dv data.length cv) := by
  show dCells d (.slice du d.seen.length cu) (.slice dv d.data.length cv) = _
  rw [hsd.1, hsd.2]
 rw [e]
 exact h
theorem wf_of {w : World} {d : Deed} {seen : List Dg} {data : List UInt8} {du : Option Addr} {cu : Nat} {dv : Option Addr} {cv : Nat} (hw : WfD d) (hsd : d.seen = seen ∧ d.data = data) (hl : seen.length < 9223372036854775808) (hl' : data.length < 9223372036854775808) (hs : LDg w (.slice du seen.length cu) seen) (hb : LBy w (.slice dv data.length cv) data) : WfX w ⟨d, du, cu, dv, cv⟩ := by
 obtain ⟨rfl, rfl⟩ := hsd
 exact ⟨hw, hl, hl', hs, hb⟩
theorem pow4_as {n k : Int} (h : powC 4 n = k) (w : World) : Rets Tryz.prog 58 [.int .i64 4, .int .i64 n] w fun v w' => v = .tuple #[.int .i64 k, .int .i64 0] ∧ Ext w w' := by
 have := pow_ok 4 n w
 rw [h, v4] at this
 exact this
theorem dId_as {D : Dr} {g : Dg} (h : idG D.d = g ∧ idE D.d = 0) (w : World) (hw : WfX w D) (hS : Row w 0 0 (vals init8.l)) (hkT : Row w 1 0 (vals kTab)) : Rets Tryz.prog 39 [.agg D.cells.toArray] w fun r w' => r = .tuple #[.agg (digC g).toArray, .int .i64 0] ∧ Ext w w' := by
 have := dId_ok D.d D.u D.v w hw.2.2.2.seen hw.2.2.2.data hw.2.1 hw.2.2.1 hS hkT
 rw [h.1, h.2] at this
 exact this
attribute [local irreducible] powC makeE makeD idD idG idE fineD stepD chkE
set_option maxRecDepth 8000 in
set_option maxHeartbeats 16000000 in
theorem small_gen (ks : List Int) (a b c o : Deed) (g y : Dg) (k5 k6 : Int) (hks : ks = [k5, k6]) (E : ExM ks a b c o g y) (p5 : powC 4 5 = k5) (p6 : powC 4 6 = k6)
  (ma : makeD 5 (askD 0 0 10 zeroG [] [97]) = a) (ea : makeE 5 (askD 0 0 10 zeroG [] [97]) = 0) (mb : makeD 6 (askD 1 0 11 zeroG [g] [98]) = b) (eb : makeE 6 (askD 1 0 11 zeroG [g] [98]) = 0)
  (mc : makeD 5 (askD 0 1 12 g [y] [99]) = c) (ec : makeE 5 (askD 0 1 12 g [y] [99]) = 0) (mo : makeD 5 (askD 0 1 12 g [] [100]) = o) (eo : makeE 5 (askD 0 1 12 g [] [100]) = 0)
  (w : World) (hS : Row w 0 0 (vals init8.l)) (hkT : Row w 1 0 (vals kTab)) :
  Rets Tryz.prog 27 [] w fun r w' => (∃ (kv lv : Value) (A B C O : Dr), r = .tuple #[kv, lv, .agg O.cells.toArray, .bool true] ∧ LIn w' kv ks ∧ LDr w' lv [A, B, C] ∧ (A.d = a ∧ B.d = b ∧ C.d = c ∧ O.d = o) ∧ WfX w' A ∧ WfX w' B ∧ WfX w' C ∧ WfX w' O) ∧ Ext w w' := by
 subst hks
 have ida := E.ida
 have idb := E.idb
 have sa := E.sa
 have sb := E.sb
 have sc := E.sc
 have so := E.so
 have wa := E.wa
 have wb := E.wb
 have wc := E.wc
 have wo := E.wo
 clear E
 refine RetsX.of (nt := 108) Tryz.func27 (by kernel_rfl) rfl rfl (by simp) (by simp only [argEnv]; rfl) ?_
 have X := ExtB.refl (fun _ => False) w
 repeat' (first | refine RunLN.any ?_ | refine RunL.ev Tryz.tOk rfl rfl rfl ?_ | refine RunE.seq ?_ | refine RunE.region ?_)
 refine RunL.alloc Tryz.tOk rfl rfl rfl fun B2 w2_ a_ => ?_
 have Z2 : Blk w2_ B2 (dCells zeroD nilV nilV) 38 := a_.at_
 have gB2 := a_.ge X
 replace X := X.trans a_.ext
 clear a_
 repeat' (first | with_reducible refine RunLN.boolF rfl ?_ | refine RunL.ev Tryz.tOk rfl rfl rfl ?_ | refine RunE.seq ?_ | refine RunE.region ?_ | refine RunL.nil ?_)
 refine RunL.ex rfl rfl rfl (OpE.buildSl Tryz.tOk [.int .i64 5, .int .i64 6] rfl rfl rfl rfl rfl rfl (by simp [Value.cells])) ?_
 rintro _ w_ ⟨B_, rfl, a_⟩
 have h56 : LIn w_ (.slice (some ⟨B_, 0, none⟩) 2 2) [5, 6] := (isSl_added (n := 2) (sz := 1) a_ rfl)
 replace Z2 := Z2.up a_.ext
 replace X := X.trans a_.ext
 clear a_
 have l2 := Z2.lt
 have X3 := X
 replace X := ExtB.refl (fun _ => False) w_
 have hO0 : w_.ownsRow w_.heap.size 3 1 nilV ([k5, k6].take 0).length (flat intC' ([k5, k6].take 0)) := World.ownsRow_nil _ _ _ _
 repeat' (first | (with_reducible refine RunLN.chk ?_; refine RunLN.int (by (rfl)) ?_) | refine RunL.ev Tryz.tOk rfl rfl rfl ?_ | refine RunL.nil ?_ | refine RunE.block ?_)
 refine RunE.loop (ι := Nat × Value) (fun s => [(0, s.2), (2, .pointer (some ⟨B2, 0, none⟩)), (19, .slice (some ⟨B_, 0, none⟩) 2 2), (20, .int .i64 2), (21, .int .i64 (s.1 : Int))])
  (fun s w' => s.1 ≤ 2 ∧ Ext w_ w' ∧ w'.ownsRow w_.heap.size 3 1 s.2 ([k5, k6].take s.1).length (flat intC' ([k5, k6].take s.1))) (fun s => 2 - s.1) (0, nilV) (by repeat (first | exact Sub.nil _ | refine Sub.cons rfl ?_)) ⟨by decide, X, hO0⟩ ?_
 clear X hO0
 rintro ⟨i, u⟩ w3 ⟨hi, X, hO⟩ again
 simp only at hi hO again ⊢
 by_cases hlt : i < 2
 ·obtain ⟨x, k, hx, hkx, hpx⟩ : ∃ x k, ([5, 6] : List Int)[i]? = some x ∧ [k5, k6][i]? = some k ∧ powC 4 x = k := by
   obtain rfl | rfl : i = 0 ∨ i = 1 := by omega
   ·exact ⟨5, k5, rfl, rfl, p5⟩
   ·exact ⟨6, k6, rfl, rfl, p6⟩
  obtain ⟨b1, o1, c1, e1, hr1, -⟩ := isL_held h56 (show i < ([5, 6] : List Int).length from hlt)
  injection e1 with e1 _ e1'
  cases e1
  have hrx := flat_row encIn (hr1.up X) hx
  have htk : [k5, k6].take (i + 1) = [k5, k6].take i ++ [k] := by rw [List.take_add_one, hkx]; rfl
  have hpl : ([k5, k6].take i).length ≤ 2 := by simp; omega
  have next := fun u' w' a b => again (i + 1, u') w' (by simp only; omega) ⟨by simp only; omega, a, b⟩
  simp only [htk] at next
  clear again
  generalize [k5, k6].take i = pre at hO next hpl
  have X5 := X
  replace X := ExtB.refl (fun _ => False) w3
  repeat' (first | (with_reducible refine RunLN.decT ?_ ?_; focus omega) | (with_reducible refine RunLN.chk ?_; refine RunLN.int (by (rfl)) ?_) | refine RunLN.any ?_ | refine RunL.ev Tryz.tOk rfl rfl rfl ?_ | refine RunL.evV rfl rfl rfl (OpV.load1 Tryz.tOk rfl rfl rfl ((hrx.up X) 0 _ rfl)) ?_ | refine RunL.evV rfl rfl rfl (OpV.indexS Tryz.tOk _ rfl rfl rfl rfl (by omega)) ?_ | refine RunE.condT rfl rfl ?_ | refine RunE.seq ?_ | refine RunE.region ?_ | refine RunL.nil ?_ | refine RunE.block ?_ | refine RunE.skip ?_)
  refine RunL.call rfl rfl rfl (pow4_as hpx _) ?_
  rintro _ _ ⟨rfl, Xa_⟩
  replace X := X.trans Xa_
  clear Xa_
  repeat' (first | with_reducible refine RunLN.boolF rfl ?_ | (with_reducible refine RunLN.chk ?_; refine RunLN.int (by (rfl)) ?_) | refine RunLN.any ?_ | refine RunL.ev Tryz.tOk rfl rfl rfl ?_ | refine RunE.condF rfl rfl ?_ | refine RunE.seq ?_ | refine RunE.region ?_ | refine RunL.nil ?_ | refine RunE.skip ?_)
  refine RunL.ex rfl rfl rfl (OpE.buildSl Tryz.tOk [.int .i64 k] rfl rfl rfl rfl rfl rfl (by simp [Value.cells])) ?_
  rintro _ w15 ⟨B15, rfl, a15⟩
  have hx1 : LIn w15 (.slice (some ⟨B15, 0, none⟩) 1 1) [k] := isSl_added (n := 1) (sz := 1) a15 rfl
  replace X := X.trans a15.ext
  replace hO := World.ownsRow.up hO X
  have hs6 : w_.heap.size ≤ w15.heap.size := (X5.trans X).size
  clear a15
  skip
  refine RunL.ex rfl rfl rfl (OpE.append' Tryz.tOk rfl rfl rfl rfl rfl rfl hO hx1 (flat_plain encIn [k]) (by show _ * 8 ≤ _; simp only [List.length_singleton]; omega) (by simp only [List.length_singleton]; omega) hs6) ?_
  rintro u' w8 ⟨O8, E8, -⟩
  have X8 : Ext w_ w8 := (X5.trans X).write E8 (by intro k hk hlt; have := ownsRow_ge hO hk; omega)
  repeat' (first | (with_reducible refine RunLN.chk ?_; refine RunLN.int (by (first | (refine wr_i64 ?_ ?_; omega; omega) | rfl)) ?_) | refine RunLN.any ?_ | refine RunL.ev Tryz.tOk rfl rfl rfl ?_ | refine RunE.region ?_ | refine RunL.nil ?_ | refine RunE.inBlock ?_)
  exact RunE.weaken (by repeat (first | exact Sub.nil _ | refine Sub.cons rfl ?_)) (next _ _ X8 (by rw [List.length_append, flat_append]; exact O8))
 obtain rfl : i = 2 := by omega
 clear again p5 p6 hlt hi
 replace hO : w3.ownsRow w_.heap.size 3 1 u 2 (flat intC' [k5, k6]) := hO
 replace Z2 := Z2.up X
 replace X := X3.trans X
 clear h56 X3
 repeat' (first | with_reducible refine RunLN.boolF rfl ?_ | refine RunLN.any ?_ | refine RunL.ev Tryz.tOk rfl rfl rfl ?_ | refine RunE.condF rfl rfl ?_ | refine RunE.seq ?_ | refine RunE.region ?_ | refine RunL.nil ?_ | refine RunE.exit rfl ?_)
 have l2 := Z2.lt
 refine RunL.ex rfl rfl rfl (OpE.buildSl Tryz.tOk (bytesV [97]) rfl rfl rfl rfl rfl rfl (by simp [Value.cells, bytesV])) ?_
 rintro _ wa_ ⟨Bh97, rfl, aa_⟩
 have Zc_ : Blk wa_ Bh97 (bytesV [97]) 5 := aa_.at_
 have e_h97 := aa_.eq
 refine RunL.ex rfl rfl rfl (OpE.bytesC Tryz.tOk rfl rfl rfl Zc_) ?_
 rintro _ wb_ ⟨rfl, tb_⟩
 have Xa_ : Ext _ wb_ := aa_.ext.write tb_.ext (by intro i_ hi_ hlt_; subst hi_; omega)
 have h97 : IsSl wb_ 1 (.slice (some ⟨Bh97, 0, none⟩) 1 1) ([97] : List UInt8).length (bytesV [97]) := .row (row_cells tb_.at_) rfl (Nat.le_refl _)
 replace Z2 := Z2.up Xa_
 replace hO := hO.up Xa_
 replace X := X.trans Xa_
 clear Xa_ aa_ tb_ Zc_
 have n97 : Bh97 ≠ B2 := by omega
 clear e_h97 l2
 skip
 refine RunL.call rfl rfl rfl (dMake_as ma ea sa none 0 _ _ _ (by decide) IsSl.nil h97 (by decide) (by decide) (hS.up X) (hkT.up X)) ?_
 rintro _ _ ⟨rfl, Xa_⟩
 replace Z2 := Z2.up Xa_
 replace hO := hO.up Xa_
 replace h97 := h97.up Xa_
 replace X := X.trans Xa_
 clear Xa_
 have wA := wf_of wa sa (by decide) (by decide) (du := none) (cu := 0) IsSl.nil h97
 repeat' (first | (with_reducible refine RunLN.chk ?_; refine RunLN.int (by (rfl)) ?_) | refine RunLN.any ?_ | refine RunL.ev Tryz.tOk rfl rfl rfl ?_)
 refine RunL.alloc Tryz.tOk rfl rfl rfl fun B8 wa_ aa_ => ?_
 have gB8 := aa_.ge X
 refine RunL.storeW (vs := Dr.cells ⟨a, none, 0, some ⟨Bh97, 0, none⟩, 1⟩) Tryz.tOk rfl rfl rfl rfl rfl aa_.at_ rfl rfl fun w8_ tb_ => ?_
 have Xa_ : Ext _ w8_ := aa_.ext.write tb_.ext (by intro i_ hi_ hlt_; have := aa_.eq; omega)
 have Z8 : Blk w8_ B8 (Dr.cells ⟨a, none, 0, some ⟨Bh97, 0, none⟩, 1⟩) 38 := tb_.at_
 have n2_8 : B2 ≠ B8 := by have := Z2.lt; have := aa_.eq; omega
 have n8_2 : B8 ≠ B2 := Ne.symm n2_8
 replace Z2 := Z2.up Xa_
 replace hO := hO.up Xa_
 replace h97 := h97.up Xa_
 replace wA := wA.up Xa_
 replace X := X.trans Xa_
 clear Xa_ aa_ tb_
 repeat' (first | (with_reducible refine RunLN.chk ?_; refine RunLN.int (by (rfl)) ?_) | refine RunLN.any ?_ | refine RunL.ev Tryz.tOk rfl rfl rfl ?_ | refine RunL.evV rfl rfl rfl (OpV.loadN Tryz.tOk rfl rfl rfl rfl (Blk.row Z8)) ?_ | refine RunE.seq ?_ | refine RunE.region ?_ | refine RunL.nil ?_)
 refine RunL.call rfl rfl rfl (dId_as (D := ⟨a, none, 0, some ⟨Bh97, 0, none⟩, 1⟩) ida _ wA (hS.up X) (hkT.up X)) ?_
 rintro _ _ ⟨rfl, Xa_⟩
 replace Z2 := Z2.up Xa_
 replace hO := hO.up Xa_
 replace h97 := h97.up Xa_
 replace Z8 := Z8.up Xa_
 replace X := X.trans Xa_
 clear Xa_
 clear wA
 repeat' (first | (with_reducible refine RunLN.chk ?_; refine RunLN.int (by (rfl)) ?_) | refine RunLN.any ?_ | refine RunL.ev Tryz.tOk rfl rfl rfl ?_)
 refine RunL.alloc Tryz.tOk rfl rfl rfl fun B10 wa_ aa_ => ?_
 have gB10 := aa_.ge X
 refine RunL.storeW (vs := digC g) Tryz.tOk rfl rfl rfl rfl rfl aa_.at_ rfl rfl fun w10_ tb_ => ?_
 have Xa_ : Ext _ w10_ := aa_.ext.write tb_.ext (by intro i_ hi_ hlt_; have := aa_.eq; omega)
 have Z10 : Blk w10_ B10 (digC g) 32 := tb_.at_
 have n2_10 : B2 ≠ B10 := by have := Z2.lt; have := aa_.eq; omega
 have n10_2 : B10 ≠ B2 := Ne.symm n2_10
 have n8_10 : B8 ≠ B10 := by have := Z8.lt; have := aa_.eq; omega
 have n10_8 : B10 ≠ B8 := Ne.symm n8_10
 replace Z2 := Z2.up Xa_
 replace hO := hO.up Xa_
 replace h97 := h97.up Xa_
 replace Z8 := Z8.up Xa_
 replace X := X.trans Xa_
 clear Xa_ aa_ tb_
 repeat' (first | (with_reducible refine RunLN.chk ?_; refine RunLN.int (by (rfl)) ?_) | refine RunLN.any ?_ | refine RunL.ev Tryz.tOk rfl rfl rfl ?_ | refine RunL.evV rfl rfl rfl (OpV.loadN Tryz.tOk rfl rfl rfl rfl (Blk.row Z10)) ?_ | refine RunE.seq ?_ | refine RunE.region ?_ | refine RunL.nil ?_)
 have l2 := Z2.lt
 refine RunL.ex rfl rfl rfl (OpE.buildN encG Tryz.tOk [g] rfl rfl rfl rfl rfl rfl) ?_
 rintro _ w9 ⟨⟨Bg, rfl, lg⟩, hg9, Xa_⟩
 have ng : Bg ≠ B2 := by omega
 replace Z2 := Z2.up Xa_
 replace hO := hO.up Xa_
 replace h97 := h97.up Xa_
 replace Z8 := Z8.up Xa_
 replace Z10 := Z10.up Xa_
 replace X := X.trans Xa_
 clear Xa_ lg l2
 skip
 have l2 := Z2.lt
 refine RunL.ex rfl rfl rfl (OpE.buildSl Tryz.tOk (bytesV [98]) rfl rfl rfl rfl rfl rfl (by simp [Value.cells, bytesV])) ?_
 rintro _ wa_ ⟨Bh98, rfl, aa_⟩
 have Zc_ : Blk wa_ Bh98 (bytesV [98]) 5 := aa_.at_
 have e_h98 := aa_.eq
 refine RunL.ex rfl rfl rfl (OpE.bytesC Tryz.tOk rfl rfl rfl Zc_) ?_
 rintro _ wb_ ⟨rfl, tb_⟩
 have Xa_ : Ext _ wb_ := aa_.ext.write tb_.ext (by intro i_ hi_ hlt_; subst hi_; omega)
 have h98 : IsSl wb_ 1 (.slice (some ⟨Bh98, 0, none⟩) 1 1) ([98] : List UInt8).length (bytesV [98]) := .row (row_cells tb_.at_) rfl (Nat.le_refl _)
 replace Z2 := Z2.up Xa_
 replace hO := hO.up Xa_
 replace h97 := h97.up Xa_
 replace Z8 := Z8.up Xa_
 replace Z10 := Z10.up Xa_
 replace hg9 := hg9.up Xa_
 replace X := X.trans Xa_
 clear Xa_ aa_ tb_ Zc_
 have n98 : Bh98 ≠ B2 := by omega
 clear e_h98 l2
 skip
 refine RunL.call rfl rfl rfl (dMake_as mb eb sb _ _ _ _ _ (by decide) hg9 h98 (by simp) (by simp) (hS.up X) (hkT.up X)) ?_
 rintro _ _ ⟨rfl, Xa_⟩
 replace Z2 := Z2.up Xa_
 replace hO := hO.up Xa_
 replace h97 := h97.up Xa_
 replace Z8 := Z8.up Xa_
 replace Z10 := Z10.up Xa_
 replace hg9 := hg9.up Xa_
 replace h98 := h98.up Xa_
 replace X := X.trans Xa_
 clear Xa_
 have wB := wf_of wb sb (by simp) (by simp) hg9 h98
 repeat' (first | (with_reducible refine RunLN.chk ?_; refine RunLN.int (by (rfl)) ?_) | refine RunLN.any ?_ | refine RunL.ev Tryz.tOk rfl rfl rfl ?_)
 refine RunL.alloc Tryz.tOk rfl rfl rfl fun B12 wa_ aa_ => ?_
 have gB12 := aa_.ge X
 refine RunL.storeW (vs := Dr.cells ⟨b, some ⟨Bg, 0, none⟩, 1, some ⟨Bh98, 0, none⟩, 1⟩) Tryz.tOk rfl rfl rfl rfl rfl aa_.at_ rfl rfl fun w12_ tb_ => ?_
 have Xa_ : Ext _ w12_ := aa_.ext.write tb_.ext (by intro i_ hi_ hlt_; have := aa_.eq; omega)
 have Z12 : Blk w12_ B12 (Dr.cells ⟨b, some ⟨Bg, 0, none⟩, 1, some ⟨Bh98, 0, none⟩, 1⟩) 38 := tb_.at_
 have n2_12 : B2 ≠ B12 := by have := Z2.lt; have := aa_.eq; omega
 have n12_2 : B12 ≠ B2 := Ne.symm n2_12
 have n8_12 : B8 ≠ B12 := by have := Z8.lt; have := aa_.eq; omega
 have n12_8 : B12 ≠ B8 := Ne.symm n8_12
 have n10_12 : B10 ≠ B12 := by have := Z10.lt; have := aa_.eq; omega
 have n12_10 : B12 ≠ B10 := Ne.symm n10_12
 replace Z2 := Z2.up Xa_
 replace hO := hO.up Xa_
 replace h97 := h97.up Xa_
 replace Z8 := Z8.up Xa_
 replace Z10 := Z10.up Xa_
 replace hg9 := hg9.up Xa_
 replace h98 := h98.up Xa_
 replace wB := wB.up Xa_
 replace X := X.trans Xa_
 clear Xa_ aa_ tb_
 repeat' (first | (with_reducible refine RunLN.chk ?_; refine RunLN.int (by (rfl)) ?_) | refine RunLN.any ?_ | refine RunL.ev Tryz.tOk rfl rfl rfl ?_ | refine RunL.evV rfl rfl rfl (OpV.loadN Tryz.tOk rfl rfl rfl rfl (Blk.row Z12)) ?_ | refine RunE.seq ?_ | refine RunE.region ?_ | refine RunL.nil ?_)
 refine RunL.call rfl rfl rfl (dId_as (D := ⟨b, some ⟨Bg, 0, none⟩, 1, some ⟨Bh98, 0, none⟩, 1⟩) idb _ wB (hS.up X) (hkT.up X)) ?_
 rintro _ _ ⟨rfl, Xa_⟩
 replace Z2 := Z2.up Xa_
 replace hO := hO.up Xa_
 replace h97 := h97.up Xa_
 replace Z8 := Z8.up Xa_
 replace Z10 := Z10.up Xa_
 replace hg9 := hg9.up Xa_
 replace h98 := h98.up Xa_
 replace Z12 := Z12.up Xa_
 replace X := X.trans Xa_
 clear Xa_
 clear wB
 repeat' (first | (with_reducible refine RunLN.chk ?_; refine RunLN.int (by (rfl)) ?_) | refine RunLN.any ?_ | refine RunL.ev Tryz.tOk rfl rfl rfl ?_)
 refine RunL.alloc Tryz.tOk rfl rfl rfl fun B14 wa_ aa_ => ?_
 have gB14 := aa_.ge X
 refine RunL.storeW (vs := digC y) Tryz.tOk rfl rfl rfl rfl rfl aa_.at_ rfl rfl fun w14_ tb_ => ?_
 have Xa_ : Ext _ w14_ := aa_.ext.write tb_.ext (by intro i_ hi_ hlt_; have := aa_.eq; omega)
 have Z14 : Blk w14_ B14 (digC y) 32 := tb_.at_
 have n2_14 : B2 ≠ B14 := by have := Z2.lt; have := aa_.eq; omega
 have n14_2 : B14 ≠ B2 := Ne.symm n2_14
 have n8_14 : B8 ≠ B14 := by have := Z8.lt; have := aa_.eq; omega
 have n14_8 : B14 ≠ B8 := Ne.symm n8_14
 have n10_14 : B10 ≠ B14 := by have := Z10.lt; have := aa_.eq; omega
 have n14_10 : B14 ≠ B10 := Ne.symm n10_14
 have n12_14 : B12 ≠ B14 := by have := Z12.lt; have := aa_.eq; omega
 have n14_12 : B14 ≠ B12 := Ne.symm n12_14
 replace Z2 := Z2.up Xa_
 replace hO := hO.up Xa_
 replace h97 := h97.up Xa_
 replace Z8 := Z8.up Xa_
 replace Z10 := Z10.up Xa_
 replace hg9 := hg9.up Xa_
 replace h98 := h98.up Xa_
 replace Z12 := Z12.up Xa_
 replace X := X.trans Xa_
 clear Xa_ aa_ tb_
 repeat' (first | (with_reducible refine RunLN.chk ?_; refine RunLN.int (by (rfl)) ?_) | refine RunLN.any ?_ | refine RunL.ev Tryz.tOk rfl rfl rfl ?_ | refine RunL.evV rfl rfl rfl (OpV.loadN Tryz.tOk rfl rfl rfl rfl (Blk.row Z10)) ?_ | refine RunL.evV rfl rfl rfl (OpV.loadN Tryz.tOk rfl rfl rfl rfl (Blk.row Z14)) ?_ | refine RunE.seq ?_ | refine RunE.region ?_ | refine RunL.nil ?_)
 have l2 := Z2.lt
 refine RunL.ex rfl rfl rfl (OpE.buildN encG Tryz.tOk [y] rfl rfl rfl rfl rfl rfl) ?_
 rintro _ w10 ⟨⟨By, rfl, ly⟩, hy9, Xa_⟩
 have ny : By ≠ B2 := by omega
 replace Z2 := Z2.up Xa_
 replace hO := hO.up Xa_
 replace h97 := h97.up Xa_
 replace Z8 := Z8.up Xa_
 replace Z10 := Z10.up Xa_
 replace hg9 := hg9.up Xa_
 replace h98 := h98.up Xa_
 replace Z12 := Z12.up Xa_
 replace X := X.trans Xa_
 clear Xa_ ly l2 Z14
 skip
 have l2 := Z2.lt
 refine RunL.ex rfl rfl rfl (OpE.buildSl Tryz.tOk (bytesV [99]) rfl rfl rfl rfl rfl rfl (by simp [Value.cells, bytesV])) ?_
 rintro _ wa_ ⟨Bh99, rfl, aa_⟩
 have Zc_ : Blk wa_ Bh99 (bytesV [99]) 5 := aa_.at_
 have e_h99 := aa_.eq
 refine RunL.ex rfl rfl rfl (OpE.bytesC Tryz.tOk rfl rfl rfl Zc_) ?_
 rintro _ wb_ ⟨rfl, tb_⟩
 have Xa_ : Ext _ wb_ := aa_.ext.write tb_.ext (by intro i_ hi_ hlt_; subst hi_; omega)
 have h99 : IsSl wb_ 1 (.slice (some ⟨Bh99, 0, none⟩) 1 1) ([99] : List UInt8).length (bytesV [99]) := .row (row_cells tb_.at_) rfl (Nat.le_refl _)
 replace Z2 := Z2.up Xa_
 replace hO := hO.up Xa_
 replace h97 := h97.up Xa_
 replace Z8 := Z8.up Xa_
 replace Z10 := Z10.up Xa_
 replace hg9 := hg9.up Xa_
 replace h98 := h98.up Xa_
 replace Z12 := Z12.up Xa_
 replace hy9 := hy9.up Xa_
 replace X := X.trans Xa_
 clear Xa_ aa_ tb_ Zc_
 have n99 : Bh99 ≠ B2 := by omega
 clear e_h99 l2
 skip
 refine RunL.call rfl rfl rfl (dMake_as mc ec sc _ _ _ _ _ (by decide) hy9 h99 (by simp) (by simp) (hS.up X) (hkT.up X)) ?_
 rintro _ _ ⟨rfl, Xa_⟩
 replace Z2 := Z2.up Xa_
 replace hO := hO.up Xa_
 replace h97 := h97.up Xa_
 replace Z8 := Z8.up Xa_
 replace Z10 := Z10.up Xa_
 replace hg9 := hg9.up Xa_
 replace h98 := h98.up Xa_
 replace Z12 := Z12.up Xa_
 replace hy9 := hy9.up Xa_
 replace h99 := h99.up Xa_
 replace X := X.trans Xa_
 clear Xa_
 repeat' (first | (with_reducible refine RunLN.chk ?_; refine RunLN.int (by (rfl)) ?_) | refine RunLN.any ?_ | refine RunL.ev Tryz.tOk rfl rfl rfl ?_)
 refine RunL.alloc Tryz.tOk rfl rfl rfl fun B16 wa_ aa_ => ?_
 have gB16 := aa_.ge X
 refine RunL.storeW (vs := Dr.cells ⟨c, some ⟨By, 0, none⟩, 1, some ⟨Bh99, 0, none⟩, 1⟩) Tryz.tOk rfl rfl rfl rfl rfl aa_.at_ rfl rfl fun w16_ tb_ => ?_
 have Xa_ : Ext _ w16_ := aa_.ext.write tb_.ext (by intro i_ hi_ hlt_; have := aa_.eq; omega)
 have Z16 : Blk w16_ B16 (Dr.cells ⟨c, some ⟨By, 0, none⟩, 1, some ⟨Bh99, 0, none⟩, 1⟩) 38 := tb_.at_
 have n2_16 : B2 ≠ B16 := by have := Z2.lt; have := aa_.eq; omega
 have n16_2 : B16 ≠ B2 := Ne.symm n2_16
 have n8_16 : B8 ≠ B16 := by have := Z8.lt; have := aa_.eq; omega
 have n16_8 : B16 ≠ B8 := Ne.symm n8_16
 have n10_16 : B10 ≠ B16 := by have := Z10.lt; have := aa_.eq; omega
 have n16_10 : B16 ≠ B10 := Ne.symm n10_16
 have n12_16 : B12 ≠ B16 := by have := Z12.lt; have := aa_.eq; omega
 have n16_12 : B16 ≠ B12 := Ne.symm n12_16
 replace Z2 := Z2.up Xa_
 replace hO := hO.up Xa_
 replace h97 := h97.up Xa_
 replace Z8 := Z8.up Xa_
 replace Z10 := Z10.up Xa_
 replace hg9 := hg9.up Xa_
 replace h98 := h98.up Xa_
 replace Z12 := Z12.up Xa_
 replace hy9 := hy9.up Xa_
 replace h99 := h99.up Xa_
 replace X := X.trans Xa_
 clear Xa_ aa_ tb_
 repeat' (first | (with_reducible refine RunLN.chk ?_; refine RunLN.int (by (rfl)) ?_) | refine RunLN.any ?_ | refine RunL.ev Tryz.tOk rfl rfl rfl ?_ | refine RunL.evV rfl rfl rfl (OpV.loadN Tryz.tOk rfl rfl rfl rfl (Blk.row Z10)) ?_ | refine RunE.seq ?_ | refine RunE.region ?_ | refine RunL.nil ?_)
 have l2 := Z2.lt
 refine RunL.ex rfl rfl rfl (OpE.buildSl Tryz.tOk (bytesV [100]) rfl rfl rfl rfl rfl rfl (by simp [Value.cells, bytesV])) ?_
 rintro _ wa_ ⟨Bh100, rfl, aa_⟩
 have Zc_ : Blk wa_ Bh100 (bytesV [100]) 5 := aa_.at_
 have e_h100 := aa_.eq
 refine RunL.ex rfl rfl rfl (OpE.bytesC Tryz.tOk rfl rfl rfl Zc_) ?_
 rintro _ wb_ ⟨rfl, tb_⟩
 have Xa_ : Ext _ wb_ := aa_.ext.write tb_.ext (by intro i_ hi_ hlt_; subst hi_; omega)
 have h100 : IsSl wb_ 1 (.slice (some ⟨Bh100, 0, none⟩) 1 1) ([100] : List UInt8).length (bytesV [100]) := .row (row_cells tb_.at_) rfl (Nat.le_refl _)
 replace Z2 := Z2.up Xa_
 replace hO := hO.up Xa_
 replace h97 := h97.up Xa_
 replace Z8 := Z8.up Xa_
 replace hg9 := hg9.up Xa_
 replace h98 := h98.up Xa_
 replace Z12 := Z12.up Xa_
 replace hy9 := hy9.up Xa_
 replace h99 := h99.up Xa_
 replace Z16 := Z16.up Xa_
 replace X := X.trans Xa_
 clear Xa_ aa_ tb_ Zc_
 have n100 : Bh100 ≠ B2 := by omega
 clear e_h100 l2
 skip
 refine RunL.call rfl rfl rfl (dMake_as mo eo so none 0 _ _ _ (by decide) IsSl.nil h100 (by decide) (by decide) (hS.up X) (hkT.up X)) ?_
 rintro _ _ ⟨rfl, Xa_⟩
 replace Z2 := Z2.up Xa_
 replace hO := hO.up Xa_
 replace h97 := h97.up Xa_
 replace Z8 := Z8.up Xa_
 replace hg9 := hg9.up Xa_
 replace h98 := h98.up Xa_
 replace Z12 := Z12.up Xa_
 replace hy9 := hy9.up Xa_
 replace h99 := h99.up Xa_
 replace Z16 := Z16.up Xa_
 replace h100 := h100.up Xa_
 replace X := X.trans Xa_
 clear Xa_
 clear ma ea mb eb mc ec mo eo ida idb Z10
 repeat' (first | (with_reducible refine RunLN.chk ?_; refine RunLN.int (by (rfl)) ?_) | refine RunLN.any ?_ | refine RunL.ev Tryz.tOk rfl rfl rfl ?_)
 have gO : ∀ k, u.ownBlock = some k → k ≠ B2 := fun k hk e => by have := ownsRow_ge hO hk; omega
 refine RunL.storeW (vs := Dr.cells ⟨o, none, 0, some ⟨Bh100, 0, none⟩, 1⟩) Tryz.tOk rfl rfl rfl rfl rfl Z2 rfl rfl fun wf_ t_ => ?_
 replace X := X.own t_.ext gB2
 replace Z8 := Z8.other t_.ext n8_2
 replace Z12 := Z12.other t_.ext n12_2
 replace Z16 := Z16.other t_.ext n16_2
 have hk : LIn wf_ u [k5, k6] := isSl_own (ownsRow_ext hO t_.ext fun k hk e => gO k hk e)
 replace h97 := h97.ext t_.ext (fun k hk e => n97 ((Option.some.inj hk).trans e))
 replace h98 := h98.ext t_.ext (fun k hk e => n98 ((Option.some.inj hk).trans e))
 replace h99 := h99.ext t_.ext (fun k hk e => n99 ((Option.some.inj hk).trans e))
 replace h100 := h100.ext t_.ext (fun k hk e => n100 ((Option.some.inj hk).trans e))
 replace hg9 := hg9.ext t_.ext (fun k hk e => ng ((Option.some.inj hk).trans e))
 replace hy9 := hy9.ext t_.ext (fun k hk e => ny ((Option.some.inj hk).trans e))
 have Z2 : Blk wf_ B2 (Dr.cells ⟨o, none, 0, some ⟨Bh100, 0, none⟩, 1⟩) 38 := t_.at_
 have wA := wf_of wa sa (by decide) (by decide) (du := none) (cu := 0) IsSl.nil h97
 have wB := wf_of wb sb (by simp) (by simp) hg9 h98
 have wC := wf_of wc sc (by simp) (by simp) hy9 h99
 have wO := wf_of wo so (by decide) (by decide) (du := none) (cu := 0) IsSl.nil h100
 clear t_ hO gO h97 h98 h99 h100 hg9 hy9 n97 n98 n99 n100 ng ny sa sb sc so wa wb wc wo
 generalize hDA : (⟨a, none, 0, some ⟨Bh97, 0, none⟩, 1⟩ : Dr) = DA at Z8 wA
 generalize hDB : (⟨b, some ⟨Bg, 0, none⟩, 1, some ⟨Bh98, 0, none⟩, 1⟩ : Dr) = DB at Z12 wB
 generalize hDC : (⟨c, some ⟨By, 0, none⟩, 1, some ⟨Bh99, 0, none⟩, 1⟩ : Dr) = DC at Z16 wC
 generalize hDO : (⟨o, none, 0, some ⟨Bh100, 0, none⟩, 1⟩ : Dr) = DO at Z2 wO
 have eA : DA.d = a := by rw [← hDA]
 have eB : DB.d = b := by rw [← hDB]
 have eC : DC.d = c := by rw [← hDC]
 have eO : DO.d = o := by rw [← hDO]
 clear hDA hDB hDC hDO
 repeat' (first | (with_reducible refine RunLN.chk ?_; refine RunLN.int (by (rfl)) ?_) | refine RunL.ev Tryz.tOk rfl rfl rfl ?_ | refine RunE.seq ?_ | refine RunL.nil ?_)
 refine RunE.draw (fun _ => False) mix ?_
 intro wd_ Xd_
 repeat' (first | refine AsyN.any ?_ | refine Asy.ev Tryz.tOk rfl rfl rfl ?_ | refine Asy.evV rfl rfl rfl rfl (fun _ X_ => OpV.loadN Tryz.tOk rfl rfl rfl rfl (Blk.row (Z8.up (Xd_.trans X_)))) ?_ | refine Asy.evV rfl rfl rfl rfl (fun _ X_ => OpV.loadN Tryz.tOk rfl rfl rfl rfl (Blk.row (Z12.up (Xd_.trans X_)))) ?_ | refine Asy.evV rfl rfl rfl rfl (fun _ X_ => OpV.loadN Tryz.tOk rfl rfl rfl rfl (Blk.row (Z16.up (Xd_.trans X_)))) ?_)
 refine Asy.sat0 (fun q w' => LDr w' q [DA, DB, DC]) rfl rfl rfl rfl (fun q w' w'' _ e h => h.up e) (fun w' e => ?_) ?_
 ·refine OpE.mono (OpE.buildL encR Tryz.tOk [DA, DB, DC] rfl rfl rfl rfl rfl rfl) ?_ fun _ _ h => h
  rintro _ w'' ⟨-, h1, h2⟩
  exact ⟨h2, h1⟩
 repeat' (first | with_reducible refine AsyN.boolT rfl ?_ | (with_reducible refine AsyN.chk ?_; refine AsyN.int (by (rfl)) ?_) | refine AsyN.any ?_ | refine Asy.ev Tryz.tOk rfl rfl rfl ?_ | refine Asy.evV rfl rfl rfl rfl (fun _ X_ => OpV.loadN Tryz.tOk rfl rfl rfl rfl (Blk.row (Z2.up (Xd_.trans X_)))) ?_)
 refine Asy.sat1P Tryz.tOk 0 (fun q w' => LDr w' q [DA, DB, DC]) rfl rfl rfl rfl rfl rfl (fun q w' w'' _ e h => h.up e) (fun w' q e hx => ⟨q, rfl, hx⟩) ?_
 refine Asy.keepN rfl rfl rfl (fun _ X_ => OpE.storeSame Tryz.tOk rfl rfl rfl rfl (Z2.up (Xd_.trans X_)) rfl rfl (setAt_whole rfl)) ?_
 refine Asy.tail (by kernel_rfl) ?_
 intro we_ Xe_
 simp only [satsAll]
 rintro q hq q2 -
 replace Xe_ := Xd_.trans Xe_
 replace Z2 := Z2.up Xe_
 repeat' (first | with_reducible refine RunLN.boolT rfl ?_ | refine RunL.ev Tryz.tOk rfl rfl rfl ?_ | refine RunL.nil ?_)
 exact RunE.retFn Tryz.func27 (.tmp rfl (.tmp rfl (.cell rfl (.agg Tryz.tOk rfl rfl rfl Z2.row) (.tmp rfl .nil)))) ⟨⟨_, _, DA, DB, DC, DO, rfl, hk.up Xe_, hq, ⟨eA, eB, eC, eO⟩, wA.up Xe_, wB.up Xe_, wC.up Xe_, wO.up Xe_⟩, X.trans Xe_⟩
theorem small_ok (w : World) (hS : Row w 0 0 (vals init8.l)) (hkT : Row w 1 0 (vals kTab)) : ∃ (ks : List Int) (a b c o : Deed) (g y : Dg), ExM ks a b c o g y ∧
  Rets Tryz.prog 27 [] w fun r w' => (∃ (kv lv : Value) (A B C O : Dr), r = .tuple #[kv, lv, .agg O.cells.toArray, .bool true] ∧ LIn w' kv ks ∧ LDr w' lv [A, B, C] ∧ (A.d = a ∧ B.d = b ∧ C.d = c ∧ O.d = o) ∧ WfX w' A ∧ WfX w' B ∧ WfX w' C ∧ WfX w' O) ∧ Ext w w' :=
 ⟨_, _, _, _, _, _, _, exM_ok, small_gen _ _ _ _ _ _ _ (powC 4 5) (powC 4 6) rfl exM_ok rfl rfl rfl (makeE_ok (by decide) aM_f) rfl (makeE_ok (by decide) (bM_f _)) rfl (makeE_ok (by decide) (cM_f _ _)) rfl (makeE_ok (by decide) (oM_f _)) w hS hkT⟩
end Go.Sg
end
section
/- Merge: for the laws: calls, by the parts' deeds. -/
set_option maxRecDepth 4000
namespace Go.Mer
open Go.Rn Go.Rec Go.Dee Go.RowKit Go.Sg Go.NT
/-- Parts, by their deeds. -/
def InP (w : World) (v : Value) (L : List (List Dr)) : Prop := ∃ ls : List Ll, LLl w v ls ∧ ls.map Ll.l = L ∧ ∀ x ∈ ls, LDr w x.v x.l
theorem InP.up {w w' : World} {v : Value} {L : List (List Dr)} (h : InP w v L) (e : Ext w w') : InP w' v L := by
 obtain ⟨ls, h1, h2, h3⟩ := h
 exact ⟨ls, h1.up e, h2, fun x hx => (h3 x hx).up e⟩
theorem InP.nil (w : World) : InP w nilV [] := ⟨[], IsSl.nil, rfl, fun x hx => by cases hx⟩
def chkP (ks : List Int) (L : List (List Dr)) : Int := if keysD ks then (if 64 < L.length ∨ 4096 < L.flatten.length then 2 else 0) else 1
theorem allD_flat (ls : List Ll) : allD ls = (ls.map Ll.l).flatten := by unfold allD; rw [List.flatMap_def]
theorem chkP_map (ks : List Int) (ls : List Ll) : chkM ks ls = chkP ks (ls.map Ll.l) := by
 unfold chkM chkP
 rw [List.length_map, ← allD_flat, allD_len]
theorem chkP_of {ks : List Int} {L : List (List Dr)} (hk : keysD ks = true) (h1 : L.length ≤ 64) (h2 : L.flatten.length ≤ 4096) : chkP ks L = 0 := by
 unfold chkP
 rw [hk, if_pos rfl, if_neg (by omega)]
theorem chkP_inv {ks : List Int} {L : List (List Dr)} (h : chkP ks L = 0) : keysD ks = true ∧ L.length ≤ 64 ∧ L.flatten.length ≤ 4096 := by
 unfold chkP at h
 split at h
 ·rename_i hk
  split at h
  ·cases h
  ·exact ⟨hk, by omega, by omega⟩
 ·cases h
theorem liars_len (l : List Deed) : (liarsL id l).length ≤ 64 := by
 unfold liarsL
 refine Nat.le_trans (List.length_filterMap_le _ _) ?_
 simp
end Go.Mer
namespace Go.Sg
open Go.Rn Go.Proofs Go.Dee Go.Mer Go.Rec Go.RowKit Go.Sha Go.Cod Go.NT
theorem pMerge_ok {ks : List Int} {kv : Value} {L : List (List Dr)} {v : Value} {w : World} (h0 : chkP ks L = 0) (hki : KsI ks) (hkl : ks.length < 9223372036854775808) (hk : LIn w kv ks) (hv : InP w v L) (hd : ∀ x ∈ L.flatten, WfX w x) (hS : Row w 0 0 (vals init8.l)) (hkT : Row w 1 0 (vals kTab)) :
  Rets Tryz.prog 12 [kv, v] w fun r w' => (∃ u out, r = .tuple #[u, .int .i64 0] ∧ LDr w' u out ∧ out.map Dr.d = mergeD ks (L.flatten.map Dr.d) ∧ ∀ x ∈ out, x ∈ L.flatten) ∧ Ext w w' := by
 obtain ⟨ls, h1, rfl, h3⟩ := hv
 obtain ⟨-, hl, hn⟩ := chkP_inv h0
 rw [← chkP_map] at h0
 rw [List.length_map] at hl
 rw [← allD_flat] at hd hn ⊢
 rw [allD_len] at hn
 have h := mMerge_ok ks kv ls v w hk hkl hki h1 (by omega) h3 hd (by omega) hS hkT
 rw [h0] at h
 exact h.mono fun _ _ ⟨⟨u, out, a, b, c, d⟩, e⟩ => ⟨⟨u, out, a, b, by rw [c, if_pos rfl], d⟩, e⟩
theorem pLiars_ok {ks : List Int} {kv : Value} {L : List (List Dr)} {v : Value} {w : World} (h0 : chkP ks L = 0) (hki : KsI ks) (hkl : ks.length < 9223372036854775808) (hk : LIn w kv ks) (hv : InP w v L) (hd : ∀ x ∈ L.flatten, WfX w x) (hS : Row w 0 0 (vals init8.l)) (hkT : Row w 1 0 (vals kTab)) :
  Rets Tryz.prog 16 [kv, v] w fun r w' => (∃ u fs, r = .tuple #[u, .int .i64 0] ∧ LFr w' u fs ∧ fs.map pairD = liarsL id (leftD ks (L.flatten.map Dr.d)) ∧ ∀ x ∈ fs, x.a ∈ L.flatten ∧ x.b ∈ L.flatten) ∧ Ext w w' := by
 obtain ⟨ls, h1, rfl, h3⟩ := hv
 obtain ⟨-, hl, hn⟩ := chkP_inv h0
 rw [← chkP_map] at h0
 rw [List.length_map] at hl
 rw [← allD_flat] at hd hn ⊢
 rw [allD_len] at hn
 have h := mLiars_ok ks kv ls v w hk hkl hki h1 (by omega) h3 hd (by omega) hS hkT
 rw [h0] at h
 exact h.mono fun _ _ ⟨⟨u, fs, a, b, c, d⟩, e⟩ => ⟨⟨u, fs, a, b, by rw [c, if_pos rfl], d⟩, e⟩
theorem rSame_true (a b : List Dr) (u v : Value) (w : World) (ha : LDr w u a) (hb : LDr w v b) (he : a.map Dr.d = b.map Dr.d) (hl : a.length < 9223372036854775808) (hda : ∀ x ∈ a, WfX w x) (hdb : ∀ x ∈ b, WfX w x) :
  Rets Tryz.prog 14 [u, v] w fun r w' => r = .bool true ∧ Ext w w' := by
 have hlen : a.length = b.length := by have := congrArg List.length he; simpa using this
 have h := rSame_ok a b u v w ha hb hl (by omega) hda hdb
 rwa [sameL_iff.2 he] at h
theorem lenM {out : List Dr} {l : List Deed} (h : out.map Dr.d = l) : out.length = l.length := by have := congrArg List.length h; simpa using this
theorem lenF {out : List Fr} {l : List (Deed × Deed)} (h : out.map pairD = l) : out.length = l.length := by have := congrArg List.length h; simpa using this
theorem zeroR_wf (w : World) : WfX w zeroR := ⟨⟨⟨by decide, by decide⟩, ⟨by decide, by decide⟩, ⟨by decide, by decide⟩, ⟨by decide, by decide⟩, ⟨by decide, by decide⟩⟩, by decide, by decide, zeroR_held w⟩
theorem chkM_nil : chkP [] [] = 0 := rfl
theorem merge_nil : mergeD [] (([] : List (List Dr)).flatten.map Dr.d) = [] := rfl
theorem liars_nil : liarsL id (leftD [] (([] : List (List Dr)).flatten.map Dr.d)) = [] := by
 unfold liarsL
 exact liars_none (fun p => apart_fork (l := leftD [] []) List.Pairwise.nil _) _
end Go.Sg
end
