/- Devices: what the laws need, plain. -/
import Derived.Test.YtamcgoplhnbmcaaDoorDevQ
import Derived.Test.YtamcgoplhnbmcaaDoorY05
import Derived.Test.YtamcgoplhnbmcaaDoorY09
set_option linter.unusedSimpArgs false
set_option linter.unusedVariables false
set_option linter.unusedSectionVars false
namespace Go.Dev
open Go.Best
theorem rightQ_inv {l : List Dev} {p : Int} {ts : List Int} (h : rightQ l p ts = true) : (∀ t ∈ ts, 0 ≤ t ∧ t < 1099511627776) ∧ l.length ≤ 20 ∧ chkD l = 0 ∧ 0 ≤ p ∧ p < 64 := by
  unfold rightQ at h
  rw [Bool.and_eq_true, List.all_eq_true] at h
  exact ⟨fun t ht => of_decide_eq_true (h.1 t ht), of_decide_eq_true h.2⟩
theorem curE_zero {l : List Dev} {p t time : Int} (hc : chkD l = 0) (hp : 0 ≤ p ∧ p < 64) (ht : 0 ≤ t ∧ t < 1099511627776) (hk : 0 ≤ time ∧ time < 1099511627776) : curE l p t time = 0 := by
  unfold curE argD
  rw [if_pos hc, if_pos (decide_eq_true ⟨hp.1, hp.2, ht.1, ht.2, hk.1, hk.2⟩)]
theorem curD_eq {l : List Dev} {p t time : Int} (h : curE l p t time = 0) : curD l p t time = heldD (bestD l p t time) := if_pos h
theorem curD_mem {l : List Dev} {p t time : Int} (hc : chkD l = 0) (h : curE l p t time = 0) {x : Dev} (hx : curD l p t time = some x) : x ∈ l ∧ x.person = p ∧ bestD l p t time = some x ∧ x.gone = false := by
  rw [curD_eq h] at hx
  obtain ⟨h1, h2⟩ := heldD_some.1 hx
  have := bestD_mem (chkD_srt hc).1 h1
  exact ⟨this.1, this.2.1, h1, h2⟩
/-- One device, one person. -/
theorem one_person {l : List Dev} {p q t time no key n k : Int} {ok is_ : Bool} (hc : chkD l = 0) (h : curE l p t time = 0) (h' : curE l q t time = 0) (hA : ansD (curD l p t time) = (no, key, ok)) (hB : ansD (curD l q t time) = (n, k, is_)) : ¬ (p ≠ q ∧ ok = true ∧ is_ = true ∧ no = n) := by
  rintro ⟨hpq, rfl, rfl, e⟩
  cases hx : curD l p t time with
  | none => rw [hx] at hA; simp [ansD] at hA
  | some x =>
    cases hy : curD l q t time with
    | none => rw [hy] at hB; simp [ansD] at hB
    | some y =>
      rw [hx] at hA; rw [hy] at hB
      simp only [ansD, Prod.mk.injEq] at hA hB
      have m1 := curD_mem hc h hx
      have m2 := curD_mem hc h' hy
      have := (chkD_srt hc).1.inj x m1.1 y m2.1 (by rw [hA.1, hB.1, e])
      exact hpq (by rw [← m1.2.1, ← m2.2.1, this])
theorem acc_facts {l : List Dev} {p t time no key m E S : Int} {ok a : Bool} {b : List UInt8} (hA : ansD (curD l p t time) = (no, key, ok)) (hC : accD (curD l p t time) b E S = (m, a)) :
    (ok = false → a = false) ∧ (ok = true → a = Go.Sg.verS key b E S) ∧ (a = true → m = no) := by
  cases hx : curD l p t time with
  | none =>
    rw [hx] at hA hC
    simp only [ansD, accD, Prod.mk.injEq] at hA hC
    obtain ⟨-, -, rfl⟩ := hA
    obtain ⟨-, rfl⟩ := hC
    exact ⟨fun _ => rfl, by simp, by simp⟩
  | some x =>
    rw [hx] at hA hC
    simp only [ansD, accD, Prod.mk.injEq] at hA hC
    obtain ⟨rfl, rfl, rfl⟩ := hA
    split at hC
    · rename_i hv
      simp only [Prod.mk.injEq] at hC
      obtain ⟨rfl, rfl⟩ := hC
      exact ⟨by simp, fun _ => hv.symm, fun _ => rfl⟩
    · rename_i hv
      simp only [Prod.mk.injEq] at hC
      obtain ⟨rfl, rfl⟩ := hC
      exact ⟨by simp, fun _ => by simpa using (Bool.not_eq_true _ ▸ hv : Go.Sg.verS x.key b E S = false).symm, by simp⟩
theorem cur_key {l : List Dev} {p t time no key : Int} {ok : Bool} (hc : chkD l = 0) (h : curE l p t time = 0) (hk : ∀ x ∈ l, okD x) (hA : ansD (curD l p t time) = (no, key, ok)) : -9223372036854775808 ≤ key ∧ key < 9223372036854775808 := by
  cases hx : curD l p t time with
  | none => rw [hx] at hA; simp [ansD] at hA; omega
  | some x =>
    rw [hx] at hA
    simp only [ansD, Prod.mk.injEq] at hA
    have := hk x (curD_mem hc h hx).1
    unfold okD at this
    omega
theorem cur_ok {l : List Dev} {p t time no key : Int} {ok : Bool} (h : curE l p t time = 0) (hA : ansD (curD l p t time) = (no, key, ok)) : ok = (heldD (bestD l p t time)).isSome := by
  rw [curD_eq h] at hA
  cases hx : heldD (bestD l p t time) with
  | none => rw [hx] at hA; simp [ansD] at hA; simp [hA]
  | some x => rw [hx] at hA; simp [ansD] at hA; simp [hA]
theorem cur_is {l : List Dev} {p t time no key : Int} {ok : Bool} {x : Dev} (h : curE l p t time = 0) (hA : ansD (curD l p t time) = (no, key, ok)) (hx : bestD l p t time = some x) (hg : x.gone = false) : no = x.no ∧ key = x.key ∧ ok = true := by
  rw [curD_eq h, hx, heldD_some.2 ⟨rfl, hg⟩] at hA
  simp only [ansD, Prod.mk.injEq] at hA
  exact ⟨hA.1.symm, hA.2.1.symm, hA.2.2.symm⟩
/-- Who was replaced. -/
theorem old_facts {l : List Dev} {p first then_ later time n key m k2 o last : Int} {one two three : Bool} (hc : chkD l = 0) (h1 : first ≤ then_) (h2 : then_ ≤ later) (e1 : curE l p first time = 0) (e2 : curE l p then_ time = 0) (e3 : curE l p later time = 0)
    (hA : ansD (curD l p first time) = (n, key, one)) (hB : ansD (curD l p then_ time) = (m, k2, two)) (hC : ansD (curD l p later time) = (o, last, three)) (hone : one = true) (htwo : ¬ (two = true ∧ m = n)) (hth : three = true) : o ≠ n ∧ last ≠ key := by
  subst hone; subst hth
  rw [curD_eq e1] at hA
  rw [curD_eq e2] at hB
  rw [curD_eq e3] at hC
  cases ha : heldD (bestD l p first time) with
  | none => rw [ha] at hA; simp [ansD] at hA
  | some a =>
    cases hcc : heldD (bestD l p later time) with
    | none => rw [hcc] at hC; simp [ansD] at hC
    | some c =>
      rw [ha] at hA; rw [hcc] at hC
      simp only [ansD, Prod.mk.injEq] at hA hC
      have := old_gone hc h1 h2 ha (fun b hb e => htwo (by
        rw [hb] at hB
        simp only [ansD, Prod.mk.injEq] at hB
        exact ⟨hB.2.2.symm, by rw [← hB.1, ← hA.1]; exact e⟩)) hcc
      rw [hA.1, hC.1, hA.2.1, hC.2.1] at this
      exact this
end Go.Dev
